/- Lemmas for the law of this claim. -/
import Derived.Test.YtcphhjkcgikdgaaGreatDoorP38
import Derived.Test.YtcphhjkcgikdgaaGreatDoorP26
import Derived.Test.YtcphhjkcgikdgaaGreatDoorP24
import Derived.Test.YtcphhjkcgikdgaaGreatDoorP31
set_option linter.all false
set_option maxRecDepth 100000
set_option maxHeartbeats 8000000
namespace Go.Dv.Tryz
section
open Go Go.Dv
def tz(a:AV):MV:=.agg [.bool a.isSome,.int .i64 (a.getD V0).k,.int .i64 (a.getD V0).n,.str (a.getD V0).s]
def dJ(f:ByteArray->Option AV):SM:=λk=>(f k).map tz
def xZ(f:SM):List (ByteArray×MV)->SM
 |[]=>f
 |e::r=>xZ (fF f e.1 (some e.2)) r
def CN:∀(l:List (ByteArray×MV)) (f:SM) (k:ByteArray),k∉l.map (·.1)->xZ f l k=f k
 |[],_,_,_=>rfl
 |e::r,f,k,h=>by
  simp only[List.map_cons,List.mem_cons,not_or]at h;rw[xZ,CN r _ k h.2];simp[fF,h.1]
def KM:∀(l:List (ByteArray×MV)) (f:SM),(l.map (·.1)).Nodup->∀e∈l,xZ f l e.1=some e.2
 |e::r,f,a,x,b=>by
  simp only[List.map_cons,List.nodup_cons]at a;rw[xZ];rcases List.mem_cons.1 b with rfl|b
  .rw[CN r _ _ a.1];simp[fF]
  .exact KM r _ a.2 x b
def wC{c:SM}{l:List (ByteArray×MV)}(h:eX c l):xZ (λ_=>none) l=c:=by
 funext k;cases e:c k with
 |some y=>exact KM l _ h.1 (k,y) ((h.2 k y).2 e)
 |none=>
  refine CN l _ k λa=>?_
  obtain⟨x,b,rfl⟩:=List.mem_map.1 a;rw[(h.2 x.1 x.2).1 b]at e;cases e
def Uc{i:Nat}:∀{H:Heap},ah H i=none->oe H i=H
 |[],_=>rfl
 |(k,b)::r,h=>by
   rw[aP]at h;by_cases e:k=i
   .rw[aq e]at h;cases h
   .rw[an e]at h;have a:=Uc h;simp only[oe,List.filter_cons]at a⊢;simp[e,a]
def WR(y:MV):Prop:=∃b k n s,y=.agg [.bool b,.int .i64 k,.int .i64 n,.str s]
def DM{H:Heap}{nx:Nat}{x:DV}(m:∀k,nx<=k->ah H k=none)(K:Ex->St->Prop):∀(l:List (ByteArray×MV)) (f:SM) (i j:Nat),(l.map (·.1)).Nodup->(∀e∈l,f e.1=none)->(∀e∈l,WR e.2)->
   K .normal ⟨[(0,x),(3,.ptr nx 0)],(nx,.map false (.strs (i+l.length) (xZ f l)))::H,nx+(1+(j+l.length)),[nx]⟩->
   nb tb (W tb yI) [.o 12 (.extract (.t 11) 0),.o 13 (.extract (.t 11) 1),.o 5 (.alloc nu),.o 4 (.move (.t 12)),.u (.store 4 (.t 5) (.t 13))] 11 [8,11,7,9,10] (l.map λe=>jR e.1 e.2) ⟨[(0,x),(3,.ptr nx 0)],(nx,.map false (.strs i f))::H,nx+(1+j),[nx]⟩ K
 |[],f,i,j,_,_,_,h=>by rw[List.map_nil,qX];exact h
 |(k,y)::r,f,i,j,d,n,o,h=>by
   obtain⟨p,q,s,a,t⟩:=o (k,y) aB;simp only at t;subst t;simp only[List.map_cons,List.nodup_cons,List.length_cons,List.mem_map,not_exists,not_and]at d h;have u:f k=none:=n _ (List.mem_cons_self ..);have v:=DM m K r (fF f k (some (.agg [.bool p,.int .i64 q,.int .i64 s,.str a]))) (i+1) (j+1) d.2 (λe c=>by
    simp only[fF];rw[an λh=>d.1 e c h];exact n e (by simp[c])) (λe c=>o e (by simp[c])) (by
     have C:i+1+r.length=i+(r.length+1):=ae;have D:j+1+r.length=j+(r.length+1):=ae;rw[C,D];exact h)
   rw[List.map_cons,jR,BM];generalize w:FK tb (W tb yI) [.o 12 (.extract (.t 11) 0),.o 13 (.extract (.t 11) 1),.o 5 (.alloc nu),.o 4 (.move (.t 12)),.u (.store 4 (.t 5) (.t 13))] 11 [8,11,7,9,10] (r.map λe=>jR e.1 e.2) _ K=E;have F:E .normal ⟨[(0,x),(3,.ptr nx 0)],(nx,.map false (.strs (i+1) (fF f k (some (.agg [.bool p,.int .i64 q,.int .i64 s,.str a])))))::H,nx+(1+(j+1)),[]⟩:=by
    rw[<-w,H7];exact v
   clear w v;have g:=m (nx+(1+j)) ae;have z:(1+j==0)=false:=er.2 ae;have A:(0==1+j)=false:=er.2 ae;dsimp only[MV.pv,SC.pv,rR,aQ,List.map];unfold yI;have B:=Uc g;repeat'(first|(simp(disch:=omega) only[go_sem,seval,reduceCtorEq,g,z,A,B,u,Option.isSome,Bool.false_eq_true])|with_reducible exact Ev.mk|((first|apply b5|apply bO)<;>intro b G<;>(simp(disch:=omega) only[go_sem,seval,reduceCtorEq,g,z,A,B,u,Option.isSome,Bool.false_eq_true,b])<;>clear b))
   exact F
def C8{f:ByteArray->Option AV}{l:List (ByteArray×MV)}(h:eX (dJ f) l):∀e∈l,WR e.2:=λe b=>by
 have:=(h.2 e.1 e.2).1 b;simp only[dJ,vF]at this;obtain⟨a,_,c⟩:=this;exact⟨_,_,_,_,c.symm⟩
def pQ(x:VX):Prop:=∃l:List (ByteArray×MV),eX (dJ x.f) l/\l.length=x.n
def vJ(x:VX)(f:pQ x){H:Heap}{nx:Nat}(d:∀k,nx<=k->ah H k=none)(i:az nx H=H)(j:cL nx H=true):BS tb 156 [.p (.map x.n (dJ x.f))] H nx (.ptr nx 0) ((nx,.map false (.strs x.n (dJ x.f)))::H) (nx+(1+x.n)):=by
 obtain⟨g,e,b⟩:=f;have h:=d nx (Nat.le_refl _);refine zD (af:=a156) rfl rfl ?_;unfold a156;dsimp only[aj]
 (try simp(disch:=omega) only[go_sem,seval,reduceCtorEq,h])
 refine uz (c:=dJ x.f) (l0:=g) rfl e (e1:=.normal) (s1:=⟨[(2,.ptr nx 0)],(nx,.map false (.strs x.n (dJ x.f)))::H,nx+(1+x.n),[nx]⟩) (λl a=>?_) ?_
 .refine DM d _ l (λ_=>none) 0 0 a.1 (λ_ _=>rfl) (C8 a) ?_;rw[wC a,a.length e,b,Nat.zero_add]
  (try simp(disch:=omega) only[go_sem,seval,reduceCtorEq,true_and])
 ·(try simp(disch:=omega) only[go_sem,seval,reduceCtorEq,true_and])
def LO(x:VX)(e:pQ x):PS tb 156 [.map x.n (dJ x.f)] (.map x.n (dJ x.f)):=by
 obtain⟨f,d,b⟩:=e;refine bM (af:=a156) rfl rfl ?_;unfold a156;dsimp only[List.map,aQ,aj];refine nJ ?_;refine uz (c:=dJ x.f) (l0:=f) rfl d (e1:=.normal) (s1:=⟨[(2,.ptr 0 0)],[(0,.map false (.strs x.n (dJ x.f)))],0+(1+x.n),[0]⟩) (λl a=>?_) ?_
 .refine DM (H:=[]) (nx:=0) (λ_ _=>rfl) _ l (λ_=>none) 0 0 a.1 (λ_ _=>rfl) (C8 a) ?_;rw[wC a,a.length d,b,Nat.zero_add]
  (try simp(disch:=omega) only[go_sem,seval,reduceCtorEq,true_and])
 ·(try simp(disch:=omega) only[go_sem,seval,reduceCtorEq,true_and])
open Classical in
noncomputable def jv (b:VX) (k:ByteArray) (y:MV):MV:=if dJ b.f k=some y then y else tz none
def TD{a b:AV}(h:tz a=tz b):a=b:=by
 cases a with
 |none=>cases b with
  |none=>rfl
  |some w=>simp[tz]at h
 |some v=>cases b with
  |none=>simp[tz]at h
  |some w=>cases v;cases w;simp[tz]at h;simp[h]
def RZ(b:VX)(k:ByteArray)(z:AV):jv b k (tz z)=tz (if b.f k=some z then z else none):=by
 unfold jv;by_cases h:b.f k=some z
 .rw[aq h,aq (by simp[dJ,h])]
 .rw[an h,an λe=>h ?_];simp only[dJ,vF]at e;obtain⟨w,a,c⟩:=e;rw[a,TD c]
def Ma{a b:ByteArray}(h:a≠b):(a.toList==b.toList)=false:=er.2 λe=>h (by rw[Lib.toList_data,Lib.toList_data]at e;cases a;cases b;simp only[ByteArray.mk.injEq];exact Array.ext' e)
def NS(b:VX)(K:Ex->St->Prop):∀(l:List (ByteArray×MV)) (f:SM) (i j:Nat),(l.map (·.1)).Nodup->(∀e∈l,f e.1=none)->(∀e∈l,WR e.2)->∀{x:DV},
   K .normal ⟨[(0,x),(1,.p (.map b.n (dJ b.f))),(5,.ptr 0 0)],[(0,.map false (.strs (i+l.length) (xZ f (l.map λe=>(e.1,jv b e.1 e.2)))))],1+(j+2*l.length),[0]⟩->
   nb tb (W tb xW) [.o 16 (.extract (.t 15) 0),.o 17 (.extract (.t 15) 1),.o 7 (.alloc nu),.o 6 (.move (.t 16)),.u (.store 4 (.t 7) (.t 17))] 15 [12,15,11,13,14] (l.map λe=>jR e.1 e.2) ⟨[(0,x),(1,.p (.map b.n (dJ b.f))),(5,.ptr 0 0)],[(0,.map false (.strs i f))],1+j,[0]⟩ K
 |[],f,i,j,_,_,_,x,h=>by rw[List.map_nil,qX];exact h
 |(k,y)::r,f,i,j,L,P,Q,x,h=>by
   obtain⟨m,D,F,g,R⟩:=Q (k,y) aB;simp only at R;simp only[List.map_cons,List.nodup_cons,List.length_cons,List.mem_map,not_exists,not_and]at L h;have o:f k=none:=P (k,y) aB;have S:=λz=>NS b K r (fF f k (some z)) (i+1) (j+2) L.2 (λe I=>by
    simp only[fF];rw[an λh=>L.1 e I h];exact P e (by simp[I])) (λe I=>Q e (by simp[I])) (x:=x)
   rw[List.map_cons,jR,BM];generalize T:FK tb (W tb xW) [.o 16 (.extract (.t 15) 0),.o 17 (.extract (.t 15) 1),.o 7 (.alloc nu),.o 6 (.move (.t 16)),.u (.store 4 (.t 7) (.t 17))] 15 [12,15,11,13,14] (r.map λe=>jR e.1 e.2) _ K=X;have p:X .normal ⟨[(0,x),(1,.p (.map b.n (dJ b.f))),(5,.ptr 0 0)],[(0,.map false (.strs (i+1) (fF f k (some (jv b k y)))))],1+(j+2),[]⟩:=by
    rw[<-T,H7];refine S (jv b k y) ?_;have Y:i+1+r.length=i+(r.length+1):=ae;have Z:j+2+2*r.length=j+2*(r.length+1):=ae;rw[Y,Z];exact h
   clear T S;subst R;have q:(1+j==0)=false:=er.2 ae;have s:(0==1+j)=false:=er.2 ae;have t:(1+(j+1)==0)=false:=er.2 ae;have u:(0==1+(j+1))=false:=er.2 ae;have v:(1+(j+1)==1+j)=false:=er.2 ae;have w:(1+j==1+(j+1))=false:=er.2 ae;dsimp only[MV.pv,SC.pv,rR,aQ,List.map];unfold xW;cases d:dJ b.f k with
   |none=>
    have A:jv b k (.agg [.bool m,.int .i64 D,.int .i64 F,.str g])=.agg [.bool false,.int .i64 0,.int .i64 0,.str E]:=by unfold jv;rw[d,an aB];rfl
    rw[A]at p;repeat'(first|(simp(disch:=omega) only[go_sem,seval,reduceCtorEq,q,s,t,u,v,w,o,d,Option.isSome,Bool.false_eq_true])|with_reducible exact Ev.mk|((first|apply b5|apply bO)<;>intro c d<;>(simp(disch:=omega) only[go_sem,seval,reduceCtorEq,q,s,t,u,v,w,o,d,Option.isSome,Bool.false_eq_true,c])<;>clear c))
    exact p
   |some z=>
    have hz:WR z:=by
     simp only[dJ,vF]at d;obtain⟨a,_,h2⟩:=d;exact⟨_,_,_,_,h2.symm⟩
    obtain⟨M,U,V,N,rfl⟩:=hz;have A:¬(m=M/\D=U/\F=V/\g=N)->jv b k (.agg [.bool m,.int .i64 D,.int .i64 F,.str g])=.agg [.bool false,.int .i64 0,.int .i64 0,.str E]:=λO=>by
     unfold jv;rw[d,an λe=>O (by simp only[aw,MV.agg.injEq,List.cons.injEq,SC.bool.injEq,SC.int.injEq,SC.str.injEq,true_and,and_true]at e;exact⟨e.1.symm,e.2.1.symm,e.2.2.1.symm,e.2.2.2.symm⟩)];rfl
    by_cases B:m=M
    .by_cases C:D=U
     .by_cases G:F=V
      .by_cases J:g=N
       .clear A;have A:jv b k (.agg [.bool m,.int .i64 D,.int .i64 F,.str g])=.agg [.bool m,.int .i64 D,.int .i64 F,.str g]:=by subst B C G J;unfold jv;rw[d,aq rfl]
        subst B C G J;rw[A]at p;have n:(m==m)=true:=aB;have H:(g.toList==g.toList)=true:=aB;repeat'(first|(simp(disch:=omega) only[go_sem,seval,reduceCtorEq,q,s,t,u,v,w,o,d,Option.isSome,Bool.false_eq_true,n,H,decide_true])|with_reducible exact Ev.mk|((first|apply b5|apply bO)<;>intro c d<;>(simp(disch:=omega) only[go_sem,seval,reduceCtorEq,q,s,t,u,v,w,o,d,Option.isSome,Bool.false_eq_true,n,H,decide_true,c])<;>clear c))
        exact p
       .rw[A λh=>J h.2.2.2]at p;subst B C G;have n:(m==m)=true:=aB;have H:(g.toList==N.toList)=false:=Ma J;repeat'(first|(simp(disch:=omega) only[go_sem,seval,reduceCtorEq,q,s,t,u,v,w,o,d,Option.isSome,Bool.false_eq_true,n,H,decide_true])|with_reducible exact Ev.mk|((first|apply b5|apply bO)<;>intro c d<;>(simp(disch:=omega) only[go_sem,seval,reduceCtorEq,q,s,t,u,v,w,o,d,Option.isSome,Bool.false_eq_true,n,H,decide_true,c])<;>clear c))
        exact p
      .rw[A λh=>G h.2.2.1]at p;subst B C;have n:(m==m)=true:=aB;repeat'(first|(simp(disch:=omega) only[go_sem,seval,reduceCtorEq,q,s,t,u,v,w,o,d,Option.isSome,Bool.false_eq_true,n,decide_true,G])|with_reducible exact Ev.mk|((first|apply b5|apply bO)<;>intro c d<;>(simp(disch:=omega) only[go_sem,seval,reduceCtorEq,q,s,t,u,v,w,o,d,Option.isSome,Bool.false_eq_true,n,decide_true,G,c])<;>clear c))
       exact p
     .rw[A λh=>C h.2.1]at p;subst B;have n:(m==m)=true:=aB;repeat'(first|(simp(disch:=omega) only[go_sem,seval,reduceCtorEq,q,s,t,u,v,w,o,d,Option.isSome,Bool.false_eq_true,n,C])|with_reducible exact Ev.mk|((first|apply b5|apply bO)<;>intro c d<;>(simp(disch:=omega) only[go_sem,seval,reduceCtorEq,q,s,t,u,v,w,o,d,Option.isSome,Bool.false_eq_true,n,C,c])<;>clear c))
      exact p
    .rw[A λh=>B h.1]at p;have n:(m==M)=false:=by simp[B]
     repeat'(first|(simp(disch:=omega) only[go_sem,seval,reduceCtorEq,q,s,t,u,v,w,o,d,Option.isSome,Bool.false_eq_true,n])|with_reducible exact Ev.mk|((first|apply b5|apply bO)<;>intro c d<;>(simp(disch:=omega) only[go_sem,seval,reduceCtorEq,q,s,t,u,v,w,o,d,Option.isSome,Bool.false_eq_true,n,c])<;>clear c))
     exact p
def CO(a b:VX)(m:pQ a):PS tb 185 [.map a.n (dJ a.f),.map b.n (dJ b.f)] (.map (jm a b).n (dJ (jm a b).f)):=by
 obtain⟨n,i,f⟩:=m;refine bM (af:=Ug) rfl rfl ?_;unfold Ug;dsimp only[List.map,aQ,aj];refine nJ ?_;refine uz (c:=dJ a.f) (l0:=n) rfl i (e1:=.normal) (s1:=⟨[(4,.ptr 0 0)],[(0,.map false (.strs a.n (dJ (jm a b).f)))],1+(0+2*a.n),[0]⟩) (λl d=>?_) ?_
 .refine NS b _ l (λ_=>none) 0 0 d.1 (λ_ _=>rfl) (C8 d) ?_;have e:xZ (λ_=>none) (l.map λe=>(e.1,jv b e.1 e.2))=dJ (jm a b).f:=by
   refine wC ⟨by rw[List.map_map];exact d.1,λk y=>?_⟩;simp only[List.mem_map,bQ];constructor
   .rintro⟨x,o,rfl,rfl⟩;have j:=(d.2 x.1 x.2).1 o;simp only[dJ,vF]at j;obtain⟨z,g,p⟩:=j;simp only[dJ,jm,g,Option.map_some,<-p,RZ]
   .intro h;simp only[dJ,jm,vF]at h;obtain⟨_,⟨z,g,rfl⟩,rfl⟩:=h;exact⟨(k,tz z),(d.2 k (tz z)).2 (by simp[dJ,g]),rfl,RZ b k z⟩
  rw[e,d.length i,f,Nat.zero_add]
  (try simp(disch:=omega) only[go_sem,seval,reduceCtorEq,true_and])
 ·(try simp(disch:=omega) only[go_sem,seval,reduceCtorEq,true_and])
  all_goals rfl
end
section
open Go Go.Dv
def oH(l:List ByteArray):SM:=λk=>if hasB l k then some (.one (.bool true))else none
def rv{l:List ByteArray}{k:ByteArray}(h:k∉l):oH l k=none:=by
 have:¬hasB l k=true:=λe=>h (gp.1 e)
 simp[oH,this]
def mr{l:List ByteArray}{k:ByteArray}(h:k∈l):oH l k=some (.one (.bool true)):=by simp[oH,gp.2 h]
def sv(l:List ByteArray)(k:ByteArray):fF (oH l) k (some (.one (.bool true)))=oH (ins k l):=by
 funext j;simp only[fF];by_cases h:j=k
 .rw[aq h,mr (gM.2 (.inl h))]
 .rw[an h];by_cases a:j∈l
  .rw[mr a,mr (gM.2 (.inr a))]
  .rw[rv a,rv λe=>(gM.1 e).elim h a]
def pH{l:List ByteArray}(h:dx l):l.Nodup:=List.Pairwise.imp (λ{a b} h e=>by subst e;rw[mu]at h;cases h) h
def Fj{l:List ByteArray}(h:dx l):eX (oH l) (l.map λk=>(k,.one (.bool true))):=by
 refine⟨?_,λk y=>?_⟩
 .rw[List.map_map];simp only[HY,List.map_id'];exact pH h
 .simp only[List.mem_map,bQ];constructor
  .rintro⟨x,b,rfl,rfl⟩;exact mr b
  .intro e;by_cases a:k∈l
   .rw[mr a]at e;cases e;exact⟨k,a,rfl,rfl⟩
   .rw[rv a]at e;cases e
def PJ{l:List ByteArray}(h:dx l){r:List (ByteArray×MV)}(a:eX (oH l) r):sortStr (r.map (·.1))=l:=by
 have d:(r.map (·.1)).Perm l:=by
  refine(List.perm_ext_iff_of_nodup a.1 (pH h)).2 λk=>?_
  constructor
  .intro b;obtain⟨x,e,rfl⟩:=List.mem_map.1 b;have:=(a.2 x.1 x.2).1 e;by_cases c:x.1∈l
   .exact c
   .rw[rv c]at this;cases this
  .intro b;exact List.mem_map.2 ⟨(k,.one (.bool true)),(a.2 _ _).2 (mr b),rfl⟩
 exact AG (rX _) h.asc ((qH _).trans d)
def PI(l:List ByteArray)(f:l.length<=1048576)(H:Heap)(id a:Nat)(b:ah H id=some (.row false 1 (aA l))):BS tb 128 [.ref id l.length 0 l.length] H a (.tuple []) (aH H id (.row false 1 (aA (sortStr l)))) a:=by
 refine⟨0,?_⟩;have c:tb.A 128=none:=rfl;have d:l.length<=ak:=by simp only[ak];omega
 have e:tb.X=outside:=rfl;simp only[dG,c,e];simp[outside,aI.or,ln,lI,AI,nN,pg,nO,b,A3,d]
def N6{x:DV}(K:Ex->St->Prop):∀(l:List (ByteArray×MV)) (o:List ByteArray),o.length+l.length<=1048576->
   K .normal ⟨[(0,x),(3,.ref 0 (o.length+l.length) 0 (o.length+l.length))],[(0,.row false 1 (aA (o++l.map (·.1))))],1,[0]⟩->
   nb tb (W tb wK) [.o 10 (.extract (.t 9) 0),.o 4 (.move (.t 10))] 9 [6,9,5,7,8] (l.map λe=>jR e.1 e.2) ⟨[(0,x),(3,.ref 0 o.length 0 o.length)],[(0,.row false 1 (aA o))],1,[0]⟩ K
 |[],o,_,h=>by
   rw[List.map_nil,qX];simpa using h
 |(k,y)::r,o,c,h=>by
   simp only[List.length_cons]at c h;have a:=N6 (x:=x) K r (o++[k]) (by simp;omega) (by
    have e:o.length+1+r.length=o.length+(r.length+1):=ae;rw[List.length_append,List.length_singleton,e,List.append_assoc,List.singleton_append];exact h)
   rw[List.length_append,List.length_singleton]at a;rw[List.map_cons,jR,BM];generalize b:FK tb (W tb wK) [.o 10 (.extract (.t 9) 0),.o 4 (.move (.t 10))] 9 [6,9,5,7,8] (r.map λe=>jR e.1 e.2) _ K=d;have f:d .normal ⟨[(0,x),(3,.ref 0 (o.length+1) 0 (o.length+1))],[(0,.row false 1 (aA (o++[k])))],1,[]⟩:=by
    rw[<-b,H7];exact a
   clear b a;have g:(o.length+1)*16<=ak:=by simp only[ak];omega
   have i:o.length+1<=ak:=by simp only[ak];omega
   have j:bV 1 [[PV.str k]]=true:=rfl;have m:aA o++[[PV.str k]]=aA (o++[k]):=by simp[aA]
   dsimp only;unfold wK;refine gN (dM g i j m @aE) (k1 ?_);exact f
def Cy(l:List ByteArray)(h:dx l)(f:l.length<=1048576):PS tb 102 [.map l.length (oH l)] (.slice false (aA l)):=by
 refine bM (af:=TK) rfl rfl ?_;unfold TK;dsimp only[List.map,aQ,aj];refine nJ ?_;refine uz (c:=oH l) (l0:=l.map λk=>(k,.one (.bool true))) rfl (Fj h) (e1:=.normal) (s1:=⟨[(3,.ref 0 l.length 0 l.length)],[(0,.row false 1 (aA l))],1,[0]⟩) (λr a=>?_) ?_
 .have b:r.length=l.length:=by rw[a.length (Fj h),List.length_map]
  refine N6 _ r [] (by simp;omega) ?_;have d:=PI (r.map (·.1)) (by rw[List.length_map];omega) [(0,.row false 1 (aA (r.map (·.1))))] 0 1 rfl;rw[List.length_map,b,PJ h a]at d;simp only[List.length_nil,Nat.zero_add,List.nil_append,b];exact gR trivial trivial d k0
 .have e:(aA l).take l.length=aA l:=List.take_of_length_le (by rw[aE];omega);exact gN (bf @aE e) k0
end
section
open Go Go.Dv
structure LX(L:Heap)(nx:Nat):Prop where
 ge:5<=nx
 ba:∀c,nx<=c->az c L=L
 al:∀c,nx<=c->cL c L=true
 no:∀c,nx<=c\/c<5->ah L c=none
def LX.cons{L:Heap}{a:Nat}{k:ca}(h:LX L a)(d:k.below (a+1)=true:=by rfl):LX ((a,k)::L) (a+1):=by
 have e:=h.ge;exact⟨ae,λc b=>by rw[az,aq ae,h.ba c ae],λc b=>by simp only[cL,aO];exact⟨ca.fu b d,h.al c ae⟩,
  λc b=>by rw[aP,an ae];exact h.no c ae⟩
def LX.up{L:Heap}{a:Nat}(h:LX L a)(k:Nat):LX L (a+k):=⟨by have:=h.ge;omega,λc b=>h.ba c ae,λc b=>h.al c ae,λc b=>h.no c ae⟩
def Hx(p:Pc)(x:XS):Heap:=[(4,.var false [.ptr 2 0,.ptr 3 0,.p (.bool x.failed)]),(3,.map false (.strs x.wr.length (oH x.wr))),(2,.map false (.strs x.rd.length (oH x.rd))),(1,.var false [.p (.bool false),.p (.slice true []),.p (.slice true [])]),(0,.var false [.p (.str p.name),.p (.slice p.fp (e9 p.ps)),.p (.slice p.fb (bD p.body))])]
structure XF(p:Pc)(L:Heap)(y:Nat):Prop where
 n0:∀x,ah (L++Hx p x) (y+5)=none
 n1:∀x,ah (L++Hx p x) (y+6)=none
 n2:∀x,ah (L++Hx p x) (y+7)=none
 n3:∀x,ah (L++Hx p x) (y+8)=none
 b0:∀x,az (y+5) (L++Hx p x)=L++Hx p x
 b1:∀x,az (y+6) (L++Hx p x)=L++Hx p x
 b2:∀x,az (y+7) (L++Hx p x)=L++Hx p x
 b3:∀x,az (y+8) (L++Hx p x)=L++Hx p x
 l0:∀x,cL (y+5) (L++Hx p x)=true
 l1:∀x,cL (y+6) (L++Hx p x)=true
 l2:∀x,cL (y+7) (L++Hx p x)=true
 l3:∀x,cL (y+8) (L++Hx p x)=true
 g4:∀x,ah (L++Hx p x) 4=some (.var false [.ptr 2 0,.ptr 3 0,.p (.bool x.failed)])
 g3:∀x,ah (L++Hx p x) 3=some (.map false (.strs x.wr.length (oH x.wr)))
 g2:∀x,ah (L++Hx p x) 2=some (.map false (.strs x.rd.length (oH x.rd)))
def XF.q{p:Pc}{L:Heap}{y:Nat}(h:XF p L y):=Cj h.n0<|Cj h.n1<|Cj h.n2<|Cj h.n3<|Cj h.b0<|Cj h.b1<|Cj h.b2<|Cj h.b3<|Cj h.l0<|Cj h.l1<|Cj h.l2<|Cj h.l3<|Cj h.g4<|Cj h.g3 h.g2
section
variable{p:Pc}{L:Heap}
def LX.nn{a:Nat}(h:LX L a)(x:XS)(c:Nat)(b:a<=c):ah (L++Hx p x) c=none:=by
 have j:=h.ge;rw[cW (h.no c (.inl b))];have d:¬4=c:=ae;have e:¬3=c:=ae;have f:¬2=c:=ae;have g:¬1=c:=ae;have i:¬0=c:=ae;simp[Hx,ah,d,e,f,g,i]
def LX.bb{a:Nat}(h:LX L a)(x:XS)(c:Nat)(b:a<=c):az c (L++Hx p x)=L++Hx p x:=by
 have j:=h.ge;rw[jl,h.ba c b];have d:4<c:=ae;have e:3<c:=ae;have f:2<c:=ae;have g:1<c:=ae;have i:0<c:=ae;simp[Hx,az,d,e,f,g,i]
def LX.ll{a:Nat}(h:LX L a)(x:XS)(c:Nat)(b:a<=c):cL c (L++Hx p x)=true:=by
 have f:=h.ge;rw[nT,h.al c b];have d:3<c:=ae;have e:2<c:=ae;simp[Hx,cL,ca.below,below,dep,d,e]
def LX.xf{y:Nat}(h:LX L (y+5)):XF p L y:=by
 exact⟨λx=>h.nn x _ ae,λx=>h.nn x _ ae,λx=>h.nn x _ ae,λx=>h.nn x _ ae,λx=>h.bb x _ ae,λx=>h.bb x _ ae,λx=>h.bb x _ ae,λx=>h.bb x _ ae,λx=>h.ll x _ ae,λx=>h.ll x _ ae,λx=>h.ll x _ ae,λx=>h.ll x _ ae,
  λx=>by rw[cW (h.no 4 (.inr ae))];rfl,λx=>by rw[cW (h.no 3 (.inr ae))];rfl,λx=>by rw[cW (h.no 2 (.inr ae))];rfl⟩
def LX.ex{a:Nat}(h:LX L a):∃y,a=y+5:=⟨a-5,by have:=h.ge;omega⟩
def LX.s2{a:Nat}(h:LX L a)(x:XS)(l:List ByteArray)(n:Nat)(b:n=l.length):aH (L++Hx p x) 2 (.map false (.strs n (oH l)))=L++Hx p {x with rd:=l}:=by rw[fU (h.no 2 (.inr ae)),b];rfl
def LX.s3{a:Nat}(h:LX L a)(x:XS)(l:List ByteArray)(n:Nat)(b:n=l.length):aH (L++Hx p x) 3 (.map false (.strs n (oH l)))=L++Hx p {x with wr:=l}:=by rw[fU (h.no 3 (.inr ae)),b];rfl
def LX.s4{a:Nat}(h:LX L a)(x:XS):aH (L++Hx p x) 4 (.var false [.ptr 2 0,.ptr 3 0,.p (.bool true)])=L++Hx p {x with failed:=true}:=by rw[fU (h.no 4 (.inr ae))];rfl
def rq(b:MV)(m n:Nat):(if(some b).isSome=true then m else n)=m:=rfl
def qm(m n:Nat):(if(none:Option MV).isSome=true then m else n)=n:=rfl
def zh{k:ByteArray}{l:List ByteArray}(h:dx l):(k∈l->l.length=(ins k l).length)/\(k∉l->l.length+1=(ins k l).length):=by
 have b:=pH (ot (k:=k) h);constructor
 .intro a;have:(ins k l).Perm l:=(List.perm_ext_iff_of_nodup b (pH h)).2 λj=>by
   rw[gM];exact⟨λe=>e.elim (λe=>e▸a) id,.inr⟩
  exact this.length_eq.symm
 .intro a;have:(ins k l).Perm (k::l):=(List.perm_ext_iff_of_nodup b (List.nodup_cons.2 ⟨a,pH h⟩)).2 λj=>by
   rw[gM,List.mem_cons]
  simpa using this.length_eq.symm
def UT{d:Nat}(h:LX L d)(x:XS)(j:wq x)(a:AV):BS tb 157 [.ptr 4 0,.agg [.p (.bool a.isSome),.p (.int .i64 (a.getD V0).k),.p (.int .i64 (a.getD V0).n),.p (.str (a.getD V0).s)],.ptr 2 0] (L++Hx p x) d (.p (.bool (kx a x).1)) (L++Hx p (kx a x).2) d:=by
 obtain⟨y,rfl⟩:=h.ex;have g:=h.xf (p:=p);refine cH (af:=a157) rfl rfl ?_;unfold a157;dsimp only[aj];cases a with
 |none=>
  have k:=h.s4 (p:=p) x;simp only[kx,Option.isSome,Option.getD];exact gN (bf g.q k) k0
 |some v=>
  have b:=kD v.s;simp only[kx,Option.isSome,Option.getD];cases e:lG v.s with
  |false=>
   rw[e]at b;simp only[Bool.false_eq_true,cy];exact gP g.q b k0
  |true=>
   rw[e]at b;simp only[bZ];by_cases c:v.s∈x.rd
   .have f:=mr c;have i:=h.s2 (p:=p) x (ins v.s x.rd) x.rd.length ((zh j.r).1 c);exact gP (pS g.q f @sv rq qm i) b k0
   .have f:=rv c;have i:=h.s2 (p:=p) x (ins v.s x.rd) (x.rd.length+1) ((zh j.r).2 c);exact gP (pS g.q f @sv rq qm i) b k0
def Kf{d:Nat}(h:LX L d)(x:XS)(j:wq x)(a:AV):BS tb 157 [.ptr 4 0,.agg [.p (.bool a.isSome),.p (.int .i64 (a.getD V0).k),.p (.int .i64 (a.getD V0).n),.p (.str (a.getD V0).s)],.ptr 3 0] (L++Hx p x) d (.p (.bool (kN a x).1)) (L++Hx p (kN a x).2) d:=by
 obtain⟨y,rfl⟩:=h.ex;have g:=h.xf (p:=p);refine cH (af:=a157) rfl rfl ?_;unfold a157;dsimp only[aj];cases a with
 |none=>
  have k:=h.s4 (p:=p) x;simp only[kN,Option.isSome,Option.getD];exact gN (bf g.q k) k0
 |some v=>
  have b:=kD v.s;simp only[kN,Option.isSome,Option.getD];cases e:lG v.s with
  |false=>
   rw[e]at b;simp only[Bool.false_eq_true,cy];exact gP g.q b k0
  |true=>
   rw[e]at b;simp only[bZ];by_cases c:v.s∈x.wr
   .have f:=mr c;have i:=h.s3 (p:=p) x (ins v.s x.wr) x.wr.length ((zh j.w).1 c);exact gP (pS g.q f @sv rq qm i) b k0
   .have f:=rv c;have i:=h.s3 (p:=p) x (ins v.s x.wr) (x.wr.length+1) ((zh j.w).2 c);exact gP (pS g.q f @sv rq qm i) b k0
end
end
section
open Go Go.Dv
abbrev kE:Kc:=⟨true,[],false,true,[],true,[]⟩
def eB(e:aF):List DV:=[.p (.int .i64 e.op),.p (.int .i64 e.n),.p (.str e.s),.p (.slice e.f (aJ e.xs))]
abbrev JC(v:bX):ca:=.var false [.p (.int .i64 v.k),.p (.int .i64 v.n),.p (.str v.s)]
abbrev T2(e:aF):Heap:=[(4,.var false [.p (.bool false),.p (.slice true []),.p (.slice true [])]),(3,.var false V4),(2,.var false [.p (.int .i64 0),.p (.int .i64 0),.p (.str ⟨#[]⟩)]),(0,.var false (eB e))]
def RT(e:aF):hZ [] (T2 e) 12 where
 ge:=Nat.le_refl _
 ba:=λ_ _=>rfl
 al:=λ_ _=>rfl
 no:=λ_ _=>rfl
 bt:=λc hc=>by
  have h4:4<c:=ae;have h3:3<c:=ae;have h2:2<c:=ae;have h0:0<c:=ae;simp[az,h4,h3,h2,h0]
 lt:=λc hc=>by simp[cL,ca.below,below,dep,eB]
 nt:=λc hc=>by
  have h4:¬4=c:=ae;have h3:¬3=c:=ae;have h2:¬2=c:=ae;have h0:¬0=c:=ae;simp[ah,h4,h3,h2,h0]
def LV(v:bX):Heap:=[(14,.var false [.p (.bool false)]),(13,.var false (zR.map .p)),(12,JC v)]
def Xp(e:aF)(v:bX):hZ (LV v) (T2 e) 15:=(((RT e).cons (b:=JC v)).cons (b:=.var false (zR.map .p))).cons (b:=.var false [.p (.bool false)])
def koE:EA kE:=⟨aB,aB,aB,aB⟩
def WD(e:aF)(r:e.ok)(s:e.sz<=1048576)(m:MS)(j:dx m.reads/\m.reads.length<=34362884096/\(∀k v,m.vars k=some v->cQ v)/\∀k v,m.own k=some v->cQ v):CS tb 242 [.ptr 11 0,.ptr 0 0,.ptr 12 0] (LV V0++mb (T2 e) kE m) 15 (match cG kE.cz e m with
  | .ok v b=>.inl (.tuple [],LV v++mb (T2 e) kE b,15)
  | .no p c d b=>.inr (qz p c d,LV V0++mb (T2 e) kE b)):=by
 have a:=DX kE koE (T:=T2 e) e.sz e (Nat.le_refl _) (LV V0) 15 m r (Xp e V0) j.1 (by have:=j.2.1;omega) j.2.2.1 j.2.2.2;have l:=λv=>(hZ.lf (x:=3) (Xp e v) kE).q
 simp only[Nat.reduceAdd]at l;have f:=l V0;have n:∀m,ah (LV V0++mb (T2 e) kE m) 0=some (.var false (eB e)):=λ_=>rfl
 have g:∀m,ah (LV V0++mb (T2 e) kE m) 11=some (.var false [.ptr 7 0]):=λ_=>rfl
 have h:∀m,ah (LV V0++mb (T2 e) kE m) 12=some (JC V0):=λ_=>rfl
 have i:∀m v,aH (LV V0++mb (T2 e) kE m) 12 (JC v)=LV v++mb (T2 e) kE m:=λ_ _=>rfl
 simp only[eB]at n;cases q:cG kE.cz e m with
 |ok v b=>
  rw[q]at a;simp only[cC,fX]at a⊢;have o:=l v;refine fZ (af:=KE) rfl rfl ?_;unfold KE;dsimp only[aj];exact gR (pS f o n g h i) trivial a k0
 |no p c d b=>
  rw[q]at a;simp only[cC]at a⊢;refine fZ (af:=KE) rfl rfl ?_;unfold KE;dsimp only[aj];exact gD (dM f n g h i) trivial trivial a k0
abbrev nA:ByteArray:=⟨#[97]⟩
abbrev nB:ByteArray:=⟨#[98]⟩
abbrev Yh(a:bX):MS:=gk nA a jI
abbrev Zd(a b:bX):MS:=gk nB b (gk nA a jI)
def Vv(b:Int)(a:bX)(c:b≠1)(d:b≠2)(e:b≠3):cG kE.cz (sj b [vA]) (Yh a)=mD kE.cz b [a] (Yh a):=by
 simp[sj,cG,dX,c,d,e,Rs.bind,Yh,gk,l8]
def VB(c:Int)(a b:bX)(d:c≠1)(e:c≠2)(f:c≠3):cG kE.cz (sj c [vA,vB]) (Zd a b)=mD kE.cz c [a,b] (Zd a b):=by
 have g:¬nA=nB:=by decide
 simp[sj,cG,dX,d,e,f,Rs.bind,Zd,gk,l8]
def mF(a:List Pr)(m:MS):MS:=a.foldl (λm p=>gk p.key p.v m) m
def TY(a:List Pr)(m:MS)(i:Nat)(h:i<a.length):gk a[i].key a[i].v (mF (a.take i) m)=mF (a.take (i+1)) m:=by
 rw[List.take_succ_eq_append_getElem h];simp only[mF,List.foldl_append,List.foldl_cons,List.foldl_nil]
def Us:∀(a:List Pr) (m:MS),jC m->(∀p∈a,cQ p.v)->jC (mF a m)
 |[],m,h,_=>h
 |p::r,m,h,b=>Us r _ (wj h p.key (b p aB)) λq c=>b q (by simp[c])
def J8(e:aF)(a:List Pr)(q:bX×Ef):Prop:=
 if a.all (λp=>jF p.v)then(match cG kE.cz e (mF a jI)with
  | .ok v _=>q.1=v/\q.2.st=1
  | .no b _ _ _=>q.2.st=b)
 else q.2.st=2
def PZ(e:aF)(a:List Pr)(hl:a.length<=1048576)(hn:∀i (h:i<a.length),(mF (a.take i) jI).vars a[i].key=none)(hv:∀p∈a,cQ p.v)(he:e.ok)(hz:e.sz<=1048576)(N:∀v g,cG kE.cz e (mF a jI)=.ok v g->jC g)(C:PS tb 230 [.agg [.int .i64 e.op,.int .i64 e.n,.str e.s,.slice e.f (aJ e.xs)]] (.int .i64 0)):
  ∃q:bX×Ef,PS tb 218 [.agg [.int .i64 e.op,.int .i64 e.n,.str e.s,.slice e.f (aJ e.xs)],.slice false (bm a),.slice true [],.agg [.bool false,.slice true [],.slice true []]] (.tuple [.agg (gB q.1),.agg (od q.2)])/\J8 e a q:=by
 have O:=sA [] true aB (λp P=>by simp at P);rw[show lu []=true from rfl]at O;have Q:=wi ⟨false,true,[],true,[]⟩ ⟨Nat.zero_le _,Nat.zero_le _⟩;rw[show kl ⟨false,true,[],true,[]⟩=true from rfl]at Q;have hw:=FQ;have r:=λb0 b1 b2 b3=>TB kE b0 b1 b2 b3
 simp only[rH,aA,List.map_nil]at Q;simp only[od,bF,aA,bm,List.map_nil]at hw;simp only[bm,List.map_nil]at O;simp only[bm,aA,List.map_nil,pB]at r;have w:W tb a218.body {env:=aj 0 ([PV.agg [.int .i64 e.op,.int .i64 e.n,.str e.s,.slice e.f (aJ e.xs)],.slice false (bm a),.slice true [],.agg [.bool false,.slice true [],.slice true []]].map aQ),heap:=[],next:=0,marks:=[0]} (ic a218.results λv s=>∃n:{q:bX×Ef//J8 e a q},bE s.heap dep v=some (.tuple [.agg (gB n.1.1),.agg (od n.1.2)])):=by
  unfold a218;dsimp only[List.map,aQ,aj];refine gR @bK (c9 C O Q) (λ{D z2 z3 z4}=>r D z2 z3 z4) (k1 ?_);refine bU (λj A=>∃i:Nat,i+j=a.length/\(a.take i).all (λp=>jF p.v)=true/\A=⟨[(4,.ptr 0 0),(8,.ptr 2 0),(9,.ptr 3 0),(10,.ptr 11 0),(36,.p (.slice false (bm a))),(37,.p (.int .i64 a.length)),(38,.p (.int .i64 i))],mb (T2 e) kE (mF (a.take i) jI),12,[0]⟩) ?_ a.length _ ⟨0,ae,aB,rfl⟩;rintro j A ⟨i,xl,d,rfl⟩;have E:jC (mF (a.take i) jI):=Us _ _ B4 λp P=>hv p (List.mem_of_mem_take P)
  have F:=RT e;have q:=(F.lf (x:=0) kE).q;simp only[List.nil_append,Nat.zero_add]at q;have l:∀m,ah (mb (T2 e) kE m) 11=some (.var false [.ptr 7 0]):=λ_=>rfl
  have mt:∀m,tG (mb (T2 e) kE m)=12:=λ_=>rfl
  have L:∀m,ah (mb (T2 e) kE m) 2=some (.var false [.p (.int .i64 0),.p (.int .i64 0),.p (.str ⟨#[]⟩)]):=λ_=>rfl
  have M:∀m,ah (mb (T2 e) kE m) 3=some (.var false V4):=λ_=>rfl
  have ad:∀m,oe (mb (T2 e) kE m) 12=mb (T2 e) kE m:=λm=>tu ((F.lz kE m).no 12 ae)
  have R:∀m,oe (mb (T2 e) kE m) 13=mb (T2 e) kE m:=λm=>tu ((F.lz kE m).no 13 ae)
  have S:∀m b,ah (aH (mb (T2 e) kE m) 2 b) 3=some (.var false V4):=λ_ _=>rfl
  have U:∀m b,ah (aH (mb (T2 e) kE m) 2 b) 2=some b:=λ_ _=>rfl
  have V:∀m b c,ah (aH (aH (mb (T2 e) kE m) 2 b) 3 c) 2=some b:=λ_ _ _=>rfl
  have X:∀m b c,ah (aH (aH (mb (T2 e) kE m) 2 b) 3 c) 3=some c:=λ_ _ _=>rfl
  have n8:∀m b c,ah (aH (aH (mb (T2 e) kE m) 2 b) 3 c) 8=some (.row false 3 (bF m.out)):=λ_ _ _=>rfl
  have n9:∀m b c,ah (aH (aH (mb (T2 e) kE m) 2 b) 3 c) 9=some (.row false 1 (aA m.reads)):=λ_ _ _=>rfl
  have G:∀m b c,ah (aH (aH (mb (T2 e) kE m) 2 b) 3 c) 10=some (.row false 1 (aA m.cm)):=λ_ _ _=>rfl
  refine bq IF.eq_1 ?_;rcases cK i a.length with c|c
  .have I:(i:Int)<a.length:=ae;have h2:(0:Int)<=i:=ae;have h3:=jS a i c;have k:=HD a[i].v (hv _ (List.getElem_mem c)).2.2;have J:=hn i c;have Y:=TY a jI i c;have t:(a.take (i+1)).all (λp=>jF p.v)=jF a[i].v:=by rw[List.take_succ_eq_append_getElem c,List.all_append,d];simp
   dsimp only[gB]at k;cases o:jF a[i].v with
   |false=>
    rw[o]at k t;refine gP (mg q l mt L M U S V X I h2 h3 @bK) (bf k hw) (k1 ?_);refine⟨⟨(V0,oL),?_⟩,rfl⟩;unfold J8;rw[an (by
     intro hx;rw[List.all_eq_true]at hx;have:=hx a[i] (List.getElem_mem c);rw[o]at this;cases this)]
   |true=>
    rw[o]at k t;have Z:aH (mb (T2 e) kE (mF (a.take i) jI)) 5 (.map false (.strs ((mF (a.take i) jI).vn+1) (mX (l8 (mF (a.take i) jI).vars a[i].key a[i].v))))=mb (T2 e) kE (mF (a.take (i+1)) jI):=by rw[<-Y];simp only[gk,J];rfl
    have x0:=Ap J;refine gP (Dw q l mt L M I h2 h3 @bK x0 @nC qm Z ad R) k (k1 ?_);exact LI.next (m':=j-1) ae ⟨i+1,ae,t,rfl⟩
  .have I:¬(i:Int)<a.length:=ae;have x1:a.take i=a:=List.take_of_length_le c;rw[x1]at d E⊢;have B:=WD e he hz (mF a jI) ⟨E.rs,E.len ae ae,E.vs,E.os⟩;have u:∀v,hZ [(12,JC v)] (T2 e) 13:=λv=>F.cons (b:=JC v)
   cases o:cG kE.cz e (mF a jI)with
   |ok v g=>
    rw[o]at B;simp only at B;have K:=λa0=>Ck (a0:=a0) (H:=(12,JC V0)::mb (T2 e) kE (mF a jI)) (nx:=13) B (wM (u v) kE g zR rfl false [.p (.int .i64 0),.p (.int .i64 0),.p (.slice true []),.p (.str ⟨#[]⟩)] [.p (.bool false)] rfl rfl)
    have y:=vh (x:=2) ((F.cons (b:=.var true [.p (.int .i64 v.k),.p (.int .i64 v.n),.p (.str v.s)])).cons (b:=.var false [.p (.int .i64 0),.p (.int .i64 0),.p (.slice true []),.p (.str ⟨#[]⟩)])) kE g (N v g o);simp only[Nat.reduceAdd,List.cons_append,List.nil_append,CY]at y K;refine gR (mg q l mt L M U S V X n8 n9 G I) trivial (bf (λ{D}=>K D) y) (k1 ?_);refine⟨⟨(v,dS (.ok () g)),by unfold J8;rw[aq d,o];exact⟨rfl,rfl⟩⟩,?_⟩;rw[cv,aE,aE,wL];simp[dS,od,U3,GF];exact⟨rfl,TL g g.cm⟩
   |no A cd z g=>
    rw[o]at B;simp only at B;have K:=λa0=>Dj (a0:=a0) (H:=(12,JC V0)::mb (T2 e) kE (mF a jI)) (nx:=13) B (wM (u V0) kE g _ rfl true [.p (.int .i64 0),.p (.int .i64 0),.p (.slice true []),.p (.str ⟨#[]⟩)] [.p (.bool false)] rfl rfl)
    have y:=vt (x:=2) ((u V0).cons (b:=.var false [.p (.int .i64 A),.p (.int .i64 cd),.p (.slice true []),.p (.str z)])) kE g A cd z;simp only[Nat.reduceAdd,List.cons_append,List.nil_append,CY,List.map]at y K;refine gR (mg q l mt L M U S V X n8 n9 G I) trivial (bf (λ{D}=>K D) y) (k1 ?_);refine⟨⟨(V0,dS (.no A cd z g)),by unfold J8;rw[aq d,o];rfl⟩,?_⟩
    rw[aE,aE];simp[dS,od,GF,bF,bm];rfl
 obtain⟨⟨q,y⟩,h⟩:=nq (T:=tb) (f:=218) (af:=a218) rfl rfl w;exact⟨q,h,y⟩
end
end Go.Dv.Tryz
