/- Lemmas for the law of this claim. -/
import Derived.Test.YtcphhjkcgikdgaaGreatDoorP38
set_option linter.all false
set_option maxRecDepth 100000
set_option maxHeartbeats 4000000
namespace Go.Dv.Tryz
section
open Go Go.Dv
def qx(g:List Rq)(x:Int):Bool:=decide (0<g.length)&&decide (x<(g.getD (g.length-1) (0,false)).1)
def jK(t:Td)(x:Int)(f:Ft):Td×Int:=
 if !gn t||!dk f||decide (x<0)then(([],[]),1)
 else if cO t.1 x<t.1.length then(([],[]),8)
 else if qx t.1 x then(([],[]),16)
 else((t.1++[(x,f.all)],fk (other f.w f.r) (x,false) (fk f.w (x,true) t.2)),0)
def tJ{t:Td}(h:gn t=true):iW t.2:=by
 have c:∀i,i<t.2.length->tU t.2 i=true:=λi f=>by
  unfold gn at h;rw[aL]at h;have:=kd.1 h.2 i f;rw[aL]at this;exact this.1
 have g:∀(j i:Nat) (b:i+1+j<t.2.length),slt (t.2[i]'ae).1 t.2[i+1+j].1=true:=by
  intro j;induction j with
  |zero=>
   intro i b;have:=c (i+1) b;unfold tU at this;simp only[aL,ji,df]at this;rcases this.1.1.2 with e|e
   .omega
   .rw[List.getD_eq_getElem?_getD,List.getD_eq_getElem?_getD,List.getElem?_eq_getElem ae,List.getElem?_eq_getElem ae]at e;exact e
  |succ j k=>
   intro i b;have a:=k i ae;have:=c (i+1+(j+1)) b;unfold tU at this;simp only[aL,ji,df]at this;rcases this.1.1.2 with e|e
   .omega
   .have l:i+1+(j+1)-1=i+1+j:=ae;rw[l,List.getD_eq_getElem?_getD,List.getD_eq_getElem?_getD,List.getElem?_eq_getElem ae,List.getElem?_eq_getElem ae]at e;exact gM a e
 unfold iW;rw[List.pairwise_iff_getElem];intro i j f b m;obtain⟨d,rfl⟩:∃d,j=i+1+d:=⟨j-i-1,ae⟩;exact g d i b
def T0:Tb:=⟨true,[],true,[]⟩
def Td.u(t:Td):Tb:=⟨false,t.1,false,t.2.map Qd.u⟩
def Td.u_d(t:Td):(Td.u t).d=t:=by
 simp[Td.u,Tb.d,Function.comp_def,Qd.u,Qu.d]
def RI.start{H:Heap}{m h n:Nat}{g:List Rq}{l:List Qd}{f:List Nat}{p s:bq}(d:mS H m h n g l f)(w:iW l)(x:2<h/\2<n/\∀i∈f,2<i)(y:ag H 1=some p)(z:ag H 2=some s)(r:Rq):
  RI ((m,.var false [.ref h (g.length+1) 0 (g.length+1),.ref n l.length 0 l.length])::jJ (aC H h (.row false 2 (bM g++[zI r]))) 0) (m+1) h n m (g++[r]) l f p s:=by
 obtain⟨A,B,t⟩:=x;have u:=d.AH;have v:=d.Aj;have k0:∀k,k≠m->k≠0->k≠h->ag ((m,.var false [.ref h (g.length+1) 0 (g.length+1),.ref n l.length 0 l.length])::jJ (aC H h (.row false 2 (bM g++[zI r]))) 0) k=ag H k:=λk a b c=>by
  rw[aw,ak (dz a),eC,ak (dz b),aA,ak (dz c)]
 refine⟨⟨?_,?_,d.len,?_,d.nd,d.ng,d.nq,d.gq,ae,ae,λi o=>by have:=d.lt i o;omega,λk C=>?_⟩,w,?_,λe=>absurd (d.lt _ e) ae,ae,ae,ae,⟨A,B,ae,t⟩,?_,?_⟩
 .rw[aw,ak ae,eC,ak ae,aA,aq rfl,d.gl];simp[bM]
 .rw[k0 n ae ae (dz d.gq)];exact d.ql
 .intro j i q a b;have o:i∈f:=List.mem_of_getElem? a;have D:=d.lt i o;have E:=t i o;rw[k0 i ae ae (λe=>d.ng (by rw[<-e];exact o))];exact d.at_ j i q a b
 .rw[k0 k ae ae ae];exact d.free k ae
 .rw[aw,aq rfl];simp
 .rw[k0 1 ae ae ae];exact y
 .rw[k0 2 ae ae ae];exact z
def HG{H:Heap}{i k:Nat}{B:bq}(h:i≠k)(a:ag H k=some B):ag (jJ H i) k=some B:=by
 rw[eC,ak h];exact a
def IM{H:Heap}{k f h:Nat}{g:List Rq}{c:List Qd}{i:List Nat}(j:mS H k f h g c i)(e:Int):
  aS H 5 (.tuple [.agg [.ref f g.length 0 g.length,.ref h c.length 0 c.length],.p (.int .i64 e)])=some (.tuple [.agg (lT (Td.u (g,c))),.int .i64 e]):=by
 have l:=Cq (d:=2) (n:=g.length) j.gl (aE g).symm;have m:=KY j rfl 0;have a:aS H 4 (.agg [.ref f g.length 0 g.length,.ref h c.length 0 c.length])=some (.agg (lT (Td.u (g,c)))):=by
  rw[aS];simp only[bP,l,m];rfl
 have b:aS H 4 (.p (.int .i64 e))=some (.int .i64 e):=rfl;rw[aS];simp only[bP,a,b]
def IB(t:Tb)(x:Int)(f:Ft)(hg:t.g.length<=3145728)(hl:t.qs.length<=3145728)(hq:∀q∈t.qs,q.reqs.length<=3145728)(V:oO f):
  ∃a:Tb,a.d=(jK t.d x f).1/\PS tb 15 [.agg (lT t),.int .i64 x,.agg (jZ f)] (.tuple [.agg (lT a),.int .i64 (jK t.d x f).2]):=by
 have S:=A2 t ae ae (λq h=>by have:=hq q h;omega);have Y:=qw f V;have v3:=qp t.g t.gf x ae;have w:W tb TD.body {env:=ai 0 ([PV.agg (lT t),PV.int .i64 x,PV.agg (jZ f)].map aI),heap:=[],next:=0,marks:=[0]}
   (eX TD.results λv s=>∃q:{a:Tb//a.d=(jK t.d x f).1},aS s.heap dep v=some (.tuple [.agg (lT q.1),.int .i64 (jK t.d x f).2])):=by
  generalize hR:(λ(v:DV) (s:St)=>∃q:{a:Tb//a.d=(jK t.d x f).1},aS s.heap dep v=some (.tuple [.agg (lT q.1),.int .i64 (jK t.d x f).2]))=R;have x3:∀(v:DV) (s:St) (a:Tb),a.d=(jK t.d x f).1->aS s.heap dep v=some (.tuple [.agg (lT a),.int .i64 (jK t.d x f).2])->R v s:=λv s a h1 h2=>by
   subst hR;exact⟨⟨a,h1⟩,h2⟩
  clear hR;unfold TD;dsimp only[List.map,aI,ai,lT,jZ]at S Y v3⊢;have td:t.d.1=t.g:=rfl;have N:∀(e:Int) (v:DV) (s:St),jK t.d x f=(([],[]),e)->aS s.heap dep v=some (.tuple [.agg (lT T0),.int .i64 e])->R v s:=λe v s h h2=>x3 v s T0 (by rw[h];rfl) (by rw[h];exact h2)
  cases M:gn t.d with
  |false=>
   rw[M]at S;refine hP M S (k1 ?_)<;>(repeat with_reducible intro U)
   exact N 1 _ _ (by simp[jK,M]) rfl
  |true=>
   rw[M]at S;cases c2:dk f with
   |false=>
    rw[c2]at Y;refine hP trivial (bA S Y) (k1 ?_)<;>(repeat with_reducible intro U)
    exact N 1 _ _ (by simp[jK,M,c2]) rfl
   |true=>
    rw[c2]at Y;by_cases d:x<0
    .refine hP d (bA S Y) (k1 ?_)<;>(repeat with_reducible intro U)
     exact N 1 _ _ (by simp[jK,M,c2,d]) rfl
    .by_cases c4:cO t.g x<t.g.length
     .rw[pI c4]at v3;have k1:(0:Int)<=((cO t.g x:Nat):Int):=ae;repeat'(first|exact S|exact Y|exact v3|(simp(disch:=omega) only[go_sem,seval,reduceCtorEq,d,k1])|with_reducible exact Ev.mk|apply cT|((first|apply aY|apply aQ)<;>intro c U<;>(simp(disch:=omega) only[go_sem,seval,reduceCtorEq,d,k1,c])<;>clear c))
      exact N 8 _ _ (by simp[jK,M,c2,d,td,c4]) rfl
     .rw[pG c4]at v3;have xp:qx t.g x=false->True:=λ_=>trivial
      by_cases c5:t.g.length=0
      .have k1:¬(0:Int)<(t.g.length:Int):=ae;repeat'(first|exact S|exact Y|exact v3|(simp(disch:=omega) only[go_sem,seval,reduceCtorEq,d,k1,aE])|with_reducible exact Ev.mk|apply cT|((first|apply aY|apply aQ)<;>intro c U<;>(simp(disch:=omega) only[go_sem,seval,reduceCtorEq,d,k1,aE,c])<;>clear c))
       obtain⟨O,Z,E,H,n,J,j,K,g1,g2,g3⟩:=DL t ae ae (λq h=>by have:=hq q h;omega) [(2,bq.var false [DV.p (PV.slice true []),DV.p (PV.slice true [])]),(1,bq.var false [DV.p (PV.bool f.all),DV.p (PV.slice f.br (aF f.r)),DV.p (PV.slice f.bw (aF f.w))]),(0,bq.var false [DV.p (PV.slice t.gf (bM t.g)),DV.p (PV.slice t.qf (dL t.qs))])] 3 (λk hk=>by
        rw[aw,ak ae,aw,ak ae,aw,ak ae];rfl)
       have o:ag H 0=some (bq.var false [DV.p (PV.slice t.gf (bM t.g)),DV.p (PV.slice t.qf (dL t.qs))]):=K 0 ae;have g:ag H 1=some (bq.var false [DV.p (PV.bool f.all),DV.p (PV.slice f.br (aF f.r)),DV.p (PV.slice f.bw (aF f.w))]):=K 1 ae;have m:ag H 2=some (bq.var false [DV.p (PV.slice true []),DV.p (PV.slice true [])]):=K 2 ae;have xb:=j.AH;have xc:=j.Aj;have r:=j.free n (Nat.le_refl _);have l:=cj (show n≠0 by omega);have u:=cj (show n≠1 by omega);have y:=cj (show n≠2 by omega);have a3:=cj (show n≠O by omega);have z:=cj (show n≠Z by omega);have A:(t.g.length+1)*16<=140737488355328:=ae;have B:t.g.length+1<=140737488355328:=ae;have C:∀b,bT 2 [[PV.int IntKind.i64 x,PV.bool b]]=true:=λb=>rfl
       have D:∀X,ag (aC H O X) 1=some (bq.var false [DV.p (PV.bool f.all),DV.p (PV.slice f.br (aF f.r)),DV.p (PV.slice f.bw (aF f.w))]):=λX=>by rw[aA,ak ae,g]
       have e1:=C2 x f.all;repeat'(first|exact J|(simp(disch:=omega) only[go_sem,seval,reduceCtorEq,o,g,m,r,l,u,y,a3,z,j.gl,A,B,an,C,D,aE,au,List.set_cons_succ,List.set_cons_zero,d,k1])|with_reducible exact Ev.mk|refine pw ?_|apply nf|(refine ct (by first|with_reducible exact Ev.mk|(simp(disch:=omega) only[go_sem,seval,reduceCtorEq,o,g,m,r,l,u,y,a3,z,j.gl,A,B,an,C,D,aE,au,List.set_cons_succ,List.set_cons_zero,d,k1];done)|(simp(disch:=omega) only[go_sem,seval,reduceCtorEq,o,g,m,r,l,u,y,a3,z,j.gl,A,B,an,C,D,aE,au,List.set_cons_succ,List.set_cons_zero,d,k1];with_reducible exact Ev.mk)) (by first|with_reducible exact Ev.mk|(simp(disch:=omega) only[go_sem,seval,reduceCtorEq,o,g,m,r,l,u,y,a3,z,j.gl,A,B,an,C,D,aE,au,List.set_cons_succ,List.set_cons_zero,d,k1];done)|(simp(disch:=omega) only[go_sem,seval,reduceCtorEq,o,g,m,r,l,u,y,a3,z,j.gl,A,B,an,C,D,aE,au,List.set_cons_succ,List.set_cons_zero,d,k1];with_reducible exact Ev.mk)) (J) (by first|with_reducible exact Ev.mk|(simp(disch:=omega) only[go_sem,seval,reduceCtorEq,o,g,m,r,l,u,y,a3,z,j.gl,A,B,an,C,D,aE,au,List.set_cons_succ,List.set_cons_zero,d,k1];done)|(simp(disch:=omega) only[go_sem,seval,reduceCtorEq,o,g,m,r,l,u,y,a3,z,j.gl,A,B,an,C,D,aE,au,List.set_cons_succ,List.set_cons_zero,d,k1];with_reducible exact Ev.mk)) ?_)|(refine cW (by first|with_reducible exact Ev.mk|(simp(disch:=omega) only[go_sem,seval,reduceCtorEq,o,g,m,r,l,u,y,a3,z,j.gl,A,B,an,C,D,aE,au,List.set_cons_succ,List.set_cons_zero,d,k1];done)|(simp(disch:=omega) only[go_sem,seval,reduceCtorEq,o,g,m,r,l,u,y,a3,z,j.gl,A,B,an,C,D,aE,au,List.set_cons_succ,List.set_cons_zero,d,k1];with_reducible exact Ev.mk)) (J) ?_)|((first|apply aY|apply aQ)<;>intro c U<;>(simp(disch:=omega) only[go_sem,seval,reduceCtorEq,o,g,m,r,l,u,y,a3,z,j.gl,A,B,an,C,D,aE,au,List.set_cons_succ,List.set_cons_zero,d,k1,c])<;>clear c))
       refine aU ?_
       (try simp(disch:=omega) only[go_sem,seval,reduceCtorEq,l])
       have hn:(n==0)=false:=l;refine N6 f.w f.bw V.2.1 x O Z n (t.g++[(x,f.all)]) _ _ (fk f.w (x,true) t.d.2) _ ?_ f.w.length 0 ae _ _ E t.d.2 (by
        have h:=RI.start j (tJ M) ⟨ae,ae,λi hi=>by have:=g3 i hi;omega⟩ g m (x,f.all);have e:t.d.2.length=t.qs.length:=by simp[Tb.d]
        rw[e]at h;exact h) ⟨by simp[Tb.d];omega,λq P=>by
         simp only[Tb.d,List.mem_map]at P;obtain⟨p,hp,rfl⟩:=P;have:=hq p hp;simp[Qu.d];omega⟩ rfl
       intro H Q E F hB;have g:=F.b1;repeat'(first|(simp(disch:=omega) only[go_sem,seval,reduceCtorEq,g,au])|with_reducible exact Ev.mk|((first|apply aY|apply aQ)<;>intro c U<;>(simp(disch:=omega) only[go_sem,seval,reduceCtorEq,g,au,c])<;>clear c))
       refine aU ?_;refine ew ?_;refine N5 f.r f.br V.1.1 f.w f.bw f.all V.2.1 _ x (3145728+f.w.length) (by have:=V.2.1;omega) O Z n _ _ _ (fk (other f.w f.r) (x,false) (fk f.w (x,true) t.d.2)) _ ?_ f.r.length 0 ae _ _ E _ F hB rfl;intro H Q E F;obtain⟨xj,xk,xl,x4⟩:=F.lo;have w1:=HG (show(1:Nat)≠n by omega) F.v;have w2:=HG (show(1:Nat)≠2 by omega) F.b2;have w3:∀X,ag (aC (jJ H 1) 2 X) 2=some X:=λX=>by rw[aA,aq rfl,w2];rfl
       have x5:¬cO t.d.1 x<t.d.1.length:=c4;have x6:qx t.d.1 x=false:=by unfold qx;rw[lR (by show¬0<t.g.length;omega)];rfl
       have G:jK t.d x f=((t.g++[(x,f.all)],fk (other f.w f.r) (x,false) (fk f.w (x,true) t.d.2)),0):=by
        unfold jK;rw[M,c2,lR d,ak x5,x6];rfl
       (try simp(disch:=omega) only[go_sem,seval,reduceCtorEq,w1,w2,w3])
       have x7:=F.T.congr (H':=aC (jJ H 1) 2 (bq.var false [DV.ref O (t.g++[(x,f.all)]).length 0 (t.g++[(x,f.all)]).length,DV.ref Z (fk (other f.w f.r) (x,false) (fk f.w (x,true) t.d.2)).length 0 (fk (other f.w f.r) (x,false) (fk f.w (x,true) t.d.2)).length])) (nx':=Q) (λk hk=>by
        have h2:2<k:=by
         rcases hk with e|e|e
         .omega
         .omega
         .exact x4 k e
        rw[aA,ak ae,eC,ak ae]) (Nat.le_refl _) (λk hk=>by
        have:=F.n4;rw[aA,ak ae,eC,ak ae];exact F.T.free k hk)
       refine x3 _ _ (Td.u (t.g++[(x,f.all)],fk (other f.w f.r) (x,false) (fk f.w (x,true) t.d.2))) (by rw[G];exact Td.u_d _) ?_;rw[G];exact IM x7 0
      .have k1:(0:Int)<(t.g.length:Int):=ae;have k2:(0:Int)<=(t.g.length:Int)-1:=ae;have k3:(t.g.length:Int)-1=((t.g.length-1:Nat):Int):=ae;have L:=iq t.g (t.g.length-1) ae;have xe:qx t.g x=decide (x<(t.g[t.g.length-1]'ae).1):=by
        unfold qx;rw[fN t.g (t.g.length-1) ae,jl (by omega:0<t.g.length),Bool.true_and]
       have k4:(0:Int)<=((t.g.length-1:Nat):Int):=ae;by_cases I:x<(t.g[t.g.length-1]'ae).1
       .repeat'(first|exact S|exact Y|exact v3|(simp(disch:=omega) only[go_sem,seval,reduceCtorEq,d,k1,k3,k4,L,I,aE])|with_reducible exact Ev.mk|apply cT|((first|apply aY|apply aQ)<;>intro c U<;>(simp(disch:=omega) only[go_sem,seval,reduceCtorEq,d,k1,k3,k4,L,I,aE,c])<;>clear c))
        exact N 16 _ _ (by simp[jK,M,c2,d,td,c4,xe,I]) rfl
       .repeat'(first|exact S|exact Y|exact v3|(simp(disch:=omega) only[go_sem,seval,reduceCtorEq,d,k1,k3,k4,L,I,aE])|with_reducible exact Ev.mk|apply cT|((first|apply aY|apply aQ)<;>intro c U<;>(simp(disch:=omega) only[go_sem,seval,reduceCtorEq,d,k1,k3,k4,L,I,aE,c])<;>clear c))
        obtain⟨O,Z,E,H,n,J,j,K,g1,g2,g3⟩:=DL t ae ae (λq h=>by have:=hq q h;omega) [(2,bq.var false [DV.p (PV.slice true []),DV.p (PV.slice true [])]),(1,bq.var false [DV.p (PV.bool f.all),DV.p (PV.slice f.br (aF f.r)),DV.p (PV.slice f.bw (aF f.w))]),(0,bq.var false [DV.p (PV.slice t.gf (bM t.g)),DV.p (PV.slice t.qf (dL t.qs))])] 3 (λk hk=>by
         rw[aw,ak ae,aw,ak ae,aw,ak ae];rfl)
        have o:ag H 0=some (bq.var false [DV.p (PV.slice t.gf (bM t.g)),DV.p (PV.slice t.qf (dL t.qs))]):=K 0 ae;have g:ag H 1=some (bq.var false [DV.p (PV.bool f.all),DV.p (PV.slice f.br (aF f.r)),DV.p (PV.slice f.bw (aF f.w))]):=K 1 ae;have m:ag H 2=some (bq.var false [DV.p (PV.slice true []),DV.p (PV.slice true [])]):=K 2 ae;have xb:=j.AH;have xc:=j.Aj;have r:=j.free n (Nat.le_refl _);have l:=cj (show n≠0 by omega);have u:=cj (show n≠1 by omega);have y:=cj (show n≠2 by omega);have a3:=cj (show n≠O by omega);have z:=cj (show n≠Z by omega);have A:(t.g.length+1)*16<=140737488355328:=ae;have B:t.g.length+1<=140737488355328:=ae;have C:∀b,bT 2 [[PV.int IntKind.i64 x,PV.bool b]]=true:=λb=>rfl
        have D:∀X,ag (aC H O X) 1=some (bq.var false [DV.p (PV.bool f.all),DV.p (PV.slice f.br (aF f.r)),DV.p (PV.slice f.bw (aF f.w))]):=λX=>by rw[aA,ak ae,g]
        have e1:=C2 x f.all;repeat'(first|exact J|(simp(disch:=omega) only[go_sem,seval,reduceCtorEq,o,g,m,r,l,u,y,a3,z,j.gl,A,B,an,C,D,aE,au,List.set_cons_succ,List.set_cons_zero,d,k1,k3,k4,L,I])|with_reducible exact Ev.mk|refine pw ?_|apply nf|(refine ct (by first|with_reducible exact Ev.mk|(simp(disch:=omega) only[go_sem,seval,reduceCtorEq,o,g,m,r,l,u,y,a3,z,j.gl,A,B,an,C,D,aE,au,List.set_cons_succ,List.set_cons_zero,d,k1,k3,k4,L,I];done)|(simp(disch:=omega) only[go_sem,seval,reduceCtorEq,o,g,m,r,l,u,y,a3,z,j.gl,A,B,an,C,D,aE,au,List.set_cons_succ,List.set_cons_zero,d,k1,k3,k4,L,I];with_reducible exact Ev.mk)) (by first|with_reducible exact Ev.mk|(simp(disch:=omega) only[go_sem,seval,reduceCtorEq,o,g,m,r,l,u,y,a3,z,j.gl,A,B,an,C,D,aE,au,List.set_cons_succ,List.set_cons_zero,d,k1,k3,k4,L,I];done)|(simp(disch:=omega) only[go_sem,seval,reduceCtorEq,o,g,m,r,l,u,y,a3,z,j.gl,A,B,an,C,D,aE,au,List.set_cons_succ,List.set_cons_zero,d,k1,k3,k4,L,I];with_reducible exact Ev.mk)) (J) (by first|with_reducible exact Ev.mk|(simp(disch:=omega) only[go_sem,seval,reduceCtorEq,o,g,m,r,l,u,y,a3,z,j.gl,A,B,an,C,D,aE,au,List.set_cons_succ,List.set_cons_zero,d,k1,k3,k4,L,I];done)|(simp(disch:=omega) only[go_sem,seval,reduceCtorEq,o,g,m,r,l,u,y,a3,z,j.gl,A,B,an,C,D,aE,au,List.set_cons_succ,List.set_cons_zero,d,k1,k3,k4,L,I];with_reducible exact Ev.mk)) ?_)|(refine cW (by first|with_reducible exact Ev.mk|(simp(disch:=omega) only[go_sem,seval,reduceCtorEq,o,g,m,r,l,u,y,a3,z,j.gl,A,B,an,C,D,aE,au,List.set_cons_succ,List.set_cons_zero,d,k1,k3,k4,L,I];done)|(simp(disch:=omega) only[go_sem,seval,reduceCtorEq,o,g,m,r,l,u,y,a3,z,j.gl,A,B,an,C,D,aE,au,List.set_cons_succ,List.set_cons_zero,d,k1,k3,k4,L,I];with_reducible exact Ev.mk)) (J) ?_)|((first|apply aY|apply aQ)<;>intro c U<;>(simp(disch:=omega) only[go_sem,seval,reduceCtorEq,o,g,m,r,l,u,y,a3,z,j.gl,A,B,an,C,D,aE,au,List.set_cons_succ,List.set_cons_zero,d,k1,k3,k4,L,I,c])<;>clear c))
        refine aU ?_
        (try simp(disch:=omega) only[go_sem,seval,reduceCtorEq,l])
        have hn:(n==0)=false:=l;refine N6 f.w f.bw V.2.1 x O Z n (t.g++[(x,f.all)]) _ _ (fk f.w (x,true) t.d.2) _ ?_ f.w.length 0 ae _ _ E t.d.2 (by
         have h:=RI.start j (tJ M) ⟨ae,ae,λi hi=>by have:=g3 i hi;omega⟩ g m (x,f.all);have e:t.d.2.length=t.qs.length:=by simp[Tb.d]
         rw[e]at h;exact h) ⟨by simp[Tb.d];omega,λq P=>by
          simp only[Tb.d,List.mem_map]at P;obtain⟨p,hp,rfl⟩:=P;have:=hq p hp;simp[Qu.d];omega⟩ rfl
        intro H Q E F hB;have g:=F.b1;repeat'(first|(simp(disch:=omega) only[go_sem,seval,reduceCtorEq,g,au])|with_reducible exact Ev.mk|((first|apply aY|apply aQ)<;>intro c U<;>(simp(disch:=omega) only[go_sem,seval,reduceCtorEq,g,au,c])<;>clear c))
        refine aU ?_;refine ew ?_;refine N5 f.r f.br V.1.1 f.w f.bw f.all V.2.1 _ x (3145728+f.w.length) (by have:=V.2.1;omega) O Z n _ _ _ (fk (other f.w f.r) (x,false) (fk f.w (x,true) t.d.2)) _ ?_ f.r.length 0 ae _ _ E _ F hB rfl;intro H Q E F;obtain⟨xj,xk,xl,x4⟩:=F.lo;have w1:=HG (show(1:Nat)≠n by omega) F.v;have w2:=HG (show(1:Nat)≠2 by omega) F.b2;have w3:∀X,ag (aC (jJ H 1) 2 X) 2=some X:=λX=>by rw[aA,aq rfl,w2];rfl
        have x5:¬cO t.d.1 x<t.d.1.length:=c4;have x6:qx t.d.1 x=false:=by show qx t.g x=false;rw[xe,lR I]
        have G:jK t.d x f=((t.g++[(x,f.all)],fk (other f.w f.r) (x,false) (fk f.w (x,true) t.d.2)),0):=by
         unfold jK;rw[M,c2,lR d,ak x5,x6];rfl
        (try simp(disch:=omega) only[go_sem,seval,reduceCtorEq,w1,w2,w3])
        have x7:=F.T.congr (H':=aC (jJ H 1) 2 (bq.var false [DV.ref O (t.g++[(x,f.all)]).length 0 (t.g++[(x,f.all)]).length,DV.ref Z (fk (other f.w f.r) (x,false) (fk f.w (x,true) t.d.2)).length 0 (fk (other f.w f.r) (x,false) (fk f.w (x,true) t.d.2)).length])) (nx':=Q) (λk hk=>by
         have h2:2<k:=by
          rcases hk with e|e|e
          .omega
          .omega
          .exact x4 k e
         rw[aA,ak ae,eC,ak ae]) (Nat.le_refl _) (λk hk=>by
         have:=F.n4;rw[aA,ak ae,eC,ak ae];exact F.T.free k hk)
        refine x3 _ _ (Td.u (t.g++[(x,f.all)],fk (other f.w f.r) (x,false) (fk f.w (x,true) t.d.2))) (by rw[G];exact Td.u_d _) ?_;rw[G];exact IM x7 0
 obtain⟨⟨a,ha⟩,h⟩:=jg (T:=tb) (f:=15) (af:=TD) rfl rfl w;exact⟨a,ha,h⟩
end
section
open Go Go.Dv
def N2(r:Rq)(x:Int):PS tb 90 [.agg (zI r),.dT [.int .i64 x]] (.bool (r.1==x)):=by
 refine bD (af:=Yu) rfl rfl ?_;unfold Yu;dsimp only[List.map,aI,ai,zI];exact gN trivial k0;all_goals simp[aS,dep]
def WS(l:List Rq)(b:Bool)(x:Int)(v:l.length<=8388608)(K:Ex->St->Prop)
  (p:qu l x=-1->K (.exit 0) ⟨[],[],0,[0]⟩)
  (r:∀k,ag k.env 4=some (.p (.int .i64 (qu l x)))->K .ret k):∀(m i:Nat),i+m=l.length->(∀(j:Nat) (a:j<l.length),j<i->¬l[j].1=x)->
  W tb pf ⟨[(0,.p (.slice b (bM l))),(1,.p (.func 90 [.dT [.int .i64 x]])),(7,.p (.int .i64 l.length)),(8,.p (.int .i64 i))],[],0,[0]⟩ (LK tb (.ghost .lower pf) K):=by
 intro m;induction m with
 |zero=>
  rintro i s d;have e:¬(i:Int)<l.length:=ae;refine aH pf.eq_1 ?_;refine gN e (k1 ?_);refine p ?_;have:=Cv (l:=l) (x:=x) λj a=>d j a ae
  unfold qu;rw[ak ae]
 |succ m t=>
  rintro i s d;have e:(i:Int)<l.length:=ae;have f:i<l.length:=ae;have n:(0:Int)<=i:=ae;have o:=iq l i f;have q:=N2 l[i] x;simp only[zI]at q;refine aH pf.eq_1 ?_;by_cases c:l[i].1=x
  .have h:(l[i].1==x)=true:=by simp[c]
   rw[h]at q;refine gP (dS e o n) q (k1 ?_);refine r _ ?_;have:=wH f d c;unfold qu;rw[this,aq f];rfl
  .have h:(l[i].1==x)=false:=by simp[c]
   rw[h]at q;refine gP (dS e o n) q (k1 ?_);refine fJ (aU ?_);refine ew ?_;refine t (i+1) ae λj a u=>?_
   rcases bS j i with g|g
   .exact d j a g
   .have:j=i:=ae;subst this;exact c
def RY(l:List Rq)(b:Bool)(x:Int)(a:l.length<=8388608):PS tb 72 [.slice b (bM l),.func 90 [.dT [.int .i64 x]]] (.int .i64 (qu l x)):=by
 refine bD (af:=a72) rfl rfl ?_;unfold a72;dsimp only[List.map,aI,ai];refine gN @aE (k1 ?_);refine aU ?_;refine ew ?_;refine WS l b x a _ ?_ ?_ l.length 0 ae (λj d h=>ae)
 .intro e;refine gN trivial (k1 ?_);all_goals simp[aS,dep,e]
 .intro f c
  (try simp(disch:=omega) only[go_sem,seval,reduceCtorEq,c])
  try simp[aS,dep]
def dZ(x:Int)(r:Rq):Bool:=!(r.1==x)
abbrev R0:Rq:=(0,false)
def CH(l:List Rq)(i:Nat)(r:Rq):(bM l).set i [.int .i64 r.1,.bool r.2]=bM (l.set i r):=by simp[bM,List.map_set,zI]
def NQ(n:Nat):List.replicate n [PV.int .i64 0,PV.bool false]=bM (List.replicate n R0):=by simp[bM,zI]
def NN{H:Heap}{n:Nat}(h:ag H n=none):jJ H n=H:=by
 induction H with
 |nil=>rfl
 |cons a r b=>
  obtain⟨k,v⟩:=a;rw[aw]at h;split at h
  .cases h
  .rename_i c;rw[jJ,ak (by simpa using c),b h]
def My(l:List Rq)(x:Int)(T:l.length<=8388608)(r:Heap)(id c:Nat)(O:Bool)(s:ag r c=some (.var O [.p (.int .i64 x)]))(g:Nat)(hid:id<g)(P:c<g)(z:id≠c)(h:∀k,g<=k->ag r k=none)(D:Nat)(K:Ex->St->Prop)
  (Q:∀(a:List Rq) (i e:Nat),a.length=l.length->i<=l.length->a.take i=l.filter (dZ x)->g<=e->K (.exit 0) ⟨[(0,.ref id l.length 0 l.length),(5,.p (.int .i64 i))],(id,.row false 2 (bM a))::r,e,[D]⟩):
  ∀(m j:Nat),j+m=l.length->∀(a:List Rq) (i e:Nat),g<=e->a.length=l.length->i<j->a.take i=(l.take j).filter (dZ x)->(∀y,j<=y->a.getD y R0=l.getD y R0)->
  W tb yK ⟨[(0,.ref id l.length 0 l.length),(1,.func 90 [.ptr c 0]),(5,.p (.int .i64 i)),(6,.p (.int .i64 j))],(id,.row false 2 (bM a))::r,e,[D]⟩ (LK tb (.ghost (.free [7]) yK) K):=by
 intro m;induction m with
 |zero=>
  intro j R a i e n d A o f;have t:¬(j:Int)<l.length:=ae;rw[show l.take j=l from List.take_of_length_le ae]at o;refine aH yK.eq_1 ?_
  (try simp(disch:=omega) only[go_sem,seval,reduceCtorEq,t,aE,d])
  exact Q a i e d ae o n
 |succ m E=>
  intro j R a i e n d A o f;have t:j<l.length:=ae;have F:(j:Int)<l.length:=ae;have G:(0:Int)<=j:=ae;have H:(bM a)[j]?=some [.int .i64 l[j].1,.bool l[j].2]:=by
   rw[iq a _ ae];have:=f j (Nat.le_refl _);rw[fN a j ae,fN l j t]at this;rw[this]
  have I:=iq a i ae;have J:(i:Int)<(l.length:Int):=ae;have L:(0:Int)<=i:=ae;have B:=h e n;have u:=cj (show e≠id by omega);have v:=cj (show id≠e by omega);have M:=cj (show e≠c by omega);have N:=cj z;have p:=NN B;have b:(l.take (j+1)).filter (dZ x)=(l.take j).filter (dZ x)++if dZ x l[j]then[l[j]]else[]:=by
   rw[List.take_add_one,List.filter_append,List.getElem?_eq_getElem t];cases s:dZ x l[j]<;>simp[s]
  have q:=N2 l[j] x;simp only[zI]at q;refine aH yK.eq_1 ?_;cases w:dZ x l[j]with
  |true=>
   have C:(l[j].1==x)=false:=by simpa[dZ]using w
   rw[C]at q;rw[w,aq rfl,<-o]at b;refine gP (J4 F G H I J L d @aE @CH s B u v M N) q (k1 ?_);refine fJ (aU ?_)
   (try simp(disch:=omega) only[go_sem,seval,reduceCtorEq,u,v,p])
   refine E (j+1) ae (a.set i l[j]) (i+1) (e+1) ae (by simp[d]) ae ?_ (λy S=>?_)
   .rw[b,List.take_add_one,List.getElem?_eq_getElem (by simp;omega),List.take_set_of_le (Nat.le_refl _)];simp
   .rw[<-f y ae,List.getD_eq_getElem?_getD,List.getElem?_set_ne ae,List.getD_eq_getElem?_getD]
  |false=>
   have C:(l[j].1==x)=true:=by simpa[dZ]using w
   rw[C]at q;rw[w,ak az,List.append_nil]at b;refine gP (J4 F G H I J L d @aE @CH s B u v M N) q (k1 ?_);refine fJ (aU ?_)
   (try simp(disch:=omega) only[go_sem,seval,reduceCtorEq,u,v,p])
   exact E (j+1) ae a i (e+1) ae d ae (by rw[b,o]) (λy S=>f y ae)
def IN(l:List Rq)(x:Int)(F:l.length<=8388608)(g:Heap)(id c e:Nat)(G:Bool)(n:ag g c=some (.var G [.p (.int .i64 x)]))(hid:id<e)(B:c<e)(o:id≠c)(m:∀k,e<=k->ag g k=none):
  ∃(a:List Rq) (k b:Nat),BS tb 89 [.ref id l.length 0 l.length,.func 90 [.ptr c 0]] ((id,.row false 2 (bM l))::g) e (.ref id l.length 0 k) ((id,.row false 2 (bM a))::g) b/\a.length=l.length/\k<=l.length/\a.take k=l.filter (dZ x):=by
 have z:=RY l false x F;have A:=cj o;have w:W tb Tj.body {env:=ai 0 [.ref id l.length 0 l.length,.func 90 [.ptr c 0]],heap:=(id,.row false 2 (bM l))::g,next:=e,marks:=[e]}
   (eX Tj.results λv s=>∃q:List Rq×Nat×Nat,v=.ref id l.length 0 q.2.1/\s.heap=(id,.row false 2 (bM q.1))::g/\s.next=q.2.2/\(q.1.length=l.length/\q.2.1<=l.length/\q.1.take q.2.1=l.filter (dZ x))):=by
  unfold Tj;dsimp only[ai];by_cases t:cO l x<l.length
  .rw[pI t]at z;have H:(((cO l x:Nat):Int)==(-1:Int))=false:=fy.2 ae;have C:dZ x (l[cO l x])=false:=by
    have:(λr:Rq=>r.1==x) l[cO l x]=true:=List.findIdx_getElem (w:=t);simp only at this;unfold dZ;rw[this];rfl
   have u:(l.take (cO l x)).filter (dZ x)=l.take (cO l x):=List.filter_eq_self.2 λr D=>by
    obtain⟨j,I,rfl⟩:=List.mem_iff_getElem.1 D;simp only[List.length_take]at I;have:=List.not_of_lt_findIdx (p:=λr:Rq=>r.1==x) (xs:=l) (i:=j) (by unfold cO at I;omega);rw[List.getElem_take];unfold dZ;simpa using this
   repeat'(first|exact z|(simp(disch:=omega) only[go_sem,seval,reduceCtorEq,aE,j4,sg,n,A,H])|with_reducible exact Ev.mk|apply cT|((first|apply aY|apply aQ)<;>intro d K<;>(simp(disch:=omega) only[go_sem,seval,reduceCtorEq,aE,j4,sg,n,A,H,d])<;>clear d))
   refine aU ?_;refine ew ?_;refine My l x F g id c G n e hid B o m e _ ?_ (l.length-(cO l x+1)) (cO l x+1) ae l (cO l x) e (Nat.le_refl _) rfl ae ?_ (λ_ _=>rfl)
   .intro a k b E L M _;have N:(0:Int)<=k:=ae;have O:(k:Int)<=l.length:=ae;have P:k+(l.length-k)<=l.length:=ae;have J:(a.take k++List.replicate (l.length-k) R0++a.drop (k+(l.length-k))).length=l.length:=by simp;omega
    (try simp(disch:=omega) only[go_sem,seval,reduceCtorEq,N,O,P,aE,E,j4,IX,NQ,wg,List.length_replicate,J])
    refine⟨(a.take k++List.replicate (l.length-k) R0++a.drop (k+(l.length-k)),k,b),rfl,rfl,rfl,J,L,?_⟩;simp only;rw[List.append_assoc,List.take_append_of_le_length (by simp;omega),List.take_take,Nat.min_self,M]
   .rw[List.take_add_one,List.filter_append,u,List.getElem?_eq_getElem t];simp[C]
  .rw[pG t]at z;have y:l.filter (dZ x)=l:=List.filter_eq_self.2 λr D=>by
    have Q:cO l x=l.length:=by
     have:=List.findIdx_le_length (p:=λr:Rq=>r.1==x) (xs:=l);unfold cO at t⊢;omega
    have:=List.findIdx_eq_length.1 Q r D;unfold dZ;rw[this];rfl
   repeat'(first|exact z|(simp(disch:=omega) only[go_sem,seval,reduceCtorEq,aE,j4,sg,n,A])|with_reducible exact Ev.mk|apply cT|((first|apply aY|apply aQ)<;>intro d K<;>(simp(disch:=omega) only[go_sem,seval,reduceCtorEq,aE,j4,sg,n,A,d])<;>clear d))
   exact⟨(l,l.length,e),rfl,rfl,rfl,rfl,Nat.le_refl _,by rw[y];exact List.take_of_length_le (Nat.le_refl _)⟩
 obtain⟨⟨a,k,b⟩,h,R⟩:=G9 (T:=tb) (f:=89) (af:=Tj) (ι:=List Rq×Nat×Nat) rfl rfl w;exact⟨a,k,b,h,R⟩
def tT(l:List Rq)(b:Bool)(x:Int)(c:l.length<=8388608):PS tb 48 [.slice b (bM l),.int .i64 x] (.slice false (bM (l.filter (dZ x)))):=by
 obtain⟨h,k,i,d,e,f,g⟩:=IN l x c [(0,.var false [.p (.int .i64 x)])] 1 0 2 false rfl ae ae ae (λk f=>by rw[aw,ak ae];rfl)
 have j:(l.filter (dZ x)).length=k:=by rw[<-g,List.length_take];omega
 refine bD (af:=X6) rfl rfl ?_;unfold X6;dsimp only[List.map,aI,ai];repeat'(first|exact mj l b c _ _ rfl|exact d|(simp(disch:=omega) only[go_sem,seval,reduceCtorEq])|with_reducible exact Ev.mk|refine pw ?_|apply nf|(refine ct (by first|with_reducible exact Ev.mk|(simp(disch:=omega) only[go_sem,seval,reduceCtorEq];done)|(simp(disch:=omega) only[go_sem,seval,reduceCtorEq];with_reducible exact Ev.mk)) (by first|with_reducible exact Ev.mk|(simp(disch:=omega) only[go_sem,seval,reduceCtorEq];done)|(simp(disch:=omega) only[go_sem,seval,reduceCtorEq];with_reducible exact Ev.mk)) (mj l b c _ _ rfl) (by first|with_reducible exact Ev.mk|(simp(disch:=omega) only[go_sem,seval,reduceCtorEq];done)|(simp(disch:=omega) only[go_sem,seval,reduceCtorEq];with_reducible exact Ev.mk)) ?_)|(refine ct (by first|with_reducible exact Ev.mk|(simp(disch:=omega) only[go_sem,seval,reduceCtorEq];done)|(simp(disch:=omega) only[go_sem,seval,reduceCtorEq];with_reducible exact Ev.mk)) (by first|with_reducible exact Ev.mk|(simp(disch:=omega) only[go_sem,seval,reduceCtorEq];done)|(simp(disch:=omega) only[go_sem,seval,reduceCtorEq];with_reducible exact Ev.mk)) (d) (by first|with_reducible exact Ev.mk|(simp(disch:=omega) only[go_sem,seval,reduceCtorEq];done)|(simp(disch:=omega) only[go_sem,seval,reduceCtorEq];with_reducible exact Ev.mk)) ?_)|(refine cW (by first|with_reducible exact Ev.mk|(simp(disch:=omega) only[go_sem,seval,reduceCtorEq];done)|(simp(disch:=omega) only[go_sem,seval,reduceCtorEq];with_reducible exact Ev.mk)) (mj l b c _ _ rfl) ?_)|(refine cW (by first|with_reducible exact Ev.mk|(simp(disch:=omega) only[go_sem,seval,reduceCtorEq];done)|(simp(disch:=omega) only[go_sem,seval,reduceCtorEq];with_reducible exact Ev.mk)) (d) ?_)|((first|apply aY|apply aQ)<;>intro a m<;>(simp(disch:=omega) only[go_sem,seval,reduceCtorEq,a])<;>clear a))
 simp[aS,dep,ag,aE,e,f,j4,g]
end
section
open Go Go.Dv
def kV(x:Int)(a:List Qd):List Qd:=(a.map λq=>(q.1,q.2.filter (dZ x))).filter λq=>decide (0<q.2.length)
def lJ(t:Td)(x:Int):Td×Int:=
 if !gn t then(([],[]),1)
 else if cO t.1 x<t.1.length then((t.1.filter (dZ x),kV x t.2),0)
 else(([],[]),9)
def Eo(x:Int)(l:List Qd)(q:Qd):kV x (l++[q])=kV x l++if 0<(q.2.filter (dZ x)).length then[(q.1,q.2.filter (dZ x))]else[]:=by
 unfold kV;rw[List.map_append,List.filter_append];congr 1;by_cases c:0<(q.2.filter (dZ x)).length
 .rw[aq c];simp only[List.map_cons,List.map_nil];rw[List.filter_cons_of_pos (by simp only;exact jl c)];rfl
 .rw[ak c];simp only[List.map_cons,List.map_nil];rw[List.filter_cons_of_neg (by simp only;rw[lR c];simp)];rfl
def wq(x:Int)(q:Qu):Qu:=⟨q.key,false,q.reqs.filter (dZ x)⟩
def tg(x:Int)(q:Qu):[[PV.str q.key,PV.slice false (bM (q.reqs.filter (dZ x)))]]=dL [wq x q]:=rfl
def VX(b:List Qu)(r:Bool)(x:Int)(z:b.length<=8388608)(s:∀q∈b,q.reqs.length<=8388608)(G:PV)(K:Ex->St->Prop)
  (t:∀a:List Qu,a.map Qu.d=kV x (b.map Qu.d)->K (.exit 1) ⟨[(4,.ptr 1 0),(6,.ptr 2 0)],[(4,.row false 2 (dL a)),(2,.var false [.p G,.ref 4 a.length 0 a.length]),(1,.var false [.p (.slice true []),.p (.slice true [])])],5,[0]⟩):
  ∀(m i:Nat),i+m=b.length->∀a:List Qu,a.length<=i->a.map Qu.d=kV x ((b.take i).map Qu.d)->
  W tb pz ⟨[(1,.p (.int .i64 x)),(4,.ptr 1 0),(6,.ptr 2 0),(28,.p (.slice r (dL b))),(29,.p (.int .i64 b.length)),(30,.p (.int .i64 i))],[(4,.row false 2 (dL a)),(2,.var false [.p G,.ref 4 a.length 0 a.length]),(1,.var false [.p (.slice true []),.p (.slice true [])])],5,[0]⟩ (LK tb (.ghost (.free [2,8]) (.ghost .lower pz)) K):=by
 intro m;induction m with
 |zero=>
  rintro i u a v e;have f:¬(i:Int)<b.length:=ae;rw[List.take_of_length_le ae]at e;refine aH pz.eq_1 ?_;refine gN f (k1 ?_);exact t a e
 |succ m k=>
  rintro i u a v e;have f:(i:Int)<b.length:=ae;have g:i<b.length:=ae;have l:(0:Int)<=i:=ae;have n:=kZ b i g;have h:=s _ (List.getElem_mem g);have o:=tT b[i].reqs b[i].fl x h;have d:=Eo x ((b.take i).map Qu.d) (b[i].key,b[i].reqs);rw[<-nc b i g,<-e]at d;have w:(a.length+1)*40<=140737488355328:=ae;have y:a.length+1<=140737488355328:=ae;refine aH pz.eq_1 ?_;by_cases c:0<(b[i].reqs.filter (dZ x)).length
  .have j:(0:Int)<((b[i].reqs.filter (dZ x)).length:Int):=ae;have p:bT 2 (dL [wq x b[i]])=true:=yY _;rw[<-tg]at p;rw[aq c]at d;refine gP (rL f n l j @aE @cE w y Q9 p eW) o (k1 ?_);refine fJ (aU ?_)
   (try simp(disch:=omega) only[go_sem,seval,reduceCtorEq,tg,vL])
   have:=k (i+1) ae (a++[wq x b[i]]) (by simp;omega) (by rw[d];simp[wq,Qu.d]);rw[List.length_append,List.length_singleton]at this;exact this
  .have j:¬(0:Int)<((b[i].reqs.filter (dZ x)).length:Int):=ae;rw[ak c,List.append_nil]at d;refine gP (vE f n l j @aE @cE) o (k1 ?_);refine fJ (aU ?_);refine ew ?_;exact k (i+1) ae a ae d.symm
def Wj(a:List Qu)(l:Bool)(x:Int)(t:a.length<=8388608)(n:∀q∈a,q.reqs.length<=8388608)(G:PV)(K:Ex->St->Prop)
  (u:∀b:List Qu,b.map Qu.d=kV x (a.map Qu.d)->K (.exit 1) ⟨[(4,.ptr 1 0),(6,.ptr 2 0)],[(4,.row false 2 (dL b)),(2,.var false [.p G,.ref 4 b.length 0 b.length]),(1,.var false [.p (.slice true []),.p (.slice true [])])],5,[0]⟩)
  (g:kV x (a.map Qu.d)=[]->K (.exit 1) ⟨[(4,.ptr 1 0),(6,.ptr 2 0)],[(2,.var false [.p G,.p (.slice true [])]),(1,.var false [.p (.slice true []),.p (.slice true [])])],3,[0]⟩):
  ∀(m i:Nat),i+m=a.length->kV x ((a.take i).map Qu.d)=[]->
  W tb pz ⟨[(1,.p (.int .i64 x)),(4,.ptr 1 0),(6,.ptr 2 0),(28,.p (.slice l (dL a))),(29,.p (.int .i64 a.length)),(30,.p (.int .i64 i))],[(2,.var false [.p G,.p (.slice true [])]),(1,.var false [.p (.slice true []),.p (.slice true [])])],3,[0]⟩ (LK tb (.ghost (.free [2,8]) (.ghost .lower pz)) K):=by
 intro m;induction m with
 |zero=>
  rintro i v e;have f:¬(i:Int)<a.length:=ae;rw[List.take_of_length_le ae]at e;refine aH pz.eq_1 ?_;refine gN f (k1 ?_);exact g e
 |succ m w=>
  rintro i v e;have f:(i:Int)<a.length:=ae;have h:i<a.length:=ae;have o:(0:Int)<=i:=ae;have p:=kZ a i h;have j:=n _ (List.getElem_mem h);have r:=tT a[i].reqs a[i].fl x j;have d:=Eo x ((a.take i).map Qu.d) (a[i].key,a[i].reqs);rw[<-nc a i h,e]at d;refine aH pz.eq_1 ?_;by_cases c:0<(a[i].reqs.filter (dZ x)).length
  .have k:(0:Int)<((a[i].reqs.filter (dZ x)).length:Int):=ae;have s:bT 2 (dL [wq x a[i]])=true:=yY _;rw[<-tg]at s;rw[aq c]at d;refine gP (rG f p o k @aE @cE Q9 s eW) r (k1 ?_);refine fJ (aU ?_)
   (try simp(disch:=omega) only[go_sem,seval,reduceCtorEq,tg,vL])
   exact VX a l x t n G K u m (i+1) ae [wq x a[i]] az (by rw[d];simp[wq,Qu.d])
  .have k:¬(0:Int)<((a[i].reqs.filter (dZ x)).length:Int):=ae;rw[ak c,List.append_nil]at d;refine gP (vE f p o k @aE @cE) r (k1 ?_);refine fJ (aU ?_);refine ew ?_;exact w (i+1) ae d
def LH(t:Tb)(x:Int)(n:t.g.length<=8388608)(r:t.qs.length<=8388608)(u:∀q∈t.qs,q.reqs.length<=8388608):
  ∃a:Tb,a.d=(lJ t.d x).1/\PS tb 19 [.agg (lT t),.int .i64 x] (.tuple [.agg (lT a),.int .i64 (lJ t.d x).2]):=by
 have d:=A2 t n r u;have i:=qp t.g t.gf x n;have y:=tT t.g t.gf x n;have w:W tb TM.body {env:=ai 0 ([PV.agg (lT t),PV.int .i64 x].map aI),heap:=[],next:=0,marks:=[0]}
   (eX TM.results λv s=>∃q:{a:Tb//a.d=(lJ t.d x).1},aS s.heap dep v=some (.tuple [.agg (lT q.1),.int .i64 (lJ t.d x).2])):=by
  generalize hR:(λ(v:DV) (s:St)=>∃q:{a:Tb//a.d=(lJ t.d x).1},aS s.heap dep v=some (.tuple [.agg (lT q.1),.int .i64 (lJ t.d x).2]))=R;have c:∀(v:DV) (s:St) (a:Tb),a.d=(lJ t.d x).1->aS s.heap dep v=some (.tuple [.agg (lT a),.int .i64 (lJ t.d x).2])->R v s:=λv s a z o=>by
   subst hR;exact⟨⟨a,z⟩,o⟩
  clear hR;unfold TM;dsimp only[List.map,aI,ai,lT]at d i y⊢;have A:t.d.1=t.g:=rfl;have j:∀(e:Int) (v:DV) (s:St),lJ t.d x=(([],[]),e)->aS s.heap dep v=some (.tuple [.agg (lT T0),.int .i64 e])->R v s:=λe v s h o=>c v s T0 (by rw[h];rfl) (by rw[h];exact o)
  cases g:gn t.d with
  |false=>
   rw[g]at d;refine gP g d (k1 ?_);exact j 1 _ _ (by simp[lJ,g]) rfl
  |true=>
   rw[g]at d;by_cases m:cO t.g x<t.g.length
   .rw[pI m]at i;have k1:¬((cO t.g x:Nat):Int)<0:=ae;repeat'(first|exact d|exact i|exact y|(simp(disch:=omega) only[go_sem,seval,reduceCtorEq,k1,cE])|with_reducible exact Ev.mk|apply cT|((first|apply aY|apply aQ)<;>intro k D<;>(simp(disch:=omega) only[go_sem,seval,reduceCtorEq,k1,cE,k])<;>clear k))
    refine aU ?_;refine ew ?_;have b:lJ t.d x=((t.g.filter (dZ x),kV x (t.qs.map Qu.d)),0):=by
     unfold lJ;rw[g,ak az,aq (show cO t.d.1 x<t.d.1.length from m)];rfl
    refine Wj t.qs t.qf x r u _ _ ?_ ?_ t.qs.length 0 ae rfl
    .intro p l;refine ew ?_;refine c _ _ ⟨false,t.g.filter (dZ x),false,p⟩ (by rw[b,<-l];rfl) ?_
     rw[b];simp[aS,dep,ag,bP,lT,cE,List.take_of_length_le]
    .intro B;refine ew ?_;refine c _ _ ⟨false,t.g.filter (dZ x),true,[]⟩ (by rw[b,B];rfl) ?_
     rw[b];rfl
   .rw[pG m]at i;refine gP trivial (bA d i) (k1 ?_);exact j 9 _ _ (by simp[lJ,g,A,m]) rfl
 obtain⟨⟨a,C⟩,h⟩:=jg (T:=tb) (f:=19) (af:=TM) rfl rfl w;exact⟨a,C,h⟩
end
end Go.Dv.Tryz
