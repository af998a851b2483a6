/- Lemmas for the law of this claim. -/
import Derived.Test.YtcphhjkcgikdgaaGreatDoorP31
import Derived.Test.YtcphhjkcgikdgaaGreatDoorP26
import Derived.Test.YtcphhjkcgikdgaaGreatDoorP24
set_option linter.all false
set_option maxRecDepth 100000
set_option maxHeartbeats 8000000
namespace Go.Dv.Tryz
section
open Go Go.Dv
def Fq(a b c d e f g h:PV):bT 8 [[a,b,c,d,e,f,g,h]]=true:=rfl
def BH(l:List Ef)(e:Ef):bu l++[[.int .i64 e.st,.int .i64 e.code,.slice e.fo (cy e.out),.slice e.fr (aF e.reads),.slice e.fp (aF e.dm),.slice e.fw (aT e.writes),.str e.OQ,.int .i64 e.steps]]=bu (l++[e]):=by simp[bu,iP]
def kR(l:List Tx)(i:Nat)(h:i<l.length):(gp l)[i]?=some [.int .i64 l[i].id,.str l[i].proc,.slice l[i].fa (cy l[i].args),.bool l[i].dx.all,.slice l[i].dx.br (aF l[i].dx.r),.slice l[i].dx.bw (aF l[i].dx.w),.int .i64 l[i].att]:=NS l i h
structure nH(procs:List Pc)(l:List Tx):Prop where
 len:l.length<=1048576
 ok:∀t∈l,zX procs t
def UZ(a:List Pc)(s:List Pr)(l:List Tx)(b c d:Bool)(h:nH a l)(r:lS s):PS tb 28 [.slice b (eL a),.slice c (aT s),.slice d (gp l)] (.slice false (bu (l.map λt=>eA a t s))):=by
 have z:=h.len;refine bD (af:=a28) rfl rfl ?_;unfold a28;dsimp only[List.map,aI,ai];refine gN @ca (k1 ?_);refine bL (λj p=>∃i:Nat,i+j=l.length/\p=⟨[(0,.p (.slice b (eL a))),(1,.p (.slice c (aT s))),(7,.ref 0 i 0 i),(12,.p (.slice d (gp l))),(13,.p (.int .i64 l.length)),(14,.p (.int .i64 i))],[(0,.row false 8 (bu ((l.take i).map λt=>eA a t s)))],1,[0]⟩) ?_ l.length _ ⟨0,ae,rfl⟩;rintro j p ⟨i,A,rfl⟩;refine aH OX.eq_1 ?_;rcases bS i l.length with k|k
 .have m:(i:Int)<l.length:=ae;have u:(0:Int)<=i:=ae;have v:=kR l i k;have n:=xO (h.ok _ (List.getElem_mem k)) r b c;have f:=BH ((l.take i).map λt=>eA a t s) (eA a l[i] s);have q:(l.take i).map (λt=>eA a t s)++[eA a l[i] s]=(l.take (i+1)).map λt=>eA a t s:=by
   rw[List.take_succ_eq_append_getElem k,List.map_append];rfl
  rw[q]at f;have g:(bu ((l.take i).map λt=>eA a t s)).length=i:=by rw[cu,List.length_map,List.length_take];omega
  generalize eA a l[i] s=e at n f q;dsimp only[nM,iP]at n;have w:(i+1)*136<=an:=by simp only[an];omega
  have x:i+1<=an:=by simp only[an];omega
  refine gP (rG m u v @ca w x g f @Fq) n (k1 ?_);exact LI.next (m':=j-1) ae ⟨i+1,ae,rfl⟩
 .have m:¬(i:Int)<l.length:=ae;have y:i=l.length:=ae;rw[List.take_of_length_le k];have g:(bu (l.map λt=>eA a t s)).length=i:=by rw[cu,List.length_map];omega
  have o:(bu (l.map λt=>eA a t s)).take i=bu (l.map λt=>eA a t s):=List.take_of_length_le ae;exact gN (dS m g o) k0
end
section
open Go Go.Dv
def HU(l:List Ef):bT 8 (bu l)=true:=by simp[bT,bu,iP]
def mD:∀(l w:List Pr),(dj l w).length<=l.length+w.length
 |[],c=>by
  rw[dj];induction c with
  |nil=>simp
  |cons b r d=>rw[List.flatMap_cons,List.length_append,List.length_cons];have:=zu b;simp only[List.length_nil]at d⊢;omega
 |a::l,[]=>by rw[dj];simp
 |a::l,b::c=>by
  have e:=zu b;rw[dj];split
  .have:=mD l (b::c);simp only[List.length_cons]at this⊢;omega
  .split
   .have:=mD (a::l) c;simp only[List.length_cons,List.length_append]at this⊢;omega
   .have:=mD l c;simp only[List.length_cons,List.length_append]at this⊢;omega
termination_by l w=>l.length+w.length
noncomputable def fE (procs:List Pc) (l:List Tx) (s:List Pr) (i:Nat):List Ef:=(List.range l.length).map λj=>if j<i then bH procs l s j else eA procs (ec l j) s
section
variable{procs:List Pc}{l:List Tx}{s:List Pr}
def e8(i:Nat):(fE procs l s i).length=l.length:=by simp[fE]
def mP(i j:Nat)(h:j<l.length):(fE procs l s i)[j]'(by rw[e8];exact h)=if j<i then bH procs l s j else eA procs (ec l j) s:=by simp[fE]
def F8(i:Nat)(h:i<l.length):(fE procs l s i).set i (bH procs l s i)=fE procs l s (i+1):=by
 refine List.ext_getElem (by rw[List.length_set,e8,e8]) λj b a=>?_
 rw[e8]at a;rw[mP (i+1) j a,List.getElem_set];by_cases e:i=j
 .subst e;rw[aq rfl,aq (HF _)]
 .rw[ak e,mP i j a];by_cases c:j<i
  .rw[aq c,aq ae]
  .rw[ak c,ak ae]
def Mm(i:Nat)(h:i<l.length)(e:eA procs (ec l i) s=bH procs l s i):fE procs l s i=fE procs l s (i+1):=by
 rw[<-F8 i h];refine(List.ext_getElem (by rw[List.length_set]) λj b a=>?_).symm;rw[e8]at a;rw[List.getElem_set];by_cases c:i=j
 .subst c;rw[aq rfl,mP i i h,ak (Nat.lt_irrefl _),e]
 .rw[ak c]
def LX:fE procs l s 0=l.map λt=>eA procs t s:=by
 refine List.ext_getElem (by rw[e8,List.length_map]) λj b a=>?_
 rw[List.length_map]at a;rw[mP 0 j a,ak (Nat.not_lt_zero _),List.getElem_map];congr 1;simp[ec,List.getD_eq_getElem?_getD,a]
def Qm(i:Nat)(h:uM (eA procs (ec l i) s) ((fE procs l s i).take i)=true)(r:i<l.length):eA procs (ec l i) s=bH procs l s i:=by
 cases a:iJ s with
 |false=>
  unfold bH;rw[uG procs l a,rB procs a]
 |true=>
  rw[uv procs l a,rM procs l i a];refine(qz procs l).YN (cD s) λj d k e c=>?_
  rw[<-uv procs l a]at c;rw[rM procs l i a]at h;unfold uM at h;have f:=List.all_eq_true.1 h k e;have g:bH procs l s j∈(fE procs l s i).take i:=by
   refine List.mem_iff_getElem.2 ⟨j,by rw[List.length_take,e8];omega,?_⟩;rw[List.getElem_take,mP i j ae,aq d]
  have m:=List.all_eq_true.1 f _ g;obtain⟨n,_,q,o,b⟩:=c;have p:BA (bH procs l s j) k=true:=by
   unfold BA;rw[aL];exact⟨by simpa using n,List.any_eq_true.2 ⟨q,o,by simpa using b⟩⟩
  simp[p]at m
def mI(h:nH procs l)(b:s.length<=1048576/\∀p∈s,er p.v):∀n,n<=l.length->(dt procs l s n).length<=1048576+n*16385/\lS (dt procs l s n)
 |0,_=>⟨by simpa[dt]using b.1,⟨by have:=b.1;simp only[dt];omega,b.2⟩⟩
 |n+1,g=>by
  obtain⟨i,c⟩:=mI h b n ae;have e:ec l n∈l:=by
   rw[show ec l n=l[n]'ae by simp[ec,List.getD_eq_getElem?_getD,show n<l.length by omega]];exact List.getElem_mem _
  have d:=lr (h.ok _ e) c;have j:=h.len;have f:(eE (dt procs l s n) (eA procs (ec l n) (dt procs l s n))).length<=(dt procs l s n).length+16385/\∀p∈eE (dt procs l s n) (eA procs (ec l n) (dt procs l s n)),er p.v:=by
   unfold eE;split
   .refine⟨?_,λp a=>?_⟩
    .have:=mD (dt procs l s n) (eA procs (ec l n) (dt procs l s n)).writes;have:=d.wl;omega
    .rcases fO a with a|⟨a,_⟩
     .exact c.vs p a
     .exact d.wv p a
   .exact⟨Hi _ _,c.vs⟩
  refine⟨by show(eE _ _).length<=_;omega,⟨by show(eE _ _).length<=_;omega,f.2⟩⟩
def gQ(i:Nat)(h:i<l.length):ec l i=l[i]:=by simp[ec,List.getD_eq_getElem?_getD,h]
def K4(h:nH procs l)(b:s.length<=1048576/\∀p∈s,er p.v)(i:Nat):∀e∈fE procs l s i,rP e:=by
 intro e d;obtain⟨j,a,rfl⟩:=List.mem_iff_getElem.1 d;rw[e8]at a;rw[mP i j a];have c:=h.ok _ (List.getElem_mem a);rw[<-gQ j a]at c;split
 .exact lr c (mI h b j ae).2
 .exact lr c ⟨by have:=b.1;omega,b.2⟩
end
end
section
open Go Go.Dv
def WQ(a:List Pc)(s:List Pr)(l:List Tx)(b d:Bool)(h:nH a l)(hs:s.length<=1048576/\∀p∈s,er p.v)(R:Ex->St->Prop)(rw:List (List PV))(f0:Bool)(I:List (List PV))(V:I.length=l.length/\∀x∈I,x.length=1)
  (hR:∀f (n:List (List PV)),n.length=l.length->R (.exit 0) ⟨[(10,.ref 0 l.length 0 l.length),(11,.ref 1 l.length 0 l.length),(12,.p (.slice f (aT (dt a l s l.length))))],(2,.row true 4 rw)::(1,.row false 1 n)::[(0,.row false 8 (bu (fE a l s l.length)))],3,[0]⟩):
  W tb (.loop No) ⟨[(0,.p (.slice b (eL a))),(10,.ref 0 l.length 0 l.length),(11,.ref 1 l.length 0 l.length),(12,.p (.slice f0 (aT s))),(32,.p (.slice d (gp l))),(33,.p (.int .i64 l.length)),(34,.p (.int .i64 0))],(2,.row true 4 rw)::(1,.row false 1 I)::[(0,.row false 8 (bu (fE a l s 0)))],3,[0]⟩ R:=by
 have hl:=h.len;refine bL (λj st=>∃(i:Nat) (f:Bool) (n:List (List PV)),i+j=l.length/\n.length=l.length/\(∀x∈n,x.length=1)/\st=⟨[(0,.p (.slice b (eL a))),(10,.ref 0 l.length 0 l.length),(11,.ref 1 l.length 0 l.length),(12,.p (.slice f (aT (dt a l s i)))),(32,.p (.slice d (gp l))),(33,.p (.int .i64 l.length)),(34,.p (.int .i64 i))],(2,.row true 4 rw)::(1,.row false 1 n)::[(0,.row false 8 (bu (fE a l s i)))],3,[0]⟩) ?_ l.length _ ⟨0,f0,I,ae,V.1,V.2,rfl⟩;rintro j st ⟨i,f,n,hi,g,E,rfl⟩;refine aH No.eq_1 ?_;rcases bS i l.length with k|k
 .have J:(i:Int)<l.length:=ae;have T:(0:Int)<=i:=ae;have U:=kR l i k;have ht:=h.ok _ (List.getElem_mem k);have hq:=(mI h hs i ae).2;have N:=e8 (procs:=a) (l:=l) (s:=s) i;have x4:=K4 h hs i;have X:=mP (procs:=a) (l:=l) (s:=s) i i k;rw[ak (Nat.lt_irrefl _)]at X;have H:(bu (fE a l s i))[i]?=some (iP (eA a (ec l i) s)):=by rw[sC _ i (by rw[N];exact k),X]
  have K:=Mm (procs:=a) (l:=l) (s:=s) i k;have x5:=F8 (procs:=a) (l:=l) (s:=s) i k;have L:=Qm (procs:=a) (l:=l) (s:=s) i;have Y:=lr ht ⟨by have:=hs.1;omega,hs.2⟩ (s:=s);rw[<-gQ i k]at Y;have D:=Ma (eA a (ec l i) s) ((fE a l s i).take i) false Y (by rw[List.length_take,N];omega) λx Z=>x4 x (List.mem_of_mem_take Z)
  have c:=xO ht hq b f;rw[<-gQ i k]at c;have O:=lr ht hq;rw[<-gQ i k]at O;have w:(i:Int)<=l.length:=ae;have y:i<=l.length:=ae;have x6:∃z,n[i]?=some [z]:=by
   have hy:=E (n[i]'ae) (List.getElem_mem _);rcases x0:n[i]'ae with _|⟨z,_|⟨z2,r⟩⟩<;>rw[x0]at hy<;>simp at hy
   exact⟨z,by rw[List.getElem?_eq_getElem ae,x0]⟩
  obtain⟨z,A⟩:=x6;have B:(bu (fE a l s i)).length=l.length:=by rw[cu,N]
  have m:(bu (fE a l s (i+1))).length=l.length:=by rw[cu,e8]
  have C:(bu (fE a l s i)).take i=bu ((fE a l s i).take i):=by simp[bu]
  have t:(bu (fE a l s i)).set i (iP (bH a l s i))=bu (fE a l s (i+1)):=by rw[<-x5];simp[bu,List.map_set]
  have u:(bu (fE a l s (i+1)))[i]?=some (iP (bH a l s i)):=by rw[sC _ i (by rw[e8];exact k),mP (i+1) i k,aq (HF _)]
  have P:bH a l s i=eA a (ec l i) (dt a l s i):=rfl;have o:=Ad (dt a l s i) (bH a l s i).writes f (bH a l s i).fw hq.len hq.sz (by have:=O.wl;rw[<-P]at this;omega) (λq hm=>(O.wv q (by rw[<-P];exact hm)).2.2);have v:dt a l s (i+1)=eE (dt a l s i) (bH a l s i):=rfl;rw[<-P]at c;rw[gQ i k]at c D H K L;generalize bH a l s i=e at c o v u t K L;generalize xf:eA a l[i] s=gu at D H K L;dsimp only[nM,iP]at c H u t D;have Q:∀x∈n.set i [.bool true],x.length=1:=λx Z=>by
   rcases List.mem_or_eq_of_mem_set Z with Z|rfl
   .exact E x Z
   .rfl
  have S:(n.set i [.bool true]).length=l.length:=by rw[List.length_set];exact g
  cases ev:uM gu ((fE a l s i).take i)with
  |true=>
   rw[ev]at D;have e1:=L ev k;have e2:=K e1;rw[e1]at H D;by_cases F:e.st=1
   .by_cases M:(iJ (dt a l s i)&&gW e.writes)=true
    .rw[aq M]at o;have G:dt a l s (i+1)=dj (dt a l s i) e.writes:=by rw[v,eE,aq ⟨F,M⟩]
     refine gP (tD J T U @ca B m C H u A g t w y k lQ (bU F)) (bA D o) (k1 ?_);refine LI.next (m':=j-1) ae ⟨i+1,false,n,ae,g,E,?_⟩;rw[G,<-e2]
    .rw[ak M]at o;have G:dt a l s (i+1)=dt a l s i:=by rw[v,eE,ak λh=>M h.2]
     refine gP (tD J T U @ca B m C H u A g t w y k lQ (bU F)) (bA D o) (k1 ?_);refine LI.next (m':=j-1) ae ⟨i+1,f,n,ae,g,E,?_⟩;rw[G,<-e2]
   .have G:dt a l s (i+1)=dt a l s i:=by rw[v,eE,ak λh=>F h.1]
    refine gP (tD J T U @ca B m C H u A g t w y k lQ F) D (k1 ?_);refine LI.next (m':=j-1) ae ⟨i+1,f,n,ae,g,E,?_⟩;rw[G,<-e2]
  |false=>
   rw[ev]at D;by_cases F:e.st=1
   .by_cases M:(iJ (dt a l s i)&&gW e.writes)=true
    .rw[aq M]at o;have G:dt a l s (i+1)=dj (dt a l s i) e.writes:=by rw[v,eE,aq ⟨F,M⟩]
     refine gP (tD J T U @ca B m C H u A g t w y k lQ (bU F)) (dS D c o) (k1 ?_);refine LI.next (m':=j-1) ae ⟨i+1,false,n.set i [.bool true],ae,S,Q,?_⟩;rw[G]
    .rw[ak M]at o;have G:dt a l s (i+1)=dt a l s i:=by rw[v,eE,ak λh=>M h.2]
     refine gP (tD J T U @ca B m C H u A g t w y k lQ (bU F)) (dS D c o) (k1 ?_);refine LI.next (m':=j-1) ae ⟨i+1,f,n.set i [.bool true],ae,S,Q,?_⟩;rw[G]
   .have G:dt a l s (i+1)=dt a l s i:=by rw[v,eE,ak λh=>F h.1]
    refine gP (tD J T U @ca B m C H u A g t w y k lQ F) (bA D c) (k1 ?_);refine LI.next (m':=j-1) ae ⟨i+1,f,n.set i [.bool true],ae,S,Q,?_⟩;rw[G]
 .have J:¬(i:Int)<l.length:=ae;have x9:i=l.length:=ae;subst x9;have J:¬(l.length:Int)<l.length:=ae;refine gN J (k1 ?_);exact hR f n g
def Ci(l:List Ef)(n:Nat)(h:l.length=n):(bu l).take n=bu l:=List.take_of_length_le (by rw[cu];omega)
def Pb(a:List Pc)(s:List Pr)(l:List Tx)(b c d:Bool)(h:nH a l)(k:s.length<=1048576/\∀p∈s,er p.v):∃(f:Bool) (e:List (List PV)),PS tb 7 [.slice b (eL a),.slice c (aT s),.slice d (gp l)] (.tuple [.slice f (aT (dt a l s l.length)),.slice false (bu (fE a l s l.length)),.slice false e]):=by
 have L:=h.len;have t:=k.1;have m:lS s:=⟨ae,k.2⟩;have i:=UZ a s l b c d h m;rw[<-LX (procs:=a) (l:=l) (s:=s)]at i;have r:=e8 (procs:=a) (l:=l) (s:=s) 0;have j:=e8 (procs:=a) (l:=l) (s:=s) l.length;have w:W tb a7.body {env:=ai 0 ([PV.slice b (eL a),PV.slice c (aT s),PV.slice d (gp l)].map aI),heap:=[],next:=0,marks:=[0]} (eX a7.results λv u=>∃n:Bool×List (List PV),aS u.heap dep v=some (.tuple [.slice n.1 (aT (dt a l s l.length)),.slice false (bu (fE a l s l.length)),.slice false n.2])):=by
  unfold a7;dsimp only[List.map,aI,ai];have y:l.length*136<=an:=by simp only[an];omega
  have A:l.length<=an:=by simp only[an];omega
  have B:s.length*48<=an:=by simp only[an];omega
  have C:s.length<=an:=by simp only[an];omega
  have D:(0:Int)<=l.length:=ae;have E:(l.length:Int)<=140737488355328:=ae;have F:l.length*1<=an:=by simp only[an];omega
  have G:=Ci (fE a l s 0) l.length r;have H:∀z:List PV,(List.replicate l.length z).drop l.length=[]:=λz=>List.drop_eq_nil_of_le (by rw[List.length_replicate];exact Nat.le_refl _)
  have o:(List.replicate l.length [PV.bool false]).length=l.length/\∀x∈List.replicate l.length [PV.bool false],x.length=1:=⟨List.length_replicate,λx I=>by rw[(List.mem_replicate.1 I).2];rfl⟩
  have g:∀(f:Bool) (e:List (List PV)),e.length=l.length->e.take l.length=e:=λf e q=>List.take_of_length_le ae
  have J:=Ci (fE a l s l.length) l.length j;refine gP (tD @ca @bh @cu @HU r @pb y A B C D E F G H Ym YO) i (k1 ?_);rw[Tn];refine WQ a s l b d h k _ _ _ _ o λf e q=>?_
  have K:=g f e q;refine gN (dP q @cu j J K) (k1 ?_);all_goals exact⟨(_,_),rfl⟩
 obtain⟨⟨f,e⟩,h⟩:=jg (T:=tb) (f:=7) (af:=a7) rfl rfl w;exact⟨f,e,h⟩
end
section
open Go Go.Dv
def vg(l:List Pr)(b d:Bool)(h:l.length<=1099511627776):PS tb 8 [.slice b (aT l),.slice d (aT l)] (.bool true):=by
 refine bD (af:=a8) rfl rfl ?_;unfold a8;dsimp only[List.map,aI,ai];repeat'(first|(simp(disch:=omega) only[go_sem,seval,reduceCtorEq,bh,bne,beq_self_eq_true])|with_reducible exact Ev.mk|((first|apply aY|apply aQ)<;>intro a m<;>(simp(disch:=omega) only[go_sem,seval,reduceCtorEq,bh,bne,beq_self_eq_true,a])<;>clear a))
 refine bL (λj f=>∃i:Nat,i+j=l.length/\f=⟨[(0,.p (.slice b (aT l))),(1,.p (.slice d (aT l))),(5,.p (.int .i64 i))],[],0,[0]⟩) ?_ l.length _ ⟨0,ae,rfl⟩;rintro j f ⟨i,n,rfl⟩;refine aH Ui.eq_1 ?_;rcases bS i l.length with c|c
 .have e:(i:Int)<l.length:=ae;have g:(0:Int)<=i:=ae;have k:=kc l i c;refine gN (fW e g k @bh) (k1 ?_);exact LI.next (m':=j-1) ae ⟨i+1,ae,rfl⟩
 .have e:¬(i:Int)<l.length:=ae;exact gN (bA e @bh) k0
def Gl(l:List ByteArray)(b d:Bool)(h:l.length<=1099511627776):PS tb 62 [.slice b (aF l),.slice d (aF l)] (.bool true):=by
 refine bD (af:=YT) rfl rfl ?_;unfold YT;dsimp only[List.map,aI,ai];repeat'(first|(simp(disch:=omega) only[go_sem,seval,reduceCtorEq,au,bne,beq_self_eq_true])|with_reducible exact Ev.mk|((first|apply aY|apply aQ)<;>intro a m<;>(simp(disch:=omega) only[go_sem,seval,reduceCtorEq,au,bne,beq_self_eq_true,a])<;>clear a))
 refine bL (λj f=>∃i:Nat,i+j=l.length/\f=⟨[(0,.p (.slice b (aF l))),(1,.p (.slice d (aF l))),(5,.p (.int .i64 i))],[],0,[0]⟩) ?_ l.length _ ⟨0,ae,rfl⟩;rintro j f ⟨i,n,rfl⟩;refine aH Ow.eq_1 ?_;rcases bS i l.length with c|c
 .have e:(i:Int)<l.length:=ae;have g:(0:Int)<=i:=ae;have k:=dN l i c;repeat'(first|(simp(disch:=omega) only[go_sem,seval,reduceCtorEq,e,g,k,au,bne,beq_self_eq_true])|with_reducible exact Ev.mk|((first|apply aY|apply aQ)<;>intro a m<;>(simp(disch:=omega) only[go_sem,seval,reduceCtorEq,e,g,k,au,bne,beq_self_eq_true,a])<;>clear a))
  exact LI.next (m':=j-1) ae ⟨i+1,ae,rfl⟩
 .have e:¬(i:Int)<l.length:=ae;exact gN (bA e @au) k0
def P5(e:Ef)(h:rP e):PS tb 31 [.agg (iP e),.agg (iP e)] (.bool true):=by
 have f:=Gl e.reads e.fr e.fr (by have:=h.rl;omega);have g:=Gl e.dm e.fp e.fp (by have:=h.pl;omega);have k:=vg e.writes e.fw e.fw (by have:=h.wl;omega);have o:=h.ol;refine bD (af:=a31) rfl rfl ?_;unfold a31;dsimp only[List.map,aI,ai,iP];repeat'(first|exact f|exact g|exact k|(simp(disch:=omega) only[go_sem,seval,reduceCtorEq,b7,bne,beq_self_eq_true])|with_reducible exact Ev.mk|apply cT|((first|apply aY|apply aQ)<;>intro a d<;>(simp(disch:=omega) only[go_sem,seval,reduceCtorEq,b7,bne,beq_self_eq_true,a])<;>clear a))
 refine N1 rfl ⟨rfl,?_⟩;repeat'(first|(simp(disch:=omega) only[go_sem,seval,reduceCtorEq,b7,bne,beq_self_eq_true])|with_reducible exact Ev.mk|((first|apply aY|apply aQ)<;>intro a d<;>(simp(disch:=omega) only[go_sem,seval,reduceCtorEq,b7,bne,beq_self_eq_true,a])<;>clear a))
 refine bL (λj l=>∃i:Nat,i+j=e.out.length/\l=⟨[(2,.ptr 0 0),(3,.ptr 1 0),(5,.ptr 2 0),(6,.ptr 3 0),(7,.p (.int .i64 i))],[(3,.var false [.p (.int .i64 e.st),.p (.int .i64 e.code),.p (.slice e.fo (cy e.out))]),(2,.var false [.p (.int .i64 e.st),.p (.int .i64 e.code),.p (.slice e.fo (cy e.out))]),(1,.var false ((iP e).map .p)),(0,.var false ((iP e).map .p))],4,[0]⟩) ?_ e.out.length _ ⟨0,ae,rfl⟩;rintro j l ⟨i,p,rfl⟩;refine aH Og.eq_1 ?_;rcases bS i e.out.length with c|c
 .have b:(i:Int)<e.out.length:=ae;have m:(0:Int)<=i:=ae;have n:=uN e.out i c;repeat'(first|(simp(disch:=omega) only[go_sem,seval,reduceCtorEq,b,m,n,b7,iP])|with_reducible exact Ev.mk|((first|apply aY|apply aQ)<;>intro a d<;>(simp(disch:=omega) only[go_sem,seval,reduceCtorEq,b,m,n,b7,iP,a])<;>clear a))
  exact LI.next (m':=j-1) ae ⟨i+1,ae,rfl⟩
 .have b:¬(i:Int)<e.out.length:=ae;repeat'(first|exact f|exact g|exact k|(simp(disch:=omega) only[go_sem,seval,reduceCtorEq,b,b7,iP,beq_self_eq_true])|with_reducible exact Ev.mk|apply cT|((first|apply aY|apply aQ)<;>intro a d<;>(simp(disch:=omega) only[go_sem,seval,reduceCtorEq,b,b7,iP,beq_self_eq_true,a])<;>clear a))
  all_goals rfl
def QN(l:List Ef)(b d:Bool)(h:∀e∈l,rP e)(n:l.length<=1099511627776):PS tb 9 [.slice b (bu l),.slice d (bu l)] (.bool true):=by
 refine bD (af:=a9) rfl rfl ?_;unfold a9;dsimp only[List.map,aI,ai];repeat'(first|(simp(disch:=omega) only[go_sem,seval,reduceCtorEq,cu,bne,beq_self_eq_true])|with_reducible exact Ev.mk|((first|apply aY|apply aQ)<;>intro a o<;>(simp(disch:=omega) only[go_sem,seval,reduceCtorEq,cu,bne,beq_self_eq_true,a])<;>clear a))
 refine bL (λj g=>∃i:Nat,i+j=l.length/\g=⟨[(0,.p (.slice b (bu l))),(1,.p (.slice d (bu l))),(5,.p (.int .i64 i))],[],0,[0]⟩) ?_ l.length _ ⟨0,ae,rfl⟩;rintro j g ⟨i,p,rfl⟩;refine aH U1.eq_1 ?_;rcases bS i l.length with c|c
 .have f:(i:Int)<l.length:=ae;have m:(0:Int)<=i:=ae;have k:=sC l i c;have q:=P5 l[i] (h _ (List.getElem_mem c));dsimp only[iP]at k q;refine gP (fW f m k @cu) q (k1 ?_);exact LI.next (m':=j-1) ae ⟨i+1,ae,rfl⟩
 .have f:¬(i:Int)<l.length:=ae;exact gN (bA f @cu) k0
end
section
open Go Go.Dv
def Tc(l:List ByteArray)(b:Bool)(f:FuncId)(a:List PV)(p:ByteArray->Bool)(q:∀x,PS tb f (.str x::a) (.bool (p x)))(d:bP (aS [] dep) (a.map aI)=some a)(A:l.length<=1048576)(K:Ex->St->Prop)
  (h:(∀x∈l,p x=false)->K (.exit 0) ⟨[],[],0,[0]⟩)
  (r:∀i,i<l.length->p (l.getD i E)=true->(∀j,j<i->p (l.getD j E)=false)->K .ret ⟨[(4,.p (.int .i64 i))],[],0,[0]⟩):
  ∀(m i:Nat),i+m=l.length->(∀j,j<i->p (l.getD j E)=false)->
  W tb uB ⟨[(0,.p (.slice b (aF l))),(1,.p (.func f a)),(7,.p (.int .i64 l.length)),(8,.p (.int .i64 i))],[],0,[0]⟩ (LK tb (.ghost .lower uB) K):=by
 intro m;induction m with
 |zero=>
  intro i s e;have c:¬(i:Int)<l.length:=ae;refine aH uB.eq_1 ?_
  (try simp(disch:=omega) only[go_sem,seval,reduceCtorEq,c])
  refine h λx h=>?_
  obtain⟨j,n,rfl⟩:=List.mem_iff_getElem.1 h;have:=e j ae
  rwa [bW l j n]at this
 |succ m t=>
  intro i s e;have c:i<l.length:=ae;have u:(i:Int)<l.length:=ae;have w:=dN l _ c;have y:(0:Int)<=i:=ae;have z:bP (aS [] 5) (.p (.str l[i])::a.map aI)=some (.str l[i]::a):=by
   have:bP (aS [] 5) (a.map aI)=some a:=d;simp only[bP,aS,this]
  have k:=q l[i];refine aH uB.eq_1 ?_
  (try simp(disch:=omega) only[go_sem,seval,reduceCtorEq,u,w,y])
  refine Il (f:=f) (l:=.p (.str l[i])::a.map aI) (ps:=.str l[i]::a) (v:=.bool (p l[i])) (H:=[]) ?_ z k rfl rfl ?_
  .simp(disch:=omega) only[go_sem,reduceCtorEq,seval]
  .refine ew ?_;cases g:p l[i]with
   |true=>
    (try simp(disch:=omega) only[go_sem,seval,reduceCtorEq,g])
    exact r i c (by rw[bW l i c];exact g) e
   |false=>
    (try simp(disch:=omega) only[go_sem,seval,reduceCtorEq,g])
    refine fJ (aU ?_);refine ew ?_;refine t (i+1) ae λj n=>?_
    rcases bS j i with o|o
    .exact e j o
    .have:j=i:=ae;subst this;rw[bW l j c];exact g
def Rh(l:List ByteArray)(b:Bool)(f:FuncId)(a:List PV)(p:ByteArray->Bool)(d:∀x,PS tb f (.str x::a) (.bool (p x)))(c:bP (aS [] dep) (a.map aI)=some a)(e:l.length<=1048576):
  ∃n:Int,PS tb 121 [.slice b (aF l),.func f a] (.int .i64 n)/\((n=-1/\∀x∈l,p x=false)\/∃i:Nat,n=i/\i<l.length/\p (l.getD i E)=true/\∀j,j<i->p (l.getD j E)=false):=by
 have w:W tb Lt.body {env:=ai 0 ([PV.slice b (aF l),PV.func f a].map aI),heap:=[],next:=0,marks:=[0]} (eX Lt.results λv s=>∃n:{n:Int//(n=-1/\∀x∈l,p x=false)\/∃i:Nat,n=i/\i<l.length/\p (l.getD i E)=true/\∀j,j<i->p (l.getD j E)=false},aS s.heap dep v=some (.int .i64 n.1)):=by
  unfold Lt;dsimp only[List.map,aI,ai]
  (try simp(disch:=omega) only[go_sem,seval,reduceCtorEq,au])
  refine aU ?_;refine ew ?_;refine Tc l b f a p d c e _ ?_ ?_ l.length 0 ae (λj h=>ae)
  .intro g;refine ew ?_;exact⟨⟨-1,.inl ⟨rfl,g⟩⟩,rfl⟩
  .intro i k m o;refine ew ?_;exact⟨⟨i,.inr ⟨i,rfl,k,m,o⟩⟩,rfl⟩
 obtain⟨⟨n,q⟩,h⟩:=jg (T:=tb) (f:=121) (af:=Lt) rfl rfl w;exact⟨n,h,q⟩
end
section
open Go Go.Dv
def mr{f:FuncId}{af:av}(b:tb.A f=some af){args:List PV}{P:Int->Prop}(c:args.length=af.nparams)
  (h:W tb af.body {env:=ai 0 (args.map aI),heap:=[],next:=0,marks:=[0]} (eX af.results λv s=>∃n:{n:Int//P n},aS s.heap dep v=some (.int .i64 n.1)))(a:af.rs=false:=by rfl):∃n:Int,PS tb f args (.int .i64 n)/\P n:=by
 obtain⟨⟨n,d⟩,h⟩:=jg (T:=tb) b c h (hrs:=a);exact⟨n,h,d⟩
def uI{f:FuncId}{af:av}(b:tb.A f=some af){args:List PV}{P:Bool->Prop}(c:args.length=af.nparams)
  (h:W tb af.body {env:=ai 0 (args.map aI),heap:=[],next:=0,marks:=[0]} (eX af.results λv s=>∃n:{n:Bool//P n},aS s.heap dep v=some (.bool n.1)))(a:af.rs=false:=by rfl):∃n:Bool,PS tb f args (.bool n)/\P n:=by
 obtain⟨⟨n,d⟩,h⟩:=jg (T:=tb) b c h (hrs:=a);exact⟨n,h,d⟩
def DE(c:Int):∃b,PS tb 222 [.int .i32 c] (.bool b)/\True:=by
 refine uI (af:=a222) rfl rfl ?_;unfold a222;dsimp only[List.map,aI,ai];refine hN trivial (k2 ?_ ?_)<;>(repeat with_reducible intro a)
 all_goals exact⟨⟨_,trivial⟩,rfl⟩
noncomputable def VI (c:Int):Bool:=Classical.choose (DE c)
def Bl(c:Int):PS tb 222 [.int .i32 c] (.bool (VI c)):=(Ec (DE c)).1
def Kh(s:ByteArray):∃b,PS tb 224 [.str s] (.bool b)/\True:=by
 refine uI (af:=Ub) rfl rfl ?_;unfold Ub;dsimp only[List.map,aI,ai];repeat'(first|(simp(disch:=omega) only[go_sem,seval,reduceCtorEq])|with_reducible exact Ev.mk|((first|apply aY|apply aQ)<;>intro a c<;>(simp(disch:=omega) only[go_sem,seval,reduceCtorEq,a])<;>clear a))
 all_goals exact⟨⟨_,trivial⟩,rfl⟩
noncomputable def Zy (s:ByteArray):Bool:=Classical.choose (Kh s)
def RB(s:ByteArray):PS tb 224 [.str s] (.bool (Zy s)):=(Ec (Kh s)).1
def AP(a:Int):∃n:Int,PS tb 264 [.int .i64 a] (.int .i64 n)/\(10<=a/\a<=15\/22<=a/\a<=24->n=(if a<=15 then 2 else 1)):=by
 refine mr (af:=RH) rfl rfl ?_;unfold RH;dsimp only[List.map,aI,ai];repeat'(first|(simp(disch:=omega) only[go_sem,seval,reduceCtorEq])|with_reducible exact Ev.mk|((first|apply aY|apply aQ)<;>intro b c<;>(simp(disch:=omega) only[go_sem,seval,reduceCtorEq,b])<;>clear b))
 all_goals exact⟨⟨_,by intro h;split<;>omega⟩,rfl⟩
def Oy(K:Ex->St->Prop)(b:ByteArray)(f:∀e,(e=[]\/∃x y,e=[(3,x),(25,y)])->K .normal ⟨(0,.p (.str b))::e,[],0,[0]⟩)(g:∀(n:Int) d,ag d.env 2=some (.p (.int .i64 n))->K .ret d):∀(r:List (Nat×Int)) (e:List (Nat×DV)),(e=[]\/∃x y,e=[(3,x),(25,y)])->
   qZ tb (W tb zH) [.o 9 (.extract (.t 7) 1),.o 10 (.extract (.t 7) 2),.o 3 (.move (.t 9)),.o 4 (.move (.t 10))] 7 [6,7,5,8] (r.map mg) ⟨(0,.p (.str b))::e,[],0,[0]⟩ K
 |[],e,i=>by
   rw[List.map_nil,FB];exact f _ i
 |(p,c)::r,e,i=>by
   have k:=Oy K b f g r;have l:=Bl c;rw[List.map_cons,mg,Xj];generalize j:FK tb (W tb zH) [.o 9 (.extract (.t 7) 1),.o 10 (.extract (.t 7) 2),.o 3 (.move (.t 9)),.o 4 (.move (.t 10))] 7 [6,7,5,8] (r.map mg) _ K=m;have o:∀(x y:DV),m .normal ⟨[(0,.p (.str b)),(3,x),(25,y)],[],0,[]⟩:=λx y=>by
    rw[<-j,XH];exact k _ (.inr ⟨_,_,rfl⟩)
   have q:∀(n:Int) d,ag d.env 2=some (.p (.int .i64 n))->m .ret d:=λn d h=>by
    rw[<-j,Sz];exact g n _ h
   clear j k f g;unfold zH;rcases i with rfl|⟨x,y,rfl⟩
   .repeat'(first|exact l|(simp(disch:=omega) only[go_sem,seval,reduceCtorEq])|with_reducible exact Ev.mk|apply cT|((first|apply aY|apply aQ)<;>intro a s<;>(simp(disch:=omega) only[go_sem,seval,reduceCtorEq,a])<;>clear a))
    all_goals first|exact o _ _|exact q _ _ rfl
   .repeat'(first|exact l|(simp(disch:=omega) only[go_sem,seval,reduceCtorEq])|with_reducible exact Ev.mk|apply cT|((first|apply aY|apply aQ)<;>intro a s<;>(simp(disch:=omega) only[go_sem,seval,reduceCtorEq,a])<;>clear a))
    all_goals first|exact o _ _|exact q _ _ rfl
def Iy(s:ByteArray):∃n:Int,PS tb 223 [.str s] (.int .i64 n)/\True:=by
 refine mr (af:=RV) rfl rfl ?_;unfold RV;dsimp only[List.map,aI,ai];refine ew ?_;refine PF (b:=s) rfl rfl ?_;refine Oy _ s ?_ ?_ _ [] (.inl rfl)
 .rintro e (rfl|⟨x,y,rfl⟩)
  .refine ew ?_;exact⟨⟨_,trivial⟩,rfl⟩
  .refine ew ?_;exact⟨⟨_,trivial⟩,rfl⟩
 .intro n a h
  (try simp(disch:=omega) only[go_sem,seval,reduceCtorEq,h])
  exact⟨⟨_,trivial⟩,rfl⟩
end
section
open Go Go.Dv
abbrev FA:Ft:=⟨true,true,[],true,[]⟩
def jI(f:Ft):Ft:=if dk f then f else FA
def OL(f:Ft)(h:oO f):PS tb 51 [.agg (jZ f)] (.agg (jZ (jI f))):=by
 have a:=qw f h;refine bD (af:=a51) rfl rfl ?_;unfold a51;dsimp only[List.map,aI,ai,jZ];dsimp only[jZ]at a;unfold jI;cases e:dk f with
 |false=>
  rw[e]at a;refine gP eW a (k1 ?_);all_goals rfl
 |true=>
  rw[e]at a;exact gP eW a k0;all_goals rfl
def uq(e d:Ft):Bool:=d.all||(if e.all then decide (0<d.r.length)else e.w.any λk=>hasB d.r k)
def Vk(d:Ft)(h:oO d)(k:ByteArray):PS tb 95 [.str k,.dT (jZ d)] (.bool (hasB d.r k)):=by
 have a:=qA d.r k d.br h.1.1;refine bD (af:=Yh) rfl rfl ?_;unfold Yh;dsimp only[List.map,aI,ai,jZ];exact gP trivial a k0
def Um(e d:Ft)(f:oO e)(g:oO d):PS tb 94 [.slice e.bw (aF e.w),.func 95 [.dT (jZ d)]] (.bool (e.w.any λk=>hasB d.r k)):=by
 obtain⟨n,a,h⟩:=Rh e.w e.bw 95 [.dT (jZ d)] (λk=>hasB d.r k) (λx=>Vk d g x) rfl f.2.1;have j:decide (0<=n)=e.w.any λk=>hasB d.r k:=by
  rcases h with⟨rfl,l⟩|⟨i,rfl,b,c,_⟩
  .rw[show(e.w.any λk=>hasB d.r k)=false from List.any_eq_false.2 λx m=>by rw[l x m];simp];rfl
  .rw[bW e.w i b]at c;rw[List.any_eq_true.2 ⟨_,List.getElem_mem b,c⟩];simp
 refine bD (af:=Yj) rfl rfl ?_;unfold Yj;dsimp only[List.map,aI,ai];dsimp only[jZ]at a⊢;exact gP j a k0
def JS(e d:Ft)(b:oO e)(c:oO d):PS tb 50 [.agg (jZ e),.agg (jZ d)] (.bool (uq e d)):=by
 have a:=Um e d b c;refine bD (af:=YW) rfl rfl ?_;unfold YW;dsimp only[List.map,aI,ai,jZ];dsimp only[jZ]at a;unfold uq;cases f:d.all with
 |true=>
  exact gN trivial k0;all_goals simp
 |false=>
  cases g:e.all with
  |true=>
   refine gN @au (k1 ?_);all_goals simp
  |false=>
   rw[f]at a;exact gP @au a k0
def dW(l:List Nat):List (List PV):=l.map λ(n:Nat)=>[PV.int .i64 (n:Int)]
def c7(l:List Nat):(dW l).length=l.length:=by simp[dW]
def Dp(l:List Nat)(i:Nat)(h:i<l.length):(dW l)[i]?=some [.int .i64 (l[i]:Int)]:=by simp[dW,h]
def q7(l:List Nat)(n:Nat):dW l++[[.int .i64 (n:Int)]]=dW (l++[n]):=by simp[dW]
def Lk(l:List Nat)(n:Nat)(h:l.length=n):(dW l).take n=dW l:=List.take_of_length_le (by rw[c7];omega)
def Nl(l:List Nat)(b:Bool)(f:FuncId)(a:List PV)(q:Nat->Bool)(B:l.length<=1099511627776)(y:∀p∈l,PS tb f (.int .i64 (p:Int)::a) (.bool (q p)))(o:bP (aS [] 5) (a.map aI)=some a:=by rfl):
  ∃n:Int,PS tb 52 [.slice b (dW l),.func f a] (.int .i64 n)/\decide (0<=n)=l.any q:=by
 have w:W tb Vr.body {env:=ai 0 ([PV.slice b (dW l),PV.func f a].map aI),heap:=[],next:=0,marks:=[0]} (eX Vr.results λv s=>∃n:{n:Int//decide (0<=n)=l.any q},aS s.heap dep v=some (.int .i64 n.1)):=by
  unfold Vr;dsimp only[List.map,aI,ai];refine gN @c7 (k1 ?_);refine bL (λj r=>∃i:Nat,i+j=l.length/\(∀j,(h:j<i)->(C:j<l.length)->q l[j]=false)/\r=⟨[(0,.p (.slice b (dW l))),(1,.p (.func f a)),(7,.p (.int .i64 l.length)),(8,.p (.int .i64 i))],[],0,[0]⟩) ?_ l.length _ ⟨0,ae,λj h=>ae,rfl⟩;rintro j r ⟨i,D,t,rfl⟩;refine aH ON.eq_1 ?_;rcases bS i l.length with c|c
  .have d:(i:Int)<l.length:=ae;have u:(0:Int)<=i:=ae;have x:=Dp l i c;have g:=y _ (List.getElem_mem c);cases e:q l[i]with
   |true=>
    rw[e]at g;refine gP (dP d u @c7 x o) g (k1 ?_);exact⟨⟨i,by rw[List.any_eq_true.2 ⟨l[i],List.getElem_mem c,e⟩];simp⟩,rfl⟩
   |false=>
    rw[e]at g;refine gP (dP d u @c7 x o) g (k1 ?_);refine LI.next (m':=j-1) ae ⟨i+1,ae,λj k m=>?_,rfl⟩;rcases C3.1 k with h|rfl
    .exact t j h m
    .exact e
  .have d:¬(i:Int)<l.length:=ae;refine gN d (k1 ?_);refine⟨⟨-1,?_⟩,rfl⟩;have:l.any q=false:=by
    rw[List.any_eq_false];intro p z;obtain⟨j,k,rfl⟩:=List.mem_iff_getElem.1 z;rw[t j ae k];simp
   rw[this];rfl
 obtain⟨⟨n,A⟩,h⟩:=jg (T:=tb) (f:=52) (af:=Vr) rfl rfl w;exact⟨n,h,A⟩
def iV(D:Nat->Bool)(n:Nat):List (List PV):=(List.range n).map λi=>[.bool (D i)]
def fY(D:Nat->Bool)(n:Nat):(iV D n).length=n:=by simp[iV]
def tj(D:Nat->Bool)(n i:Nat)(h:i<n):(iV D n)[i]?=some [.bool (D i)]:=by simp[iV,h]
def NG(D:Nat->Bool)(n i:Nat)(h:i<n):(iV D n).set i [.bool true]=iV (j2 D i) n:=by
 refine List.ext_getElem (by rw[List.length_set,fY,fY]) λj a b=>?_
 rw[List.getElem_set];simp only[iV,List.getElem_map,List.getElem_range,j2];by_cases e:i=j
 .subst e;simp
 .rw[ak e];simp;omega
def Yx(D:Nat->Bool)(n i:Nat)(h:i<n):PS tb 25 [.int .i64 (i:Int),.dT [.slice false (iV D n)]] (.bool (!D i)):=by
 refine bD (af:=YR) rfl rfl ?_;unfold YR;dsimp only[List.map,aI,ai];have a:(0:Int)<=i:=ae;have b:(i:Int)<n:=ae;have c:=tj D n i h;exact gN (fW a b c @fY) k0
def Xr(D:Nat->Bool)(n:Nat)(l:List Nat)(b:Bool)(f:l.length<=1048576)(a:∀x∈l,x<n):PS tb 24 [.slice b (dW l),.func 25 [.dT [.slice false (iV D n)]]] (.bool (l.any λi=>!D i)):=by
 obtain⟨m,c,d⟩:=Nl l b 25 [.dT [.slice false (iV D n)]] (λi=>!D i) ae (λx e=>Yx D n x (a x e));refine bD (af:=a24) rfl rfl ?_;unfold a24;dsimp only[List.map,aI,ai];exact gP d c k0
end
end Go.Dv.Tryz
