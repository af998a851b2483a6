/- Lemmas for the law of this claim. -/
import Derived.Test.YtcphhjkcgikdgaaGreatDoorP05
import Derived.Laws.MakeOwn
set_option linter.all false
namespace Go.Dv
section
open Go.RowKit
section
variable{P:Program}{B:Nat}{w0:World}{U0:Nat->Prop}{β:Place}{H:Heap}{nx:Nat}{w:World}
def eE{t e:TypeId}(h:bY P t=some e):P.underlying t=some (.slice e):=by
 unfold bY at h;split at h
 .rename_i a;cases h;exact a
 .cases h
def lq{t:TypeId}{a:List PV}(h:lM P t a=true):∃i z,P.info? t=some i/\i.zero=some z/\iB z.cells.toList a=true/\i.size=a.length:=by
 unfold lM at h;cases c:P.info? t with
 |none=>rw[c]at h;cases h
 |some i=>
  rw[c]at h;simp only at h;cases b:i.zero with
  |none=>rw[b]at h;cases h
  |some z=>
   rw[b]at h;simp only[aO,cw]at h;exact⟨i,z,rfl,b,h.1,h.2⟩
def se{z:Value}{a:List PV}(d:iB z.cells.toList a=true){n:Nat}{i:Nat}{x:List PV}{j:Nat}{y:PV}(e:(List.replicate n a)[i]?=some x)(f:x[j]?=some y):
  (madeCells z.cells (n*a.length))[i*a.length+j]?=some (z.cells.toList.getD j undef)/\(z.cells.toList.getD j undef).oneCell'=true/\∀U,bP w U y (z.cells.toList.getD j undef):=by
 have l:i<n:=by have:=aL e;simpa using this
 have g:x=a:=by simp[l]at e;exact e.symm
 subst g;have m:=aL f;have c:z.cells.toList.length=x.length:=(fM (w:=w) (U:=λ_=>False) _ _ d).1;have h:i*x.length+j<n*x.length:=by
  have:(i+1)*x.length<=n*x.length:=c7 _ l;rw[dq,gX]at this;omega
 have b:z.cells.size=x.length:=by simpa using c
 have o:(i*x.length+j)%z.cells.size=j:=by rw[b,qy,Nat.mul_add_mod,Nat.mod_eq_of_lt m]
 refine⟨?_,((fM (w:=w) (U:=λ_=>False) _ _ d).2 j y f).2,λU=>((fM (w:=w) (U:=U) _ _ d).2 j y f).1⟩;simp only[madeCells,Array.getElem?_map,Array.getElem?_range,h,bZ,Option.map_some,o];congr 1;have k:j<z.cells.size:=ae;simp[k]
def QV{t:TypeId}{a:List PV}{bytes:Nat}(b:BH P t a bytes=true)(m:Mem B w0 U0 β H nx w){l c:Int}(D:0<=l)(E:l<=c)(F:c.toNat*bytes<=ak)(K:c<=140737488355328):
  ∃y u,(Instr.makeSlice t (.int .i64 l) (.int .i64 c)).run P w=.ok y u/\
   Good B w0 U0 H nx β w (.ref nx l.toNat 0 l.toNat) ((nx,.row false a.length (List.replicate l.toNat a))::H) (nx+1) y u:=by
 unfold BH at b;cases f:bY P t with
 |none=>rw[f]at b;cases b
 |some e=>
 rw[f]at b;simp only at b;have G:=eE f;cases k:P.info? e with
 |none=>rw[k]at b;cases b
 |some i=>
 rw[k]at b;simp only[aO,cw,cp]at b;obtain⟨⟨p,q⟩,v⟩:=b;obtain⟨L,z,n,I,g,r⟩:=lq q;rw[k]at n;cases n;subst p;have J:(i.bytes:Int)*c<=281474976710656:=by
  have e:c=(c.toNat:Int):=ae;have h:((i.bytes*c.toNat:Nat):Int)<=281474976710656:=by
   have:i.bytes*c.toNat<=140737488355328:=by rw[qy];exact F
   omega
  rw[e];rwa [Int.natCast_mul]at h
 have A:=run_make (P:=P) w t e i z G k I .i64 .i64 l c D E J ae;rw[r]at A;refine⟨_,_,A,?_⟩;have C:=I7 m a.length (List.replicate l.toNat a) (λ_ j=>z.cells.toList.getD j undef) (madeCells z.cells (c.toNat*a.length)) c.toNat e w rfl (Below.refl _ _) (size_madeCells _ _)
  (by simp;omega) ⟨λi x j y d o=>(se (w:=w) g d o).2.1,λi x j y d o=>(se (w:=w) g d o).2.2 _,λx d=>by rw[List.eq_of_mem_replicate d]⟩
  (λi x j y d o=>by
   have k:i<l.toNat:=by have:=aL d;simpa using this
   have s:(List.replicate c.toNat a)[i]?=some x:=by
    simp[k]at d;simp[List.getElem?_replicate];exact⟨ae,d⟩
   exact(se (w:=w) g s o).1)
 simp only[List.length_replicate]at C;exact C
def SU{t t2 ty:TypeId}{sz:Nat}(A:BJ P t sz=true)(m:Mem B w0 U0 β H nx w){v u:DV}{a x:Value}(ha:bj w (Own U0 β H) β H nx v a)(hx:bj w (Own U0 β H) β H nx u x)
  {s:List (List PV)}{xc:List Nat}(xd:jD H u=some (s,xc))(xe:bV sz s=true){r:DV}{H':Heap}{Y:Nat}
  (h:BD sz s v H nx=some (r,H',Y)):
  ∃y O,(Builtin.copy_ #[t,t2] ty #[a,x]).run P w=.ok y O/\Good B w0 U0 H nx β w r H' Y y O:=by
 unfold BJ at A;cases Q:bY P t with
 |none=>rw[Q]at A;cases A
 |some e=>
 rw[Q]at A;simp only[aO,cp]at A;obtain⟨xg,xu⟩:=A;have ht:=eE Q;obtain⟨R,J⟩:=Bk (P:=P) m xd hx xe;obtain⟨ax,cx,rfl⟩:=J.val;have K:∀(g:Option Addr) (n c k:Nat),Nat.min s.length n=k->(Builtin.copy_ #[t,t2] ty #[.slice g n c,.slice ax s.length cx]).run P w=
   (match g with|some S=>(storeCells S (flat k sz R)).run P w|none=>.ok () w).andThen λ_ O=>.ok (goInt k) O:=by
  intro g n c k U;have hp:=J.part w k rfl (by rw[<-U];exact Nat.min_le_left _ _);cases g<;>simp[Builtin.copy_,run_underlying ht,Builtin.lenOf,run_sizeOf xg,U,hp]
 have L:∀(g:Option Addr) (n c:Nat),Nat.min s.length n=0->(Builtin.copy_ #[t,t2] ty #[.slice g n c,.slice ax s.length cx]).run P w=.ok (goInt 0) w:=by
  intro g n c M;rw[K g n c 0 M];cases g<;>simp[flat,storeCells]
 unfold BD at h;have xk:(∃C F,v=.p (.slice C F))\/(∃id V f n,v=.ref id V f n):=by
  cases v with
  |p q=>cases q with
   |slice C F=>exact .inl ⟨_,_,rfl⟩
   |_=>cases h
  |ref id V f n=>exact .inr ⟨_,_,_,_,rfl⟩
  |_=>cases h
 rcases xk.symm with⟨id,V,f,n,rfl⟩|⟨C,F,rfl⟩
 .simp only at h;split at h
  .rename_i d F Z;split at h
   .rename_i hc;obtain⟨N,D,rfl⟩:=hc;cases h;have G:(s.take n).length=Nat.min s.length n:=by simp[Nat.min_comm]
    have W:Nat.min s.length n=0->∃y O,(Builtin.copy_ #[t,t2] ty #[a,.slice ax s.length cx]).run P w=.ok y O/\
      Good B w0 U0 H nx β w (.p (.int .i64 (min s.length n:Nat))) (aH H id (.row false d (putAt F f (s.take n)))) nx y O:=by
     intro M;have e0:s.take n=[]:=List.eq_nil_of_length_eq_zero (by rw[G,M]);have e1:putAt F f (s.take n)=F:=by rw[e0];simp[putAt]
     rw[e1];cases ha with|ref _ _ _ _ _ hid X E=>
     have xl:∃g c,a=.slice g n c:=by
      rcases(E _ _ _ Z).2 N D with⟨rfl,_,S,rfl⟩|⟨b,x0,S,hb,rfl,_⟩
      .simp at D;obtain⟨rfl,rfl⟩:=D;exact⟨_,_,rfl⟩
      .exact⟨_,_,rfl⟩
     obtain⟨g,c,rfl⟩:=xl;refine⟨_,_,L g n c M,np m (lW Z) (.p _ _ ?_)⟩;have:(min s.length n:Nat)=0:=M;rw[this];exact .int _ _
    by_cases M:Nat.min s.length n=0
    .exact W M
    .have xm:0<n:=by
      rcases tK n with rfl|h'
      .exact absurd (Nat.min_zero _) M
      .exact h'
     cases ha with|ref _ _ _ _ _ hid X E=>
     rcases(E _ _ _ Z).2 N D with⟨rfl,_,S,rfl⟩|⟨b,x0,S,hb,rfl,xn⟩
     .simp at D;omega
     .obtain rfl:=xn (.inl xm);rcases m.h.aY id _ Z with⟨y6,hn⟩|⟨b',xx,x1,T,h1,h2,h3,h4,h5,h6,vs,h7,h8,h9⟩
      .rw[hb]at hn;cases hn
      .rw[hb]at h1;simp only[aw,bQ]at h1;obtain⟨rfl,rfl⟩:=h1;generalize U:Nat.min s.length n=k at*;have yd:k<=s.length:=by rw[<-U];exact Nat.min_le_left _ _
       have ye:k<=n:=by rw[<-U];exact Nat.min_le_right _ _
       have x2:f*d+(flat k d R).length<=x1.size:=by
        rw[bJ,h4,<-dq];exact c7 _ ae
       have x3:∀v∈flat k d R,v.oneCell'=true:=by
        intro v hv;obtain⟨q,hq,rfl⟩:=List.mem_iff_getElem.1 hv;obtain⟨yh,g1,g2,ge⟩:=eI R (List.getElem?_eq_getElem hq);rw[ge];have hx:=List.getElem?_eq_getElem (show q/d<s.length by omega);exact J.el.one _ _ _ _ hx (List.getElem?_eq_getElem (by rw[J.el.sz _ (List.getElem_mem _)];exact g2))
       have x4:=j1 (P:=P) (b:=b) (off:=f*d) (T:=T) (flat k d R) 0 w x1 h3 x3 ae;simp only[pO]at x4;have hr:=K (some ⟨b,f*d,none⟩) n (x0-f) k U;simp only[x4,Result.andThen_ok]at hr;refine⟨_,_,hr,lh m Z hb h2 h3 (by rw[bW,h4]) (by rw[eG _ _ _ ae];exact h5) (by rw[eG _ _ _ ae];exact Nat.le_refl _)
        (λi j=>if f<=i/\i<f+k then R (i-f) j else vs i j) ⟨?_,?_,?_⟩ ?_ _ _ (λH' xq he yk=>?_)⟩
       .intro i z j p l I;rw[fL _ _ _ ae,G]at l;split at l
        .rename_i o;rw[aq o];rw[List.getElem?_take,aq ae]at l;exact J.el.one _ _ _ _ l I
        .rename_i o;rw[an o];exact h8 _ _ _ _ l I
       .intro i z j p l I;rw[fL _ _ _ ae,G]at l;split at l
        .rename_i o;rw[aq o];rw[List.getElem?_take,aq ae]at l;exact J.el.rep _ _ _ _ l I
        .rename_i o;rw[an o];exact h9 _ _ _ _ l I
       .intro z l;simp only[putAt,List.mem_append]at l;rcases l with(l|l)|l
        .exact h6 _ (List.mem_of_mem_take l)
        .exact J.el.sz _ (List.mem_of_mem_take l)
        .exact h6 _ (List.mem_of_mem_drop l)
       .intro i z j p l I;have yl:i<F.length:=by have:=aL l;rw[eG _ _ _ ae]at this;exact this
        rw[fL _ _ _ ae,G]at l;rw[fg _ _ _ _ x2,bJ];have ek:(f+k)*d=f*d+k*d:=dq _ _ _;split at l
        .rename_i o;rw[List.getElem?_take,aq ae]at l;have x5:j<d:=by have:=aL I;rw[J.el.sz z (List.mem_of_getElem? l)]at this;exact this
         have e1:i*d=f*d+(i-f)*d:=by rw[<-dq];congr 1;omega
         have e2:(i-f+1)*d<=k*d:=c7 _ ae;rw[dq,gX]at e2;rw[aq ⟨ae,ae⟩,aq o,show i*d+j-f*d=(i-f)*d+j from ae];exact iW R ae x5
        .rename_i o;have x5:j<d:=by have:=aL I;rw[h6 z (List.mem_of_getElem? l)]at this;exact this
         rw[an,an o]
         .exact h7 _ _ _ _ l I
         .rintro⟨g1,g2⟩;rcases cK i f with xt|yn
          .have:(i+1)*d<=f*d:=c7 _ xt;rw[dq,gX]at this;omega
          .have:(f+k)*d<=i*d:=c7 _ ae;omega
       .subst xq;have:((min s.length n:Nat):Int)=(k:Int):=by rw[<-U]
        rw[this];exact .p _ _ (.int _ _)
   .cases h
  .cases h
 .simp only at h;cases ha with|p _ _ hp=>
  obtain⟨S,c,rfl,_,_⟩:=hp.kz;split at h
  .rename_i he;cases h;simp only[iT,List.isEmpty_iff]at he;refine⟨_,_,L S F.length c ?_,bl m (.p _ _ (.int _ _))⟩;rcases he with rfl|rfl
   .exact Nat.min_zero _
   .exact Nat.zero_min _
  .cases h
def Bt{z:Value}{b:Nat}(c:z.cells.size=b)(n:Nat):(Builtin.zeroCells z.cells n).toList=flat n b λ_ j=>z.cells.toList.getD j undef:=by
 subst c;apply List.ext_getElem?;intro k;by_cases a:k<n*z.cells.size
 .have d:0<z.cells.size:=by
   rcases tK z.cells.size with h|h
   .rw[h]at a;simp at a
   .exact h
  have e:k%z.cells.size<z.cells.size:=Nat.mod_lt _ d;simp[Builtin.zeroCells,flat,a,e]
 .rw[List.getElem?_eq_none (by simp[Builtin.zeroCells];omega),List.getElem?_eq_none (by rw[bJ];omega)]
def QH{t ty:TypeId}{d:List PV}(s:zl P t d=true)(m:Mem B w0 U0 β H nx w){v:DV}{a:Value}(ha:bj w (Own U0 β H) β H nx v a){r:DV}{H':Heap}{V:Nat}
  (h:xJ d v H nx=some (r,H',V)):
  ∃y w',(Builtin.clear_ #[t] ty #[a]).run P w=.ok y w'/\Good B w0 U0 H nx β w r H' V y w':=by
 unfold zl at s;cases J:bY P t with
 |none=>rw[J]at s;cases s
 |some e=>
 rw[J]at s;simp only[aO,cp]at s;obtain⟨xa,xn⟩:=s;have ht:=eE J;obtain⟨i,z,hi,hz,K,xb⟩:=lq xa;have W:z.cells.size=d.length:=by simpa using(fM (w:=w) (U:=λ_=>False) _ _ K).1
 have E:∀(l:Option Addr) (c:Nat),(Builtin.clear_ #[t] ty #[.slice l 0 c]).run P w=.ok (.tuple #[]) w:=by
  intro l c;cases l<;>simp[Builtin.clear_,run_underlying ht]
 have X:∀(D:Addr) (n c:Nat),0<n->(Builtin.clear_ #[t] ty #[.slice (some D) n c]).run P w=
   ((storeCells D (flat n d.length λ_ j=>z.cells.toList.getD j undef)).run P w).andThen λ_ w'=>.ok (.tuple #[]) w':=by
  intro D n c hn;obtain⟨n,rfl⟩:∃k,n=k+1:=⟨n-1,ae⟩;rw[<-Bt W];simp[Builtin.clear_,run_underlying ht,zeroValue,typeInfo,hi,hz]
 unfold xJ at h;have xd:(∃u L,v=.p (.slice u L))\/(∃id M f n,v=.ref id M f n):=by
  cases v with
  |p q=>cases q with
   |slice u L=>exact .inl ⟨_,_,rfl⟩
   |_=>cases h
  |ref id M f n=>exact .inr ⟨_,_,_,_,rfl⟩
  |_=>cases h
 rcases xd.symm with⟨id,M,f,n,rfl⟩|⟨u,L,rfl⟩
 .simp only at h;split at h
  .rename_i xx L Y;split at h
   .rename_i hc;obtain⟨F,N,rfl⟩:=hc;cases h;cases ha with|ref _ _ _ _ _ hid xe G=>
    rcases tK n with rfl|Z
    .have e1:putAt L f (List.replicate 0 d)=L:=by simp[putAt]
     rw[e1];have xf:∃l c,a=.slice l 0 c:=by
      rcases(G _ _ _ Y).2 F N with⟨rfl,_,D,rfl⟩|⟨b,x0,D,hb,rfl,_⟩
      .exact⟨_,_,rfl⟩
      .exact⟨_,_,rfl⟩
     obtain⟨l,c,rfl⟩:=xf;exact⟨_,_,E l c,np m (lW Y) bj.undef⟩
    .rcases(G _ _ _ Y).2 F N with⟨rfl,_,D,rfl⟩|⟨b,x0,D,hb,rfl,xg⟩
     .simp at N;omega
     .obtain rfl:=xg (.inl Z);rcases m.h.aY id _ Y with⟨xz,hn⟩|⟨b',xq,x1,T,h1,h2,h3,h4,h5,h6,vs,h7,h8,h9⟩
      .rw[hb]at hn;cases hn
      .rw[hb]at h1;simp only[aw,bQ]at h1;obtain⟨rfl,rfl⟩:=h1;generalize O:(λ(_:Nat) (j:Nat)=>z.cells.toList.getD j undef)=I;have A:∀i j,j<d.length->(I i j).oneCell'=true:=by
        intro i j C;rw[<-O];exact((fM (w:=w) (U:=λ_=>False) _ _ K).2 j _ (List.getElem?_eq_getElem C)).2
       have Q:∀U i j y,d[j]?=some y->bP w U y (I i j):=by
        intro U i j y hy;rw[<-O];exact((fM (w:=w) (U:=U) _ _ K).2 j _ hy).1
       have R:(List.replicate n d).length=n:=aB;have x2:f*d.length+(flat n d.length I).length<=x1.size:=by
        rw[bJ,h4,<-dq];exact c7 _ ae
       have x3:∀v∈flat n d.length I,v.oneCell'=true:=by
        intro v hv;obtain⟨q,hq,rfl⟩:=List.mem_iff_getElem.1 hv;obtain⟨xb,g1,g2,ge⟩:=eI I (List.getElem?_eq_getElem hq);rw[ge];exact A _ _ g2
       have x4:=j1 (P:=P) (b:=b) (off:=f*d.length) (T:=T) (flat n d.length I) 0 w x1 h3 x3 ae;simp only[pO]at x4;have hr:=X ⟨b,f*d.length,none⟩ n (x0-f) Z;rw[O]at hr;simp only[x4,Result.andThen_ok]at hr;have S:∀(i:Nat) (x:List PV),(List.replicate n d)[i]?=some x->x=d:=λi x g=>List.eq_of_mem_replicate (List.mem_of_getElem? g)
       refine⟨_,_,hr,lh m Y hb h2 h3 (by rw[bW,h4]) (by rw[eG _ _ _ ae];exact h5) (by rw[eG _ _ _ ae];exact Nat.le_refl _)
        (λi j=>if f<=i/\i<f+n then I (i-f) j else vs i j) ⟨?_,?_,?_⟩ ?_ _ _ (λH' yb he yc=>bj.undef)⟩
       .intro i x j p g C;rw[fL _ _ _ ae,R]at g;split at g
        .rename_i o;rw[aq o];obtain rfl:=S _ _ g;exact A _ _ (aL C)
        .rename_i o;rw[an o];exact h8 _ _ _ _ g C
       .intro i x j p g C;rw[fL _ _ _ ae,R]at g;split at g
        .rename_i o;rw[aq o];obtain rfl:=S _ _ g;exact Q _ _ _ _ C
        .rename_i o;rw[an o];exact h9 _ _ _ _ g C
       .intro x g;simp only[putAt,List.mem_append]at g;rcases g with(g|g)|g
        .exact h6 _ (List.mem_of_mem_take g)
        .rw[List.eq_of_mem_replicate g]
        .exact h6 _ (List.mem_of_mem_drop g)
       .intro i x j p g C;have yd:i<L.length:=by have:=aL g;rw[eG _ _ _ ae]at this;exact this
        rw[fL _ _ _ ae,R]at g;rw[fg _ _ _ _ x2,bJ];have ek:(f+n)*d.length=f*d.length+n*d.length:=dq _ _ _;split at g
        .rename_i o;have x5:j<d.length:=by have:=aL C;rw[S _ _ g]at this;exact this
         have e1:i*d.length=f*d.length+(i-f)*d.length:=by rw[<-dq];congr 1;omega
         have e2:(i-f+1)*d.length<=n*d.length:=c7 _ ae;rw[dq,gX]at e2;rw[aq ⟨ae,ae⟩,aq o,show i*d.length+j-f*d.length=(i-f)*d.length+j from ae];exact iW I ae x5
        .rename_i o;have x5:j<d.length:=by have:=aL C;rw[h6 x (List.mem_of_getElem? g)]at this;exact this
         rw[an,an o]
         .exact h7 _ _ _ _ g C
         .rintro⟨g1,g2⟩;rcases cK i f with xl|yf
          .have:(i+1)*d.length<=f*d.length:=c7 _ xl;rw[dq,gX]at this;omega
          .have:(f+n)*d.length<=i*d.length:=c7 _ ae;omega
   .cases h
  .cases h
 .simp only at h;cases ha with|p _ _ hp=>
  obtain⟨D,c,rfl,_,_⟩:=hp.kz;split at h
  .rename_i he;cases h;simp only[List.isEmpty_iff]at he;subst he;exact⟨_,_,E D c,bl m bj.undef⟩
  .cases h
end
end
section
open Go.RowKit
section
variable{P:Program}{B:Nat}{w0:World}{U0:Nat->Prop}{β:Place}{H:Heap}{nx:Nat}{w:World}
def G1{t:TypeId}{n:Nat}(h:dC P t n=true):∃i,P.info? t=some i/\i.size=n:=by
 unfold dC at h;cases a:P.info? t with
 |none=>rw[a]at h;cases h
 |some i=>rw[a]at h;exact⟨i,rfl,by simpa using h⟩
def DC(x:Option Value)(i:Option Int):Prop:=match x,i with
 |none,none=>True
 |some v,some n=>∃k,v=.int k n
 |_,_=>False
def XA(x:Option Value)(l:Int):Prop:=match x with
 |none=>l=0
 |some v=>∃k,v=.int k l
def Bf(c:Bool)(e d:Nat){j o s:Option Value}{l:Int}{h m:Option Int}(g:XA j l)(p:DC o h)(u:DC s m)(x:s.isSome=true->o.isSome=true)
  (z:0<=l)(A:l<=h.getD e)(t:h.getD e<=m.getD d)(D:m.getD d<=d):
  (Instr.sliceBounds c e d j o s).run P w=.ok (l.toNat,(h.getD (e:Int)).toNat,(m.getD (d:Int)).toNat) w:=by
 have i:∀(k:IntKind) (n:Int) (y:Nat) (f:BoundsCode),0<=n->n<=y->(Instr.sliceBound (.int k n) y f).run P w=.ok n.toNat w:=λk n y f a b=>run_sliceBound w k n y f a b
 cases s with
 |none=>
  cases m with
  |some _=>exact u.elim
  |none=>
  simp only[tj]at t D⊢;cases o with
  |none=>
   cases h with
   |some _=>exact p.elim
   |none=>
   simp only[tj]at A t⊢;cases j with
   |none=>obtain rfl:l=0:=g;simp[Instr.sliceBounds]
   |some v=>
    obtain⟨k,rfl⟩:=g;simp[Instr.sliceBounds,i k l e .sliceB z ae]
  |some v=>
   cases h with
   |none=>exact p.elim
   |some n=>
   obtain⟨k,rfl⟩:=p;simp only[il]at A t⊢;have q:=i k n d (if c then .sliceAcap else .sliceAlen) ae ae;cases j with
   |none=>obtain rfl:l=0:=g;simp[Instr.sliceBounds,q]
   |some v=>
    obtain⟨C,rfl⟩:=g;simp[Instr.sliceBounds,q,i C l n.toNat .sliceB z ae]
 |some F=>
  cases m with
  |none=>exact u.elim
  |some mm=>
  obtain⟨E,rfl⟩:=u;cases o with
  |none=>simp at x
  |some v=>
   cases h with
   |none=>exact p.elim
   |some n=>
   obtain⟨k,rfl⟩:=p;simp only[il]at A t D⊢;have r:=i E mm d (if c then .slice3Acap else .slice3Alen) ae ae;have q:=i k n mm.toNat .slice3B ae ae;cases j with
   |none=>obtain rfl:l=0:=g;simp[Instr.sliceBounds,q,r]
   |some v=>
    obtain⟨C,rfl⟩:=g;simp[Instr.sliceBounds,q,r,i C l n.toNat .slice3C z ae]
def yJ{t e:TypeId}(j:P.underlying t=some (.slice e)){d:Nat}(k:dC P e d=true){a:Option Addr}{b c:Nat}{f g i:Option Value}{l h m:Nat}
  (n:(Instr.sliceBounds true b c f g i).run P w=.ok (l,h,m) w):
  (Instr.sliceAt t (.slice a b c) f g i).run P w=.ok (.slice (if m=l then a else a.map (·.add (l*d))) (h-l) (m-l)) w:=by
 simp[Instr.sliceAt,Instr.slice,run_underlying j,n,run_sizeOf k]
def bP.sub{U:Nat->Prop}{o:Bool}{g:List (List PV)}{a:Option Addr}{c t l h m:Nat}(C:bP w U (.slice o g) (.slice a g.length c))(E:bV t g=true)(f:Bool)
  (F:l<=h)(u:h<=g.length)(G:h<=m)(D:f=true->m=h):bP w U (.slice f ((g.take h).drop l)) (.slice (if m=l then a else a.map (·.add (l*t))) (h-l) (m-l)):=by
 have p:((g.take h).drop l).length=h-l:=by simp;omega
 by_cases I:h=l
 .subst I;have:(g.take h).drop h=[]:=List.eq_nil_of_length_eq_zero ae;rw[this,Nat.sub_self];exact .none f _ _ λe=>by rw[D e];omega
 .rw[an ae];generalize d:Value.slice a g.length c=x at C;cases C with
  |none=>simp at u;omega
  |slice _ _ b v S n z T J K q V L M N r O Q R=>
   cases d;have A:n=t:=by
    rw[<-r _ (List.getElem_mem q),pk E _ (List.getElem_mem q)]
   subst A;have k:∀i x,((g.take h).drop l)[i]?=some x->g[l+i]?=some x:=by
    intro i x d;rw[List.getElem?_drop,List.getElem?_take]at d;split at d
    .exact d
    .cases d
   have:=bP.slice (w:=w) (U:=U) f ((g.take h).drop l) b (v+l*n) (m-l) n z T J (λi j=>K (l+i) j) ae ae (λe=>by rw[D e];omega) M N
    (λx d=>r x (List.mem_of_mem_take (List.mem_of_mem_drop d)))
    (λi x j y d s=>by have:=O _ x j y (k i x d) s;rw[<-this];congr 1;rw[dq];omega)
    (λi x j y d s=>Q _ x j y (k i x d) s) (λi x j y d s=>R _ x j y (k i x d) s)
   rw[p]at this;rw[Option.map_some,hM];exact this
def PB{t e:TypeId}{sz:Nat}(ht:P.underlying t=some (.slice e))(hs:dC P e sz=true)(m:Mem B w0 U0 β H nx w){v:DV}{x:Value}(hx:bj w (Own U0 β H) β H nx v x){lo hi mx:Option Value}{l:Int}{h mm:Option Int}
  (hl:XA lo l)(hh:DC hi h)(hm:DC mx mm)(G:mx.isSome=true->hi.isSome=true){r:DV}{R:List Nat}(f:jb H sz v l h mm=some (r,R)):
  ∃y w',(Instr.sliceAt t x lo hi mx).run P w=.ok y w'/\Good B w0 U0 H nx β w r (cY H R) nx y w':=by
 have xw:mm.isSome=true->h.isSome=true:=by
  intro e;cases mm with
  |none=>cases e
  |some _=>
   cases mx with
   |none=>exact hm.elim
   |some _=>
    have:=G rfl;cases hi with
    |none=>cases this
    |some _=>cases h with
     |none=>exact hh.elim
     |some _=>rfl
 unfold jb at f;split at f
 ·
  rename_i xq u;cases hx with|p _ _ hp=>
  obtain⟨a,c,rfl,hc,I⟩:=hp.kz;simp only at f;split at f
  .rename_i g;obtain⟨J,h0,S,K,L⟩:=g;cases f;have M:(mm.getD (c:Int))<=c:=by
    cases mm with
    |none=>simp
    |some q=>simp only[il]at L⊢;omega
   have N:h.getD (u.length:Int)<=mm.getD (c:Int):=by
    cases mm with
    |none=>simp only[tj]at K L⊢;omega
    |some q=>simpa using K
   have A:=Bf (P:=P) (w:=w) true u.length c hl hh hm G h0 S N M;refine⟨_,_,yJ ht hs A,bl m (.p _ _ ?_)⟩;refine hp.sub J _ ae ae ae λhf=>?_
   cases mm with
   |none=>
    simp only[aO,cp,tj]at hf⊢;have:=I hf.1;omega
   |some q=>simp only[cp,il]at hf⊢;rw[hf]
  .cases f
 ·
  rename_i id x8 d n;split at f
  .rename_i fz x9 u C;simp only at f;split at f
   .rename_i g;obtain⟨rfl,k,j,h0,S,K,L⟩:=g;have U:=hx;cases hx with|ref _ _ _ _ _ hid xa D=>
    have V:∃a c,x=.slice a n c/\n<=c:=by
     rcases(D _ _ _ C).2 k j with⟨rfl,_,a,rfl⟩|⟨b,o,a,A,rfl,_⟩
     .simp at j;obtain⟨rfl,rfl⟩:=j;exact⟨_,_,rfl,Nat.le_refl _⟩
     .rcases m.h.aY id _ C with⟨U,hn⟩|⟨b',xt,xx,T,g1,g2,g3,g4,g5,_⟩
      .rw[A]at hn;cases hn
      .rw[A]at g1;simp only[aw,bQ]at g1;obtain⟨rfl,rfl⟩:=g1;exact⟨_,_,rfl,ae⟩
    obtain⟨a,c,rfl,xc⟩:=V;have M:(mm.getD (c:Int))<=c:=by
     cases mm with
     |none=>simp
     |some q=>simp only[il]at L⊢;omega
    have N:h.getD (n:Int)<=mm.getD (c:Int):=by
     cases mm with
     |none=>simp only[tj]at K L⊢;omega
     |some q=>simpa using K
    have A:=Bf (P:=P) (w:=w) true n c hl hh hm G h0 S N M;have i:=yJ (a:=a) ht hs A;cases mm with
    |some q=>
     simp only[il]at S K L f i A;split at f
     .rename_i W;cases f;refine⟨_,_,i,np m (lr _ _) (.p _ _ ?_)⟩;have Y:bE H 1 (.ref id x8 d n)=some (.slice false ((u.drop d).take n)):=by simp[bE,C,k];omega
      by_cases z:l=h.getD (n:Int)
      .have:(((u.drop d).take (h.getD (n:Int)).toNat).drop l.toNat)=[]:=by rw[z];apply List.eq_nil_of_length_eq_zero;simp
       rw[this,<-z,<-W,<-z,Nat.sub_self];exact .none true _ _ λ_=>ae
      .rw[an z];have hp:=ql m [id] 1 _ _ _ Y (by simp[eR,C]) U;have E:((u.drop d).take n).length=n:=by simp;omega
       have J:bV x9 ((u.drop d).take n)=true:=by
        rcases m.h.aY id _ C with⟨rfl,_⟩|⟨_,_,_,_,_,_,_,_,_,g6,_⟩
        .simp[bV]
        .unfold bV;rw[List.all_eq_true];intro y hy;simp;exact g6 y (List.mem_of_mem_drop (List.mem_of_mem_take hy))
       have xd:bP w (Own U0 β (cY H [id])) (.slice false ((u.drop d).take n)) (.slice a ((u.drop d).take n).length c):=by rw[E];exact hp
       have:=xd.sub (l:=l.toNat) (h:=(h.getD (n:Int)).toNat) (m:=q.toNat) J true ae (by rw[E];omega) ae (λ_=>by rw[W]);rw[List.take_take,MG ae]at this;exact this
     .cases f
    |none=>
     simp only[tj]at S K L f i A;cases f;refine⟨_,_,i,bl m (.ref _ _ _ _ _ hid rfl (λxe xf xg s=>?_) (λxe xf xg s=>by rw[C]at s;cases s))⟩;rw[C]at s;cases s;refine⟨ae,λ_ xu=>?_⟩;rcases(D _ _ _ C).2 k j with⟨rfl,xh,a',O⟩|⟨b,o,a',xi,O,Q⟩
     .simp at j;obtain⟨rfl,rfl⟩:=j;cases O;left;have e:∀X:Option Addr,Value.slice X ((h.getD ((0:Nat):Int)).toNat-l.toNat) (((0:Nat):Int).toNat-l.toNat)=.slice X 0 0:=by
       intro X;rw[show(h.getD ((0:Nat):Int)).toNat-l.toNat=0 from ae,show((0:Nat):Int).toNat-l.toNat=0 from ae]
      exact⟨rfl,xh,_,e _⟩
     .cases O;right;have xv:n<=o-d:=xc;refine⟨b,o,_,xi,by rw[show((o-d:Nat):Int).toNat-l.toNat=o-(d+l.toNat)from ae],λF=>?_⟩;have Z:0<n\/d=0:=by
       rcases F with h'|h'
       .left;omega
       .right;omega
      rw[Q Z];split
      .rename_i e;rcases F with h'|h'
       .omega
       .have:l.toNat=0:=ae;rw[this,pO]
      .rw[Option.map_some,hM,dq]
   .cases f
  .cases f
 .cases f
def vx{t e:TypeId}{N:Nat}(ht:P.underlying t=some (.slice e))(hs:dC P e N=true)(m:Mem B w0 U0 β H nx w){v:DV}{x:Value}(O:bj w (Own U0 β H) β H nx v x){k:IntKind}{n:Int}{r:DV}
  (g:(match v with
   | .p (.slice _ l)=>if 0<=n then match l[n.toNat]? with
     |some y=>if y.length=N then some (.p (.eN y))else none
     |none=>none
    else none
   | .ref id o d q=>match ah H id with
    |some (.row _ h l)=>if o=l.length/\d+q<=l.length/\h=N/\0<=n/\n<q then some (.du id o (d+n.toNat) 0)else none
    |some (.bh _ h l)=>if o=l.length/\d+q<=l.length/\h=N/\0<=n/\n<q then some (.du id o (d+n.toNat) 0)else none
    |_=>none
   |_=>none:Option DV)=some r):
  ∃y,(Instr.indexAt t x (.int k n)).run P w=.ok y w/\bj w (Own U0 β H) β H nx r y:=by
 have A:∀(S:Addr) (C i:Nat),0<=n->n<C->(Instr.indexAt t (.slice (some S) C i) (.int k n)).run P w=.ok (.pointer (some (S.add (n.toNat*N)))) w:=by
  intro S C i D E;simp[Instr.indexAt,run_underlying ht,asIntOf,D,E,run_sizeOf hs]
 split at g
 .rename_i x0 l O;cases O with|p _ _ F=>
  split at g
  .rename_i D;cases G:l[n.toNat]? with
   |none=>rw[G]at g;cases g
   |some y=>
    rw[G]at g;simp only at g;split at g
    .rename_i hl;cases g;have U:=aL G;cases F with
     |none=>simp at U
     |slice _ _ b d c h V T W vs x5 R hf Q hu X hv E g=>
      have Y:h=N:=by rw[<-hl,X y (List.mem_of_getElem? G)]
      subst Y;refine⟨_,A ⟨b,d,none⟩ l.length c D ae,.p _ _ ?_⟩;rw[hM];exact .eN y b (d+n.toNat*h) V T W (λj=>vs n.toNat j) Q hu (λj p F=>hv _ _ _ _ G F) (λj p F=>E _ _ _ _ G F) (λj p F=>g _ _ _ _ G F)
    .cases g
  .cases g
 .rename_i id o d q O;split at g
  .rename_i W h l I;split at g
   .rename_i R;obtain⟨s,u,rfl,D,E⟩:=R;cases g;cases O with|ref _ _ _ _ _ hid J z _=>
    rcases(z _ _ _ I).2 s u with⟨rfl,_,a,rfl⟩|⟨b,i,a,Q,rfl,Z⟩
    .simp at u;omega
    .obtain rfl:=Z (.inl ae);refine⟨_,A ⟨b,d*h,none⟩ q (i-d) D E,.du _ _ _ _ _ hid rfl (λK L M f=>?_) (λK L M f=>by rw[I]at f;cases f)⟩;rw[I]at f;cases f;refine⟨ae,λ_ _=>⟨b,i,Q,?_⟩⟩;rw[hM,pO,dq]
   .cases g
  .rename_i W h l I;split at g
   .rename_i R;obtain⟨s,u,rfl,D,E⟩:=R;cases g;cases O with|ref _ _ _ _ _ hid J _ z=>
    rcases(z _ _ _ I).2 s u with⟨rfl,_,a,rfl⟩|⟨b,i,a,Q,rfl,Z⟩
    .simp at u;omega
    .obtain rfl:=Z (.inl ae);refine⟨_,A ⟨b,d*h,none⟩ q (i-d) D E,.du _ _ _ _ _ hid rfl (λK L M f=>by rw[I]at f;cases f) (λK L M f=>?_)⟩;rw[I]at f;cases f;refine⟨ae,λ_ _=>⟨b,i,Q,?_⟩⟩;rw[hM,pO,dq]
   .cases g
  .cases g
 .cases g
def oW{t:TypeId}{d:Array Field}{f:Nat}{a:Field}{i:TypeInfo}(g:P.underlying t=some (.struct d))(h:d[f]?=some a)(j:P.info? a.type=some i)(e:0<i.size)(b o:Nat):
  (Instr.fieldAt t (.pointer (some ⟨b,o,none⟩)) f).run P w=.ok (.pointer (some ⟨b,o+a.offset,none⟩)) w:=by
 have c:¬i.size=0:=ae;simp[Instr.fieldAt,run_underlying g,h,Instr.sureAddr,fieldPlace,sizeOf,typeInfo,j,c,hM]
def qK{t:TypeId}{O:Array Field}{f:Nat}{n:Field}{i:TypeInfo}(G:P.underlying t=some (.struct O))(I:O[f]?=some n)(J:P.info? n.type=some i)(e:0<i.size)
  (m:Mem B w0 U0 β H nx w){v:DV}{x:Value}(s:bj w (Own U0 β H) β H nx v x){r:DV}
  (d:(match v with
  | .ptr id o=>match ah H id with|some (.var _ _)=>some (.ptr id (o+n.offset))|_=>none
  | .p (.eN L)=>some (.p (.eN (L.drop n.offset)))
  | .du id g i o=>match ah H id with|some (.row _ _ u)=>if g=u.length/\i<u.length then some (.du id g i (o+n.offset))else none|some (.bh _ _ u)=>if g=u.length/\i<u.length then some (.du id g i (o+n.offset))else none|_=>none
  |_=>none:Option DV)=some r):
  ∃y,(Instr.fieldAt t x f).run P w=.ok y w/\bj w (Own U0 β H) β H nx r y:=by
 split at d
 .rename_i id o s;cases s with|ptr _ _ _ hid E h=>
  split at d
  .rename_i K L l;cases d;obtain⟨b,c,z,rfl⟩:=h _ _ l;refine⟨_,oW G I J e b o,.ptr _ _ _ hid rfl (λk Q a=>⟨b,c,z,rfl⟩) (λk R a=>by rw[l]at a;cases a)⟩
  .cases d
 .rename_i L s;cases d;cases s with|p _ _ S=>
  cases S with|eN _ b M N T K U z V W X d=>
  refine⟨_,oW G I J e b M,.p _ _ (.eN _ b _ N T K (λj=>U (n.offset+j)) z V (λj y F=>?_) (λj y F=>?_) (λj y F=>?_))⟩;all_goals rw[List.getElem?_drop]at F
  .have:=W _ _ F;rw[<-Nat.add_assoc]at this;exact this
  .exact X _ _ F
  .exact d _ _ F
 .rename_i id g q o s;split at d
  .rename_i K Y u l;split at d
   .rename_i E;cases d;cases s with|du _ _ _ _ _ hid A h _=>
    obtain⟨b,c,z,rfl⟩:=(h _ _ _ l).2 E.1 E.2;refine⟨_,oW G I J e b _,.du _ _ _ _ _ hid rfl (λk C D a=>?_) (λk C D a=>by rw[l]at a;cases a)⟩;rw[l]at a;cases a;exact⟨ae,λ_ _=>⟨b,c,z,by rw[Nat.add_assoc]⟩⟩
   .cases d
  .rename_i K Y u l;split at d
   .rename_i E;cases d;cases s with|du _ _ _ _ _ hid A _ h=>
    obtain⟨b,c,z,rfl⟩:=(h _ _ _ l).2 E.1 E.2;refine⟨_,oW G I J e b _,.du _ _ _ _ _ hid rfl (λk C D a=>by rw[l]at a;cases a) (λk C D a=>?_)⟩;rw[l]at a;cases a;exact⟨ae,λ_ _=>⟨b,c,z,by rw[Nat.add_assoc]⟩⟩
   .cases d
  .cases d
 .cases d
def JA{t e:TypeId}{d i:Nat}(l:P.underlying t=some (.array d e))(o:dC P e i=true)(m:Mem B w0 U0 β H nx w){id f:Nat}{p:Bool}{q:List DV}(j:ah H id=some (.var p q)){x:Value}
  (r:bj w (Own U0 β H) β H nx (.ptr id f) x){k:IntKind}{n:Int}(s:0<=n)(u:n<d):
  ∃y,(Instr.indexAt t x (.int k n)).run P w=.ok y w/\bj w (Own U0 β H) β H nx (.ptr id (f+n.toNat*i)) y:=by
 cases r with|ptr _ _ _ hid C h=>
 obtain⟨b,c,v,rfl⟩:=h _ _ j;refine⟨_,by simp[Instr.indexAt,run_underlying l,asIntOf,Instr.sureAddr,s,u,run_sizeOf o];rfl,.ptr _ _ _ hid rfl (λg z a=>⟨b,c,v,?_⟩) (λg A a=>by rw[j]at a;cases a)⟩;rw[hM]
def Oy{t:TypeId}(d:P.underlying t=some .string){s:ByteArray}{k:IntKind}{n:Int}(e:0<=n){c:UInt8}(f:s.data[n.toNat]?=some c):
  (Instr.index t (.string s) (.int k n)).run P w=.ok (.int .u8 c.toNat) w:=by
 have h:s[n.toNat]?=some c:=by
  have a:=wg.1 f;obtain⟨g,i⟩:=a;have b:n.toNat<s.size:=g;rw[getElem?_pos s n.toNat b];exact Di some i
 simp[Instr.index,run_underlying d,asIntOf,e,h]
end
end
end Go.Dv
