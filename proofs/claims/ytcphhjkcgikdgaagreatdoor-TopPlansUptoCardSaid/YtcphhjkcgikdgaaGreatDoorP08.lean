/- Lemmas for the law of this claim. -/
import Derived.Lib.SliceRun
import Derived.MapKept
import Derived.Test.YtcphhjkcgikdgaaGreatDoorP07
set_option linter.all false
namespace Go.Dv
section
open Go.RowKit
section
variable{P:Program}{B:Nat}{w0:World}{U0:Nat->Prop}{β:Place}{w:World}{nt:Cx}{s:St}{a:Act}{cf:aI}
def lv{o:Oper}{sm:Sem Value}{y:Value}{w':World}{K:Act->World->Prop}{Q:Exit->Act->World->Prop}(b:execOp a.eval o=(do pure (.value (<-sm))))(h:sm.run P w=.ok y w')(c:K (a.put o.dst y) w'):o.wp P a w K Q:=
 ez (by rw[b];simp[h]) c
def Xl{o:Oper}{sm:Sem Unit}{b:World}{K:Act->World->Prop}{Q:Exit->Act->World->Prop}(c:execOp a.eval o=(do sm;pure .skip))(h:sm.run P w=.ok () b)(d:K (a.put o.dst undef) b):o.wp P a w K Q:=
 JO (by rw[c];simp[h]) d
def uM{o:Oper}{f:FuncId}{args:Array Value}{K:Act->World->Prop}{Q:Exit->Act->World->Prop}(c:(execOp a.eval o).run P w=.ok (.enter f args) w){G:Value->World->Prop}
  (h:Calls P f args w λe b=>∃x,e=.returned x/\G x b)(d:∀x b,G x b->K (a.put o.dst x) b):o.wp P a w K Q:=by
 unfold Oper.wp;rw[c,Oper.upon_enter];refine h.mono ?_;rintro e b ⟨x,rfl,g⟩;exact d x b g
def EL{t:TypeId}(h:yH P t=true):P.underlying t=some .bool:=by
 unfold yH at h;split at h
 .assumption
 .cases h
def oN{t:TypeId}(h:oO P t=true):P.underlying t=some .string:=by
 unfold oO at h;split at h
 .assumption
 .cases h
def Sr(g:bH B w0 U0 nt β s a w){x:Operand}{d:DO}(V:bL x d=true){t:TypeId}{n:Option Nat}(I:zP P t n=true){v:DV}{S:Heap}{N:Nat}(b:bg cf (.load n d) s=some (v,S,N)):
  ∃y,(Instr.loadAt t (a.eval x)).run P w=.ok y w/\Good B w0 U0 s.heap s.next β w v S N y w:=by
 simp only[bg]at b;cases Q:s.ev d with
 |none=>rw[Q]at b;cases b
 |some q=>
 have J:=g.ev V Q;rw[Q]at b;cases q with
 |ptr id off=>
  simp only at b;cases A:ah s.heap id with
  |none=>rw[A]at b;cases b
  |some aY=>
  cases aY with
  |row f T O|map _ _|bh _ _ _=>rw[A]at b;cases b
  |var f C=>
  rw[A]at b;cases n with
  |none=>
   simp only at b;cases k:C[off]? with
   |none=>rw[k]at b;cases b
   |some e=>
    rw[k]at b;cases b;obtain⟨y,u,z⟩:=oJ (P:=P) (rE g.mem A J (n:=1) (by have:=aL k;omega)) ae (pZ I);exact⟨y,u,bl g.mem (z _ k)⟩
  |some n=>
   obtain⟨K,L,m⟩:=qd I;simp only at b;cases k:dR C off n with
   |none=>rw[k]at b;cases b
   |some l=>
    rw[k]at b;cases b;rcases kC k with⟨rfl,o⟩|⟨R,_⟩
    .obtain⟨M,u,z,D⟩:=ry (P:=P) (rE g.mem A J (n:=n) o) K L;have h:∀(j:Nat) (y:DV),((C.drop off).take n)[j]?=some y->j<n/\C[off+j]?=some y:=by
      intro j y c;rw[List.getElem?_take]at c;split at c
      .rename_i E;rw[List.getElem?_drop]at c;exact⟨E,c⟩
      .cases c
     exact⟨_,u,bl g.mem (.agg _ M (by rw[z];simp;omega) (λj y c=>(D j (h j y c).1).1) (λj y c=>(D j (h j y c).1).2 _ (h j y c).2))⟩
    .omega
 |p q=>
  cases q with
  |eN C=>
   simp only at b;cases J with|p _ _ U=>
   cases n with
   |none=>
    simp only at b;cases k:C[0]? with
    |none=>rw[k]at b;cases b
    |some e=>
     rw[k]at b;cases b;obtain⟨y,u,z⟩:=oJ (P:=P) (AQ U (n:=1) (by have:=aL k;omega) ae) ae (pZ I);exact⟨y,u,bl g.mem (.p _ _ (z _ k))⟩
   |some n=>
    obtain⟨K,L,m⟩:=qd I;simp only at b;cases k:dR C 0 n with
    |none=>rw[k]at b;cases b
    |some l=>
     rw[k]at b;cases b;rcases kC k with⟨rfl,o⟩|⟨R,_⟩
     .obtain⟨M,u,z,D⟩:=ry (P:=P) (AQ U (n:=n) ae m) K L;have h:∀(j:Nat) (y:DV),(((C.drop 0).take n).map DV.p)[j]?=some y->j<n/\∃q,C[j]?=some q/\y=.p q:=by
       intro j y c;rw[List.getElem?_map,List.drop_zero,List.getElem?_take]at c;split at c
       .rename_i E;cases G:C[j]? with
        |none=>rw[G]at c;cases c
        |some q=>rw[G]at c;simp only[Option.map_some,aw]at c;exact⟨E,q,rfl,c.symm⟩
       .cases c
      refine⟨_,u,bl g.mem (.agg _ M (by rw[z];simp;omega) (λj y c=>(D j (h j y c).1).1) (λj y c=>?_))⟩;obtain⟨E,q,G,rfl⟩:=h j y c;exact .p _ _ ((D j E).2 _ G)
     .omega
  |_=>cases b
 |du id W i off=>
  simp only at b;cases A:ah s.heap id with
  |none=>rw[A]at b;cases b
  |some aY=>
  cases aY with
  |var f C|map _ _=>rw[A]at b;cases b
  |bh f T O=>
   rw[A]at b;simp only at b;split at b
   case isFalse=>cases b
   rename_i r;cases H:O[i]? with
   |none=>rw[H]at b;cases b
   |some F=>
   rw[H]at b;cases n with
   |none=>
    simp only at b;cases k:F[off]? with
    |none=>rw[k]at b;cases b
    |some e=>
     rw[k]at b;cases b;obtain⟨y,u,z⟩:=oJ (P:=P) (wW g.mem A r H J (n:=1) (by have:=aL k;omega) ae) ae (pZ I);exact⟨y,u,bl g.mem (z _ k)⟩
   |some n=>
    obtain⟨K,L,m⟩:=qd I;simp only at b;cases k:dR F off n with
    |none=>rw[k]at b;cases b
    |some l=>
     rw[k]at b;cases b;rcases kC k with⟨rfl,o⟩|⟨R,_⟩
     .obtain⟨M,u,z,D⟩:=ry (P:=P) (wW g.mem A r H J (n:=n) o m) K L;have h:∀(j:Nat) (y:DV),((F.drop off).take n)[j]?=some y->j<n/\F[off+j]?=some y:=by
       intro j y c;rw[List.getElem?_take]at c;split at c
       .rename_i E;rw[List.getElem?_drop]at c;exact⟨E,c⟩
       .cases c
      exact⟨_,u,bl g.mem (.agg _ M (by rw[z];simp;omega) (λj y c=>(D j (h j y c).1).1) (λj y c=>(D j (h j y c).1).2 _ (h j y c).2))⟩
     .omega
  |row f T O=>
  rw[A]at b;simp only at b;split at b
  .rename_i r;cases H:O[i]? with
   |none=>rw[H]at b;cases b
   |some F=>
   rw[H]at b;cases n with
   |none=>
    simp only at b;cases k:F[off]? with
    |none=>rw[k]at b;cases b
    |some e=>
     rw[k]at b;cases b;obtain⟨y,u,z⟩:=oJ (P:=P) (A4 g.mem A r H J (n:=1) (by have:=aL k;omega) ae) ae (pZ I);exact⟨y,u,bl g.mem (.p _ _ (z _ k))⟩
   |some n=>
    obtain⟨K,L,m⟩:=qd I;simp only at b;cases k:dR F off n with
    |none=>rw[k]at b;cases b
    |some l=>
     rw[k]at b;cases b;rcases kC k with⟨rfl,o⟩|⟨R,_⟩
     .obtain⟨M,u,z,D⟩:=ry (P:=P) (A4 g.mem A r H J (n:=n) o m) K L;have h:∀(j:Nat) (y:DV),(((F.drop off).take n).map DV.p)[j]?=some y->j<n/\∃q,F[off+j]?=some q/\y=.p q:=by
       intro j y c;rw[List.getElem?_map,List.getElem?_take]at c;split at c
       .rename_i E;rw[List.getElem?_drop]at c;cases G:F[off+j]? with
        |none=>rw[G]at c;cases c
        |some q=>rw[G]at c;simp only[Option.map_some,aw]at c;exact⟨E,q,rfl,c.symm⟩
       .cases c
      refine⟨_,u,bl g.mem (.agg _ M (by rw[z];simp;omega) (λj y c=>(D j (h j y c).1).1) (λj y c=>?_))⟩;obtain⟨E,q,G,rfl⟩:=h j y c;exact .p _ _ ((D j E).2 _ G)
     .omega
  .cases b
 |_=>cases b
def QD(g:bH B w0 U0 nt β s a w){x y:Operand}{d e:DO}(ho:bL x d=true)(R:bL y e=true){t:TypeId}{n:Nat}(F:dC P t n=true){v:DV}{H':Heap}{G:Nat}(b:bg cf (.store n d e) s=some (v,H',G)):
  ∃O,(Instr.storeAt t (a.eval x) (a.eval y)).run P w=.ok () O/\Good B w0 U0 s.heap s.next β w v H' G undef O:=by
 simp only[bg]at b;cases Q:s.ev d with
 |none=>rw[Q]at b;cases b
 |some q=>
 cases S:s.ev e with
 |none=>rw[Q,S]at b;cases q<;>cases b
 |some u=>
 have T:=g.ev ho Q;have U:=g.ev R S;rw[Q,S]at b;cases q with
 |ptr id off=>
  simp only at b;cases m:ah s.heap id with
  |none=>rw[m]at b;cases b
  |some aY=>
  cases aY with
  |row f I D|map _ _|bh _ _ _=>rw[m]at b;cases b
  |var f cs=>
  rw[m]at b;cases f with
  |true=>cases b
  |false=>
  cases o:u.cells with
  |none=>rw[o]at b;cases b
  |some l=>
   rw[o]at b;simp only at b;split at b
   .rename_i c;obtain⟨J,C⟩:=c;cases b;obtain⟨K,L⟩:=qM o U;rw[<-J]at F;exact nh (P:=P) g.mem m T ae K L F
   .cases b
 |du id x4 i off=>
  simp only at b;cases m:ah s.heap id with
  |none=>rw[m]at b;cases b
  |some aY=>
  cases aY with
  |var f cs|map _ _=>rw[m]at b;cases b
  |bh f I D=>
   rw[m]at b;cases f with
   |true=>cases b
   |false=>
   try simp only at b
   cases j:D[i]? with
   |none=>rw[j]at b;cases b
   |some y0=>
   cases o:u.cells with
   |none=>rw[j,o]at b;cases b
   |some l=>
    rw[j,o]at b;simp only at b;split at b
    case isFalse=>cases b
    rename_i c;obtain⟨z,J,C⟩:=c;cases b;obtain⟨K,L⟩:=qM o U;rw[<-J]at F;exact GN (P:=P) g.mem m z j T ae K L F
  |row f I D=>
  rw[m]at b;cases f with
  |true=>cases b
  |false=>
  cases V:bE s.heap dep u with
  |none=>rw[V]at b;cases b
  |some p=>
  rw[V]at b;try simp only at b
  cases j:D[i]? with
  |none=>rw[j]at b;cases b
  |some y0=>
  cases o:p.cellsOf with
  |none=>rw[j,o]at b;cases b
  |some l=>
   rw[j,o]at b;simp only at b;split at b
   .rename_i c;obtain⟨z,J,C,M⟩:=c;cases b;generalize N:eR s.heap dep u=A at*;have W:=ql g.mem A dep u p _ V (λi j=>by rw[N]at j;exact j) U;obtain⟨K,L⟩:=Cl o W;have X:=lr A s.heap;have m1:=g.mem.less X;have k1:=X.keeps (U0:=U0) (β:=β) w;have e1:=X.cn (β:=β) (Nat.le_refl s.next);have Y:ah (cY s.heap A) id=some (.row false I D):=by
     have:∀(r:List Nat) (H:Heap),id∉r->ah H id=some (.row false I D)->ah (cY H r) id=some (.row false I D):=by
      intro r;induction r with
      |nil=>intro H _ h;exact h
      |cons k r ih=>
       intro H E h;simp only[cY];simp only[List.mem_cons,not_or]at E;refine ih _ E.2 ?_;rw[rM,an (λe=>E.1 e.symm)];exact h
     exact this A s.heap M m
    rw[<-J]at F;obtain⟨O,hr,Z,m2,k2,e2,d2⟩:=Jp (P:=P) m1 Y z j (T.cn k1 e1) ae K L F;exact⟨O,hr,Z,m2,k1.trans k2,e1.trans e2,d2⟩
   .cases b
 |_=>cases b
def K7{t:TypeId}{p:TypeInfo->Bool}(h:(match P.info? t with|some i=>p i|none=>false)=true):∃i,P.info? t=some i/\p i=true:=by
 cases b:P.info? t with
 |none=>rw[b]at h;cases h
 |some i=>rw[b]at h;exact⟨i,rfl,h⟩
def TR(g:bH B w0 U0 nt β s a w){c x y:Operand}{f h i:DO}(n:bL c f=true)(u:bL x h=true)(A:bL y i=true){o:Oper}(k:o.op=.pick c x y){v:DV}{l:Heap}{e:Nat}(b:bg cf (.pick f h i) s=some (v,l,e)):
  ∃z,(execOp a.eval o).run P w=.ok (.value z) w/\Good B w0 U0 s.heap s.next β w v l e z w:=by
 simp only[bg]at b;cases j:s.ev f with
 |none=>rw[j]at b;cases b
 |some q=>
  rw[j]at b;cases q with
  |p q=>cases q with
   |bool t=>
    have m:=(g.ev n j).ld;simp only at b;cases d:s.ev (if t then h else i)with
    |none=>rw[d]at b;cases b
    |some r=>
     rw[d]at b;cases b;cases t with
     |true=>
      simp only[bZ]at d;exact⟨a.eval x,by simp[execOp,k,m,asBool],bl g.mem (g.ev u d)⟩
     |false=>
      simp only[Bool.false_eq_true,cy]at d;exact⟨a.eval y,by simp[execOp,k,m,asBool],bl g.mem (g.ev A d)⟩
   |_=>cases b
  |_=>cases b
def Pt(g:bH B w0 U0 nt β s a w){t:TypeId}{b:Array (Nat×Operand)}{d:List PV}{r:List (Nat×Nat×DO)}(I:lM P t d=true)(x:(match P.underlying t with
   |some (.struct u)=>tn P u&&pC P u b.toList r
   |some (.array _ e)=>match P.info? e with
    |some i=>nK i.size b.toList r
    |none=>false
   |_=>false)=true){v:DV}{R:Heap}{A:Nat}(h:bg cf (.build d r) s=some (v,R,A)):
  ∃z,(Instr.build t (b.map λp=>(p.1,a.eval p.2))).run P w=.ok z w/\Good B w0 U0 s.heap s.next β w v R A z w:=by
 obtain⟨i,z,S,T,J,W⟩:=lq I;have C:=A0 (w:=w) (β:=β) (H:=s.heap) (nx:=s.next) J (U:=Own U0 β s.heap);simp only[bg]at h;cases F:eP s r with
 |none=>rw[F]at h;cases h
 |some l=>
 rw[F]at h;simp only at h;cases G:pA (d.map .p) l with
 |none=>rw[G]at h;cases h
 |some K=>
 rw[G]at h;cases h;have D:∀c,nL w (Own U0 β s.heap) β s.heap s.next K c->Good B w0 U0 s.heap s.next β w (.agg K) s.heap s.next (.agg c) w:=
  λc L=>bl g.mem (.agg K c L.1 (λj y M=>(L.2 j y M).2) (λj y M=>(L.2 j y M).1))
 split at x
 .rename_i u N;simp only[aO]at x;obtain⟨E,k⟩:=x;obtain⟨V,X,Y⟩:=run_places (P:=P) (w:=w) u.toList (by unfold tn at E;exact List.all_eq_true.1 E);have m:=Bg g (fs:=u) (pl:=V) (λi f n Z hs=>Y i f n (by simpa using Z) hs) b.toList r l k F;obtain⟨c,o,q⟩:=Dc _ _ _ _ _ m G C;refine⟨_,?_,D c q⟩;have O:((u.mapM λf=>(do pure (f.offset,<-sizeOf f.type):Sem (Nat×Nat))):Sem (Array (Nat×Nat))).run P w=.ok V.toArray w:=by
   rw[Ut,Sem.run_map,X];rfl
  simp only[Instr.build,Sem.run_bind,zeroValue,typeInfo,run_program,Result.andThen_ok,S,T,Sem.run_pure,run_underlying N];rw[O];simp only[Result.andThen_ok,Ad,o,Sem.run_pure]
 .rename_i n e N;obtain⟨ie,Q,k⟩:=K7 x;have m:=zm g b.toList r l k F;obtain⟨c,o,q⟩:=Dc _ _ _ _ _ m G C;refine⟨_,?_,D c q⟩;simp only[Instr.build,Sem.run_bind,zeroValue,typeInfo,run_program,Result.andThen_ok,S,T,Sem.run_pure,run_underlying N,sizeOf,Q,Ad,o]
 .cases x
def GB(g:bH B w0 U0 nt β s a w){x:Operand}{d:DO}(D:bL x d=true){o:Oper}(E:o.op=.nilCheck x){v:DV}{A:Heap}{l:Nat}(k:bg cf (.nilCheck d) s=some (v,A,l)):
  ∃z,(execOp a.eval o).run P w=.ok (.value z) w/\Good B w0 U0 s.heap s.next β w v A l z w:=by
 simp only[bg]at k;cases n:s.ev d with
 |none=>rw[n]at k;cases k
 |some q=>
  rw[n]at k;simp only at k;split at k
  .rename_i j;cases k;have r:=g.ev D n;refine⟨a.eval x,?_,bl g.mem r⟩;have m:∃C,a.eval x=.pointer (some C):=by
    generalize a.eval x=t at r;cases r with
    |p q t F=>
     cases F<;>first|(simp[kd]at j;done)|exact⟨_,rfl⟩
    |ptr id u t hid G h=>
     simp only[kd]at j;split at j
     .rename_i f I y;obtain⟨b,c,_,e⟩:=h _ _ y;exact⟨_,e⟩
     .cases j
    |du id H i u t hid G h=>
     simp only[kd]at j;split at j
     .rename_i f J K y;simp only[aO,cp]at j;obtain⟨b,c,_,e⟩:=(h _ _ _ y).2 j.1 j.2;exact⟨_,e⟩
     .cases j
    |_=>simp[kd]at j
   obtain⟨C,e⟩:=m;simp[execOp,E,e]
  .cases k
def Rj(g:bH B w0 U0 nt β s a w){d:BinOp}{x y:Operand}{f h:DO}(l:bL x f=true)(m:bL y h=true)(t:TypeId){v:DV}{k:Heap}{c:Nat}(b:bg cf (.bin d f h) s=some (v,k,c)):
  ∃z,(do eqGuard d t x y (a.eval x) (a.eval y);binOp d t (a.eval x) (a.eval y):Sem Value).run P w=.ok z w/\Good B w0 U0 s.heap s.next β w v k c z w:=by
 simp only[bg]at b;cases e:s.ev f with
 |none=>rw[e]at b;cases b
 |some p=>
 cases i:s.ev h with
 |none=>rw[e,i]at b;cases b
 |some q=>
 rw[e,i]at b;simp only at b;cases j:DK d p q with
 |none=>rw[j]at b;cases b
 |some r=>
  rw[j]at b;cases b;obtain⟨z,n,o⟩:=Ps (P:=P) j (g.ev l e) (g.ev m i) t x y;exact⟨z,n,bl g.mem (.p _ _ o)⟩
def Pk(g:bH B w0 U0 nt β s a w){x y:Operand}{l:DO}(m:bL x l=true)(o:(match y with| .const (.slice none 0 0)=>true|_=>false)=true){t:TypeId}(A:(bY P t).isSome=true){v:DV}{r:Heap}{f:Nat}(h:bg cf (.isNil l) s=some (v,r,f)):
  ∃z,(do eqGuard .eql t x y (a.eval x) (a.eval y);binOp .eql t (a.eval x) (a.eval y):Sem Value).run P w=.ok z w/\Good B w0 U0 s.heap s.next β w v r f z w:=by
 obtain⟨e,C⟩:=py.1 A;have D:=eE C;have E:a.eval y=.slice none 0 0:=by
  split at o
  .rfl
  .cases o
 have i:∀(b:Option Addr) (n c:Nat),(do eqGuard .eql t x y (.slice b n c) (.slice none 0 0);binOp .eql t (.slice b n c) (.slice none 0 0):Sem Value).run P w=.ok (.bool b.isNone) w:=by
  intro b n c;have j:(eqGuard .eql t x y (.slice b n c) (.slice none 0 0)).run P w=.ok () w:=by
   unfold eqGuard;rfl
  rw[Sem.run_bind,j,Result.andThen_ok];exact Go.Lib.run_eql_slice_nil w t e b n c 0 0 D
 rw[E];simp only[bg]at h;split at h
 .rename_i b k;cases h;have d:=g.ev m k;generalize a.eval x=q at d⊢;cases d with|p _ _ d=>cases d with|z F c=>exact⟨_,i F 0 c,bl g.mem (.p _ _ (.bool _))⟩
 .rename_i u y I k;cases h;have d:=g.ev m k;generalize a.eval x=q at d⊢;cases d with|p _ _ d=>
   cases d with|slice _ _ b G c J H T K L=>exact⟨_,i _ _ c,bl g.mem (.p _ _ (.bool _))⟩
 .cases h
def UH(g:bH B w0 U0 nt β s a w){e:BinOp}{b:Bool}(f:zi e b=true){x y:Operand}{h i:DO}(k:bL x h=true)(l:bL y i=true){t:TypeId}(m:yH P t=true){v:DV}{j:Heap}{c:Nat}(d:bg cf (.HJ b h i) s=some (v,j,c)):
  ∃z,(do eqGuard e t x y (a.eval x) (a.eval y);binOp e t (a.eval x) (a.eval y):Sem Value).run P w=.ok z w/\Good B w0 U0 s.heap s.next β w v j c z w:=by
 simp only[bg]at d;split at d
 .rename_i p q n o;cases d;rw[(g.ev k n).ld,(g.ev l o).ld];exact⟨_,Xk f (EL m) p q x y,bl g.mem (.p _ _ (.bool _))⟩
 .cases d
def Mq(g:bH B w0 U0 nt β s a w){f:BinOp}{d:Bool}(h:zi f d=true){jf:List (Nat×Nat)}{x y:Operand}{k l:DO}(o:bL x k=true)(p:bL y l=true){t:TypeId}(c:(match P.underlying t with
   |some (.struct m)=>qo P t m.toList jf&&!P.stoodInHeld t&&!P.eqGuardType P.depth t
   |_=>false)=true){v:DV}{n:Heap}{e:Nat}(b:bg cf (.qG d jf k l) s=some (v,n,e)):
  ∃z,(do eqGuard f t x y (a.eval x) (a.eval y);binOp f t (a.eval x) (a.eval y):Sem Value).run P w=.ok z w/\Good B w0 U0 s.heap s.next β w v n e z w:=by
 split at c
 .rename_i m q;simp only[aO,jW]at c;simp only[bg]at b;split at b
  .rename_i u A C i;cases j:iM u A jf with
   |none=>rw[j]at b;cases b
   |some r=>
    rw[j]at b;cases b;exact⟨_,QA h q c.1.1 c.1.2 c.2 (g.ev o C) (g.ev p i) j x y,bl g.mem (.p _ _ (.bool _))⟩
  .cases b
 .cases c
def WU(g:bH B w0 U0 nt β s a w){d:UnOp}{x:Operand}{e:DO}(j:bL x e=true){v:DV}{i:Heap}{c:Nat}(b:bg cf (.un d e) s=some (v,i,c)):
  ∃z,(Op.unary d (a.eval x)).run P w=.ok z w/\Good B w0 U0 s.heap s.next β w v i c z w:=by
 simp only[bg]at b;cases f:s.ev e with
 |none=>rw[f]at b;cases b
 |some p=>
 rw[f]at b;simp only at b;cases h:KX d p with
 |none=>rw[h]at b;cases b
 |some r=>
  rw[h]at b;cases b;obtain⟨z,k,l⟩:=X9 (P:=P) h (g.ev j f);exact⟨z,k,bl g.mem (.p _ _ l)⟩
def PL(g:bH B w0 U0 nt β s a w){k:IntKind}{x:Operand}{i:DO}(m:bL x i=true){c d:TypeId}(o:(P.underlying c).isSome=true)(b:(match P.underlying d with|some (.int j)=>decide (k=j)|_=>false)=true){v:DV}{l:Heap}{e:Nat}(f:bg cf (.conv k i) s=some (v,l,e)):
  ∃z,(convert c d (a.eval x)).run P w=.ok z w/\Good B w0 U0 s.heap s.next β w v l e z w:=by
 simp only[bg]at f;split at b
 .rename_i j p;simp only[cp]at b;subst b;obtain⟨t,h⟩:=py.1 o;split at f
  .rename_i q n r;cases f;rw[(g.ev m r).gJ];exact⟨_,by simp[convert,run_underlying h,run_underlying p,Conv.intToInt],bl g.mem (.p _ _ (.int _ _))⟩
  .cases f
 .cases b
def LH(g:bH B w0 U0 nt β s a w){p:Nat}{x:Operand}{y k n:Option Operand}{A:DO}{d f i:Option DO}(E:bL x A=true)(F:mU y d=true)(G:mU k f=true)(H:mU n i=true)(N:(n.isNone||k.isSome)=true)
  {t:TypeId}(o:(match bY P t with|some e=>dC P e p|none=>false)=true){v:DV}{C:Heap}{j:Nat}(b:bg cf (.slice p A d f i) s=some (v,C,j)):
  ∃z D,(Instr.sliceAt t (a.eval x) (y.map a.eval) (k.map a.eval) (n.map a.eval)).run P w=.ok z D/\Good B w0 U0 s.heap s.next β w v C j z D:=by
 cases c:bY P t with
 |none=>rw[c]at o;cases o
 |some e=>
 rw[c]at o;simp only[bg]at b;split at b
 .rename_i q l h m I J K L;cases u:jb s.heap p q l h m with
  |none=>rw[u]at b;cases b
  |some r=>
   obtain⟨r,M⟩:=r;rw[u]at b;cases b;refine PB (P:=P) (eE c) o g.mem (g.ev E I) (VW g F J) (Fo g G K) (Fo g H L) ?_ u;intro e;cases n<;>cases k<;>simp_all
 .cases b
def BX(g:bH B w0 U0 nt β s a w){x:Operand}{j:Nat}{A:DO}(M:bL x A=true){t:TypeId}{f:Nat}(e:(match P.underlying t with
   |some (.struct C)=>match C[f]? with
    |some h=>h.offset==j&&(match P.info? h.type with|some i=>decide (0<i.size)|none=>false)
    |none=>false
   |_=>false)=true){v:DV}{J:Heap}{k:Nat}(b:bg cf (.fieldAddr j A) s=some (v,J,k)):
  ∃z,(Instr.fieldAt t (a.eval x) f).run P w=.ok z w/\Good B w0 U0 s.heap s.next β w v J k z w:=by
 split at e
 .rename_i C D;cases l:C[f]? with
  |none=>rw[l]at e;cases e
  |some h=>
  rw[l]at e;simp only[aO,cw]at e;obtain⟨m,n⟩:=e;obtain⟨i,n,c⟩:=K7 n;simp only[cp]at c;subst m;simp only[bg]at b;cases E:s.ev A with
  |none=>rw[E]at b;cases b
  |some q=>
  rw[E]at b;have F:=g.ev M E;cases q with
  |ptr id o=>
   simp only at b;cases d:ah s.heap id with
   |none=>rw[d]at b;cases b
   |some aY=>
   cases aY with
   |row f K L|map _ _|bh _ _ _=>rw[d]at b;cases b
   |var G H=>
    rw[d]at b;cases b;obtain⟨z,u,y⟩:=qK (P:=P) D l n c g.mem F (r:=.ptr id (o+h.offset)) (by simp only[d]);exact⟨z,u,bl g.mem y⟩
  |p q=>
   cases q with
   |eN H=>
    cases b;obtain⟨z,u,y⟩:=qK (P:=P) D l n c g.mem F (r:=.p (.eN (H.drop h.offset))) rfl;exact⟨z,u,bl g.mem y⟩
   |_=>cases b
  |du id I N o=>
   simp only at b;cases d:ah s.heap id with
   |none=>rw[d]at b;cases b
   |some aY=>
   cases aY with
   |var G H|map _ _=>rw[d]at b;cases b
   |row G K L|bh G K L=>
    rw[d]at b;simp only at b;split at b
    .rename_i O;cases b;obtain⟨z,u,y⟩:=qK (P:=P) D l n c g.mem F (r:=.du id I N (o+h.offset)) (by simp only[d];rw[aq O]);exact⟨z,u,bl g.mem y⟩
    .cases b
  |_=>cases b
 .cases e
def DT(g:bH B w0 U0 nt β s a w){E:Nat}{x i:Operand}{F G:DO}(H:bL x F=true)(I:bL i G=true){t:TypeId}(d:(match bY P t with|some e=>dC P e E|none=>false)=true){v:DV}{J:Heap}{f:Nat}(b:bg cf (.indexAddr E F G) s=some (v,J,f)):
  ∃z,(Instr.indexAt t (a.eval x) (a.eval i)).run P w=.ok z w/\Good B w0 U0 s.heap s.next β w v J f z w:=by
 cases c:bY P t with
 |none=>rw[c]at d;cases d
 |some e=>
 rw[c]at d;simp only[bg]at b;split at b
 .rename_i K j k n l m;rw[(g.ev I m).gJ];split at b
  .rename_i M;cases o:j[n.toNat]? with
   |none=>rw[o]at b;cases b
   |some y=>
    rw[o]at b;simp only at b;split at b
    .rename_i N;cases b;obtain⟨z,p,u⟩:=vx (P:=P) (eE c) d g.mem (g.ev H l) (k:=k) (n:=n) (r:=.p (.eN y)) (by simp only[M,bZ,o,N]);exact⟨z,p,bl g.mem u⟩
    .cases b
  .cases b
 .rename_i id A C q k n l m;rw[(g.ev I m).gJ];cases h:ah s.heap id with
  |none=>rw[h]at b;cases b
  |some aY=>
  cases aY with
  |var L Q|map _ _=>rw[h]at b;cases b
  |row L D j|bh L D j=>
   rw[h]at b;simp only at b;split at b
   .rename_i O;cases b;obtain⟨z,p,u⟩:=vx (P:=P) (eE c) d g.mem (g.ev H l) (k:=k) (n:=n) (r:=.du id A (C+n.toNat) 0) (by simp only[h];rw[aq O]);exact⟨z,p,bl g.mem u⟩
   .cases b
 .cases b
def HE(g:bH B w0 U0 nt β s a w){c l:Nat}{x i:Operand}{m o:DO}(r:bL x m=true)(u:bL i o=true){t:TypeId}(f:(match P.underlying t with
   |some (.array n e)=>n==c&&dC P e l
   |_=>false)=true){v:DV}{p:Heap}{d:Nat}(b:bg cf (.cZ c l m o) s=some (v,p,d)):
  ∃z,(Instr.indexAt t (a.eval x) (a.eval i)).run P w=.ok z w/\Good B w0 U0 s.heap s.next β w v p d z w:=by
 split at f
 .rename_i I e j;simp only[aO,cw]at f;obtain⟨rfl,y⟩:=f;simp only[bg]at b;split at b
  .rename_i id A k n C D;rw[(g.ev u D).gJ];cases h:ah s.heap id with
   |none=>rw[h]at b;cases b
   |some aY=>
   cases aY with
   |row E F J|map _ _|bh _ _ _=>rw[h]at b;cases b
   |var E K=>
    rw[h]at b;simp only at b;split at b
    .rename_i q;cases b;obtain⟨z,G,H⟩:=JA (P:=P) j y g.mem h (g.ev r C) (k:=k) q.1 q.2;exact⟨z,G,bl g.mem H⟩
    .cases b
  .cases b
 .cases f
def MF(g:bH B w0 U0 nt β s a w){x i:Operand}{h j:DO}(m:bL x h=true)(o:bL i j=true){t:TypeId}(p:oO P t=true){v:DV}{l:Heap}{e:Nat}(d:bg cf (.index h j) s=some (v,l,e)):
  ∃z,(Instr.index t (a.eval x) (a.eval i)).run P w=.ok z w/\Good B w0 U0 s.heap s.next β w v l e z w:=by
 simp only[bg]at d;split at d
 .rename_i b k n q r;rw[(g.ev m q).kR,(g.ev o r).gJ];split at d
  .rename_i u;cases f:b.data[n.toNat]? with
   |none=>rw[f]at d;cases d
   |some c=>
    rw[f]at d;cases d;exact⟨_,Oy (oN p) u f,bl g.mem (.p _ _ (.int _ _))⟩
  .cases d
 .cases d
def Hj(g:bH B w0 U0 nt β s a w){x:Operand}{i:Nat}{h:DO}(l:bL x h=true){v:DV}{j:Heap}{c:Nat}(b:bg cf (.extract h i) s=some (v,j,c)):
  ∃z,(Instr.extract (a.eval x) i).run P w=.ok z w/\Good B w0 U0 s.heap s.next β w v j c z w:=by
 simp only[bg]at b;split at b
 .rename_i m n;have k:=g.ev l n;generalize a.eval x=q at k;cases k with|tuple _ f r o=>
  cases d:m[i]? with
  |none=>rw[d]at b;cases b
  |some e=>
   rw[d]at b;cases b;have p:=aL d;exact⟨f.getD i undef,by simp only[Instr.extract];rw[iC ae];rfl,bl g.mem (o _ _ d)⟩
 .cases b
def PE(g:bH B w0 U0 nt β s a w){b:List PV}{bytes:Nat}{l c:Operand}{h i:DO}(o:bL l h=true)(p:bL c i=true){t:TypeId}(q:BH P t b bytes=true){v:DV}{j:Heap}{e:Nat}(d:bg cf (.makeSlice b bytes h i) s=some (v,j,e)):
  ∃z m,(Instr.makeSlice t (a.eval l) (a.eval c)).run P w=.ok z m/\Good B w0 U0 s.heap s.next β w v j e z m:=by
 simp only[bg]at d;split at d
 .rename_i n k r u;rw[(g.ev o r).gJ,(g.ev p u).gJ];split at d
  .rename_i f;cases d;exact QV q g.mem f.1 f.2.1 f.2.2.1 f.2.2.2.1
  .cases d
 .cases d
def IL(g:bH B w0 U0 nt β s a w){bytes k:Nat}{x y:Operand}{f h:DO}(o:bL x f=true)(r:bL y h=true){t l ty:TypeId}(u:jB P t l bytes k=true){v:DV}{m:Heap}{c:Nat}(b:bg cf (.append bytes k f h) s=some (v,m,c)):
  ∃z n,(Builtin.append_ #[t,l] ty #[a.eval x,a.eval y]).run P w=.ok z n/\Good B w0 U0 s.heap s.next β w v m c z n:=by
 simp only[bg]at b;cases d:s.ev f with
 |none=>rw[d]at b;cases b
 |some p=>
 cases i:s.ev h with
 |none=>rw[d,i]at b;cases b
 |some q=>
 rw[d,i]at b;simp only at b;cases j:jD s.heap q with
 |none=>rw[j]at b;cases b
 |some e=>
  obtain⟨D,A⟩:=e;rw[j]at b;simp only at b;split at b
  .rename_i C;exact Ci (P:=P) u g.mem (g.ev o d) (g.ev r i) j C b
  .cases b
def Hr(g:bH B w0 U0 nt β s a w){bytes i:Nat}{x y:Operand}{e f:DO}(m:bL x e=true)(n:bL y f=true){t j ty:TypeId}(o:jB P t j bytes i=true){v:DV}{k:Heap}{c:Nat}(b:bg cf (.mH bytes i e f) s=some (v,k,c)):
  ∃z l,(Builtin.append_ #[t,j] ty #[a.eval x,a.eval y]).run P w=.ok z l/\Good B w0 U0 s.heap s.next β w v k c z l:=by
 simp only[bg]at b;cases d:s.ev e with
 |none=>rw[d]at b;cases b
 |some p=>
 cases h:s.ev f with
 |none=>rw[d,h]at b;cases b
 |some q=>
 rw[d,h]at b;exact GX (P:=P) o g.mem (g.ev m d) (g.ev n h) b
def Qp(g:bH B w0 U0 nt β s a w){k:Nat}{x y:Operand}{f h:DO}(n:bL x f=true)(o:bL y h=true){t t2 ty:TypeId}(r:BJ P t k=true){v:DV}{l:Heap}{c:Nat}(b:bg cf (.copy k f h) s=some (v,l,c)):
  ∃z m,(Builtin.copy_ #[t,t2] ty #[a.eval x,a.eval y]).run P w=.ok z m/\Good B w0 U0 s.heap s.next β w v l c z m:=by
 simp only[bg]at b;cases d:s.ev f with
 |none=>rw[d]at b;cases b
 |some p=>
 cases i:s.ev h with
 |none=>rw[d,i]at b;cases b
 |some q=>
 rw[d,i]at b;simp only at b;cases j:jD s.heap q with
 |none=>rw[j]at b;cases b
 |some e=>
  obtain⟨C,u⟩:=e;rw[j]at b;simp only at b;split at b
  .rename_i A;exact SU (P:=P) r g.mem (g.ev n d) (g.ev o i) j A b
  .cases b
def Mh(g:bH B w0 U0 nt β s a w){b:List PV}{x:Operand}{e:DO}(j:bL x e=true){t ty:TypeId}(k:zl P t b=true){v:DV}{h:Heap}{c:Nat}(d:bg cf (.clear b e) s=some (v,h,c)):
  ∃z i,(Builtin.clear_ #[t] ty #[a.eval x]).run P w=.ok z i/\Good B w0 U0 s.heap s.next β w v h c z i:=by
 simp only[bg]at d;cases f:s.ev e with
 |none=>rw[f]at d;cases d
 |some p=>rw[f]at d;exact QH (P:=P) k g.mem (g.ev j f) d
def Uh(g:bH B w0 U0 nt β s a w){x:Operand}{q:DO}(r:bL x q=true){t ty:TypeId}(C:(bY P t).isSome=true){v:DV}{u:Heap}{h:Nat}(d:bg cf (.len q) s=some (v,u,h)):
  ∃z,(Builtin.len_ #[t] ty #[a.eval x]).run P w=.ok z w/\Good B w0 U0 s.heap s.next β w v u h z w:=by
 obtain⟨e,k⟩:=py.1 C;have D:=eE k;have f:∀(b:Option Addr) (n c:Nat),(Builtin.len_ #[t] ty #[.slice b n c]).run P w=.ok (goInt n) w:=by
  intro b n c;simp[Builtin.len_,run_underlying D]
 simp only[bg]at d;split at d
 .rename_i y E l;cases d;have i:=g.ev r l;generalize a.eval x=F at i;cases i with|p _ _ G=>
  obtain⟨A,c,rfl,_,_⟩:=G.kz;exact⟨_,f _ _ _,bl g.mem (.p _ _ (.int _ _))⟩
 .rename_i id H I n l;have i:=g.ev r l;generalize a.eval x=F at i;split at d
  .rename_i L M E J;split at d
   .rename_i m;cases d;cases i with|ref _ _ _ _ _ hid o j=>
    rcases(j _ _ _ J).2 m.1 m.2 with⟨rfl,_,A,rfl⟩|⟨b,K,A,_,rfl,_⟩
    .have:n=0:=by have:=m.2;simp at this;omega
     subst this;exact⟨_,f _ _ _,bl g.mem (.p _ _ (.int _ _))⟩
    .exact⟨_,f _ _ _,bl g.mem (.p _ _ (.int _ _))⟩
   .cases d
  .cases d
 .cases d
def Qy(g:bH B w0 U0 nt β s a w){x:Operand}{e:DO}(h:bL x e=true){t ty:TypeId}(i:oO P t=true){v:DV}{f:Heap}{c:Nat}(d:bg cf (.lH e) s=some (v,f,c)):
  ∃z,(Builtin.len_ #[t] ty #[a.eval x]).run P w=.ok z w/\Good B w0 U0 s.heap s.next β w v f c z w:=by
 simp only[bg]at d;split at d
 .rename_i b j;cases d;rw[(g.ev h j).kR];exact⟨_,by simp[Builtin.len_,run_underlying (oN i),goInt],bl g.mem (.p _ _ (.int _ _))⟩
 .cases d
def Vk(g:bH B w0 U0 nt β s a w){b:Bool}{n:Array Operand}{u:DO}{e:List DO}(h:kJ n.toList (u::e)=true){at_:Array TypeId}{ty:TypeId}{v:DV}{y:Heap}{i:Nat}(f:bg cf (.jr b u e) s=some (v,y,i)):
  ∃z,((if b then Builtin.max_ else Builtin.min_) at_ ty (n.map a.eval)).run P w=.ok z w/\Good B w0 U0 s.heap s.next β w v y i z w:=by
 simp only[bg]at f;cases c:n.toList with
 |nil=>rw[c]at h;simp[kJ]at h
 |cons x r=>
 rw[c]at h;simp only[kJ,aO]at h;split at f
 .rename_i q l C D;cases o:wm (Ng b) q l with
  |none=>rw[o]at f;cases f
  |some p=>
   rw[o]at f;cases f;obtain⟨E,F⟩:=GW g r e l h.2 D;have A:=g.ev h.1 C;generalize k:a.eval x=I at A;cases A with|p _ _ G=>
   obtain⟨z,m,H⟩:=JX (P:=P) l (r.map a.eval) q _ p o (by simpa using E.symm) (λj d t=>F j d t) G;refine⟨z,?_,bl g.mem (.p _ _ H)⟩;cases b
   .simp only[Bool.false_eq_true,cy]at m⊢;simp only[Builtin.min_,Ad,c,List.map_cons,k];exact m
   .simp only[bZ]at m⊢;simp only[Builtin.max_,Ad,c,List.map_cons,k];exact m
 .cases f
def JB(g:bH B w0 U0 nt β s a w){f:FuncId}{c:Array Operand}{b:List DO}(j:kJ c.toList b=true){v:DV}{i:Heap}{d:Nat}(e:bg cf (.eW f b) s=some (v,i,d)):
  Good B w0 U0 s.heap s.next β w v i d (.func (.func f) #[] (c.map a.eval)) w:=by
 simp only[bg]at e;cases h:gn s b with
 |none=>rw[h]at e;cases e
 |some l=>
  rw[h]at e;cases e;obtain⟨k,m⟩:=pj g j h;exact bl g.mem (.func f l _ k m)
abbrev QR(c:Array MapEntry)(b:Nat):Prop:=(∀e∈c.toList,e.born<b)/\c.toList.Pairwise λx y=>x.born≠y.born
def dw(w:World)(b:Nat)(o:Obj)(k:Nat):({w with heap:=w.heap.setIfInBounds b o}:World).heap[k]?=if b=k/\b<w.heap.size then some o else w.heap[k]?:=by
 by_cases h:b=k
 .subst h;by_cases c:b<w.heap.size
  .simp[c]
  .simp[c]
 .simp[h]
def Ey{w:World}{b:Nat}(h:B<=b)(o:Obj){c:Obj}(d:w.heap[b]?=some c)(f:¬rI c):Below B w {w with heap:=w.heap.setIfInBounds b o}:=
 ⟨⟨rfl,rfl,rfl,aB,λk i=>by rw[dw,an ae]⟩,Nat.le_refl _,λk j g e=>by
  rw[dw,an ?_]
  .exact e
  .rintro⟨rfl,_⟩;rw[d]at e;cases e;exact f g⟩
def G7{c:Array MapEntry}{b:Nat}(h:QR c b){j:Nat}{e:MapEntry}(o:c[j]?=some e){k v:Value}:QR (c.modify j λd=>{d with key:=k,val:=v}) b:=by
 have f:(c.modify j λd=>{d with key:=k,val:=v}).toList.map (·.born)=c.toList.map (·.born):=by
  apply List.ext_getElem?;intro i;rw[List.getElem?_map,List.getElem?_map,dZ,dZ,G6];split
  .cases c[i]?<;>rfl
  .rfl
 refine⟨λx l=>?_,?_⟩
 .have:x.born∈c.toList.map (·.born):=by rw[<-f];exact List.mem_map_of_mem l
  obtain⟨y,m,n⟩:=List.mem_map.1 this;rw[<-n];exact h.1 y m
 .have g:(c.toList.map (·.born)).Pairwise (·≠·):=List.pairwise_map.2 h.2;rw[<-f]at g;exact List.pairwise_map.1 g
end
end
end Go.Dv
