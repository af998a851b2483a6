/- Lemmas for the law of this claim. -/
import Derived.Test.YtcphhjkcgikdgaaGreatDoorP06
set_option linter.all false
namespace Go.Dv
section
open Go.RowKit
section
variable{P:Program}{B:Nat}{w0:World}{U0:Nat->Prop}{β:Place}{H:Heap}{nx:Nat}{w:World}
def wI(a:Nat):∀(l:List Value) (k:Nat) (arr:Array Value),(l.zipIdx k).foldl (λb (p:Value×Nat)=>b.setIfInBounds (a+p.2) p.1) arr=cA arr (a+k) l
 |[],k,arr=>rfl
 |v::r,k,arr=>by
  simp only[List.zipIdx_cons,List.foldl_cons,cA];rw[wI a r (k+1),Nat.add_assoc]
def wy(b:Nat->Option (Nat×Nat))(a:Array Value)(i:Nat)(v:Value)(r:List (Nat×Value)){d c:Nat}(f:b i=some (d,c))(g:v.cells.size=c)(e:d+c<=a.size):
  Instr.fill b a ((i,v)::r)=Instr.fill b (cA a d v.cells.toList) r:=by
 have h:¬(v.cells.size≠c||decide (d+v.cells.size>a.size))=true:=by simp[g];omega
 simp only[Instr.fill,f];rw[an h];congr 1;have:=wI d v.cells.toList 0 a;rw[pO]at this;rw[<-this,<-Array.foldl_toList,Array.toList_zipIdx]
def nL(w:World)(U:Nat->Prop)(β:Place)(H:Heap)(nx:Nat)(b:List DV)(a:Array Value):Prop:=
 a.size=b.length/\∀j y,b[j]?=some y->bj w U β H nx y (a.getD j undef)/\(a.getD j undef).oneCell'=true
def nL.put{U:Nat->Prop}{g l:List DV}{e:Array Value}{v:Value}{c:Nat}(h:nL w U β H nx g e)(i:v.cells.size=l.length)
  (k:∀j y,l[j]?=some y->bj w U β H nx y (v.cells.getD j undef)/\(v.cells.getD j undef).oneCell'=true)(a:c+l.length<=g.length):
  nL w U β H nx (putAt g c l) (cA e c v.cells.toList):=by
 have b:v.cells.toList.length=l.length:=by simpa using i
 refine⟨by rw[bW,eG _ _ _ a,h.1],λj y f=>?_⟩;rw[fL _ _ _ a]at f;rw[uX (by rw[b,h.1];exact a),b];split at f
 .rename_i d;rw[aq d];have:=k _ _ f;rw[dA]at this;rw[List.getD_eq_getElem?_getD,dZ];exact this
 .rename_i d;rw[an d];exact h.2 _ _ f
def uG(w:World)(U:Nat->Prop)(β:Place)(H:Heap)(nx:Nat)(a:Nat->Option (Nat×Nat)):List (Nat×Nat×DV)->List (Nat×Value)->Prop
 |[],[]=>True
 |(c,b,d)::r,(i,v)::q=>a i=some (c,b)/\bj w U β H nx d v/\uG w U β H nx a r q
 |_,_=>False
def Dc{U:Nat->Prop}{a:Nat->Option (Nat×Nat)}:∀(l:List (Nat×Nat×DV)) (q:List (Nat×Value)) (j c:List DV) (b:Array Value),uG w U β H nx a l q->pA j l=some c->nL w U β H nx j b->
   ∃e,Instr.fill a b q=some e/\nL w U β H nx c e
 |[],[],j,c,b,_,h,k=>by simp only[pA,aw]at h;subst h;exact⟨b,rfl,k⟩
 |(m,o,d)::r,(i,v)::q,j,c,b,t,h,k=>by
   obtain⟨u,x,y⟩:=t;simp only[pA]at h;cases n:d.cells with
   |none=>rw[n]at h;cases h
   |some l=>
    rw[n]at h;simp only at h;split at h
    .rename_i f;obtain⟨p,s⟩:=f;obtain⟨z,A⟩:=qM n x;have g:m+l.length<=j.length:=ae;rw[wy a b i v q u ae (by rw[k.1];omega)];exact Dc r q _ _ _ y h (k.put z A g)
    .cases h
 |[],_::_,_,_,_,h,_,_=>h.elim
 |_::_,[],_,_,_,h,_,_=>h.elim
def A0{z:Value}{a:List PV}(d:iB z.cells.toList a=true){U:Nat->Prop}:nL w U β H nx (a.map .p) z.cells:=by
 obtain⟨f,g⟩:=fM (w:=w) (U:=U) _ _ d;refine⟨by simpa using f,λj y b=>?_⟩;rw[List.getElem?_map]at b;cases c:a[j]? with
 |none=>rw[c]at b;cases b
 |some p=>
  rw[c]at b;simp only[Option.map_some,aw]at b;subst b;have:=g j p c;have e:z.cells.toList.getD j undef=z.cells.getD j undef:=by rw[List.getD_eq_getElem?_getD,dZ,dA]
  rw[e]at this;exact⟨.p _ _ this.1,this.2⟩
def run_places(b:List Field)(h:∀f∈b,(P.info? f.type).isSome=true):∃c:List (Nat×Nat),((b.mapM λf=>(do pure (f.offset,<-sizeOf f.type):Sem (Nat×Nat))):Sem (List (Nat×Nat))).run P w=.ok c w/\
  ∀(i:Nat) (f:Field) (n:Nat),b[i]?=some f->dC P f.type n=true->c[i]?=some (f.offset,n):=by
 induction b with
 |nil=>exact⟨[],aB,aB⟩
 |cons f r m=>
  obtain⟨c,o,p⟩:=m λx q=>h x (by simp[q])
  obtain⟨i,j⟩:=py.1 (h f aB);have e:(sizeOf f.type).run P w=.ok i.size w:=by simp[sizeOf,typeInfo,j]
  refine⟨(f.offset,i.size)::c,by rw[List.mapM_cons];simp only[Sem.run_bind,e,Result.andThen_ok,Sem.run_pure];rw[o];rfl,λk g n d l=>?_⟩
  cases k with
  |zero=>
   simp only[List.getElem?_cons_zero,aw]at d;subst d;obtain⟨t,a,s⟩:=G1 l;rw[j]at a;cases a;simp[s]
  |succ k=>simp only[List.getElem?_cons_succ]at d⊢;exact p k g n d l
def MM{k:Nat}{x y:DV}{r:Bool}(h:uQ k x y=some r){U:Nat->Prop}{v u:Value}(g:bj w U β H nx x v)(i:bj w U β H nx y u){t:TypeId}(c:qS P t=some k)(d:Nat):
  (Op.equalIn (d+1) t v u).run P w=.ok r w:=by
 unfold qS at c;unfold uQ at h;split at h
 .rename_i k1 a k2 b;obtain rfl:=g.gJ;obtain rfl:=i.gJ;split at h
  .rename_i e;subst e;cases h;split at c
   .rename_i q f;exact run_equalIn_int w d t _ _ a b f
   all_goals cases c
  .cases h
 .obtain rfl:=g.ld;obtain rfl:=i.ld;cases h;split at c
  .cases c
  .rename_i f;exact run_equalIn_bool' w d t _ _ f
  all_goals cases c
 .obtain rfl:=g.kR;obtain rfl:=i.kR;cases h;split at c
  .cases c
  .cases c
  .rename_i f;exact run_equalIn_string w d t _ _ f
  .cases c
 .cases h
def HX{t:TypeId}{k:Nat}(h:qS P t=some k):iN P t=some false:=by
 unfold qS at h;unfold iN;split at h
 .rename_i a;rw[a]
 .rename_i a;rw[a]
 .rename_i a;rw[a]
 .cases h
def qO{t:TypeId}(a:iN P t=some false){arr:Array Value}{o:Nat}(b:o<arr.size):(part t arr o).run P w=.ok (arr.getD o undef) w:=by
 simp only[part,Sem.run_bind,rY a,Result.andThen_ok,Bool.false_eq_true,cy];rw[iC b];rfl
def sH(c d:List DV):∀a b:List (Nat×Nat),iM c d (a++b)=match iM c d a with
   |some true=>iM c d b
   |r=>r
 |[],b=>by simp[iM]
 |(o,k)::a,b=>by
   simp only[List.cons_append,iM];cases c[o]? with
   |none=>rfl
   |some x=>
    cases d[o]? with
    |none=>rfl
    |some y=>
     simp only;cases uQ k x y with
     |none=>rfl
     |some t=>
      cases t with
      |false=>rfl
      |true=>exact sH c d a b
def vr{t:TypeId}{n:Nat}(a:iN P t=some true)(b:dC P t n=true){arr:Array Value}{o:Nat}:(part t arr o).run P w=.ok (.agg (arr.extract o (o+n))) w:=by
 simp only[part,Sem.run_bind,rY a,Result.andThen_ok,bZ,run_sizeOf b,Sem.run_pure]
def pD(w:World)(U:Nat->Prop)(β:Place)(H:Heap)(nx a b:Nat)(c:List DV)(d:Array Value):Prop:=
 min b (c.length-a)<=d.size/\∀j,j<b->∀y,c[a+j]?=some y->bj w U β H nx y (d.getD j undef)
def pD.lt{U:Nat->Prop}{a b:Nat}{c:List DV}{d:Array Value}(h:pD w U β H nx a b c d){o:Nat}(f:o<b){y:DV}(e:c[a+o]?=some y):o<d.size:=by
 have:=aL e;have:=h.1;omega
def pD.part{U:Nat->Prop}{a b:Nat}{c:List DV}{d:Array Value}(h:pD w U β H nx a b c d){o n:Nat}(g:o+n<=b):pD w U β H nx (a+o) n c (d.extract o (o+n)):=by
 have i:=h.1;refine⟨by rw[Array.size_extract];omega,λj k y e=>?_⟩;have f:=aL e;have:=h.2 (o+j) ae y (by rw[<-Nat.add_assoc];exact e);rw[dA]at this⊢;rw[Q4,aq ae];exact this
def CV{U:Nat->Prop}{C D:List DV}:∀(n d e E:Nat) (v:List Field) (jf:List (Nat×Nat)) (r:Bool) (z A:Array Value),pD w U β H nx e E C z->pD w U β H nx e E D A->uC P n e E v=some jf->iM C D jf=some r->
  (Op.eqFields (d+n) z A v).run P w=.ok r w
 |0,_,_,_,_,_,_,_,_,_,_,h,_=>by simp[uC]at h
 |n+1,d,e,E,v,jf,r,z,A,J,K,c,h=>by
  rw[uC]at c;induction v generalizing jf r with
  |nil=>simp only[mn,aw]at c;subst c;simp only[iM,aw]at h;subst h;rfl
  |cons f v S=>
   simp only[mn]at c;split at c
   case isFalse=>cases c
   rename_i T;have F:¬f.name= "_" :=by simpa using T
   cases m:qS P f.type with
   |some k=>
    rw[m]at c;simp only at c;split at c
    case isFalse=>cases c
    rename_i p;cases L:mn P (uC P n) e E v with
    |none=>rw[L]at c;cases c
    |some l=>
     rw[L]at c;simp only[aw]at c;subst c;simp only[iM]at h;cases g:C[e+f.offset]? with
     |none=>rw[g]at h;cases h
     |some x=>
     cases q:D[e+f.offset]? with
     |none=>rw[g,q]at h;cases h
     |some y=>
     rw[g,q]at h;simp only at h;have j:=HX m;have M:=qO (P:=P) (w:=w) j (arr:=z) (o:=f.offset) (J.lt p g);have N:=qO (P:=P) (w:=w) j (arr:=A) (o:=f.offset) (K.lt p q);cases s:uQ k x y with
     |none=>rw[s]at h;cases h
     |some b=>
      rw[s]at h;have O:=MM (P:=P) s (J.2 _ p x g) (K.2 _ p y q) m (d+n);simp only[show d+(n+1)=(d+n)+1 from rfl,Op.eqFields,aq F,Sem.run_bind,M,N,Result.andThen_ok,O];cases b with
      |true=>simp only[Bool.not_true,Bool.false_eq_true,cy];exact S l r L h
      |false=>simp only at h;cases h;simp
   |none=>
    rw[m]at c;simp only at c;split at c
    case h_2=>cases c
    rename_i Q i R V;split at c
    case isFalse=>cases c
    rename_i s;simp only[aO,jW,cp]at s;split at c
    case h_2=>cases c
    rename_i a b W X;simp only[aw]at c;subst c;rw[sH]at h;have j:iN P f.type=some true:=by unfold iN;rw[R]
    have G:dC P f.type i.size=true:=by unfold dC;rw[V];simp
    have M:=vr (P:=P) (w:=w) j G (arr:=z) (o:=f.offset);have N:=vr (P:=P) (w:=w) j G (arr:=A) (o:=f.offset);have I:P.fieldsOf f.type=Q:=by unfold Program.fieldsOf;rw[R]
    have step:∀t,iM C D a=some t->(Op.equalIn (d+n+1) f.type (.agg (z.extract f.offset (f.offset+i.size))) (.agg (A.extract f.offset (f.offset+i.size)))).run P w=.ok t w:=by
     intro t Y;rw[run_equalIn_struct w (d+n) f.type _ _ (by rw[I];exact R) s.1,I];exact CV n d _ _ _ _ _ _ _ (J.part s.2) (K.part s.2) W Y
    cases u:iM C D a with
    |none=>rw[u]at h;cases h
    |some t=>
     rw[u]at h;have O:=step t u;simp only[show d+(n+1)=(d+n)+1 from rfl,Op.eqFields,aq F,Sem.run_bind,M,N,Result.andThen_ok,O];cases t with
     |true=>simp only[Bool.not_true,Bool.false_eq_true,cy];exact S b r X h
     |false=>simp only at h;cases h;simp
def FN{b:BinOp}{a:Bool}(h:zi b a=true){t:TypeId}{v u:Value}{r:Bool}(f:∀z:Sem Value,binOp .eql t v u=(do pure (.bool (<-Op.equal t v u)))->binOp .neq t v u=(do pure (.bool (!(<-Op.equal t v u))))->True)
  (d:binOp .eql t v u=(do pure (.bool (<-Op.equal t v u))))(e:binOp .neq t v u=(do pure (.bool (!(<-Op.equal t v u)))))(c:(Op.equal t v u).run P w=.ok r w):
  (binOp b t v u).run P w=.ok (.bool (if a then !r else r)) w:=by
 unfold zi at h;split at h
 .simp only[jW]at h;subst h;rw[d];simp[c]
 .subst h;rw[e];simp[c]
 .cases h
def QA{b:BinOp}{c:Bool}(a:zi b c=true){t:TypeId}{f:Array Field}(q:P.underlying t=some (.struct f)){jf:List (Nat×Nat)}(d:qo P t f.toList jf=true)(g:P.stoodInHeld t=false)(C:P.eqGuardType P.depth t=false)
  {U:Nat->Prop}{s x:List DV}{v u:Value}(D:bj w U β H nx (.agg s) v)(E:bj w U β H nx (.agg x) u){r:Bool}(h:iM s x jf=some r)(z A:Operand):
  (do eqGuard b t z A v u;binOp b t v u:Sem Value).run P w=.ok (.bool (if c then !r else r)) w:=by
 cases D with|agg _ k F K G=>
 cases E with|agg _ l m I n=>
 have e:P.fieldsOf t=f:=by unfold Program.fieldsOf;rw[q]
 have J:(Op.equal t (.agg k) (.agg l)).run P w=.ok r w:=by
  unfold Op.equal;rw[show Op.maxDepth=9999+1 from rfl,run_equalIn_struct w 9999 t k l (by rw[e];exact q) g,e];unfold qo at d;split at d
  case h_2=>cases d
  rename_i i L;simp only[cw]at d;exact CV 4 9995 0 i.size _ _ _ _ _ ⟨by rw[F];omega,λj _ y o=>G j y (by rwa [Nat.zero_add]at o)⟩ ⟨by rw[m];omega,λj _ y o=>n j y (by rwa [Nat.zero_add]at o)⟩ d h
 have p:(eqGuard b t z A (.agg k) (.agg l)).run P w=.ok () w:=by
  unfold eqGuard;have:(b matches .eql| .neq)=true:=by unfold zi at a;split at a<;>first|rfl|cases a
  simp[this,C]
 simp only[Sem.run_bind,p,Result.andThen_ok];exact FN a (λ_ _ _=>trivial) rfl rfl J
def Xk{d:BinOp}{c:Bool}(e:zi d c=true){t:TypeId}(f:P.underlying t=some .bool)(a b:Bool)(g h:Operand):
  (do eqGuard d t g h (.bool a) (.bool b);binOp d t (.bool a) (.bool b):Sem Value).run P w=.ok (.bool (if c then !(a==b)else(a==b))) w:=by
 have i:(Op.equal t (.bool a) (.bool b)).run P w=.ok (a==b) w:=by
  unfold Op.equal;exact run_equalIn_bool' w 9999 t a b f
 simp only[eqGuard_at_bool,Sem.run_bind,Sem.run_pure,Result.andThen_ok];exact FN e (λ_ _ _=>trivial) rfl rfl i
def X9{a:UnOp}{d:DV}{r:PV}(h:KX a d=some r){U:Nat->Prop}{x:Value}(b:bj w U β H nx d x):∃z,(Op.unary a x).run P w=.ok z w/\bP w U r z:=by
 unfold KX at h;split at h
 .obtain rfl:=b.ld;split at h
  .cases h;exact⟨_,rfl,.bool _⟩
  .cases h
 .obtain rfl:=b.gJ;split at h
  .cases h;exact⟨_,by simp[Op.unary,Op.intArith],.int _ _⟩
  .cases h;exact⟨_,by simp[Op.unary,intBits_xor],.int _ _⟩
  .cases h
 .cases h
def YF{c:Bool}{a:PV}{b:DV}{r:PV}(h:Ng c a b=some r){U:Nat->Prop}{x y:Value}(d:bP w U a x)(f:bj w U β H nx b y):
  ∃z,((if c then Builtin.max2 else Builtin.min2) x y).run P w=.ok z w/\bP w U r z:=by
 unfold Ng at h;split at h
 .cases d;obtain rfl:=f.gJ;split at h
  .rename_i e;subst e;cases h;cases c
   .refine⟨_,rfl,?_⟩;simp only[Bool.false_eq_true,cy];exact .int _ _
   .refine⟨_,rfl,?_⟩;simp only[bZ];exact .int _ _
  .cases h
 .cases d;obtain rfl:=f.kR;cases c
  .simp only[Bool.false_eq_true,cy,fA]at h⊢;cases h;exact⟨_,by simp[Builtin.min2,Op.stringOp,asBool],.str _⟩
  .simp only[bZ,fA]at h⊢;cases h;exact⟨_,by simp[Builtin.max2,Op.stringOp,asBool],.str _⟩
 .cases h
def JX{c:Bool}{U:Nat->Prop}:∀(l:List DV) (q:List Value) (a:PV) (x:Value) (r:PV),wm (Ng c) a l=some r->l.length=q.length->(∀(j:Nat) (d:DV),l[j]?=some d->bj w U β H nx d (q.getD j undef))->bP w U a x->
  ∃z,(q.foldlM (if c then Builtin.max2 else Builtin.min2) x).run P w=.ok z w/\bP w U r z
 |[],[],a,x,r,h,_,_,f=>by simp only[wm,aw]at h;subst h;exact⟨x,rfl,f⟩
 |d::l,v::q,a,x,r,h,k,i,f=>by
  simp only[wm]at h;cases g:Ng c a d with
  |none=>rw[g]at h;cases h
  |some b=>
   rw[g]at h;obtain⟨z,m,n⟩:=YF (P:=P) g f (by simpa using i 0 d rfl);obtain⟨o,p,s⟩:=JX l q b z r h (by simpa using k) (λj e t=>by simpa using i (j+1) e (by simpa using t)) n;exact⟨o,by rw[List.foldlM_cons];simp only[Sem.run_bind,m,Result.andThen_ok,p],s⟩
 |[],_::_,_,_,_,_,h,_,_=>by simp at h
 |_::_,[],_,_,_,_,h,_,_=>by simp at h
end
end
section
open Go.RowKit
def fx(P:Program)(f:FuncId):Prop:=∃b,P.funcs[f]?=some b/\(b.name== "runtime.NumGoroutine")=false/\b.body.isNone=false
def sn(P:Program)(f:FuncId)(args:List PV)(r:PV):Prop:=
 fx P f/\∀(U:Nat->Prop) (w:World) (c:Array Value),(∀b,U b->b<w.heap.size)->lK w.heap.size w->c.size=args.length->(∀j p,args[j]?=some p->bP w U p (c.getD j undef))->
  Calls P f c w λe d=>∃v,e=.returned v/\bP d U r v/\Below w.heap.size w d
def iJ(P:Program)(f:FuncId)(args:List DV)(H:Heap)(nx:Nat)(r:DV)(g:Heap)(b:Nat):Prop:=
 fx P f/\∀(B:Nat) (w0:World) (U0:Nat->Prop) (β:Place) (w:World) (c:Array Value),Mem B w0 U0 β H nx w->c.size=args.length->
  (∀j d,args[j]?=some d->bj w (Own U0 β H) β H nx d (c.getD j undef))->Calls P f c w λe h=>∃x,e=.returned x/\Good B w0 U0 H nx β w r g b x h
def NO(P:Program)(f:FuncId)(args:List DV)(H:Heap)(nx:Nat)(r:PV)(c:Heap):Prop:=
 fx P f/\∀(B:Nat) (w0:World) (U0:Nat->Prop) (β:Place) (w:World) (b:Array Value),Mem B w0 U0 β H nx w->b.size=args.length->
  (∀j d,args[j]?=some d->bj w (Own U0 β H) β H nx d (b.getD j undef))->Calls P f b w λe g=>∃x,e=.panicked [{v:=x,recovered:=false}]/\Good B w0 U0 H nx β w (.p r) c nx x g
structure bS(P:Program)(cf:aI):Prop where
 pure:∀f args r,cf.pure f args=some r->sn P f args r
 de:∀f args H nx r H' nx',cf.de f args H nx=some (r,H',nx')->iJ P f args H nx r H' nx'
 dies:∀f args H nx r H',cf.dies f args H nx=some (r,H')->NO P f args H nx r H'
section
variable{P:Program}{B:Nat}{w0:World}{U0:Nat->Prop}{β:Place}{H:Heap}{nx:Nat}{w:World}
def Dr(w:World)(U:Nat->Prop)(β:Place)(H:Heap)(nx:Nat):List (Nat×DV)->List (Nat×Value)->Prop
 |[],[]=>True
 |(i,d)::r,(j,v)::q=>i=j/\bj w U β H nx d v/\Dr w U β H nx r q
 |_,_=>False
def EY(m:Mem B w0 U0 β H nx w)(o:List Nat){b:Nat}:∀(l:List (Nat×DV)) (q:List (Nat×Value)) (k:Nat) (z:List (List PV)) (c:Array Value),di H b k l=some z->Dr w (Own U0 β H) β H nx l q->
   (∀x∈l,∀i∈eR H dep x.2,i∈o)->(k+l.length)*b<=c.size->
   ∃f,Instr.fill (λi=>some (i*b,b)) c q=some f/\f.size=c.size/\z.length=l.length/\(∀x∈z,x.length=b)/\(∀p,p<k*b->f[p]?=c[p]?)/\(∀p,(k+z.length)*b<=p->f[p]?=c[p]?)/\
    ∃C:Nat->Nat->Value,∀i x j y,z[i]?=some x->x[j]?=some y->f[(k+i)*b+j]?=some (C i j)/\(C i j).oneCell'=true/\bP w (Own U0 β (cY H o)) y (C i j)
 |[],[],k,z,c,h,_,_,_=>by
   simp only[di,aw]at h;subst h;exact⟨c,rfl,rfl,rfl,aB,λ_ _=>rfl,λ_ _=>rfl,λ_ _=>undef,aB⟩
 |(i,d)::l,(j,v)::q,k,z,c,h,L,t,u=>by
   obtain⟨rfl,M,E⟩:=L;simp only[di]at h;split at h
   .rename_i e;subst e;cases A:bE H dep d with
    |none=>rw[A]at h;cases h
    |some p=>
    rw[A]at h;simp only at h;cases F:p.cellsOf with
    |none=>rw[F]at h;cases h
    |some W=>
    rw[F]at h;simp only at h;split at h
    .rename_i N;cases G:di H b (i+1) l with
     |none=>rw[G]at h;cases h
     |some D=>
     rw[G]at h;simp only[aw]at h;subst h;have I:=ql m o dep d p v A (t (i,d) aB) M;obtain⟨X,O⟩:=Cl F I;have Y:(i+(l.length+1))*b=i*b+b+l.length*b:=by rw[dq,dq,gX];omega
     simp only[List.length_cons]at u;have g:i*b+v.cells.toList.length<=c.size:=by simp only[jz];omega
     obtain⟨f,Q,R,S,T,K,U,C,V⟩:=EY m o l q (i+1) D (cA c (i*b) v.cells.toList) G E (λx n=>t x (by simp[n])) (by
      rw[bW,show i+1+l.length=i+(l.length+1)from ae];exact u)
     have Z:(i+1)*b=i*b+b:=by rw[dq,gX]
     refine⟨f,by rw[wy _ c i v q rfl ae ae];exact Q,by rw[R,bW],by simp[S],?_,λp A=>?_,λp A=>?_,λr=>match r with|0=>λj=>v.cells.getD j undef|r+1=>C r,?_⟩
     .intro x n;rcases List.mem_cons.1 n with rfl|n
      .exact N
      .exact T x n
     .rw[K p ae,fg _ _ _ _ g,an ae]
     .simp only[List.length_cons]at A;rw[U p (by rw[show i+1+D.length=i+(D.length+1)from ae];exact A),fg _ _ _ _ g,an];have e3:(i+(D.length+1))*b=i*b+b+D.length*b:=by rw[dq,dq,gX];omega
      simp only[jz];omega
     .intro r x j y n J;cases r with
      |zero=>
       simp only[List.getElem?_cons_zero,aw]at n;subst n;have hj:=aL J;have:=O j y J;refine⟨?_,this.2,this.1⟩;rw[pO,K _ ae,fg _ _ _ _ g,aq ⟨ae,by simp only[jz];omega⟩,show i*b+j-i*b=j from ae,dZ];exact iC ae
      |succ r=>
       simp only[List.getElem?_cons_succ]at n;have:=V r x j y n J;rw[show i+(r+1)=i+1+r from ae];exact this
    .cases h
   .cases h
 |[],_::_,_,_,_,_,h,_,_=>h.elim
 |_::_,[],_,_,_,_,h,_,_=>h.elim
def Bw{t e:TypeId}(ht:P.underlying t=some (.slice e)){d:List PV}(hz:lM P e d=true)(x3:0<d.length){f:Nat}(x9:f*d.length<=2^24)(m:Mem B w0 U0 β H nx w){l:List (Nat×DV)}{g:Array (Nat×Value)}
  (Q:Dr w (Own U0 β H) β H nx l g.toList)(x4:l.length<=f){n:List (List PV)}(h:di H d.length 0 l=some n):
  ∃y R,(Instr.buildSlice t f g).run P w=.ok y R/\Good B w0 U0 H nx β w (.p (.slice true (n++List.replicate (f-n.length) d))) (cY H ((l.map (·.2)).flatMap (eR H dep))) nx y R/\mK w R:=by
 obtain⟨i,z,M,S,T,V⟩:=lq hz;generalize E:(l.map (·.2)).flatMap (eR H dep)=q;have F:∀x∈l,∀i∈eR H dep x.2,i∈q:=by
  intro x p i M;rw[<-E,List.mem_flatMap];exact⟨x.2,List.mem_map.2 ⟨x,p,rfl⟩,M⟩
 obtain⟨k,f1,f2,f3,f4,f5,f6,N,f7⟩:=EY m q l g.toList 0 n (madeCells z.cells (f*d.length)) h Q F (by rw[size_madeCells];exact c7 _ ae);rw[size_madeCells]at f2;have G:(Instr.buildSlice t f g).run P w=.ok (.slice (some ⟨w.heap.size,0,none⟩) f f) (w.alloc (.cells k e)):=by
  have W:¬(f*d.length>2^24):=ae;by_cases v:f*d.length=0
  .have X:f=0:=by rcases Nat.mul_eq_zero.1 v with h|h;exact h;omega
   subst X;have hl:l=[]:=List.eq_nil_of_length_eq_zero ae;subst hl;have hp:g.toList=[]:=by
    cases Y:g.toList with
    |nil=>rfl
    |cons a b=>rw[Y]at Q;exact Q.elim
   have ha:k=#[]:=by apply Array.eq_empty_of_size_eq_zero;rw[f2];simp
   subst ha;simp[Instr.buildSlice,run_underlying ht,sizeOf,typeInfo,M,hp,Instr.fill,newRow,Array.range_zero']
  .simp only[madeCells]at f1;simp only[Instr.buildSlice,Sem.run_bind,run_underlying ht,Result.andThen_ok,sizeOf,typeInfo,run_program,M,Sem.run_pure,V,an W,an v,zeroValue,S,f1,newRow,run_newObj];rfl
 refine⟨_,_,G,?_,EN _ _⟩;obtain⟨m1,k1⟩:=m.call (ix (Nat.le_refl _) (.cells k e));have I:=lr q H;refine⟨β,m1.less I,k1.trans (I.keeps _),I.cn (Nat.le_refl _),.p _ _ ?_⟩;have k2:=k1.trans (I.keeps (U0:=U0) (β:=β) (w.alloc (.cells k e)));by_cases v:f=0
 .subst v;have:n=[]:=List.eq_nil_of_length_eq_zero ae;subst this;exact .none true _ 0 (λ_=>rfl)
 .have J:(n++List.replicate (f-n.length) d).length=f:=by simp;omega
  have K:(w.alloc (.cells k e)).heap[w.heap.size]?=some (.cells k e (0,0)):=by rw[heap_alloc,aq rfl]
  have L:¬Own U0 β (cY H q) w.heap.size:=by
   rintro(O|⟨id,aY,c,W,_,h3⟩)
   .have:=m.u0 _ O;have:=m.bsize;omega
   .obtain⟨b0,h4,_⟩:=I.sub _ _ W;obtain⟨_,o',h5⟩:=(m.h.aY id b0 h4).there h3;have:=aM h5;omega
  have A:∀i x j y,(n++List.replicate (f-n.length) d)[i]?=some x->x[j]?=some y->k[0+i*d.length+j]?=some (if i<n.length then N i j else z.cells.toList.getD j undef)/\
    (if i<n.length then N i j else z.cells.toList.getD j undef).oneCell'=true/\bP (w.alloc (.cells k e)) (Own U0 β (cY H q)) y (if i<n.length then N i j else z.cells.toList.getD j undef):=by
   intro i x j y p r;by_cases C:i<n.length
   .rw[List.getElem?_append_left C]at p;simp only[aq C];have:=f7 i x j y p r;refine⟨by have v:=this.1;rw[Nat.zero_add]at v⊢;exact v,this.2.1,this.2.2.lx ?_⟩;exact⟨λb o _ O ho=>by rw[heap_alloc,an (by have:=aM ho;omega)];exact ho,λb o _ O _=>O⟩
   .rw[List.getElem?_append_right ae]at p;simp only[an C];have Z:(List.replicate f d)[i]?=some x:=by
     have x0:=aL p;simp only[List.length_replicate]at x0;have e:=List.eq_of_mem_replicate (List.mem_of_getElem? p);rw[List.getElem?_replicate,aq ae,e]
    have D:=se (w:=w.alloc (.cells k e)) T Z r;refine⟨?_,D.2.1,D.2.2 _⟩;have x1:x=d:=List.eq_of_mem_replicate (List.mem_of_getElem? p);have xl:j<d.length:=by have:=aL r;rw[x1]at this;exact this
    have:=f6 (i*d.length+j) (by
     have:(0+n.length)*d.length<=i*d.length:=c7 _ ae;omega)
    rw[Nat.zero_add,this];exact D.1
  have u:=bP.slice (w:=w.alloc (.cells k e)) (U:=Own U0 β (cY H q)) true (n++List.replicate (f-n.length) d) w.heap.size 0 f d.length k e (0,0) (λi j=>if i<n.length then N i j else z.cells.toList.getD j undef)
   ae ae (λ_=>J.symm) K L (λx p=>by
    rcases List.mem_append.1 p with h|h
    .exact f4 x h
    .rw[List.eq_of_mem_replicate h]) (λi x j y p r=>(A i x j y p r).1) (λi x j y p r=>(A i x j y p r).2.1) (λi x j y p r=>(A i x j y p r).2.2)
  rw[J]at u;exact u
def Bs{t e:TypeId}(A:P.underlying t=some (.slice e)){zero:List PV}(C:lM P e zero=true)(p:0<zero.length)(D:zero.length<=2^24)(m:Mem B w0 U0 β H nx w){d:DV}{v:Value}
  (E:bj w (Own U0 β H) β H nx d v){c:List DV}(F:d.cells=some c)(G:c.length=zero.length){parts:Array (Nat×Value)}(I:parts.toList=[(0,v)]):
  ∃y q,(Instr.buildSlice t 1 parts).run P w=.ok y q/\Good B w0 U0 H nx β w (.ref nx 1 0 1) ((nx,.bh false zero.length [c])::H) (nx+1) y q:=by
 obtain⟨i,z,J,l,K,n⟩:=lq C;obtain⟨L,r⟩:=qM F E;have f:(madeCells z.cells (1*zero.length)).size=1*zero.length:=size_madeCells _ _;have g:0+v.cells.toList.length<=(madeCells z.cells (1*zero.length)).size:=by rw[f,jz];omega
 have o:Instr.fill (λi=>some (i*zero.length,zero.length)) (madeCells z.cells (1*zero.length)) parts.toList=some (cA (madeCells z.cells (1*zero.length)) (0*zero.length) v.cells.toList):=by
  rw[I,wy _ _ 0 v [] rfl ae ae];rfl
 rw[wc]at o;have h:(Instr.buildSlice t 1 parts).run P w=.ok (.slice (some ⟨w.heap.size,0,none⟩) 1 1) (w.alloc (.cells (cA (madeCells z.cells (1*zero.length)) 0 v.cells.toList) e)):=by
  have M:¬(1*zero.length>2^24):=ae;have N:¬1*zero.length=0:=ae;simp only[madeCells]at o⊢;simp only[Instr.buildSlice,Sem.run_bind,run_underlying A,Result.andThen_ok,sizeOf,typeInfo,run_program,J,Sem.run_pure,n,an M,an N,zeroValue,l,o,newRow,run_newObj];rfl
 refine⟨_,_,h,PY m zero.length [c] (λ_ j=>v.cells.getD j undef) _ 1 e w rfl (Below.refl _ _) (by rw[bW,f]) (Nat.le_refl _) ⟨?_,?_,?_⟩ ?_⟩
 .intro i x j y b k;cases i with
  |zero=>simp only[List.getElem?_cons_zero,aw]at b;subst b;exact(r j y k).2
  |succ i=>simp at b
 .intro i x j y b k;cases i with
  |zero=>simp only[List.getElem?_cons_zero,aw]at b;subst b;exact(r j y k).1
  |succ i=>simp at b
 .intro x b;simp only[List.mem_singleton]at b;subst b;exact G
 .intro i x j y b k;cases i with
  |zero=>
   simp only[List.getElem?_cons_zero,aw]at b;subst b;have O:=aL k;have u:v.cells.toList.length=c.length:=by rw[jz,L]
   rw[fg _ _ _ _ g,aq ⟨ae,ae⟩,dZ,wc,Nat.zero_add,qD];exact iC ae
  |succ i=>simp at b
def C9{t e:TypeId}(k:P.underlying t=some (.slice e)){b:List PV}(n:lM P e b=true)(d:0<b.length){c:Nat}(i:c*b.length<=2^24)(m:Mem B w0 U0 β H nx w){l:List (Nat×DV)}{parts:Array (Nat×Value)}
  (o:Dr w (Own U0 β H) β H nx l parts.toList)(f:l.length<=c){j:List (List PV)}(h:di H b.length 0 l=some j):
  ∃y g,(Instr.buildSlice t c parts).run P w=.ok y g/\Good B w0 U0 H nx β w (.p (.slice true (j++List.replicate (c-j.length) b))) (cY H ((l.map (·.2)).flatMap (eR H dep))) nx y g:=by
 obtain⟨y,g,p,q,_⟩:=Bw (P:=P) k n d i m o f h;exact⟨y,g,p,q⟩
def o6{U:Nat->Prop}{r:PV}{v:Value}(h:bP w U r v):bj w U β H nx (aQ r) v:=by
 have one:∀{p:PV} {x:Value},bP w U p x->bj w U β H nx (rR p) x:=by
  intro p x R;cases R with
  |agg u e A C g=>
   refine .agg _ e (by simpa using A) (λj y o=>?_) (λj y o=>?_);all_goals
    rw[List.getElem?_map]at o;cases q:u[j]? with
    |none=>rw[q]at o;cases o
    |some c=>
     rw[q]at o;simp only[Option.map_some,aw]at o;subst o
     first|exact C j c q|exact .p _ _ (g j c q)
  |int k n=>exact .p _ _ (.int k n)
  |bool b=>exact .p _ _ (.bool b)
  |str s=>exact .p _ _ (.str s)
  |none d a c h=>exact .p _ _ (.none d a c h)
  |slice d L b i c M l T G e I q N D E J K C g=>exact .p _ _ (.slice d L b i c M l T G e I q N D E J K C g)
  |eN u b i l T G e D E K C g=>exact .p _ _ (.eN u b i l T G e D E K C g)
  |func f F e A g=>exact .p _ _ (.func f F e A g)
  |tuple u e A g=>exact .p _ _ (.tuple u e A g)
  |undef _=>exact .p _ _ (.undef _)
  |map n f b O m D E Q=>exact .p _ _ (.map n f b O m D E Q)
  |iface t p v h=>exact .p _ _ (.iface t p v h)
  |z a c=>exact .p _ _ (.z a c)
 cases h with
 |tuple u e A g=>
  refine .tuple _ e (by simpa using A) (λj y o=>?_);rw[List.getElem?_map]at o;cases q:u[j]? with
  |none=>rw[q]at o;cases o
  |some c=>
   rw[q]at o;simp only[Option.map_some,aw]at o;subst o;exact one (g j c q)
 |agg u e A C g=>exact one (.agg u e A C g)
 |int k n=>exact .p _ _ (.int k n)
 |bool b=>exact .p _ _ (.bool b)
 |str s=>exact .p _ _ (.str s)
 |none d a c h=>exact .p _ _ (.none d a c h)
 |slice d L b i c M l T G e I q N D E J K C g=>exact .p _ _ (.slice d L b i c M l T G e I q N D E J K C g)
 |eN u b i l T G e D E K C g=>exact .p _ _ (.eN u b i l T G e D E K C g)
 |func f F e A g=>exact .p _ _ (.func f F e A g)
 |undef v=>exact .p _ _ (.undef v)
 |map n f b O m D E Q=>exact .p _ _ (.map n f b O m D E Q)
 |iface t p v h=>exact .p _ _ (.iface t p v h)
 |z a c=>exact .p _ _ (.z a c)
def MA{U d:Nat->Prop}{e:World}{r:PV}{v:Value}(c:r.plain=true)(h:bP w U r v):bP e d r v:=by
 have one:∀{p:PV} {x:Value},(match p with| .int _ _| .bool _| .str _=>true|_=>false)=true->bP w U p x->bP e d p x:=by
  intro p x c h;cases h<;>first|(simp at c;done)|skip
  .exact .int _ _
  .exact .bool _
  .exact .str _
 cases h with
 |int k n=>exact .int k n
 |bool b=>exact .bool b
 |str s=>exact .str s
 |tuple g i l m=>
  refine .tuple g i l λj y f=>one ?_ (m j y f)
  simp only[PV.plain,List.all_eq_true]at c;have:=c y (List.mem_of_getElem? f);exact this
 |_=>simp[PV.plain]at c
def NI(m:Mem B w0 U0 β H nx w){d:Heap}(l:gT H d):∀b,Own U0 β d b->b<w.heap.size:=by
 rintro b (e|⟨id,aY,c,f,_,g⟩)
 .exact pb (m.u0 b e) m.bsize
 .obtain⟨h,i,_⟩:=l.sub _ _ f;obtain⟨_,k,j⟩:=(m.h.aY id h i).there g;exact aM j
def j3{f:FuncId}(h:fx P f)(args:Array Value):(callFunc f args).run P w=.ok (.enter f args) w:=by
 obtain⟨e,b,c,d⟩:=h;simp only[callFunc,Sem.run_bind,run_program,Result.andThen_ok,b,c,d,Bool.false_eq_true,cy,Sem.run_pure]
def wP{cf:aI}(z:bS P cf)(m:Mem B w0 U0 β H nx w){de:Bool}{f:FuncId}{args:List DV}{r:DV}{A:Heap}{c:Nat}(h:iU cf de f args H nx=some (r,A,c)){vs:Array Value}(I:vs.size=args.length)
  (C:∀j d,args[j]?=some d->bj w (Own U0 β H) β H nx d (vs.getD j undef)):
  fx P f/\Calls P f vs w λe D=>∃x,e=.returned x/\Good B w0 U0 H nx β w r A c x D:=by
 unfold iU at h;split at h
 .obtain⟨t,u⟩:=z.de _ _ _ _ _ _ _ h;exact⟨t,u B w0 U0 β w vs m I C⟩
 .cases n:cl (bE H dep) args with
  |none=>rw[n]at h;cases h
  |some J=>
   rw[n]at h;simp only at h;cases y:cf.pure f J with
   |none=>rw[y]at h;cases h
   |some q=>
    rw[y]at h;simp only[aw,bQ]at h;obtain⟨rfl,rfl,rfl⟩:=h;obtain⟨t,u⟩:=z.pure _ _ _ y;generalize g:args.flatMap (eR H dep)=b;have o:=lr b H;have E:=(eS n).1;refine⟨t,(u (Own U0 β (cY H b)) w vs (NI m o) (m.tab.mono m.bsize) ae λj p k=>?_).mono ?_⟩
    .obtain⟨a,F,K⟩:=iY n k;exact ql m b dep a p _ K (λi L=>by rw[<-g,List.mem_flatMap];exact⟨a,List.mem_of_getElem? F,L⟩) (C j a F)
    .rintro e D ⟨v,rfl,l,M⟩;obtain⟨G,k1⟩:=m.call M;refine⟨v,rfl,?_⟩;by_cases k:q.plain=true
     .rw[aq k];exact⟨β,G,k1,ku.refl _ _ _,o6 (MA k l)⟩
     .rw[an k];exact⟨β,G.less o,k1.trans (o.keeps _),o.cn (Nat.le_refl _),o6 l⟩
variable{nt:Cx}{s:St}{a:Act}{cf:aI}
def GW(g:bH B w0 U0 nt β s a w):∀(b:List Operand) (c:List DO) (l:List DV),kJ b c=true->gn s c=some l->b.length=l.length/\∀(j:Nat) (d:DV),l[j]?=some d->bj w (Own U0 β s.heap) β s.heap s.next d ((b.map a.eval).getD j undef)
 |[],[],l,_,h=>by simp only[gn,aw]at h;subst h;exact⟨rfl,aB⟩
 |x::b,d::c,l,k,h=>by
  simp only[kJ,aO]at k;simp only[gn]at h;cases f:s.ev d with
  |none=>rw[f]at h;cases h
  |some v=>
  cases m:gn s c with
  |none=>rw[f,m]at h;cases h
  |some r=>
   rw[f,m]at h;simp only[aw]at h;subst h;obtain⟨n,o⟩:=GW g b c r k.2 m;refine⟨by simp[n],λj e i=>?_⟩;cases j with
   |zero=>simp only[List.getElem?_cons_zero,aw]at i;subst i;simpa using g.ev k.1 f
   |succ j=>simp only[List.getElem?_cons_succ]at i;simpa using o j e i
 |[],_::_,_,h,_=>by simp[kJ]at h
 |_::_,[],_,h,_=>by simp[kJ]at h
def pj(g:bH B w0 U0 nt β s a w){b:Array Operand}{c:List DO}{l:List DV}(e:kJ b.toList c=true)(h:gn s c=some l):(b.map a.eval).size=l.length/\∀(j:Nat) (d:DV),l[j]?=some d->bj w (Own U0 β s.heap) β s.heap s.next d ((b.map a.eval).getD j undef):=by
 obtain⟨f,i⟩:=GW g _ _ _ e h;refine⟨by simpa using f,λj d k=>?_⟩;have:=i j d k;rw[List.getD_eq_getElem?_getD,List.getElem?_map,dZ]at this;rw[dA,Array.getElem?_map];exact this
def Bg(g:bH B w0 U0 nt β s a w){fs:Array Field}{pl:List (Nat×Nat)}(e:∀(i:Nat) (f:Field) (n:Nat),fs[i]?=some f->dC P f.type n=true->pl[i]?=some (f.offset,n)):
   ∀(k:List (Nat×Operand)) (j:List (Nat×Nat×DO)) (l:List (Nat×Nat×DV)),pC P fs k j=true->eP s j=some l->uG w (Own U0 β s.heap) β s.heap s.next (pl.toArray[·]?) l (k.map λp=>(p.1,a.eval p.2))
 |[],[],l,_,h=>by simp only[eP,aw]at h;subst h;trivial
 |(i,x)::k,(t,n,d)::j,l,q,h=>by
   simp only[pC,aO]at q;obtain⟨⟨c,u⟩,y⟩:=q;simp only[eP]at h;cases m:s.ev d with
   |none=>rw[m]at h;cases h
   |some v=>
   cases o:eP s j with
   |none=>rw[m,o]at h;cases h
   |some r=>
    rw[m,o]at h;simp only[aw]at h;subst h;refine⟨?_,g.ev u m,Bg g e k j r y o⟩;cases b:fs[i]? with
    |none=>rw[b]at c;cases c
    |some f=>
     rw[b]at c;simp only[aO,cw]at c;rw[<-c.1];simpa using e i f n b c.2
 |[],_::_,_,h,_=>by simp[pC]at h
 |_::_,[],_,h,_=>by simp[pC]at h
def zm(g:bH B w0 U0 nt β s a w){f:Nat}:
   ∀(c:List (Nat×Operand)) (b:List (Nat×Nat×DO)) (l:List (Nat×Nat×DV)),nK f c b=true->eP s b=some l->uG w (Own U0 β s.heap) β s.heap s.next (λi=>some (i*f,f)) l (c.map λp=>(p.1,a.eval p.2))
 |[],[],l,_,h=>by simp only[eP,aw]at h;subst h;trivial
 |(i,x)::c,(m,n,d)::b,l,k,h=>by
   simp only[nK,aO,cw]at k;obtain⟨⟨⟨o,q⟩,t⟩,u⟩:=k;simp only[eP]at h;cases e:s.ev d with
   |none=>rw[e]at h;cases h
   |some v=>
   cases j:eP s b with
   |none=>rw[e,j]at h;cases h
   |some r=>
    rw[e,j]at h;simp only[aw]at h;subst h;exact⟨by rw[o,q],g.ev t e,zm g c b r u j⟩
 |[],_::_,_,h,_=>by simp[nK]at h
 |_::_,[],_,h,_=>by simp[nK]at h
def JG(g:bH B w0 U0 nt β s a w):
   ∀(c:List (Nat×Operand)) (b:List (Nat×DO)) (l:List (Nat×DV)),Fm c b=true->iG s b=some l->l.length=b.length/\Dr w (Own U0 β s.heap) β s.heap s.next l (c.map λp=>(p.1,a.eval p.2))
 |[],[],l,_,h=>by simp only[iG,aw]at h;subst h;exact⟨rfl,trivial⟩
 |(i,x)::c,(j,d)::b,l,k,h=>by
   simp only[Fm,aO,cw]at k;obtain⟨⟨m,n⟩,o⟩:=k;simp only[iG]at h;cases e:s.ev d with
   |none=>rw[e]at h;cases h
   |some v=>
   cases f:iG s b with
   |none=>rw[e,f]at h;cases h
   |some r=>
    rw[e,f]at h;simp only[aw]at h;subst h;obtain⟨q,t⟩:=JG g c b r o f;exact⟨by simp[q],m.symm,g.ev n e,t⟩
 |[],_::_,_,h,_=>by simp[Fm]at h
 |_::_,[],_,h,_=>by simp[Fm]at h
def VW(g:bH B w0 U0 nt β s a w){c:Option Operand}{d:Option DO}(h:mU c d=true){l:Int}(b:sT s d 0=some l):XA (c.map a.eval) l:=by
 cases c with
 |none=>cases d with
  |none=>simp only[sT,aw]at b;exact b.symm
  |some _=>simp[mU]at h
 |some x=>cases d with
  |none=>simp[mU]at h
  |some d=>
   simp only[mU]at h;simp only[sT]at b;cases e:s.ev d with
   |none=>rw[e]at b;cases b
   |some v=>
    rw[e]at b;simp only[S2]at b;split at b
    .rename_i k n;cases b;have:=(g.ev h e).gJ;exact⟨k,this⟩
    .cases b
def Fo(g:bH B w0 U0 nt β s a w){c:Option Operand}{d:Option DO}(h:mU c d=true){l:Option Int}(b:qZ s d=some l):DC (c.map a.eval) l:=by
 cases c with
 |none=>cases d with
  |none=>simp only[qZ,aw]at b;subst b;trivial
  |some _=>simp[mU]at h
 |some x=>cases d with
  |none=>simp[mU]at h
  |some d=>
   simp only[mU]at h;simp only[qZ]at b;cases e:s.ev d with
   |none=>rw[e]at b;cases b
   |some v=>
    rw[e]at b;simp only[S2]at b;cases v with
    |p q=>
     cases q with
     |int k n=>
      simp only[Option.map_some,aw]at b;subst b;exact⟨k,(g.ev h e).gJ⟩
     |_=>cases b
    |_=>cases b
end
end
end Go.Dv
