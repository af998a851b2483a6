/- Lemmas for the law of this claim. -/
import Derived.Calls
import Derived.Orders
import Derived.Below
import Derived.KernelRfl
import Derived.Test.YtcphhjkcgikdgaaGreatDoorP00
set_option linter.all false
namespace Go.Dv
section
def s8(o:Obj):Prop:=(∃m s e c,o=.mapIter m s e c)\/∃s p,o=.stringIter s p
structure Below(B:Nat)(w w':World):Prop extends Go.RowKit.Below B w w' where
 drawn:w.drawn<=w'.drawn
 iter:∀(k:Nat) (o:Obj),s8 o->w.heap[k]?=some o->w'.heap[k]?=some o
def Below.refl(B:Nat)(w:World):Below B w w:=⟨Go.RowKit.Below.refl B w,Nat.le_refl _,λ_ _ _ h=>h⟩
def Below.trans{B:Nat}{a b c:World}(h:Below B a b)(k:Below B b c):Below B a c:=⟨h.toBelow.trans k.toBelow,ep h.drawn k.drawn,λi o d e=>k.iter i o d (h.iter i o d e)⟩
def Below.mono{B a:Nat}{w b:World}(h:Below B w b)(c:a<=B):Below a w b:=⟨h.toBelow.mono c,h.drawn,h.iter⟩
def Below.drew{B:Nat}{a w:World}(h:Below B a w):Below B a w.drew:=⟨h.toBelow.drew,ep h.drawn (iU _),h.iter⟩
def Below.alloc{B:Nat}{a w:World}(h:Below B a w)(c:B<=w.heap.size)(o:Obj):Below B a (w.alloc o):=⟨h.toBelow.alloc c o,h.drawn,λk d f e=>by
 have e:=h.iter k d f e;simp only[World.alloc,H8];have g:k<w.heap.size:=by
  rcases bS k w.heap.size with b|b
  .exact b
  .simp[ug b]at e
 rw[ak ae];exact e⟩
def Below.OI{w a:World}(h:Go.RowKit.Below w.heap.size w a)(c:w.drawn<=a.drawn):Below w.heap.size w a:=⟨h,c,λk o _ e=>by
 have d:k<w.heap.size:=by
  rcases bS k w.heap.size with b|b
  .exact b
  .simp[ug b]at e
 rw[h.block k d];exact e⟩
def mh(B:Nat)(w:World):Prop:=∀t∈OZ,t.1<B/\∃T a,w.heap[t.1]?=some (.cells t.2 T a)
def mh.below{B C:Nat}{w a:World}(h:mh C w)(g:C<=B)(b:Go.RowKit.Below B w a):mh C a:=λt c=>by
 obtain⟨d,T,e,f⟩:=h t c;exact⟨d,T,e,by rw[b.block _ ae];exact f⟩
def mh.mono{B C:Nat}{w:World}(h:mh C w)(b:C<=B):mh B w:=λt a=>⟨rm (h t a).1 b,(h t a).2⟩
inductive SC where
 |int (k:IntKind) (n:Int)
 |bool (b:Bool)
 |str (s:ByteArray)
inductive MV where
 |one (c:SC)
 |agg (cs:List SC)
abbrev SM:=ByteArray->Option MV
inductive PV where
 |int (k:IntKind) (n:Int)
 |bool (b:Bool)
 |str (s:ByteArray)
 |slice (full:Bool) (xs:List (List PV))
 |dT (cs:List PV)
 |func (f:FuncId) (caps:List PV)
 |agg (cs:List PV)
 |tuple (vs:List PV)
 |undef
 |z (nil:Bool)
 |map (n:Nat) (f:ByteArray->Option MV)
 |iface (t:Nat) (v:PV)
 deriving Inhabited
inductive DV where
 |p (v:PV)
 |agg (cs:List DV)
 |tuple (vs:List DV)
 |ref (id sj off n:Nat)
 |ptr (id off:Nat)
 |dA (id sj i off:Nat)
 |func (f:FuncId) (caps:List DV)
 |kK (f:FuncId) (first:List DV)
 deriving Inhabited
def PV.iz:PV->Bool
 | .agg _| .tuple _| .undef=>false
 |_=>true
def DV.iz:DV->Bool
 | .p v=>v.iz
 | .agg _| .tuple _=>false
 |_=>true
def wZ:PV->DV
 | .agg a=>.agg (a.map .p)
 |v=>.p v
def aI:PV->DV
 | .tuple a=>.tuple (a.map wZ)
 | .agg b=>.agg (b.map .p)
 |v=>.p v
def SC.pv:SC->PV
 | .int k n=>.int k n
 | .bool b=>.bool b
 | .str s=>.str s
def MV.pv:MV->PV
 | .one c=>c.pv
 | .agg a=>.agg (a.map SC.pv)
def SC.v:SC->Value
 | .int k n=>.int k n
 | .bool b=>.bool b
 | .str s=>.string s
def MV.v:MV->Value
 | .one c=>c.v
 | .agg a=>.agg (a.map SC.v).toArray
def JJ:PV->Option SC
 | .int k n=>some (.int k n)
 | .bool b=>some (.bool b)
 | .str s=>some (.str s)
 |_=>none
def kn(f:SM)(k:ByteArray)(y:Option MV):SM:=λj=>if j=k then y else f j
inductive MC where
 |ints (kv:List (Int×DV))
 |strs (n:Nat) (f:SM)
inductive bq where
 |var (fz:Bool) (cells:List DV)
 |row (fz:Bool) (sz:Nat) (xs:List (List PV))
 |map (fz:Bool) (kv:MC)
 |aV (fz:Bool) (sz:Nat) (xs:List (List DV))
 deriving Inhabited
abbrev Heap:=List (Nat×bq)
abbrev Env:=List (Nat×DV)
def ag{a:Type}:List (Nat×a)->Nat->Option a
 |[],_=>none
 |(k,v)::r,i=>if k==i then some v else ag r i
def fI:Env->Nat->DV->Env
 |[],i,d=>[(i,d)]
 |(k,v)::r,i,d=>if k==i then(i,d)::r else if i<k then(i,d)::(k,v)::r else(k,v)::fI r i d
def aC:Heap->Nat->bq->Heap
 |[],_,_=>[]
 |(k,v)::r,i,d=>if k==i then(k,d)::r else(k,v)::aC r i d
def jJ{a:Type}:List (Nat×a)->Nat->List (Nat×a)
 |[],_=>[]
 |(k,v)::r,i=>if k==i then jJ r i else(k,v)::jJ r i
def da{a:Type}(l:List (Nat×a)):List Nat->List (Nat×a)
 |[]=>l
 |i::r=>da (jJ l i) r
def bP{c d:Type}(f:c->Option d):List c->Option (List d)
 |[]=>some []
 |a::r=>match f a with
  |none=>none
  |some b=>match bP f r with
   |none=>none
   |some e=>some (b::e)
def aS(H:Heap):Nat->DV->Option PV
 |0,_=>none
 |_+1,.p v=>some v
 |n+1,.agg c=>match bP (aS H n) c with
  |some l=>some (.agg l)
  |none=>none
 |n+1,.tuple c=>match bP (aS H n) c with
  |some l=>some (.tuple l)
  |none=>none
 |n+1,.ref id b off k=>match ag H id with
  |some (.row _ _ a)=>if b=a.length/\off+k<=a.length then some (.slice false ((a.drop off).take k))else none
  |some (.aV _ _ a)=>if b=a.length/\off+k<=a.length then match bP (λx=>bP (aS H n) x) ((a.drop off).take k)with
    |some l=>some (.slice false l)
    |none=>none
   else none
  |_=>none
 |n+1,.ptr id off=>match ag H id with
  |some (.var _ c)=>match bP (aS H n) (c.drop off)with
   |some l=>some (.dT l)
   |none=>none
  |some (.map _ (.strs k f))=>some (.map k f)
  |_=>none
 |_+1,.dA id b i off=>match ag H id with
  |some (.row _ _ a)=>if b=a.length then match a[i]? with
    |some x=>some (.dT (x.drop off))
    |none=>none
   else none
  |_=>none
 |n+1,.func f c=>match bP (aS H n) c with
  |some l=>some (.func f l)
  |none=>none
 |_+1,.kK _ _=>none
def fg(H:Heap):Nat->DV->List Nat
 |0,_=>[]
 |_+1,.p _=>[]
 |n+1,.agg a=>a.flatMap (fg H n)
 |n+1,.tuple a=>a.flatMap (fg H n)
 |n+1,.ref id _ off k=>id::match ag H id with
  |some (.aV _ _ b)=>((b.drop off).take k).flatMap λx=>x.flatMap (fg H n)
  |_=>[]
 |n+1,.ptr id off=>id::match ag H id with
  |some (.var _ a)=>(a.drop off).flatMap (fg H n)
  |_=>[]
 |_+1,.dA id _ _ _=>[id]
 |n+1,.func _ a=>a.flatMap (fg H n)
 |_+1,.kK _ _=>[]
def dep:Nat:=5
def bq.freeze:bq->bq
 | .var _ c=>.var true c
 | .row _ a b=>.row true a b
 | .map _ d=>.map true d
 | .aV _ a b=>.aV true a b
def mM:Heap->Nat->Heap
 |[],_=>[]
 |(k,b)::r,i=>if k==i then(k,b.freeze)::r else(k,b)::mM r i
def dp(H:Heap):List Nat->Heap
 |[]=>H
 |i::r=>dp (mM H i) r
structure St where
 env:Env
 heap:Heap
 next:Nat
 marks:List Nat
 deriving Inhabited
inductive DO where
 |t (k:Nat)
 |c (v:DV)
 deriving Inhabited
def St.ev(s:St):DO->Option DV
 | .t k=>ag s.env k
 | .c v=>some v
inductive dX where
 |move (x:DO)
 |pick (c a b:DO)
 |alloc (zero:List PV)
 |box (x:DO)
 |build (zero:List PV) (parts:List (Nat×Nat×DO))
 |buildSlice (zero:List PV) (len:Nat) (parts:List (Nat×DO))
 |load (n:Option Nat) (a:DO)
 |store (n:Nat) (a x:DO)
 |nilCheck (x:DO)
 |bin (op:BinOp) (x y:DO)
 |Im (neg:Bool) (x y:DO)
 |ru (neg:Bool) (jr:List (Nat×Nat)) (x y:DO)
 |un (op:UnOp) (x:DO)
 |conv (k:IntKind) (x:DO)
 |slice (sz:Nat) (x:DO) (lo hi mx:Option DO)
 |fieldAddr (off:Nat) (x:DO)
 |indexAddr (sz:Nat) (x i:DO)
 |dh (len sz:Nat) (x i:DO)
 |index (x i:DO)
 |extract (x:DO) (i:Nat)
 |makeSlice (zero:List PV) (bytes:Nat) (l c:DO)
 |append (bytes sz:Nat) (s x:DO)
 |copy (sz:Nat) (d s:DO)
 |len (x:DO)
 |lU (x:DO)
 |jM (isMax:Bool) (x:DO) (xs:List DO)
 |fT (f:FuncId) (caps:List DO)
 |call (dq:Bool) (f:FuncId) (args:List DO)
 |eM (dq:Bool) (fv:DO) (args:List DO)
 |isNil (x:DO)
 |clear (zero:List PV) (x:DO)
 |jv (zero:List PV) (x:DO)
 |ni (bytes sz:Nat) (s x:DO)
 |jT (f:FuncId) (args:List DO)
 |jW
 |iu (ok:Bool) (zero:PV) (x i:DO)
 |jw (x i v:DO)
 |oR (x i:DO)
 |pk (f:FuncId) (first:List DO)
 |ll (t:Nat) (x:DO)
 deriving Inhabited
structure aj where
 dst:Option Nat
 op:dX
 guard:Option (Nat×Bool)
 dy:List Nat
 deriving Inhabited
def aj.o(k:Nat)(x:dX):aj:=⟨some k,x,none,[]⟩
def aj.u(x:dX):aj:=⟨none,x,none,[]⟩
def aj.g(k j:Nat)(b:Bool)(x:dX)(l:List Nat):aj:=⟨some k,x,some (j,b),l⟩
def DO.i(n:Int):DO:=.c (.p (.int .i64 n))
def DO.b(t:Bool):DO:=.c (.p (.bool t))
inductive Ea where
 |forget (slots:List Nat)
 |free (slots:List Nat)
 |mark
 |reset
 |lower
 |own (sz slot:Nat)
 |ry (sz slot off:Nat)
 |pure (slots:List Nat)
 |G8 (sz slot off:Nat)
 deriving Inhabited
structure aK where
 pure:FuncId->List PV->Option PV
 dq:FuncId->List DV->Heap->Nat->Option (DV×Heap×Nat)
 dies:FuncId->List DV->Heap->Nat->Option (PV×Heap):=λ_ _ _ _=>none
def l6:aK:={pure:=λ_ _=>none,dq:=λ_ _ _ _=>none}
inductive aG where
 |skip
 |region (draw:Bool) (ops:List aj) (kill:List Nat)
 |seq (a b:aG)
 |cond (c:DO) (thn els:aG)
 |block (id:Nat) (body:aG)
 |loop (body:aG)
 |exit (id:Nat)
 |ret
 |ghost (g:Ea) (c:aG)
 |jY (aaU:List (Nat×Nat)) (ops:List aj) (kill:List Nat)
 |bE (draw:Bool) (ops:List (aj×List Nat))
 |aX (ops:List (aj×List Nat))
 |km (pre:List aj) (call:aj) (post:List aj) (kill:List Nat)
 |panic (ops:List aj) (x:DO)
 |forIn (str:Bool) (m:Nat) (hid:List Nat) (ops:List aj) (body cont rest:aG)
 |native (k:Nat) (fs:List Nat) (z:List PV)
 |nu (aaU:List (Nat×Nat)) (rk:List Nat) (ords:List (List Nat)) (ops:List aj) (ks:List Nat) (kill:List Nat)
 deriving Inhabited
inductive gB where
 |tmp (t:Nat)
 |cell (t:Nat) (n:Nat)
 deriving Inhabited
structure av where
 ntmps:Nat
 nparams:Nat
 results:List gB
 body:aG
 rs:Bool
 deriving Inhabited
def fK(b:BinOp)(x y:ByteArray):Option PV:=
 let eq:=x.toList==y.toList
 let a:=Op.bytesLess x.toList y.toList
 match b with
 | .add=>if x.size+y.size<=140737488355328 then some (.str (x++y))else none
 | .eql=>some (.bool eq)
 | .neq=>some (.bool !eq)
 | .lss=>some (.bool a)
 | .leq=>some (.bool (a||eq))
 | .gtr=>some (.bool !(a||eq))
 | .geq=>some (.bool !a)
 |_=>none
def B4(c:BinOp)(k:IntKind)(a b:Int):Option PV:=
 match c with
 | .add=>some (.int k (k.wrap (a+b)))
 | .sub=>some (.int k (k.wrap (a-b)))
 | .mul=>some (.int k (k.wrap (a*b)))
 | .quo=>if b=0 then none else some (.int k (k.wrap (a.tdiv b)))
 | .rem=>if b=0 then none else some (.int k (a.tmod b))
 | .eql=>some (.bool (a==b))
 | .neq=>some (.bool (a !=b))
 | .lss=>some (.bool (decide (a<b)))
 | .leq=>some (.bool (decide (a<=b)))
 | .gtr=>some (.bool (decide (a>b)))
 | .geq=>some (.bool (decide (a>=b)))
 | .and=>some (.int k (bits .and k a b))
 | .or=>some (.int k (bits .or k a b))
 | .xor=>some (.int k (bits .xor k a b))
 |_=>none
def Cn(c:BinOp):DV->DV->Option PV
 | .p (.int k a),.p (.int d b)=>
  match c with
  | .shl=>if b<0 then none else some (.int k (k.wrap (a*2^min b.toNat k.bits)))
  | .shr=>if b<0 then none else some (.int k (a.fdiv (2^min b.toNat k.bits)))
  |_=>if k=d then B4 c k a b else none
 | .p (.str a),.p (.str b)=>fK c a b
 |_,_=>none
def vz:Nat->DV->DV->Option Bool
 |0,.p (.int k a),.p (.int c b)=>if k=c then some (a==b)else none
 |1,.p (.bool a),.p (.bool b)=>some (a==b)
 |2,.p (.str a),.p (.str b)=>some (a.toList==b.toList)
 |_,_,_=>none
def jb(a b:List DV):List (Nat×Nat)->Option Bool
 |[]=>some true
 |(o,k)::r=>match a[o]?,b[o]? with
   |some x,some y=>match vz k x y with
    |some true=>jb a b r
    |some false=>some false
    |none=>none
   |_,_=>none
def JL(a:UnOp):DV->Option PV
 | .p (.bool b)=>match a with
  | .not=>some (.bool !b)
  |_=>none
 | .p (.int k n)=>match a with
  | .neg=>some (.int k (k.wrap (0-n)))
  | .xor=>some (.int k (bits .xor k (if k.signed then-1 else k.max) n))
  |_=>none
 |_=>none
def DV.cells:DV->Option (List DV)
 | .agg a=>some a
 |d=>if d.iz then some [d]else none
def PV.cellsOf:PV->Option (List PV)
 | .agg a=>some a
 |d=>if d.iz then some [d]else none
def ez{b:Type}(c:List b)(a n:Nat):Option (List b):=
 let l:=(c.drop a).take n
 if l.length=n then some l else none
def putAt{b:Type}(l:List b)(a:Nat)(c:List b):List b:=l.take a++c++l.drop (a+c.length)
def qv(a:List DV):List (Nat×Nat×DV)->Option (List DV)
 |[]=>some a
 |(c,b,v)::r=>match v.cells with
   |some d=>if d.length=b/\c+b<=a.length then qv (putAt a c d) r else none
   |none=>none
def ff(s:St):List (Nat×Nat×DO)->Option (List (Nat×Nat×DV))
 |[]=>some []
 |(o,n,x)::r=>match s.ev x,ff s r with
   |some v,some l=>some ((o,n,v)::l)
   |_,_=>none
def gH(s:St):List DO->Option (List DV)
 |[]=>some []
 |x::r=>match s.ev x,gH s r with
  |some v,some l=>some (v::l)
  |_,_=>none
def dv(H:Heap)(a:Nat):Nat->List (Nat×DV)->Option (List (List PV))
 |_,[]=>some []
 |k,(i,v)::r=>if i=k then match aS H dep v with
   |some p=>match p.cellsOf with
    |some b=>if b.length=a then match dv H a (k+1) r with
      |some l=>some (b::l)
      |none=>none
     else none
    |none=>none
   |none=>none
  else none
def ja(s:St):List (Nat×DO)->Option (List (Nat×DV))
 |[]=>some []
 |(o,x)::r=>match s.ev x,ja s r with
   |some v,some l=>some ((o,v)::l)
   |_,_=>none
def Uv:DV->Option Int
 | .p (.int _ n)=>some n
 |_=>none
def tH(s:St):Option DO->Int->Option Int
 |none,d=>some d
 |some x,_=>match s.ev x with
  |some v=>Uv v
  |none=>none
def se(s:St):Option DO->Option (Option Int)
 |none=>some none
 |some x=>match s.ev x with
  |some v=>(Uv v).map some
  |none=>none
def P3(b:ByteArray)(a:Int)(c:Option Int):Option DV:=
 let h:=c.getD b.size
 if 0<=a/\a<=h/\h<=b.size then some (.p (.str (b.extract a.toNat h.toNat)))else none
def bT(a:Nat)(b:List (List PV)):Bool:=b.all λy=>y.length==a
def jx(H:Heap)(i:Nat)(x:DV)(a:Int)(j f:Option Int):Option (DV×List Nat):=
 match x with
 | .p (.slice d b)=>
  let h:=j.getD b.length
  let m:=f.getD b.length
  if bT i b=true/\0<=a/\a<=h/\h<=m/\m<=b.length then
   some (.p (.slice (match f with|some _=>decide (h=m)|none=>d&&decide (h=m)) ((b.take h.toNat).drop a.toNat)),[])
  else none
 | .ref id e c n=>match ag H id with
  |some (.row _ g b)=>
   let h:=j.getD n
   let m:=f.getD n
   if g=i/\e=b.length/\c+n<=b.length/\0<=a/\a<=h/\h<=m/\m<=n then
    match f with
    |some _=>if h=m then some (.p (.slice true (((b.drop c).take h.toNat).drop a.toNat)),if a=h then[]else[id])else none
    |none=>some (.ref id e (c+a.toNat) (h.toNat-a.toNat),[])
   else none
  |_=>none
 |_=>none
def vO(H:Heap):DV->Option (Nat×SM)
 | .ptr id 0=>match ag H id with
  |some (.map _ (.strs n f))=>some (n,f)
  |_=>none
 | .p (.map n f)=>some (n,f)
 |_=>none
def FO(f:SM)(k:ByteArray)(a:PV):PV:=match f k with
 |some y=>y.pv
 |none=>a
def F2:DV->Option MV
 | .p v=>match JJ v with
  |some c=>some (.one c)
  |none=>none
 | .agg a=>match bP (λ| .p v=>JJ v|_=>none) a with
  |some l=>some (.agg l)
  |none=>none
 |_=>none
def XI{a:Type}:List (Int×a)->Int->Option a
 |[],_=>none
 |(k,v)::r,i=>if k=i then some v else XI r i
def Xx{a:Type}:List (Int×a)->Int->a->List (Int×a)
 |[],i,p=>[(i,p)]
 |(k,v)::r,i,p=>if k=i then(k,p)::r else(k,v)::Xx r i p
def an:Nat:=140737488355328
def jP(H:Heap):DV->Option (List (List PV)×List Nat)
 | .p (.slice _ a)=>some (a,[])
 | .p (.z _)=>some ([],[])
 | .ref id c b n=>match ag H id with
  |some (.row _ _ a)=>if c=a.length/\b+n<=a.length then some ((a.drop b).take n,[])else none
  |_=>none
 |_=>none
def wA{d c:Type}(f:c->d->Option c):c->List d->Option c
 |b,[]=>some b
 |b,a::r=>match f b a with
  |some e=>wA f e r
  |none=>none
def L5(c:Bool):PV->DV->Option PV
 | .int k a,.p (.int d b)=>if k=d then some (.int k (if c then(if b>a then b else a)else(if b<a then b else a)))else none
 | .str a,.p (.str b)=>match fK (if c then .geq else .leq) a b with
  |some (.bool t)=>some (.str (if t then a else b))
  |_=>none
 |_,_=>none
def PV.plain:PV->Bool
 | .int _ _| .bool _| .str _=>true
 | .tuple a=>a.all λ| .int _ _| .bool _| .str _=>true|_=>false
 |_=>false
abbrev Out:=Option (DV×Heap×Nat)
def jk(b:aK)(a:Bool)(f:FuncId)(args:List DV)(H:Heap)(c:Nat):Out:=
 if a then b.dq f args H c
 else match bP (aS H dep) args with
  |some d=>match b.pure f d with
   |some r=>some (aI r,if r.plain then H else dp H (args.flatMap (fg H dep)),c)
   |none=>none
  |none=>none
def kF(H:Heap):DV->Bool
 | .ptr id _=>match ag H id with
  |some (.var _ _)=>true
  |_=>false
 | .dA id a i _=>match ag H id with
  |some (.row _ _ b)=>decide (a=b.length)&&decide (i<b.length)
  |_=>false
 | .p (.dT _)=>true
 |_=>false
def jq(bytes e:Nat)(b:List (List PV))(v:DV)(H:Heap)(c:Nat):Out:=
 match v with
 | .p (.slice d a)=>
  if d&&bT e a&&decide ((a.length+b.length)*bytes<=an)&&decide (a.length+b.length<=an)then
   if b.isEmpty&&!a.isEmpty then some (v,H,c)
   else some (.ref c (a.length+b.length) 0 (a.length+b.length),(c,.row false e (a++b))::H,c+1)
  else if b.isEmpty then some (v,H,c)else none
 | .ref id f g n=>match ag H id with
  |some (.row false h a)=>
   if f=a.length/\g=0/\n=a.length/\h=e/\(a.length+b.length)*bytes<=an/\a.length+b.length<=an then
    some (.ref id (a.length+b.length) 0 (a.length+b.length),aC H id (.row false e (a++b)),c)
   else none
  |_=>none
 |_=>none
def HK(H:Heap)(d:Nat)(v:DV)(e:Heap):Prop:=(∃a c n,v=.ref d a c n)/\∃b,e=(d,b)::H
def sh(bytes f:Nat)(v u:DV)(H:Heap)(k:Nat):Out:=
 match v,u with
 | .ref id g h n,.ref c d e l=>match ag H id,ag H c with
  |some (.aV false i a),some (.aV _ j b)=>
   if g=a.length/\h=0/\n=a.length/\i=f/\j=f/\d=b.length/\e=0/\l=b.length/\id≠c/\(a.length+b.length)*bytes<=an/\a.length+b.length<=an then
    some (.ref id (a.length+b.length) 0 (a.length+b.length),aC H id (.aV false f (a++b)),k)
   else none
  |_,_=>none
 |_,_=>none
def Ca(f:Nat)(c:List (List PV))(v:DV)(H:Heap)(g:Nat):Out:=
 match v with
 | .ref id d a n=>match ag H id with
  |some (.row false e b)=>
   if d=b.length/\a+n<=b.length/\e=f then
    some (.p (.int .i64 (min c.length n:Nat)),aC H id (.row false f (putAt b a (c.take n))),g)
   else none
  |_=>none
 | .p (.slice _ b)=>if b.isEmpty||c.isEmpty then some (.p (.int .i64 0),H,g)else none
 |_=>none
def zA(a:List PV)(v:DV)(H:Heap)(f:Nat):Out:=
 match v with
 | .ref id d b n=>match ag H id with
  |some (.row false e c)=>
   if d=c.length/\b+n<=c.length/\e=a.length then
    some (.tuple [],aC H id (.row false a.length (putAt c b (List.replicate n a))),f)
   else none
  |_=>none
 | .p (.slice _ c)=>if c.isEmpty then some (.tuple [],H,f)else none
 |_=>none
noncomputable def bf (I:aK) (d:dX) (s:St):Out:=
 let H:=s.heap
 let e:=s.next
 match d with
 | .move x=>match s.ev x with
  |some v=>some (v,H,e)
  |none=>none
 | .pick c a b=>match s.ev c with
  |some (.p (.bool t))=>match s.ev (if t then a else b)with
   |some v=>some (v,H,e)
   |none=>none
  |_=>none
 | .alloc zero=>match ag H e with
  |none=>some (.ptr e 0,(e,.var false (zero.map .p))::H,e+1)
  |some _=>none
 | .box x=>match s.ev x with
  |some v=>match v.cells,ag H e with
   |some A,none=>some (.ptr e 0,(e,.var false A)::H,e+1)
   |_,_=>none
  |none=>none
 | .build zero parts=>match ff s parts with
  |some l=>match qv (zero.map .p) l with
   |some A=>some (.agg A,H,e)
   |none=>none
  |none=>none
 | .buildSlice zero C parts=>match ja s parts with
  |some l=>match dv H zero.length 0 l with
   |some j=>some (.p (.slice true (j++List.replicate (C-j.length) zero)),dp H ((l.map (·.2)).flatMap (fg H dep)),e)
   |none=>none
  |none=>none
 | .load n a=>match s.ev a with
  |some (.ptr id g)=>match ag H id with
   |some (.var _ A)=>match n with
    |none=>match A[g]? with
     |some v=>some (v,H,e)
     |none=>none
    |some n=>match ez A g n with
     |some l=>some (.agg l,H,e)
     |none=>none
   |_=>none
  |some (.p (.dT A))=>match n with
    |none=>match A[0]? with
     |some v=>some (.p v,H,e)
     |none=>none
    |some n=>match ez A 0 n with
     |some l=>some (.agg (l.map .p),H,e)
     |none=>none
  |some (.dA id q i g)=>match ag H id with
   |some (.row _ _ j)=>if q=j.length then match j[i]? with
     |some x=>match n with
      |none=>match x[g]? with
       |some v=>some (.p v,H,e)
       |none=>none
      |some n=>match ez x g n with
       |some l=>some (.agg (l.map .p),H,e)
       |none=>none
     |none=>none
    else none
   |some (.aV _ _ j)=>if q=j.length then match j[i]? with
     |some x=>match n with
      |none=>match x[g]? with
       |some v=>some (v,H,e)
       |none=>none
      |some n=>match ez x g n with
       |some l=>some (.agg l,H,e)
       |none=>none
     |none=>none
    else none
   |_=>none
  |_=>none
 | .store n a x=>match s.ev a,s.ev x with
  |some (.ptr id g),some v=>match ag H id,v.cells with
   |some (.var false A),some l=>if l.length=n/\g+n<=A.length then some (.tuple [],aC H id (.var false (putAt A g l)),e)else none
   |_,_=>none
  |some (.dA id q i g),some v=>match ag H id with
   |some (.row false z j)=>match aS H dep v with
    |some p=>match j[i]?,p.cellsOf with
     |some y,some l=>if q=j.length/\l.length=n/\g+n<=y.length/\id∉fg H dep v then
       some (.tuple [],aC (dp H (fg H dep v)) id (.row false z (j.set i (putAt y g l))),e)else none
     |_,_=>none
    |none=>none
   |some (.aV false z j)=>match j[i]?,v.cells with
    |some y,some l=>if q=j.length/\l.length=n/\g+n<=y.length then
      some (.tuple [],aC H id (.aV false z (j.set i (putAt y g l))),e)else none
    |_,_=>none
   |_=>none
  |_,_=>none
 | .nilCheck x=>match s.ev x with
  |some v=>if kF H v then some (v,H,e)else none
  |none=>none
 | .bin J x y=>match s.ev x,s.ev y with
  |some v,some u=>match Cn J v u with
   |some r=>some (.p r,H,e)
   |none=>none
  |_,_=>none
 | .Im D x y=>match s.ev x,s.ev y with
  |some (.p (.bool a)),some (.p (.bool b))=>some (.p (.bool (if D then !(a==b)else(a==b))),H,e)
  |_,_=>none
 | .ru D jr x y=>match s.ev x,s.ev y with
  |some (.agg j),some (.agg E)=>match jb j E jr with
   |some t=>some (.p (.bool (if D then !t else t)),H,e)
   |none=>none
  |_,_=>none
 | .un J x=>match s.ev x with
  |some v=>match JL J v with
   |some r=>some (.p r,H,e)
   |none=>none
  |none=>none
 | .conv k x=>match s.ev x with
  |some (.p (.int _ n))=>some (.p (.int k (k.wrap n)),H,e)
  |_=>none
 | .slice z x N O P=>match s.ev x,tH s N 0,se s O,se s P with
  |some v,some l,some h,some m=>match jx H z v l h m with
   |some (r,K)=>some (r,dp H K,e)
   |none=>none
  |_,_,_,_=>none
 | .fieldAddr g x=>match s.ev x with
  |some (.ptr id o)=>match ag H id with
   |some (.var _ _)=>some (.ptr id (o+g),H,e)
   |_=>none
  |some (.p (.dT A))=>some (.p (.dT (A.drop g)),H,e)
  |some (.dA id q i o)=>match ag H id with
   |some (.row _ _ j)=>if q=j.length/\i<j.length then some (.dA id q i (o+g),H,e)else none
   |some (.aV _ _ j)=>if q=j.length/\i<j.length then some (.dA id q i (o+g),H,e)else none
   |_=>none
  |_=>none
 | .indexAddr z x i=>match s.ev x,s.ev i with
  |some (.p (.slice _ j)),some (.p (.int _ n))=>if 0<=n then match j[n.toNat]? with
    |some y=>if y.length=z then some (.p (.dT y),H,e)else none
    |none=>none
   else none
  |some (.ref id q g k),some (.p (.int _ n))=>match ag H id with
   |some (.row _ F j)=>if q=j.length/\g+k<=j.length/\F=z/\0<=n/\n<k then some (.dA id q (g+n.toNat) 0,H,e)else none
   |some (.aV _ F j)=>if q=j.length/\g+k<=j.length/\F=z/\0<=n/\n<k then some (.dA id q (g+n.toNat) 0,H,e)else none
   |_=>none
  |_,_=>none
 | .dh C z x i=>match s.ev x,s.ev i with
  |some (.ptr id g),some (.p (.int _ n))=>match ag H id with
   |some (.var _ _)=>if 0<=n/\n<C then some (.ptr id (g+n.toNat*z),H,e)else none
   |_=>none
  |_,_=>none
 | .index x i=>match s.ev x,s.ev i with
  |some (.p (.str b)),some (.p (.int _ n))=>if 0<=n then match b.data[n.toNat]? with
    |some c=>some (.p (.int .u8 c.toNat),H,e)
    |none=>none
   else none
  |_,_=>none
 | .extract x i=>match s.ev x with
  |some (.tuple Q)=>match Q[i]? with
   |some v=>some (v,H,e)
   |none=>none
  |_=>none
 | .makeSlice zero bytes l c=>match s.ev l,s.ev c with
  |some (.p (.int .i64 l)),some (.p (.int .i64 c))=>if 0<=l/\l<=c/\c.toNat*bytes<=an/\c<=140737488355328/\ag H e=none then
    some (.ref e l.toNat 0 l.toNat,(e,.row false zero.length (List.replicate l.toNat zero))::H,e+1)else none
  |_,_=>none
 | .append bytes z a x=>match s.ev a,s.ev x with
  |some v,some u=>match jP H u with
   |some (E,_)=>if bT z E then jq bytes z E v H e else none
   |none=>none
  |_,_=>none
 | .copy z d x=>match s.ev d,s.ev x with
  |some v,some u=>match jP H u with
   |some (E,_)=>if bT z E then Ca z E v H e else none
   |none=>none
  |_,_=>none
 | .lU x=>match s.ev x with
  |some (.p (.str b))=>some (.p (.int .i64 b.size),H,e)
  |_=>none
 | .len x=>match s.ev x with
  |some (.p (.slice _ j))=>some (.p (.int .i64 j.length),H,e)
  |some (.ref id q g n)=>match ag H id with
   |some (.row _ _ j)=>if q=j.length/\g+n<=j.length then some (.p (.int .i64 n),H,e)else none
   |_=>none
  |_=>none
 | .jM G x j=>match s.ev x,gH s j with
  |some (.p v),some l=>match wA (L5 G) v l with
   |some r=>some (.p r,H,e)
   |none=>none
  |_,_=>none
 | .fT f B=>match gH s B with
  |some l=>some (.func f l,H,e)
  |none=>none
 | .call w f args=>match gH s args with
  |some l=>jk I w f l H e
  |none=>none
 | .eM w R args=>match s.ev R,gH s args with
  |some (.func f B),some l=>jk I w f (l++B) H e
  |some (.p (.func f B)),some l=>jk I w f (l++B.map aI) H e
  |some (.kK f first),some l=>jk I w f (first++l) H e
  |_,_=>none
 | .isNil x=>match s.ev x with
  |some (.p (.z b))=>some (.p (.bool b),H,e)
  |some (.p (.slice _ (_::_)))=>some (.p (.bool false),H,e)
  |_=>none
 | .clear zero x=>match s.ev x with
  |some v=>zA zero v H e
  |none=>none
 | .jv zero x=>match s.ev x with
  |some v=>match v.cells,ag H e with
   |some A,none=>if A.length=zero.length then some (.ref e 1 0 1,(e,.aV false zero.length [A])::H,e+1)else none
   |_,_=>none
  |none=>none
 | .ni bytes z a x=>match s.ev a,s.ev x with
  |some v,some u=>sh bytes z v u H e
  |_,_=>none
 | .jT f args=>match gH s args with
  |some l=>match I.dq f l H e with
   |some (v,M,L)=>open Classical in if HK H e v M then some (v,M,L)else none
   |none=>none
  |none=>none
 | .jW=>match ag H e with
  |none=>some (.ptr e 0,(e,.map false (.strs 0 λ_=>none))::H,e+1)
  |some _=>none
 | .iu S zero x i=>match s.ev x,s.ev i with
  |some v,some (.p (.str k))=>match vO H v with
   |some (_,f)=>some (if S then .tuple [wZ (FO f k zero),.p (.bool (f k).isSome)]else wZ (FO f k zero),H,e)
   |none=>none
  |_,_=>none
 | .jw x i v=>match s.ev x,s.ev i,s.ev v with
  |some (.ptr id 0),some (.p (.str k)),some d=>match ag H id,F2 d with
   |some (.map false (.strs n f)),some y=>some (.tuple [],aC H id (.map false (.strs (if(f k).isSome then n else n+1) (kn f k (some y)))),e)
   |_,_=>none
  |_,_,_=>none
 | .oR x i=>match s.ev x,s.ev i with
  |some (.ptr id 0),some (.p (.str k))=>match ag H id with
   |some (.map false (.strs n f))=>some (.tuple [],aC H id (.map false (.strs (if(f k).isSome then n-1 else n) (kn f k none))),e)
   |_=>none
  |_,_=>none
 | .pk f first=>match gH s first with
  |some l=>some (.kK f l,H,e)
  |none=>none
 | .ll t x=>match s.ev x with
  |some v=>match aS H dep v with
   |some p=>if(fg H dep v).isEmpty then some (.p (.iface t p),H,e)else none
   |none=>none
  |none=>none
def gd(g:Option (Nat×Bool))(e:Env):Option Bool:=
 match g with
 |none=>some true
 |some (k,a)=>match ag e k with
  |some (.p (.bool b))=>some (b==a)
  |some (.tuple [])=>some false
  |_=>none
def dF(e:Env):Option Nat->DV->Env
 |none,_=>e
 |some k,d=>fI e k d
noncomputable def cX (a:aK) (o:aj) (s:St):Option St:=
 match gd o.guard s.env with
 |none=>none
 |some false=>some {s with env:=dF s.env o.dst (.tuple [])}
 |some true=>match bf a o.op s with
  |none=>none
  |some (v,h,n)=>some {s with env:=dF s.env o.dst v,heap:=h,next:=n}
noncomputable def bO (a:aK):List aj->St->Option St
 |[],s=>some s
 |o::r,s=>match cX a o s with
  |some b=>bO a r b
  |none=>none
noncomputable def oX (a:aK):List (aj×List Nat)->St->Option St
 |[],s=>some s
 |(o,k)::r,s=>match cX a o s with
   |some b=>oX a r {b with env:=da b.env k}
   |none=>none
def DV.flat:DV->Bool
 | .p _=>true
 | .agg a=>a.all λ| .p _=>true|_=>false
 |_=>false
def zv(e:Env):DO->Option DV
 | .t k=>ag e k
 | .c v=>some v
def oY(e:Env)(x:DO):Bool:=match zv e x with
 |some v=>v.flat
 |none=>false
def eo(e:Env):dX->Option (Option Nat)
 | .load _ x| .fieldAddr _ x| .nilCheck x=>match zv e x with
  |some (.ptr j _)=>some (some j)
  |some (.p _)=>some none
  |_=>none
 | .indexAddr _ x _=>match zv e x with
  |some (.p _)=>some none
  |some (.ref j _ _ _)=>some (some j)
  |_=>none
 | .buildSlice _ _ a=>if a.all (λp=>oY e p.2)then some none else none
 | .call false _ args=>if args.all (oY e)then some none else none
 |_=>none
def sI(j:Nat):DV->Bool
 | .ref id _ _ _=>id !=j
 | .p _=>true
 |_=>false
def il(e:Env)(j:Nat)(r:Option DV):dX->Bool
 | .store _ a _=>match zv e a with
  |some (.ptr i _)=>i !=j
  |_=>false
 | .append _ _ _ _| .jv _ _| .ni _ _ _ _| .jT _ _=>match r with
  |some v=>sI j v
  |none=>false
 |_=>false
def uR(e:Env):Option Nat->Option DV
 |some k=>ag e k
 |none=>none
def storeAt(e:Env):dX->Option Nat
 | .store _ a x=>match zv e a with
  |some (.ptr i _)=>some i
  |some (.dA i _ _ _)=>if oY e x then some i else none
  |_=>none
 |_=>none
def ue(e:Env)(x y:aj):Bool:=
 (match eo e x.op with
  |some none=>true
  |some (some j)=>il e j (uR e y.dst) y.op
  |none=>false)||
 (match eo e y.op with
  |some none=>true
  |some (some j)=>il e j (uR e x.dst) x.op
  |none=>false)||
 (match storeAt e x.op,storeAt e y.op with
  |some i,some j=>i !=j
  |_,_=>false)
def ju(a:List (Nat×Nat))(b:List aj)(e:Env):Bool:=a.all λp=>match b[p.1]?,b[p.2]? with
 |some x,some y=>ue e x y
 |_,_=>false
def aD(c:Nat):Heap->Heap
 |[]=>[]
 |(k,b)::r=>if k<c then(k,b)::aD c r else aD c r
def tr(i j k:Nat):Nat:=if k=i then j else if k=j then i else k
def nF(i j:Nat):Nat->DV->Option DV
 |0,_=>none
 |_+1,.p v=>some (.p v)
 |n+1,.agg a=>match bP (nF i j n) a with
  |some l=>some (.agg l)
  |none=>none
 |n+1,.tuple a=>match bP (nF i j n) a with
  |some l=>some (.tuple l)
  |none=>none
 |_+1,.ref id b off k=>some (.ref (tr i j id) b off k)
 |_+1,.ptr id off=>some (.ptr (tr i j id) off)
 |_+1,.dA id b k off=>some (.dA (tr i j id) b k off)
 |n+1,.func f a=>match bP (nF i j n) a with
  |some l=>some (.func f l)
  |none=>none
 |n+1,.kK f a=>match bP (nF i j n) a with
  |some l=>some (.kK f l)
  |none=>none
def j5(i j:Nat):bq->Option bq
 | .var a b=>match bP (nF i j dep) b with
  |some l=>some (.var a l)
  |none=>none
 | .row a c d=>some (.row a c d)
 |_=>none
def Gt(i j:Nat):Heap->Option Heap
 |[]=>some []
 |(k,b)::r=>match j5 i j b,Gt i j r with
   |some a,some c=>some ((tr i j k,a)::c)
   |_,_=>none
def FZ(i j:Nat):Env->Option Env
 |[]=>some []
 |(k,d)::r=>match nF i j dep d,FZ i j r with
   |some a,some b=>some ((k,a)::b)
   |_,_=>none
def On(b i j:Nat)(s:St):Option St:=
 if b<=i/\b<=j/\i<s.next/\j<s.next then match FZ i j s.env,Gt i j s.heap with
  |some e,some h=>some {s with env:=e,heap:=h}
  |_,_=>none
 else none
def Xv:DV->Option Nat
 | .ref id _ _ _=>some id
 | .ptr id _=>some id
 |_=>none
def zh(b:Nat):Nat->List Nat->St->Option St
 |_,[],s=>some s
 |k,x::r,s=>match ag s.env x with
  |some d=>match Xv d with
   |some id=>match On b id (b+k) s with
    |some a=>zh b (k+1) r a
    |none=>none
   |none=>none
  |none=>none
def Et(b:Nat):Nat->Heap->Heap
 |0,H=>aD b H
 |n+1,H=>match ag H (b+n)with
  |some x=>(b+n,x)::Et b n H
  |none=>Et b n H
def canon(b:Nat)(a:List Nat)(s:St):Option St:=match zh b 0 a s with
 |some c=>some {c with heap:=Et b a.length c.heap}
 |none=>none
def uV(a:List aj)(l:List Nat):List aj:=l.filterMap (a[·]?)
open Classical in
noncomputable def vX (e:aK) (a:List aj) (b:List (Nat×Nat)) (f:List Nat) (c:List (List Nat)) (s:St):Option St:=match c with
 |[]=>none
 |l::r=>match bO e (uV a l) s with
  |some g=>if ju b a g.env=true then match canon s.next f g with
    |some h=>if∀i∈r,∃d,bO e (uV a i) s=some d/\ju b a d.env=true/\canon s.next f d=some h then some h else none
    |none=>none
   else none
  |none=>none
inductive Ex where
 |normal
 |exit (id:Nat)
 |ret
 |panic (v:PV)
 deriving Inhabited
def dieOf(a:aK)(o:aj)(s:St):Option (PV×Heap):=
 match gd o.guard s.env,o.op with
 |some true,.call true f args=>match gH s args with
  |some l=>a.dies f l s.heap s.next
  |none=>none
 |_,_=>none
noncomputable def oT (a:aK):List (aj×List Nat)->St->Option (Ex×St)
 |[],s=>some (.normal,s)
 |(o,k)::r,s=>match cX a o s with
   |some b=>oT a r {b with env:=da b.env k}
   |none=>match dieOf a o s with
    |some (v,H)=>some (.panic v,{s with env:=[],heap:=H})
    |none=>none
noncomputable def l9 (b:aK) (pre:List aj) (a:aj) (post:List aj) (s:St):Option (Ex×St):=
 match bO b pre s with
 |none=>none
 |some c=>match cX b a c with
  |some d=>match bO b pre {s with heap:=d.heap,next:=d.next}with
   |some e=>open Classical in if e.env=c.env then match bO b post d with
     |some f=>some (.normal,f)
     |none=>none
    else none
   |none=>none
  |none=>match dieOf b a c with
   |some (v,H)=>some (.panic v,{s with env:=[],heap:=H})
   |none=>none
abbrev R:=Option (Ex×St)
def below(c:Nat):Nat->DV->Bool
 |0,_=>false
 |_+1,.p _=>true
 |n+1,.agg a|n+1,.tuple a|n+1,.func _ a|n+1,.kK _ a=>a.all (below c n)
 |_+1,.ref id _ _ _|_+1,.ptr id _|_+1,.dA id _ _ _=>decide (id<c)
def bq.below(c:Nat):bq->Bool
 | .var _ a=>a.all (Dv.below c dep)
 | .row _ _ _=>true
 | .map _ (.ints b)=>b.all λe=>Dv.below c dep e.2
 | .map _ (.strs _ _)=>true
 | .aV _ _ d=>d.all λx=>x.all (Dv.below c dep)
def nb:Heap->Nat
 |[]=>0
 |(k,_)::r=>max (k+1) (nb r)
def jB(c:Nat)(s:St):Option St:=
 let h:=aD c s.heap
 if s.env.all (λx=>below c dep x.2)&&h.all (λx=>x.2.below c)&&decide (c<=s.next)then some {s with heap:=h,next:=c}else none
def pE:List Nat->St->Option St
 |[],s=>some s
 |k::r,s=>match ag s.env k with
  |some d=>match aS s.heap dep d with
   |some p=>pE r {s with env:=fI s.env k (aI p),heap:=dp s.heap (fg s.heap dep d)}
   |none=>none
  |none=>none
def gz(g:Ea)(s:St):Option St:=
 match g with
 | .forget l=>some {s with env:=da s.env l}
 | .free l=>some {s with env:=da s.env l,heap:=da s.heap (l.filterMap λk=>match ag s.env k with|some (.ptr id 0)=>some id|_=>none)}
 | .mark=>some {s with marks:=s.next::s.marks}
 | .reset=>match s.marks with
  |c::_=>jB c s
  |[]=>none
 | .lower=>match s.marks with
  |c::_=>jB (max c (nb s.heap)) s
  |[]=>none
 | .own a k=>match ag s.env k with
  |some (.p (.slice true []))=>some {s with env:=fI s.env k (.ref s.next 0 0 0),heap:=(s.next,.row false a [])::s.heap,next:=s.next+1}
  |some (.ref _ _ _ _)=>some s
  |_=>none
 | .ry a k off=>match ag s.env k with
  |some (.ptr id 0)=>match ag s.heap id with
   |some (.var false b)=>match b[off]? with
    |some (.p (.slice true []))=>some {s with heap:=aC ((s.next,.row false a [])::s.heap) id (.var false (b.set off (.ref s.next 0 0 0))),next:=s.next+1}
    |_=>none
   |_=>none
  |_=>none
 | .G8 a k off=>match ag s.env k with
  |some (.ptr id 0)=>match ag s.heap id with
   |some (.var false b)=>match b[off]? with
    |some (.p (.slice true []))=>some {s with heap:=aC ((s.next,.aV false a [])::s.heap) id (.var false (b.set off (.ref s.next 0 0 0))),next:=s.next+1}
    |_=>none
   |_=>none
  |_=>none
 | .pure l=>pE l s
def lh(a:St->R):Nat->St->R
 |0,_=>none
 |n+1,s=>match a s with
  |some (.normal,b)=>lh a n b
  |r=>r
def eD(f:St->R)(b:Nat)(hid:List Nat):List DV->St->R
 |[],s=>some (.normal,s)
 |d::r,s=>match f {s with env:=fI s.env b d,marks:=[]}with
  |some (.normal,a)=>eD f b hid r {a with env:=da a.env hid,marks:=s.marks}
  |some (.ret,a)=>some (.ret,{a with marks:=s.marks})
  |some (.panic v,a)=>some (.panic v,{a with marks:=s.marks})
  |_=>none
def sT(k:ByteArray)(y:MV):DV:=.tuple [.p (.str k),wZ y.pv]
def mg(r:Nat×Int):DV:=.tuple [.p (.bool true),.p (.int .i64 r.1),.p (.int .i32 r.2)]
def runesFrom(s:ByteArray):Nat->Nat->List (Nat×Int)
 |0,_=>[]
 |n+1,pos=>if pos<s.size then(pos,(Utf8.decode s pos).1)::runesFrom s n (pos+(Utf8.decode s pos).2)else[]
def iD(f:SM)(l:List (ByteArray×MV)):Prop:=(l.map (·.1)).Nodup/\∀k y,(k,y)∈l↔f k=some y
def DP(s:St)(m:Nat)(hid:List Nat):Option SM:=
 match ag s.env m with
 |some (.p (.map _ f))=>if hid.all (λt=>(ag s.env t).isNone)=true then some f else none
 |_=>none
def ld(f g:St->R)(a:Nat)(hid:List Nat)(l:List (ByteArray×MV))(s:St):R:=
 match eD f a hid (l.map λe=>sT e.1 e.2) s with
 |some (.normal,b)=>g b
 |x=>x
noncomputable def nk (f:St->R) (g:St->R) (s:St) (m a:Nat) (hid:List Nat):R:=
 match DP s m hid with
 |some c=>open Classical in if b:(∃l,iD c l)/\∃r,∀l,iD c l->ld f g a hid l s=some r then some b.2.choose else none
 |none=>none
def vK{f g:St->R}{s:St}{m a:Nat}{hid:List Nat}{r:Ex×St}(h:nk f g s m a hid=some r):∃c,DP s m hid=some c/\(∃l,iD c l)/\∀l,iD c l->ld f g a hid l s=some r:=by
 unfold nk at h;split at h
 .rename_i c d;split at h
  .rename_i b;simp only[ay]at h;subst h;exact⟨c,d,b.1,b.2.choose_spec⟩
  .cases h
 .cases h
def Bf{f g:St->R}{s:St}{m a:Nat}{hid:List Nat}{r:Ex×St}{c:SM}(i:DP s m hid=some c)(b:∃l,iD c l)(d:∀l,iD c l->ld f g a hid l s=some r):nk f g s m a hid=some r:=by
 have e:(∃l,iD c l)/\∃r,∀l,iD c l->ld f g a hid l s=some r:=⟨b,r,d⟩;unfold nk;rw[i];simp only[dif_pos e];obtain⟨l,b⟩:=b;have h:=e.2.choose_spec l b;rw[d l b]at h;exact h.symm
noncomputable def fe (b:aK) (a:List aj) (k:St->R) (s:St):R:=match bO b a s with
 |some c=>k c
 |none=>none
noncomputable def aR (i:aK) (n:Nat):aG->St->R
 | .skip,s=>some (.normal,s)
 | .region _ d h,s=>match bO i d s with
  |some f=>some (.normal,{f with env:=da f.env h})
  |none=>none
 | .seq a b,s=>match aR i n a s with
  |some (.normal,f)=>aR i n b f
  |r=>r
 | .cond c x y,s=>match s.ev c with
  |some (.p (.bool true))=>aR i n x s
  |some (.p (.bool false))=>aR i n y s
  |_=>none
 | .block id c,s=>match aR i n c s with
  |some (.exit l,f)=>if l=id then some (.normal,f)else some (.exit l,f)
  |r=>r
 | .loop c,s=>lh (aR i n c) n s
 | .exit id,s=>some (.exit id,s)
 | .ret,s=>some (.ret,s)
 | .ghost g c,s=>match gz g s with
  |some f=>aR i n c f
  |none=>none
 | .bE _ d,s=>match oX i d s with
  |some f=>some (.normal,f)
  |none=>none
 | .jY j d h,s=>match bO i d s with
  |some f=>if ju j d f.env then some (.normal,{f with env:=da f.env h})else none
  |none=>none
 | .nu j _ o d q h,s=>match vX i d j q o s with
  |some f=>some (.normal,{f with env:=da f.env h})
  |none=>none
 | .aX d,s=>oT i d s
 | .km pre p post h,s=>match l9 i pre p post s with
  |some (e,f)=>some (e,{f with env:=da f.env h})
  |none=>none
 | .panic d x,s=>match bO i d s with
  |some f=>match f.ev x with
   |some (.p (.iface t v))=>some (.panic (.iface t v),{f with env:=[]})
   |_=>none
  |none=>none
 | .forIn str m hid d x y z,s=>
  match str,hid with
  |true,u::k::w=>match ag s.env m with
   |some (.p (.str b))=>if hid.all (λt=>(ag s.env t).isNone)=true then
     match eD (fe i d (aR i n x)) k hid ((runesFrom b (b.size+1) 0).map mg) s with
     |some (.normal,f)=>match aR i n y f with
      |some (.normal,A)=>aR i n z A
      |r=>r
     |r=>r
    else none
   |_=>none
  |false,u::k::w=>match nk (fe i d (aR i n x)) (aR i n y) s m k hid with
   |some (.normal,f)=>aR i n z f
   |r=>r
  |_,_=>none
 | .native _ _ _,_=>none
def tv(s:St):gB->Option DV
 | .tmp t=>ag s.env t
 | .cell t n=>match ag s.env t with
  |some (.ptr id a)=>match ag s.heap id with
   |some (.var _ b)=>match ez b a n with
    |some l=>some (.agg l)
    |none=>none
   |_=>none
  |_=>none
def fP(s:St)(a:List gB):Option DV:=
 match bP (tv s) a with
 |some [v]=>some v
 |some b=>some (.tuple b)
 |none=>none
def ai:Nat->List DV->Env
 |_,[]=>[]
 |k,v::r=>(k,v)::ai (k+1) r
mutual
def HA:PV->List Int
 | .slice _ a=>aW a
 |_=>[]
def yJ:List PV->List Int
 |[]=>[]
 |x::r=>HA x++yJ r
def aW:List (List PV)->List Int
 |[]=>[]
 |r::a=>(match r with| .int _ n::_=>[n]|_=>[])++yJ r++aW a
end
def jz(q:Int->Option Bool):Nat->List Int->Option (Int×Nat×Bool)
 |_,[]=>some (0,0,false)
 |k,n::r=>match q n with
  |some true=>some (n,k,true)
  |some false=>jz q (k+1) r
  |none=>none
def rE(a:List PV)(H:Heap)(b:Nat):Heap:=(b+1,.var false [.p (.bool false)])::(b,.var false (a.map .p))::H
def qR(c f:List PV)(t:Bool)(e:Heap)(d:Nat):Out:=
 match ag e d,ag e (d+1)with
 |some (.var false a),some (.var false b)=>if a.length=c.length/\b.length=1/\f.length=c.length/\(aD d e).all (λx=>x.2.below d)=true then some (.tuple [.agg (f.map .p),.p (.bool t)],aD d e,d)else none
 |_,_=>none
def sn(t:Nat)(a:List PV)(e:aK)(args:List DV)(H:Heap)(c:Nat):Option (DV×Heap×Nat):=
 match args with
 |[_,.func f b]=>match e.dq f b (rE a H c) (c+2)with
  |some (_,d,_)=>qR a a false d c
  |none=>match e.dies f b (rE a H c) (c+2)with
   |some (.iface g (.agg h),d)=>if g=t then qR a h true d c else none
   |_=>none
 |_=>none
def jf(a:aK)(c:FuncId)(n:Int):Option Bool:=
 match a.pure c [.int .i64 n]with
 |some (.bool b)=>some b
 |_=>none
mutual
def sk:PV->Bool
 | .slice _ a=>ed a&&decide (a.length<=4611686018427387904)
 |_=>true
def zL:List PV->Bool
 |[]=>true
 |x::r=>sk x&&zL r
def ed:List (List PV)->Bool
 |[]=>true
 |r::a=>(match r with|[.int .i64 _,.int .i64 _,.str _,.slice _ _]=>true|_=>false)&&zL r&&ed a
end
def mc:∀(a b:List (List PV)),aW (a++b)=aW a++aW b
 |[],b=>by simp[aW]
 |x::a,b=>by simp only[List.cons_append,aW,mc a b,List.append_assoc]
def nU:∀(a b:List (List PV)),ed (a++b)=(ed a&&ed b)
 |[],b=>by simp[ed]
 |x::a,b=>by simp only[List.cons_append,ed,nU a b,Bool.and_assoc]
def wG(q:Int->Option Bool)(f:Bool)(a:List (List PV)):Option (Int×Nat×Bool):=
 if sk (.slice f a)=true/\(aW a).length<=4611686018427387904/\(aW a).all (λo=>(q o).isSome)=true then jz q 0 (aW a)else none
def rO(j l m:FuncId)(a:aK)(args:List DV)(H:Heap)(h:Nat):Option (DV×Heap×Nat):=
 match args with
 |[.agg [c,d,g]]=>match bP (aS H dep) [c,d,g]with
  |some i=>match a.pure j [.agg i]with
   |some (.int .i64 e)=>if e=0 then match a.pure l [.agg i]with
     |some (.slice f o)=>match wG (jf a m) f o with
      |some (n,k,b)=>some (.tuple [.p (.int .i64 n),.p (.int .i64 k),.p (.bool b)],dp H ([c,d,g].flatMap (fg H dep)),h)
      |none=>none
     |_=>none
    else some (.tuple [.p (.int .i64 0),.p (.int .i64 0),.p (.bool false)],dp H ([c,d,g].flatMap (fg H dep)),h)
   |_=>none
  |none=>none
 |_=>none
def lH:Nat->List Nat->List PV->aK->List DV->Heap->Nat->Option (DV×Heap×Nat)
 |0,[t],z=>sn t z
 |1,[a,b,c],_=>rO a b c
 |_,_,_=>λ_ _ _ _=>none
def ik:aG->Option (aK->List DV->Heap->Nat->Option (DV×Heap×Nat))
 | .native k a z=>some (lH k a z)
 |_=>none
def oZ(b:Bool)(a:Nat)(v:DV)(s:St):Out:=
 if b then(if below a dep v&&(aD a s.heap).all (λx=>x.2.below a)&&decide (a<=s.next)then some (v,aD a s.heap,a)else none)
 else some (v,s.heap,s.next)
noncomputable def jH (c:aK) (n:Nat) (a:av) (args:List DV) (H:Heap) (b:Nat):Out:=
 match ik a.body with
 |some run=>run c args H b
 |none=>if args.length=a.nparams then
  match aR c n a.body {env:=ai 0 args,heap:=H,next:=b,marks:=[b]}with
  |some (.normal,s)|some (.ret,s)=>match fP s a.results with
   |some v=>oZ a.rs b v s
   |none=>none
  |_=>none
 else none
noncomputable def sH (c:aK) (n:Nat) (b:av) (args:List DV) (H:Heap) (a:Nat):Option (PV×Heap):=
 if args.length=b.nparams then
  match aR c n b.body {env:=ai 0 args,heap:=H,next:=a,marks:=[a]}with
  |some (.panic v,s)=>if(aD a s.heap).all (λx=>x.2.below a)&&decide (a<=s.next)then some (v,aD a s.heap)else none
  |_=>none
 else none
noncomputable def prun (a:aK) (n:Nat) (b:av) (args:List PV):Option PV:=
 match jH a n b (args.map aI) [] 0 with
 |some (v,h,_)=>aS h dep v
 |none=>none
noncomputable def dQ (A:FuncId->Option av) (X:aK):Nat->aK
 |0=>
  {pure:=λf args=>match A f with
    |some _=>none
    |none=>X.pure f args
   dq:=λf args H a=>match A f with
    |some _=>none
    |none=>X.dq f args H a
   dies:=λ_ _ _ _=>none}
 |n+1=>
  {pure:=λf args=>match A f with
    |some b=>prun (dQ A X n) (n+1) b args
    |none=>X.pure f args
   dq:=λf args H a=>match A f with
    |some b=>jH (dQ A X n) (n+1) b args H a
    |none=>X.dq f args H a
   dies:=λf args H a=>match A f with
    |some b=>sH (dQ A X n) (n+1) b args H a
    |none=>none}
end
end Go.Dv
