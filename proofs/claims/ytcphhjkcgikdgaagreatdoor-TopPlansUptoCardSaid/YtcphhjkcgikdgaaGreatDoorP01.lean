/- Lemmas for the law of this claim. -/
import Derived.Calls
import Derived.Orders
import Derived.Below
import Derived.KernelRfl
import Derived.Test.YtcphhjkcgikdgaaGreatDoorP00
set_option linter.all false
namespace Go.Dv
section
def rI(o:Obj):Prop:=(∃m s e c,o=.mapIter m s e c)\/∃s p,o=.stringIter s p
structure Below(B:Nat)(w w':World):Prop extends Go.RowKit.Below B w w' where
 drawn:w.drawn<=w'.drawn
 iter:∀(k:Nat) (o:Obj),rI o->w.heap[k]?=some o->w'.heap[k]?=some o
def Below.refl(B:Nat)(w:World):Below B w w:=⟨Go.RowKit.Below.refl B w,Nat.le_refl _,λ_ _ _ h=>h⟩
def Below.trans{B:Nat}{a b c:World}(h:Below B a b)(k:Below B b c):Below B a c:=⟨h.toBelow.trans k.toBelow,dL h.drawn k.drawn,λi o d e=>k.iter i o d (h.iter i o d e)⟩
def Below.mono{B a:Nat}{w b:World}(h:Below B w b)(c:a<=B):Below a w b:=⟨h.toBelow.mono c,h.drawn,h.iter⟩
def Below.drew{B:Nat}{a w:World}(h:Below B a w):Below B a w.drew:=⟨h.toBelow.drew,dL h.drawn (iQ _),h.iter⟩
def Below.alloc{B:Nat}{a w:World}(h:Below B a w)(c:B<=w.heap.size)(o:Obj):Below B a (w.alloc o):=⟨h.toBelow.alloc c o,h.drawn,λk d f e=>by
 have e:=h.iter k d f e;simp only[World.alloc,HV];have g:k<w.heap.size:=by
  rcases cK k w.heap.size with b|b
  .exact b
  .simp[tN b]at e
 rw[an ae];exact e⟩
def Below.Oh{w a:World}(h:Go.RowKit.Below w.heap.size w a)(c:w.drawn<=a.drawn):Below w.heap.size w a:=⟨h,c,λk o _ e=>by
 have d:k<w.heap.size:=by
  rcases cK k w.heap.size with b|b
  .exact b
  .simp[tN b]at e
 rw[h.block k d];exact e⟩
def lK(B:Nat)(w:World):Prop:=∀t∈Nx,t.1<B/\∃T a,w.heap[t.1]?=some (.cells t.2 T a)
def lK.below{B C:Nat}{w a:World}(h:lK C w)(g:C<=B)(b:Go.RowKit.Below B w a):lK C a:=λt c=>by
 obtain⟨d,T,e,f⟩:=h t c;exact⟨d,T,e,by rw[b.block _ ae];exact f⟩
def lK.mono{B C:Nat}{w:World}(h:lK C w)(b:C<=B):lK B w:=λt a=>⟨pb (h t a).1 b,(h t a).2⟩
inductive SC where
 |int (k:IntKind) (n:Int)
 |bool (b:Bool)
 |str (s:ByteArray)
inductive MV where
 |one (c:SC)
 |agg (cs:List SC)
abbrev SM:=ByteArray->Option MV
inductive PV where
 |int (k:IntKind) (n:Int)
 |bool (b:Bool)
 |str (s:ByteArray)
 |slice (full:Bool) (xs:List (List PV))
 |eN (cs:List PV)
 |func (f:FuncId) (caps:List PV)
 |agg (cs:List PV)
 |tuple (vs:List PV)
 |undef
 |z (nil:Bool)
 |map (n:Nat) (f:ByteArray->Option MV)
 |iface (t:Nat) (v:PV)
 deriving Inhabited
inductive DV where
 |p (v:PV)
 |agg (cs:List DV)
 |tuple (vs:List DV)
 |ref (id rD off n:Nat)
 |ptr (id off:Nat)
 |du (id rD i off:Nat)
 |func (f:FuncId) (caps:List DV)
 |kh (f:FuncId) (first:List DV)
 deriving Inhabited
def PV.iz:PV->Bool
 | .agg _| .tuple _| .undef=>false
 |_=>true
def DV.iz:DV->Bool
 | .p v=>v.iz
 | .agg _| .tuple _=>false
 |_=>true
def rR:PV->DV
 | .agg a=>.agg (a.map .p)
 |v=>.p v
def aQ:PV->DV
 | .tuple a=>.tuple (a.map rR)
 | .agg b=>.agg (b.map .p)
 |v=>.p v
def SC.pv:SC->PV
 | .int k n=>.int k n
 | .bool b=>.bool b
 | .str s=>.str s
def MV.pv:MV->PV
 | .one c=>c.pv
 | .agg a=>.agg (a.map SC.pv)
def SC.v:SC->Value
 | .int k n=>.int k n
 | .bool b=>.bool b
 | .str s=>.string s
def MV.v:MV->Value
 | .one c=>c.v
 | .agg a=>.agg (a.map SC.v).toArray
def IP:PV->Option SC
 | .int k n=>some (.int k n)
 | .bool b=>some (.bool b)
 | .str s=>some (.str s)
 |_=>none
def fF(f:SM)(k:ByteArray)(y:Option MV):SM:=λj=>if j=k then y else f j
inductive MC where
 |ints (kv:List (Int×DV))
 |strs (n:Nat) (f:SM)
inductive ca where
 |var (fz:Bool) (cells:List DV)
 |row (fz:Bool) (sz:Nat) (xs:List (List PV))
 |map (fz:Bool) (kv:MC)
 |bh (fz:Bool) (sz:Nat) (xs:List (List DV))
 deriving Inhabited
abbrev Heap:=List (Nat×ca)
abbrev Env:=List (Nat×DV)
def ah{a:Type}:List (Nat×a)->Nat->Option a
 |[],_=>none
 |(k,v)::r,i=>if k==i then some v else ah r i
def fi:Env->Nat->DV->Env
 |[],i,d=>[(i,d)]
 |(k,v)::r,i,d=>if k==i then(i,d)::r else if i<k then(i,d)::(k,v)::r else(k,v)::fi r i d
def aH:Heap->Nat->ca->Heap
 |[],_,_=>[]
 |(k,v)::r,i,d=>if k==i then(k,d)::r else(k,v)::aH r i d
def oe{a:Type}:List (Nat×a)->Nat->List (Nat×a)
 |[],_=>[]
 |(k,v)::r,i=>if k==i then oe r i else(k,v)::oe r i
def cT{a:Type}(l:List (Nat×a)):List Nat->List (Nat×a)
 |[]=>l
 |i::r=>cT (oe l i) r
def cl{c d:Type}(f:c->Option d):List c->Option (List d)
 |[]=>some []
 |a::r=>match f a with
  |none=>none
  |some b=>match cl f r with
   |none=>none
   |some e=>some (b::e)
def bE(H:Heap):Nat->DV->Option PV
 |0,_=>none
 |_+1,.p v=>some v
 |n+1,.agg c=>match cl (bE H n) c with
  |some l=>some (.agg l)
  |none=>none
 |n+1,.tuple c=>match cl (bE H n) c with
  |some l=>some (.tuple l)
  |none=>none
 |n+1,.ref id b off k=>match ah H id with
  |some (.row _ _ a)=>if b=a.length/\off+k<=a.length then some (.slice false ((a.drop off).take k))else none
  |some (.bh _ _ a)=>if b=a.length/\off+k<=a.length then match cl (λx=>cl (bE H n) x) ((a.drop off).take k)with
    |some l=>some (.slice false l)
    |none=>none
   else none
  |_=>none
 |n+1,.ptr id off=>match ah H id with
  |some (.var _ c)=>match cl (bE H n) (c.drop off)with
   |some l=>some (.eN l)
   |none=>none
  |some (.map _ (.strs k f))=>some (.map k f)
  |_=>none
 |_+1,.du id b i off=>match ah H id with
  |some (.row _ _ a)=>if b=a.length then match a[i]? with
    |some x=>some (.eN (x.drop off))
    |none=>none
   else none
  |_=>none
 |n+1,.func f c=>match cl (bE H n) c with
  |some l=>some (.func f l)
  |none=>none
 |_+1,.kh _ _=>none
def eR(H:Heap):Nat->DV->List Nat
 |0,_=>[]
 |_+1,.p _=>[]
 |n+1,.agg a=>a.flatMap (eR H n)
 |n+1,.tuple a=>a.flatMap (eR H n)
 |n+1,.ref id _ off k=>id::match ah H id with
  |some (.bh _ _ b)=>((b.drop off).take k).flatMap λx=>x.flatMap (eR H n)
  |_=>[]
 |n+1,.ptr id off=>id::match ah H id with
  |some (.var _ a)=>(a.drop off).flatMap (eR H n)
  |_=>[]
 |_+1,.du id _ _ _=>[id]
 |n+1,.func _ a=>a.flatMap (eR H n)
 |_+1,.kh _ _=>[]
def dep:Nat:=5
def ca.freeze:ca->ca
 | .var _ c=>.var true c
 | .row _ a b=>.row true a b
 | .map _ d=>.map true d
 | .bh _ a b=>.bh true a b
def ml:Heap->Nat->Heap
 |[],_=>[]
 |(k,b)::r,i=>if k==i then(k,b.freeze)::r else(k,b)::ml r i
def cY(H:Heap):List Nat->Heap
 |[]=>H
 |i::r=>cY (ml H i) r
structure St where
 env:Env
 heap:Heap
 next:Nat
 marks:List Nat
 deriving Inhabited
inductive DO where
 |t (k:Nat)
 |c (v:DV)
 deriving Inhabited
def St.ev(s:St):DO->Option DV
 | .t k=>ah s.env k
 | .c v=>some v
inductive dN where
 |move (x:DO)
 |pick (c a b:DO)
 |alloc (zero:List PV)
 |box (x:DO)
 |build (zero:List PV) (parts:List (Nat×Nat×DO))
 |buildSlice (zero:List PV) (len:Nat) (parts:List (Nat×DO))
 |load (n:Option Nat) (a:DO)
 |store (n:Nat) (a x:DO)
 |nilCheck (x:DO)
 |bin (op:BinOp) (x y:DO)
 |HJ (neg:Bool) (x y:DO)
 |qG (neg:Bool) (jf:List (Nat×Nat)) (x y:DO)
 |un (op:UnOp) (x:DO)
 |conv (k:IntKind) (x:DO)
 |slice (sz:Nat) (x:DO) (lo hi mx:Option DO)
 |fieldAddr (off:Nat) (x:DO)
 |indexAddr (sz:Nat) (x i:DO)
 |cZ (len sz:Nat) (x i:DO)
 |index (x i:DO)
 |extract (x:DO) (i:Nat)
 |makeSlice (zero:List PV) (bytes:Nat) (l c:DO)
 |append (bytes sz:Nat) (s x:DO)
 |copy (sz:Nat) (d s:DO)
 |len (x:DO)
 |lH (x:DO)
 |jr (isMax:Bool) (x:DO) (xs:List DO)
 |eW (f:FuncId) (caps:List DO)
 |call (de:Bool) (f:FuncId) (args:List DO)
 |eu (de:Bool) (fv:DO) (args:List DO)
 |isNil (x:DO)
 |clear (zero:List PV) (x:DO)
 |je (zero:List PV) (x:DO)
 |mH (bytes sz:Nat) (s x:DO)
 |jZ (f:FuncId) (args:List DO)
 |fT
 |fO (ok:Bool) (zero:PV) (x i:DO)
 |ew (x i v:DO)
 |oj (x i:DO)
 |tX (x:DO)
 |oR (f:FuncId) (first:List DO)
 |kS (t:Nat) (x:DO)
 deriving Inhabited
structure ai where
 dst:Option Nat
 op:dN
 guard:Option (Nat×Bool)
 dp:List Nat
 deriving Inhabited
def ai.o(k:Nat)(x:dN):ai:=⟨some k,x,none,[]⟩
def ai.u(x:dN):ai:=⟨none,x,none,[]⟩
def ai.g(k j:Nat)(b:Bool)(x:dN)(l:List Nat):ai:=⟨some k,x,some (j,b),l⟩
def DO.i(n:Int):DO:=.c (.p (.int .i64 n))
def DO.b(t:Bool):DO:=.c (.p (.bool t))
inductive DJ where
 |forget (slots:List Nat)
 |free (slots:List Nat)
 |mark
 |reset
 |lower
 |own (sz slot:Nat)
 |pI (sz slot off:Nat)
 |pure (slots:List Nat)
 |HN (sz slot off:Nat)
 |bump (n:Nat)
 deriving Inhabited
structure aI where
 pure:FuncId->List PV->Option PV
 de:FuncId->List DV->Heap->Nat->Option (DV×Heap×Nat)
 dies:FuncId->List DV->Heap->Nat->Option (PV×Heap):=λ_ _ _ _=>none
def lD:aI:={pure:=λ_ _=>none,de:=λ_ _ _ _=>none}
inductive aC where
 |skip
 |region (draw:Bool) (ops:List ai) (kill:List Nat)
 |seq (a b:aC)
 |cond (c:DO) (thn els:aC)
 |block (id:Nat) (body:aC)
 |loop (body:aC)
 |exit (id:Nat)
 |ret
 |ghost (g:DJ) (c:aC)
 |after (c:aC) (l:List Nat)
 |iI (aaD:List (Nat×Nat)) (ops:List ai) (kill:List Nat)
 |aT (draw:Bool) (ops:List (ai×List Nat))
 |aS (ops:List (ai×List Nat))
 |j2 (pre:List ai) (call:ai) (post:List ai) (kill:List Nat)
 |panic (ops:List ai) (x:DO)
 |forIn (str:Bool) (m:Nat) (hid:List Nat) (ops:List ai) (body cont rest:aC)
 |native (k:Nat) (fs:List Nat) (z:List PV)
 |ob (aaD:List (Nat×Nat)) (rk:List Nat) (ords:List (List Nat)) (ops:List ai) (ks:List Nat) (kill:List Nat)
 deriving Inhabited
inductive gm where
 |tmp (t:Nat)
 |cell (t:Nat) (n:Nat)
 deriving Inhabited
structure au where
 ntmps:Nat
 nparams:Nat
 results:List gm
 body:aC
 rs:Bool
 deriving Inhabited
def fA(b:BinOp)(x y:ByteArray):Option PV:=
 let eq:=x.toList==y.toList
 let a:=Op.bytesLess x.toList y.toList
 match b with
 | .add=>if x.size+y.size<=140737488355328 then some (.str (x++y))else none
 | .eql=>some (.bool eq)
 | .neq=>some (.bool !eq)
 | .lss=>some (.bool a)
 | .leq=>some (.bool (a||eq))
 | .gtr=>some (.bool !(a||eq))
 | .geq=>some (.bool !a)
 |_=>none
def BF(c:BinOp)(k:IntKind)(a b:Int):Option PV:=
 match c with
 | .add=>some (.int k (k.wrap (a+b)))
 | .sub=>some (.int k (k.wrap (a-b)))
 | .mul=>some (.int k (k.wrap (a*b)))
 | .quo=>if b=0 then none else some (.int k (k.wrap (a.tdiv b)))
 | .rem=>if b=0 then none else some (.int k (a.tmod b))
 | .eql=>some (.bool (a==b))
 | .neq=>some (.bool (a !=b))
 | .lss=>some (.bool (decide (a<b)))
 | .leq=>some (.bool (decide (a<=b)))
 | .gtr=>some (.bool (decide (a>b)))
 | .geq=>some (.bool (decide (a>=b)))
 | .and=>some (.int k (bits .and k a b))
 | .or=>some (.int k (bits .or k a b))
 | .xor=>some (.int k (bits .xor k a b))
 |_=>none
def DK(c:BinOp):DV->DV->Option PV
 | .p (.int k a),.p (.int d b)=>
  match c with
  | .shl=>if b<0 then none else some (.int k (k.wrap (a*2^min b.toNat k.bits)))
  | .shr=>if b<0 then none else some (.int k (a.fdiv (2^min b.toNat k.bits)))
  |_=>if k=d then BF c k a b else none
 | .p (.str a),.p (.str b)=>fA c a b
 |_,_=>none
def uQ:Nat->DV->DV->Option Bool
 |0,.p (.int k a),.p (.int c b)=>if k=c then some (a==b)else none
 |1,.p (.bool a),.p (.bool b)=>some (a==b)
 |2,.p (.str a),.p (.str b)=>some (a.toList==b.toList)
 |_,_,_=>none
def iM(a b:List DV):List (Nat×Nat)->Option Bool
 |[]=>some true
 |(o,k)::r=>match a[o]?,b[o]? with
   |some x,some y=>match uQ k x y with
    |some true=>iM a b r
    |some false=>some false
    |none=>none
   |_,_=>none
def KX(a:UnOp):DV->Option PV
 | .p (.bool b)=>match a with
  | .not=>some (.bool !b)
  |_=>none
 | .p (.int k n)=>match a with
  | .neg=>some (.int k (k.wrap (0-n)))
  | .xor=>some (.int k (bits .xor k (if k.signed then-1 else k.max) n))
  |_=>none
 |_=>none
def DV.cells:DV->Option (List DV)
 | .agg a=>some a
 |d=>if d.iz then some [d]else none
def PV.cellsOf:PV->Option (List PV)
 | .agg a=>some a
 |d=>if d.iz then some [d]else none
def dR{b:Type}(c:List b)(a n:Nat):Option (List b):=
 let l:=(c.drop a).take n
 if l.length=n then some l else none
def putAt{b:Type}(l:List b)(a:Nat)(c:List b):List b:=l.take a++c++l.drop (a+c.length)
def pA(a:List DV):List (Nat×Nat×DV)->Option (List DV)
 |[]=>some a
 |(c,b,v)::r=>match v.cells with
   |some d=>if d.length=b/\c+b<=a.length then pA (putAt a c d) r else none
   |none=>none
def eP(s:St):List (Nat×Nat×DO)->Option (List (Nat×Nat×DV))
 |[]=>some []
 |(o,n,x)::r=>match s.ev x,eP s r with
   |some v,some l=>some ((o,n,v)::l)
   |_,_=>none
def gn(s:St):List DO->Option (List DV)
 |[]=>some []
 |x::r=>match s.ev x,gn s r with
  |some v,some l=>some (v::l)
  |_,_=>none
def di(H:Heap)(a:Nat):Nat->List (Nat×DV)->Option (List (List PV))
 |_,[]=>some []
 |k,(i,v)::r=>if i=k then match bE H dep v with
   |some p=>match p.cellsOf with
    |some b=>if b.length=a then match di H a (k+1) r with
      |some l=>some (b::l)
      |none=>none
     else none
    |none=>none
   |none=>none
  else none
def iG(s:St):List (Nat×DO)->Option (List (Nat×DV))
 |[]=>some []
 |(o,x)::r=>match s.ev x,iG s r with
   |some v,some l=>some ((o,v)::l)
   |_,_=>none
def S2:DV->Option Int
 | .p (.int _ n)=>some n
 |_=>none
def sT(s:St):Option DO->Int->Option Int
 |none,d=>some d
 |some x,_=>match s.ev x with
  |some v=>S2 v
  |none=>none
def qZ(s:St):Option DO->Option (Option Int)
 |none=>some none
 |some x=>match s.ev x with
  |some v=>(S2 v).map some
  |none=>none
def OJ(b:ByteArray)(a:Int)(c:Option Int):Option DV:=
 let h:=c.getD b.size
 if 0<=a/\a<=h/\h<=b.size then some (.p (.str (b.extract a.toNat h.toNat)))else none
def bV(a:Nat)(b:List (List PV)):Bool:=b.all λy=>y.length==a
def jb(H:Heap)(i:Nat)(x:DV)(a:Int)(j f:Option Int):Option (DV×List Nat):=
 match x with
 | .p (.slice d b)=>
  let h:=j.getD b.length
  let m:=f.getD b.length
  if bV i b=true/\0<=a/\a<=h/\h<=m/\m<=b.length then
   some (.p (.slice (match f with|some _=>decide (h=m)|none=>d&&decide (h=m)) ((b.take h.toNat).drop a.toNat)),[])
  else none
 | .ref id e c n=>match ah H id with
  |some (.row _ g b)=>
   let h:=j.getD n
   let m:=f.getD n
   if g=i/\e=b.length/\c+n<=b.length/\0<=a/\a<=h/\h<=m/\m<=n then
    match f with
    |some _=>if h=m then some (.p (.slice true (((b.drop c).take h.toNat).drop a.toNat)),if a=h then[]else[id])else none
    |none=>some (.ref id e (c+a.toNat) (h.toNat-a.toNat),[])
   else none
  |_=>none
 |_=>none
def tV(H:Heap):DV->Option (Nat×SM)
 | .ptr id 0=>match ah H id with
  |some (.map _ (.strs n f))=>some (n,f)
  |_=>none
 | .p (.map n f)=>some (n,f)
 |_=>none
def Gc(f:SM)(k:ByteArray)(a:PV):PV:=match f k with
 |some y=>y.pv
 |none=>a
def FJ:DV->Option MV
 | .p v=>match IP v with
  |some c=>some (.one c)
  |none=>none
 | .agg a=>match cl (λ| .p v=>IP v|_=>none) a with
  |some l=>some (.agg l)
  |none=>none
 |_=>none
def Xn{a:Type}:List (Int×a)->Int->Option a
 |[],_=>none
 |(k,v)::r,i=>if k=i then some v else Xn r i
def Xt{a:Type}:List (Int×a)->Int->a->List (Int×a)
 |[],i,p=>[(i,p)]
 |(k,v)::r,i,p=>if k=i then(k,p)::r else(k,v)::Xt r i p
def ak:Nat:=140737488355328
def jD(H:Heap):DV->Option (List (List PV)×List Nat)
 | .p (.slice _ a)=>some (a,[])
 | .p (.z _)=>some ([],[])
 | .ref id c b n=>match ah H id with
  |some (.row _ _ a)=>if c=a.length/\b+n<=a.length then some ((a.drop b).take n,[])else none
  |_=>none
 |_=>none
def wm{d c:Type}(f:c->d->Option c):c->List d->Option c
 |b,[]=>some b
 |b,a::r=>match f b a with
  |some e=>wm f e r
  |none=>none
def Ng(c:Bool):PV->DV->Option PV
 | .int k a,.p (.int d b)=>if k=d then some (.int k (if c then(if b>a then b else a)else(if b<a then b else a)))else none
 | .str a,.p (.str b)=>match fA (if c then .geq else .leq) a b with
  |some (.bool t)=>some (.str (if t then a else b))
  |_=>none
 |_,_=>none
def PV.plain:PV->Bool
 | .int _ _| .bool _| .str _=>true
 | .tuple a=>a.all λ| .int _ _| .bool _| .str _=>true|_=>false
 |_=>false
abbrev Out:=Option (DV×Heap×Nat)
def iU(b:aI)(a:Bool)(f:FuncId)(args:List DV)(H:Heap)(c:Nat):Out:=
 if a then b.de f args H c
 else match cl (bE H dep) args with
  |some d=>match b.pure f d with
   |some r=>some (aQ r,if r.plain then H else cY H (args.flatMap (eR H dep)),c)
   |none=>none
  |none=>none
def kd(H:Heap):DV->Bool
 | .ptr id _=>match ah H id with
  |some (.var _ _)=>true
  |_=>false
 | .du id a i _=>match ah H id with
  |some (.row _ _ b)=>decide (a=b.length)&&decide (i<b.length)
  |_=>false
 | .p (.eN _)=>true
 |_=>false
def iX(bytes e:Nat)(b:List (List PV))(v:DV)(H:Heap)(c:Nat):Out:=
 match v with
 | .p (.slice d a)=>
  if d&&bV e a&&decide ((a.length+b.length)*bytes<=ak)&&decide (a.length+b.length<=ak)then
   if b.isEmpty&&!a.isEmpty then some (v,H,c)
   else some (.ref c (a.length+b.length) 0 (a.length+b.length),(c,.row false e (a++b))::H,c+1)
  else if b.isEmpty then some (v,H,c)else none
 | .ref id f g n=>match ah H id with
  |some (.row false h a)=>
   if f=a.length/\g=0/\n=a.length/\h=e/\(a.length+b.length)*bytes<=ak/\a.length+b.length<=ak then
    some (.ref id (a.length+b.length) 0 (a.length+b.length),aH H id (.row false e (a++b)),c)
   else none
  |_=>none
 |_=>none
def Nu(H:Heap)(d:Nat)(v:DV)(e:Heap):Prop:=(∃a c n,v=.ref d a c n)/\∃b,e=(d,b)::H
def re(bytes f:Nat)(v u:DV)(H:Heap)(k:Nat):Out:=
 match v,u with
 | .ref id g h n,.ref c d e l=>match ah H id,ah H c with
  |some (.bh false i a),some (.bh _ j b)=>
   if g=a.length/\h=0/\n=a.length/\i=f/\j=f/\d=b.length/\e=0/\l=b.length/\id≠c/\(a.length+b.length)*bytes<=ak/\a.length+b.length<=ak then
    some (.ref id (a.length+b.length) 0 (a.length+b.length),aH H id (.bh false f (a++b)),k)
   else none
  |_,_=>none
 |_,_=>none
def BD(f:Nat)(c:List (List PV))(v:DV)(H:Heap)(g:Nat):Out:=
 match v with
 | .ref id d a n=>match ah H id with
  |some (.row false e b)=>
   if d=b.length/\a+n<=b.length/\e=f then
    some (.p (.int .i64 (min c.length n:Nat)),aH H id (.row false f (putAt b a (c.take n))),g)
   else none
  |_=>none
 | .p (.slice _ b)=>if b.isEmpty||c.isEmpty then some (.p (.int .i64 0),H,g)else none
 |_=>none
def xJ(a:List PV)(v:DV)(H:Heap)(f:Nat):Out:=
 match v with
 | .ref id d b n=>match ah H id with
  |some (.row false e c)=>
   if d=c.length/\b+n<=c.length/\e=a.length then
    some (.tuple [],aH H id (.row false a.length (putAt c b (List.replicate n a))),f)
   else none
  |_=>none
 | .p (.slice _ c)=>if c.isEmpty then some (.tuple [],H,f)else none
 |_=>none
noncomputable def bg (I:aI) (d:dN) (s:St):Out:=
 let H:=s.heap
 let e:=s.next
 match d with
 | .move x=>match s.ev x with
  |some v=>some (v,H,e)
  |none=>none
 | .pick c a b=>match s.ev c with
  |some (.p (.bool t))=>match s.ev (if t then a else b)with
   |some v=>some (v,H,e)
   |none=>none
  |_=>none
 | .alloc zero=>match ah H e with
  |none=>some (.ptr e 0,(e,.var false (zero.map .p))::H,e+1)
  |some _=>none
 | .box x=>match s.ev x with
  |some v=>match v.cells,ah H e with
   |some A,none=>some (.ptr e 0,(e,.var false A)::H,e+1)
   |_,_=>none
  |none=>none
 | .build zero parts=>match eP s parts with
  |some l=>match pA (zero.map .p) l with
   |some A=>some (.agg A,H,e)
   |none=>none
  |none=>none
 | .buildSlice zero C parts=>match iG s parts with
  |some l=>match di H zero.length 0 l with
   |some j=>some (.p (.slice true (j++List.replicate (C-j.length) zero)),cY H ((l.map (·.2)).flatMap (eR H dep)),e)
   |none=>none
  |none=>none
 | .load n a=>match s.ev a with
  |some (.ptr id g)=>match ah H id with
   |some (.var _ A)=>match n with
    |none=>match A[g]? with
     |some v=>some (v,H,e)
     |none=>none
    |some n=>match dR A g n with
     |some l=>some (.agg l,H,e)
     |none=>none
   |_=>none
  |some (.p (.eN A))=>match n with
    |none=>match A[0]? with
     |some v=>some (.p v,H,e)
     |none=>none
    |some n=>match dR A 0 n with
     |some l=>some (.agg (l.map .p),H,e)
     |none=>none
  |some (.du id q i g)=>match ah H id with
   |some (.row _ _ j)=>if q=j.length then match j[i]? with
     |some x=>match n with
      |none=>match x[g]? with
       |some v=>some (.p v,H,e)
       |none=>none
      |some n=>match dR x g n with
       |some l=>some (.agg (l.map .p),H,e)
       |none=>none
     |none=>none
    else none
   |some (.bh _ _ j)=>if q=j.length then match j[i]? with
     |some x=>match n with
      |none=>match x[g]? with
       |some v=>some (v,H,e)
       |none=>none
      |some n=>match dR x g n with
       |some l=>some (.agg l,H,e)
       |none=>none
     |none=>none
    else none
   |_=>none
  |_=>none
 | .store n a x=>match s.ev a,s.ev x with
  |some (.ptr id g),some v=>match ah H id,v.cells with
   |some (.var false A),some l=>if l.length=n/\g+n<=A.length then some (.tuple [],aH H id (.var false (putAt A g l)),e)else none
   |_,_=>none
  |some (.du id q i g),some v=>match ah H id with
   |some (.row false z j)=>match bE H dep v with
    |some p=>match j[i]?,p.cellsOf with
     |some y,some l=>if q=j.length/\l.length=n/\g+n<=y.length/\id∉eR H dep v then
       some (.tuple [],aH (cY H (eR H dep v)) id (.row false z (j.set i (putAt y g l))),e)else none
     |_,_=>none
    |none=>none
   |some (.bh false z j)=>match j[i]?,v.cells with
    |some y,some l=>if q=j.length/\l.length=n/\g+n<=y.length then
      some (.tuple [],aH H id (.bh false z (j.set i (putAt y g l))),e)else none
    |_,_=>none
   |_=>none
  |_,_=>none
 | .nilCheck x=>match s.ev x with
  |some v=>if kd H v then some (v,H,e)else none
  |none=>none
 | .bin J x y=>match s.ev x,s.ev y with
  |some v,some u=>match DK J v u with
   |some r=>some (.p r,H,e)
   |none=>none
  |_,_=>none
 | .HJ D x y=>match s.ev x,s.ev y with
  |some (.p (.bool a)),some (.p (.bool b))=>some (.p (.bool (if D then !(a==b)else(a==b))),H,e)
  |_,_=>none
 | .qG D jf x y=>match s.ev x,s.ev y with
  |some (.agg j),some (.agg E)=>match iM j E jf with
   |some t=>some (.p (.bool (if D then !t else t)),H,e)
   |none=>none
  |_,_=>none
 | .un J x=>match s.ev x with
  |some v=>match KX J v with
   |some r=>some (.p r,H,e)
   |none=>none
  |none=>none
 | .conv k x=>match s.ev x with
  |some (.p (.int _ n))=>some (.p (.int k (k.wrap n)),H,e)
  |_=>none
 | .slice z x N O P=>match s.ev x,sT s N 0,qZ s O,qZ s P with
  |some v,some l,some h,some m=>match jb H z v l h m with
   |some (r,K)=>some (r,cY H K,e)
   |none=>none
  |_,_,_,_=>none
 | .fieldAddr g x=>match s.ev x with
  |some (.ptr id o)=>match ah H id with
   |some (.var _ _)=>some (.ptr id (o+g),H,e)
   |_=>none
  |some (.p (.eN A))=>some (.p (.eN (A.drop g)),H,e)
  |some (.du id q i o)=>match ah H id with
   |some (.row _ _ j)=>if q=j.length/\i<j.length then some (.du id q i (o+g),H,e)else none
   |some (.bh _ _ j)=>if q=j.length/\i<j.length then some (.du id q i (o+g),H,e)else none
   |_=>none
  |_=>none
 | .indexAddr z x i=>match s.ev x,s.ev i with
  |some (.p (.slice _ j)),some (.p (.int _ n))=>if 0<=n then match j[n.toNat]? with
    |some y=>if y.length=z then some (.p (.eN y),H,e)else none
    |none=>none
   else none
  |some (.ref id q g k),some (.p (.int _ n))=>match ah H id with
   |some (.row _ F j)=>if q=j.length/\g+k<=j.length/\F=z/\0<=n/\n<k then some (.du id q (g+n.toNat) 0,H,e)else none
   |some (.bh _ F j)=>if q=j.length/\g+k<=j.length/\F=z/\0<=n/\n<k then some (.du id q (g+n.toNat) 0,H,e)else none
   |_=>none
  |_,_=>none
 | .cZ C z x i=>match s.ev x,s.ev i with
  |some (.ptr id g),some (.p (.int _ n))=>match ah H id with
   |some (.var _ _)=>if 0<=n/\n<C then some (.ptr id (g+n.toNat*z),H,e)else none
   |_=>none
  |_,_=>none
 | .index x i=>match s.ev x,s.ev i with
  |some (.p (.str b)),some (.p (.int _ n))=>if 0<=n then match b.data[n.toNat]? with
    |some c=>some (.p (.int .u8 c.toNat),H,e)
    |none=>none
   else none
  |_,_=>none
 | .extract x i=>match s.ev x with
  |some (.tuple Q)=>match Q[i]? with
   |some v=>some (v,H,e)
   |none=>none
  |_=>none
 | .makeSlice zero bytes l c=>match s.ev l,s.ev c with
  |some (.p (.int .i64 l)),some (.p (.int .i64 c))=>if 0<=l/\l<=c/\c.toNat*bytes<=ak/\c<=140737488355328/\ah H e=none then
    some (.ref e l.toNat 0 l.toNat,(e,.row false zero.length (List.replicate l.toNat zero))::H,e+1)else none
  |_,_=>none
 | .append bytes z a x=>match s.ev a,s.ev x with
  |some v,some u=>match jD H u with
   |some (E,_)=>if bV z E then iX bytes z E v H e else none
   |none=>none
  |_,_=>none
 | .copy z d x=>match s.ev d,s.ev x with
  |some v,some u=>match jD H u with
   |some (E,_)=>if bV z E then BD z E v H e else none
   |none=>none
  |_,_=>none
 | .lH x=>match s.ev x with
  |some (.p (.str b))=>some (.p (.int .i64 b.size),H,e)
  |_=>none
 | .len x=>match s.ev x with
  |some (.p (.slice _ j))=>some (.p (.int .i64 j.length),H,e)
  |some (.ref id q g n)=>match ah H id with
   |some (.row _ _ j)=>if q=j.length/\g+n<=j.length then some (.p (.int .i64 n),H,e)else none
   |_=>none
  |_=>none
 | .jr G x j=>match s.ev x,gn s j with
  |some (.p v),some l=>match wm (Ng G) v l with
   |some r=>some (.p r,H,e)
   |none=>none
  |_,_=>none
 | .eW f B=>match gn s B with
  |some l=>some (.func f l,H,e)
  |none=>none
 | .call w f args=>match gn s args with
  |some l=>iU I w f l H e
  |none=>none
 | .eu w R args=>match s.ev R,gn s args with
  |some (.func f B),some l=>iU I w f (l++B) H e
  |some (.p (.func f B)),some l=>iU I w f (l++B.map aQ) H e
  |some (.kh f first),some l=>iU I w f (first++l) H e
  |_,_=>none
 | .isNil x=>match s.ev x with
  |some (.p (.z b))=>some (.p (.bool b),H,e)
  |some (.p (.slice _ (_::_)))=>some (.p (.bool false),H,e)
  |_=>none
 | .clear zero x=>match s.ev x with
  |some v=>xJ zero v H e
  |none=>none
 | .je zero x=>match s.ev x with
  |some v=>match v.cells,ah H e with
   |some A,none=>if A.length=zero.length then some (.ref e 1 0 1,(e,.bh false zero.length [A])::H,e+1)else none
   |_,_=>none
  |none=>none
 | .mH bytes z a x=>match s.ev a,s.ev x with
  |some v,some u=>re bytes z v u H e
  |_,_=>none
 | .jZ f args=>match gn s args with
  |some l=>match I.de f l H e with
   |some (v,M,L)=>open Classical in if Nu H e v M then some (v,M,L)else none
   |none=>none
  |none=>none
 | .fT=>match ah H e with
  |none=>some (.ptr e 0,(e,.map false (.strs 0 λ_=>none))::H,e+1)
  |some _=>none
 | .fO S zero x i=>match s.ev x,s.ev i with
  |some v,some (.p (.str k))=>match tV H v with
   |some (_,f)=>some (if S then .tuple [rR (Gc f k zero),.p (.bool (f k).isSome)]else rR (Gc f k zero),H,e)
   |none=>none
  |_,_=>none
 | .ew x i v=>match s.ev x,s.ev i,s.ev v with
  |some (.ptr id 0),some (.p (.str k)),some d=>match ah H id,FJ d with
   |some (.map false (.strs n f)),some y=>some (.tuple [],aH H id (.map false (.strs (if(f k).isSome then n else n+1) (fF f k (some y)))),e)
   |_,_=>none
  |_,_,_=>none
 | .oj x i=>match s.ev x,s.ev i with
  |some (.ptr id 0),some (.p (.str k))=>match ah H id with
   |some (.map false (.strs n f))=>some (.tuple [],aH H id (.map false (.strs (if(f k).isSome then n-1 else n) (fF f k none))),e)
   |_=>none
  |_,_=>none
 | .tX x=>match s.ev x with
  |some v=>match tV H v with
   |some (n,_)=>some (.p (.int .i64 n),H,e)
   |none=>none
  |none=>none
 | .oR f first=>match gn s first with
  |some l=>some (.kh f l,H,e)
  |none=>none
 | .kS t x=>match s.ev x with
  |some v=>match bE H dep v with
   |some p=>if(eR H dep v).isEmpty then some (.p (.iface t p),H,e)else none
   |none=>none
  |none=>none
def gd(g:Option (Nat×Bool))(e:Env):Option Bool:=
 match g with
 |none=>some true
 |some (k,a)=>match ah e k with
  |some (.p (.bool b))=>some (b==a)
  |some (.tuple [])=>some false
  |_=>none
def dz(e:Env):Option Nat->DV->Env
 |none,_=>e
 |some k,d=>fi e k d
noncomputable def cM (a:aI) (o:ai) (s:St):Option St:=
 match gd o.guard s.env with
 |none=>none
 |some false=>some {s with env:=dz s.env o.dst (.tuple [])}
 |some true=>match bg a o.op s with
  |none=>none
  |some (v,h,n)=>some {s with env:=dz s.env o.dst v,heap:=h,next:=n}
noncomputable def bR (a:aI):List ai->St->Option St
 |[],s=>some s
 |o::r,s=>match cM a o s with
  |some b=>bR a r b
  |none=>none
noncomputable def ox (a:aI):List (ai×List Nat)->St->Option St
 |[],s=>some s
 |(o,k)::r,s=>match cM a o s with
   |some b=>ox a r {b with env:=cT b.env k}
   |none=>none
def DV.flat:DV->Bool
 | .p _=>true
 | .agg a=>a.all λ| .p _=>true|_=>false
 |_=>false
def xB(e:Env):DO->Option DV
 | .t k=>ah e k
 | .c v=>some v
def oz(e:Env)(x:DO):Bool:=match xB e x with
 |some v=>v.flat
 |none=>false
def dQ(e:Env):dN->Option (Option Nat)
 | .load _ x| .fieldAddr _ x| .nilCheck x=>match xB e x with
  |some (.ptr j _)=>some (some j)
  |some (.p _)=>some none
  |_=>none
 | .indexAddr _ x _=>match xB e x with
  |some (.p _)=>some none
  |some (.ref j _ _ _)=>some (some j)
  |_=>none
 | .buildSlice _ _ a=>if a.all (λp=>oz e p.2)then some none else none
 | .call false _ args=>if args.all (oz e)then some none else none
 |_=>none
def sB(j:Nat):DV->Bool
 | .ref id _ _ _=>id !=j
 | .p _=>true
 |_=>false
def gV(e:Env)(j:Nat)(r:Option DV):dN->Bool
 | .store _ a _=>match xB e a with
  |some (.ptr i _)=>i !=j
  |_=>false
 | .append _ _ _ _| .je _ _| .mH _ _ _ _| .jZ _ _=>match r with
  |some v=>sB j v
  |none=>false
 |_=>false
def tf(e:Env):Option Nat->Option DV
 |some k=>ah e k
 |none=>none
def storeAt(e:Env):dN->Option Nat
 | .store _ a x=>match xB e a with
  |some (.ptr i _)=>some i
  |some (.du i _ _ _)=>if oz e x then some i else none
  |_=>none
 |_=>none
def uh(e:Env)(x y:ai):Bool:=
 (match dQ e x.op with
  |some none=>true
  |some (some j)=>gV e j (tf e y.dst) y.op
  |none=>false)||
 (match dQ e y.op with
  |some none=>true
  |some (some j)=>gV e j (tf e x.dst) x.op
  |none=>false)||
 (match storeAt e x.op,storeAt e y.op with
  |some i,some j=>i !=j
  |_,_=>false)
def jg(a:List (Nat×Nat))(b:List ai)(e:Env):Bool:=a.all λp=>match b[p.1]?,b[p.2]? with
 |some x,some y=>uh e x y
 |_,_=>false
def az(c:Nat):Heap->Heap
 |[]=>[]
 |(k,b)::r=>if k<c then(k,b)::az c r else az c r
def tr(i j k:Nat):Nat:=if k=i then j else if k=j then i else k
def mJ(i j:Nat):Nat->DV->Option DV
 |0,_=>none
 |_+1,.p v=>some (.p v)
 |n+1,.agg a=>match cl (mJ i j n) a with
  |some l=>some (.agg l)
  |none=>none
 |n+1,.tuple a=>match cl (mJ i j n) a with
  |some l=>some (.tuple l)
  |none=>none
 |_+1,.ref id b off k=>some (.ref (tr i j id) b off k)
 |_+1,.ptr id off=>some (.ptr (tr i j id) off)
 |_+1,.du id b k off=>some (.du (tr i j id) b k off)
 |n+1,.func f a=>match cl (mJ i j n) a with
  |some l=>some (.func f l)
  |none=>none
 |n+1,.kh f a=>match cl (mJ i j n) a with
  |some l=>some (.kh f l)
  |none=>none
def jL(i j:Nat):ca->Option ca
 | .var a b=>match cl (mJ i j dep) b with
  |some l=>some (.var a l)
  |none=>none
 | .row a c d=>some (.row a c d)
 |_=>none
def FG(i j:Nat):Heap->Option Heap
 |[]=>some []
 |(k,b)::r=>match jL i j b,FG i j r with
   |some a,some c=>some ((tr i j k,a)::c)
   |_,_=>none
def Fe(i j:Nat):Env->Option Env
 |[]=>some []
 |(k,d)::r=>match mJ i j dep d,Fe i j r with
   |some a,some b=>some ((k,a)::b)
   |_,_=>none
def NY(b i j:Nat)(s:St):Option St:=
 if b<=i/\b<=j/\i<s.next/\j<s.next then match Fe i j s.env,FG i j s.heap with
  |some e,some h=>some {s with env:=e,heap:=h}
  |_,_=>none
 else none
def Xm:DV->Option Nat
 | .ref id _ _ _=>some id
 | .ptr id _=>some id
 |_=>none
def wH(b:Nat):Nat->List Nat->St->Option St
 |_,[],s=>some s
 |k,x::r,s=>match ah s.env x with
  |some d=>match Xm d with
   |some id=>match NY b id (b+k) s with
    |some a=>wH b (k+1) r a
    |none=>none
   |none=>none
  |none=>none
def D9(b:Nat):Nat->Heap->Heap
 |0,H=>az b H
 |n+1,H=>match ah H (b+n)with
  |some x=>(b+n,x)::D9 b n H
  |none=>D9 b n H
def canon(b:Nat)(a:List Nat)(s:St):Option St:=match wH b 0 a s with
 |some c=>some {c with heap:=D9 b a.length c.heap}
 |none=>none
def tt(a:List ai)(l:List Nat):List ai:=l.filterMap (a[·]?)
open Classical in
noncomputable def vp (e:aI) (a:List ai) (b:List (Nat×Nat)) (f:List Nat) (c:List (List Nat)) (s:St):Option St:=match c with
 |[]=>none
 |l::r=>match bR e (tt a l) s with
  |some g=>if jg b a g.env=true then match canon s.next f g with
    |some h=>if∀i∈r,∃d,bR e (tt a i) s=some d/\jg b a d.env=true/\canon s.next f d=some h then some h else none
    |none=>none
   else none
  |none=>none
inductive Ex where
 |normal
 |exit (id:Nat)
 |ret
 |panic (v:PV)
 deriving Inhabited
def dieOf(a:aI)(o:ai)(s:St):Option (PV×Heap):=
 match gd o.guard s.env,o.op with
 |some true,.call true f args=>match gn s args with
  |some l=>a.dies f l s.heap s.next
  |none=>none
 |_,_=>none
noncomputable def oE (a:aI):List (ai×List Nat)->St->Option (Ex×St)
 |[],s=>some (.normal,s)
 |(o,k)::r,s=>match cM a o s with
   |some b=>oE a r {b with env:=cT b.env k}
   |none=>match dieOf a o s with
    |some (v,H)=>some (.panic v,{s with env:=[],heap:=H})
    |none=>none
noncomputable def lQ (b:aI) (pre:List ai) (a:ai) (post:List ai) (s:St):Option (Ex×St):=
 match bR b pre s with
 |none=>none
 |some c=>match cM b a c with
  |some d=>match bR b pre {s with heap:=d.heap,next:=d.next}with
   |some e=>open Classical in if e.env=c.env then match bR b post d with
     |some f=>some (.normal,f)
     |none=>none
    else none
   |none=>none
  |none=>match dieOf b a c with
   |some (v,H)=>some (.panic v,{s with env:=[],heap:=H})
   |none=>none
abbrev R:=Option (Ex×St)
def below(c:Nat):Nat->DV->Bool
 |0,_=>false
 |_+1,.p _=>true
 |n+1,.agg a|n+1,.tuple a|n+1,.func _ a|n+1,.kh _ a=>a.all (below c n)
 |_+1,.ref id _ _ _|_+1,.ptr id _|_+1,.du id _ _ _=>decide (id<c)
def ca.below(c:Nat):ca->Bool
 | .var _ a=>a.all (Dv.below c dep)
 | .row _ _ _=>true
 | .map _ (.ints b)=>b.all λe=>Dv.below c dep e.2
 | .map _ (.strs _ _)=>true
 | .bh _ _ d=>d.all λx=>x.all (Dv.below c dep)
def tG:Heap->Nat
 |[]=>0
 |(k,_)::r=>max (k+1) (tG r)
def jc(c:Nat)(s:St):Option St:=
 let h:=az c s.heap
 if s.env.all (λx=>below c dep x.2)&&h.all (λx=>x.2.below c)&&decide (c<=s.next)then some {s with heap:=h,next:=c}else none
def o0:List Nat->St->Option St
 |[],s=>some s
 |k::r,s=>match ah s.env k with
  |some d=>match bE s.heap dep d with
   |some p=>o0 r {s with env:=fi s.env k (aQ p),heap:=cY s.heap (eR s.heap dep d)}
   |none=>none
  |none=>none
def eU(g:DJ)(s:St):Option St:=
 match g with
 | .forget l=>some {s with env:=cT s.env l}
 | .free l=>some {s with env:=cT s.env l,heap:=cT s.heap (l.filterMap λk=>match ah s.env k with|some (.ptr id 0)=>some id|_=>none)}
 | .mark=>some {s with marks:=s.next::s.marks}
 | .reset=>match s.marks with
  |c::_=>jc c s
  |[]=>none
 | .lower=>match s.marks with
  |c::_=>jc (max c (tG s.heap)) s
  |[]=>none
 | .own a k=>match ah s.env k with
  |some (.p (.slice true []))=>some {s with env:=fi s.env k (.ref s.next 0 0 0),heap:=(s.next,.row false a [])::s.heap,next:=s.next+1}
  |some (.ref _ _ _ _)=>some s
  |_=>none
 | .pI a k off=>match ah s.env k with
  |some (.ptr id 0)=>match ah s.heap id with
   |some (.var false b)=>match b[off]? with
    |some (.p (.slice true []))=>some {s with heap:=aH ((s.next,.row false a [])::s.heap) id (.var false (b.set off (.ref s.next 0 0 0))),next:=s.next+1}
    |_=>none
   |_=>none
  |_=>none
 | .HN a k off=>match ah s.env k with
  |some (.ptr id 0)=>match ah s.heap id with
   |some (.var false b)=>match b[off]? with
    |some (.p (.slice true []))=>some {s with heap:=aH ((s.next,.bh false a [])::s.heap) id (.var false (b.set off (.ref s.next 0 0 0))),next:=s.next+1}
    |_=>none
   |_=>none
  |_=>none
 | .pure l=>o0 l s
 | .bump n=>some {s with next:=s.next+n}
def ky(a:St->R):Nat->St->R
 |0,_=>none
 |n+1,s=>match a s with
  |some (.normal,b)=>ky a n b
  |r=>r
def dW(f:St->R)(b:Nat)(hid:List Nat):List DV->St->R
 |[],s=>some (.normal,s)
 |d::r,s=>match f {s with env:=fi s.env b d,marks:=[]}with
  |some (.normal,a)=>dW f b hid r {a with env:=cT a.env hid,marks:=s.marks}
  |some (.ret,a)=>some (.ret,{a with marks:=s.marks})
  |some (.panic v,a)=>some (.panic v,{a with marks:=s.marks})
  |_=>none
def jR(k:ByteArray)(y:MV):DV:=.tuple [.p (.str k),rR y.pv]
def lR(r:Nat×Int):DV:=.tuple [.p (.bool true),.p (.int .i64 r.1),.p (.int .i32 r.2)]
def runesFrom(s:ByteArray):Nat->Nat->List (Nat×Int)
 |0,_=>[]
 |n+1,pos=>if pos<s.size then(pos,(Utf8.decode s pos).1)::runesFrom s n (pos+(Utf8.decode s pos).2)else[]
def eX(f:SM)(l:List (ByteArray×MV)):Prop:=(l.map (·.1)).Nodup/\∀k y,(k,y)∈l↔f k=some y
def zJ(s:St)(m:Nat)(hid:List Nat):Option SM:=
 match ah s.env m with
 |some (.p (.map _ f))=>if hid.all (λt=>(ah s.env t).isNone)=true then some f else none
 |_=>none
def kO(f g:St->R)(a:Nat)(hid:List Nat)(l:List (ByteArray×MV))(s:St):R:=
 match dW f a hid (l.map λe=>jR e.1 e.2) s with
 |some (.normal,b)=>g b
 |x=>x
noncomputable def mS (f:St->R) (g:St->R) (s:St) (m a:Nat) (hid:List Nat):R:=
 match zJ s m hid with
 |some c=>open Classical in if b:(∃l,eX c l)/\∃r,∀l,eX c l->kO f g a hid l s=some r then some b.2.choose else none
 |none=>none
def ve{f g:St->R}{s:St}{m a:Nat}{hid:List Nat}{r:Ex×St}(h:mS f g s m a hid=some r):∃c,zJ s m hid=some c/\(∃l,eX c l)/\∀l,eX c l->kO f g a hid l s=some r:=by
 unfold mS at h;split at h
 .rename_i c d;split at h
  .rename_i b;simp only[aw]at h;subst h;exact⟨c,d,b.1,b.2.choose_spec⟩
  .cases h
 .cases h
def AY{f g:St->R}{s:St}{m a:Nat}{hid:List Nat}{r:Ex×St}{c:SM}(i:zJ s m hid=some c)(b:∃l,eX c l)(d:∀l,eX c l->kO f g a hid l s=some r):mS f g s m a hid=some r:=by
 have e:(∃l,eX c l)/\∃r,∀l,eX c l->kO f g a hid l s=some r:=⟨b,r,d⟩;unfold mS;rw[i];simp only[dif_pos e];obtain⟨l,b⟩:=b;have h:=e.2.choose_spec l b;rw[d l b]at h;exact h.symm
noncomputable def eO (b:aI) (a:List ai) (k:St->R) (s:St):R:=match bR b a s with
 |some c=>k c
 |none=>none
noncomputable def aN (h:aI) (n:Nat):aC->St->R
 | .skip,s=>some (.normal,s)
 | .region _ d i,s=>match bR h d s with
  |some f=>some (.normal,{f with env:=cT f.env i})
  |none=>none
 | .seq a b,s=>match aN h n a s with
  |some (.normal,f)=>aN h n b f
  |r=>r
 | .cond c x y,s=>match s.ev c with
  |some (.p (.bool true))=>aN h n x s
  |some (.p (.bool false))=>aN h n y s
  |_=>none
 | .block id c,s=>match aN h n c s with
  |some (.exit o,f)=>if o=id then some (.normal,f)else some (.exit o,f)
  |r=>r
 | .loop c,s=>ky (aN h n c) n s
 | .exit id,s=>some (.exit id,s)
 | .ret,s=>some (.ret,s)
 | .ghost g c,s=>match eU g s with
  |some f=>aN h n c f
  |none=>none
 | .after c l,s=>match aN h n c s with
  |some (.normal,f)=>match eU (.free l) f with
   |some u=>some (.normal,u)
   |none=>none
  |r=>r
 | .aT _ d,s=>match ox h d s with
  |some f=>some (.normal,f)
  |none=>none
 | .iI j d i,s=>match bR h d s with
  |some f=>if jg j d f.env then some (.normal,{f with env:=cT f.env i})else none
  |none=>none
 | .ob j _ p d w i,s=>match vp h d j w p s with
  |some f=>some (.normal,{f with env:=cT f.env i})
  |none=>none
 | .aS d,s=>oE h d s
 | .j2 pre q post i,s=>match lQ h pre q post s with
  |some (e,f)=>some (e,{f with env:=cT f.env i})
  |none=>none
 | .panic d x,s=>match bR h d s with
  |some f=>match f.ev x with
   |some (.p (.iface t v))=>some (.panic (.iface t v),{f with env:=[]})
   |_=>none
  |none=>none
 | .forIn str m hid d x y z,s=>
  match str,hid with
  |true,A::k::B=>match ah s.env m with
   |some (.p (.str b))=>if hid.all (λt=>(ah s.env t).isNone)=true then
     match dW (eO h d (aN h n x)) k hid ((runesFrom b (b.size+1) 0).map lR) s with
     |some (.normal,f)=>match aN h n y f with
      |some (.normal,u)=>aN h n z u
      |r=>r
     |r=>r
    else none
   |_=>none
  |false,A::k::B=>match mS (eO h d (aN h n x)) (aN h n y) s m k hid with
   |some (.normal,f)=>aN h n z f
   |r=>r
  |_,_=>none
 | .native _ _ _,_=>none
def sN(s:St):gm->Option DV
 | .tmp t=>ah s.env t
 | .cell t n=>match ah s.env t with
  |some (.ptr id a)=>match ah s.heap id with
   |some (.var _ b)=>match dR b a n with
    |some l=>some (.agg l)
    |none=>none
   |_=>none
  |_=>none
def fy(s:St)(a:List gm):Option DV:=
 match cl (sN s) a with
 |some [v]=>some v
 |some b=>some (.tuple b)
 |none=>none
def aj:Nat->List DV->Env
 |_,[]=>[]
 |k,v::r=>(k,v)::aj (k+1) r
mutual
def GP:PV->List Int
 | .slice _ a=>aR a
 |_=>[]
def w9:List PV->List Int
 |[]=>[]
 |x::r=>GP x++w9 r
def aR:List (List PV)->List Int
 |[]=>[]
 |r::a=>(match r with| .int _ n::_=>[n]|_=>[])++w9 r++aR a
end
def ji(q:Int->Option Bool):Nat->List Int->Option (Int×Nat×Bool)
 |_,[]=>some (0,0,false)
 |k,n::r=>match q n with
  |some true=>some (n,k,true)
  |some false=>ji q (k+1) r
  |none=>none
def rz(a:List PV)(H:Heap)(b:Nat):Heap:=(b+1,.var false [.p (.bool false)])::(b,.var false (a.map .p))::H
def pU(c f:List PV)(t:Bool)(e:Heap)(d:Nat):Out:=
 match ah e d,ah e (d+1)with
 |some (.var false a),some (.var false b)=>if a.length=c.length/\b.length=1/\f.length=c.length/\(az d e).all (λx=>x.2.below d)=true then some (.tuple [.agg (f.map .p),.p (.bool t)],az d e,d)else none
 |_,_=>none
def rG(t:Nat)(a:List PV)(e:aI)(args:List DV)(H:Heap)(c:Nat):Option (DV×Heap×Nat):=
 match args with
 |[_,.func f b]=>match e.de f b (rz a H c) (c+2)with
  |some (_,d,_)=>pU a a false d c
  |none=>match e.dies f b (rz a H c) (c+2)with
   |some (.iface g (.agg h),d)=>if g=t then pU a h true d c else none
   |_=>none
 |_=>none
def iO(a:aI)(c:FuncId)(n:Int):Option Bool:=
 match a.pure c [.int .i64 n]with
 |some (.bool b)=>some b
 |_=>none
mutual
def rP:PV->Bool
 | .slice _ a=>dO a&&decide (a.length<=4611686018427387904)
 |_=>true
def yQ:List PV->Bool
 |[]=>true
 |x::r=>rP x&&yQ r
def dO:List (List PV)->Bool
 |[]=>true
 |r::a=>(match r with|[.int .i64 _,.int .i64 _,.str _,.slice _ _]=>true|_=>false)&&yQ r&&dO a
end
def lN:∀(a b:List (List PV)),aR (a++b)=aR a++aR b
 |[],b=>by simp[aR]
 |x::a,b=>by simp only[List.cons_append,aR,lN a b,List.append_assoc]
def nF:∀(a b:List (List PV)),dO (a++b)=(dO a&&dO b)
 |[],b=>by simp[dO]
 |x::a,b=>by simp only[List.cons_append,dO,nF a b,Bool.and_assoc]
def vY(q:Int->Option Bool)(f:Bool)(a:List (List PV)):Option (Int×Nat×Bool):=
 if rP (.slice f a)=true/\(aR a).length<=4611686018427387904/\(aR a).all (λo=>(q o).isSome)=true then ji q 0 (aR a)else none
def qQ(j l m:FuncId)(a:aI)(args:List DV)(H:Heap)(h:Nat):Option (DV×Heap×Nat):=
 match args with
 |[.agg [c,d,g]]=>match cl (bE H dep) [c,d,g]with
  |some i=>match a.pure j [.agg i]with
   |some (.int .i64 e)=>if e=0 then match a.pure l [.agg i]with
     |some (.slice f o)=>match vY (iO a m) f o with
      |some (n,k,b)=>some (.tuple [.p (.int .i64 n),.p (.int .i64 k),.p (.bool b)],cY H ([c,d,g].flatMap (eR H dep)),h)
      |none=>none
     |_=>none
    else some (.tuple [.p (.int .i64 0),.p (.int .i64 0),.p (.bool false)],cY H ([c,d,g].flatMap (eR H dep)),h)
   |_=>none
  |none=>none
 |_=>none
def kZ:Nat->List Nat->List PV->aI->List DV->Heap->Nat->Option (DV×Heap×Nat)
 |0,[t],z=>rG t z
 |1,[a,b,c],_=>qQ a b c
 |_,_,_=>λ_ _ _ _=>none
def gU:aC->Option (aI->List DV->Heap->Nat->Option (DV×Heap×Nat))
 | .native k a z=>some (kZ k a z)
 |_=>none
def pz(b:Bool)(a:Nat)(v:DV)(s:St):Out:=
 if b then(if below a dep v&&(az a s.heap).all (λx=>x.2.below a)&&decide (a<=s.next)then some (v,az a s.heap,a)else none)
 else some (v,s.heap,s.next)
noncomputable def jH (c:aI) (n:Nat) (a:au) (args:List DV) (H:Heap) (b:Nat):Out:=
 match gU a.body with
 |some run=>run c args H b
 |none=>if args.length=a.nparams then
  match aN c n a.body {env:=aj 0 args,heap:=H,next:=b,marks:=[b]}with
  |some (.normal,s)|some (.ret,s)=>match fy s a.results with
   |some v=>pz a.rs b v s
   |none=>none
  |_=>none
 else none
noncomputable def ss (c:aI) (n:Nat) (b:au) (args:List DV) (H:Heap) (a:Nat):Option (PV×Heap):=
 if args.length=b.nparams then
  match aN c n b.body {env:=aj 0 args,heap:=H,next:=a,marks:=[a]}with
  |some (.panic v,s)=>if(az a s.heap).all (λx=>x.2.below a)&&decide (a<=s.next)then some (v,az a s.heap)else none
  |_=>none
 else none
noncomputable def prun (a:aI) (n:Nat) (b:au) (args:List PV):Option PV:=
 match jH a n b (args.map aQ) [] 0 with
 |some (v,h,_)=>bE h dep v
 |none=>none
noncomputable def dG (A:FuncId->Option au) (X:aI):Nat->aI
 |0=>
  {pure:=λf args=>match A f with
    |some _=>none
    |none=>X.pure f args
   de:=λf args H a=>match A f with
    |some _=>none
    |none=>X.de f args H a
   dies:=λ_ _ _ _=>none}
 |n+1=>
  {pure:=λf args=>match A f with
    |some b=>prun (dG A X n) (n+1) b args
    |none=>X.pure f args
   de:=λf args H a=>match A f with
    |some b=>jH (dG A X n) (n+1) b args H a
    |none=>X.de f args H a
   dies:=λf args H a=>match A f with
    |some b=>ss (dG A X n) (n+1) b args H a
    |none=>none}
end
end Go.Dv
