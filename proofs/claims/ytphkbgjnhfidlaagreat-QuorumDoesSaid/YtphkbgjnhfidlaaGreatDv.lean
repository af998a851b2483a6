/-
  A data-level language and its interpreter: pure values, frames' values with references into the call's own blocks, an annotated code, and an executable semantics. Definitions only; nothing of a program.
-/
import Derived.Calls
import Derived.Orders
import Derived.Below
import Derived.KernelRfl
set_option linter.unusedVariables false
set_option linter.unusedSimpArgs false
namespace Go.Dv

structure Below (B : Nat) (w w' : World) : Prop extends Go.RowKit.Below B w w' where
  drawn : w.drawn ≤ w'.drawn

theorem Below.refl (B : Nat) (w : World) : Below B w w := ⟨Go.RowKit.Below.refl B w, Nat.le_refl _⟩
theorem Below.trans {B : Nat} {a b c : World} (h : Below B a b) (k : Below B b c) : Below B a c := ⟨h.toBelow.trans k.toBelow, Nat.le_trans h.drawn k.drawn⟩
theorem Below.mono {B B' : Nat} {w w' : World} (h : Below B w w') (hB : B' ≤ B) : Below B' w w' := ⟨h.toBelow.mono hB, h.drawn⟩
theorem Below.drew {B : Nat} {a w : World} (h : Below B a w) : Below B a w.drew := ⟨h.toBelow.drew, Nat.le_trans h.drawn (Nat.le_succ _)⟩
theorem Below.alloc {B : Nat} {a w : World} (h : Below B a w) (hB : B ≤ w.heap.size) (o : Obj) : Below B a (w.alloc o) := ⟨h.toBelow.alloc hB o, h.drawn⟩

inductive PV where
  | int (k : IntKind) (n : Int)
  | bool (b : Bool)
  | str (s : ByteArray)
  | slice (full : Bool) (xs : List (List PV))
  | vptr (cs : List PV)
  | func (f : FuncId) (caps : List PV)
  | agg (cs : List PV)
  | tuple (vs : List PV)
  | undef
  | z (nil : Bool)
  deriving Inhabited

inductive DV where
  | p (v : PV)
  | agg (cs : List DV)
  | tuple (vs : List DV)
  | ref (id ver off n : Nat)
  | ptr (id off : Nat)
  | eptr (id ver i off : Nat)
  | func (f : FuncId) (caps : List DV)
  deriving Inhabited

def PV.isCell : PV → Bool
  | .agg _ | .tuple _ | .undef => false
  | _ => true

def DV.isCell : DV → Bool
  | .p v => v.isCell
  | .agg _ | .tuple _ => false
  | _ => true

def ofPV1 : PV → DV
  | .agg cs => .agg (cs.map .p)
  | v => .p v

def ofPV : PV → DV
  | .tuple vs => .tuple (vs.map ofPV1)
  | .agg cs => .agg (cs.map .p)
  | v => .p v

inductive Blk where
  | var (fz : Bool) (cells : List DV)
  | row (fz : Bool) (sz : Nat) (xs : List (List PV))
  | map (fz : Bool) (kv : List (Int × PV))
  deriving Inhabited

abbrev Heap := List (Nat × Blk)
abbrev Env := List (Nat × DV)

def aget {α : Type} : List (Nat × α) → Nat → Option α
  | [], _ => none
  | (k, v) :: r, i => if k == i then some v else aget r i

def eset : Env → Nat → DV → Env
  | [], i, d => [(i, d)]
  | (k, v) :: r, i, d => if k == i then (i, d) :: r else if i < k then (i, d) :: (k, v) :: r else (k, v) :: eset r i d

def hset : Heap → Nat → Blk → Heap
  | [], _, _ => []
  | (k, v) :: r, i, d => if k == i then (k, d) :: r else (k, v) :: hset r i d

def adel {α : Type} : List (Nat × α) → Nat → List (Nat × α)
  | [], _ => []
  | (k, v) :: r, i => if k == i then adel r i else (k, v) :: adel r i

def adels {α : Type} (l : List (Nat × α)) : List Nat → List (Nat × α)
  | [] => l
  | i :: r => adels (adel l i) r

def mapO {α β : Type} (f : α → Option β) : List α → Option (List β)
  | [] => some []
  | a :: r => match f a with
    | none => none
    | some b => match mapO f r with
      | none => none
      | some bs => some (b :: bs)

def pur (H : Heap) : Nat → DV → Option PV
  | 0, _ => none
  | _ + 1, .p v => some v
  | n + 1, .agg cs => match mapO (pur H n) cs with
    | some l => some (.agg l)
    | none => none
  | n + 1, .tuple cs => match mapO (pur H n) cs with
    | some l => some (.tuple l)
    | none => none
  | _ + 1, .ref id ver off k => match aget H id with
    | some (.row _ _ xs) => if ver = xs.length ∧ off + k ≤ xs.length then some (.slice false ((xs.drop off).take k)) else none
    | _ => none
  | n + 1, .ptr id off => match aget H id with
    | some (.var _ cs) => match mapO (pur H n) (cs.drop off) with
      | some l => some (.vptr l)
      | none => none
    | _ => none
  | _ + 1, .eptr id ver i off => match aget H id with
    | some (.row _ _ xs) => if ver = xs.length then match xs[i]? with
        | some x => some (.vptr (x.drop off))
        | none => none
      else none
    | _ => none
  | n + 1, .func f cs => match mapO (pur H n) cs with
    | some l => some (.func f l)
    | none => none

def tch (H : Heap) : Nat → DV → List Nat
  | 0, _ => []
  | _ + 1, .p _ => []
  | n + 1, .agg cs => cs.flatMap (tch H n)
  | n + 1, .tuple cs => cs.flatMap (tch H n)
  | _ + 1, .ref id _ _ _ => [id]
  | n + 1, .ptr id off => id :: match aget H id with
    | some (.var _ cs) => (cs.drop off).flatMap (tch H n)
    | _ => []
  | _ + 1, .eptr id _ _ _ => [id]
  | n + 1, .func _ cs => cs.flatMap (tch H n)

def dep : Nat := 5

def Blk.freeze : Blk → Blk
  | .var _ cs => .var true cs
  | .row _ sz xs => .row true sz xs
  | .map _ kv => .map true kv

def frz1 : Heap → Nat → Heap
  | [], _ => []
  | (k, b) :: r, i => if k == i then (k, b.freeze) :: r else (k, b) :: frz1 r i

def frz (H : Heap) : List Nat → Heap
  | [] => H
  | i :: r => frz (frz1 H i) r

structure St where
  env : Env
  heap : Heap
  next : Nat
  marks : List Nat
  deriving Inhabited

inductive DO where
  | t (k : Nat)
  | c (v : DV)
  deriving Inhabited

def St.ev (s : St) : DO → Option DV
  | .t k => aget s.env k
  | .c v => some v

inductive DOp where
  | move (x : DO)
  | pick (c a b : DO)
  | alloc (zero : List PV)
  | box (x : DO)
  | build (zero : List PV) (parts : List (Nat × Nat × DO))
  | buildSlice (zero : List PV) (len : Nat) (parts : List (Nat × DO))
  | load (n : Option Nat) (a : DO)
  | store (n : Nat) (a x : DO)
  | nilCheck (x : DO)
  | bin (op : BinOp) (x y : DO)
  | eqb (neg : Bool) (x y : DO)
  | eqagg (neg : Bool) (offs : List (Nat × Nat)) (x y : DO)
  | un (op : UnOp) (x : DO)
  | conv (k : IntKind) (x : DO)
  | convS (x : DO)
  | slice (sz : Nat) (x : DO) (lo hi mx : Option DO)
  | sliceS (x : DO) (lo hi : Option DO)
  | fieldAddr (off : Nat) (x : DO)
  | field (off : Nat) (n : Option Nat) (x : DO)
  | indexAddr (sz : Nat) (x i : DO)
  | arrAddr (len sz : Nat) (x i : DO)
  | index (x i : DO)
  | extract (x : DO) (i : Nat)
  | makeSlice (zero : List PV) (bytes : Nat) (l c : DO)
  | append (bytes sz : Nat) (s x : DO)
  | copy (sz : Nat) (d s : DO)
  | len (x : DO)
  | lenS (x : DO)
  | minmax (isMax : Bool) (x : DO) (xs : List DO)
  | mkfunc (f : FuncId) (caps : List DO)
  | call (byref : Bool) (f : FuncId) (args : List DO)
  | callv (byref : Bool) (fv : DO) (args : List DO)
  | isNil (x : DO)
  | clear (zero : List PV) (x : DO)
  | cap (x : DO)
  | makeMap
  | arrIndex (len : Nat) (x i : DO)
  | lookup (zero : PV) (x i : DO)
  | mapSet (x i v : DO)
  deriving Inhabited

structure DOper where
  dst : Option Nat
  op : DOp
  guard : Option (Nat × Bool)
  preds : List Nat
  deriving Inhabited

def DOper.o (k : Nat) (x : DOp) : DOper := ⟨some k, x, none, []⟩
def DOper.u (x : DOp) : DOper := ⟨none, x, none, []⟩
def DOper.g (k j : Nat) (b : Bool) (x : DOp) (l : List Nat) : DOper := ⟨some k, x, some (j, b), l⟩
def DO.i (n : Int) : DO := .c (.p (.int .i64 n))
def DO.b (t : Bool) : DO := .c (.p (.bool t))

inductive Ghost where
  | forget (slots : List Nat)
  | free (slots : List Nat)
  | freeze (slots : List Nat)
  | mark
  | reset
  | lower
  | own (sz slot : Nat)
  | ownIn (sz slot off : Nat)
  | pure (slots : List Nat)
  deriving Inhabited

inductive ACode where
  | skip
  | region (draw : Bool) (ops : List DOper) (kill : List Nat)
  | seq (a b : ACode)
  | cond (c : DO) (thn els : ACode)
  | block (id : Nat) (body : ACode)
  | loop (body : ACode)
  | exit (id : Nat)
  | ret
  | ghost (g : Ghost) (c : ACode)
  | scope (c : ACode)
  | regionS (seps : List (Nat × Nat)) (ops : List DOper) (kill : List Nat)
  | dead
  | regionK (draw : Bool) (ops : List (DOper × List Nat))
  deriving Inhabited

inductive AResult where
  | tmp (t : Nat)
  | cell (t : Nat) (n : Nat)
  deriving Inhabited

structure AFunc where
  ntmps : Nat
  nparams : Nat
  results : List AResult
  body : ACode
  deriving Inhabited

structure CallF where
  pure : FuncId → List PV → Option PV
  byref : FuncId → List DV → Heap → Nat → Option (DV × Heap × Nat)

def noCalls : CallF := ⟨fun _ _ => none, fun _ _ _ _ => none⟩

/-! ### operations -/

def bytesCmp (op : BinOp) (x y : ByteArray) : Option PV :=
  let eq := x.toList == y.toList
  let lt := Op.bytesLess x.toList y.toList
  match op with
  | .add => if x.size + y.size ≤ 140737488355328 then some (.str (x ++ y)) else none
  | .eql => some (.bool eq)
  | .neq => some (.bool !eq)
  | .lss => some (.bool lt)
  | .leq => some (.bool (lt || eq))
  | .gtr => some (.bool !(lt || eq))
  | .geq => some (.bool !lt)
  | _ => none

def intBin (op : BinOp) (k : IntKind) (a b : Int) : Option PV :=
  match op with
  | .add => some (.int k (k.wrap (a + b)))
  | .sub => some (.int k (k.wrap (a - b)))
  | .mul => some (.int k (k.wrap (a * b)))
  | .quo => if b = 0 then none else some (.int k (k.wrap (a.tdiv b)))
  | .rem => if b = 0 then none else some (.int k (a.tmod b))
  | .eql => some (.bool (a == b))
  | .neq => some (.bool (a != b))
  | .lss => some (.bool (decide (a < b)))
  | .leq => some (.bool (decide (a ≤ b)))
  | .gtr => some (.bool (decide (a > b)))
  | .geq => some (.bool (decide (a ≥ b)))
  | .and => some (.int k (bits .and k a b))
  | .or => some (.int k (bits .or k a b))
  | .xor => some (.int k (bits .xor k a b))
  | _ => none

def binPV (op : BinOp) : DV → DV → Option PV
  | .p (.int k a), .p (.int k' b) =>
    match op with
    | .shl => if b < 0 then none else some (.int k (k.wrap (a * 2 ^ min b.toNat k.bits)))
    | .shr => if b < 0 then none else some (.int k (a.fdiv (2 ^ min b.toNat k.bits)))
    | _ => if k = k' then intBin op k a b else none
  | .p (.str a), .p (.str b) => bytesCmp op a b
  | _, _ => none

def eqCell : Nat → DV → DV → Option Bool
  | 0, .p (.int k a), .p (.int k' b) => if k = k' then some (a == b) else none
  | 1, .p (.bool a), .p (.bool b) => some (a == b)
  | 2, .p (.str a), .p (.str b) => some (a.toList == b.toList)
  | _, _, _ => none

def eqCells (xs ys : List DV) : List (Nat × Nat) → Option Bool
  | [] => some true
  | (o, k) :: r => match xs[o]?, ys[o]? with
    | some x, some y => match eqCell k x y with
      | some true => eqCells xs ys r
      | some false => some false
      | none => none
    | _, _ => none

def unPV (op : UnOp) : DV → Option PV
  | .p (.bool b) => match op with
    | .not => some (.bool !b)
    | _ => none
  | .p (.int k n) => match op with
    | .neg => some (.int k (k.wrap (0 - n)))
    | .xor => some (.int k (bits .xor k (if k.signed then -1 else k.max) n))
    | _ => none
  | _ => none

def DV.cells : DV → Option (List DV)
  | .agg cs => some cs
  | d => if d.isCell then some [d] else none

def PV.cellsOf : PV → Option (List PV)
  | .agg cs => some cs
  | d => if d.isCell then some [d] else none

def takeDrop {α : Type} (cs : List α) (off n : Nat) : Option (List α) :=
  let l := (cs.drop off).take n
  if l.length = n then some l else none

def putAt {α : Type} (l : List α) (off : Nat) (xs : List α) : List α := l.take off ++ xs ++ l.drop (off + xs.length)

def fillAgg (cells : List DV) : List (Nat × Nat × DV) → Option (List DV)
  | [] => some cells
  | (off, size, v) :: r => match v.cells with
    | some cs => if cs.length = size ∧ off + size ≤ cells.length then fillAgg (putAt cells off cs) r else none
    | none => none

def evParts (s : St) : List (Nat × Nat × DO) → Option (List (Nat × Nat × DV))
  | [] => some []
  | (o, n, x) :: r => match s.ev x, evParts s r with
    | some v, some l => some ((o, n, v) :: l)
    | _, _ => none

def evs (s : St) : List DO → Option (List DV)
  | [] => some []
  | x :: r => match s.ev x, evs s r with
    | some v, some l => some (v :: l)
    | _, _ => none

def litElems (H : Heap) (sz : Nat) : Nat → List (Nat × DV) → Option (List (List PV))
  | _, [] => some []
  | k, (i, v) :: r => if i = k then match pur H dep v with
      | some p => match p.cellsOf with
        | some cs => if cs.length = sz then match litElems H sz (k + 1) r with
            | some l => some (cs :: l)
            | none => none
          else none
        | none => none
      | none => none
    else none

def evIx (s : St) : List (Nat × DO) → Option (List (Nat × DV))
  | [] => some []
  | (o, x) :: r => match s.ev x, evIx s r with
    | some v, some l => some ((o, v) :: l)
    | _, _ => none

def asI : DV → Option Int
  | .p (.int _ n) => some n
  | _ => none

def evI (s : St) : Option DO → Int → Option Int
  | none, d => some d
  | some x, _ => match s.ev x with
    | some v => asI v
    | none => none

def evB (s : St) : Option DO → Option (Option Int)
  | none => some none
  | some x => match s.ev x with
    | some v => (asI v).map some
    | none => none

def sliceStr (b : ByteArray) (lo : Int) (hi : Option Int) : Option DV :=
  let h := hi.getD b.size
  if 0 ≤ lo ∧ lo ≤ h ∧ h ≤ b.size then some (.p (.str (b.extract lo.toNat h.toNat))) else none

def allSz (sz : Nat) (xs : List (List PV)) : Bool := xs.all fun y => y.length == sz

def sliceDV (H : Heap) (sz : Nat) (x : DV) (lo : Int) (hi mx : Option Int) : Option (DV × List Nat) :=
  match x with
  | .p (.slice full xs) =>
    let h := hi.getD xs.length
    let m := mx.getD xs.length
    if allSz sz xs = true ∧ 0 ≤ lo ∧ lo ≤ h ∧ h ≤ m ∧ m ≤ xs.length then
      some (.p (.slice (match mx with | some _ => decide (h = m) | none => full && decide (h = m)) ((xs.take h.toNat).drop lo.toNat)), [])
    else none
  | .ref id ver off n => match aget H id with
    | some (.row _ sz' xs) =>
      let h := hi.getD n
      let m := mx.getD n
      if sz' = sz ∧ ver = xs.length ∧ off + n ≤ xs.length ∧ 0 ≤ lo ∧ lo ≤ h ∧ h ≤ m ∧ m ≤ n then
        match mx with
        | some _ => if h = m then some (.p (.slice true (((xs.drop off).take h.toNat).drop lo.toNat)), if lo = h then [] else [id]) else none
        | none => some (.ref id ver (off + lo.toNat) (h.toNat - lo.toNat), [])
      else none
    | _ => none
  | _ => none

def mget : List (Int × PV) → Int → Option PV
  | [], _ => none
  | (k, v) :: r, i => if k = i then some v else mget r i

def mset : List (Int × PV) → Int → PV → List (Int × PV)
  | [], i, p => [(i, p)]
  | (k, v) :: r, i, p => if k = i then (k, p) :: r else (k, v) :: mset r i p

def maxBytes : Nat := 140737488355328

def elemsOf (H : Heap) : DV → Option (List (List PV) × List Nat)
  | .p (.slice _ xs) => some (xs, [])
  | .p (.z _) => some ([], [])
  | .ref id ver off n => match aget H id with
    | some (.row _ _ xs) => if ver = xs.length ∧ off + n ≤ xs.length then some ((xs.drop off).take n, []) else none
    | _ => none
  | _ => none

def foldO {α β : Type} (f : β → α → Option β) : β → List α → Option β
  | b, [] => some b
  | b, a :: r => match f b a with
    | some b' => foldO f b' r
    | none => none

def mm2 (isMax : Bool) : PV → DV → Option PV
  | .int k a, .p (.int k' b) => if k = k' then some (.int k (if isMax then (if b > a then b else a) else (if b < a then b else a))) else none
  | .str a, .p (.str b) => match bytesCmp (if isMax then .geq else .leq) a b with
    | some (.bool t) => some (.str (if t then a else b))
    | _ => none
  | _, _ => none

def PV.plain : PV → Bool
  | .int _ _ | .bool _ | .str _ => true
  | .tuple vs => vs.all fun | .int _ _ | .bool _ | .str _ => true | _ => false
  | _ => false

abbrev Out := Option (DV × Heap × Nat)

def callD (cf : CallF) (byref : Bool) (f : FuncId) (args : List DV) (H : Heap) (nx : Nat) : Out :=
  if byref then cf.byref f args H nx
  else match mapO (pur H dep) args with
    | some ps => match cf.pure f ps with
      | some r => some (ofPV r, if r.plain then H else frz H (args.flatMap (tch H dep)), nx)
      | none => none
    | none => none

def isPtr (H : Heap) : DV → Bool
  | .ptr id _ => match aget H id with
    | some (.var _ _) => true
    | _ => false
  | .eptr id ver i _ => match aget H id with
    | some (.row _ _ xs) => decide (ver = xs.length) && decide (i < xs.length)
    | _ => false
  | .p (.vptr _) => true
  | _ => false

def appendDV (bytes sz : Nat) (ys : List (List PV)) (v : DV) (H : Heap) (nx : Nat) : Out :=
  match v with
  | .p (.slice full xs) =>
    if full && allSz sz xs && decide ((xs.length + ys.length) * bytes ≤ maxBytes) && decide (xs.length + ys.length ≤ maxBytes) then
      if ys.isEmpty && !xs.isEmpty then some (v, H, nx)
      else some (.ref nx (xs.length + ys.length) 0 (xs.length + ys.length), (nx, .row false sz (xs ++ ys)) :: H, nx + 1)
    else if ys.isEmpty then some (v, H, nx) else none
  | .ref id ver off n => match aget H id with
    | some (.row false sz' xs) =>
      if ver = xs.length ∧ off = 0 ∧ n = xs.length ∧ sz' = sz ∧ (xs.length + ys.length) * bytes ≤ maxBytes ∧ xs.length + ys.length ≤ maxBytes then
        some (.ref id (xs.length + ys.length) 0 (xs.length + ys.length), hset H id (.row false sz (xs ++ ys)), nx)
      else none
    | _ => none
  | _ => none

def copyDV (sz : Nat) (ys : List (List PV)) (v : DV) (H : Heap) (nx : Nat) : Out :=
  match v with
  | .ref id ver off n => match aget H id with
    | some (.row false sz' xs) =>
      if ver = xs.length ∧ off + n ≤ xs.length ∧ sz' = sz then
        some (.p (.int .i64 (min ys.length n : Nat)), hset H id (.row false sz (putAt xs off (ys.take n))), nx)
      else none
    | _ => none
  | .p (.slice _ xs) => if xs.isEmpty || ys.isEmpty then some (.p (.int .i64 0), H, nx) else none
  | _ => none

def clearDV (zero : List PV) (v : DV) (H : Heap) (nx : Nat) : Out :=
  match v with
  | .ref id ver off n => match aget H id with
    | some (.row false sz' xs) =>
      if ver = xs.length ∧ off + n ≤ xs.length ∧ sz' = zero.length then
        some (.tuple [], hset H id (.row false zero.length (putAt xs off (List.replicate n zero))), nx)
      else none
    | _ => none
  | .p (.slice _ xs) => if xs.isEmpty then some (.tuple [], H, nx) else none
  | _ => none

def dop (cf : CallF) (d : DOp) (s : St) : Out :=
  let H := s.heap
  let nx := s.next
  match d with
  | .move x => match s.ev x with
    | some v => some (v, H, nx)
    | none => none
  | .pick c a b => match s.ev c with
    | some (.p (.bool t)) => match s.ev (if t then a else b) with
      | some v => some (v, H, nx)
      | none => none
    | _ => none
  | .alloc zero => match aget H nx with
    | none => some (.ptr nx 0, (nx, .var false (zero.map .p)) :: H, nx + 1)
    | some _ => none
  | .box x => match s.ev x with
    | some v => match v.cells, aget H nx with
      | some cs, none => some (.ptr nx 0, (nx, .var false cs) :: H, nx + 1)
      | _, _ => none
    | none => none
  | .build zero parts => match evParts s parts with
    | some l => match fillAgg (zero.map .p) l with
      | some cs => some (.agg cs, H, nx)
      | none => none
    | none => none
  | .buildSlice zero len parts => match evIx s parts with
    | some l => match litElems H zero.length 0 l with
      | some xs => some (.p (.slice true (xs ++ List.replicate (len - xs.length) zero)), frz H ((l.map (·.2)).flatMap (tch H dep)), nx)
      | none => none
    | none => none
  | .load n a => match s.ev a with
    | some (.ptr id off) => match aget H id with
      | some (.var _ cs) => match n with
        | none => match cs[off]? with
          | some v => some (v, H, nx)
          | none => none
        | some n => match takeDrop cs off n with
          | some l => some (.agg l, H, nx)
          | none => none
      | _ => none
    | some (.p (.vptr cs)) => match n with
        | none => match cs[0]? with
          | some v => some (.p v, H, nx)
          | none => none
        | some n => match takeDrop cs 0 n with
          | some l => some (.agg (l.map .p), H, nx)
          | none => none
    | some (.eptr id ver i off) => match aget H id with
      | some (.row _ _ xs) => if ver = xs.length then match xs[i]? with
          | some x => match n with
            | none => match x[off]? with
              | some v => some (.p v, H, nx)
              | none => none
            | some n => match takeDrop x off n with
              | some l => some (.agg (l.map .p), H, nx)
              | none => none
          | none => none
        else none
      | _ => none
    | _ => none
  | .store n a x => match s.ev a, s.ev x with
    | some (.ptr id off), some v => match aget H id, v.cells with
      | some (.var false cs), some l => if l.length = n ∧ off + n ≤ cs.length then some (.tuple [], hset H id (.var false (putAt cs off l)), nx) else none
      | _, _ => none
    | some (.eptr id ver i off), some v => match aget H id with
      | some (.row false sz xs) => match pur H dep v with
        | some p => match xs[i]?, p.cellsOf with
          | some y, some l => if ver = xs.length ∧ l.length = n ∧ off + n ≤ y.length ∧ id ∉ tch H dep v then
              some (.tuple [], hset (frz H (tch H dep v)) id (.row false sz (xs.set i (putAt y off l))), nx) else none
          | _, _ => none
        | none => none
      | _ => none
    | _, _ => none
  | .nilCheck x => match s.ev x with
    | some v => if isPtr H v then some (v, H, nx) else none
    | none => none
  | .bin op x y => match s.ev x, s.ev y with
    | some v, some u => match binPV op v u with
      | some r => some (.p r, H, nx)
      | none => none
    | _, _ => none
  | .eqb neg x y => match s.ev x, s.ev y with
    | some (.p (.bool a)), some (.p (.bool b)) => some (.p (.bool (if neg then !(a == b) else (a == b))), H, nx)
    | _, _ => none
  | .eqagg neg offs x y => match s.ev x, s.ev y with
    | some (.agg xs), some (.agg ys) => match eqCells xs ys offs with
      | some t => some (.p (.bool (if neg then !t else t)), H, nx)
      | none => none
    | _, _ => none
  | .un op x => match s.ev x with
    | some v => match unPV op v with
      | some r => some (.p r, H, nx)
      | none => none
    | none => none
  | .conv k x => match s.ev x with
    | some (.p (.int _ n)) => some (.p (.int k (k.wrap n)), H, nx)
    | _ => none
  | .convS x => match s.ev x with
    | some (.p (.str b)) => some (.p (.str b), H, nx)
    | _ => none
  | .slice sz x lo hi mx => match s.ev x, evI s lo 0, evB s hi, evB s mx with
    | some v, some l, some h, some m => match sliceDV H sz v l h m with
      | some (r, ids) => some (r, frz H ids, nx)
      | none => none
    | _, _, _, _ => none
  | .sliceS x lo hi => match s.ev x, evI s lo 0, evB s hi with
    | some (.p (.str b)), some l, some h => match sliceStr b l h with
      | some r => some (r, H, nx)
      | none => none
    | _, _, _ => none
  | .fieldAddr off x => match s.ev x with
    | some (.ptr id o) => match aget H id with
      | some (.var _ _) => some (.ptr id (o + off), H, nx)
      | _ => none
    | some (.p (.vptr cs)) => some (.p (.vptr (cs.drop off)), H, nx)
    | some (.eptr id ver i o) => match aget H id with
      | some (.row _ _ xs) => if ver = xs.length ∧ i < xs.length then some (.eptr id ver i (o + off), H, nx) else none
      | _ => none
    | _ => none
  | .field off n x => match s.ev x with
    | some (.agg cs) => match n with
      | none => match cs[off]? with
        | some v => some (v, H, nx)
        | none => none
      | some n => match takeDrop cs off n with
        | some l => some (.agg l, H, nx)
        | none => none
    | _ => none
  | .indexAddr sz x i => match s.ev x, s.ev i with
    | some (.p (.slice _ xs)), some (.p (.int _ n)) => if 0 ≤ n then match xs[n.toNat]? with
        | some y => if y.length = sz then some (.p (.vptr y), H, nx) else none
        | none => none
      else none
    | some (.ref id ver off k), some (.p (.int _ n)) => match aget H id with
      | some (.row _ sz' xs) => if ver = xs.length ∧ off + k ≤ xs.length ∧ sz' = sz ∧ 0 ≤ n ∧ n < k then some (.eptr id ver (off + n.toNat) 0, H, nx) else none
      | _ => none
    | _, _ => none
  | .arrAddr len sz x i => match s.ev x, s.ev i with
    | some (.ptr id off), some (.p (.int _ n)) => match aget H id with
      | some (.var _ _) => if 0 ≤ n ∧ n < len then some (.ptr id (off + n.toNat * sz), H, nx) else none
      | _ => none
    | _, _ => none
  | .index x i => match s.ev x, s.ev i with
    | some (.p (.str b)), some (.p (.int _ n)) => if 0 ≤ n then match b.data[n.toNat]? with
        | some c => some (.p (.int .u8 c.toNat), H, nx)
        | none => none
      else none
    | _, _ => none
  | .extract x i => match s.ev x with
    | some (.tuple vs) => match vs[i]? with
      | some v => some (v, H, nx)
      | none => none
    | _ => none
  | .makeSlice zero bytes l c => match s.ev l, s.ev c with
    | some (.p (.int .i64 l)), some (.p (.int .i64 c)) => if 0 ≤ l ∧ l ≤ c ∧ c.toNat * bytes ≤ maxBytes ∧ c ≤ 140737488355328 then
        some (.ref nx l.toNat 0 l.toNat, (nx, .row false zero.length (List.replicate l.toNat zero)) :: H, nx + 1) else none
    | _, _ => none
  | .append bytes sz a x => match s.ev a, s.ev x with
    | some v, some u => match elemsOf H u with
      | some (ys, _) => if allSz sz ys then appendDV bytes sz ys v H nx else none
      | none => none
    | _, _ => none
  | .copy sz d x => match s.ev d, s.ev x with
    | some v, some u => match elemsOf H u with
      | some (ys, _) => if allSz sz ys then copyDV sz ys v H nx else none
      | none => none
    | _, _ => none
  | .lenS x => match s.ev x with
    | some (.p (.str b)) => some (.p (.int .i64 b.size), H, nx)
    | _ => none
  | .len x => match s.ev x with
    | some (.p (.slice _ xs)) => some (.p (.int .i64 xs.length), H, nx)
    | some (.ref id ver off n) => match aget H id with
      | some (.row _ _ xs) => if ver = xs.length ∧ off + n ≤ xs.length then some (.p (.int .i64 n), H, nx) else none
      | _ => none
    | _ => none
  | .minmax isMax x xs => match s.ev x, evs s xs with
    | some (.p v), some l => match foldO (mm2 isMax) v l with
      | some r => some (.p r, H, nx)
      | none => none
    | _, _ => none
  | .mkfunc f caps => match evs s caps with
    | some l => some (.func f l, H, nx)
    | none => none
  | .call byref f args => match evs s args with
    | some l => callD cf byref f l H nx
    | none => none
  | .callv byref fv args => match s.ev fv, evs s args with
    | some (.func f caps), some l => callD cf byref f (l ++ caps) H nx
    | some (.p (.func f caps)), some l => callD cf byref f (l ++ caps.map ofPV) H nx
    | _, _ => none
  | .isNil x => match s.ev x with
    | some (.p (.z b)) => some (.p (.bool b), H, nx)
    | some (.p (.slice _ (_ :: _))) => some (.p (.bool false), H, nx)
    | _ => none
  | .clear zero x => match s.ev x with
    | some v => clearDV zero v H nx
    | none => none
  | .cap x => match s.ev x with
    | some (.p (.slice true xs)) => some (.p (.int .i64 xs.length), H, nx)
    | _ => none
  | .arrIndex len x i => match s.ev x, s.ev i with
    | some (.agg cs), some (.p (.int _ n)) => if 0 ≤ n ∧ n < len then match cs[n.toNat]? with
        | some v => some (v, H, nx)
        | none => none
      else none
    | _, _ => none
  | .makeMap => match aget H nx with
    | none => some (.ptr nx 0, (nx, .map false []) :: H, nx + 1)
    | some _ => none
  | .lookup zero x i => match s.ev x, s.ev i with
    | some (.ptr id _), some (.p (.int .i64 n)) => match aget H id with
      | some (.map _ kv) => some (.p ((mget kv n).getD zero), H, nx)
      | _ => none
    | _, _ => none
  | .mapSet x i v => match s.ev x, s.ev i, s.ev v with
    | some (.ptr id _), some (.p (.int .i64 n)), some (.p p) => match aget H id with
      | some (.map false kv) => if p.plain = true ∧ p.isCell = true then some (.tuple [], hset H id (.map false (mset kv n p)), nx) else none
      | _ => none
    | _, _, _ => none

def gd (g : Option (Nat × Bool)) (e : Env) : Option Bool :=
  match g with
  | none => some true
  | some (k, want) => match aget e k with
    | some (.p (.bool b)) => some (b == want)
    | some (.tuple []) => some false
    | _ => none

def eput (e : Env) : Option Nat → DV → Env
  | none, _ => e
  | some k, d => eset e k d

def dopr (cf : CallF) (o : DOper) (s : St) : Option St :=
  match gd o.guard s.env with
  | none => none
  | some false => some { s with env := eput s.env o.dst (.tuple []) }
  | some true => match dop cf o.op s with
    | none => none
    | some (v, h, n) => some { s with env := eput s.env o.dst v, heap := h, next := n }

def dops (cf : CallF) : List DOper → St → Option St
  | [], s => some s
  | o :: r, s => match dopr cf o s with
    | some s' => dops cf r s'
    | none => none

def dopsK (cf : CallF) : List (DOper × List Nat) → St → Option St
  | [], s => some s
  | (o, k) :: r, s => match dopr cf o s with
    | some s' => dopsK cf r { s' with env := adels s'.env k }
    | none => none

def DV.flat : DV → Bool
  | .p _ => true
  | .agg cs => cs.all fun | .p _ => true | _ => false
  | _ => false

def valO (e : Env) : DO → Option DV
  | .t k => aget e k
  | .c v => some v

def flatO (e : Env) (x : DO) : Bool := match valO e x with
  | some v => v.flat
  | none => false

def readOf (e : Env) : DOp → Option (Option Nat)
  | .load _ x | .fieldAddr _ x => match valO e x with
    | some (.ptr j _) => some (some j)
    | some (.p _) => some none
    | _ => none
  | .indexAddr _ x _ => match valO e x with
    | some (.p _) => some none
    | _ => none
  | .buildSlice _ _ ps => if ps.all (fun p => flatO e p.2) then some none else none
  | .call false _ args => if args.all (flatO e) then some none else none
  | _ => none

def offBlk (j : Nat) : DV → Bool
  | .ref id _ _ _ => id != j
  | .p _ => true
  | _ => false

def keepsBlk (e : Env) (j : Nat) (r : Option DV) : DOp → Bool
  | .store _ a _ => match valO e a with
    | some (.ptr i _) => i != j
    | _ => false
  | .append _ _ _ _ => match r with
    | some v => offBlk j v
    | none => false
  | _ => false

def resO (e : Env) : Option Nat → Option DV
  | some k => aget e k
  | none => none

def sepOK (e : Env) (x y : DOper) : Bool :=
  (match readOf e x.op with
    | some none => true
    | some (some j) => keepsBlk e j (resO e y.dst) y.op
    | none => false) ||
  (match readOf e y.op with
    | some none => true
    | some (some j) => keepsBlk e j (resO e x.dst) x.op
    | none => false)

def sepAll (seps : List (Nat × Nat)) (ops : List DOper) (e : Env) : Bool := seps.all fun p => match ops[p.1]?, ops[p.2]? with
  | some x, some y => sepOK e x y
  | _, _ => false

inductive Ex where
  | normal
  | exit (id : Nat)
  | ret
  deriving DecidableEq, Inhabited

abbrev R := Option (Ex × St)

def below (c : Nat) : Nat → DV → Bool
  | 0, _ => false
  | _ + 1, .p _ => true
  | n + 1, .agg cs | n + 1, .tuple cs | n + 1, .func _ cs => cs.all (below c n)
  | _ + 1, .ref id _ _ _ | _ + 1, .ptr id _ | _ + 1, .eptr id _ _ _ => decide (id < c)

def Blk.below (c : Nat) : Blk → Bool
  | .var _ cs => cs.all (Dv.below c dep)
  | .row _ _ _ => true
  | .map _ _ => true

def belowAll (c : Nat) : Heap → Heap
  | [] => []
  | (k, b) :: r => if k < c then (k, b) :: belowAll c r else belowAll c r

def topId : Heap → Nat
  | [] => 0
  | (k, _) :: r => max (k + 1) (topId r)

def resetTo (c : Nat) (s : St) : Option St :=
  let h := belowAll c s.heap
  if s.env.all (fun x => below c dep x.2) && h.all (fun x => x.2.below c) && decide (c ≤ s.next) then some { s with heap := h, next := c } else none

def purSlots : List Nat → St → Option St
  | [], s => some s
  | k :: r, s => match aget s.env k with
    | some d => match pur s.heap dep d with
      | some p => purSlots r { s with env := eset s.env k (ofPV p), heap := frz s.heap (tch s.heap dep d) }
      | none => none
    | none => none

def dghost (g : Ghost) (s : St) : Option St :=
  match g with
  | .forget l => some { s with env := adels s.env l }
  | .free l => some { s with env := adels s.env l, heap := adels s.heap (l.filterMap fun k => match aget s.env k with | some (.ptr id 0) => some id | _ => none) }
  | .freeze l => some { s with heap := frz s.heap (l.flatMap fun k => match aget s.env k with | some v => tch s.heap dep v | none => []) }
  | .mark => some { s with marks := s.next :: s.marks }
  | .reset => match s.marks with
    | c :: _ => resetTo c s
    | [] => none
  | .lower => match s.marks with
    | c :: _ => resetTo (max c (topId s.heap)) s
    | [] => none
  | .own sz k => match aget s.env k with
    | some (.p (.slice true [])) => some { s with env := eset s.env k (.ref s.next 0 0 0), heap := (s.next, .row false sz []) :: s.heap, next := s.next + 1 }
    | _ => none
  | .ownIn sz k off => match aget s.env k with
    | some (.ptr id 0) => match aget s.heap id with
      | some (.var false cs) => match cs[off]? with
        | some (.p (.slice true [])) => some { s with heap := hset ((s.next, .row false sz []) :: s.heap) id (.var false (cs.set off (.ref s.next 0 0 0))), next := s.next + 1 }
        | _ => none
      | _ => none
    | _ => none
  | .pure l => purSlots l s

def dloop (body : St → R) : Nat → St → R
  | 0, _ => none
  | n + 1, s => match body s with
    | some (.normal, s') => dloop body n s'
    | r => r

def dcode (cf : CallF) (n : Nat) : ACode → St → R
  | .skip, s => some (.normal, s)
  | .region _ ops kill, s => match dops cf ops s with
    | some s' => some (.normal, { s' with env := adels s'.env kill })
    | none => none
  | .seq a b, s => match dcode cf n a s with
    | some (.normal, s') => dcode cf n b s'
    | r => r
  | .cond c x y, s => match s.ev c with
    | some (.p (.bool true)) => dcode cf n x s
    | some (.p (.bool false)) => dcode cf n y s
    | _ => none
  | .block id c, s => match dcode cf n c s with
    | some (.exit id', s') => if id' = id then some (.normal, s') else some (.exit id', s')
    | r => r
  | .loop c, s => dloop (dcode cf n c) n s
  | .exit id, s => some (.exit id, s)
  | .ret, s => some (.ret, s)
  | .ghost g c, s => match dghost g s with
    | some s' => dcode cf n c s'
    | none => none
  | .scope c, s => dcode cf n c s
  | .dead, _ => none
  | .regionK _ ops, s => match dopsK cf ops s with
    | some s' => some (.normal, s')
    | none => none
  | .regionS seps ops kill, s => match dops cf ops s with
    | some s' => if sepAll seps ops s'.env then some (.normal, { s' with env := adels s'.env kill }) else none
    | none => none

def dres (s : St) : AResult → Option DV
  | .tmp t => aget s.env t
  | .cell t n => match aget s.env t with
    | some (.ptr id off) => match aget s.heap id with
      | some (.var _ cs) => match takeDrop cs off n with
        | some l => some (.agg l)
        | none => none
      | _ => none
    | _ => none

def dresults (s : St) (rs : List AResult) : Option DV :=
  match mapO (dres s) rs with
  | some [v] => some v
  | some vs => some (.tuple vs)
  | none => none

def initEnv : Nat → List DV → Env
  | _, [] => []
  | k, v :: r => (k, v) :: initEnv (k + 1) r

def drun (cf : CallF) (n : Nat) (af : AFunc) (args : List DV) (H : Heap) (nx : Nat) : Out :=
  if args.length = af.nparams then
    match dcode cf n af.body { env := initEnv 0 args, heap := H, next := nx, marks := [nx] } with
    | some (.normal, s) | some (.ret, s) => match dresults s af.results with
      | some v => some (v, s.heap, s.next)
      | none => none
    | _ => none
  else none

def prun (cf : CallF) (n : Nat) (af : AFunc) (args : List PV) : Option PV :=
  match drun cf n af (args.map ofPV) [] 0 with
  | some (v, h, _) => pur h dep v
  | none => none

def cfs (A : FuncId → Option AFunc) (X : CallF) : Nat → CallF
  | 0 =>
    { pure := fun f args => match A f with
        | some _ => none
        | none => X.pure f args
      byref := fun f args H nx => match A f with
        | some _ => none
        | none => X.byref f args H nx }
  | n + 1 =>
    { pure := fun f args => match A f with
        | some af => prun (cfs A X n) (n + 1) af args
        | none => X.pure f args
      byref := fun f args H nx => match A f with
        | some af => drun (cfs A X n) (n + 1) af args H nx
        | none => X.byref f args H nx }

end Go.Dv
