/-
  When an annotated operation stands for an operation of the program: a decidable check.
-/
import Derived.Test.YtphkbgjnhfidlaaGreatPur
set_option linter.unusedVariables false
set_option linter.unusedSimpArgs false
namespace Go.Dv

def constCell : Value → PV → Bool
  | .int k n, .int k' n' => decide (k = k') && n == n'
  | .bool b, .bool b' => b == b'
  | .string s, .str s' => s.data.toList == s'.data.toList
  | .slice none 0 0, .slice true [] => true
  | .map none, .undef => true
  | _, _ => false

def constCells : List Value → List PV → Bool
  | [], [] => true
  | v :: r, p :: q => constCell v p && constCells r q
  | _, _ => false

def constAgg : List Value → List DV → Bool
  | [], [] => true
  | v :: r, .p p :: q => constCell v p && constAgg r q
  | _, _ => false

def constOK : Value → DV → Bool
  | .agg cs, .agg ds => constAgg cs.toList ds
  | v, .p p => constCell v p
  | _, _ => false

def opnd : Operand → DO → Bool
  | .tmp t, .t k => t == k
  | .const v, .c d => constOK v d
  | .func f, .c (.func g []) => f == g
  | _, _ => false

def opnds : List Operand → List DO → Bool
  | [], [] => true
  | x :: r, d :: q => opnd x d && opnds r q
  | _, _ => false

def opnd? : Option Operand → Option DO → Bool
  | none, none => true
  | some x, some d => opnd x d
  | _, _ => false

def zeroOK (P : Program) (t : TypeId) (zero : List PV) : Bool :=
  match P.info? t with
  | some i => match i.zero with
    | some z => constCells z.cells.toList zero && i.size == zero.length
    | none => false
  | none => false

def sizeIs (P : Program) (t : TypeId) (n : Nat) : Bool :=
  match P.info? t with
  | some i => i.size == n
  | none => false

def isAggT (P : Program) (t : TypeId) : Option Bool :=
  match P.underlying t with
  | some (.struct _) | some (.array _ _) => some true
  | some _ => some false
  | none => none

def aggOK (P : Program) (t : TypeId) : Option Nat → Bool
  | none => match isAggT P t with | some false => true | _ => false
  | some n => (match isAggT P t with | some true => true | _ => false) && sizeIs P t n && decide (0 < n)

def partsOK (P : Program) (fs : Array Field) : List (Nat × Operand) → List (Nat × Nat × DO) → Bool
  | [], [] => true
  | (i, x) :: r, (off, n, d) :: q => (match fs[i]? with | some f => f.offset == off && sizeIs P f.type n | none => false) && opnd x d && partsOK P fs r q
  | _, _ => false

def partsOKA (sz : Nat) : List (Nat × Operand) → List (Nat × Nat × DO) → Bool
  | [], [] => true
  | (i, x) :: r, (off, n, d) :: q => off == i * sz && n == sz && opnd x d && partsOKA sz r q
  | _, _ => false

def ixOK : List (Nat × Operand) → List (Nat × DO) → Bool
  | [], [] => true
  | (i, x) :: r, (j, d) :: q => i == j && opnd x d && ixOK r q
  | _, _ => false

def fieldsInfo (P : Program) (fs : Array Field) : Bool := fs.toList.all fun f => (P.info? f.type).isSome

def scalarT (P : Program) (t : TypeId) : Option Nat :=
  match P.underlying t with
  | some (.int _) => some 0
  | some .bool => some 1
  | some .string => some 2
  | _ => none

def eqFieldsOK (P : Program) : List Field → List (Nat × Nat) → Bool
  | [], [] => true
  | f :: r, (o, k) :: q => f.name != "_" && f.offset == o && (match scalarT P f.type with | some k' => k' == k | none => false) && eqFieldsOK P r q
  | _, _ => false

def sliceElem (P : Program) (t : TypeId) : Option TypeId :=
  match P.underlying t with
  | some (.slice e) => some e
  | _ => none

def isBoolT (P : Program) (t : TypeId) : Bool := match P.underlying t with | some .bool => true | _ => false
def isStrT (P : Program) (t : TypeId) : Bool := match P.underlying t with | some .string => true | _ => false

def appendOK (P : Program) (t t2 : TypeId) (bytes sz : Nat) : Bool :=
  match sliceElem P t, sliceElem P t2 with
  | some e, some _ => match P.info? e with
    | some i => i.bytes == bytes && i.size == sz && (match i.zero with | some z => z.cells.size == sz | none => false) && decide (0 < sz) && decide (0 < bytes)
    | none => false
  | _, _ => false

def makeOK (P : Program) (t : TypeId) (zero : List PV) (bytes : Nat) : Bool :=
  match sliceElem P t with
  | some e => match P.info? e with
    | some i => i.bytes == bytes && zeroOK P e zero && decide (0 < zero.length)
    | none => false
  | none => false

def copyOK (P : Program) (t : TypeId) (sz : Nat) : Bool :=
  match sliceElem P t with
  | some e => sizeIs P e sz && decide (0 < sz)
  | none => false

def clearOK (P : Program) (t : TypeId) (zero : List PV) : Bool :=
  match sliceElem P t with
  | some e => zeroOK P e zero && decide (0 < zero.length)
  | none => false

def eqOp (op : BinOp) (neg : Bool) : Bool := match op with | .eql => !neg | .neq => neg | _ => false

def isBuiltin (c : Call) (b : Builtin) : Bool := match c.callee with | .builtin b' => decide (b' = b) | _ => false

def matchCall (P : Program) (c : Call) : DOp → Bool
  | .append bytes sz s' x' => isBuiltin c .append && (match c.args.toList, c.argTypes.toList with
      | [s, x], [t, t2] => opnd s s' && opnd x x' && appendOK P t t2 bytes sz
      | _, _ => false)
  | .copy sz s' x' => isBuiltin c .copy && (match c.args.toList, c.argTypes.toList with
      | [s, x], [t, _] => opnd s s' && opnd x x' && copyOK P t sz
      | _, _ => false)
  | .len x' => isBuiltin c .len && (match c.args.toList, c.argTypes.toList with
      | [x], [t] => opnd x x' && (sliceElem P t).isSome
      | _, _ => false)
  | .lenS x' => isBuiltin c .len && (match c.args.toList, c.argTypes.toList with
      | [x], [t] => opnd x x' && isStrT P t
      | _, _ => false)
  | .clear zero x' => isBuiltin c .clear && (match c.args.toList, c.argTypes.toList with
      | [x], [t] => opnd x x' && clearOK P t zero
      | _, _ => false)
  | .cap x' => isBuiltin c .cap && (match c.args.toList, c.argTypes.toList with
      | [x], [t] => opnd x x' && (sliceElem P t).isSome
      | _, _ => false)
  | .minmax isMax x' xs' => isBuiltin c (if isMax then .max else .min) && opnds c.args.toList (x' :: xs')
  | .call _ f' args' => (match c.callee with | .value (.func f) => f == f' | _ => false) && opnds c.args.toList args'
  | .callv _ fv' args' => (match c.callee with | .value fv => opnd fv fv' | _ => false) && opnds c.args.toList args'
  | _ => false

def mapTo (P : Program) (t : TypeId) : Option TypeId :=
  match P.underlying t with
  | some (.map kt et) => match P.underlying kt with
    | some (.int .i64) => some et
    | _ => none
  | _ => none

def matchOp (P : Program) : Op → DOp → Bool
  | .move x, .move d => opnd x d
  | .assign x, .move d => opnd x d
  | .pick c a b, .pick c' a' b' => opnd c c' && opnd a a' && opnd b b'
  | .alloc t, .alloc zero => zeroOK P t zero
  | .box _ x, .box d => opnd x d
  | .build t parts, .build zero ps => zeroOK P t zero && (match P.underlying t with
      | some (.struct fs) => fieldsInfo P fs && partsOK P fs parts.toList ps
      | some (.array _ e) => match P.info? e with
        | some i => partsOKA i.size parts.toList ps
        | none => false
      | _ => false)
  | .buildSlice t len parts, .buildSlice zero len' ps => (match sliceElem P t with
      | some e => zeroOK P e zero && decide (0 < zero.length) && decide (len * zero.length ≤ 2 ^ 24) && len == len' && ixOK parts.toList ps && decide (ps.length ≤ len)
      | none => false)
  | .load t a, .load n d => opnd a d && aggOK P t n
  | .store t a x, .store n a' x' => opnd a a' && opnd x x' && sizeIs P t n
  | .nilCheck x, .nilCheck d => opnd x d
  | .binOp op _ x y _, .bin op' x' y' => decide (op = op') && opnd x x' && opnd y y'
  | .binOp op t x y _, .isNil x' => decide (op = .eql) && opnd x x' && (match y with | .const (.slice none 0 0) => true | _ => false) && (sliceElem P t).isSome
  | .binOp op t x y _, .eqb neg x' y' => eqOp op neg && opnd x x' && opnd y y' && isBoolT P t
  | .binOp op t x y _, .eqagg neg offs x' y' => eqOp op neg && opnd x x' && opnd y y' && (match P.underlying t with
      | some (.struct fs) => eqFieldsOK P fs.toList offs && !P.stoodInHeld t && !P.eqGuardType P.depth t
      | _ => false)
  | .unOp op _ x, .un op' d => decide (op = op') && opnd x d
  | .convert src dst x, .conv k d => opnd x d && (P.underlying src).isSome && (match P.underlying dst with | some (.int k') => decide (k = k') | _ => false)
  | .convert src dst x, .convS d => opnd x d && isStrT P dst && (P.underlying src).isSome
  | .slice t x lo hi mx, .slice sz x' lo' hi' mx' => opnd x x' && opnd? lo lo' && opnd? hi hi' && opnd? mx mx' && (mx.isNone || hi.isSome) && (match sliceElem P t with
      | some e => sizeIs P e sz
      | none => false)
  | .slice t x lo hi none, .sliceS x' lo' hi' => opnd x x' && opnd? lo lo' && opnd? hi hi' && isStrT P t
  | .fieldAddr t x f, .fieldAddr off d => opnd x d && (match P.underlying t with
      | some (.struct fs) => match fs[f]? with
        | some fl => fl.offset == off && (match P.info? fl.type with | some i => decide (0 < i.size) | none => false)
        | none => false
      | _ => false)
  | .field t x f, .field off n d => opnd x d && (match P.underlying t with
      | some (.struct fs) => match fs[f]? with
        | some fl => fl.offset == off && aggOK P fl.type n
        | none => false
      | _ => false)
  | .indexAddr t x i, .indexAddr sz x' i' => opnd x x' && opnd i i' && (match sliceElem P t with
      | some e => sizeIs P e sz
      | none => false)
  | .indexAddr t x i, .arrAddr len sz x' i' => opnd x x' && opnd i i' && (match P.underlying t with
      | some (.array n e) => n == len && sizeIs P e sz
      | _ => false)
  | .index t x i, .index x' i' => opnd x x' && opnd i i' && isStrT P t
  | .index t x i, .arrIndex len x' i' => opnd x x' && opnd i i' && (match P.underlying t with
      | some (.array n e) => n == len && sizeIs P e 1 && (match isAggT P e with | some false => true | _ => false)
      | _ => false)
  | .extract x i, .extract x' i' => opnd x x' && i == i'
  | .makeSlice t l c, .makeSlice zero bytes l' c' => opnd l l' && opnd c c' && makeOK P t zero bytes
  | .makeMap t none, .makeMap => true
  | .lookup t x i false, .lookup zero x' i' => opnd x x' && opnd i i' && (match mapTo P t with
      | some e => zeroOK P e [zero] && (match P.info? e with | some ie => (match ie.zero with | some z => z.oneCell' | none => false) | none => false)
      | none => false)
  | .mapUpdate t x i v, .mapSet x' i' v' => opnd x x' && opnd i i' && opnd v v' && (mapTo P t).isSome
  | .makeFunc fn first caps, .mkfunc f' caps' => (match fn with | .func f => f == f' | _ => false) && first.toList.isEmpty && opnds caps.toList caps'
  | .call c, d => matchCall P c d
  | _, _ => false

/-! ### regions -/

def DO.rd : DO → List Nat
  | .t k => [k]
  | .c _ => []

def rdO : Option DO → List Nat
  | none => []
  | some x => x.rd

def DOp.rd : DOp → List Nat
  | .move x | .box x | .load _ x | .nilCheck x | .un _ x | .conv _ x | .convS x | .fieldAddr _ x | .field _ _ x | .extract x _ | .len x | .lenS x | .isNil x | .clear _ x | .cap x => x.rd
  | .pick c a b => c.rd ++ a.rd ++ b.rd
  | .alloc _ | .makeMap => []
  | .build _ ps => ps.flatMap fun p => p.2.2.rd
  | .buildSlice _ _ ps => ps.flatMap fun p => p.2.rd
  | .store _ a x | .bin _ a x | .eqb _ a x | .eqagg _ _ a x | .indexAddr _ a x | .arrAddr _ _ a x | .index a x | .makeSlice _ _ a x | .append _ _ a x | .copy _ a x | .lookup _ a x | .arrIndex _ a x => a.rd ++ x.rd
  | .mapSet a x v => a.rd ++ x.rd ++ v.rd
  | .slice _ x lo hi mx => x.rd ++ rdO lo ++ rdO hi ++ rdO mx
  | .sliceS x lo hi => x.rd ++ rdO lo ++ rdO hi
  | .minmax _ x xs => x.rd ++ xs.flatMap DO.rd
  | .mkfunc _ xs => xs.flatMap DO.rd
  | .call _ _ xs => xs.flatMap DO.rd
  | .callv _ f xs => f.rd ++ xs.flatMap DO.rd

def DOper.rd (o : DOper) : List Nat := (match o.guard with | some (k, _) => [k] | none => []) ++ o.op.rd

def DOp.cls : DOp → Nat
  | .move _ | .pick _ _ _ | .build _ _ | .bin _ _ _ | .eqb _ _ _ | .eqagg _ _ _ _ | .un _ _ | .conv _ _ | .convS _ | .sliceS _ _ _ | .field _ _ _ | .index _ _ | .extract _ _ | .minmax _ _ _ | .mkfunc _ _ | .lenS _ | .isNil _ | .cap _ | .arrIndex _ _ _ => 0
  | .load _ _ | .slice _ _ _ _ _ | .fieldAddr _ _ | .indexAddr _ _ _ | .arrAddr _ _ _ _ | .len _ | .nilCheck _ | .buildSlice _ _ _ | .call false _ _ | .callv false _ _ | .lookup _ _ _ => 1
  | _ => 2

def apart (x y : DOper) : Bool :=
  (match x.dst with
   | some d => !y.rd.contains d && (match y.dst with | some e => e != d | none => true)
   | none => true) &&
  (match y.dst with
   | some e => !x.rd.contains e
   | none => true)

def DOp.isNew : DOp → Bool
  | .alloc _ | .box _ => true
  | _ => false

def commOK (x y : DOper) : Bool := apart x y && (x.op.cls == 0 || y.op.cls == 0 || (x.op.cls == 1 && y.op.cls == 1) || (x.op.cls == 1 && y.op.isNew))

def guardOK (ops : Array Oper) (o : Oper) (d : DOper) : Bool :=
  match o.guard, d.guard with
  | none, none => true
  | some (j, w), some (k, w') => w == w' && (match (ops[j]?).bind (·.dst) with | some k' => k' == k | none => false)
  | _, _ => false

def dstOK (nt : Nat) (o : Oper) (d : DOper) : Bool :=
  match o.dst, d.dst with
  | none, none => true
  | some a, some b => a == b && decide (b < nt)
  | _, _ => false

def matchOps (P : Program) (nt : Nat) (ops : Array Oper) : List Oper → List DOper → Bool
  | [], [] => true
  | o :: r, d :: q => dstOK nt o d && guardOK ops o d && matchOp P o.op d.op && matchOps P nt ops r q
  | _, _ => false

def direct (o : Oper) : List Nat := (o.after.toList.filter (Region.binds .any)).map (·.on)

def orderOK (all : List DOper) : Nat → List Oper → List DOper → Bool
  | _, [], [] => true
  | i, o :: r, d :: q =>
    (direct o).all (fun p => d.preds.contains p) &&
    d.preds.all (fun p => decide (p < i) && ((direct o).contains p || (direct o).any fun k => match all[k]? with | some e => e.preds.contains p | none => false)) &&
    (List.range i).all (fun j => d.preds.contains j || match all[j]? with | some e => commOK e d | none => false) &&
    orderOK all (i + 1) r q
  | _, _, _ => false

def offs (o x : DOper) : Bool := match o.dst with
  | none => true
  | some k => !x.rd.contains k && x.dst != some k
def selfOK (x : DOper) : Bool := match x.dst with
  | none => true
  | some k => !x.rd.contains k

def sepCert (all : List DOper) (j i : Nat) : Bool := match all[j]?, all[i]? with
  | some x, some y => apart x y && selfOK x && selfOK y && (List.range all.length).all fun q => match all[q]? with
    | some o => (decide (q ≤ j) || offs o x) && (decide (q ≤ i) || offs o y)
    | none => true
  | _, _ => false

def orderOKS (seps : List (Nat × Nat)) (all : List DOper) : Nat → List Oper → List DOper → Bool
  | _, [], [] => true
  | i, o :: r, d :: q =>
    (direct o).all (fun p => d.preds.contains p) &&
    d.preds.all (fun p => decide (p < i) && ((direct o).contains p || (direct o).any fun k => match all[k]? with | some e => e.preds.contains p | none => false)) &&
    (List.range i).all (fun j => d.preds.contains j || (match all[j]? with | some e => commOK e d | none => false) || (seps.contains (j, i) && sepCert all j i)) &&
    orderOKS seps all (i + 1) r q
  | _, _, _ => false

def matchCode (P : Program) (nt : Nat) : Code → ACode → Bool
  | c, .ghost _ a => matchCode P nt c a
  | _, .dead => true
  | .skip, .skip => true
  | .region _ ops draw, .region draw' ds _ => draw == draw' && matchOps P nt ops ops.toList ds && (!draw || orderOK ds 0 ops.toList ds)
  | .seq a b, .seq a' b' => matchCode P nt a a' && matchCode P nt b b'
  | .cond c x y, .cond c' x' y' => opnd c c' && matchCode P nt x x' && matchCode P nt y y'
  | .block id c, .block id' c' => id == id' && matchCode P nt c c'
  | .loop c, .loop c' => matchCode P nt c c'
  | .exit id, .exit id' => id == id'
  | .ret, .ret => true
  | .label _, .skip => true
  | .scope c, .scope c' => matchCode P nt c c'
  | .region _ ops draw, .regionK draw' dk => draw == draw' && matchOps P nt ops ops.toList (dk.map (·.1)) && (!draw || orderOK (dk.map (·.1)) 0 ops.toList (dk.map (·.1)))
  | .region _ ops draw, .regionS seps ds _ => draw && matchOps P nt ops ops.toList ds && orderOKS seps ds 0 ops.toList ds
  | _, _ => false

def matchResults (P : Program) : List ResultVar → List AResult → Bool
  | [], [] => true
  | .tmp t :: r, .tmp t' :: q => t == t' && matchResults P r q
  | .cell t ty :: r, .cell t' n :: q => t == t' && (match isAggT P ty with | some true => true | _ => false) && sizeIs P ty n && decide (0 < n) && matchResults P r q
  | _, _ => false

def matchFunc (P : Program) (f : FuncId) (af : AFunc) : Bool :=
  match P.funcs[f]? with
  | some fn => match fn.body with
    | some c => fn.name != "runtime.NumGoroutine" && fn.ntmps == af.ntmps && decide (af.nparams ≤ af.ntmps) && matchResults P fn.results.toList af.results && matchCode P af.ntmps c af.body
    | none => false
  | none => false

end Go.Dv
