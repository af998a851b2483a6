/-
  Operations: what an annotated operation comes to, the operation of the program comes to. Part 1: no memory, or memory that is only read.
-/
import Derived.Test.YtphkbgjnhfidlaaGreatMatch
import Derived.Laws.Entries
import Derived.Laws.Slices
import Derived.Laws.StructEq
set_option linter.unusedVariables false
set_option linter.unusedSimpArgs false
namespace Go.Dv
open Go.RowKit

structure Cx where
  n : Nat
  ws : World
  βs : Place
  Hs : Heap
  ns : Nat

structure Gam (B : Nat) (w0 : World) (U0 : Nat → Prop) (nt : Cx) (β : Place) (s : St) (a : Act) (w : World) : Prop where
  mem : Mem B w0 U0 β s.heap s.next w
  env : ∀ k d, aget s.env k = some d → ∃ v, a.tmps[k]? = some v ∧ DRep w (Own U0 β s.heap) β s.heap s.next d v
  size : a.tmps.size = nt.n
  defers : a.defers = []
  keeps : Keeps nt.ws (Own U0 nt.βs nt.Hs) w (Own U0 β s.heap)
  evo : Evo nt.βs nt.Hs nt.ns β s.heap s.next
  marks : ∀ c ∈ s.marks, nt.ns ≤ c

def Good (B : Nat) (w0 : World) (U0 : Nat → Prop) (H : Heap) (nx : Nat) (β : Place) (w : World) (v : DV) (H' : Heap) (nx' : Nat) (x : Value) (w' : World) : Prop :=
  ∃ β', Mem B w0 U0 β' H' nx' w' ∧ Keeps w (Own U0 β H) w' (Own U0 β' H') ∧ Evo β H nx β' H' nx' ∧ DRep w' (Own U0 β' H') β' H' nx' v x

theorem Evo.trans {β β' β'' : Place} {H H' H'' : Heap} {n n' n'' : Nat} (e1 : Evo β H n β' H' n') (e2 : Evo β' H' n' β'' H'' n'') : Evo β H n β'' H'' n'' :=
  ⟨Nat.le_trans e1.next e2.next, fun k hk fz sz xs h => by
      obtain ⟨f1, x1, a1, a2, a3⟩ := e2.row k (Nat.lt_of_lt_of_le hk e1.next) fz sz xs h
      obtain ⟨f2, x2, b1, b2, b3⟩ := e1.row k hk f1 sz x1 a1
      exact ⟨f2, x2, b1, by omega, fun e => by rw [a3 (by omega), b3 (by omega)]⟩,
    fun k hk fz cs h => by
      obtain ⟨f1, x1, a1, a2⟩ := e2.var k (Nat.lt_of_lt_of_le hk e1.next) fz cs h
      obtain ⟨f2, x2, b1, b2⟩ := e1.var k hk f1 x1 a1
      exact ⟨f2, x2, b1, by rw [a2, b2]⟩,
    fun k hk fz cs h => by
      obtain ⟨f1, x1, a1, a2⟩ := e2.map k (Nat.lt_of_lt_of_le hk e1.next) fz cs h
      obtain ⟨f2, x2, b1, b2⟩ := e1.map k hk f1 x1 a1
      exact ⟨f2, x2, b1, by rw [a2, b2]⟩⟩

theorem Keeps.refl (w : World) (U : Nat → Prop) : Keeps w U w U := ⟨fun _ _ _ h => h, fun _ _ h _ => h⟩

theorem Keeps.trans {w w' w'' : World} {U U' U'' : Nat → Prop} (a : Keeps w U w' U') (b : Keeps w' U' w'' U'') : Keeps w U w'' U'' :=
  ⟨fun k o hu h => b.block k o (a.out k o hu h) (a.block k o hu h), fun k o hu h => b.out k o (a.out k o hu h) (a.block k o hu h)⟩

theorem good_same {B : Nat} {w0 : World} {U0 : Nat → Prop} {H : Heap} {nx : Nat} {β : Place} {w : World} {v : DV} {x : Value} (m : Mem B w0 U0 β H nx w)
    (h : DRep w (Own U0 β H) β H nx v x) : Good B w0 U0 H nx β w v H nx x w := ⟨β, m, Keeps.refl _ _, Evo.refl _ _ _, h⟩

theorem good_less {B : Nat} {w0 : World} {U0 : Nat → Prop} {H H' : Heap} {nx : Nat} {β : Place} {w : World} {v : DV} {x : Value} (m : Mem B w0 U0 β H nx w) (l : Less H H')
    (h : DRep w (Own U0 β H') β H' nx v x) : Good B w0 U0 H nx β w v H' nx x w := ⟨β, m.less l, l.keeps w, l.evo (Nat.le_refl _), h⟩

theorem DRep.undef {w : World} {U : Nat → Prop} {β : Place} {H : Heap} {nx : Nat} : DRep w U β H nx (.tuple []) Go.undef := .tuple [] #[] rfl (by simp)

theorem getD_toArray (l : List Value) (j : Nat) (d : Value) : l.toArray.getD j d = l.getD j d := by simp

section
variable {w : World} {U : Nat → Prop} {β : Place} {H : Heap} {nx : Nat}

theorem constCell_ok {v : Value} {p : PV} (h : constCell v p = true) : PRep w U p v ∧ v.oneCell' = true := by
  unfold constCell at h
  split at h
  · simp at h; obtain ⟨rfl, rfl⟩ := h; exact ⟨.int _ _, rfl⟩
  · simp at h; subst h; exact ⟨.bool _, rfl⟩
  · rename_i s s'
    have : s = s' := by
      obtain ⟨⟨x⟩⟩ := s
      obtain ⟨⟨y⟩⟩ := s'
      simp at h; subst h; rfl
    subst this; exact ⟨.str _, rfl⟩
  · exact ⟨.none true none 0 (fun _ => rfl), rfl⟩
  · exact ⟨.undef _, rfl⟩
  · cases h

theorem constCells_ok : ∀ (l : List Value) (ps : List PV), constCells l ps = true → l.length = ps.length ∧ ∀ (j : Nat) (y : PV), ps[j]? = some y → PRep w U y (l.getD j undef) ∧ (l.getD j undef).oneCell' = true
  | [], [], _ => ⟨rfl, by simp⟩
  | [], _ :: _, h => by simp [constCells] at h
  | _ :: _, [], h => by simp [constCells] at h
  | v :: r, p :: q, h => by
    simp only [constCells, Bool.and_eq_true] at h
    obtain ⟨h1, h2⟩ := constCells_ok r q h.2
    refine ⟨by simp [h1], fun j y hy => ?_⟩
    cases j with
    | zero => simp only [List.getElem?_cons_zero, Option.some.injEq] at hy; subst hy; exact constCell_ok h.1
    | succ j => simp only [List.getElem?_cons_succ] at hy; exact h2 j y hy

theorem constAgg_ok : ∀ (l : List Value) (ps : List DV), constAgg l ps = true → l.length = ps.length ∧ ∀ (j : Nat) (y : DV), ps[j]? = some y → DRep w U β H nx y (l.getD j Go.undef) ∧ (l.getD j Go.undef).oneCell' = true
  | [], [], _ => ⟨rfl, by simp⟩
  | [], _ :: _, h => by simp [constAgg] at h
  | _ :: _, [], h => by simp [constAgg] at h
  | v :: r, p :: q, h => by
    cases p with
    | p p =>
      simp only [constAgg, Bool.and_eq_true] at h
      obtain ⟨h1, h2⟩ := constAgg_ok r q h.2
      refine ⟨by simp [h1], fun j y hy => ?_⟩
      cases j with
      | zero =>
        simp only [List.getElem?_cons_zero, Option.some.injEq] at hy; subst hy
        obtain ⟨h3, h4⟩ := constCell_ok (w := w) (U := U) h.1
        exact ⟨.p _ _ h3, h4⟩
      | succ j => simp only [List.getElem?_cons_succ] at hy; exact h2 j y hy
    | _ => simp [constAgg] at h

theorem constOK_ok {v : Value} {d : DV} (h : constOK v d = true) : DRep w U β H nx d v := by
  unfold constOK at h
  split at h
  · rename_i cs ds
    obtain ⟨h1, h2⟩ := constAgg_ok (w := w) (U := U) (β := β) (H := H) (nx := nx) _ _ h
    obtain ⟨l⟩ := cs
    simp only [] at h1 h2
    exact .agg ds ⟨l⟩ h1 (fun j y hy => by rw [getD_toArray]; exact (h2 j y hy).2) (fun j y hy => by rw [getD_toArray]; exact (h2 j y hy).1)
  · exact .p _ _ (constCell_ok h).1
  · cases h

end

section
variable {P : Program} {cf : CallF} {B : Nat} {w0 : World} {U0 : Nat → Prop} {nt : Cx} {β : Place} {s : St} {a : Act} {w : World}

theorem Gam.ev (g : Gam B w0 U0 nt β s a w) {x : Operand} {d : DO} (h : opnd x d = true) {v : DV} (hv : s.ev d = some v) :
    DRep w (Own U0 β s.heap) β s.heap s.next v (a.eval x) := by
  unfold opnd at h
  split at h
  · simp only [beq_iff_eq] at h; subst h
    simp only [St.ev] at hv
    obtain ⟨y, hy, hr⟩ := g.env _ _ hv
    simp only [Act.eval]
    rw [Array.getD_eq_getD_getElem?, hy]
    exact hr
  · simp only [St.ev, Option.some.injEq] at hv; subst hv
    exact constOK_ok h
  · simp only [St.ev, Option.some.injEq] at hv; subst hv
    simp only [beq_iff_eq] at h; subst h
    exact .func _ [] #[] rfl (by simp)
  · cases h

theorem wp_of_run {o : Oper} {K : Act → World → Prop} {Q : Exit → Act → World → Prop} {x : Value} {w' : World} (h : (execOp a.eval o).run P w = .ok (.value x) w') (hK : K (a.put o.dst x) w') :
    o.wp P a w K Q := by unfold Oper.wp; rw [h]; exact hK

theorem wp_of_skip {o : Oper} {K : Act → World → Prop} {Q : Exit → Act → World → Prop} {w' : World} (h : (execOp a.eval o).run P w = .ok .skip w') (hK : K (a.put o.dst undef) w') :
    o.wp P a w K Q := by unfold Oper.wp; rw [h]; exact hK

/-! ### inversions -/
theorem DRep.int_inv {U : Nat → Prop} {H : Heap} {nx : Nat} {k : IntKind} {n : Int} {x : Value} (h : DRep w U β H nx (.p (.int k n)) x) : x = .int k n := by
  cases h with | p _ _ h => cases h; rfl
theorem DRep.bool_inv {U : Nat → Prop} {H : Heap} {nx : Nat} {b : Bool} {x : Value} (h : DRep w U β H nx (.p (.bool b)) x) : x = .bool b := by
  cases h with | p _ _ h => cases h; rfl
theorem DRep.str_inv {U : Nat → Prop} {H : Heap} {nx : Nat} {b : ByteArray} {x : Value} (h : DRep w U β H nx (.p (.str b)) x) : x = .string b := by
  cases h with | p _ _ h => cases h; rfl

/-! ### binary operations -/
theorem intBin_ok {op : BinOp} {k : IntKind} {x y : Int} {r : PV} (h : intBin op k x y = some r) (t : TypeId) (U : Nat → Prop) :
    ∃ v, (binOp op t (.int k x) (.int k y)).run P w = .ok v w ∧ PRep w U r v := by
  cases op <;> simp only [intBin, Option.some.injEq] at h
  case quo =>
    split at h
    · cases h
    · rename_i hy; cases h
      exact ⟨_, by simp [binOp, Op.intDiv, hy], .int _ _⟩
  case rem =>
    split at h
    · cases h
    · rename_i hy; cases h
      exact ⟨_, by simp [binOp, Op.intDiv, hy], .int _ _⟩
  case shl => cases h
  case shr => cases h
  case andNot => cases h
  all_goals subst h
  case add => exact ⟨_, by simp [binOp, Op.intArith], .int _ _⟩
  case sub => exact ⟨_, by simp [binOp, Op.intArith], .int _ _⟩
  case mul => exact ⟨_, by simp [binOp, Op.intArith], .int _ _⟩
  case and => exact ⟨_, by simp [binOp, intBits_and], .int _ _⟩
  case or => exact ⟨_, by simp [binOp, intBits_or], .int _ _⟩
  case xor => exact ⟨_, by simp [binOp, intBits_xor], .int _ _⟩
  all_goals exact ⟨_, by simp [binOp, Op.intCmp], .bool _⟩

theorem binPV_ok {op : BinOp} {v u : DV} {r : PV} (h : binPV op v u = some r) {U : Nat → Prop} {H : Heap} {nx : Nat} {x y : Value} (hx : DRep w U β H nx v x) (hy : DRep w U β H nx u y)
    (t : TypeId) (xo yo : Operand) : ∃ z, (do eqGuard op t xo yo x y; binOp op t x y : Sem Value).run P w = .ok z w ∧ PRep w U r z := by
  unfold binPV at h
  split at h
  · rename_i k n k' n'
    obtain rfl := hx.int_inv
    obtain rfl := hy.int_inv
    simp only [eqGuard_at_int, Sem.run_bind, Sem.run_pure, Result.andThen_ok]
    split at h
    · split at h
      · cases h
      · rename_i hn; cases h
        exact ⟨_, by simp [binOp, Op.shift, hn], .int _ _⟩
    · split at h
      · cases h
      · rename_i hn; cases h
        exact ⟨_, by simp [binOp, Op.shift, hn], .int _ _⟩
    · split at h
      · rename_i hk; subst hk; exact intBin_ok h t U
      · cases h
  · rename_i b b'
    obtain rfl := hx.str_inv
    obtain rfl := hy.str_inv
    simp only [eqGuard_at_string, Sem.run_bind, Sem.run_pure, Result.andThen_ok]
    cases op <;> simp only [bytesCmp] at h
    case add =>
      split at h
      · rename_i hl; cases h
        have : ¬ (((b.size + b'.size : Nat) : Int) > IntKind.i64.max) := by rw [IntKind.max_i64]; omega
        exact ⟨_, by simp only [binOp, Op.stringOp]; rw [if_neg this]; rfl, .str _⟩
      · cases h
    all_goals (first | (cases h; done) | (simp only [Option.some.injEq] at h; subst h; exact ⟨_, by simp [binOp, Op.stringOp], .bool _⟩))
  · cases h

end
end Go.Dv
