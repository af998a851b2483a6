/-
  Operations, part 2: loads, stores, addresses, own blocks.
-/
import Derived.Test.YtphkbgjnhfidlaaGreatOps
set_option linter.unusedVariables false
set_option linter.unusedSimpArgs false
namespace Go.Dv
open Go.RowKit

theorem getD_extract (arr : Array Value) (off n j : Nat) (h : j < n) (h2 : off + n ≤ arr.size) : (arr.extract off (off + n)).getD j undef = arr.getD (off + j) undef := by
  have h4 : j < min (off + n) arr.size - off := by omega
  rw [Array.getD_eq_getD_getElem?, Array.getD_eq_getD_getElem?, Array.getElem?_extract, if_pos h4]

theorem getD_of {arr : Array Value} {j : Nat} {v : Value} (h : arr[j]? = some v) : arr.getD j undef = v := by simp [Array.getD_eq_getD_getElem?, h]

theorem get?_of_lt {arr : Array Value} {j : Nat} (h : j < arr.size) : arr[j]? = some (arr.getD j undef) := by simp [h]

theorem lt_of_get? {α : Type} {l : List α} {j : Nat} {v : α} (h : l[j]? = some v) : j < l.length := by
  rcases Nat.lt_or_ge j l.length with h' | h'
  · exact h'
  · simp [List.getElem?_eq_none h'] at h

section
variable {P : Program} {w : World}

theorem run_sizeOf {t : TypeId} {n : Nat} (h : sizeIs P t n = true) (w : World) : (sizeOf t).run P w = .ok n w := by
  unfold sizeIs at h
  split at h
  · rename_i i hi; simp at h; simp [sizeOf, typeInfo, hi, h]
  · cases h

theorem run_isAgg {t : TypeId} {b : Bool} (h : isAggT P t = some b) (w : World) : (isAgg t).run P w = .ok b w := by
  unfold isAggT at h
  split at h
  · rename_i hu; cases h; simp [isAgg, run_underlying hu]
  · rename_i hu; cases h; simp [isAgg, run_underlying hu]
  · rename_i d h1 h2 hu; cases h
    simp only [isAgg, Sem.run_bind, run_underlying hu, Result.andThen_ok]
    rfl
  · cases h

theorem aggOK_none {t : TypeId} (h : aggOK P t none = true) : isAggT P t = some false := by
  unfold aggOK at h
  simp only at h
  split at h
  · assumption
  · cases h

theorem aggOK_some {t : TypeId} {n : Nat} (h : aggOK P t (some n) = true) : isAggT P t = some true ∧ sizeIs P t n = true ∧ 0 < n := by
  unfold aggOK at h
  simp only [Bool.and_eq_true, decide_eq_true_eq] at h
  refine ⟨?_, h.1.2, h.2⟩
  have := h.1.1
  split at this
  · assumption
  · cases this

theorem run_loadAt_scalar {t : TypeId} {b off : Nat} {arr : Array Value} {T : TypeId} {fz : Nat × Nat} {v : Value} (hb : w.heap[b]? = some (.cells arr T fz)) (hv : arr[off]? = some v)
    (ht : isAggT P t = some false) : (Instr.loadAt t (.pointer (some ⟨b, off, none⟩))).run P w = .ok v w := by
  simp [Instr.loadAt, Instr.sureAddr, loadVar, run_isAgg ht, cell_of_heap hb hv]

theorem run_loadAt_agg {t : TypeId} {b off n : Nat} {arr : Array Value} {T : TypeId} {fz : Nat × Nat} (hb : w.heap[b]? = some (.cells arr T fz)) (hn : off + n ≤ arr.size)
    (ht : isAggT P t = some true) (hs : sizeIs P t n = true) : (Instr.loadAt t (.pointer (some ⟨b, off, none⟩))).run P w = .ok (.agg (arr.extract off (off + n))) w := by
  simp [Instr.loadAt, Instr.sureAddr, loadVar, run_isAgg ht, run_sizeOf hs, run_loadCells hb hn]

theorem run_storeAt {t : TypeId} {b off n : Nat} {arr : Array Value} {T : TypeId} {v : Value} (hb : w.heap[b]? = some (.cells arr T (0, 0))) (hs : sizeIs P t n = true)
    (hc : v.cells.size = n) (h1 : ∀ x ∈ v.cells.toList, x.oneCell' = true) (hn : off + n ≤ arr.size) :
    (Instr.storeAt t (.pointer (some ⟨b, off, none⟩)) v).run P w = .ok () (setArr w b (writeAt arr off v.cells.toList) T (0, 0)) := by
  have := run_storeCells (P := P) (b := b) (off := off) (T := T) v.cells.toList 0 w arr hb h1 (by simp; omega)
  simp only [Instr.storeAt, Instr.sureAddr, storeVar, Sem.run_bind, Sem.run_pure, Result.andThen_ok, run_sizeOf hs, hc, ne_eq, not_true_eq_false, if_false, this]
  rfl

end

section
variable {U : Nat → Prop} {β : Place} {H : Heap} {nx : Nat} {w : World}

theorem takeDrop_some {α : Type} {cs l : List α} {off n : Nat} (h : takeDrop cs off n = some l) : l = (cs.drop off).take n ∧ off + n ≤ cs.length ∨ n = 0 ∧ l = [] := by
  unfold takeDrop at h
  simp only at h
  split at h
  · rename_i hl
    cases h
    simp at hl
    by_cases h0 : n = 0
    · right; subst h0; simp
    · left; exact ⟨rfl, by omega⟩
  · cases h

theorem cells_ok {d : DV} {l : List DV} (h : d.cells = some l) {x : Value} (hd : DRep w U β H nx d x) :
    x.cells.size = l.length ∧ ∀ j y, l[j]? = some y → DRep w U β H nx y (x.cells.getD j undef) ∧ (x.cells.getD j undef).oneCell' = true := by
  have single : d.isCell = true → l = [d] → x.cells = #[x] → x.cells.size = l.length ∧ ∀ j y, l[j]? = some y → DRep w U β H nx y (x.cells.getD j undef) ∧ (x.cells.getD j undef).oneCell' = true := by
    intro hc hl hx
    rw [hx, hl]
    refine ⟨rfl, fun j y hy => ?_⟩
    cases j with
    | zero => simp only [List.getElem?_cons_zero, Option.some.injEq] at hy; subst hy; exact ⟨hd, hd.oneCell hc⟩
    | succ j => simp at hy
  cases hd with
  | agg cs vs hl h1 hr =>
    simp only [DV.cells, Option.some.injEq] at h; subst h
    exact ⟨hl, fun j y hy => ⟨hr j y hy, h1 j y hy⟩⟩
  | tuple => simp [DV.cells, DV.isCell] at h
  | p v x hp =>
    simp only [DV.cells] at h
    split at h
    · rename_i hc
      cases h
      refine single hc rfl ?_
      cases hp <;> first | rfl | simp [DV.isCell, PV.isCell] at hc
    · cases h
  | ref id ver off n v hid hc hh =>
    simp only [DV.cells, DV.isCell, if_true, Option.some.injEq] at h
    refine single rfl h.symm ?_
    cases x <;> first | rfl | simp [Value.oneCell'] at hc
  | ptr id off v hid hc hh =>
    simp only [DV.cells, DV.isCell, if_true, Option.some.injEq] at h
    refine single rfl h.symm ?_
    cases x <;> first | rfl | simp [Value.oneCell'] at hc
  | eptr id ver i off v hid hc hh =>
    simp only [DV.cells, DV.isCell, if_true, Option.some.injEq] at h
    refine single rfl h.symm ?_
    cases x <;> first | rfl | simp [Value.oneCell'] at hc
  | func f caps vs hl hr =>
    simp only [DV.cells, DV.isCell, if_true, Option.some.injEq] at h
    exact single rfl h.symm rfl

theorem pcells_ok {p : PV} {l : List PV} (h : p.cellsOf = some l) {x : Value} (hd : PRep w U p x) :
    x.cells.size = l.length ∧ ∀ j y, l[j]? = some y → PRep w U y (x.cells.getD j undef) ∧ (x.cells.getD j undef).oneCell' = true := by
  have single : p.isCell = true → l = [p] → x.cells = #[x] → x.cells.size = l.length ∧ ∀ j y, l[j]? = some y → PRep w U y (x.cells.getD j undef) ∧ (x.cells.getD j undef).oneCell' = true := by
    intro hc hl hx
    rw [hx, hl]
    refine ⟨rfl, fun j y hy => ?_⟩
    cases j with
    | zero => simp only [List.getElem?_cons_zero, Option.some.injEq] at hy; subst hy; exact ⟨hd, hd.oneCell hc⟩
    | succ j => simp at hy
  cases hd with
  | agg cs vs hl h1 hr =>
    simp only [PV.cellsOf, Option.some.injEq] at h; subst h
    exact ⟨hl, fun j y hy => ⟨hr j y hy, h1 j y hy⟩⟩
  | tuple => simp [PV.cellsOf, PV.isCell] at h
  | undef => simp [PV.cellsOf, PV.isCell] at h
  | int => simp only [PV.cellsOf, PV.isCell, if_true, Option.some.injEq] at h; exact single rfl h.symm rfl
  | bool => simp only [PV.cellsOf, PV.isCell, if_true, Option.some.injEq] at h; exact single rfl h.symm rfl
  | str => simp only [PV.cellsOf, PV.isCell, if_true, Option.some.injEq] at h; exact single rfl h.symm rfl
  | none => simp only [PV.cellsOf, PV.isCell, if_true, Option.some.injEq] at h; exact single rfl h.symm rfl
  | slice => simp only [PV.cellsOf, PV.isCell, if_true, Option.some.injEq] at h; exact single rfl h.symm rfl
  | vptr => simp only [PV.cellsOf, PV.isCell, if_true, Option.some.injEq] at h; exact single rfl h.symm rfl
  | func => simp only [PV.cellsOf, PV.isCell, if_true, Option.some.injEq] at h; exact single rfl h.symm rfl
  | z => simp only [PV.cellsOf, PV.isCell, if_true, Option.some.injEq] at h; exact single rfl h.symm rfl

end

def CellsAt (w : World) (x : Value) (n : Nat) (R : Nat → Value → Prop) : Prop :=
  ∃ b off arr T fz, x = .pointer (some ⟨b, off, none⟩) ∧ w.heap[b]? = some (.cells arr T fz) ∧ off + n ≤ arr.size ∧ ∀ j, j < n → (arr.getD (off + j) undef).oneCell' = true ∧ R j (arr.getD (off + j) undef)

section
variable {P : Program} {B : Nat} {w0 : World} {U0 : Nat → Prop} {β : Place} {H : Heap} {nx : Nat} {w : World}

theorem load_scalar {x : Value} {n : Nat} {R : Nat → Value → Prop} (h : CellsAt w x n R) (hn : 0 < n) {t : TypeId} (ht : isAggT P t = some false) :
    ∃ v, (Instr.loadAt t x).run P w = .ok v w ∧ R 0 v := by
  obtain ⟨b, off, arr, T, fz, rfl, hb, hs, hR⟩ := h
  exact ⟨_, run_loadAt_scalar hb (get?_of_lt (j := off) (by omega)) ht, (hR 0 hn).2⟩

theorem load_agg {x : Value} {n : Nat} {R : Nat → Value → Prop} (h : CellsAt w x n R) {t : TypeId} (ht : isAggT P t = some true) (hs : sizeIs P t n = true) :
    ∃ vs : Array Value, (Instr.loadAt t x).run P w = .ok (.agg vs) w ∧ vs.size = n ∧ ∀ j, j < n → (vs.getD j undef).oneCell' = true ∧ R j (vs.getD j undef) := by
  obtain ⟨b, off, arr, T, fz, rfl, hb, hl, hR⟩ := h
  refine ⟨_, run_loadAt_agg hb hl ht hs, by simp; omega, fun j hj => ?_⟩
  rw [getD_extract _ _ _ _ hj hl]
  exact hR j hj

theorem ptr_cells {id off : Nat} {fz : Bool} {cs : List DV} (m : Mem B w0 U0 β H nx w) (hH : aget H id = some (.var fz cs)) {x : Value} (hx : DRep w (Own U0 β H) β H nx (.ptr id off) x)
    {n : Nat} (hn : off + n ≤ cs.length) : CellsAt w x n (fun j v => ∀ d, cs[off + j]? = some d → DRep w (Own U0 β H) β H nx d v) := by
  cases hx with
  | ptr _ _ _ hid hc h =>
    obtain ⟨b, c, hb, rfl⟩ := h _ _ hH
    obtain ⟨b', c', arr, T, h1, h2, h3, h4, h5, h6⟩ := m.h.blk id _ hH
    rw [hb] at h1; simp only [Option.some.injEq, Prod.mk.injEq] at h1; obtain ⟨rfl, rfl⟩ := h1
    refine ⟨b, off, arr, T, (0, 0), rfl, h3, by omega, fun j hj => ?_⟩
    have hlt : off + j < cs.length := by omega
    have hc := List.getElem?_eq_getElem hlt
    exact ⟨h5 _ _ hc, fun d hd => h6 _ _ hd⟩

theorem vptr_cells {U : Nat → Prop} {cs : List PV} {x : Value} (hx : PRep w U (.vptr cs) x) {n : Nat} (hn : n ≤ cs.length) (h0 : 0 < n) :
    CellsAt w x n (fun j v => ∀ d, cs[j]? = some d → PRep w U d v) := by
  cases hx with
  | vptr _ b o arr T fz vs hb hu hv h1 hr =>
    have key : ∀ j, j < n → arr.getD (o + j) undef = vs j := fun j hj => getD_of (hv j _ (List.getElem?_eq_getElem (by omega)))
    refine ⟨b, o, arr, T, fz, rfl, hb, ?_, fun j hj => ?_⟩
    · have := hv (n - 1) _ (List.getElem?_eq_getElem (by omega))
      rcases Nat.lt_or_ge (o + (n - 1)) arr.size with h' | h'
      · omega
      · rw [Array.getElem?_eq_none h'] at this; cases this
    · rw [key j hj]
      have hc : cs[j]? = some (cs[j]'(by omega)) := List.getElem?_eq_getElem (by omega)
      exact ⟨h1 j _ hc, fun d hd => hr j d hd⟩

theorem eptr_cells {id ver i off : Nat} {fz : Bool} {sz : Nat} {xs : List (List PV)} {y : List PV} (m : Mem B w0 U0 β H nx w) (hH : aget H id = some (.row fz sz xs)) (hver : ver = xs.length)
    (hi : xs[i]? = some y) {x : Value} (hx : DRep w (Own U0 β H) β H nx (.eptr id ver i off) x) {n : Nat} (hn : off + n ≤ y.length) (h0 : 0 < n) :
    CellsAt w x n (fun j v => ∀ d, y[off + j]? = some d → PRep w (Own U0 β H) d v) := by
  cases hx with
  | eptr _ _ _ _ _ hid hc h =>
    obtain ⟨b, c, hb, rfl⟩ := (h _ _ _ hH).2 hver (lt_of_get? hi)
    rcases m.h.blk id _ hH with ⟨hx0, hn0⟩ | ⟨b', cap', arr, T, h1, h2, h3, h4, h5, h6, vs, h7, h8, h9⟩
    · rw [hb] at hn0; cases hn0
    · rw [hb] at h1; simp only [Option.some.injEq, Prod.mk.injEq] at h1; obtain ⟨rfl, rfl⟩ := h1
      have key : ∀ j, j < n → arr[i * sz + off + j]? = some (vs i (off + j)) := fun j hj => by
        have := h7 i y (off + j) _ hi (List.getElem?_eq_getElem (by omega))
        rw [← Nat.add_assoc] at this; exact this
      refine ⟨b, i * sz + off, arr, T, (0, 0), rfl, h3, ?_, fun j hj => ?_⟩
      · have := key (n - 1) (by omega)
        rcases Nat.lt_or_ge (i * sz + off + (n - 1)) arr.size with h' | h'
        · omega
        · rw [Array.getElem?_eq_none h'] at this; cases this
      · rw [getD_of (key j hj)]
        have hc : y[off + j]? = some (y[off + j]'(by omega)) := List.getElem?_eq_getElem (by omega)
        exact ⟨h8 i y _ _ hi hc, fun d hd => h9 i y _ d hi hd⟩

end
end Go.Dv
