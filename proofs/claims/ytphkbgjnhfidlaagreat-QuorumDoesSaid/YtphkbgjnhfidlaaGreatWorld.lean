/-
  Rows of cells in the model's memory: loading, storing, new rows, as equations of runs.
-/
import Derived.Test.YtphkbgjnhfidlaaGreatMem
import Derived.Laws.World
set_option linter.unusedVariables false
set_option linter.unusedSimpArgs false
namespace Go.Dv
open Go.RowKit

theorem cell_of_heap {w : World} {b o : Nat} {arr : Array Value} {T : TypeId} {fz : Nat × Nat} {v : Value} (hb : w.heap[b]? = some (.cells arr T fz)) (ha : arr[o]? = some v) :
    w.cell? ⟨b, o, none⟩ = some v := by simp [World.cell?, hb, ha]

theorem free_of_heap {w : World} {b o : Nat} {arr : Array Value} {T : TypeId} (hb : w.heap[b]? = some (.cells arr T (0, 0))) : w.frozen? ⟨b, o, none⟩ = false := by
  simp [World.frozen?, hb]

theorem add_off (b o n : Nat) : Addr.add ⟨b, o, none⟩ n = ⟨b, o + n, none⟩ := by
  unfold Addr.add
  split
  · subst_vars; rfl
  · rfl

theorem run_loadCellsFrom {P : Program} {w : World} {b : Nat} {arr : Array Value} {T : TypeId} {fz : Nat × Nat} (hb : w.heap[b]? = some (.cells arr T fz)) (off : Nat) :
    ∀ (n i : Nat) (acc : Array Value), off + i + n ≤ arr.size → (loadCellsFrom ⟨b, off, none⟩ i n acc).run P w = .ok (acc ++ arr.extract (off + i) (off + i + n)) w := by
  intro n
  induction n with
  | zero => intro i acc h; simp [loadCellsFrom]; omega
  | succ n ih =>
    intro i acc h
    have hlt : off + i < arr.size := by omega
    have hc : w.cell? (Addr.add ⟨b, off, none⟩ i) = some arr[off + i] := by
      rw [add_off]; exact cell_of_heap hb (by simp [hlt])
    simp only [loadCellsFrom, Sem.run_bind, run_load, hc, Result.andThen_ok]
    rw [ih (i + 1) _ (by omega)]
    congr 1
    apply Array.ext'
    simp only [Array.toList_append, Array.toList_push, Array.toList_extract, List.append_assoc, List.extract_eq_take_drop]
    congr 1
    rw [show off + i + (n + 1) - (off + i) = n + 1 from by omega, show off + (i + 1) + n - (off + (i + 1)) = n from by omega]
    have e : off + (i + 1) = off + i + 1 := by omega
    rw [e, List.drop_eq_getElem_cons (i := off + i) (by simpa using hlt)]
    simp

theorem run_loadCells {P : Program} {w : World} {b off n : Nat} {arr : Array Value} {T : TypeId} {fz : Nat × Nat} (hb : w.heap[b]? = some (.cells arr T fz)) (h : off + n ≤ arr.size) :
    (loadCells ⟨b, off, none⟩ n).run P w = .ok (arr.extract off (off + n)) w := by
  rw [loadCells, run_loadCellsFrom hb off n 0 #[] (by omega)]
  simp

def setArr (w : World) (b : Nat) (arr : Array Value) (T : TypeId) (fz : Nat × Nat) : World := { w with heap := w.heap.setIfInBounds b (.cells arr T fz) }

def writeAt (arr : Array Value) (o : Nat) : List Value → Array Value
  | [] => arr
  | v :: r => writeAt (arr.setIfInBounds o v) (o + 1) r

theorem size_writeAt (l : List Value) : ∀ (arr : Array Value) (o : Nat), (writeAt arr o l).size = arr.size := by
  induction l with
  | nil => intro arr o; rfl
  | cons v r ih => intro arr o; simp [writeAt, ih]

theorem get_writeAt (l : List Value) : ∀ (arr : Array Value) (o k : Nat), o + l.length ≤ arr.size →
    (writeAt arr o l)[k]? = if o ≤ k ∧ k < o + l.length then l[k - o]? else arr[k]? := by
  induction l with
  | nil =>
    intro arr o k h
    have : ¬ (o ≤ k ∧ k < o + ([] : List Value).length) := by simp
    rw [if_neg this]; rfl
  | cons v r ih =>
    intro arr o k h
    simp only [List.length_cons] at h ⊢
    simp only [writeAt]
    rw [ih _ _ _ (by simp; omega)]
    by_cases h1 : o + 1 ≤ k ∧ k < o + 1 + r.length
    · rw [if_pos h1, if_pos ⟨by omega, by omega⟩]
      obtain ⟨j, rfl⟩ : ∃ j, k = o + 1 + j := ⟨k - (o + 1), by omega⟩
      rw [show o + 1 + j - (o + 1) = j from by omega, show o + 1 + j - o = j + 1 from by omega]
      simp
    · rw [if_neg h1]
      by_cases h2 : k = o
      · subst h2
        have hk : k < arr.size := by omega
        rw [if_pos ⟨by omega, by omega⟩]
        simp [hk]
      · rw [if_neg (by omega)]
        rw [Array.getElem?_setIfInBounds_ne (by omega)]

theorem heap_setArr (w : World) (b : Nat) (arr : Array Value) (T : TypeId) (fz : Nat × Nat) (k : Nat) :
    (setArr w b arr T fz).heap[k]? = if b = k ∧ b < w.heap.size then some (.cells arr T fz) else w.heap[k]? := by
  simp only [setArr]
  by_cases h : b = k
  · subst h
    by_cases h2 : b < w.heap.size
    · simp [h2]
    · simp [h2]
  · rw [Array.getElem?_setIfInBounds_ne h, if_neg (fun e => h e.1)]

theorem setArr_self {w : World} {b : Nat} {arr : Array Value} {T : TypeId} {fz : Nat × Nat} (hb : w.heap[b]? = some (.cells arr T fz)) : setArr w b arr T fz = w := by
  have hlt := lt_of_heap hb
  have : w.heap.setIfInBounds b (.cells arr T fz) = w.heap := by
    apply Array.ext_getElem?
    intro i
    by_cases h : b = i
    · subst h
      rw [hb]; simp [hlt]
    · rw [Array.getElem?_setIfInBounds_ne h]
  simp only [setArr, this]

theorem setCell_setArr {w : World} {b : Nat} {arr : Array Value} {T : TypeId} {fz : Nat × Nat} (hb : w.heap[b]? = some (.cells arr T fz)) (o : Nat) (v : Value) :
    w.setCell ⟨b, o, none⟩ v = setArr w b (arr.setIfInBounds o v) T fz := by
  have hlt := lt_of_heap hb
  simp only [World.setCell, setArr]
  congr 1
  apply Array.ext_getElem?
  intro i
  rw [Array.getElem?_modify]
  by_cases h : b = i
  · subst h; rw [hb]; simp [hlt]
  · simp [h]

theorem setArr_setArr (w : World) (b : Nat) (arr arr' : Array Value) (T T' : TypeId) (fz fz' : Nat × Nat) : setArr (setArr w b arr T fz) b arr' T' fz' = setArr w b arr' T' fz' := by
  simp [setArr]

theorem run_storeCells {P : Program} {b off : Nat} {T : TypeId} (vs : List Value) : ∀ (i : Nat) (w : World) (arr : Array Value), w.heap[b]? = some (.cells arr T (0, 0)) →
    (∀ v ∈ vs, v.oneCell' = true) → off + i + vs.length ≤ arr.size →
    (storeCells ⟨b, off, none⟩ vs i).run P w = .ok () (setArr w b (writeAt arr (off + i) vs) T (0, 0)) := by
  induction vs with
  | nil => intro i w arr hb _ _; simp only [storeCells, Sem.run_pure, writeAt]; rw [setArr_self hb]
  | cons v r ih =>
    intro i w arr hb h1 hn
    simp only [List.length_cons] at hn
    have hlt : off + i < arr.size := by omega
    have hc : w.cell? (Addr.add ⟨b, off, none⟩ i) = some arr[off + i] := by rw [add_off]; exact cell_of_heap hb (by simp [hlt])
    have hf : w.frozen? (Addr.add ⟨b, off, none⟩ i) = false := by rw [add_off]; exact free_of_heap hb
    simp only [storeCells, Sem.run_bind, run_store P w _ v _ (h1 v (by simp)), hc, hf, Bool.false_eq_true, if_false, Result.andThen_ok]
    rw [add_off, setCell_setArr hb]
    have hlt2 := lt_of_heap hb
    rw [ih (i + 1) _ (arr.setIfInBounds (off + i) v) (by rw [heap_setArr, if_pos ⟨rfl, hlt2⟩]) (fun x hx => h1 x (by simp [hx])) (by simp; omega)]
    rw [setArr_setArr]
    rfl

theorem below_setArr {w : World} {B b : Nat} {arr : Array Value} {T : TypeId} {fz : Nat × Nat} (h : B ≤ b) : Below B w (setArr w b arr T fz) := by
  refine ⟨⟨rfl, rfl, rfl, by simp [setArr], fun k hk => ?_⟩, Nat.le_refl _⟩
  rw [heap_setArr, if_neg (fun e => by omega)]

theorem below_alloc {w : World} {B : Nat} (h : B ≤ w.heap.size) (o : Obj) : Below B w (w.alloc o) := (Below.refl B w).alloc h o

theorem heap_alloc (w : World) (o : Obj) (k : Nat) : (w.alloc o).heap[k]? = if k = w.heap.size then some o else w.heap[k]? := by
  simp only [World.alloc]
  rw [Array.getElem?_push]

theorem below_drew (B : Nat) (w : World) : Below B w w.drew := (Below.refl B w).drew

end Go.Dv
