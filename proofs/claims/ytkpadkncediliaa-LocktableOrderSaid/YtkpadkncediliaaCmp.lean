/-
  strings.Compare: the shelf's contract, at the data level.
-/
import Derived.Test.YtkpadkncediliaaStr
import Derived.Shelf.Small.Strs
set_option linter.unusedVariables false
set_option linter.unusedSimpArgs false
namespace Go.Dv
open Go.RowKit Go.Shelf Go.Proofs

def cmpS (a b : ByteArray) : Int := Lib.compareBytes a.data.toList b.data.toList

theorem compareBytes_lt : ∀ a b : List UInt8, Lib.compareBytes a b < 0 ↔ a < b
  | [], [] => by simp [Lib.compareBytes]
  | [], _ :: _ => by simp [Lib.compareBytes]
  | _ :: _, [] => by simp [Lib.compareBytes]
  | x :: xs, y :: ys => by
    have ih := compareBytes_lt xs ys
    simp only [Lib.compareBytes, List.cons_lt_cons_iff]
    by_cases h : x < y
    · simp [h]
    · by_cases h2 : y < x
      · have : x ≠ y := fun e => by subst e; exact h h2
        simp [h, h2, this]
      · have e : x = y := by
          have h1 := UInt8.not_lt.1 h
          have h3 := UInt8.not_lt.1 h2
          exact UInt8.le_antisymm h3 h1
        subst e
        simp [h, ih]
theorem compareBytes_eq : ∀ a b : List UInt8, Lib.compareBytes a b = 0 ↔ a = b
  | [], [] => by simp [Lib.compareBytes]
  | [], _ :: _ => by simp [Lib.compareBytes]
  | _ :: _, [] => by simp [Lib.compareBytes]
  | x :: xs, y :: ys => by
    have ih := compareBytes_eq xs ys
    simp only [Lib.compareBytes, List.cons.injEq]
    by_cases h : x < y
    · have : x ≠ y := fun e => by subst e; exact UInt8.lt_irrefl _ h
      simp [h, this]
    · by_cases h2 : y < x
      · have : x ≠ y := fun e => by subst e; exact h h2
        simp [h, h2, this]
      · have e : x = y := by
          have h1 := UInt8.not_lt.1 h
          have h3 := UInt8.not_lt.1 h2
          exact UInt8.le_antisymm h3 h1
        subst e
        simp [h, ih]

theorem cmpS_lt (a b : ByteArray) : cmpS a b < 0 ↔ slt a b = true := by
  rw [slt_iff]; exact compareBytes_lt _ _
theorem cmpS_eq (a b : ByteArray) : cmpS a b = 0 ↔ a = b := by
  unfold cmpS
  rw [compareBytes_eq]
  constructor
  · intro h
    have : a.data = b.data := Array.toList_inj.1 h
    cases a; cases b; simp_all
  · intro h; rw [h]
theorem compareBytes_rng : ∀ a b : List UInt8, Lib.compareBytes a b = -1 ∨ Lib.compareBytes a b = 0 ∨ Lib.compareBytes a b = 1
  | [], [] => by simp [Lib.compareBytes]
  | [], _ :: _ => by simp [Lib.compareBytes]
  | _ :: _, [] => by simp [Lib.compareBytes]
  | x :: xs, y :: ys => by
    have ih := compareBytes_rng xs ys
    simp only [Lib.compareBytes]
    split
    · simp
    · split
      · simp
      · exact ih
theorem cmpS_rng (a b : ByteArray) : cmpS a b = -1 ∨ cmpS a b = 0 ∨ cmpS a b = 1 := compareBytes_rng _ _

def cmpStrX (F : FuncId) : CallF where
  pure := fun f args => if f = F then match args with
      | [.str a, .str b] => some (.int .i64 (cmpS a b))
      | _ => none
    else none
  byref := fun _ _ _ _ => none

theorem cmpStrX_ok {P : Program} {ρ : Ren} (L : Lays.n106 P ρ) {F : FuncId} (hF : ρ.f 106 = F) (hcal : Callable P F) : CallsOK P (cmpStrX F) := by
  refine ⟨fun f args r h => ?_, fun f args H nx r H' nx' h => (by cases h)⟩
  simp only [cmpStrX] at h
  split at h
  · rename_i e; subst e
    split at h
    · rename_i a b
      cases h
      refine ⟨hcal, fun U w vs hU hvs hrep => ?_⟩
      have hvs1 : vs = #[vs.getD 0 undef, vs.getD 1 undef] := by
        apply Array.ext
        · simpa using hvs
        · intro i h1 h2
          have hi : i = 0 ∨ i = 1 := by simp at h2; omega
          rcases hi with rfl | rfl <;> simp [h1]
      have h0 := hrep 0 _ rfl
      have h1 := hrep 1 _ rfl
      rw [hvs1]
      generalize vs.getD 0 undef = v at h0
      generalize vs.getD 1 undef = u at h1
      cases h0; cases h1
      subst hF
      refine (Any.strings_Compare L a b w).mono ?_
      rintro e w' ⟨rfl, rfl⟩
      exact ⟨_, rfl, .int _ _, Below.refl _ _⟩
    · cases h
  · cases h

end Go.Dv
