/-
  slices.Sort of ints in a call's own memory: the shelf's contract, as a contract at the data level.
-/
import Derived.Test.YtkpadkncediliaaSort
set_option linter.unusedVariables false
set_option linter.unusedSimpArgs false
namespace Go.Dv
open Go.RowKit Go.Shelf Go.Sort Go.Proofs

section
variable {P : Program}

theorem callI {ρ : Ren} (L : Lays.n189 P ρ) : Callable P (ρ.f 189) := callable_of (f := ρ.f 189) (fn := Body.n189 ρ) L.f189 (by kernel_rfl) (by kernel_rfl)

def sortInt (l : List Int) : List Int := l.mergeSort fun x y => decide (x ≤ y)

def intCells (l : List Int) : List (List PV) := l.map fun z => [.int .i64 z]

theorem sortInts_ok {ρ : Ren} (L : Lays.n189 P ρ) (zs : List Int) (hlen : zs.length < 4611686018427387904) {id : Nat} {H : Heap} {nx : Nat} (hH : aget H id = some (.row false 1 (intCells zs))) :
    ByrefOK P (ρ.f 189) [.ref id zs.length 0 zs.length] H nx (.tuple []) (hset H id (.row false 1 (intCells (sortInt zs)))) nx := by
  have h1 : ∀ (b cap : Nat) (w : World), Holds (Value.int .i64) w b 0 zs.toArray → b < w.heap.size → Calls P (ρ.f 189) #[.slice (some ⟨b, 0, none⟩) zs.length cap] w fun e w' => e = .returned (.tuple #[]) ∧ ∃ n os, w' = grow (putRow (Value.int .i64) (Go.Sort.ahead w n) b 0 (sortInt zs).toArray) os :=
    fun b cap w hh hb => Any.slices_Sort_int L b 0 cap zs w hh hb hlen
  have hl : (sortInt zs).length = zs.length := by simp [sortInt]
  generalize sortInt zs = l' at h1 hl ⊢
  exact reorder_ok (P := P) (f := ρ.f 189) (callI L) (Value.int .i64) (fun x => PV.int .i64 x) (fun w U x => .int _ _) (fun x => rfl) (fun w U x v h => by cases h; rfl)
    zs l' hl (fun hl0 p cap w => Any.slices_Sort_int_none L p cap w) (fun _ => h1) hH

def intsOf : List (List PV) → Option (List Int)
  | [] => some []
  | [.int .i64 s] :: r => match intsOf r with
    | some q => some (s :: q)
    | none => none
  | _ => none

theorem intsOf_cells : ∀ l, intsOf (intCells l) = some l
  | [] => rfl
  | x :: l => by
    have h := intsOf_cells l
    simp only [intCells, List.map_cons, intsOf] at h ⊢
    rw [h]

theorem intsOf_some : ∀ {xs : List (List PV)} {l : List Int}, intsOf xs = some l → xs = intCells l
  | [], l, h => by simp only [intsOf, Option.some.injEq] at h; subst h; rfl
  | c :: r, l, h => by
    unfold intsOf at h
    split at h
    · rename_i heq; cases heq
    · rename_i s r' heq
      cases heq
      cases hr : intsOf r with
      | none => rw [hr] at h; cases h
      | some q => rw [hr] at h; simp only [Option.some.injEq] at h; subst h; rw [intsOf_some hr]; rfl
    · cases h

/-- slices.Sort of ints, function F. -/
def sortIntX (F : FuncId) : CallF where
  pure := fun _ _ => none
  byref := fun f args H nx => if f = F then match args with
      | [.ref id ver 0 n] => match aget H id with
        | some (.row false 1 xs) => match intsOf xs with
          | some l => if ver = l.length ∧ n = l.length ∧ l.length ≤ maxBytes then some (.tuple [], hset H id (.row false 1 (intCells (sortInt l))), nx) else none
          | none => none
        | _ => none
      | _ => none
    else none

theorem sortIntX_ok {ρ : Ren} (L : Lays.n189 P ρ) {F : FuncId} (hF : ρ.f 189 = F) : CallsOK P (sortIntX F) := by
  refine ⟨fun f args r h => (by cases h), fun f args H nx r H' nx' h => ?_⟩
  simp only [sortIntX] at h
  split at h
  · rename_i e; subst e
    split at h
    · rename_i id ver n
      split at h
      · rename_i xs hH
        split at h
        · rename_i l hl
          split at h
          · rename_i hc
            cases h
            obtain ⟨rfl, rfl, hm⟩ := hc
            rw [intsOf_some hl] at hH
            rw [← hF]
            exact sortInts_ok L l (by simp only [maxBytes] at hm; omega) hH
          · cases h
        · cases h
      · cases h
    · cases h
  · cases h

end
end Go.Dv
