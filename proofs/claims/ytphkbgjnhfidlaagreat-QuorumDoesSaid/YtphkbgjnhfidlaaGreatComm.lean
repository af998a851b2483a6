/-
  Operations of a drawn region that may change places.
-/
import Derived.Test.YtphkbgjnhfidlaaGreatOpsj
set_option linter.unusedVariables false
set_option linter.unusedSimpArgs false
namespace Go.Dv
open Go.RowKit

/-! ### an operation hangs on what it reads alone -/

theorem ev_congr {s s' : St} {x : DO} (h : ∀ k ∈ x.rd, aget s'.env k = aget s.env k) : s'.ev x = s.ev x := by
  cases x with
  | t k => exact h k (by simp [DO.rd])
  | c v => rfl

theorem evs_congr {s s' : St} : ∀ (xs : List DO), (∀ k ∈ xs.flatMap DO.rd, aget s'.env k = aget s.env k) → evs s' xs = evs s xs
  | [], _ => rfl
  | x :: r, h => by
    simp only [evs]
    rw [ev_congr (fun k hk => h k (by simp [hk])), evs_congr r (fun k hk => h k (by simp only [List.flatMap_cons, List.mem_append]; exact .inr hk))]

theorem evParts_congr {s s' : St} : ∀ (xs : List (Nat × Nat × DO)), (∀ k ∈ xs.flatMap (fun p => p.2.2.rd), aget s'.env k = aget s.env k) → evParts s' xs = evParts s xs
  | [], _ => rfl
  | (o, n, x) :: r, h => by
    simp only [evParts]
    rw [ev_congr (fun k hk => h k (by simp [hk])), evParts_congr r (fun k hk => h k (by simp only [List.flatMap_cons, List.mem_append]; exact .inr hk))]

theorem evIx_congr {s s' : St} : ∀ (xs : List (Nat × DO)), (∀ k ∈ xs.flatMap (fun p => p.2.rd), aget s'.env k = aget s.env k) → evIx s' xs = evIx s xs
  | [], _ => rfl
  | (o, x) :: r, h => by
    simp only [evIx]
    rw [ev_congr (fun k hk => h k (by simp [hk])), evIx_congr r (fun k hk => h k (by simp only [List.flatMap_cons, List.mem_append]; exact .inr hk))]

theorem evI_congr {s s' : St} {x : Option DO} (h : ∀ k ∈ rdO x, aget s'.env k = aget s.env k) (d : Int) : evI s' x d = evI s x d := by
  cases x with
  | none => rfl
  | some x => simp only [evI]; rw [ev_congr h]

theorem evB_congr {s s' : St} {x : Option DO} (h : ∀ k ∈ rdO x, aget s'.env k = aget s.env k) : evB s' x = evB s x := by
  cases x with
  | none => rfl
  | some x => simp only [evB]; rw [ev_congr h]

theorem dop_congr {cf : CallF} {d : DOp} {s s' : St} (he : ∀ k ∈ d.rd, aget s'.env k = aget s.env k) (hh : s'.heap = s.heap) (hn : s'.next = s.next) : dop cf d s' = dop cf d s := by
  cases d <;> simp only [DOp.rd, List.mem_append] at he
  case move x => simp only [dop, hh, hn, ev_congr he]
  case box x => simp only [dop, hh, hn, ev_congr he]
  case load n x => simp only [dop, hh, hn, ev_congr he]
  case nilCheck x => simp only [dop, hh, hn, ev_congr he]
  case un o x => simp only [dop, hh, hn, ev_congr he]
  case conv k x => simp only [dop, hh, hn, ev_congr he]
  case convS x => simp only [dop, hh, hn, ev_congr he]
  case fieldAddr o x => simp only [dop, hh, hn, ev_congr he]
  case field o n x => simp only [dop, hh, hn, ev_congr he]
  case extract x i => simp only [dop, hh, hn, ev_congr he]
  case len x => simp only [dop, hh, hn, ev_congr he]
  case lenS x => simp only [dop, hh, hn, ev_congr he]
  case isNil x => simp only [dop, hh, hn, ev_congr he]
  case clear z x => simp only [dop, hh, hn, ev_congr he]
  case cap x => simp only [dop, hh, hn, ev_congr he]
  case pick c a b =>
    have h1 := ev_congr (s := s) (s' := s') (x := c) fun k hk => he k (.inl (.inl hk))
    have h2 := ev_congr (s := s) (s' := s') (x := a) fun k hk => he k (.inl (.inr hk))
    have h3 := ev_congr (s := s) (s' := s') (x := b) fun k hk => he k (.inr hk)
    simp only [dop, hh, hn, h1]
    split
    · rename_i t _
      cases t
      · simp only [Bool.false_eq_true, if_false, h3]
      · simp only [if_true, h2]
    · rfl
  case alloc z => simp only [dop, hh, hn]
  case makeMap => simp only [dop, hh, hn]
  case arrIndex z a x => simp only [dop, hh, hn, ev_congr (s := s) (s' := s') (x := a) fun k hk => he k (.inl hk), ev_congr (s := s) (s' := s') (x := x) fun k hk => he k (.inr hk)]
  case lookup z a x => simp only [dop, hh, hn, ev_congr (s := s) (s' := s') (x := a) fun k hk => he k (.inl hk), ev_congr (s := s) (s' := s') (x := x) fun k hk => he k (.inr hk)]
  case mapSet a x v => simp only [dop, hh, hn, ev_congr (s := s) (s' := s') (x := a) fun k hk => he k (.inl (.inl hk)), ev_congr (s := s) (s' := s') (x := x) fun k hk => he k (.inl (.inr hk)), ev_congr (s := s) (s' := s') (x := v) fun k hk => he k (.inr hk)]
  case build z ps => simp only [dop, hh, hn, evParts_congr ps he]
  case buildSlice z l ps => simp only [dop, hh, hn, evIx_congr ps he]
  case store n a x => simp only [dop, hh, hn, ev_congr (s := s) (s' := s') (x := a) fun k hk => he k (.inl hk), ev_congr (s := s) (s' := s') (x := x) fun k hk => he k (.inr hk)]
  case bin o a x => simp only [dop, hh, hn, ev_congr (s := s) (s' := s') (x := a) fun k hk => he k (.inl hk), ev_congr (s := s) (s' := s') (x := x) fun k hk => he k (.inr hk)]
  case eqb o a x => simp only [dop, hh, hn, ev_congr (s := s) (s' := s') (x := a) fun k hk => he k (.inl hk), ev_congr (s := s) (s' := s') (x := x) fun k hk => he k (.inr hk)]
  case eqagg o f a x => simp only [dop, hh, hn, ev_congr (s := s) (s' := s') (x := a) fun k hk => he k (.inl hk), ev_congr (s := s) (s' := s') (x := x) fun k hk => he k (.inr hk)]
  case indexAddr n a x => simp only [dop, hh, hn, ev_congr (s := s) (s' := s') (x := a) fun k hk => he k (.inl hk), ev_congr (s := s) (s' := s') (x := x) fun k hk => he k (.inr hk)]
  case arrAddr l n a x => simp only [dop, hh, hn, ev_congr (s := s) (s' := s') (x := a) fun k hk => he k (.inl hk), ev_congr (s := s) (s' := s') (x := x) fun k hk => he k (.inr hk)]
  case index a x => simp only [dop, hh, hn, ev_congr (s := s) (s' := s') (x := a) fun k hk => he k (.inl hk), ev_congr (s := s) (s' := s') (x := x) fun k hk => he k (.inr hk)]
  case makeSlice z b a x => simp only [dop, hh, hn, ev_congr (s := s) (s' := s') (x := a) fun k hk => he k (.inl hk), ev_congr (s := s) (s' := s') (x := x) fun k hk => he k (.inr hk)]
  case append b z a x => simp only [dop, hh, hn, ev_congr (s := s) (s' := s') (x := a) fun k hk => he k (.inl hk), ev_congr (s := s) (s' := s') (x := x) fun k hk => he k (.inr hk)]
  case copy z a x => simp only [dop, hh, hn, ev_congr (s := s) (s' := s') (x := a) fun k hk => he k (.inl hk), ev_congr (s := s) (s' := s') (x := x) fun k hk => he k (.inr hk)]
  case slice z x lo hi mx =>
    simp only [dop, hh, hn, ev_congr (s := s) (s' := s') (x := x) fun k hk => he k (.inl (.inl (.inl hk))), evI_congr (s := s) (s' := s') (x := lo) fun k hk => he k (.inl (.inl (.inr hk))),
      evB_congr (s := s) (s' := s') (x := hi) fun k hk => he k (.inl (.inr hk)), evB_congr (s := s) (s' := s') (x := mx) fun k hk => he k (.inr hk)]
  case sliceS x lo hi =>
    simp only [dop, hh, hn, ev_congr (s := s) (s' := s') (x := x) fun k hk => he k (.inl (.inl hk)), evI_congr (s := s) (s' := s') (x := lo) fun k hk => he k (.inl (.inr hk)),
      evB_congr (s := s) (s' := s') (x := hi) fun k hk => he k (.inr hk)]
  case minmax b x xs => simp only [dop, hh, hn, ev_congr (s := s) (s' := s') (x := x) fun k hk => he k (.inl hk), evs_congr (s := s) (s' := s') xs fun k hk => he k (.inr hk)]
  case mkfunc f xs => simp only [dop, hh, hn, evs_congr xs he]
  case call b f xs => simp only [dop, hh, hn, evs_congr xs he]
  case callv b f xs => simp only [dop, hh, hn, ev_congr (s := s) (s' := s') (x := f) fun k hk => he k (.inl hk), evs_congr (s := s) (s' := s') xs fun k hk => he k (.inr hk)]

/-! ### more slots never hurt -/

def SubE (e e' : Env) : Prop := ∀ k d, aget e k = some d → aget e' k = some d

theorem ev_mono {s : St} {e' : Env} (he : SubE s.env e') {x : DO} {v : DV} (h : s.ev x = some v) : St.ev { s with env := e' } x = some v := by
  cases x with
  | t k => exact he k v h
  | c d => exact h

theorem evs_mono {s : St} {e' : Env} (he : SubE s.env e') : ∀ (xs : List DO) (l : List DV), evs s xs = some l → evs { s with env := e' } xs = some l
  | [], l, h => h
  | x :: r, l, h => by
    simp only [evs] at h ⊢
    cases hx : s.ev x with
    | none => rw [hx] at h; cases h
    | some v => cases hr : evs s r with
      | none => rw [hx, hr] at h; cases h
      | some q => rw [hx, hr] at h; rw [ev_mono he hx, evs_mono he r q hr]; exact h

theorem evParts_mono {s : St} {e' : Env} (he : SubE s.env e') : ∀ (xs : List (Nat × Nat × DO)) (l : List (Nat × Nat × DV)), evParts s xs = some l → evParts { s with env := e' } xs = some l
  | [], l, h => h
  | (o, n, x) :: r, l, h => by
    simp only [evParts] at h ⊢
    cases hx : s.ev x with
    | none => rw [hx] at h; cases h
    | some v => cases hr : evParts s r with
      | none => rw [hx, hr] at h; cases h
      | some q => rw [hx, hr] at h; rw [ev_mono he hx, evParts_mono he r q hr]; exact h

theorem evIx_mono {s : St} {e' : Env} (he : SubE s.env e') : ∀ (xs : List (Nat × DO)) (l : List (Nat × DV)), evIx s xs = some l → evIx { s with env := e' } xs = some l
  | [], l, h => h
  | (o, x) :: r, l, h => by
    simp only [evIx] at h ⊢
    cases hx : s.ev x with
    | none => rw [hx] at h; cases h
    | some v => cases hr : evIx s r with
      | none => rw [hx, hr] at h; cases h
      | some q => rw [hx, hr] at h; rw [ev_mono he hx, evIx_mono he r q hr]; exact h

theorem evI_mono {s : St} {e' : Env} (he : SubE s.env e') {x : Option DO} {d v : Int} (h : evI s x d = some v) : evI { s with env := e' } x d = some v := by
  cases x with
  | none => exact h
  | some x =>
    simp only [evI] at h ⊢
    cases hx : s.ev x with
    | none => rw [hx] at h; cases h
    | some u => rw [hx] at h; rw [ev_mono he hx]; exact h

theorem evB_mono {s : St} {e' : Env} (he : SubE s.env e') {x : Option DO} {v : Option Int} (h : evB s x = some v) : evB { s with env := e' } x = some v := by
  cases x with
  | none => exact h
  | some x =>
    simp only [evB] at h ⊢
    cases hx : s.ev x with
    | none => rw [hx] at h; cases h
    | some u => rw [hx] at h; rw [ev_mono he hx]; exact h

theorem dop_mono {cf : CallF} {d : DOp} {s : St} {e' : Env} (he : SubE s.env e') {r : DV × Heap × Nat} (h : dop cf d s = some r) : dop cf d { s with env := e' } = some r := by
  cases d
  case move x =>
    simp only [dop] at h ⊢
    cases hx : s.ev x with
    | none => rw [hx] at h; cases h
    | some v => rw [hx] at h; rw [ev_mono he hx]; exact h
  case box x =>
    simp only [dop] at h ⊢
    cases hx : s.ev x with
    | none => rw [hx] at h; cases h
    | some v => rw [hx] at h; rw [ev_mono he hx]; exact h
  case load n x =>
    simp only [dop] at h ⊢
    cases hx : s.ev x with
    | none => rw [hx] at h; cases h
    | some v => rw [hx] at h; rw [ev_mono he hx]; exact h
  case nilCheck x =>
    simp only [dop] at h ⊢
    cases hx : s.ev x with
    | none => rw [hx] at h; cases h
    | some v => rw [hx] at h; rw [ev_mono he hx]; exact h
  case un o x =>
    simp only [dop] at h ⊢
    cases hx : s.ev x with
    | none => rw [hx] at h; cases h
    | some v => rw [hx] at h; rw [ev_mono he hx]; exact h
  case conv k x =>
    simp only [dop] at h ⊢
    cases hx : s.ev x with
    | none => rw [hx] at h; cases h
    | some v => rw [hx] at h; rw [ev_mono he hx]; exact h
  case convS x =>
    simp only [dop] at h ⊢
    cases hx : s.ev x with
    | none => rw [hx] at h; cases h
    | some v => rw [hx] at h; rw [ev_mono he hx]; exact h
  case fieldAddr o x =>
    simp only [dop] at h ⊢
    cases hx : s.ev x with
    | none => rw [hx] at h; cases h
    | some v => rw [hx] at h; rw [ev_mono he hx]; exact h
  case field o n x =>
    simp only [dop] at h ⊢
    cases hx : s.ev x with
    | none => rw [hx] at h; cases h
    | some v => rw [hx] at h; rw [ev_mono he hx]; exact h
  case extract x i =>
    simp only [dop] at h ⊢
    cases hx : s.ev x with
    | none => rw [hx] at h; cases h
    | some v => rw [hx] at h; rw [ev_mono he hx]; exact h
  case len x =>
    simp only [dop] at h ⊢
    cases hx : s.ev x with
    | none => rw [hx] at h; cases h
    | some v => rw [hx] at h; rw [ev_mono he hx]; exact h
  case lenS x =>
    simp only [dop] at h ⊢
    cases hx : s.ev x with
    | none => rw [hx] at h; cases h
    | some v => rw [hx] at h; rw [ev_mono he hx]; exact h
  case isNil x =>
    simp only [dop] at h ⊢
    cases hx : s.ev x with
    | none => rw [hx] at h; cases h
    | some v => rw [hx] at h; rw [ev_mono he hx]; exact h
  case clear z x =>
    simp only [dop] at h ⊢
    cases hx : s.ev x with
    | none => rw [hx] at h; cases h
    | some v => rw [hx] at h; rw [ev_mono he hx]; exact h
  case cap x =>
    simp only [dop] at h ⊢
    cases hx : s.ev x with
    | none => rw [hx] at h; cases h
    | some v => rw [hx] at h; rw [ev_mono he hx]; exact h
  case store n a x =>
    simp only [dop] at h ⊢
    cases ha : s.ev a with
    | none => rw [ha] at h; cases h
    | some u => cases hx : s.ev x with
      | none => rw [ha, hx] at h; first | (cases h; done) | (split at h <;> first | (cases h; done) | simp_all)
      | some v => rw [ha, hx] at h; rw [ev_mono he ha, ev_mono he hx]; exact h
  case bin o a x =>
    simp only [dop] at h ⊢
    cases ha : s.ev a with
    | none => rw [ha] at h; cases h
    | some u => cases hx : s.ev x with
      | none => rw [ha, hx] at h; first | (cases h; done) | (split at h <;> first | (cases h; done) | simp_all)
      | some v => rw [ha, hx] at h; rw [ev_mono he ha, ev_mono he hx]; exact h
  case eqb o a x =>
    simp only [dop] at h ⊢
    cases ha : s.ev a with
    | none => rw [ha] at h; cases h
    | some u => cases hx : s.ev x with
      | none => rw [ha, hx] at h; first | (cases h; done) | (split at h <;> first | (cases h; done) | simp_all)
      | some v => rw [ha, hx] at h; rw [ev_mono he ha, ev_mono he hx]; exact h
  case eqagg o f a x =>
    simp only [dop] at h ⊢
    cases ha : s.ev a with
    | none => rw [ha] at h; cases h
    | some u => cases hx : s.ev x with
      | none => rw [ha, hx] at h; first | (cases h; done) | (split at h <;> first | (cases h; done) | simp_all)
      | some v => rw [ha, hx] at h; rw [ev_mono he ha, ev_mono he hx]; exact h
  case indexAddr n a x =>
    simp only [dop] at h ⊢
    cases ha : s.ev a with
    | none => rw [ha] at h; cases h
    | some u => cases hx : s.ev x with
      | none => rw [ha, hx] at h; first | (cases h; done) | (split at h <;> first | (cases h; done) | simp_all)
      | some v => rw [ha, hx] at h; rw [ev_mono he ha, ev_mono he hx]; exact h
  case arrAddr l n a x =>
    simp only [dop] at h ⊢
    cases ha : s.ev a with
    | none => rw [ha] at h; cases h
    | some u => cases hx : s.ev x with
      | none => rw [ha, hx] at h; first | (cases h; done) | (split at h <;> first | (cases h; done) | simp_all)
      | some v => rw [ha, hx] at h; rw [ev_mono he ha, ev_mono he hx]; exact h
  case index a x =>
    simp only [dop] at h ⊢
    cases ha : s.ev a with
    | none => rw [ha] at h; cases h
    | some u => cases hx : s.ev x with
      | none => rw [ha, hx] at h; first | (cases h; done) | (split at h <;> first | (cases h; done) | simp_all)
      | some v => rw [ha, hx] at h; rw [ev_mono he ha, ev_mono he hx]; exact h
  case makeSlice z b a x =>
    simp only [dop] at h ⊢
    cases ha : s.ev a with
    | none => rw [ha] at h; cases h
    | some u => cases hx : s.ev x with
      | none => rw [ha, hx] at h; first | (cases h; done) | (split at h <;> first | (cases h; done) | simp_all)
      | some v => rw [ha, hx] at h; rw [ev_mono he ha, ev_mono he hx]; exact h
  case append b z a x =>
    simp only [dop] at h ⊢
    cases ha : s.ev a with
    | none => rw [ha] at h; cases h
    | some u => cases hx : s.ev x with
      | none => rw [ha, hx] at h; first | (cases h; done) | (split at h <;> first | (cases h; done) | simp_all)
      | some v => rw [ha, hx] at h; rw [ev_mono he ha, ev_mono he hx]; exact h
  case copy z a x =>
    simp only [dop] at h ⊢
    cases ha : s.ev a with
    | none => rw [ha] at h; cases h
    | some u => cases hx : s.ev x with
      | none => rw [ha, hx] at h; first | (cases h; done) | (split at h <;> first | (cases h; done) | simp_all)
      | some v => rw [ha, hx] at h; rw [ev_mono he ha, ev_mono he hx]; exact h
  case alloc z => exact h
  case makeMap => exact h
  case lookup z a x =>
    simp only [dop] at h ⊢
    cases hx : s.ev a with
    | none => rw [hx] at h; cases h
    | some u =>
    cases hy : s.ev x with
    | none => rw [hx, hy] at h; cases u <;> cases h
    | some v => rw [hx, hy] at h; rw [ev_mono he hx, ev_mono he hy]; exact h
  case arrIndex z a x =>
    simp only [dop] at h ⊢
    split at h
    · rename_i e1 e2
      rw [ev_mono he e1, ev_mono he e2]; exact h
    · cases h
  case mapSet a x y =>
    simp only [dop] at h ⊢
    split at h
    · rename_i e1 e2 e3
      rw [ev_mono he e1, ev_mono he e2, ev_mono he e3]; exact h
    · cases h
  case pick c a b =>
    simp only [dop] at h ⊢
    cases hc : s.ev c with
    | none => rw [hc] at h; cases h
    | some v =>
      rw [hc] at h; rw [ev_mono he hc]
      revert h
      split
      · rename_i t e
        cases e
        intro h
        cases hx : s.ev (if t then a else b) with
        | none => rw [hx] at h; cases h
        | some u => rw [hx] at h; rw [ev_mono he hx]; exact h
      · intro h; cases h
  case build z ps =>
    simp only [dop] at h ⊢
    cases hx : evParts s ps with
    | none => rw [hx] at h; cases h
    | some v => rw [hx] at h; rw [evParts_mono he _ _ hx]; exact h
  case buildSlice z l ps =>
    simp only [dop] at h ⊢
    cases hx : evIx s ps with
    | none => rw [hx] at h; cases h
    | some v => rw [hx] at h; rw [evIx_mono he _ _ hx]; exact h
  case slice z x lo hi mx =>
    simp only [dop] at h ⊢
    cases h1 : s.ev x with
    | none => rw [h1] at h; cases h
    | some v1 => cases h2 : evI s lo 0 with
      | none => rw [h1, h2] at h; cases h
      | some v2 => cases h3 : evB s hi with
        | none => rw [h1, h2, h3] at h; cases h
        | some v3 => cases h4 : evB s mx with
          | none => rw [h1, h2, h3, h4] at h; cases h
          | some v4 => rw [h1, h2, h3, h4] at h; rw [ev_mono he h1, evI_mono he h2, evB_mono he h3, evB_mono he h4]; exact h
  case sliceS x lo hi =>
    simp only [dop] at h ⊢
    cases h1 : s.ev x with
    | none => rw [h1] at h; cases h
    | some v1 => cases h2 : evI s lo 0 with
      | none => rw [h1, h2] at h; first | (cases h; done) | (split at h <;> first | (cases h; done) | simp_all)
      | some v2 => cases h3 : evB s hi with
        | none => rw [h1, h2, h3] at h; first | (cases h; done) | (split at h <;> first | (cases h; done) | simp_all)
        | some v3 => rw [h1, h2, h3] at h; rw [ev_mono he h1, evI_mono he h2, evB_mono he h3]; exact h
  case minmax b x xs =>
    simp only [dop] at h ⊢
    cases h1 : s.ev x with
    | none => rw [h1] at h; cases h
    | some v1 => cases h2 : evs s xs with
      | none => rw [h1, h2] at h; first | (cases h; done) | (split at h <;> first | (cases h; done) | simp_all)
      | some v2 => rw [h1, h2] at h; rw [ev_mono he h1, evs_mono he _ _ h2]; exact h
  case mkfunc f xs =>
    simp only [dop] at h ⊢
    cases hx : evs s xs with
    | none => rw [hx] at h; cases h
    | some v => rw [hx] at h; rw [evs_mono he _ _ hx]; exact h
  case call b f xs =>
    simp only [dop] at h ⊢
    cases hx : evs s xs with
    | none => rw [hx] at h; cases h
    | some v => rw [hx] at h; rw [evs_mono he _ _ hx]; exact h
  case callv b f xs =>
    simp only [dop] at h ⊢
    cases h1 : s.ev f with
    | none => rw [h1] at h; cases h
    | some v1 => cases h2 : evs s xs with
      | none => rw [h1, h2] at h; first | (cases h; done) | (split at h <;> first | (cases h; done) | simp_all)
      | some v2 => rw [h1, h2] at h; rw [ev_mono he h1, evs_mono he _ _ h2]; exact h

theorem gd_mono {g : Option (Nat × Bool)} {e e' : Env} (he : SubE e e') {b : Bool} (h : gd g e = some b) : gd g e' = some b := by
  cases g with
  | none => exact h
  | some p =>
    obtain ⟨k, w⟩ := p
    simp only [gd] at h ⊢
    cases hx : aget e k with
    | none => rw [hx] at h; cases h
    | some v => rw [hx] at h; rw [he _ _ hx]; exact h

theorem sub_eput {e e' : Env} (he : SubE e e') (k : Option Nat) (v : DV) : SubE (eput e k v) (eput e' k v) := by
  intro i d h
  cases k with
  | none => exact he i d h
  | some k =>
    simp only [eput] at h ⊢
    rw [aget_eset] at h ⊢
    split at h
    · rename_i e; rw [if_pos e]; exact h
    · rename_i e; rw [if_neg e]; exact he i d h

theorem dopr_mono {cf : CallF} {o : DOper} {s s1 : St} {e' : Env} (he : SubE s.env e') (h : dopr cf o s = some s1) : ∃ e1, dopr cf o { s with env := e' } = some { s1 with env := e1 } ∧ SubE s1.env e1 := by
  unfold dopr at h ⊢
  cases hg : gd o.guard s.env with
  | none => rw [hg] at h; cases h
  | some b =>
    rw [hg] at h
    rw [show gd o.guard ({ s with env := e' } : St).env = some b from gd_mono he hg]
    cases b with
    | false => cases h; exact ⟨_, rfl, sub_eput he _ _⟩
    | true =>
      simp only at h ⊢
      cases hd : dop cf o.op s with
      | none => rw [hd] at h; cases h
      | some r =>
        rw [hd] at h; rw [dop_mono he hd]
        cases h; exact ⟨_, rfl, sub_eput he _ _⟩

theorem dopsK_dops {cf : CallF} : ∀ (l : List (DOper × List Nat)) (s s' : St) (e' : Env), SubE s.env e' → dopsK cf l s = some s' → ∃ e1, dops cf (l.map (·.1)) { s with env := e' } = some { s' with env := e1 } ∧ SubE s'.env e1
  | [], s, s', e', he, h => by simp only [dopsK, Option.some.injEq] at h; subst h; exact ⟨e', rfl, he⟩
  | (o, k) :: r, s, s', e', he, h => by
    simp only [dopsK] at h
    cases hd : dopr cf o s with
    | none => rw [hd] at h; cases h
    | some s1 =>
      rw [hd] at h
      obtain ⟨e1, h1, h2⟩ := dopr_mono he hd
      obtain ⟨e2, h3, h4⟩ := dopsK_dops r { s1 with env := adels s1.env k } s' e1 (fun i d hi => h2 i d (aget_adels k _ _ _ hi)) h
      exact ⟨e2, by simp only [List.map_cons, dops, h1]; exact h3, h4⟩

/-! ### one that does not look into memory -/

theorem dop_blind {cf : CallF} {d : DOp} {s : St} (h0 : d.cls = 0) {v : DV} {H' : Heap} {nx' : Nat} (h : dop cf d s = some (v, H', nx')) : H' = s.heap ∧ nx' = s.next ∧ ∀ (H : Heap) (nx : Nat), dop cf d { s with heap := H, next := nx } = some (v, H, nx) := by
  have evw : ∀ (H : Heap) (nx : Nat) (x : DO), St.ev { s with heap := H, next := nx } x = s.ev x := fun H nx x => ev_congr fun _ _ => rfl
  have evsw : ∀ (H : Heap) (nx : Nat) (x : List DO), evs { s with heap := H, next := nx } x = evs s x := fun H nx x => evs_congr _ fun _ _ => rfl
  have evpw : ∀ (H : Heap) (nx : Nat) (x : List (Nat × Nat × DO)), evParts { s with heap := H, next := nx } x = evParts s x := fun H nx x => evParts_congr _ fun _ _ => rfl
  have eviw : ∀ (H : Heap) (nx : Nat) (x : Option DO) (d : Int), evI { s with heap := H, next := nx } x d = evI s x d := fun H nx x d => evI_congr (fun _ _ => rfl) d
  have evbw : ∀ (H : Heap) (nx : Nat) (x : Option DO), evB { s with heap := H, next := nx } x = evB s x := fun H nx x => evB_congr fun _ _ => rfl
  cases d
  case call b f xs => cases b <;> simp [DOp.cls] at h0
  case callv b f xs => cases b <;> simp [DOp.cls] at h0
  all_goals (try (simp [DOp.cls] at h0; done))
  all_goals (simp only [dop] at h; simp only [dop, evw, evsw, evpw, eviw, evbw])
  all_goals
    (repeat' (split at h)) <;> first | (cases h; done) | (cases h; refine ⟨rfl, rfl, fun H nx => ?_⟩; simp_all)

/-! ### one that looks into memory, and at most freezes -/

def Blk.strip : Blk → Blk
  | .var _ cs => .var false cs
  | .row _ sz xs => .row false sz xs
  | .map _ kv => .map false kv

def Sim (H H' : Heap) : Prop := ∀ id, (aget H' id).map Blk.strip = (aget H id).map Blk.strip

theorem Sim.var {H H' : Heap} (h : Sim H H') {id : Nat} {f : Bool} {cs : List DV} (hc : aget H id = some (.var f cs)) : ∃ f', aget H' id = some (.var f' cs) := by
  have := h id
  rw [hc] at this
  cases h' : aget H' id with
  | none => rw [h'] at this; cases this
  | some b => rw [h'] at this; cases b <;> simp [Blk.strip] at this; subst this; exact ⟨_, rfl⟩

theorem Sim.row {H H' : Heap} (h : Sim H H') {id : Nat} {f : Bool} {sz : Nat} {xs : List (List PV)} (hc : aget H id = some (.row f sz xs)) : ∃ f', aget H' id = some (.row f' sz xs) := by
  have := h id
  rw [hc] at this
  cases h' : aget H' id with
  | none => rw [h'] at this; cases this
  | some b => rw [h'] at this; cases b <;> simp [Blk.strip] at this; obtain ⟨rfl, rfl⟩ := this; exact ⟨_, rfl⟩

theorem Sim.map {H H' : Heap} (h : Sim H H') {id : Nat} {f : Bool} {kv : List (Int × PV)} (hc : aget H id = some (.map f kv)) : ∃ f', aget H' id = some (.map f' kv) := by
  have := h id
  rw [hc] at this
  cases h' : aget H' id with
  | none => rw [h'] at this; cases this
  | some b => rw [h'] at this; cases b <;> simp [Blk.strip] at this; subst this; exact ⟨_, rfl⟩

theorem Sim.none {H H' : Heap} (h : Sim H H') {id : Nat} (hc : aget H id = none) : aget H' id = none := by
  have := h id
  rw [hc] at this
  cases h' : aget H' id with
  | none => rfl
  | some b => rw [h'] at this; cases this

theorem Sim.symm {H H' : Heap} (h : Sim H H') : Sim H' H := fun id => (h id).symm

theorem sim_frz (ids : List Nat) : ∀ H, Sim H (frz H ids) := by
  induction ids with
  | nil => exact fun H id => rfl
  | cons i r ih =>
    intro H id
    rw [frz, ih, aget_frz1]
    split
    · cases aget H id with
      | none => rfl
      | some b => cases b <;> rfl
    · rfl

theorem mapO_congr {α β : Type} {f g : α → Option β} : ∀ (l : List α), (∀ a ∈ l, f a = g a) → mapO f l = mapO g l
  | [], _ => rfl
  | a :: r, h => by
    simp only [mapO]
    rw [h a (by simp), mapO_congr r fun x hx => h x (by simp [hx])]

theorem flatMap_congr' {α β : Type} {f g : α → List β} : ∀ (l : List α), (∀ a ∈ l, f a = g a) → l.flatMap f = l.flatMap g
  | [], _ => rfl
  | a :: r, h => by
    simp only [List.flatMap_cons]
    rw [h a (by simp), flatMap_congr' r fun x hx => h x (by simp [hx])]

theorem pur_sim {H H' : Heap} (h : Sim H H') : ∀ (n : Nat) (v : DV), pur H' n v = pur H n v := by
  intro n
  induction n with
  | zero => intro v; rfl
  | succ n ih =>
    intro v
    cases v with
    | p => rfl
    | agg cs => simp only [pur]; rw [mapO_congr cs fun a _ => ih a]
    | tuple cs => simp only [pur]; rw [mapO_congr cs fun a _ => ih a]
    | func f cs => simp only [pur]; rw [mapO_congr cs fun a _ => ih a]
    | ref id ver off k =>
      simp only [pur]
      cases hc : aget H id with
      | none => rw [h.none hc]
      | some b => cases b with
        | var f cs => obtain ⟨f', e⟩ := h.var hc; rw [e]
        | row f sz xs => obtain ⟨f', e⟩ := h.row hc; rw [e]
        | map f kv => obtain ⟨f', e⟩ := h.map hc; rw [e]
    | ptr id off =>
      simp only [pur]
      cases hc : aget H id with
      | none => rw [h.none hc]
      | some b => cases b with
        | var f cs => obtain ⟨f', e⟩ := h.var hc; rw [e]; simp only; rw [mapO_congr _ fun a _ => ih a]
        | row f sz xs => obtain ⟨f', e⟩ := h.row hc; rw [e]
        | map f kv => obtain ⟨f', e⟩ := h.map hc; rw [e]
    | eptr id ver i off =>
      simp only [pur]
      cases hc : aget H id with
      | none => rw [h.none hc]
      | some b => cases b with
        | var f cs => obtain ⟨f', e⟩ := h.var hc; rw [e]
        | row f sz xs => obtain ⟨f', e⟩ := h.row hc; rw [e]
        | map f kv => obtain ⟨f', e⟩ := h.map hc; rw [e]

theorem tch_sim {H H' : Heap} (h : Sim H H') : ∀ (n : Nat) (v : DV), tch H' n v = tch H n v := by
  intro n
  induction n with
  | zero => intro v; rfl
  | succ n ih =>
    intro v
    cases v with
    | p => rfl
    | agg cs => simp only [tch]; rw [flatMap_congr' cs fun a _ => ih a]
    | tuple cs => simp only [tch]; rw [flatMap_congr' cs fun a _ => ih a]
    | func f cs => simp only [tch]; rw [flatMap_congr' cs fun a _ => ih a]
    | ref id ver off k => rfl
    | eptr id ver i off => rfl
    | ptr id off =>
      simp only [tch]
      cases hc : aget H id with
      | none => rw [h.none hc]
      | some b => cases b with
        | var f cs => obtain ⟨f', e⟩ := h.var hc; rw [e]; simp only; rw [flatMap_congr' _ fun a _ => ih a]
        | row f sz xs => obtain ⟨f', e⟩ := h.row hc; rw [e]
        | map f kv => obtain ⟨f', e⟩ := h.map hc; rw [e]

theorem litElems_sim {H H' : Heap} (h : Sim H H') (sz : Nat) : ∀ (l : List (Nat × DV)) (k : Nat), litElems H' sz k l = litElems H sz k l
  | [], _ => rfl
  | (i, v) :: r, k => by
    simp only [litElems]
    rw [pur_sim h, litElems_sim h sz r (k + 1)]

theorem sliceDV_sim {H H' : Heap} (h : Sim H H') (sz : Nat) (x : DV) (lo : Int) (hi mx : Option Int) : sliceDV H' sz x lo hi mx = sliceDV H sz x lo hi mx := by
  cases x with
  | ref id ver off n =>
    simp only [sliceDV]
    cases hc : aget H id with
    | none => rw [h.none hc]
    | some b => cases b with
      | var f cs => obtain ⟨f', e⟩ := h.var hc; rw [e]
      | row f sz xs => obtain ⟨f', e⟩ := h.row hc; rw [e]
      | map f kv => obtain ⟨f', e⟩ := h.map hc; rw [e]
  | p v => cases v <;> rfl
  | _ => rfl

theorem callD_sim {cf : CallF} {H H' : Heap} (hs : Sim H H') {f : FuncId} {l : List DV} {nx : Nat} {v : DV} {H1 : Heap} {nx1 : Nat} (h : callD cf false f l H nx = some (v, H1, nx1)) :
    ∃ ids, H1 = frz H ids ∧ nx1 = nx ∧ ∀ nx', callD cf false f l H' nx' = some (v, frz H' ids, nx') := by
  simp only [callD, Bool.false_eq_true, if_false] at h ⊢
  rw [mapO_congr l fun a _ => pur_sim hs dep a, flatMap_congr' l fun a _ => tch_sim hs dep a]
  cases hm : mapO (pur H dep) l with
  | none => rw [hm] at h; cases h
  | some ps =>
    rw [hm] at h
    simp only at h ⊢
    cases hr : cf.pure f ps with
    | none => rw [hr] at h; cases h
    | some r =>
      rw [hr] at h
      simp only [Option.some.injEq, Prod.mk.injEq] at h ⊢
      obtain ⟨rfl, rfl, rfl⟩ := h
      by_cases hp : r.plain = true
      · exact ⟨[], by rw [if_pos hp]; rfl, rfl, fun nx' => by simp [hp, frz]⟩
      · exact ⟨l.flatMap (tch H dep), by rw [if_neg hp], rfl, fun nx' => by simp [hp]⟩

theorem dop_light {cf : CallF} {d : DOp} {s : St} (h1 : d.cls = 1) {v : DV} {H' : Heap} {nx' : Nat} (h : dop cf d s = some (v, H', nx')) {H : Heap} (hs : Sim s.heap H) :
    ∃ ids, H' = frz s.heap ids ∧ nx' = s.next ∧ dop cf d { s with heap := H } = some (v, frz H ids, s.next) := by
  have evw : ∀ (x : DO), St.ev { s with heap := H } x = s.ev x := fun x => ev_congr fun _ _ => rfl
  have evsw : ∀ (x : List DO), evs { s with heap := H } x = evs s x := fun x => evs_congr _ fun _ _ => rfl
  have evxw : ∀ (x : List (Nat × DO)), evIx { s with heap := H } x = evIx s x := fun x => evIx_congr _ fun _ _ => rfl
  have eviw : ∀ (x : Option DO) (d : Int), evI { s with heap := H } x d = evI s x d := fun x d => evI_congr (fun _ _ => rfl) d
  have evbw : ∀ (x : Option DO), evB { s with heap := H } x = evB s x := fun x => evB_congr fun _ _ => rfl
  have rd : ∀ (id : Nat), aget s.heap id = none ∧ aget H id = none ∨ (∃ f f' cs, aget s.heap id = some (.var f cs) ∧ aget H id = some (.var f' cs)) ∨ (∃ f f' sz xs, aget s.heap id = some (.row f sz xs) ∧ aget H id = some (.row f' sz xs)) ∨ ∃ f f' kv, aget s.heap id = some (.map f kv) ∧ aget H id = some (.map f' kv) := by
    intro id
    cases hc : aget s.heap id with
    | none => exact .inl ⟨rfl, hs.none hc⟩
    | some b => cases b with
      | var f cs => obtain ⟨f', e⟩ := hs.var hc; exact .inr (.inl ⟨f, f', cs, rfl, e⟩)
      | row f sz xs => obtain ⟨f', e⟩ := hs.row hc; exact .inr (.inr (.inl ⟨f, f', sz, xs, rfl, e⟩))
      | map f kv => obtain ⟨f', e⟩ := hs.map hc; exact .inr (.inr (.inr ⟨f, f', kv, rfl, e⟩))
  cases d
  case call b f xs =>
    cases b with
    | true => simp [DOp.cls] at h1
    | false =>
      simp only [dop, evsw] at h ⊢
      cases hl : evs s xs with
      | none => rw [hl] at h; cases h
      | some l =>
        rw [hl] at h
        obtain ⟨ids, e1, e2, e3⟩ := callD_sim hs h
        exact ⟨ids, e1, e2, e3 _⟩
  case callv b fv xs =>
    cases b with
    | true => simp [DOp.cls] at h1
    | false =>
      simp only [dop, evsw, evw] at h ⊢
      split at h
      · rename_i f caps l hv hl
        try rw [hv, hl]
        obtain ⟨ids, e1, e2, e3⟩ := callD_sim hs h
        exact ⟨ids, e1, e2, e3 _⟩
      · rename_i f caps l hv hl
        try rw [hv, hl]
        obtain ⟨ids, e1, e2, e3⟩ := callD_sim hs h
        exact ⟨ids, e1, e2, e3 _⟩
      · cases h
  case slice sz x lo hi mx =>
    simp only [dop, evw, eviw, evbw] at h ⊢
    split at h
    · rename_i q l hh m e1 e2 e3 e4
      try rw [e1, e2, e3, e4]
      try simp only
      rw [sliceDV_sim hs]
      cases hr : sliceDV s.heap sz q l hh m with
      | none => rw [hr] at h; cases h
      | some r =>
        rw [hr] at h
        obtain ⟨r, ids⟩ := r
        cases h
        exact ⟨ids, rfl, rfl, rfl⟩
    · cases h
  case buildSlice z len ps =>
    simp only [dop, evxw] at h ⊢
    cases hl : evIx s ps with
    | none => rw [hl] at h; cases h
    | some l =>
      rw [hl] at h
      simp only at h ⊢
      rw [litElems_sim hs, flatMap_congr' _ fun a _ => tch_sim hs dep a]
      cases hx : litElems s.heap z.length 0 l with
      | none => rw [hx] at h; cases h
      | some xs =>
        rw [hx] at h
        cases h
        exact ⟨_, rfl, rfl, rfl⟩
  case load n x =>
    simp only [dop, evw] at h ⊢
    refine ⟨[], ?_⟩
    simp only [frz]
    cases hv : s.ev x with
    | none => rw [hv] at h; cases h
    | some q =>
      rw [hv] at h
      cases q with
      | ptr id off =>
        simp only at h ⊢
        rcases rd id with ⟨e1, e2⟩ | ⟨f, f', cs, e1, e2⟩ | ⟨f, f', sz, xs, e1, e2⟩ | ⟨f, f', kv, e1, e2⟩ <;> rw [e1] at h <;> rw [e2]
        rotate_right 1
        · cases h
        · cases h
        · cases n with
          | none => simp only at h ⊢; cases hc : cs[off]? <;> rw [hc] at h <;> cases h; exact ⟨rfl, rfl, rfl⟩
          | some n => simp only at h ⊢; cases hc : takeDrop cs off n <;> rw [hc] at h <;> cases h; exact ⟨rfl, rfl, rfl⟩
        · cases h
      | p q =>
        cases q with
        | vptr cs =>
          cases n with
          | none => simp only at h ⊢; cases hc : cs[0]? <;> rw [hc] at h <;> cases h; exact ⟨rfl, rfl, rfl⟩
          | some n => simp only at h ⊢; cases hc : takeDrop cs 0 n <;> rw [hc] at h <;> cases h; exact ⟨rfl, rfl, rfl⟩
        | _ => cases h
      | eptr id ver i off =>
        simp only at h ⊢
        rcases rd id with ⟨e1, e2⟩ | ⟨f, f', cs, e1, e2⟩ | ⟨f, f', sz, xs, e1, e2⟩ | ⟨f, f', kv, e1, e2⟩ <;> rw [e1] at h <;> rw [e2]
        rotate_right 1
        · cases h
        · cases h
        · cases h
        · simp only at h ⊢
          split at h
          · rename_i hver
            rw [if_pos hver]
            cases hi : xs[i]? with
            | none => rw [hi] at h; cases h
            | some y =>
              rw [hi] at h
              cases n with
              | none => simp only at h ⊢; cases hc : y[off]? <;> rw [hc] at h <;> cases h; exact ⟨rfl, rfl, rfl⟩
              | some n => simp only at h ⊢; cases hc : takeDrop y off n <;> rw [hc] at h <;> cases h; exact ⟨rfl, rfl, rfl⟩
          · cases h
      | _ => cases h
  case nilCheck x =>
    simp only [dop, evw] at h ⊢
    refine ⟨[], ?_⟩
    simp only [frz]
    cases hv : s.ev x with
    | none => rw [hv] at h; cases h
    | some q =>
      rw [hv] at h
      simp only at h ⊢
      have hp : isPtr H q = isPtr s.heap q := by
        cases q with
        | ptr id off => simp only [isPtr]; rcases rd id with ⟨e1, e2⟩ | ⟨f, f', cs, e1, e2⟩ | ⟨f, f', sz, xs, e1, e2⟩ | ⟨f, f', kv, e1, e2⟩ <;> rw [e1, e2]
        | eptr id ver i off => simp only [isPtr]; rcases rd id with ⟨e1, e2⟩ | ⟨f, f', cs, e1, e2⟩ | ⟨f, f', sz, xs, e1, e2⟩ | ⟨f, f', kv, e1, e2⟩ <;> rw [e1, e2]
        | p v => cases v <;> rfl
        | _ => rfl
      rw [hp]
      split at h
      · rename_i hc; cases h; rw [if_pos hc]; exact ⟨rfl, rfl, rfl⟩
      · cases h
  case fieldAddr off x =>
    simp only [dop, evw] at h ⊢
    refine ⟨[], ?_⟩
    simp only [frz]
    cases hv : s.ev x with
    | none => rw [hv] at h; cases h
    | some q =>
      rw [hv] at h
      cases q with
      | ptr id o =>
        simp only at h ⊢
        rcases rd id with ⟨e1, e2⟩ | ⟨f, f', cs, e1, e2⟩ | ⟨f, f', sz, xs, e1, e2⟩ | ⟨f, f', kv, e1, e2⟩ <;> rw [e1] at h <;> rw [e2] <;> cases h
        exact ⟨rfl, rfl, rfl⟩
      | eptr id ver i o =>
        simp only at h ⊢
        rcases rd id with ⟨e1, e2⟩ | ⟨f, f', cs, e1, e2⟩ | ⟨f, f', sz, xs, e1, e2⟩ | ⟨f, f', kv, e1, e2⟩ <;> rw [e1] at h <;> rw [e2]
        rotate_right 1
        · cases h
        · cases h
        · cases h
        · simp only at h ⊢
          split at h
          · rename_i hc; cases h; rw [if_pos hc]; exact ⟨rfl, rfl, rfl⟩
          · cases h
      | p v => cases v <;> cases h; exact ⟨rfl, rfl, rfl⟩
      | _ => cases h
  case indexAddr sz x i =>
    simp only [dop, evw] at h ⊢
    refine ⟨[], ?_⟩
    simp only [frz]
    split at h
    · rename_i full xs k n e1 e2
      try rw [e1, e2]
      try simp only
      split at h
      · rename_i h0
        rw [if_pos h0]
        cases hy : xs[n.toNat]? with
        | none => rw [hy] at h; cases h
        | some y =>
          rw [hy] at h
          simp only at h ⊢
          split at h
          · rename_i hl; cases h; rw [if_pos hl]; exact ⟨rfl, rfl, rfl⟩
          · cases h
      · cases h
    · rename_i id ver off k kk n e1 e2
      try rw [e1, e2]
      try simp only
      rcases rd id with ⟨g1, g2⟩ | ⟨f, f', cs, g1, g2⟩ | ⟨f, f', sz, xs, g1, g2⟩ | ⟨f, f', kv, g1, g2⟩ <;> rw [g1] at h <;> rw [g2]
      rotate_right 1
      · cases h
      · cases h
      · cases h
      · simp only at h ⊢
        split at h
        · rename_i hc; cases h; rw [if_pos hc]; exact ⟨rfl, rfl, rfl⟩
        · cases h
    · cases h
  case arrAddr len sz x i =>
    simp only [dop, evw] at h ⊢
    refine ⟨[], ?_⟩
    simp only [frz]
    split at h
    · rename_i id off k n e1 e2
      try rw [e1, e2]
      try simp only
      rcases rd id with ⟨g1, g2⟩ | ⟨f, f', cs, g1, g2⟩ | ⟨f, f', sz, xs, g1, g2⟩ | ⟨f, f', kv, g1, g2⟩ <;> rw [g1] at h <;> rw [g2]
      rotate_right 1
      · cases h
      · cases h
      · simp only at h ⊢
        split at h
        · rename_i hc; cases h; rw [if_pos hc]; exact ⟨rfl, rfl, rfl⟩
        · cases h
      · cases h
    · cases h
  case lookup zero x i =>
    simp only [dop, evw] at h ⊢
    refine ⟨[], ?_⟩
    simp only [frz]
    split at h
    · rename_i id off n e1 e2
      try rw [e1, e2]
      try simp only
      rcases rd id with ⟨g1, g2⟩ | ⟨f, f', cs, g1, g2⟩ | ⟨f, f', sz, xs, g1, g2⟩ | ⟨f, f', kv, g1, g2⟩ <;> rw [g1] at h <;> (try rw [g2])
      · cases h
      · cases h
      · cases h
      · cases h; exact ⟨rfl, rfl, rfl⟩
    · cases h
  case len x =>
    simp only [dop, evw] at h ⊢
    refine ⟨[], ?_⟩
    simp only [frz]
    split at h
    · rename_i full xs e1; cases h; (try rw [e1]); exact ⟨rfl, rfl, rfl⟩
    · rename_i id ver off n e1
      try rw [e1]
      try simp only
      rcases rd id with ⟨g1, g2⟩ | ⟨f, f', cs, g1, g2⟩ | ⟨f, f', sz, xs, g1, g2⟩ | ⟨f, f', kv, g1, g2⟩ <;> rw [g1] at h <;> rw [g2]
      rotate_right 1
      · cases h
      · cases h
      · cases h
      · simp only at h ⊢
        split at h
        · rename_i hc; cases h; rw [if_pos hc]; exact ⟨rfl, rfl, rfl⟩
        · cases h
    · cases h
  all_goals (simp [DOp.cls] at h1)

/-! ### one that looks into memory, and memory has grown -/

def Sub (H H' : Heap) : Prop := ∀ id b, aget H id = some b → aget H' id = some b

theorem mapO_all {α β : Type} {f g : α → Option β} : ∀ (l : List α) (r : List β), mapO f l = some r → (∀ a ∈ l, ∀ b, f a = some b → g a = some b) → mapO g l = some r
  | [], r, h, _ => h
  | a :: l, r, h, k => by
    simp only [mapO] at h ⊢
    cases ha : f a with
    | none => rw [ha] at h; cases h
    | some b =>
      rw [ha] at h
      rw [k a (by simp) b ha]
      cases hl : mapO f l with
      | none => rw [hl] at h; cases h
      | some bs =>
        rw [hl] at h
        rw [mapO_all l bs hl fun x hx => k x (by simp [hx])]
        exact h

theorem mapO_each {α β : Type} {f : α → Option β} : ∀ (l : List α) (r : List β), mapO f l = some r → ∀ a ∈ l, ∃ b, f a = some b
  | [], r, _, a, ha => by cases ha
  | x :: l, r, h, a, ha => by
    simp only [mapO] at h
    cases hx : f x with
    | none => rw [hx] at h; cases h
    | some b =>
      rw [hx] at h
      rcases List.mem_cons.1 ha with rfl | ha
      · exact ⟨b, hx⟩
      · cases hl : mapO f l with
        | none => rw [hl] at h; cases h
        | some bs => exact mapO_each l bs hl a ha

theorem pur_grow {H H' : Heap} (h : Sub H H') : ∀ (n : Nat) (v : DV) (p : PV), pur H n v = some p → pur H' n v = some p ∧ tch H' n v = tch H n v ∧ ∀ id ∈ tch H n v, ∃ b, aget H id = some b := by
  intro n
  induction n with
  | zero => intro v p hp; cases hp
  | succ n ih =>
    have lst : ∀ (cs : List DV) (l : List PV), mapO (pur H n) cs = some l → mapO (pur H' n) cs = some l ∧ cs.flatMap (tch H' n) = cs.flatMap (tch H n) ∧ ∀ id ∈ cs.flatMap (tch H n), ∃ b, aget H id = some b := by
      intro cs l hl
      have he := mapO_each cs l hl
      refine ⟨mapO_all cs l hl fun a _ b hb => (ih a b hb).1, flatMap_congr' cs fun a ha => ?_, fun id hid => ?_⟩
      · obtain ⟨b, hb⟩ := he a ha; exact (ih a b hb).2.1
      · obtain ⟨a, ha, hm⟩ := List.mem_flatMap.1 hid
        obtain ⟨b, hb⟩ := he a ha
        exact (ih a b hb).2.2 id hm
    intro v p hp
    cases v with
    | p => exact ⟨hp, rfl, by simp [tch]⟩
    | agg cs =>
      simp only [pur, tch] at hp ⊢
      cases hl : mapO (pur H n) cs with
      | none => rw [hl] at hp; cases hp
      | some l => rw [hl] at hp; obtain ⟨e1, e2, e3⟩ := lst cs l hl; rw [e1]; exact ⟨hp, e2, e3⟩
    | tuple cs =>
      simp only [pur, tch] at hp ⊢
      cases hl : mapO (pur H n) cs with
      | none => rw [hl] at hp; cases hp
      | some l => rw [hl] at hp; obtain ⟨e1, e2, e3⟩ := lst cs l hl; rw [e1]; exact ⟨hp, e2, e3⟩
    | func f cs =>
      simp only [pur, tch] at hp ⊢
      cases hl : mapO (pur H n) cs with
      | none => rw [hl] at hp; cases hp
      | some l => rw [hl] at hp; obtain ⟨e1, e2, e3⟩ := lst cs l hl; rw [e1]; exact ⟨hp, e2, e3⟩
    | ref id ver off k =>
      simp only [pur, tch] at hp ⊢
      cases hc : aget H id with
      | none => rw [hc] at hp; cases hp
      | some b => rw [hc] at hp; rw [h id b hc]; exact ⟨hp, by simp, by simp [hc]⟩
    | eptr id ver i off =>
      simp only [pur, tch] at hp ⊢
      cases hc : aget H id with
      | none => rw [hc] at hp; cases hp
      | some b => rw [hc] at hp; rw [h id b hc]; exact ⟨hp, by simp, by simp [hc]⟩
    | ptr id off =>
      simp only [pur, tch] at hp ⊢
      cases hc : aget H id with
      | none => rw [hc] at hp; cases hp
      | some b =>
        rw [hc] at hp; rw [h id b hc]
        cases b with
        | row f sz xs => cases hp
        | map f kv => cases hp
        | var f cs =>
          simp only at hp ⊢
          cases hl : mapO (pur H n) (cs.drop off) with
          | none => rw [hl] at hp; cases hp
          | some l =>
            rw [hl] at hp; obtain ⟨e1, e2, e3⟩ := lst _ l hl; rw [e1]
            refine ⟨hp, by rw [e2], fun i hi => ?_⟩
            rcases List.mem_cons.1 hi with rfl | hi
            · exact ⟨_, hc⟩
            · exact e3 i hi

theorem litElems_grow {H H' : Heap} (h : Sub H H') (sz : Nat) : ∀ (l : List (Nat × DV)) (k : Nat) (xs : List (List PV)), litElems H sz k l = some xs → litElems H' sz k l = some xs ∧ (l.map (·.2)).flatMap (tch H' dep) = (l.map (·.2)).flatMap (tch H dep) ∧ ∀ id ∈ (l.map (·.2)).flatMap (tch H dep), ∃ b, aget H id = some b
  | [], _, _, hx => ⟨hx, rfl, by simp⟩
  | (i, v) :: r, k, xs, hx => by
    simp only [litElems] at hx ⊢
    split at hx
    · rename_i e
      rw [if_pos e]
      cases hp : pur H dep v with
      | none => rw [hp] at hx; cases hx
      | some p =>
        rw [hp] at hx
        obtain ⟨e1, e2, e3⟩ := pur_grow h dep v p hp
        rw [e1]
        simp only at hx ⊢
        cases hc : p.cellsOf with
        | none => rw [hc] at hx; cases hx
        | some cs =>
          rw [hc] at hx
          simp only at hx ⊢
          split at hx
          · rename_i hl
            rw [if_pos hl]
            cases hr : litElems H sz (k + 1) r with
            | none => rw [hr] at hx; cases hx
            | some ys =>
              rw [hr] at hx
              obtain ⟨f1, f2, f3⟩ := litElems_grow h sz r (k + 1) ys hr
              rw [f1]
              refine ⟨hx, ?_, fun id hid => ?_⟩
              · simp only [List.map_cons, List.flatMap_cons]; rw [e2, f2]
              · simp only [List.map_cons, List.flatMap_cons, List.mem_append] at hid
                rcases hid with hid | hid
                · exact e3 id hid
                · exact f3 id hid
          · cases hx
    · cases hx

theorem sliceDV_grow {H H' : Heap} (h : Sub H H') {sz : Nat} {x : DV} {lo : Int} {hi mx : Option Int} {r : DV} {ids : List Nat} (hr : sliceDV H sz x lo hi mx = some (r, ids)) : sliceDV H' sz x lo hi mx = some (r, ids) ∧ ∀ id ∈ ids, ∃ b, aget H id = some b := by
  cases x with
  | ref id ver off n =>
    simp only [sliceDV] at hr ⊢
    cases hc : aget H id with
    | none => rw [hc] at hr; cases hr
    | some b =>
      rw [h id b hc]
      rw [hc] at hr
      refine ⟨hr, fun i hi => ?_⟩
      have : i = id := by
        cases b with
        | var f cs => cases hr
        | map f cs => cases hr
        | row f sz' xs =>
          simp only at hr
          split at hr
          · split at hr
            · split at hr
              · simp only [Option.some.injEq, Prod.mk.injEq] at hr
                obtain ⟨_, rfl⟩ := hr
                split at hi
                · cases hi
                · simpa using hi
              · cases hr
            · simp only [Option.some.injEq, Prod.mk.injEq] at hr
              obtain ⟨_, rfl⟩ := hr
              cases hi
          · cases hr
      exact ⟨b, by rw [this, hc]⟩
  | p v =>
    cases v with
    | slice full xs =>
      refine ⟨hr, fun i hi => ?_⟩
      simp only [sliceDV] at hr
      split at hr
      · simp only [Option.some.injEq, Prod.mk.injEq] at hr
        obtain ⟨_, rfl⟩ := hr
        cases hi
      · cases hr
    | _ => cases hr
  | _ => cases hr

theorem callD_grow {cf : CallF} {H H' : Heap} (hs : Sub H H') {f : FuncId} {l : List DV} {nx : Nat} {v : DV} {H1 : Heap} {nx1 : Nat} (h : callD cf false f l H nx = some (v, H1, nx1)) :
    ∃ ids, H1 = frz H ids ∧ nx1 = nx ∧ (∀ id ∈ ids, ∃ b, aget H id = some b) ∧ ∀ nx', callD cf false f l H' nx' = some (v, frz H' ids, nx') := by
  simp only [callD, Bool.false_eq_true, if_false] at h ⊢
  cases hm : mapO (pur H dep) l with
  | none => rw [hm] at h; cases h
  | some ps =>
    have he := mapO_each l ps hm
    rw [mapO_all l ps hm fun a _ b hb => (pur_grow hs dep a b hb).1, flatMap_congr' l fun a ha => by obtain ⟨b, hb⟩ := he a ha; exact (pur_grow hs dep a b hb).2.1]
    rw [hm] at h
    simp only at h ⊢
    cases hr : cf.pure f ps with
    | none => rw [hr] at h; cases h
    | some r =>
      rw [hr] at h
      simp only [Option.some.injEq, Prod.mk.injEq] at h ⊢
      obtain ⟨rfl, rfl, rfl⟩ := h
      by_cases hp : r.plain = true
      · exact ⟨[], by rw [if_pos hp]; rfl, rfl, by simp, fun nx' => by simp [hp, frz]⟩
      · refine ⟨l.flatMap (tch H dep), by rw [if_neg hp], rfl, fun id hid => ?_, fun nx' => by simp [hp]⟩
        obtain ⟨a, ha, hm'⟩ := List.mem_flatMap.1 hid
        obtain ⟨b, hb⟩ := he a ha
        exact (pur_grow hs dep a b hb).2.2 id hm'

theorem dop_grow {cf : CallF} {d : DOp} {s : St} (h1 : d.cls = 1) {v : DV} {H' : Heap} {nx' : Nat} (h : dop cf d s = some (v, H', nx')) {H : Heap} (hs : Sub s.heap H) (n : Nat) :
    ∃ ids, H' = frz s.heap ids ∧ nx' = s.next ∧ (∀ id ∈ ids, ∃ b, aget s.heap id = some b) ∧ dop cf d { s with heap := H, next := n } = some (v, frz H ids, n) := by
  have evw : ∀ (x : DO), St.ev { s with heap := H, next := n } x = s.ev x := fun x => ev_congr fun _ _ => rfl
  have evsw : ∀ (x : List DO), evs { s with heap := H, next := n } x = evs s x := fun x => evs_congr _ fun _ _ => rfl
  have evxw : ∀ (x : List (Nat × DO)), evIx { s with heap := H, next := n } x = evIx s x := fun x => evIx_congr _ fun _ _ => rfl
  have eviw : ∀ (x : Option DO) (d : Int), evI { s with heap := H, next := n } x d = evI s x d := fun x d => evI_congr (fun _ _ => rfl) d
  have evbw : ∀ (x : Option DO), evB { s with heap := H, next := n } x = evB s x := fun x => evB_congr fun _ _ => rfl
  have rd : ∀ (id : Nat), aget s.heap id = none ∧ True ∨ (∃ f f' cs, aget s.heap id = some (.var f cs) ∧ aget H id = some (.var f' cs)) ∨ (∃ f f' sz xs, aget s.heap id = some (.row f sz xs) ∧ aget H id = some (.row f' sz xs)) ∨ ∃ f f' kv, aget s.heap id = some (.map f kv) ∧ aget H id = some (.map f' kv) := by
    intro id
    cases hc : aget s.heap id with
    | none => exact .inl ⟨rfl, trivial⟩
    | some b => cases b with
      | var f cs => exact .inr (.inl ⟨f, f, cs, rfl, hs id _ hc⟩)
      | row f sz xs => exact .inr (.inr (.inl ⟨f, f, sz, xs, rfl, hs id _ hc⟩))
      | map f kv => exact .inr (.inr (.inr ⟨f, f, kv, rfl, hs id _ hc⟩))
  cases d
  case call b f xs =>
    cases b with
    | true => simp [DOp.cls] at h1
    | false =>
      simp only [dop, evsw] at h ⊢
      cases hl : evs s xs with
      | none => rw [hl] at h; cases h
      | some l =>
        rw [hl] at h
        obtain ⟨ids, e1, e2, e0, e3⟩ := callD_grow hs h
        exact ⟨ids, e1, e2, e0, e3 _⟩
  case callv b fv xs =>
    cases b with
    | true => simp [DOp.cls] at h1
    | false =>
      simp only [dop, evsw, evw] at h ⊢
      split at h
      · rename_i f caps l hv hl
        try rw [hv, hl]
        obtain ⟨ids, e1, e2, e0, e3⟩ := callD_grow hs h
        exact ⟨ids, e1, e2, e0, e3 _⟩
      · rename_i f caps l hv hl
        try rw [hv, hl]
        obtain ⟨ids, e1, e2, e0, e3⟩ := callD_grow hs h
        exact ⟨ids, e1, e2, e0, e3 _⟩
      · cases h
  case slice sz x lo hi mx =>
    simp only [dop, evw, eviw, evbw] at h ⊢
    split at h
    · rename_i q l hh m e1 e2 e3 e4
      try rw [e1, e2, e3, e4]
      try simp only
      cases hr : sliceDV s.heap sz q l hh m with
      | none => rw [hr] at h; cases h
      | some r =>
        rw [hr] at h
        obtain ⟨r, ids⟩ := r
        cases h
        obtain ⟨g1, g2⟩ := sliceDV_grow hs hr
        rw [g1]
        exact ⟨ids, rfl, rfl, g2, rfl⟩
    · cases h
  case buildSlice z len ps =>
    simp only [dop, evxw] at h ⊢
    cases hl : evIx s ps with
    | none => rw [hl] at h; cases h
    | some l =>
      rw [hl] at h
      simp only at h ⊢
      cases hx : litElems s.heap z.length 0 l with
      | none => rw [hx] at h; cases h
      | some xs =>
        rw [hx] at h
        cases h
        obtain ⟨g1, g2, g3⟩ := litElems_grow hs _ _ _ _ hx
        rw [g1]
        simp only
        rw [g2]
        exact ⟨_, rfl, by first | rfl | trivial, g3, by first | rfl | trivial⟩
  case load n x =>
    simp only [dop, evw] at h ⊢
    refine ⟨[], ?_⟩
    simp only [frz]
    cases hv : s.ev x with
    | none => rw [hv] at h; cases h
    | some q =>
      rw [hv] at h
      cases q with
      | ptr id off =>
        simp only at h ⊢
        rcases rd id with ⟨e1, e2⟩ | ⟨f, f', cs, e1, e2⟩ | ⟨f, f', sz, xs, e1, e2⟩ | ⟨f, f', kv, e1, e2⟩ <;> rw [e1] at h <;> (try rw [e2])
        rotate_right 1
        · cases h
        · cases h
        · cases n with
          | none => simp only at h ⊢; cases hc : cs[off]? <;> rw [hc] at h <;> cases h; exact ⟨rfl, rfl, by simp, rfl⟩
          | some n => simp only at h ⊢; cases hc : takeDrop cs off n <;> rw [hc] at h <;> cases h; exact ⟨rfl, rfl, by simp, rfl⟩
        · cases h
      | p q =>
        cases q with
        | vptr cs =>
          cases n with
          | none => simp only at h ⊢; cases hc : cs[0]? <;> rw [hc] at h <;> cases h; exact ⟨rfl, rfl, by simp, rfl⟩
          | some n => simp only at h ⊢; cases hc : takeDrop cs 0 n <;> rw [hc] at h <;> cases h; exact ⟨rfl, rfl, by simp, rfl⟩
        | _ => cases h
      | eptr id ver i off =>
        simp only at h ⊢
        rcases rd id with ⟨e1, e2⟩ | ⟨f, f', cs, e1, e2⟩ | ⟨f, f', sz, xs, e1, e2⟩ | ⟨f, f', kv, e1, e2⟩ <;> rw [e1] at h <;> (try rw [e2])
        rotate_right 1
        · cases h
        · cases h
        · cases h
        · simp only at h ⊢
          split at h
          · rename_i hver
            rw [if_pos hver]
            cases hi : xs[i]? with
            | none => rw [hi] at h; cases h
            | some y =>
              rw [hi] at h
              cases n with
              | none => simp only at h ⊢; cases hc : y[off]? <;> rw [hc] at h <;> cases h; exact ⟨rfl, rfl, by simp, rfl⟩
              | some n => simp only at h ⊢; cases hc : takeDrop y off n <;> rw [hc] at h <;> cases h; exact ⟨rfl, rfl, by simp, rfl⟩
          · cases h
      | _ => cases h
  case nilCheck x =>
    simp only [dop, evw] at h ⊢
    refine ⟨[], ?_⟩
    simp only [frz]
    cases hv : s.ev x with
    | none => rw [hv] at h; cases h
    | some q =>
      rw [hv] at h
      simp only at h ⊢
      have hp : isPtr s.heap q = true → isPtr H q = true := by
        intro hq
        cases q with
        | ptr id off => simp only [isPtr] at hq ⊢; rcases rd id with ⟨e1, e2⟩ | ⟨f, f', cs, e1, e2⟩ | ⟨f, f', sz, xs, e1, e2⟩ | ⟨f, f', kv, e1, e2⟩ <;> rw [e1] at hq <;> (try rw [e2]) <;> simp_all
        | eptr id ver i off => simp only [isPtr] at hq ⊢; rcases rd id with ⟨e1, e2⟩ | ⟨f, f', cs, e1, e2⟩ | ⟨f, f', sz, xs, e1, e2⟩ | ⟨f, f', kv, e1, e2⟩ <;> rw [e1] at hq <;> (try rw [e2]) <;> simp_all
        | p v => cases v <;> simp_all [isPtr]
        | _ => simp_all [isPtr]
      split at h
      · rename_i hc; cases h; rw [if_pos (hp hc)]; exact ⟨rfl, rfl, by simp, rfl⟩
      · cases h
  case fieldAddr off x =>
    simp only [dop, evw] at h ⊢
    refine ⟨[], ?_⟩
    simp only [frz]
    cases hv : s.ev x with
    | none => rw [hv] at h; cases h
    | some q =>
      rw [hv] at h
      cases q with
      | ptr id o =>
        simp only at h ⊢
        rcases rd id with ⟨e1, e2⟩ | ⟨f, f', cs, e1, e2⟩ | ⟨f, f', sz, xs, e1, e2⟩ | ⟨f, f', kv, e1, e2⟩ <;> rw [e1] at h <;> (try rw [e2]) <;> cases h
        exact ⟨rfl, rfl, by simp, rfl⟩
      | eptr id ver i o =>
        simp only at h ⊢
        rcases rd id with ⟨e1, e2⟩ | ⟨f, f', cs, e1, e2⟩ | ⟨f, f', sz, xs, e1, e2⟩ | ⟨f, f', kv, e1, e2⟩ <;> rw [e1] at h <;> (try rw [e2])
        rotate_right 1
        · cases h
        · cases h
        · cases h
        · simp only at h ⊢
          split at h
          · rename_i hc; cases h; rw [if_pos hc]; exact ⟨rfl, rfl, by simp, rfl⟩
          · cases h
      | p v => cases v <;> cases h; exact ⟨rfl, rfl, by simp, rfl⟩
      | _ => cases h
  case indexAddr sz x i =>
    simp only [dop, evw] at h ⊢
    refine ⟨[], ?_⟩
    simp only [frz]
    split at h
    · rename_i full xs k n e1 e2
      try rw [e1, e2]
      try simp only
      split at h
      · rename_i h0
        rw [if_pos h0]
        cases hy : xs[n.toNat]? with
        | none => rw [hy] at h; cases h
        | some y =>
          rw [hy] at h
          simp only at h ⊢
          split at h
          · rename_i hl; cases h; rw [if_pos hl]; exact ⟨rfl, rfl, by simp, rfl⟩
          · cases h
      · cases h
    · rename_i id ver off k kk n e1 e2
      try rw [e1, e2]
      try simp only
      rcases rd id with ⟨g1, g2⟩ | ⟨f, f', cs, g1, g2⟩ | ⟨f, f', sz, xs, g1, g2⟩ | ⟨f, f', kv, g1, g2⟩ <;> rw [g1] at h <;> (try rw [g2])
      rotate_right 1
      · cases h
      · cases h
      · cases h
      · simp only at h ⊢
        split at h
        · rename_i hc; cases h; rw [if_pos hc]; exact ⟨rfl, rfl, by simp, rfl⟩
        · cases h
    · cases h
  case arrAddr len sz x i =>
    simp only [dop, evw] at h ⊢
    refine ⟨[], ?_⟩
    simp only [frz]
    split at h
    · rename_i id off k n e1 e2
      try rw [e1, e2]
      try simp only
      rcases rd id with ⟨g1, g2⟩ | ⟨f, f', cs, g1, g2⟩ | ⟨f, f', sz, xs, g1, g2⟩ | ⟨f, f', kv, g1, g2⟩ <;> rw [g1] at h <;> (try rw [g2])
      rotate_right 1
      · cases h
      · cases h
      · simp only at h ⊢
        split at h
        · rename_i hc; cases h; rw [if_pos hc]; exact ⟨rfl, rfl, by simp, rfl⟩
        · cases h
      · cases h
    · cases h
  case lookup zero x i =>
    simp only [dop, evw] at h ⊢
    refine ⟨[], ?_⟩
    simp only [frz]
    split at h
    · rename_i id off n e1 e2
      try rw [e1, e2]
      try simp only
      rcases rd id with ⟨g1, g2⟩ | ⟨f, f', cs, g1, g2⟩ | ⟨f, f', sz, xs, g1, g2⟩ | ⟨f, f', kv, g1, g2⟩ <;> rw [g1] at h <;> (try rw [g2])
      · cases h
      · cases h
      · cases h
      · cases h; exact ⟨rfl, rfl, by simp, rfl⟩
    · cases h
  case len x =>
    simp only [dop, evw] at h ⊢
    refine ⟨[], ?_⟩
    simp only [frz]
    split at h
    · rename_i full xs e1; cases h; (try rw [e1]); exact ⟨rfl, rfl, by simp, rfl⟩
    · rename_i id ver off n e1
      try rw [e1]
      try simp only
      rcases rd id with ⟨g1, g2⟩ | ⟨f, f', cs, g1, g2⟩ | ⟨f, f', sz, xs, g1, g2⟩ | ⟨f, f', kv, g1, g2⟩ <;> rw [g1] at h <;> (try rw [g2])
      rotate_right 1
      · cases h
      · cases h
      · cases h
      · simp only at h ⊢
        split at h
        · rename_i hc; cases h; rw [if_pos hc]; exact ⟨rfl, rfl, by simp, rfl⟩
        · cases h
    · cases h
  all_goals (simp [DOp.cls] at h1)

end Go.Dv
