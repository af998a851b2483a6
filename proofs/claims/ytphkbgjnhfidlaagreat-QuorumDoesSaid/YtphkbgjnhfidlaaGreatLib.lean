/-
  Contracts of library functions, in a call's own memory: slices.Clone.
-/
import Derived.Test.YtphkbgjnhfidlaaGreatWalk
set_option linter.unusedVariables false
set_option linter.unusedSimpArgs false
namespace Go.Dv

def cloneA (nt : Nat) (zero : List PV) (bytes : Nat) : AFunc := ⟨nt, 1, [.tmp 2],
  .seq (.region false [⟨some 2, .move (.c (.p (.slice true []))), none, []⟩] [])
  (.seq (.seq (.region false [⟨some 3, .move (.t 0), none, []⟩, ⟨some 4, .isNil (.t 3), none, []⟩] [])
    (.cond (.t 4) (.seq (.region false [⟨some 2, .move (.c (.p (.slice true []))), none, []⟩] []) .ret) .skip))
  (.seq (.region false [⟨some 5, .buildSlice zero 0 [], none, []⟩, ⟨some 6, .move (.t 0), none, []⟩, ⟨some 7, .append bytes zero.length (.t 5) (.t 6), none, []⟩, ⟨some 2, .move (.t 7), none, []⟩] []) .ret))⟩

theorem clone_run {nt : Nat} {zero : List PV} {bytes : Nat} {full : Bool} {x : List PV} {xs : List (List PV)} {H : Heap} {nx : Nat} (hs : allSz zero.length (x :: xs) = true) (hb : (xs.length + 1) * bytes ≤ maxBytes) (hl : xs.length + 1 ≤ maxBytes) :
    drun noCalls 0 (cloneA nt zero bytes) [.p (.slice full (x :: xs))] H nx = some (.ref nx (xs.length + 1) 0 (xs.length + 1), (nx, .row false zero.length (x :: xs)) :: H, nx + 1) := by
  have hz : allSz zero.length [] = true := rfl
  simp [drun, cloneA, dcode, dops, dopr, gd, dop, St.ev, initEnv, aget, eput, eset, adels, evIx, litElems, frz, elemsOf, appendDV, dresults, mapO, dres, hs, hb, hl, hz]

theorem clone_runz {nt : Nat} {zero : List PV} {bytes : Nat} {H : Heap} {nx : Nat} :
    drun noCalls 0 (cloneA nt zero bytes) [.p (.z true)] H nx = some (.p (.slice true []), H, nx) ∧
    drun noCalls 0 (cloneA nt zero bytes) [.p (.z false)] H nx = some (.ref nx 0 0 0, (nx, .row false zero.length []) :: H, nx + 1) := by
  have hz : allSz zero.length [] = true := rfl
  constructor
  · simp [drun, cloneA, dcode, dops, dopr, gd, dop, St.ev, initEnv, aget, eput, eset, adels, evIx, litElems, frz, elemsOf, appendDV, dresults, mapO, dres, hz]
  · simp [drun, cloneA, dcode, dops, dopr, gd, dop, St.ev, initEnv, aget, eput, eset, adels, evIx, litElems, frz, elemsOf, appendDV, dresults, mapO, dres, hz]

theorem clone_ok {P : Program} (hmix : P.follows .mixedOrders = true) {f : FuncId} {nt : Nat} {zero : List PV} {bytes : Nat} (hm : matchFunc P f (cloneA nt zero bytes) = true) {full : Bool} {xs : List (List PV)} {H : Heap} {nx : Nat}
    (hs : allSz zero.length xs = true) (hb : xs.length * bytes ≤ maxBytes) (hl : xs.length ≤ maxBytes) :
    ByrefOK P f [.p (.slice full xs)] H nx (.ref nx xs.length 0 xs.length) ((nx, .row false zero.length xs) :: H) (nx + 1) := by
  cases xs with
  | cons x xs => exact func_sound noCalls_ok hmix hm (clone_run hs hb hl)
  | nil =>
    have h1 := func_sound (P := P) (cf := noCalls) noCalls_ok hmix hm (clone_runz (nt := nt) (zero := zero) (bytes := bytes) (H := H) (nx := nx)).1
    have h2 := func_sound (P := P) (cf := noCalls) noCalls_ok hmix hm (clone_runz (nt := nt) (zero := zero) (bytes := bytes) (H := H) (nx := nx)).2
    refine ⟨h1.1, fun B w0 U0 β w vs m hvs hrep => ?_⟩
    have h0 := hrep 0 _ rfl
    have hv : ∃ a c, vs.getD 0 undef = .slice a 0 c := by
      generalize vs.getD 0 undef = v at h0 ⊢
      cases h0 with | p _ _ hp =>
        cases hp with
        | none _ a c _ => exact ⟨a, c, rfl⟩
        | slice _ _ _ _ _ _ _ _ _ _ hne => simp at hne
    obtain ⟨a, c, hv⟩ := hv
    have hz : ∀ (b : Bool), b = a.isNone → ∀ j d, [DV.p (.z b)][j]? = some d → DRep w (Own U0 β H) β H nx d (vs.getD j undef) := by
      intro b hb j d hj
      cases j with
      | zero =>
        simp only [List.getElem?_cons_zero, Option.some.injEq] at hj
        subst hj; rw [hb, hv]; exact .p _ _ (.z a c)
      | succ j => simp at hj
    cases hn : a.isNone with
    | false => exact h2.2 B w0 U0 β w vs m hvs (hz false hn.symm)
    | true =>
      refine (h1.2 B w0 U0 β w vs m hvs (hz true hn.symm)).mono ?_
      rintro e w' ⟨x, rfl, β', m', k', e', hd⟩
      refine ⟨x, rfl, ?_⟩
      have hx : ∃ ad, x = .slice ad 0 0 := by
        cases hd with | p _ _ hp =>
          cases hp with
          | none _ ad c h => exact ⟨ad, by rw [h rfl]⟩
          | slice _ _ _ _ _ _ _ _ _ _ hne => simp at hne
      obtain ⟨ad, rfl⟩ := hx
      obtain ⟨β2, m2, k2, e2, d2⟩ := own_row m' zero.length ad
      exact ⟨β2, m2, k'.trans k2, e'.trans e2, d2⟩

theorem clone_pure {P : Program} (hmix : P.follows .mixedOrders = true) {f : FuncId} {nt : Nat} {zero : List PV} {bytes : Nat} (hm : matchFunc P f (cloneA nt zero bytes) = true) {full : Bool} {xs : List (List PV)}
    (hs : allSz zero.length xs = true) (hb : xs.length * bytes ≤ maxBytes) (hl : xs.length ≤ maxBytes) : PureOK P f [.slice full xs] (.slice false xs) := by
  refine ByrefOK.pure (v := .ref 0 xs.length 0 xs.length) (h := [(0, .row false zero.length xs)]) (k := 1) ?_ ?_
  · exact clone_ok hmix hm (full := full) (H := []) (nx := 0) hs hb hl
  · simp [pur, dep, aget]

end Go.Dv
