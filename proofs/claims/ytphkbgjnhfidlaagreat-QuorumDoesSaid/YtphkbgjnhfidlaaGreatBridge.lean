/-
  From the reading of a law's arguments to pure values.
-/
import Derived.Test.YtphkbgjnhfidlaaGreatWalk
import Derived.ChangeArms
import Derived.ChangeShapes
import Derived.WideShapes
set_option linter.unusedVariables false
set_option linter.unusedSimpArgs false
namespace Go.Dv
open Go.RowKit

inductive Sh where
  | int (k : IntKind)
  | bool
  | str
  | slice (l : List Sh)

def shFields (P : Program) (rec : TypeId → Option (List Sh)) : Nat → List Field → Option (List Sh)
  | _, [] => some []
  | o, f :: r => match rec f.type with
    | some l => if f.offset = o ∧ l.length = P.cellsOf f.type then match shFields P rec (o + l.length) r with
        | some q => some (l ++ q)
        | none => none
      else none
    | none => none

def shOf (P : Program) : Nat → TypeId → Option (List Sh)
  | 0, _ => none
  | n + 1, t => match P.underlying t with
    | some .bool => some [.bool]
    | some (.int k) => some [.int k]
    | some .string => some [.str]
    | some (.slice e) => match shOf P n e with
      | some l => if l.length = P.cellsOf e ∧ 0 < l.length then some [.slice l] else none
      | none => none
    | some (.struct fs) => match shFields P (shOf P n) 0 fs.toList with
      | some l => if l.length = P.cellsOf t then some l else none
      | none => none
    | _ => none

inductive Fit : Sh → PV → Prop
  | int (k : IntKind) (n : Int) (h : (Lit.int k n).wf = true) : Fit (.int k) (.int k n)
  | bool (b : Bool) : Fit .bool (.bool b)
  | str (s : ByteArray) (h : s.size ≤ maxLen) : Fit .str (.str s)
  | slice (l : List Sh) (xs : List (List PV)) (h : xs.length ≤ maxLen) (hl : ∀ x ∈ xs, x.length = l.length)
      (hr : ∀ (i : Nat) x (j : Nat) s y, xs[i]? = some x → l[j]? = some s → x[j]? = some y → Fit s y) : Fit (.slice l) (.slice false xs)

def Fits (l : List Sh) (qs : List PV) : Prop := qs.length = l.length ∧ ∀ (j : Nat) s y, l[j]? = some s → qs[j]? = some y → Fit s y

theorem Fits.nil {qs : List PV} (h : Fits [] qs) : qs = [] := by simpa using h.1
theorem Fits.cons {s : Sh} {l : List Sh} {qs : List PV} (h : Fits (s :: l) qs) : ∃ y r, qs = y :: r ∧ Fit s y ∧ Fits l r := by
  cases qs with
  | nil => simp [Fits] at h
  | cons y r => exact ⟨y, r, rfl, h.2 0 s y rfl rfl, by have := h.1; simpa using this, fun j s' y' h1 h2 => h.2 (j + 1) s' y' (by simpa using h1) (by simpa using h2)⟩

theorem Fits.append {l m : List Sh} {p q : List PV} (h : Fits l p) (k : Fits m q) : Fits (l ++ m) (p ++ q) := by
  refine ⟨by simp [h.1, k.1], fun j s y h1 h2 => ?_⟩
  by_cases hj : j < l.length
  · rw [List.getElem?_append_left hj] at h1
    rw [List.getElem?_append_left (by rw [h.1]; exact hj)] at h2
    exact h.2 j s y h1 h2
  · rw [List.getElem?_append_right (by omega)] at h1
    rw [List.getElem?_append_right (by rw [h.1]; omega), h.1] at h2
    exact k.2 _ s y h1 h2

theorem exists_list {α : Type} {R : Nat → α → Prop} : ∀ (n : Nat), (∀ i, i < n → ∃ y, R i y) → ∃ l : List α, l.length = n ∧ ∀ i y, l[i]? = some y → R i y
  | 0, _ => ⟨[], rfl, by simp⟩
  | n + 1, h => by
    obtain ⟨l, hl, hr⟩ := exists_list n fun i hi => h i (by omega)
    obtain ⟨y, hy⟩ := h n (by omega)
    refine ⟨l ++ [y], by simp [hl], fun i z hz => ?_⟩
    by_cases hi : i < l.length
    · rw [List.getElem?_append_left hi] at hz; exact hr i z hz
    · rw [List.getElem?_append_right (by omega)] at hz
      by_cases e : i - l.length = 0
      · rw [e] at hz; simp at hz; subst hz
        have : i = n := by omega
        rw [this]; exact hy
      · have : ∃ m, i - l.length = m + 1 := ⟨i - l.length - 1, by omega⟩
        obtain ⟨m, hm⟩ := this
        rw [hm] at hz; simp at hz

def RowRep (w : World) (qs : List PV) (cs : List Value) : Prop :=
  cs.length = qs.length ∧ ∀ (j : Nat) y, qs[j]? = some y → ∃ v, cs[j]? = some v ∧ PRep w (fun _ => False) y v ∧ v.oneCell' = true

theorem Addr.add_of (a : Addr) (h : a.spot = none) (n : Nat) : a.add n = ⟨a.block, a.off + n, none⟩ := by
  unfold Addr.add
  split
  · rename_i e; subst e; cases a; simp at h; subst h; rfl
  · cases a; rfl

section
variable {H : Type} {enc : TypeId × Value → H} {P : Program} {w : World} {base : Nat} {spare : Nat → Bool} {held : Bool}

theorem fields_rep {rec : TypeId → Option (List Sh)} {n : Nat} {cs : List Value} (ih : ∀ t l cs x, rec t = some l → DataW.trod enc P w base spare held n t cs = some x → ∃ qs, Fits l qs ∧ RowRep w qs cs) :
    ∀ (fs : List Field) (o : Nat) (l : List Sh), shFields P rec o fs = some l → (∀ f ∈ fs, ∃ x, DataW.trod enc P w base spare held n f.type ((cs.drop f.offset).take (P.cellsOf f.type)) = some x) →
      ∃ qs, Fits l qs ∧ RowRep w qs ((cs.drop o).take l.length)
  | [], o, l, h, _ => by
    simp only [shFields, Option.some.injEq] at h; subst h
    exact ⟨[], ⟨rfl, by simp⟩, by simp, by simp⟩
  | f :: r, o, l, h, hf => by
    simp only [shFields] at h
    cases hr : rec f.type with
    | none => rw [hr] at h; cases h
    | some l1 =>
      rw [hr] at h
      simp only at h
      split at h
      · rename_i hc
        cases hq : shFields P rec (o + l1.length) r with
        | none => rw [hq] at h; cases h
        | some l2 =>
          rw [hq] at h; simp only [Option.some.injEq] at h; subst h
          obtain ⟨x, hx⟩ := hf f (by simp)
          obtain ⟨q1, f1, c1, e1⟩ := ih f.type l1 _ x hr hx
          obtain ⟨q2, f2, c2, e2⟩ := fields_rep ih r (o + l1.length) l2 hq fun g hg => hf g (by simp [hg])
          rw [hc.1, ← hc.2] at c1 e1
          refine ⟨q1 ++ q2, f1.append f2, ?_, fun j y hy => ?_⟩
          · have h1 := f1.1; have h2 := f2.1
            simp only [List.length_take, List.length_drop, List.length_append] at c1 c2 ⊢
            omega
          · have h1 := f1.1
            by_cases hj : j < q1.length
            · rw [List.getElem?_append_left hj] at hy
              obtain ⟨v, g1, g2⟩ := e1 j y hy
              refine ⟨v, ?_, g2⟩
              rw [List.getElem?_take] at g1 ⊢
              rw [if_pos (by omega)] at g1
              rw [if_pos (by simp; omega)]; exact g1
            · rw [List.getElem?_append_right (by omega)] at hy
              obtain ⟨v, g1, g2⟩ := e2 _ y hy
              have hlt : j - q1.length < q2.length := by
                by_cases hh : j - q1.length < q2.length
                · exact hh
                · rw [List.getElem?_eq_none (by omega)] at hy; cases hy
              have h2 := f2.1
              refine ⟨v, ?_, g2⟩
              rw [List.getElem?_take, if_pos (by omega), List.getElem?_drop] at g1
              rw [List.getElem?_take, if_pos (by simp; omega), List.getElem?_drop, ← g1]
              congr 1; omega
      · cases h

theorem trod_rep : ∀ (m : Nat) (t : TypeId) (l : List Sh) (n : Nat) (cs : List Value) (x : DataW H × List MemPlace), shOf P m t = some l → DataW.trod enc P w base spare held n t cs = some x →
    ∃ qs, Fits l qs ∧ RowRep w qs cs := by
  intro m
  induction m with
  | zero => intro t l n cs x h; cases h
  | succ m ih =>
    intro t l n cs x h hx
    simp only [shOf] at h
    have one : ∀ (s : Sh) (y : PV) (v : Value), Fit s y → PRep w (fun _ => False) y v → v.oneCell' = true → ∃ qs, Fits [s] qs ∧ RowRep w qs [v] := by
      intro s y v h1 h2 h3
      refine ⟨[y], ⟨rfl, fun j s' y' a b => ?_⟩, rfl, fun j y' b => ?_⟩
      · cases j with
        | zero => simp at a b; subst a; subst b; exact h1
        | succ j => simp at a
      · cases j with
        | zero => simp at b; subst b; exact ⟨v, rfl, h2, h3⟩
        | succ j => simp at b
    split at h
    · rename_i ht
      cases h
      obtain ⟨b, rfl, _⟩ := DataW.trod_bool ht hx
      exact one _ _ _ (.bool b) (.bool b) rfl
    · rename_i k ht
      cases h
      obtain ⟨b, rfl, _, hw⟩ := DataW.trod_int ht hx
      exact one _ _ _ (.int k b hw) (.int k b) rfl
    · rename_i ht
      cases h
      obtain ⟨b, rfl, _, hw⟩ := DataW.trod_string ht hx
      exact one _ _ _ (.str b hw) (.str b) rfl
    · rename_i e ht
      cases he : shOf P m e with
      | none => rw [he] at h; cases h
      | some l1 =>
        rw [he] at h
        simp only at h
        split at h
        · rename_i hc
          cases h
          rcases DataW.trod_slice ht hx with ⟨rfl, _⟩ | ⟨a, len, cap, elems, rest, k, _, rfl, _, _, hl, hm, hlen, hel, _, _⟩
          · exact one _ _ _ (.slice l1 [] (by simp) (by simp) (by simp)) (.none false none 0 (by simp)) rfl
          · have each : ∀ i, i < len → ∃ y : List PV, Fits l1 y ∧ ∃ ecs, w.cells? base (a.add (i * l1.length)) l1.length = some ecs ∧ RowRep w y ecs := by
              intro i hi
              have h1 := hel i hi
              rw [List.getElem?_eq_getElem (by omega)] at h1
              rw [← hc.1] at h1
              cases hcs : w.cells? base (a.add (i * l1.length)) l1.length with
              | none => rw [hcs] at h1; cases h1
              | some ecs =>
                rw [hcs] at h1
                simp only [Option.bind_some] at h1
                obtain ⟨qs, g1, g2⟩ := ih e l1 k ecs _ he h1
                exact ⟨qs, g1, ecs, rfl, g2⟩
            obtain ⟨xs, hxl, hxr⟩ := exists_list len each
            by_cases h0 : len = 0
            · subst h0
              exact one _ _ _ (.slice l1 [] (by simp) (by simp) (by simp)) (.none false (some a) cap (by simp)) rfl
            · have hspot : a.spot = none := by
                obtain ⟨y, hy⟩ : ∃ y, xs[0]? = some y := ⟨_, List.getElem?_eq_getElem (by omega)⟩
                obtain ⟨_, ecs, g1, _⟩ := hxr 0 y hy
                obtain ⟨_, g2, g3⟩ := World.cells?_some g1
                have g4 := g3 0 hc.2
                rw [List.getElem?_eq_getElem (by omega)] at g4
                have e0 : (a.add (0 * l1.length)).add 0 = a := by simp [Addr.add]
                rw [e0] at g4
                unfold World.cell? at g4
                split at g4
                · split at g4
                  · cases g4
                  · rename_i hs; simpa using hs
                · cases g4
              have cell : ∀ i y, xs[i]? = some y → ∀ j z, y[j]? = some z → ∃ v, w.cell? ⟨a.block, a.off + i * l1.length + j, none⟩ = some v ∧ PRep w (fun _ => False) z v ∧ v.oneCell' = true := by
                intro i y hy j z hz
                obtain ⟨f1, ecs, g1, g2, g3⟩ := hxr i y hy
                obtain ⟨_, g4, g5⟩ := World.cells?_some g1
                obtain ⟨v, e1, e2⟩ := g3 j z hz
                have hj : j < l1.length := by
                  have := f1.1
                  by_cases hh : j < y.length
                  · omega
                  · rw [List.getElem?_eq_none (by omega)] at hz; cases hz
                have := g5 j hj
                rw [Addr.add_of a hspot, Addr.add_of _ rfl, e1] at this
                exact ⟨v, this, e2⟩
              obtain ⟨arr, T, fz, hb⟩ : ∃ arr T fz, w.heap[a.block]? = some (.cells arr T fz) := by
                obtain ⟨y, hy⟩ : ∃ y, xs[0]? = some y := ⟨_, List.getElem?_eq_getElem (by omega)⟩
                obtain ⟨f1, _⟩ := hxr 0 y hy
                obtain ⟨z, hz⟩ : ∃ z, y[0]? = some z := ⟨_, List.getElem?_eq_getElem (by rw [f1.1]; exact hc.2)⟩
                obtain ⟨v, hv, _⟩ := cell 0 y hy 0 z hz
                unfold World.cell? at hv
                split at hv
                · rename_i c T fz hh; exact ⟨c, T, fz, hh⟩
                · cases hv
              have cell' : ∀ i y, xs[i]? = some y → ∀ j z, y[j]? = some z → ∃ v, arr[a.off + i * l1.length + j]? = some v ∧ PRep w (fun _ => False) z v ∧ v.oneCell' = true := by
                intro i y hy j z hz
                obtain ⟨v, h1, h2⟩ := cell i y hy j z hz
                unfold World.cell? at h1
                simp only [hb] at h1
                exact ⟨v, by simpa using h1, h2⟩
              have hsz' : ∀ x ∈ xs, x.length = l1.length := by
                intro x hx
                obtain ⟨i, hi, rfl⟩ := List.mem_iff_getElem.1 hx
                exact (hxr i _ (List.getElem?_eq_getElem hi)).1.1
              have ha : a = ⟨a.block, a.off, none⟩ := by cases a; simp at hspot; subst hspot; rfl
              refine one _ (.slice false xs) _ (.slice l1 xs (by omega) hsz' fun i x j s y h1 h2 h3 => (hxr i x h1).1.2 j s y h2 h3) ?_ rfl
              rw [ha, ← hxl]
              refine .slice false xs a.block a.off cap l1.length arr T fz (fun i j => arr.getD (a.off + i * l1.length + j) undef) (by omega) (by omega) (by simp) hb (fun h => h) hsz' ?_ ?_ ?_
              · intro i x j y h1 h2
                obtain ⟨v, e1, _⟩ := cell' i x h1 j y h2
                rw [e1]
                rw [Array.getD_eq_getD_getElem?, e1]; rfl
              · intro i x j y h1 h2
                obtain ⟨v, e1, _, e3⟩ := cell' i x h1 j y h2
                show (arr.getD _ undef).oneCell' = true
                rw [Array.getD_eq_getD_getElem?, e1]; exact e3
              · intro i x j y h1 h2
                obtain ⟨v, e1, e2, _⟩ := cell' i x h1 j y h2
                show PRep w _ y (arr.getD _ undef)
                rw [Array.getD_eq_getD_getElem?, e1]; exact e2
        · cases h
    · rename_i fs ht
      cases hsf : shFields P (shOf P m) 0 fs.toList with
      | none => rw [hsf] at h; cases h
      | some l0 =>
      rw [hsf] at h
      simp only at h
      split at h
      case isFalse => cases h
      rename_i hll
      cases h
      obtain ⟨xs, k, _, _, hl, hn, hf⟩ := DataW.trod_struct ht hx
      obtain ⟨qs, g1, g2⟩ := fields_rep (rec := shOf P m) (n := k) (cs := cs) (fun t l cs x a b => ih t l k cs x a b) fs.toList 0 l hsf (fun f hf' => by
        obtain ⟨i, hi, rfl⟩ := List.mem_iff_getElem.1 hf'
        have hi' : i < fs.size := by simpa using hi
        have := hf i fs[i] (Array.getElem?_eq_getElem hi')
        rw [List.getElem?_eq_getElem (by omega)] at this
        exact ⟨_, by simpa using this⟩)
      rw [List.drop_zero, List.take_of_length_le (by omega)] at g2
      exact ⟨qs, g1, g2⟩
    · cases h

theorem RowRep.get {qs : List PV} {cs : Array Value} (h : RowRep w qs cs.toList) : cs.size = qs.length ∧ ∀ (j : Nat) y, qs[j]? = some y → PRep w (fun _ => False) y (cs.getD j undef) ∧ (cs.getD j undef).oneCell' = true := by
  refine ⟨by simpa using h.1, fun j y hy => ?_⟩
  obtain ⟨v, h1, h2⟩ := h.2 j y hy
  have : cs[j]? = some v := by simpa using h1
  rw [Array.getD_eq_getD_getElem?, this]; exact h2

theorem arg_agg {t : TypeId} {fs : Array Field} (ht : P.underlying t = some (.struct fs)) {m : Nat} {l : List Sh} (hl : shOf P m t = some l) {r : Reach} {b : Nat} {v : Value} (hok : Value.okWide P w r b t v) {d : DataW H} {ps : List MemPlace} (h : DataW.Trod enc P w base spare held t v d ps) :
    ∃ qs, Fits l qs ∧ PRep w (fun _ => False) (.agg qs) v := by
  simp only [Value.okWide, ht] at hok
  obtain ⟨cs, rfl, _, _⟩ := hok
  obtain ⟨fuel, hf⟩ := h
  obtain ⟨qs, h1, h2⟩ := trod_rep m t l fuel _ _ hl hf
  have h3 := h2.get (cs := cs)
  exact ⟨qs, h1, .agg qs cs h3.1 (fun j y hj => (h3.2 j y hj).2) fun j y hj => (h3.2 j y hj).1⟩

theorem arg_one {t : TypeId} {m : Nat} {s : Sh} (hl : shOf P m t = some [s]) {v : Value} (hv : v.cells = #[v]) {d : DataW H} {ps : List MemPlace} (h : DataW.Trod enc P w base spare held t v d ps) :
    ∃ q, Fit s q ∧ PRep w (fun _ => False) q v := by
  obtain ⟨fuel, hf⟩ := h
  obtain ⟨qs, h1, h2⟩ := trod_rep m t [s] fuel _ _ hl hf
  obtain ⟨q, r, rfl, h3, h4⟩ := h1.cons
  obtain ⟨v', e1, e2, _⟩ := h2.2 0 q rfl
  rw [hv] at e1
  simp at e1; subst e1
  exact ⟨q, h3, e2⟩

theorem arg_slice {t e : TypeId} (ht : P.underlying t = some (.slice e)) {m : Nat} {s : Sh} (hl : shOf P m t = some [s]) {r : Reach} {b : Nat} {v : Value} (hok : Value.okWide P w r b t v) {d : DataW H} {ps : List MemPlace} (h : DataW.Trod enc P w base spare held t v d ps) :
    ∃ q, Fit s q ∧ PRep w (fun _ => False) q v := by
  obtain ⟨a, n, c, rfl⟩ := WideShapes.okWide_slice ht hok
  exact arg_one hl rfl h

theorem arg_int {t : TypeId} {k : IntKind} (ht : P.underlying t = some (.int k)) {m : Nat} {s : Sh} (hl : shOf P m t = some [s]) {r : Reach} {b : Nat} {v : Value} (hok : Value.okWide P w r b t v) {d : DataW H} {ps : List MemPlace} (h : DataW.Trod enc P w base spare held t v d ps) :
    ∃ q, Fit s q ∧ PRep w (fun _ => False) q v := by
  obtain ⟨a, rfl⟩ := WideShapes.okWide_int ht hok
  exact arg_one hl rfl h

theorem PureOK.law {f : FuncId} {args : List PV} (h : PureOK P f args (.bool true)) (w : World) {vs : Array Value} (hl : vs.size = args.length) (hr : ∀ j p, args[j]? = some p → PRep w (fun _ => False) p (vs.getD j undef)) :
    Calls P f vs w fun e w' => e = .returned (.bool true) ∧ Below w.heap.size w w' := by
  refine (h.2 (fun _ => False) w vs (fun _ h => h.elim) hl hr).mono ?_
  rintro e w' ⟨v, rfl, hp, hb⟩
  cases hp
  exact ⟨rfl, hb⟩

end
end Go.Dv
