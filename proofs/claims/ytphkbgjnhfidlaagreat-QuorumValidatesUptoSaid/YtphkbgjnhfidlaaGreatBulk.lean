/-
  From the reading of a law's arguments to pure values, with a bound on their size (for the ..UptoSaid).
-/
import Derived.Test.YtphkbgjnhfidlaaGreatBridge
set_option linter.unusedVariables false
set_option linter.unusedSimpArgs false
namespace Go.Dv
open Go.RowKit

mutual
/-- How much a pure value holds. -/
def szPV : PV → Nat
  | .slice _ xs => szRows xs + 1
  | .str s => s.size + 1
  | _ => 1
def szRow : List PV → Nat
  | [] => 0
  | x :: r => szPV x + szRow r
def szRows : List (List PV) → Nat
  | [] => 0
  | x :: r => szRow x + szRows r
end

theorem szRow_append : ∀ (a b : List PV), szRow (a ++ b) = szRow a + szRow b
  | [], b => by simp [szRow]
  | x :: a, b => by simp only [List.cons_append, szRow, szRow_append a b]; omega

/-- What a seat's bulk must be. -/
structure Bulk (H : Type) where
  bk : DataW H → Nat
  all : List (DataW H) → Nat
  one : ∀ d, 1 ≤ bk d
  str : ∀ b : List UInt8, b.length + 1 ≤ bk (.lit (.string b))
  slice : ∀ e s, all e + 1 ≤ bk (.slice e s)
  agg : ∀ p, all p ≤ bk (.agg p)
  cons : ∀ d r, all (d :: r) = bk d + all r

theorem szRows_le {H : Type} (B : Bulk H) : ∀ (xs : List (List PV)) (es : List (DataW H × List MemPlace)), xs.length = es.length → (∀ (i : Nat) y, xs[i]? = some y → ∃ el, es[i]? = some el ∧ szRow y ≤ B.bk el.1) → szRows xs ≤ B.all (es.map (·.1))
  | [], es, _, _ => Nat.zero_le _
  | x :: xs, [], h, _ => by simp at h
  | x :: xs, e :: es, h, hh => by
    obtain ⟨el, h1, h2⟩ := hh 0 x rfl
    simp at h1; subst h1
    have ih := szRows_le B xs es (by simpa using h) fun i y hy => hh (i + 1) y (by simpa using hy)
    rw [List.map_cons, B.cons]
    simp only [szRows]; omega

section
variable {H : Type} (B : Bulk H) {enc : TypeId × Value → H} {P : Program} {w : World} {base : Nat} {spare : Nat → Bool} {held : Bool}

include B in
theorem fieldsU_rep {rec : TypeId → Option (List Sh)} {n : Nat} {cs : List Value} (ih : ∀ t l cs x, rec t = some l → DataW.trod enc P w base spare held n t cs = some x → ∃ qs, Fits l qs ∧ RowRep w qs cs ∧ szRow qs ≤ B.bk x.1) :
    ∀ (fs : List Field) (xs : List (DataW H × List MemPlace)) (o : Nat) (l : List Sh), shFields P rec o fs = some l → xs.length = fs.length → (∀ (i : Nat) f, fs[i]? = some f → DataW.trod enc P w base spare held n f.type ((cs.drop f.offset).take (P.cellsOf f.type)) = xs[i]?) →
      ∃ qs, Fits l qs ∧ RowRep w qs ((cs.drop o).take l.length) ∧ szRow qs ≤ B.all (xs.map (·.1))
  | [], xs, o, l, h, _, _ => by
    simp only [shFields, Option.some.injEq] at h; subst h
    exact ⟨[], ⟨rfl, by simp⟩, ⟨by simp, by simp⟩, Nat.zero_le _⟩
  | f :: r, [], o, l, h, hl, hf => by simp at hl
  | f :: r, x :: xs, o, l, h, hlen, hf => by
    simp only [shFields] at h
    cases hr : rec f.type with
    | none => rw [hr] at h; cases h
    | some l1 =>
      rw [hr] at h
      simp only at h
      split at h
      · rename_i hc
        cases hq : shFields P rec (o + l1.length) r with
        | none => rw [hq] at h; cases h
        | some l2 =>
          rw [hq] at h; simp only [Option.some.injEq] at h; subst h
          have hx : DataW.trod enc P w base spare held n f.type ((cs.drop f.offset).take (P.cellsOf f.type)) = some x := hf 0 f rfl
          obtain ⟨q1, f1, ⟨c1, e1⟩, z1⟩ := ih f.type l1 _ x hr hx
          obtain ⟨q2, f2, ⟨c2, e2⟩, z2⟩ := fieldsU_rep ih r xs (o + l1.length) l2 hq (by simpa using hlen) fun i g hg => hf (i + 1) g (by simpa using hg)
          rw [hc.1, ← hc.2] at c1 e1
          refine ⟨q1 ++ q2, f1.append f2, ⟨?_, fun j y hy => ?_⟩, ?_⟩
          · have h1 := f1.1; have h2 := f2.1
            simp only [List.length_take, List.length_drop, List.length_append] at c1 c2 ⊢
            omega
          · have h1 := f1.1
            by_cases hj : j < q1.length
            · rw [List.getElem?_append_left hj] at hy
              obtain ⟨v, g1, g2⟩ := e1 j y hy
              refine ⟨v, ?_, g2⟩
              rw [List.getElem?_take] at g1 ⊢
              rw [if_pos (by omega)] at g1
              rw [if_pos (by simp; omega)]; exact g1
            · rw [List.getElem?_append_right (by omega)] at hy
              obtain ⟨v, g1, g2⟩ := e2 _ y hy
              have hlt : j - q1.length < q2.length := by
                by_cases hh : j - q1.length < q2.length
                · exact hh
                · rw [List.getElem?_eq_none (by omega)] at hy; cases hy
              have h2 := f2.1
              refine ⟨v, ?_, g2⟩
              rw [List.getElem?_take, if_pos (by omega), List.getElem?_drop] at g1
              rw [List.getElem?_take, if_pos (by simp; omega), List.getElem?_drop, ← g1]
              congr 1; omega
          · rw [szRow_append, List.map_cons, B.cons]
            omega
      · cases h

include B in
/-- What was read is plain data, and stands in no memory that may be written. -/
theorem trodU_rep : ∀ (m : Nat) (t : TypeId) (l : List Sh) (n : Nat) (cs : List Value) (x : DataW H × List MemPlace), shOf P m t = some l → DataW.trod enc P w base spare held n t cs = some x →
    ∃ qs, Fits l qs ∧ RowRep w qs cs ∧ szRow qs ≤ B.bk x.1 := by
  intro m
  induction m with
  | zero => intro t l n cs x h; cases h
  | succ m ih =>
    intro t l n cs x h hx
    simp only [shOf] at h
    have one : ∀ (s : Sh) (y : PV) (v : Value), Fit s y → PRep w (fun _ => False) y v → v.oneCell' = true → szPV y ≤ B.bk x.1 → ∃ qs, Fits [s] qs ∧ RowRep w qs [v] ∧ szRow qs ≤ B.bk x.1 := by
      intro s y v h1 h2 h3 hz
      refine ⟨[y], ⟨rfl, fun j s' y' a b => ?_⟩, ⟨rfl, fun j y' b => ?_⟩, by simp only [szRow]; omega⟩
      · cases j with
        | zero => simp at a b; subst a; subst b; exact h1
        | succ j => simp at a
      · cases j with
        | zero => simp at b; subst b; exact ⟨v, rfl, h2, h3⟩
        | succ j => simp at b
    split at h
    · rename_i ht
      cases h
      obtain ⟨b, rfl, _⟩ := DataW.trod_bool ht hx
      exact one _ _ _ (.bool b) (.bool b) rfl (B.one _)
    · rename_i k ht
      cases h
      obtain ⟨b, rfl, _, hw⟩ := DataW.trod_int ht hx
      exact one _ _ _ (.int k b hw) (.int k b) rfl (B.one _)
    · rename_i ht
      cases h
      obtain ⟨b, rfl, rfl, hw⟩ := DataW.trod_string ht hx
      exact one _ _ _ (.str b hw) (.str b) rfl (by
        have h0 := B.str b.data.toList
        have e : b.data.toList.length = b.size := by rw [Array.length_toList]; rfl
        rw [e] at h0
        exact h0)
    · rename_i e ht
      cases he : shOf P m e with
      | none => rw [he] at h; cases h
      | some l1 =>
        rw [he] at h
        simp only at h
        split at h
        · rename_i hc
          cases h
          rcases DataW.trod_slice ht hx with ⟨rfl, _⟩ | ⟨a, len, cap, elems, rest, k, _, rfl, hxe, _, hl, hm, hlen, hel, _, _⟩
          · exact one _ _ _ (.slice l1 [] (by simp) (by simp) (by simp)) (.none false none 0 (by simp)) rfl (B.one _)
          · have each : ∀ i, i < len → ∃ y : List PV, Fits l1 y ∧ (∃ el, elems[i]? = some el ∧ szRow y ≤ B.bk el.1) ∧ ∃ ecs, w.cells? base (a.add (i * l1.length)) l1.length = some ecs ∧ RowRep w y ecs := by
              intro i hi
              have h1 := hel i hi
              rw [List.getElem?_eq_getElem (by omega)] at h1
              rw [← hc.1] at h1
              cases hcs : w.cells? base (a.add (i * l1.length)) l1.length with
              | none => rw [hcs] at h1; cases h1
              | some ecs =>
                rw [hcs] at h1
                simp only [Option.bind_some] at h1
                obtain ⟨qs, g1, g2, g3⟩ := ih e l1 k ecs _ he h1
                exact ⟨qs, g1, ⟨_, List.getElem?_eq_getElem (by omega), g3⟩, ecs, rfl, g2⟩
            obtain ⟨xs, hxl, hxr⟩ := exists_list len each
            by_cases h0 : len = 0
            · subst h0
              exact one _ _ _ (.slice l1 [] (by simp) (by simp) (by simp)) (.none false (some a) cap (by simp)) rfl (B.one _)
            · have hspot : a.spot = none := by
                obtain ⟨y, hy⟩ : ∃ y, xs[0]? = some y := ⟨_, List.getElem?_eq_getElem (by omega)⟩
                obtain ⟨_, _, ecs, g1, _⟩ := hxr 0 y hy
                obtain ⟨_, g2, g3⟩ := World.cells?_some g1
                have g4 := g3 0 hc.2
                rw [List.getElem?_eq_getElem (by omega)] at g4
                have e0 : (a.add (0 * l1.length)).add 0 = a := by simp [Addr.add]
                rw [e0] at g4
                unfold World.cell? at g4
                split at g4
                · split at g4
                  · cases g4
                  · rename_i hs; simpa using hs
                · cases g4
              have cell : ∀ i y, xs[i]? = some y → ∀ j z, y[j]? = some z → ∃ v, w.cell? ⟨a.block, a.off + i * l1.length + j, none⟩ = some v ∧ PRep w (fun _ => False) z v ∧ v.oneCell' = true := by
                intro i y hy j z hz
                obtain ⟨f1, _, ecs, g1, g2, g3⟩ := hxr i y hy
                obtain ⟨_, g4, g5⟩ := World.cells?_some g1
                obtain ⟨v, e1, e2⟩ := g3 j z hz
                have hj : j < l1.length := by
                  have := f1.1
                  by_cases hh : j < y.length
                  · omega
                  · rw [List.getElem?_eq_none (by omega)] at hz; cases hz
                have := g5 j hj
                rw [Addr.add_of a hspot, Addr.add_of _ rfl, e1] at this
                exact ⟨v, this, e2⟩
              obtain ⟨arr, T, fz, hb⟩ : ∃ arr T fz, w.heap[a.block]? = some (.cells arr T fz) := by
                obtain ⟨y, hy⟩ : ∃ y, xs[0]? = some y := ⟨_, List.getElem?_eq_getElem (by omega)⟩
                obtain ⟨f1, _⟩ := hxr 0 y hy
                obtain ⟨z, hz⟩ : ∃ z, y[0]? = some z := ⟨_, List.getElem?_eq_getElem (by rw [f1.1]; exact hc.2)⟩
                obtain ⟨v, hv, _⟩ := cell 0 y hy 0 z hz
                unfold World.cell? at hv
                split at hv
                · rename_i c T fz hh; exact ⟨c, T, fz, hh⟩
                · cases hv
              have cell' : ∀ i y, xs[i]? = some y → ∀ j z, y[j]? = some z → ∃ v, arr[a.off + i * l1.length + j]? = some v ∧ PRep w (fun _ => False) z v ∧ v.oneCell' = true := by
                intro i y hy j z hz
                obtain ⟨v, h1, h2⟩ := cell i y hy j z hz
                unfold World.cell? at h1
                simp only [hb] at h1
                exact ⟨v, by simpa using h1, h2⟩
              have hsz' : ∀ x ∈ xs, x.length = l1.length := by
                intro x hx
                obtain ⟨i, hi, rfl⟩ := List.mem_iff_getElem.1 hx
                exact (hxr i _ (List.getElem?_eq_getElem hi)).1.1
              have ha : a = ⟨a.block, a.off, none⟩ := by cases a; simp at hspot; subst hspot; rfl
              refine one _ (.slice false xs) _ (.slice l1 xs (by omega) hsz' fun i x j s y h1 h2 h3 => (hxr i x h1).1.2 j s y h2 h3) ?_ rfl ?_
              case refine_2 =>
                rw [hxe]
                refine Nat.le_trans (Nat.succ_le_succ (szRows_le B xs elems (by omega) fun i y hy => (hxr i y hy).2.1)) (B.slice _ _)
              rw [ha, ← hxl]
              refine .slice false xs a.block a.off cap l1.length arr T fz (fun i j => arr.getD (a.off + i * l1.length + j) undef) (by omega) (by omega) (by simp) hb (fun h => h) hsz' ?_ ?_ ?_
              · intro i x j y h1 h2
                obtain ⟨v, e1, _⟩ := cell' i x h1 j y h2
                rw [e1]
                rw [Array.getD_eq_getD_getElem?, e1]; rfl
              · intro i x j y h1 h2
                obtain ⟨v, e1, _, e3⟩ := cell' i x h1 j y h2
                show (arr.getD _ undef).oneCell' = true
                rw [Array.getD_eq_getD_getElem?, e1]; exact e3
              · intro i x j y h1 h2
                obtain ⟨v, e1, e2, _⟩ := cell' i x h1 j y h2
                show PRep w _ y (arr.getD _ undef)
                rw [Array.getD_eq_getD_getElem?, e1]; exact e2
        · cases h
    · rename_i fs ht
      cases hsf : shFields P (shOf P m) 0 fs.toList with
      | none => rw [hsf] at h; cases h
      | some l0 =>
      rw [hsf] at h
      simp only at h
      split at h
      case isFalse => cases h
      rename_i hll
      cases h
      obtain ⟨xs, k, _, hxe, hl, hn, hf⟩ := DataW.trod_struct ht hx
      obtain ⟨qs, g1, g2, g3⟩ := fieldsU_rep B (rec := shOf P m) (n := k) (cs := cs) (fun t l cs x a b => ih t l k cs x a b) fs.toList xs 0 l hsf (by simpa using hn) (fun i f hf' => hf i f (by simpa using hf'))
      rw [List.drop_zero, List.take_of_length_le (by omega)] at g2
      exact ⟨qs, g1, g2, by rw [hxe]; exact Nat.le_trans g3 (B.agg _)⟩
    · cases h

include B in
theorem argU_agg {t : TypeId} {fs : Array Field} (ht : P.underlying t = some (.struct fs)) {m : Nat} {l : List Sh} (hl : shOf P m t = some l) {r : Reach} {b : Nat} {v : Value} (hok : Value.okWide P w r b t v) {d : DataW H} {ps : List MemPlace} (h : DataW.Trod enc P w base spare held t v d ps) :
    ∃ qs, Fits l qs ∧ PRep w (fun _ => False) (.agg qs) v ∧ szRow qs ≤ B.bk d := by
  simp only [Value.okWide, ht] at hok
  obtain ⟨cs, rfl, _, _⟩ := hok
  obtain ⟨fuel, hf⟩ := h
  obtain ⟨qs, h1, h2, h4⟩ := trodU_rep B m t l fuel _ _ hl hf
  have h3 := h2.get (cs := cs)
  exact ⟨qs, h1, .agg qs cs h3.1 (fun j y hj => (h3.2 j y hj).2) fun j y hj => (h3.2 j y hj).1, h4⟩

include B in
theorem argU_one {t : TypeId} {m : Nat} {s : Sh} (hl : shOf P m t = some [s]) {v : Value} (hv : v.cells = #[v]) {d : DataW H} {ps : List MemPlace} (h : DataW.Trod enc P w base spare held t v d ps) :
    ∃ q, Fit s q ∧ PRep w (fun _ => False) q v ∧ szPV q ≤ B.bk d := by
  obtain ⟨fuel, hf⟩ := h
  obtain ⟨qs, h1, h2, h5⟩ := trodU_rep B m t [s] fuel _ _ hl hf
  obtain ⟨q, r, rfl, h3, h4⟩ := h1.cons
  obtain ⟨v', e1, e2, _⟩ := h2.2 0 q rfl
  rw [hv] at e1
  simp at e1; subst e1
  have hr := h4.nil
  subst hr
  exact ⟨q, h3, e2, by simpa [szRow] using h5⟩

include B in
theorem argU_slice {t e : TypeId} (ht : P.underlying t = some (.slice e)) {m : Nat} {s : Sh} (hl : shOf P m t = some [s]) {r : Reach} {b : Nat} {v : Value} (hok : Value.okWide P w r b t v) {d : DataW H} {ps : List MemPlace} (h : DataW.Trod enc P w base spare held t v d ps) :
    ∃ q, Fit s q ∧ PRep w (fun _ => False) q v ∧ szPV q ≤ B.bk d := by
  obtain ⟨a, n, c, rfl⟩ := WideShapes.okWide_slice ht hok
  exact argU_one B hl rfl h

include B in
theorem argU_string {t : TypeId} (ht : P.underlying t = some .string) {m : Nat} {s : Sh} (hl : shOf P m t = some [s]) {r : Reach} {b : Nat} {v : Value} (hok : Value.okWide P w r b t v) {d : DataW H} {ps : List MemPlace} (h : DataW.Trod enc P w base spare held t v d ps) :
    ∃ q, Fit s q ∧ PRep w (fun _ => False) q v ∧ szPV q ≤ B.bk d := by
  obtain ⟨a, rfl⟩ := WideShapes.okWide_string ht hok
  exact argU_one B hl rfl h

include B in
theorem argU_int {t : TypeId} {k : IntKind} (ht : P.underlying t = some (.int k)) {m : Nat} {s : Sh} (hl : shOf P m t = some [s]) {r : Reach} {b : Nat} {v : Value} (hok : Value.okWide P w r b t v) {d : DataW H} {ps : List MemPlace} (h : DataW.Trod enc P w base spare held t v d ps) :
    ∃ q, Fit s q ∧ PRep w (fun _ => False) q v ∧ szPV q ≤ B.bk d := by
  obtain ⟨a, rfl⟩ := WideShapes.okWide_int ht hok
  exact argU_one B hl rfl h

include B in
theorem argU_bool {t : TypeId} (ht : P.underlying t = some .bool) {m : Nat} {s : Sh} (hl : shOf P m t = some [s]) {r : Reach} {b : Nat} {v : Value} (hok : Value.okWide P w r b t v) {d : DataW H} {ps : List MemPlace} (h : DataW.Trod enc P w base spare held t v d ps) :
    ∃ q, Fit s q ∧ PRep w (fun _ => False) q v ∧ szPV q ≤ B.bk d := by
  obtain ⟨a, rfl⟩ := WideShapes.okWide_bool ht hok
  exact argU_one B hl rfl h


end
end Go.Dv
