/-
  Operations, part 5: copy, make, slice expressions, addresses, literals, comparisons.
-/
import Derived.Test.YtphkbgjnhfidlaaGreatOpsd
import Derived.Laws.MakeOwn
set_option linter.unusedVariables false
set_option linter.unusedSimpArgs false
namespace Go.Dv
open Go.RowKit

section
variable {P : Program} {B : Nat} {w0 : World} {U0 : Nat → Prop} {β : Place} {H : Heap} {nx : Nat} {w : World}

theorem sliceElem_some {t e : TypeId} (h : sliceElem P t = some e) : P.underlying t = some (.slice e) := by
  unfold sliceElem at h; split at h
  · rename_i hu; cases h; exact hu
  · cases h

theorem zeroOK_some {t : TypeId} {zero : List PV} (h : zeroOK P t zero = true) : ∃ i z, P.info? t = some i ∧ i.zero = some z ∧ constCells z.cells.toList zero = true ∧ i.size = zero.length := by
  unfold zeroOK at h
  cases hi : P.info? t with
  | none => rw [hi] at h; cases h
  | some i =>
    rw [hi] at h
    simp only at h
    cases hz : i.zero with
    | none => rw [hz] at h; cases h
    | some z =>
      rw [hz] at h
      simp only [Bool.and_eq_true, beq_iff_eq] at h
      exact ⟨i, z, rfl, hz, h.1, h.2⟩

theorem zeros_get {z : Value} {zero : List PV} (hz : constCells z.cells.toList zero = true) {n : Nat} {i : Nat} {x : List PV} {j : Nat} {y : PV} (hx : (List.replicate n zero)[i]? = some x) (hy : x[j]? = some y) :
    (madeCells z.cells (n * zero.length))[i * zero.length + j]? = some (z.cells.toList.getD j undef) ∧ (z.cells.toList.getD j undef).oneCell' = true ∧ ∀ U, PRep w U y (z.cells.toList.getD j undef) := by
  have hi : i < n := by have := lt_of_get? hx; simpa using this
  have hx' : x = zero := by simp [hi] at hx; exact hx.symm
  subst hx'
  have hj := lt_of_get? hy
  have hlen : z.cells.toList.length = x.length := (constCells_ok (w := w) (U := fun _ => False) _ _ hz).1
  have hlt : i * x.length + j < n * x.length := by
    have : (i + 1) * x.length ≤ n * x.length := Nat.mul_le_mul_right _ hi
    rw [Nat.add_mul, Nat.one_mul] at this; omega
  have hlen' : z.cells.size = x.length := by simpa using hlen
  have e2 : (i * x.length + j) % z.cells.size = j := by rw [hlen', Nat.mul_comm, Nat.mul_add_mod, Nat.mod_eq_of_lt hj]
  refine ⟨?_, ((constCells_ok (w := w) (U := fun _ => False) _ _ hz).2 j y hy).2, fun U => ((constCells_ok (w := w) (U := U) _ _ hz).2 j y hy).1⟩
  simp only [madeCells, Array.getElem?_map, Array.getElem?_range, hlt, if_true, Option.map_some, e2]
  congr 1
  have hj2 : j < z.cells.size := by omega
  simp [hj2]

theorem op_make {t : TypeId} {zero : List PV} {bytes : Nat} (hok : makeOK P t zero bytes = true) (m : Mem B w0 U0 β H nx w) {l c : Int} (h0 : 0 ≤ l) (h1 : l ≤ c) (h2 : c.toNat * bytes ≤ maxBytes) (h3 : c ≤ 140737488355328) :
    ∃ y w', (Instr.makeSlice t (.int .i64 l) (.int .i64 c)).run P w = .ok y w' ∧
      Good B w0 U0 H nx β w (.ref nx l.toNat 0 l.toNat) ((nx, .row false zero.length (List.replicate l.toNat zero)) :: H) (nx + 1) y w' := by
  unfold makeOK at hok
  cases hse : sliceElem P t with
  | none => rw [hse] at hok; cases hok
  | some e =>
  rw [hse] at hok; simp only at hok
  have ht := sliceElem_some hse
  cases hi : P.info? e with
  | none => rw [hi] at hok; cases hok
  | some i =>
  rw [hi] at hok
  simp only [Bool.and_eq_true, beq_iff_eq, decide_eq_true_eq] at hok
  obtain ⟨⟨hby, hzo⟩, hpos⟩ := hok
  obtain ⟨i', z, hi', hz, hzc, hsz⟩ := zeroOK_some hzo
  rw [hi] at hi'; cases hi'
  subst hby
  have hb : (i.bytes : Int) * c ≤ 281474976710656 := by
    have e : c = (c.toNat : Int) := by omega
    have h : ((i.bytes * c.toNat : Nat) : Int) ≤ 281474976710656 := by
      have : i.bytes * c.toNat ≤ 140737488355328 := by rw [Nat.mul_comm]; exact h2
      omega
    rw [e]; rwa [Int.natCast_mul] at h
  have hr := run_make (P := P) w t e i z ht hi hz .i64 .i64 l c h0 h1 hb (by omega)
  rw [hsz] at hr
  refine ⟨_, _, hr, ?_⟩
  have hg := new_row m zero.length (List.replicate l.toNat zero) (fun _ j => z.cells.toList.getD j undef) (madeCells z.cells (c.toNat * zero.length)) c.toNat e w rfl (Below.refl _ _) (size_madeCells _ _)
    (by simp; omega) ⟨fun i x j y hx hy => (zeros_get (w := w) hzc hx hy).2.1, fun i x j y hx hy => (zeros_get (w := w) hzc hx hy).2.2 _, fun x hx => by rw [List.eq_of_mem_replicate hx]⟩
    (fun i x j y hx hy => by
      have hi : i < l.toNat := by have := lt_of_get? hx; simpa using this
      have hx' : (List.replicate c.toNat zero)[i]? = some x := by
        simp [hi] at hx
        simp [List.getElem?_replicate]
        exact ⟨by omega, hx⟩
      exact (zeros_get (w := w) hzc hx' hy).1)
  simp only [List.length_replicate] at hg
  exact hg

/-! ### copy -/
theorem op_copy {t t2 ty : TypeId} {sz : Nat} (hok : copyOK P t sz = true) (m : Mem B w0 U0 β H nx w) {v u : DV} {a x : Value} (ha : DRep w (Own U0 β H) β H nx v a) (hx : DRep w (Own U0 β H) β H nx u x)
    {ys : List (List PV)} {ids : List Nat} (hys : elemsOf H u = some (ys, ids)) (hsy : allSz sz ys = true) {r : DV} {H' : Heap} {nx' : Nat}
    (h : copyDV sz ys v H nx = some (r, H', nx')) :
    ∃ y w', (Builtin.copy_ #[t, t2] ty #[a, x]).run P w = .ok y w' ∧ Good B w0 U0 H nx β w r H' nx' y w' := by
  unfold copyOK at hok
  cases hse : sliceElem P t with
  | none => rw [hse] at hok; cases hok
  | some e =>
  rw [hse] at hok
  simp only [Bool.and_eq_true, decide_eq_true_eq] at hok
  obtain ⟨hsi, hsz0⟩ := hok
  have ht := sliceElem_some hse
  obtain ⟨us, sx⟩ := elemsOf_at (P := P) m hys hx hsy
  obtain ⟨ax, cx, rfl⟩ := sx.val
  have hrun : ∀ (base : Option Addr) (n c k : Nat), Nat.min ys.length n = k → (Builtin.copy_ #[t, t2] ty #[.slice base n c, .slice ax ys.length cx]).run P w =
      (match base with | some ad => (storeCells ad (flat k sz us)).run P w | none => .ok () w).andThen fun _ w' => .ok (goInt k) w' := by
    intro base n c k hk
    have hp := sx.part w k rfl (by rw [← hk]; exact Nat.min_le_left _ _)
    cases base <;> simp [Builtin.copy_, run_underlying ht, Builtin.lenOf, run_sizeOf hsi, hk, hp]
  have hnil : ∀ (base : Option Addr) (n c : Nat), Nat.min ys.length n = 0 → (Builtin.copy_ #[t, t2] ty #[.slice base n c, .slice ax ys.length cx]).run P w = .ok (goInt 0) w := by
    intro base n c h0
    rw [hrun base n c 0 h0]
    cases base <;> simp [flat, storeCells]
  unfold copyDV at h
  have tri : (∃ full xs, v = .p (.slice full xs)) ∨ (∃ id ver off n, v = .ref id ver off n) := by
    cases v with
    | p q => cases q with
      | slice full xs => exact .inl ⟨_, _, rfl⟩
      | _ => cases h
    | ref id ver off n => exact .inr ⟨_, _, _, _, rfl⟩
    | _ => cases h
  rcases tri.symm with ⟨id, ver, off, n, rfl⟩ | ⟨full, xs, rfl⟩
  · simp only at h
    split at h
    · rename_i sz' xs hH
      split at h
      · rename_i hc
        obtain ⟨hver, hle, rfl⟩ := hc
        cases h
        have hlt : (ys.take n).length = Nat.min ys.length n := by simp [Nat.min_comm]
        have done0 : Nat.min ys.length n = 0 → ∃ y w', (Builtin.copy_ #[t, t2] ty #[a, .slice ax ys.length cx]).run P w = .ok y w' ∧
            Good B w0 U0 H nx β w (.p (.int .i64 (min ys.length n : Nat))) (hset H id (.row false sz' (putAt xs off (ys.take n)))) nx y w' := by
          intro h0
          have e0 : ys.take n = [] := List.eq_nil_of_length_eq_zero (by rw [hlt, h0])
          have e1 : putAt xs off (ys.take n) = xs := by rw [e0]; simp [putAt]
          rw [e1]
          cases ha with | ref _ _ _ _ _ hid hcell href =>
          have hav : ∃ base c, a = .slice base n c := by
            rcases (href _ _ _ hH).2 hver hle with ⟨rfl, _, ad, rfl⟩ | ⟨b, cap, ad, hb, rfl, _⟩
            · simp at hle; obtain ⟨rfl, rfl⟩ := hle; exact ⟨_, _, rfl⟩
            · exact ⟨_, _, rfl⟩
          obtain ⟨base, c, rfl⟩ := hav
          refine ⟨_, _, hnil base n c h0, good_less m (less_same hH) (.p _ _ ?_)⟩
          have : (min ys.length n : Nat) = 0 := h0
          rw [this]; exact .int _ _
        by_cases h0 : Nat.min ys.length n = 0
        · exact done0 h0
        · have hn0 : 0 < n := by
            rcases Nat.eq_zero_or_pos n with rfl | h'
            · exact absurd (Nat.min_zero _) h0
            · exact h'
          cases ha with | ref _ _ _ _ _ hid hcell href =>
          rcases (href _ _ _ hH).2 hver hle with ⟨rfl, _, ad, rfl⟩ | ⟨b, cap, ad, hb, rfl, had⟩
          · simp at hle; omega
          · obtain rfl := had (.inl hn0)
            rcases m.h.blk id _ hH with ⟨hx0, hn⟩ | ⟨b', cap', arr, T, h1, h2, h3, h4, h5, h6, vs, h7, h8, h9⟩
            · rw [hb] at hn; cases hn
            · rw [hb] at h1; simp only [Option.some.injEq, Prod.mk.injEq] at h1; obtain ⟨rfl, rfl⟩ := h1
              generalize hk : Nat.min ys.length n = k at *
              have hky : k ≤ ys.length := by rw [← hk]; exact Nat.min_le_left _ _
              have hkn : k ≤ n := by rw [← hk]; exact Nat.min_le_right _ _
              have hfit : off * sz' + (flat k sz' us).length ≤ arr.size := by
                rw [length_flat, h4, ← Nat.add_mul]; exact Nat.mul_le_mul_right _ (by omega)
              have hone : ∀ v ∈ flat k sz' us, v.oneCell' = true := by
                intro v hv
                obtain ⟨q, hq, rfl⟩ := List.mem_iff_getElem.1 hv
                obtain ⟨hsz, g1, g2, ge⟩ := get_flat_inv us (List.getElem?_eq_getElem hq)
                rw [ge]
                have hx := List.getElem?_eq_getElem (show q / sz' < ys.length by omega)
                exact sx.el.one _ _ _ _ hx (List.getElem?_eq_getElem (by rw [sx.el.sz _ (List.getElem_mem _)]; exact g2))
              have hst := run_storeCells (P := P) (b := b) (off := off * sz') (T := T) (flat k sz' us) 0 w arr h3 hone (by omega)
              simp only [Nat.add_zero] at hst
              have hr := hrun (some ⟨b, off * sz', none⟩) n (cap - off) k hk
              simp only [hst, Result.andThen_ok] at hr
              refine ⟨_, _, hr, row_written m hH hb h2 h3 (by rw [size_writeAt, h4]) (by rw [length_putAt _ _ _ (by omega)]; exact h5) (by rw [length_putAt _ _ _ (by omega)]; exact Nat.le_refl _)
                (fun i j => if off ≤ i ∧ i < off + k then us (i - off) j else vs i j) ⟨?_, ?_, ?_⟩ ?_ _ _ (fun H' hH' he hkp => ?_)⟩
              · intro i z j p hz hj
                rw [get_putAt _ _ _ (by omega), hlt] at hz
                split at hz
                · rename_i hin; rw [if_pos hin]
                  rw [List.getElem?_take, if_pos (by omega)] at hz
                  exact sx.el.one _ _ _ _ hz hj
                · rename_i hin; rw [if_neg hin]; exact h8 _ _ _ _ hz hj
              · intro i z j p hz hj
                rw [get_putAt _ _ _ (by omega), hlt] at hz
                split at hz
                · rename_i hin; rw [if_pos hin]
                  rw [List.getElem?_take, if_pos (by omega)] at hz
                  exact sx.el.rep _ _ _ _ hz hj
                · rename_i hin; rw [if_neg hin]; exact h9 _ _ _ _ hz hj
              · intro z hz
                simp only [putAt, List.mem_append] at hz
                rcases hz with (hz | hz) | hz
                · exact h6 _ (List.mem_of_mem_take hz)
                · exact sx.el.sz _ (List.mem_of_mem_take hz)
                · exact h6 _ (List.mem_of_mem_drop hz)
              · intro i z j p hz hj
                have hil : i < xs.length := by have := lt_of_get? hz; rw [length_putAt _ _ _ (by omega)] at this; exact this
                rw [get_putAt _ _ _ (by omega), hlt] at hz
                rw [get_writeAt _ _ _ _ hfit, length_flat]
                have ek : (off + k) * sz' = off * sz' + k * sz' := Nat.add_mul _ _ _
                split at hz
                · rename_i hin
                  rw [List.getElem?_take, if_pos (by omega)] at hz
                  have hjl : j < sz' := by have := lt_of_get? hj; rw [sx.el.sz z (List.mem_of_getElem? hz)] at this; exact this
                  have e1 : i * sz' = off * sz' + (i - off) * sz' := by rw [← Nat.add_mul]; congr 1; omega
                  have e2 : (i - off + 1) * sz' ≤ k * sz' := Nat.mul_le_mul_right _ (by omega)
                  rw [Nat.add_mul, Nat.one_mul] at e2
                  rw [if_pos ⟨by omega, by omega⟩, if_pos hin, show i * sz' + j - off * sz' = (i - off) * sz' + j from by omega]
                  exact get_flat us (by omega) hjl
                · rename_i hin
                  have hjl : j < sz' := by have := lt_of_get? hj; rw [h6 z (List.mem_of_getElem? hz)] at this; exact this
                  rw [if_neg, if_neg hin]
                  · exact h7 _ _ _ _ hz hj
                  · rintro ⟨g1, g2⟩
                    rcases Nat.lt_or_ge i off with hlo | hhi
                    · have : (i + 1) * sz' ≤ off * sz' := Nat.mul_le_mul_right _ hlo
                      rw [Nat.add_mul, Nat.one_mul] at this; omega
                    · have : (off + k) * sz' ≤ i * sz' := Nat.mul_le_mul_right _ (by omega)
                      omega
              · subst hH'
                have : ((min ys.length n : Nat) : Int) = (k : Int) := by rw [← hk]
                rw [this]
                exact .p _ _ (.int _ _)
      · cases h
    · cases h
  · simp only at h
    cases ha with | p _ _ hp =>
    obtain ⟨ad, c, rfl, _, _⟩ := hp.slice_val
    split at h
    · rename_i he
      cases h
      simp only [Bool.or_eq_true, List.isEmpty_iff] at he
      refine ⟨_, _, hnil ad xs.length c ?_, good_same m (.p _ _ (.int _ _))⟩
      rcases he with rfl | rfl
      · exact Nat.min_zero _
      · exact Nat.zero_min _
    · cases h

/-! ### clear -/
theorem zeroCells_flat {z : Value} {sz : Nat} (hs : z.cells.size = sz) (n : Nat) : (Builtin.zeroCells z.cells n).toList = flat n sz fun _ j => z.cells.toList.getD j undef := by
  subst hs
  apply List.ext_getElem?
  intro k
  by_cases hk : k < n * z.cells.size
  · have h0 : 0 < z.cells.size := by
      rcases Nat.eq_zero_or_pos z.cells.size with h | h
      · rw [h] at hk; simp at hk
      · exact h
    have hm : k % z.cells.size < z.cells.size := Nat.mod_lt _ h0
    simp [Builtin.zeroCells, flat, hk, hm]
  · rw [List.getElem?_eq_none (by simp [Builtin.zeroCells]; omega), List.getElem?_eq_none (by rw [length_flat]; omega)]

theorem op_clear {t ty : TypeId} {zero : List PV} (hok : clearOK P t zero = true) (m : Mem B w0 U0 β H nx w) {v : DV} {a : Value} (ha : DRep w (Own U0 β H) β H nx v a) {r : DV} {H' : Heap} {nx' : Nat}
    (h : clearDV zero v H nx = some (r, H', nx')) :
    ∃ y w', (Builtin.clear_ #[t] ty #[a]).run P w = .ok y w' ∧ Good B w0 U0 H nx β w r H' nx' y w' := by
  unfold clearOK at hok
  cases hse : sliceElem P t with
  | none => rw [hse] at hok; cases hok
  | some e =>
  rw [hse] at hok
  simp only [Bool.and_eq_true, decide_eq_true_eq] at hok
  obtain ⟨hzo, hpos⟩ := hok
  have ht := sliceElem_some hse
  obtain ⟨i, z, hi, hz, hzc, hsz⟩ := zeroOK_some hzo
  have hlen : z.cells.size = zero.length := by simpa using (constCells_ok (w := w) (U := fun _ => False) _ _ hzc).1
  have hnil : ∀ (base : Option Addr) (c : Nat), (Builtin.clear_ #[t] ty #[.slice base 0 c]).run P w = .ok (.tuple #[]) w := by
    intro base c
    cases base <;> simp [Builtin.clear_, run_underlying ht]
  have hrun : ∀ (ad : Addr) (n c : Nat), 0 < n → (Builtin.clear_ #[t] ty #[.slice (some ad) n c]).run P w =
      ((storeCells ad (flat n zero.length fun _ j => z.cells.toList.getD j undef)).run P w).andThen fun _ w' => .ok (.tuple #[]) w' := by
    intro ad n c hn
    obtain ⟨n, rfl⟩ : ∃ k, n = k + 1 := ⟨n - 1, by omega⟩
    rw [← zeroCells_flat hlen]
    simp [Builtin.clear_, run_underlying ht, zeroValue, typeInfo, hi, hz]
  unfold clearDV at h
  have tri : (∃ full xs, v = .p (.slice full xs)) ∨ (∃ id ver off n, v = .ref id ver off n) := by
    cases v with
    | p q => cases q with
      | slice full xs => exact .inl ⟨_, _, rfl⟩
      | _ => cases h
    | ref id ver off n => exact .inr ⟨_, _, _, _, rfl⟩
    | _ => cases h
  rcases tri.symm with ⟨id, ver, off, n, rfl⟩ | ⟨full, xs, rfl⟩
  · simp only at h
    split at h
    · rename_i sz' xs hH
      split at h
      · rename_i hc
        obtain ⟨hver, hle, rfl⟩ := hc
        cases h
        cases ha with | ref _ _ _ _ _ hid hcell href =>
        rcases Nat.eq_zero_or_pos n with rfl | hn0
        · have e1 : putAt xs off (List.replicate 0 zero) = xs := by simp [putAt]
          rw [e1]
          have hav : ∃ base c, a = .slice base 0 c := by
            rcases (href _ _ _ hH).2 hver hle with ⟨rfl, _, ad, rfl⟩ | ⟨b, cap, ad, hb, rfl, _⟩
            · exact ⟨_, _, rfl⟩
            · exact ⟨_, _, rfl⟩
          obtain ⟨base, c, rfl⟩ := hav
          exact ⟨_, _, hnil base c, good_less m (less_same hH) DRep.undef⟩
        · rcases (href _ _ _ hH).2 hver hle with ⟨rfl, _, ad, rfl⟩ | ⟨b, cap, ad, hb, rfl, had⟩
          · simp at hle; omega
          · obtain rfl := had (.inl hn0)
            rcases m.h.blk id _ hH with ⟨hx0, hn⟩ | ⟨b', cap', arr, T, h1, h2, h3, h4, h5, h6, vs, h7, h8, h9⟩
            · rw [hb] at hn; cases hn
            · rw [hb] at h1; simp only [Option.some.injEq, Prod.mk.injEq] at h1; obtain ⟨rfl, rfl⟩ := h1
              generalize hus : (fun (_ : Nat) (j : Nat) => z.cells.toList.getD j undef) = us
              have hone1 : ∀ i j, j < zero.length → (us i j).oneCell' = true := by
                intro i j hj
                rw [← hus]
                exact ((constCells_ok (w := w) (U := fun _ => False) _ _ hzc).2 j _ (List.getElem?_eq_getElem hj)).2
              have hrep1 : ∀ U i j y, zero[j]? = some y → PRep w U y (us i j) := by
                intro U i j y hy
                rw [← hus]
                exact ((constCells_ok (w := w) (U := U) _ _ hzc).2 j _ hy).1
              have hlr : (List.replicate n zero).length = n := by simp
              have hfit : off * zero.length + (flat n zero.length us).length ≤ arr.size := by
                rw [length_flat, h4, ← Nat.add_mul]; exact Nat.mul_le_mul_right _ (by omega)
              have hone : ∀ v ∈ flat n zero.length us, v.oneCell' = true := by
                intro v hv
                obtain ⟨q, hq, rfl⟩ := List.mem_iff_getElem.1 hv
                obtain ⟨hsz, g1, g2, ge⟩ := get_flat_inv us (List.getElem?_eq_getElem hq)
                rw [ge]; exact hone1 _ _ g2
              have hst := run_storeCells (P := P) (b := b) (off := off * zero.length) (T := T) (flat n zero.length us) 0 w arr h3 hone (by omega)
              simp only [Nat.add_zero] at hst
              have hr := hrun ⟨b, off * zero.length, none⟩ n (cap - off) hn0
              rw [hus] at hr
              simp only [hst, Result.andThen_ok] at hr
              have hrz : ∀ (i : Nat) (x : List PV), (List.replicate n zero)[i]? = some x → x = zero := fun i x hx => List.eq_of_mem_replicate (List.mem_of_getElem? hx)
              refine ⟨_, _, hr, row_written m hH hb h2 h3 (by rw [size_writeAt, h4]) (by rw [length_putAt _ _ _ (by omega)]; exact h5) (by rw [length_putAt _ _ _ (by omega)]; exact Nat.le_refl _)
                (fun i j => if off ≤ i ∧ i < off + n then us (i - off) j else vs i j) ⟨?_, ?_, ?_⟩ ?_ _ _ (fun H' hH' he hkp => DRep.undef)⟩
              · intro i x j p hx hj
                rw [get_putAt _ _ _ (by omega), hlr] at hx
                split at hx
                · rename_i hin; rw [if_pos hin]
                  obtain rfl := hrz _ _ hx
                  exact hone1 _ _ (lt_of_get? hj)
                · rename_i hin; rw [if_neg hin]; exact h8 _ _ _ _ hx hj
              · intro i x j p hx hj
                rw [get_putAt _ _ _ (by omega), hlr] at hx
                split at hx
                · rename_i hin; rw [if_pos hin]
                  obtain rfl := hrz _ _ hx
                  exact hrep1 _ _ _ _ hj
                · rename_i hin; rw [if_neg hin]; exact h9 _ _ _ _ hx hj
              · intro x hx
                simp only [putAt, List.mem_append] at hx
                rcases hx with (hx | hx) | hx
                · exact h6 _ (List.mem_of_mem_take hx)
                · rw [List.eq_of_mem_replicate hx]
                · exact h6 _ (List.mem_of_mem_drop hx)
              · intro i x j p hx hj
                have hil : i < xs.length := by have := lt_of_get? hx; rw [length_putAt _ _ _ (by omega)] at this; exact this
                rw [get_putAt _ _ _ (by omega), hlr] at hx
                rw [get_writeAt _ _ _ _ hfit, length_flat]
                have ek : (off + n) * zero.length = off * zero.length + n * zero.length := Nat.add_mul _ _ _
                split at hx
                · rename_i hin
                  have hjl : j < zero.length := by have := lt_of_get? hj; rw [hrz _ _ hx] at this; exact this
                  have e1 : i * zero.length = off * zero.length + (i - off) * zero.length := by rw [← Nat.add_mul]; congr 1; omega
                  have e2 : (i - off + 1) * zero.length ≤ n * zero.length := Nat.mul_le_mul_right _ (by omega)
                  rw [Nat.add_mul, Nat.one_mul] at e2
                  rw [if_pos ⟨by omega, by omega⟩, if_pos hin, show i * zero.length + j - off * zero.length = (i - off) * zero.length + j from by omega]
                  exact get_flat us (by omega) hjl
                · rename_i hin
                  have hjl : j < zero.length := by have := lt_of_get? hj; rw [h6 x (List.mem_of_getElem? hx)] at this; exact this
                  rw [if_neg, if_neg hin]
                  · exact h7 _ _ _ _ hx hj
                  · rintro ⟨g1, g2⟩
                    rcases Nat.lt_or_ge i off with hlo | hhi
                    · have : (i + 1) * zero.length ≤ off * zero.length := Nat.mul_le_mul_right _ hlo
                      rw [Nat.add_mul, Nat.one_mul] at this; omega
                    · have : (off + n) * zero.length ≤ i * zero.length := Nat.mul_le_mul_right _ (by omega)
                      omega
      · cases h
    · cases h
  · simp only at h
    cases ha with | p _ _ hp =>
    obtain ⟨ad, c, rfl, _, _⟩ := hp.slice_val
    split at h
    · rename_i he
      cases h
      simp only [List.isEmpty_iff] at he
      subst he
      exact ⟨_, _, hnil ad c, good_same m DRep.undef⟩
    · cases h

theorem op_cap {t ty : TypeId} (ht : (sliceElem P t).isSome = true) {U : Nat → Prop} {xs : List (List PV)} {a : Value} (ha : PRep w U (.slice true xs) a) :
    (Builtin.cap_ #[t] ty #[a]).run P w = .ok (goInt xs.length) w := by
  obtain ⟨e, hse⟩ := Option.isSome_iff_exists.1 ht
  have hu := sliceElem_some hse
  cases ha with
  | none _ ad c h => have := h rfl; subst this; simp [Builtin.cap_, run_underlying hu]
  | slice _ _ b off c sz arr T fz vs hne hc hf => have := hf rfl; subst this; simp [Builtin.cap_, run_underlying hu]

end
end Go.Dv
