/-
  Operations, part 4: append, copy, make, slice expressions, addresses, literals, comparisons.
-/
import Derived.Test.YtphkbgjnhfidlaaGreatOpsc
set_option linter.unusedVariables false
set_option linter.unusedSimpArgs false
namespace Go.Dv
open Go.RowKit

def flat (n sz : Nat) (vs : Nat → Nat → Value) : List Value := (List.range (n * sz)).map fun k => vs (k / sz) (k % sz)

theorem length_flat (n sz : Nat) (vs : Nat → Nat → Value) : (flat n sz vs).length = n * sz := by simp [flat]

theorem get_flat {n sz : Nat} (vs : Nat → Nat → Value) {i j : Nat} (hi : i < n) (hj : j < sz) : (flat n sz vs)[i * sz + j]? = some (vs i j) := by
  have hlt : i * sz + j < n * sz := by
    have : (i + 1) * sz ≤ n * sz := Nat.mul_le_mul_right _ hi
    rw [Nat.add_mul, Nat.one_mul] at this; omega
  have e1 : (i * sz + j) / sz = i := by rw [Nat.mul_comm, Nat.mul_add_div (by omega), Nat.div_eq_of_lt hj, Nat.add_zero]
  have e2 : (i * sz + j) % sz = j := by rw [Nat.mul_comm, Nat.mul_add_mod, Nat.mod_eq_of_lt hj]
  simp [flat, hlt, e1, e2]

theorem get_flat_inv {n sz : Nat} (vs : Nat → Nat → Value) {k : Nat} {v : Value} (h : (flat n sz vs)[k]? = some v) : 0 < sz ∧ k / sz < n ∧ k % sz < sz ∧ v = vs (k / sz) (k % sz) := by
  have hk := lt_of_get? h
  rw [length_flat] at hk
  have hsz : 0 < sz := by
    rcases Nat.eq_zero_or_pos sz with rfl | h'
    · simp at hk
    · exact h'
  refine ⟨hsz, Nat.div_lt_of_lt_mul (by rw [Nat.mul_comm]; exact hk), Nat.mod_lt _ hsz, ?_⟩
  simp [flat, hk] at h
  exact h.symm

section
variable {P : Program} {B : Nat} {w0 : World} {U0 : Nat → Prop} {β : Place} {H : Heap} {nx : Nat} {w : World}

structure SliceAt (P : Program) (w : World) (U : Nat → Prop) (x : Value) (ys : List (List PV)) (sz : Nat) (vs : Nat → Nat → Value) : Prop where
  val : ∃ a c, x = .slice a ys.length c
  el : Elems w U sz ys vs
  cells : ∀ w' : World, w'.heap = w.heap → (Builtin.firstCells sz ys.length x).run P w' = .ok (flat ys.length sz vs).toArray w'
  part : ∀ (w' : World) (n : Nat), w'.heap = w.heap → n ≤ ys.length → (Builtin.firstCells sz n x).run P w' = .ok (flat n sz vs).toArray w'

theorem allSz_mem {sz : Nat} {xs : List (List PV)} (h : allSz sz xs = true) : ∀ x ∈ xs, x.length = sz := by
  intro x hx
  simpa using (List.all_eq_true.1 h) x hx

theorem firstCells_at {w' : World} {b off c n sz len : Nat} {arr : Array Value} {T : TypeId} {fz : Nat × Nat} {vs : Nat → Nat → Value} (hb : w'.heap[b]? = some (.cells arr T fz))
    (hv : ∀ i j, i < n → j < sz → arr[off + i * sz + j]? = some (vs i j)) : (Builtin.firstCells sz n (.slice (some ⟨b, off, none⟩) len c)).run P w' = .ok (flat n sz vs).toArray w' := by
  refine run_firstCells_some w' sz n ⟨b, off, none⟩ len c (flat n sz vs) (length_flat _ _ _) fun k v hk => ?_
  obtain ⟨hsz, h1, h2, rfl⟩ := get_flat_inv vs hk
  rw [add_off]
  refine cell_of_heap hb ?_
  have := hv (k / sz) (k % sz) h1 h2
  rwa [Nat.add_assoc, Nat.mul_comm, Nat.div_add_mod] at this

theorem slice_at_pure {U : Nat → Prop} {full : Bool} {ys : List (List PV)} {x : Value} {sz : Nat} (h : PRep w U (.slice full ys) x) (hs : allSz sz ys = true) : ∃ vs, SliceAt P w U x ys sz vs := by
  cases h with
  | none _ a c hc =>
    refine ⟨fun _ _ => undef, ⟨a, c, rfl⟩, ⟨by simp, by simp, by simp⟩, fun w' _ => ?_, fun w' n _ hn => ?_⟩
    · cases a <;> simp [Builtin.firstCells, flat, loadCells, loadCellsFrom]
    · obtain rfl : n = 0 := by simpa using hn
      cases a <;> simp [Builtin.firstCells, flat, loadCells, loadCellsFrom]
  | slice _ _ b off c sz' arr T fz vs hne hc hf hb hu hsz hv h1 hr =>
    have hss : sz' = sz := by
      cases ys with
      | nil => simp at hne
      | cons y r => rw [← hsz y (by simp), allSz_mem hs y (by simp)]
    subst hss
    have key : ∀ i j, i < ys.length → j < sz' → arr[off + i * sz' + j]? = some (vs i j) := by
      intro i j hi hj
      have hx := List.getElem?_eq_getElem hi
      have hl := hsz _ (List.getElem_mem hi)
      exact hv i _ j _ hx (List.getElem?_eq_getElem (by omega))
    exact ⟨vs, ⟨_, _, rfl⟩, ⟨h1, hr, hsz⟩, fun w' hw => firstCells_at (by rw [hw]; exact hb) key, fun w' n hw hn => firstCells_at (by rw [hw]; exact hb) fun i j hi hj => key i j (by omega) hj⟩

theorem slice_at_ref {id ver off n : Nat} {fz : Bool} {sz' : Nat} {xs : List (List PV)} (m : Mem B w0 U0 β H nx w) (hH : aget H id = some (.row fz sz' xs)) (hver : ver = xs.length) (hle : off + n ≤ xs.length)
    {x : Value} (hx : DRep w (Own U0 β H) β H nx (.ref id ver off n) x) {sz : Nat} (hs : allSz sz ((xs.drop off).take n) = true) :
    ∃ vs, SliceAt P w (Own U0 β H) x ((xs.drop off).take n) sz vs := by
  have hlen : ((xs.drop off).take n).length = n := by simp; omega
  cases hx with
  | ref _ _ _ _ _ hid hc h =>
    rcases (h _ _ _ hH).2 hver hle with ⟨rfl, _, a, rfl⟩ | ⟨b, cap, a, hb, rfl, ha⟩
    · simp at hle
      obtain ⟨rfl, rfl⟩ := hle
      refine ⟨fun _ _ => undef, ⟨a, 0, rfl⟩, ⟨by simp, by simp, by simp⟩, fun w' _ => ?_, fun w' k _ hk => ?_⟩
      · cases a <;> simp [Builtin.firstCells, flat, loadCells, loadCellsFrom]
      · obtain rfl : k = 0 := by simpa using hk
        cases a <;> simp [Builtin.firstCells, flat, loadCells, loadCellsFrom]
    · rcases Nat.eq_zero_or_pos n with rfl | hn0
      · simp only [List.take_zero]
        refine ⟨fun _ _ => undef, ⟨a, _, rfl⟩, ⟨by simp, by simp, by simp⟩, fun w' _ => ?_, fun w' k _ hk => ?_⟩
        · cases a <;> simp [Builtin.firstCells, flat, loadCells, loadCellsFrom]
        · obtain rfl : k = 0 := by simpa using hk
          cases a <;> simp [Builtin.firstCells, flat, loadCells, loadCellsFrom]
      · obtain rfl := ha (.inl hn0)
        rcases m.h.blk id _ hH with ⟨hx0, hn⟩ | ⟨b', cap', arr, T, h1, h2, h3, h4, h5, h6, vs, h7, h8, h9⟩
        · rw [hb] at hn; cases hn
        · rw [hb] at h1; simp only [Option.some.injEq, Prod.mk.injEq] at h1; obtain ⟨rfl, rfl⟩ := h1
          have hget : ∀ i x, ((xs.drop off).take n)[i]? = some x → xs[off + i]? = some x := by
            intro i x hx
            rw [List.getElem?_take] at hx
            split at hx
            · rwa [List.getElem?_drop] at hx
            · cases hx
          have hss : sz' = sz := by
            have hx : ((xs.drop off).take n)[0]? = some (xs[off]'(by omega)) := by
              rw [List.getElem?_take, if_pos hn0, List.getElem?_drop]; exact List.getElem?_eq_getElem (by omega)
            rw [← allSz_mem hs _ (List.mem_of_getElem? hx), h6 _ (List.getElem_mem _)]
          subst hss
          have key : ∀ i j, i < n → j < sz' → arr[off * sz' + i * sz' + j]? = some (vs (off + i) j) := by
            intro i j hi hj
            have hx : xs[off + i]? = some (xs[off + i]'(by omega)) := List.getElem?_eq_getElem (by omega)
            have hl := h6 _ (List.mem_of_getElem? hx)
            have := h7 (off + i) _ j _ hx (List.getElem?_eq_getElem (by omega))
            rwa [Nat.add_mul] at this
          refine ⟨fun i j => vs (off + i) j, ⟨_, _, by rw [hlen]⟩, ⟨fun i x j y hx hy => h8 _ _ _ _ (hget i x hx) hy, fun i x j y hx hy => h9 _ _ _ _ (hget i x hx) hy, fun x hx => h6 x (List.mem_of_mem_drop (List.mem_of_mem_take hx))⟩,
            fun w' hw => ?_, fun w' k hw hk => ?_⟩
          · rw [hlen]; exact firstCells_at (by rw [hw]; exact h3) key
          · rw [hlen] at hk; exact firstCells_at (by rw [hw]; exact h3) fun i j hi hj => key i j (by omega) hj

theorem elemsOf_at {u : DV} {ys : List (List PV)} {ids : List Nat} (m : Mem B w0 U0 β H nx w) (h : elemsOf H u = some (ys, ids)) {x : Value} (hx : DRep w (Own U0 β H) β H nx u x) {sz : Nat} (hs : allSz sz ys = true) :
    ∃ vs, SliceAt P w (Own U0 β H) x ys sz vs := by
  unfold elemsOf at h
  split at h
  · cases h
    cases hx with | p _ _ hx => exact slice_at_pure hx hs
  · cases h
    cases hx with | p _ _ hx => cases hx with | z a c => exact slice_at_pure (.none false a c (by simp)) hs
  · rename_i id ver off n
    split at h
    · rename_i fz sz' xs hH
      split at h
      · rename_i hc
        cases h
        exact slice_at_ref m hH hc.1 hc.2 hx hs
      · cases h
    · cases h
  · cases h

theorem SliceAt.src {t2 e2 : TypeId} (ht : P.underlying t2 = some (.slice e2)) {U : Nat → Prop} {x : Value} {ys : List (List PV)} {sz : Nat} {vs : Nat → Nat → Value} (h : SliceAt P w U x ys sz vs) :
    Src P sz t2 x ys.length (flat ys.length sz vs) w := by
  obtain ⟨a, c, rfl⟩ := h.val
  refine ⟨.inl ⟨e2, ht⟩, fun _ => rfl, h.cells w rfl, h.cells w.drew rfl, length_flat _ _ _, fun u hu => ?_⟩
  obtain ⟨k, hk, rfl⟩ := List.mem_iff_getElem.1 hu
  obtain ⟨hsz, h1, h2, he⟩ := get_flat_inv vs (List.getElem?_eq_getElem hk)
  rw [he]
  have hx := List.getElem?_eq_getElem h1
  exact h.el.one _ _ _ _ hx (List.getElem?_eq_getElem (by rw [h.el.sz _ (List.getElem_mem h1)]; exact h2))

theorem Elems.append {U : Nat → Prop} {sz : Nat} {xs ys : List (List PV)} {vs us : Nat → Nat → Value} (a : Elems w U sz xs vs) (b : Elems w U sz ys us) :
    Elems w U sz (xs ++ ys) (fun i j => if i < xs.length then vs i j else us (i - xs.length) j) := by
  refine ⟨fun i x j y hx hy => ?_, fun i x j y hx hy => ?_, fun x hx => ?_⟩
  · by_cases h : i < xs.length
    · rw [if_pos h]; rw [List.getElem?_append_left h] at hx; exact a.one _ _ _ _ hx hy
    · rw [if_neg h]; rw [List.getElem?_append_right (by omega)] at hx; exact b.one _ _ _ _ hx hy
  · by_cases h : i < xs.length
    · rw [if_pos h]; rw [List.getElem?_append_left h] at hx; exact a.rep _ _ _ _ hx hy
    · rw [if_neg h]; rw [List.getElem?_append_right (by omega)] at hx; exact b.rep _ _ _ _ hx hy
  · rcases List.mem_append.1 hx with h | h
    · exact a.sz _ h
    · exact b.sz _ h

theorem size_zero (z : Array Value) (n : Nat) : (Builtin.zeroCells z n).size = n * z.size := by simp [Builtin.zeroCells]

theorem row_moved {id : Nat} (m : Mem B w0 U0 β H nx w) {sz : Nat} {xs0 : List (List PV)} (hH : aget H id = some (.row false sz xs0)) (xs : List (List PV)) (hlt : xs0.length < xs.length) (vs : Nat → Nat → Value) (arr : Array Value) (cap : Nat) (T : TypeId) (w1 : World) (hw1 : w1.heap = w.heap) (hb1 : Below B w w1)
    (hs : arr.size = cap * sz) (hc : xs.length ≤ cap) (he : Elems w (Own U0 β H) sz xs vs) (hv : ∀ i x j y, xs[i]? = some x → x[j]? = some y → arr[i * sz + j]? = some (vs i j)) :
    Good B w0 U0 H nx β w (.ref id xs.length 0 xs.length) (hset H id (.row false sz xs)) nx (.slice (some ⟨w.heap.size, 0, none⟩) xs.length cap) (w1.alloc (.cells arr T)) := by
  have hid := m.h.lt _ _ hH
  have hat : aget (hset H id (.row false sz xs)) id = some (.row false sz xs) := by rw [aget_hset, if_pos rfl, hH]; rfl
  have u : Upd β H nx w (putPlace β id (some (w.heap.size, cap))) (hset H id (.row false sz xs)) nx (w1.alloc (.cells arr T)) id (.row false sz xs) := by
    refine ⟨fun k hk => ?_, hat, rfl, fun k hk => putPlace_ne _ _ _ hk, Nat.le_refl _, hid, .inr ⟨_, hH, rfl, rfl, by omega, fun e => by omega⟩, fun b o h => .inl ?_, fun b c h => .inl ?_⟩
    · rw [aget_hset, if_neg (fun e => hk e.symm)]
    · rw [heap_alloc, hw1, if_neg (by have := lt_of_heap h; omega)]; exact h
    · rw [putPlace_same] at h; simp at h; omega
  have hk := u.keeps (U0 := U0)
  have he' := u.evo
  have hb : Below B w (w1.alloc (.cells arr T)) := hb1.trans (below_alloc (by rw [hw1]; exact m.bsize) _)
  refine ⟨_, u.mem m hb (.inr ⟨w.heap.size, cap, arr, T, putPlace_same _ _ _, m.bsize, by rw [heap_alloc, hw1, if_pos rfl], hs, hc, he.sz, vs, hv, he.one, (he.keep hk).rep⟩), hk, he', ?_⟩
  refine .ref id _ 0 _ _ hid rfl fun fz sz' xs' h => ?_
  rw [hat] at h
  simp only [Option.some.injEq, Blk.row.injEq] at h
  obtain ⟨_, rfl, rfl⟩ := h
  exact ⟨Nat.le_refl _, fun _ _ => .inr ⟨w.heap.size, cap, some ⟨w.heap.size, 0, none⟩, putPlace_same _ _ _, by simp, fun _ => by simp⟩⟩

theorem grow_run {t t2 e e2 : TypeId} {ty : TypeId} {i : TypeInfo} {z : Value} (ht : P.underlying t = some (.slice e)) (ht2 : P.underlying t2 = some (.slice e2)) (hi : P.info? e = some i)
    (hz : i.zero = some z) {sz : Nat} (hsz : i.size = sz) (hzs : z.cells.size = sz) {U : Nat → Prop} {xs ys : List (List PV)} {vs us : Nat → Nat → Value} {a x : Value} (ha : SliceAt P w U a xs sz vs)
    (hx : SliceAt P w U x ys sz us) {base : Option Addr} {cap : Nat} (hav : a = .slice base xs.length cap) (hcap : cap < xs.length + ys.length)
    (hb : (xs.length + ys.length) * i.bytes ≤ maxBytes) (hm : xs.length + ys.length ≤ maxBytes) :
    ∃ (arr : Array Value) (cap' : Nat), (Builtin.append_ #[t, t2] ty #[a, x]).run P w = .ok (.slice (some ⟨w.heap.size, 0, none⟩) (xs ++ ys).length cap') (w.drew.alloc (.cells arr e)) ∧ arr.size = cap' * sz ∧ (xs ++ ys).length ≤ cap' ∧
      ∀ k y j p, (xs ++ ys)[k]? = some y → y[j]? = some p → arr[k * sz + j]? = some (if k < xs.length then vs k j else us (k - xs.length) j) := by
  subst hsz
  subst hav
  have hrun := run_append_grow_src (P := P) w t t2 ty e i z ht hi hz base xs.length cap (flat xs.length i.size vs) (ha.cells w.drew rfl) x ys.length (flat ys.length i.size us) (hx.src ht2) hcap
    (by unfold maxBytes at hm; omega) (growslice_fits hcap (by unfold maxBytes at hb; exact hb))
  have hcapnew : xs.length + ys.length ≤ grownCap w (xs.length + ys.length) cap e := by simp [grownCap, Question.cut]
  have hl : (xs ++ ys).length = xs.length + ys.length := by simp
  have hfl : (flat xs.length i.size vs ++ flat ys.length i.size us).length = (xs.length + ys.length) * i.size := by simp [length_flat, Nat.add_mul]
  rw [hl]
  refine ⟨_, _, hrun, ?_, hcapnew, ?_⟩
  · rw [Array.size_append, size_zero, hzs, List.size_toArray, hfl, ← Nat.add_mul]; congr 1; omega
  · intro k y j p hk hj
    have hys : y.length = i.size := (ha.el.append hx.el).sz y (List.mem_of_getElem? hk)
    have hjl : j < i.size := by have := lt_of_get? hj; omega
    have hkl : k < xs.length + ys.length := by have := lt_of_get? hk; simpa using this
    have hpl : k * i.size + j < (xs.length + ys.length) * i.size := by
      have : (k + 1) * i.size ≤ (xs.length + ys.length) * i.size := Nat.mul_le_mul_right _ hkl
      rw [Nat.add_mul, Nat.one_mul] at this; omega
    rw [Array.getElem?_append_left (by rw [List.size_toArray, hfl]; exact hpl), List.getElem?_toArray]
    by_cases h : k < xs.length
    · rw [if_pos h, List.getElem?_append_left]
      · exact get_flat vs h hjl
      · rw [length_flat]
        have : (k + 1) * i.size ≤ xs.length * i.size := Nat.mul_le_mul_right _ h
        rw [Nat.add_mul, Nat.one_mul] at this; omega
    · rw [if_neg h]
      have e1 : k * i.size = xs.length * i.size + (k - xs.length) * i.size := by rw [← Nat.add_mul]; congr 1; omega
      rw [List.getElem?_append_right (by rw [length_flat]; omega), length_flat, show k * i.size + j - xs.length * i.size = (k - xs.length) * i.size + j from by omega]
      exact get_flat us (by omega) hjl

theorem room_run {t t2 e e2 : TypeId} {ty : TypeId} {i : TypeInfo} (ht : P.underlying t = some (.slice e)) (ht2 : P.underlying t2 = some (.slice e2)) (hi : P.info? e = some i)
    {sz : Nat} (hsz : i.size = sz) {U : Nat → Prop} {ys : List (List PV)} {us : Nat → Nat → Value} {x : Value} (hx : SliceAt P w U x ys sz us) {b len cap : Nat} {arr : Array Value} {T : TypeId}
    (hb : w.heap[b]? = some (.cells arr T (0, 0))) (hroom : len + ys.length ≤ cap) (hs : arr.size = cap * sz) :
    (Builtin.append_ #[t, t2] ty #[.slice (some ⟨b, 0, none⟩) len cap, x]).run P w = .ok (.slice (some ⟨b, 0, none⟩) (len + ys.length) cap) (setArr w b (writeAt arr (len * sz) (flat ys.length sz us)) T (0, 0)) := by
  subst hsz
  have src := hx.src ht2
  have hfit : len * i.size + ys.length * i.size ≤ arr.size := by rw [hs, ← Nat.add_mul]; exact Nat.mul_le_mul_right _ hroom
  have hst := run_storeCells (P := P) (b := b) (off := len * i.size) (T := T) (flat ys.length i.size us) 0 w arr hb src.one (by rw [length_flat]; omega)
  simp only [Nat.add_zero] at hst
  simp [Builtin.append_, run_underlying ht, run_underlying ht2, sizeOf, typeInfo, hi, src.len, hroom, src.cells, add_off, hst]

theorem none_run {t t2 e e2 : TypeId} {ty : TypeId} {i : TypeInfo} (ht : P.underlying t = some (.slice e)) (ht2 : P.underlying t2 = some (.slice e2)) (hi : P.info? e = some i)
    {sz : Nat} (hsz : i.size = sz) {U : Nat → Prop} {us : Nat → Nat → Value} {x : Value} (hx : SliceAt P w U x [] sz us) (base : Option Addr) {len cap : Nat} (hle : len ≤ cap) :
    (Builtin.append_ #[t, t2] ty #[.slice base len cap, x]).run P w = .ok (.slice base len cap) w := by
  subst hsz
  have src := hx.src ht2
  have hc : (Builtin.firstCells i.size 0 x).run P w = .ok #[] w := by simpa [flat] using src.cells
  cases base <;> simp [Builtin.append_, run_underlying ht, run_underlying ht2, sizeOf, typeInfo, hi, src.len, hle, hc, storeCells]

theorem PRep.slice_val {U : Nat → Prop} {full : Bool} {xs : List (List PV)} {x : Value} (h : PRep w U (.slice full xs) x) : ∃ a c, x = .slice a xs.length c ∧ xs.length ≤ c ∧ (full = true → c = xs.length) := by
  cases h with
  | none _ a c hc => exact ⟨a, c, rfl, by simp, fun h => by simpa using hc h⟩
  | slice _ _ b off c sz arr T fz vs hne hc hf => exact ⟨_, c, rfl, hc, hf⟩

theorem less_same {id : Nat} {blk : Blk} (h : aget H id = some blk) : Less H (hset H id blk) := by
  refine ⟨fun k b hb => ?_⟩
  rw [aget_hset] at hb
  split at hb
  · rename_i e; subst e; rw [h] at hb; simp at hb; subst hb; exact ⟨_, h, .inl rfl⟩
  · exact ⟨b, hb, .inl rfl⟩

theorem op_append {t t2 ty : TypeId} {bytes sz : Nat} (hok : appendOK P t t2 bytes sz = true) (m : Mem B w0 U0 β H nx w) {v u : DV} {a x : Value} (ha : DRep w (Own U0 β H) β H nx v a) (hx : DRep w (Own U0 β H) β H nx u x)
    {ys : List (List PV)} {ids : List Nat} (hys : elemsOf H u = some (ys, ids)) (hsy : allSz sz ys = true) {r : DV} {H' : Heap} {nx' : Nat}
    (h : appendDV bytes sz ys v H nx = some (r, H', nx')) :
    ∃ y w', (Builtin.append_ #[t, t2] ty #[a, x]).run P w = .ok y w' ∧ Good B w0 U0 H nx β w r H' nx' y w' := by
  unfold appendOK at hok
  cases hse : sliceElem P t with
  | none => rw [hse] at hok; cases hok
  | some e =>
  cases hse2 : sliceElem P t2 with
  | none => rw [hse, hse2] at hok; cases hok
  | some e2 =>
  rw [hse, hse2] at hok
  simp only at hok
  have ht : P.underlying t = some (.slice e) := by
    unfold sliceElem at hse; split at hse
    · rename_i hu; cases hse; exact hu
    · cases hse
  have ht2 : P.underlying t2 = some (.slice e2) := by
    unfold sliceElem at hse2; split at hse2
    · rename_i hu; cases hse2; exact hu
    · cases hse2
  cases hi : P.info? e with
  | none => rw [hi] at hok; cases hok
  | some i =>
  rw [hi] at hok
  simp only [Bool.and_eq_true, beq_iff_eq, decide_eq_true_eq] at hok
  obtain ⟨⟨⟨⟨hby, hsz⟩, hz0⟩, hsz0⟩, hb0⟩ := hok
  cases hz : i.zero with
  | none => rw [hz] at hz0; cases hz0
  | some z =>
  rw [hz] at hz0
  simp only [beq_iff_eq] at hz0
  obtain ⟨us, sx⟩ := elemsOf_at (P := P) m hys hx hsy
  subst hby
  unfold appendDV at h
  have tri : (∃ full xs, v = .p (.slice full xs)) ∨ (∃ id ver off n, v = .ref id ver off n) := by
    cases v with
    | p q => cases q with
      | slice full xs => exact .inl ⟨_, _, rfl⟩
      | _ => cases h
    | ref id ver off n => exact .inr ⟨_, _, _, _, rfl⟩
    | _ => cases h
  rcases tri with ⟨full, xs, rfl⟩ | ⟨id, ver, off, n, rfl⟩
  · simp only at h
    cases ha with | p _ _ hp =>
    obtain ⟨ad, c, rfl, hcl, hfull⟩ := hp.slice_val
    have hnone : ys = [] → (Builtin.append_ #[t, t2] ty #[.slice ad xs.length c, x]).run P w = .ok (.slice ad xs.length c) w := by
      intro hy; subst hy
      exact none_run ht ht2 hi hsz sx ad hcl
    split at h
    · rename_i hc
      simp only [Bool.and_eq_true, decide_eq_true_eq] at hc
      obtain ⟨⟨⟨hf, hsx⟩, hb1⟩, hb2⟩ := hc
      split at h
      · rename_i he
        simp only [Bool.and_eq_true, List.isEmpty_iff] at he
        cases h
        exact ⟨_, _, hnone he.1, good_same m (.p _ _ hp)⟩
      · rename_i he
        cases h
        obtain ⟨vs, sa⟩ := slice_at_pure (P := P) hp hsx
        by_cases hy0 : ys = []
        · have hx0 : xs = [] := by
            simp only [Bool.and_eq_true, List.isEmpty_iff, Bool.not_eq_true', not_and, Bool.not_eq_false] at he
            simpa using he hy0
          subst hy0; subst hx0
          have : c = 0 := hfull hf
          subst this
          exact ⟨_, _, hnone rfl, new_row_nil m sz ad⟩
        · have hpos : 0 < ys.length := List.length_pos_iff.2 hy0
          obtain ⟨arr, cap', hrun, h1, h2, h3⟩ := grow_run (ty := ty) ht ht2 hi hz hsz hz0 sa sx rfl (by rw [hfull hf]; omega) hb1 hb2
          have hg := new_row m sz (xs ++ ys) _ arr cap' e w.drew rfl (below_drew _ _) h1 h2 (sa.el.append sx.el) h3
          rw [List.length_append] at hg hrun
          exact ⟨_, _, hrun, hg⟩
    · split at h
      · rename_i he
        cases h
        exact ⟨_, _, hnone (by simpa using he), good_same m (.p _ _ hp)⟩
      · cases h
  · simp only at h
    split at h
    · rename_i sz' xs hH
      split at h
      · rename_i hc
        obtain ⟨hver, rfl, rfl, rfl, hb1, hb2⟩ := hc
        cases h
        have hself := ha
        cases ha with | ref _ _ _ _ _ hid hcell href =>
        have hall : (xs.drop 0).take xs.length = xs := by simp
        rcases (href _ _ _ hH).2 hver (by omega) with ⟨rfl, hβ, ad, rfl⟩ | ⟨b, cap, ad, hb, rfl, had⟩
        · by_cases hy0 : ys = []
          · subst hy0
            refine ⟨_, _, none_run ht ht2 hi hsz sx ad (Nat.le_refl 0), good_less m (less_same (by simpa using hH)) ?_⟩
            refine hself.evo ((less_same hH).keeps w) ((less_same hH).evo (Nat.le_refl _)) |> fun h => ?_
            subst hver
            simpa using h
          · have hpos : 0 < ys.length := List.length_pos_iff.2 hy0
            obtain ⟨vs, sa⟩ : ∃ vs, SliceAt P w (Own U0 β H) (.slice ad 0 0) [] sz' vs := slice_at_pure (full := false) (.none false ad 0 (by simp)) rfl
            obtain ⟨arr, cap', hrun, h1, h2, h3⟩ := grow_run (ty := ty) ht ht2 hi hz hsz hz0 sa sx rfl (by simpa using hpos) hb1 hb2
            have hg := row_moved m hH ([] ++ ys) (by simpa using hpos) _ arr cap' e w.drew rfl (below_drew _ _) h1 h2 (sa.el.append sx.el) h3
            rw [List.length_append] at hg hrun
            exact ⟨_, _, hrun, hg⟩
        · rcases m.h.blk id _ hH with ⟨hx0, hn⟩ | ⟨b', cap', arr, T, h1, h2, h3, h4, h5, h6, vs, h7, h8, h9⟩
          · rw [hb] at hn; cases hn
          · rw [hb] at h1; simp only [Option.some.injEq, Prod.mk.injEq] at h1; obtain ⟨rfl, rfl⟩ := h1
            obtain rfl := had (.inr rfl)
            simp only [Nat.zero_mul, Nat.sub_zero] at hself ⊢
            have el0 : Elems w (Own U0 β H) sz' xs vs := ⟨h8, h9, h6⟩
            have key : ∀ i j, i < xs.length → j < sz' → arr[0 + i * sz' + j]? = some (vs i j) := by
              intro i j hi hj
              rw [Nat.zero_add]
              have hx := List.getElem?_eq_getElem hi
              have hl := h6 _ (List.getElem_mem hi)
              exact h7 i _ j _ hx (List.getElem?_eq_getElem (by omega))
            have sa : SliceAt P w (Own U0 β H) (.slice (some ⟨b, 0, none⟩) xs.length cap) xs sz' vs :=
              ⟨⟨_, _, rfl⟩, el0, fun w' hw => firstCells_at (by rw [hw]; exact h3) key, fun w' n hw hn => firstCells_at (by rw [hw]; exact h3) fun i j hi hj => key i j (by omega) hj⟩
            by_cases hroom : xs.length + ys.length ≤ cap
            · refine ⟨_, _, room_run ht ht2 hi hsz sx h3 hroom h4, ?_⟩
              have hfit : xs.length * sz' + (flat ys.length sz' us).length ≤ arr.size := by rw [length_flat, h4, ← Nat.add_mul]; exact Nat.mul_le_mul_right _ hroom
              refine row_written m hH hb h2 h3 (by rw [size_writeAt, h4]) (by rw [List.length_append]; exact hroom) (by simp) _ (el0.append sx.el) (fun k y j p hk hj => ?_) _ _ (fun H' hH' he hk => ?_)
              · have hyl : y.length = sz' := (el0.append sx.el).sz y (List.mem_of_getElem? hk)
                have hjl : j < sz' := by have := lt_of_get? hj; omega
                have hkl : k < xs.length + ys.length := by have := lt_of_get? hk; simpa using this
                rw [get_writeAt _ _ _ _ hfit, length_flat]
                by_cases hkx : k < xs.length
                · have : (k + 1) * sz' ≤ xs.length * sz' := Nat.mul_le_mul_right _ hkx
                  rw [Nat.add_mul, Nat.one_mul] at this
                  rw [if_neg (by omega), if_pos hkx]
                  have := key k j hkx hjl
                  rwa [Nat.zero_add] at this
                · have e1 : k * sz' = xs.length * sz' + (k - xs.length) * sz' := by rw [← Nat.add_mul]; congr 1; omega
                  have e2 : (k - xs.length + 1) * sz' ≤ ys.length * sz' := Nat.mul_le_mul_right _ (by omega)
                  rw [Nat.add_mul, Nat.one_mul] at e2
                  rw [if_pos ⟨by omega, by omega⟩, if_neg hkx, show k * sz' + j - xs.length * sz' = (k - xs.length) * sz' + j from by omega]
                  exact get_flat us (by omega) hjl
              · subst hH'
                refine .ref id _ 0 _ _ hid rfl fun fz sz'' xs' h => ?_
                rw [aget_hset, if_pos rfl, hH] at h
                simp only [Option.map_some, Option.some.injEq, Blk.row.injEq] at h
                obtain ⟨_, rfl, rfl⟩ := h
                rw [List.length_append]
                exact ⟨Nat.le_refl _, fun _ _ => .inr ⟨b, cap, some ⟨b, 0, none⟩, hb, by simp, fun _ => by simp⟩⟩
            · obtain ⟨arr', cap', hrun, g1, g2, g3⟩ := grow_run (ty := ty) ht ht2 hi hz hsz hz0 sa sx rfl (by omega) hb1 hb2
              have hg := row_moved m hH (xs ++ ys) (by rw [List.length_append]; omega) _ arr' cap' e w.drew rfl (below_drew _ _) g1 g2 (sa.el.append sx.el) g3
              rw [List.length_append] at hg hrun
              exact ⟨_, _, hrun, hg⟩
      · cases h
    · cases h

end
end Go.Dv
