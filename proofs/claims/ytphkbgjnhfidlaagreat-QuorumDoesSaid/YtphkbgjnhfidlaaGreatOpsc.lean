/-
  Operations, part 3: own blocks come new, are stored into, grow.
-/
import Derived.Test.YtphkbgjnhfidlaaGreatOpsb
import Derived.Deep.AppendSrc
set_option linter.unusedVariables false
set_option linter.unusedSimpArgs false
namespace Go.Dv
open Go.RowKit

section
variable {P : Program} {B : Nat} {w0 : World} {U0 : Nat → Prop} {β : Place} {H : Heap} {nx : Nat} {w : World}

theorem aget_next (m : Mem B w0 U0 β H nx w) : aget H nx = none := by
  cases h : aget H nx with
  | none => rfl
  | some b => exact absurd (m.h.lt _ _ h) (Nat.lt_irrefl _)

def putPlace (β : Place) (id : Nat) (x : Option (Nat × Nat)) : Place := fun k => if k = id then x else β k

theorem putPlace_same (β : Place) (id : Nat) (x : Option (Nat × Nat)) : putPlace β id x id = x := by simp [putPlace]
theorem putPlace_ne (β : Place) (id : Nat) (x : Option (Nat × Nat)) {k : Nat} (h : k ≠ id) : putPlace β id x k = β k := by simp [putPlace, h]

theorem upd_new (m : Mem B w0 U0 β H nx w) (blk : Blk) (hf : blk.fz = false) (w' : World) (x : Option (Nat × Nat)) (hw : ∀ (b : Nat) (o : Obj), w.heap[b]? = some o → w'.heap[b]? = some o) (hx : ∀ (b c : Nat), x = some (b, c) → w.heap.size ≤ b) :
    Upd β H nx w (putPlace β nx x) ((nx, blk) :: H) (nx + 1) w' nx blk := by
  refine ⟨fun k hk => ?_, ?_, hf, fun k hk => putPlace_ne _ _ _ hk, by omega, by omega, .inl ⟨aget_next m, Nat.le_refl _⟩, fun b o h => .inl (hw b o h), fun b c h => .inl ?_⟩
  · rw [aget_cons, if_neg (fun e => hk e.symm)]
  · rw [aget_cons, if_pos rfl]
  · rw [putPlace_same] at h; exact hx b c h

theorem new_var (m : Mem B w0 U0 β H nx w) (cs : List DV) (vs : Array Value) (T : TypeId) (hl : vs.size = cs.length)
    (hc : ∀ j y, cs[j]? = some y → DRep w (Own U0 β H) β H nx y (vs.getD j undef) ∧ (vs.getD j undef).oneCell' = true) :
    Good B w0 U0 H nx β w (.ptr nx 0) ((nx, .var false cs) :: H) (nx + 1) (.pointer (some ⟨w.heap.size, 0, none⟩)) (w.alloc (.cells vs T)) := by
  have u : Upd β H nx w (putPlace β nx (some (w.heap.size, 0))) ((nx, .var false cs) :: H) (nx + 1) (w.alloc (.cells vs T)) nx (.var false cs) :=
    upd_new m _ rfl _ _ (fun b o h => by rw [heap_alloc, if_neg (by have := lt_of_heap h; omega)]; exact h) (fun b c h => by simp at h; omega)
  have hk := u.keeps (U0 := U0)
  have he := u.evo
  refine ⟨_, u.mem m (below_alloc m.bsize _) ⟨w.heap.size, 0, vs, T, putPlace_same _ _ _, m.bsize, by rw [heap_alloc, if_pos rfl], hl, fun j d hj => (hc j d hj).2, fun j d hj => (hc j d hj).1.evo hk he⟩, hk, he, ?_⟩
  refine .ptr nx 0 _ (by omega) rfl (fun fz cs' h => ⟨w.heap.size, 0, putPlace_same _ _ _, rfl⟩) (fun fz kv h => ?_)
  rw [aget_cons, if_pos rfl] at h; cases h

theorem new_map (m : Mem B w0 U0 β H nx w) :
    Good B w0 U0 H nx β w (.ptr nx 0) ((nx, .map false []) :: H) (nx + 1) (.map (some w.heap.size)) (w.alloc (.map #[] 0)) := by
  have u : Upd β H nx w (putPlace β nx (some (w.heap.size, 0))) ((nx, .map false []) :: H) (nx + 1) (w.alloc (.map #[] 0)) nx (.map false []) :=
    upd_new m _ rfl _ _ (fun b o h => by rw [heap_alloc, if_neg (by have := lt_of_heap h; omega)]; exact h) (fun b c h => by simp at h; omega)
  have hk := u.keeps (U0 := U0)
  have he := u.evo
  refine ⟨_, u.mem m (below_alloc m.bsize _) ⟨w.heap.size, 0, #[], 0, putPlace_same _ _ _, m.bsize, by rw [heap_alloc, if_pos rfl], rfl, by simp⟩, hk, he, ?_⟩
  refine .ptr nx 0 _ (by omega) rfl (fun fz cs' h => ?_) (fun fz kv h => ⟨w.heap.size, 0, putPlace_same _ _ _, rfl⟩)
  rw [aget_cons, if_pos rfl] at h; cases h

theorem own_row (m : Mem B w0 U0 β H nx w) (sz : Nat) (a : Option Addr) : Good B w0 U0 H nx β w (.ref nx 0 0 0) ((nx, .row false sz []) :: H) (nx + 1) (.slice a 0 0) w := by
  have u : Upd β H nx w (putPlace β nx none) ((nx, .row false sz []) :: H) (nx + 1) w nx (.row false sz []) :=
    upd_new m _ rfl _ _ (fun b o h => h) (fun b c h => by cases h)
  refine ⟨_, u.mem m (Below.refl _ _) (.inl ⟨rfl, putPlace_same _ _ _⟩), u.keeps, u.evo, .ref nx 0 0 0 _ (by omega) rfl fun fz sz' xs h => ?_⟩
  rw [aget_cons, if_pos rfl] at h
  cases h
  exact ⟨Nat.le_refl _, fun _ _ => .inl ⟨rfl, putPlace_same _ _ _, a, rfl⟩⟩

structure Elems (w : World) (U : Nat → Prop) (sz : Nat) (xs : List (List PV)) (vs : Nat → Nat → Value) : Prop where
  one : ∀ i x j y, xs[i]? = some x → x[j]? = some y → (vs i j).oneCell' = true
  rep : ∀ i x j y, xs[i]? = some x → x[j]? = some y → PRep w U y (vs i j)
  sz : ∀ x ∈ xs, x.length = sz

theorem Elems.keep {U : Nat → Prop} {w' : World} {U' : Nat → Prop} {sz : Nat} {xs : List (List PV)} {vs : Nat → Nat → Value} (h : Elems w U sz xs vs) (hk : Keeps w U w' U') : Elems w' U' sz xs vs :=
  ⟨h.one, fun i x j y a b => (h.rep i x j y a b).keep hk, h.sz⟩

theorem new_row (m : Mem B w0 U0 β H nx w) (sz : Nat) (xs : List (List PV)) (vs : Nat → Nat → Value) (arr : Array Value) (cap : Nat) (T : TypeId) (w1 : World) (hw1 : w1.heap = w.heap) (hb1 : Below B w w1)
    (hs : arr.size = cap * sz) (hc : xs.length ≤ cap) (he : Elems w (Own U0 β H) sz xs vs) (hv : ∀ i x j y, xs[i]? = some x → x[j]? = some y → arr[i * sz + j]? = some (vs i j)) :
    Good B w0 U0 H nx β w (.ref nx xs.length 0 xs.length) ((nx, .row false sz xs) :: H) (nx + 1) (.slice (some ⟨w.heap.size, 0, none⟩) xs.length cap) (w1.alloc (.cells arr T)) := by
  have u : Upd β H nx w (putPlace β nx (some (w.heap.size, cap))) ((nx, .row false sz xs) :: H) (nx + 1) (w1.alloc (.cells arr T)) nx (.row false sz xs) :=
    upd_new m _ rfl _ _ (fun b o h => by rw [heap_alloc, hw1, if_neg (by have := lt_of_heap h; omega)]; exact h) (fun b c h => by simp at h; omega)
  have hk := u.keeps (U0 := U0)
  have he' := u.evo
  have hb : Below B w (w1.alloc (.cells arr T)) := hb1.trans (below_alloc (by rw [hw1]; exact m.bsize) _)
  refine ⟨_, u.mem m hb (.inr ⟨w.heap.size, cap, arr, T, putPlace_same _ _ _, m.bsize, by rw [heap_alloc, hw1, if_pos rfl], hs, hc, he.sz, vs, hv, he.one, (he.keep hk).rep⟩), hk, he', ?_⟩
  refine .ref nx _ 0 _ _ (by omega) rfl fun fz sz' xs' h => ?_
  rw [aget_cons, if_pos rfl] at h
  simp only [Option.some.injEq, Blk.row.injEq] at h
  obtain ⟨_, rfl, rfl⟩ := h
  exact ⟨Nat.le_refl _, fun _ _ => .inr ⟨w.heap.size, cap, some ⟨w.heap.size, 0, none⟩, putPlace_same _ _ _, by simp, fun _ => by simp⟩⟩

theorem new_row_nil (m : Mem B w0 U0 β H nx w) (sz : Nat) (a : Option Addr) :
    Good B w0 U0 H nx β w (.ref nx 0 0 0) ((nx, .row false sz []) :: H) (nx + 1) (.slice a 0 0) w := by
  have u : Upd β H nx w (putPlace β nx none) ((nx, .row false sz []) :: H) (nx + 1) w nx (.row false sz []) :=
    upd_new m _ rfl _ _ (fun b o h => h) (fun b c h => by simp at h)
  refine ⟨_, u.mem m (Below.refl _ _) (.inl ⟨rfl, putPlace_same _ _ _⟩), u.keeps, u.evo, ?_⟩
  refine .ref nx _ 0 _ _ (by omega) rfl fun fz sz' xs' h => ?_
  rw [aget_cons, if_pos rfl] at h
  simp only [Option.some.injEq, Blk.row.injEq] at h
  obtain ⟨_, rfl, rfl⟩ := h
  exact ⟨Nat.le_refl _, fun _ _ => .inl ⟨rfl, putPlace_same _ _ _, a, rfl⟩⟩

/-! ### stores -/

theorem getD_writeAt {arr : Array Value} {o k : Nat} {l : List Value} (h : o + l.length ≤ arr.size) :
    (writeAt arr o l).getD k undef = if o ≤ k ∧ k < o + l.length then l.getD (k - o) undef else arr.getD k undef := by
  rw [Array.getD_eq_getD_getElem?, get_writeAt _ _ _ _ h]
  split
  · simp
  · simp

theorem get_putAt {α : Type} (l : List α) (off : Nat) (xs : List α) (h : off + xs.length ≤ l.length) (k : Nat) :
    (putAt l off xs)[k]? = if off ≤ k ∧ k < off + xs.length then xs[k - off]? else l[k]? := by
  unfold putAt
  have h1 : (l.take off).length = off := by simp; omega
  by_cases hk : k < off
  · rw [if_neg (by omega), List.append_assoc, List.getElem?_append_left (by omega), List.getElem?_take, if_pos hk]
  · by_cases hk2 : k < off + xs.length
    · rw [if_pos ⟨by omega, hk2⟩, List.getElem?_append_left (by simp; omega), List.getElem?_append_right (by omega), h1]
    · rw [if_neg (by omega), List.getElem?_append_right (by simp; omega), List.getElem?_drop]
      congr 1
      simp; omega

theorem length_putAt {α : Type} (l : List α) (off : Nat) (xs : List α) (h : off + xs.length ≤ l.length) : (putAt l off xs).length = l.length := by
  simp [putAt]; omega

theorem store_var {id off : Nat} {cs l : List DV} (m : Mem B w0 U0 β H nx w) (hH : aget H id = some (.var false cs)) {x v : Value} (hx : DRep w (Own U0 β H) β H nx (.ptr id off) x)
    (hn : off + l.length ≤ cs.length) (hvs : v.cells.size = l.length) (hv : ∀ j y, l[j]? = some y → DRep w (Own U0 β H) β H nx y (v.cells.getD j undef) ∧ (v.cells.getD j undef).oneCell' = true)
    {t : TypeId} (hs : sizeIs P t l.length = true) :
    ∃ w', (Instr.storeAt t x v).run P w = .ok () w' ∧ Good B w0 U0 H nx β w (.tuple []) (hset H id (.var false (putAt cs off l))) nx undef w' := by
  cases hx with
  | ptr _ _ _ hid hc h =>
    obtain ⟨b, c, hb, rfl⟩ := h _ _ hH
    obtain ⟨b', c', arr, T, h1, h2, h3, h4, h5, h6⟩ := m.h.blk id _ hH
    rw [hb] at h1; simp only [Option.some.injEq, Prod.mk.injEq] at h1; obtain ⟨rfl, rfl⟩ := h1
    have hlen : v.cells.toList.length = l.length := by simpa using hvs
    have hone : ∀ x ∈ v.cells.toList, x.oneCell' = true := by
      intro x hx
      obtain ⟨j, hj, rfl⟩ := List.mem_iff_getElem.1 hx
      have := (hv j _ (List.getElem?_eq_getElem (by omega : j < l.length))).2
      rw [Array.getD_eq_getD_getElem?] at this
      simpa [Array.getElem?_eq_getElem (by simpa using hj : j < v.cells.size)] using this
    have hrun := run_storeAt (P := P) (t := t) h3 hs hvs hone (off := off) (by omega)
    have hlt := lt_of_heap h3
    have u : Upd β H nx w β (hset H id (.var false (putAt cs off l))) nx (setArr w b (writeAt arr off v.cells.toList) T (0, 0)) id (.var false (putAt cs off l)) := by
      refine ⟨fun k hk => ?_, ?_, rfl, fun k hk => rfl, Nat.le_refl _, hid, .inr ⟨_, hH, rfl, rfl⟩, fun b' o h => ?_, fun b' c' h => .inr ⟨c', _, h, hH⟩⟩
      · rw [aget_hset, if_neg (fun e => hk e.symm)]
      · rw [aget_hset, if_pos rfl, hH]; rfl
      · by_cases e : b = b'
        · subst e; exact .inr ⟨c, _, hb, hH⟩
        · left; rw [heap_setArr, if_neg (fun x => e x.1)]; exact h
    have hk := u.keeps (U0 := U0)
    have he := u.evo
    refine ⟨_, hrun, β, u.mem m (below_setArr h2) ⟨b, c, _, T, hb, h2, by rw [heap_setArr, if_pos ⟨rfl, hlt⟩], by rw [size_writeAt, length_putAt _ _ _ hn, h4], ?_, ?_⟩, hk, he, .undef⟩
    all_goals
      intro j d hj
      rw [get_putAt _ _ _ hn] at hj
      rw [getD_writeAt (by omega), hlen]
      split at hj
      · rename_i hin
        rw [if_pos hin]
        have := hv _ _ hj
        rw [Array.getD_eq_getD_getElem?] at this
        rw [List.getD_eq_getElem?_getD, Array.getElem?_toList]
        first | exact this.2 | exact this.1.evo hk he
      · rename_i hin
        rw [if_neg hin]
        first | exact h5 _ _ hj | exact (h6 _ _ hj).evo hk he

theorem row_written {id b cap sz : Nat} {xs xs' : List (List PV)} {arr arr' : Array Value} {T : TypeId} (m : Mem B w0 U0 β H nx w) (hH : aget H id = some (.row false sz xs)) (hb : β id = some (b, cap))
    (h2 : B ≤ b) (h3 : w.heap[b]? = some (.cells arr T (0, 0))) (hsz : arr'.size = cap * sz) (hcap : xs'.length ≤ cap) (hle : xs.length ≤ xs'.length) (vs : Nat → Nat → Value) (he0 : Elems w (Own U0 β H) sz xs' vs)
    (hv : ∀ i x j y, xs'[i]? = some x → x[j]? = some y → arr'[i * sz + j]? = some (vs i j)) (v : DV) (x : Value)
    (hd : ∀ (H' : Heap), H' = hset H id (.row false sz xs') → Evo β H nx β H' nx → Keeps w (Own U0 β H) (setArr w b arr' T (0, 0)) (Own U0 β H') → DRep (setArr w b arr' T (0, 0)) (Own U0 β H') β H' nx v x) :
    Good B w0 U0 H nx β w v (hset H id (.row false sz xs')) nx x (setArr w b arr' T (0, 0)) := by
  have hlt := lt_of_heap h3
  have u : Upd β H nx w β (hset H id (.row false sz xs')) nx (setArr w b arr' T (0, 0)) id (.row false sz xs') := by
    refine ⟨fun k hk => ?_, ?_, rfl, fun k hk => rfl, Nat.le_refl _, m.h.lt _ _ hH, .inr ⟨_, hH, rfl, rfl, hle, fun _ => rfl⟩, fun b' o h => ?_, fun b' c' h => .inr ⟨c', _, h, hH⟩⟩
    · rw [aget_hset, if_neg (fun e => hk e.symm)]
    · rw [aget_hset, if_pos rfl, hH]; rfl
    · by_cases e : b = b'
      · subst e; exact .inr ⟨cap, _, hb, hH⟩
      · left; rw [heap_setArr, if_neg (fun x => e x.1)]; exact h
  have hk := u.keeps (U0 := U0)
  have he := u.evo
  exact ⟨β, u.mem m (below_setArr h2) (.inr ⟨b, cap, arr', T, hb, h2, by rw [heap_setArr, if_pos ⟨rfl, hlt⟩], hsz, hcap, he0.sz, vs, hv, he0.one, (he0.keep hk).rep⟩), hk, he, hd _ rfl he hk⟩

theorem store_elem {id ver i off : Nat} {sz : Nat} {xs : List (List PV)} {y l : List PV} (m : Mem B w0 U0 β H nx w) (hH : aget H id = some (.row false sz xs)) (hver : ver = xs.length) (hi : xs[i]? = some y)
    {x v : Value} (hx : DRep w (Own U0 β H) β H nx (.eptr id ver i off) x) (hn : off + l.length ≤ y.length)
    (hvs : v.cells.size = l.length) (hv : ∀ j p, l[j]? = some p → PRep w (Own U0 β H) p (v.cells.getD j undef) ∧ (v.cells.getD j undef).oneCell' = true) {t : TypeId} (hs : sizeIs P t l.length = true) :
    ∃ w', (Instr.storeAt t x v).run P w = .ok () w' ∧ Good B w0 U0 H nx β w (.tuple []) (hset H id (.row false sz (xs.set i (putAt y off l)))) nx undef w' := by
  have hil := lt_of_get? hi
  cases hx with
  | eptr _ _ _ _ _ hid hc h =>
    obtain ⟨b, c, hb, rfl⟩ := (h _ _ _ hH).2 hver hil
    rcases m.h.blk id _ hH with ⟨hx0, hn0⟩ | ⟨b', cap, arr, T, h1, h2, h3, h4, h5, h6, vs, h7, h8, h9⟩
    · rw [hb] at hn0; cases hn0
    · rw [hb] at h1; simp only [Option.some.injEq, Prod.mk.injEq] at h1; obtain ⟨rfl, rfl⟩ := h1
      have hy : y.length = sz := h6 y (List.mem_of_getElem? hi)
      have hlen : v.cells.toList.length = l.length := by simpa using hvs
      have hone : ∀ x ∈ v.cells.toList, x.oneCell' = true := by
        intro x hx
        obtain ⟨j, hj, rfl⟩ := List.mem_iff_getElem.1 hx
        have := (hv j _ (List.getElem?_eq_getElem (by omega : j < l.length))).2
        rw [Array.getD_eq_getD_getElem?] at this
        simpa [Array.getElem?_eq_getElem (by simpa using hj : j < v.cells.size)] using this
      have hfit : i * sz + off + l.length ≤ arr.size := by
        rw [h4]
        have : (i + 1) * sz ≤ c * sz := Nat.mul_le_mul_right _ (by omega)
        rw [Nat.add_mul, Nat.one_mul] at this
        omega
      have hrun := run_storeAt (P := P) (t := t) h3 hs hvs hone (off := i * sz + off) hfit
      refine ⟨_, hrun, row_written m hH hb h2 h3 (by rw [size_writeAt, h4]) (by simpa using h5) (by simp)
        (fun i' j => if i' = i ∧ off ≤ j ∧ j < off + l.length then v.cells.getD (j - off) undef else vs i' j) ⟨?_, ?_, ?_⟩ ?_ _ _ (fun _ _ _ _ => .undef)⟩
      · intro i' z j q hz hq
        by_cases e : i' = i
        · subst e
          rw [List.getElem?_set_self hil] at hz; cases hz
          rw [get_putAt _ _ _ hn] at hq
          split at hq
          · rename_i hin; rw [if_pos ⟨rfl, hin⟩]; exact (hv _ _ hq).2
          · rename_i hin; rw [if_neg (fun e => hin e.2)]; exact h8 _ _ _ _ hi hq
        · rw [List.getElem?_set_ne (fun h => e h.symm)] at hz
          rw [if_neg (fun h => e h.1)]; exact h8 _ _ _ _ hz hq
      · intro i' z j q hz hq
        by_cases e : i' = i
        · subst e
          rw [List.getElem?_set_self hil] at hz; cases hz
          rw [get_putAt _ _ _ hn] at hq
          split at hq
          · rename_i hin; rw [if_pos ⟨rfl, hin⟩]; exact (hv _ _ hq).1
          · rename_i hin; rw [if_neg (fun e => hin e.2)]; exact h9 _ _ _ _ hi hq
        · rw [List.getElem?_set_ne (fun h => e h.symm)] at hz
          rw [if_neg (fun h => e h.1)]; exact h9 _ _ _ _ hz hq
      · intro z hz
        rcases List.mem_or_eq_of_mem_set hz with hz | rfl
        · exact h6 z hz
        · rw [length_putAt _ _ _ hn, hy]
      · intro i' z j q hz hq
        rw [get_writeAt _ _ _ _ (by omega), hlen]
        by_cases e : i' = i
        · subst e
          rw [List.getElem?_set_self hil] at hz; cases hz
          have hj : j < sz := by have := lt_of_get? hq; rw [length_putAt _ _ _ hn] at this; omega
          rw [get_putAt _ _ _ hn] at hq
          split at hq
          · rename_i hin
            rw [if_pos ⟨by omega, by omega⟩, if_pos ⟨rfl, hin⟩]
            have hjl : j - off < v.cells.size := by omega
            rw [Array.getElem?_toList, show i' * sz + j - (i' * sz + off) = j - off from by omega, get?_of_lt hjl]
          · rename_i hin
            rw [if_neg (by omega), if_neg (fun e => hin e.2)]
            exact h7 _ _ _ _ hi hq
        · rw [List.getElem?_set_ne (fun h => e h.symm)] at hz
          have hj : j < sz := by have := lt_of_get? hq; rw [h6 z (List.mem_of_getElem? hz)] at this; exact this
          rw [if_neg, if_neg (fun h => e h.1)]
          · exact h7 _ _ _ _ hz hq
          · rintro ⟨ha, hb'⟩
            rcases Nat.lt_or_gt_of_ne e with hlt | hgt
            · have : (i' + 1) * sz ≤ i * sz := Nat.mul_le_mul_right _ hlt
              rw [Nat.add_mul, Nat.one_mul] at this; omega
            · have : (i + 1) * sz ≤ i' * sz := Nat.mul_le_mul_right _ hgt
              rw [Nat.add_mul, Nat.one_mul] at this; omega

end
end Go.Dv
