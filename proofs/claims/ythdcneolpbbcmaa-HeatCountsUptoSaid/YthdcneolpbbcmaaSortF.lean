/-
  slices.SortFunc in a call's own memory, at elements of flat cells, with comparing functions that are known: the shelf's contract, as a contract at the data level.
-/
import Derived.Test.YthdcneolpbbcmaaLib
import Derived.Shelf.SlSortCmp.WholeK
set_option linter.unusedVariables false
set_option linter.unusedSimpArgs false
namespace Go.Dv
open Go.RowKit Go.Shelf Go.Sort Go.Proofs Go.Lib

/-- A cell without memory. -/
def PV.flatC : PV → Bool
  | .int _ _ | .bool _ | .str _ => true
  | _ => false
def encC : PV → Value
  | .int k n => .int k n
  | .bool b => .bool b
  | .str s => .string s
  | _ => undef

theorem flat_rep {c : PV} (h : c.flatC = true) (w : World) (U : Nat → Prop) : PRep w U c (encC c) := by
  cases c <;> simp [PV.flatC] at h
  · exact .int _ _
  · exact .bool _
  · exact .str _
theorem flat_one {c : PV} (h : c.flatC = true) : (encC c).oneCell' = true := by
  cases c <;> simp [PV.flatC] at h <;> rfl
theorem flat_inv {c : PV} (h : c.flatC = true) {w : World} {U : Nat → Prop} {v : Value} (hr : PRep w U c v) : v = encC c := by
  cases c <;> simp [PV.flatC] at h <;> cases hr <;> rfl

section
variable {P : Program} {ρ : Ren}

theorem mapBlock_setArr' {w : World} {b : Nat} {arr : Array Value} {T : TypeId} {fz : Nat × Nat} (hb : w.heap[b]? = some (.cells arr T fz)) (f : Array Value → Array Value) : mapBlock w b f = setArr w b (f arr) T fz := by
  have hlt := lt_of_heap hb
  simp only [mapBlock, setArr]
  congr 1
  apply Array.ext_getElem?
  intro i
  rw [Array.getElem?_modify]
  by_cases h : b = i
  · subst h; rw [hb]; simp [hlt, onCells]
  · simp [h]

theorem below_grow_ahead' (w : World) (n : Nat) (os : Array Obj) : Below w.heap.size w (grow (Go.Sort.ahead w n) os) :=
  ⟨⟨rfl, rfl, rfl, by simp [grow, Go.Sort.ahead], fun k hk => by simp [grow, Go.Sort.ahead, Array.getElem?_append, hk]⟩, by simp [grow, Go.Sort.ahead]⟩

/-- What a call does to the world is draws and new blocks. -/
theorem below_grow {w w' : World} (h : Below w.heap.size w w') : ∃ q os, w' = grow (w.drewN q) os := by
  refine ⟨w'.drawn - w.drawn, w'.heap.extract w.heap.size w'.heap.size, ?_⟩
  have h1 := h.os; have h2 := h.tape; have h3 := h.output; have h4 := h.size; have h5 := h.block; have h6 := h.drawn
  obtain ⟨heap, tape, drawn, os, output⟩ := w
  obtain ⟨heap', tape', drawn', os', output'⟩ := w'
  simp only at h1 h2 h3 h4 h5 h6
  subst h1; subst h2; subst h3
  have hD : drawn' = drawn + (drawn' - drawn) := by omega
  suffices hH : heap' = heap ++ heap'.extract heap.size heap'.size by
    simp only [grow, World.drewN]
    rw [← hH, ← hD]
  apply Array.ext_getElem?
  intro i
  rcases Nat.lt_or_ge i heap.size with hi | hi
  · rw [Array.getElem?_append_left hi, h5 i hi]
  · rw [Array.getElem?_append_right hi, Array.getElem?_extract]
    rcases Nat.lt_or_ge i heap'.size with hj | hj
    · rw [if_pos (by omega)]; congr 1; omega
    · rw [if_neg (by omega), Array.getElem?_eq_none hj]

/-- The list in the order that a comparing function gives. -/
def sortL {α : Type} [Inhabited α] (cf : α → α → Int) (l : List α) : List α := (pdq (ltOf cf) l.toArray 0 l.length (Lib.bitLen l.length) true true).toList

theorem sortL_sorts {α : Type} [Inhabited α] {cf : α → α → Int} (hO : SWO (ltOf cf)) (l : List α) : (sortL cf l).Perm l ∧ (sortL cf l).length = l.length ∧ ∀ (i j : Nat) (hi : i < (sortL cf l).length) (hj : j < (sortL cf l).length), i < j → ¬ cf (sortL cf l)[j] (sortL cf l)[i] < 0 := by
  have h := pdq_sorts (ltOf cf) hO l.toArray 0 l.length (Lib.bitLen l.length) true true (Nat.zero_le _) (by simp) (Or.inl rfl)
  unfold sortL
  generalize pdq (ltOf cf) l.toArray 0 l.length (Lib.bitLen l.length) true true = d at h
  obtain ⟨⟨h1, _, h2⟩, h3⟩ := h
  have hs : d.size = l.length := by simpa using h1
  have e1 : (d.extract 0 l.length).toList = d.toList := by rw [← hs]; simp
  have e2 : (l.toArray.extract 0 l.length).toList = l := by simp
  rw [e1, e2] at h2
  refine ⟨h2, by simpa using hs, fun i j hi hj hij => ?_⟩
  have hj' : j < d.size := by simpa using hj
  have hi' : i < d.size := by simpa using hi
  have := h3 i j (Nat.zero_le _) hij (by omega)
  rw [getElem!_pos d i hi', getElem!_pos d j hj'] at this
  simpa [ltOf] using this

theorem sortF_ok {α : Type} [Inhabited α] (L : SlLaysF0.n6 P ρ) (k : Nat) (aE : ∀ w, (isAgg (ρ.t 24)).run P w = .ok true w) (zE : ∀ w, (Go.sizeOf (ρ.t 24)).run P w = .ok k w) (hcal : Callable P (ρ.f 6)) (hk0 : 0 < k)
    (pe : α → List PV) (hpk : ∀ x, (pe x).length = k) (hpf : ∀ x, ∀ c ∈ pe x, c.flatC = true) (cf : α → α → Int) (hO : SWO (ltOf cf)) {g : FuncId} (hcmp : ∀ x y, PureOK P g [.agg (pe x), .agg (pe y)] (.int .i64 (cf x y)))
    {d : DV} (hd : d = .func g [] ∨ d = .p (.func g [])) {l : List α} (hne : l ≠ []) (hlen : l.length ≤ maxBytes) {rest : List (List PV)} {id : Nat} {H : Heap} {nx : Nat} (hH : aget H id = some (.row false k (l.map pe ++ rest))) :
    ByrefOK P (ρ.f 6) [.ref id (l.length + rest.length) 0 l.length, d] H nx (.tuple []) (hset H id (.row false k ((sortL cf l).map pe ++ rest))) nx := by
  refine ⟨hcal, fun B w0 U0 β w vs m hvs hrep => ?_⟩
  have hv := hrep 0 _ rfl
  have hv2 := hrep 1 _ rfl
  have hvs1 : vs = #[vs.getD 0 undef, vs.getD 1 undef] := by
    apply Array.ext
    · simpa using hvs
    · intro i h1 h2
      have hi : i = 0 ∨ i = 1 := by simp at h2; omega
      rcases hi with rfl | rfl <;> simp [h1]
  rw [hvs1]
  generalize vs.getD 0 undef = v at hv
  generalize vs.getD 1 undef = u at hv2
  have hu : u = .func (.func g) #[] #[] := by
    rcases hd with rfl | rfl
    · cases hv2 with | func _ _ q hl _ => obtain rfl : q = #[] := Array.eq_empty_of_size_eq_zero (by simpa using hl); rfl
    · cases hv2 with | p _ _ hp => cases hp with | func _ _ q hl _ => obtain rfl : q = #[] := Array.eq_empty_of_size_eq_zero (by simpa using hl); rfl
  subst hu
  have hlm : (l.map pe ++ rest).length = l.length + rest.length := by simp
  have hpos : 0 < l.length := List.length_pos_iff.2 hne
  obtain ⟨hperm, hsl, _⟩ := sortL_sorts hO l
  cases hv with | ref _ _ _ _ _ hid hcell href =>
  have href := (href _ _ _ hH).2 hlm.symm (by rw [hlm]; omega)
  rcases href with ⟨hx, _, _⟩ | ⟨b, cap, a, hb, rfl, ha⟩
  · simp at hx; exact absurd hx.1 hne
  · obtain rfl := ha (.inl hpos)
    rcases m.h.blk id _ hH with ⟨hx0, hn⟩ | ⟨b', cap', arr, T, k1, k2, k3, k4, k5, k6, vs', k7, k8, k9⟩
    · simp at hx0; exact absurd hx0.1 hne
    · rw [hb] at k1; simp only [Option.some.injEq, Prod.mk.injEq] at k1; obtain ⟨rfl, rfl⟩ := k1
      have hel : ∀ i (hi : i < l.length) j (hj : j < k), arr[i * k + j]? = some (encC ((pe l[i])[j]'(by rw [hpk]; exact hj))) := by
        intro i hi j hj
        have hx : (l.map pe ++ rest)[i]? = some (pe l[i]) := by rw [List.getElem?_append_left (by simpa using hi)]; simp [hi]
        have hy : (pe l[i])[j]? = some ((pe l[i])[j]'(by rw [hpk]; exact hj)) := List.getElem?_eq_getElem _
        rw [k7 i _ j _ hx hy, flat_inv (hpf _ _ (List.getElem_mem _)) (k9 i _ j _ hx hy)]
      obtain ⟨enc, henc⟩ : ∃ enc : α → List Value, enc = fun x => (pe x).map encC := ⟨_, rfl⟩
      have hek : ∀ x, (enc x).length = k := fun x => by rw [henc]; simp [hpk]
      have he1 : ∀ x, ∀ v ∈ enc x, v.oneCell' = true := by
        intro x v hv
        rw [henc] at hv
        obtain ⟨c, hc, rfl⟩ := List.mem_map.1 hv
        exact flat_one (hpf _ _ hc)
      have hge : ∀ (q : List α) (t : Nat) (ht : t < q.length * k), (flatK enc k q.toArray)[t]! = encC ((pe (q[t / k]'(Nat.div_lt_of_lt_mul (by rwa [Nat.mul_comm] at ht))))[t % k]'(by rw [hpk]; exact Nat.mod_lt _ hk0)) := by
        intro q t ht
        have h1 : t / k < q.length := Nat.div_lt_of_lt_mul (by rwa [Nat.mul_comm] at ht)
        have h2 : t % k < k := Nat.mod_lt _ hk0
        rw [get_flatK _ _ _ _ (by simpa using ht), getElem!_pos q.toArray (t / k) (by simpa using h1), henc]
        simp only [List.getElem_toArray]
        rw [getElem!_pos _ (t % k) (by rw [List.length_map, hpk]; exact h2), List.getElem_map]
      have hHold : HoldsK enc k w b 0 l.toArray := by
        intro j hj
        simp only [size_flatK, List.size_toArray] at hj
        refine ⟨?_, free_of_heap k3⟩
        rw [Nat.zero_add]
        refine cell_of_heap k3 ?_
        have h1 : j / k < l.length := Nat.div_lt_of_lt_mul (by rwa [Nat.mul_comm] at hj)
        have h2 : j % k < k := Nat.mod_lt _ hk0
        have := hel (j / k) h1 (j % k) h2
        rw [Nat.mul_comm, Nat.div_add_mod] at this
        rw [this, show _root_.id (flatK enc k l.toArray)[j]! = (flatK enc k l.toArray)[j]! from rfl, hge l j hj]
      have eg : ∀ args w, (callFunc g args).run P w = .ok (.enter g args) w := fun args w => callable_run (hcmp l[0] l[0]).1 args
      have hcl : CmpLays P g #[] enc k cf b 0 l.toArray.size w := by
        intro q os dk hs x y
        have ha : #[Value.agg (enc x).toArray, Value.agg (enc y).toArray] ++ #[] = #[Value.agg (enc x).toArray, Value.agg (enc y).toArray] := by simp
        rw [ha]
        have hag : ∀ z (W : World), PRep W (fun _ => False) (.agg (pe z)) (.agg (enc z).toArray) := by
          intro z W
          refine .agg _ _ (by rw [henc]; simp) (fun j y hy => ?_) (fun j y hy => ?_)
          · have hj := lt_of_get? hy
            rw [Array.getD_eq_getD_getElem?, List.getElem?_toArray, henc, List.getElem?_map, hy]
            exact flat_one (hpf _ _ (List.mem_of_getElem? hy))
          · rw [Array.getD_eq_getD_getElem?, List.getElem?_toArray, henc, List.getElem?_map, hy]
            exact flat_rep (hpf _ _ (List.mem_of_getElem? hy)) _ _
        refine ((hcmp x y).2 (fun _ => False) (sortWorldK enc k w b 0 q dk os) #[Value.agg (enc x).toArray, Value.agg (enc y).toArray] (fun _ h => h.elim) rfl (fun j p hj => ?_)).mono ?_
        · match j, hj with
          | 0, hj => simp at hj; subst hj; exact hag x _
          | 1, hj => simp at hj; subst hj; exact hag y _
          | j + 2, hj => simp at hj
        · rintro e w' ⟨v, rfl, hp, hbl⟩
          cases hp
          exact ⟨rfl, below_grow hbl⟩
      have hcon := AnyQ.slices_SortFunc_eq L k aE zE enc hek he1 cf hO g #[] b 0 cap l.toArray w eg hcl hHold (lt_of_heap k3) (by simp only [List.size_toArray]; unfold maxBytes at hlen; omega)
      simp only [List.size_toArray] at hcon
      simp only [Nat.zero_mul, Nat.sub_zero]
      refine hcon.mono ?_
      rintro e w' ⟨rfl, n, os, rfl⟩
      have hsA : (pdq (ltOf cf) l.toArray 0 l.length (Lib.bitLen l.length) true true) = (sortL cf l).toArray := by unfold sortL; simp
      rw [hsA]
      have e1 : sortWorldK enc k w b 0 n (sortL cf l).toArray os = grow (Go.Sort.ahead (setArr w b (putCells _root_.id 0 (flatK enc k (sortL cf l).toArray) arr) T (0, 0)) n) os := by
        unfold sortWorldK putRowK
        rw [putRow_ahead, putRow, mapBlock_setArr' k3]
      rw [e1]
      have hget : ∀ i (hi : i < (sortL cf l).length) j (hj : j < k), (putCells _root_.id 0 (flatK enc k (sortL cf l).toArray) arr)[i * k + j]? = some (encC ((pe (sortL cf l)[i])[j]'(by rw [hpk]; exact hj))) := by
        intro i hi j hj
        have hlt : i * k + j < (sortL cf l).length * k := by
          have : (i + 1) * k ≤ (sortL cf l).length * k := Nat.mul_le_mul_right _ hi
          rw [Nat.add_mul, Nat.one_mul] at this; omega
        have hia : i * k + j < arr.size := by
          rw [k4]
          have : (sortL cf l).length * k ≤ cap * k := Nat.mul_le_mul_right _ (by rw [hsl]; rw [hlm] at k5; omega)
          omega
        have d1 : (i * k + j) / k = i := by rw [Nat.mul_comm, Nat.mul_add_div hk0, Nat.div_eq_of_lt hj, Nat.add_zero]
        have d2 : (i * k + j) % k = j := by rw [Nat.mul_comm, Nat.mul_add_mod, Nat.mod_eq_of_lt hj]
        simp only [putCells, Array.getElem?_mapIdx, Array.getElem?_eq_getElem hia, Option.map_some, size_flatK, List.size_toArray, Nat.zero_le, true_and, Nat.zero_add, hlt, if_true, Nat.sub_zero]
        rw [show _root_.id (flatK enc k (sortL cf l).toArray)[i * k + j]! = (flatK enc k (sortL cf l).toArray)[i * k + j]! from rfl, hge _ _ hlt]
        simp only [d1, d2]
      have gd : ∀ i c, (sortL cf l)[i]? = some c → (sortL cf l).getD i default = c := by
        intro i c h
        rw [List.getD_eq_getElem?_getD, h]; rfl
      have gp : ∀ (x : List PV) (j : Nat) y, x[j]? = some y → x.getD j .undef = y := by
        intro x j y h
        rw [List.getD_eq_getElem?_getD, h]; rfl
      have hold : ∀ t, (sortL cf l).length * k ≤ t → (putCells _root_.id 0 (flatK enc k (sortL cf l).toArray) arr)[t]? = arr[t]? := by
        intro t ht
        simp only [putCells, Array.getElem?_mapIdx, size_flatK, List.size_toArray, Nat.zero_le, true_and, Nat.zero_add]
        have : ¬ t < (sortL cf l).length * k := by omega
        simp only [this, if_false]
        cases arr[t]? <;> rfl
      have behind : ∀ (i : Nat) (x : List PV), ¬ i < l.length → ((sortL cf l).map pe ++ rest)[i]? = some x → (l.map pe ++ rest)[i]? = some x := by
        intro i x hi hx
        rw [List.getElem?_append_right (by rw [List.length_map, hsl]; omega)] at hx
        rw [List.getElem?_append_right (by rw [List.length_map]; omega)]
        rw [List.length_map, hsl] at hx
        rw [List.length_map]; exact hx
      have front : ∀ (i : Nat) (x : List PV), i < l.length → ((sortL cf l).map pe ++ rest)[i]? = some x → ((sortL cf l).map pe)[i]? = some x := by
        intro i x hi hx
        rwa [List.getElem?_append_left (by rw [List.length_map, hsl]; exact hi)] at hx
      have hg : Good B w0 U0 H nx β w (.tuple []) (hset H id (.row false k ((sortL cf l).map pe ++ rest))) nx (.tuple #[]) (setArr w b (putCells _root_.id 0 (flatK enc k (sortL cf l).toArray) arr) T (0, 0)) := by
        refine row_written m hH hb k2 k3 (by simp [putCells, k4]) (by rw [hlm] at k5; simp only [List.length_append, List.length_map, hsl]; omega) (by simp [hsl]) (fun i j => if i < l.length then encC (((pe ((sortL cf l).getD i default)).getD j .undef)) else vs' i j) ⟨?_, ?_, ?_⟩ ?_ _ _ (fun _ _ _ _ => DRep.undef)
        · intro i x j y hx hy
          by_cases hi : i < l.length
          · rw [if_pos hi]
            have hx := front i x hi hx
            rw [List.getElem?_map] at hx
            cases hc : (sortL cf l)[i]? with
            | none => rw [hc] at hx; cases hx
            | some c =>
              rw [hc] at hx; simp only [Option.map_some, Option.some.injEq] at hx; subst hx
              rw [gd _ _ hc, gp _ _ _ hy]
              exact flat_one (hpf _ _ (List.mem_of_getElem? hy))
          · rw [if_neg hi]
            exact k8 i x j y (behind i x hi hx) hy
        · intro i x j y hx hy
          by_cases hi : i < l.length
          · rw [if_pos hi]
            have hx := front i x hi hx
            rw [List.getElem?_map] at hx
            cases hc : (sortL cf l)[i]? with
            | none => rw [hc] at hx; cases hx
            | some c =>
              rw [hc] at hx; simp only [Option.map_some, Option.some.injEq] at hx; subst hx
              rw [gd _ _ hc, gp _ _ _ hy]
              exact flat_rep (hpf _ _ (List.mem_of_getElem? hy)) _ _
          · rw [if_neg hi]
            exact k9 i x j y (behind i x hi hx) hy
        · intro x hx
          rcases List.mem_append.1 hx with hx | hx
          · obtain ⟨c, _, rfl⟩ := List.mem_map.1 hx
            exact hpk c
          · exact k6 x (List.mem_append_right _ hx)
        · intro i x j y hx hy
          by_cases hi : i < l.length
          · rw [if_pos hi]
            have hx := front i x hi hx
            have hi' : i < (sortL cf l).length := by rw [hsl]; exact hi
            rw [List.getElem?_map, List.getElem?_eq_getElem hi'] at hx
            simp only [Option.map_some, Option.some.injEq] at hx; subst hx
            have hj := lt_of_get? hy
            rw [hpk] at hj
            rw [hget i hi' j hj, gd _ _ (List.getElem?_eq_getElem hi'), gp _ _ _ (List.getElem?_eq_getElem (by rw [hpk]; exact hj))]
          · rw [if_neg hi]
            have hxs := behind i x hi hx
            rw [hold _ (by
              have : (sortL cf l).length * k ≤ i * k := Nat.mul_le_mul_right _ (by rw [hsl]; omega)
              omega)]
            exact k7 i x j y hxs hy
      obtain ⟨β', m1, kp, ev, dr⟩ := hg
      obtain ⟨m2, kp2⟩ := m1.call (below_grow_ahead' _ n os)
      exact ⟨_, rfl, β', m2, kp.trans kp2, ev, DRep.undef⟩

/-- slices.SortFunc, function F, at the first elements of a row: 'dec' reads a row's element, 'cs' gives the comparing functions. -/
def sortFX {α : Type} [Inhabited α] (F : FuncId) (k : Nat) (pe : α → List PV) (dec : List PV → Option α) (cs : FuncId → Option (α → α → Int)) : CallF where
  pure := fun _ _ => none
  byref := fun f args H nx => if f = F then match args with
      | [.ref id ver off n, d] => match aget H id with
        | some (.row false sz xs) => match mapO dec (xs.take n) with
          | some l => match (match d with | .func g [] => cs g | .p (.func g []) => cs g | _ => none) with
            | some cf => if ver = xs.length ∧ off = 0 ∧ n ≤ xs.length ∧ sz = k ∧ l.isEmpty = false ∧ l.length ≤ maxBytes then some (.tuple [], hset H id (.row false k ((sortL cf l).map pe ++ xs.drop n)), nx) else none
            | none => none
          | none => none
        | _ => none
      | _ => none
    else none

theorem dec_map {α : Type} {pe : α → List PV} {dec : List PV → Option α} (hdec : ∀ x a, dec x = some a → x = pe a) : ∀ {xs : List (List PV)} {l : List α}, mapO dec xs = some l → xs = l.map pe
  | [], l, h => by simp [mapO] at h; subst h; rfl
  | x :: xs, l, h => by
    simp only [mapO] at h
    cases hx : dec x with
    | none => rw [hx] at h; cases h
    | some a =>
      rw [hx] at h
      simp only at h
      cases hm : mapO dec xs with
      | none => rw [hm] at h; cases h
      | some r =>
        rw [hm] at h
        simp only [Option.some.injEq] at h; subst h
        rw [List.map_cons, ← dec_map hdec hm, hdec x a hx]

theorem sortFX_ok {α : Type} [Inhabited α] (L : SlLaysF0.n6 P ρ) {k : Nat} (aE : ∀ w, (isAgg (ρ.t 24)).run P w = .ok true w) (zE : ∀ w, (Go.sizeOf (ρ.t 24)).run P w = .ok k w) {F : FuncId} (hF : ρ.f 6 = F) (hcal : Callable P F) (hk0 : 0 < k)
    {pe : α → List PV} (hpk : ∀ x, (pe x).length = k) (hpf : ∀ x, ∀ c ∈ pe x, c.flatC = true) {dec : List PV → Option α} (hdec : ∀ x a, dec x = some a → x = pe a) {cs : FuncId → Option (α → α → Int)}
    (hcs : ∀ g cf, cs g = some cf → SWO (ltOf cf) ∧ ∀ x y, PureOK P g [.agg (pe x), .agg (pe y)] (.int .i64 (cf x y))) : CallsOK P (sortFX F k pe dec cs) := by
  refine ⟨fun f args r h => (by cases h), fun f args H nx r H' nx' h => ?_⟩
  simp only [sortFX] at h
  split at h
  · rename_i e; subst e
    split at h
    · rename_i id ver off n d
      split at h
      · rename_i sz xs hH
        split at h
        · rename_i l hl
          split at h
          · rename_i cf hcf
            split at h
            · rename_i hc
              cases h
              obtain ⟨rfl, rfl, h1, rfl, h2, h3⟩ := hc
              have hxs : xs = l.map pe ++ xs.drop n := by rw [← dec_map hdec hl, List.take_append_drop]
              have hnl : l.length = n := by
                have := (mapO_some hl).1
                rw [List.length_take] at this
                omega
              have hvl : xs.length = l.length + (xs.drop n).length := by rw [List.length_drop]; omega
              generalize xs.drop n = rest at hxs hvl
              rw [hvl]
              rw [hxs] at hH
              have hd : ∃ g, cs g = some cf ∧ (d = .func g [] ∨ d = .p (.func g [])) := by
                split at hcf
                · exact ⟨_, hcf, .inl rfl⟩
                · exact ⟨_, hcf, .inr rfl⟩
                · cases hcf
              obtain ⟨g, hg, hd⟩ := hd
              obtain ⟨hO, hcmp⟩ := hcs g cf hg
              subst hF
              rw [← hnl]
              exact sortF_ok L _ aE zE hcal hk0 pe hpk hpf cf hO hcmp hd (by intro e; rw [e] at h2; simp at h2) h3 hH
            · cases h
          · cases h
        · cases h
      · cases h
    · cases h
  · cases h

end
end Go.Dv
