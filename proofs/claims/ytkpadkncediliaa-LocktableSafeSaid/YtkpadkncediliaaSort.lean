/-
  slices.Sort of strings and slices.Grow of a nil slice in a call's own memory: the shelf's contracts, as contracts at the data level; contracts put together.
-/
import Derived.Test.YtkpadkncediliaaStr
import Derived.Shelf.Sort.Plain
import Derived.Shelf.Slices.In.SortNone
import Derived.Shelf.Spec.SlicesGrow
set_option linter.unusedVariables false
set_option linter.unusedSimpArgs false
namespace Go.Dv
open Go.RowKit Go.Shelf Go.Sort Go.Proofs

section
variable {P : Program}

theorem mapBlock_setArr {w : World} {b : Nat} {arr : Array Value} {T : TypeId} {fz : Nat × Nat} (hb : w.heap[b]? = some (.cells arr T fz)) (f : Array Value → Array Value) : mapBlock w b f = setArr w b (f arr) T fz := by
  have hlt := lt_of_heap hb
  simp only [mapBlock, setArr]
  congr 1
  apply Array.ext_getElem?
  intro i
  rw [Array.getElem?_modify]
  by_cases h : b = i
  · subst h; rw [hb]; simp [hlt, onCells]
  · simp [h]

theorem below_grow_ahead (w : World) (n : Nat) (os : Array Obj) : Below w.heap.size w (grow (Go.Sort.ahead w n) os) :=
  ⟨⟨rfl, rfl, rfl, by simp [grow, Go.Sort.ahead], fun k hk => by simp [grow, Go.Sort.ahead, Array.getElem?_append, hk]⟩, by simp [grow, Go.Sort.ahead]⟩

/-- A function that puts a row in another order (or in other values), and draws and grows besides. -/
theorem reorder_ok {α : Type} [Inhabited α] {f : FuncId} (hcal : Callable P f) (enc : α → Value) (pe : α → PV) (henc : ∀ (w : World) (U : Nat → Prop) (x : α), PRep w U (pe x) (enc x)) (hone : ∀ x, (enc x).oneCell' = true)
    (hinv : ∀ (w : World) (U : Nat → Prop) (x : α) (v : Value), PRep w U (pe x) v → v = enc x)
    (l l' : List α) (hl : l'.length = l.length)
    (h0 : l = [] → ∀ (p : Option Addr) (cap : Nat) (w : World), Calls P f #[.slice p 0 cap] w fun e w' => e = .returned (.tuple #[]) ∧ w' = w)
    (h1 : l ≠ [] → ∀ (b cap : Nat) (w : World), Holds enc w b 0 l.toArray → b < w.heap.size → Calls P f #[.slice (some ⟨b, 0, none⟩) l.length cap] w fun e w' => e = .returned (.tuple #[]) ∧ ∃ n os, w' = grow (putRow enc (Go.Sort.ahead w n) b 0 l'.toArray) os)
    {id : Nat} {H : Heap} {nx : Nat} (hH : aget H id = some (.row false 1 (l.map fun s => [pe s]))) :
    ByrefOK P f [.ref id l.length 0 l.length] H nx (.tuple []) (hset H id (.row false 1 (l'.map fun s => [pe s]))) nx := by
  refine ⟨hcal, fun B w0 U0 β w vs m hvs hrep => ?_⟩
  have hv := hrep 0 _ rfl
  have hvs1 : vs = #[vs.getD 0 undef] := by
    apply Array.ext
    · simpa using hvs
    · intro i h1 h2
      have hi : i = 0 := by simp at h2; omega
      subst hi
      simp [h1]
  rw [hvs1]
  generalize vs.getD 0 undef = v at hv
  have hlen : (l.map fun s => [pe s]).length = l.length := by simp
  cases hv with | ref _ _ _ _ _ hid hcell href =>
  have href := (href _ _ _ hH).2 hlen.symm (by rw [hlen]; omega)
  by_cases hl0 : l = []
  · have hl'0 : l' = [] := List.eq_nil_of_length_eq_zero (by rw [hl, hl0]; rfl)
    have hav : ∃ p c, v = .slice p 0 c := by
      rcases href with ⟨_, _, a, rfl⟩ | ⟨b, cap, a, _, rfl, _⟩
      · exact ⟨_, _, rfl⟩
      · subst hl0; exact ⟨_, _, rfl⟩
    obtain ⟨p, c, rfl⟩ := hav
    refine (h0 hl0 p c w).mono ?_
    rintro e w' ⟨rfl, rfl⟩
    refine ⟨_, rfl, good_less m ?_ DRep.undef⟩
    subst hl0; subst hl'0
    exact less_same hH
  · have hpos : 0 < l.length := List.length_pos_iff.2 hl0
    rcases href with ⟨hx, _, _⟩ | ⟨b, cap, a, hb, rfl, ha⟩
    · simp at hx; exact absurd hx hl0
    · obtain rfl := ha (.inl hpos)
      rcases m.h.blk id _ hH with ⟨hx0, hn⟩ | ⟨b', cap', arr, T, k1, k2, k3, k4, k5, k6, vs, k7, k8, k9⟩
      · simp at hx0; exact absurd hx0 hl0
      · rw [hb] at k1; simp only [Option.some.injEq, Prod.mk.injEq] at k1; obtain ⟨rfl, rfl⟩ := k1
        have hel : ∀ i (hi : i < l.length), arr[i]? = some (enc l[i]) := by
          intro i hi
          have hx : (l.map fun s => [pe s])[i]? = some [pe l[i]] := by simp [hi]
          have e1 := k7 i _ 0 _ hx rfl
          have e2 := hinv _ _ _ _ (k9 i _ 0 _ hx rfl)
          rw [e2] at e1
          simpa using e1
        have hHold : Holds enc w b 0 l.toArray := by
          intro j hj
          simp only [List.size_toArray] at hj
          refine ⟨?_, free_of_heap k3⟩
          rw [Nat.zero_add]
          refine cell_of_heap k3 ?_
          rw [hel j hj]
          simp [getElem!_pos, hj]
        simp only [Nat.zero_mul, Nat.sub_zero]
        refine (h1 hl0 b cap w hHold (lt_of_heap k3)).mono ?_
        rintro e w' ⟨rfl, n, os, rfl⟩
        have e1 : putRow enc (Go.Sort.ahead w n) b 0 l'.toArray = Go.Sort.ahead (setArr w b (putCells enc 0 l'.toArray arr) T (0, 0)) n := by
          rw [putRow_ahead, putRow, mapBlock_setArr k3]
        rw [e1]
        have hget : ∀ i (hi : i < l'.length), (putCells enc 0 l'.toArray arr)[i]? = some (enc l'[i]) := by
          intro i hi
          have hia : i < arr.size := by rw [k4]; simp only [List.length_map] at k5; omega
          have hi' : i < l'.toArray.size := by simpa using hi
          simp [putCells, Array.getElem?_mapIdx, hia, hi, getElem!_pos]
        have hg : Good B w0 U0 H nx β w (.tuple []) (hset H id (.row false 1 (l'.map fun s => [pe s]))) nx (.tuple #[]) (setArr w b (putCells enc 0 l'.toArray arr) T (0, 0)) := by
          refine row_written m hH hb k2 k3 (by simp [putCells, k4]) (by simp only [List.length_map] at k5 ⊢; omega) (by simp [hl]) (fun i _ => enc (l'.getD i default)) ⟨?_, ?_, ?_⟩ ?_ _ _ (fun _ _ _ _ => DRep.undef)
          · intro i x j y hx hy
            exact hone _
          · intro i x j y hx hy
            rw [List.getElem?_map] at hx
            cases hc : l'[i]? with
            | none => rw [hc] at hx; cases hx
            | some c =>
              rw [hc] at hx; simp only [Option.map_some, Option.some.injEq] at hx; subst hx
              have hj : j = 0 := by have := lt_of_get? hy; simpa using this
              subst hj
              simp only [List.getElem?_cons_zero, Option.some.injEq] at hy; subst hy
              rw [List.getD_eq_getElem?_getD, hc]
              exact henc _ _ _
          · intro x hx
            obtain ⟨c, _, rfl⟩ := List.mem_map.1 hx
            rfl
          · intro i x j y hx hy
            have hi := lt_of_get? hx
            simp only [List.length_map] at hi
            rw [List.getElem?_map] at hx
            cases hc : l'[i]? with
            | none => rw [hc] at hx; cases hx
            | some c =>
              rw [hc] at hx; simp only [Option.map_some, Option.some.injEq] at hx; subst hx
              have hj : j = 0 := by have := lt_of_get? hy; simpa using this
              subst hj
              rw [Nat.mul_one, Nat.add_zero, hget i hi, List.getD_eq_getElem?_getD]
              simp [hi]
        obtain ⟨β', m1, kp, ev, dr⟩ := hg
        obtain ⟨m2, kp2⟩ := m1.call (below_grow_ahead _ n os)
        exact ⟨_, rfl, β', m2, kp.trans kp2, ev, DRep.undef⟩

theorem callable_of {f : FuncId} {fn : Func} (h : P.funcs[f]? = some fn) (h1 : (fn.name == "runtime.NumGoroutine") = false) (h2 : fn.body.isNone = false) : Callable P f := ⟨fn, h, h1, h2⟩

theorem sortBytes_ok {ρ : Ren} (L : Lays.n190 P ρ) (hcal : Callable P (ρ.f 190)) (ss : List (List UInt8)) (hlen : ss.length < 4611686018427387904) {id : Nat} {H : Heap} {nx : Nat} (hH : aget H id = some (.row false 1 (ss.map fun x => [PV.str ⟨x.toArray⟩]))) :
    ByrefOK P (ρ.f 190) [.ref id ss.length 0 ss.length] H nx (.tuple []) (hset H id (.row false 1 ((ss.mergeSort fun x y => decide (x ≤ y)).map fun x => [PV.str ⟨x.toArray⟩]))) nx := by
  have h1 : ∀ (b cap : Nat) (w : World), Holds encStr w b 0 ss.toArray → b < w.heap.size → Calls P (ρ.f 190) #[.slice (some ⟨b, 0, none⟩) ss.length cap] w fun e w' => e = .returned (.tuple #[]) ∧ ∃ n os, w' = grow (putRow encStr (Go.Sort.ahead w n) b 0 (ss.mergeSort fun x y => decide (x ≤ y)).toArray) os :=
    fun b cap w hh hb => Any.slices_Sort_string L b 0 cap ss w hh hb hlen
  have hl : (ss.mergeSort fun x y => decide (x ≤ y)).length = ss.length := by simp
  generalize (ss.mergeSort fun x y => decide (x ≤ y)) = l' at h1 hl ⊢
  exact reorder_ok (P := P) (f := ρ.f 190) hcal encStr (fun x => PV.str ⟨x.toArray⟩) (fun w U x => .str _) (fun x => rfl) (fun w U x v h => by cases h; rfl)
    ss l' hl (fun hl0 p cap w => Any.slices_Sort_string_none L p cap w) (fun _ => h1) hH

theorem callS {ρ : Ren} (L : Lays.n190 P ρ) : Callable P (ρ.f 190) := callable_of (f := ρ.f 190) (fn := Body.n190 ρ) L.f190 (by kernel_rfl) (by kernel_rfl)

theorem sortStr_ok {ρ : Ren} (L : Lays.n190 P ρ) {l : List ByteArray} (hlen : l.length ≤ maxBytes) {id : Nat} {H : Heap} {nx : Nat} (hH : aget H id = some (.row false 1 (strRow l))) :
    ByrefOK P (ρ.f 190) [.ref id l.length 0 l.length] H nx (.tuple []) (hset H id (.row false 1 (strRow (sortStr l)))) nx := by
  have e1 : (l.map fun s => s.data.toList).map (fun x => [PV.str ⟨x.toArray⟩]) = strRow l := by
    simp [strRow, Function.comp_def]
  have e2 : ((l.map fun s => s.data.toList).mergeSort fun x y => decide (x ≤ y)).map (fun x => [PV.str ⟨x.toArray⟩]) = strRow (sortStr l) := by
    rw [← merge_sort]; simp [strRow, Function.comp_def]
  have key := sortBytes_ok L (callS L) (l.map fun s => s.data.toList) (by simp only [maxBytes] at hlen; rw [List.length_map]; omega) (id := id) (H := H) (nx := nx)
  rw [e1, e2, List.length_map] at key
  exact key hH

/-- Nothing to put in order. -/
theorem sortStr_nil {ρ : Ren} (L : Lays.n190 P ρ) {full : Bool} {H : Heap} {nx : Nat} : ByrefOK P (ρ.f 190) [.p (.slice full [])] H nx (.tuple []) H nx := by
  refine ⟨callS L, fun B w0 U0 β w vs m hvs hrep => ?_⟩
  have hv := hrep 0 _ rfl
  have hvs1 : vs = #[vs.getD 0 undef] := by
    apply Array.ext
    · simpa using hvs
    · intro i h1 h2
      have hi : i = 0 := by simp at h2; omega
      subst hi
      simp [h1]
  rw [hvs1]
  generalize vs.getD 0 undef = v at hv
  cases hv with | p _ _ hp =>
  obtain ⟨p, c, rfl, _, _⟩ := hp.slice_val
  refine (Any.slices_Sort_string_none L p c w).mono ?_
  rintro e w' ⟨rfl, rfl⟩
  exact ⟨_, rfl, good_same m DRep.undef⟩

/-! ### slices.Grow of a nil slice -/

theorem growNil_ok {ρ : Ren} (L : Lays8.n4 P ρ) (hcal : Callable P (ρ.f 4)) {sz bytes : Nat} (hinfo : ∃ i z, P.info? (ρ.t 25) = some i ∧ i.zero = some z ∧ i.size = sz ∧ i.bytes = bytes ∧ z.cells.size = sz) (hsz : 0 < sz)
    {n : Nat} (hb : n * bytes ≤ maxBytes) (hn : n ≤ maxBytes) {H : Heap} {nx : Nat} :
    ByrefOK P (ρ.f 4) [.p (.slice true []), .p (.int .i64 n)] H nx (.ref nx 0 0 0) ((nx, .row false sz []) :: H) (nx + 1) := by
  refine ⟨hcal, fun B w0 U0 β w vs m hvs hrep => ?_⟩
  have hv := hrep 0 _ rfl
  have hv1 := (hrep 1 _ rfl).int_inv
  have hvs1 : vs = #[vs.getD 0 undef, vs.getD 1 undef] := by
    apply Array.ext
    · simpa using hvs
    · intro i h1 h2
      have hi : i = 0 ∨ i = 1 := by simp at h2; omega
      rcases hi with rfl | rfl <;> simp [h1]
  rw [hvs1, hv1]
  generalize vs.getD 0 undef = v at hv
  obtain ⟨i, z, hi, hz, rfl, rfl, hzs⟩ := hinfo
  cases hv with | p _ _ hp =>
  have hvv : ∃ a, v = .slice a 0 0 := by
    cases hp with
    | none _ a c h => exact ⟨a, by rw [h rfl]⟩
    | slice _ _ b off c sz arr T fz vs hne => simp at hne
  obtain ⟨a, rfl⟩ := hvv
  simp only [maxBytes] at hb hn
  rcases Nat.eq_zero_or_pos n with rfl | hpos
  · refine (Any8.slices_Grow_room L a 0 0 0 w (Nat.le_refl _) (by omega) (by omega) (by omega)).mono ?_
    rintro e w' ⟨rfl, rfl⟩
    exact ⟨_, rfl, new_row_nil m i.size a⟩
  · refine (Any8.slices_Grow_grow L i z hi hz hsz a 0 0 n [] w (Nat.le_refl _) (by omega) (by rw [Nat.zero_add]; exact hb) (by omega) (by simp) (fun _ => rfl) (fun _ _ j v h => by simp at h)).mono ?_
    rintro e w' ⟨rfl, rfl⟩
    have hcap := grownCap_ge w (0 + n) 0 (ρ.t 25)
    refine ⟨_, rfl, ?_⟩
    have hg := new_row m i.size [] (fun _ _ => undef) (#[] ++ Builtin.zeroCells z.cells (0 + n - 0) ++ Builtin.zeroCells z.cells (grownCap w (0 + n) 0 (ρ.t 25) - (0 + n))) (grownCap w (0 + n) 0 (ρ.t 25)) (ρ.t 25) w.drew rfl (below_drew B w)
      (by
        simp only [Array.size_append, Builtin.zeroCells, Array.size_map, Array.size_range, hzs, List.size_toArray, List.length_nil]
        generalize grownCap w (0 + n) 0 (ρ.t 25) = g at hcap ⊢
        simp only [Nat.zero_add, Nat.sub_zero] at hcap ⊢
        rw [← Nat.add_mul]; congr 1; omega) (by simp) ⟨by simp, by simp, by simp⟩ (by simp)
    exact hg

/-! ### contracts put together -/

def CallF.or (a b : CallF) : CallF where
  pure := fun f args => match a.pure f args with
    | some r => some r
    | none => b.pure f args
  byref := fun f args H nx => match a.byref f args H nx with
    | some r => some r
    | none => b.byref f args H nx

theorem CallsOK.or {a b : CallF} (ha : CallsOK P a) (hb : CallsOK P b) : CallsOK P (a.or b) := by
  refine ⟨fun f args r h => ?_, fun f args H nx r H' nx' h => ?_⟩
  · simp only [CallF.or] at h
    cases h0 : a.pure f args with
    | none => rw [h0] at h; exact hb.pure _ _ _ h
    | some q => rw [h0] at h; cases h; exact ha.pure _ _ _ h0
  · simp only [CallF.or] at h
    cases h0 : a.byref f args H nx with
    | none => rw [h0] at h; exact hb.byref _ _ _ _ _ _ _ h
    | some q => rw [h0] at h; cases h; exact ha.byref _ _ _ _ _ _ _ h0

/-- slices.Sort of strings, function F. -/
def sortStrX (F : FuncId) : CallF where
  pure := fun _ _ => none
  byref := fun f args H nx => if f = F then match args with
      | [.ref id ver 0 n] => match aget H id with
        | some (.row false 1 xs) => match strsOf xs with
          | some l => if ver = l.length ∧ n = l.length ∧ l.length ≤ maxBytes then some (.tuple [], hset H id (.row false 1 (strRow (sortStr l))), nx) else none
          | none => none
        | _ => none
      | [.p (.slice _ [])] => some (.tuple [], H, nx)
      | _ => none
    else none

theorem sortStrX_ok {ρ : Ren} (L : Lays.n190 P ρ) {F : FuncId} (hF : ρ.f 190 = F) : CallsOK P (sortStrX F) := by
  refine ⟨fun f args r h => (by cases h), fun f args H nx r H' nx' h => ?_⟩
  simp only [sortStrX] at h
  split at h
  · rename_i e; subst e
    split at h
    · rename_i id ver n
      split at h
      · rename_i xs hH
        split at h
        · rename_i l hl
          split at h
          · rename_i hc
            cases h
            obtain ⟨rfl, rfl, hm⟩ := hc
            rw [strsOf_some hl] at hH
            rw [← hF]
            exact sortStr_ok L hm hH
          · cases h
        · cases h
      · cases h
    · cases h
      rw [← hF]
      exact sortStr_nil L
    · cases h
  · cases h

/-- slices.Grow of a nil slice, function F. -/
def growX (F : FuncId) (sz bytes : Nat) : CallF where
  pure := fun _ _ => none
  byref := fun f args H nx => if f = F then match args with
      | [.p (.slice true []), .p (.int .i64 n)] => if 0 ≤ n ∧ n.toNat * bytes ≤ maxBytes ∧ n.toNat ≤ maxBytes then some (.ref nx 0 0 0, (nx, .row false sz []) :: H, nx + 1) else none
      | _ => none
    else none

theorem growX_ok {ρ : Ren} (L : Lays8.n4 P ρ) {F : FuncId} (hF : ρ.f 4 = F) (hcal : Callable P F) {sz bytes : Nat} (hinfo : ∃ i z, P.info? (ρ.t 25) = some i ∧ i.zero = some z ∧ i.size = sz ∧ i.bytes = bytes ∧ z.cells.size = sz) (hsz : 0 < sz) : CallsOK P (growX F sz bytes) := by
  refine ⟨fun f args r h => (by cases h), fun f args H nx r H' nx' h => ?_⟩
  simp only [growX] at h
  split at h
  · rename_i e; subst e
    split at h
    · rename_i n
      split at h
      · rename_i hc
        cases h
        obtain ⟨h0, h1, h2⟩ := hc
        have e : n = (n.toNat : Int) := by omega
        rw [e]
        subst hF
        exact growNil_ok L hcal hinfo hsz h1 h2
      · cases h
    · cases h
  · cases h

end
end Go.Dv
