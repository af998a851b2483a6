/-
  slices.Insert in a call's own memory, at elements of any number of cells: the library's own text walked, a contract at the data level.
-/
import Derived.Test.YtkpadkncediliaaLib
import Derived.Shelf.Spec.SlicesInsertGrow
import Derived.Shelf.SlGeneric
set_option linter.unusedVariables false
set_option linter.unusedSimpArgs false
namespace Go.Dv
open Go.RowKit Go.Shelf Go.Proofs Go.Lib

theorem callable_of' {P : Program} {f : FuncId} {fn : Func} (h : P.funcs[f]? = some fn) (h1 : (fn.name == "runtime.NumGoroutine") = false) (h2 : fn.body.isNone = false) : Callable P f := ⟨fn, h, h1, h2⟩

/-- What slices.Insert's text asks of a program: elements of k cells, of 'bytes' bytes. -/
structure InsL (P : Program) (ρ : Ren) (k bytes : Nat) : Prop where
  mixed : P.follows .mixedOrders = true
  f22 : Bears P (ρ.f 22) (Body2.n22 ρ)
  ov : ∀ (w : World) (a b : Value), (Extern.SlicesOverlaps.overlaps #[ρ.t 24, ρ.t 24] #[ρ.t 4] #[a, b]).run P w = .ok (.bool false) w → (callFunc (ρ.f 29) #[a, b]).run P w = .ok (.value (.bool false)) w
  t0 : P.underlying (ρ.t 0) = some (TypeDesc.tuple #[])
  a0 : ∀ w, (isAgg (ρ.t 0)).run P w = .ok false w
  z0 : ∀ w, (Go.sizeOf (ρ.t 0)).run P w = .ok 1 w
  v0 : ∀ w, (zeroValue (ρ.t 0)).run P w = .ok (Value.tuple #[]) w
  t3 : P.underlying (ρ.t 3) = some (TypeDesc.int IntKind.i64)
  a3 : ∀ w, (isAgg (ρ.t 3)).run P w = .ok false w
  z3 : ∀ w, (Go.sizeOf (ρ.t 3)).run P w = .ok 1 w
  v3 : ∀ w, (zeroValue (ρ.t 3)).run P w = .ok (Value.int IntKind.i64 0) w
  t4 : P.underlying (ρ.t 4) = some (TypeDesc.bool)
  a4 : ∀ w, (isAgg (ρ.t 4)).run P w = .ok false w
  z4 : ∀ w, (Go.sizeOf (ρ.t 4)).run P w = .ok 1 w
  v4 : ∀ w, (zeroValue (ρ.t 4)).run P w = .ok (Value.bool false) w
  t24 : P.underlying (ρ.t 24) = some (TypeDesc.slice (ρ.t 9))
  a24 : ∀ w, (isAgg (ρ.t 24)).run P w = .ok false w
  z24 : ∀ w, (Go.sizeOf (ρ.t 24)).run P w = .ok 1 w
  v24 : ∀ w, (zeroValue (ρ.t 24)).run P w = .ok (Value.slice none 0 0) w
  i9 : ∃ i z, P.info? (ρ.t 9) = some i ∧ i.zero = some z ∧ i.size = k ∧ i.bytes = bytes ∧ z.cells.size = k
  hk : 0 < k
  hby : 0 < bytes

section
variable {P : Program} {ρ : Ren} {k bytes : Nat}

theorem InsL.z9 (L : InsL P ρ k bytes) : ∀ w, (Go.sizeOf (ρ.t 9)).run P w = .ok k w := by
  obtain ⟨i, z, hi, _, hs, _⟩ := L.i9
  intro w
  simp [sizeOf, typeInfo, hi, hs]

theorem run_overlaps_own (w : World) (tS tR e : TypeId) (ht : P.underlying tS = some (.slice e)) (size : Nat) (hz : ∀ w, (Go.sizeOf e).run P w = .ok size w)
    (va vo b bo la ca lb cb : Nat) (hne : va ≠ b) {varr : Array Value} {vT : TypeId} {vfz : Nat × Nat} (ha : w.heap[va]? = some (.cells varr vT vfz)) {arr : Array Value} {T : TypeId} (hb : w.heap[b]? = some (.cells arr T (0, 0))) (hpos : arr.size ≠ 0) (hposv : varr.size ≠ 0) :
    (Extern.SlicesOverlaps.overlaps #[tS, tS] #[tR] #[.slice (some ⟨va, vo, none⟩) la ca, .slice (some ⟨b, bo, none⟩) lb cb]).run P w = .ok (.bool false) w := by
  have hnb : (va != b) = true := by simpa using hne
  have hnb' : (va == b) = false := by simpa using hne
  have hsa : w.shape? va = some (vT, varr.size) := by simp [World.shape?, ha]
  have hsb : w.shape? b = some (T, arr.size) := by simp [World.shape?, hb]
  have hfb : ∀ o, w.frozen? ⟨b, o, none⟩ = false := fun o => free_of_heap hb
  change Sem.run P (α := Value) (do
    let some t := (#[tS, tS] : Array TypeId)[0]? | stuck "slices.overlaps: no parameter types"
    let .slice elem ← underlying t | stuck "slices.overlaps: slice type expected"
    let size ← sizeOf elem
    match (some (⟨va, vo, none⟩ : Addr) : Option Addr), (some (⟨b, bo, none⟩ : Addr) : Option Addr) with
    | some a, some b =>
      if la = 0 ∨ lb = 0 ∨ size = 0 then pure (Value.bool false)
      else if a.block != b.block && (← frozen a) && (← frozen b) then unsupported .addressObserved
      else do
        if a.block != b.block then do
          noView a; noView b
          if ← mayBeOne a b then return Value.bool ((← choose (.extern "sameAddr.stringBytes" 2)) == 1)
        pure (Value.bool (a.block == b.block && a.off < b.off + lb * size && b.off < a.off + la * size))
    | _, _ => pure (Value.bool false)) w = _
  by_cases h0 : la = 0 ∨ lb = 0 ∨ size = 0
  · simp [run_underlying ht, hz, h0]
  · generalize hB : arr.size = kB at *
    generalize hV : varr.size = kV at *
    cases kB with
    | zero => exact absurd rfl hpos
    | succ kB =>
      cases kV with
      | zero => exact absurd rfl hposv
      | succ kV =>
      cases hfa : w.frozen? ⟨va, vo, none⟩ <;> cases hfe : w.frozen? ⟨va, kV + 1, none⟩ <;>
        simp [run_underlying ht, hz, h0, hnb, hnb', frozen, noView, viewAt, mayBeOne, stringish, shape, Sem.run, hsa, hsb, hfa, hfe, hfb]

/-- A copy into a block, its source in the same or in another one. -/
theorem copy_run_at {W : World} {dT sT ty e : TypeId} (ht : P.underlying dT = some (.slice e)) (hz : ∀ w, (Go.sizeOf e).run P w = .ok k w) {b o dl dc : Nat} {arr : Array Value} {T : TypeId} (hb : W.heap[b]? = some (.cells arr T (0, 0)))
    {sb so sl sc : Nat} {sarr : Array Value} {sT' : TypeId} {sfz : Nat × Nat} (hsb : W.heap[sb]? = some (.cells sarr sT' sfz)) (cs : List Value) {n : Nat} (hn : n = Nat.min sl dl) (hcl : cs.length = n * k) (hc : ∀ j v, cs[j]? = some v → sarr[so + j]? = some v)
    (h1 : ∀ v ∈ cs, v.oneCell' = true) (hfit : o + cs.length ≤ arr.size) :
    (Builtin.copy_ #[dT, sT] ty #[.slice (some ⟨b, o, none⟩) dl dc, .slice (some ⟨sb, so, none⟩) sl sc]).run P W = .ok (goInt n) (setArr W b (writeAt arr o cs) T (0, 0)) := by
  have hp : (Builtin.firstCells k n (.slice (some ⟨sb, so, none⟩) sl sc)).run P W = .ok cs.toArray W :=
    run_firstCells_some W k n ⟨sb, so, none⟩ sl sc cs hcl fun j v hj => by rw [add_off]; exact cell_of_heap hsb (hc j v hj)
  have hst := run_storeCells (P := P) (b := b) (off := o) (T := T) cs 0 W arr hb h1 (by omega)
  simp only [Nat.add_zero] at hst
  simp [Builtin.copy_, run_underlying ht, Builtin.lenOf, hz, ← hn, hp, hst]

set_option maxHeartbeats 4000000 in
set_option maxRecDepth 100000 in
/-- At the end: what append does. -/
theorem insert_end (L : InsL P ρ k bytes) {w w' : World} {base : Option Addr} {n c m : Nat} {ya : Option Addr} {yc : Nat} {v' : Value} (hm : 0 < m) (hnc : n ≤ c)
    (hrun : (Builtin.append_ #[(ρ.t 24), (ρ.t 24)] (ρ.t 24) #[.slice base n c, .slice ya m yc]).run P w = .ok v' w') :
    Calls P (ρ.f 22) #[.slice base n c, .int .i64 n, .slice ya m yc] w fun e w'' => e = .returned v' ∧ w'' = w' := by
  have t0 := L.t0; have a0 := L.a0; have z0 := L.z0; have v0 := L.v0; have t3 := L.t3; have a3 := L.a3; have z3 := L.z3; have v3 := L.v3; have t4 := L.t4; have a4 := L.a4; have z4 := L.z4; have v4 := L.v4; have z9 := L.z9; have t24 := L.t24; have a24 := L.a24; have z24 := L.z24; have v24 := L.v24
  have u0 := run_underlying L.t0; have u3 := run_underlying L.t3; have u4 := run_underlying L.t4; have u24 := run_underlying L.t24
  have mixed := L.mixed
  have hz1 : ¬ ((m : Int) = 0) := by omega
  obtain ⟨nm, _, F22⟩ := L.f22
  go_enter F22, Body2.n22_ntmps ρ
  cases base with
  | none =>
    go_wp2_with (at_builtin; refine Lib.wpList_append_run _ rfl _ _ _ _ rfl _ _ rfl rfl _ _ hrun ?_)
    all_goals (go_ret; exact ⟨rfl, rfl⟩)
  | some a =>
    obtain ⟨ab, ao, asp⟩ := a
    go_wp2_with (at_builtin; refine Lib.wpList_append_run _ rfl _ _ _ _ rfl _ _ rfl rfl _ _ hrun ?_)
    all_goals (go_ret; exact ⟨rfl, rfl⟩)

set_option maxHeartbeats 4000000 in
set_option maxRecDepth 100000 in
/-- In the middle, where there is room. -/
theorem insert_shift (L : InsL P ρ k bytes) {w : World} {b off n c i vb voff m vc : Nat} {arr varr : Array Value} {T vT : TypeId} {vfz : Nat × Nat} (hi : i < n) (hm : 0 < m) (hroom : n + m ≤ c) (hnm : n + m ≤ 9223372036854775807)
    (hb : w.heap[b]? = some (.cells arr T (0, 0))) (hs : off + (n + m) * k ≤ arr.size) (hvb : w.heap[vb]? = some (.cells varr vT vfz)) (hne : vb ≠ b) (cs vs : List Value) (hcl : cs.length = (n - i) * k) (hvl : vs.length = m * k)
    (hcs : ∀ j v, cs[j]? = some v → arr[off + i * k + j]? = some v) (hvs : ∀ j v, vs[j]? = some v → varr[voff + j]? = some v) (h1c : ∀ v ∈ cs, v.oneCell' = true) (h1v : ∀ v ∈ vs, v.oneCell' = true) :
    Calls P (ρ.f 22) #[.slice (some ⟨b, off, none⟩) n c, .int .i64 i, .slice (some ⟨vb, voff, none⟩) m vc] w fun e w' =>
      e = .returned (.slice (some ⟨b, off, none⟩) (n + m) c) ∧ w' = setArr w.drew b (writeAt (writeAt arr (off + (i + m) * k) cs) (off + i * k) vs) T (0, 0) := by
  have t0 := L.t0; have a0 := L.a0; have z0 := L.z0; have v0 := L.v0; have t3 := L.t3; have a3 := L.a3; have z3 := L.z3; have v3 := L.v3; have t4 := L.t4; have a4 := L.a4; have z4 := L.z4; have v4 := L.v4; have z9 := L.z9; have t24 := L.t24; have a24 := L.a24; have z24 := L.z24; have v24 := L.v24
  have u0 := run_underlying L.t0; have u3 := run_underlying L.t3; have u4 := run_underlying L.t4; have u24 := run_underlying L.t24
  have hz1 : ¬ ((m : Int) = 0) := by omega
  have hz2 : ¬ ((i : Int) = (n : Int)) := by omega
  have hk := L.hk
  have hpos : arr.size ≠ 0 := by
    have : 1 * k ≤ (n + m) * k := Nat.mul_le_mul_right _ (by omega)
    omega
  have hposv : varr.size ≠ 0 := by
    have h0 : 0 < vs.length := by rw [hvl]; exact Nat.mul_pos hm hk
    have := lt_of_aget? (hvs 0 _ (List.getElem?_eq_getElem h0))
    omega
  have hov : ∀ lb cb, (callFunc (ρ.f 29) #[.slice (some ⟨vb, voff, none⟩) m vc, .slice (some ⟨b, off + (i + m) * k, none⟩) lb cb]).run P w = .ok (.value (.bool false)) w := fun lb cb => by
    exact L.ov w _ _ (run_overlaps_own w (ρ.t 24) (ρ.t 4) (ρ.t 9) L.t24 k L.z9 vb voff b (off + (i + m) * k) m vc lb cb hne hvb hb hpos hposv)
  have mixed := L.mixed
  have hw1 : IntKind.i64.wrap ((i : Int) + (m : Int)) = (i : Int) + (m : Int) := by rw [IntKind.wrap_i64]; omega
  have hb1 : (0 : Int) ≤ (i : Int) + (m : Int) := by omega
  have hin : i ≤ n := by omega
  have htn : ((i : Int) + (m : Int)).toNat = i + m := by omega
  have hb2 : ¬ (c = i + m) := by omega
  have hb3 : (i : Int) ≤ (n : Int) + (m : Int) := by omega
  have hb4 : ¬ (c = i) := by omega
  have hlt := lt_of_heap hb
  have e1 : n - i + (i + m) = n + m := by omega
  have e2 : (n - i) * k + (i + m) * k = (n + m) * k := by rw [← Nat.add_mul, e1]
  have e3 : i * k + m * k ≤ (n + m) * k := by rw [← Nat.add_mul]; exact Nat.mul_le_mul_right _ (by omega)
  have hcp1 : ∀ ty dc sc, (Builtin.copy_ #[(ρ.t 24), (ρ.t 24)] ty #[.slice (some ⟨b, off + (i + m) * k, none⟩) (n + m - (i + m)) dc, .slice (some ⟨b, off + i * k, none⟩) (n + m - i) sc]).run P w.drew = .ok (goInt ((n - i : Nat) : Int)) (setArr w.drew b (writeAt arr (off + (i + m) * k) cs) T (0, 0)) := fun ty dc sc =>
    copy_run_at (W := w.drew) (dl := n + m - (i + m)) (sl := n + m - i) (n := n - i) (o := off + (i + m) * k) (so := off + i * k) L.t24 L.z9 (by exact hb) (by exact hb) cs (by show n - i = min _ _; omega) hcl hcs h1c (by rw [hcl]; omega)
  obtain ⟨A1, hA1⟩ : ∃ A1, A1 = writeAt arr (off + (i + m) * k) cs := ⟨_, rfl⟩
  have hs1 : A1.size = arr.size := by rw [hA1, size_writeAt]
  have hcp2 : ∀ (W : World), W.heap = (setArr w.drew b A1 T (0, 0)).heap → ∀ ty dc, (Builtin.copy_ #[(ρ.t 24), (ρ.t 24)] ty #[.slice (some ⟨b, off + i * k, none⟩) (n + m - i) dc, .slice (some ⟨vb, voff, none⟩) m vc]).run P W = .ok (goInt m) (setArr W b (writeAt A1 (off + i * k) vs) T (0, 0)) := fun W hW ty dc =>
    copy_run_at (W := W) (dl := n + m - i) (sl := m) (n := m) (o := off + i * k) L.t24 L.z9 (arr := A1) (T := T) (by rw [hW, heap_setArr, if_pos ⟨rfl, hlt⟩]) (by rw [hW, heap_setArr, if_neg (fun e => hne e.1.symm)]; exact hvb) vs (by show m = min _ _; omega) hvl hvs h1v (by rw [hvl, hs1]; omega)
  rw [← hA1] at hcp1
  clear hs hpos
  obtain ⟨nm, _, F22⟩ := L.f22
  go_enter F22, Body2.n22_ntmps ρ
  go_wp2_with (simp only [hov])
  go_region_law_o (refine step_copy_runI rfl _ _ (ρ.t 24) (ρ.t 24) rfl _ _ (by simp [Act.eval, Act.put]) (by simp [Act.eval, Act.put]) (hcp1 _ _ _) ?_)
  go_wp2_with (at_builtin; refine wpList_copy_runI _ rfl _ _ (ρ.t 24) (ρ.t 24) rfl _ _ rfl rfl (hcp2 _ rfl _ _) ?_)
  go_ret
  first | exact ⟨rfl, rfl⟩ | exact ⟨rfl, by rw [setArr_setArr]⟩ | exact ⟨rfl, by rw [setArr_setArr, hA1]⟩

theorem setArr_alloc (w : World) (A A' : Array Value) (T T' : TypeId) (fz : Nat × Nat) : setArr (w.alloc (.cells A T)) w.heap.size A' T' fz = w.alloc (.cells A' T' fz) := by
  simp only [setArr, World.alloc]
  congr 1
  apply Array.ext_getElem?
  intro i
  by_cases h : w.heap.size = i
  · subst h; simp
  · rw [Array.getElem?_setIfInBounds_ne h, Array.getElem?_push, Array.getElem?_push, if_neg (fun e => h e.symm), if_neg (fun e => h e.symm)]

/-- The cells of the new row. -/
def insRow (z : Value) (k n i m G : Nat) (cs vs : List Value) : Array Value :=
  writeAt (writeAt ((cs.take (i * k)).toArray ++ Builtin.zeroCells z.cells (n + m - i) ++ Builtin.zeroCells z.cells (G - (n + m))) (i * k) vs) ((i + m) * k) (cs.drop (i * k))

set_option maxHeartbeats 4000000 in
set_option maxRecDepth 100000 in
/-- In the middle, where there is no room. -/
theorem insert_grow (L : InsL P ρ k bytes) {w : World} {b off n c i vb voff m vc : Nat} {arr varr : Array Value} {T vT : TypeId} {fzb vfz : Nat × Nat} {i0 : TypeInfo} {z : Value} (hi0 : P.info? (ρ.t 9) = some i0) (hz0 : i0.zero = some z) (hzs : i0.size = k) (hzb : i0.bytes = bytes) (hzc : z.cells.size = k)
    (hi : i < n) (hm : 0 < m) (hnc : n ≤ c) (hroom : c < n + m) (hbig : (n + m) * bytes ≤ maxBytes) (hbig2 : n + m ≤ maxBytes)
    (hb : w.heap[b]? = some (.cells arr T fzb)) (hvb : w.heap[vb]? = some (.cells varr vT vfz)) (cs vs : List Value) (hcl : cs.length = n * k) (hvl : vs.length = m * k)
    (hcs : ∀ j v, cs[j]? = some v → arr[off + j]? = some v) (hvs : ∀ j v, vs[j]? = some v → varr[voff + j]? = some v) (h1c : ∀ v ∈ cs, v.oneCell' = true) (h1v : ∀ v ∈ vs, v.oneCell' = true) :
    Calls P (ρ.f 22) #[.slice (some ⟨b, off, none⟩) n c, .int .i64 i, .slice (some ⟨vb, voff, none⟩) m vc] w fun e w' =>
      e = .returned (.slice (some ⟨w.heap.size, 0, none⟩) (n + m) (grownCap w (n + m) c (ρ.t 9))) ∧
      w' = w.drew.drew.alloc (.cells (insRow z k n i m (grownCap w (n + m) c (ρ.t 9)) cs vs) (ρ.t 9)) := by
  have t0 := L.t0; have a0 := L.a0; have z0 := L.z0; have v0 := L.v0; have t3 := L.t3; have a3 := L.a3; have z3 := L.z3; have v3 := L.v3; have t4 := L.t4; have a4 := L.a4; have z4 := L.z4; have v4 := L.v4; have z9 := L.z9; have t24 := L.t24; have a24 := L.a24; have z24 := L.z24; have v24 := L.v24
  have u0 := run_underlying L.t0; have u3 := run_underlying L.t3; have u4 := run_underlying L.t4; have u24 := run_underlying L.t24
  have mixed := L.mixed
  have hk := L.hk
  have hby := L.hby
  unfold maxBytes at hbig hbig2
  have hz1 : ¬ ((m : Int) = 0) := by omega
  have hz2 : ¬ ((i : Int) = (n : Int)) := by omega
  have hz3 : (c : Int) < (n : Int) + (m : Int) := by omega
  have hbw := lt_of_heap hb
  have hvw := lt_of_heap hvb
  have hkk : (n : Int) + (m : Int) - (i : Int) = ((n + m - i : Nat) : Int) := by omega
  have hik : i + (n + m - i) = n + m := by omega
  have hin : i * k ≤ n * k := Nat.mul_le_mul_right _ (by omega)
  have htl : (cs.take (i * k)).length = i * k := by rw [List.length_take, hcl]; omega
  have hdl : (cs.drop (i * k)).length = (n - i) * k := by rw [List.length_drop, hcl, Nat.sub_mul]
  have hold : (Builtin.firstCells i0.size i (.slice (some ⟨b, off, none⟩) i c)).run P w.drew = .ok (cs.take (i * k)).toArray w.drew := by
    rw [hzs]
    exact run_firstCells_some w.drew k i ⟨b, off, none⟩ i c (cs.take (i * k)) htl (fun j v hj => by
      rw [add_off]
      rw [List.getElem?_take] at hj
      split at hj
      · exact cell_of_heap (w := w.drew) (by exact hb) (hcs j v hj)
      · cases hj)
  have hbm : (n + m - i) * bytes ≤ (n + m) * bytes := Nat.mul_le_mul_right _ (by omega)
  have hrz : ∀ ty, (Builtin.append_ #[(ρ.t 24), (ρ.t 3)] ty #[.slice (some ⟨b, off, none⟩) i c, .int .i64 ((n : Int) + (m : Int) - (i : Int))]).run P w =
      .ok (.slice (some ⟨w.heap.size, 0, none⟩) (n + m) (grownCap w (n + m) c (ρ.t 9))) (w.drew.alloc (.cells ((cs.take (i * k)).toArray ++ Builtin.zeroCells z.cells (n + m - i) ++ Builtin.zeroCells z.cells (grownCap w (n + m) c (ρ.t 9) - (n + m))) (ρ.t 9))) := fun ty => by
    have h := Lib.run_append_grow_zeros w (ρ.t 24) (ρ.t 3) ty (ρ.t 9) i0 _ .i64 .i64 L.t24 L.t3 hi0 hz0 (some ⟨b, off, none⟩) i c (cs.take (i * k)) hold (n + m - i) (by omega) (by omega) (by omega) (by omega) (by rw [hzb]; omega) (by rw [hzb, hik]; exact growslice_fits hroom hbig)
    rw [hik] at h
    rw [hkk]
    exact h
  unfold insRow
  obtain ⟨G, hG⟩ : ∃ G, G = grownCap w (n + m) c (ρ.t 9) := ⟨_, rfl⟩
  obtain ⟨ROW, hROW⟩ : ∃ ROW : Array Value, ROW = (cs.take (i * k)).toArray ++ Builtin.zeroCells z.cells (n + m - i) ++ Builtin.zeroCells z.cells (G - (n + m)) := ⟨_, rfl⟩
  rw [← hG] at hrz ⊢
  rw [← hROW] at hrz ⊢
  have hRl : (n + m) * k ≤ ROW.size := by
    rw [hROW]
    have e : i * k + (n + m - i) * k = (n + m) * k := by rw [← Nat.add_mul, hik]
    simp only [Array.size_append, List.size_toArray, htl, size_zero, hzc]
    omega
  obtain ⟨W1, hW1⟩ : ∃ W1, W1 = w.drew.alloc (.cells ROW (ρ.t 9)) := ⟨_, rfl⟩
  rw [← hW1] at hrz
  have hsz1 : w.drew.heap.size = w.heap.size := rfl
  have hN : W1.heap[w.heap.size]? = some (.cells ROW (ρ.t 9)) := by rw [hW1, heap_alloc, if_pos hsz1.symm]
  have hO : W1.heap[b]? = some (.cells arr T fzb) := by rw [hW1, heap_alloc, if_neg (by rw [hsz1]; omega)]; exact hb
  have hV : W1.heap[vb]? = some (.cells varr vT vfz) := by rw [hW1, heap_alloc, if_neg (by rw [hsz1]; omega)]; exact hvb
  have hlt1 : w.heap.size < W1.heap.size := lt_of_heap hN
  have e3 : i * k + m * k = (i + m) * k := by rw [← Nat.add_mul]
  have e4 : (i + m) * k ≤ (n + m) * k := Nat.mul_le_mul_right _ (by omega)
  have e5 : (i + m) * k + (n - i) * k = (n + m) * k := by rw [← Nat.add_mul]; congr 1; omega
  have hcpA : ∀ (W : World), W.heap = W1.heap → ∀ ty dc, (Builtin.copy_ #[(ρ.t 24), (ρ.t 24)] ty #[.slice (some ⟨w.heap.size, i * k, none⟩) (n + m - i) dc, .slice (some ⟨vb, voff, none⟩) m vc]).run P W = .ok (goInt (m : Int)) (setArr W w.heap.size (writeAt ROW (i * k) vs) (ρ.t 9) (0, 0)) := fun W hW ty dc =>
    copy_run_at (W := W) (dl := n + m - i) (sl := m) (n := m) (o := i * k) (so := voff) L.t24 L.z9 (by rw [hW]; exact hN) (by rw [hW]; exact hV) vs (by show m = min _ _; omega) hvl hvs h1v (by rw [hvl]; omega)
  obtain ⟨A1, hA1⟩ : ∃ A1, A1 = writeAt ROW (i * k) vs := ⟨_, rfl⟩
  have hs1 : A1.size = ROW.size := by rw [hA1, size_writeAt]
  have hcpB : ∀ (W : World), W.heap = (setArr W1 w.heap.size A1 (ρ.t 9) (0, 0)).heap → ∀ ty dc sc, (Builtin.copy_ #[(ρ.t 24), (ρ.t 24)] ty #[.slice (some ⟨w.heap.size, (i + m) * k, none⟩) (n + m - (i + m)) dc, .slice (some ⟨b, off + i * k, none⟩) (n - i) sc]).run P W = .ok (goInt ((n - i : Nat) : Int)) (setArr W w.heap.size (writeAt A1 ((i + m) * k) (cs.drop (i * k))) (ρ.t 9) (0, 0)) := fun W hW ty dc sc =>
    copy_run_at (W := W) (dl := n + m - (i + m)) (sl := n - i) (n := n - i) (o := (i + m) * k) (so := off + i * k) (arr := A1) (sarr := arr) L.t24 L.z9 (by rw [hW, heap_setArr, if_pos ⟨rfl, hlt1⟩]) (by rw [hW, heap_setArr, if_neg (by omega)]; exact hO) (cs.drop (i * k)) (by show n - i = min _ _; omega) hdl
      (fun j v hj => by rw [Nat.add_assoc]; rw [List.getElem?_drop] at hj; exact hcs _ v hj) (fun v hv => h1c v (List.mem_of_mem_drop hv)) (by rw [hdl, hs1]; omega)
  rw [← hA1] at hcpA
  have hGn : n + m ≤ G := by rw [hG]; exact grownCap_ge w _ _ _
  have hG63 : G ≤ 9223372036854775807 := by
    have := grownCap_le_maxLen w (n + m) c (ρ.t 9) (by unfold maxLen; omega)
    rw [← hG] at this
    unfold maxLen at this
    omega
  have hGi : ¬ (G = i) := by omega
  have hGim : ¬ (G = i + m) := by omega
  have hci : ¬ (c = i) := by omega
  have hw1 : IntKind.i64.wrap ((i : Int) + (m : Int)) = (i : Int) + (m : Int) := by rw [IntKind.wrap_i64]; omega
  have hb1 : (0 : Int) ≤ (i : Int) + (m : Int) := by omega
  have hin' : i ≤ n := by omega
  have htn : ((i : Int) + (m : Int)).toNat = i + m := by omega
  have hb3 : (i : Int) ≤ (n : Int) := by omega
  have hfin : ∀ X : World, X = setArr (setArr W1 w.heap.size A1 (ρ.t 9) (0, 0)).drew w.heap.size (writeAt A1 ((i + m) * k) (cs.drop (i * k))) (ρ.t 9) (0, 0) → X = w.drew.drew.alloc (.cells (writeAt A1 ((i + m) * k) (cs.drop (i * k))) (ρ.t 9)) := by
    intro X hX
    have e1 : (setArr W1 w.heap.size A1 (ρ.t 9) (0, 0)).drew = setArr (w.drew.drew.alloc (.cells ROW (ρ.t 9))) w.heap.size A1 (ρ.t 9) (0, 0) := by rw [hW1]; rfl
    rw [hX, e1, setArr_setArr]
    exact setArr_alloc w.drew.drew _ _ _ _ _
  clear hkk hik hold hROW hG hRl hbig hbig2 hbm hdl htl hin e4 e5 e3
  have hE : ((setArr (w.alloc (.cells ROW (ρ.t 9))).drew w.heap.size (writeAt ROW (i * k) vs) (ρ.t 9) (0, 0)).drew).heap = (setArr W1 w.heap.size A1 (ρ.t 9) (0, 0)).heap := by rw [hW1, hA1]; rfl
  rw [← hA1]
  rw [hA1] at hE
  obtain ⟨nm, _, F22⟩ := L.f22
  go_enter F22, Body2.n22_ntmps ρ
  go_wp2_with (first
    | (at_builtin; refine Lib.wpList_append_run _ rfl _ _ _ _ rfl _ _ rfl rfl _ _ (hrz _) ?_)
    | (at_builtin; refine wpList_copy_runI _ rfl _ _ (ρ.t 24) (ρ.t 24) rfl _ _ rfl rfl (hcpA _ rfl _ _) ?_))
  go_region_law_o (refine step_copy_runI rfl _ _ (ρ.t 24) (ρ.t 24) rfl (.slice (some ⟨w.heap.size, (i + m) * k, none⟩) (n + m - (i + m)) (G - (i + m))) (.slice (some ⟨b, off + i * k, none⟩) (n - i) (c - i)) (by simp [Act.eval, Act.put]) (by simp [Act.eval, Act.put]) (hcpB _ hE (ρ.t 3) (G - (i + m)) (c - i)) ?_)
  go_wp2
  go_ret
  refine ⟨rfl, ?_⟩
  subst hA1
  subst hW1
  exact hfin _ rfl

/-! ### the contract -/

theorem get_wl {A : Array Value} {s c k a j : Nat} {l : List Value} {f : Nat → Nat → Value} (hl : l.length = c * k) (hf : ∀ a j, a < c → j < k → l[a * k + j]? = some (f a j)) (hfit : (s + c) * k ≤ A.size) (hj : j < k) :
    (writeAt A (s * k) l)[a * k + j]? = if s ≤ a ∧ a < s + c then some (f (a - s) j) else A[a * k + j]? := by
  have e : s * k + l.length = (s + c) * k := by rw [hl, ← Nat.add_mul]
  rw [get_writeAt _ _ _ _ (by rw [e]; exact hfit), e]
  by_cases h : s ≤ a ∧ a < s + c
  · have h1 : (a + 1) * k ≤ (s + c) * k := Nat.mul_le_mul_right _ (by omega)
    rw [Nat.add_mul, Nat.one_mul] at h1
    have h2 : s * k ≤ a * k := Nat.mul_le_mul_right _ h.1
    rw [if_pos ⟨by omega, by omega⟩, if_pos h]
    have e2 : a * k + j - s * k = (a - s) * k + j := by rw [Nat.sub_mul]; omega
    rw [e2]
    exact hf _ _ (by omega) hj
  · rw [if_neg h]
    have h3 : a < s ∨ s + c ≤ a := by omega
    rcases h3 with h3 | h3
    · have h1 : (a + 1) * k ≤ s * k := Nat.mul_le_mul_right _ (by omega)
      rw [Nat.add_mul, Nat.one_mul] at h1
      rw [if_neg (by omega)]
    · have h1 : (s + c) * k ≤ a * k := Nat.mul_le_mul_right _ h3
      rw [if_neg (by omega)]

/-- The list with elements put in. -/
def insAt {α : Type} (xs ys : List α) (i : Nat) : List α := xs.take i ++ ys ++ xs.drop i

theorem InsL.append (L : InsL P ρ k bytes) : appendOK P (ρ.t 24) (ρ.t 24) bytes k = true := by
  obtain ⟨i, z, hi, hz, hs, hb, hc⟩ := L.i9
  have e : sliceElem P (ρ.t 24) = some (ρ.t 9) := by unfold sliceElem; rw [L.t24]
  unfold appendOK
  rw [e]
  simp only [hi, hz, hs, hb, hc, beq_self_eq_true, Bool.true_and, L.hk, L.hby, decide_true]

theorem elems_ins {w : World} {U : Nat → Prop} {sz : Nat} {xs ys : List (List PV)} {vs us : Nat → Nat → Value} (a : Elems w U sz xs vs) (b : Elems w U sz ys us) {i : Nat} (hi : i ≤ xs.length) :
    Elems w U sz (insAt xs ys i) (fun a j => if a < i then vs a j else if a < i + ys.length then us (a - i) j else vs (a - ys.length) j) := by
  have key : ∀ (e : Nat) (x : List PV), (insAt xs ys i)[e]? = some x → (e < i ∧ xs[e]? = some x) ∨ (i ≤ e ∧ e < i + ys.length ∧ ys[e - i]? = some x) ∨ (i + ys.length ≤ e ∧ xs[e - ys.length]? = some x) := by
    intro e x hx
    unfold insAt at hx
    have hl : (xs.take i).length = i := by rw [List.length_take]; omega
    rcases Nat.lt_or_ge e i with h | h
    · left
      rw [List.append_assoc, List.getElem?_append_left (by omega), List.getElem?_take, if_pos h] at hx
      exact ⟨h, hx⟩
    · right
      rcases Nat.lt_or_ge e (i + ys.length) with h' | h'
      · left
        rw [List.getElem?_append_left (by rw [List.length_append]; omega), List.getElem?_append_right (by omega), hl] at hx
        exact ⟨h, h', hx⟩
      · right
        rw [List.getElem?_append_right (by rw [List.length_append]; omega), List.length_append, hl, List.getElem?_drop] at hx
        exact ⟨h', by rw [show i + (e - (i + ys.length)) = e - ys.length by omega] at hx; exact hx⟩
  refine ⟨fun e x j y hx hy => ?_, fun e x j y hx hy => ?_, fun x hx => ?_⟩
  · rcases key e x hx with ⟨h1, h2⟩ | ⟨h1, h2, h3⟩ | ⟨h1, h2⟩
    · rw [if_pos h1]; exact a.one _ _ _ _ h2 hy
    · rw [if_neg (by omega), if_pos h2]; exact b.one _ _ _ _ h3 hy
    · rw [if_neg (by omega), if_neg (by omega)]; exact a.one _ _ _ _ h2 hy
  · rcases key e x hx with ⟨h1, h2⟩ | ⟨h1, h2, h3⟩ | ⟨h1, h2⟩
    · rw [if_pos h1]; exact a.rep _ _ _ _ h2 hy
    · rw [if_neg (by omega), if_pos h2]; exact b.rep _ _ _ _ h3 hy
    · rw [if_neg (by omega), if_neg (by omega)]; exact a.rep _ _ _ _ h2 hy
  · obtain ⟨e, he⟩ := List.mem_iff_getElem?.1 hx
    rcases key e x he with ⟨h1, h2⟩ | ⟨h1, h2, h3⟩ | ⟨h1, h2⟩
    · exact a.sz _ (List.mem_of_getElem? h2)
    · exact b.sz _ (List.mem_of_getElem? h3)
    · exact a.sz _ (List.mem_of_getElem? h2)

theorem insAt_length {α : Type} (xs ys : List α) {i : Nat} (hi : i ≤ xs.length) : (insAt xs ys i).length = xs.length + ys.length := by
  simp only [insAt, List.length_append, List.length_take, List.length_drop]; omega

theorem elems_insD {w : World} {U : Nat → Prop} {β : Place} {H : Heap} {nx : Nat} {sz : Nat} {xs ys : List (List DV)} {vs us : Nat → Nat → Value} (a : ElemsD w U β H nx sz xs vs) (b : ElemsD w U β H nx sz ys us) {i : Nat} (hi : i ≤ xs.length) :
    ElemsD w U β H nx sz (insAt xs ys i) (fun a j => if a < i then vs a j else if a < i + ys.length then us (a - i) j else vs (a - ys.length) j) := by
  have key : ∀ (e : Nat) (x : List DV), (insAt xs ys i)[e]? = some x → (e < i ∧ xs[e]? = some x) ∨ (i ≤ e ∧ e < i + ys.length ∧ ys[e - i]? = some x) ∨ (i + ys.length ≤ e ∧ xs[e - ys.length]? = some x) := by
    intro e x hx
    unfold insAt at hx
    have hl : (xs.take i).length = i := by rw [List.length_take]; omega
    rcases Nat.lt_or_ge e i with h | h
    · left
      rw [List.append_assoc, List.getElem?_append_left (by omega), List.getElem?_take, if_pos h] at hx
      exact ⟨h, hx⟩
    · right
      rcases Nat.lt_or_ge e (i + ys.length) with h' | h'
      · left
        rw [List.getElem?_append_left (by rw [List.length_append]; omega), List.getElem?_append_right (by omega), hl] at hx
        exact ⟨h, h', hx⟩
      · right
        rw [List.getElem?_append_right (by rw [List.length_append]; omega), List.length_append, hl, List.getElem?_drop] at hx
        exact ⟨h', by rw [show i + (e - (i + ys.length)) = e - ys.length by omega] at hx; exact hx⟩
  refine ⟨fun e x j y hx hy => ?_, fun e x j y hx hy => ?_, fun x hx => ?_⟩
  · rcases key e x hx with ⟨h1, h2⟩ | ⟨h1, h2, h3⟩ | ⟨h1, h2⟩
    · rw [if_pos h1]; exact a.one _ _ _ _ h2 hy
    · rw [if_neg (by omega), if_pos h2]; exact b.one _ _ _ _ h3 hy
    · rw [if_neg (by omega), if_neg (by omega)]; exact a.one _ _ _ _ h2 hy
  · rcases key e x hx with ⟨h1, h2⟩ | ⟨h1, h2, h3⟩ | ⟨h1, h2⟩
    · rw [if_pos h1]; exact a.rep _ _ _ _ h2 hy
    · rw [if_neg (by omega), if_pos h2]; exact b.rep _ _ _ _ h3 hy
    · rw [if_neg (by omega), if_neg (by omega)]; exact a.rep _ _ _ _ h2 hy
  · obtain ⟨e, he⟩ := List.mem_iff_getElem?.1 hx
    rcases key e x he with ⟨h1, h2⟩ | ⟨h1, h2, h3⟩ | ⟨h1, h2⟩
    · exact a.sz _ (List.mem_of_getElem? h2)
    · exact b.sz _ (List.mem_of_getElem? h3)
    · exact a.sz _ (List.mem_of_getElem? h2)

/-- Pure elements as own ones. -/
def liftD (ys : List (List PV)) : List (List DV) := ys.map fun y => y.map .p
theorem liftD_length (ys : List (List PV)) : (liftD ys).length = ys.length := by simp [liftD]
theorem lift_elems {w : World} {U : Nat → Prop} {β : Place} {H : Heap} {nx : Nat} {sz : Nat} {ys : List (List PV)} {us : Nat → Nat → Value} (h1 : ∀ i x j y, ys[i]? = some x → x[j]? = some y → (us i j).oneCell' = true)
    (h2 : ∀ i x j y, ys[i]? = some x → x[j]? = some y → PRep w U y (us i j)) (h3 : ∀ x ∈ ys, x.length = sz) : ElemsD w U β H nx sz (liftD ys) us := by
  have key : ∀ (i : Nat) (x : List DV) (j : Nat) (y : DV), (liftD ys)[i]? = some x → x[j]? = some y → ∃ (q : List PV) (p : PV), ys[i]? = some q ∧ q[j]? = some p ∧ y = DV.p p := by
    intro i x j y hx hy
    simp only [liftD, List.getElem?_map] at hx
    cases hq : ys[i]? with
    | none => rw [hq] at hx; cases hx
    | some q =>
      rw [hq] at hx; simp only [Option.map_some, Option.some.injEq] at hx; subst hx
      rw [List.getElem?_map] at hy
      cases hp : q[j]? with
      | none => rw [hp] at hy; cases hy
      | some p => rw [hp] at hy; simp only [Option.map_some, Option.some.injEq] at hy; exact ⟨q, p, rfl, hp, hy.symm⟩
  refine ⟨fun i x j y hx hy => ?_, fun i x j y hx hy => ?_, fun x hx => ?_⟩
  · obtain ⟨q, p, e1, e2, _⟩ := key i x j y hx hy; exact h1 i q j p e1 e2
  · obtain ⟨q, p, e1, e2, rfl⟩ := key i x j y hx hy; exact .p _ _ (h2 i q j p e1 e2)
  · simp only [liftD, List.mem_map] at hx
    obtain ⟨q, hq, rfl⟩ := hx
    rw [List.length_map]; exact h3 q hq

theorem insert_ok (L : InsL P ρ k bytes) (hcal : Callable P (ρ.f 22)) {id i : Nat} {H : Heap} {nx : Nat} {xs ys : List (List PV)} {fl : Bool} (hH : aget H id = some (.row false k xs)) (hi : i ≤ xs.length) (hne : ys ≠ []) (hsy : allSz k ys = true)
    (hb1 : (xs.length + ys.length) * bytes ≤ maxBytes) (hb2 : xs.length + ys.length ≤ maxBytes) :
    ByrefOK P (ρ.f 22) [.ref id xs.length 0 xs.length, .p (.int .i64 i), .p (.slice fl ys)] H nx (.ref id (xs.length + ys.length) 0 (xs.length + ys.length)) (hset H id (.row false k (insAt xs ys i))) nx := by
  refine ⟨hcal, fun B w0 U0 β w vl m hvs hrep => ?_⟩
  have hv0 := hrep 0 _ rfl
  have hv1 := (hrep 1 _ rfl).int_inv
  have hv2 := hrep 2 _ rfl
  have hvs1 : vl = #[vl.getD 0 undef, vl.getD 1 undef, vl.getD 2 undef] := by
    apply Array.ext
    · simpa using hvs
    · intro i h1 h2
      have hi : i = 0 ∨ i = 1 ∨ i = 2 := by simp at h2; omega
      rcases hi with rfl | rfl | rfl <;> simp [h1]
  rw [hvs1, hv1]
  generalize vl.getD 0 undef = v at hv0
  generalize vl.getD 2 undef = u at hv2
  have hm : 0 < ys.length := List.length_pos_iff.2 hne
  have hk := L.hk
  have hnn : ∀ (p : Option Addr) (n c : Nat), v = .slice p n c → True := fun _ _ _ _ => trivial
  rcases Nat.lt_or_ge i xs.length with hlt | hge
  · have hself := hv0
    cases hv0 with | ref _ _ _ _ _ hid hcell href _ =>
    have href := (href _ _ _ hH).2 rfl (by omega)
    rcases href with ⟨hx, _, _⟩ | ⟨b, cap, ad, hb, rfl, had⟩
    · rw [hx] at hlt; simp at hlt
    · obtain rfl := had (.inl (by omega))
      rcases m.h.blk id _ hH with ⟨hx0, hn⟩ | ⟨b', cap', arr, T, h1, h2, h3, h4, h5, h6, vs, h7, h8, h9⟩
      · rw [hb] at hn; cases hn
      · rw [hb] at h1; simp only [Option.some.injEq, Prod.mk.injEq] at h1; obtain ⟨rfl, rfl⟩ := h1
        have el0 : Elems w (Own U0 β H) k xs vs := ⟨h8, h9, h6⟩
        have key : ∀ a j, a < xs.length → j < k → arr[a * k + j]? = some (vs a j) := by
          intro a j ha hj
          have hx := List.getElem?_eq_getElem ha
          have hl := h6 _ (List.getElem_mem ha)
          exact h7 a _ j _ hx (List.getElem?_eq_getElem (by omega))
        have hone : ∀ a j, a < xs.length → j < k → (vs a j).oneCell' = true := by
          intro a j ha hj
          have hx := List.getElem?_eq_getElem ha
          have hl := h6 _ (List.getElem_mem ha)
          exact h8 a _ j _ hx (List.getElem?_eq_getElem (by omega))
        cases hv2 with | p _ _ hp =>
        cases hp with
        | none => simp at hm
        | slice _ _ vb voff vc sz' varr vT vfz us hne' hcy hfy hvb hvu hszy hvy h1y hry =>
          have hss : sz' = k := by
            cases ys with
            | nil => simp at hm
            | cons y r => rw [← hszy y (by simp), allSz_mem hsy y (by simp)]
          subst hss
          have ely : Elems w (Own U0 β H) sz' ys us := ⟨h1y, hry, hszy⟩
          have hvne : vb ≠ b := fun e => hvu (by subst e; exact .inr ⟨id, _, cap, hH, rfl, hb⟩)
          have keyy : ∀ a j, a < ys.length → j < sz' → varr[voff + a * sz' + j]? = some (us a j) := by
            intro a j ha hj
            have hx := List.getElem?_eq_getElem ha
            have hl := hszy _ (List.getElem_mem ha)
            exact hvy a _ j _ hx (List.getElem?_eq_getElem (by omega))
          have honey : ∀ a j, a < ys.length → j < sz' → (us a j).oneCell' = true := by
            intro a j ha hj
            have hx := List.getElem?_eq_getElem ha
            have hl := hszy _ (List.getElem_mem ha)
            exact h1y a _ j _ hx (List.getElem?_eq_getElem (by omega))
          have cV : ∀ j v, (flat ys.length sz' us)[j]? = some v → varr[voff + j]? = some v := by
            intro j v hj
            obtain ⟨g1, g2, g3, rfl⟩ := get_flat_inv us hj
            have := keyy _ _ g2 g3
            rwa [Nat.add_assoc, Nat.mul_comm, Nat.div_add_mod] at this
          have oV : ∀ v ∈ flat ys.length sz' us, v.oneCell' = true := by
            intro v hv
            obtain ⟨j, hj⟩ := List.mem_iff_getElem?.1 hv
            obtain ⟨g1, g2, g3, rfl⟩ := get_flat_inv us hj
            exact honey _ _ g2 g3
          have hli := insAt_length xs ys (i := i) (by omega)
          have cF : ∀ j v, (flat xs.length sz' vs)[j]? = some v → arr[0 + j]? = some v := by
            intro j v hj
            obtain ⟨g1, g2, g3, rfl⟩ := get_flat_inv vs hj
            have := key _ _ g2 g3
            rw [Nat.zero_add]; rwa [Nat.mul_comm, Nat.div_add_mod] at this
          have oF : ∀ v ∈ flat xs.length sz' vs, v.oneCell' = true := by
            intro v hv
            obtain ⟨j, hj⟩ := List.mem_iff_getElem?.1 hv
            obtain ⟨g1, g2, g3, rfl⟩ := get_flat_inv vs hj
            exact hone _ _ g2 g3
          have dD : ((flat xs.length sz' vs).drop (i * sz')).length = (xs.length - i) * sz' := by rw [List.length_drop, length_flat, Nat.sub_mul]
          have fD : ∀ a j, a < xs.length - i → j < sz' → ((flat xs.length sz' vs).drop (i * sz'))[a * sz' + j]? = some (vs (i + a) j) := by
            intro a j ha hj
            rw [List.getElem?_drop, ← Nat.add_assoc, ← Nat.add_mul]
            exact get_flat vs (by omega) hj
          have fV : ∀ a j, a < ys.length → j < sz' → (flat ys.length sz' us)[a * sz' + j]? = some (us a j) := fun a j ha hj => get_flat us ha hj
          have elI := elems_ins el0 ely (i := i) (by omega)
          simp only [Nat.zero_mul, Nat.sub_zero]
          have e1 : (i + ys.length) + (xs.length - i) = xs.length + ys.length := by omega
          by_cases hroom : xs.length + ys.length ≤ cap
          · have hfit : (xs.length + ys.length) * sz' ≤ arr.size := by rw [h4]; exact Nat.mul_le_mul_right _ hroom
            have hfit2 : (i + ys.length) * sz' ≤ arr.size := Nat.le_trans (Nat.mul_le_mul_right _ (by omega)) hfit
            have hcalls := insert_shift L (w := w) (b := b) (off := 0) (n := xs.length) (c := cap) (i := i) (vb := vb) (voff := voff) (m := ys.length) (vc := vc) hlt hm hroom (by unfold maxBytes at hb2; omega) h3 (by rw [Nat.zero_add]; exact hfit) hvb hvne
              ((flat xs.length sz' vs).drop (i * sz')) (flat ys.length sz' us) dD (length_flat _ _ _) (fun j v hj => by rw [List.getElem?_drop] at hj; rw [Nat.add_assoc]; exact cF _ _ hj) cV (fun v hv => oF v (List.mem_of_mem_drop hv)) oV
            refine hcalls.mono ?_
            rintro e w' ⟨rfl, rfl⟩
            have m1 := m.call (below_drew w.heap.size w)
            have hg : Good B w0 U0 H nx β w.drew (.ref id (insAt xs ys i).length 0 (insAt xs ys i).length) (hset H id (.row false sz' (insAt xs ys i))) nx (.slice (some ⟨b, 0, none⟩) (xs.length + ys.length) cap) (setArr w.drew b (writeAt (writeAt arr (0 + (i + ys.length) * sz') ((flat xs.length sz' vs).drop (i * sz'))) (0 + i * sz') (flat ys.length sz' us)) T (0, 0)) := by
              refine row_written m1.1 hH hb h2 h3 (by rw [size_writeAt, size_writeAt, h4]) (by rw [hli]; exact hroom) (by rw [hli]; omega) _ (elI.keep m1.2) (fun a x j y hx hy => ?_) _ _ (fun H' hH' he hk => ?_)
              · have hal : a < xs.length + ys.length := by have := lt_of_get? hx; rwa [hli] at this
                have hjl : j < sz' := by have := lt_of_get? hy; rw [elI.sz x (List.mem_of_getElem? hx)] at this; exact this
                rw [Nat.zero_add, Nat.zero_add, get_wl (length_flat _ _ _) fV (by rw [size_writeAt]; exact hfit2) hjl, get_wl dD fD (by rw [e1]; exact hfit) hjl]
                by_cases c1 : a < i
                · rw [if_neg (by omega), if_neg (by omega), if_pos c1]; exact key a j (by omega) hjl
                · by_cases c2 : a < i + ys.length
                  · rw [if_pos ⟨by omega, c2⟩, if_neg c1, if_pos c2]
                  · rw [if_neg (by omega), if_pos ⟨by omega, by omega⟩, if_neg c1, if_neg c2]
                    rw [show i + (a - (i + ys.length)) = a - ys.length by omega]
              · subst hH'
                refine .ref id _ 0 _ _ hid rfl (fun fz sz'' xs' h => ?_) (fun fz sz'' xs' h => by rw [aget_hset, if_pos rfl, hH] at h; cases h)
                rw [aget_hset, if_pos rfl, hH] at h
                simp only [Option.map_some, Option.some.injEq, Blk.row.injEq] at h
                obtain ⟨_, rfl, rfl⟩ := h
                rw [← hli]
                exact ⟨Nat.le_refl _, fun _ _ => .inr ⟨b, cap, some ⟨b, 0, none⟩, hb, by simp, fun _ => by simp⟩⟩
            rw [hli] at hg
            obtain ⟨β', m2, kp, ev, dr⟩ := hg
            exact ⟨_, rfl, β', m2, m1.2.trans kp, ev, dr⟩
          · obtain ⟨i0, z, hi0, hz0, hzs, hzb, hzc⟩ := L.i9
            have hcalls := insert_grow L hi0 hz0 hzs hzb hzc (w := w) (b := b) (off := 0) (n := xs.length) (c := cap) (i := i) (vb := vb) (voff := voff) (m := ys.length) (vc := vc) hlt hm h5 (by omega) hb1 hb2 h3 hvb
              (flat xs.length sz' vs) (flat ys.length sz' us) (length_flat _ _ _) (length_flat _ _ _) cF cV oF oV
            refine hcalls.mono ?_
            rintro e w' ⟨rfl, rfl⟩
            have hG := grownCap_ge w (xs.length + ys.length) cap (ρ.t 9)
            generalize grownCap w (xs.length + ys.length) cap (ρ.t 9) = G at hG ⊢
            have tl : ((flat xs.length sz' vs).take (i * sz')).length = i * sz' := by
              rw [List.length_take, length_flat]
              have := Nat.mul_le_mul_right sz' (show i ≤ xs.length by omega)
              omega
            obtain ⟨A, hA⟩ : ∃ A, A = (((flat xs.length sz' vs).take (i * sz')).toArray ++ Builtin.zeroCells z.cells (xs.length + ys.length - i) ++ Builtin.zeroCells z.cells (G - (xs.length + ys.length))) := ⟨_, rfl⟩
            have hAs : A.size = G * sz' := by
              rw [hA]
              simp only [Array.size_append, List.size_toArray, tl, size_zero, hzc]
              rw [← Nat.add_mul, ← Nat.add_mul]; congr 1; omega
            have hAg : ∀ a j, a < i → j < sz' → A[a * sz' + j]? = some (vs a j) := by
              intro a j ha hj
              have h1 : (a + 1) * sz' ≤ i * sz' := Nat.mul_le_mul_right _ (by omega)
              rw [Nat.add_mul, Nat.one_mul] at h1
              rw [hA, Array.getElem?_append_left (by rw [Array.size_append, List.size_toArray, tl]; omega), Array.getElem?_append_left (by rw [List.size_toArray, tl]; omega), List.getElem?_toArray, List.getElem?_take, if_pos (by omega)]
              exact get_flat vs (by omega) hj
            have hfit : (xs.length + ys.length) * sz' ≤ A.size := by rw [hAs]; exact Nat.mul_le_mul_right _ hG
            have hfit2 : (i + ys.length) * sz' ≤ A.size := Nat.le_trans (Nat.mul_le_mul_right _ (by omega)) hfit
            have hg := row_moved m hH (insAt xs ys i) (by rw [hli]; omega) _ (insRow z sz' xs.length i ys.length G (flat xs.length sz' vs) (flat ys.length sz' us)) G (ρ.t 9) w.drew.drew rfl ((below_drew _ _).trans (below_drew _ _))
              (by unfold insRow; rw [size_writeAt, size_writeAt, ← hA]; exact hAs) (by rw [hli]; exact hG) elI (fun a x j y hx hy => by
                have hal : a < xs.length + ys.length := by have := lt_of_get? hx; rwa [hli] at this
                have hjl : j < sz' := by have := lt_of_get? hy; rw [elI.sz x (List.mem_of_getElem? hx)] at this; exact this
                unfold insRow
                rw [← hA, get_wl dD fD (by rw [size_writeAt, e1]; exact hfit) hjl, get_wl (length_flat _ _ _) fV hfit2 hjl]
                by_cases c1 : a < i
                · rw [if_neg (by omega), if_neg (by omega), if_pos c1]; exact hAg a j c1 hjl
                · by_cases c2 : a < i + ys.length
                  · rw [if_neg (by omega), if_pos ⟨by omega, c2⟩, if_neg c1, if_pos c2]
                  · rw [if_pos ⟨by omega, by omega⟩, if_neg c1, if_neg c2]
                    rw [show i + (a - (i + ys.length)) = a - ys.length by omega])
            rw [hli] at hg
            exact ⟨_, rfl, hg⟩
  · have : i = xs.length := by omega
    subst this
    have happ : appendDV bytes k ys (.ref id xs.length 0 xs.length) H nx = some (.ref id (xs.length + ys.length) 0 (xs.length + ys.length), hset H id (.row false k (xs ++ ys)), nx) := by
      unfold appendDV
      simp only [hH]
      simp only [true_and, hb1, hb2, and_self, if_true]
    obtain ⟨y, w', hrun, hg⟩ := op_append (ty := ρ.t 24) L.append m hv0 hv2 (ys := ys) (ids := []) rfl hsy happ
    have hvv : ∃ p c, v = .slice p xs.length c ∧ xs.length ≤ c := by
      cases hv0 with | ref _ _ _ _ _ hid hcell href _ =>
      rcases (href _ _ _ hH).2 rfl (by omega) with ⟨hx, _, a, rfl⟩ | ⟨b, cap, ad, hb, rfl, had⟩
      · exact ⟨a, 0, by rw [hx]; rfl, by rw [hx]; exact Nat.le_refl 0⟩
      · refine ⟨_, _, rfl, ?_⟩
        rcases m.h.blk id _ hH with ⟨hx0, hn⟩ | ⟨b', cap', arr, T, h1, h2, h3, h4, h5, h6, vs, h7, h8, h9⟩
        · rw [hb] at hn; cases hn
        · rw [hb] at h1; simp only [Option.some.injEq, Prod.mk.injEq] at h1; obtain ⟨rfl, rfl⟩ := h1
          rw [Nat.sub_zero]; exact h5
    obtain ⟨p, c, rfl, hpc⟩ := hvv
    cases hv2 with | p _ _ hp =>
    obtain ⟨ya, yc, rfl, _, _⟩ := hp.slice_val
    have ei : insAt xs ys xs.length = xs ++ ys := by simp [insAt]
    rw [ei]
    refine (insert_end L hm hpc hrun).mono ?_
    rintro e w'' ⟨rfl, rfl⟩
    exact ⟨_, rfl, hg⟩

theorem insert_okD (L : InsL P ρ k bytes) (hcal : Callable P (ρ.f 22)) {id i : Nat} {H : Heap} {nx : Nat} {xs : List (List DV)} {ys : List (List PV)} {fl : Bool} (hH : aget H id = some (.rowd false k xs)) (hi : i ≤ xs.length) (hne : ys ≠ []) (hsy : allSz k ys = true)
    (hb1 : (xs.length + ys.length) * bytes ≤ maxBytes) (hb2 : xs.length + ys.length ≤ maxBytes) :
    ByrefOK P (ρ.f 22) [.ref id xs.length 0 xs.length, .p (.int .i64 i), .p (.slice fl ys)] H nx (.ref id (xs.length + ys.length) 0 (xs.length + ys.length)) (hset H id (.rowd false k (insAt xs (liftD ys) i))) nx := by
  refine ⟨hcal, fun B w0 U0 β w vl m hvs hrep => ?_⟩
  have hv0 := hrep 0 _ rfl
  have hv1 := (hrep 1 _ rfl).int_inv
  have hv2 := hrep 2 _ rfl
  have hvs1 : vl = #[vl.getD 0 undef, vl.getD 1 undef, vl.getD 2 undef] := by
    apply Array.ext
    · simpa using hvs
    · intro i h1 h2
      have hi : i = 0 ∨ i = 1 ∨ i = 2 := by simp at h2; omega
      rcases hi with rfl | rfl | rfl <;> simp [h1]
  rw [hvs1, hv1]
  generalize vl.getD 0 undef = v at hv0
  generalize vl.getD 2 undef = u at hv2
  have hm : 0 < ys.length := List.length_pos_iff.2 hne
  have hk := L.hk
  have hnn : ∀ (p : Option Addr) (n c : Nat), v = .slice p n c → True := fun _ _ _ _ => trivial
  rcases Nat.lt_or_ge i xs.length with hlt | hge
  · have hself := hv0
    cases hv0 with | ref _ _ _ _ _ hid hcell _ href =>
    have href := (href _ _ _ hH).2 rfl (by omega)
    rcases href with ⟨hx, _, _⟩ | ⟨b, cap, ad, hb, rfl, had⟩
    · rw [hx] at hlt; simp at hlt
    · obtain rfl := had (.inl (by omega))
      rcases m.h.blk id _ hH with ⟨hx0, hn⟩ | ⟨b', cap', arr, T, h1, h2, h3, h4, h5, h6, vs, h7, h8, h9⟩
      · rw [hb] at hn; cases hn
      · rw [hb] at h1; simp only [Option.some.injEq, Prod.mk.injEq] at h1; obtain ⟨rfl, rfl⟩ := h1
        have el0 : ElemsD w (Own U0 β H) β H nx k xs vs := ⟨h8, h9, h6⟩
        have key : ∀ a j, a < xs.length → j < k → arr[a * k + j]? = some (vs a j) := by
          intro a j ha hj
          have hx := List.getElem?_eq_getElem ha
          have hl := h6 _ (List.getElem_mem ha)
          exact h7 a _ j _ hx (List.getElem?_eq_getElem (by omega))
        have hone : ∀ a j, a < xs.length → j < k → (vs a j).oneCell' = true := by
          intro a j ha hj
          have hx := List.getElem?_eq_getElem ha
          have hl := h6 _ (List.getElem_mem ha)
          exact h8 a _ j _ hx (List.getElem?_eq_getElem (by omega))
        cases hv2 with | p _ _ hp =>
        cases hp with
        | none => simp at hm
        | slice _ _ vb voff vc sz' varr vT vfz us hne' hcy hfy hvb hvu hszy hvy h1y hry =>
          have hss : sz' = k := by
            cases ys with
            | nil => simp at hm
            | cons y r => rw [← hszy y (by simp), allSz_mem hsy y (by simp)]
          subst hss
          have ely : ElemsD w (Own U0 β H) β H nx sz' (liftD ys) us := lift_elems h1y hry hszy
          have hvne : vb ≠ b := fun e => hvu (by subst e; exact .inr ⟨id, _, cap, hH, rfl, hb⟩)
          have keyy : ∀ a j, a < ys.length → j < sz' → varr[voff + a * sz' + j]? = some (us a j) := by
            intro a j ha hj
            have hx := List.getElem?_eq_getElem ha
            have hl := hszy _ (List.getElem_mem ha)
            exact hvy a _ j _ hx (List.getElem?_eq_getElem (by omega))
          have honey : ∀ a j, a < ys.length → j < sz' → (us a j).oneCell' = true := by
            intro a j ha hj
            have hx := List.getElem?_eq_getElem ha
            have hl := hszy _ (List.getElem_mem ha)
            exact h1y a _ j _ hx (List.getElem?_eq_getElem (by omega))
          have cV : ∀ j v, (flat ys.length sz' us)[j]? = some v → varr[voff + j]? = some v := by
            intro j v hj
            obtain ⟨g1, g2, g3, rfl⟩ := get_flat_inv us hj
            have := keyy _ _ g2 g3
            rwa [Nat.add_assoc, Nat.mul_comm, Nat.div_add_mod] at this
          have oV : ∀ v ∈ flat ys.length sz' us, v.oneCell' = true := by
            intro v hv
            obtain ⟨j, hj⟩ := List.mem_iff_getElem?.1 hv
            obtain ⟨g1, g2, g3, rfl⟩ := get_flat_inv us hj
            exact honey _ _ g2 g3
          have hli : (insAt xs (liftD ys) i).length = xs.length + ys.length := by rw [insAt_length _ _ (by omega), liftD_length]
          have cF : ∀ j v, (flat xs.length sz' vs)[j]? = some v → arr[0 + j]? = some v := by
            intro j v hj
            obtain ⟨g1, g2, g3, rfl⟩ := get_flat_inv vs hj
            have := key _ _ g2 g3
            rw [Nat.zero_add]; rwa [Nat.mul_comm, Nat.div_add_mod] at this
          have oF : ∀ v ∈ flat xs.length sz' vs, v.oneCell' = true := by
            intro v hv
            obtain ⟨j, hj⟩ := List.mem_iff_getElem?.1 hv
            obtain ⟨g1, g2, g3, rfl⟩ := get_flat_inv vs hj
            exact hone _ _ g2 g3
          have dD : ((flat xs.length sz' vs).drop (i * sz')).length = (xs.length - i) * sz' := by rw [List.length_drop, length_flat, Nat.sub_mul]
          have fD : ∀ a j, a < xs.length - i → j < sz' → ((flat xs.length sz' vs).drop (i * sz'))[a * sz' + j]? = some (vs (i + a) j) := by
            intro a j ha hj
            rw [List.getElem?_drop, ← Nat.add_assoc, ← Nat.add_mul]
            exact get_flat vs (by omega) hj
          have fV : ∀ a j, a < ys.length → j < sz' → (flat ys.length sz' us)[a * sz' + j]? = some (us a j) := fun a j ha hj => get_flat us ha hj
          have elI := elems_insD el0 ely (i := i) (by omega)
          rw [liftD_length] at elI
          simp only [Nat.zero_mul, Nat.sub_zero]
          have e1 : (i + ys.length) + (xs.length - i) = xs.length + ys.length := by omega
          by_cases hroom : xs.length + ys.length ≤ cap
          · have hfit : (xs.length + ys.length) * sz' ≤ arr.size := by rw [h4]; exact Nat.mul_le_mul_right _ hroom
            have hfit2 : (i + ys.length) * sz' ≤ arr.size := Nat.le_trans (Nat.mul_le_mul_right _ (by omega)) hfit
            have hcalls := insert_shift L (w := w) (b := b) (off := 0) (n := xs.length) (c := cap) (i := i) (vb := vb) (voff := voff) (m := ys.length) (vc := vc) hlt hm hroom (by unfold maxBytes at hb2; omega) h3 (by rw [Nat.zero_add]; exact hfit) hvb hvne
              ((flat xs.length sz' vs).drop (i * sz')) (flat ys.length sz' us) dD (length_flat _ _ _) (fun j v hj => by rw [List.getElem?_drop] at hj; rw [Nat.add_assoc]; exact cF _ _ hj) cV (fun v hv => oF v (List.mem_of_mem_drop hv)) oV
            refine hcalls.mono ?_
            rintro e w' ⟨rfl, rfl⟩
            have m1 := m.call (below_drew w.heap.size w)
            have hg : Good B w0 U0 H nx β w.drew (.ref id (insAt xs (liftD ys) i).length 0 (insAt xs (liftD ys) i).length) (hset H id (.rowd false sz' (insAt xs (liftD ys) i))) nx (.slice (some ⟨b, 0, none⟩) (xs.length + ys.length) cap) (setArr w.drew b (writeAt (writeAt arr (0 + (i + ys.length) * sz') ((flat xs.length sz' vs).drop (i * sz'))) (0 + i * sz') (flat ys.length sz' us)) T (0, 0)) := by
              refine rowd_written m1.1 hH hb h2 h3 (by rw [size_writeAt, size_writeAt, h4]) (by rw [hli]; exact hroom) (by rw [hli]; omega) _ (elI.evo m1.2 (Evo.refl _ _ _)) (fun a x j y hx hy => ?_) _ _ (fun H' hH' he hk => ?_)
              · have hal : a < xs.length + ys.length := by have := lt_of_get? hx; rwa [hli] at this
                have hjl : j < sz' := by have := lt_of_get? hy; rw [elI.sz x (List.mem_of_getElem? hx)] at this; exact this
                rw [Nat.zero_add, Nat.zero_add, get_wl (length_flat _ _ _) fV (by rw [size_writeAt]; exact hfit2) hjl, get_wl dD fD (by rw [e1]; exact hfit) hjl]
                by_cases c1 : a < i
                · rw [if_neg (by omega), if_neg (by omega), if_pos c1]; exact key a j (by omega) hjl
                · by_cases c2 : a < i + ys.length
                  · rw [if_pos ⟨by omega, c2⟩, if_neg c1, if_pos c2]
                  · rw [if_neg (by omega), if_pos ⟨by omega, by omega⟩, if_neg c1, if_neg c2]
                    rw [show i + (a - (i + ys.length)) = a - ys.length by omega]
              · subst hH'
                refine .ref id _ 0 _ _ hid rfl (fun fz sz'' xs' h => by rw [aget_hset, if_pos rfl, hH] at h; cases h) (fun fz sz'' xs' h => ?_)
                rw [aget_hset, if_pos rfl, hH] at h
                simp only [Option.map_some, Option.some.injEq, Blk.rowd.injEq] at h
                obtain ⟨_, rfl, rfl⟩ := h
                rw [← hli]
                exact ⟨Nat.le_refl _, fun _ _ => .inr ⟨b, cap, some ⟨b, 0, none⟩, hb, by simp, fun _ => by simp⟩⟩
            rw [hli] at hg
            obtain ⟨β', m2, kp, ev, dr⟩ := hg
            exact ⟨_, rfl, β', m2, m1.2.trans kp, ev, dr⟩
          · obtain ⟨i0, z, hi0, hz0, hzs, hzb, hzc⟩ := L.i9
            have hcalls := insert_grow L hi0 hz0 hzs hzb hzc (w := w) (b := b) (off := 0) (n := xs.length) (c := cap) (i := i) (vb := vb) (voff := voff) (m := ys.length) (vc := vc) hlt hm h5 (by omega) hb1 hb2 h3 hvb
              (flat xs.length sz' vs) (flat ys.length sz' us) (length_flat _ _ _) (length_flat _ _ _) cF cV oF oV
            refine hcalls.mono ?_
            rintro e w' ⟨rfl, rfl⟩
            have hG := grownCap_ge w (xs.length + ys.length) cap (ρ.t 9)
            generalize grownCap w (xs.length + ys.length) cap (ρ.t 9) = G at hG ⊢
            have tl : ((flat xs.length sz' vs).take (i * sz')).length = i * sz' := by
              rw [List.length_take, length_flat]
              have := Nat.mul_le_mul_right sz' (show i ≤ xs.length by omega)
              omega
            obtain ⟨A, hA⟩ : ∃ A, A = (((flat xs.length sz' vs).take (i * sz')).toArray ++ Builtin.zeroCells z.cells (xs.length + ys.length - i) ++ Builtin.zeroCells z.cells (G - (xs.length + ys.length))) := ⟨_, rfl⟩
            have hAs : A.size = G * sz' := by
              rw [hA]
              simp only [Array.size_append, List.size_toArray, tl, size_zero, hzc]
              rw [← Nat.add_mul, ← Nat.add_mul]; congr 1; omega
            have hAg : ∀ a j, a < i → j < sz' → A[a * sz' + j]? = some (vs a j) := by
              intro a j ha hj
              have h1 : (a + 1) * sz' ≤ i * sz' := Nat.mul_le_mul_right _ (by omega)
              rw [Nat.add_mul, Nat.one_mul] at h1
              rw [hA, Array.getElem?_append_left (by rw [Array.size_append, List.size_toArray, tl]; omega), Array.getElem?_append_left (by rw [List.size_toArray, tl]; omega), List.getElem?_toArray, List.getElem?_take, if_pos (by omega)]
              exact get_flat vs (by omega) hj
            have hfit : (xs.length + ys.length) * sz' ≤ A.size := by rw [hAs]; exact Nat.mul_le_mul_right _ hG
            have hfit2 : (i + ys.length) * sz' ≤ A.size := Nat.le_trans (Nat.mul_le_mul_right _ (by omega)) hfit
            have hg := rowd_moved m hH (insAt xs (liftD ys) i) (by rw [hli]; omega) _ (insRow z sz' xs.length i ys.length G (flat xs.length sz' vs) (flat ys.length sz' us)) G (ρ.t 9) w.drew.drew rfl ((below_drew _ _).trans (below_drew _ _))
              (by unfold insRow; rw [size_writeAt, size_writeAt, ← hA]; exact hAs) (by rw [hli]; exact hG) elI (fun a x j y hx hy => by
                have hal : a < xs.length + ys.length := by have := lt_of_get? hx; rwa [hli] at this
                have hjl : j < sz' := by have := lt_of_get? hy; rw [elI.sz x (List.mem_of_getElem? hx)] at this; exact this
                unfold insRow
                rw [← hA, get_wl dD fD (by rw [size_writeAt, e1]; exact hfit) hjl, get_wl (length_flat _ _ _) fV hfit2 hjl]
                by_cases c1 : a < i
                · rw [if_neg (by omega), if_neg (by omega), if_pos c1]; exact hAg a j c1 hjl
                · by_cases c2 : a < i + ys.length
                  · rw [if_neg (by omega), if_pos ⟨by omega, c2⟩, if_neg c1, if_pos c2]
                  · rw [if_pos ⟨by omega, by omega⟩, if_neg c1, if_neg c2]
                    rw [show i + (a - (i + ys.length)) = a - ys.length by omega])
            rw [hli] at hg
            exact ⟨_, rfl, hg⟩
  · have : i = xs.length := by omega
    subst this
    obtain ⟨i0, z, hi0, hz0, hzs, hzb, hzc⟩ := L.i9
    have hvv : ∃ p c, v = .slice p xs.length c ∧ xs.length ≤ c := by
      cases hv0 with | ref _ _ _ _ _ hid hcell _ href =>
      rcases (href _ _ _ hH).2 rfl (by omega) with ⟨hx, _, a, rfl⟩ | ⟨b, cap, ad, hb, rfl, had⟩
      · exact ⟨a, 0, by rw [hx]; rfl, by rw [hx]; exact Nat.le_refl 0⟩
      · refine ⟨_, _, rfl, ?_⟩
        rcases m.h.blk id _ hH with ⟨hx0, hn⟩ | ⟨b', cap', arr, T, h1, h2, h3, h4, h5, h6, vs, h7, h8, h9⟩
        · rw [hb] at hn; cases hn
        · rw [hb] at h1; simp only [Option.some.injEq, Prod.mk.injEq] at h1; obtain ⟨rfl, rfl⟩ := h1
          rw [Nat.sub_zero]; exact h5
    cases hv2 with | p _ _ hp =>
    obtain ⟨us, sx⟩ := slice_at_pure (P := P) hp hsy
    have ey : ElemsD w (Own U0 β H) β H nx k (liftD ys) us := lift_elems sx.el.one sx.el.rep sx.el.sz
    obtain ⟨y, w', hrun, hg⟩ := append_core (ty := ρ.t 24) L.t24 L.t24 hi0 hz0 hzs hzc m hH hv0 sx ey (liftD_length _).symm (by rw [liftD_length, hzb]; exact hb1) (by rw [liftD_length]; exact hb2)
    rw [liftD_length] at hg
    obtain ⟨p, c, rfl, hpc⟩ := hvv
    obtain ⟨ya, yc, rfl, _, _⟩ := hp.slice_val
    have ei : insAt xs (liftD ys) xs.length = xs ++ liftD ys := by simp [insAt]
    rw [ei]
    refine (insert_end L hm hpc hrun).mono ?_
    rintro e w'' ⟨rfl, rfl⟩
    exact ⟨_, rfl, hg⟩

/-- slices.Insert, function F, of elements of k cells: rows of values, rows of own values. -/
def insX (F : FuncId) (k bytes : Nat) : CallF where
  pure := fun _ _ => none
  byref := fun f args H nx => if f = F then match args with
      | [.ref id ver off n, .p (.int .i64 i), .p (.slice _ ys)] => match aget H id with
        | some (.row false sz xs) => if ver = xs.length ∧ off = 0 ∧ n = xs.length ∧ sz = k ∧ 0 ≤ i ∧ i ≤ xs.length ∧ ys.isEmpty = false ∧ allSz k ys = true ∧ (xs.length + ys.length) * bytes ≤ maxBytes ∧ xs.length + ys.length ≤ maxBytes then
            some (.ref id (xs.length + ys.length) 0 (xs.length + ys.length), hset H id (.row false k (insAt xs ys i.toNat)), nx) else none
        | some (.rowd false sz xs) => if ver = xs.length ∧ off = 0 ∧ n = xs.length ∧ sz = k ∧ 0 ≤ i ∧ i ≤ xs.length ∧ ys.isEmpty = false ∧ allSz k ys = true ∧ (xs.length + ys.length) * bytes ≤ maxBytes ∧ xs.length + ys.length ≤ maxBytes then
            some (.ref id (xs.length + ys.length) 0 (xs.length + ys.length), hset H id (.rowd false k (insAt xs (liftD ys) i.toNat)), nx) else none
        | _ => none
      | _ => none
    else none

theorem insX_ok (L : InsL P ρ k bytes) {F : FuncId} (hF : ρ.f 22 = F) (hcal : Callable P F) : CallsOK P (insX F k bytes) := by
  refine ⟨fun f args r h => (by cases h), fun f args H nx r H' nx' h => ?_⟩
  simp only [insX] at h
  split at h
  · rename_i e; subst e
    split at h
    · rename_i id ver off n i fl ys
      split at h
      · rename_i sz xs hH
        split at h
        · rename_i hc
          obtain ⟨rfl, rfl, rfl, rfl, h0, h1, h2, h3, h4, h5⟩ := hc
          cases h
          obtain ⟨i, rfl⟩ := Int.eq_ofNat_of_zero_le h0
          subst hF
          exact insert_ok L hcal hH (by omega) (by intro e; rw [e] at h2; simp at h2) h3 h4 h5
        · cases h
      · rename_i sz xs hH
        split at h
        · rename_i hc
          obtain ⟨rfl, rfl, rfl, rfl, h0, h1, h2, h3, h4, h5⟩ := hc
          cases h
          obtain ⟨i, rfl⟩ := Int.eq_ofNat_of_zero_le h0
          subst hF
          exact insert_okD L hcal hH (by omega) (by intro e; rw [e] at h2; simp at h2) h3 h4 h5
        · cases h
      · cases h
    · cases h
  · cases h

end
end Go.Dv
