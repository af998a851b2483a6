/-
  A loop that lays a map's keys into a row, in whatever order.
-/
import Derived.Test.YtphkbgjnhfidlaaGreatRegionS
import Derived.Maps.RangeRun
set_option linter.unusedVariables false
set_option linter.unusedSimpArgs false
namespace Go.Dv
open Go.RowKit

theorem hset_hset (H : Heap) (i : Nat) (a b : Blk) : hset (hset H i a) i b = hset H i b := by
  induction H with
  | nil => rfl
  | cons x r ih =>
    obtain ⟨k, v⟩ := x
    simp only [hset]
    by_cases h : k = i
    · subst h; simp [hset]
    · have : (k == i) = false := by simpa using h
      simp only [this, Bool.false_eq_true, if_false, hset, ih]

section
variable {P : Program} {B : Nat} {w0 : World} {U0 : Nat → Prop} {β : Place} {w : World} {nt : Cx} {s : St} {a : Act} {cf : CallF}

theorem wl_step {ops : Array Oper} {Q : Exit → Act → World → Prop} {o : Oper} {os : List Oper} {x : Value} {w' : World} (hg : o.guard = none) (hr : (execOp a.eval o).run P w = .ok (.value x) w') (h : wpList P ops Q os (a.put o.dst x) w') : wpList P ops Q (o :: os) a w := by
  have hw : Region.wanted o (yielded ops a.tmps) = true := by simp [Region.wanted, hg]
  simp only [wpList, hw, if_true]
  exact .inl (wp_of_run hr h)

theorem put_eval (a : Act) (k : Nat) (v : Value) (h : k < a.tmps.size) : (a.put (some k) v).eval (.tmp k) = v := by
  simp [Act.eval, Act.put, h]
theorem put_eval_ne (a : Act) {k j : Nat} (v : Value) (h : k ≠ j) : (a.put (some k) v).eval (.tmp j) = a.eval (.tmp j) := by
  simp only [Act.eval, Act.put, Array.getD_eq_getD_getElem?]
  rw [Array.getElem?_setIfInBounds_ne h]
theorem put_size (a : Act) (k : Option Nat) (v : Value) : (a.put k v).tmps.size = a.tmps.size := by
  cases k <;> simp [Act.put]

/-- A slot that is not spoken of may take any value. -/
theorem Gam.putHid (g : Gam B w0 U0 nt β s a w) {k : Nat} (hk : aget s.env k = none) (x : Value) : Gam B w0 U0 nt β s (a.put (some k) x) w := by
  refine ⟨g.mem, fun i d hd => ?_, by rw [put_size]; exact g.size, g.defers, g.keeps, g.evo, g.marks⟩
  obtain ⟨v, h1, h2⟩ := g.env i d hd
  refine ⟨v, ?_, h2⟩
  have : k ≠ i := fun e => by rw [e, hd] at hk; cases hk
  simp only [Act.put]
  rw [Array.getElem?_setIfInBounds_ne this]
  exact h1

theorem Gam.world (g : Gam B w0 U0 nt β s a w) {w' : World} (hb : Below w.heap.size w w') : Gam B w0 U0 nt β s a w' := by
  obtain ⟨m, k⟩ := g.mem.call hb
  exact ⟨m, fun i d hd => by
    obtain ⟨v, h1, h2⟩ := g.env i d hd
    exact ⟨v, h1, h2.evo k (Evo.refl _ _ _)⟩, g.size, g.defers, g.keeps.trans k, g.evo, g.marks⟩

/-- An iterator moves. -/
theorem Gam.iter (g : Gam B w0 U0 nt β s a w) {r : Nat} {m : Option Nat} {sn : Nat} {se : Array Nat} {c : Nat} (hr : w.heap[r]? = some (.mapIter m sn se c)) (hB : B ≤ r) (o : Obj) (ho : ¬ IsC o) : Gam B w0 U0 nt β s a { w with heap := w.heap.setIfInBounds r o } := by
  have hk : ∀ U : Nat → Prop, Keeps w U { w with heap := w.heap.setIfInBounds r o } U := by
    intro U
    refine ⟨fun b o' hc _ h => ?_, fun _ _ _ h _ => h⟩
    rw [heap_setObj, if_neg ?_]
    · exact h
    · rintro ⟨rfl, _⟩
      rw [hr] at h; cases h
      obtain ⟨_, _, _, e⟩ := hc
      cases e
  have hm : Mem B w0 U0 β s.heap s.next { w with heap := w.heap.setIfInBounds r o } := by
    refine ⟨g.mem.below.trans (below_setObj hB o), by simpa using g.mem.bsize, g.mem.u0, ⟨g.mem.h.lt, fun id blk hb => ?_, g.mem.h.inj⟩⟩
    have hr2 := g.mem.h.blk id blk hb
    refine hr2.carry (hk _) (Evo.refl _ _ _) rfl fun b c' o' hb' h' => ?_
    rw [heap_setObj, if_neg ?_]
    · exact h'
    · rintro ⟨rfl, _⟩
      cases blk with
      | var f cs => obtain ⟨b', q, arr, T, k1, k2, k3, _⟩ := hr2; rw [hb'] at k1; simp only [Option.some.injEq, Prod.mk.injEq] at k1; obtain ⟨rfl, rfl⟩ := k1; rw [hr] at k3; cases k3
      | row f sz xs =>
        rcases hr2 with ⟨_, k1⟩ | ⟨b', q, arr, T, k1, k2, k3, _⟩
        · rw [hb'] at k1; cases k1
        · rw [hb'] at k1; simp only [Option.some.injEq, Prod.mk.injEq] at k1; obtain ⟨rfl, rfl⟩ := k1; rw [hr] at k3; cases k3
      | rowd f sz xs =>
        rcases hr2 with ⟨_, k1⟩ | ⟨b', q, arr, T, k1, k2, k3, _⟩
        · rw [hb'] at k1; cases k1
        · rw [hb'] at k1; simp only [Option.some.injEq, Prod.mk.injEq] at k1; obtain ⟨rfl, rfl⟩ := k1; rw [hr] at k3; cases k3
      | map f kv => obtain ⟨b', q, es, cl, k1, k2, k3, _⟩ := hr2; rw [hb'] at k1; simp only [Option.some.injEq, Prod.mk.injEq] at k1; obtain ⟨rfl, rfl⟩ := k1; rw [hr] at k3; cases k3
  exact ⟨hm, fun i d hd => by
    obtain ⟨v, h1, h2⟩ := g.env i d hd
    exact ⟨v, h1, h2.evo (hk _) (Evo.refl _ _ _)⟩, g.size, g.defers, g.keeps.trans (hk _), g.evo, g.marks⟩

theorem below_drew' (w : World) : Below w.heap.size w w.drew := below_drew _ _

theorem Gam.lessR (g : Gam B w0 U0 nt β s a w) {H' : Heap} (l : Less s.heap H') {env' : Env} (he : ∀ k d, aget env' k = some d → aget s.env k = some d) : Gam B w0 U0 nt β { s with env := env', heap := H' } a w :=
  ⟨g.mem.less l, fun k d hd => by
    obtain ⟨v, h1, h2⟩ := g.env k d (he k d hd)
    exact ⟨v, h1, h2.evo (l.keeps w) (l.evo (Nat.le_refl _))⟩, g.size, g.defers, g.keeps.trans (l.keeps w), g.evo.trans (l.evo (Nat.le_refl _)), g.marks⟩

/-! ### what is left -/

def keyI (e : MapEntry) : Int := intOf e.key

theorem left_perm : ∀ (l : List MapEntry), l.Pairwise (fun x y => x.born ≠ y.born) → ∀ e ∈ l, l.Perm (e :: l.filter fun x => x.born != e.born)
  | [], _, e, h => by cases h
  | x :: r, hp, e, h => by
    obtain ⟨h1, h2⟩ := List.pairwise_cons.1 hp
    rcases List.mem_cons.1 h with rfl | h
    · have : (e :: r).filter (fun x => x.born != e.born) = r := by
        rw [List.filter_cons_of_neg (by simp)]
        rw [List.filter_eq_self]
        intro y hy
        have := h1 y hy
        simp only [bne_iff_ne, ne_eq]
        exact fun e => this e.symm
      rw [this]
    · have ih := left_perm r h2 e h
      have hne : x.born ≠ e.born := h1 e h
      rw [List.filter_cons_of_pos (by simpa using hne)]
      exact (List.Perm.cons x ih).trans (List.Perm.swap e x _)

theorem leftOf_push (es : Array MapEntry) (seen : Array Nat) (b : Nat) : (leftOf es (seen.push b)).toList = (leftOf es seen).toList.filter fun x => x.born != b := by
  unfold leftOf
  rw [Array.toList_filter, Array.toList_filter, List.filter_filter]
  apply List.filter_congr
  intro x _
  rw [Array.contains_push]
  by_cases h : x.born = b
  · simp [h]
  · have h2 : (x.born == b) = false := by simpa using h
    simp [h, h2, bne]

theorem keysSt_env {s : St} {h id0 : Nat} {l : List Int} {k : Nat} (hk : k ≠ h) : aget (keysSt s h id0 l).env k = aget s.env k := by
  unfold keysSt
  simp only [aget_eset]
  rw [if_neg (fun e => hk e.symm)]
theorem keysSt_h {s : St} {h id0 : Nat} {l : List Int} : aget (keysSt s h id0 l).env h = some (.ref id0 l.length 0 l.length) := by
  unfold keysSt
  simp only [aget_eset, if_true]

/-- One key laid into the row. -/
theorem keys_lay {h id0 : Nat} {l : List Int} {z : Int} {ks : Nat} {f1 f2 f3 f4 : Nat} {bt : TypeId} {ps : Array (Nat × Operand)} {cl : Call} {t1 t2 t3 t4 t5 : TypeId} {p1 p2 p3 p4 p5 : String} {d1 d2 d3 d4 d5 : Array Edge} {x : Nat} {r4 : Array Oper}
    (hr4 : r4.toList = [⟨some f1, .move (.tmp h), t1, p1, d1, none⟩, ⟨some f2, .move (.tmp x), t2, p2, d2, none⟩, ⟨some f3, .buildSlice bt 1 ps, t3, p3, d3, none⟩, ⟨some f4, .call cl, t4, p4, d4, none⟩, ⟨some h, .assign (.tmp f4), t5, p5, d5, none⟩])
    (hps : ps.toList = [(0, .tmp f2)]) (hcl : isBuiltin cl .append = true) {tt tt2 : TypeId} (hargs : cl.args.toList = [.tmp f1, .tmp f3]) (hts : cl.argTypes.toList = [tt, tt2]) (happ : appendOK P tt tt2 8 1 = true) {e : TypeId} (hse : sliceElem P bt = some e) (hzo : zeroOK P e [.int .i64 0] = true)
    (hd : [f1, f2, f3, f4, x, h].Nodup) (hlt : f1 < nt.n ∧ f2 < nt.n ∧ f3 < nt.n ∧ f4 < nt.n ∧ h < nt.n)
    (g : Gam B w0 U0 nt β (keysSt s h id0 l) a w) {b0 : Blk} (hH : aget s.heap id0 = some b0) (e1 : aget s.env f1 = none) (e2 : aget s.env f2 = none) (e3 : aget s.env f3 = none) (e4 : aget s.env f4 = none) (hx : a.eval (.tmp x) = .int .i64 z) (hsz : (l.length + 1) * 8 ≤ maxBytes)
    {id : Nat} {Q : Exit → Act → World → Prop} (hQ : ∀ a' w' β', Gam B w0 U0 nt β' (keysSt s h id0 (l ++ [z])) a' w' → Others w w' → (∀ j, j ∉ [f1, f2, f3, f4, h] → a'.eval (.tmp j) = a.eval (.tmp j)) → Q .normal a' w') : (Code.region id r4 false).wp P Q a w := by
  simp only [List.nodup_cons, List.mem_cons, List.not_mem_nil, or_false, not_or, List.nodup_nil, and_true, not_false_eq_true] at hd
  obtain ⟨⟨n1, n2, n3, n4, n5⟩, ⟨n6, n7, n8, n9⟩, ⟨n10, n11, n12⟩, ⟨n13, n14⟩, n15⟩ := hd
  obtain ⟨l1, l2, l3, l4, lh⟩ := hlt
  have q1 : aget (keysSt s h id0 l).env f1 = none := by rw [keysSt_env n5]; exact e1
  have q2 : aget (keysSt s h id0 l).env f2 = none := by rw [keysSt_env n9]; exact e2
  have q3 : aget (keysSt s h id0 l).env f3 = none := by rw [keysSt_env n12]; exact e3
  have q4 : aget (keysSt s h id0 l).env f4 = none := by rw [keysSt_env n14]; exact e4
  refine wp_region_list ?_
  rw [hr4]
  obtain ⟨vh, hv1, hv2⟩ := g.env h _ keysSt_h
  have hvh : a.eval (.tmp h) = vh := by simp [Act.eval, Array.getD_eq_getD_getElem?, hv1]
  refine wl_step rfl (x := vh) (w' := w) (by simp [execOp, hvh]) ?_
  have g1 := g.putHid q1 vh
  obtain ⟨a1, ha1⟩ : ∃ a1, a1 = a.put (some f1) vh := ⟨_, rfl⟩
  have s0 : a.tmps.size = nt.n := g.size
  have c1 : a1.eval (.tmp f1) = vh := by rw [ha1]; exact put_eval _ _ _ (by omega)
  have c2 : a1.eval (.tmp x) = .int .i64 z := by rw [ha1, put_eval_ne _ _ n4]; exact hx
  have o1 : ∀ j, j ≠ f1 → a1.eval (.tmp j) = a.eval (.tmp j) := fun j hj => by rw [ha1]; exact put_eval_ne _ _ (fun e => hj e.symm)
  change wpList P r4 Q _ (a.put (some f1) vh) w
  rw [← ha1] at g1 ⊢
  refine wl_step rfl (x := .int .i64 z) (w' := w) (by simp [execOp, c2]) ?_
  have g2 := g1.putHid q2 (.int .i64 z)
  obtain ⟨a2, ha2⟩ : ∃ a2, a2 = a1.put (some f2) (.int .i64 z) := ⟨_, rfl⟩
  have s1 : a1.tmps.size = nt.n := g1.size
  have c3 : a2.eval (.tmp f2) = .int .i64 z := by rw [ha2]; exact put_eval _ _ _ (by omega)
  have c4 : a2.eval (.tmp f1) = vh := by rw [ha2, put_eval_ne _ _ (fun e => n1 e.symm)]; exact c1
  have o2 : ∀ j, j ≠ f1 → j ≠ f2 → a2.eval (.tmp j) = a.eval (.tmp j) := fun j hj hj2 => by rw [ha2, put_eval_ne _ _ (fun e => hj2 e.symm)]; exact o1 j hj
  change wpList P r4 Q _ (a1.put (some f2) (.int .i64 z)) w
  rw [← ha2] at g2 ⊢
  -- the literal
  have hpe : (ps.map fun p => (p.1, a2.eval p.2)).toList = [(0, .int .i64 z)] := by
    rw [Array.toList_map, hps]; simp [c3]
  obtain ⟨y3, w3, hr3, hg3, ho3⟩ := op_buildSliceO (P := P) (sliceElem_some hse) (zero := [.int .i64 0]) hzo (by decide) (len := 1) (by decide) g2.mem (l := [(0, .p (.int .i64 z))]) (parts := ps.map fun p => (p.1, a2.eval p.2))
    (by rw [hpe]; exact ⟨rfl, .p _ _ (.int _ _), trivial⟩) (by simp) (xs := [[.int .i64 z]]) (by simp [litElems, pur, dep, PV.cellsOf, PV.isCell])
  have hrun3 : (execOp a2.eval ⟨some f3, .buildSlice bt 1 ps, t3, p3, d3, none⟩).run P w = .ok (.value y3) w3 := by
    simp only [execOp, Sem.run_bind, hr3, Result.andThen_ok, Sem.run_pure]
  refine wl_step rfl hrun3 ?_
  obtain ⟨β3, g3⟩ := g2.step hg3 (dst := some f3) (by intro k hk; cases hk; exact l3)
  simp only [eput, List.map_cons, List.map_nil, List.flatMap_cons, List.flatMap_nil, tch, dep, List.append_nil, frz, List.length_cons, List.length_nil, Nat.sub_self, List.replicate_zero] at g3
  obtain ⟨a3, ha3⟩ : ∃ a3, a3 = a2.put (some f3) y3 := ⟨_, rfl⟩
  have c5 : a3.eval (.tmp f1) = vh := by rw [ha3, put_eval_ne _ _ (fun e => n2 e.symm)]; exact c4
  have o3 : ∀ j, j ≠ f1 → j ≠ f2 → j ≠ f3 → a3.eval (.tmp j) = a.eval (.tmp j) := fun j hj hj2 hj3 => by rw [ha3, put_eval_ne _ _ (fun e => hj3 e.symm)]; exact o2 j hj hj2
  change wpList P r4 Q _ (a2.put (some f3) y3) w3
  rw [← ha3] at g3 ⊢
  -- append
  obtain ⟨v3, hv3, hd3⟩ := g3.env f3 _ (by rw [aget_eset, if_pos rfl])
  have c6 : a3.eval (.tmp f3) = v3 := by simp [Act.eval, Array.getD_eq_getD_getElem?, hv3]
  obtain ⟨vh', hvh', hdh⟩ := g3.env h _ (by rw [aget_eset, if_neg (by omega)]; exact keysSt_h)
  have c7 : vh' = vh := by
    have h1 : a3.eval (.tmp h) = vh' := by simp [Act.eval, Array.getD_eq_getD_getElem?, hvh']
    have h2 := o3 h (fun e => n5 e.symm) (fun e => n9 e.symm) (fun e => n12 e.symm)
    rw [h1, hvh] at h2; exact h2
  subst c7
  have hrow : aget (keysSt s h id0 l).heap id0 = some (.row false 1 (l.map fun z => [.int .i64 z])) := by
    unfold keysSt
    simp only [aget_hset, if_true, hH, Option.map_some]
  have happd : appendDV 8 1 [[.int .i64 z]] (.ref id0 l.length 0 l.length) (keysSt s h id0 l).heap (keysSt s h id0 l).next = some (.ref id0 (l.length + 1) 0 (l.length + 1), hset (keysSt s h id0 l).heap id0 (.row false 1 ((l.map fun z => [.int .i64 z]) ++ [[.int .i64 z]])), (keysSt s h id0 l).next) := by
    have h1 : l.length + 1 ≤ maxBytes := by unfold maxBytes at hsz ⊢; omega
    unfold appendDV
    simp only [hrow, List.length_map, List.length_cons, List.length_nil, true_and, hsz, h1, Nat.zero_add, and_self, if_true]
  obtain ⟨y4, w4, hr4', hg4, ho4⟩ := op_appendO (ty := t4) happ g3.mem hdh hd3 (ys := [[.int .i64 z]]) (ids := []) rfl rfl happd
  have ea : cl.args = #[.tmp f1, .tmp f3] := by rw [← Array.toArray_toList (xs := cl.args), hargs]
  have et : cl.argTypes = #[tt, tt2] := by rw [← Array.toArray_toList (xs := cl.argTypes), hts]
  have hrun4 : (execOp a3.eval ⟨some f4, .call cl, t4, p4, d4, none⟩).run P w3 = .ok (.value y4) w4 := by
    rw [run_builtin hcl, ea, et]
    simp only [builtin, Sem.run_bind, List.map_toArray, List.map_cons, List.map_nil, c5, c6, hr4', Result.andThen_ok, Sem.run_pure]
  refine wl_step rfl hrun4 ?_
  obtain ⟨β4, g4⟩ := g3.step hg4 (dst := some f4) (by intro k hk; cases hk; exact l4)
  simp only [eput] at g4
  obtain ⟨a4, ha4⟩ : ∃ a4, a4 = a3.put (some f4) y4 := ⟨_, rfl⟩
  have o4 : ∀ j, j ≠ f1 → j ≠ f2 → j ≠ f3 → j ≠ f4 → a4.eval (.tmp j) = a.eval (.tmp j) := fun j hj hj2 hj3 hj4 => by rw [ha4, put_eval_ne _ _ (fun e => hj4 e.symm)]; exact o3 j hj hj2 hj3
  change wpList P r4 Q _ (a3.put (some f4) y4) w4
  rw [← ha4] at g4 ⊢
  -- the row's slot
  obtain ⟨v4, hv4, hd4⟩ := g4.env f4 _ (by rw [aget_eset, if_pos rfl])
  have c8 : a4.eval (.tmp f4) = v4 := by simp [Act.eval, Array.getD_eq_getD_getElem?, hv4]
  refine wl_step rfl (x := v4) (w' := w4) (by simp [execOp, c8]) ?_
  obtain ⟨β5, g5⟩ := g4.step (good_same g4.mem hd4) (dst := some h) (by intro k hk; cases hk; exact lh)
  simp only [eput] at g5
  change wpList P r4 Q [] (a4.put (some h) v4) w4
  simp only [wpList]
  have hheap : (keysSt s h id0 (l ++ [z])).heap = hset (keysSt s h id0 l).heap id0 (.row false 1 ((l.map fun z => [.int .i64 z]) ++ [[.int .i64 z]])) := by
    unfold keysSt
    simp only [hset_hset, List.map_append, List.map_cons, List.map_nil]
  have g6 := g5.lessR (Less.refl _) (env' := (keysSt s h id0 (l ++ [z])).env) (fun k d hk => by
    by_cases hkh : k = h
    · subst hkh
      rw [keysSt_h] at hk
      rw [aget_eset, if_pos rfl]
      simpa using hk
    · rw [keysSt_env hkh] at hk
      have k3 : ¬ f3 = k := fun e => by rw [e] at e3; rw [e3] at hk; cases hk
      have k4 : ¬ f4 = k := fun e => by rw [e] at e4; rw [e4] at hk; cases hk
      rw [aget_eset, if_neg (fun e => hkh e.symm), aget_eset, if_neg k4, aget_eset, if_neg k3, keysSt_env hkh]
      exact hk)
  have hst : keysSt s h id0 (l ++ [z]) = { env := (keysSt s h id0 (l ++ [z])).env, heap := hset (keysSt s h id0 l).heap id0 (.row false 1 ((l.map fun z => [.int .i64 z]) ++ [[.int .i64 z]])), next := (keysSt s h id0 l).next, marks := (keysSt s h id0 l).marks } := by
    rw [← hheap]; rfl
  refine hQ _ _ β5 (by rw [hst]; exact g6) (fun k o hc hh => ho4 k o hc (ho3 k o hc hh)) (fun j hj => ?_)
  simp only [List.mem_cons, List.not_mem_nil, or_false, not_or] at hj
  rw [put_eval_ne _ _ (fun e => hj.2.2.2.2 e.symm)]
  exact o4 j hj.1 hj.2.1 hj.2.2.1 hj.2.2.2.1

/-! ### the loop -/

def LoopIn' (P : Program) (c : Code) (Q : Exit → Act → World → Prop) (a : Act) (w : World) : Prop :=
  ∀ (b : Frame) (k : List Item) (cs : List Frame), ∃ e a' w', Q e a' w' ∧ Arrives P (lone (b.at a (.code c :: .inLoop c :: k)) cs w) b k cs e a' w'

theorem loop_of_in' {c : Code} {Q : Exit → Act → World → Prop} (h : LoopIn' P c Q a w) : (Code.loop c).wp P Q a w := by
  intro b k cs
  obtain ⟨e, a', w', hq, harr⟩ := h b k cs
  exact ⟨e, a', w', hq, .of_steps (.one step_loop) harr⟩

theorem loop_in' {c : Code} {Q : Exit → Act → World → Prop} (h : c.wp P (Exit.then (LoopIn' P c Q) Q) a w) : LoopIn' P c Q a w := by
  intro b k cs
  obtain ⟨e, a₁, w₁, hq, harr⟩ := h b (.inLoop c :: k) cs
  cases e with
  | normal =>
    obtain ⟨e₂, a₂, w₂, hq₂, harr₂⟩ := hq b k cs
    exact ⟨e₂, a₂, w₂, hq₂, .of_steps (Steps.trans harr (.one step_inLoop)) harr₂⟩
  | exit id => exact ⟨_, a₁, w₁, hq, .pass (x := .inLoop c) rfl (fun _ _ => .inl (by simp)) harr⟩
  | goto l => exact ⟨_, a₁, w₁, hq, .pass (x := .inLoop c) rfl (fun _ _ => .inl (by simp)) harr⟩
  | ret => exact ⟨_, a₁, w₁, hq, .pass (x := .inLoop c) rfl (fun _ _ => .inl (by simp)) harr⟩
  | panic ch => exact ⟨_, a₁, w₁, hq, .pass (x := .inLoop c) rfl (fun _ _ => .inl (by simp)) harr⟩
  | outgrown => exact ⟨_, a₁, w₁, hq, .pass (x := .inLoop c) rfl (fun _ _ => .inl (by simp)) harr⟩

theorem not_isC_iter {m : Option Nat} {sn : Nat} {se : Array Nat} {c : Nat} : ¬ IsC (.mapIter m sn se c) := by rintro ⟨_, _, _, e⟩; cases e
theorem not_isC_map {es : Array MapEntry} {c : Nat} : ¬ IsC (.map es c) := by rintro ⟨_, _, _, e⟩; cases e

theorem born_nodup {es : Array MapEntry} {clock : Nat} (h : Born es clock) : (es.toList.map (·.born)).Nodup := by
  show List.Pairwise (· ≠ ·) _
  rw [List.pairwise_map]
  exact h.2

theorem matchKeys_spec {n : Nat} {m h : Nat} {tmps : List Nat} {A : Code} (hm : matchKeys P n m h tmps A = true) :
    ∃ (i1 out i2 nx i3 i4 : Nat) (r1 r2 r3 r4 : Array Oper) (k1 it n1 n2 e1 e2 x f1 f2 f3 f4 : Nat) (mt bt : TypeId) (ps : Array (Nat × Operand)) (cl : Call) (T1 T2 T3 T4 T5 T6 T7 T8 T9 T10 T11 T12 : TypeId) (P1 P2 P3 P4 P5 P6 P7 P8 P9 P10 P11 P12 : String) (D1 D2 D3 D4 D5 D6 D7 D8 D9 D10 D11 D12 : Array Edge) (tt tt2 ee et : TypeId),
      A = .seq (.region i1 r1 false) (.block out (.loop (.seq (.region i2 r2 false) (.seq (.cond (.tmp n2) .skip (.exit out)) (.block nx (.seq (.region i3 r3 false) (.region i4 r4 false))))))) ∧
      r1.toList = [⟨some k1, .move (.tmp m), T1, P1, D1, none⟩, ⟨some it, .range mt (.tmp k1), T2, P2, D2, none⟩] ∧
      r2.toList = [⟨some n1, .next (.tmp it) false, T3, P3, D3, none⟩, ⟨some n2, .extract (.tmp n1) 0, T4, P4, D4, none⟩] ∧
      r3.toList = [⟨some e1, .entry (.tmp it), T5, P5, D5, none⟩, ⟨some e2, .extract (.tmp e1) 0, T6, P6, D6, none⟩, ⟨some x, .assign (.tmp e2), T7, P7, D7, none⟩] ∧
      r4.toList = [⟨some f1, .move (.tmp h), T8, P8, D8, none⟩, ⟨some f2, .move (.tmp x), T9, P9, D9, none⟩, ⟨some f3, .buildSlice bt 1 ps, T10, P10, D10, none⟩, ⟨some f4, .call cl, T11, P11, D11, none⟩, ⟨some h, .assign (.tmp f4), T12, P12, D12, none⟩] ∧
      ps.toList = [(0, .tmp f2)] ∧ isBuiltin cl .append = true ∧ cl.args.toList = [.tmp f1, .tmp f3] ∧ cl.argTypes.toList = [tt, tt2] ∧ appendOK P tt tt2 8 1 = true ∧ sliceElem P bt = some ee ∧ zeroOK P ee [.int .i64 0] = true ∧ mapTo P mt = some et ∧
      tmps = [k1, it, n1, n2, e1, e2, x, f1, f2, f3, f4] ∧ [k1, it, n1, n2, e1, e2, x, f1, f2, f3, f4].Nodup ∧ [k1, it, n1, n2, e1, e2, x, f1, f2, f3, f4].contains h = false ∧ (∀ t, t ∈ [k1, it, n1, n2, e1, e2, x, f1, f2, f3, f4] → t < n) ∧ h < n := by
  unfold matchKeys at hm
  split at hm
  case h_2 => cases hm
  split at hm
  case h_2 => cases hm
  simp only [Bool.and_eq_true, beq_iff_eq, decide_eq_true_eq, Bool.not_eq_true', List.all_eq_true] at hm
  obtain ⟨⟨⟨⟨⟨⟨hps, hcl⟩, hargs⟩, hbt⟩, hmt⟩, ⟨⟨⟨⟨⟨⟨⟨⟨⟨⟨⟨⟨rfl, rfl⟩, rfl⟩, rfl⟩, rfl⟩, rfl⟩, rfl⟩, rfl⟩, rfl⟩, rfl⟩, rfl⟩, rfl⟩, rfl⟩⟩, ⟨⟨⟨htm, hnd⟩, hch⟩, hall⟩, hhn⟩ := hm
  subst htm
  obtain ⟨et, het⟩ := Option.isSome_iff_exists.1 hmt
  split at hargs
  case h_2 => cases hargs
  simp only [Bool.and_eq_true, beq_iff_eq] at hargs
  obtain ⟨⟨rfl, rfl⟩, happ⟩ := hargs
  split at hps
  case h_2 => cases hps
  simp only [beq_iff_eq] at hps
  subst hps
  split at hbt
  case h_2 => cases hbt
  exact ⟨_, _, _, _, _, _, _, _, _, _, _, _, _, _, _, _, _, _, _, _, _, _, _, _, _, _, _, _, _, _, _, _, _, _, _, _, _, _, _, _, _, _, _, _, _, _, _, _, _, _, _, _, _, _, _, _, _, _, _, _, _, _, _, _, _, rfl, by assumption, by assumption, by assumption, by assumption, by assumption, hcl, by assumption, by assumption, happ, by assumption, hbt, het, rfl, hnd, hch, hall, hhn⟩

theorem keys_sound {m h : Nat} {tmps : List Nat} {A : Code} (hm : matchKeys P nt.n m h tmps A = true) (g : Gam B w0 U0 nt β s a w) {id0 : Nat} {ks : List Int} (hok : keysOK s m h tmps = some (id0, ks))
    {Q : Exit → Act → World → Prop} (hQ : ∀ (l : List Int) a' w' β', l.Perm ks → Gam B w0 U0 nt β' (keysSt s h id0 l) a' w' → Q .normal a' w') : A.wp P Q a w := by
  obtain ⟨i1, out, i2, nx, i3, i4, r1, r2, r3, r4, k1, it, n1, n2, e1, e2, x, f1, f2, f3, f4, mt, bt, ps, cl, T1, T2, T3, T4, T5, T6, T7, T8, T9, T10, T11, T12, P1, P2, P3, P4, P5, P6, P7, P8, P9, P10, P11, P12, D1, D2, D3, D4, D5, D6, D7, D8, D9, D10, D11, D12, tt, tt2, ee, et, rfl, E1, E2, E3, E4, hP, hcl, hA, hT, happ, hse, hbt, het, rfl, hnd, hch, hall, hhn⟩ := matchKeys_spec hm
  obtain ⟨kt, hu, hkt⟩ := mapTo_some het
  unfold keysOK at hok
  split at hok
  case h_2 => cases hok
  rename_i id off hmv
  split at hok
  case h_2 => cases hok
  rename_i fz kv id0' ver off' k hH hh
  split at hok
  case h_2 => cases hok
  rename_i sz xs hrow
  split at hok
  case isFalse => cases hok
  rename_i hc
  obtain ⟨rfl, hxs, rfl, rfl, rfl, hsz, htn⟩ := hc
  simp only [Option.some.injEq, Prod.mk.injEq] at hok
  obtain ⟨rfl, rfl⟩ := hok
  have hx0 : xs = [] := by simpa using hxs
  subst hx0
  have hn : ∀ t, t ∈ [k1, it, n1, n2, e1, e2, x, f1, f2, f3, f4] → aget s.env t = none := fun t ht => by
    have := (List.all_eq_true.1 htn) t ht
    simpa using this
  have hlt : ∀ t, t ∈ [k1, it, n1, n2, e1, e2, x, f1, f2, f3, f4] → t < nt.n := hall
  have hne : ∀ t, t ∈ [k1, it, n1, n2, e1, e2, x, f1, f2, f3, f4] → t ≠ h := fun t ht e => by
    subst e
    have : List.contains [k1, it, n1, n2, e1, e2, x, f1, f2, f3, f4] t = true := by simpa using ht
    rw [hch] at this; cases this
  simp only [List.nodup_cons, List.mem_cons, List.not_mem_nil, or_false, not_or, List.nodup_nil, and_true, not_false_eq_true] at hnd
  obtain ⟨⟨u1, u2, u3, u4, u5, u6, u7, u8, u9, u10⟩, ⟨v1, v2, v3, v4, v5, v6, v7, v8, v9⟩, ⟨x1, x2, x3, x4, x5, x6, x7, x8⟩, ⟨y1, y2, y3, y4, y5, y6, y7⟩, ⟨z1, z2, z3, z4, z5, z6⟩, ⟨p1, p2, p3, p4, p5⟩, ⟨q1, q2, q3, q4⟩, ⟨r1', r2', r3'⟩, ⟨t1, t2⟩, t3⟩ := hnd
  have hput : ∀ (l : List Int) (t : Nat), t ∈ [k1, it, n1, n2, e1, e2, x, f1, f2, f3, f4] → aget (keysSt s h id0' l).env t = none := fun l t ht => by rw [keysSt_env (hne t ht)]; exact hn t ht
  -- the map, the iterator
  obtain ⟨vm, hvm1, hvm2⟩ := g.env _ _ hmv
  obtain ⟨b, c0, es, clock, hβ, hxv, hB, hwb, hes, hbn, hent⟩ := map_at g.mem hvm2 hH
  subst hxv
  refine wp_seq (wp_region_list ?_)
  rw [E1]
  refine wl_step rfl (x := .map (some b)) (w' := w) (by simp [execOp, Act.eval, Array.getD_eq_getD_getElem?, hvm1]) ?_
  have g1 := g.putHid (hn k1 (by simp)) (.map (some b))
  have s0 : a.tmps.size = nt.n := g.size
  have c1 : (a.put (some k1) (.map (some b))).eval (.tmp k1) = .map (some b) := put_eval _ _ _ (by rw [s0]; exact hlt k1 (by simp))
  obtain ⟨aa, haa⟩ : ∃ aa, aa = a.put (some k1) (.map (some b)) := ⟨_, rfl⟩
  change wpList P _ _ _ (a.put (some k1) (.map (some b))) w
  rw [← haa] at g1 c1 ⊢
  have hrange : (Instr.range mt (.map (some b))).run P w = .ok (.pointer (some ⟨w.heap.size, 0, none⟩)) (w.alloc (.mapIter (some b) clock #[] clock)) := by
    simp [Instr.range, run_underlying hu, MapKept.run_getObj_map hwb, Result.andThen]
  refine wl_step rfl (x := .pointer (some ⟨w.heap.size, 0, none⟩)) (w' := w.alloc (.mapIter (some b) clock #[] clock)) (by simp only [execOp, c1, Sem.run_bind, hrange, Result.andThen_ok, Sem.run_pure]) ?_
  have g2 := (g1.putHid (hn it (by simp)) (.pointer (some ⟨w.heap.size, 0, none⟩))).world (below_alloc (Nat.le_refl _) (.mapIter (some b) clock #[] clock))
  have c2 : (aa.put (some it) (.pointer (some ⟨w.heap.size, 0, none⟩))).eval (.tmp it) = .pointer (some ⟨w.heap.size, 0, none⟩) := put_eval _ _ _ (by rw [g1.size]; exact hlt it (by simp))
  obtain ⟨ab, hab⟩ : ∃ ab, ab = aa.put (some it) (.pointer (some ⟨w.heap.size, 0, none⟩)) := ⟨_, rfl⟩
  change wpList P _ _ [] (aa.put (some it) (.pointer (some ⟨w.heap.size, 0, none⟩))) _
  rw [← hab] at g2 c2 ⊢
  simp only [wpList]
  show Code.wp P _ Q _ _
  have hbr : b ≠ w.heap.size := by have := lt_of_heap hwb; omega
  have hBr : B ≤ w.heap.size := g.mem.bsize
  have hr0 : (w.alloc (.mapIter (some b) clock #[] clock)).heap[w.heap.size]? = some (.mapIter (some b) clock #[] clock) := by rw [heap_alloc, if_pos rfl]
  have hb0 : (w.alloc (.mapIter (some b) clock #[] clock)).heap[b]? = some (.map es clock) := by rw [heap_alloc, if_neg hbr]; exact hwb
  generalize w.heap.size = r at *
  have hold : ∀ e ∈ es.toList, e.born < clock := hbn.1
  have keyE : ∀ e ∈ es.toList, ∃ z, e.key = .int .i64 z := by
    intro e he
    obtain ⟨j, hj⟩ := List.mem_iff_getElem?.1 he
    have hj' : es[j]? = some e := by simpa using hj
    have hlt' : j < kv.length := by rw [← hes]; exact (Array.getElem?_eq_some_iff.1 hj').1
    obtain ⟨e', h1, h, _⟩ := hent j kv[j].1 kv[j].2 (List.getElem?_eq_getElem hlt')
    rw [hj'] at h1; cases h1
    exact ⟨_, h⟩
  have hkeys : es.toList.map keyI = kv.map (·.1) := by
    apply List.ext_getElem?
    intro j
    rw [List.getElem?_map, List.getElem?_map]
    rcases Nat.lt_or_ge j kv.length with hj | hj
    · obtain ⟨e', h1, h, _⟩ := hent j kv[j].1 kv[j].2 (List.getElem?_eq_getElem hj)
      rw [Array.getElem?_toList, h1, List.getElem?_eq_getElem hj]
      simp [keyI, h, intOf]
    · rw [List.getElem?_eq_none hj, Array.getElem?_toList, Array.getElem?_eq_none (by omega)]
      rfl
  have key : ∀ (n : Nat) (l : List Int) (a : Act) (w : World) (β : Place) (seen : Array Nat) (cc : Nat), (leftOf es seen).size = n → Gam B w0 U0 nt β (keysSt s h id0' l) a w → a.eval (.tmp it) = .pointer (some ⟨r, 0, none⟩) →
      w.heap[r]? = some (.mapIter (some b) clock seen cc) → clock ≤ cc → w.heap[b]? = some (.map es clock) → (l ++ (leftOf es seen).toList.map keyI).Perm (kv.map (·.1)) →
      LoopIn' P (.seq (.region i2 r2 false) (.seq (.cond (.tmp n2) .skip (.exit out)) (.block nx (.seq (.region i3 r3 false) (.region i4 r4 false))))) (Exit.inBlock out Q) a w := by
    intro n
    induction n using Nat.strongRecOn with
    | ind n ih =>
    intro l a w β seen cc hsize g hit hr hcc hwb hperm
    have s0 : a.tmps.size = nt.n := g.size
    refine loop_in' (wp_seq (wp_region_list ?_))
    rw [E2]
    rcases run_next_at (P := P) w T3 r b clock cc seen es clock hr hwb hold hcc with ⟨h0, hrun⟩ | ⟨e, he, w1, hw1, hrun⟩
    · refine wl_step rfl (x := .tuple #[.bool false]) (w' := w) (by simp only [execOp, hit, Sem.run_bind, hrun, Result.andThen_ok, Sem.run_pure]) ?_
      have c3 : (a.put (some n1) (.tuple #[.bool false])).eval (.tmp n1) = .tuple #[.bool false] := put_eval _ _ _ (by rw [s0]; exact hlt n1 (by simp))
      have g3 := g.putHid (hput l n1 (by simp)) (.tuple #[.bool false])
      obtain ⟨ac, hac⟩ : ∃ ac, ac = a.put (some n1) (.tuple #[.bool false]) := ⟨_, rfl⟩
      change wpList P _ _ _ (a.put (some n1) (.tuple #[.bool false])) w
      rw [← hac] at c3 g3 ⊢
      refine wl_step rfl (x := .bool false) (w' := w) (by simp [execOp, c3, Instr.extract]) ?_
      have g4 := g3.putHid (hput l n2 (by simp)) (.bool false)
      have c4 : (ac.put (some n2) (.bool false)).eval (.tmp n2) = .bool false := put_eval _ _ _ (by rw [g3.size]; exact hlt n2 (by simp))
      simp only [wpList]
      refine wp_seq (wp_cond_false c4 (wp_exit ?_))
      show Exit.inBlock out Q (.exit out) _ _
      simp only [Exit.inBlock, if_true]
      refine hQ l _ _ β ?_ g4
      have hl0 : (leftOf es seen).toList = [] := List.eq_nil_of_length_eq_zero (by simpa using h0)
      rw [hl0] at hperm
      simpa using hperm
    · have hw1b : w1.heap[b]? = some (.map es clock) := by rcases hw1 with rfl | rfl <;> exact hwb
      have hw1r : w1.heap[r]? = some (.mapIter (some b) clock seen cc) := by rcases hw1 with rfl | rfl <;> exact hr
      have g1 : Gam B w0 U0 nt β (keysSt s h id0' l) a w1 := by
        rcases hw1 with rfl | rfl
        · exact g
        · exact g.world (below_drew _ _)
      have g2 := g1.iter hw1r hBr (.mapIter (some b) clock (seen.push e.born) clock) not_isC_iter
      obtain ⟨hem, _⟩ := mem_left he
      obtain ⟨z, hz⟩ := keyE e hem
      have hrw : (ChangeMaps.setBlock w1 r (.mapIter (some b) clock (seen.push e.born) clock)) = { w1 with heap := w1.heap.setIfInBounds r (.mapIter (some b) clock (seen.push e.born) clock) } := rfl
      rw [hrw] at hrun
      have hw2r : ({ w1 with heap := w1.heap.setIfInBounds r (.mapIter (some b) clock (seen.push e.born) clock) } : World).heap[r]? = some (.mapIter (some b) clock (seen.push e.born) clock) := by rw [heap_setObj, if_pos ⟨rfl, lt_of_heap hw1r⟩]
      have hw2b : ({ w1 with heap := w1.heap.setIfInBounds r (.mapIter (some b) clock (seen.push e.born) clock) } : World).heap[b]? = some (.map es clock) := by rw [heap_setObj, if_neg (fun x => hbr x.1.symm)]; exact hw1b
      generalize ({ w1 with heap := w1.heap.setIfInBounds r (.mapIter (some b) clock (seen.push e.born) clock) } : World) = w2 at *
      refine wl_step rfl (x := .tuple #[.bool true, e.key, e.val]) (w' := w2) (by simp only [execOp, hit, Sem.run_bind, hrun, Result.andThen_ok, Sem.run_pure]) ?_
      have c3 : (a.put (some n1) (.tuple #[.bool true, e.key, e.val])).eval (.tmp n1) = .tuple #[.bool true, e.key, e.val] := put_eval _ _ _ (by rw [s0]; exact hlt n1 (by simp))
      have g3 := g2.putHid (hput l n1 (by simp)) (.tuple #[.bool true, e.key, e.val])
      have i3' : (a.put (some n1) (.tuple #[.bool true, e.key, e.val])).eval (.tmp it) = .pointer (some ⟨r, 0, none⟩) := by rw [put_eval_ne _ _ (fun e => v1 e.symm)]; exact hit
      obtain ⟨ac, hac⟩ : ∃ ac, ac = a.put (some n1) (.tuple #[.bool true, e.key, e.val]) := ⟨_, rfl⟩
      change wpList P _ _ _ (a.put (some n1) (.tuple #[.bool true, e.key, e.val])) w2
      rw [← hac] at c3 g3 i3' ⊢
      refine wl_step rfl (x := .bool true) (w' := w2) (by simp [execOp, c3, Instr.extract]) ?_
      have g4 := g3.putHid (hput l n2 (by simp)) (.bool true)
      have c4 : (ac.put (some n2) (.bool true)).eval (.tmp n2) = .bool true := put_eval _ _ _ (by rw [g3.size]; exact hlt n2 (by simp))
      have i4' : (ac.put (some n2) (.bool true)).eval (.tmp it) = .pointer (some ⟨r, 0, none⟩) := by rw [put_eval_ne _ _ (fun e => v2 e.symm)]; exact i3'
      obtain ⟨ad, had⟩ : ∃ ad, ad = ac.put (some n2) (.bool true) := ⟨_, rfl⟩
      change wpList P _ _ [] (ac.put (some n2) (.bool true)) w2
      rw [← had] at c4 g4 i4' ⊢
      simp only [wpList]
      refine wp_seq (wp_cond_true c4 (wp_skip ?_))
      refine wp_block (wp_seq (wp_region_list ?_))
      rw [E3]
      have hentry := run_entry_at (P := P) w2 r b clock seen es clock e hw2r hw2b hem (born_nodup hbn)
      refine wl_step rfl (x := .tuple #[e.key, e.val]) (w' := w2) (by simp only [execOp, i4', Sem.run_bind, hentry, Result.andThen_ok, Sem.run_pure]) ?_
      have c5 : (ad.put (some e1) (.tuple #[e.key, e.val])).eval (.tmp e1) = .tuple #[e.key, e.val] := put_eval _ _ _ (by rw [g4.size]; exact hlt e1 (by simp))
      have g5 := g4.putHid (hput l e1 (by simp)) (.tuple #[e.key, e.val])
      have i5' : (ad.put (some e1) (.tuple #[e.key, e.val])).eval (.tmp it) = .pointer (some ⟨r, 0, none⟩) := by rw [put_eval_ne _ _ (fun e => v3 e.symm)]; exact i4'
      obtain ⟨ae, hae⟩ : ∃ ae, ae = ad.put (some e1) (.tuple #[e.key, e.val]) := ⟨_, rfl⟩
      change wpList P _ _ _ (ad.put (some e1) (.tuple #[e.key, e.val])) w2
      rw [← hae] at c5 g5 i5' ⊢
      refine wl_step rfl (x := .int .i64 z) (w' := w2) (by simp [execOp, c5, Instr.extract, hz]) ?_
      have c6 : (ae.put (some e2) (.int .i64 z)).eval (.tmp e2) = .int .i64 z := put_eval _ _ _ (by rw [g5.size]; exact hlt e2 (by simp))
      have g6 := g5.putHid (hput l e2 (by simp)) (.int .i64 z)
      have i6' : (ae.put (some e2) (.int .i64 z)).eval (.tmp it) = .pointer (some ⟨r, 0, none⟩) := by rw [put_eval_ne _ _ (fun e => v4 e.symm)]; exact i5'
      obtain ⟨af, haf⟩ : ∃ af, af = ae.put (some e2) (.int .i64 z) := ⟨_, rfl⟩
      change wpList P _ _ _ (ae.put (some e2) (.int .i64 z)) w2
      rw [← haf] at c6 g6 i6' ⊢
      refine wl_step rfl (x := .int .i64 z) (w' := w2) (by simp [execOp, c6]) ?_
      have c7 : (af.put (some x) (.int .i64 z)).eval (.tmp x) = .int .i64 z := put_eval _ _ _ (by rw [g6.size]; exact hlt x (by simp))
      have g7 := g6.putHid (hput l x (by simp)) (.int .i64 z)
      have i7' : (af.put (some x) (.int .i64 z)).eval (.tmp it) = .pointer (some ⟨r, 0, none⟩) := by rw [put_eval_ne _ _ (fun e => v5 e.symm)]; exact i6'
      obtain ⟨ag, hag⟩ : ∃ ag, ag = af.put (some x) (.int .i64 z) := ⟨_, rfl⟩
      change wpList P _ _ [] (af.put (some x) (.int .i64 z)) w2
      rw [← hag] at c7 g7 i7' ⊢
      simp only [wpList]
      have hlp := left_perm (leftOf es seen).toList (List.Pairwise.sublist (by unfold leftOf; rw [Array.toList_filter]; exact List.filter_sublist) hbn.2) e he
      rw [← leftOf_push] at hlp
      have hlen := hperm.length_eq
      simp only [List.length_append, List.length_map] at hlen
      have hlen2 := hlp.length_eq
      simp only [List.length_cons] at hlen2
      have hbytes : (l.length + 1) * 8 ≤ maxBytes := Nat.le_trans (Nat.mul_le_mul_right 8 (by omega)) hsz
      show Code.wp P (.region i4 r4 false) _ _ _
      refine keys_lay (h := h) (id0 := id0') (l := l) (z := z) (ks := 0) E4 hP hcl hA hT happ hse hbt ?_ ⟨hlt f1 (by simp), hlt f2 (by simp), hlt f3 (by simp), hlt f4 (by simp), hhn⟩ g7 hrow (hn f1 (by simp)) (hn f2 (by simp)) (hn f3 (by simp)) (hn f4 (by simp)) c7 hbytes ?_
      · simp only [List.nodup_cons, List.mem_cons, List.not_mem_nil, or_false, not_or, List.nodup_nil, and_true, not_false_eq_true]
        exact ⟨⟨r1', r2', r3', fun e => q1 e.symm, hne f1 (by simp)⟩, ⟨t1, t2, fun e => q2 e.symm, hne f2 (by simp)⟩, ⟨t3, fun e => q3 e.symm, hne f3 (by simp)⟩, ⟨fun e => q4 e.symm, hne f4 (by simp)⟩, hne x (by simp)⟩
      · intro a' w' β' g' ho hev
        show LoopIn' P _ _ a' w'
        refine ih _ ?_ (l ++ [z]) a' w' β' (seen.push e.born) clock rfl g' ?_ (ho r _ not_isC_iter hw2r) (Nat.le_refl _) (ho b _ not_isC_map hw2b) ?_
        · rw [← hsize]; exact left_shrinks es seen e he
        · rw [hev it (by simp only [List.mem_cons, List.not_mem_nil, or_false, not_or]; exact ⟨v6, v7, v8, v9, hne it (by simp)⟩)]; exact i7'
        · refine List.Perm.trans ?_ hperm
          rw [List.append_assoc]
          refine List.Perm.append_left l ?_
          have : keyI e = z := by simp [keyI, hz, intOf]
          have h1 := hlp.map keyI
          rw [List.map_cons, this] at h1
          exact h1.symm
  refine wp_block (loop_of_in' (key _ [] ab _ β #[] clock rfl ?_ c2 hr0 (Nat.le_refl _) hb0 ?_))
  · have hst : keysSt s h id0' [] = { env := eset s.env h (.ref id0' 0 0 0), heap := hset s.heap id0' (.row false 1 []), next := s.next, marks := s.marks } := rfl
    rw [hst]
    refine g2.lessR (less_same hrow) (fun k d hk => ?_)
    rw [aget_eset] at hk
    split at hk
    · rename_i e; subst e; cases hk; exact hh
    · exact hk
  · rw [List.nil_append, ← hkeys]
    have : (leftOf es #[]).toList = es.toList := by
      unfold leftOf
      rw [Array.toList_filter, List.filter_eq_self]
      intro a _
      simp
    rw [this]

end
end Go.Dv
