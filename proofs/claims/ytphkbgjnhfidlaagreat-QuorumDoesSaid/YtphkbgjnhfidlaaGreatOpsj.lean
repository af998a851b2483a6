/-
  Every operation at once: 'op_sound'.
-/
import Derived.Test.YtphkbgjnhfidlaaGreatOpsi
set_option linter.unusedVariables false
set_option linter.unusedSimpArgs false
namespace Go.Dv
open Go.RowKit

section
variable {P : Program} {B : Nat} {w0 : World} {U0 : Nat → Prop} {β : Place} {w : World} {nt : Cx} {s : St} {a : Act} {cf : CallF}

theorem run_builtin {b : Builtin} {c : Call} (hb : isBuiltin c b = true) {dst : Option Tmp} {type : TypeId} {pos : String} {after : Array Edge} {guard : Option (Nat × Bool)} :
    (execOp a.eval ⟨dst, .call c, type, pos, after, guard⟩).run P w = (builtin b c.argTypes type (c.args.map fun | .const _ => true | _ => false) (c.args.map a.eval)).run P w := by
  unfold isBuiltin at hb
  obtain ⟨callee, args, argTypes⟩ := c
  simp only at hb ⊢
  split at hb
  · simp only [decide_eq_true_eq] at hb; subst hb
    simp only [execOp, resolve, Sem.run_bind, Sem.run_pure, Result.andThen_ok, invoke]
    rfl
  · cases hb

theorem run_callee {fv : Operand} {args : Array Operand} {at_ : Array TypeId} {dst : Option Tmp} {type : TypeId} {pos : String} {after : Array Edge} {guard : Option (Nat × Bool)} {f : FuncId} {caps : Array Value} (hf : a.eval fv = .func (.func f) #[] caps) :
    (execOp a.eval ⟨dst, .call ⟨.value fv, args, at_⟩, type, pos, after, guard⟩).run P w = (callFunc f (args.map a.eval ++ caps)).run P w := by
  simp only [execOp, resolve, Deferred.ofValue, hf, Sem.run_bind, Sem.run_pure, Result.andThen_ok, invoke, Array.empty_append]

theorem getD_append {l r : Array Value} {j : Nat} : (l ++ r).getD j undef = if j < l.size then l.getD j undef else r.getD (j - l.size) undef := by
  by_cases h : j < l.size
  · rw [if_pos h, Array.getD_eq_getD_getElem?, Array.getD_eq_getD_getElem?, Array.getElem?_append, if_pos h]
  · rw [if_neg h, Array.getD_eq_getD_getElem?, Array.getD_eq_getD_getElem?, Array.getElem?_append, if_neg h]

theorem call_sound (hc : CallsOK P cf) (g : Gam B w0 U0 nt β s a w) {c : Call} {d : DOp} (hm : matchCall P c d = true) {dst : Option Tmp} {type : TypeId} {pos : String} {after : Array Edge} {guard : Option (Nat × Bool)} {v : DV} {H' : Heap} {nx' : Nat} (hd : dop cf d s = some (v, H', nx'))
    {K : Act → World → Prop} {Q : Exit → Act → World → Prop} (hK : ∀ x w', Good B w0 U0 s.heap s.next β w v H' nx' x w' → K (a.put dst x) w') : (⟨dst, .call c, type, pos, after, guard⟩ : Oper).wp P a w K Q := by
  unfold matchCall at hm
  split at hm
  · -- append
    rename_i bytes sz s' x'
    simp only [Bool.and_eq_true] at hm
    obtain ⟨hb, hm⟩ := hm
    split at hm
    · rename_i x y t t2 hargs hts
      simp only [Bool.and_eq_true] at hm
      obtain ⟨z, w', hr, hg⟩ := op_appends (ty := type) g hm.1.1 hm.1.2 hm.2 hd
      refine wp_of_run (x := z) (w' := w') ?_ (hK _ _ hg)
      have e1 : c.args = #[x, y] := by rw [← Array.toArray_toList (xs := c.args), hargs]
      have e2 : c.argTypes = #[t, t2] := by rw [← Array.toArray_toList (xs := c.argTypes), hts]
      rw [run_builtin hb, e1, e2]
      simp only [builtin, Sem.run_bind, List.map_toArray, List.map_cons, List.map_nil, hr, Result.andThen_ok, Sem.run_pure]
    · cases hm
  · -- copy
    rename_i sz s' x'
    simp only [Bool.and_eq_true] at hm
    obtain ⟨hb, hm⟩ := hm
    split at hm
    · rename_i x y t t2 hargs hts
      simp only [Bool.and_eq_true] at hm
      obtain ⟨z, w', hr, hg⟩ := op_copys (t2 := t2) (ty := type) g hm.1.1 hm.1.2 hm.2 hd
      refine wp_of_run (x := z) (w' := w') ?_ (hK _ _ hg)
      have e1 : c.args = #[x, y] := by rw [← Array.toArray_toList (xs := c.args), hargs]
      have e2 : c.argTypes = #[t, t2] := by rw [← Array.toArray_toList (xs := c.argTypes), hts]
      rw [run_builtin hb, e1, e2]
      simp only [builtin, Sem.run_bind, List.map_toArray, List.map_cons, List.map_nil, hr, Result.andThen_ok, Sem.run_pure]
    · cases hm
  · -- len
    rename_i x'
    simp only [Bool.and_eq_true] at hm
    obtain ⟨hb, hm⟩ := hm
    split at hm
    · rename_i x t hargs hts
      simp only [Bool.and_eq_true] at hm
      obtain ⟨z, hr, hg⟩ := op_lens (ty := type) g hm.1 hm.2 hd
      refine wp_of_run (x := z) (w' := w) ?_ (hK _ _ hg)
      have e1 : c.args = #[x] := by rw [← Array.toArray_toList (xs := c.args), hargs]
      have e2 : c.argTypes = #[t] := by rw [← Array.toArray_toList (xs := c.argTypes), hts]
      rw [run_builtin hb, e1, e2]
      simp only [builtin, Sem.run_bind, List.map_toArray, List.map_cons, List.map_nil, hr, Result.andThen_ok, Sem.run_pure]
    · cases hm
  · rename_i x'
    simp only [Bool.and_eq_true] at hm
    obtain ⟨hb, hm⟩ := hm
    split at hm
    · rename_i x t hargs hts
      simp only [Bool.and_eq_true] at hm
      obtain ⟨z, hr, hg⟩ := op_lenSs (ty := type) g hm.1 hm.2 hd
      refine wp_of_run (x := z) (w' := w) ?_ (hK _ _ hg)
      have e1 : c.args = #[x] := by rw [← Array.toArray_toList (xs := c.args), hargs]
      have e2 : c.argTypes = #[t] := by rw [← Array.toArray_toList (xs := c.argTypes), hts]
      rw [run_builtin hb, e1, e2]
      simp only [builtin, Sem.run_bind, List.map_toArray, List.map_cons, List.map_nil, hr, Result.andThen_ok, Sem.run_pure]
    · cases hm
  · -- clear
    rename_i zero x'
    simp only [Bool.and_eq_true] at hm
    obtain ⟨hb, hm⟩ := hm
    split at hm
    · rename_i x t hargs hts
      simp only [Bool.and_eq_true] at hm
      obtain ⟨z, w', hr, hg⟩ := op_clears (ty := type) g hm.1 hm.2 hd
      refine wp_of_run (x := z) (w' := w') ?_ (hK _ _ hg)
      have e1 : c.args = #[x] := by rw [← Array.toArray_toList (xs := c.args), hargs]
      have e2 : c.argTypes = #[t] := by rw [← Array.toArray_toList (xs := c.argTypes), hts]
      rw [run_builtin hb, e1, e2]
      simp only [builtin, Sem.run_bind, List.map_toArray, List.map_cons, List.map_nil, hr, Result.andThen_ok, Sem.run_pure]
    · cases hm
  · -- cap
    rename_i x'
    simp only [Bool.and_eq_true] at hm
    obtain ⟨hb, hm⟩ := hm
    split at hm
    · rename_i x t hargs hts
      simp only [Bool.and_eq_true] at hm
      obtain ⟨z, hr, hg⟩ := op_caps (ty := type) g hm.1 hm.2 hd
      refine wp_of_run (x := z) (w' := w) ?_ (hK _ _ hg)
      have e1 : c.args = #[x] := by rw [← Array.toArray_toList (xs := c.args), hargs]
      have e2 : c.argTypes = #[t] := by rw [← Array.toArray_toList (xs := c.argTypes), hts]
      rw [run_builtin hb, e1, e2]
      simp only [builtin, Sem.run_bind, List.map_toArray, List.map_cons, List.map_nil, hr, Result.andThen_ok, Sem.run_pure]
    · cases hm
  · -- min, max
    rename_i isMax x' xs'
    simp only [Bool.and_eq_true] at hm
    obtain ⟨hb, hm⟩ := hm
    obtain ⟨z, hr, hg⟩ := op_mms (P := P) (at_ := c.argTypes) (ty := type) g hm hd
    refine wp_of_run (x := z) (w' := w) ?_ (hK _ _ hg)
    rw [run_builtin hb]
    cases isMax
    · simp only [Bool.false_eq_true, if_false] at hr ⊢
      simp only [builtin, Sem.run_bind, hr, Result.andThen_ok, Sem.run_pure]
    · simp only [if_true] at hr ⊢
      simp only [builtin, Sem.run_bind, hr, Result.andThen_ok, Sem.run_pure]
  · -- a call of a function
    rename_i byref f' args'
    simp only [Bool.and_eq_true] at hm
    obtain ⟨hf, hargs⟩ := hm
    obtain ⟨callee, args, at_⟩ := c
    simp only at hf hargs
    split at hf
    · rename_i f
      simp only [beq_iff_eq] at hf
      subst hf
      simp only [dop] at hd
      cases hl : evs s args' with
      | none => rw [hl] at hd; cases hd
      | some l =>
        rw [hl] at hd
        obtain ⟨h1, h2⟩ := evs_arr g hargs hl
        obtain ⟨hcal, hcalls⟩ := op_call hc g.mem hd h1 h2
        refine wp_enter (f := f) (args := args.map a.eval) ?_ hcalls hK
        rw [run_callee (f := f) (caps := #[]) rfl, Array.append_empty]
        exact callable_run hcal _
    · cases hf
  · -- a call through a value
    rename_i byref fv' args'
    simp only [Bool.and_eq_true] at hm
    obtain ⟨hf, hargs⟩ := hm
    obtain ⟨callee, args, at_⟩ := c
    simp only at hf hargs
    split at hf
    · rename_i fv
      have go : ∀ (f : FuncId) (caps : List DV) (l : List DV), evs s args' = some l → callD cf byref f (l ++ caps) s.heap s.next = some (v, H', nx') → (∃ cv : Array Value, a.eval fv = .func (.func f) #[] cv ∧ cv.size = caps.length ∧ ∀ (j : Nat) (y : DV), caps[j]? = some y → DRep w (Own U0 β s.heap) β s.heap s.next y (cv.getD j undef)) →
          (⟨dst, .call ⟨.value fv, args, at_⟩, type, pos, after, guard⟩ : Oper).wp P a w K Q := by
        rintro f caps l hl hcd ⟨cv, he, hcl, hcr⟩
        obtain ⟨h1, h2⟩ := evs_arr g hargs hl
        obtain ⟨hcal, hcalls⟩ := op_call hc g.mem hcd (vs := args.map a.eval ++ cv) (by simp; simp at h1; omega) (fun j d hj => by
          rw [getD_append]
          by_cases hlt : j < l.length
          · rw [List.getElem?_append_left hlt] at hj
            rw [if_pos (by omega)]; exact h2 j d hj
          · rw [List.getElem?_append_right (by omega)] at hj
            rw [if_neg (by omega), h1]; exact hcr _ d hj)
        refine wp_enter (f := f) (args := args.map a.eval ++ cv) ?_ hcalls hK
        rw [run_callee he]
        exact callable_run hcal _
      simp only [dop] at hd
      split at hd
      · rename_i f caps l hv hl
        have hx := g.ev hf hv
        generalize hxv : a.eval fv = xv at hx
        cases hx with | func _ _ cv hcl hcr =>
        exact go f caps l hl hd ⟨cv, hxv, hcl, hcr⟩
      · rename_i f caps l hv hl
        have hx := g.ev hf hv
        generalize hxv : a.eval fv = xv at hx
        cases hx with | p _ _ hp =>
        cases hp with | func _ _ cv hcl hcr =>
        refine go f (caps.map ofPV) l hl hd ⟨cv, hxv, by simpa using hcl, fun j y hy => ?_⟩
        rw [List.getElem?_map] at hy
        cases hcj : caps[j]? with
        | none => rw [hcj] at hy; cases hy
        | some q => rw [hcj] at hy; simp only [Option.map_some, Option.some.injEq] at hy; subst hy; exact ofPV_rep (hcr j q hcj)
      · cases hd
    · cases hf
  · cases hm

set_option maxHeartbeats 1000000 in
theorem op_sound (hc : CallsOK P cf) (g : Gam B w0 U0 nt β s a w) {o : Oper} {d : DOp} (hm : matchOp P o.op d = true) {v : DV} {H' : Heap} {nx' : Nat} (hd : dop cf d s = some (v, H', nx')) {K : Act → World → Prop} {Q : Exit → Act → World → Prop}
    (hK : ∀ x w', Good B w0 U0 s.heap s.next β w v H' nx' x w' → K (a.put o.dst x) w') : o.wp P a w K Q := by
  obtain ⟨dst, op, type, pos, after, guard⟩ := o
  simp only at hm hK
  unfold matchOp at hm
  split at hm
  · rename_i x d
    simp only [dop] at hd
    cases hv : s.ev d with
    | none => rw [hv] at hd; cases hd
    | some q => rw [hv] at hd; cases hd; exact wp_of_run rfl (hK _ _ (good_same g.mem (g.ev hm hv)))
  · rename_i x d
    simp only [dop] at hd
    cases hv : s.ev d with
    | none => rw [hv] at hd; cases hd
    | some q => rw [hv] at hd; cases hd; exact wp_of_run rfl (hK _ _ (good_same g.mem (g.ev hm hv)))
  · simp only [Bool.and_eq_true] at hm
    obtain ⟨z, hr, hg⟩ := op_pick (P := P) g hm.1.1 hm.1.2 hm.2 (o := ⟨dst, _, type, pos, after, guard⟩) rfl hd
    exact wp_of_run hr (hK _ _ hg)
  · -- alloc
    rename_i t zero
    simp only [dop] at hd
    split at hd
    case h_2 => cases hd
    simp only [Option.some.injEq, Prod.mk.injEq] at hd
    obtain ⟨rfl, rfl, rfl⟩ := hd
    obtain ⟨i, z, hi, hz, hzc, hsz⟩ := zeroOK_some hm
    have hz0 := zero_cells (w := w) (β := β) (H := s.heap) (nx := s.next) hzc (U := Own U0 β s.heap)
    refine wp_v (sm := Instr.alloc t true (.tuple #[])) (y := .pointer (some ⟨w.heap.size, 0, none⟩)) (w' := w.alloc (.cells z.cells t)) rfl ?_ (hK _ _ (new_var g.mem _ _ _ hz0.1 hz0.2))
    simp [Instr.alloc, zeroValue, typeInfo, hi, hz, newVar, newRow]
  · -- box
    rename_i t x d
    simp only [dop] at hd
    cases hv : s.ev d with
    | none => rw [hv] at hd; cases hd
    | some q =>
      rw [hv] at hd
      simp only at hd
      cases hcs : q.cells with
      | none => rw [hcs] at hd; cases hd
      | some cs =>
        rw [hcs] at hd
        split at hd
        case h_2 => cases hd
        cases hd
        rename_i heq _
        cases heq
        obtain ⟨h1, h2⟩ := cells_ok hcs (g.ev hm hv)
        refine wp_v (sm := Instr.box t (a.eval x)) (y := .pointer (some ⟨w.heap.size, 0, none⟩)) (w' := w.alloc (.cells (a.eval x).cells t)) rfl ?_ (hK _ _ (new_var g.mem _ _ _ h1 h2))
        simp [Instr.box, newVar, newRow]
  · -- build
    simp only [Bool.and_eq_true] at hm
    obtain ⟨z, hr, hg⟩ := op_build g hm.1 hm.2 hd
    exact wp_v rfl hr (hK _ _ hg)
  · -- buildSlice
    rename_i t len parts zero len' ps
    cases hse : sliceElem P t with
    | none => rw [hse] at hm; cases hm
    | some e =>
    rw [hse] at hm
    simp only [Bool.and_eq_true, decide_eq_true_eq, beq_iff_eq] at hm
    obtain ⟨⟨⟨⟨⟨hzo, hpos⟩, h24⟩, rfl⟩, hix⟩, hpl⟩ := hm
    simp only [dop] at hd
    cases hl : evIx s ps with
    | none => rw [hl] at hd; cases hd
    | some l =>
    rw [hl] at hd
    simp only at hd
    cases hx : litElems s.heap zero.length 0 l with
    | none => rw [hx] at hd; cases hd
    | some xs =>
    rw [hx] at hd; cases hd
    obtain ⟨h1, h2⟩ := evIx_ok g parts.toList ps l hix hl
    obtain ⟨y, w', hr, hg⟩ := op_buildSlice (P := P) (sliceElem_some hse) hzo hpos h24 g.mem (parts := parts.map fun p => (p.1, a.eval p.2)) (by rw [Array.toList_map]; exact h2) (by omega) hx
    exact wp_v rfl hr (hK _ _ hg)
  · simp only [Bool.and_eq_true] at hm
    obtain ⟨y, hr, hg⟩ := op_load g hm.1 hm.2 hd
    exact wp_v rfl hr (hK _ _ hg)
  · simp only [Bool.and_eq_true] at hm
    obtain ⟨w', hr, hg⟩ := op_store g hm.1.1 hm.1.2 hm.2 hd
    exact wp_u rfl hr (hK _ _ hg)
  · obtain ⟨z, hr, hg⟩ := op_nilCheck (P := P) g hm (o := ⟨dst, _, type, pos, after, guard⟩) rfl hd
    exact wp_of_run hr (hK _ _ hg)
  · simp only [Bool.and_eq_true, decide_eq_true_eq] at hm
    obtain ⟨⟨rfl, h2⟩, h3⟩ := hm
    obtain ⟨z, hr, hg⟩ := op_bins (P := P) g h2 h3 _ hd
    exact wp_v rfl hr (hK _ _ hg)
  · -- isNil
    rename_i op t x y ty x'
    simp only [Bool.and_eq_true, decide_eq_true_eq] at hm
    obtain ⟨⟨⟨rfl, h2⟩, h3⟩, h4⟩ := hm
    obtain ⟨z, hr, hg⟩ := op_isNil (P := P) g h2 h3 h4 hd
    exact wp_v rfl hr (hK _ _ hg)
  · simp only [Bool.and_eq_true] at hm
    obtain ⟨⟨⟨h1, h2⟩, h3⟩, h4⟩ := hm
    obtain ⟨z, hr, hg⟩ := op_eqbs (P := P) g h1 h2 h3 h4 hd
    exact wp_v rfl hr (hK _ _ hg)
  · simp only [Bool.and_eq_true] at hm
    obtain ⟨⟨⟨h1, h2⟩, h3⟩, h4⟩ := hm
    obtain ⟨z, hr, hg⟩ := op_eqaggs (P := P) g h1 h2 h3 h4 hd
    exact wp_v rfl hr (hK _ _ hg)
  · simp only [Bool.and_eq_true, decide_eq_true_eq] at hm
    obtain ⟨rfl, h2⟩ := hm
    obtain ⟨z, hr, hg⟩ := op_uns (P := P) g h2 hd
    exact wp_v rfl hr (hK _ _ hg)
  · simp only [Bool.and_eq_true] at hm
    obtain ⟨z, hr, hg⟩ := op_convs (P := P) g hm.1.1 hm.1.2 hm.2 hd
    exact wp_v rfl hr (hK _ _ hg)
  · simp only [Bool.and_eq_true] at hm
    obtain ⟨z, hr, hg⟩ := op_convSs (P := P) g hm.1.1 hm.2 hm.1.2 hd
    exact wp_v rfl hr (hK _ _ hg)
  · simp only [Bool.and_eq_true] at hm
    obtain ⟨⟨⟨⟨⟨h1, h2⟩, h3⟩, h4⟩, h5⟩, h6⟩ := hm
    obtain ⟨z, w', hr, hg⟩ := op_slices (P := P) g h1 h2 h3 h4 h5 h6 hd
    exact wp_v rfl hr (hK _ _ hg)
  · simp only [Bool.and_eq_true] at hm
    obtain ⟨⟨⟨h1, h2⟩, h3⟩, h4⟩ := hm
    obtain ⟨z, w', hr, hg⟩ := op_sliceSs (P := P) g h1 h2 h3 h4 hd
    exact wp_v rfl hr (hK _ _ hg)
  · simp only [Bool.and_eq_true] at hm
    obtain ⟨z, hr, hg⟩ := op_fieldAddrs (P := P) g hm.1 hm.2 hd
    exact wp_v rfl hr (hK _ _ hg)
  · simp only [Bool.and_eq_true] at hm
    obtain ⟨z, hr, hg⟩ := op_fields (P := P) g hm.1 hm.2 hd
    exact wp_v rfl hr (hK _ _ hg)
  · simp only [Bool.and_eq_true] at hm
    obtain ⟨z, hr, hg⟩ := op_indexAddrs (P := P) g hm.1.1 hm.1.2 hm.2 hd
    exact wp_v rfl hr (hK _ _ hg)
  · simp only [Bool.and_eq_true] at hm
    obtain ⟨z, hr, hg⟩ := op_arrAddrs (P := P) g hm.1.1 hm.1.2 hm.2 hd
    exact wp_v rfl hr (hK _ _ hg)
  · simp only [Bool.and_eq_true] at hm
    obtain ⟨z, hr, hg⟩ := op_indexs (P := P) g hm.1.1 hm.1.2 hm.2 hd
    exact wp_v rfl hr (hK _ _ hg)
  · simp only [Bool.and_eq_true] at hm
    obtain ⟨z, hr, hg⟩ := op_arrIndexs (P := P) g hm.1.1 hm.1.2 hm.2 hd
    exact wp_v rfl hr (hK _ _ hg)
  · simp only [Bool.and_eq_true, beq_iff_eq] at hm
    obtain ⟨h1, rfl⟩ := hm
    obtain ⟨z, hr, hg⟩ := op_extracts (P := P) g h1 hd
    exact wp_v rfl hr (hK _ _ hg)
  · simp only [Bool.and_eq_true] at hm
    obtain ⟨z, w', hr, hg⟩ := op_makes (P := P) g hm.1.1 hm.1.2 hm.2 hd
    exact wp_v rfl hr (hK _ _ hg)
  · -- makeMap
    rename_i t
    simp only [dop] at hd
    split at hd
    case h_2 => cases hd
    simp only [Option.some.injEq, Prod.mk.injEq] at hd
    obtain ⟨rfl, rfl, rfl⟩ := hd
    refine wp_v (sm := Instr.makeMap t none) (y := .map (some w.heap.size)) (w' := w.alloc (.map #[] 0)) rfl ?_ (hK _ _ (new_map g.mem))
    simp [Instr.makeMap, Result.andThen]
  · simp only [Bool.and_eq_true] at hm
    obtain ⟨z, hr, hg⟩ := op_lookup (P := P) g hm.1.1 hm.1.2 hm.2 hd
    exact wp_v rfl hr (hK _ _ hg)
  · simp only [Bool.and_eq_true] at hm
    obtain ⟨w', hr, hg⟩ := op_mapSet (P := P) g hm.1.1.1 hm.1.1.2 hm.1.2 hm.2 hd
    exact wp_u rfl hr (hK _ _ hg)
  · rename_i fn first caps f' caps'
    simp only [Bool.and_eq_true] at hm
    obtain ⟨⟨h1, h2⟩, h3⟩ := hm
    split at h1
    · simp only [beq_iff_eq] at h1; subst h1
      have hfirst : first = #[] := by
        rw [← Array.toArray_toList (xs := first), List.isEmpty_iff.1 h2]
      subst hfirst
      exact wp_of_run (by simp [execOp, Instr.makeFunc]) (hK _ _ (op_mkfuncs g h3 hd))
    · cases h1
  · exact call_sound hc g hm hd hK
  · cases hm

end
end Go.Dv
