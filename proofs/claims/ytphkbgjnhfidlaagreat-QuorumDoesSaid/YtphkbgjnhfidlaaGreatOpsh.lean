/-
  Operations, part 8: slice literals, calls; every operation at once.
-/
import Derived.Test.YtphkbgjnhfidlaaGreatOpsg
set_option linter.unusedVariables false
set_option linter.unusedSimpArgs false
namespace Go.Dv
open Go.RowKit

def Callable (P : Program) (f : FuncId) : Prop := ∃ fn, P.funcs[f]? = some fn ∧ (fn.name == "runtime.NumGoroutine") = false ∧ fn.body.isNone = false

def PureOK (P : Program) (f : FuncId) (args : List PV) (r : PV) : Prop :=
  Callable P f ∧ ∀ (U : Nat → Prop) (w : World) (vs : Array Value), (∀ b, U b → b < w.heap.size) → vs.size = args.length → (∀ j p, args[j]? = some p → PRep w U p (vs.getD j undef)) →
    Calls P f vs w fun e w' => ∃ v, e = .returned v ∧ PRep w' U r v ∧ Below w.heap.size w w'

def ByrefOK (P : Program) (f : FuncId) (args : List DV) (H : Heap) (nx : Nat) (r : DV) (H' : Heap) (nx' : Nat) : Prop :=
  Callable P f ∧ ∀ (B : Nat) (w0 : World) (U0 : Nat → Prop) (β : Place) (w : World) (vs : Array Value), Mem B w0 U0 β H nx w → vs.size = args.length →
    (∀ j d, args[j]? = some d → DRep w (Own U0 β H) β H nx d (vs.getD j undef)) → Calls P f vs w fun e w' => ∃ x, e = .returned x ∧ Good B w0 U0 H nx β w r H' nx' x w'

structure CallsOK (P : Program) (cf : CallF) : Prop where
  pure : ∀ f args r, cf.pure f args = some r → PureOK P f args r
  byref : ∀ f args H nx r H' nx', cf.byref f args H nx = some (r, H', nx') → ByrefOK P f args H nx r H' nx'

section
variable {P : Program} {B : Nat} {w0 : World} {U0 : Nat → Prop} {β : Place} {H : Heap} {nx : Nat} {w : World}

/-! ### slice literals -/

def IxRep (w : World) (U : Nat → Prop) (β : Place) (H : Heap) (nx : Nat) : List (Nat × DV) → List (Nat × Value) → Prop
  | [], [] => True
  | (i, d) :: r, (j, v) :: q => i = j ∧ DRep w U β H nx d v ∧ IxRep w U β H nx r q
  | _, _ => False

theorem lit_fill (m : Mem B w0 U0 β H nx w) (ids : List Nat) {sz : Nat} : ∀ (l : List (Nat × DV)) (q : List (Nat × Value)) (k : Nat) (xs : List (List PV)) (arr : Array Value), litElems H sz k l = some xs → IxRep w (Own U0 β H) β H nx l q →
    (∀ x ∈ l, ∀ i ∈ tch H dep x.2, i ∈ ids) → (k + l.length) * sz ≤ arr.size →
    ∃ arr', Instr.fill (fun i => some (i * sz, sz)) arr q = some arr' ∧ arr'.size = arr.size ∧ xs.length = l.length ∧ (∀ x ∈ xs, x.length = sz) ∧ (∀ p, p < k * sz → arr'[p]? = arr[p]?) ∧ (∀ p, (k + xs.length) * sz ≤ p → arr'[p]? = arr[p]?) ∧
      ∃ vs : Nat → Nat → Value, ∀ i x j y, xs[i]? = some x → x[j]? = some y → arr'[(k + i) * sz + j]? = some (vs i j) ∧ (vs i j).oneCell' = true ∧ PRep w (Own U0 β (frz H ids)) y (vs i j)
  | [], [], k, xs, arr, h, _, _, _ => by
    simp only [litElems, Option.some.injEq] at h; subst h
    exact ⟨arr, rfl, rfl, rfl, by simp, fun _ _ => rfl, fun _ _ => rfl, fun _ _ => undef, by simp⟩
  | (i, d) :: l, (j, v) :: q, k, xs, arr, h, hq, hids, hfit => by
    obtain ⟨rfl, hd, hq'⟩ := hq
    simp only [litElems] at h
    split at h
    · rename_i e; subst e
      cases hp : pur H dep d with
      | none => rw [hp] at h; cases h
      | some p =>
      rw [hp] at h; simp only at h
      cases hc : p.cellsOf with
      | none => rw [hc] at h; cases h
      | some cs =>
      rw [hc] at h; simp only at h
      split at h
      · rename_i hl
        cases hr : litElems H sz (i + 1) l with
        | none => rw [hr] at h; cases h
        | some ys =>
        rw [hr] at h; simp only [Option.some.injEq] at h; subst h
        have hpv := pur_ok m ids dep d p v hp (hids (i, d) (by simp)) hd
        obtain ⟨g1, g2⟩ := pcells_ok hc hpv
        have e1 : (i + (l.length + 1)) * sz = i * sz + sz + l.length * sz := by rw [Nat.add_mul, Nat.add_mul, Nat.one_mul]; omega
        simp only [List.length_cons] at hfit
        have hfit' : i * sz + v.cells.toList.length ≤ arr.size := by simp only [Array.length_toList]; omega
        obtain ⟨arr', f1, f2, f3, f4, f5, f6, vs, f7⟩ := lit_fill m ids l q (i + 1) ys (writeAt arr (i * sz) v.cells.toList) hr hq' (fun x hx => hids x (by simp [hx])) (by
          rw [size_writeAt, show i + 1 + l.length = i + (l.length + 1) from by omega]; exact hfit)
        have e2 : (i + 1) * sz = i * sz + sz := by rw [Nat.add_mul, Nat.one_mul]
        refine ⟨arr', by rw [fill_step _ arr i v q rfl (by omega) (by omega)]; exact f1, by rw [f2, size_writeAt], by simp [f3], ?_, fun p hp => ?_, fun p hp => ?_, fun i' => match i' with | 0 => fun j => v.cells.getD j undef | i' + 1 => vs i', ?_⟩
        · intro x hx
          rcases List.mem_cons.1 hx with rfl | hx
          · exact hl
          · exact f4 x hx
        · rw [f5 p (by omega), get_writeAt _ _ _ _ hfit', if_neg (by omega)]
        · simp only [List.length_cons] at hp
          rw [f6 p (by rw [show i + 1 + ys.length = i + (ys.length + 1) from by omega]; exact hp), get_writeAt _ _ _ _ hfit', if_neg]
          have e3 : (i + (ys.length + 1)) * sz = i * sz + sz + ys.length * sz := by rw [Nat.add_mul, Nat.add_mul, Nat.one_mul]; omega
          simp only [Array.length_toList]; omega
        · intro i' x j y hx hy
          cases i' with
          | zero =>
            simp only [List.getElem?_cons_zero, Option.some.injEq] at hx; subst hx
            have hj := lt_of_get? hy
            have := g2 j y hy
            refine ⟨?_, this.2, this.1⟩
            rw [Nat.add_zero, f5 _ (by omega), get_writeAt _ _ _ _ hfit', if_pos ⟨by omega, by simp only [Array.length_toList]; omega⟩, show i * sz + j - i * sz = j from by omega, Array.getElem?_toList]
            exact get?_of_lt (by omega)
          | succ i' =>
            simp only [List.getElem?_cons_succ] at hx
            have := f7 i' x j y hx hy
            rw [show i + (i' + 1) = i + 1 + i' from by omega]
            exact this
      · cases h
    · cases h
  | [], _ :: _, _, _, _, _, h, _, _ => h.elim
  | _ :: _, [], _, _, _, _, h, _, _ => h.elim

theorem op_buildSlice {t e : TypeId} (ht : P.underlying t = some (.slice e)) {zero : List PV} (hz : zeroOK P e zero = true) (hpos : 0 < zero.length) {len : Nat} (h24 : len * zero.length ≤ 2 ^ 24) (m : Mem B w0 U0 β H nx w) {l : List (Nat × DV)} {parts : Array (Nat × Value)}
    (hq : IxRep w (Own U0 β H) β H nx l parts.toList) (hlen : l.length ≤ len) {xs : List (List PV)} (h : litElems H zero.length 0 l = some xs) :
    ∃ y w', (Instr.buildSlice t len parts).run P w = .ok y w' ∧ Good B w0 U0 H nx β w (.p (.slice true (xs ++ List.replicate (len - xs.length) zero))) (frz H ((l.map (·.2)).flatMap (tch H dep))) nx y w' := by
  obtain ⟨i, z, hi, hz1, hz2, hsz⟩ := zeroOK_some hz
  generalize hids : (l.map (·.2)).flatMap (tch H dep) = ids
  have hsub : ∀ x ∈ l, ∀ i ∈ tch H dep x.2, i ∈ ids := by
    intro x hx i hi
    rw [← hids, List.mem_flatMap]
    exact ⟨x.2, List.mem_map.2 ⟨x, hx, rfl⟩, hi⟩
  obtain ⟨arr, f1, f2, f3, f4, f5, f6, vs, f7⟩ := lit_fill m ids l parts.toList 0 xs (madeCells z.cells (len * zero.length)) h hq hsub (by rw [size_madeCells]; exact Nat.mul_le_mul_right _ (by omega))
  rw [size_madeCells] at f2
  have hrun : (Instr.buildSlice t len parts).run P w = .ok (.slice (some ⟨w.heap.size, 0, none⟩) len len) (w.alloc (.cells arr e)) := by
    have h1 : ¬ (len * zero.length > 2 ^ 24) := by omega
    by_cases h0 : len * zero.length = 0
    · have hl0 : len = 0 := by rcases Nat.mul_eq_zero.1 h0 with h | h; exact h; omega
      subst hl0
      have hl : l = [] := List.eq_nil_of_length_eq_zero (by omega)
      subst hl
      have hp : parts.toList = [] := by
        cases hpp : parts.toList with
        | nil => rfl
        | cons a b => rw [hpp] at hq; exact hq.elim
      have ha : arr = #[] := by apply Array.eq_empty_of_size_eq_zero; rw [f2]; simp
      subst ha
      simp [Instr.buildSlice, run_underlying ht, sizeOf, typeInfo, hi, hp, Instr.fill, newRow, Array.range_zero']
    · simp only [madeCells] at f1
      simp only [Instr.buildSlice, Sem.run_bind, run_underlying ht, Result.andThen_ok, sizeOf, typeInfo, run_program, hi, Sem.run_pure, hsz, if_neg h1, if_neg h0, zeroValue, hz1, f1, newRow, run_newObj]
      rfl
  refine ⟨_, _, hrun, ?_⟩
  obtain ⟨m1, k1⟩ := m.call (below_alloc (Nat.le_refl _) (.cells arr e))
  have l1 := less_frz ids H
  refine ⟨β, m1.less l1, k1.trans (l1.keeps _), l1.evo (Nat.le_refl _), .p _ _ ?_⟩
  have k2 := k1.trans (l1.keeps (U0 := U0) (β := β) (w.alloc (.cells arr e)))
  by_cases h0 : len = 0
  · subst h0
    have : xs = [] := List.eq_nil_of_length_eq_zero (by omega)
    subst this
    exact .none true _ 0 (fun _ => rfl)
  · have hxl : (xs ++ List.replicate (len - xs.length) zero).length = len := by simp; omega
    have hnew : (w.alloc (.cells arr e)).heap[w.heap.size]? = some (.cells arr e (0, 0)) := by rw [heap_alloc, if_pos rfl]
    have hnot : ¬ Own U0 β (frz H ids) w.heap.size := by
      rintro (hu | ⟨id, blk, c, h1, _, h3⟩)
      · have := m.u0 _ hu; have := m.bsize; omega
      · obtain ⟨b0, h4, _⟩ := l1.sub _ _ h1
        obtain ⟨_, o', h5⟩ := (m.h.blk id b0 h4).there h3
        have := lt_of_heap h5; omega
    have key : ∀ i x j y, (xs ++ List.replicate (len - xs.length) zero)[i]? = some x → x[j]? = some y → arr[0 + i * zero.length + j]? = some (if i < xs.length then vs i j else z.cells.toList.getD j undef) ∧
        (if i < xs.length then vs i j else z.cells.toList.getD j undef).oneCell' = true ∧ PRep (w.alloc (.cells arr e)) (Own U0 β (frz H ids)) y (if i < xs.length then vs i j else z.cells.toList.getD j undef) := by
      intro i x j y hx hy
      by_cases hi' : i < xs.length
      · rw [List.getElem?_append_left hi'] at hx
        simp only [if_pos hi']
        have := f7 i x j y hx hy
        refine ⟨by have h0 := this.1; rw [Nat.zero_add] at h0 ⊢; exact h0, this.2.1, this.2.2.keep ?_⟩
        exact ⟨fun b o hu ho => by rw [heap_alloc, if_neg (by have := lt_of_heap ho; omega)]; exact ho, fun b o hu _ => hu⟩
      · rw [List.getElem?_append_right (by omega)] at hx
        simp only [if_neg hi']
        have hx' : (List.replicate len zero)[i]? = some x := by
          have hlt := lt_of_get? hx
          simp only [List.length_replicate] at hlt
          have e := List.eq_of_mem_replicate (List.mem_of_getElem? hx)
          rw [List.getElem?_replicate, if_pos (by omega), e]
        have hzg := zeros_get (w := w.alloc (.cells arr e)) hz2 hx' hy
        refine ⟨?_, hzg.2.1, hzg.2.2 _⟩
        have hxz : x = zero := List.eq_of_mem_replicate (List.mem_of_getElem? hx)
        have hjl : j < zero.length := by have := lt_of_get? hy; rw [hxz] at this; exact this
        have := f6 (i * zero.length + j) (by
          have : (0 + xs.length) * zero.length ≤ i * zero.length := Nat.mul_le_mul_right _ (by omega)
          omega)
        rw [Nat.zero_add, this]; exact hzg.1
    have hfin := PRep.slice (w := w.alloc (.cells arr e)) (U := Own U0 β (frz H ids)) true (xs ++ List.replicate (len - xs.length) zero) w.heap.size 0 len zero.length arr e (0, 0) (fun i j => if i < xs.length then vs i j else z.cells.toList.getD j undef)
      (by omega) (by omega) (fun _ => hxl.symm) hnew hnot (fun x hx => by
        rcases List.mem_append.1 hx with h | h
        · exact f4 x h
        · rw [List.eq_of_mem_replicate h]) (fun i x j y hx hy => (key i x j y hx hy).1) (fun i x j y hx hy => (key i x j y hx hy).2.1) (fun i x j y hx hy => (key i x j y hx hy).2.2)
    rw [hxl] at hfin
    exact hfin

/-! ### calls -/

theorem ofPV_rep {U : Nat → Prop} {r : PV} {v : Value} (h : PRep w U r v) : DRep w U β H nx (ofPV r) v := by
  have one : ∀ {p : PV} {x : Value}, PRep w U p x → DRep w U β H nx (ofPV1 p) x := by
    intro p x hp
    cases hp with
    | agg cs vs hl h1 hr =>
      refine .agg _ vs (by simpa using hl) (fun j y hy => ?_) (fun j y hy => ?_)
      all_goals
        rw [List.getElem?_map] at hy
        cases hc : cs[j]? with
        | none => rw [hc] at hy; cases hy
        | some c =>
          rw [hc] at hy; simp only [Option.map_some, Option.some.injEq] at hy; subst hy
          first | exact h1 j c hc | exact .p _ _ (hr j c hc)
    | int k n => exact .p _ _ (.int k n)
    | bool b => exact .p _ _ (.bool b)
    | str s => exact .p _ _ (.str s)
    | none full a c h => exact .p _ _ (.none full a c h)
    | slice full xs b off c sz arr T fz vs hne hc hf hb hu hsz hv h1 hr => exact .p _ _ (.slice full xs b off c sz arr T fz vs hne hc hf hb hu hsz hv h1 hr)
    | vptr cs b off arr T fz vs hb hu hv h1 hr => exact .p _ _ (.vptr cs b off arr T fz vs hb hu hv h1 hr)
    | func f caps vs hl hr => exact .p _ _ (.func f caps vs hl hr)
    | tuple cs vs hl hr => exact .p _ _ (.tuple cs vs hl hr)
    | undef _ => exact .p _ _ (.undef _)
    | z a c => exact .p _ _ (.z a c)
  cases h with
  | tuple cs vs hl hr =>
    refine .tuple _ vs (by simpa using hl) (fun j y hy => ?_)
    rw [List.getElem?_map] at hy
    cases hc : cs[j]? with
    | none => rw [hc] at hy; cases hy
    | some c =>
      rw [hc] at hy; simp only [Option.map_some, Option.some.injEq] at hy; subst hy
      exact one (hr j c hc)
  | agg cs vs hl h1 hr => exact one (.agg cs vs hl h1 hr)
  | int k n => exact .p _ _ (.int k n)
  | bool b => exact .p _ _ (.bool b)
  | str s => exact .p _ _ (.str s)
  | none full a c h => exact .p _ _ (.none full a c h)
  | slice full xs b off c sz arr T fz vs hne hc hf hb hu hsz hv h1 hr => exact .p _ _ (.slice full xs b off c sz arr T fz vs hne hc hf hb hu hsz hv h1 hr)
  | vptr cs b off arr T fz vs hb hu hv h1 hr => exact .p _ _ (.vptr cs b off arr T fz vs hb hu hv h1 hr)
  | func f caps vs hl hr => exact .p _ _ (.func f caps vs hl hr)
  | undef v => exact .p _ _ (.undef v)
  | z a c => exact .p _ _ (.z a c)

theorem plain_rep {U U' : Nat → Prop} {w' : World} {r : PV} {v : Value} (hp : r.plain = true) (h : PRep w U r v) : PRep w' U' r v := by
  have one : ∀ {p : PV} {x : Value}, (match p with | .int _ _ | .bool _ | .str _ => true | _ => false) = true → PRep w U p x → PRep w' U' p x := by
    intro p x hp h
    cases h <;> first | (simp at hp; done) | skip
    · exact .int _ _
    · exact .bool _
    · exact .str _
  cases h with
  | int k n => exact .int k n
  | bool b => exact .bool b
  | str s => exact .str s
  | tuple cs vs hl hr =>
    refine .tuple cs vs hl fun j y hy => one ?_ (hr j y hy)
    simp only [PV.plain, List.all_eq_true] at hp
    have := hp y (List.mem_of_getElem? hy)
    exact this
  | _ => simp [PV.plain] at hp

theorem own_lt (m : Mem B w0 U0 β H nx w) {H' : Heap} (l : Less H H') : ∀ b, Own U0 β H' b → b < w.heap.size := by
  rintro b (hu | ⟨id, blk, c, h1, _, h3⟩)
  · exact Nat.lt_of_lt_of_le (m.u0 b hu) m.bsize
  · obtain ⟨b0, h4, _⟩ := l.sub _ _ h1
    obtain ⟨_, o', h5⟩ := (m.h.blk id b0 h4).there h3
    exact lt_of_heap h5

theorem callable_run {f : FuncId} (h : Callable P f) (args : Array Value) : (callFunc f args).run P w = .ok (.enter f args) w := by
  obtain ⟨fn, h1, h2, h3⟩ := h
  simp only [callFunc, Sem.run_bind, run_program, Result.andThen_ok, h1, h2, h3, Bool.false_eq_true, if_false, Sem.run_pure]

theorem op_call {cf : CallF} (hc : CallsOK P cf) (m : Mem B w0 U0 β H nx w) {byref : Bool} {f : FuncId} {args : List DV} {r : DV} {H' : Heap} {nx' : Nat} (h : callD cf byref f args H nx = some (r, H', nx')) {vs : Array Value} (hl : vs.size = args.length)
    (hv : ∀ j d, args[j]? = some d → DRep w (Own U0 β H) β H nx d (vs.getD j undef)) :
    Callable P f ∧ Calls P f vs w fun e w' => ∃ x, e = .returned x ∧ Good B w0 U0 H nx β w r H' nx' x w' := by
  unfold callD at h
  split at h
  · obtain ⟨h1, h2⟩ := hc.byref _ _ _ _ _ _ _ h
    exact ⟨h1, h2 B w0 U0 β w vs m hl hv⟩
  · cases hm : mapO (pur H dep) args with
    | none => rw [hm] at h; cases h
    | some ps =>
      rw [hm] at h; simp only at h
      cases hr : cf.pure f ps with
      | none => rw [hr] at h; cases h
      | some q =>
        rw [hr] at h
        simp only [Option.some.injEq, Prod.mk.injEq] at h
        obtain ⟨rfl, rfl, rfl⟩ := h
        obtain ⟨h1, h2⟩ := hc.pure _ _ _ hr
        generalize hids : args.flatMap (tch H dep) = ids
        have l1 := less_frz ids H
        have hlen := (mapO_some hm).1
        refine ⟨h1, (h2 (Own U0 β (frz H ids)) w vs (own_lt m l1) (by omega) fun j p hp => ?_).mono ?_⟩
        · obtain ⟨a, ha, hf⟩ := mapO_get hm hp
          exact pur_ok m ids dep a p _ hf (fun i hi => by rw [← hids, List.mem_flatMap]; exact ⟨a, List.mem_of_getElem? ha, hi⟩) (hv j a ha)
        · rintro e w' ⟨v, rfl, hv', hb⟩
          obtain ⟨m1, k1⟩ := m.call hb
          refine ⟨v, rfl, ?_⟩
          by_cases hp : q.plain = true
          · rw [if_pos hp]
            exact ⟨β, m1, k1, Evo.refl _ _ _, ofPV_rep (plain_rep hp hv')⟩
          · rw [if_neg hp]
            exact ⟨β, m1.less l1, k1.trans (l1.keeps _), l1.evo (Nat.le_refl _), ofPV_rep hv'⟩

/-! ### every operation -/
variable {nt : Cx} {s : St} {a : Act} {cf : CallF}

theorem evs_ok (g : Gam B w0 U0 nt β s a w) : ∀ (xs : List Operand) (ds : List DO) (l : List DV), opnds xs ds = true → evs s ds = some l → xs.length = l.length ∧ ∀ (j : Nat) (d : DV), l[j]? = some d → DRep w (Own U0 β s.heap) β s.heap s.next d ((xs.map a.eval).getD j undef)
  | [], [], l, _, h => by simp only [evs, Option.some.injEq] at h; subst h; exact ⟨rfl, by simp⟩
  | x :: xs, d :: ds, l, ho, h => by
    simp only [opnds, Bool.and_eq_true] at ho
    simp only [evs] at h
    cases hx : s.ev d with
    | none => rw [hx] at h; cases h
    | some v =>
    cases hr : evs s ds with
    | none => rw [hx, hr] at h; cases h
    | some r =>
      rw [hx, hr] at h
      simp only [Option.some.injEq] at h; subst h
      obtain ⟨h1, h2⟩ := evs_ok g xs ds r ho.2 hr
      refine ⟨by simp [h1], fun j e he => ?_⟩
      cases j with
      | zero => simp only [List.getElem?_cons_zero, Option.some.injEq] at he; subst he; simpa using g.ev ho.1 hx
      | succ j => simp only [List.getElem?_cons_succ] at he; simpa using h2 j e he
  | [], _ :: _, _, h, _ => by simp [opnds] at h
  | _ :: _, [], _, h, _ => by simp [opnds] at h

theorem evs_arr (g : Gam B w0 U0 nt β s a w) {xs : Array Operand} {ds : List DO} {l : List DV} (ho : opnds xs.toList ds = true) (h : evs s ds = some l) : (xs.map a.eval).size = l.length ∧ ∀ (j : Nat) (d : DV), l[j]? = some d → DRep w (Own U0 β s.heap) β s.heap s.next d ((xs.map a.eval).getD j undef) := by
  obtain ⟨h1, h2⟩ := evs_ok g _ _ _ ho h
  refine ⟨by simpa using h1, fun j d hd => ?_⟩
  have := h2 j d hd
  rw [List.getD_eq_getElem?_getD, List.getElem?_map, Array.getElem?_toList] at this
  rw [Array.getD_eq_getD_getElem?, Array.getElem?_map]
  exact this

theorem evParts_ok (g : Gam B w0 U0 nt β s a w) {fs : Array Field} {pl : List (Nat × Nat)} (hpl : ∀ (i : Nat) (f : Field) (n : Nat), fs[i]? = some f → sizeIs P f.type n = true → pl[i]? = some (f.offset, n)) :
    ∀ (ps : List (Nat × Operand)) (ds : List (Nat × Nat × DO)) (l : List (Nat × Nat × DV)), partsOK P fs ps ds = true → evParts s ds = some l → PartsRep w (Own U0 β s.heap) β s.heap s.next (pl.toArray[·]?) l (ps.map fun p => (p.1, a.eval p.2))
  | [], [], l, _, h => by simp only [evParts, Option.some.injEq] at h; subst h; trivial
  | (i, x) :: ps, (off, n, d) :: ds, l, ho, h => by
    simp only [partsOK, Bool.and_eq_true] at ho
    obtain ⟨⟨hf, hx⟩, hr⟩ := ho
    simp only [evParts] at h
    cases hv : s.ev d with
    | none => rw [hv] at h; cases h
    | some v =>
    cases he : evParts s ds with
    | none => rw [hv, he] at h; cases h
    | some r =>
      rw [hv, he] at h
      simp only [Option.some.injEq] at h; subst h
      refine ⟨?_, g.ev hx hv, evParts_ok g hpl ps ds r hr he⟩
      cases hfi : fs[i]? with
      | none => rw [hfi] at hf; cases hf
      | some f =>
        rw [hfi] at hf
        simp only [Bool.and_eq_true, beq_iff_eq] at hf
        rw [← hf.1]
        simpa using hpl i f n hfi hf.2
  | [], _ :: _, _, h, _ => by simp [partsOK] at h
  | _ :: _, [], _, h, _ => by simp [partsOK] at h

theorem evPartsA_ok (g : Gam B w0 U0 nt β s a w) {sz : Nat} :
    ∀ (ps : List (Nat × Operand)) (ds : List (Nat × Nat × DO)) (l : List (Nat × Nat × DV)), partsOKA sz ps ds = true → evParts s ds = some l → PartsRep w (Own U0 β s.heap) β s.heap s.next (fun i => some (i * sz, sz)) l (ps.map fun p => (p.1, a.eval p.2))
  | [], [], l, _, h => by simp only [evParts, Option.some.injEq] at h; subst h; trivial
  | (i, x) :: ps, (off, n, d) :: ds, l, ho, h => by
    simp only [partsOKA, Bool.and_eq_true, beq_iff_eq] at ho
    obtain ⟨⟨⟨hf, hn⟩, hx⟩, hr⟩ := ho
    simp only [evParts] at h
    cases hv : s.ev d with
    | none => rw [hv] at h; cases h
    | some v =>
    cases he : evParts s ds with
    | none => rw [hv, he] at h; cases h
    | some r =>
      rw [hv, he] at h
      simp only [Option.some.injEq] at h; subst h
      exact ⟨by rw [hf, hn], g.ev hx hv, evPartsA_ok g ps ds r hr he⟩
  | [], _ :: _, _, h, _ => by simp [partsOKA] at h
  | _ :: _, [], _, h, _ => by simp [partsOKA] at h

theorem evIx_ok (g : Gam B w0 U0 nt β s a w) :
    ∀ (ps : List (Nat × Operand)) (ds : List (Nat × DO)) (l : List (Nat × DV)), ixOK ps ds = true → evIx s ds = some l → l.length = ds.length ∧ IxRep w (Own U0 β s.heap) β s.heap s.next l (ps.map fun p => (p.1, a.eval p.2))
  | [], [], l, _, h => by simp only [evIx, Option.some.injEq] at h; subst h; exact ⟨rfl, trivial⟩
  | (i, x) :: ps, (j, d) :: ds, l, ho, h => by
    simp only [ixOK, Bool.and_eq_true, beq_iff_eq] at ho
    obtain ⟨⟨hf, hx⟩, hr⟩ := ho
    simp only [evIx] at h
    cases hv : s.ev d with
    | none => rw [hv] at h; cases h
    | some v =>
    cases he : evIx s ds with
    | none => rw [hv, he] at h; cases h
    | some r =>
      rw [hv, he] at h
      simp only [Option.some.injEq] at h; subst h
      obtain ⟨h1, h2⟩ := evIx_ok g ps ds r hr he
      exact ⟨by simp [h1], hf.symm, g.ev hx hv, h2⟩
  | [], _ :: _, _, h, _ => by simp [ixOK] at h
  | _ :: _, [], _, h, _ => by simp [ixOK] at h

theorem low_ok (g : Gam B w0 U0 nt β s a w) {lo : Option Operand} {d : Option DO} (h : opnd? lo d = true) {l : Int} (hl : evI s d 0 = some l) : Low (lo.map a.eval) l := by
  cases lo with
  | none => cases d with
    | none => simp only [evI, Option.some.injEq] at hl; exact hl.symm
    | some _ => simp [opnd?] at h
  | some x => cases d with
    | none => simp [opnd?] at h
    | some d =>
      simp only [opnd?] at h
      simp only [evI] at hl
      cases hv : s.ev d with
      | none => rw [hv] at hl; cases hl
      | some v =>
        rw [hv] at hl
        simp only [asI] at hl
        split at hl
        · rename_i k n
          cases hl
          have := (g.ev h hv).int_inv
          exact ⟨k, this⟩
        · cases hl

theorem bound_ok (g : Gam B w0 U0 nt β s a w) {lo : Option Operand} {d : Option DO} (h : opnd? lo d = true) {l : Option Int} (hl : evB s d = some l) : Bound (lo.map a.eval) l := by
  cases lo with
  | none => cases d with
    | none => simp only [evB, Option.some.injEq] at hl; subst hl; trivial
    | some _ => simp [opnd?] at h
  | some x => cases d with
    | none => simp [opnd?] at h
    | some d =>
      simp only [opnd?] at h
      simp only [evB] at hl
      cases hv : s.ev d with
      | none => rw [hv] at hl; cases hl
      | some v =>
        rw [hv] at hl
        simp only [asI] at hl
        cases v with
        | p q =>
          cases q with
          | int k n =>
            simp only [Option.map_some, Option.some.injEq] at hl; subst hl
            exact ⟨k, (g.ev h hv).int_inv⟩
          | _ => cases hl
        | _ => cases hl

end
end Go.Dv
