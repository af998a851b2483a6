/-
  Operations, part 7: literals, comparisons, the rest.
-/
import Derived.Test.YtphkbgjnhfidlaaGreatOpsf
set_option linter.unusedVariables false
set_option linter.unusedSimpArgs false
namespace Go.Dv
open Go.RowKit

section
variable {P : Program} {B : Nat} {w0 : World} {U0 : Nat → Prop} {β : Place} {H : Heap} {nx : Nat} {w : World}

/-! ### struct and array literals -/

theorem foldl_write (off : Nat) : ∀ (l : List Value) (k : Nat) (arr : Array Value), (l.zipIdx k).foldl (fun cs (p : Value × Nat) => cs.setIfInBounds (off + p.2) p.1) arr = writeAt arr (off + k) l
  | [], k, arr => rfl
  | v :: r, k, arr => by
    simp only [List.zipIdx_cons, List.foldl_cons, writeAt]
    rw [foldl_write off r (k + 1), Nat.add_assoc]

theorem fill_step (place : Nat → Option (Nat × Nat)) (cells : Array Value) (i : Nat) (v : Value) (r : List (Nat × Value)) {off size : Nat} (hp : place i = some (off, size)) (hs : v.cells.size = size) (hfit : off + size ≤ cells.size) :
    Instr.fill place cells ((i, v) :: r) = Instr.fill place (writeAt cells off v.cells.toList) r := by
  have h1 : ¬ (v.cells.size ≠ size || decide (off + v.cells.size > cells.size)) = true := by simp [hs]; omega
  simp only [Instr.fill, hp]
  rw [if_neg h1]
  congr 1
  have := foldl_write off v.cells.toList 0 cells
  rw [Nat.add_zero] at this
  rw [← this, ← Array.foldl_toList, Array.toList_zipIdx]

def CellsRep (w : World) (U : Nat → Prop) (β : Place) (H : Heap) (nx : Nat) (cs : List DV) (arr : Array Value) : Prop :=
  arr.size = cs.length ∧ ∀ j y, cs[j]? = some y → DRep w U β H nx y (arr.getD j undef) ∧ (arr.getD j undef).oneCell' = true

theorem CellsRep.put {U : Nat → Prop} {cs l : List DV} {arr : Array Value} {v : Value} {off : Nat} (h : CellsRep w U β H nx cs arr) (hl : v.cells.size = l.length)
    (hv : ∀ j y, l[j]? = some y → DRep w U β H nx y (v.cells.getD j undef) ∧ (v.cells.getD j undef).oneCell' = true) (hfit : off + l.length ≤ cs.length) :
    CellsRep w U β H nx (putAt cs off l) (writeAt arr off v.cells.toList) := by
  have hlen : v.cells.toList.length = l.length := by simpa using hl
  refine ⟨by rw [size_writeAt, length_putAt _ _ _ hfit, h.1], fun j y hj => ?_⟩
  rw [get_putAt _ _ _ hfit] at hj
  rw [getD_writeAt (by rw [hlen, h.1]; exact hfit), hlen]
  split at hj
  · rename_i hin
    rw [if_pos hin]
    have := hv _ _ hj
    rw [Array.getD_eq_getD_getElem?] at this
    rw [List.getD_eq_getElem?_getD, Array.getElem?_toList]
    exact this
  · rename_i hin
    rw [if_neg hin]; exact h.2 _ _ hj

def PartsRep (w : World) (U : Nat → Prop) (β : Place) (H : Heap) (nx : Nat) (place : Nat → Option (Nat × Nat)) : List (Nat × Nat × DV) → List (Nat × Value) → Prop
  | [], [] => True
  | (off, size, d) :: r, (i, v) :: q => place i = some (off, size) ∧ DRep w U β H nx d v ∧ PartsRep w U β H nx place r q
  | _, _ => False

theorem fill_ok {U : Nat → Prop} {place : Nat → Option (Nat × Nat)} : ∀ (l : List (Nat × Nat × DV)) (q : List (Nat × Value)) (cs cs' : List DV) (arr : Array Value), PartsRep w U β H nx place l q → fillAgg cs l = some cs' → CellsRep w U β H nx cs arr →
    ∃ arr', Instr.fill place arr q = some arr' ∧ CellsRep w U β H nx cs' arr'
  | [], [], cs, cs', arr, _, h, hc => by simp only [fillAgg, Option.some.injEq] at h; subst h; exact ⟨arr, rfl, hc⟩
  | (off, size, d) :: r, (i, v) :: q, cs, cs', arr, hp, h, hc => by
    obtain ⟨h1, h2, h3⟩ := hp
    simp only [fillAgg] at h
    cases hd : d.cells with
    | none => rw [hd] at h; cases h
    | some l =>
      rw [hd] at h
      simp only at h
      split at h
      · rename_i hcond
        obtain ⟨hlen, hfit⟩ := hcond
        obtain ⟨g1, g2⟩ := cells_ok hd h2
        have hfit' : off + l.length ≤ cs.length := by omega
        rw [fill_step place arr i v q h1 (by omega) (by rw [hc.1]; omega)]
        exact fill_ok r q _ _ _ h3 h (hc.put g1 g2 hfit')
      · cases h
  | [], _ :: _, _, _, _, h, _, _ => h.elim
  | _ :: _, [], _, _, _, h, _, _ => h.elim

theorem zero_cells {z : Value} {zero : List PV} (hz : constCells z.cells.toList zero = true) {U : Nat → Prop} : CellsRep w U β H nx (zero.map .p) z.cells := by
  obtain ⟨h1, h2⟩ := constCells_ok (w := w) (U := U) _ _ hz
  refine ⟨by simpa using h1, fun j y hy => ?_⟩
  rw [List.getElem?_map] at hy
  cases hp : zero[j]? with
  | none => rw [hp] at hy; cases hy
  | some p =>
    rw [hp] at hy
    simp only [Option.map_some, Option.some.injEq] at hy
    subst hy
    have := h2 j p hp
    have e : z.cells.toList.getD j undef = z.cells.getD j undef := by rw [List.getD_eq_getElem?_getD, Array.getElem?_toList, Array.getD_eq_getD_getElem?]
    rw [e] at this
    exact ⟨.p _ _ this.1, this.2⟩

theorem run_places (fs : List Field) (h : ∀ f ∈ fs, (P.info? f.type).isSome = true) : ∃ pl : List (Nat × Nat), ((fs.mapM fun f => (do pure (f.offset, ← sizeOf f.type) : Sem (Nat × Nat))) : Sem (List (Nat × Nat))).run P w = .ok pl w ∧
    ∀ (i : Nat) (f : Field) (n : Nat), fs[i]? = some f → sizeIs P f.type n = true → pl[i]? = some (f.offset, n) := by
  induction fs with
  | nil => exact ⟨[], by simp, by simp⟩
  | cons f r ih =>
    obtain ⟨pl, h1, h2⟩ := ih fun x hx => h x (by simp [hx])
    obtain ⟨i, hi⟩ := Option.isSome_iff_exists.1 (h f (by simp))
    have hs0 : (sizeOf f.type).run P w = .ok i.size w := by simp [sizeOf, typeInfo, hi]
    refine ⟨(f.offset, i.size) :: pl, by rw [List.mapM_cons]; simp only [Sem.run_bind, hs0, Result.andThen_ok, Sem.run_pure]; rw [h1]; rfl, fun k g n hk hs => ?_⟩
    cases k with
    | zero =>
      simp only [List.getElem?_cons_zero, Option.some.injEq] at hk; subst hk
      obtain ⟨i', hi', hn⟩ := sizeIs_info hs
      rw [hi] at hi'; cases hi'
      simp [hn]
    | succ k => simp only [List.getElem?_cons_succ] at hk ⊢; exact h2 k g n hk hs

/-! ### comparing structs -/
theorem eqCell_ok {k : Nat} {x y : DV} {r : Bool} (h : eqCell k x y = some r) {U : Nat → Prop} {v u : Value} (hx : DRep w U β H nx x v) (hy : DRep w U β H nx y u) {t : TypeId} (ht : scalarT P t = some k) (d : Nat) :
    (Op.equalIn (d + 1) t v u).run P w = .ok r w := by
  unfold scalarT at ht
  unfold eqCell at h
  split at h
  · rename_i k1 a k2 b
    obtain rfl := hx.int_inv
    obtain rfl := hy.int_inv
    split at h
    · rename_i e; subst e
      cases h
      split at ht
      · rename_i q hu; exact run_equalIn_int w d t _ _ a b hu
      all_goals cases ht
    · cases h
  · obtain rfl := hx.bool_inv
    obtain rfl := hy.bool_inv
    cases h
    split at ht
    · cases ht
    · rename_i hu; exact run_equalIn_bool' w d t _ _ hu
    all_goals cases ht
  · obtain rfl := hx.str_inv
    obtain rfl := hy.str_inv
    cases h
    split at ht
    · cases ht
    · cases ht
    · rename_i hu; exact run_equalIn_string w d t _ _ hu
    · cases ht
  · cases h

theorem scalarT_agg {t : TypeId} {k : Nat} (h : scalarT P t = some k) : isAggT P t = some false := by
  unfold scalarT at h
  unfold isAggT
  split at h
  · rename_i hu; rw [hu]
  · rename_i hu; rw [hu]
  · rename_i hu; rw [hu]
  · cases h

theorem run_part_scalar {t : TypeId} (ht : isAggT P t = some false) {arr : Array Value} {o : Nat} (ho : o < arr.size) : (part t arr o).run P w = .ok (arr.getD o undef) w := by
  simp only [part, Sem.run_bind, run_isAgg ht, Result.andThen_ok, Bool.false_eq_true, if_false]
  rw [get?_of_lt ho]
  rfl

theorem eqFields_ok {U : Nat → Prop} {xs ys : List DV} {vs us : Array Value} (hx : CellsRep w U β H nx xs vs) (hy : CellsRep w U β H nx ys us) (d : Nat) : ∀ (fs : List Field) (offs : List (Nat × Nat)) (r : Bool), eqFieldsOK P fs offs = true → eqCells xs ys offs = some r →
    (Op.eqFields (d + 1) vs us fs).run P w = .ok r w
  | [], [], r, _, h => by simp only [eqCells, Option.some.injEq] at h; subst h; rfl
  | f :: fs, (o, k) :: offs, r, hok, h => by
    simp only [eqFieldsOK, Bool.and_eq_true, bne_iff_ne, ne_eq, beq_iff_eq] at hok
    obtain ⟨⟨⟨hn, ho⟩, hk⟩, hrest⟩ := hok
    cases hsc : scalarT P f.type with
    | none => rw [hsc] at hk; cases hk
    | some k' =>
      rw [hsc] at hk
      simp only [beq_iff_eq] at hk
      subst hk
      simp only [eqCells] at h
      cases hxo : xs[o]? with
      | none => rw [hxo] at h; cases h
      | some x =>
      cases hyo : ys[o]? with
      | none => rw [hxo, hyo] at h; cases h
      | some y =>
      rw [hxo, hyo] at h
      simp only at h
      have hag := scalarT_agg hsc
      have px := run_part_scalar (P := P) (w := w) hag (arr := vs) (o := o) (by rw [hx.1]; exact lt_of_get? hxo)
      have py := run_part_scalar (P := P) (w := w) hag (arr := us) (o := o) (by rw [hy.1]; exact lt_of_get? hyo)
      cases hc : eqCell k' x y with
      | none => rw [hc] at h; cases h
      | some b =>
        rw [hc] at h
        have he := eqCell_ok (P := P) hc (hx.2 o x hxo).1 (hy.2 o y hyo).1 hsc d
        simp only [Op.eqFields, if_pos hn, Sem.run_bind, ho, px, py, Result.andThen_ok, he]
        cases b with
        | true => simp only [Bool.not_true, Bool.false_eq_true, if_false]; exact eqFields_ok hx hy d fs offs r hrest h
        | false => simp only at h; cases h; simp
  | [], _ :: _, _, h, _ => by simp [eqFieldsOK] at h
  | _ :: _, [], _, h, _ => by simp [eqFieldsOK] at h

theorem eqOp_run {op : BinOp} {neg : Bool} (h : eqOp op neg = true) {t : TypeId} {v u : Value} {r : Bool} (hs : ∀ z : Sem Value, binOp .eql t v u = (do pure (.bool (← Op.equal t v u))) → binOp .neq t v u = (do pure (.bool (!(← Op.equal t v u)))) → True)
    (h1 : binOp .eql t v u = (do pure (.bool (← Op.equal t v u)))) (h2 : binOp .neq t v u = (do pure (.bool (!(← Op.equal t v u))))) (he : (Op.equal t v u).run P w = .ok r w) :
    (binOp op t v u).run P w = .ok (.bool (if neg then !r else r)) w := by
  unfold eqOp at h
  split at h
  · simp only [Bool.not_eq_true'] at h; subst h; rw [h1]; simp [he]
  · subst h; rw [h2]; simp [he]
  · cases h

theorem op_eqagg {op : BinOp} {neg : Bool} (hop : eqOp op neg = true) {t : TypeId} {fs : Array Field} (ht : P.underlying t = some (.struct fs)) {offs : List (Nat × Nat)} (hf : eqFieldsOK P fs.toList offs = true) (hst : P.stoodInHeld t = false) (hg : P.eqGuardType P.depth t = false)
    {U : Nat → Prop} {xs ys : List DV} {v u : Value} (hx : DRep w U β H nx (.agg xs) v) (hy : DRep w U β H nx (.agg ys) u) {r : Bool} (h : eqCells xs ys offs = some r) (xo yo : Operand) :
    (do eqGuard op t xo yo v u; binOp op t v u : Sem Value).run P w = .ok (.bool (if neg then !r else r)) w := by
  cases hx with | agg _ vs hl h1 hr =>
  cases hy with | agg _ us hl' h1' hr' =>
  have hfo : P.fieldsOf t = fs := by unfold Program.fieldsOf; rw [ht]
  have he : (Op.equal t (.agg vs) (.agg us)).run P w = .ok r w := by
    unfold Op.equal
    rw [show Op.maxDepth = 9999 + 1 from rfl, run_equalIn_struct w 9999 t vs us (by rw [hfo]; exact ht) hst, hfo]
    exact eqFields_ok ⟨hl, fun j y hj => ⟨hr j y hj, h1 j y hj⟩⟩ ⟨hl', fun j y hj => ⟨hr' j y hj, h1' j y hj⟩⟩ 9998 _ _ _ hf h
  have hgd : (eqGuard op t xo yo (.agg vs) (.agg us)).run P w = .ok () w := by
    unfold eqGuard
    have : (op matches .eql | .neq) = true := by unfold eqOp at hop; split at hop <;> first | rfl | cases hop
    simp [this, hg]
  simp only [Sem.run_bind, hgd, Result.andThen_ok]
  exact eqOp_run hop (fun _ _ _ => trivial) rfl rfl he

theorem op_eqb {op : BinOp} {neg : Bool} (hop : eqOp op neg = true) {t : TypeId} (ht : P.underlying t = some .bool) (a b : Bool) (xo yo : Operand) :
    (do eqGuard op t xo yo (.bool a) (.bool b); binOp op t (.bool a) (.bool b) : Sem Value).run P w = .ok (.bool (if neg then !(a == b) else (a == b))) w := by
  have he : (Op.equal t (.bool a) (.bool b)).run P w = .ok (a == b) w := by
    unfold Op.equal
    exact run_equalIn_bool' w 9999 t a b ht
  simp only [eqGuard_at_bool, Sem.run_bind, Sem.run_pure, Result.andThen_ok]
  exact eqOp_run hop (fun _ _ _ => trivial) rfl rfl he

theorem op_un {op : UnOp} {d : DV} {r : PV} (h : unPV op d = some r) {U : Nat → Prop} {x : Value} (hx : DRep w U β H nx d x) : ∃ z, (Op.unary op x).run P w = .ok z w ∧ PRep w U r z := by
  unfold unPV at h
  split at h
  · obtain rfl := hx.bool_inv
    split at h
    · cases h; exact ⟨_, rfl, .bool _⟩
    · cases h
  · obtain rfl := hx.int_inv
    split at h
    · cases h; exact ⟨_, by simp [Op.unary, Op.intArith], .int _ _⟩
    · cases h; exact ⟨_, by simp [Op.unary, intBits_xor], .int _ _⟩
    · cases h
  · cases h

theorem mm_ok {isMax : Bool} {a : PV} {b : DV} {r : PV} (h : mm2 isMax a b = some r) {U : Nat → Prop} {x y : Value} (hx : PRep w U a x) (hy : DRep w U β H nx b y) :
    ∃ z, ((if isMax then Builtin.max2 else Builtin.min2) x y).run P w = .ok z w ∧ PRep w U r z := by
  unfold mm2 at h
  split at h
  · cases hx
    obtain rfl := hy.int_inv
    split at h
    · rename_i e; subst e; cases h
      cases isMax
      · refine ⟨_, rfl, ?_⟩; simp only [Bool.false_eq_true, if_false]; exact .int _ _
      · refine ⟨_, rfl, ?_⟩; simp only [if_true]; exact .int _ _
    · cases h
  · cases hx
    obtain rfl := hy.str_inv
    cases isMax
    · simp only [Bool.false_eq_true, if_false, bytesCmp] at h ⊢
      cases h
      exact ⟨_, by simp [Builtin.min2, Op.stringOp, asBool], .str _⟩
    · simp only [if_true, bytesCmp] at h ⊢
      cases h
      exact ⟨_, by simp [Builtin.max2, Op.stringOp, asBool], .str _⟩
  · cases h

theorem fold_ok {isMax : Bool} {U : Nat → Prop} : ∀ (l : List DV) (q : List Value) (a : PV) (x : Value) (r : PV), foldO (mm2 isMax) a l = some r → l.length = q.length → (∀ (j : Nat) (d : DV), l[j]? = some d → DRep w U β H nx d (q.getD j undef)) → PRep w U a x →
    ∃ z, (q.foldlM (if isMax then Builtin.max2 else Builtin.min2) x).run P w = .ok z w ∧ PRep w U r z
  | [], [], a, x, r, h, _, _, hx => by simp only [foldO, Option.some.injEq] at h; subst h; exact ⟨x, rfl, hx⟩
  | d :: l, v :: q, a, x, r, h, hl, hq, hx => by
    simp only [foldO] at h
    cases hm : mm2 isMax a d with
    | none => rw [hm] at h; cases h
    | some b =>
      rw [hm] at h
      obtain ⟨z, h1, h2⟩ := mm_ok (P := P) hm hx (by simpa using hq 0 d rfl)
      obtain ⟨z', h3, h4⟩ := fold_ok l q b z r h (by simpa using hl) (fun j e he => by simpa using hq (j + 1) e (by simpa using he)) h2
      exact ⟨z', by rw [List.foldlM_cons]; simp only [Sem.run_bind, h1, Result.andThen_ok, h3], h4⟩
  | [], _ :: _, _, _, _, _, h, _, _ => by simp at h
  | _ :: _, [], _, _, _, _, h, _, _ => by simp at h

end
end Go.Dv
