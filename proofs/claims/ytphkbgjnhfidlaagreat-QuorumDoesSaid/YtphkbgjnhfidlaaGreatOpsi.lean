/-
  Operations, part 9: every operation at once ('op_sound').
-/
import Derived.Lib.SliceRun
import Derived.MapKept
import Derived.Test.YtphkbgjnhfidlaaGreatOpsh
set_option linter.unusedVariables false
set_option linter.unusedSimpArgs false
namespace Go.Dv
open Go.RowKit

section
variable {P : Program} {B : Nat} {w0 : World} {U0 : Nat → Prop} {β : Place} {w : World} {nt : Cx} {s : St} {a : Act} {cf : CallF}

theorem wp_v {o : Oper} {sm : Sem Value} {y : Value} {w' : World} {K : Act → World → Prop} {Q : Exit → Act → World → Prop} (he : execOp a.eval o = (do pure (.value (← sm)))) (h : sm.run P w = .ok y w') (hK : K (a.put o.dst y) w') : o.wp P a w K Q :=
  wp_of_run (by rw [he]; simp [h]) hK

theorem wp_u {o : Oper} {sm : Sem Unit} {w' : World} {K : Act → World → Prop} {Q : Exit → Act → World → Prop} (he : execOp a.eval o = (do sm; pure .skip)) (h : sm.run P w = .ok () w') (hK : K (a.put o.dst undef) w') : o.wp P a w K Q :=
  wp_of_skip (by rw [he]; simp [h]) hK

theorem wp_enter {o : Oper} {f : FuncId} {args : Array Value} {K : Act → World → Prop} {Q : Exit → Act → World → Prop} (he : (execOp a.eval o).run P w = .ok (.enter f args) w) {G : Value → World → Prop}
    (h : Calls P f args w fun e w' => ∃ x, e = .returned x ∧ G x w') (hK : ∀ x w', G x w' → K (a.put o.dst x) w') : o.wp P a w K Q := by
  unfold Oper.wp
  rw [he, Oper.upon_enter]
  refine h.mono ?_
  rintro e w' ⟨x, rfl, hg⟩
  exact hK x w' hg

theorem isBoolT_some {t : TypeId} (h : isBoolT P t = true) : P.underlying t = some .bool := by
  unfold isBoolT at h; split at h
  · assumption
  · cases h

theorem isStrT_some {t : TypeId} (h : isStrT P t = true) : P.underlying t = some .string := by
  unfold isStrT at h; split at h
  · assumption
  · cases h

theorem op_load (g : Gam B w0 U0 nt β s a w) {x : Operand} {d : DO} (ho : opnd x d = true) {t : TypeId} {n : Option Nat} (hn : aggOK P t n = true) {v : DV} {H' : Heap} {nx' : Nat} (hd : dop cf (.load n d) s = some (v, H', nx')) :
    ∃ y, (Instr.loadAt t (a.eval x)).run P w = .ok y w ∧ Good B w0 U0 s.heap s.next β w v H' nx' y w := by
  simp only [dop] at hd
  cases hv : s.ev d with
  | none => rw [hv] at hd; cases hd
  | some q =>
  have hx := g.ev ho hv
  rw [hv] at hd
  cases q with
  | ptr id off =>
    simp only at hd
    cases hH : aget s.heap id with
    | none => rw [hH] at hd; cases hd
    | some blk =>
    cases blk with
    | row f sz xs => rw [hH] at hd; cases hd
    | map _ _ => rw [hH] at hd; cases hd
    | var f cs =>
    rw [hH] at hd
    cases n with
    | none =>
      simp only at hd
      cases hc : cs[off]? with
      | none => rw [hc] at hd; cases hd
      | some e =>
        rw [hc] at hd; cases hd
        obtain ⟨y, h1, h2⟩ := load_scalar (P := P) (ptr_cells g.mem hH hx (n := 1) (by have := lt_of_get? hc; omega)) (by omega) (aggOK_none hn)
        exact ⟨y, h1, good_same g.mem (h2 _ hc)⟩
    | some n =>
      obtain ⟨ht, hs, hpos⟩ := aggOK_some hn
      simp only at hd
      cases hc : takeDrop cs off n with
      | none => rw [hc] at hd; cases hd
      | some l =>
        rw [hc] at hd; cases hd
        rcases takeDrop_some hc with ⟨rfl, hfit⟩ | ⟨h0, _⟩
        · obtain ⟨vs, h1, h2, h3⟩ := load_agg (P := P) (ptr_cells g.mem hH hx (n := n) hfit) ht hs
          have hget : ∀ (j : Nat) (y : DV), ((cs.drop off).take n)[j]? = some y → j < n ∧ cs[off + j]? = some y := by
            intro j y hy
            rw [List.getElem?_take] at hy
            split at hy
            · rename_i hj; rw [List.getElem?_drop] at hy; exact ⟨hj, hy⟩
            · cases hy
          exact ⟨_, h1, good_same g.mem (.agg _ vs (by rw [h2]; simp; omega) (fun j y hy => (h3 j (hget j y hy).1).1) (fun j y hy => (h3 j (hget j y hy).1).2 _ (hget j y hy).2))⟩
        · omega
  | p q =>
    cases q with
    | vptr cs =>
      simp only at hd
      cases hx with | p _ _ hp =>
      cases n with
      | none =>
        simp only at hd
        cases hc : cs[0]? with
        | none => rw [hc] at hd; cases hd
        | some e =>
          rw [hc] at hd; cases hd
          obtain ⟨y, h1, h2⟩ := load_scalar (P := P) (vptr_cells hp (n := 1) (by have := lt_of_get? hc; omega) (by omega)) (by omega) (aggOK_none hn)
          exact ⟨y, h1, good_same g.mem (.p _ _ (h2 _ hc))⟩
      | some n =>
        obtain ⟨ht, hs, hpos⟩ := aggOK_some hn
        simp only at hd
        cases hc : takeDrop cs 0 n with
        | none => rw [hc] at hd; cases hd
        | some l =>
          rw [hc] at hd; cases hd
          rcases takeDrop_some hc with ⟨rfl, hfit⟩ | ⟨h0, _⟩
          · obtain ⟨vs, h1, h2, h3⟩ := load_agg (P := P) (vptr_cells hp (n := n) (by omega) hpos) ht hs
            have hget : ∀ (j : Nat) (y : DV), (((cs.drop 0).take n).map DV.p)[j]? = some y → j < n ∧ ∃ q, cs[j]? = some q ∧ y = .p q := by
              intro j y hy
              rw [List.getElem?_map, List.drop_zero, List.getElem?_take] at hy
              split at hy
              · rename_i hj
                cases hq : cs[j]? with
                | none => rw [hq] at hy; cases hy
                | some q => rw [hq] at hy; simp only [Option.map_some, Option.some.injEq] at hy; exact ⟨hj, q, rfl, hy.symm⟩
              · cases hy
            refine ⟨_, h1, good_same g.mem (.agg _ vs (by rw [h2]; simp; omega) (fun j y hy => (h3 j (hget j y hy).1).1) (fun j y hy => ?_))⟩
            obtain ⟨hj, q, hq, rfl⟩ := hget j y hy
            exact .p _ _ ((h3 j hj).2 _ hq)
          · omega
    | _ => cases hd
  | eptr id ver i off =>
    simp only at hd
    cases hH : aget s.heap id with
    | none => rw [hH] at hd; cases hd
    | some blk =>
    cases blk with
    | var f cs => rw [hH] at hd; cases hd
    | map _ _ => rw [hH] at hd; cases hd
    | row f sz xs =>
    rw [hH] at hd
    simp only at hd
    split at hd
    · rename_i hver
      cases hi : xs[i]? with
      | none => rw [hi] at hd; cases hd
      | some y0 =>
      rw [hi] at hd
      cases n with
      | none =>
        simp only at hd
        cases hc : y0[off]? with
        | none => rw [hc] at hd; cases hd
        | some e =>
          rw [hc] at hd; cases hd
          obtain ⟨y, h1, h2⟩ := load_scalar (P := P) (eptr_cells g.mem hH hver hi hx (n := 1) (by have := lt_of_get? hc; omega) (by omega)) (by omega) (aggOK_none hn)
          exact ⟨y, h1, good_same g.mem (.p _ _ (h2 _ hc))⟩
      | some n =>
        obtain ⟨ht, hs, hpos⟩ := aggOK_some hn
        simp only at hd
        cases hc : takeDrop y0 off n with
        | none => rw [hc] at hd; cases hd
        | some l =>
          rw [hc] at hd; cases hd
          rcases takeDrop_some hc with ⟨rfl, hfit⟩ | ⟨h0, _⟩
          · obtain ⟨vs, h1, h2, h3⟩ := load_agg (P := P) (eptr_cells g.mem hH hver hi hx (n := n) hfit hpos) ht hs
            have hget : ∀ (j : Nat) (y : DV), (((y0.drop off).take n).map DV.p)[j]? = some y → j < n ∧ ∃ q, y0[off + j]? = some q ∧ y = .p q := by
              intro j y hy
              rw [List.getElem?_map, List.getElem?_take] at hy
              split at hy
              · rename_i hj
                rw [List.getElem?_drop] at hy
                cases hq : y0[off + j]? with
                | none => rw [hq] at hy; cases hy
                | some q => rw [hq] at hy; simp only [Option.map_some, Option.some.injEq] at hy; exact ⟨hj, q, rfl, hy.symm⟩
              · cases hy
            refine ⟨_, h1, good_same g.mem (.agg _ vs (by rw [h2]; simp; omega) (fun j y hy => (h3 j (hget j y hy).1).1) (fun j y hy => ?_))⟩
            obtain ⟨hj, q, hq, rfl⟩ := hget j y hy
            exact .p _ _ ((h3 j hj).2 _ hq)
          · omega
    · cases hd
  | _ => cases hd

theorem op_store (g : Gam B w0 U0 nt β s a w) {x y : Operand} {d e : DO} (ho : opnd x d = true) (ho' : opnd y e = true) {t : TypeId} {n : Nat} (hn : sizeIs P t n = true) {v : DV} {H' : Heap} {nx' : Nat} (hd : dop cf (.store n d e) s = some (v, H', nx')) :
    ∃ w', (Instr.storeAt t (a.eval x) (a.eval y)).run P w = .ok () w' ∧ Good B w0 U0 s.heap s.next β w v H' nx' undef w' := by
  simp only [dop] at hd
  cases hv : s.ev d with
  | none => rw [hv] at hd; cases hd
  | some q =>
  cases hu : s.ev e with
  | none => rw [hv, hu] at hd; cases q <;> cases hd
  | some u =>
  have hx := g.ev ho hv
  have hy := g.ev ho' hu
  rw [hv, hu] at hd
  cases q with
  | ptr id off =>
    simp only at hd
    cases hH : aget s.heap id with
    | none => rw [hH] at hd; cases hd
    | some blk =>
    cases blk with
    | row f sz xs => rw [hH] at hd; cases hd
    | map _ _ => rw [hH] at hd; cases hd
    | var f cs =>
    rw [hH] at hd
    cases f with
    | true => cases hd
    | false =>
    cases hc : u.cells with
    | none => rw [hc] at hd; cases hd
    | some l =>
      rw [hc] at hd
      simp only at hd
      split at hd
      · rename_i hcond
        obtain ⟨hl, hfit⟩ := hcond
        cases hd
        obtain ⟨g1, g2⟩ := cells_ok hc hy
        rw [← hl] at hn
        exact store_var (P := P) g.mem hH hx (by omega) g1 g2 hn
      · cases hd
  | eptr id ver i off =>
    simp only at hd
    cases hH : aget s.heap id with
    | none => rw [hH] at hd; cases hd
    | some blk =>
    cases blk with
    | var f cs => rw [hH] at hd; cases hd
    | map _ _ => rw [hH] at hd; cases hd
    | row f sz xs =>
    rw [hH] at hd
    cases f with
    | true => cases hd
    | false =>
    cases hp : pur s.heap dep u with
    | none => rw [hp] at hd; cases hd
    | some p =>
    rw [hp] at hd
    try simp only at hd
    cases hi : xs[i]? with
    | none => rw [hi] at hd; cases hd
    | some y0 =>
    cases hc : p.cellsOf with
    | none => rw [hi, hc] at hd; cases hd
    | some l =>
      rw [hi, hc] at hd
      simp only at hd
      split at hd
      · rename_i hcond
        obtain ⟨hver, hl, hfit, hnot⟩ := hcond
        cases hd
        generalize hids : tch s.heap dep u = ids at *
        have hpv := pur_ok g.mem ids dep u p _ hp (fun i hi => by rw [hids] at hi; exact hi) hy
        obtain ⟨g1, g2⟩ := pcells_ok hc hpv
        have l1 := less_frz ids s.heap
        have m1 := g.mem.less l1
        have k1 := l1.keeps (U0 := U0) (β := β) w
        have e1 := l1.evo (β := β) (Nat.le_refl s.next)
        have hH' : aget (frz s.heap ids) id = some (.row false sz xs) := by
          have : ∀ (r : List Nat) (H : Heap), id ∉ r → aget H id = some (.row false sz xs) → aget (frz H r) id = some (.row false sz xs) := by
            intro r
            induction r with
            | nil => intro H _ h; exact h
            | cons k r ih =>
              intro H hni h
              simp only [frz]
              simp only [List.mem_cons, not_or] at hni
              refine ih _ hni.2 ?_
              rw [aget_frz1, if_neg (fun e => hni.1 e.symm)]; exact h
          exact this ids s.heap hnot hH
        rw [← hl] at hn
        obtain ⟨w', hr, β', m2, k2, e2, d2⟩ := store_elem (P := P) m1 hH' hver hi (hx.evo k1 e1) (by omega) g1 g2 hn
        exact ⟨w', hr, β', m2, k1.trans k2, e1.trans e2, d2⟩
      · cases hd
  | _ => cases hd

theorem info_of {t : TypeId} {p : TypeInfo → Bool} (h : (match P.info? t with | some i => p i | none => false) = true) : ∃ i, P.info? t = some i ∧ p i = true := by
  cases hi : P.info? t with
  | none => rw [hi] at h; cases h
  | some i => rw [hi] at h; exact ⟨i, rfl, h⟩

theorem op_pick (g : Gam B w0 U0 nt β s a w) {c x y : Operand} {c' x' y' : DO} (h1 : opnd c c' = true) (h2 : opnd x x' = true) (h3 : opnd y y' = true) {o : Oper} (ho : o.op = .pick c x y) {v : DV} {H' : Heap} {nx' : Nat} (hd : dop cf (.pick c' x' y') s = some (v, H', nx')) :
    ∃ z, (execOp a.eval o).run P w = .ok (.value z) w ∧ Good B w0 U0 s.heap s.next β w v H' nx' z w := by
  simp only [dop] at hd
  cases hv : s.ev c' with
  | none => rw [hv] at hd; cases hd
  | some q =>
    rw [hv] at hd
    cases q with
    | p q => cases q with
      | bool t =>
        have hb := (g.ev h1 hv).bool_inv
        simp only at hd
        cases hu : s.ev (if t then x' else y') with
        | none => rw [hu] at hd; cases hd
        | some r =>
          rw [hu] at hd; cases hd
          cases t with
          | true =>
            simp only [if_true] at hu
            exact ⟨a.eval x, by simp [execOp, ho, hb, asBool], good_same g.mem (g.ev h2 hu)⟩
          | false =>
            simp only [Bool.false_eq_true, if_false] at hu
            exact ⟨a.eval y, by simp [execOp, ho, hb, asBool], good_same g.mem (g.ev h3 hu)⟩
      | _ => cases hd
    | _ => cases hd

theorem op_build (g : Gam B w0 U0 nt β s a w) {t : TypeId} {parts : Array (Nat × Operand)} {zero : List PV} {ps : List (Nat × Nat × DO)} (hzo : zeroOK P t zero = true) (hp : (match P.underlying t with
      | some (.struct fs) => fieldsInfo P fs && partsOK P fs parts.toList ps
      | some (.array _ e) => match P.info? e with
        | some i => partsOKA i.size parts.toList ps
        | none => false
      | _ => false) = true) {v : DV} {H' : Heap} {nx' : Nat} (hd : dop cf (.build zero ps) s = some (v, H', nx')) :
    ∃ z, (Instr.build t (parts.map fun p => (p.1, a.eval p.2))).run P w = .ok z w ∧ Good B w0 U0 s.heap s.next β w v H' nx' z w := by
  obtain ⟨i, z, hi, hz, hzc, hsz⟩ := zeroOK_some hzo
  have hz0 := zero_cells (w := w) (β := β) (H := s.heap) (nx := s.next) hzc (U := Own U0 β s.heap)
  simp only [dop] at hd
  cases hl : evParts s ps with
  | none => rw [hl] at hd; cases hd
  | some l =>
  rw [hl] at hd
  simp only at hd
  cases hf : fillAgg (zero.map .p) l with
  | none => rw [hf] at hd; cases hd
  | some cs =>
  rw [hf] at hd; cases hd
  have fin : ∀ arr, CellsRep w (Own U0 β s.heap) β s.heap s.next cs arr → Good B w0 U0 s.heap s.next β w (.agg cs) s.heap s.next (.agg arr) w :=
    fun arr ha => good_same g.mem (.agg cs arr ha.1 (fun j y hy => (ha.2 j y hy).2) (fun j y hy => (ha.2 j y hy).1))
  split at hp
  · rename_i fs hu
    simp only [Bool.and_eq_true] at hp
    obtain ⟨hfi, hpo⟩ := hp
    obtain ⟨pl, h1, h2⟩ := run_places (P := P) (w := w) fs.toList (by unfold fieldsInfo at hfi; exact List.all_eq_true.1 hfi)
    have hpr := evParts_ok g (fs := fs) (pl := pl) (fun i f n hk hs => h2 i f n (by simpa using hk) hs) parts.toList ps l hpo hl
    obtain ⟨arr, ha1, ha2⟩ := fill_ok _ _ _ _ _ hpr hf hz0
    refine ⟨_, ?_, fin arr ha2⟩
    have hmm : ((fs.mapM fun f => (do pure (f.offset, ← sizeOf f.type) : Sem (Nat × Nat))) : Sem (Array (Nat × Nat))).run P w = .ok pl.toArray w := by
      rw [Array.mapM_eq_mapM_toList, Sem.run_map, h1]; rfl
    simp only [Instr.build, Sem.run_bind, zeroValue, typeInfo, run_program, Result.andThen_ok, hi, hz, Sem.run_pure, run_underlying hu]
    rw [hmm]
    simp only [Result.andThen_ok, Array.toList_map, ha1, Sem.run_pure]
  · rename_i n e hu
    obtain ⟨ie, hie, hpo⟩ := info_of hp
    have hpr := evPartsA_ok g parts.toList ps l hpo hl
    obtain ⟨arr, ha1, ha2⟩ := fill_ok _ _ _ _ _ hpr hf hz0
    refine ⟨_, ?_, fin arr ha2⟩
    simp only [Instr.build, Sem.run_bind, zeroValue, typeInfo, run_program, Result.andThen_ok, hi, hz, Sem.run_pure, run_underlying hu, sizeOf, hie, Array.toList_map, ha1]
  · cases hp

theorem op_nilCheck (g : Gam B w0 U0 nt β s a w) {x : Operand} {d : DO} (hm : opnd x d = true) {o : Oper} (ho : o.op = .nilCheck x) {v : DV} {H' : Heap} {nx' : Nat} (hd : dop cf (.nilCheck d) s = some (v, H', nx')) :
    ∃ z, (execOp a.eval o).run P w = .ok (.value z) w ∧ Good B w0 U0 s.heap s.next β w v H' nx' z w := by
  simp only [dop] at hd
  cases hv : s.ev d with
  | none => rw [hv] at hd; cases hd
  | some q =>
    rw [hv] at hd
    simp only at hd
    split at hd
    · rename_i hp
      cases hd
      have hx := g.ev hm hv
      refine ⟨a.eval x, ?_, good_same g.mem hx⟩
      have hptr : ∃ ad, a.eval x = .pointer (some ad) := by
        generalize a.eval x = xv at hx
        cases hx with
        | p q xv hq =>
          cases hq <;> first | (simp [isPtr] at hp; done) | exact ⟨_, rfl⟩
        | ptr id off xv hid hc h =>
          simp only [isPtr] at hp
          split at hp
          · rename_i f cs hH
            obtain ⟨b, c, _, e⟩ := h _ _ hH
            exact ⟨_, e⟩
          · cases hp
        | eptr id ver i off xv hid hc h =>
          simp only [isPtr] at hp
          split at hp
          · rename_i f sz xs hH
            simp only [Bool.and_eq_true, decide_eq_true_eq] at hp
            obtain ⟨b, c, _, e⟩ := (h _ _ _ hH).2 hp.1 hp.2
            exact ⟨_, e⟩
          · cases hp
        | _ => simp [isPtr] at hp
      obtain ⟨ad, e⟩ := hptr
      simp [execOp, ho, e]
    · cases hd

theorem op_bins (g : Gam B w0 U0 nt β s a w) {op : BinOp} {x y : Operand} {x' y' : DO} (h2 : opnd x x' = true) (h3 : opnd y y' = true) (t : TypeId) {v : DV} {H' : Heap} {nx' : Nat} (hd : dop cf (.bin op x' y') s = some (v, H', nx')) :
    ∃ z, (do eqGuard op t x y (a.eval x) (a.eval y); binOp op t (a.eval x) (a.eval y) : Sem Value).run P w = .ok z w ∧ Good B w0 U0 s.heap s.next β w v H' nx' z w := by
  simp only [dop] at hd
  cases hv : s.ev x' with
  | none => rw [hv] at hd; cases hd
  | some p =>
  cases hu : s.ev y' with
  | none => rw [hv, hu] at hd; cases hd
  | some q =>
  rw [hv, hu] at hd
  simp only at hd
  cases hb : binPV op p q with
  | none => rw [hb] at hd; cases hd
  | some r =>
    rw [hb] at hd; cases hd
    obtain ⟨z, h4, h5⟩ := binPV_ok (P := P) hb (g.ev h2 hv) (g.ev h3 hu) t x y
    exact ⟨z, h4, good_same g.mem (.p _ _ h5)⟩

theorem op_isNil (g : Gam B w0 U0 nt β s a w) {x y : Operand} {x' : DO} (h2 : opnd x x' = true) (h3 : (match y with | .const (.slice none 0 0) => true | _ => false) = true) {t : TypeId} (ht : (sliceElem P t).isSome = true) {v : DV} {H' : Heap} {nx' : Nat} (hd : dop cf (.isNil x') s = some (v, H', nx')) :
    ∃ z, (do eqGuard .eql t x y (a.eval x) (a.eval y); binOp .eql t (a.eval x) (a.eval y) : Sem Value).run P w = .ok z w ∧ Good B w0 U0 s.heap s.next β w v H' nx' z w := by
  obtain ⟨e, he⟩ := Option.isSome_iff_exists.1 ht
  have hu := sliceElem_some he
  have hy : a.eval y = .slice none 0 0 := by
    split at h3
    · rfl
    · cases h3
  have run : ∀ (b : Option Addr) (n c : Nat), (do eqGuard .eql t x y (.slice b n c) (.slice none 0 0); binOp .eql t (.slice b n c) (.slice none 0 0) : Sem Value).run P w = .ok (.bool b.isNone) w := by
    intro b n c
    have hgd : (eqGuard .eql t x y (.slice b n c) (.slice none 0 0)).run P w = .ok () w := by
      unfold eqGuard; rfl
    rw [Sem.run_bind, hgd, Result.andThen_ok]
    exact Go.Lib.run_eql_slice_nil w t e b n c 0 0 hu
  rw [hy]
  simp only [dop] at hd
  split at hd
  · rename_i b hv
    cases hd
    have hx := g.ev h2 hv
    generalize a.eval x = q at hx ⊢
    cases hx with | p _ _ hx => cases hx with | z ad c => exact ⟨_, run ad 0 c, good_same g.mem (.p _ _ (.bool _))⟩
  · rename_i full y ys hv
    cases hd
    have hx := g.ev h2 hv
    generalize a.eval x = q at hx ⊢
    cases hx with | p _ _ hx =>
      cases hx with | slice _ _ b off c sz arr T fz vs => exact ⟨_, run _ _ c, good_same g.mem (.p _ _ (.bool _))⟩
  · cases hd

theorem op_eqbs (g : Gam B w0 U0 nt β s a w) {op : BinOp} {neg : Bool} (hop : eqOp op neg = true) {x y : Operand} {x' y' : DO} (h2 : opnd x x' = true) (h3 : opnd y y' = true) {t : TypeId} (ht : isBoolT P t = true) {v : DV} {H' : Heap} {nx' : Nat} (hd : dop cf (.eqb neg x' y') s = some (v, H', nx')) :
    ∃ z, (do eqGuard op t x y (a.eval x) (a.eval y); binOp op t (a.eval x) (a.eval y) : Sem Value).run P w = .ok z w ∧ Good B w0 U0 s.heap s.next β w v H' nx' z w := by
  simp only [dop] at hd
  split at hd
  · rename_i p q hv hu
    cases hd
    rw [(g.ev h2 hv).bool_inv, (g.ev h3 hu).bool_inv]
    exact ⟨_, op_eqb hop (isBoolT_some ht) p q x y, good_same g.mem (.p _ _ (.bool _))⟩
  · cases hd

theorem op_eqaggs (g : Gam B w0 U0 nt β s a w) {op : BinOp} {neg : Bool} (hop : eqOp op neg = true) {offs : List (Nat × Nat)} {x y : Operand} {x' y' : DO} (h2 : opnd x x' = true) (h3 : opnd y y' = true) {t : TypeId} (ht : (match P.underlying t with
      | some (.struct fs) => eqFieldsOK P fs.toList offs && !P.stoodInHeld t && !P.eqGuardType P.depth t
      | _ => false) = true) {v : DV} {H' : Heap} {nx' : Nat} (hd : dop cf (.eqagg neg offs x' y') s = some (v, H', nx')) :
    ∃ z, (do eqGuard op t x y (a.eval x) (a.eval y); binOp op t (a.eval x) (a.eval y) : Sem Value).run P w = .ok z w ∧ Good B w0 U0 s.heap s.next β w v H' nx' z w := by
  split at ht
  · rename_i fs hu
    simp only [Bool.and_eq_true, Bool.not_eq_true'] at ht
    simp only [dop] at hd
    split at hd
    · rename_i xs ys hv hu'
      cases he : eqCells xs ys offs with
      | none => rw [he] at hd; cases hd
      | some r =>
        rw [he] at hd; cases hd
        exact ⟨_, op_eqagg hop hu ht.1.1 ht.1.2 ht.2 (g.ev h2 hv) (g.ev h3 hu') he x y, good_same g.mem (.p _ _ (.bool _))⟩
    · cases hd
  · cases ht

theorem op_uns (g : Gam B w0 U0 nt β s a w) {op : UnOp} {x : Operand} {x' : DO} (h2 : opnd x x' = true) {v : DV} {H' : Heap} {nx' : Nat} (hd : dop cf (.un op x') s = some (v, H', nx')) :
    ∃ z, (Op.unary op (a.eval x)).run P w = .ok z w ∧ Good B w0 U0 s.heap s.next β w v H' nx' z w := by
  simp only [dop] at hd
  cases hv : s.ev x' with
  | none => rw [hv] at hd; cases hd
  | some p =>
  rw [hv] at hd
  simp only at hd
  cases hb : unPV op p with
  | none => rw [hb] at hd; cases hd
  | some r =>
    rw [hb] at hd; cases hd
    obtain ⟨z, h4, h5⟩ := op_un (P := P) hb (g.ev h2 hv)
    exact ⟨z, h4, good_same g.mem (.p _ _ h5)⟩

theorem op_convs (g : Gam B w0 U0 nt β s a w) {k : IntKind} {x : Operand} {x' : DO} (h2 : opnd x x' = true) {src dst : TypeId} (hs : (P.underlying src).isSome = true) (hdst : (match P.underlying dst with | some (.int k') => decide (k = k') | _ => false) = true) {v : DV} {H' : Heap} {nx' : Nat} (hd : dop cf (.conv k x') s = some (v, H', nx')) :
    ∃ z, (convert src dst (a.eval x)).run P w = .ok z w ∧ Good B w0 U0 s.heap s.next β w v H' nx' z w := by
  simp only [dop] at hd
  split at hdst
  · rename_i k' hu
    simp only [decide_eq_true_eq] at hdst; subst hdst
    obtain ⟨ds, hds⟩ := Option.isSome_iff_exists.1 hs
    split at hd
    · rename_i q n hv
      cases hd
      rw [(g.ev h2 hv).int_inv]
      exact ⟨_, by simp [convert, run_underlying hds, run_underlying hu, Conv.intToInt], good_same g.mem (.p _ _ (.int _ _))⟩
    · cases hd
  · cases hdst

theorem op_convSs (g : Gam B w0 U0 nt β s a w) {x : Operand} {x' : DO} (h2 : opnd x x' = true) {src dst : TypeId} (hs : (P.underlying src).isSome = true) (hdst : isStrT P dst = true) {v : DV} {H' : Heap} {nx' : Nat} (hd : dop cf (.convS x') s = some (v, H', nx')) :
    ∃ z, (convert src dst (a.eval x)).run P w = .ok z w ∧ Good B w0 U0 s.heap s.next β w v H' nx' z w := by
  simp only [dop] at hd
  obtain ⟨ds, hds⟩ := Option.isSome_iff_exists.1 hs
  split at hd
  · rename_i b hv
    cases hd
    have hx := g.ev h2 hv
    have e := hx.str_inv
    rw [e] at hx ⊢
    exact ⟨_, by simp [convert, run_underlying hds, run_underlying (isStrT_some hdst)], good_same g.mem hx⟩
  · cases hd

theorem op_slices (g : Gam B w0 U0 nt β s a w) {sz : Nat} {x : Operand} {lo hi mx : Option Operand} {x' : DO} {lo' hi' mx' : Option DO} (h1 : opnd x x' = true) (h2 : opnd? lo lo' = true) (h3 : opnd? hi hi' = true) (h4 : opnd? mx mx' = true) (h5 : (mx.isNone || hi.isSome) = true)
    {t : TypeId} (ht : (match sliceElem P t with | some e => sizeIs P e sz | none => false) = true) {v : DV} {H' : Heap} {nx' : Nat} (hd : dop cf (.slice sz x' lo' hi' mx') s = some (v, H', nx')) :
    ∃ z w', (Instr.sliceAt t (a.eval x) (lo.map a.eval) (hi.map a.eval) (mx.map a.eval)).run P w = .ok z w' ∧ Good B w0 U0 s.heap s.next β w v H' nx' z w' := by
  cases hse : sliceElem P t with
  | none => rw [hse] at ht; cases ht
  | some e =>
  rw [hse] at ht
  simp only [dop] at hd
  split at hd
  · rename_i q l h m hv hl hh hm
    cases hr : sliceDV s.heap sz q l h m with
    | none => rw [hr] at hd; cases hd
    | some r =>
      obtain ⟨r, ids⟩ := r
      rw [hr] at hd; cases hd
      refine op_slice (P := P) (sliceElem_some hse) ht g.mem (g.ev h1 hv) (low_ok g h2 hl) (bound_ok g h3 hh) (bound_ok g h4 hm) ?_ hr
      intro e
      cases mx <;> cases hi <;> simp_all
  · cases hd

theorem op_sliceSs (g : Gam B w0 U0 nt β s a w) {x : Operand} {lo hi : Option Operand} {x' : DO} {lo' hi' : Option DO} (h1 : opnd x x' = true) (h2 : opnd? lo lo' = true) (h3 : opnd? hi hi' = true)
    {t : TypeId} (ht : isStrT P t = true) {v : DV} {H' : Heap} {nx' : Nat} (hd : dop cf (.sliceS x' lo' hi') s = some (v, H', nx')) :
    ∃ z w', (Instr.sliceAt t (a.eval x) (lo.map a.eval) (hi.map a.eval) none).run P w = .ok z w' ∧ Good B w0 U0 s.heap s.next β w v H' nx' z w' := by
  simp only [dop] at hd
  split at hd
  · rename_i b l h hv hl hh
    cases hr : sliceStr b l h with
    | none => rw [hr] at hd; cases hd
    | some r =>
      rw [hr] at hd; cases hd
      rw [(g.ev h1 hv).str_inv]
      exact op_sliceS (P := P) (isStrT_some ht) g.mem (low_ok g h2 hl) (bound_ok g h3 hh) hr
  · cases hd

theorem op_fieldAddrs (g : Gam B w0 U0 nt β s a w) {x : Operand} {off : Nat} {x' : DO} (h1 : opnd x x' = true) {t : TypeId} {f : Nat} (ht : (match P.underlying t with
      | some (.struct fs) => match fs[f]? with
        | some fl => fl.offset == off && (match P.info? fl.type with | some i => decide (0 < i.size) | none => false)
        | none => false
      | _ => false) = true) {v : DV} {H' : Heap} {nx' : Nat} (hd : dop cf (.fieldAddr off x') s = some (v, H', nx')) :
    ∃ z, (Instr.fieldAt t (a.eval x) f).run P w = .ok z w ∧ Good B w0 U0 s.heap s.next β w v H' nx' z w := by
  split at ht
  · rename_i fs hu
    cases hf : fs[f]? with
    | none => rw [hf] at ht; cases ht
    | some fl =>
    rw [hf] at ht
    simp only [Bool.and_eq_true, beq_iff_eq] at ht
    obtain ⟨hoff, hi⟩ := ht
    obtain ⟨i, hi, hpos⟩ := info_of hi
    simp only [decide_eq_true_eq] at hpos
    subst hoff
    simp only [dop] at hd
    cases hv : s.ev x' with
    | none => rw [hv] at hd; cases hd
    | some q =>
    rw [hv] at hd
    have hx := g.ev h1 hv
    cases q with
    | ptr id o =>
      simp only at hd
      cases hH : aget s.heap id with
      | none => rw [hH] at hd; cases hd
      | some blk =>
      cases blk with
      | row f sz xs => rw [hH] at hd; cases hd
      | map _ _ => rw [hH] at hd; cases hd
      | var fz cs =>
        rw [hH] at hd; cases hd
        obtain ⟨z, h2, h3⟩ := op_fieldAddr (P := P) hu hf hi hpos g.mem hx (r := .ptr id (o + fl.offset)) (by simp only [hH])
        exact ⟨z, h2, good_same g.mem h3⟩
    | p q =>
      cases q with
      | vptr cs =>
        cases hd
        obtain ⟨z, h2, h3⟩ := op_fieldAddr (P := P) hu hf hi hpos g.mem hx (r := .p (.vptr (cs.drop fl.offset))) rfl
        exact ⟨z, h2, good_same g.mem h3⟩
      | _ => cases hd
    | eptr id ver i0 o =>
      simp only at hd
      cases hH : aget s.heap id with
      | none => rw [hH] at hd; cases hd
      | some blk =>
      cases blk with
      | var fz cs => rw [hH] at hd; cases hd
      | map _ _ => rw [hH] at hd; cases hd
      | row fz sz xs =>
        rw [hH] at hd
        simp only at hd
        split at hd
        · rename_i hc
          cases hd
          obtain ⟨z, h2, h3⟩ := op_fieldAddr (P := P) hu hf hi hpos g.mem hx (r := .eptr id ver i0 (o + fl.offset)) (by simp only [hH]; rw [if_pos hc])
          exact ⟨z, h2, good_same g.mem h3⟩
        · cases hd
    | _ => cases hd
  · cases ht

theorem op_fields (g : Gam B w0 U0 nt β s a w) {x : Operand} {off : Nat} {n : Option Nat} {x' : DO} (h1 : opnd x x' = true) {t : TypeId} {f : Nat} (ht : (match P.underlying t with
      | some (.struct fs) => match fs[f]? with
        | some fl => fl.offset == off && aggOK P fl.type n
        | none => false
      | _ => false) = true) {v : DV} {H' : Heap} {nx' : Nat} (hd : dop cf (.field off n x') s = some (v, H', nx')) :
    ∃ z, (Instr.field t (a.eval x) f).run P w = .ok z w ∧ Good B w0 U0 s.heap s.next β w v H' nx' z w := by
  split at ht
  · rename_i fs hu
    cases hf : fs[f]? with
    | none => rw [hf] at ht; cases ht
    | some fl =>
    rw [hf] at ht
    simp only [Bool.and_eq_true, beq_iff_eq] at ht
    obtain ⟨hoff, hn⟩ := ht
    subst hoff
    simp only [dop] at hd
    split at hd
    · rename_i cs hv
      have hx := g.ev h1 hv
      generalize a.eval x = xv at hx
      cases hx with | agg _ vs hl g1 g2 =>
      cases n with
      | none =>
        simp only at hd
        cases hc : cs[fl.offset]? with
        | none => rw [hc] at hd; cases hd
        | some e =>
          rw [hc] at hd; cases hd
          have hlt := lt_of_get? hc
          refine ⟨vs.getD fl.offset undef, ?_, good_same g.mem (g2 _ _ hc)⟩
          simp only [Instr.field, Sem.run_bind, run_underlying hu, Result.andThen_ok, hf, asAgg, Sem.run_pure]
          exact run_part_scalar (aggOK_none hn) (by omega)
      | some n =>
        obtain ⟨ha, hs, hpos⟩ := aggOK_some hn
        simp only at hd
        cases hc : takeDrop cs fl.offset n with
        | none => rw [hc] at hd; cases hd
        | some l =>
          rw [hc] at hd; cases hd
          rcases takeDrop_some hc with ⟨rfl, hfit⟩ | ⟨h0, _⟩
          · have hget : ∀ (j : Nat) (y : DV), ((cs.drop fl.offset).take n)[j]? = some y → j < n ∧ cs[fl.offset + j]? = some y := by
              intro j y hy
              rw [List.getElem?_take] at hy
              split at hy
              · rename_i hj; rw [List.getElem?_drop] at hy; exact ⟨hj, hy⟩
              · cases hy
            refine ⟨.agg (vs.extract fl.offset (fl.offset + n)), ?_, good_same g.mem (.agg _ _ (by simp; omega) (fun j y hy => ?_) (fun j y hy => ?_))⟩
            · simp only [Instr.field, Sem.run_bind, run_underlying hu, Result.andThen_ok, hf, asAgg, Sem.run_pure, part, run_isAgg ha, if_true, run_sizeOf hs]
            · rw [getD_extract _ _ _ _ (hget j y hy).1 (by omega)]; exact g1 _ _ (hget j y hy).2
            · rw [getD_extract _ _ _ _ (hget j y hy).1 (by omega)]; exact g2 _ _ (hget j y hy).2
          · omega
    · cases hd
  · cases ht

theorem op_indexAddrs (g : Gam B w0 U0 nt β s a w) {sz : Nat} {x i : Operand} {x' i' : DO} (h1 : opnd x x' = true) (h2 : opnd i i' = true) {t : TypeId} (ht : (match sliceElem P t with | some e => sizeIs P e sz | none => false) = true) {v : DV} {H' : Heap} {nx' : Nat} (hd : dop cf (.indexAddr sz x' i') s = some (v, H', nx')) :
    ∃ z, (Instr.indexAt t (a.eval x) (a.eval i)).run P w = .ok z w ∧ Good B w0 U0 s.heap s.next β w v H' nx' z w := by
  cases hse : sliceElem P t with
  | none => rw [hse] at ht; cases ht
  | some e =>
  rw [hse] at ht
  simp only [dop] at hd
  split at hd
  · rename_i full xs k n hv hu
    rw [(g.ev h2 hu).int_inv]
    split at hd
    · rename_i h0
      cases hy : xs[n.toNat]? with
      | none => rw [hy] at hd; cases hd
      | some y =>
        rw [hy] at hd
        simp only at hd
        split at hd
        · rename_i hl
          cases hd
          obtain ⟨z, h3, h4⟩ := op_indexAddr (P := P) (sliceElem_some hse) ht g.mem (g.ev h1 hv) (k := k) (n := n) (r := .p (.vptr y)) (by simp only [h0, if_true, hy, hl])
          exact ⟨z, h3, good_same g.mem h4⟩
        · cases hd
    · cases hd
  · rename_i id ver off q k n hv hu
    rw [(g.ev h2 hu).int_inv]
    cases hH : aget s.heap id with
    | none => rw [hH] at hd; cases hd
    | some blk =>
    cases blk with
    | var fz cs => rw [hH] at hd; cases hd
    | map _ _ => rw [hH] at hd; cases hd
    | row fz sz' xs =>
      rw [hH] at hd
      simp only at hd
      split at hd
      · rename_i hc
        cases hd
        obtain ⟨z, h3, h4⟩ := op_indexAddr (P := P) (sliceElem_some hse) ht g.mem (g.ev h1 hv) (k := k) (n := n) (r := .eptr id ver (off + n.toNat) 0) (by simp only [hH]; rw [if_pos hc])
        exact ⟨z, h3, good_same g.mem h4⟩
      · cases hd
  · cases hd

theorem op_arrAddrs (g : Gam B w0 U0 nt β s a w) {len sz : Nat} {x i : Operand} {x' i' : DO} (h1 : opnd x x' = true) (h2 : opnd i i' = true) {t : TypeId} (ht : (match P.underlying t with
      | some (.array n e) => n == len && sizeIs P e sz
      | _ => false) = true) {v : DV} {H' : Heap} {nx' : Nat} (hd : dop cf (.arrAddr len sz x' i') s = some (v, H', nx')) :
    ∃ z, (Instr.indexAt t (a.eval x) (a.eval i)).run P w = .ok z w ∧ Good B w0 U0 s.heap s.next β w v H' nx' z w := by
  split at ht
  · rename_i n0 e hut
    simp only [Bool.and_eq_true, beq_iff_eq] at ht
    obtain ⟨rfl, hs⟩ := ht
    simp only [dop] at hd
    split at hd
    · rename_i id off k n hv hu
      rw [(g.ev h2 hu).int_inv]
      cases hH : aget s.heap id with
      | none => rw [hH] at hd; cases hd
      | some blk =>
      cases blk with
      | row fz sz' xs => rw [hH] at hd; cases hd
      | map _ _ => rw [hH] at hd; cases hd
      | var fz cs =>
        rw [hH] at hd
        simp only at hd
        split at hd
        · rename_i hc
          cases hd
          obtain ⟨z, h3, h4⟩ := op_arrAddr (P := P) hut hs g.mem hH (g.ev h1 hv) (k := k) hc.1 hc.2
          exact ⟨z, h3, good_same g.mem h4⟩
        · cases hd
    · cases hd
  · cases ht

theorem op_indexs (g : Gam B w0 U0 nt β s a w) {x i : Operand} {x' i' : DO} (h1 : opnd x x' = true) (h2 : opnd i i' = true) {t : TypeId} (ht : isStrT P t = true) {v : DV} {H' : Heap} {nx' : Nat} (hd : dop cf (.index x' i') s = some (v, H', nx')) :
    ∃ z, (Instr.index t (a.eval x) (a.eval i)).run P w = .ok z w ∧ Good B w0 U0 s.heap s.next β w v H' nx' z w := by
  simp only [dop] at hd
  split at hd
  · rename_i b k n hv hu
    rw [(g.ev h1 hv).str_inv, (g.ev h2 hu).int_inv]
    split at hd
    · rename_i h0
      cases hc : b.data[n.toNat]? with
      | none => rw [hc] at hd; cases hd
      | some c =>
        rw [hc] at hd; cases hd
        exact ⟨_, op_index (isStrT_some ht) h0 hc, good_same g.mem (.p _ _ (.int _ _))⟩
    · cases hd
  · cases hd

theorem op_arrIndexs (g : Gam B w0 U0 nt β s a w) {x i : Operand} {len : Nat} {x' i' : DO} (h1 : opnd x x' = true) (h2 : opnd i i' = true) {t : TypeId}
    (ht : (match P.underlying t with
      | some (.array n e) => n == len && sizeIs P e 1 && (match isAggT P e with | some false => true | _ => false)
      | _ => false) = true) {v : DV} {H' : Heap} {nx' : Nat} (hd : dop cf (.arrIndex len x' i') s = some (v, H', nx')) :
    ∃ z, (Instr.index t (a.eval x) (a.eval i)).run P w = .ok z w ∧ Good B w0 U0 s.heap s.next β w v H' nx' z w := by
  split at ht
  case h_2 => cases ht
  rename_i n0 e hu
  simp only [Bool.and_eq_true, beq_iff_eq] at ht
  obtain ⟨⟨rfl, hs⟩, ha⟩ := ht
  have hag : isAggT P e = some false := by
    split at ha
    · assumption
    · cases ha
  simp only [dop] at hd
  split at hd
  case h_2 => cases hd
  rename_i cs k n hv hn
  split at hd
  case isFalse => cases hd
  rename_i hb
  cases hc : cs[n.toNat]? with
  | none => rw [hc] at hd; cases hd
  | some u =>
    rw [hc] at hd; cases hd
    rw [(g.ev h2 hn).int_inv]
    have hx := g.ev h1 hv
    generalize a.eval x = xv at hx
    cases hx with | agg _ vs hl g1 g2 =>
    have hlt := lt_of_get? hc
    refine ⟨vs.getD n.toNat undef, ?_, good_same g.mem (g2 _ _ hc)⟩
    have hp := run_part_scalar (P := P) (w := w) hag (arr := vs) (o := n.toNat) (by omega)
    simp [Instr.index, asIntOf, run_underlying hu, Result.andThen, hb.1, hb.2, run_sizeOf hs, hp]

theorem op_extracts (g : Gam B w0 U0 nt β s a w) {x : Operand} {i : Nat} {x' : DO} (h1 : opnd x x' = true) {v : DV} {H' : Heap} {nx' : Nat} (hd : dop cf (.extract x' i) s = some (v, H', nx')) :
    ∃ z, (Instr.extract (a.eval x) i).run P w = .ok z w ∧ Good B w0 U0 s.heap s.next β w v H' nx' z w := by
  simp only [dop] at hd
  split at hd
  · rename_i vs hv
    have hx := g.ev h1 hv
    generalize a.eval x = xv at hx
    cases hx with | tuple _ arr hl g1 =>
    cases hc : vs[i]? with
    | none => rw [hc] at hd; cases hd
    | some e =>
      rw [hc] at hd; cases hd
      have hlt := lt_of_get? hc
      exact ⟨arr.getD i undef, by simp only [Instr.extract]; rw [get?_of_lt (by omega)]; rfl, good_same g.mem (g1 _ _ hc)⟩
  · cases hd

theorem op_makes (g : Gam B w0 U0 nt β s a w) {zero : List PV} {bytes : Nat} {l c : Operand} {l' c' : DO} (h1 : opnd l l' = true) (h2 : opnd c c' = true) {t : TypeId} (ht : makeOK P t zero bytes = true) {v : DV} {H' : Heap} {nx' : Nat} (hd : dop cf (.makeSlice zero bytes l' c') s = some (v, H', nx')) :
    ∃ z w', (Instr.makeSlice t (a.eval l) (a.eval c)).run P w = .ok z w' ∧ Good B w0 U0 s.heap s.next β w v H' nx' z w' := by
  simp only [dop] at hd
  split at hd
  · rename_i n k hv hu
    rw [(g.ev h1 hv).int_inv, (g.ev h2 hu).int_inv]
    split at hd
    · rename_i hc
      cases hd
      exact op_make ht g.mem hc.1 hc.2.1 hc.2.2.1 hc.2.2.2
    · cases hd
  · cases hd

theorem op_appends (g : Gam B w0 U0 nt β s a w) {bytes sz : Nat} {x y : Operand} {x' y' : DO} (h1 : opnd x x' = true) (h2 : opnd y y' = true) {t t2 ty : TypeId} (ht : appendOK P t t2 bytes sz = true) {v : DV} {H' : Heap} {nx' : Nat} (hd : dop cf (.append bytes sz x' y') s = some (v, H', nx')) :
    ∃ z w', (Builtin.append_ #[t, t2] ty #[a.eval x, a.eval y]).run P w = .ok z w' ∧ Good B w0 U0 s.heap s.next β w v H' nx' z w' := by
  simp only [dop] at hd
  cases hv : s.ev x' with
  | none => rw [hv] at hd; cases hd
  | some p =>
  cases hu : s.ev y' with
  | none => rw [hv, hu] at hd; cases hd
  | some q =>
  rw [hv, hu] at hd
  simp only at hd
  cases he : elemsOf s.heap q with
  | none => rw [he] at hd; cases hd
  | some e =>
    obtain ⟨ys, ids⟩ := e
    rw [he] at hd
    simp only at hd
    split at hd
    · rename_i hs
      exact op_append (P := P) ht g.mem (g.ev h1 hv) (g.ev h2 hu) he hs hd
    · cases hd

theorem op_copys (g : Gam B w0 U0 nt β s a w) {sz : Nat} {x y : Operand} {x' y' : DO} (h1 : opnd x x' = true) (h2 : opnd y y' = true) {t t2 ty : TypeId} (ht : copyOK P t sz = true) {v : DV} {H' : Heap} {nx' : Nat} (hd : dop cf (.copy sz x' y') s = some (v, H', nx')) :
    ∃ z w', (Builtin.copy_ #[t, t2] ty #[a.eval x, a.eval y]).run P w = .ok z w' ∧ Good B w0 U0 s.heap s.next β w v H' nx' z w' := by
  simp only [dop] at hd
  cases hv : s.ev x' with
  | none => rw [hv] at hd; cases hd
  | some p =>
  cases hu : s.ev y' with
  | none => rw [hv, hu] at hd; cases hd
  | some q =>
  rw [hv, hu] at hd
  simp only at hd
  cases he : elemsOf s.heap q with
  | none => rw [he] at hd; cases hd
  | some e =>
    obtain ⟨ys, ids⟩ := e
    rw [he] at hd
    simp only at hd
    split at hd
    · rename_i hs
      exact op_copy (P := P) ht g.mem (g.ev h1 hv) (g.ev h2 hu) he hs hd
    · cases hd

theorem op_clears (g : Gam B w0 U0 nt β s a w) {zero : List PV} {x : Operand} {x' : DO} (h1 : opnd x x' = true) {t ty : TypeId} (ht : clearOK P t zero = true) {v : DV} {H' : Heap} {nx' : Nat} (hd : dop cf (.clear zero x') s = some (v, H', nx')) :
    ∃ z w', (Builtin.clear_ #[t] ty #[a.eval x]).run P w = .ok z w' ∧ Good B w0 U0 s.heap s.next β w v H' nx' z w' := by
  simp only [dop] at hd
  cases hv : s.ev x' with
  | none => rw [hv] at hd; cases hd
  | some p => rw [hv] at hd; exact op_clear (P := P) ht g.mem (g.ev h1 hv) hd

theorem op_caps (g : Gam B w0 U0 nt β s a w) {x : Operand} {x' : DO} (h1 : opnd x x' = true) {t ty : TypeId} (ht : (sliceElem P t).isSome = true) {v : DV} {H' : Heap} {nx' : Nat} (hd : dop cf (.cap x') s = some (v, H', nx')) :
    ∃ z, (Builtin.cap_ #[t] ty #[a.eval x]).run P w = .ok z w ∧ Good B w0 U0 s.heap s.next β w v H' nx' z w := by
  simp only [dop] at hd
  split at hd
  · rename_i xs hv
    cases hd
    have hx := g.ev h1 hv
    generalize a.eval x = xv at hx
    cases hx with | p _ _ hp =>
    exact ⟨_, op_cap ht hp, good_same g.mem (.p _ _ (.int _ _))⟩
  · cases hd

theorem op_lens (g : Gam B w0 U0 nt β s a w) {x : Operand} {x' : DO} (h1 : opnd x x' = true) {t ty : TypeId} (ht : (sliceElem P t).isSome = true) {v : DV} {H' : Heap} {nx' : Nat} (hd : dop cf (.len x') s = some (v, H', nx')) :
    ∃ z, (Builtin.len_ #[t] ty #[a.eval x]).run P w = .ok z w ∧ Good B w0 U0 s.heap s.next β w v H' nx' z w := by
  obtain ⟨e, hse⟩ := Option.isSome_iff_exists.1 ht
  have hu := sliceElem_some hse
  have run : ∀ (b : Option Addr) (n c : Nat), (Builtin.len_ #[t] ty #[.slice b n c]).run P w = .ok (goInt n) w := by
    intro b n c; simp [Builtin.len_, run_underlying hu]
  simp only [dop] at hd
  split at hd
  · rename_i full xs hv
    cases hd
    have hx := g.ev h1 hv
    generalize a.eval x = xv at hx
    cases hx with | p _ _ hp =>
    obtain ⟨ad, c, rfl, _, _⟩ := hp.slice_val
    exact ⟨_, run _ _ _, good_same g.mem (.p _ _ (.int _ _))⟩
  · rename_i id ver off n hv
    have hx := g.ev h1 hv
    generalize a.eval x = xv at hx
    split at hd
    · rename_i fz sz xs hH
      split at hd
      · rename_i hc
        cases hd
        cases hx with | ref _ _ _ _ _ hid hcell href =>
        rcases (href _ _ _ hH).2 hc.1 hc.2 with ⟨rfl, _, ad, rfl⟩ | ⟨b, cap, ad, _, rfl, _⟩
        · have : n = 0 := by have := hc.2; simp at this; omega
          subst this
          exact ⟨_, run _ _ _, good_same g.mem (.p _ _ (.int _ _))⟩
        · exact ⟨_, run _ _ _, good_same g.mem (.p _ _ (.int _ _))⟩
      · cases hd
    · cases hd
  · cases hd

theorem op_lenSs (g : Gam B w0 U0 nt β s a w) {x : Operand} {x' : DO} (h1 : opnd x x' = true) {t ty : TypeId} (ht : isStrT P t = true) {v : DV} {H' : Heap} {nx' : Nat} (hd : dop cf (.lenS x') s = some (v, H', nx')) :
    ∃ z, (Builtin.len_ #[t] ty #[a.eval x]).run P w = .ok z w ∧ Good B w0 U0 s.heap s.next β w v H' nx' z w := by
  simp only [dop] at hd
  split at hd
  · rename_i b hv
    cases hd
    rw [(g.ev h1 hv).str_inv]
    exact ⟨_, by simp [Builtin.len_, run_underlying (isStrT_some ht), goInt], good_same g.mem (.p _ _ (.int _ _))⟩
  · cases hd

theorem op_mms (g : Gam B w0 U0 nt β s a w) {isMax : Bool} {xs : Array Operand} {x' : DO} {xs' : List DO} (h1 : opnds xs.toList (x' :: xs') = true) {at_ : Array TypeId} {ty : TypeId} {v : DV} {H' : Heap} {nx' : Nat} (hd : dop cf (.minmax isMax x' xs') s = some (v, H', nx')) :
    ∃ z, ((if isMax then Builtin.max_ else Builtin.min_) at_ ty (xs.map a.eval)).run P w = .ok z w ∧ Good B w0 U0 s.heap s.next β w v H' nx' z w := by
  simp only [dop] at hd
  cases hxs : xs.toList with
  | nil => rw [hxs] at h1; simp [opnds] at h1
  | cons x r =>
  rw [hxs] at h1
  simp only [opnds, Bool.and_eq_true] at h1
  split at hd
  · rename_i q l hv hl
    cases hf : foldO (mm2 isMax) q l with
    | none => rw [hf] at hd; cases hd
    | some p =>
      rw [hf] at hd; cases hd
      obtain ⟨h2, h3⟩ := evs_ok g r xs' l h1.2 hl
      have hx := g.ev h1.1 hv
      generalize hxv : a.eval x = xv at hx
      cases hx with | p _ _ hp =>
      obtain ⟨z, h4, h5⟩ := fold_ok (P := P) l (r.map a.eval) q _ p hf (by simpa using h2.symm) (fun j d hjd => h3 j d hjd) hp
      refine ⟨z, ?_, good_same g.mem (.p _ _ h5)⟩
      cases isMax
      · simp only [Bool.false_eq_true, if_false] at h4 ⊢
        simp only [Builtin.min_, Array.toList_map, hxs, List.map_cons, hxv]
        exact h4
      · simp only [if_true] at h4 ⊢
        simp only [Builtin.max_, Array.toList_map, hxs, List.map_cons, hxv]
        exact h4
  · cases hd

theorem op_mkfuncs (g : Gam B w0 U0 nt β s a w) {f : FuncId} {caps : Array Operand} {caps' : List DO} (h1 : opnds caps.toList caps' = true) {v : DV} {H' : Heap} {nx' : Nat} (hd : dop cf (.mkfunc f caps') s = some (v, H', nx')) :
    Good B w0 U0 s.heap s.next β w v H' nx' (.func (.func f) #[] (caps.map a.eval)) w := by
  simp only [dop] at hd
  cases hl : evs s caps' with
  | none => rw [hl] at hd; cases hd
  | some l =>
    rw [hl] at hd; cases hd
    obtain ⟨h2, h3⟩ := evs_arr g h1 hl
    exact good_same g.mem (.func f l _ h2 h3)

/-! ### maps -/

theorem mapTo_some {t e : TypeId} (h : mapTo P t = some e) : ∃ kt, P.underlying t = some (.map kt e) ∧ P.underlying kt = some (.int .i64) := by
  unfold mapTo at h
  split at h
  · rename_i kt et ht
    split at h
    · rename_i hk; cases h; exact ⟨kt, ht, hk⟩
    · cases h
  · cases h

abbrev Ents (w : World) (U : Nat → Prop) (es : Array MapEntry) (kv : List (Int × PV)) : Prop :=
  ∀ (j : Nat) (k : Int) (p : PV), kv[j]? = some (k, p) → ∃ e, es[j]? = some e ∧ e.key = .int .i64 k ∧ p.plain = true ∧ p.isCell = true ∧ PRep w U p e.val

theorem find_map {w : World} {U : Nat → Prop} {n : Int} : ∀ (kv : List (Int × PV)) (es : List MapEntry) (i : Nat), es.length = kv.length →
    (∀ (j : Nat) (k : Int) (p : PV), kv[j]? = some (k, p) → ∃ e, es[j]? = some e ∧ e.key = .int .i64 k ∧ p.plain = true ∧ p.isCell = true ∧ PRep w U p e.val) →
    match mget kv n with
    | none => Instr.findNow (.int .i64) (.int .i64 n) es i = some none ∧ ∀ p, mset kv n p = kv ++ [(n, p)]
    | some p => ∃ j e, Instr.findNow (.int .i64) (.int .i64 n) es i = some (some (i + j, e.val)) ∧ es[j]? = some e ∧ e.key = .int .i64 n ∧ PRep w U p e.val ∧ p.isCell = true ∧ j < kv.length ∧
        ∀ q (l : Nat), (mset kv n q)[l]? = if l = j then some (n, q) else kv[l]?
  | [], [], i, _, _ => ⟨rfl, fun _ => rfl⟩
  | [], _ :: _, _, h, _ => by simp at h
  | _ :: _, [], _, h, _ => by simp at h
  | (k, v) :: kv, e :: es, i, hl, h => by
    obtain ⟨e0, he0, hk, hp, hc, hr⟩ := h 0 k v rfl
    simp only [List.getElem?_cons_zero, Option.some.injEq] at he0; subst he0
    by_cases hkn : k = n
    · subst hkn
      simp only [mget, if_true]
      refine ⟨0, e, by simp [Instr.findNow, hk, Instr.sameNow], rfl, hk, hr, hc, by simp, fun q l => ?_⟩
      simp only [mset, if_true]
      cases l with
      | zero => simp
      | succ l => simp
    · have ih := find_map (n := n) kv es (i + 1) (by simpa using hl) (fun j k p hj => by
        have := h (j + 1) k p (by simpa using hj)
        simpa using this)
      have hne : (n == k) = false := by simpa using fun e => hkn e.symm
      have e1 : Instr.findNow (.int .i64) (.int .i64 n) (e :: es) i = Instr.findNow (.int .i64) (.int .i64 n) es (i + 1) := by
        simp [Instr.findNow, hk, Instr.sameNow, hne]
      simp only [mget, if_neg hkn]
      cases hm : mget kv n with
      | none =>
        rw [hm] at ih
        simp only at ih ⊢
        exact ⟨by rw [e1]; exact ih.1, fun p => by simp [mset, hkn, ih.2 p]⟩
      | some p =>
        rw [hm] at ih
        simp only at ih ⊢
        obtain ⟨j, e', a1, a2, a3, a4, a5, a6, a7⟩ := ih
        refine ⟨j + 1, e', by rw [e1, a1]; congr 3; omega, by simpa using a2, a3, a4, a5, by simp; omega, fun q l => ?_⟩
        simp only [mset, if_neg hkn]
        cases l with
        | zero => simp
        | succ l => simp [a7 q l]

theorem map_at {H : Heap} {nx : Nat} (m : Mem B w0 U0 β H nx w) {id off : Nat} {x : Value} (hx : DRep w (Own U0 β H) β H nx (.ptr id off) x) {fz : Bool} {kv : List (Int × PV)} (hH : aget H id = some (.map fz kv)) :
    ∃ b c es clock, β id = some (b, c) ∧ x = .map (some b) ∧ B ≤ b ∧ w.heap[b]? = some (.map es clock) ∧ es.size = kv.length ∧ Ents w (Own U0 β H) es kv := by
  cases hx with
  | ptr _ _ _ hid hc h hm =>
    obtain ⟨b, c, hb, rfl⟩ := hm _ _ hH
    obtain ⟨b', c', es, clock, h1, h2, h3, h4, h5⟩ := m.h.blk id _ hH
    rw [hb] at h1; simp only [Option.some.injEq, Prod.mk.injEq] at h1; obtain ⟨rfl, rfl⟩ := h1
    exact ⟨b, c, es, clock, hb, rfl, h2, h3, h4, h5⟩

theorem op_lookup (g : Gam B w0 U0 nt β s a w) {x i : Operand} {x' i' : DO} (h1 : opnd x x' = true) (h2 : opnd i i' = true) {t : TypeId} {zero : PV}
    (ht : (match mapTo P t with
      | some e => zeroOK P e [zero] && (match P.info? e with | some ie => (match ie.zero with | some z => z.oneCell' | none => false) | none => false)
      | none => false) = true) {v : DV} {H' : Heap} {nx' : Nat} (hd : dop cf (.lookup zero x' i') s = some (v, H', nx')) :
    ∃ z, (Instr.lookup t (a.eval x) (a.eval i) false).run P w = .ok z w ∧ Good B w0 U0 s.heap s.next β w v H' nx' z w := by
  split at ht
  case h_2 => cases ht
  rename_i e he
  obtain ⟨kt, hu, hk⟩ := mapTo_some he
  simp only [Bool.and_eq_true] at ht
  obtain ⟨hz0, hz1⟩ := ht
  obtain ⟨ie, z, hi, hz, hzc, hsz⟩ := zeroOK_some hz0
  rw [hi] at hz1
  simp only [hz] at hz1
  simp only [dop] at hd
  split at hd
  case h_2 => cases hd
  rename_i id off n hx hn
  split at hd
  case h_2 => cases hd
  rename_i fz kv hH
  cases hd
  rw [(g.ev h2 hn).int_inv]
  obtain ⟨b, c, es, clock, hb, hv, hB, hw, hes, hent⟩ := map_at g.mem (g.ev h1 hx) hH
  rw [hv]
  have hf := find_map (n := n) (w := w) (U := Own U0 β s.heap) kv es.toList 0 (by simpa using hes) (fun j k p hj => by
    obtain ⟨e, h1, h2⟩ := hent j k p hj
    exact ⟨e, by simpa using h1, h2⟩)
  have hkey : MapKept.IsKey (.int .i64) (.int .i64 n) := rfl
  cases hm : mget kv n with
  | none =>
    rw [hm] at hf
    simp only at hf
    have hzz := zero_cells (w := w) (β := β) (H := s.heap) (nx := s.next) hzc (U := Own U0 β s.heap)
    refine ⟨z, ?_, good_same g.mem ?_⟩
    · simp [Instr.lookup, run_underlying hu, MapKept.run_getObj_map hw, MapKept.run_checkKey hk hkey, MapKept.run_findKey hk hf.1, zeroValue, typeInfo, hi, hz, Result.andThen]
    · simp only [Option.getD_none]
      have h0 := (hzz.2 0 (.p zero) rfl).1
      rw [show z.cells = #[z] by cases z <;> first | rfl | simp [Value.oneCell'] at hz1] at h0
      exact h0
  | some p =>
    rw [hm] at hf
    simp only at hf
    obtain ⟨j, e, a1, a2, a3, a4, a5, a6, a7⟩ := hf
    refine ⟨e.val, ?_, good_same g.mem (.p _ _ a4)⟩
    simp [Instr.lookup, run_underlying hu, MapKept.run_getObj_map hw, MapKept.run_checkKey hk hkey, MapKept.run_findKey hk a1, Result.andThen]

theorem heap_setObj (w : World) (b : Nat) (o : Obj) (k : Nat) : ({ w with heap := w.heap.setIfInBounds b o } : World).heap[k]? = if b = k ∧ b < w.heap.size then some o else w.heap[k]? := by
  by_cases h : b = k
  · subst h
    by_cases h2 : b < w.heap.size
    · simp [h2]
    · simp [h2]
  · simp [h]

theorem below_setObj {w : World} {b : Nat} (h : B ≤ b) (o : Obj) : Below B w { w with heap := w.heap.setIfInBounds b o } :=
  ⟨⟨rfl, rfl, rfl, by simp, fun k hk => by rw [heap_setObj, if_neg (by omega)]⟩, Nat.le_refl _⟩

theorem map_written {H : Heap} {nx : Nat} {id b c : Nat} {kv kv' : List (Int × PV)} {es es' : Array MapEntry} {clock clock' : Nat} (m : Mem B w0 U0 β H nx w) (hH : aget H id = some (.map false kv)) (hb : β id = some (b, c))
    (h2 : B ≤ b) (h3 : w.heap[b]? = some (.map es clock)) (hsz : es'.size = kv'.length) (hent : Ents w (Own U0 β H) es' kv') :
    Good B w0 U0 H nx β w (.tuple []) (hset H id (.map false kv')) nx undef { w with heap := w.heap.setIfInBounds b (.map es' clock') } := by
  have hlt := lt_of_heap h3
  have u : Upd β H nx w β (hset H id (.map false kv')) nx { w with heap := w.heap.setIfInBounds b (.map es' clock') } id (.map false kv') := by
    refine ⟨fun k hk => ?_, ?_, rfl, fun k hk => rfl, Nat.le_refl _, m.h.lt _ _ hH, .inr ⟨_, hH, rfl, rfl⟩, fun b' o h => ?_, fun b' c' h => .inr ⟨c', _, h, hH⟩⟩
    · rw [aget_hset, if_neg (fun e => hk e.symm)]
    · rw [aget_hset, if_pos rfl, hH]; rfl
    · by_cases e : b = b'
      · subst e; exact .inr ⟨c, _, hb, hH⟩
      · left; rw [heap_setObj, if_neg (fun x => e x.1)]; exact h
  have hk := u.keeps (U0 := U0)
  have he := u.evo
  refine ⟨β, u.mem m (below_setObj h2 _) ⟨b, c, es', clock', hb, h2, by rw [heap_setObj, if_pos ⟨rfl, hlt⟩], hsz, fun j k p hj => ?_⟩, hk, he, .undef⟩
  obtain ⟨e, h6, h7, h8, h9, h10⟩ := hent j k p hj
  exact ⟨e, h6, h7, h8, h9, h10.keep hk⟩

theorem op_mapSet (g : Gam B w0 U0 nt β s a w) {x i u : Operand} {x' i' u' : DO} (h1 : opnd x x' = true) (h2 : opnd i i' = true) (h3 : opnd u u' = true) {t : TypeId}
    (ht : (mapTo P t).isSome = true) {v : DV} {H' : Heap} {nx' : Nat} (hd : dop cf (.mapSet x' i' u') s = some (v, H', nx')) :
    ∃ w', (Instr.mapUpdate t (a.eval x) (a.eval i) (a.eval u)).run P w = .ok () w' ∧ Good B w0 U0 s.heap s.next β w v H' nx' undef w' := by
  obtain ⟨et, he⟩ := Option.isSome_iff_exists.1 ht
  obtain ⟨kt, hu, hk⟩ := mapTo_some he
  simp only [dop] at hd
  split at hd
  case h_2 => cases hd
  rename_i id off n p hx hn hv
  split at hd
  case h_2 => cases hd
  rename_i kv hH
  split at hd
  case isFalse => cases hd
  rename_i hp
  cases hd
  rw [(g.ev h2 hn).int_inv]
  obtain ⟨b, c, es, clock, hb, hxv, hB, hw, hes, hent⟩ := map_at g.mem (g.ev h1 hx) hH
  rw [hxv]
  have hpv : PRep w (Own U0 β s.heap) p (a.eval u) := by
    have := g.ev h3 hv
    generalize a.eval u = uv at this
    cases this with | p _ _ h => exact h
  have hf := find_map (n := n) (w := w) (U := Own U0 β s.heap) kv es.toList 0 (by simpa using hes) (fun j k p hj => by
    obtain ⟨e, h1, h2⟩ := hent j k p hj
    exact ⟨e, by simpa using h1, h2⟩)
  have hkey : MapKept.IsKey (.int .i64) (.int .i64 n) := rfl
  cases hm : mget kv n with
  | none =>
    rw [hm] at hf
    simp only at hf
    refine ⟨_, ?_, map_written (es' := es.push { key := .int .i64 n, val := a.eval u, born := clock }) (clock' := clock + 1) g.mem hH hb hB hw (by rw [hf.2]; simp [hes]) (fun j k q hj => ?_)⟩
    · simp [Instr.mapUpdate, run_underlying hu, MapKept.run_getObj_map hw, MapKept.run_checkKey hk hkey, MapKept.run_findKey hk hf.1, MapKept.run_setObj_map _ hw, Result.andThen]
    · rw [hf.2, List.getElem?_append] at hj
      split at hj
      · rename_i hlt
        obtain ⟨e, e1, e2⟩ := hent j k q hj
        exact ⟨e, by rw [Array.getElem?_push, if_neg (by omega)]; exact e1, e2⟩
      · rename_i hlt
        cases hq : j - kv.length with
        | succ l => rw [hq] at hj; simp at hj
        | zero =>
          rw [hq] at hj
          simp only [List.getElem?_cons_zero, Option.some.injEq, Prod.mk.injEq] at hj
          obtain ⟨rfl, rfl⟩ := hj
          have : j = es.size := by omega
          exact ⟨_, by rw [Array.getElem?_push, if_pos this], rfl, hp.1, hp.2, hpv⟩
  | some p0 =>
    rw [hm] at hf
    simp only at hf
    obtain ⟨j, e, a1, a2, a3, a4, a5, a6, a7⟩ := hf
    have hj : es[j]? = some e := by simpa using a2
    have hlen : (mset kv n p).length = kv.length := by
      have h0 := a7 p kv.length
      rw [if_neg (by omega), List.getElem?_eq_none (Nat.le_refl _)] at h0
      have h1 := List.getElem?_eq_none_iff.1 h0
      rcases Nat.lt_or_ge (mset kv n p).length kv.length with h2 | h2
      · have h3 := a7 p (mset kv n p).length
        rw [List.getElem?_eq_none (Nat.le_refl _)] at h3
        split at h3
        · cases h3
        · rw [List.getElem?_eq_getElem h2] at h3; cases h3
      · omega
    refine ⟨_, ?_, map_written (es' := es.modify j fun e' => { e' with key := .int .i64 n, val := a.eval u }) (clock' := clock) g.mem hH hb hB hw (by rw [hlen]; simp [hes]) (fun l k q hl => ?_)⟩
    · simp [Instr.mapUpdate, run_underlying hu, MapKept.run_getObj_map hw, MapKept.run_checkKey hk hkey, MapKept.run_findKey hk a1, hj, a3, MapKept.run_keyThatStays hkey, MapKept.run_setObj_map _ hw, Result.andThen]
    · rw [a7 p l] at hl
      rw [Array.getElem?_modify]
      split at hl
      · rename_i hlj; subst hlj
        simp only [Option.some.injEq, Prod.mk.injEq] at hl
        obtain ⟨rfl, rfl⟩ := hl
        exact ⟨_, by rw [if_pos rfl, hj]; rfl, rfl, hp.1, hp.2, hpv⟩
      · rename_i hlj
        obtain ⟨e, e1, e2⟩ := hent l k q hl
        exact ⟨e, by rw [if_neg (fun e => hlj e.symm)]; exact e1, e2⟩

end
end Go.Dv
