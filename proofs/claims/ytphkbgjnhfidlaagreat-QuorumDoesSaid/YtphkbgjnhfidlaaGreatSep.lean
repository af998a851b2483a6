/-
  Reads and writes that touch different blocks, by a look at the frame.
-/
import Derived.Test.YtphkbgjnhfidlaaGreatComm
set_option linter.unusedVariables false
set_option linter.unusedSimpArgs false
namespace Go.Dv
open Go.RowKit

theorem ev_val (s : St) (x : DO) : s.ev x = valO s.env x := by cases x <;> rfl

theorem flat_pur {v : DV} (h : v.flat = true) (H H' : Heap) : pur H' dep v = pur H dep v ∧ tch H dep v = [] := by
  cases v with
  | p q => exact ⟨rfl, rfl⟩
  | agg cs =>
    have hc : ∀ c ∈ cs, ∃ q, c = .p q := by
      intro c hc
      have := List.all_eq_true.1 h c hc
      cases c <;> simp at this
      exact ⟨_, rfl⟩
    constructor
    · have e : mapO (pur H' 4) cs = mapO (pur H 4) cs := mapO_congr cs fun a ha => by obtain ⟨q, rfl⟩ := hc a ha; rfl
      show (match mapO (pur H' 4) cs with | some l => some (PV.agg l) | none => none) = _
      rw [e]; rfl
    · show cs.flatMap (tch H 4) = []
      rw [List.flatMap_eq_nil_iff]
      intro c hcm
      obtain ⟨q, rfl⟩ := hc c hcm
      rfl
  | _ => simp [DV.flat] at h

theorem litElems_flat {H H' : Heap} (sz : Nat) : ∀ (l : List (Nat × DV)) (k : Nat), (∀ p ∈ l, p.2.flat = true) → litElems H' sz k l = litElems H sz k l
  | [], _, _ => rfl
  | (i, v) :: r, k, h => by
    simp only [litElems]
    rw [(flat_pur (h (i, v) (by simp)) H H').1, litElems_flat sz r (k + 1) fun p hp => h p (by simp [hp])]

theorem evIx_flat {s : St} : ∀ (ps : List (Nat × DO)) (l : List (Nat × DV)), ps.all (fun p => flatO s.env p.2) = true → evIx s ps = some l → ∀ p ∈ l, p.2.flat = true
  | [], l, _, h => by simp only [evIx, Option.some.injEq] at h; subst h; simp
  | (o, x) :: r, l, ha, h => by
    simp only [List.all_cons, Bool.and_eq_true] at ha
    simp only [evIx] at h
    split at h
    · rename_i v q hv hq
      cases h
      intro p hp
      rcases List.mem_cons.1 hp with rfl | hp
      · have := ha.1
        unfold flatO at this
        rw [← ev_val, hv] at this
        exact this
      · exact evIx_flat r q ha.2 hq p hp
    · cases h

theorem evs_flat {s : St} : ∀ (ps : List DO) (l : List DV), ps.all (flatO s.env) = true → evs s ps = some l → ∀ p ∈ l, p.flat = true
  | [], l, _, h => by simp only [evs, Option.some.injEq] at h; subst h; simp
  | x :: r, l, ha, h => by
    simp only [List.all_cons, Bool.and_eq_true] at ha
    simp only [evs] at h
    split at h
    · rename_i v q hv hq
      cases h
      intro p hp
      rcases List.mem_cons.1 hp with rfl | hp
      · have := ha.1
        unfold flatO at this
        rw [← ev_val, hv] at this
        exact this
      · exact evs_flat r q ha.2 hq p hp
    · cases h

theorem dop_blindly {cf : CallF} {d : DOp} {s : St} (h0 : readOf s.env d = some none) {v : DV} {H' : Heap} {n' : Nat} (h : dop cf d s = some (v, H', n')) :
    H' = s.heap ∧ n' = s.next ∧ ∀ (H : Heap) (n : Nat), dop cf d { s with heap := H, next := n } = some (v, H, n) := by
  have evw : ∀ (H : Heap) (nx : Nat) (x : DO), St.ev { s with heap := H, next := nx } x = s.ev x := fun H nx x => ev_congr fun _ _ => rfl
  have evsw : ∀ (H : Heap) (nx : Nat) (x : List DO), evs { s with heap := H, next := nx } x = evs s x := fun H nx x => evs_congr _ fun _ _ => rfl
  have evxw : ∀ (H : Heap) (nx : Nat) (x : List (Nat × DO)), evIx { s with heap := H, next := nx } x = evIx s x := fun H nx x => evIx_congr _ fun _ _ => rfl
  cases d <;> try (simp [readOf] at h0; done)
  case load k x =>
    simp only [readOf, ← ev_val] at h0
    simp only [dop, evw] at h ⊢
    cases hv : s.ev x with
    | none => rw [hv] at h; cases h
    | some q =>
      rw [hv] at h h0
      cases q with
      | p q =>
        cases q <;> simp only at h <;> try (cases h; done)
        cases k with
        | none => simp only at h ⊢; split at h <;> cases h; exact ⟨rfl, rfl, fun _ _ => rfl⟩
        | some k => simp only at h ⊢; split at h <;> cases h; exact ⟨rfl, rfl, fun _ _ => rfl⟩
      | _ => simp at h0
  case fieldAddr o x =>
    simp only [readOf, ← ev_val] at h0
    simp only [dop, evw] at h ⊢
    cases hv : s.ev x with
    | none => rw [hv] at h; cases h
    | some q =>
      rw [hv] at h h0
      cases q with
      | p q =>
        cases q <;> simp only at h <;> try (cases h; done)
        cases h; exact ⟨rfl, rfl, fun _ _ => rfl⟩
      | _ => simp at h0
  case indexAddr z x i =>
    simp only [readOf, ← ev_val] at h0
    simp only [dop, evw] at h ⊢
    cases hv : s.ev x with
    | none => rw [hv] at h; cases h
    | some q =>
      rw [hv] at h h0
      cases q with
      | p q =>
        cases hi : s.ev i with
        | none => rw [hi] at h; cases q <;> cases h
        | some u =>
          rw [hi] at h
          split at h
          · rename_i e1 e2
            cases e1; cases e2
            split at h
            · rename_i h9
              split at h
              · rename_i e3
                split at h
                · rename_i h8
                  cases h
                  refine ⟨rfl, rfl, fun _ _ => ?_⟩
                  simp only [if_pos h9, e3, if_pos h8]
                · cases h
              · cases h
            · cases h
          · rename_i e1 _
            cases e1
          · cases h
      | _ => simp at h0
  case buildSlice z len ps =>
    simp only [readOf] at h0
    split at h0
    · rename_i ha
      simp only [dop, evxw] at h ⊢
      cases hl : evIx s ps with
      | none => rw [hl] at h; cases h
      | some l =>
        have hf := evIx_flat ps l ha hl
        rw [hl] at h
        simp only at h ⊢
        cases hx : litElems s.heap z.length 0 l with
        | none => rw [hx] at h; cases h
        | some xs =>
          rw [hx] at h
          cases h
          have ht : ∀ H : Heap, (l.map (·.2)).flatMap (tch H dep) = [] := by
            intro H
            rw [List.flatMap_eq_nil_iff]
            intro v hv
            obtain ⟨p, hp, rfl⟩ := List.mem_map.1 hv
            exact (flat_pur (hf p hp) H H).2
          refine ⟨by rw [ht]; rfl, rfl, fun H n => ?_⟩
          rw [litElems_flat _ l 0 hf, hx]
          simp only
          rw [ht]; rfl
    · cases h0
  case call b f args =>
    cases b with
    | true => simp [readOf] at h0
    | false =>
      simp only [readOf] at h0
      split at h0
      · rename_i ha
        simp only [dop, evsw] at h ⊢
        cases hl : evs s args with
        | none => rw [hl] at h; cases h
        | some l =>
          have hf := evs_flat args l ha hl
          rw [hl] at h
          simp only [callD, Bool.false_eq_true, if_false] at h ⊢
          have ht : ∀ H : Heap, l.flatMap (tch H dep) = [] := by
            intro H
            rw [List.flatMap_eq_nil_iff]
            exact fun v hv => (flat_pur (hf v hv) H H).2
          have hp : ∀ H : Heap, mapO (pur H dep) l = mapO (pur s.heap dep) l := fun H => mapO_congr l fun a ha => (flat_pur (hf a ha) s.heap H).1
          cases hm : mapO (pur s.heap dep) l with
          | none => rw [hm] at h; cases h
          | some ps =>
            rw [hm] at h
            simp only at h
            cases hr : cf.pure f ps with
            | none => rw [hr] at h; cases h
            | some r =>
              rw [hr] at h
              simp only [Option.some.injEq, Prod.mk.injEq] at h
              obtain ⟨rfl, rfl, rfl⟩ := h
              refine ⟨by rw [ht]; split <;> rfl, rfl, fun H n => ?_⟩
              rw [hp, hm]
              simp only [hr]
              rw [ht]
              simp only [frz, ite_self]
      · cases h0

theorem dop_look {cf : CallF} {d : DOp} {s : St} {j : Nat} (h0 : readOf s.env d = some (some j)) {v : DV} {H' : Heap} {n' : Nat} (h : dop cf d s = some (v, H', n')) :
    H' = s.heap ∧ n' = s.next ∧ (∃ f cs, aget s.heap j = some (.var f cs)) ∧ ∀ (H : Heap) (n : Nat), aget H j = aget s.heap j → dop cf d { s with heap := H, next := n } = some (v, H, n) := by
  have evw : ∀ (H : Heap) (nx : Nat) (x : DO), St.ev { s with heap := H, next := nx } x = s.ev x := fun H nx x => ev_congr fun _ _ => rfl
  cases d <;> try (simp [readOf] at h0; done)
  case load k x =>
    simp only [readOf, ← ev_val] at h0
    simp only [dop, evw] at h ⊢
    cases hv : s.ev x with
    | none => rw [hv] at h; cases h
    | some q =>
      rw [hv] at h h0
      cases q with
      | ptr i off =>
        simp only [Option.some.injEq] at h0; subst h0
        simp only at h ⊢
        cases hb : aget s.heap i with
        | none => rw [hb] at h; cases h
        | some b =>
          rw [hb] at h
          cases b with
          | row f sz xs => cases h
          | map f kv => cases h
          | var f cs =>
            cases k with
            | none => simp only at h; split at h <;> cases h; rename_i e; refine ⟨rfl, rfl, ⟨f, cs, rfl⟩, fun H n hH => ?_⟩; rw [hH]; simp only [e]
            | some k => simp only at h; split at h <;> cases h; rename_i e; refine ⟨rfl, rfl, ⟨f, cs, rfl⟩, fun H n hH => ?_⟩; rw [hH]; simp only [e]
      | _ => simp at h0
  case fieldAddr o x =>
    simp only [readOf, ← ev_val] at h0
    simp only [dop, evw] at h ⊢
    cases hv : s.ev x with
    | none => rw [hv] at h; cases h
    | some q =>
      rw [hv] at h h0
      cases q with
      | ptr i off =>
        simp only [Option.some.injEq] at h0; subst h0
        simp only at h ⊢
        cases hb : aget s.heap i with
        | none => rw [hb] at h; cases h
        | some b =>
          rw [hb] at h
          cases b with
          | row f sz xs => cases h
          | map f kv => cases h
          | var f cs => cases h; refine ⟨rfl, rfl, ⟨f, cs, rfl⟩, fun H n hH => ?_⟩; rw [hH]
      | _ => simp at h0
  case indexAddr z x i => simp only [readOf] at h0; split at h0 <;> simp at h0
  case call b f args =>
    cases b with
    | true => simp [readOf] at h0
    | false => simp only [readOf] at h0; split at h0 <;> simp at h0

theorem dop_keep {cf : CallF} {d : DOp} {s : St} {j : Nat} {r : Option DV} (h0 : keepsBlk s.env j r d = true) {v : DV} {H' : Heap} {n' : Nat} (h : dop cf d s = some (v, H', n')) (hr : ∀ u, r = some u → u = v) :
    aget H' j = aget s.heap j := by
  cases d <;> try (simp [keepsBlk] at h0; done)
  case store k a x =>
    simp only [keepsBlk, ← ev_val] at h0
    simp only [dop] at h
    cases ha : s.ev a with
    | none => rw [ha] at h; simp at h
    | some q =>
      rw [ha] at h h0
      cases q with
      | ptr i off =>
        have h1 : ¬ i = j := by simpa using h0
        cases hx : s.ev x with
        | none => rw [hx] at h; simp at h
        | some u =>
          rw [hx] at h
          simp only at h
          split at h
          · split at h
            · cases h; rw [aget_hset, if_neg h1]
            · cases h
          · cases h
      | _ => simp at h0
  case append b z a x =>
    simp only [keepsBlk] at h0
    cases r with
    | none => simp at h0
    | some u =>
      obtain rfl := hr u rfl
      simp only at h0
      have key : ∀ (ys : List (List PV)) (q : DV), appendDV b z ys q s.heap s.next = some (u, H', n') → aget H' j = aget s.heap j := by
        intro ys q hu
        unfold appendDV at hu
        split at hu
        · split at hu
          · split at hu
            · cases hu; rfl
            · simp only [Option.some.injEq, Prod.mk.injEq] at hu
              obtain ⟨rfl, rfl, rfl⟩ := hu
              have h1 : ¬ s.next = j := by simpa [offBlk] using h0
              rw [aget_cons, if_neg h1]
          · split at hu
            · cases hu; rfl
            · cases hu
        · split at hu
          · split at hu
            · simp only [Option.some.injEq, Prod.mk.injEq] at hu
              obtain ⟨rfl, rfl, rfl⟩ := hu
              rename_i id _ _ _ _ _ _ _ _ 
              have h1 : ¬ id = j := by simpa [offBlk] using h0
              rw [aget_hset, if_neg h1]
            · cases hu
          · cases hu
        · cases hu
      simp only [dop] at h
      split at h
      · split at h
        · split at h
          · exact key _ _ h
          · cases h
        · cases h
      · cases h

end Go.Dv
