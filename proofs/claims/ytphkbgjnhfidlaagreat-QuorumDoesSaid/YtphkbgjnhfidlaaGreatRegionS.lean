/-
  Regions whose order is left open, with pairs that are looked at when they run.
-/
import Derived.Test.YtphkbgjnhfidlaaGreatSwapb
set_option linter.unusedVariables false
set_option linter.unusedSimpArgs false
namespace Go.Dv
open Go.RowKit

section
variable {P : Program} {B : Nat} {w0 : World} {U0 : Nat → Prop} {β : Place} {w : World} {nt : Cx} {s : St} {a : Act} {cf : CallF}

theorem orderOKS_get {seps : List (Nat × Nat)} {all : List DOper} : ∀ (k : Nat) (os : List Oper) (ds : List DOper), orderOKS seps all k os ds = true → ∀ (i : Nat) (o : Oper) (d : DOper), os[i]? = some o → ds[i]? = some d →
    (∀ p ∈ direct o, p ∈ d.preds) ∧ (∀ p ∈ d.preds, p < k + i ∧ (p ∈ direct o ∨ ∃ q ∈ direct o, ∃ e, all[q]? = some e ∧ p ∈ e.preds)) ∧ ∀ j, j < k + i → j ∈ d.preds ∨ (∃ e, all[j]? = some e ∧ commOK e d = true) ∨ ((j, k + i) ∈ seps ∧ sepCert all j (k + i) = true)
  | k, [], [], _, i, o, d, h, _ => by simp at h
  | k, o :: os, d :: ds, h, i, o', d', ho, hd => by
    simp only [orderOKS, Bool.and_eq_true] at h
    obtain ⟨⟨⟨h1, h2⟩, h3⟩, h4⟩ := h
    cases i with
    | zero =>
      simp only [List.getElem?_cons_zero, Option.some.injEq] at ho hd; subst ho; subst hd
      refine ⟨fun p hp => ?_, fun p hp => ?_, fun j hj => ?_⟩
      · have := List.all_eq_true.1 h1 p hp; simpa using this
      · have := List.all_eq_true.1 h2 p hp
        simp only [Bool.and_eq_true, decide_eq_true_eq, Bool.or_eq_true, List.contains_iff_mem, List.any_eq_true] at this
        refine ⟨by omega, ?_⟩
        rcases this.2 with h | ⟨q, hq, he⟩
        · exact .inl h
        · right
          refine ⟨q, hq, ?_⟩
          cases ha : all[q]? with
          | none => rw [ha] at he; cases he
          | some e => rw [ha] at he; exact ⟨e, rfl, by simpa using he⟩
      · have := List.all_eq_true.1 h3 j (by simpa using hj)
        simp only [Bool.or_eq_true, Bool.and_eq_true, List.contains_iff_mem] at this
        rcases this with (h | h) | h
        · exact .inl h
        · right; left
          cases ha : all[j]? with
          | none => rw [ha] at h; cases h
          | some e => rw [ha] at h; exact ⟨e, rfl, h⟩
        · exact .inr (.inr (by simpa using h))
    | succ i =>
      simp only [List.getElem?_cons_succ] at ho hd
      have := orderOKS_get (k + 1) os ds h4 i o' d' ho hd
      rw [show k + (i + 1) = k + 1 + i from by omega]
      exact this
  | k, [], _ :: _, h, _, _, _, _, _ => by simp [orderOKS] at h
  | k, _ :: _, [], h, _, _, _, _, _ => by simp [orderOKS] at h

theorem any_soundS {seps : List (Nat × Nat)} (hc : CallsOK P cf) {ops : Array Oper} {ds : List DOper} (hm : matchOps P nt.n ops ops.toList ds = true) (ho : orderOKS seps ds 0 ops.toList ds = true) {Q : Exit → Act → World → Prop} {s' : St} (hsep : sepAll seps ds s'.env = true) (hQ : ∀ a' w' β', Gam B w0 U0 nt β' s' a' w' → Q .normal a' w') :
    ∀ (fuel : Nat) (listed : Array Bool) (R : List Nat) (s : St) (a : Act) (w : World) (β : Place), R.length ≤ fuel → listed.size = ops.size → R.Pairwise (· < ·) → (∀ i, i ∈ R ↔ i < ops.size ∧ listed.getD i true = false) →
      (∀ i d, listed.getD i false = true → ds[i]? = some d → ∀ p ∈ d.preds, listed.getD p false = true) → Gam B w0 U0 nt β s a w → dops cf (todo ds R) s = some s' →
      wpAny P .any ops Q fuel listed a w := by
  obtain ⟨hlen, hget⟩ := matchOps_get _ _ hm
  have hord := orderOKS_get 0 _ _ ho
  simp only [Array.length_toList] at hlen
  have hready : ∀ (listed : Array Bool) (i : Nat), i ∈ Region.ready .any ops listed ↔ i < ops.size ∧ listed.getD i true = false ∧ ∃ o, ops[i]? = some o ∧ ∀ p ∈ direct o, listed.getD p false = true := by
    intro listed i
    unfold Region.ready
    simp only [List.mem_filter, List.mem_range, Bool.and_eq_true, Bool.not_eq_true']
    constructor
    · rintro ⟨h1, h2, h3⟩
      have hoi := Array.getElem?_eq_getElem h1
      rw [hoi] at h3
      simp only [Option.map_some, Option.getD_some] at h3
      refine ⟨h1, h2, ops[i], hoi, fun p hp => ?_⟩
      unfold direct at hp
      obtain ⟨e, he, rfl⟩ := List.mem_map.1 hp
      obtain ⟨he1, he2⟩ := List.mem_filter.1 he
      have := (Array.all_eq_true'.1 h3) e (by simpa using he1)
      simpa [he2] using this
    · rintro ⟨h1, h2, o, hoi, h3⟩
      refine ⟨h1, h2, ?_⟩
      rw [hoi]
      simp only [Option.map_some, Option.getD_some]
      rw [Array.all_eq_true']
      intro e he
      by_cases hb : Region.binds .any e = true
      · simp only [hb, Bool.not_true, Bool.false_or]
        exact h3 e.on (List.mem_map.2 ⟨e, List.mem_filter.2 ⟨by simpa using he, hb⟩, rfl⟩)
      · simp only [Bool.not_eq_true] at hb
        simp [hb]
  intro fuel
  induction fuel with
  | zero =>
    intro listed R s a w β hR hls hsort hmem hclo g hd
    have hR0 : R = [] := List.eq_nil_of_length_eq_zero (by omega)
    subst hR0
    simp only [todo, List.filterMap_nil, dops, Option.some.injEq] at hd
    subst hd
    refine ⟨?_, hQ _ _ _ g⟩
    cases hr : Region.ready .any ops listed with
    | nil => rfl
    | cons i r =>
      have := (hready listed i).1 (by rw [hr]; simp)
      exact absurd ((hmem i).2 ⟨this.1, this.2.1⟩) (by simp)
  | succ fuel ih =>
    intro listed R s a w β hR hls hsort hmem hclo g hd
    constructor
    · intro hr
      cases hRc : R with
      | nil =>
        subst hRc
        simp only [todo, List.filterMap_nil, dops, Option.some.injEq] at hd
        subst hd
        exact hQ _ _ _ g
      | cons i r =>
        exfalso
        subst hRc
        obtain ⟨hi, hil⟩ := (hmem i).1 (by simp)
        have hoi := Array.getElem?_eq_getElem hi
        have hdi : ds[i]? = some (ds[i]'(by omega)) := List.getElem?_eq_getElem (by omega)
        obtain ⟨k1, k2, _⟩ := hord i _ _ (by rw [Array.getElem?_toList]; exact hoi) hdi
        have : i ∈ Region.ready .any ops listed := (hready listed i).2 ⟨hi, hil, _, hoi, fun p hp => by
          have hpi := (k2 p (k1 p hp)).1
          have hnot : p ∉ i :: r := by
            intro hmm
            rcases List.mem_cons.1 hmm with h | h
            · omega
            · have := (List.pairwise_cons.1 hsort).1 p h; omega
          have hps : p < ops.size := by omega
          have hpl : ¬ listed.getD p true = false := fun h => hnot ((hmem p).2 ⟨hps, h⟩)
          have hpsz : p < listed.size := by omega
          simp [hpsz] at hpl ⊢
          exact hpl⟩
        rw [hr] at this
        simp at this
    · intro i hir
      obtain ⟨hi, hil, o, hoi, hpre⟩ := (hready listed i).1 hir
      have hdi : ds[i]? = some (ds[i]'(by omega)) := List.getElem?_eq_getElem (by omega)
      generalize hdd : ds[i]'(by omega) = d at hdi
      obtain ⟨k1, k2, k3⟩ := hord i o d (by rw [Array.getElem?_toList]; exact hoi) hdi
      obtain ⟨m1, m2, m3⟩ := hget i o d (by rw [Array.getElem?_toList]; exact hoi) hdi
      have hiR : i ∈ R := (hmem i).2 ⟨hi, hil⟩
      obtain ⟨R1, R2, rfl⟩ := List.append_of_mem hiR
      have hpl : ∀ p ∈ d.preds, listed.getD p false = true := by
        intro p hp
        rcases (k2 p hp).2 with h | ⟨q, hq, e, he, hpe⟩
        · exact hpre p h
        · exact hclo q e (hpre q hq) he p hpe
      have hs := List.pairwise_append.1 hsort
      have hs2 := List.pairwise_cons.1 hs.2.1
      have hfr : FrontOK d (todo ds R2) s' (todo ds R1) := by
        have gen : ∀ (A B : List Nat), R1 = A ++ B → FrontOK d (todo ds R2) s' (todo ds B) := by
          intro A B
          induction B generalizing A with
          | nil => intro _; exact trivial
          | cons q B ihB =>
            intro hAB
            have hqR : q ∈ R1 := by rw [hAB]; simp
            have hqi : q < i := hs.2.2 q hqR i (by simp)
            have ihB' := ihB (A ++ [q]) (by rw [hAB]; simp)
            cases hqe : ds[q]? with
            | none => simp only [todo, List.filterMap_cons, hqe]; exact ihB'
            | some e =>
              have et : todo ds (q :: B) = e :: todo ds B := by simp only [todo, List.filterMap_cons, hqe]
              rw [et]
              refine ⟨?_, ihB'⟩
              have notpred : ∀ p ∈ R1, p ∉ d.preds := by
                intro p hp hpp
                have h1 := hpl p hpp
                have h2 := ((hmem p).1 (by simp [hp])).2
                have hps : p < listed.size := by have := ((hmem p).1 (by simp [hp])).1; omega
                simp [hps] at h1 h2
                rw [h1] at h2; cases h2
              have apartOf : ∀ p e', p ∈ R1 → ds[p]? = some e' → apart e' d = true := by
                intro p e' hp he'
                have hpi : p < i := hs.2.2 p hp i (by simp)
                rcases k3 p (by omega) with h | ⟨e2, he2, hce⟩ | ⟨_, hce⟩
                · exact absurd h (notpred p hp)
                · rw [he'] at he2; cases he2
                  unfold commOK at hce
                  simp only [Bool.and_eq_true] at hce
                  exact hce.1
                · unfold sepCert at hce
                  rw [he', show 0 + i = i from by omega, hdi] at hce
                  simp only [Bool.and_eq_true] at hce
                  exact hce.1.1.1
              rcases k3 q (by omega) with h | ⟨e2, he2, hce⟩ | ⟨hin, hce⟩
              · exact absurd h (notpred q hqR)
              · rw [hqe] at he2; cases he2; exact .inl hce
              · right
                rw [show 0 + i = i from by omega] at hin hce
                unfold sepCert at hce
                rw [hqe, hdi] at hce
                simp only [Bool.and_eq_true, List.all_eq_true, List.mem_range] at hce
                obtain ⟨⟨⟨c1, c2⟩, c3⟩, c4⟩ := hce
                refine ⟨c1, c2, c3, ?_, ?_⟩
                · have := List.all_eq_true.1 hsep (q, i) hin
                  simp only [hqe, hdi] at this
                  exact this
                · intro o ho'
                  have hon : ∃ p, p ∈ B ++ R2 ∧ ds[p]? = some o := by
                    rcases List.mem_append.1 ho' with h | h
                    · obtain ⟨p, hp, hpe⟩ := List.mem_filterMap.1 h
                      exact ⟨p, by simp [hp], hpe⟩
                    · obtain ⟨p, hp, hpe⟩ := List.mem_filterMap.1 h
                      exact ⟨p, by simp [hp], hpe⟩
                  obtain ⟨p, hp, hpe⟩ := hon
                  have hpl' : p < ds.length := by
                    rcases Nat.lt_or_ge p ds.length with h | h
                    · exact h
                    · rw [List.getElem?_eq_none h] at hpe; cases hpe
                  have c5 := c4 p hpl'
                  rw [hpe] at c5
                  simp only [Bool.and_eq_true, Bool.or_eq_true, decide_eq_true_eq] at c5
                  have hsB : R1.Pairwise (· < ·) := hs.1
                  rw [hAB] at hsB
                  have hsB2 := List.pairwise_cons.1 (List.pairwise_append.1 hsB).2.1
                  rcases List.mem_append.1 hp with hpB | hpR
                  · have hqp : q < p := hsB2.1 p hpB
                    refine ⟨by rcases c5.1 with h | h; · omega
                               · exact h, offs_of_apart (apartOf p o (by rw [hAB]; simp [hpB]) hpe)⟩
                  · have hip : i < p := hs2.1 p hpR
                    refine ⟨by rcases c5.1 with h | h; · omega
                               · exact h, by rcases c5.2 with h | h; · omega
                                             · exact h⟩
        exact gen [] R1 rfl
      have etodo : todo ds (R1 ++ i :: R2) = todo ds R1 ++ d :: todo ds R2 := by
        simp only [todo, List.filterMap_append, List.filterMap_cons, hdi]
      rw [etodo] at hd
      have hfront := dops_frontS _ _ hfr hd
      simp only [dops] at hfront
      cases hs1 : dopr cf d s with
      | none => rw [hs1] at hfront; cases hfront
      | some s1 =>
        rw [hs1] at hfront
        have hset : ∀ k, (listed.setIfInBounds i true).getD k true = if k = i then true else listed.getD k true := by
          intro k
          rw [Array.getD_eq_getD_getElem?, Array.getD_eq_getD_getElem?]
          by_cases e : k = i
          · subst e; simp [hls, hi]
          · rw [Array.getElem?_setIfInBounds_ne (fun h => e h.symm), if_neg e]
        have hsetf : ∀ k, (listed.setIfInBounds i true).getD k false = true ↔ k = i ∨ listed.getD k false = true := by
          intro k
          rw [Array.getD_eq_getD_getElem?, Array.getD_eq_getD_getElem?]
          by_cases e : k = i
          · subst e; simp [hls, hi]
          · rw [Array.getElem?_setIfInBounds_ne (fun h => e h.symm)]; simp [e]
        have hkey := oper_sound (P := P) (ops := ops) (Q := Q) hc g m1 m2 m3 hs1 (K := wpAny P .any ops Q fuel (listed.setIfInBounds i true)) fun a' w' β' g' => by
          refine ih (listed.setIfInBounds i true) (R1 ++ R2) s1 a' w' β' (by simp at hR ⊢; omega) (by simp [hls]) ?_ ?_ ?_ g' ?_
          · refine List.pairwise_append.2 ⟨hs.1, hs2.2, fun x hx y hy => hs.2.2 x hx y (by simp [hy])⟩
          · intro k
            rw [hset]
            constructor
            · intro hk
              have hk' : k ∈ R1 ++ i :: R2 := by
                rcases List.mem_append.1 hk with h | h
                · exact List.mem_append.2 (.inl h)
                · exact List.mem_append.2 (.inr (by simp [h]))
              obtain ⟨g1, g2⟩ := (hmem k).1 hk'
              have hne : k ≠ i := by
                rintro rfl
                rcases List.mem_append.1 hk with h | h
                · have := hs.2.2 k h k (by simp); omega
                · have := hs2.1 k h; omega
              rw [if_neg hne]
              exact ⟨g1, g2⟩
            · rintro ⟨g1, g2⟩
              split at g2
              · cases g2
              · rename_i hne
                have := (hmem k).2 ⟨g1, g2⟩
                rcases List.mem_append.1 this with h | h
                · exact List.mem_append.2 (.inl h)
                · rcases List.mem_cons.1 h with h | h
                  · exact absurd h hne
                  · exact List.mem_append.2 (.inr h)
          · intro k e hk he p hp
            rw [hsetf]
            rcases (hsetf k).1 hk with h | h
            · subst h
              rw [hdi] at he; cases he
              exact .inr (hpl p hp)
            · exact .inr (hclo k e h he p hp)
          · rw [show todo ds (R1 ++ R2) = todo ds R1 ++ todo ds R2 from by simp [todo, List.filterMap_append]]
            exact hfront
        unfold wpOp
        rw [hoi]
        exact hkey

theorem region_soundS (hc : CallsOK P cf) (hmix : P.follows .mixedOrders = true) {id : Nat} {ops : Array Oper} {seps : List (Nat × Nat)} {ds : List DOper} (hm : matchOps P nt.n ops ops.toList ds = true) (ho : orderOKS seps ds 0 ops.toList ds = true) (g : Gam B w0 U0 nt β s a w) {s' : St} (hd : dops cf ds s = some s') (hsep : sepAll seps ds s'.env = true)
    {Q : Exit → Act → World → Prop} (hQ : ∀ a' w' β', Gam B w0 U0 nt β' s' a' w' → Q .normal a' w') : (Code.region id ops true).wp P Q a w := by
  refine wp_region_any hmix ?_
  obtain ⟨hlen, _⟩ := matchOps_get _ _ hm
  simp only [Array.length_toList] at hlen
  have g' : Gam B w0 U0 nt β s a w.drew := by
    obtain ⟨m1, k1⟩ := g.mem.call (below_drew w.heap.size w)
    refine ⟨m1, fun i d hd => ?_, g.size, g.defers, g.keeps.trans k1, g.evo, g.marks⟩
    obtain ⟨v, h1, h2⟩ := g.env i d hd
    exact ⟨v, h1, h2.evo k1 (Evo.refl _ _ _)⟩
  refine any_soundS hc hm ho hsep hQ ops.size (Array.replicate ops.size false) (List.range ops.size) s a w.drew β (by simp) (by simp) (by rw [List.pairwise_iff_getElem]; intro i j hi hj h; simpa using h) (fun i => ?_) (fun i d h _ => ?_) g' ?_
  · simp only [List.mem_range]
    constructor
    · intro h; exact ⟨h, by simp [h]⟩
    · exact fun h => h.1
  · exfalso
    by_cases hi : i < ops.size <;> simp [hi] at h
  · rw [hlen, todo_all]; exact hd

end

end Go.Dv
