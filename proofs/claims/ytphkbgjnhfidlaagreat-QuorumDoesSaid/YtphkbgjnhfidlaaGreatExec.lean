/-
  Codes, functions, all calls: what the interpreter answers, the model comes to ('cfs_sound').
-/
import Derived.Scope
import Derived.Test.YtphkbgjnhfidlaaGreatRegionS
set_option linter.unusedVariables false
set_option linter.unusedSimpArgs false
namespace Go.Dv
open Go.RowKit

def exOf : Ex → Exit
  | .normal => .normal
  | .exit id => .exit id
  | .ret => .ret

section
variable {P : Program} {B : Nat} {w0 : World} {U0 : Nat → Prop} {β : Place} {w : World} {nt : Cx} {s : St} {a : Act} {cf : CallF}

/-! ### ghosts -/

theorem aget_mem {α : Type} : ∀ (l : List (Nat × α)) (k : Nat) (v : α), aget l k = some v → (k, v) ∈ l
  | [], k, v, h => by simp [aget] at h
  | (j, u) :: r, k, v, h => by
    rw [aget_cons] at h
    split at h
    · rename_i e; subst e; cases h; simp
    · exact List.mem_cons_of_mem _ (aget_mem r k v h)

theorem Gam.less (g : Gam B w0 U0 nt β s a w) {H' : Heap} (l : Less s.heap H') {env' : Env} (he : ∀ k d, aget env' k = some d → aget s.env k = some d) : Gam B w0 U0 nt β { s with env := env', heap := H' } a w :=
  ⟨g.mem.less l, fun k d hd => by
    obtain ⟨v, h1, h2⟩ := g.env k d (he k d hd)
    exact ⟨v, h1, h2.evo (l.keeps w) (l.evo (Nat.le_refl _))⟩, g.size, g.defers, g.keeps.trans (l.keeps w), g.evo.trans (l.evo (Nat.le_refl _)), g.marks⟩

theorem less_belowAll (c : Nat) (H : Heap) : Less H (belowAll c H) := by
  refine ⟨fun id blk h => ?_⟩
  have hc := (aget_belowAll c H id blk h).1
  rw [aget_belowAll_eq c H id hc] at h
  exact ⟨blk, h, .inl rfl⟩

theorem below_rep {H : Heap} {nx c : Nat} : ∀ (n : Nat) (d : DV) (v : Value), below c n d = true → DRep w (Own U0 β H) β H nx d v → DRep w (Own U0 β (belowAll c H)) β (belowAll c H) c d v := by
  have hk := (less_belowAll c H).keeps (U0 := U0) (β := β) w
  intro n
  induction n with
  | zero => intro d v h; simp [below] at h
  | succ n ih =>
    intro d v h hd
    cases hd with
    | p q x hp => exact .p _ _ (hp.keep hk)
    | agg cs vs hl h1 hr =>
      simp only [below, List.all_eq_true] at h
      exact .agg cs vs hl h1 fun j y hy => ih y _ (h y (List.mem_of_getElem? hy)) (hr j y hy)
    | tuple cs vs hl hr =>
      simp only [below, List.all_eq_true] at h
      exact .tuple cs vs hl fun j y hy => ih y _ (h y (List.mem_of_getElem? hy)) (hr j y hy)
    | func f cs vs hl hr =>
      simp only [below, List.all_eq_true] at h
      exact .func f cs vs hl fun j y hy => ih y _ (h y (List.mem_of_getElem? hy)) (hr j y hy)
    | ref id ver off k v hid hc hh =>
      simp only [below, decide_eq_true_eq] at h
      exact .ref id ver off k v h hc fun fz sz xs hx => hh fz sz xs (by rwa [aget_belowAll_eq c H id h] at hx)
    | ptr id off v hid hc hh hm =>
      simp only [below, decide_eq_true_eq] at h
      exact .ptr id off v h hc (fun fz cs hx => hh fz cs (by rwa [aget_belowAll_eq c H id h] at hx)) (fun fz kv hx => hm fz kv (by rwa [aget_belowAll_eq c H id h] at hx))
    | eptr id ver i off v hid hc hh =>
      simp only [below, decide_eq_true_eq] at h
      exact .eptr id ver i off v h hc fun fz sz xs hx => hh fz sz xs (by rwa [aget_belowAll_eq c H id h] at hx)

theorem resetTo_sound (g : Gam B w0 U0 nt β s a w) {c : Nat} {s' : St} (hns : nt.ns ≤ c) (h : resetTo c s = some s') : Gam B w0 U0 nt β s' a w := by
  unfold resetTo at h
  simp only at h
  split at h
  · rename_i hcond
    simp only [Option.some.injEq] at h; subst h
    simp only [Bool.and_eq_true, decide_eq_true_eq, List.all_eq_true] at hcond
    obtain ⟨⟨h1, h2⟩, h3⟩ := hcond
    have l := less_belowAll c s.heap
    have m1 := g.mem.less l
    refine ⟨⟨m1.below, m1.bsize, m1.u0, ⟨fun id blk hb => (aget_belowAll c _ _ _ hb).1, fun id blk hb => ?_, m1.h.inj⟩⟩, fun k d hd => ?_, g.size, g.defers, g.keeps.trans (l.keeps w), ⟨hns, fun id hid fz sz xs hx => ?_, fun id hid fz cs hx => ?_, fun id hid fz cs hx => ?_⟩, g.marks⟩
    · have hid := (aget_belowAll c _ _ _ hb).1
      have hold := hb
      rw [aget_belowAll_eq c _ id hid] at hold
      have hbl := h2 (id, blk) (aget_mem _ _ _ hb)
      have hr := g.mem.h.blk id blk hold
      have hk := l.keeps (U0 := U0) (β := β) w
      cases blk with
      | var f cs =>
        obtain ⟨b, q, arr, T, e1, e2, e3, e4, e5, e6⟩ := hr
        simp only [Blk.below, List.all_eq_true] at hbl
        exact ⟨b, q, arr, T, e1, e2, e3, e4, e5, fun j d hj => below_rep dep d _ (hbl d (List.mem_of_getElem? hj)) (e6 j d hj)⟩
      | row f sz xs =>
        rcases hr with ⟨e1, e2⟩ | ⟨b, q, arr, T, e1, e2, e3, e4, e5, e6, vs, e7, e8, e9⟩
        · exact .inl ⟨e1, e2⟩
        · exact .inr ⟨b, q, arr, T, e1, e2, e3, e4, e5, e6, vs, e7, e8, fun i x j y hx hy => (e9 i x j y hx hy).keep hk⟩
      | map f kv =>
        obtain ⟨b, q, es, clock, e1, e2, e3, e4, e5⟩ := hr
        refine ⟨b, q, es, clock, e1, e2, e3, e4, fun j k p hj => ?_⟩
        obtain ⟨e, a1, a2, a3, a4, a5⟩ := e5 j k p hj
        exact ⟨e, a1, a2, a3, a4, a5.keep hk⟩
    · obtain ⟨v, e1, e2⟩ := g.env k d hd
      exact ⟨v, e1, below_rep dep d v (h1 (k, d) (aget_mem _ _ _ hd)) e2⟩
    · rw [aget_belowAll_eq c _ id (by omega)] at hx
      exact g.evo.row id hid fz sz xs hx
    · rw [aget_belowAll_eq c _ id (by omega)] at hx
      exact g.evo.var id hid fz cs hx
    · rw [aget_belowAll_eq c _ id (by omega)] at hx
      exact g.evo.map id hid fz cs hx
  · cases h

theorem own_sound (g : Gam B w0 U0 nt β s a w) {sz k : Nat} (hk : aget s.env k = some (.p (.slice true []))) :
    ∃ β', Gam B w0 U0 nt β' { s with env := eset s.env k (.ref s.next 0 0 0), heap := (s.next, .row false sz []) :: s.heap, next := s.next + 1 } a w := by
  obtain ⟨v, h1, h2⟩ := g.env k _ hk
  have hv : ∃ ad, v = .slice ad 0 0 := by
    cases h2 with | p _ _ hp =>
      cases hp with
      | none _ ad c h => exact ⟨ad, by rw [h rfl]⟩
      | slice _ _ b off c sz arr T fz vs hne => simp at hne
  obtain ⟨ad, rfl⟩ := hv
  obtain ⟨β', m, hkp, he, hd⟩ := own_row (g.mem) sz ad
  refine ⟨β', ⟨m, fun j d hj => ?_, g.size, g.defers, g.keeps.trans hkp, g.evo.trans he, g.marks⟩⟩
  rw [aget_eset] at hj
  split at hj
  · rename_i e; subst e; cases hj; exact ⟨_, h1, hd⟩
  · obtain ⟨v, e1, e2⟩ := g.env j d hj
    exact ⟨v, e1, e2.evo hkp he⟩

theorem pure_sound' : ∀ (l : List Nat) (s s' : St), Gam B w0 U0 nt β s a w → purSlots l s = some s' → Gam B w0 U0 nt β s' a w
  | [], s, s', g, h => by simp only [purSlots, Option.some.injEq] at h; subst h; exact g
  | k :: r, s, s', g, h => by
    simp only [purSlots] at h
    cases hk : aget s.env k with
    | none => rw [hk] at h; cases h
    | some d =>
      rw [hk] at h
      simp only at h
      cases hp : pur s.heap dep d with
      | none => rw [hp] at h; cases h
      | some p =>
        rw [hp] at h
        refine pure_sound' r _ s' ?_ h
        obtain ⟨v, h1, h2⟩ := g.env k d hk
        have l := less_frz (tch s.heap dep d) s.heap
        have hpv := pur_ok g.mem (tch s.heap dep d) dep d p v hp (fun i hi => hi) h2
        have g' := g.less l (env' := s.env) (fun _ _ h => h)
        refine ⟨g'.mem, fun j e hj => ?_, g'.size, g'.defers, g'.keeps, g'.evo, g'.marks⟩
        rw [aget_eset] at hj
        split at hj
        · rename_i e; subst e; cases hj; exact ⟨v, h1, ofPV_rep hpv⟩
        · exact g'.env j e hj

theorem ownIn_sound (g : Gam B w0 U0 nt β s a w) {sz id off : Nat} {cs : List DV} (hH : aget s.heap id = some (.var false cs)) (hoff : cs[off]? = some (.p (.slice true []))) :
    ∃ β', Gam B w0 U0 nt β' { s with heap := hset ((s.next, .row false sz []) :: s.heap) id (.var false (cs.set off (.ref s.next 0 0 0))), next := s.next + 1 } a w := by
  obtain ⟨b, c, arr, T, h1, h2, h3, h4, h5, h6⟩ := g.mem.h.blk id _ hH
  have hv : ∃ ad, arr.getD off undef = .slice ad 0 0 := by
    have := h6 _ _ hoff
    generalize arr.getD off undef = xv at this
    cases this with | p _ _ hp =>
      cases hp with
      | none _ ad c h => exact ⟨ad, by rw [h rfl]⟩
      | slice _ _ b off c sz arr T fz vs hne => simp at hne
  obtain ⟨ad, hv⟩ := hv
  obtain ⟨β', m, hkp, he, hd⟩ := own_row (g.mem) sz ad
  have hid := g.mem.h.lt _ _ hH
  have hH' : aget ((s.next, Blk.row false sz []) :: s.heap) id = some (.var false cs) := by rw [aget_cons, if_neg (by omega)]; exact hH
  obtain ⟨b', c', arr', T', k1, k2, k3, k4, k5, k6⟩ := m.h.blk id _ hH'
  obtain ⟨_, _, _, hβ⟩ := he.var id hid false cs hH'
  rw [hβ, h1] at k1
  simp only [Option.some.injEq, Prod.mk.injEq] at k1
  obtain ⟨rfl, rfl⟩ := k1
  rw [h3] at k3
  simp only [Option.some.injEq, Obj.cells.injEq] at k3
  obtain ⟨rfl, rfl, _⟩ := k3
  have u : Upd β' ((s.next, Blk.row false sz []) :: s.heap) (s.next + 1) w β' (hset ((s.next, .row false sz []) :: s.heap) id (.var false (cs.set off (.ref s.next 0 0 0)))) (s.next + 1) w id (.var false (cs.set off (.ref s.next 0 0 0))) := by
    refine ⟨fun k hk => ?_, ?_, rfl, fun k hk => rfl, Nat.le_refl _, by omega, .inr ⟨_, hH', rfl, rfl⟩, fun b o h => .inl h, fun b' c' h => .inr ⟨c', _, h, hH'⟩⟩
    · rw [aget_hset, if_neg (fun e => hk e.symm)]
    · rw [aget_hset, if_pos rfl, hH']; rfl
  have hk2 := u.keeps (U0 := U0)
  have he2 := u.evo
  refine ⟨β', ⟨u.mem m (Below.refl _ _) ⟨b, c, arr, T, by rw [hβ, h1], h2, h3, by simpa using h4, fun j d hj => ?_, fun j d hj => ?_⟩, fun j d hj => ?_, g.size, g.defers, (g.keeps.trans hkp).trans hk2, (g.evo.trans he).trans he2, g.marks⟩⟩
  · rw [List.getElem?_set] at hj
    split at hj
    · rename_i e; subst e; rw [hv]; rfl
    · exact k5 j d hj
  · rw [List.getElem?_set] at hj
    split at hj
    · rename_i e; subst e
      split at hj
      · simp only [Option.some.injEq] at hj; subst hj; rw [hv]; exact hd.evo hk2 he2
      · cases hj
    · exact (k6 j d hj).evo hk2 he2
  · obtain ⟨v, e1, e2⟩ := g.env j d hj
    exact ⟨v, e1, (e2.evo hkp he).evo hk2 he2⟩

theorem ghost_sound (g : Gam B w0 U0 nt β s a w) {gh : Ghost} {s' : St} (h : dghost gh s = some s') : ∃ β', Gam B w0 U0 nt β' s' a w := by
  cases gh with
  | forget l =>
    simp only [dghost, Option.some.injEq] at h; subst h
    exact ⟨β, g.less (Less.refl _) fun k d hd => aget_adels l _ _ _ hd⟩
  | free l =>
    simp only [dghost, Option.some.injEq] at h; subst h
    exact ⟨β, g.less (less_adels _ _) fun k d hd => aget_adels l _ _ _ hd⟩
  | freeze l =>
    simp only [dghost, Option.some.injEq] at h; subst h
    exact ⟨β, g.less (less_frz _ _) fun k d hd => hd⟩
  | mark =>
    simp only [dghost, Option.some.injEq] at h; subst h
    refine ⟨β, g.mem, g.env, g.size, g.defers, g.keeps, g.evo, fun c hc => ?_⟩
    rcases List.mem_cons.1 hc with rfl | hc
    · exact g.evo.next
    · exact g.marks c hc
  | reset =>
    simp only [dghost] at h
    split at h
    · rename_i c r hm
      exact ⟨β, resetTo_sound g (g.marks c (by rw [hm]; simp)) h⟩
    · cases h
  | lower =>
    simp only [dghost] at h
    split at h
    · rename_i c r hm
      exact ⟨β, resetTo_sound g (Nat.le_trans (g.marks c (by rw [hm]; simp)) (Nat.le_max_left _ _)) h⟩
    · cases h
  | pure l =>
    simp only [dghost] at h
    exact ⟨β, pure_sound' l s s' g h⟩
  | ownIn sz k off =>
    simp only [dghost] at h
    split at h
    case h_2 => cases h
    rename_i id hk
    split at h
    case h_2 => cases h
    rename_i cs hH
    split at h
    case h_2 => cases h
    rename_i hoff
    simp only [Option.some.injEq] at h; subst h
    exact ownIn_sound g hH hoff
  | own sz k =>
    simp only [dghost] at h
    split at h
    · rename_i hk
      simp only [Option.some.injEq] at h; subst h
      exact own_sound g hk
    · cases h

/-! ### codes -/

def LoopIn (P : Program) (c : Code) (Q : Exit → Act → World → Prop) (a : Act) (w : World) : Prop :=
  ∀ (b : Frame) (k : List Item) (cs : List Frame), ∃ e a' w', Q e a' w' ∧ Arrives P (lone (b.at a (.code c :: .inLoop c :: k)) cs w) b k cs e a' w'

theorem loop_of_in {c : Code} {Q : Exit → Act → World → Prop} (h : LoopIn P c Q a w) : (Code.loop c).wp P Q a w := by
  intro b k cs
  obtain ⟨e, a', w', hq, harr⟩ := h b k cs
  exact ⟨e, a', w', hq, .of_steps (.one step_loop) harr⟩

theorem loop_in {c : Code} {Q : Exit → Act → World → Prop} (h : c.wp P (Exit.then (LoopIn P c Q) Q) a w) : LoopIn P c Q a w := by
  intro b k cs
  obtain ⟨e, a₁, w₁, hq, harr⟩ := h b (.inLoop c :: k) cs
  cases e with
  | normal =>
    obtain ⟨e₂, a₂, w₂, hq₂, harr₂⟩ := hq b k cs
    exact ⟨e₂, a₂, w₂, hq₂, .of_steps (Steps.trans harr (.one step_inLoop)) harr₂⟩
  | exit id => exact ⟨_, a₁, w₁, hq, .pass (x := .inLoop c) rfl (fun _ _ => .inl (by simp)) harr⟩
  | goto l => exact ⟨_, a₁, w₁, hq, .pass (x := .inLoop c) rfl (fun _ _ => .inl (by simp)) harr⟩
  | ret => exact ⟨_, a₁, w₁, hq, .pass (x := .inLoop c) rfl (fun _ _ => .inl (by simp)) harr⟩
  | panic ch => exact ⟨_, a₁, w₁, hq, .pass (x := .inLoop c) rfl (fun _ _ => .inl (by simp)) harr⟩
  | outgrown => exact ⟨_, a₁, w₁, hq, .pass (x := .inLoop c) rfl (fun _ _ => .inl (by simp)) harr⟩

theorem code_sound (hc : CallsOK P cf) (hmix : P.follows .mixedOrders = true) (n : Nat) : ∀ (ac : ACode) (c : Code), matchCode P nt.n c ac = true → ∀ (β : Place) (s : St) (a : Act) (w : World) (e : Ex) (s' : St), Gam B w0 U0 nt β s a w → dcode cf n ac s = some (e, s') →
    ∀ (Q : Exit → Act → World → Prop), (∀ a' w' β', Gam B w0 U0 nt β' s' a' w' → Q (exOf e) a' w') → c.wp P Q a w := by
  intro ac
  induction ac with
  | ghost gh x ih =>
    intro c hm β s a w e s' g hd Q hQ
    have hm' : matchCode P nt.n c x = true := by cases c <;> simpa [matchCode] using hm
    simp only [dcode] at hd
    cases hg : dghost gh s with
    | none => rw [hg] at hd; cases hd
    | some s1 =>
      rw [hg] at hd
      obtain ⟨β1, g1⟩ := ghost_sound g hg
      exact ih c hm' β1 s1 a w e s' g1 hd Q hQ
  | regionK draw ops =>
    intro c hm β s a w e s' g hd Q hQ
    simp only [dcode] at hd
    cases hs : dopsK cf ops s with
    | none => rw [hs] at hd; cases hd
    | some s1 =>
      rw [hs] at hd
      simp only [Option.some.injEq, Prod.mk.injEq] at hd
      obtain ⟨rfl, rfl⟩ := hd
      obtain ⟨e1, h1, h2⟩ := dopsK_dops ops s s1 s.env (fun _ _ h => h) hs
      cases c with
      | region id os draw' =>
        simp only [matchCode, Bool.and_eq_true, beq_iff_eq] at hm
        obtain ⟨⟨rfl, hm1⟩, hm2⟩ := hm
        exact region_sound hc hmix hm1 hm2 g h1 fun a' w' β' g' => hQ _ _ β' (g'.less (Less.refl _) fun k d hd => h2 k d hd)
      | _ => simp [matchCode] at hm
  | dead =>
    intro c hm β s a w e s' g hd Q hQ
    simp only [dcode] at hd
    cases hd
  | skip =>
    intro c hm β s a w e s' g hd Q hQ
    simp only [dcode, Option.some.injEq, Prod.mk.injEq] at hd
    obtain ⟨rfl, rfl⟩ := hd
    cases c <;> first | (simp [matchCode] at hm; done) | exact wp_skip (hQ _ _ _ g) | exact wp_label (hQ _ _ _ g)
  | scope x ih =>
    intro c hm β s a w e s' g hd Q hQ
    simp only [dcode] at hd
    cases c <;> first | (simp [matchCode] at hm; done) | skip
    rename_i c
    simp only [matchCode] at hm
    refine wp_scope_straight (ih c hm β s a w e s' g hd _ fun a' w' β' g' => ?_)
    have := hQ a' w' β' g'
    cases e <;> exact this
  | ret =>
    intro c hm β s a w e s' g hd Q hQ
    simp only [dcode, Option.some.injEq, Prod.mk.injEq] at hd
    obtain ⟨rfl, rfl⟩ := hd
    cases c <;> first | (simp [matchCode] at hm; done) | exact wp_ret (hQ _ _ _ g)
  | exit id =>
    intro c hm β s a w e s' g hd Q hQ
    simp only [dcode, Option.some.injEq, Prod.mk.injEq] at hd
    obtain ⟨rfl, rfl⟩ := hd
    cases c with
    | exit id' =>
      simp only [matchCode, beq_iff_eq] at hm; subst hm
      exact wp_exit (hQ _ _ _ g)
    | _ => simp [matchCode] at hm
  | region draw ops kill =>
    intro c hm β s a w e s' g hd Q hQ
    simp only [dcode] at hd
    cases hs : dops cf ops s with
    | none => rw [hs] at hd; cases hd
    | some s1 =>
      rw [hs] at hd
      simp only [Option.some.injEq, Prod.mk.injEq] at hd
      obtain ⟨rfl, rfl⟩ := hd
      cases c with
      | region id os draw' =>
        simp only [matchCode, Bool.and_eq_true, beq_iff_eq] at hm
        obtain ⟨⟨rfl, h1⟩, h2⟩ := hm
        exact region_sound hc hmix h1 h2 g hs fun a' w' β' g' => hQ _ _ β' (g'.less (Less.refl _) fun k d hd => aget_adels kill _ _ _ hd)
      | _ => simp [matchCode] at hm
  | regionS seps ops kill =>
    intro c hm β s a w e s' g hd Q hQ
    simp only [dcode] at hd
    cases hs : dops cf ops s with
    | none => rw [hs] at hd; cases hd
    | some s1 =>
      rw [hs] at hd
      simp only at hd
      split at hd
      · rename_i hq
        simp only [Option.some.injEq, Prod.mk.injEq] at hd
        obtain ⟨rfl, rfl⟩ := hd
        cases c with
        | region id os draw' =>
          simp only [matchCode, Bool.and_eq_true] at hm
          obtain ⟨⟨rfl, h1⟩, h2⟩ := hm
          exact region_soundS hc hmix h1 h2 g hs hq fun a' w' β' g' => hQ _ _ β' (g'.less (Less.refl _) fun k d hd => aget_adels kill _ _ _ hd)
        | _ => simp [matchCode] at hm
      · cases hd
  | seq x y ihx ihy =>
    intro c hm β s a w e s' g hd Q hQ
    cases c with
    | seq x' y' =>
      simp only [matchCode, Bool.and_eq_true] at hm
      simp only [dcode] at hd
      cases hx : dcode cf n x s with
      | none => rw [hx] at hd; cases hd
      | some r =>
        obtain ⟨e1, s1⟩ := r
        rw [hx] at hd
        refine wp_seq (ihx x' hm.1 β s a w e1 s1 g hx _ fun a' w' β' g' => ?_)
        cases e1 with
        | normal => exact ihy y' hm.2 β' s1 a' w' e s' g' hd Q hQ
        | exit id => simp only [Option.some.injEq, Prod.mk.injEq] at hd; obtain ⟨rfl, rfl⟩ := hd; exact hQ _ _ _ g'
        | ret => simp only [Option.some.injEq, Prod.mk.injEq] at hd; obtain ⟨rfl, rfl⟩ := hd; exact hQ _ _ _ g'
    | _ => simp [matchCode] at hm
  | cond o x y ihx ihy =>
    intro c hm β s a w e s' g hd Q hQ
    cases c with
    | cond o' x' y' =>
      simp only [matchCode, Bool.and_eq_true] at hm
      simp only [dcode] at hd
      split at hd
      · rename_i hv
        exact wp_cond_true ((g.ev hm.1.1 hv).bool_inv) (ihx x' hm.1.2 β s a w e s' g hd Q hQ)
      · rename_i hv
        exact wp_cond_false ((g.ev hm.1.1 hv).bool_inv) (ihy y' hm.2 β s a w e s' g hd Q hQ)
      · cases hd
    | _ => simp [matchCode] at hm
  | block id x ih =>
    intro c hm β s a w e s' g hd Q hQ
    cases c with
    | block id' x' =>
      simp only [matchCode, Bool.and_eq_true, beq_iff_eq] at hm
      obtain ⟨rfl, hm⟩ := hm
      simp only [dcode] at hd
      cases hx : dcode cf n x s with
      | none => rw [hx] at hd; cases hd
      | some r =>
        obtain ⟨e1, s1⟩ := r
        rw [hx] at hd
        refine wp_block (ih x' hm β s a w e1 s1 g hx _ fun a' w' β' g' => ?_)
        cases e1 with
        | normal => simp only [Option.some.injEq, Prod.mk.injEq] at hd; obtain ⟨rfl, rfl⟩ := hd; exact hQ _ _ _ g'
        | ret => simp only [Option.some.injEq, Prod.mk.injEq] at hd; obtain ⟨rfl, rfl⟩ := hd; exact hQ _ _ _ g'
        | exit k =>
          simp only at hd
          by_cases hk : k = id'
          · rw [if_pos hk] at hd
            simp only [Option.some.injEq, Prod.mk.injEq] at hd; obtain ⟨rfl, rfl⟩ := hd
            simp only [exOf, Exit.inBlock, if_pos hk]; exact hQ _ _ _ g'
          · rw [if_neg hk] at hd
            simp only [Option.some.injEq, Prod.mk.injEq] at hd; obtain ⟨rfl, rfl⟩ := hd
            simp only [exOf, Exit.inBlock, if_neg hk]; exact hQ _ _ _ g'
    | _ => simp [matchCode] at hm
  | loop x ih =>
    intro c hm β s a w e s' g hd Q hQ
    cases c with
    | loop x' =>
      simp only [matchCode] at hm
      simp only [dcode] at hd
      refine loop_of_in ?_
      have key : ∀ (k : Nat) (β : Place) (s : St) (a : Act) (w : World), Gam B w0 U0 nt β s a w → dloop (dcode cf n x) k s = some (e, s') → LoopIn P x' Q a w := by
        intro k
        induction k with
        | zero => intro β s a w g hd; simp [dloop] at hd
        | succ k ihk =>
          intro β s a w g hd
          simp only [dloop] at hd
          cases hx : dcode cf n x s with
          | none => rw [hx] at hd; cases hd
          | some r =>
            obtain ⟨e1, s1⟩ := r
            rw [hx] at hd
            refine loop_in (ih x' hm β s a w e1 s1 g hx _ fun a' w' β' g' => ?_)
            cases e1 with
            | normal => exact ihk β' s1 a' w' g' hd
            | exit id => simp only [Option.some.injEq, Prod.mk.injEq] at hd; obtain ⟨rfl, rfl⟩ := hd; exact hQ _ _ _ g'
            | ret => simp only [Option.some.injEq, Prod.mk.injEq] at hd; obtain ⟨rfl, rfl⟩ := hd; exact hQ _ _ _ g'
      exact key n β s a w g hd
    | _ => simp [matchCode] at hm

/-! ### functions -/

theorem aget_init : ∀ (args : List DV) (k i : Nat) (d : DV), aget (initEnv k args) i = some d → k ≤ i ∧ args[i - k]? = some d
  | [], k, i, d, h => by simp [initEnv, aget] at h
  | v :: r, k, i, d, h => by
    simp only [initEnv] at h
    rw [aget_cons] at h
    split at h
    · rename_i e; subst e; cases h; exact ⟨Nat.le_refl _, by simp⟩
    · obtain ⟨h1, h2⟩ := aget_init r (k + 1) i d h
      refine ⟨by omega, ?_⟩
      rw [show i - k = (i - (k + 1)) + 1 from by omega, List.getElem?_cons_succ]
      exact h2

theorem results_ok (g : Gam B w0 U0 nt β s a w) : ∀ (rs : List ResultVar) (ars : List AResult) (l : List DV), matchResults P rs ars = true → mapO (dres s) ars = some l →
    ∃ vs : List Value, ((rs.mapM fun
      | .tmp t => pure (a.tmps.getD t undef)
      | .cell x t => do loadVar t (← asAddr (a.tmps.getD x undef)) : Sem (List Value))).run P w = .ok vs w ∧ vs.length = l.length ∧ ∀ (j : Nat) (d : DV), l[j]? = some d → DRep w (Own U0 β s.heap) β s.heap s.next d (vs.getD j undef)
  | [], [], l, _, h => by simp only [mapO, Option.some.injEq] at h; subst h; exact ⟨[], rfl, rfl, by simp⟩
  | .tmp t :: rs, .tmp t' :: ars, l, hm, h => by
    simp only [matchResults, Bool.and_eq_true, beq_iff_eq] at hm
    obtain ⟨rfl, hm⟩ := hm
    simp only [mapO, dres] at h
    cases hv : aget s.env t with
    | none => rw [hv] at h; cases h
    | some d =>
      rw [hv] at h
      simp only at h
      cases hr : mapO (dres s) ars with
      | none => rw [hr] at h; cases h
      | some r =>
        rw [hr] at h
        simp only [Option.some.injEq] at h; subst h
        obtain ⟨vs, h1, h2, h3⟩ := results_ok g rs ars r hm hr
        obtain ⟨v, hv1, hv2⟩ := g.env _ _ hv
        have hev : a.tmps.getD t undef = v := getD_of hv1
        refine ⟨v :: vs, ?_, by simp [h2], fun j d' hj => ?_⟩
        · rw [List.mapM_cons]; simp only [Sem.run_bind, Sem.run_pure, Result.andThen_ok, hev]
          rw [h1]; rfl
        · cases j with
          | zero => simp only [List.getElem?_cons_zero, Option.some.injEq] at hj; subst hj; simpa using hv2
          | succ j => simp only [List.getElem?_cons_succ] at hj; simpa using h3 j d' hj
  | .cell t ty :: rs, .cell t' n :: ars, l, hm, h => by
    simp only [matchResults, Bool.and_eq_true, beq_iff_eq, decide_eq_true_eq] at hm
    obtain ⟨⟨⟨⟨rfl, hag⟩, hsz⟩, hpos⟩, hm⟩ := hm
    simp only [mapO] at h
    cases hv0 : dres s (.cell t n) with
    | none => rw [hv0] at h; cases h
    | some d =>
      rw [hv0] at h
      simp only at h
      cases hr : mapO (dres s) ars with
      | none => rw [hr] at h; cases h
      | some r =>
        rw [hr] at h
        simp only [Option.some.injEq] at h; subst h
        obtain ⟨vs, h1, h2, h3⟩ := results_ok g rs ars r hm hr
        have ht : isAggT P ty = some true := by split at hag <;> first | assumption | cases hag
        simp only [dres] at hv0
        split at hv0
        · rename_i id off hv
          split at hv0
          · rename_i f cs hH
            cases hc : takeDrop cs off n with
            | none => rw [hc] at hv0; cases hv0
            | some l0 =>
              rw [hc] at hv0; cases hv0
              rcases takeDrop_some hc with ⟨rfl, hfit⟩ | ⟨h0, _⟩
              · obtain ⟨v, hv1, hv2⟩ := g.env _ _ hv
                have hev : a.tmps.getD t undef = v := getD_of hv1
                obtain ⟨arr, hl1, hl2, hl3⟩ := load_agg (P := P) (ptr_cells g.mem hH hv2 (n := n) hfit) ht hsz
                have hget : ∀ (j : Nat) (y : DV), ((cs.drop off).take n)[j]? = some y → j < n ∧ cs[off + j]? = some y := by
                  intro j y hy
                  rw [List.getElem?_take] at hy
                  split at hy
                  · rename_i hj; rw [List.getElem?_drop] at hy; exact ⟨hj, hy⟩
                  · cases hy
                have hlv : (do loadVar ty (← asAddr (a.tmps.getD t undef)) : Sem Value).run P w = .ok (.agg arr) w := by
                  obtain ⟨b, o, arr0, T, fz, e, _⟩ := ptr_cells g.mem hH hv2 (n := n) hfit
                  rw [hev, e]
                  rw [e] at hl1
                  simp only [Instr.loadAt, Instr.sureAddr, Sem.run_bind, Sem.run_pure, Result.andThen_ok] at hl1
                  simp only [asAddr, Sem.run_bind, Sem.run_pure, Result.andThen_ok]
                  exact hl1
                refine ⟨.agg arr :: vs, ?_, by simp [h2], fun j d' hj => ?_⟩
                · rw [List.mapM_cons]
                  rw [Sem.run_bind, hlv]
                  simp only [Result.andThen_ok, Sem.run_bind]
                  rw [h1]; rfl
                · cases j with
                  | zero =>
                    simp only [List.getElem?_cons_zero, Option.some.injEq] at hj; subst hj
                    simp only [List.getD_cons_zero]
                    exact .agg _ arr (by rw [hl2]; simp; omega) (fun j y hy => (hl3 j (hget j y hy).1).1) (fun j y hy => (hl3 j (hget j y hy).1).2 _ (hget j y hy).2)
                  | succ j => simp only [List.getElem?_cons_succ] at hj; simpa using h3 j d' hj
              · omega
          · cases hv0
        · cases hv0
  | .tmp _ :: _, .cell _ _ :: _, _, hm, _ => by simp [matchResults] at hm
  | .cell _ _ :: _, .tmp _ :: _, _, hm, _ => by simp [matchResults] at hm
  | [], _ :: _, _, hm, _ => by simp [matchResults] at hm
  | _ :: _, [], _, hm, _ => by cases ‹ResultVar› <;> simp [matchResults] at hm

theorem run_results (g : Gam B w0 U0 nt β s a w) {fn : Func} {ars : List AResult} (hm : matchResults P fn.results.toList ars = true) {d : DV} (h : dresults s ars = some d) :
    ∃ v, (results fn a.tmps).run P w = .ok v w ∧ DRep w (Own U0 β s.heap) β s.heap s.next d v := by
  unfold dresults at h
  cases hl : mapO (dres s) ars with
  | none => rw [hl] at h; cases h
  | some l =>
    rw [hl] at h
    obtain ⟨vs, h1, h2, h3⟩ := results_ok g _ _ _ hm hl
    have hr : (results fn a.tmps).run P w = .ok (if h : vs.toArray.size = 1 then vs.toArray[0] else .tuple vs.toArray) w := by
      unfold results
      rw [Sem.run_bind, Array.mapM_eq_mapM_toList, Sem.run_map]
      exact congrArg (fun z : Result (List Value) => (z.andThen fun a w' => Result.ok a.toArray w').andThen fun a w' => (Sem.run P (pure (if h : a.size = 1 then a[0] else Value.tuple a) : Sem Value) w')) h1
    refine ⟨_, hr, ?_⟩
    cases l with
    | nil =>
      simp only [Option.some.injEq] at h; subst h
      have : vs = [] := List.eq_nil_of_length_eq_zero (by simpa using h2)
      subst this
      simp only [List.size_toArray, List.length_nil, Nat.zero_ne_one, dite_false]
      exact .tuple [] _ rfl (by simp)
    | cons x r =>
      cases r with
      | nil =>
        simp only [Option.some.injEq] at h; subst h
        cases vs with
        | nil => simp at h2
        | cons v q =>
          have : q = [] := List.eq_nil_of_length_eq_zero (by simpa using h2)
          subst this
          simpa using h3 0 x rfl
      | cons y r =>
        simp only [Option.some.injEq] at h; subst h
        have hne : ¬ vs.toArray.size = 1 := by simp [h2]
        rw [dif_neg hne]
        exact .tuple _ _ (by simpa using h2) (fun j d hd => by have := h3 j d hd; rw [List.getD_eq_getElem?_getD] at this; rw [Array.getD_eq_getD_getElem?, List.getElem?_toArray]; exact this)

theorem func_sound (hc : CallsOK P cf) (hmix : P.follows .mixedOrders = true) {f : FuncId} {af : AFunc} (hm : matchFunc P f af = true) {n : Nat} {args : List DV} {H : Heap} {nx : Nat} {r : DV} {H' : Heap} {nx' : Nat} (hd : drun cf n af args H nx = some (r, H', nx')) : ByrefOK P f args H nx r H' nx' := by
  unfold matchFunc at hm
  cases hfn : P.funcs[f]? with
  | none => rw [hfn] at hm; cases hm
  | some fn =>
  rw [hfn] at hm
  simp only at hm
  cases hb : fn.body with
  | none => rw [hb] at hm; cases hm
  | some c =>
  rw [hb] at hm
  simp only [Bool.and_eq_true, bne_iff_ne, ne_eq, beq_iff_eq, decide_eq_true_eq] at hm
  obtain ⟨⟨⟨⟨hname, hnt⟩, hnp⟩, hres⟩, hcode⟩ := hm
  refine ⟨⟨fn, hfn, by simpa using hname, by rw [hb]; rfl⟩, ?_⟩
  intro B w0 U0 β w vs m hvs hrep
  unfold drun at hd
  split at hd
  · rename_i hlen
    cases hx : dcode cf n af.body { env := initEnv 0 args, heap := H, next := nx, marks := [nx] } with
    | none => rw [hx] at hd; cases hd
    | some q =>
    obtain ⟨e, s'⟩ := q
    rw [hx] at hd
    have hfin : (e = .normal ∨ e = .ret) ∧ ∃ v, dresults s' af.results = some v ∧ r = v ∧ H' = s'.heap ∧ nx' = s'.next := by
      cases e with
      | exit id => cases hd
      | normal =>
        simp only at hd
        cases hr : dresults s' af.results with
        | none => rw [hr] at hd; cases hd
        | some v => rw [hr] at hd; cases hd; exact ⟨.inl rfl, _, rfl, rfl, rfl, rfl⟩
      | ret =>
        simp only at hd
        cases hr : dresults s' af.results with
        | none => rw [hr] at hd; cases hd
        | some v => rw [hr] at hd; cases hd; exact ⟨.inr rfl, _, rfl, rfl, rfl, rfl⟩
    obtain ⟨he, v, hv, rfl, rfl, rfl⟩ := hfin
    have g0 : Gam B w0 U0 ⟨af.ntmps, w, β, H, nx⟩ β { env := initEnv 0 args, heap := H, next := nx, marks := [nx] } { tmps := vs ++ Array.replicate (fn.ntmps - vs.size) undef, defers := [] } w := by
      refine ⟨m, fun k d hk => ?_, ?_, rfl, Keeps.refl _ _, Evo.refl _ _ _, by simp⟩
      · obtain ⟨_, hk2⟩ := aget_init args 0 k d hk
        rw [Nat.sub_zero] at hk2
        have hklt := lt_of_get? hk2
        refine ⟨vs.getD k undef, ?_, hrep k d hk2⟩
        show (vs ++ Array.replicate (fn.ntmps - vs.size) undef)[k]? = _
        rw [Array.getElem?_append, if_pos (by omega)]
        exact get?_of_lt (by omega)
      · show (vs ++ Array.replicate (fn.ntmps - vs.size) undef).size = af.ntmps
        simp; omega
    refine calls_of_wp hfn hb (code_sound hc hmix n af.body c hcode β _ _ w e s' g0 hx _ fun a' w' β' g' => ?_)
    obtain ⟨x, hr1, hr2⟩ := run_results g' hres hv
    have hpost : bodyPost P fn (fun e w' => ∃ x, e = .returned x ∧ Good B w0 U0 H nx β w r s'.heap s'.next x w') .ret a' w' :=
      ⟨g'.defers, x, hr1, x, rfl, β', g'.mem, g'.keeps, g'.evo, hr2⟩
    rcases he with rfl | rfl
    · exact hpost
    · exact hpost
  · cases hd

theorem ByrefOK.pure {f : FuncId} {args : List PV} {v : DV} {h : Heap} {k : Nat} (hb : ByrefOK P f (args.map ofPV) [] 0 v h k) {r : PV} (hd : pur h dep v = some r) : PureOK P f args r := by
    obtain ⟨hcal, hs⟩ := hb
    refine ⟨hcal, fun U w vs hU hvs hrep => ?_⟩
    have m : Mem w.heap.size w U (fun _ => none) [] 0 w := ⟨Below.refl _ _, Nat.le_refl _, hU, ⟨fun id b h => by simp [aget] at h, fun id b h => by simp [aget] at h, fun id b id' b' _ _ _ h => by simp [aget] at h⟩⟩
    refine (hs w.heap.size w U (fun _ => none) w vs m (by simpa using hvs) fun j d hj => ?_).mono ?_
    · rw [List.getElem?_map] at hj
      cases hc' : args[j]? with
      | none => rw [hc'] at hj; cases hj
      | some p =>
        rw [hc'] at hj; simp only [Option.map_some, Option.some.injEq] at hj; subst hj
        refine ofPV_rep ((hrep j p hc').keep ?_)
        refine ⟨fun _ _ _ h => h, fun b o hu _ hn => ?_⟩
        rcases hn with hn | ⟨id, blk, c, h1, _⟩
        · exact hu hn
        · simp [aget] at h1
    · rintro e w' ⟨x, rfl, β', m', kp, ev, dr⟩
      refine ⟨x, rfl, ?_, m'.below⟩
      have hp := pur_ok m' (tch h dep v) dep v r x hd (fun i hi => hi) dr
      exact hp.keep ⟨fun _ _ _ h => h, fun b o hu _ hn => hu (.inl hn)⟩

theorem pure_sound (hc : CallsOK P cf) (hmix : P.follows .mixedOrders = true) {f : FuncId} {af : AFunc} (hm : matchFunc P f af = true) {n : Nat} {args : List PV} {r : PV} (hd : prun cf n af args = some r) : PureOK P f args r := by
  unfold prun at hd
  cases hx : drun cf n af (args.map ofPV) [] 0 with
  | none => rw [hx] at hd; cases hd
  | some q =>
    obtain ⟨v, h, k⟩ := q
    rw [hx] at hd
    simp only at hd
    exact (func_sound hc hmix hm hx).pure hd

theorem cfs_sound (hmix : P.follows .mixedOrders = true) {A : FuncId → Option AFunc} (hA : ∀ f af, A f = some af → matchFunc P f af = true) {X : CallF} (hX : CallsOK P X) : ∀ n, CallsOK P (cfs A X n)
  | 0 => by
    constructor
    · intro f args r h
      simp only [cfs] at h
      cases ha : A f with
      | none => rw [ha] at h; exact hX.pure f args r h
      | some af => rw [ha] at h; cases h
    · intro f args H nx r H' nx' h
      simp only [cfs] at h
      cases ha : A f with
      | none => rw [ha] at h; exact hX.byref f args H nx r H' nx' h
      | some af => rw [ha] at h; cases h
  | n + 1 => by
    have ih := cfs_sound hmix hA hX n
    constructor
    · intro f args r h
      simp only [cfs] at h
      cases ha : A f with
      | none => rw [ha] at h; exact hX.pure f args r h
      | some af => rw [ha] at h; exact pure_sound ih hmix (hA f af ha) h
    · intro f args H nx r H' nx' h
      simp only [cfs] at h
      cases ha : A f with
      | none => rw [ha] at h; exact hX.byref f args H nx r H' nx' h
      | some af => rw [ha] at h; exact func_sound ih hmix (hA f af ha) h

theorem noCalls_ok : CallsOK P noCalls := ⟨fun f args r h => (by cases h), fun f args H nx r H' nx' h => (by cases h)⟩

end
end Go.Dv
