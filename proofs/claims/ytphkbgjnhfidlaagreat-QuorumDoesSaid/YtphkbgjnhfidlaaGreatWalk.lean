/-
  Walking at the data level: more depth never hurts; weakest preconditions of annotated code; specifications of functions.
-/
import Derived.Test.YtphkbgjnhfidlaaGreatExec
import Derived.IntWalk
set_option linter.unusedVariables false
set_option linter.unusedSimpArgs false
namespace Go.Dv

/-! ### more depth never hurts -/

structure CallF.le (a b : CallF) : Prop where
  pure : ∀ f args r, a.pure f args = some r → b.pure f args = some r
  byref : ∀ f args H nx r, a.byref f args H nx = some r → b.byref f args H nx = some r

theorem CallF.le.refl (a : CallF) : a.le a := ⟨fun _ _ _ h => h, fun _ _ _ _ _ h => h⟩
theorem CallF.le.trans {a b c : CallF} (h : a.le b) (k : b.le c) : a.le c := ⟨fun f x r e => k.pure f x r (h.pure f x r e), fun f x H n r e => k.byref f x H n r (h.byref f x H n r e)⟩
theorem noCalls_le (a : CallF) : noCalls.le a := ⟨fun _ _ _ h => (by cases h), fun _ _ _ _ _ h => (by cases h)⟩

theorem callD_le {a b : CallF} (h : a.le b) {byref : Bool} {f : FuncId} {l : List DV} {H : Heap} {nx : Nat} {r : DV × Heap × Nat} (e : callD a byref f l H nx = some r) : callD b byref f l H nx = some r := by
  unfold callD at e ⊢
  split at e
  · rename_i hb; rw [if_pos hb]; exact h.byref _ _ _ _ _ e
  · rename_i hb; rw [if_neg hb]
    cases hm : mapO (pur H dep) l with
    | none => rw [hm] at e; cases e
    | some ps =>
      rw [hm] at e
      simp only at e ⊢
      cases hp : a.pure f ps with
      | none => rw [hp] at e; cases e
      | some q => rw [hp] at e; rw [h.pure _ _ _ hp]; exact e

theorem dop_le {a b : CallF} (h : a.le b) {d : DOp} {s : St} {r : DV × Heap × Nat} (e : dop a d s = some r) : dop b d s = some r := by
  cases d
  case call byref f args =>
    simp only [dop] at e ⊢
    cases hl : evs s args with
    | none => rw [hl] at e; cases e
    | some l => rw [hl] at e; exact callD_le h e
  case callv byref fv args =>
    simp only [dop] at e ⊢
    split at e
    · exact callD_le h e
    · exact callD_le h e
    · cases e
  all_goals exact e

theorem dopr_le {a b : CallF} (h : a.le b) {d : DOper} {s s' : St} (e : dopr a d s = some s') : dopr b d s = some s' := by
  unfold dopr at e ⊢
  cases hg : gd d.guard s.env with
  | none => rw [hg] at e; cases e
  | some t =>
    rw [hg] at e
    cases t with
    | false => exact e
    | true =>
      simp only at e ⊢
      cases hd : dop a d.op s with
      | none => rw [hd] at e; cases e
      | some r => rw [hd] at e; rw [dop_le h hd]; exact e

theorem dops_le {a b : CallF} (h : a.le b) : ∀ (l : List DOper) (s s' : St), dops a l s = some s' → dops b l s = some s'
  | [], _, _, e => e
  | o :: r, s, s', e => by
    simp only [dops] at e ⊢
    cases hd : dopr a o s with
    | none => rw [hd] at e; cases e
    | some s1 => rw [hd] at e; rw [dopr_le h hd]; exact dops_le h r s1 s' e

theorem dopsK_le {a b : CallF} (h : a.le b) : ∀ (l : List (DOper × List Nat)) (s s' : St), dopsK a l s = some s' → dopsK b l s = some s'
  | [], _, _, e => e
  | (o, k) :: r, s, s', e => by
    simp only [dopsK] at e ⊢
    cases hd : dopr a o s with
    | none => rw [hd] at e; cases e
    | some s1 => rw [hd] at e; rw [dopr_le h hd]; exact dopsK_le h r _ s' e

theorem dcode_le {a b : CallF} (h : a.le b) {n m : Nat} (hn : n ≤ m) : ∀ (c : ACode) (s : St) (r : Ex × St), dcode a n c s = some r → dcode b m c s = some r := by
  intro c
  induction c with
  | skip => intro s r e; exact e
  | dead => intro s r e; exact e
  | regionK d ops =>
    intro s r e
    simp only [dcode] at e ⊢
    cases hd : dopsK a ops s with
    | none => rw [hd] at e; cases e
    | some s1 => rw [hd] at e; rw [dopsK_le h _ _ _ hd]; exact e
  | ret => intro s r e; exact e
  | exit id => intro s r e; exact e
  | scope c ih => intro s r e; exact ih s r e
  | ghost g c ih =>
    intro s r e
    simp only [dcode] at e ⊢
    cases hg : dghost g s with
    | none => rw [hg] at e; cases e
    | some s1 => rw [hg] at e; exact ih s1 r e
  | region d ops kill =>
    intro s r e
    simp only [dcode] at e ⊢
    cases hd : dops a ops s with
    | none => rw [hd] at e; cases e
    | some s1 => rw [hd] at e; rw [dops_le h _ _ _ hd]; exact e
  | regionS seps ops kill =>
    intro s r e
    simp only [dcode] at e ⊢
    cases hd : dops a ops s with
    | none => rw [hd] at e; cases e
    | some s1 => rw [hd] at e; rw [dops_le h _ _ _ hd]; exact e
  | seq x y ihx ihy =>
    intro s r e
    simp only [dcode] at e ⊢
    cases hx : dcode a n x s with
    | none => rw [hx] at e; cases e
    | some q =>
      rw [hx] at e
      rw [ihx s q hx]
      obtain ⟨e1, s1⟩ := q
      cases e1 with
      | normal => exact ihy s1 r e
      | exit id => exact e
      | ret => exact e
  | cond o x y ihx ihy =>
    intro s r e
    simp only [dcode] at e ⊢
    split at e
    · exact ihx s r e
    · exact ihy s r e
    · cases e
  | block id x ih =>
    intro s r e
    simp only [dcode] at e ⊢
    cases hx : dcode a n x s with
    | none => rw [hx] at e; cases e
    | some q =>
      rw [hx] at e
      rw [ih s q hx]
      exact e
  | loop x ih =>
    intro s r e
    simp only [dcode] at e ⊢
    have key : ∀ (k k' : Nat) (s : St), k ≤ k' → dloop (dcode a n x) k s = some r → dloop (dcode b m x) k' s = some r := by
      intro k
      induction k with
      | zero => intro k' s _ e; simp [dloop] at e
      | succ k ihk =>
        intro k' s hk e
        cases k' with
        | zero => omega
        | succ k' =>
          simp only [dloop] at e ⊢
          cases hx : dcode a n x s with
          | none => rw [hx] at e; cases e
          | some q =>
            rw [hx] at e
            rw [ih s q hx]
            obtain ⟨e1, s1⟩ := q
            cases e1 with
            | normal => exact ihk k' s1 (by omega) e
            | exit id => exact e
            | ret => exact e
    exact key n m s hn e

theorem drun_le {a b : CallF} (h : a.le b) {n m : Nat} (hn : n ≤ m) {af : AFunc} {args : List DV} {H : Heap} {nx : Nat} {r : DV × Heap × Nat} (e : drun a n af args H nx = some r) : drun b m af args H nx = some r := by
  unfold drun at e ⊢
  split at e
  · rename_i hl
    rw [if_pos hl]
    cases hx : dcode a n af.body { env := initEnv 0 args, heap := H, next := nx, marks := [nx] } with
    | none => rw [hx] at e; cases e
    | some q => rw [hx] at e; rw [dcode_le h hn _ _ _ hx]; exact e
  · cases e

theorem prun_le {a b : CallF} (h : a.le b) {n m : Nat} (hn : n ≤ m) {af : AFunc} {args : List PV} {r : PV} (e : prun a n af args = some r) : prun b m af args = some r := by
  unfold prun at e ⊢
  cases hx : drun a n af (args.map ofPV) [] 0 with
  | none => rw [hx] at e; cases e
  | some q => rw [hx] at e; rw [drun_le h hn hx]; exact e

theorem cfs_succ (A : FuncId → Option AFunc) (X : CallF) : ∀ n, (cfs A X n).le (cfs A X (n + 1))
  | 0 => by
    constructor
    · intro f args r h
      simp only [cfs] at h ⊢
      cases ha : A f with
      | none => rw [ha] at h; exact h
      | some af => rw [ha] at h; cases h
    · intro f args H nx r h
      simp only [cfs] at h ⊢
      cases ha : A f with
      | none => rw [ha] at h; exact h
      | some af => rw [ha] at h; cases h
  | n + 1 => by
    have ih := cfs_succ A X n
    constructor
    · intro f args r h
      rw [cfs] at h ⊢
      simp only at h ⊢
      cases ha : A f with
      | none => rw [ha] at h; exact h
      | some af => rw [ha] at h; exact prun_le ih (Nat.le_succ _) h
    · intro f args H nx r h
      rw [cfs] at h ⊢
      simp only at h ⊢
      cases ha : A f with
      | none => rw [ha] at h; exact h
      | some af => rw [ha] at h; exact drun_le ih (Nat.le_succ _) h

theorem cfs_le (A : FuncId → Option AFunc) (X : CallF) {n m : Nat} (h : n ≤ m) : (cfs A X n).le (cfs A X m) := by
  induction h with
  | refl => exact CallF.le.refl _
  | step _ ih => exact ih.trans (cfs_succ A X _)

/-! ### specifications -/

structure Tab where
  A : FuncId → Option AFunc
  X : CallF

def PS (T : Tab) (f : FuncId) (args : List PV) (r : PV) : Prop := ∃ n, (cfs T.A T.X n).pure f args = some r

def BS (T : Tab) (f : FuncId) (args : List DV) (H : Heap) (nx : Nat) (r : DV) (H' : Heap) (nx' : Nat) : Prop := ∃ n, (cfs T.A T.X n).byref f args H nx = some (r, H', nx')

def EvC (T : Tab) (c : ACode) (s : St) (e : Ex) (s' : St) : Prop := ∃ n, dcode (cfs T.A T.X n) n c s = some (e, s')

theorem EvC.at {T : Tab} {c : ACode} {s : St} {e : Ex} {s' : St} (h : EvC T c s e s') : ∃ n, ∀ m, n ≤ m → dcode (cfs T.A T.X m) m c s = some (e, s') := by
  obtain ⟨n, h⟩ := h
  exact ⟨n, fun m hm => dcode_le (cfs_le _ _ hm) hm _ _ _ h⟩

def Br (b : Bool) (x y : Prop) : Prop := (b = true → x) ∧ (b = false → y)
@[congr] theorem Br_congr {b b' : Bool} {x y : Prop} (h : b = b') : Br b x y = Br b' x y := by rw [h]
theorem Br_true {x y : Prop} : Br true x y = x := by simp [Br]
theorem Br_false {x y : Prop} : Br false x y = y := by simp [Br]
def Get {α : Type} (o : Option α) (K : α → Prop) : Prop :=
  match o with
  | some r => K r
  | none => False
@[congr] theorem Get_congr {α : Type} {o o' : Option α} {K : α → Prop} (h : o = o') : Get o K = Get o' K := by rw [h]
theorem Get_some {α : Type} {a : α} {K : α → Prop} : Get (some a) K = K a := rfl
theorem Get_elim {α : Type} {o : Option α} {K : α → Prop} (h : Get o K) : ∃ a, o = some a ∧ K a := by
  cases o with
  | none => exact h.elim
  | some a => exact ⟨a, rfl, h⟩

def callOf (s : St) : DOp → Option (Bool × Option (FuncId × List DV))
  | .call byref f args => some (byref, match evs s args with | some l => some (f, l) | none => none)
  | .callv byref fv args => some (byref, match s.ev fv, evs s args with
      | some (.func f caps), some l => some (f, l ++ caps)
      | some (.p (.func f caps)), some l => some (f, l ++ caps.map ofPV)
      | _, _ => none)
  | _ => none

def putSt (s : St) (dst : Option Nat) (r : DV × Heap × Nat) : St := { s with env := eput s.env dst r.1, heap := r.2.1, next := r.2.2 }

def St.evBool (s : St) (c : DO) : Option Bool :=
  match s.ev c with
  | some (.p (.bool b)) => some b
  | _ => none

def WCall (T : Tab) (c : Bool × Option (FuncId × List DV)) (H : Heap) (nx : Nat) (K : DV × Heap × Nat → Prop) : Prop :=
  match c with
  | (_, none) => False
  | (true, some (f, l)) => ∃ r H' nx', BS T f l H nx r H' nx' ∧ K (r, H', nx')
  | (false, some (f, l)) => Get (mapO (pur H dep) l) fun ps => ∃ r, PS T f ps r ∧ K (ofPV r, if r.plain then H else frz H (l.flatMap (tch H dep)), nx)

def WOp (T : Tab) (d : DOp) (s : St) (K : DV × Heap × Nat → Prop) : Prop :=
  match callOf s d with
  | some c => WCall T c s.heap s.next K
  | none => Get (dop noCalls d s) K

def WOps (T : Tab) : List DOper → St → (St → Prop) → Prop
  | [], s, K => K s
  | o :: r, s, K => Get (gd o.guard s.env) fun b => Br b (WOp T o.op s fun x => WOps T r (putSt s o.dst x) K) (WOps T r { s with env := eput s.env o.dst (.tuple []) } K)

def WOpsK (T : Tab) : List (DOper × List Nat) → St → (St → Prop) → Prop
  | [], s, K => K s
  | (o, k) :: r, s, K => WOps T [o] s fun s' => WOpsK T r { s' with env := adels s'.env k } K

def W (T : Tab) : ACode → St → (Ex → St → Prop) → Prop
  | .skip, s, K => K .normal s
  | .region _ ops kill, s, K => WOps T ops s fun s' => K .normal { s' with env := adels s'.env kill }
  | .seq a b, s, K => W T a s fun e s' => match e with
    | .normal => W T b s' K
    | e => K e s'
  | .cond c x y, s, K => Get (s.evBool c) fun b => Br b (W T x s K) (W T y s K)
  | .block id c, s, K => W T c s fun e s' => match e with
    | .exit id' => if id' = id then K .normal s' else K (.exit id') s'
    | e => K e s'
  | .loop c, s, K => ∃ e s', EvC T (.loop c) s e s' ∧ K e s'
  | .exit id, s, K => K (.exit id) s
  | .ret, s, K => K .ret s
  | .ghost g c, s, K => Get (dghost g s) fun s' => W T c s' K
  | .scope c, s, K => W T c s K
  | .dead, _, _ => False
  | .regionK _ ops, s, K => WOpsK T ops s fun s' => K .normal s'
  | .regionS seps ops kill, s, K => WOps T ops s fun s' => sepAll seps ops s'.env = true ∧ K .normal { s' with env := adels s'.env kill }

theorem WCall_sound {T : Tab} {byref : Bool} {q : Option (FuncId × List DV)} {H : Heap} {nx : Nat} {K : DV × Heap × Nat → Prop} (h : WCall T (byref, q) H nx K) :
    ∃ f l, q = some (f, l) ∧ ∃ r n, callD (cfs T.A T.X n) byref f l H nx = some r ∧ K r := by
  unfold WCall at h
  split at h
  · exact h.elim
  · rename_i e
    cases e
    obtain ⟨r, H', nx', ⟨n, hn⟩, hk⟩ := h
    exact ⟨_, _, rfl, _, n, by simp [callD, hn], hk⟩
  · rename_i e
    cases e
    obtain ⟨ps, hp, r, ⟨n, hn⟩, hk⟩ := Get_elim h
    exact ⟨_, _, rfl, _, n, by simp [callD, hp, hn], hk⟩

theorem WOp_sound {T : Tab} {d : DOp} {s : St} {K : DV × Heap × Nat → Prop} (h : WOp T d s K) : ∃ r n, dop (cfs T.A T.X n) d s = some r ∧ K r := by
  unfold WOp at h
  cases hc : callOf s d with
  | none =>
    rw [hc] at h
    simp only at h
    obtain ⟨r, hd, h⟩ := Get_elim h
    exact ⟨r, 0, dop_le (noCalls_le _) hd, h⟩
  | some c =>
    rw [hc] at h
    obtain ⟨byref, q⟩ := c
    obtain ⟨f, l, rfl, r, n, hcall, hk⟩ := WCall_sound h
    refine ⟨r, n, ?_, hk⟩
    cases d <;> simp only [callOf, Option.some.injEq, Prod.mk.injEq, reduceCtorEq] at hc
    · obtain ⟨rfl, hc⟩ := hc
      simp only [dop]
      split at hc
      · rename_i he; rw [he]; cases hc; exact hcall
      · cases hc
    · obtain ⟨rfl, hc⟩ := hc
      simp only [dop]
      split at hc
      · rename_i hv hl; cases hc; rw [hv, hl]; exact hcall
      · rename_i hv hl; cases hc; rw [hv, hl]; exact hcall
      · cases hc

theorem WOps_sound {T : Tab} : ∀ (l : List DOper) (s : St) (K : St → Prop), WOps T l s K → ∃ s' n, dops (cfs T.A T.X n) l s = some s' ∧ K s'
  | [], s, K, h => ⟨s, 0, rfl, h⟩
  | o :: r, s, K, h => by
    simp only [WOps] at h
    obtain ⟨b, hg, h⟩ := Get_elim h
    · cases b with
      | true =>
        rw [Br_true] at h
        obtain ⟨x, n, hx, hk⟩ := WOp_sound h
        obtain ⟨s', n', hs, hk'⟩ := WOps_sound r _ K hk
        refine ⟨s', max n n', ?_, hk'⟩
        have h1 : dopr (cfs T.A T.X (max n n')) o s = some (putSt s o.dst x) := by
          unfold dopr
          rw [hg]
          simp only
          rw [dop_le (cfs_le _ _ (Nat.le_max_left n n')) hx]
          rfl
        simp only [dops, h1]
        exact dops_le (cfs_le _ _ (Nat.le_max_right n n')) _ _ _ hs
      | false =>
        rw [Br_false] at h
        obtain ⟨s', n', hs, hk'⟩ := WOps_sound r _ K h
        refine ⟨s', n', ?_, hk'⟩
        have h1 : dopr (cfs T.A T.X n') o s = some { s with env := eput s.env o.dst (.tuple []) } := by
          unfold dopr
          rw [hg]
        simp only [dops, h1]
        exact hs

theorem WOpsK_sound {T : Tab} : ∀ (l : List (DOper × List Nat)) (s : St) (K : St → Prop), WOpsK T l s K → ∃ s' n, dopsK (cfs T.A T.X n) l s = some s' ∧ K s'
  | [], s, K, h => ⟨s, 0, rfl, h⟩
  | (o, k) :: r, s, K, h => by
    simp only [WOpsK] at h
    obtain ⟨s1, n, h1, h2⟩ := WOps_sound [o] s _ h
    obtain ⟨s2, m, h3, h4⟩ := WOpsK_sound r _ K h2
    simp only [dops] at h1
    cases hd : dopr (cfs T.A T.X n) o s with
    | none => rw [hd] at h1; cases h1
    | some s0 =>
      rw [hd] at h1
      simp only [Option.some.injEq] at h1
      subst h1
      exact ⟨s2, max n m, by simp only [dopsK]; rw [dopr_le (cfs_le _ _ (Nat.le_max_left n m)) hd]; exact dopsK_le (cfs_le _ _ (Nat.le_max_right n m)) _ _ _ h3, h4⟩

theorem W_sound {T : Tab} : ∀ (c : ACode) (s : St) (K : Ex → St → Prop), W T c s K → ∃ e s', EvC T c s e s' ∧ K e s' := by
  intro c
  induction c with
  | skip => intro s K h; exact ⟨.normal, s, ⟨0, rfl⟩, h⟩
  | dead => intro s K h; simp only [W] at h
  | regionK d ops =>
    intro s K h
    simp only [W] at h
    obtain ⟨s', n, hs, hk⟩ := WOpsK_sound ops s _ h
    exact ⟨_, _, ⟨n, by simp only [dcode, hs]⟩, hk⟩
  | ret => intro s K h; exact ⟨.ret, s, ⟨0, rfl⟩, h⟩
  | exit id => intro s K h; exact ⟨.exit id, s, ⟨0, rfl⟩, h⟩
  | loop c _ => intro s K h; exact h
  | scope c ih =>
    intro s K h
    obtain ⟨e, s', ⟨n, hn⟩, hk⟩ := ih s K h
    exact ⟨e, s', ⟨n, hn⟩, hk⟩
  | ghost g c ih =>
    intro s K h
    simp only [W] at h
    obtain ⟨s1, hg, h⟩ := Get_elim h
    · obtain ⟨e, s', ⟨n, hn⟩, hk⟩ := ih s1 K h
      exact ⟨e, s', ⟨n, by simp only [dcode, hg]; exact hn⟩, hk⟩
  | region d ops kill =>
    intro s K h
    simp only [W] at h
    obtain ⟨s', n, hs, hk⟩ := WOps_sound ops s _ h
    exact ⟨_, _, ⟨n, by simp only [dcode, hs]⟩, hk⟩
  | regionS seps ops kill =>
    intro s K h
    simp only [W] at h
    obtain ⟨s', n, hs, hq, hk⟩ := WOps_sound ops s _ h
    exact ⟨_, _, ⟨n, by simp only [dcode, hs, hq, if_true]⟩, hk⟩
  | seq a b iha ihb =>
    intro s K h
    simp only [W] at h
    obtain ⟨e, s1, h1, hk⟩ := iha s _ h
    cases e with
    | normal =>
      obtain ⟨e, s', h2, hk'⟩ := ihb s1 K hk
      obtain ⟨n1, g1⟩ := h1.at
      obtain ⟨n2, g2⟩ := h2.at
      exact ⟨e, s', ⟨max n1 n2, by simp only [dcode, g1 _ (Nat.le_max_left n1 n2)]; exact g2 _ (Nat.le_max_right n1 n2)⟩, hk'⟩
    | exit id => obtain ⟨n1, g1⟩ := h1; exact ⟨_, _, ⟨n1, by simp only [dcode, g1]⟩, hk⟩
    | ret => obtain ⟨n1, g1⟩ := h1; exact ⟨_, _, ⟨n1, by simp only [dcode, g1]⟩, hk⟩
  | cond o x y ihx ihy =>
    intro s K h
    simp only [W] at h
    obtain ⟨b, hb, h⟩ := Get_elim h
    have hv : s.ev o = some (.p (.bool b)) := by
      unfold St.evBool at hb
      split at hb
      · rename_i hv; cases hb; exact hv
      · cases hb
    · cases b with
      | true =>
        rw [Br_true] at h
        obtain ⟨e, s', ⟨n, hn⟩, hk⟩ := ihx s K h
        exact ⟨e, s', ⟨n, by simp only [dcode, hv]; exact hn⟩, hk⟩
      | false =>
        rw [Br_false] at h
        obtain ⟨e, s', ⟨n, hn⟩, hk⟩ := ihy s K h
        exact ⟨e, s', ⟨n, by simp only [dcode, hv]; exact hn⟩, hk⟩
  | block id c ih =>
    intro s K h
    simp only [W] at h
    obtain ⟨e, s1, ⟨n, hn⟩, hk⟩ := ih s _ h
    cases e with
    | normal => exact ⟨_, _, ⟨n, by simp only [dcode, hn]⟩, hk⟩
    | ret => exact ⟨_, _, ⟨n, by simp only [dcode, hn]⟩, hk⟩
    | exit k =>
      simp only at hk
      by_cases hki : k = id
      · rw [if_pos hki] at hk; exact ⟨_, _, ⟨n, by simp only [dcode, hn, if_pos hki]⟩, hk⟩
      · rw [if_neg hki] at hk; exact ⟨_, _, ⟨n, by simp only [dcode, hn, if_neg hki]⟩, hk⟩

theorem W_loop {T : Tab} {c : ACode} {s : St} {K : Ex → St → Prop} (h : W T c s fun e s' => match e with
    | .normal => W T (.loop c) s' K
    | e => K e s') : W T (.loop c) s K := by
  obtain ⟨e, s1, h1, hk⟩ := W_sound c s _ h
  obtain ⟨n1, g1⟩ := h1.at
  cases e with
  | normal =>
    obtain ⟨e, s', h2, hk'⟩ := hk
    obtain ⟨n2, g2⟩ := h2.at
    refine ⟨e, s', ⟨max n1 n2 + 1, ?_⟩, hk'⟩
    have e1 := g1 (max n1 n2 + 1) (by omega)
    have e2 := g2 (max n1 n2) (by omega)
    simp only [dcode] at e2 ⊢
    rw [dloop, e1]
    simp only
    have key : ∀ (k : Nat) (s : St), dloop (dcode (cfs T.A T.X (max n1 n2)) (max n1 n2) c) k s = some (e, s') → dloop (dcode (cfs T.A T.X (max n1 n2 + 1)) (max n1 n2 + 1) c) k s = some (e, s') := by
      intro k
      induction k with
      | zero => intro s h; simp [dloop] at h
      | succ k ih =>
        intro s h
        simp only [dloop] at h ⊢
        cases hx : dcode (cfs T.A T.X (max n1 n2)) (max n1 n2) c s with
        | none => rw [hx] at h; cases h
        | some q =>
          rw [hx] at h
          rw [dcode_le (cfs_le _ _ (Nat.le_succ _)) (Nat.le_succ _) _ _ _ hx]
          obtain ⟨e', s''⟩ := q
          cases e' with
          | normal => exact ih s'' h
          | exit id => exact h
          | ret => exact h
    exact key _ _ e2
  | exit id =>
    refine ⟨.exit id, s1, ⟨n1 + 1, ?_⟩, hk⟩
    simp only [dcode]
    rw [dloop, g1 (n1 + 1) (by omega)]
  | ret =>
    refine ⟨.ret, s1, ⟨n1 + 1, ?_⟩, hk⟩
    simp only [dcode]
    rw [dloop, g1 (n1 + 1) (by omega)]

def LK (T : Tab) (c : ACode) (K : Ex → St → Prop) (e : Ex) (s : St) : Prop :=
  match e with
  | .normal => W T (.loop c) s K
  | e => K e s
theorem W_round {T : Tab} {c : ACode} {s : St} {K : Ex → St → Prop} (h : W T c s (LK T c K)) : W T (.loop c) s K := W_loop h
theorem LK_exit {T : Tab} {c : ACode} {K : Ex → St → Prop} {s : St} {i : Nat} : LK T c K (.exit i) s = K (.exit i) s := rfl
theorem LK_ret {T : Tab} {c : ACode} {K : Ex → St → Prop} {s : St} : LK T c K .ret s = K .ret s := rfl

def SK (T : Tab) (b : ACode) (K : Ex → St → Prop) (e : Ex) (s : St) : Prop :=
  match e with
  | .normal => W T b s K
  | e => K e s
theorem SK_normal {T : Tab} {c : ACode} {K : Ex → St → Prop} {s : St} : SK T c K .normal s = W T c s K := rfl
theorem SK_exit {T : Tab} {c : ACode} {K : Ex → St → Prop} {s : St} {i : Nat} : SK T c K (.exit i) s = K (.exit i) s := rfl
theorem SK_ret {T : Tab} {c : ACode} {K : Ex → St → Prop} {s : St} : SK T c K .ret s = K .ret s := rfl

def BK (id : Nat) (K : Ex → St → Prop) (e : Ex) (s : St) : Prop :=
  match e with
  | .exit id' => if id' = id then K .normal s else K (.exit id') s
  | e => K e s
theorem BK_normal {i : Nat} {K : Ex → St → Prop} {s : St} : BK i K .normal s = K .normal s := rfl
theorem BK_exit {K : Ex → St → Prop} {s : St} {i j : Nat} : BK i K (.exit j) s = if j = i then K .normal s else K (.exit j) s := rfl
theorem BK_ret {i : Nat} {K : Ex → St → Prop} {s : St} : BK i K .ret s = K .ret s := rfl

@[congr] theorem W_congr {T : Tab} {c : ACode} {s s' : St} {K : Ex → St → Prop} (h : s = s') : W T c s K = W T c s' K := by rw [h]
@[congr] theorem WOps_congr {T : Tab} {l : List DOper} {s s' : St} {K : St → Prop} (h : s = s') : WOps T l s K = WOps T l s' K := by rw [h]
@[congr] theorem WOp_congr {T : Tab} {d : DOp} {s s' : St} {K : DV × Heap × Nat → Prop} (h : s = s') : WOp T d s K = WOp T d s' K := by rw [h]
@[congr] theorem WCall_congr {T : Tab} {c c' : Bool × Option (FuncId × List DV)} {H H' : Heap} {n n' : Nat} {K : DV × Heap × Nat → Prop} (hc : c = c') (h : H = H') (hn : n = n') : WCall T c H n K = WCall T c' H' n' K := by rw [h, hc, hn]
@[congr] theorem SK_congr {T : Tab} {c : ACode} {e e' : Ex} {s s' : St} {K : Ex → St → Prop} (he : e = e') (h : s = s') : SK T c K e s = SK T c K e' s' := by rw [h, he]
@[congr] theorem LK_congr {T : Tab} {c : ACode} {e e' : Ex} {s s' : St} {K : Ex → St → Prop} (he : e = e') (h : s = s') : LK T c K e s = LK T c K e' s' := by rw [h, he]
@[congr] theorem BK_congr {i : Nat} {e e' : Ex} {s s' : St} {K : Ex → St → Prop} (he : e = e') (h : s = s') : BK i K e s = BK i K e' s' := by rw [h, he]

theorem W_skip {T : Tab} {s : St} {K : Ex → St → Prop} : W T .skip s K = K .normal s := rfl
theorem W_ret {T : Tab} {s : St} {K : Ex → St → Prop} : W T .ret s K = K .ret s := rfl
theorem W_exit {T : Tab} {i : Nat} {s : St} {K : Ex → St → Prop} : W T (.exit i) s K = K (.exit i) s := rfl
theorem W_seq {T : Tab} {a b : ACode} {s : St} {K : Ex → St → Prop} : W T (.seq a b) s K = W T a s (SK T b K) := rfl
theorem W_block {T : Tab} {i : Nat} {a : ACode} {s : St} {K : Ex → St → Prop} : W T (.block i a) s K = W T a s (BK i K) := rfl
theorem W_cond {T : Tab} {c : DO} {x y : ACode} {s : St} {K : Ex → St → Prop} : W T (.cond c x y) s K = Get (s.evBool c) fun b => Br b (W T x s K) (W T y s K) := rfl
theorem W_ghost {T : Tab} {g : Ghost} {c : ACode} {s : St} {K : Ex → St → Prop} : W T (.ghost g c) s K = Get (dghost g s) fun s' => W T c s' K := rfl
theorem W_region {T : Tab} {d : Bool} {ops : List DOper} {kill : List Nat} {s : St} {K : Ex → St → Prop} : W T (.region d ops kill) s K = WOps T ops s fun s' => K .normal { s' with env := adels s'.env kill } := rfl

def Done (rs : List AResult) (R : DV → St → Prop) (e : Ex) (s : St) : Prop := (e = .normal ∨ e = .ret) ∧ ∃ v, dresults s rs = some v ∧ R v s
@[congr] theorem Done_congr {rs : List AResult} {R : DV → St → Prop} {e e' : Ex} {s s' : St} (he : e = e') (h : s = s') : Done rs R e s = Done rs R e' s' := by rw [h, he]
theorem Done_ret {rs : List AResult} {R : DV → St → Prop} {s : St} : Done rs R .ret s = Get (dresults s rs) fun v => R v s := by
  unfold Done Get
  cases dresults s rs <;> simp
theorem Done_normal {rs : List AResult} {R : DV → St → Prop} {s : St} : Done rs R .normal s = Get (dresults s rs) fun v => R v s := by
  unfold Done Get
  cases dresults s rs <;> simp

theorem PS_of {T : Tab} {f : FuncId} {af : AFunc} (hA : T.A f = some af) {args : List PV} {r : PV} (hl : args.length = af.nparams)
    (h : W T af.body { env := initEnv 0 (args.map ofPV), heap := [], next := 0, marks := [0] } (Done af.results fun v s => pur s.heap dep v = some r)) : PS T f args r := by
  obtain ⟨e, s', h1, he, v, hv, hp⟩ := W_sound _ _ _ h
  obtain ⟨n, hn⟩ := h1.at
  refine ⟨n + 1, ?_⟩
  rw [cfs]
  simp only [hA]
  have hx := dcode_le (CallF.le.refl (cfs T.A T.X n)) (Nat.le_succ n) _ _ _ (hn n (Nat.le_refl _))
  unfold prun drun
  rw [if_pos (by simpa using hl), hx]
  rcases he with rfl | rfl <;> simp only [hv, hp]

theorem BS_of {T : Tab} {f : FuncId} {af : AFunc} (hA : T.A f = some af) {args : List DV} {H : Heap} {nx : Nat} {r : DV} {H' : Heap} {nx' : Nat} (hl : args.length = af.nparams)
    (h : W T af.body { env := initEnv 0 args, heap := H, next := nx, marks := [nx] } (Done af.results fun v s => v = r ∧ s.heap = H' ∧ s.next = nx')) : BS T f args H nx r H' nx' := by
  obtain ⟨e, s', h1, he, v, hv, rfl, rfl, rfl⟩ := W_sound _ _ _ h
  obtain ⟨n, hn⟩ := h1.at
  refine ⟨n + 1, ?_⟩
  rw [cfs]
  simp only [hA]
  have hx := dcode_le (CallF.le.refl (cfs T.A T.X n)) (Nat.le_succ n) _ _ _ (hn n (Nat.le_refl _))
  unfold drun
  rw [if_pos hl, hx]
  rcases he with rfl | rfl <;> simp only [hv]

theorem PS.calls {P : Program} {T : Tab} (hmix : P.follows .mixedOrders = true) (hA : ∀ f af, T.A f = some af → matchFunc P f af = true) (hX : CallsOK P T.X) {f : FuncId} {args : List PV} {r : PV} (h : PS T f args r) : PureOK P f args r := by
  obtain ⟨n, hn⟩ := h
  exact (cfs_sound hmix hA hX n).pure f args r hn

/-! ### steps of a walk, one at a time -/

theorem cast_succ' (i : Nat) : (i : Int) + 1 = ((i + 1 : Nat) : Int) := rfl
theorem bool_beq_true (b : Bool) : (b == true) = b := by cases b <;> rfl
theorem bool_beq_false (b : Bool) : (b == false) = !b := by cases b <;> rfl

section
variable {T : Tab} {s s' : St} {K : Ex → St → Prop} {a b c : ACode} {i j : Nat}

theorem i_lk (h : W T (.loop c) s K) : LK T c K .normal s := h
theorem i_code {c' : ACode} (hc : c = c') (h : W T c' s K) : W T c s K := by rw [hc]; exact h
variable {o : DOper} {r : List DOper} {Q : St → Prop}

end

@[congr] theorem WOpsK_congr {T : Tab} {l : List (DOper × List Nat)} {s s' : St} {K : St → Prop} (h : s = s') : WOpsK T l s K = WOpsK T l s' K := by rw [h]

attribute [irreducible] W WOps WOpsK SK BK LK Done Get

end Go.Dv
