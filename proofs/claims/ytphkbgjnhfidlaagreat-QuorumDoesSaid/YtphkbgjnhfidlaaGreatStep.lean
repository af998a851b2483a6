/-
  A walk by one rewriting: rules for codes and for a region's operations. What is not yet due stands as an argument of a constant, never under a binder.
-/
import Derived.Test.YtphkbgjnhfidlaaGreatSimp
set_option linter.unusedVariables false
set_option linter.unusedSimpArgs false
namespace Go.Dv

def DOp.isCall : DOp → Bool
  | .call _ _ _ | .callv _ _ _ => true
  | _ => false

def DOp.isRef : DOp → Bool
  | .call b _ _ | .callv b _ _ => b
  | _ => false

theorem callOf_none {s : St} {d : DOp} (h : d.isCall = false) : callOf s d = none := by
  cases d <;> simp_all [DOp.isCall, callOf]

def RK (K : Ex → St → Prop) (kill : List Nat) (s : St) : Prop := K .normal { s with env := adels s.env kill }
def RKS (K : Ex → St → Prop) (seps : List (Nat × Nat)) (ops : List DOper) (kill : List Nat) (s : St) : Prop := sepAll seps ops s.env = true ∧ K .normal { s with env := adels s.env kill }
def KK (T : Tab) (k : List Nat) (r : List (DOper × List Nat)) (Q : St → Prop) (s : St) : Prop := WOpsK T r { s with env := adels s.env k } Q
def KN (K : Ex → St → Prop) (s : St) : Prop := K .normal s
def XB (T : Tab) (b : Option Bool) (x y : ACode) (s : St) (K : Ex → St → Prop) : Prop := Get b fun b => Br b (W T x s K) (W T y s K)
def XG (T : Tab) (q : Option St) (c : ACode) (K : Ex → St → Prop) : Prop := Get q fun s' => W T c s' K
def XC (T : Tab) (o : DOper) (r : List DOper) (s : St) (Q : St → Prop) : Prop := WOp T o.op s fun x => WOps T r (putSt s o.dst x) Q
def XCr (T : Tab) (o : DOper) (r : List DOper) (s : St) (Q : St → Prop) : Prop := XC T o r s Q
def XE (T : Tab) (b : Bool) (o : DOper) (r : List DOper) (s : St) (Q : St → Prop) : Prop := XC T o r s Q
def XO (T : Tab) (q : Option (DV × Heap × Nat)) (o : DOper) (r : List DOper) (s : St) (Q : St → Prop) : Prop := Get q fun x => WOps T r (putSt s o.dst x) Q
def XD (T : Tab) (b : Bool) (o : DOper) (r : List DOper) (s : St) (Q : St → Prop) : Prop :=
  match b with
  | true => XE T o.op.isRef o r s Q
  | false => XO T (dop noCalls o.op s) o r s Q
def XQ (T : Tab) (b : Option Bool) (o : DOper) (r : List DOper) (s : St) (Q : St → Prop) : Prop :=
  Get b fun b => Br b (XD T o.op.isCall o r s Q) (WOps T r { s with env := eput s.env o.dst (.tuple []) } Q)
def XR (q : Option DV) (R : DV → St → Prop) (s : St) : Prop := Get q fun v => R v s

section
variable {T : Tab} {s s' : St} {K : Ex → St → Prop} {o : DOper} {r : List DOper} {Q : St → Prop} {x y c : ACode} {R : DV → St → Prop}

theorem XB_true : XB T (some true) x y s K = W T x s K := by unfold XB; rw [Get_some, Br_true]
theorem XB_false : XB T (some false) x y s K = W T y s K := by unfold XB; rw [Get_some, Br_false]
theorem XG_some : XG T (some s) c K = W T c s K := by unfold XG; rw [Get_some]
theorem XO_some {q : DV × Heap × Nat} : XO T (some q) o r s Q = WOps T r (putSt s o.dst q) Q := by unfold XO; rw [Get_some]
theorem XD_true : XD T true o r s Q = XE T o.op.isRef o r s Q := Eq.trans rfl rfl
theorem XE_true : XE T true o r s Q = XCr T o r s Q := Eq.trans rfl rfl
theorem XE_false : XE T false o r s Q = XC T o r s Q := Eq.trans rfl rfl
theorem XD_false : XD T false o r s Q = XO T (dop noCalls o.op s) o r s Q := Eq.trans rfl rfl
theorem XQ_true : XQ T (some true) o r s Q = XD T o.op.isCall o r s Q := by unfold XQ; rw [Get_some, Br_true]
theorem XQ_false : XQ T (some false) o r s Q = WOps T r { s with env := eput s.env o.dst (.tuple []) } Q := by unfold XQ; rw [Get_some, Br_false]
theorem XR_some {v : DV} : XR (some v) R s = R v s := by unfold XR; rw [Get_some]

theorem x_split_cond {b : Bool} (h1 : b = true → W T x s K) (h2 : b = false → W T y s K) : XB T (some b) x y s K := by
  cases b
  · rw [XB_false]; exact h2 rfl
  · rw [XB_true]; exact h1 rfl
theorem x_split_guard {b : Bool} (h1 : b = true → XD T o.op.isCall o r s Q) (h2 : b = false → WOps T r { s with env := eput s.env o.dst (.tuple []) } Q) : XQ T (some b) o r s Q := by
  cases b
  · rw [XQ_false]; exact h2 rfl
  · rw [XQ_true]; exact h1 rfl

theorem x_nil {kill : List Nat} : WOps T [] s (RK K kill) = K .normal { s with env := adels s.env kill } := by
  unfold WOps RK; exact Eq.trans rfl rfl
theorem x_cons {e : Env} {h : Heap} {n : Nat} {m : List Nat} : WOps T (o :: r) ⟨e, h, n, m⟩ Q = XQ T (gd o.guard e) o r ⟨e, h, n, m⟩ Q := by
  have h : WOps T (o :: r) ⟨e, h, n, m⟩ Q = Get (gd o.guard e) fun b => Br b (WOp T o.op ⟨e, h, n, m⟩ fun x => WOps T r (putSt ⟨e, h, n, m⟩ o.dst x) Q) (WOps T r { env := eput e o.dst (.tuple []), heap := h, next := n, marks := m } Q) := by
    conv => lhs; unfold WOps
  rw [h]
  unfold XQ
  have h2 : ∀ s : St, XD T o.op.isCall o r s Q = WOp T o.op s fun x => WOps T r (putSt s o.dst x) Q := by
    intro s
    cases hc : o.op.isCall with
    | true => rfl
    | false => rw [XD_false]; unfold WOp XO; rw [callOf_none hc]
  rw [h2]
theorem x_region {d : Bool} {ops : List DOper} {kill : List Nat} : W T (.region d ops kill) s K = WOps T ops s (RK K kill) := by
  rw [W_region]; rfl
theorem x_nilS {seps : List (Nat × Nat)} {ops : List DOper} {kill : List Nat} : WOps T [] s (RKS K seps ops kill) = (sepAll seps ops s.env = true ∧ K .normal { s with env := adels s.env kill }) := by
  unfold WOps RKS; exact Eq.trans rfl rfl
theorem x_regionS {seps : List (Nat × Nat)} {ops : List DOper} {kill : List Nat} : W T (.regionS seps ops kill) s K = WOps T ops s (RKS K seps ops kill) := by
  conv => lhs; unfold W
  rfl
theorem x_regionK {d : Bool} {ops : List (DOper × List Nat)} : W T (.regionK d ops) s K = WOpsK T ops s (KN K) := by
  conv => lhs; unfold W
  rfl
theorem x_consK {k : List Nat} {r : List (DOper × List Nat)} : WOpsK T ((o, k) :: r) s Q = WOps T [o] s (KK T k r Q) := by
  conv => lhs; unfold WOpsK
  rfl
theorem x_nilK {k : List Nat} {r : List (DOper × List Nat)} : WOps T [] s (KK T k r Q) = WOpsK T r { s with env := adels s.env k } Q := by
  unfold WOps KK; exact Eq.trans rfl rfl
theorem x_endK : WOpsK T [] s (KN K) = K .normal s := by
  unfold WOpsK KN; exact Eq.trans rfl rfl
theorem x_cond {c : DO} : W T (.cond c x y) s K = XB T (s.evBool c) x y s K := by rw [W_cond]; rfl
theorem x_ghost {g : Ghost} : W T (.ghost g c) s K = XG T (dghost g s) c K := by rw [W_ghost]; rfl
theorem x_scope : W T (.scope c) s K = W T c s K := by
  conv => lhs; unfold W
theorem x_done {rs : List AResult} : Done rs R .ret s = XR (dresults s rs) R s := by rw [Done_ret]; rfl
theorem x_doneN {rs : List AResult} : Done rs R .normal s = XR (dresults s rs) R s := by rw [Done_normal]; rfl

theorem x_skip : W T .skip s K = K .normal s := Eq.trans W_skip rfl
theorem x_ret : W T .ret s K = K .ret s := Eq.trans W_ret rfl
theorem x_exit {i : Nat} : W T (.exit i) s K = K (.exit i) s := Eq.trans W_exit rfl
theorem x_seq : W T (.seq x y) s K = W T x s (SK T y K) := Eq.trans W_seq rfl
theorem x_block {i : Nat} : W T (.block i x) s K = W T x s (BK i K) := Eq.trans W_block rfl
theorem x_sk : SK T c K .normal s = W T c s K := Eq.trans SK_normal rfl
theorem x_skx {i : Nat} : SK T c K (.exit i) s = K (.exit i) s := Eq.trans SK_exit rfl
theorem x_skr : SK T c K .ret s = K .ret s := Eq.trans SK_ret rfl
theorem x_bk {i : Nat} : BK i K .normal s = K .normal s := Eq.trans BK_normal rfl
theorem x_bkx {i j : Nat} : BK i K (.exit j) s = if j = i then K .normal s else K (.exit j) s := Eq.trans BK_exit rfl
theorem x_bkr {i : Nat} : BK i K .ret s = K .ret s := Eq.trans BK_ret rfl
theorem x_lkx {i : Nat} : LK T c K (.exit i) s = K (.exit i) s := Eq.trans LK_exit rfl
theorem x_lkr : LK T c K .ret s = K .ret s := Eq.trans LK_ret rfl
theorem x_pure {f : FuncId} {l : List DV} {ps : List PV} {v : PV} {H : Heap} (hc : callOf s o.op = some (false, some (f, l))) (hp : mapO (pur s.heap dep) l = some ps) (hv : PS T f ps v)
    (hH : (if v.plain then s.heap else frz s.heap (l.flatMap (tch s.heap dep))) = H) (hs : putSt s o.dst (ofPV v, H, s.next) = s') (h : WOps T r s' Q) : XC T o r s Q := by
  subst hs; subst hH
  unfold XC
  simp only [WOp, hc, WCall, hp, Get_some]
  exact ⟨v, hv, h⟩
theorem x_byref {f : FuncId} {l : List DV} {v : DV} {H : Heap} {n : Nat} (hc : callOf s o.op = some (true, some (f, l))) (hv : BS T f l s.heap s.next v H n)
    (hs : putSt s o.dst (v, H, n) = s') (h : WOps T r s' Q) : XCr T o r s Q := by
  subst hs
  unfold XCr XC
  simp only [WOp, hc, WCall]
  exact ⟨v, H, n, hv, h⟩
end

def Ev {α : Type} (a b : α) : Prop := a = b
theorem Ev.mk {α : Type} {a : α} : Ev a a := rfl
theorem Ev.of {α : Type} {a b : α} (h : a = b) : Ev a b := h
@[congr] theorem Ev_congr {α : Type} {a a' b : α} (h : a = a') : Ev a b = Ev a' b := by rw [h]

class Nb (b : Bool) (B P C N : outParam Prop) : Prop where
  pos : b = true → B ∧ P
  neg : b = false → C ∧ N
instance (priority := low) Nb.any {b : Bool} : Nb b (b = true) (b = true) (b = false) (b = false) := ⟨fun h => ⟨h, h⟩, fun h => ⟨h, h⟩⟩
instance Nb.dec {p : Prop} [Decidable p] : Nb (decide p) (decide p = true) p (decide p = false) (¬p) := ⟨fun h => ⟨h, of_decide_eq_true h⟩, fun h => ⟨h, of_decide_eq_false h⟩⟩
instance (priority := high) Nb.decNot {p : Prop} [Decidable p] : Nb (decide (¬p)) (decide (¬p) = true) (¬p) (decide (¬p) = false) p := ⟨fun h => ⟨h, of_decide_eq_true h⟩, fun h => ⟨h, Decidable.of_not_not (of_decide_eq_false h)⟩⟩
instance Nb.beq {α : Type} [BEq α] [LawfulBEq α] {a b : α} : Nb (a == b) ((a == b) = true) (a = b) ((a == b) = false) (¬a = b) := ⟨fun h => ⟨h, eq_of_beq h⟩, fun h => ⟨h, ne_of_beq_false h⟩⟩
instance Nb.bne {α : Type} [BEq α] [LawfulBEq α] {a b : α} : Nb (a != b) ((a != b) = true) (¬a = b) ((a != b) = false) (a = b) := ⟨fun h => ⟨h, by simpa [bne] using h⟩, fun h => ⟨h, by simpa [bne] using h⟩⟩
instance Nb.not {b : Bool} {B P C N : Prop} [i : Nb b B P C N] : Nb (!b) C N B P := ⟨fun h => i.neg (by simpa using h), fun h => i.pos (by simpa using h)⟩

section
variable {T : Tab} {s s' : St} {K : Ex → St → Prop} {o : DOper} {r : List DOper} {Q : St → Prop} {x y c : ACode}
theorem x_split {b : Bool} {B P C N : Prop} [i : Nb b B P C N] (h1 : B → P → W T x s K) (h2 : C → N → W T y s K) : XB T (some b) x y s K := x_split_cond (fun h => h1 (i.pos h).1 (i.pos h).2) (fun h => h2 (i.neg h).1 (i.neg h).2)
theorem x_splitg {b : Bool} {B P C N : Prop} [i : Nb b B P C N] (h1 : B → P → XD T o.op.isCall o r s Q) (h2 : C → N → WOps T r { s with env := eput s.env o.dst (.tuple []) } Q) : XQ T (some b) o r s Q := x_split_guard (fun h => h1 (i.pos h).1 (i.pos h).2) (fun h => h2 (i.neg h).1 (i.neg h).2)
theorem x_call {f : FuncId} {l : List DV} {ps : List PV} {v : PV} {H : Heap} (hc : Ev (callOf s o.op) (some (false, some (f, l)))) (hp : Ev (mapO (pur s.heap dep) l) (some ps)) (hv : PS T f ps v)
    (hH : Ev (if v.plain then s.heap else frz s.heap (l.flatMap (tch s.heap dep))) H) (hs : Ev (putSt s o.dst (ofPV v, H, s.next)) s') (h : WOps T r s' Q) : XC T o r s Q := x_pure hc hp hv hH hs h
theorem x_callr {f : FuncId} {l : List DV} {v : DV} {H : Heap} {n : Nat} (hc : Ev (callOf s o.op) (some (true, some (f, l)))) (hv : BS T f l s.heap s.next v H n)
    (hs : Ev (putSt s o.dst (v, H, n)) s') (h : WOps T r s' Q) : XCr T o r s Q := x_byref hc hv hs h

theorem o_dst {k : Nat} {x : DOp} : (DOper.o k x).dst = some k := Eq.trans rfl rfl
theorem o_op {k : Nat} {x : DOp} : (DOper.o k x).op = x := Eq.trans rfl rfl
theorem o_guard {k : Nat} {x : DOp} : (DOper.o k x).guard = none := Eq.trans rfl rfl
theorem u_dst {x : DOp} : (DOper.u x).dst = none := Eq.trans rfl rfl
theorem u_op {x : DOp} : (DOper.u x).op = x := Eq.trans rfl rfl
theorem u_guard {x : DOp} : (DOper.u x).guard = none := Eq.trans rfl rfl
theorem g_dst {k j : Nat} {b : Bool} {x : DOp} {l : List Nat} : (DOper.g k j b x l).dst = some k := Eq.trans rfl rfl
theorem g_op {k j : Nat} {b : Bool} {x : DOp} {l : List Nat} : (DOper.g k j b x l).op = x := Eq.trans rfl rfl
theorem g_guard {k j : Nat} {b : Bool} {x : DOp} {l : List Nat} : (DOper.g k j b x l).guard = some (j, b) := Eq.trans rfl rfl
end

section
variable {T : Tab} {s s' : St} {K : Ex → St → Prop} {o : DOper} {r : List DOper} {Q : St → Prop} {x y c : ACode} {R : DV → St → Prop}
@[congr] theorem XB_congr {b b' : Option Bool} (h : b = b') : XB T b x y s K = XB T b' x y s K := by rw [h]
@[congr] theorem XG_congr {q q' : Option St} (h : q = q') : XG T q c K = XG T q' c K := by rw [h]
@[congr] theorem XC_congr (h : s = s') : XC T o r s Q = XC T o r s' Q := by rw [h]
@[congr] theorem XCr_congr (h : s = s') : XCr T o r s Q = XCr T o r s' Q := by rw [h]
@[congr] theorem XE_congr {b b' : Bool} (h : b = b') : XE T b o r s Q = XE T b' o r s Q := by rw [h]
@[congr] theorem XO_congr {q q' : Option (DV × Heap × Nat)} (h : q = q') : XO T q o r s Q = XO T q' o r s Q := by rw [h]
@[congr] theorem XD_congr {b b' : Bool} (h : b = b') : XD T b o r s Q = XD T b' o r s Q := by rw [h]
@[congr] theorem XQ_congr {b b' : Option Bool} (h : b = b') : XQ T b o r s Q = XQ T b' o r s Q := by rw [h]
@[congr] theorem XR_congr {q q' : Option DV} (h : q = q') : XR q R s = XR q' R s := by rw [h]
end

attribute [irreducible] RK RKS KK KN XB XG XC XCr XE XO XD XQ XR Ev
attribute [go_sem ↓] x_skip x_ret x_exit x_seq x_block x_cond x_ghost x_region x_regionS x_regionK x_scope x_cons x_consK x_skx x_skr x_bkr x_lkx x_lkr XB_true XB_false XQ_true XQ_false XD_true XD_false XE_true XE_false
attribute [go_sem] o_dst o_op o_guard u_dst u_op u_guard g_dst g_op g_guard DO.i DO.b x_nil x_nilS x_nilK x_endK sepAll sepOK readOf keepsBlk offBlk resO valO flatO DV.flat DOp.isCall DOp.isRef XG_some XO_some XR_some x_sk x_bk x_bkx x_done x_doneN

end Go.Dv
