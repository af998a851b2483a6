/-
  Specifications, part 1: keys and bounds.
-/
import Derived.Test.YtknplkihgnfpfaaTab
import Derived.Test.YtknplkihgnfpfaaStr
set_option linter.unusedVariables false
set_option linter.unusedSimpArgs false
set_option maxRecDepth 100000
namespace Go.Dv.Try
open Go Go.Dv

theorem all_step {α : Type} (l : List α) (p : α → Bool) (i : Nat) (h : i < l.length) (ht : (l.take i).all p = true) (hp : p l[i] = true) : (l.take (i + 1)).all p = true := by
  rw [List.take_add_one, List.all_append, ht, List.getElem?_eq_getElem h]
  simp [hp]

theorem all_no {α : Type} (l : List α) (p : α → Bool) (i : Nat) (h : i < l.length) (hp : p l[i] = false) : l.all p = false := by
  rw [List.all_eq_false]
  exact ⟨l[i], List.getElem_mem h, by simp [hp]⟩

theorem data_get (s : ByteArray) (i : Nat) (h : i < s.data.toList.length) : s.data[i]? = some s.data.toList[i] := by
  rw [← Array.getElem?_toList, List.getElem?_eq_getElem h]

theorem size_list (s : ByteArray) : s.data.toList.length = s.size := Array.length_toList

/-! ### the bytes of a key, of a bound -/

def okc (c : UInt8) : Bool := (decide (97 ≤ c.toNat) && decide (c.toNat ≤ 122)) || (decide (48 ≤ c.toNat) && decide (c.toNat ≤ 57)) || decide (c.toNat = 47) || decide (c.toNat = 46) || decide (c.toNat = 95) || decide (c.toNat = 45)
def okb (c : UInt8) : Bool := decide (33 ≤ c.toNat) && decide (c.toNat ≤ 126)
def sall (s : ByteArray) (p : UInt8 → Bool) : Bool := s.data.toList.all p
def vkey (s : ByteArray) : Bool := decide (1 ≤ s.size) && decide (s.size ≤ 24) && sall s okc
def vbound (s : ByteArray) : Bool := decide (s.size ≤ 24) && sall s okb

def okcN (n : Nat) : Bool := (decide (97 ≤ n) && decide (n ≤ 122)) || (decide (48 ≤ n) && decide (n ≤ 57)) || decide (n = 47) || decide (n = 46) || decide (n = 95) || decide (n = 45)
def okbN (n : Nat) : Bool := decide (33 ≤ n) && decide (n ≤ 126)

/-- A function of one byte, looked at for each byte. -/
theorem ps_byte {f : FuncId} {p : Nat → Bool} (h : ((List.range 256).all fun n => match (cfs tb.A tb.X 3).pure f [.int .u8 n] with | some (.bool b) => b == p n | _ => false) = true) (c : UInt8) : PS tb f [.int .u8 (c.toNat : Int)] (.bool (p c.toNat)) := by
  have := (List.all_eq_true.1 h) c.toNat (List.mem_range.2 c.toNat_lt)
  split at this
  · rename_i b hb
    simp only [beq_iff_eq] at this
    exact ⟨3, by rw [hb, this]⟩
  · cases this

theorem ps_okc (c : UInt8) : PS tb 61 [.int .u8 (c.toNat : Int)] (.bool (okc c)) := ps_byte (p := okcN) (by kernel_rfl) c
theorem l_consists (s : ByteArray) (hl : s.size ≤ 24) (f : FuncId) (p : UInt8 → Bool) (hf : ∀ c : UInt8, PS tb f [.int .u8 (c.toNat : Int)] (.bool (p c))) (K : Ex → St → Prop) (hx : sall s p = true → K (.exit 0) ⟨[], [], 0, [0]⟩)
    (hr : sall s p = false → ∀ s', aget s'.env 4 = some (.p (.bool false)) → K .ret s') : ∀ (m i : Nat), i + m = s.size → (s.data.toList.take i).all p = true →
    W tb a60_l0 ⟨[(0, .p (.str s)), (1, .p (.func f [])), (10, .p (.int .i64 s.size)), (11, .p (.int .i64 i))], [], 0, [0]⟩ (LK tb (.ghost .lower a60_l0) K) := by
  intro m
  induction m with
  | zero =>
    intro i hi ht
    have h1 : ¬ (i : Int) < s.size := by omega
    rw [List.take_of_length_le (by rw [size_list]; omega)] at ht
    refine i_code (by unfold a60_l0; exact rfl) ?_
    repeat' (first | (simp (disch := omega) only [go_sem, seval, reduceCtorEq, h1]) | with_reducible exact Ev.mk | ((first | apply x_split | apply x_splitg) <;> intro hβ hb <;> (simp (disch := omega) only [go_sem, seval, reduceCtorEq, h1, hβ]) <;> clear hβ))
    exact hx ht
  | succ m ih =>
    intro i hi ht
    have h1 : (i : Int) < s.size := by omega
    have h2 : i < s.data.toList.length := by rw [size_list]; omega
    have h3 := data_get s i h2
    have h4 : (0 : Int) ≤ i := by omega
    refine i_code (by unfold a60_l0; exact rfl) ?_
    repeat' (first | exact hf _ | (simp (disch := omega) only [go_sem, seval, reduceCtorEq, h1, h3, h4]) | with_reducible exact Ev.mk | apply x_call | ((first | apply x_split | apply x_splitg) <;> intro hβ hb <;> (simp (disch := omega) only [go_sem, seval, reduceCtorEq, h1, h3, h4, hβ]) <;> clear hβ))
    · exact hr (all_no _ p i h2 hb) _ rfl
    · refine i_lk (W_round ?_)
      (try simp (disch := omega) only [go_sem, seval, reduceCtorEq])
      exact ih (i + 1) (by omega) (all_step _ p i h2 ht hb)

theorem ps_consists (s : ByteArray) (f : FuncId) (p : UInt8 → Bool) (hf : ∀ c : UInt8, PS tb f [.int .u8 (c.toNat : Int)] (.bool (p c))) :
    PS tb 60 [.str s, .func f []] (.bool (decide (s.size ≤ 24) && sall s p)) := by
  refine PS_of (af := a60) rfl rfl ?_
  unfold a60
  dsimp only [List.map, ofPV, initEnv]
  repeat' (first | (simp (disch := omega) only [go_sem, seval, reduceCtorEq]) | with_reducible exact Ev.mk | ((first | apply x_split | apply x_splitg) <;> intro hβ hb <;> (simp (disch := omega) only [go_sem, seval, reduceCtorEq, hβ]) <;> clear hβ))
  · have : ¬ s.size ≤ 24 := by omega
    simp [this, pur, dep]
  · have hl : s.size ≤ 24 := by omega
    refine W_round ?_
    (try simp (disch := omega) only [go_sem, seval, reduceCtorEq])
    refine l_consists s hl f p hf _ ?_ ?_ s.size 0 (by omega) (by simp)
    · intro ha
      (try simp (disch := omega) only [go_sem, seval, reduceCtorEq])
      simp [hl, ha, pur, dep]
    · intro ha s' hs
      (try simp (disch := omega) only [go_sem, seval, reduceCtorEq, hs])
      simp [hl, ha, pur, dep]

theorem empty_iff (s : ByteArray) : (s = ⟨#[]⟩) ↔ s.size = 0 := by
  constructor
  · rintro rfl; rfl
  · intro h
    apply bytes_eq
    have : s.data.toList.length = 0 := by rw [size_list]; exact h
    rw [List.eq_nil_of_length_eq_zero this]

theorem ps_kvalid (s : ByteArray) : PS tb 25 [.str s] (.bool (vkey s)) := by
  refine PS_of (af := a25) rfl rfl ?_
  unfold a25
  dsimp only [List.map, ofPV, initEnv]
  repeat' (first | exact ps_consists s 61 okc ps_okc | (simp (disch := omega) only [go_sem, seval, reduceCtorEq]) | with_reducible exact Ev.mk | apply x_call | ((first | apply x_split | apply x_splitg) <;> intro hβ hb <;> (simp (disch := omega) only [go_sem, seval, reduceCtorEq, hβ]) <;> clear hβ))
  · have h0 : ¬ s.size = 0 := fun h => hb ((empty_iff s).2 h)
    simp [vkey, pur, dep, show 1 ≤ s.size by omega]
  · have h0 : s.size = 0 := (empty_iff s).1 hb
    simp [vkey, pur, dep, h0]

/-! ### the same, as specified -/

set_option maxHeartbeats 2000000 in
theorem l_r4valid (s : ByteArray) (hs : s.size ≤ 9223372036854775807) (K : Ex → St → Prop) (hx : sall s okc = true → K (.exit 0) ⟨[(0, .p (.str s))], [], 0, [0]⟩)
    (hr : sall s okc = false → ∀ s', aget s'.env 2 = some (.p (.bool false)) → K .ret s') : ∀ (m i : Nat), i + m = s.size → (s.data.toList.take i).all okc = true →
    W tb a62_l0 ⟨[(0, .p (.str s)), (3, .p (.int .i64 i))], [], 0, [0]⟩ (LK tb (.ghost .lower a62_l0) K) := by
  intro m
  induction m with
  | zero =>
    intro i hi ht
    have h1 : ¬ (i : Int) < s.size := by omega
    rw [List.take_of_length_le (by rw [size_list]; omega)] at ht
    refine i_code (by unfold a62_l0; exact rfl) ?_
    repeat' (first | (simp (disch := omega) only [go_sem, seval, reduceCtorEq, h1]) | with_reducible exact Ev.mk | ((first | apply x_split | apply x_splitg) <;> intro hβ hb <;> (simp (disch := omega) only [go_sem, seval, reduceCtorEq, h1, hβ]) <;> clear hβ))
    exact hx ht
  | succ m ih =>
    intro i hi ht
    have h1 : (i : Int) < s.size := by omega
    have h2 : i < s.data.toList.length := by rw [size_list]; omega
    have h3 := data_get s i h2
    have h4 : (0 : Int) ≤ i := by omega
    generalize hc : s.data.toList[i] = c at h3
    have no : okc c = false → sall s okc = false := fun h => all_no _ okc i h2 (by rw [hc]; exact h)
    have yes : okc c = true → (s.data.toList.take (i + 1)).all okc = true := fun h => all_step _ okc i h2 ht (by rw [hc]; exact h)
    have key : ∀ b, okc c = b → W tb a62_l0 ⟨[(0, .p (.str s)), (3, .p (.int .i64 i))], [], 0, [0]⟩ (LK tb (.ghost .lower a62_l0) K) := by
      intro b hok
      refine i_code (by unfold a62_l0; exact rfl) ?_
      repeat' (first | (simp (disch := omega) only [go_sem, seval, reduceCtorEq, h1, h3, h4]) | with_reducible exact Ev.mk | ((first | apply x_split | apply x_splitg) <;> intro hβ hb <;> (simp (disch := omega) only [go_sem, seval, reduceCtorEq, h1, h3, h4, hβ]) <;> clear hβ))
      all_goals first
        | (exfalso; omega)
        | exact hr (no (by simp only [okc] at *; simp; omega)) _ rfl
        | (refine i_lk (W_round ?_)
           (try simp (disch := omega) only [go_sem, seval, reduceCtorEq])
           exact ih (i + 1) (by omega) (yes (by simp only [okc]; simp; omega)))
    exact key _ rfl

theorem ps_r4valid (s : ByteArray) (hs : s.size ≤ 9223372036854775807) : PS tb 62 [.str s] (.bool (vkey s)) := by
  refine PS_of (af := a62) rfl rfl ?_
  unfold a62
  dsimp only [List.map, ofPV, initEnv]
  repeat' (first | (simp (disch := omega) only [go_sem, seval, reduceCtorEq]) | with_reducible exact Ev.mk | ((first | apply x_split | apply x_splitg) <;> intro hβ hb <;> (simp (disch := omega) only [go_sem, seval, reduceCtorEq, hβ]) <;> clear hβ))
  refine W_round ?_
  (try simp (disch := omega) only [go_sem, seval, reduceCtorEq])
  refine l_r4valid s hs _ ?_ ?_ s.size 0 (by omega) (by simp)
  · intro ha
    repeat' (first | (simp (disch := omega) only [go_sem, seval, reduceCtorEq]) | with_reducible exact Ev.mk | ((first | apply x_split | apply x_splitg) <;> intro hβ hb <;> (simp (disch := omega) only [go_sem, seval, reduceCtorEq, hβ]) <;> clear hβ))
    · have h1 : decide (1 ≤ s.size) = true := decide_eq_true (by omega)
      have h2 : decide ((s.size : Int) ≤ 24) = decide (s.size ≤ 24) := decide_eq_decide.2 (by omega)
      simp only [pur, dep, vkey, ha, h1, h2, Bool.true_and, Bool.and_true]
    · have h1 : decide (1 ≤ s.size) = false := decide_eq_false (by omega)
      simp only [pur, dep, vkey, ha, h1, Bool.false_and]
  · intro ha s' hs'
    (try simp (disch := omega) only [go_sem, seval, reduceCtorEq, hs'])
    simp [vkey, ha, pur, dep]

end Go.Dv.Try
