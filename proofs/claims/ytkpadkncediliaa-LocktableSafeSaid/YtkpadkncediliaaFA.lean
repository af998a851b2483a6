/-
  Specifications: F1, F2, F3, F4, F5, F6, F7, F8.
-/
import Derived.Test.YtkpadkncediliaaTab
import Derived.Test.YtkpadkncediliaaStr
set_option linter.unusedVariables false
set_option linter.unusedSimpArgs false
set_option maxRecDepth 100000
set_option maxHeartbeats 1000000
namespace Go.Dv.Try
open Go Go.Dv

/-! ## F1 -/

theorem all_step {α : Type} (l : List α) (p : α → Bool) (i : Nat) (h : i < l.length) (ht : (l.take i).all p = true) (hp : p l[i] = true) : (l.take (i + 1)).all p = true := by
  rw [List.take_add_one, List.all_append, ht, List.getElem?_eq_getElem h]
  simp [hp]

theorem all_no {α : Type} (l : List α) (p : α → Bool) (i : Nat) (h : i < l.length) (hp : p l[i] = false) : l.all p = false := by
  rw [List.all_eq_false]
  exact ⟨l[i], List.getElem_mem h, by simp [hp]⟩

theorem data_get (s : ByteArray) (i : Nat) (h : i < s.data.toList.length) : s.data[i]? = some s.data.toList[i] := by
  rw [← Array.getElem?_toList, List.getElem?_eq_getElem h]

theorem size_list (s : ByteArray) : s.data.toList.length = s.size := Array.length_toList

/-! ### the bytes of a key, of a bound -/

def okc (c : UInt8) : Bool := (decide (97 ≤ c.toNat) && decide (c.toNat ≤ 122)) || (decide (48 ≤ c.toNat) && decide (c.toNat ≤ 57)) || decide (c.toNat = 47) || decide (c.toNat = 46) || decide (c.toNat = 95) || decide (c.toNat = 45)
def okb (c : UInt8) : Bool := decide (33 ≤ c.toNat) && decide (c.toNat ≤ 126)
def sall (s : ByteArray) (p : UInt8 → Bool) : Bool := s.data.toList.all p
def vkey (s : ByteArray) : Bool := decide (1 ≤ s.size) && decide (s.size ≤ 24) && sall s okc
def vbound (s : ByteArray) : Bool := decide (s.size ≤ 24) && sall s okb

def okcN (n : Nat) : Bool := (decide (97 ≤ n) && decide (n ≤ 122)) || (decide (48 ≤ n) && decide (n ≤ 57)) || decide (n = 47) || decide (n = 46) || decide (n = 95) || decide (n = 45)
def okbN (n : Nat) : Bool := decide (33 ≤ n) && decide (n ≤ 126)

/-- A function of one byte, looked at for each byte. -/
theorem ps_byte {f : FuncId} {p : Nat → Bool} (h : ((List.range 256).all fun n => match (cfs tb.A tb.X 3).pure f [.int .u8 n] with | some (.bool b) => b == p n | _ => false) = true) (c : UInt8) : PS tb f [.int .u8 (c.toNat : Int)] (.bool (p c.toNat)) := by
  have := (List.all_eq_true.1 h) c.toNat (List.mem_range.2 c.toNat_lt)
  split at this
  · rename_i b hb
    simp only [beq_iff_eq] at this
    exact ⟨3, by rw [hb, this]⟩
  · cases this

theorem ps_okc (c : UInt8) : PS tb 66 [.int .u8 (c.toNat : Int)] (.bool (okc c)) := ps_byte (p := okcN) (by kernel_rfl) c
theorem l_consists (s : ByteArray) (hl : s.size ≤ 24) (f : FuncId) (p : UInt8 → Bool) (hf : ∀ c : UInt8, PS tb f [.int .u8 (c.toNat : Int)] (.bool (p c))) (K : Ex → St → Prop) (hx : sall s p = true → K (.exit 0) ⟨[], [], 0, [0]⟩)
    (hr : sall s p = false → ∀ s', aget s'.env 4 = some (.p (.bool false)) → K .ret s') : ∀ (m i : Nat), i + m = s.size → (s.data.toList.take i).all p = true →
    W tb a65_l0 ⟨[(0, .p (.str s)), (1, .p (.func f [])), (10, .p (.int .i64 s.size)), (11, .p (.int .i64 i))], [], 0, [0]⟩ (LK tb (.ghost .lower a65_l0) K) := by
  intro m
  induction m with
  | zero =>
    intro i hi ht
    have h1 : ¬ (i : Int) < s.size := by omega
    rw [List.take_of_length_le (by rw [size_list]; omega)] at ht
    refine i_code (by unfold a65_l0; exact rfl) ?_
    repeat' (first | (simp (disch := omega) only [go_sem, seval, reduceCtorEq, h1]) | with_reducible exact Ev.mk | ((first | apply x_split | apply x_splitg) <;> intro hβ hb <;> (simp (disch := omega) only [go_sem, seval, reduceCtorEq, h1, hβ]) <;> clear hβ))
    exact hx ht
  | succ m ih =>
    intro i hi ht
    have h1 : (i : Int) < s.size := by omega
    have h2 : i < s.data.toList.length := by rw [size_list]; omega
    have h3 := data_get s i h2
    have h4 : (0 : Int) ≤ i := by omega
    refine i_code (by unfold a65_l0; exact rfl) ?_
    repeat' (first | exact hf _ | (simp (disch := omega) only [go_sem, seval, reduceCtorEq, h1, h3, h4]) | with_reducible exact Ev.mk | apply x_call | ((first | apply x_split | apply x_splitg) <;> intro hβ hb <;> (simp (disch := omega) only [go_sem, seval, reduceCtorEq, h1, h3, h4, hβ]) <;> clear hβ))
    · exact hr (all_no _ p i h2 hb) _ rfl
    · refine i_lk (W_round ?_)
      (try simp (disch := omega) only [go_sem, seval, reduceCtorEq])
      exact ih (i + 1) (by omega) (all_step _ p i h2 ht hb)

theorem ps_consists (s : ByteArray) (f : FuncId) (p : UInt8 → Bool) (hf : ∀ c : UInt8, PS tb f [.int .u8 (c.toNat : Int)] (.bool (p c))) :
    PS tb 65 [.str s, .func f []] (.bool (decide (s.size ≤ 24) && sall s p)) := by
  refine PS_of (af := a65) rfl rfl ?_
  unfold a65
  dsimp only [List.map, ofPV, initEnv]
  repeat' (first | (simp (disch := omega) only [go_sem, seval, reduceCtorEq]) | with_reducible exact Ev.mk | ((first | apply x_split | apply x_splitg) <;> intro hβ hb <;> (simp (disch := omega) only [go_sem, seval, reduceCtorEq, hβ]) <;> clear hβ))
  · have : ¬ s.size ≤ 24 := by omega
    simp [this, pur, dep]
  · have hl : s.size ≤ 24 := by omega
    refine W_round ?_
    (try simp (disch := omega) only [go_sem, seval, reduceCtorEq])
    refine l_consists s hl f p hf _ ?_ ?_ s.size 0 (by omega) (by simp)
    · intro ha
      (try simp (disch := omega) only [go_sem, seval, reduceCtorEq])
      simp [hl, ha, pur, dep]
    · intro ha s' hs
      (try simp (disch := omega) only [go_sem, seval, reduceCtorEq, hs])
      simp [hl, ha, pur, dep]

theorem empty_iff (s : ByteArray) : (s = ⟨#[]⟩) ↔ s.size = 0 := by
  constructor
  · rintro rfl; rfl
  · intro h
    apply bytes_eq
    have : s.data.toList.length = 0 := by rw [size_list]; exact h
    rw [List.eq_nil_of_length_eq_zero this]

theorem ps_kvalid (s : ByteArray) : PS tb 45 [.str s] (.bool (vkey s)) := by
  refine PS_of (af := a45) rfl rfl ?_
  unfold a45
  dsimp only [List.map, ofPV, initEnv]
  repeat' (first | exact ps_consists s 66 okc ps_okc | (simp (disch := omega) only [go_sem, seval, reduceCtorEq]) | with_reducible exact Ev.mk | apply x_call | ((first | apply x_split | apply x_splitg) <;> intro hβ hb <;> (simp (disch := omega) only [go_sem, seval, reduceCtorEq, hβ]) <;> clear hβ))
  · have h0 : ¬ s.size = 0 := fun h => hb ((empty_iff s).2 h)
    simp [vkey, pur, dep, show 1 ≤ s.size by omega]
  · have h0 : s.size = 0 := (empty_iff s).1 hb
    simp [vkey, pur, dep, h0]

/-! ### the same, as specified -/

set_option maxHeartbeats 2000000 in
theorem l_r4valid (s : ByteArray) (hs : s.size ≤ 9223372036854775807) (K : Ex → St → Prop) (hx : sall s okc = true → K (.exit 0) ⟨[(0, .p (.str s))], [], 0, [0]⟩)
    (hr : sall s okc = false → ∀ s', aget s'.env 2 = some (.p (.bool false)) → K .ret s') : ∀ (m i : Nat), i + m = s.size → (s.data.toList.take i).all okc = true →
    W tb a47_l0 ⟨[(0, .p (.str s)), (3, .p (.int .i64 i))], [], 0, [0]⟩ (LK tb (.ghost .lower a47_l0) K) := by
  intro m
  induction m with
  | zero =>
    intro i hi ht
    have h1 : ¬ (i : Int) < s.size := by omega
    rw [List.take_of_length_le (by rw [size_list]; omega)] at ht
    refine i_code (by unfold a47_l0; exact rfl) ?_
    repeat' (first | (simp (disch := omega) only [go_sem, seval, reduceCtorEq, h1]) | with_reducible exact Ev.mk | ((first | apply x_split | apply x_splitg) <;> intro hβ hb <;> (simp (disch := omega) only [go_sem, seval, reduceCtorEq, h1, hβ]) <;> clear hβ))
    exact hx ht
  | succ m ih =>
    intro i hi ht
    have h1 : (i : Int) < s.size := by omega
    have h2 : i < s.data.toList.length := by rw [size_list]; omega
    have h3 := data_get s i h2
    have h4 : (0 : Int) ≤ i := by omega
    generalize hc : s.data.toList[i] = c at h3
    have no : okc c = false → sall s okc = false := fun h => all_no _ okc i h2 (by rw [hc]; exact h)
    have yes : okc c = true → (s.data.toList.take (i + 1)).all okc = true := fun h => all_step _ okc i h2 ht (by rw [hc]; exact h)
    have key : ∀ b, okc c = b → W tb a47_l0 ⟨[(0, .p (.str s)), (3, .p (.int .i64 i))], [], 0, [0]⟩ (LK tb (.ghost .lower a47_l0) K) := by
      intro b hok
      refine i_code (by unfold a47_l0; exact rfl) ?_
      repeat' (first | (simp (disch := omega) only [go_sem, seval, reduceCtorEq, h1, h3, h4]) | with_reducible exact Ev.mk | ((first | apply x_split | apply x_splitg) <;> intro hβ hb <;> (simp (disch := omega) only [go_sem, seval, reduceCtorEq, h1, h3, h4, hβ]) <;> clear hβ))
      all_goals first
        | (exfalso; omega)
        | exact hr (no (by simp only [okc] at *; simp; omega)) _ rfl
        | (refine i_lk (W_round ?_)
           (try simp (disch := omega) only [go_sem, seval, reduceCtorEq])
           exact ih (i + 1) (by omega) (yes (by simp only [okc]; simp; omega)))
    exact key _ rfl

theorem ps_r4valid (s : ByteArray) (hs : s.size ≤ 9223372036854775807) : PS tb 47 [.str s] (.bool (vkey s)) := by
  refine PS_of (af := a47) rfl rfl ?_
  unfold a47
  dsimp only [List.map, ofPV, initEnv]
  repeat' (first | (simp (disch := omega) only [go_sem, seval, reduceCtorEq]) | with_reducible exact Ev.mk | ((first | apply x_split | apply x_splitg) <;> intro hβ hb <;> (simp (disch := omega) only [go_sem, seval, reduceCtorEq, hβ]) <;> clear hβ))
  refine W_round ?_
  (try simp (disch := omega) only [go_sem, seval, reduceCtorEq])
  refine l_r4valid s hs _ ?_ ?_ s.size 0 (by omega) (by simp)
  · intro ha
    repeat' (first | (simp (disch := omega) only [go_sem, seval, reduceCtorEq]) | with_reducible exact Ev.mk | ((first | apply x_split | apply x_splitg) <;> intro hβ hb <;> (simp (disch := omega) only [go_sem, seval, reduceCtorEq, hβ]) <;> clear hβ))
    · have h1 : decide (1 ≤ s.size) = true := decide_eq_true (by omega)
      have h2 : decide ((s.size : Int) ≤ 24) = decide (s.size ≤ 24) := decide_eq_decide.2 (by omega)
      simp only [pur, dep, vkey, ha, h1, h2, Bool.true_and, Bool.and_true]
    · have h1 : decide (1 ≤ s.size) = false := decide_eq_false (by omega)
      simp only [pur, dep, vkey, ha, h1, Bool.false_and]
  · intro ha s' hs'
    (try simp (disch := omega) only [go_sem, seval, reduceCtorEq, hs'])
    simp [vkey, ha, pur, dep]


/-! ## F2 -/

/-- A list of at most 1000 strings of at most 100 bytes. -/
def Sh (l : List ByteArray) : Prop := l.length ≤ 1000 ∧ ∀ x ∈ l, x.size ≤ 100

abbrev E : ByteArray := ⟨#[]⟩

/-- Is k in the list? -/
def hasB (l : List ByteArray) (k : ByteArray) : Bool := l.any fun x => decide (x = k)
theorem hasB_iff {l : List ByteArray} {k : ByteArray} : hasB l k = true ↔ k ∈ l := by simp [hasB]
theorem hasB_no {l : List ByteArray} {k : ByteArray} : hasB l k = false ↔ k ∉ l := by rw [← hasB_iff]; simp

theorem lt_step {q : Nat → Bool} {i : Nat} (h : ∀ j, j < i → q j = true) (hi : q i = true) : ∀ j, j < i + 1 → q j = true := by
  intro j hj
  rcases Nat.lt_succ_iff_lt_or_eq.1 hj with h' | rfl
  · exact h j h'
  · exact hi

theorem getD_get (l : List ByteArray) (i : Nat) (h : i < l.length) : l.getD i E = l[i] := by simp [List.getD_eq_getElem?_getD, h]

theorem Sh.size {l : List ByteArray} (h : Sh l) {i : Nat} (hi : i < l.length) : l[i].size ≤ 100 := h.2 _ (List.getElem_mem hi)

theorem all_getD (l : List ByteArray) (p : ByteArray → Bool) : (∀ j, j < l.length → p (l.getD j E) = true) ↔ ∀ x ∈ l, p x = true := by
  constructor
  · intro h x hx
    obtain ⟨i, hi, rfl⟩ := List.mem_iff_getElem.1 hx
    have := h i hi
    rwa [getD_get l i hi] at this
  · intro h j hj
    rw [getD_get l j hj]; exact h _ (List.getElem_mem hj)

/-! ### Has, Contains -/

theorem l_has (l : List ByteArray) (k : ByteArray) (b : Bool) (hl : l.length ≤ 1000) (K : Ex → St → Prop) (hx : (∀ j, j < l.length → (fun j => !decide (l.getD j E = k)) j = true) → K (.exit 0) ⟨[], [], 0, [0]⟩)
    (hr : ∀ i, i < l.length → (fun j => !decide (l.getD j E = k)) i = false → ∀ s', aget s'.env 4 = some (.p (.bool true)) → K .ret s') : ∀ (m i : Nat), i + m = l.length → (∀ j, j < i → (fun j => !decide (l.getD j E = k)) j = true) →
    W tb a43_l0 ⟨[(0, .p (.slice b (strRow l))), (1, .p (.str k)), (5, .p (.int .i64 i))], [], 0, [0]⟩ (LK tb (.ghost .lower a43_l0) K) := by
  intro m
  induction m with
  | zero =>
    intro i hi ht
    have h1 : ¬ (i : Int) < l.length := by omega
    refine i_code (by unfold a43_l0; exact rfl) ?_
    repeat' (first | (simp (disch := omega) only [go_sem, seval, reduceCtorEq, h1, strRow_length]) | with_reducible exact Ev.mk | ((first | apply x_split | apply x_splitg) <;> intro hβ hb <;> (simp (disch := omega) only [go_sem, seval, reduceCtorEq, h1, strRow_length, hβ]) <;> clear hβ))
    exact hx (fun j hj => ht j (by omega))
  | succ m ih =>
    intro i hi ht
    have h1 : (i : Int) < l.length := by omega
    have h2 : i < l.length := by omega
    have h4 : (0 : Int) ≤ i := by omega
    have h3 := strRow_get l i h2
    have hq : decide (l.getD i E = k) = decide (l[i] = k) := by rw [getD_get l i h2]
    refine i_code (by unfold a43_l0; exact rfl) ?_
    repeat' (first | (simp (disch := omega) only [go_sem, seval, reduceCtorEq, h1, h4, strRow_length, h3]) | with_reducible exact Ev.mk | ((first | apply x_split | apply x_splitg) <;> intro hβ hb <;> (simp (disch := omega) only [go_sem, seval, reduceCtorEq, h1, h4, strRow_length, h3, hβ]) <;> clear hβ))
    all_goals first
      | (exfalso; omega)
      | exact hr i h2 (by (try dsimp only); rw [hq]; simp [hb]) _ rfl
      | (refine i_lk (W_round ?_)
         (try simp (disch := omega) only [go_sem, seval, reduceCtorEq, strRow_length])
         exact ih (i + 1) (by omega) (lt_step ht (by (try dsimp only); rw [hq]; simp [hb])))

theorem ps_has (l : List ByteArray) (k : ByteArray) (b : Bool) (hl : l.length ≤ 1000) : PS tb 43 [.slice b (strRow l), .str k] (.bool (hasB l k)) := by
  refine PS_of (af := a43) rfl rfl ?_
  unfold a43
  dsimp only [List.map, ofPV, initEnv]
  repeat' (first | (simp (disch := omega) only [go_sem, seval, reduceCtorEq, strRow_length]) | with_reducible exact Ev.mk | ((first | apply x_split | apply x_splitg) <;> intro hβ hb <;> (simp (disch := omega) only [go_sem, seval, reduceCtorEq, strRow_length, hβ]) <;> clear hβ))
  refine W_round ?_
  (try simp (disch := omega) only [go_sem, seval, reduceCtorEq])
  refine l_has l k b hl _ ?_ ?_ l.length 0 (by omega) (by simp)
  · intro ha
    (try simp (disch := omega) only [go_sem, seval, reduceCtorEq])
    have : k ∉ l := by
      intro hm
      obtain ⟨i, hi, rfl⟩ := List.mem_iff_getElem.1 hm
      have := ha i hi
      dsimp only at this
      rw [getD_get l i hi] at this
      simp at this
    simp [hasB_no.2 this, pur, dep]
  · intro i hi hq s' hs'
    (try simp (disch := omega) only [go_sem, seval, reduceCtorEq, hs'])
    have : k ∈ l := by
      dsimp only at hq
      rw [getD_get l i hi] at hq
      simp at hq
      rw [← hq]; exact List.getElem_mem hi
    simp [hasB_iff.2 this, pur, dep]

/-! ### ascending keys -/

def okAt (l : List ByteArray) (j : Nat) : Bool := vkey (l.getD j E) && (decide (j = 0) || slt (l.getD (j - 1) E) (l.getD j E))
def ascB (l : List ByteArray) : Bool := (List.range l.length).all (okAt l)

theorem ascB_of {l : List ByteArray} (h : ∀ j, j < l.length → okAt l j = true) : ascB l = true := by
  simp only [ascB, List.all_eq_true, List.mem_range]; exact h
theorem ascB_no {l : List ByteArray} {i : Nat} (hi : i < l.length) (h : okAt l i = false) : ascB l = false := by
  rw [ascB, List.all_eq_false]; exact ⟨i, List.mem_range.2 hi, by simp [h]⟩

/-- Strictly ascending. -/
def Strict (l : List ByteArray) : Prop := l.Pairwise fun a b => slt a b = true

theorem ascB_iff {l : List ByteArray} : ascB l = true ↔ (∀ x ∈ l, vkey x = true) ∧ Strict l := by
  simp only [ascB, List.all_eq_true, List.mem_range, okAt, Bool.and_eq_true, Bool.or_eq_true, decide_eq_true_eq]
  constructor
  · intro h
    refine ⟨(all_getD l vkey).1 fun j hj => (h j hj).1, ?_⟩
    unfold Strict
    rw [List.pairwise_iff_getElem]
    intro i j hi hj hij
    have key : ∀ d, i + d + 1 < l.length → slt (l.getD i E) (l.getD (i + d + 1) E) = true := by
      intro d
      induction d with
      | zero => intro hd; rcases (h (i + 1) hd).2 with h0 | h0; · omega
                exact h0
      | succ d ih => intro hd; rcases (h (i + d + 2) hd).2 with h0 | h0; · omega
                     exact slt_trans (ih (by omega)) h0
    have := key (j - i - 1) (by omega)
    rw [show i + (j - i - 1) + 1 = j by omega, getD_get l i hi, getD_get l j hj] at this
    exact this
  · rintro ⟨h1, h2⟩ j hj
    refine ⟨(all_getD l vkey).2 h1 j hj, ?_⟩
    rcases Nat.eq_zero_or_pos j with h0 | h0
    · exact .inl h0
    · right
      unfold Strict at h2
      rw [List.pairwise_iff_getElem] at h2
      rw [getD_get l j hj, getD_get l (j - 1) (by omega)]
      exact h2 (j - 1) j (by omega) hj (by omega)

theorem int_pred (i : Nat) (h : 0 < i) : IntKind.i64.wrap ((i : Int) - 1) = IntKind.i64.wrap ((i - 1 : Nat) : Int) := by congr 1; omega

theorem l_r4asc (l : List ByteArray) (b : Bool) (hl : Sh l) (K : Ex → St → Prop) (hx : (∀ j, j < l.length → okAt l j = true) → K (.exit 0) ⟨[], [], 0, [0]⟩)
    (hr : ∀ i, i < l.length → okAt l i = false → ∀ s', aget s'.env 2 = some (.p (.bool false)) → K .ret s') : ∀ (m i : Nat), i + m = l.length → (∀ j, j < i → okAt l j = true) →
    W tb a63_l0 ⟨[(0, .p (.slice b (strRow l))), (3, .p (.int .i64 i))], [], 0, [0]⟩ (LK tb (.ghost .lower a63_l0) K) := by
  intro m
  induction m with
  | zero =>
    intro i hi ht
    have h1 : ¬ (i : Int) < l.length := by omega
    refine i_code (by unfold a63_l0; exact rfl) ?_
    repeat' (first | (simp (disch := omega) only [go_sem, seval, reduceCtorEq, h1, strRow_length]) | with_reducible exact Ev.mk | ((first | apply x_split | apply x_splitg) <;> intro hβ hb <;> (simp (disch := omega) only [go_sem, seval, reduceCtorEq, h1, strRow_length, hβ]) <;> clear hβ))
    exact hx (fun j hj => ht j (by omega))
  | succ m ih =>
    intro i hi ht
    have h1 : (i : Int) < l.length := by omega
    have h2 : i < l.length := by omega
    have h4 : (0 : Int) ≤ i := by omega
    have h3 := strRow_get l i h2
    have hs := hl.size h2
    have h5 : 0 < i → (strRow l)[i - 1]? = some [.str (l.getD (i - 1) E)] := fun h => by rw [strRow_get l (i - 1) (by omega), getD_get l (i - 1) (by omega)]
    have hlen := hl.1
    have hok : okAt l i = (vkey l[i] && (decide (i = 0) || slt (l.getD (i - 1) E) l[i])) := by simp only [okAt]; rw [getD_get l i h2]
    have h6 : 0 < i → ((i : Int) - 1) = ((i - 1 : Nat) : Int) := fun h => by omega
    by_cases h0 : i = 0
    · have h7 : ¬ (0 : Int) < i := by omega
      refine i_code (by unfold a63_l0; exact rfl) ?_
      repeat' (first | exact ps_r4valid _ (Nat.le_trans hs (by decide)) | (simp (disch := omega) only [go_sem, seval, reduceCtorEq, h1, h4, strRow_length, h3, h7]) | with_reducible exact Ev.mk | apply x_call | ((first | apply x_split | apply x_splitg) <;> intro hβ hb <;> (simp (disch := omega) only [go_sem, seval, reduceCtorEq, h1, h4, strRow_length, h3, h7, hβ]) <;> clear hβ))
      all_goals first
        | exact hr i h2 (by rw [hok]; simp_all) _ rfl
        | (refine i_lk (W_round ?_)
           (try simp (disch := omega) only [go_sem, seval, reduceCtorEq])
           exact ih (i + 1) (by omega) (lt_step ht (by rw [hok]; simp_all)))
    · have h7 : (0 : Int) < i := by omega
      have h8 := h5 (by omega)
      have h9 := h6 (by omega)
      have h10 : (0 : Int) ≤ ((i - 1 : Nat) : Int) := by omega
      refine i_code (by unfold a63_l0; exact rfl) ?_
      repeat' (first | exact ps_r4valid _ (Nat.le_trans hs (by decide)) | (simp (disch := omega) only [go_sem, seval, reduceCtorEq, h1, h4, strRow_length, h3, h7, h8, h9, h10]) | with_reducible exact Ev.mk | apply x_call | ((first | apply x_split | apply x_splitg) <;> intro hβ hb <;> (simp (disch := omega) only [go_sem, seval, reduceCtorEq, h1, h4, strRow_length, h3, h7, h8, h9, h10, hβ]) <;> clear hβ))
      all_goals first
        | exact hr i h2 (by rw [hok]; simp_all) _ rfl
        | (refine i_lk (W_round ?_)
           (try simp (disch := omega) only [go_sem, seval, reduceCtorEq])
           exact ih (i + 1) (by omega) (lt_step ht (by rw [hok]; simp_all)))

theorem l_fasc (l : List ByteArray) (b : Bool) (hl : Sh l) (K : Ex → St → Prop) (hx : (∀ j, j < l.length → okAt l j = true) → K (.exit 0) ⟨[(0, .p (.slice b (strRow l)))], [], 0, [0]⟩)
    (hr : ∀ i, i < l.length → okAt l i = false → ∀ s', aget s'.env 2 = some (.p (.bool false)) → K .ret s') : ∀ (m i : Nat), i + m = l.length → (∀ j, j < i → okAt l j = true) →
    W tb a55_l0 ⟨[(0, .p (.slice b (strRow l))), (5, .p (.slice b (strRow l))), (6, .p (.int .i64 l.length)), (7, .p (.int .i64 i))], [], 0, [0]⟩ (LK tb (.ghost .lower a55_l0) K) := by
  intro m
  induction m with
  | zero =>
    intro i hi ht
    have h1 : ¬ (i : Int) < l.length := by omega
    refine i_code (by unfold a55_l0; exact rfl) ?_
    repeat' (first | (simp (disch := omega) only [go_sem, seval, reduceCtorEq, h1, strRow_length]) | with_reducible exact Ev.mk | ((first | apply x_split | apply x_splitg) <;> intro hβ hb <;> (simp (disch := omega) only [go_sem, seval, reduceCtorEq, h1, strRow_length, hβ]) <;> clear hβ))
    exact hx (fun j hj => ht j (by omega))
  | succ m ih =>
    intro i hi ht
    have h1 : (i : Int) < l.length := by omega
    have h2 : i < l.length := by omega
    have h4 : (0 : Int) ≤ i := by omega
    have h3 := strRow_get l i h2
    have hs := hl.size h2
    have h5 : 0 < i → (strRow l)[i - 1]? = some [.str (l.getD (i - 1) E)] := fun h => by rw [strRow_get l (i - 1) (by omega), getD_get l (i - 1) (by omega)]
    have hlen := hl.1
    have hok : okAt l i = (vkey l[i] && (decide (i = 0) || slt (l.getD (i - 1) E) l[i])) := by simp only [okAt]; rw [getD_get l i h2]
    have h6 : 0 < i → ((i : Int) - 1) = ((i - 1 : Nat) : Int) := fun h => by omega
    by_cases h0 : i = 0
    · have h7 : ¬ (0 : Int) < i := by omega
      refine i_code (by unfold a55_l0; exact rfl) ?_
      repeat' (first | exact ps_kvalid _ | (simp (disch := omega) only [go_sem, seval, reduceCtorEq, h1, h4, strRow_length, h3, h7]) | with_reducible exact Ev.mk | apply x_call | ((first | apply x_split | apply x_splitg) <;> intro hβ hb <;> (simp (disch := omega) only [go_sem, seval, reduceCtorEq, h1, h4, strRow_length, h3, h7, hβ]) <;> clear hβ))
      all_goals first
        | exact hr i h2 (by rw [hok]; simp_all) _ rfl
        | (refine i_lk (W_round ?_)
           (try simp (disch := omega) only [go_sem, seval, reduceCtorEq])
           exact ih (i + 1) (by omega) (lt_step ht (by rw [hok]; simp_all)))
    · have h7 : (0 : Int) < i := by omega
      have h8 := h5 (by omega)
      have h9 := h6 (by omega)
      have h10 : (0 : Int) ≤ ((i - 1 : Nat) : Int) := by omega
      refine i_code (by unfold a55_l0; exact rfl) ?_
      repeat' (first | exact ps_kvalid _ | (simp (disch := omega) only [go_sem, seval, reduceCtorEq, h1, h4, strRow_length, h3, h7, h8, h9, h10]) | with_reducible exact Ev.mk | apply x_call | ((first | apply x_split | apply x_splitg) <;> intro hβ hb <;> (simp (disch := omega) only [go_sem, seval, reduceCtorEq, h1, h4, strRow_length, h3, h7, h8, h9, h10, hβ]) <;> clear hβ))
      all_goals first
        | exact hr i h2 (by rw [hok]; simp_all) _ rfl
        | (refine i_lk (W_round ?_)
           (try simp (disch := omega) only [go_sem, seval, reduceCtorEq])
           exact ih (i + 1) (by omega) (lt_step ht (by rw [hok]; simp_all)))

theorem ps_r4asc (l : List ByteArray) (b : Bool) (hl : Sh l) : PS tb 63 [.slice b (strRow l)] (.bool (ascB l)) := by
  refine PS_of (af := a63) rfl rfl ?_
  unfold a63
  dsimp only [List.map, ofPV, initEnv]
  repeat' (first | (simp (disch := omega) only [go_sem, seval, reduceCtorEq, strRow_length]) | with_reducible exact Ev.mk | ((first | apply x_split | apply x_splitg) <;> intro hβ hb <;> (simp (disch := omega) only [go_sem, seval, reduceCtorEq, strRow_length, hβ]) <;> clear hβ))
  refine W_round ?_
  (try simp (disch := omega) only [go_sem, seval, reduceCtorEq])
  refine l_r4asc l b hl _ ?_ ?_ l.length 0 (by omega) (by simp)
  · intro ha
    (try simp (disch := omega) only [go_sem, seval, reduceCtorEq])
    simp [ascB_of ha, pur, dep]
  · intro i hi hq s' hs'
    (try simp (disch := omega) only [go_sem, seval, reduceCtorEq, hs'])
    simp [ascB_no hi hq, pur, dep]

theorem ps_fasc (l : List ByteArray) (b : Bool) (hl : Sh l) : PS tb 55 [.slice b (strRow l)] (.bool (ascB l && decide (l.length ≤ 64))) := by
  refine PS_of (af := a55) rfl rfl ?_
  unfold a55
  dsimp only [List.map, ofPV, initEnv]
  repeat' (first | (simp (disch := omega) only [go_sem, seval, reduceCtorEq, strRow_length]) | with_reducible exact Ev.mk | ((first | apply x_split | apply x_splitg) <;> intro hβ hb <;> (simp (disch := omega) only [go_sem, seval, reduceCtorEq, strRow_length, hβ]) <;> clear hβ))
  refine W_round ?_
  (try simp (disch := omega) only [go_sem, seval, reduceCtorEq])
  refine l_fasc l b hl _ ?_ ?_ l.length 0 (by omega) (by simp)
  · intro ha
    (try simp (disch := omega) only [go_sem, seval, reduceCtorEq, strRow_length])
    have h2 : decide ((l.length : Int) ≤ 64) = decide (l.length ≤ 64) := decide_eq_decide.2 (by omega)
    simp only [ascB_of ha, pur, dep, h2, Bool.true_and]
  · intro i hi hq s' hs'
    (try simp (disch := omega) only [go_sem, seval, reduceCtorEq, hs'])
    simp [ascB_no hi hq, pur, dep]

/-! ### keys of a list -/

/-! ### equal lists -/


/-! ## F3 -/

/-- A footprint; 'br', 'bw': are the lists without room? -/
structure Ft where
  all : Bool
  br : Bool
  r : List ByteArray
  bw : Bool
  w : List ByteArray

def ftC (f : Ft) : List PV := [.bool f.all, .slice f.br (strRow f.r), .slice f.bw (strRow f.w)]

def ShF (f : Ft) : Prop := Sh f.r ∧ Sh f.w

def validF (f : Ft) : Bool := if f.all then decide (f.r.length = 0) && decide (f.w.length = 0) else (ascB f.r && decide (f.r.length ≤ 64)) && (ascB f.w && decide (f.w.length ≤ 64))

theorem ps_fvalid (f : Ft) (h : ShF f) : PS tb 33 [.agg (ftC f)] (.bool (validF f)) := by
  refine PS_of (af := a33) rfl rfl ?_
  unfold a33
  dsimp only [List.map, ofPV, ftC, initEnv]
  have h1 := h.1.1
  have h2 := h.2.1
  cases hf : f.all with
  | true =>
    repeat' (first | (simp (disch := omega) only [go_sem, seval, reduceCtorEq, strRow_length]) | with_reducible exact Ev.mk | ((first | apply x_split | apply x_splitg) <;> intro hβ hb <;> (simp (disch := omega) only [go_sem, seval, reduceCtorEq, strRow_length, hβ]) <;> clear hβ))
    all_goals simp only [pur, dep, Option.some.injEq, PV.bool.injEq, validF, hf, if_true]
    · rw [decide_eq_true (by omega : f.r.length = 0), Bool.true_and]; exact decide_eq_decide.2 (by omega)
    · rw [decide_eq_false (by omega : ¬ f.r.length = 0), Bool.false_and]
  | false =>
    repeat' (first | exact ps_fasc f.r f.br h.1 | exact ps_fasc f.w f.bw h.2 | (simp (disch := omega) only [go_sem, seval, reduceCtorEq, strRow_length]) | with_reducible exact Ev.mk | apply x_call | ((first | apply x_split | apply x_splitg) <;> intro hβ hb <;> (simp (disch := omega) only [go_sem, seval, reduceCtorEq, strRow_length, hβ]) <;> clear hβ))
    all_goals simp only [pur, dep, Option.some.injEq, PV.bool.injEq, validF, hf, Bool.false_eq_true, if_false, hb, Bool.true_and, Bool.false_and]

theorem ps_rvalid (f : Ft) (h : ShF f) : PS tb 38 [.agg (ftC f)] (.bool (validF f)) := by
  refine PS_of (af := a38) rfl rfl ?_
  unfold a38
  dsimp only [List.map, ofPV, ftC, initEnv]
  have h1 := h.1.1
  have h2 := h.2.1
  cases hf : f.all with
  | true =>
    repeat' (first | (simp (disch := omega) only [go_sem, seval, reduceCtorEq, strRow_length]) | with_reducible exact Ev.mk | ((first | apply x_split | apply x_splitg) <;> intro hβ hb <;> (simp (disch := omega) only [go_sem, seval, reduceCtorEq, strRow_length, hβ]) <;> clear hβ))
    all_goals simp only [pur, dep, Option.some.injEq, PV.bool.injEq, validF, hf, if_true]
    · rw [decide_eq_true (by omega : f.r.length = 0), Bool.true_and]; exact decide_eq_decide.2 (by omega)
    · rw [decide_eq_false (by omega : ¬ f.r.length = 0), Bool.false_and]
  | false =>
    have e1 : decide ((f.r.length : Int) ≤ 64) = decide (f.r.length ≤ 64) := decide_eq_decide.2 (by omega)
    have e2 : decide ((f.w.length : Int) ≤ 64) = decide (f.w.length ≤ 64) := decide_eq_decide.2 (by omega)
    simp only [validF, hf, Bool.false_eq_true, if_false]
    generalize ha : decide (f.r.length ≤ 64) = A at e1 ⊢
    generalize hc : decide (f.w.length ≤ 64) = C at e2 ⊢
    cases A <;> cases C <;> (repeat' (first | exact ps_r4asc f.r f.br h.1 | exact ps_r4asc f.w f.bw h.2 | (simp (disch := omega) only [go_sem, seval, reduceCtorEq, strRow_length, e1, e2]) | with_reducible exact Ev.mk | apply x_call | ((first | apply x_split | apply x_splitg) <;> intro hβ hb <;> (simp (disch := omega) only [go_sem, seval, reduceCtorEq, strRow_length, e1, e2, hβ]) <;> clear hβ)))
    all_goals simp_all [pur, dep]

/-- Equal footprints. -/
def sameF (f g : Ft) : Bool := (f.all == g.all) && (decide (f.r = g.r) && decide (f.w = g.w))

/-! ### small ones -/

def shortB (s : ByteArray) : Bool := decide (s.size ≤ 100)

theorem l_fewr (f : Ft) (hl : f.r.length ≤ 1000) (K : Ex → St → Prop) (hx : (∀ j, j < f.r.length → (fun j => shortB (f.r.getD j E)) j = true) → K (.exit 0) ⟨[(2, .ptr 0 0)], [(0, .var false [.p (.bool f.all), .p (.slice f.br (strRow f.r)), .p (.slice f.bw (strRow f.w))])], 1, [0]⟩)
    (hr : ∀ i, i < f.r.length → (fun j => shortB (f.r.getD j E)) i = false → ∀ s', aget s'.env 4 = some (.p (.bool false)) → K .ret s') : ∀ (m i : Nat), i + m = f.r.length → (∀ j, j < i → (fun j => shortB (f.r.getD j E)) j = true) →
    W tb a12_l1 ⟨[(2, .ptr 0 0), (5, .p (.int .i64 i))], [(0, .var false [.p (.bool f.all), .p (.slice f.br (strRow f.r)), .p (.slice f.bw (strRow f.w))])], 1, [0]⟩ (LK tb (.ghost .lower a12_l1) K) := by
  intro m
  induction m with
  | zero =>
    intro i hi ht
    have h1 : ¬ (i : Int) < f.r.length := by omega
    refine i_code (by unfold a12_l1; exact rfl) ?_
    repeat' (first | (simp (disch := omega) only [go_sem, seval, reduceCtorEq, h1, strRow_length]) | with_reducible exact Ev.mk | ((first | apply x_split | apply x_splitg) <;> intro hβ hb <;> (simp (disch := omega) only [go_sem, seval, reduceCtorEq, h1, strRow_length, hβ]) <;> clear hβ))
    exact hx (fun j hj => ht j (by omega))
  | succ m ih =>
    intro i hi ht
    have h1 : (i : Int) < f.r.length := by omega
    have h2 : i < f.r.length := by omega
    have h4 : (0 : Int) ≤ i := by omega
    have h3 := strRow_get f.r i h2
    have hq : shortB (f.r.getD i E) = shortB f.r[i] := by rw [getD_get f.r i h2]
    refine i_code (by unfold a12_l1; exact rfl) ?_
    repeat' (first | (simp (disch := omega) only [go_sem, seval, reduceCtorEq, h1, h4, strRow_length, h3]) | with_reducible exact Ev.mk | ((first | apply x_split | apply x_splitg) <;> intro hβ hb <;> (simp (disch := omega) only [go_sem, seval, reduceCtorEq, h1, h4, strRow_length, h3, hβ]) <;> clear hβ))
    all_goals first
      | (exfalso; omega)
      | exact hr i h2 (by (try dsimp only); rw [hq]; exact decide_eq_false (by omega)) _ rfl
      | (refine i_lk (W_round ?_)
         (try simp (disch := omega) only [go_sem, seval, reduceCtorEq, strRow_length])
         exact ih (i + 1) (by omega) (lt_step ht (by (try dsimp only); rw [hq]; exact decide_eq_true (by omega))))

theorem l_feww (f : Ft) (hl : f.w.length ≤ 1000) (K : Ex → St → Prop) (hx : (∀ j, j < f.w.length → (fun j => shortB (f.w.getD j E)) j = true) → K (.exit 2) ⟨[], [], 0, [0]⟩)
    (hr : ∀ i, i < f.w.length → (fun j => shortB (f.w.getD j E)) i = false → ∀ s', aget s'.env 4 = some (.p (.bool false)) → K .ret s') : ∀ (m i : Nat), i + m = f.w.length → (∀ j, j < i → (fun j => shortB (f.w.getD j E)) j = true) →
    W tb a12_l0 ⟨[(2, .ptr 0 0), (6, .p (.int .i64 i))], [(0, .var false [.p (.bool f.all), .p (.slice f.br (strRow f.r)), .p (.slice f.bw (strRow f.w))])], 1, [0]⟩ (LK tb (.ghost .lower a12_l0) K) := by
  intro m
  induction m with
  | zero =>
    intro i hi ht
    have h1 : ¬ (i : Int) < f.w.length := by omega
    refine i_code (by unfold a12_l0; exact rfl) ?_
    repeat' (first | (simp (disch := omega) only [go_sem, seval, reduceCtorEq, h1, strRow_length]) | with_reducible exact Ev.mk | ((first | apply x_split | apply x_splitg) <;> intro hβ hb <;> (simp (disch := omega) only [go_sem, seval, reduceCtorEq, h1, strRow_length, hβ]) <;> clear hβ))
    exact hx (fun j hj => ht j (by omega))
  | succ m ih =>
    intro i hi ht
    have h1 : (i : Int) < f.w.length := by omega
    have h2 : i < f.w.length := by omega
    have h4 : (0 : Int) ≤ i := by omega
    have h3 := strRow_get f.w i h2
    have hq : shortB (f.w.getD i E) = shortB f.w[i] := by rw [getD_get f.w i h2]
    refine i_code (by unfold a12_l0; exact rfl) ?_
    repeat' (first | (simp (disch := omega) only [go_sem, seval, reduceCtorEq, h1, h4, strRow_length, h3]) | with_reducible exact Ev.mk | ((first | apply x_split | apply x_splitg) <;> intro hβ hb <;> (simp (disch := omega) only [go_sem, seval, reduceCtorEq, h1, h4, strRow_length, h3, hβ]) <;> clear hβ))
    all_goals first
      | (exfalso; omega)
      | exact hr i h2 (by (try dsimp only); rw [hq]; exact decide_eq_false (by omega)) _ rfl
      | (refine i_lk (W_round ?_)
         (try simp (disch := omega) only [go_sem, seval, reduceCtorEq, strRow_length])
         exact ih (i + 1) (by omega) (lt_step ht (by (try dsimp only); rw [hq]; exact decide_eq_true (by omega))))

def fewF (n : Nat) (f : Ft) : Bool := decide (f.r.length ≤ n) && decide (f.w.length ≤ n) && f.r.all shortB && f.w.all shortB

theorem fewF_sh {n : Nat} {f : Ft} (h : fewF n f = true) (hn : n ≤ 1000) : ShF f := by
  simp only [fewF, Bool.and_eq_true, decide_eq_true_eq, List.all_eq_true, shortB] at h
  exact ⟨⟨by omega, h.1.2⟩, ⟨by omega, h.2⟩⟩

theorem ps_few (f : Ft) (n : Nat) (hn : n ≤ 1000) : PS tb 12 [.agg (ftC f), .int .i64 n] (.bool (fewF n f)) := by
  refine PS_of (af := a12) rfl rfl ?_
  unfold a12
  dsimp only [List.map, ofPV, ftC, initEnv]
  by_cases hr : f.r.length ≤ n
  · have hr' : ¬ (n : Int) < f.r.length := by omega
    by_cases hw : f.w.length ≤ n
    · have hw' : ¬ (n : Int) < f.w.length := by omega
      repeat' (first | (simp (disch := omega) only [go_sem, seval, reduceCtorEq, strRow_length, hr', hw']) | with_reducible exact Ev.mk | ((first | apply x_split | apply x_splitg) <;> intro hβ hb <;> (simp (disch := omega) only [go_sem, seval, reduceCtorEq, strRow_length, hr', hw', hβ]) <;> clear hβ))
      refine W_round ?_
      (try simp (disch := omega) only [go_sem, seval, reduceCtorEq])
      refine l_fewr f (by omega) _ ?_ ?_ f.r.length 0 (by omega) (by simp)
      · intro ha
        have ha' : f.r.all shortB = true := List.all_eq_true.2 ((all_getD f.r shortB).1 ha)
        (try simp (disch := omega) only [go_sem, seval, reduceCtorEq])
        refine W_round ?_
        (try simp (disch := omega) only [go_sem, seval, reduceCtorEq])
        refine l_feww f (by omega) _ ?_ ?_ f.w.length 0 (by omega) (by simp)
        · intro hb
          have hb' : f.w.all shortB = true := List.all_eq_true.2 ((all_getD f.w shortB).1 hb)
          (try simp (disch := omega) only [go_sem, seval, reduceCtorEq])
          simp only [fewF, ha', hb', hr, hw, pur, dep, decide_true, Bool.and_true]
        · intro i hi hq s' hs'
          (try simp (disch := omega) only [go_sem, seval, reduceCtorEq, hs'])
          dsimp only at hq
          rw [getD_get f.w i hi] at hq
          have : f.w.all shortB = false := all_no _ shortB i hi hq
          simp only [fewF, this, Bool.and_false, pur, dep]
      · intro i hi hq s' hs'
        (try simp (disch := omega) only [go_sem, seval, reduceCtorEq, hs'])
        dsimp only at hq
        rw [getD_get f.r i hi] at hq
        have : f.r.all shortB = false := all_no _ shortB i hi hq
        simp only [fewF, this, Bool.and_false, Bool.false_and, pur, dep]
    · have hw' : (n : Int) < f.w.length := by omega
      repeat' (first | (simp (disch := omega) only [go_sem, seval, reduceCtorEq, strRow_length, hr', hw']) | with_reducible exact Ev.mk | ((first | apply x_split | apply x_splitg) <;> intro hβ hb <;> (simp (disch := omega) only [go_sem, seval, reduceCtorEq, strRow_length, hr', hw', hβ]) <;> clear hβ))
      simp [fewF, hw, pur, dep]
  · have hr' : (n : Int) < f.r.length := by omega
    repeat' (first | (simp (disch := omega) only [go_sem, seval, reduceCtorEq, strRow_length, hr']) | with_reducible exact Ev.mk | ((first | apply x_split | apply x_splitg) <;> intro hβ hb <;> (simp (disch := omega) only [go_sem, seval, reduceCtorEq, strRow_length, hr', hβ]) <;> clear hβ))
    simp [fewF, hr, pur, dep]

def ftRow (l : List Ft) : List (List PV) := l.map ftC
theorem ftRow_length (l : List Ft) : (ftRow l).length = l.length := by simp [ftRow]
theorem ftRow_get (l : List Ft) (i : Nat) (h : i < l.length) : (ftRow l)[i]? = some (ftC l[i]) := by simp [ftRow, h]
abbrev F0 : Ft := ⟨false, true, [], true, []⟩
theorem getF_get (l : List Ft) (i : Nat) (h : i < l.length) : l.getD i F0 = l[i] := by simp [List.getD_eq_getElem?_getD, h]


/-! ## F4 -/

theorem strRow_app (a b : List ByteArray) : strRow a ++ strRow b = strRow (a ++ b) := (strRow_append a b).symm
theorem strRow_one (x : ByteArray) : [[PV.str x]] = strRow [x] := rfl
/-- A pure call's answer, one of several forms, by a walk of the body. -/
theorem PS_ex {T : Tab} {f : FuncId} {af : AFunc} (hA : T.A f = some af) {args : List PV} {ι : Type} {r : ι → PV} (hl : args.length = af.nparams)
    (h : W T af.body { env := initEnv 0 (args.map ofPV), heap := [], next := 0, marks := [0] } (Done af.results fun v s => ∃ i, pur s.heap dep v = some (r i))) : ∃ i, PS T f args (r i) := by
  obtain ⟨e, s', h1, hd⟩ := W_sound _ _ _ h
  unfold Done at hd
  obtain ⟨he, v, hv, i, hp⟩ := hd
  obtain ⟨n, hn⟩ := h1.at
  refine ⟨i, n + 1, ?_⟩
  rw [cfs]
  simp only [hA]
  have hx := dcode_le (CallF.le.refl (cfs T.A T.X n)) (Nat.le_succ n) _ _ _ (hn n (Nat.le_refl _))
  unfold prun drun
  rw [if_pos (by simpa using hl), hx]
  rcases he with rfl | rfl <;> simp only [hv, hp]

theorem maxB (n : Nat) (h : n ≤ 140737488355328) : (n ≤ maxBytes) = True := by simp [maxBytes, h]
theorem takeApp {α : Type} (a b : List α) : (a ++ b).take (a.length + b.length) = a ++ b := List.take_of_length_le (by simp)
theorem takeAll {α : Type} (a : List α) : a.take a.length = a := List.take_of_length_le (by simp)
theorem dropAll {α : Type} (a : List α) : a.drop a.length = [] := by simp
theorem toNat_sub' (n : Nat) : ((n : Int)).toNat = n := by simp

/-! ### insertion -/

/-- How many at the head are ahead of k. -/
def pos (k : ByteArray) : List ByteArray → Nat
  | [] => 0
  | x :: r => if slt x k then pos k r + 1 else 0

theorem pos_le (k : ByteArray) : ∀ l, pos k l ≤ l.length
  | [] => Nat.le_refl _
  | x :: r => by
    unfold pos
    split
    · simp only [List.length_cons]; have := pos_le k r; omega
    · exact Nat.zero_le _

theorem pos_lt (k : ByteArray) : ∀ (l : List ByteArray) (i : Nat), i < pos k l → slt (l.getD i E) k = true
  | [], i, h => by simp [pos] at h
  | x :: r, i, h => by
    unfold pos at h
    split at h
    · rename_i hx
      cases i with
      | zero => simpa using hx
      | succ i => simpa using pos_lt k r i (by omega)
    · omega

theorem pos_at (k : ByteArray) : ∀ (l : List ByteArray), pos k l < l.length → slt (l.getD (pos k l) E) k = false
  | [], h => by simp at h
  | x :: r, h => by
    unfold pos at h ⊢
    split
    · rename_i hx
      rw [if_pos hx] at h
      simp only [List.length_cons] at h
      simpa using pos_at k r (by omega)
    · rename_i hx
      simpa using hx

/-- k put into an ascending list. -/
def ins (k : ByteArray) (l : List ByteArray) : List ByteArray := if pos k l < l.length ∧ l.getD (pos k l) E = k then l else l.take (pos k l) ++ [k] ++ l.drop (pos k l)

theorem mem_ins {k x : ByteArray} {l : List ByteArray} : x ∈ ins k l ↔ x = k ∨ x ∈ l := by
  unfold ins
  split
  · rename_i h
    have hk : k ∈ l := by
      have := h.2
      rw [getD_get l _ h.1] at this
      rw [← this]; exact List.getElem_mem h.1
    constructor
    · exact .inr
    · rintro (rfl | h')
      · exact hk
      · exact h'
  · constructor
    · intro h
      simp only [List.mem_append, List.mem_singleton] at h
      rcases h with (h | h) | h
      · exact .inr (List.mem_of_mem_take h)
      · exact .inl h
      · exact .inr (List.mem_of_mem_drop h)
    · rintro (rfl | h)
      · simp
      · rw [← List.take_append_drop (pos k l) l] at h
        simp only [List.mem_append, List.mem_singleton]
        rcases List.mem_append.1 h with h | h
        · exact .inl (.inl h)
        · exact .inr h

theorem ins_length (k : ByteArray) (l : List ByteArray) : (ins k l).length ≤ l.length + 1 := by
  unfold ins
  split
  · omega
  · have := pos_le k l
    simp; omega

theorem strict_ins {k : ByteArray} {l : List ByteArray} (h : Strict l) : Strict (ins k l) := by
  unfold ins
  split
  · exact h
  · rename_i hn
    have hle := pos_le k l
    have h0 := h
    unfold Strict at h0 ⊢
    rw [List.append_assoc, List.pairwise_append]
    refine ⟨h0.sublist (List.take_sublist _ _), ?_, ?_⟩
    · rw [List.singleton_append, List.pairwise_cons]
      refine ⟨fun y hy => ?_, h0.sublist (List.drop_sublist _ _)⟩
      obtain ⟨i, hi, rfl⟩ := List.mem_iff_getElem.1 hy
      simp only [List.length_drop] at hi
      have hp : pos k l < l.length := by omega
      have h1 := pos_at k l hp
      rw [getD_get l _ hp] at h1
      have h2 : l[pos k l] ≠ k := fun e => hn ⟨hp, by rw [getD_get l _ hp]; exact e⟩
      have h3 : slt k l[pos k l] = true := by
        cases h4 : slt k l[pos k l] with
        | true => rfl
        | false => exact absurd (slt_tri h1 h4) h2
      rw [List.getElem_drop]
      rcases Nat.eq_zero_or_pos i with rfl | hi0
      · simpa using h3
      · exact slt_trans h3 ((List.pairwise_iff_getElem.1 h0) _ _ hp (by omega) (by omega))
    · intro x hx y hy
      obtain ⟨i, hi, rfl⟩ := List.mem_iff_getElem.1 hx
      simp only [List.length_take] at hi
      have hil : i < l.length := by omega
      have h1 := pos_lt k l i (by omega)
      rw [getD_get l i hil] at h1
      rw [List.getElem_take]
      rw [List.singleton_append] at hy
      rcases List.mem_cons.1 hy with rfl | hy
      · exact h1
      · obtain ⟨j, hj, rfl⟩ := List.mem_iff_getElem.1 hy
        simp only [List.length_drop] at hj
        rw [List.getElem_drop]
        exact (List.pairwise_iff_getElem.1 h0) _ _ hil (by omega) (by omega)

theorem l_ins (l : List ByteArray) (k : ByteArray) (b : Bool) (hl : l.length ≤ 1000) (K : Ex → St → Prop) (hx : K (.exit 0) ⟨[(0, .p (.slice b (strRow l))), (1, .p (.str k)), (5, .p (.int .i64 (pos k l)))], [], 0, [0]⟩) : ∀ (m i : Nat), i + m = pos k l →
    W tb a75_l0 ⟨[(0, .p (.slice b (strRow l))), (1, .p (.str k)), (5, .p (.int .i64 i))], [], 0, [0]⟩ (LK tb (.ghost .lower a75_l0) K) := by
  have hle := pos_le k l
  intro m
  induction m with
  | zero =>
    intro i hi
    obtain rfl : i = pos k l := by omega
    by_cases h1 : pos k l < l.length
    · have h2 : ((pos k l : Nat) : Int) < l.length := by omega
      have h3 := strRow_get l _ h1
      have h4 : (0 : Int) ≤ ((pos k l : Nat) : Int) := by omega
      have h5 := pos_at k l h1
      rw [getD_get l _ h1] at h5
      refine i_code (by unfold a75_l0; exact rfl) ?_
      repeat' (first | (simp (disch := omega) only [go_sem, seval, reduceCtorEq, h2, h3, h4, h5, strRow_length]) | with_reducible exact Ev.mk | ((first | apply x_split | apply x_splitg) <;> intro hβ hb <;> (simp (disch := omega) only [go_sem, seval, reduceCtorEq, h2, h3, h4, h5, strRow_length, hβ]) <;> clear hβ))
      exact hx
    · have h2 : ¬ ((pos k l : Nat) : Int) < l.length := by omega
      refine i_code (by unfold a75_l0; exact rfl) ?_
      repeat' (first | (simp (disch := omega) only [go_sem, seval, reduceCtorEq, h2, strRow_length]) | with_reducible exact Ev.mk | ((first | apply x_split | apply x_splitg) <;> intro hβ hb <;> (simp (disch := omega) only [go_sem, seval, reduceCtorEq, h2, strRow_length, hβ]) <;> clear hβ))
      exact hx
  | succ m ih =>
    intro i hi
    have h1 : i < l.length := by omega
    have h2 : (i : Int) < l.length := by omega
    have h3 := strRow_get l _ h1
    have h4 : (0 : Int) ≤ i := by omega
    have h5 := pos_lt k l i (by omega)
    rw [getD_get l _ h1] at h5
    refine i_code (by unfold a75_l0; exact rfl) ?_
    repeat' (first | (simp (disch := omega) only [go_sem, seval, reduceCtorEq, h2, h3, h4, h5, strRow_length]) | with_reducible exact Ev.mk | ((first | apply x_split | apply x_splitg) <;> intro hβ hb <;> (simp (disch := omega) only [go_sem, seval, reduceCtorEq, h2, h3, h4, h5, strRow_length, hβ]) <;> clear hβ))
    refine i_lk (W_round ?_)
    (try simp (disch := omega) only [go_sem, seval, reduceCtorEq])
    exact ih (i + 1) (by omega)

theorem ps_ins (l : List ByteArray) (k : ByteArray) (b : Bool) (hl : l.length ≤ 1000) : ∃ b', PS tb 75 [.slice b (strRow l), .str k] (.slice b' (strRow (ins k l))) := by
  have hle := pos_le k l
  by_cases h : pos k l < l.length ∧ l.getD (pos k l) E = k
  · refine ⟨b, ?_⟩
    refine PS_of (af := a75) rfl rfl ?_
    unfold a75
    dsimp only [List.map, ofPV, initEnv]
    (try simp (disch := omega) only [go_sem, seval, reduceCtorEq])
    refine W_round ?_
    (try simp (disch := omega) only [go_sem, seval, reduceCtorEq])
    refine l_ins l k b hl _ ?_ (pos k l) 0 (by omega)
    have h2 : ((pos k l : Nat) : Int) < l.length := by omega
    have h3 := strRow_get l _ h.1
    have h4 : (0 : Int) ≤ ((pos k l : Nat) : Int) := by omega
    have h5 := h.2
    rw [getD_get l _ h.1] at h5
    (try simp (disch := omega) only [go_sem, seval, reduceCtorEq, h2, h3, h4, h5, strRow_length])
    rw [ins, if_pos h]
  · refine ⟨false, ?_⟩
    refine PS_of (af := a75) rfl rfl ?_
    unfold a75
    dsimp only [List.map, ofPV, initEnv]
    (try simp (disch := omega) only [go_sem, seval, reduceCtorEq])
    refine W_round ?_
    (try simp (disch := omega) only [go_sem, seval, reduceCtorEq])
    refine l_ins l k b hl _ ?_ (pos k l) 0 (by omega)
    have h4 : (0 : Int) ≤ ((pos k l : Nat) : Int) := by omega
    have h6 : ((pos k l : Nat) : Int) ≤ l.length := by omega
    have h7 : (l.take (pos k l)).length = pos k l := by simp; omega
    have h8 : (l.drop (pos k l)).length ≤ 1000 := by simp; omega
    have h9 : l.take l.length = l := List.take_of_length_le (Nat.le_refl _)
    rw [ins, if_neg h]
    by_cases h1 : pos k l < l.length
    · have h2 : ((pos k l : Nat) : Int) < l.length := by omega
      have h3 := strRow_get l _ h1
      have h5 : ¬ l[pos k l] = k := fun e => h ⟨h1, by rw [getD_get l _ h1]; exact e⟩
      (try simp (disch := omega) only [go_sem, seval, reduceCtorEq, h2, h3, h4, h5, h6, allSz_strRow, strRow_length, strRow_take, strRow_drop, strRow_app, strRow_one, strRow_nil, maxB, List.length_append, takeApp, takeAll, h9])
      rw [List.take_of_length_le (by simp only [List.length_append, List.length_cons, List.length_nil]; omega)]
    · have h2 : ¬ ((pos k l : Nat) : Int) < l.length := by omega
      (try simp (disch := omega) only [go_sem, seval, reduceCtorEq, h2, h4, h6, allSz_strRow, strRow_length, strRow_take, strRow_drop, strRow_app, strRow_one, strRow_nil, maxB, List.length_append, takeApp, takeAll, h9])
      rw [List.take_of_length_le (by simp only [List.length_append, List.length_cons, List.length_nil]; omega)]

theorem sh_ins {k : ByteArray} {l : List ByteArray} (hk : k.size ≤ 100) (h : ∀ x ∈ l, x.size ≤ 100) : ∀ x ∈ ins k l, x.size ≤ 100 := by
  intro x hx
  rcases mem_ins.1 hx with rfl | hx
  · exact hk
  · exact h x hx

/-- The strings of a list put into another one, one after the other. -/
def insAll (acc l : List ByteArray) : List ByteArray := l.foldl (fun a k => ins k a) acc

theorem insAll_length (l : List ByteArray) : ∀ acc, (insAll acc l).length ≤ acc.length + l.length := by
  induction l with
  | nil => intro acc; simp [insAll]
  | cons x r ih =>
    intro acc
    have := ih (ins x acc)
    have := ins_length x acc
    simp only [insAll, List.foldl_cons, List.length_cons] at *
    omega

theorem mem_insAll {x : ByteArray} (l : List ByteArray) : ∀ acc, x ∈ insAll acc l ↔ x ∈ acc ∨ x ∈ l := by
  induction l with
  | nil => intro acc; simp [insAll]
  | cons y r ih =>
    intro acc
    have := ih (ins y acc)
    simp only [insAll, List.foldl_cons] at this ⊢
    rw [this, mem_ins]
    simp only [List.mem_cons]
    constructor
    · rintro ((h | h) | h)
      · exact .inr (.inl h)
      · exact .inl h
      · exact .inr (.inr h)
    · rintro (h | h | h)
      · exact .inl (.inr h)
      · exact .inl (.inl h)
      · exact .inr h

theorem strict_insAll (l : List ByteArray) : ∀ {acc}, Strict acc → Strict (insAll acc l) := by
  induction l with
  | nil => intro acc h; exact h
  | cons y r ih => intro acc h; exact ih (strict_ins h)

theorem insAll_take (acc l : List ByteArray) (i : Nat) (h : i < l.length) : insAll acc (l.take (i + 1)) = ins l[i] (insAll acc (l.take i)) := by
  rw [List.take_add_one, List.getElem?_eq_getElem h]
  simp only [insAll, Option.toList_some, List.foldl_append, List.foldl_cons, List.foldl_nil]

theorem l_sorted (l : List ByteArray) (b : Bool) (hl : l.length ≤ 400) (K : Ex → St → Prop) (hx : ∀ b', K (.exit 0) ⟨[(3, .p (.slice b' (strRow (insAll [] l))))], [], 0, [0]⟩) : ∀ (m i : Nat), i + m = l.length → ∀ b',
    W tb a74_l0 ⟨[(0, .p (.slice b (strRow l))), (3, .p (.slice b' (strRow (insAll [] (l.take i))))), (4, .p (.int .i64 i))], [], 0, [0]⟩ (LK tb (.ghost .lower a74_l0) K) := by
  intro m
  induction m with
  | zero =>
    intro i hi b'
    have h1 : ¬ (i : Int) < l.length := by omega
    rw [List.take_of_length_le (by omega)]
    refine i_code (by unfold a74_l0; exact rfl) ?_
    repeat' (first | (simp (disch := omega) only [go_sem, seval, reduceCtorEq, h1, strRow_length]) | with_reducible exact Ev.mk | ((first | apply x_split | apply x_splitg) <;> intro hβ hb <;> (simp (disch := omega) only [go_sem, seval, reduceCtorEq, h1, strRow_length, hβ]) <;> clear hβ))
    exact hx _
  | succ m ih =>
    intro i hi b'
    have h1 : i < l.length := by omega
    have h2 : (i : Int) < l.length := by omega
    have h3 := strRow_get l _ h1
    have h4 : (0 : Int) ≤ i := by omega
    have h5 := insAll_length (l.take i) []
    simp only [List.length_take, List.length_nil] at h5
    obtain ⟨b2, hs⟩ := ps_ins (insAll [] (l.take i)) l[i] b' (by omega)
    rw [← insAll_take _ _ _ h1] at hs
    refine i_code (by unfold a74_l0; exact rfl) ?_
    repeat' (first | exact hs | (simp (disch := omega) only [go_sem, seval, reduceCtorEq, h2, h3, h4, strRow_length]) | with_reducible exact Ev.mk | apply x_call | ((first | apply x_split | apply x_splitg) <;> intro hβ hb <;> (simp (disch := omega) only [go_sem, seval, reduceCtorEq, h2, h3, h4, strRow_length, hβ]) <;> clear hβ))
    refine i_lk (W_round ?_)
    (try simp (disch := omega) only [go_sem, seval, reduceCtorEq])
    exact ih (i + 1) (by omega) b2

theorem ps_sorted (l : List ByteArray) (b : Bool) (hl : l.length ≤ 400) : ∃ b', PS tb 74 [.slice b (strRow l)] (.slice b' (strRow (insAll [] l))) := by
  have key : ∀ K : Ex → St → Prop, (∀ b', K (.exit 0) ⟨[(3, .p (.slice b' (strRow (insAll [] l))))], [], 0, [0]⟩) → W tb a74_l0 ⟨[(0, .p (.slice b (strRow l))), (3, .p (.slice true [])), (4, .p (.int .i64 0))], [], 0, [0]⟩ (LK tb (.ghost .lower a74_l0) K) :=
    fun K hx => l_sorted l b hl K hx l.length 0 (by omega) true
  have w : W tb a74.body { env := initEnv 0 ([PV.slice b (strRow l)].map ofPV), heap := [], next := 0, marks := [0] } (Done a74.results fun v s => ∃ b', pur s.heap dep v = some (.slice b' (strRow (insAll [] l)))) := by
    unfold a74
    dsimp only [List.map, ofPV, initEnv]
    (try simp (disch := omega) only [go_sem, seval, reduceCtorEq])
    refine W_round ?_
    (try simp (disch := omega) only [go_sem, seval, reduceCtorEq])
    refine key _ fun b' => ?_
    (try simp (disch := omega) only [go_sem, seval, reduceCtorEq])
    exact ⟨b', rfl⟩
  exact PS_ex rfl rfl w

theorem l_both (l c : List ByteArray) (b : Bool) (acc : List ByteArray) (hacc : acc.length ≤ 400) (hl : l.length ≤ 400) (K : Ex → St → Prop) (hx : ∀ b', K (.exit 0) ⟨[(5, .p (.slice b' (strRow (insAll acc l))))], [], 0, [0]⟩) : ∀ (m i : Nat), i + m = l.length → ∀ b',
    W tb a64_l0 ⟨[(1, .p (.slice b (strRow l))), (5, .p (.slice b' (strRow (insAll acc (l.take i))))), (6, .p (.int .i64 i))], [], 0, [0]⟩ (LK tb (.ghost .lower a64_l0) K) := by
  intro m
  induction m with
  | zero =>
    intro i hi b'
    have h1 : ¬ (i : Int) < l.length := by omega
    rw [List.take_of_length_le (by omega)]
    refine i_code (by unfold a64_l0; exact rfl) ?_
    repeat' (first | (simp (disch := omega) only [go_sem, seval, reduceCtorEq, h1, strRow_length]) | with_reducible exact Ev.mk | ((first | apply x_split | apply x_splitg) <;> intro hβ hb <;> (simp (disch := omega) only [go_sem, seval, reduceCtorEq, h1, strRow_length, hβ]) <;> clear hβ))
    exact hx _
  | succ m ih =>
    intro i hi b'
    have h1 : i < l.length := by omega
    have h2 : (i : Int) < l.length := by omega
    have h3 := strRow_get l _ h1
    have h4 : (0 : Int) ≤ i := by omega
    have h5 := insAll_length (l.take i) acc
    simp only [List.length_take] at h5
    obtain ⟨b2, hs⟩ := ps_ins (insAll acc (l.take i)) l[i] b' (by omega)
    rw [← insAll_take _ _ _ h1] at hs
    refine i_code (by unfold a64_l0; exact rfl) ?_
    repeat' (first | exact hs | (simp (disch := omega) only [go_sem, seval, reduceCtorEq, h2, h3, h4, strRow_length]) | with_reducible exact Ev.mk | apply x_call | ((first | apply x_split | apply x_splitg) <;> intro hβ hb <;> (simp (disch := omega) only [go_sem, seval, reduceCtorEq, h2, h3, h4, strRow_length, hβ]) <;> clear hβ))
    refine i_lk (W_round ?_)
    (try simp (disch := omega) only [go_sem, seval, reduceCtorEq])
    exact ih (i + 1) (by omega) b2

theorem ps_both (c l : List ByteArray) (d b : Bool) (hc : c.length ≤ 400) (hl : l.length ≤ 400) : ∃ b', PS tb 64 [.slice d (strRow c), .slice b (strRow l)] (.slice b' (strRow (insAll (insAll [] c) l))) := by
  obtain ⟨b1, hs⟩ := ps_sorted c d hc
  have h5 := insAll_length c []
  simp only [List.length_nil] at h5
  have w : W tb a64.body { env := initEnv 0 ([PV.slice d (strRow c), PV.slice b (strRow l)].map ofPV), heap := [], next := 0, marks := [0] } (Done a64.results fun v s => ∃ b', pur s.heap dep v = some (.slice b' (strRow (insAll (insAll [] c) l)))) := by
    unfold a64
    dsimp only [List.map, ofPV, initEnv]
    repeat' (first | exact hs | (simp (disch := omega) only [go_sem, seval, reduceCtorEq]) | with_reducible exact Ev.mk | apply x_call | ((first | apply x_split | apply x_splitg) <;> intro hβ hb <;> (simp (disch := omega) only [go_sem, seval, reduceCtorEq, hβ]) <;> clear hβ))
    refine W_round ?_
    (try simp (disch := omega) only [go_sem, seval, reduceCtorEq])
    refine l_both l c b (insAll [] c) (by omega) hl _ (fun b' => ?_) l.length 0 (by omega) b1
    (try simp (disch := omega) only [go_sem, seval, reduceCtorEq])
    exact ⟨b', rfl⟩
  exact PS_ex rfl rfl w


/-! ## F5 -/

/-! ### limited -/

def lim (b : Bool) (r : List ByteArray) (d : Bool) (w : List ByteArray) : Ft × Int := if 64 < r.length ∨ 64 < w.length then (F0, 2) else (⟨false, b, r, d, w⟩, 0)

/-! ### meet, within -/

def meetB (a b : List ByteArray) : Bool := a.any (hasB b)
def withinB (a b : List ByteArray) : Bool := a.all (hasB b)

theorem l_rmeet (l c : List ByteArray) (b d : Bool) (hl : l.length ≤ 1000) (hc : c.length ≤ 1000) (K : Ex → St → Prop) (hx : (∀ j, j < l.length → (fun j => !hasB c (l.getD j E)) j = true) → K (.exit 0) ⟨[], [], 0, [0]⟩)
    (hr : ∀ i, i < l.length → (fun j => !hasB c (l.getD j E)) i = false → ∀ s', aget s'.env 4 = some (.p (.bool true)) → K .ret s') : ∀ (m i : Nat), i + m = l.length → (∀ j, j < i → (fun j => !hasB c (l.getD j E)) j = true) →
    W tb a54_l0 ⟨[(0, .p (.slice b (strRow l))), (1, .p (.slice d (strRow c))), (5, .p (.int .i64 i))], [], 0, [0]⟩ (LK tb (.ghost .lower a54_l0) K) := by
  intro m
  induction m with
  | zero =>
    intro i hi ht
    have h1 : ¬ (i : Int) < l.length := by omega
    refine i_code (by unfold a54_l0; exact rfl) ?_
    repeat' (first | (simp (disch := omega) only [go_sem, seval, reduceCtorEq, h1, strRow_length]) | with_reducible exact Ev.mk | ((first | apply x_split | apply x_splitg) <;> intro hβ hb <;> (simp (disch := omega) only [go_sem, seval, reduceCtorEq, h1, strRow_length, hβ]) <;> clear hβ))
    exact hx (fun j hj => ht j (by omega))
  | succ m ih =>
    intro i hi ht
    have h1 : (i : Int) < l.length := by omega
    have h2 : i < l.length := by omega
    have h4 : (0 : Int) ≤ i := by omega
    have h3 := strRow_get l i h2
    have hq : hasB c (l.getD i E) = hasB c l[i] := by rw [getD_get l i h2]
    refine i_code (by unfold a54_l0; exact rfl) ?_
    repeat' (first | exact ps_has c _ d hc | (simp (disch := omega) only [go_sem, seval, reduceCtorEq, h1, h4, strRow_length, h3]) | with_reducible exact Ev.mk | apply x_call | ((first | apply x_split | apply x_splitg) <;> intro hβ hb <;> (simp (disch := omega) only [go_sem, seval, reduceCtorEq, h1, h4, strRow_length, h3, hβ]) <;> clear hβ))
    all_goals first
      | (exfalso; omega)
      | exact hr i h2 (by (try dsimp only); rw [hq]; simp [hb]) _ rfl
      | (refine i_lk (W_round ?_)
         (try simp (disch := omega) only [go_sem, seval, reduceCtorEq, strRow_length])
         exact ih (i + 1) (by omega) (lt_step ht (by (try dsimp only); rw [hq]; simp [hb])))

theorem ps_rmeet (l c : List ByteArray) (b d : Bool) (hl : l.length ≤ 1000) (hc : c.length ≤ 1000) : PS tb 54 [.slice b (strRow l), .slice d (strRow c)] (.bool (meetB l c)) := by
  refine PS_of (af := a54) rfl rfl ?_
  unfold a54
  dsimp only [List.map, ofPV, initEnv]
  repeat' (first | (simp (disch := omega) only [go_sem, seval, reduceCtorEq, strRow_length]) | with_reducible exact Ev.mk | ((first | apply x_split | apply x_splitg) <;> intro hβ hb <;> (simp (disch := omega) only [go_sem, seval, reduceCtorEq, strRow_length, hβ]) <;> clear hβ))
  refine W_round ?_
  (try simp (disch := omega) only [go_sem, seval, reduceCtorEq])
  refine l_rmeet l c b d hl hc _ ?_ ?_ l.length 0 (by omega) (by simp)
  · intro ha
    (try simp (disch := omega) only [go_sem, seval, reduceCtorEq])
    have : meetB l c = false := by
      rw [meetB, List.any_eq_false]
      intro x hx
      have := (all_getD l fun x => !hasB c x).1 ha x hx
      simpa using this
    simp only [this, pur, dep]
  · intro i hi hq s' hs'
    (try simp (disch := omega) only [go_sem, seval, reduceCtorEq, hs'])
    dsimp only at hq
    rw [getD_get l i hi] at hq
    have : meetB l c = true := by
      rw [meetB, List.any_eq_true]
      exact ⟨l[i], List.getElem_mem hi, by simpa using hq⟩
    simp only [this, pur, dep]

/-! ### ranges -/

def vrange (fr to : ByteArray) : Bool := vbound fr && vbound to && (decide (to = E) || slt fr to)
def inR (fr to k : ByteArray) : Bool := vrange fr to && !slt k fr && (decide (to = E) || slt k to)

/-! ### the functions of footprints -/

def normR (b : Bool) (d : Bool) (f : Ft) : Ft × Int := if f.r.all vkey && f.w.all vkey then (if f.all then (⟨true, true, [], true, []⟩, 0) else lim b (insAll [] f.r) d (insAll [] f.w)) else (F0, 1)
def unionR (b : Bool) (d : Bool) (f g : Ft) : Ft × Int := if validF f && validF g then (if f.all || g.all then (⟨true, true, [], true, []⟩, 0) else lim b (insAll (insAll [] f.r) g.r) d (insAll (insAll [] f.w) g.w)) else (F0, 1)
def conflB (f g : Ft) : Bool := !validF f || !validF g || f.all || g.all || meetB f.w g.w || meetB f.w g.r || meetB f.r g.w
def covB (f g : Ft) : Bool := validF f && validF g && (f.all || !g.all && (withinB g.r f.r && withinB g.w f.w))
def keysR (f : Ft) : List ByteArray := if validF f then insAll (insAll [] f.r) f.w else []
def projR (f : Ft) (fr to : ByteArray) : Ft := if validF f && !f.all then ⟨false, false, f.r.filter (inR fr to), false, f.w.filter (inR fr to)⟩ else ⟨f.all && validF f, true, [], true, []⟩

theorem ps_rconfl (f g : Ft) (h : ShF f) (k : ShF g) : PS tb 30 [.agg (ftC f), .agg (ftC g)] (.bool (conflB f g)) := by
  have v1 := ps_rvalid f h
  have v2 := ps_rvalid g k
  refine PS_of (af := a30) rfl rfl ?_
  unfold a30
  dsimp only [List.map, ofPV, ftC, initEnv] at v1 v2 ⊢
  cases h1 : validF f <;> cases h2 : validF g <;> cases h3 : f.all <;> cases h4 : g.all <;> simp only [conflB, h1, h2, h3, h4, Bool.not_true, Bool.not_false, Bool.or_true, Bool.or_false, Bool.false_or, Bool.true_or]
  all_goals (rw [h1, h3] at v1; rw [h2, h4] at v2; repeat' (first | exact v1 | exact v2 | exact ps_rmeet f.w g.w f.bw g.bw h.2.1 k.2.1 | exact ps_rmeet f.w g.r f.bw g.br h.2.1 k.1.1 | exact ps_rmeet f.r g.w f.br g.bw h.1.1 k.2.1 | (simp (disch := omega) only [go_sem, seval, reduceCtorEq, h3, h4]) | with_reducible exact Ev.mk | apply x_call | ((first | apply x_split | apply x_splitg) <;> intro hβ hb <;> (simp (disch := omega) only [go_sem, seval, reduceCtorEq, h3, h4, hβ]) <;> clear hβ)))
  all_goals simp_all [pur, dep]

theorem ps_rkeys (f : Ft) (h : ShF f) (hf : f.r.length ≤ 400 ∧ f.w.length ≤ 400) : ∃ b, PS tb 41 [.agg (ftC f)] (.slice b (strRow (keysR f))) := by
  obtain ⟨b, sb⟩ := ps_both f.r f.w f.br f.bw hf.1 hf.2
  have v1 := ps_rvalid f h
  cases h1 : validF f with
  | true =>
    refine ⟨b, PS_of (af := a41) rfl rfl ?_⟩
    unfold a41
    rw [h1] at v1
    dsimp only [List.map, ofPV, ftC, initEnv] at v1 ⊢
    simp only [keysR, h1, if_true]
    repeat' (first | exact v1 | exact sb | (simp (disch := omega) only [go_sem, seval, reduceCtorEq]) | with_reducible exact Ev.mk | apply x_call | ((first | apply x_split | apply x_splitg) <;> intro hβ hb <;> (simp (disch := omega) only [go_sem, seval, reduceCtorEq, hβ]) <;> clear hβ))
  | false =>
    refine ⟨true, PS_of (af := a41) rfl rfl ?_⟩
    unfold a41
    rw [h1] at v1
    dsimp only [List.map, ofPV, ftC, initEnv] at v1 ⊢
    simp only [keysR, h1, Bool.false_eq_true, if_false, strRow_nil]
    repeat' (first | exact v1 | (simp (disch := omega) only [go_sem, seval, reduceCtorEq]) | with_reducible exact Ev.mk | apply x_call | ((first | apply x_split | apply x_splitg) <;> intro hβ hb <;> (simp (disch := omega) only [go_sem, seval, reduceCtorEq, hβ]) <;> clear hβ))


/-! ## F6 -/

/-- A call's answer in our own memory, one of several forms, by a walk of the body. -/
theorem BS_ex {T : Tab} {f : FuncId} {af : AFunc} (hA : T.A f = some af) {args : List DV} {H : Heap} {nx : Nat} {ι : Type} {r : ι → DV} {H' : ι → Heap} {nx' : ι → Nat} {p : ι → Prop} (hl : args.length = af.nparams)
    (h : W T af.body { env := initEnv 0 args, heap := H, next := nx, marks := [nx] } (Done af.results fun v s => ∃ i, v = r i ∧ s.heap = H' i ∧ s.next = nx' i ∧ p i)) : ∃ i, BS T f args H nx (r i) (H' i) (nx' i) ∧ p i := by
  obtain ⟨e, s', h1, hd⟩ := W_sound _ _ _ h
  unfold Done at hd
  obtain ⟨he, v, hv, i, rfl, h2, h3, h4⟩ := hd
  obtain ⟨n, hn⟩ := h1.at
  refine ⟨i, ⟨n + 1, ?_⟩, h4⟩
  rw [cfs]
  simp only [hA]
  have hx := dcode_le (CallF.le.refl (cfs T.A T.X n)) (Nat.le_succ n) _ _ _ (hn n (Nat.le_refl _))
  unfold drun
  rw [if_pos hl, hx]
  rcases he with rfl | rfl <;> simp only [hv, h2, h3]

/-! ### slices.Concat -/

def llRow (l : List (Bool × List ByteArray)) : List (List PV) := l.map fun p => [.slice p.1 (strRow p.2)]
def catR (l : List (Bool × List ByteArray)) : List ByteArray := l.flatMap (·.2)

theorem llRow_length (l : List (Bool × List ByteArray)) : (llRow l).length = l.length := by simp [llRow]
theorem llRow_get (l : List (Bool × List ByteArray)) (i : Nat) (h : i < l.length) : (llRow l)[i]? = some [.slice l[i].1 (strRow l[i].2)] := by simp [llRow, h]
theorem catR_step (l : List (Bool × List ByteArray)) (i : Nat) (h : i < l.length) : catR (l.take (i + 1)) = catR (l.take i) ++ l[i].2 := by
  unfold catR
  rw [List.take_add_one, List.getElem?_eq_getElem h, List.flatMap_append]
  simp
theorem catR_le (l : List (Bool × List ByteArray)) (i : Nat) : (catR (l.take i)).length ≤ (catR l).length := by
  have h : catR l = catR (l.take i) ++ catR (l.drop i) := by
    unfold catR
    rw [← List.flatMap_append, List.take_append_drop]
  rw [h, List.length_append]; omega

/-! ### slices.Sort -/

/-! ### slices.Compact -/

/-- The first n of a list, without those that repeat the one before. -/
def dd (l : List ByteArray) : Nat → List ByteArray
  | 0 => []
  | n + 1 => dd l n ++ if n = 0 ∨ l.getD n E ≠ l.getD (n - 1) E then [l.getD n E] else []

theorem dd_len (l : List ByteArray) : ∀ n, (dd l n).length ≤ n
  | 0 => Nat.le_refl _
  | n + 1 => by
    have := dd_len l n
    unfold dd
    split <;> simp <;> omega

theorem dd_take (l : List ByteArray) : ∀ n, n ≤ l.length → (∀ j, 0 < j → j < n → l.getD j E ≠ l.getD (j - 1) E) → dd l n = l.take n
  | 0, _, _ => by simp [dd]
  | n + 1, h, hj => by
    rw [dd, dd_take l n (by omega) fun j h0 h1 => hj j h0 (by omega), if_pos, List.take_add_one, List.getElem?_eq_getElem (by omega), getD_get l n (by omega)]
    · rfl
    · rcases Nat.eq_zero_or_pos n with h0 | h0
      · exact .inl h0
      · exact .inr (hj n h0 (by omega))

theorem mem_dd {x : ByteArray} (l : List ByteArray) : ∀ n, n ≤ l.length → (x ∈ dd l n ↔ x ∈ l.take n)
  | 0, _ => by simp [dd]
  | n + 1, h => by
    have ih := mem_dd (x := x) l n (by omega)
    rw [dd, List.take_add_one, List.getElem?_eq_getElem (by omega), List.mem_append, List.mem_append, ih]
    simp only [Option.toList_some, List.mem_singleton]
    split
    · rw [List.mem_singleton, getD_get l n (by omega)]
    · rename_i hn
      simp only [not_or, Decidable.not_not, ne_eq] at hn
      rw [getD_get l n (by omega), getD_get l (n - 1) (by omega)] at hn
      constructor
      · rintro (h1 | h1)
        · exact .inl h1
        · cases h1
      · rintro (h1 | rfl)
        · exact .inl h1
        · left
          rw [hn.2]
          exact List.mem_iff_getElem.2 ⟨n - 1, by simp; omega, by rw [List.getElem_take]⟩

theorem strict_dd {l : List ByteArray} (h : Asc l) : ∀ n, n ≤ l.length → Strict (dd l n)
  | 0, _ => List.Pairwise.nil
  | n + 1, hn => by
    have ih := strict_dd h n (by omega)
    rw [dd]
    split
    · rename_i hc
      unfold Strict at ih ⊢
      rw [List.pairwise_append]
      refine ⟨ih, List.pairwise_singleton _ _, fun x hx y hy => ?_⟩
      rw [List.mem_singleton, getD_get l n (by omega)] at hy
      subst hy
      rw [mem_dd l n (by omega)] at hx
      obtain ⟨i, hi, rfl⟩ := List.mem_iff_getElem.1 hx
      simp only [List.length_take] at hi
      rw [List.getElem_take]
      rcases hc with rfl | hc
      · omega
      · rw [getD_get l n (by omega), getD_get l (n - 1) (by omega)] at hc
        unfold Asc at h
        have h1 := List.pairwise_iff_getElem.1 h
        have h2 : slt l[n] l[n - 1] = false := h1 (n - 1) n (by omega) (by omega) (by omega)
        have h3 : slt l[n - 1] l[n] = true := by
          cases h4 : slt l[n - 1] l[n] with
          | true => rfl
          | false => exact absurd (slt_tri h2 h4) hc
        rcases Nat.lt_or_ge i (n - 1) with h5 | h5
        · exact slt_of_le_of_lt (h1 i (n - 1) (by omega) (by omega) h5) h3
        · have : i = n - 1 := by omega
          subst this; exact h3
    · rw [List.append_nil]; exact ih

/-- Sorted, each once. -/
def mrg (l : List ByteArray) : List ByteArray := dd (sortStr l) l.length

theorem mem_mrg {x : ByteArray} {l : List ByteArray} : x ∈ mrg l ↔ x ∈ l := by
  unfold mrg
  rw [mem_dd _ _ (by rw [length_sortStr]; exact Nat.le_refl _), List.take_of_length_le (by rw [length_sortStr]; exact Nat.le_refl _)]
  exact (sortStr_perm l).mem_iff
theorem strict_mrg (l : List ByteArray) : Strict (mrg l) := strict_dd (sortStr_asc l) _ (by rw [length_sortStr]; exact Nat.le_refl _)
theorem mrg_len (l : List ByteArray) : (mrg l).length ≤ l.length := dd_len _ _

/-- One list alone is strictly ascending with these members. -/
theorem strict_unique : ∀ {l l' : List ByteArray}, Strict l → Strict l' → (∀ x, x ∈ l ↔ x ∈ l') → l = l' := by
  intro l l' h h' hm
  have nd : ∀ {l : List ByteArray}, Strict l → l.Nodup := fun {l} h => List.Pairwise.imp (fun {a b} h => slt_ne h) h
  have asc0 : ∀ {l : List ByteArray}, Strict l → Asc l := fun {l} h => List.Pairwise.imp (fun {a b} h => slt_asymm h) h
  exact asc_unique (asc0 h) (asc0 h') ((List.perm_ext_iff_of_nodup (nd h) (nd h')).2 hm)

theorem strRow_set (l : List ByteArray) (i : Nat) (v : ByteArray) : (strRow l).set i [.str v] = strRow (l.set i v) := by simp [strRow, List.map_set]
theorem strRow_rep (n : Nat) (v : ByteArray) : List.replicate n [PV.str v] = strRow (List.replicate n v) := by simp [strRow]

/-! ### merged -/


/-! ## F7 -/

/-! ### search -/

theorem shr_one' (n : Nat) : ((n : Int).fdiv (2 ^ min 1 64)) = ((n / 2 : Nat) : Int) := by
  have e : (2 : Int) ^ min 1 64 = 2 := rfl
  rw [e, Int.fdiv_eq_ediv_of_nonneg _ (by omega)]
  rfl

/-! ### meet, within -/

theorem valid_asc {f : Ft} (h : validF f = true) : Asc f.r ∧ Asc f.w := by
  have asc0 : ∀ {l : List ByteArray}, Strict l → Asc l := fun {l} h => List.Pairwise.imp (fun {a b} h => slt_asymm h) h
  unfold validF at h
  split at h
  · simp only [Bool.and_eq_true, decide_eq_true_eq] at h
    rw [List.eq_nil_of_length_eq_zero h.1, List.eq_nil_of_length_eq_zero h.2]
    exact ⟨List.Pairwise.nil, List.Pairwise.nil⟩
  · simp only [Bool.and_eq_true] at h
    exact ⟨asc0 (ascB_iff.1 h.1.1).2, asc0 (ascB_iff.1 h.2.1).2⟩

/-! ### Norm, Union, Keys -/

def normF (f : Ft) : Ft × Int := if f.r.all vkey && f.w.all vkey then (if f.all then (⟨true, true, [], true, []⟩, 0) else lim false (mrg f.r) false (mrg f.w)) else (F0, 1)
def unionF (f g : Ft) : Ft × Int := if validF f && validF g then (if f.all || g.all then (⟨true, true, [], true, []⟩, 0) else lim false (mrg (f.r ++ g.r)) false (mrg (f.w ++ g.w))) else (F0, 1)
def keysF (f : Ft) : List ByteArray := if validF f then mrg (f.r ++ f.w) else []


/-! ## F8 -/

/-! ### slices.IndexFunc -/

/-! ### slices.DeleteFunc, of what lies out of a range -/

end Go.Dv.Try
