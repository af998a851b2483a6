/-
  Specifications of the functions of this claim, parts 24, 25, 26, 27, 28.
-/
import Derived.Test.YtphkbgjnhfidlaaGreatTab
import Derived.Test.YtphkbgjnhfidlaaGreatStep
import Derived.Test.YtphkbgjnhfidlaaGreatS1
import Derived.Test.YtphkbgjnhfidlaaGreatS7
import Derived.Test.YtphkbgjnhfidlaaGreatS8
import Derived.Test.YtphkbgjnhfidlaaGreatS16
set_option linter.unusedVariables false
set_option linter.unusedSimpArgs false
set_option maxRecDepth 100000
set_option maxHeartbeats 16000000
namespace Go.Dv.Tryz
open Go Go.Dv

theorem ps81 (l : List (Int × ByteArray)) (b : Bool) (hl : l.length ≤ 100000) : PS tb 75 [.slice b (itemsPV l)] (.int .i64 (termN l l.length)) := by
  refine PS_of (af := a75) rfl rfl ?_
  unfold a75
  dsimp only [List.map, ofPV, initEnv]
  by_cases h : l.length = 0
  · have e2 : (((l.length : Nat) : Int) == 0) = true := by simp [h]
    have e4 : termN l l.length = 0 := by simp [termN, h]
    rw [e4]
    repeat' (first | (simp (disch := omega) only [go_sem, seval, reduceCtorEq, e2, itemsPV_length]) | with_reducible exact Ev.mk | ((first | apply x_split | apply x_splitg) <;> intro hβ hb <;> (try simp only [hβ]) <;> clear hβ))
    all_goals rfl
  · have e1 : (0 : Int) ≤ (l.length : Int) - 1 := by omega
    have e2 : (((l.length : Nat) : Int) == 0) = false := by simpa using h
    obtain ⟨s, e3⟩ := itemsPV_getT l ((l.length : Int) - 1).toNat (by omega)
    have e4 : termN l l.length = itTerm l ((l.length : Int) - 1).toNat := if_neg (by omega)
    repeat' (first | (simp (disch := omega) only [go_sem, seval, reduceCtorEq, e1, e2, e3, e4, itemsPV_length]) | with_reducible exact Ev.mk | ((first | apply x_split | apply x_splitg) <;> intro hβ hb <;> (try simp only [hβ]) <;> clear hβ))
    all_goals rfl

theorem ps82 (l : List (Int × ByteArray)) (b : Bool) (hl : l.length ≤ 100000) : PS tb 85 [.slice b (itemsPV l)] (.int .i64 (termN l l.length)) := by
  refine PS_of (af := a85) rfl rfl ?_
  unfold a85
  dsimp only [List.map, ofPV, initEnv]
  by_cases h : l.length = 0
  · have e2 : (((l.length : Nat) : Int) == 0) = true := by simp [h]
    have e4 : termN l l.length = 0 := by simp [termN, h]
    rw [e4]
    repeat' (first | (simp (disch := omega) only [go_sem, seval, reduceCtorEq, e2, itemsPV_length]) | with_reducible exact Ev.mk | ((first | apply x_split | apply x_splitg) <;> intro hβ hb <;> (try simp only [hβ]) <;> clear hβ))
    all_goals rfl
  · have e1 : (0 : Int) ≤ (l.length : Int) - 1 := by omega
    have e2 : (((l.length : Nat) : Int) == 0) = false := by simpa using h
    obtain ⟨s, e3⟩ := itemsPV_getT l ((l.length : Int) - 1).toNat (by omega)
    have e4 : termN l l.length = itTerm l ((l.length : Int) - 1).toNat := if_neg (by omega)
    repeat' (first | (simp (disch := omega) only [go_sem, seval, reduceCtorEq, e1, e2, e3, e4, itemsPV_length]) | with_reducible exact Ev.mk | ((first | apply x_split | apply x_splitg) <;> intro hβ hb <;> (try simp only [hβ]) <;> clear hβ))
    all_goals rfl

def upTo (m : M) (index term : Int) : Bool := decide (termN m.log m.log.length < term) || (decide (term = termN m.log m.log.length) && decide ((m.log.length : Int) ≤ index))

theorem ps30 (m : M) (f : Fl) (i t : Int) (hl : m.log.length ≤ 100000) : PS tb 114 [.agg (mC m f), .int .i64 i, .int .i64 t] (.bool (upTo m i t)) := by
  refine PS_of (af := a114) rfl rfl ?_
  unfold a114
  dsimp only [List.map, ofPV, initEnv]
  repeat' (first | exact ps81 m.log _ hl | (simp (disch := omega) only [go_sem, seval, reduceCtorEq, mC, itemsPV_length]) | with_reducible exact Ev.mk | apply x_call | ((first | apply x_split | apply x_splitg) <;> intro hβ hb <;> (try simp only [hβ]) <;> clear hβ))
  all_goals (simp only [pur, dep, Option.some.injEq, PV.bool.injEq, PV.int.injEq, true_and] <;> grind [upTo])

theorem ps31 (m : M) (f : Fl) (i t : Int) (hl : m.log.length ≤ 100000) : PS tb 122 [.agg (mC m f), .int .i64 i, .int .i64 t] (.bool (upTo m i t)) := by
  refine PS_of (af := a122) rfl rfl ?_
  unfold a122
  dsimp only [List.map, ofPV, initEnv]
  repeat' (first | exact ps82 m.log _ hl | (simp (disch := omega) only [go_sem, seval, reduceCtorEq, mC, itemsPV_length]) | with_reducible exact Ev.mk | apply x_call | ((first | apply x_split | apply x_splitg) <;> intro hβ hb <;> (try simp only [hβ]) <;> clear hβ))
  all_goals (simp only [pur, dep, Option.some.injEq, PV.bool.injEq, PV.int.injEq, true_and] <;> grind [upTo])

theorem ps88 (m : M) (f : Fl) (x : X) (g : Bool) (kind : Int) (hm : MIn m) : PS tb 112 [.agg (mC m f), .agg (xC x g), .int .i64 kind] (.bool (concernsX m x kind)) := by
  refine PS_of (af := a112) rfl rfl ?_
  unfold a112
  dsimp only [List.map, ofPV, initEnv]
  repeat' (first | exact ps28 m f hm | exact ps131 x g _ | (simp (disch := omega) only [go_sem, seval, reduceCtorEq, mC, xC]) | with_reducible exact Ev.mk | apply x_call | ((first | apply x_split | apply x_splitg) <;> intro hβ hb <;> (try simp only [hβ]) <;> clear hβ))
  all_goals (simp only [pur, dep, Option.some.injEq, PV.bool.injEq, PV.int.injEq, true_and] <;> grind [concernsX])

theorem ps90 (m : M) (f : Fl) (x : X) (g : Bool) (kind : Int) (hm : MIn m) (hl : x.items.length ≤ 9223372036854775807) : PS tb 121 [.agg (mC m f), .agg (xC x g), .int .i64 kind] (.bool (concernsX m x kind)) := by
  refine PS_of (af := a121) rfl rfl ?_
  unfold a121
  dsimp only [List.map, ofPV, initEnv]
  repeat' (first | exact ps29 m f hm | exact ps40 x g _ hl | (simp (disch := omega) only [go_sem, seval, reduceCtorEq, mC, xC]) | with_reducible exact Ev.mk | apply x_call | ((first | apply x_split | apply x_splitg) <;> intro hβ hb <;> (try simp only [hβ]) <;> clear hβ))
  all_goals (simp only [pur, dep, Option.some.injEq, PV.bool.injEq, PV.int.injEq, true_and] <;> grind [concernsX])

def insGo (n : Int) : List Int → Bool → List Int
  | [], d => if d then [] else [n]
  | x :: r, d => (if !d && decide (n ≤ x) then [n] else []) ++ ((if x = n then [] else [x]) ++ insGo n r (d || decide (n ≤ x)))

theorem insGo_done (n : Int) : ∀ (r : List Int), (∀ x ∈ r, x ≠ n) → insGo n r true = r
  | [], _ => rfl
  | x :: r, h => by
    have := insGo_done n r fun y hy => h y (by simp [hy])
    simp [insGo, this, h x (by simp)]

theorem insGo_app (n : Int) (b : List Int) (hb : ∀ x ∈ b, n < x) : ∀ (a : List Int), (∀ x ∈ a, x < n) → insGo n (a ++ b) false = a ++ n :: b
  | [], _ => by
    cases b with
    | nil => rfl
    | cons x r =>
      have h1 := hb x (by simp)
      have := insGo_done n r fun y hy => by have := hb y (by simp [hy]); omega
      have h2 : n ≤ x := by omega
      have h3 : ¬ x = n := by omega
      simp [insGo, this, h2, h3]
  | x :: a, h => by
    have h1 := h x (by simp)
    have ih := insGo_app n b hb a fun y hy => h y (by simp [hy])
    have h2 : ¬ n ≤ x := by omega
    have h3 : ¬ x = n := by omega
    simp [insGo, ih, h2, h3]

theorem insGo_mem (n : Int) : ∀ (l : List Int), l.Pairwise (· < ·) → n ∈ l → insGo n l false = l
  | [], _, h => by simp at h
  | x :: r, hp, h => by
    obtain ⟨h1, h2⟩ := List.pairwise_cons.1 hp
    by_cases e : x = n
    · subst e
      have := insGo_done x r fun y hy => by have := h1 y hy; omega
      simp [insGo, this]
    · have hr : n ∈ r := by
        rcases List.mem_cons.1 h with h | h
        · exact absurd h.symm e
        · exact h
      have h3 := h1 n hr
      have h4 : ¬ n ≤ x := by omega
      simp [insGo, e, h4, insGo_mem n r h2 hr]

theorem votes_up {m : M} (h : okVotes m = true) : m.votes.Pairwise (· < ·) := by
  simp only [okVotes, Bool.and_eq_true, List.all_eq_true, List.mem_range] at h
  obtain ⟨⟨h, _⟩, _⟩ := h
  have hs : ∀ i, i + 1 < m.votes.length → m.votes.getD i 0 < m.votes.getD (i + 1) 0 := by
    intro i hi
    have := h (i + 1) hi
    simp only [vOK, Bool.and_eq_true, Bool.or_eq_true, decide_eq_true_eq, Nat.add_sub_cancel] at this
    omega
  clear h
  generalize m.votes = l at hs
  induction l with
  | nil => exact .nil
  | cons a r ih =>
    have ihr := ih fun i hi => by have := hs (i + 1) (by simp; omega); simpa using this
    refine List.pairwise_cons.2 ⟨?_, ihr⟩
    intro b hb
    cases r with
    | nil => simp at hb
    | cons c r =>
      have h0 := hs 0 (by simp)
      simp at h0
      rcases List.mem_cons.1 hb with e | hb
      · omega
      · have := (List.pairwise_cons.1 ihr).1 b hb
        omega

def leadM (m : M) : M := { m with role := 3, votes := [], next := List.replicate m.members.toNat (m.log.length : Int), mtch := (List.replicate m.members.toNat (0 : Int)).set (m.id - 1).toNat m.log.length }

def wonM (m : M) : M := if maj m.members ≤ (m.votes.length : Int) then leadM m else m

def voteReplyX (m : M) (to : Int) (ok : Bool) : X := ⟨2, m.id, to, m.term, 0, 0, 0, ok, []⟩

def newer (m : M) (x : X) : M := if m.term < x.term then followM m x.term else m

def grants (m : M) (x : X) : Bool := decide (x.term = m.term) && (decide (m.vote = 0) || decide (m.vote = x.frm)) && upTo m x.index x.logTerm

def castM (m : M) (x : X) : M := if grants m x then { m with vote := x.frm } else m

def voteR (m : M) (x : X) : M × Option X := if concernsX m x 1 then (castM (newer m x) x, some (voteReplyX (castM (newer m x) x) x.frm (grants (newer m x) x))) else (m, none)

def countR (m : M) (x : X) : M :=
  if concernsX m x 2 then
    if m.term < x.term then followM m x.term
    else if x.term < m.term ∨ m.role ≠ 2 ∨ x.ok = false ∨ x.frm ∈ m.votes then m
    else wonM { m with votes := insGo x.frm m.votes false }
  else m

def askX (m : M) (to : Int) : X := ⟨1, m.id, to, m.term, m.log.length, termN m.log m.log.length, 0, false, []⟩

def candM (m : M) : M := { m with term := m.term + 1, vote := m.id, role := 2, votes := [m.id] }

def asksN (m : M) : Nat → List X
  | 0 => []
  | k + 1 => if ((k + 1 : Nat) : Int) = m.id then asksN m k else asksN m k ++ [askX m (k + 1 : Nat)]

def asks (m : M) : List X := asksN m m.members.toNat

def timeoutR (m : M) : M × List X := if okM m = true ∧ m.role ≠ 3 ∧ m.term ≠ 1099511627776 then (wonM (candM m), asks (candM m)) else (m, [])

def restartR (m : M) : M := if okM m then ⟨m.id, m.members, m.term, m.vote, m.log, 1, 0, [], [], []⟩ else m

structure Head (m : M) : Prop where
  me1 : 1 ≤ m.members
  me2 : m.members ≤ 7
  id1 : 1 ≤ m.id
  id2 : m.id ≤ m.members
  te1 : 0 ≤ m.term
  te2 : m.term ≤ 1099511627776
  vo1 : 0 ≤ m.vote
  vo2 : m.vote ≤ m.members
  lg : okLog m.log = true
  co1 : 0 ≤ m.commit
  co2 : m.commit ≤ m.log.length

theorem okM_iff (m : M) : okM m = true ↔ Head m ∧ ((m.role = 1 ∧ m.votes = [] ∧ m.next = [] ∧ m.mtch = []) ∨ (m.role = 2 ∧ 1 ≤ m.term ∧ m.vote = m.id ∧ okVotes m = true ∧ m.next = [] ∧ m.mtch = []) ∨
    (m.role = 3 ∧ 1 ≤ m.term ∧ m.vote = m.id ∧ m.votes = [] ∧ okProg m = true)) := by
  have e : ∀ l : List Int, ((l.length : Int) = 0) ↔ l = [] := fun l => by
    rw [← List.length_eq_zero_iff]; omega
  constructor
  · intro h
    simp only [okM, okHead, okMid, Bool.and_eq_true, decide_eq_true_eq] at h
    obtain ⟨⟨⟨⟨⟨⟨⟨⟨⟨a1, a2⟩, a3⟩, a4⟩, a5⟩, a6⟩, a7⟩, a8⟩, ⟨a9, a10⟩, a11⟩, a12⟩ := h
    refine ⟨⟨a1, a2, a3, a4, a5, a6, a7, a8, a9, a10, a11⟩, ?_⟩
    unfold okRole at a12
    split at a12
    · rename_i hr
      simp only [Bool.and_eq_true, decide_eq_true_eq, e] at a12
      exact .inl ⟨hr, a12.1.1, a12.1.2, a12.2⟩
    · split at a12
      · rename_i hr
        simp only [Bool.and_eq_true, decide_eq_true_eq, e] at a12
        exact .inr (.inl ⟨hr, a12.1.1.1.1, a12.1.1.1.2, a12.1.1.2, a12.1.2, a12.2⟩)
      · split at a12
        · rename_i hr
          simp only [Bool.and_eq_true, decide_eq_true_eq, e] at a12
          exact .inr (.inr ⟨hr, a12.1.1.1, a12.1.1.2, a12.1.2, a12.2⟩)
        · cases a12
  · rintro ⟨⟨a1, a2, a3, a4, a5, a6, a7, a8, a9, a10, a11⟩, h⟩
    have hr : okRole m = true := by
      unfold okRole
      rcases h with ⟨r, b1, b2, b3⟩ | ⟨r, b1, b2, b3, b4, b5⟩ | ⟨r, b1, b2, b3, b4⟩
      · simp [r, b1, b2, b3]
      · simp [r, b1, b2, b3, b4, b5]
      · simp [r, b1, b2, b3, b4]
    simp only [okM, okHead, okMid, Bool.and_eq_true, decide_eq_true_eq]
    exact ⟨⟨⟨⟨⟨⟨⟨⟨⟨a1, a2⟩, a3⟩, a4⟩, a5⟩, a6⟩, a7⟩, a8⟩, ⟨a9, a10⟩, a11⟩, hr⟩

theorem okProg_lead (m : M) (h1 : 1 ≤ m.id) (h2 : m.id ≤ m.members) : okProg (leadM m) = true := by
  have hn : ∀ i, i < m.members.toNat → (leadM m).next.getD i 0 = m.log.length := by
    intro i hi
    simp [leadM, List.getD, List.getElem?_replicate, hi]
  have hm : ∀ i, (leadM m).mtch.getD i 0 = 0 ∨ (leadM m).mtch.getD i 0 = m.log.length := by
    intro i
    simp only [leadM, List.getD_eq_getElem?_getD, List.getElem?_set, List.getElem?_replicate, List.length_replicate]
    split
    · split
      · right; rfl
      · left; rfl
    · split
      · left; rfl
      · left; rfl
  have l1 : (leadM m).next.length = m.members.toNat := by simp [leadM]
  have l2 : (leadM m).mtch.length = m.members.toNat := by simp [leadM]
  have own : (leadM m).mtch.getD (m.id - 1).toNat 0 = m.log.length := by
    have hlt : (m.id - 1).toNat < m.members.toNat := by omega
    simp only [leadM, List.getD_eq_getElem?_getD, List.getElem?_set, List.length_replicate, if_true, hlt]
    rfl
  have k1 : (leadM m).members = m.members := rfl
  have k2 : (leadM m).id = m.id := rfl
  have k3 : (leadM m).log = m.log := rfl
  simp only [okProg, Bool.and_eq_true, decide_eq_true_eq, List.all_eq_true, List.mem_range, pOK, l1, l2, k1, k2, k3]
  refine ⟨⟨⟨⟨by omega, by omega⟩, ?_⟩, hn _ (by omega)⟩, own⟩
  intro i hi
  rw [hn i hi]
  rcases hm i with h | h <;> rw [h] <;> omega

theorem okM_won {m : M} (hh : Head m) (hr : m.role = 2) (ht : 1 ≤ m.term) (hv : m.vote = m.id) (hn : m.next = []) (hm : m.mtch = []) (ha : (List.range m.votes.length).all (vOK m.members m.votes) = true) (ho : m.id ∈ m.votes) : okM (wonM m) = true := by
  unfold wonM
  split
  · rw [okM_iff]
    exact ⟨⟨hh.me1, hh.me2, hh.id1, hh.id2, hh.te1, hh.te2, hh.vo1, hh.vo2, hh.lg, hh.co1, hh.co2⟩, .inr (.inr ⟨rfl, ht, hv, rfl, okProg_lead m hh.id1 hh.id2⟩)⟩
  · rename_i hc
    rw [okM_iff]
    refine ⟨hh, .inr (.inl ⟨hr, ht, hv, ?_, hn, hm⟩)⟩
    simp only [okVotes, Bool.and_eq_true, decide_eq_true_eq, List.any_eq_true, beq_iff_eq]
    exact ⟨⟨ha, m.id, ho, rfl⟩, by omega⟩

theorem vOK_all {mem : Int} {l : List Int} : (List.range l.length).all (vOK mem l) = true ↔ l.Pairwise (· < ·) ∧ ∀ x ∈ l, 1 ≤ x ∧ x ≤ mem := by
  constructor
  · intro h
    simp only [List.all_eq_true, List.mem_range] at h
    refine ⟨?_, ?_⟩
    · have hs : ∀ i, i + 1 < l.length → l.getD i 0 < l.getD (i + 1) 0 := by
        intro i hi
        have := h (i + 1) hi
        simp only [vOK, Bool.and_eq_true, Bool.or_eq_true, decide_eq_true_eq, Nat.add_sub_cancel] at this
        omega
      clear h
      induction l with
      | nil => exact .nil
      | cons a r ih =>
        have ihr := ih fun i hi => by have := hs (i + 1) (by simp; omega); simpa using this
        refine List.pairwise_cons.2 ⟨?_, ihr⟩
        intro b hb
        cases r with
        | nil => simp at hb
        | cons c r =>
          have h0 := hs 0 (by simp)
          simp at h0
          rcases List.mem_cons.1 hb with e | hb
          · omega
          · have := (List.pairwise_cons.1 ihr).1 b hb
            omega
    · intro x hx
      obtain ⟨i, hi, rfl⟩ := List.mem_iff_getElem.1 hx
      have := h i hi
      simp only [vOK, Bool.and_eq_true, decide_eq_true_eq, getD_eq l i hi] at this
      omega
  · rintro ⟨hp, hb⟩
    simp only [List.all_eq_true, List.mem_range]
    intro i hi
    have h1 := hb _ (List.getElem_mem hi)
    refine vOK_yes hi (by omega) (by omega) ?_
    rcases Nat.eq_zero_or_pos i with h | h
    · exact .inl h
    · right
      have h2 : i - 1 < l.length := by omega
      rw [getD_eq l (i - 1) h2]
      have := (List.pairwise_iff_getElem.1 hp) (i - 1) i h2 hi (by omega)
      omega

theorem insGo_sub (n : Int) : ∀ (l : List Int) (d : Bool) (x : Int), x ∈ insGo n l d → x = n ∨ x ∈ l
  | [], d, x, h => by
    cases d <;> simp [insGo] at h
    exact .inl h
  | y :: r, d, x, h => by
    simp only [insGo, List.mem_append] at h
    rcases h with h | h | h
    · split at h
      · simp at h; exact .inl h
      · simp at h
    · split at h
      · simp at h
      · simp at h; exact .inr (by simp [h])
    · rcases insGo_sub n r _ x h with h | h
      · exact .inl h
      · exact .inr (by simp [h])

theorem insGo_has (n : Int) : ∀ (l : List Int) (x : Int), x = n ∨ x ∈ l → x ∈ insGo n l false
  | [], x, h => by simpa [insGo] using h
  | y :: r, x, h => by
    simp only [insGo, Bool.false_or, Bool.not_false, Bool.true_and, List.mem_append]
    by_cases e : x = n
    · subst e
      by_cases g : x ≤ y
      · left; simp [g]
      · right; right
        have := insGo_has x r x (.inl rfl)
        simpa [g] using this
    · have hx : x ∈ y :: r := by
        rcases h with h | h
        · exact absurd h e
        · exact h
      rcases List.mem_cons.1 hx with h | h
      · subst h
        right; left; simp [e]
      · right; right
        by_cases g : n ≤ y
        · have : ∀ (l : List Int), x ∈ l → x ∈ insGo n l true := by
            intro l
            induction l with
            | nil => simp
            | cons z l ih =>
              intro hz
              simp only [insGo, Bool.not_true, Bool.false_and, Bool.true_or, List.mem_append]
              rcases List.mem_cons.1 hz with h | h
              · subst h; right; left; simp [e]
              · right; right; exact ih h
          simpa [g] using this r h
        · have := insGo_has n r x (.inr h)
          simpa [g] using this

theorem insGo_up (n : Int) : ∀ (l : List Int), l.Pairwise (· < ·) → (insGo n l false).Pairwise (· < ·)
  | [], _ => by simp [insGo]
  | y :: r, hp => by
    obtain ⟨h1, h2⟩ := List.pairwise_cons.1 hp
    by_cases e : y = n
    · subst e
      have := insGo_mem y (y :: r) hp (by simp)
      rw [this]; exact hp
    · by_cases g : n ≤ y
      · have hd := insGo_done n r fun z hz => by have := h1 z hz; omega
        have : insGo n (y :: r) false = n :: y :: r := by simp [insGo, g, e, hd]
        rw [this]
        refine List.pairwise_cons.2 ⟨?_, hp⟩
        intro z hz
        rcases List.mem_cons.1 hz with h | h
        · omega
        · have := h1 z h; omega
      · have : insGo n (y :: r) false = y :: insGo n r false := by simp [insGo, g, e]
        rw [this]
        refine List.pairwise_cons.2 ⟨?_, insGo_up n r h2⟩
        intro z hz
        rcases insGo_sub n r false z hz with h | h
        · omega
        · exact h1 z h

theorem concerns_ok {m : M} {x : X} {k : Int} (h : concernsX m x k = true) : okM m = true ∧ okX x m.members = true ∧ x.to = m.id ∧ x.kind = k := by
  simp only [concernsX, Bool.and_eq_true, decide_eq_true_eq] at h
  exact ⟨h.1.1.1, h.1.1.2, h.1.2, h.2⟩

theorem okX_facts {x : X} {mem : Int} (h : okX x mem = true) : 1 ≤ mem ∧ mem ≤ 7 ∧ 1 ≤ x.frm ∧ x.frm ≤ mem ∧ 1 ≤ x.to ∧ x.to ≤ mem ∧ x.frm ≠ x.to ∧ 1 ≤ x.term ∧ x.term ≤ 1099511627776 ∧ 0 ≤ x.index ∧ x.index ≤ 1099511627776 ∧ 0 ≤ x.logTerm ∧ x.logTerm ≤ 1099511627776 ∧ 0 ≤ x.commit ∧ x.commit ≤ 1099511627776 ∧ okLog x.items = true := by
  simp only [okX, within, Bool.and_eq_true, decide_eq_true_eq] at h
  obtain ⟨⟨⟨⟨⟨⟨⟨⟨⟨⟨⟨a1, a2⟩, a3⟩, a4⟩, a5⟩, a6⟩, a7⟩, a8⟩, a9⟩, _⟩, _⟩, _⟩ := h
  exact ⟨a1.1, a1.2, a2.1, a2.2, a3.1, a3.2, a4, a5.1, a5.2, a6.1, a6.2, a7.1, a7.2, a8.1, a8.2, a9⟩

theorem okM_follow {m : M} (h : Head m) {t : Int} (h1 : 1 ≤ t) (h2 : t ≤ 1099511627776) : okM (followM m t) = true := by
  rw [okM_iff]
  exact ⟨⟨h.me1, h.me2, h.id1, h.id2, by show 0 ≤ t; omega, h2, by show (0 : Int) ≤ 0; omega, by have := h.me1; show (0 : Int) ≤ m.members; omega, h.lg, h.co1, h.co2⟩, .inl ⟨rfl, rfl, rfl, rfl⟩⟩

structure Keeps (m a : M) : Prop where
  ok : okM a = true
  id : a.id = m.id
  mem : a.members = m.members
  log : a.log = m.log
  term : m.term ≤ a.term
  vote : a.term = m.term → m.vote ≠ 0 → a.vote = m.vote

theorem Keeps.refl {m : M} (h : okM m = true) : Keeps m m := ⟨h, rfl, rfl, rfl, Int.le_refl _, fun _ _ => rfl⟩

theorem Keeps.trans {m a b : M} (h : Keeps m a) (k : Keeps a b) : Keeps m b :=
  ⟨k.ok, k.id.trans h.id, k.mem.trans h.mem, k.log.trans h.log, Int.le_trans h.term k.term, fun e v => by
    have h1 := h.term; have h2 := k.term
    have e1 : a.term = m.term := by omega
    have v1 := h.vote e1 v
    rw [k.vote (by omega) (by rw [v1]; exact v), v1]⟩

theorem keeps_newer {m : M} {x : X} {k : Int} (h : concernsX m x k = true) : Keeps m (newer m x) := by
  obtain ⟨h1, h2, h3, h4⟩ := concerns_ok h
  obtain ⟨hh, _⟩ := (okM_iff m).1 h1
  have hx := okX_facts h2
  unfold newer
  split
  · rename_i ht
    exact ⟨okM_follow hh (by omega) (by omega), rfl, rfl, rfl, by show m.term ≤ x.term; omega, fun e => by have : x.term = m.term := e; omega⟩
  · exact .refl h1

theorem keeps_cast {m : M} {x : X} (h : okM m = true) (hx : okX x m.members = true) (ht : x.to = m.id) : Keeps m (castM m x) := by
  unfold castM
  split
  · rename_i hg
    simp only [grants, Bool.and_eq_true, Bool.or_eq_true, decide_eq_true_eq] at hg
    obtain ⟨hh, hr⟩ := (okM_iff m).1 h
    have hf := okX_facts hx
    refine ⟨?_, rfl, rfl, rfl, Int.le_refl _, fun _ hv => ?_⟩
    · rw [okM_iff]
      refine ⟨⟨hh.me1, hh.me2, hh.id1, hh.id2, hh.te1, hh.te2, by show 0 ≤ x.frm; omega, by show x.frm ≤ m.members; omega, hh.lg, hh.co1, hh.co2⟩, ?_⟩
      rcases hr with hr | ⟨_, _, hv, _⟩ | ⟨_, _, hv, _⟩
      · exact .inl hr
      · have := hh.id1; omega
      · have := hh.id1; omega
    · show x.frm = m.vote
      omega
  · exact .refl h

theorem keeps_vote {m : M} {x : X} (h : okM m = true) : Keeps m (voteR m x).1 := by
  unfold voteR
  split
  · rename_i hc
    obtain ⟨h1, h2, h3, h4⟩ := concerns_ok hc
    have k := keeps_newer hc
    exact k.trans (keeps_cast k.ok (by rw [k.mem]; exact h2) (by rw [k.id]; exact h3))
  · exact .refl h

theorem keeps_count {m : M} {x : X} (h : okM m = true) : Keeps m (countR m x) := by
  unfold countR
  split
  · rename_i hc
    obtain ⟨h1, h2, h3, h4⟩ := concerns_ok hc
    obtain ⟨hh, hr⟩ := (okM_iff m).1 h1
    have hx := okX_facts h2
    split
    · rename_i ht
      exact ⟨okM_follow hh (by omega) (by omega), rfl, rfl, rfl, by show m.term ≤ x.term; omega, fun e => by have : x.term = m.term := e; omega⟩
    · split
      · exact .refl h
      · rename_i hn
        have r2 : m.role = 2 := by
          rcases Decidable.em (m.role = 2) with e | e
          · exact e
          · exact absurd (.inr (.inl e)) hn
        rcases hr with ⟨r, _⟩ | ⟨_, b1, b2, b3, b4, b5⟩ | ⟨r, _⟩
        · omega
        · have b3' := b3
          simp only [okVotes, Bool.and_eq_true, List.any_eq_true, beq_iff_eq] at b3
          obtain ⟨⟨c1, y, c2, c3⟩, _⟩ := b3
          subst c3
          obtain ⟨p1, p2⟩ := vOK_all.1 c1
          have hok := okM_won (m := { m with votes := insGo x.frm m.votes false }) ⟨hh.me1, hh.me2, hh.id1, hh.id2, hh.te1, hh.te2, hh.vo1, hh.vo2, hh.lg, hh.co1, hh.co2⟩ r2 b1 b2 b4 b5
            (vOK_all.2 ⟨insGo_up _ _ p1, fun z hz => by
              rcases insGo_sub _ _ _ z hz with e | e
              · subst e; exact ⟨hx.2.2.1, hx.2.2.2.1⟩
              · exact p2 z e⟩) (insGo_has _ _ _ (.inr c2))
          refine ⟨hok, ?_, ?_, ?_, ?_, ?_⟩ <;> unfold wonM <;> split <;> first | rfl | exact Int.le_refl _ | (intro _ _; rfl)
        · omega
  · exact .refl h

theorem keeps_timeout {m : M} (h : okM m = true) : Keeps m (timeoutR m).1 := by
  unfold timeoutR
  split
  · rename_i hc
    obtain ⟨hh, hr⟩ := (okM_iff m).1 h
    have h2 := hh.te2
    have hn : m.next = [] ∧ m.mtch = [] := by
      rcases hr with ⟨_, _, a, b⟩ | ⟨_, _, _, _, a, b⟩ | ⟨r, _⟩
      · exact ⟨a, b⟩
      · exact ⟨a, b⟩
      · exact absurd r hc.2.1
    have t1 : m.term + 1 ≤ 1099511627776 := by have := hc.2.2; omega
    have := hh.te1; have i1 := hh.id1; have i2 := hh.id2
    have hok := okM_won (m := candM m) ⟨hh.me1, hh.me2, hh.id1, hh.id2, by show 0 ≤ m.term + 1; omega, t1, by show 0 ≤ m.id; omega, hh.id2, hh.lg, hh.co1, hh.co2⟩ rfl (by show 1 ≤ m.term + 1; omega) rfl hn.1 hn.2
      (vOK_all.2 ⟨by simp [candM], fun z hz => by simp [candM] at hz; subst hz; exact ⟨i1, i2⟩⟩) (by simp [candM])
    refine ⟨hok, ?_, ?_, ?_, ?_, ?_⟩ <;> unfold wonM <;> split <;> first | rfl | (show m.term ≤ m.term + 1; omega) | (intro e; have e : m.term + 1 = m.term := e; omega)
  · exact .refl h

theorem keeps_restart {m : M} (h : okM m = true) : Keeps m (restartR m) := by
  unfold restartR
  rw [if_pos h]
  obtain ⟨hh, _⟩ := (okM_iff m).1 h
  refine ⟨?_, rfl, rfl, rfl, Int.le_refl _, fun _ _ => rfl⟩
  rw [okM_iff]
  exact ⟨⟨hh.me1, hh.me2, hh.id1, hh.id2, hh.te1, hh.te2, hh.vo1, hh.vo2, hh.lg, by show (0 : Int) ≤ 0; omega, by show (0 : Int) ≤ m.log.length; omega⟩, .inl ⟨rfl, rfl, rfl, rfl⟩⟩

def idxF (v : Int) : List Int → Int → Int
  | [], _ => -1
  | x :: r, i => if v = x then i else idxF v r (i + 1)

theorem idxF_ge (v : Int) : ∀ (l : List Int) (i : Int), 0 ≤ i → (0 ≤ idxF v l i ↔ v ∈ l)
  | [], i, h => by simp [idxF]
  | x :: r, i, h => by
    simp only [idxF]
    split
    · rename_i e; subst e; simp [h]
    · rename_i e
      rw [idxF_ge v r (i + 1) (by omega)]
      simp [e]

theorem l132 (l : List Int) (v : Int) (b : Bool) (hl : l.length ≤ 100000) (K : Ex → St → Prop)
    (hx : idxF v l 0 = -1 → K (.exit 0) ⟨[], [], 0, [0]⟩) (hr : ∀ s, aget s.env 4 = some (.p (.int .i64 (idxF v l 0))) → K .ret s) : ∀ (n i : Nat), i + n = l.length → idxF v l 0 = idxF v (l.drop i) i →
    W tb a127_l0 ⟨[(0, .p (.slice b (intsPV l))), (1, .p (.int .i64 v)), (7, .p (.int .i64 l.length)), (8, .p (.int .i64 i))], [], 0, [0]⟩ (LK tb (.ghost .lower a127_l0) K) := by
  intro n
  induction n with
  | zero =>
    intro i hi he
    have h1 : ¬ (i : Int) < l.length := by omega
    rw [List.drop_eq_nil_of_le (by omega)] at he
    refine i_code (by unfold a127_l0; exact rfl) ?_
    repeat' (first | (simp (disch := omega) only [go_sem, seval, reduceCtorEq, h1, intsPV_length]) | with_reducible exact Ev.mk | ((first | apply x_split | apply x_splitg) <;> intro hβ hb <;> (try simp only [hβ]) <;> clear hβ))
    exact hx he
  | succ n ih =>
    intro i hi he
    have h1 : (i : Int) < l.length := by omega
    have h2 : i < l.length := by omega
    have h3 := intsPV_get l i h2
    have h4 : (0 : Int) ≤ i := by omega
    have hd : l.drop i = l[i] :: l.drop (i + 1) := (List.getElem_cons_drop ..).symm
    rw [hd, idxF] at he
    refine i_code (by unfold a127_l0; exact rfl) ?_
    by_cases hv : v = l[i]
    · rw [if_pos hv] at he
      have h5 : (v == l[i]) = true := by simpa using hv
      rw [he] at hr
      repeat' (first | (simp (disch := omega) only [go_sem, seval, reduceCtorEq, h1, h3, h4, h5, intPV, intsPV_length]) | with_reducible exact Ev.mk | ((first | apply x_split | apply x_splitg) <;> intro hβ hb <;> (try simp only [hβ]) <;> clear hβ))
      exact hr _ rfl
    · rw [if_neg hv] at he
      have h5 : (v == l[i]) = false := by simpa using hv
      repeat' (first | (simp (disch := omega) only [go_sem, seval, reduceCtorEq, h1, h3, h4, h5, intPV, intsPV_length]) | with_reducible exact Ev.mk | ((first | apply x_split | apply x_splitg) <;> intro hβ hb <;> (try simp only [hβ]) <;> clear hβ))
      refine i_lk (W_round ?_)
      (try simp (disch := omega) only [go_sem, seval, reduceCtorEq])
      exact ih (i + 1) (by omega) he

theorem ps132 (l : List Int) (v : Int) (b : Bool) (hl : l.length ≤ 100000) : PS tb 127 [.slice b (intsPV l), .int .i64 v] (.int .i64 (idxF v l 0)) := by
  refine PS_of (af := a127) rfl rfl ?_
  unfold a127
  dsimp only [List.map, ofPV, initEnv]
  repeat' (first | (simp (disch := omega) only [go_sem, seval, reduceCtorEq, intsPV_length]) | with_reducible exact Ev.mk | ((first | apply x_split | apply x_splitg) <;> intro hβ hb <;> (try simp only [hβ]) <;> clear hβ))
  refine W_round ?_
  (try simp (disch := omega) only [go_sem, seval, reduceCtorEq])
  refine l132 l v b hl _ ?_ ?_ l.length 0 (by omega) (by simp)
  · intro he
    (try simp (disch := omega) only [go_sem, seval, reduceCtorEq])
    all_goals simp [pur, dep, he]
  · intro s hs
    (try simp (disch := omega) only [go_sem, seval, reduceCtorEq, hs])
    all_goals simp [pur, dep]

theorem ps94 (l : List Int) (v : Int) (b : Bool) (hl : l.length ≤ 100000) : PS tb 115 [.slice b (intsPV l), .int .i64 v] (.bool (decide (v ∈ l))) := by
  refine PS_of (af := a115) rfl rfl ?_
  unfold a115
  dsimp only [List.map, ofPV, initEnv]
  have h := idxF_ge v l 0 (Int.le_refl _)
  have e : decide (v ∈ l) = decide (0 ≤ idxF v l 0) := by simp [h]
  rw [e]
  repeat' (first | exact ps132 l v b hl | (simp (disch := omega) only [go_sem, seval, reduceCtorEq]) | with_reducible exact Ev.mk | apply x_call | ((first | apply x_split | apply x_splitg) <;> intro hβ hb <;> (try simp only [hβ]) <;> clear hβ))
  all_goals simp [pur, dep]

theorem l96 (l : List Int) (v : Int) (b : Bool) (hl : l.length ≤ 10000) (K : Ex → St → Prop)
    (hx : ∀ (o : List Int) (d : Bool), insGo v l false = o ++ insGo v [] d → o.length ≤ 2 * l.length → K (.exit 0) ⟨[(1, .p (.int .i64 v)), (5, .ref 0 o.length 0 o.length), (6, .p (.bool d))], [(0, .row false 1 (intsPV o))], 1, [0]⟩) :
    ∀ (n i : Nat) (o : List Int) (d : Bool), i + n = l.length → insGo v l false = o ++ insGo v (l.drop i) d → o.length ≤ 2 * i →
    W tb a123_l0 ⟨[(0, .p (.slice b (intsPV l))), (1, .p (.int .i64 v)), (5, .ref 0 o.length 0 o.length), (6, .p (.bool d)), (7, .p (.int .i64 i))], [(0, .row false 1 (intsPV o))], 1, [0]⟩ (LK tb (.ghost .lower a123_l0) K) := by
  intro n
  induction n with
  | zero =>
    intro i o d hi he ho
    have h1 : ¬ (i : Int) < l.length := by omega
    rw [List.drop_eq_nil_of_le (by omega)] at he
    refine i_code (by unfold a123_l0; exact rfl) ?_
    repeat' (first | (simp (disch := omega) only [go_sem, seval, reduceCtorEq, h1, intsPV_length]) | with_reducible exact Ev.mk | ((first | apply x_split | apply x_splitg) <;> intro hβ hb <;> (try simp only [hβ]) <;> clear hβ))
    exact hx o d he (by omega)
  | succ n ih =>
    intro i o d hi he ho
    have h1 : (i : Int) < l.length := by omega
    have h2 : i < l.length := by omega
    have h3 := intsPV_get l i h2
    have h4 : (0 : Int) ≤ i := by omega
    have hd : l.drop i = l[i] :: l.drop (i + 1) := (List.getElem_cons_drop ..).symm
    rw [hd, insGo] at he
    refine i_code (by unfold a123_l0; exact rfl) ?_
    cases d with
    | true =>
      by_cases e : l[i] = v
      · have e1 : (l[i] != v) = false := by simpa using e
        have e2 : ((i : Int) + 1) = ((i + 1 : Nat) : Int) := rfl
        rw [if_pos e] at he
        simp only [Bool.not_true, Bool.false_and, Bool.false_eq_true, if_false, Bool.true_or, List.nil_append] at he
        repeat' (first | (simp (disch := omega) only [go_sem, seval, reduceCtorEq, h1, h3, h4, e1, intPV, intsPV_length, Bool.not_true]) | with_reducible exact Ev.mk | ((first | apply x_split | apply x_splitg) <;> intro hβ hb <;> (try simp only [hβ]) <;> clear hβ))
        refine i_lk (W_round ?_)
        (try simp (disch := omega) only [go_sem, seval, reduceCtorEq])
        exact ih (i + 1) o true (by omega) he (by omega)
      · have e1 : (l[i] != v) = true := by simpa using e
        rw [if_neg e] at he
        simp only [Bool.not_true, Bool.false_and, Bool.false_eq_true, if_false, Bool.true_or, List.nil_append] at he
        repeat' (first | (simp (disch := omega) only [go_sem, seval, reduceCtorEq, h1, h3, h4, e1, intPV, intsPV_length, intsPV_sing, intsPV_sz, intsPV_append, List.take_length, List.length_append, maxB, Bool.not_true]) | with_reducible exact Ev.mk | ((first | apply x_split | apply x_splitg) <;> intro hβ hb <;> (try simp only [hβ]) <;> clear hβ))
        refine i_lk (W_round ?_)
        (try simp (disch := omega) only [go_sem, seval, reduceCtorEq])
        have := ih (i + 1) (o ++ [l[i]]) true (by omega) (by rw [he]; simp) (by simp; omega)
        simp only [List.length_append, List.length_cons, List.length_nil, Nat.zero_add] at this
        exact this
    | false =>
      by_cases g : v ≤ l[i]
      · by_cases e : l[i] = v
        · have e1 : (l[i] != v) = false := by simpa using e
          rw [if_pos e] at he
          simp only [Bool.not_false, Bool.true_and, decide_eq_true_eq, g, if_true, Bool.false_or, decide_true, List.nil_append] at he
          repeat' (first | (simp (disch := omega) only [go_sem, seval, reduceCtorEq, h1, h3, h4, e1, g, intPV, intsPV_length, intsPV_sing, intsPV_sz, intsPV_append, List.take_length, List.length_append, maxB, Bool.not_false]) | with_reducible exact Ev.mk | ((first | apply x_split | apply x_splitg) <;> intro hβ hb <;> (try simp only [hβ]) <;> clear hβ))
          refine i_lk (W_round ?_)
          (try simp (disch := omega) only [go_sem, seval, reduceCtorEq])
          have := ih (i + 1) (o ++ [v]) true (by omega) (by rw [he]; simp) (by simp; omega)
          simp only [List.length_append, List.length_cons, List.length_nil, Nat.zero_add] at this
          exact this
        · have e1 : (l[i] != v) = true := by simpa using e
          rw [if_neg e] at he
          simp only [Bool.not_false, Bool.true_and, decide_eq_true_eq, g, if_true, Bool.false_or, decide_true] at he
          repeat' (first | (simp (disch := omega) only [go_sem, seval, reduceCtorEq, h1, h3, h4, e1, g, intPV, intsPV_length, intsPV_sing, intsPV_sz, intsPV_append, List.take_length, List.length_append, maxB, Bool.not_false]) | with_reducible exact Ev.mk | ((first | apply x_split | apply x_splitg) <;> intro hβ hb <;> (try simp only [hβ]) <;> clear hβ))
          refine i_lk (W_round ?_)
          (try simp (disch := omega) only [go_sem, seval, reduceCtorEq])
          have := ih (i + 1) (o ++ [v] ++ [l[i]]) true (by omega) (by rw [he]; simp) (by simp; omega)
          simp only [List.length_append, List.length_cons, List.length_nil, Nat.zero_add] at this
          exact this
      · have e : ¬ l[i] = v := by omega
        have e1 : (l[i] != v) = true := by simpa using e
        rw [if_neg e] at he
        simp only [Bool.not_false, Bool.true_and, decide_eq_true_eq, g, if_false, Bool.false_or, decide_false, List.nil_append] at he
        repeat' (first | (simp (disch := omega) only [go_sem, seval, reduceCtorEq, h1, h3, h4, e1, g, intPV, intsPV_length, intsPV_sing, intsPV_sz, intsPV_append, List.take_length, List.length_append, maxB, Bool.not_false]) | with_reducible exact Ev.mk | ((first | apply x_split | apply x_splitg) <;> intro hβ hb <;> (try simp only [hβ]) <;> clear hβ))
        refine i_lk (W_round ?_)
        (try simp (disch := omega) only [go_sem, seval, reduceCtorEq])
        have := ih (i + 1) (o ++ [l[i]]) false (by omega) (by rw [he]; simp) (by simp; omega)
        simp only [List.length_append, List.length_cons, List.length_nil, Nat.zero_add] at this
        exact this

theorem ps96 (l : List Int) (v : Int) (b : Bool) (hl : l.length ≤ 10000) : PS tb 123 [.slice b (intsPV l), .int .i64 v] (.slice false (intsPV (insGo v l false))) := by
  refine PS_of (af := a123) rfl rfl ?_
  unfold a123
  dsimp only [List.map, ofPV, initEnv]
  repeat' (first | (simp (disch := omega) only [go_sem, seval, reduceCtorEq, intsPV_length]) | with_reducible exact Ev.mk | ((first | apply x_split | apply x_splitg) <;> intro hβ hb <;> (try simp only [hβ]) <;> clear hβ))
  refine W_round ?_
  (try simp (disch := omega) only [go_sem, seval, reduceCtorEq])
  refine l96 l v b hl _ ?_ l.length 0 [] false (by omega) (by simp) (by simp)
  intro o d he ho
  rw [he]
  cases d with
  | true =>
    (try simp (disch := omega) only [go_sem, seval, reduceCtorEq, intsPV_sing, intsPV_sz, intsPV_length, intsPV_append, List.length_append, List.take_length, maxB, Bool.not_true])
    all_goals simp [pur, dep, insGo, intsPV_take]
  | false =>
    (try simp (disch := omega) only [go_sem, seval, reduceCtorEq, intsPV_sing, intsPV_sz, intsPV_length, intsPV_append, List.length_append, List.take_length, maxB, Bool.not_false])
    all_goals simp [pur, dep, insGo, intsPV_take, List.take_of_length_le]

theorem ps85 (m : M) (f : Fl) (term : Int) : PS tb 84 [.agg (mC m f), .int .i64 term] (.agg (mC (followM m term) ⟨f.a, true, true, true⟩)) := by
  refine PS_of (af := a84) rfl rfl ?_
  unfold a84
  dsimp only [List.map, ofPV, initEnv]
  repeat' (first | (simp (disch := omega) only [go_sem, seval, reduceCtorEq, mC]) | with_reducible exact Ev.mk | ((first | apply x_split | apply x_splitg) <;> intro hβ hb <;> (try simp only [hβ]) <;> clear hβ))
  all_goals rfl

def leadNx (m : M) (k : Nat) : List Int := List.replicate k (m.log.length : Int)

def leadMt (m : M) (k : Nat) : List Int := (List.range k).map fun j => if ((j + 1 : Nat) : Int) = m.id then (m.log.length : Int) else 0

theorem leadNx_len (m : M) (k : Nat) : (leadNx m k).length = k := by simp [leadNx]

theorem leadMt_len (m : M) (k : Nat) : (leadMt m k).length = k := by simp [leadMt]

theorem leadNx_succ (m : M) (k : Nat) : leadNx m (k + 1) = leadNx m k ++ [(m.log.length : Int)] := by simp [leadNx, List.replicate_succ']

theorem leadMt_succ (m : M) (k : Nat) : leadMt m (k + 1) = leadMt m k ++ [if ((k + 1 : Nat) : Int) = m.id then (m.log.length : Int) else 0] := by simp [leadMt, List.range_succ]

theorem leadMt_eq (m : M) (h : 1 ≤ m.id) : leadMt m m.members.toNat = (List.replicate m.members.toNat (0 : Int)).set (m.id - 1).toNat m.log.length := by
  refine List.ext_getElem (by simp [leadMt]) ?_
  intro i h1 h2
  simp only [leadMt, List.getElem_map, List.getElem_range, List.getElem_set, List.getElem_replicate]
  by_cases e : (m.id - 1).toNat = i
  · have : ((i + 1 : Nat) : Int) = m.id := by omega
    rw [if_pos this, if_pos e]
  · have : ¬ ((i + 1 : Nat) : Int) = m.id := by omega
    rw [if_neg this, if_neg e]

def leC (m : M) (f : Fl) (k : Nat) : List DV := [.p (.int .i64 m.id), .p (.int .i64 m.members), .p (.int .i64 m.term), .p (.int .i64 m.vote), .p (.slice f.a (itemsPV m.log)), .p (.int .i64 3), .p (.int .i64 m.commit), .p (.slice true []), .ref 3 k 0 k, .ref 4 k 0 k]

def leH (m : M) (f : Fl) (k : Nat) : Heap := [(4, .row false 1 (intsPV (leadMt m k))), (3, .row false 1 (intsPV (leadNx m k))), (2, .var false (leC m f k)), (1, .var false (zC.map .p)), (0, .var false ((mC m f).map .p))]

def leE (m : M) (f : Fl) (k : Nat) : Heap := [(4, .row false 1 (intsPV (leadMt m k))), (3, .row false 1 (intsPV (leadNx m k))), (2, .var false (leC m f k)), (1, .var false (zC.map .p))]

theorem l130 (m : M) (f : Fl) (hm : m.members ≤ 10000) (hl : m.log.length ≤ 9223372036854775807) (K : Ex → St → Prop)
    (hx : K (.exit 0) ⟨[(2, .ptr 1 0), (3, .ptr 2 0)], leE m f m.members.toNat, 5, [0]⟩) : ∀ (n k : Nat), 1 ≤ k → k + n = m.members.toNat →
    W tb a111_l0 ⟨[(1, .ptr 0 0), (2, .ptr 1 0), (3, .ptr 2 0), (4, .p (.int .i64 (k + 1 : Nat)))], leH m f k, 5, [0]⟩ (LK tb (.ghost .lower a111_l0) K) := by
  intro n
  induction n with
  | zero =>
    intro k hk0 hk
    have h1 : ¬ ((k + 1 : Nat) : Int) ≤ m.members := by omega
    have e : k = m.members.toNat := by omega
    refine i_code (by unfold a111_l0; exact rfl) ?_
    repeat' (first | (simp (disch := omega) only [go_sem, seval, reduceCtorEq, h1, mC, zC, leH, leC]) | with_reducible exact Ev.mk | ((first | apply x_split | apply x_splitg) <;> intro hβ hb <;> (try simp only [hβ]) <;> clear hβ))
    subst e
    exact hx
  | succ n ih =>
    intro k hk0 hk
    have h1 : ((k + 1 : Nat) : Int) ≤ m.members := by omega
    have q1 := leadNx_len m k
    have q2 := leadMt_len m k
    have := ih (k + 1) (by omega) (by omega)
    simp only [leH, leC, leadNx_succ, leadMt_succ] at this
    refine i_code (by unfold a111_l0; exact rfl) ?_
    by_cases e : ((k + 1 : Nat) : Int) = m.id
    · have e1 : (((k + 1 : Nat) : Int) == m.id) = true := by simpa using e
      rw [if_pos e] at this
      repeat' (first | (simp (disch := omega) only [go_sem, seval, reduceCtorEq, h1, e1, mC, zC, leH, leC, q1, q2, itemsPV_length, intsPV_length, intsPV_sing, intsPV_sz, intsPV_append, List.take_length, List.length_append, maxB]) | with_reducible exact Ev.mk | ((first | apply x_split | apply x_splitg) <;> intro hβ hb <;> (try simp only [hβ]) <;> clear hβ))
      refine i_lk (W_round ?_)
      (try simp (disch := omega) only [go_sem, seval, reduceCtorEq, mC, zC])
      exact this
    · have e1 : (((k + 1 : Nat) : Int) == m.id) = false := by simpa using e
      rw [if_neg e] at this
      repeat' (first | (simp (disch := omega) only [go_sem, seval, reduceCtorEq, h1, e1, mC, zC, leH, leC, q1, q2, itemsPV_length, intsPV_length, intsPV_sing, intsPV_sz, intsPV_append, List.take_length, List.length_append, maxB]) | with_reducible exact Ev.mk | ((first | apply x_split | apply x_splitg) <;> intro hβ hb <;> (try simp only [hβ]) <;> clear hβ))
      refine i_lk (W_round ?_)
      (try simp (disch := omega) only [go_sem, seval, reduceCtorEq, mC, zC])
      exact this

theorem ps130 (m : M) (f : Fl) (hi : 1 ≤ m.id) (hm : m.members ≤ 10000) (hl : m.log.length ≤ 9223372036854775807) (hc : 1 ≤ m.members) : PS tb 111 [.agg (mC m f)] (.agg (mC (leadM m) ⟨f.a, true, false, false⟩)) := by
  have q1 := leadNx_len m m.members.toNat
  have q2 := leadMt_len m m.members.toNat
  have h1 : (1 : Int) ≤ m.members := hc
  have q3 : (leadNx m m.members.toNat).take m.members.toNat = leadNx m m.members.toNat := List.take_of_length_le (by omega)
  have q4 : (leadMt m m.members.toNat).take m.members.toNat = leadMt m m.members.toNat := List.take_of_length_le (by omega)
  have hL : leadM m = { m with role := 3, votes := [], next := leadNx m m.members.toNat, mtch := leadMt m m.members.toNat } := by rw [leadMt_eq m hi]; rfl
  have fin : ∀ (K : Ex → St → Prop) (H : Heap), K (.exit 0) ⟨[(2, .ptr 1 0), (3, .ptr 2 0)], leE m f m.members.toNat, 5, [0]⟩ → leH m f 1 = H →
      W tb a111_l0 ⟨[(1, .ptr 0 0), (2, .ptr 1 0), (3, .ptr 2 0), (4, .p (.int .i64 2))], H, 5, [0]⟩ (LK tb (.ghost .lower a111_l0) K) := by
    intro K H g1 g2
    subst g2
    exact l130 m f hm hl K g1 (m.members.toNat - 1) 1 (by omega) (by omega)
  refine PS_of (af := a111) rfl rfl ?_
  unfold a111
  dsimp only [List.map, ofPV, initEnv]
  rw [hL]
  repeat' (first | (simp (disch := omega) only [go_sem, seval, reduceCtorEq, mC, itemsPV_length]) | with_reducible exact Ev.mk | ((first | apply x_split | apply x_splitg) <;> intro hβ hb <;> (try simp only [hβ]) <;> clear hβ))
  refine W_round ?_
  (try simp (disch := omega) only [go_sem, seval, reduceCtorEq, mC, zC])
  refine i_code (by unfold a111_l0; exact rfl) ?_
  by_cases e : (1 : Int) = m.id
  · have e1 : ((1 : Int) == m.id) = true := by simpa using e
    have m1 : leadMt m 1 = [(m.log.length : Int)] := by simp [leadMt, e]
    repeat' (first | (simp (disch := omega) only [go_sem, seval, reduceCtorEq, h1, e1, mC, zC, itemsPV_length, intsPV_length, intsPV_sing, intsPV_sz, intsPV_append, List.take_length, List.length_append, maxB]) | with_reducible exact Ev.mk | ((first | apply x_split | apply x_splitg) <;> intro hβ hb <;> (try simp only [hβ]) <;> clear hβ))
    refine i_lk (W_round ?_)
    (try simp (disch := omega) only [go_sem, seval, reduceCtorEq, mC, zC])
    refine fin _ _ ?_ (by simp only [leH, leC, m1]; rfl)
    · (try simp (disch := omega) only [go_sem, seval, reduceCtorEq, mC, zC, leE, leC])
      (try simp (disch := omega) only [go_sem, seval, reduceCtorEq, q1, q2, q3, q4, leadM, intsPV_length, intsPV_take, List.take_length, intsPV_nil])
  · have e1 : ((1 : Int) == m.id) = false := by simpa using e
    have m1 : leadMt m 1 = [0] := by simp [leadMt, e]
    repeat' (first | (simp (disch := omega) only [go_sem, seval, reduceCtorEq, h1, e1, mC, zC, itemsPV_length, intsPV_length, intsPV_sing, intsPV_sz, intsPV_append, List.take_length, List.length_append, maxB]) | with_reducible exact Ev.mk | ((first | apply x_split | apply x_splitg) <;> intro hβ hb <;> (try simp only [hβ]) <;> clear hβ))
    refine i_lk (W_round ?_)
    (try simp (disch := omega) only [go_sem, seval, reduceCtorEq, mC, zC])
    refine fin _ _ ?_ (by simp only [leH, leC, m1]; rfl)
    · (try simp (disch := omega) only [go_sem, seval, reduceCtorEq, mC, zC, leE, leC])
      (try simp (disch := omega) only [go_sem, seval, reduceCtorEq, q1, q2, q3, q4, leadM, intsPV_length, intsPV_take, List.take_length, intsPV_nil])

theorem ps86 (m : M) (f : Fl) (hi : 1 ≤ m.id) (hm : m.members ≤ 10000) (hl : m.log.length ≤ 9223372036854775807) (hv : m.votes.length ≤ 9223372036854775807) (hc : 1 ≤ m.members) : ∃ g, PS tb 86 [.agg (mC m f)] (.agg (mC (wonM m) g)) := by
  by_cases h : maj m.members ≤ (m.votes.length : Int)
  · refine ⟨⟨f.a, true, false, false⟩, PS_of (af := a86) rfl rfl ?_⟩
    have hw : wonM m = leadM m := if_pos h
    have q := ps130 m f hi hm hl hc
    rw [hw]
    unfold a86
    dsimp only [List.map, ofPV, initEnv]
    repeat' (first | exact ps26 m.members (by omega) | exact q | (simp (disch := omega) only [go_sem, seval, reduceCtorEq, mC, h, intsPV_length]) | with_reducible exact Ev.mk | apply x_call | ((first | apply x_split | apply x_splitg) <;> intro hβ hb <;> (try simp only [hβ]) <;> clear hβ))
    all_goals rfl
  · refine ⟨f, PS_of (af := a86) rfl rfl ?_⟩
    have hw : wonM m = m := if_neg h
    rw [hw]
    unfold a86
    dsimp only [List.map, ofPV, initEnv]
    repeat' (first | exact ps26 m.members (by omega) | (simp (disch := omega) only [go_sem, seval, reduceCtorEq, mC, h, intsPV_length]) | with_reducible exact Ev.mk | apply x_call | ((first | apply x_split | apply x_splitg) <;> intro hβ hb <;> (try simp only [hβ]) <;> clear hβ))
    all_goals rfl

end Go.Dv.Tryz
