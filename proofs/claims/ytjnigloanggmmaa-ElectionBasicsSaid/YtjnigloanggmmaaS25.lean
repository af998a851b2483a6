/-
  Specifications, part 25: what the other steps of a member give, in plain data.
-/
import Derived.Test.YtjnigloanggmmaaS24
set_option linter.unusedVariables false
set_option linter.unusedSimpArgs false
set_option maxRecDepth 100000
set_option maxHeartbeats 4000000
namespace Go.Dv.Try
open Go Go.Dv

/-- The second text's list with another number, from a place on. -/
def insGo (n : Int) : List Int → Bool → List Int
  | [], d => if d then [] else [n]
  | x :: r, d => (if !d && decide (n ≤ x) then [n] else []) ++ ((if x = n then [] else [x]) ++ insGo n r (d || decide (n ≤ x)))

theorem insGo_done (n : Int) : ∀ (r : List Int), (∀ x ∈ r, x ≠ n) → insGo n r true = r
  | [], _ => rfl
  | x :: r, h => by
    have := insGo_done n r fun y hy => h y (by simp [hy])
    simp [insGo, this, h x (by simp)]

theorem insGo_app (n : Int) (b : List Int) (hb : ∀ x ∈ b, n < x) : ∀ (a : List Int), (∀ x ∈ a, x < n) → insGo n (a ++ b) false = a ++ n :: b
  | [], _ => by
    cases b with
    | nil => rfl
    | cons x r =>
      have h1 := hb x (by simp)
      have := insGo_done n r fun y hy => by have := hb y (by simp [hy]); omega
      have h2 : n ≤ x := by omega
      have h3 : ¬ x = n := by omega
      simp [insGo, this, h2, h3]
  | x :: a, h => by
    have h1 := h x (by simp)
    have ih := insGo_app n b hb a fun y hy => h y (by simp [hy])
    have h2 : ¬ n ≤ x := by omega
    have h3 : ¬ x = n := by omega
    simp [insGo, ih, h2, h3]

/-- A number that is there already stays there once. -/
theorem insGo_mem (n : Int) : ∀ (l : List Int), l.Pairwise (· < ·) → n ∈ l → insGo n l false = l
  | [], _, h => by simp at h
  | x :: r, hp, h => by
    obtain ⟨h1, h2⟩ := List.pairwise_cons.1 hp
    by_cases e : x = n
    · subst e
      have := insGo_done x r fun y hy => by have := h1 y hy; omega
      simp [insGo, this]
    · have hr : n ∈ r := by
        rcases List.mem_cons.1 h with h | h
        · exact absurd h.symm e
        · exact h
      have h3 := h1 n hr
      have h4 : ¬ n ≤ x := by omega
      simp [insGo, e, h4, insGo_mem n r h2 hr]

/-- A candidate's votes go up. -/
theorem votes_up {m : M} (h : okVotes m = true) : m.votes.Pairwise (· < ·) := by
  simp only [okVotes, Bool.and_eq_true, List.all_eq_true, List.mem_range] at h
  obtain ⟨⟨h, _⟩, _⟩ := h
  have hs : ∀ i, i + 1 < m.votes.length → m.votes.getD i 0 < m.votes.getD (i + 1) 0 := by
    intro i hi
    have := h (i + 1) hi
    simp only [vOK, Bool.and_eq_true, Bool.or_eq_true, decide_eq_true_eq, Nat.add_sub_cancel] at this
    omega
  clear h
  generalize m.votes = l at hs
  induction l with
  | nil => exact .nil
  | cons a r ih =>
    have ihr := ih fun i hi => by have := hs (i + 1) (by simp; omega); simpa using this
    refine List.pairwise_cons.2 ⟨?_, ihr⟩
    intro b hb
    cases r with
    | nil => simp at hb
    | cons c r =>
      have h0 := hs 0 (by simp)
      simp at h0
      rcases List.mem_cons.1 hb with e | hb
      · omega
      · have := (List.pairwise_cons.1 ihr).1 b hb
        omega

/-- The leader of a term, as it begins. -/
def leadM (m : M) : M := { m with role := 3, votes := [], next := List.replicate m.members.toNat (m.log.length : Int), mtch := (List.replicate m.members.toNat (0 : Int)).set (m.id - 1).toNat m.log.length }

def wonM (m : M) : M := if maj m.members ≤ (m.votes.length : Int) then leadM m else m

def voteReplyX (m : M) (to : Int) (ok : Bool) : X := ⟨2, m.id, to, m.term, 0, 0, 0, ok, []⟩

def newer (m : M) (x : X) : M := if m.term < x.term then followM m x.term else m

def grants (m : M) (x : X) : Bool := decide (x.term = m.term) && (decide (m.vote = 0) || decide (m.vote = x.frm)) && upTo m x.index x.logTerm

def castM (m : M) (x : X) : M := if grants m x then { m with vote := x.frm } else m

def voteR (m : M) (x : X) : M × Option X := if concernsX m x 1 then (castM (newer m x) x, some (voteReplyX (castM (newer m x) x) x.frm (grants (newer m x) x))) else (m, none)

def countR (m : M) (x : X) : M :=
  if concernsX m x 2 then
    if m.term < x.term then followM m x.term
    else if x.term < m.term ∨ m.role ≠ 2 ∨ x.ok = false ∨ x.frm ∈ m.votes then m
    else wonM { m with votes := insGo x.frm m.votes false }
  else m

def askX (m : M) (to : Int) : X := ⟨1, m.id, to, m.term, m.log.length, termN m.log m.log.length, 0, false, []⟩

def candM (m : M) : M := { m with term := m.term + 1, vote := m.id, role := 2, votes := [m.id] }

def asksN (m : M) : Nat → List X
  | 0 => []
  | k + 1 => if ((k + 1 : Nat) : Int) = m.id then asksN m k else asksN m k ++ [askX m (k + 1 : Nat)]

def asks (m : M) : List X := asksN m m.members.toNat

def timeoutR (m : M) : M × List X := if okM m = true ∧ m.role ≠ 3 ∧ m.term ≠ 1099511627776 then (wonM (candM m), asks (candM m)) else (m, [])

def restartR (m : M) : M := if okM m then ⟨m.id, m.members, m.term, m.vote, m.log, 1, 0, [], [], []⟩ else m

end Go.Dv.Try
