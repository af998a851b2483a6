/-
  Strings in byte order: comparisons as facts of an order; sorting by insertion.
-/
import Derived.Test.YtkpadkncediliaaStep
import Derived.Lib.Strings
import Derived.WideShapes
set_option linter.unusedVariables false
set_option linter.unusedSimpArgs false
namespace Go.Dv

/-- Is a ahead of b? -/
def slt (a b : ByteArray) : Bool := Op.bytesLess a.toList b.toList

theorem bytesLess_iff : ∀ (x y : List UInt8), Op.bytesLess x y = true ↔ x < y
  | _, [] => by simp [Op.bytesLess]
  | [], _ :: _ => by simp [Op.bytesLess]
  | a :: x, b :: y => by
    simp only [Op.bytesLess, Bool.or_eq_true, Bool.and_eq_true, decide_eq_true_eq, beq_iff_eq, List.cons_lt_cons_iff, bytesLess_iff x y]

theorem slt_iff {a b : ByteArray} : slt a b = true ↔ a.data.toList < b.data.toList := by
  unfold slt
  rw [bytesLess_iff, Lib.toList_data, Lib.toList_data]

theorem slt_irrefl (a : ByteArray) : slt a a = false := by
  cases h : slt a a with
  | false => rfl
  | true => exact absurd (slt_iff.1 h) (List.lt_irrefl _)

theorem slt_trans {a b c : ByteArray} (h : slt a b = true) (k : slt b c = true) : slt a c = true :=
  slt_iff.2 (List.lt_trans (slt_iff.1 h) (slt_iff.1 k))

theorem slt_asymm {a b : ByteArray} (h : slt a b = true) : slt b a = false := by
  cases k : slt b a with
  | false => rfl
  | true => have := slt_trans h k; rw [slt_irrefl] at this; cases this

theorem bytes_eq {a b : ByteArray} (h : a.data.toList = b.data.toList) : a = b := Go.WideShapes.bytes_inj h

theorem slt_tri {a b : ByteArray} (h : slt a b = false) (k : slt b a = false) : a = b := by
  have h1 : ¬ a.data.toList < b.data.toList := fun x => by rw [slt_iff.2 x] at h; cases h
  have h2 : ¬ b.data.toList < a.data.toList := fun x => by rw [slt_iff.2 x] at k; cases k
  exact bytes_eq (List.le_antisymm (List.not_lt.1 h2) (List.not_lt.1 h1))

/-- Two steps, the first of which may stand still. -/
theorem slt_of_le_of_lt {a b c : ByteArray} (h : slt b a = false) (k : slt b c = true) : slt a c = true := by
  cases x : slt a b with
  | true => exact slt_trans x k
  | false => rw [slt_tri x h]; exact k
theorem slt_of_lt_of_le {a b c : ByteArray} (h : slt a b = true) (k : slt c b = false) : slt a c = true := by
  cases x : slt b c with
  | true => exact slt_trans h x
  | false => rw [slt_tri k x]; exact h
theorem sle_trans {a b c : ByteArray} (h : slt b a = false) (k : slt c b = false) : slt c a = false := by
  cases x : slt c a with
  | false => rfl
  | true => have := slt_of_lt_of_le x h; rw [k] at this; cases this
theorem slt_ne {a b : ByteArray} (h : slt a b = true) : a ≠ b := by
  rintro rfl; rw [slt_irrefl] at h; cases h

theorem seq_iff (a b : ByteArray) : (a.toList == b.toList) = decide (a = b) := by
  rw [Lib.toList_data, Lib.toList_data]
  by_cases h : a = b
  · subst h; simp
  · have : ¬ a.data.toList = b.data.toList := fun e => h (bytes_eq e)
    rw [show decide (a = b) = false from by simp [h]]
    exact beq_eq_false_iff_ne.2 this

theorem bc_lss (a b : ByteArray) : bytesCmp .lss a b = some (.bool (slt a b)) := Eq.trans rfl rfl
theorem bc_geq (a b : ByteArray) : bytesCmp .geq a b = some (.bool (!slt a b)) := Eq.trans rfl rfl
theorem or_eq (a b : ByteArray) : (Op.bytesLess a.toList b.toList || a.toList == b.toList) = !slt b a := by
  rw [seq_iff]
  show (slt a b || decide (a = b)) = !slt b a
  cases h : slt a b with
  | true => rw [slt_asymm h]; rfl
  | false =>
    cases k : slt b a with
    | true => simp [(slt_ne k).symm]
    | false => simp [slt_tri h k]
theorem bc_leq (a b : ByteArray) : bytesCmp .leq a b = some (.bool (!slt b a)) := by
  have : bytesCmp .leq a b = some (.bool (Op.bytesLess a.toList b.toList || a.toList == b.toList)) := rfl
  rw [this, or_eq]
theorem bc_gtr (a b : ByteArray) : bytesCmp .gtr a b = some (.bool (slt b a)) := by
  have : bytesCmp .gtr a b = some (.bool !(Op.bytesLess a.toList b.toList || a.toList == b.toList)) := rfl
  rw [this, or_eq, Bool.not_not]
theorem bc_eql (a b : ByteArray) : bytesCmp .eql a b = some (.bool (decide (a = b))) := by
  have : bytesCmp .eql a b = some (.bool (a.toList == b.toList)) := rfl
  rw [this, seq_iff]
theorem bc_neq (a b : ByteArray) : bytesCmp .neq a b = some (.bool (!decide (a = b))) := by
  have : bytesCmp .neq a b = some (.bool !(a.toList == b.toList)) := rfl
  rw [this, seq_iff]

attribute [go_sem] bc_lss bc_geq bc_leq bc_gtr bc_eql bc_neq

/-! ### rows of strings, of ints -/

def strRow (l : List ByteArray) : List (List PV) := l.map fun s => [.str s]
def intRow (l : List Int) : List (List PV) := l.map fun n => [.int .i64 n]

theorem strRow_length (l : List ByteArray) : (strRow l).length = l.length := by simp [strRow]
theorem strRow_get (l : List ByteArray) (i : Nat) (h : i < l.length) : (strRow l)[i]? = some [.str l[i]] := by simp [strRow, h]
theorem strRow_append (l r : List ByteArray) : strRow (l ++ r) = strRow l ++ strRow r := by simp [strRow]
theorem strRow_take (l : List ByteArray) (n : Nat) : (strRow l).take n = strRow (l.take n) := by simp [strRow]
theorem strRow_drop (l : List ByteArray) (n : Nat) : (strRow l).drop n = strRow (l.drop n) := by simp [strRow]
theorem strRow_nil : strRow [] = [] := rfl
theorem strRow_cons (x : ByteArray) (l : List ByteArray) : strRow (x :: l) = [.str x] :: strRow l := rfl
theorem allSz_strRow (l : List ByteArray) : allSz 1 (strRow l) = true := by simp [allSz, strRow]
theorem intRow_length (l : List Int) : (intRow l).length = l.length := by simp [intRow]
theorem intRow_get (l : List Int) (i : Nat) (h : i < l.length) : (intRow l)[i]? = some [.int .i64 l[i]] := by simp [intRow, h]
theorem allSz_intRow (l : List Int) : allSz 1 (intRow l) = true := by simp [allSz, intRow]

/-- The strings of a row. -/
def strsOf : List (List PV) → Option (List ByteArray)
  | [] => some []
  | [.str s] :: r => match strsOf r with
    | some l => some (s :: l)
    | none => none
  | _ => none

theorem strsOf_row : ∀ l, strsOf (strRow l) = some l
  | [] => rfl
  | x :: l => by simp only [strRow_cons, strsOf, strsOf_row l]

theorem strsOf_some : ∀ {xs : List (List PV)} {l : List ByteArray}, strsOf xs = some l → xs = strRow l
  | [], l, h => by simp only [strsOf, Option.some.injEq] at h; subst h; rfl
  | x :: r, l, h => by
    unfold strsOf at h
    split at h
    · rename_i e; cases e
    · rename_i s r' e
      cases e
      cases hr : strsOf r with
      | none => rw [hr] at h; cases h
      | some q => rw [hr] at h; simp only [Option.some.injEq] at h; subst h; rw [strsOf_some hr]; rfl
    · cases h

/-! ### sorting -/

def insStr (x : ByteArray) : List ByteArray → List ByteArray
  | [] => [x]
  | y :: r => if slt y x then y :: insStr x r else x :: y :: r

def sortStr : List ByteArray → List ByteArray
  | [] => []
  | x :: r => insStr x (sortStr r)

theorem insStr_perm (x : ByteArray) : ∀ l, (insStr x l).Perm (x :: l)
  | [] => List.Perm.refl _
  | y :: r => by
    unfold insStr
    split
    · exact ((insStr_perm x r).cons y).trans (List.Perm.swap x y r)
    · exact List.Perm.refl _

theorem sortStr_perm : ∀ l, (sortStr l).Perm l
  | [] => List.Perm.refl _
  | x :: r => (insStr_perm x _).trans ((sortStr_perm r).cons x)

theorem length_sortStr (l : List ByteArray) : (sortStr l).length = l.length := (sortStr_perm l).length_eq

/-- Ascending, equal ones let. -/
def Asc (l : List ByteArray) : Prop := l.Pairwise fun a b => slt b a = false

theorem insStr_asc (x : ByteArray) : ∀ {l}, Asc l → Asc (insStr x l)
  | [], _ => by simp [insStr, Asc]
  | y :: r, h => by
    obtain ⟨h1, h2⟩ := List.pairwise_cons.1 h
    unfold insStr
    split
    · rename_i hx
      refine List.pairwise_cons.2 ⟨fun z hz => ?_, insStr_asc x h2⟩
      rcases List.mem_cons.1 ((insStr_perm x r).mem_iff.1 hz) with rfl | hz
      · exact slt_asymm hx
      · exact h1 z hz
    · rename_i hx
      have hx : slt y x = false := by simpa using hx
      refine List.pairwise_cons.2 ⟨fun z hz => ?_, h⟩
      rcases List.mem_cons.1 hz with rfl | hz
      · exact hx
      · exact sle_trans hx (h1 z hz)

theorem sortStr_asc : ∀ l, Asc (sortStr l)
  | [] => List.Pairwise.nil
  | x :: r => insStr_asc x (sortStr_asc r)

/-- One order alone. -/
theorem asc_unique {l l' : List ByteArray} (h : Asc l) (h' : Asc l') (hp : l.Perm l') : l = l' :=
  List.Perm.eq_of_pairwise (le := fun a b => slt b a = false) (fun a b _ _ h k => slt_tri k h) h h' hp

theorem merge_sort (l : List ByteArray) : ((l.map fun s => s.data.toList).mergeSort fun x y => decide (x ≤ y)).map (fun b => (⟨b.toArray⟩ : ByteArray)) = sortStr l := by
  refine asc_unique ?_ (sortStr_asc l) ?_
  · have hs := List.pairwise_mergeSort (le := fun (x y : List UInt8) => decide (x ≤ y)) (fun a b c h k => by
      simp only [decide_eq_true_eq] at h k ⊢
      exact List.le_trans h k) (fun a b => by
      simp only [Bool.or_eq_true, decide_eq_true_eq]
      exact List.le_total a b) (l.map fun s => s.data.toList)
    unfold Asc
    rw [List.pairwise_map]
    refine hs.imp fun {a b} h => ?_
    simp only [decide_eq_true_eq] at h
    cases k : slt (⟨b.toArray⟩ : ByteArray) ⟨a.toArray⟩ with
    | false => rfl
    | true => exact absurd (slt_iff.1 k) (by simpa using List.not_lt.2 h)
  · refine ((List.mergeSort_perm _ _).map _).trans ?_
    rw [List.map_map]
    refine (List.Perm.of_eq ?_).trans (sortStr_perm l).symm
    conv => rhs; rw [← List.map_id l]
    rfl

end Go.Dv
