/-
  How data-level values stand for the model's values in a world: 'PRep', 'DRep', 'HRep', and how they are carried from world to world.
-/
import Derived.Test.YtphkbgjnhfidlaaGreatDv
set_option linter.unusedVariables false
set_option linter.unusedSimpArgs false
namespace Go.Dv

/-! ### small lemmas on the association lists -/

theorem aget_cons {α : Type} (k : Nat) (v : α) (r : List (Nat × α)) (i : Nat) : aget ((k, v) :: r) i = if k = i then some v else aget r i := by
  by_cases h : k = i <;> simp [aget, h]

theorem aget_eset (e : Env) (i : Nat) (d : DV) (k : Nat) : aget (eset e i d) k = if i = k then some d else aget e k := by
  induction e with
  | nil => simp [eset, aget_cons, aget]
  | cons x r ih =>
    obtain ⟨j, v⟩ := x
    by_cases h : j = i
    · subst h
      simp only [eset, beq_self_eq_true, if_true, aget_cons]
      split <;> rfl
    · have hb : (j == i) = false := by simpa using h
      simp only [eset, hb, Bool.false_eq_true, if_false]
      split
      · simp only [aget_cons]
      · simp only [aget_cons, ih]
        by_cases hj : j = k
        · subst hj
          have : ¬ i = j := fun e => h e.symm
          simp [this]
        · simp [hj]

theorem aget_adel {α : Type} (e : List (Nat × α)) (i k : Nat) : aget (adel e i) k = if i = k then none else aget e k := by
  induction e with
  | nil => simp [adel, aget]
  | cons x r ih =>
    obtain ⟨j, v⟩ := x
    by_cases h : j = i
    · subst h
      simp only [adel, beq_self_eq_true, if_true, ih, aget_cons]
      split <;> rfl
    · have hb : (j == i) = false := by simpa using h
      simp only [adel, hb, Bool.false_eq_true, if_false, aget_cons, ih]
      by_cases hj : j = k
      · subst hj
        have : ¬ i = j := fun e => h e.symm
        simp [this]
      · simp [hj]

theorem aget_adels {α : Type} (l : List Nat) : ∀ (e : List (Nat × α)) (k : Nat) (v : α), aget (adels e l) k = some v → aget e k = some v := by
  induction l with
  | nil => intro e k v h; exact h
  | cons i r ih =>
    intro e k v h
    have := ih _ _ _ h
    rw [aget_adel] at this
    split at this
    · cases this
    · exact this

theorem aget_hset (e : Heap) (i : Nat) (d : Blk) (k : Nat) : aget (hset e i d) k = if i = k then (aget e k).map (fun _ => d) else aget e k := by
  induction e with
  | nil => simp [hset, aget]
  | cons x r ih =>
    obtain ⟨j, v⟩ := x
    by_cases h : j = i
    · subst h
      simp only [hset, beq_self_eq_true, if_true, aget_cons]
      split <;> simp
    · have hb : (j == i) = false := by simpa using h
      simp only [hset, hb, Bool.false_eq_true, if_false, aget_cons, ih]
      by_cases hj : j = k
      · subst hj
        have : ¬ i = j := fun e => h e.symm
        simp [this]
      · simp [hj]

theorem aget_belowAll (c : Nat) (h : Heap) (k : Nat) (b : Blk) (hh : aget (belowAll c h) k = some b) : k < c ∧ ∃ b', aget h k = some b' := by
  induction h with
  | nil => simp [belowAll, aget] at hh
  | cons x r ih =>
    obtain ⟨j, v⟩ := x
    simp only [belowAll] at hh
    rw [aget_cons]
    split at hh
    · rw [aget_cons] at hh
      split at hh
      · rename_i h1 h2; subst h2; exact ⟨h1, v, by simp⟩
      · rename_i h1 h2
        rw [if_neg h2]
        exact ih hh
    · have := ih hh
      split
      · rename_i h1 h2; subst h2; exact absurd this.1 h1
      · exact this

theorem aget_belowAll_eq (c : Nat) (h : Heap) (k : Nat) (hk : k < c) : aget (belowAll c h) k = aget h k := by
  induction h with
  | nil => rfl
  | cons x r ih =>
    obtain ⟨j, v⟩ := x
    simp only [belowAll, aget_cons]
    split
    · rw [aget_cons, ih]
    · rename_i h1
      have : ¬ j = k := by omega
      rw [if_neg this, ih]

/-! ### mapO -/

theorem mapO_some {α β : Type} {f : α → Option β} : ∀ {l : List α} {r : List β}, mapO f l = some r → r.length = l.length ∧ ∀ (i : Nat) (a : α), l[i]? = some a → ∃ b, r[i]? = some b ∧ f a = some b
  | [], r, h => by simp [mapO] at h; subst h; exact ⟨rfl, by simp⟩
  | a :: l, r, h => by
    simp only [mapO] at h
    cases hf : f a with
    | none => simp [hf] at h
    | some b =>
      simp only [hf] at h
      cases hm : mapO f l with
      | none => simp [hm] at h
      | some bs =>
        simp only [hm, Option.some.injEq] at h
        subst h
        obtain ⟨h1, h2⟩ := mapO_some hm
        refine ⟨by simp [h1], fun i x hx => ?_⟩
        cases i with
        | zero => simp only [List.getElem?_cons_zero, Option.some.injEq] at hx; subst hx; exact ⟨b, by simp, hf⟩
        | succ i => simp only [List.getElem?_cons_succ] at hx ⊢; exact h2 i x hx

/-! ### values in a world -/

inductive PRep (w : World) (U : Nat → Prop) : PV → Value → Prop
  | int (k : IntKind) (n : Int) : PRep w U (.int k n) (.int k n)
  | bool (b : Bool) : PRep w U (.bool b) (.bool b)
  | str (s : ByteArray) : PRep w U (.str s) (.string s)
  | none (full : Bool) (a : Option Addr) (c : Nat) (h : full = true → c = 0) : PRep w U (.slice full []) (.slice a 0 c)
  | slice (full : Bool) (xs : List (List PV)) (b off c sz : Nat) (arr : Array Value) (T : TypeId) (fz : Nat × Nat) (vs : Nat → Nat → Value)
      (hne : 0 < xs.length) (hc : xs.length ≤ c) (hf : full = true → c = xs.length) (hb : w.heap[b]? = some (.cells arr T fz)) (hu : ¬ U b)
      (hsz : ∀ x ∈ xs, x.length = sz)
      (hv : ∀ i x j y, xs[i]? = some x → x[j]? = some y → arr[off + i * sz + j]? = some (vs i j))
      (h1 : ∀ i x j y, xs[i]? = some x → x[j]? = some y → (vs i j).oneCell' = true)
      (hr : ∀ i x j y, xs[i]? = some x → x[j]? = some y → PRep w U y (vs i j)) :
      PRep w U (.slice full xs) (.slice (some ⟨b, off, .none⟩) xs.length c)
  | vptr (cs : List PV) (b off : Nat) (arr : Array Value) (T : TypeId) (fz : Nat × Nat) (vs : Nat → Value)
      (hb : w.heap[b]? = some (.cells arr T fz)) (hu : ¬ U b)
      (hv : ∀ j y, cs[j]? = some y → arr[off + j]? = some (vs j))
      (h1 : ∀ j y, cs[j]? = some y → (vs j).oneCell' = true)
      (hr : ∀ j y, cs[j]? = some y → PRep w U y (vs j)) :
      PRep w U (.vptr cs) (.pointer (some ⟨b, off, .none⟩))
  | func (f : FuncId) (caps : List PV) (vs : Array Value) (hl : vs.size = caps.length)
      (hr : ∀ j y, caps[j]? = some y → PRep w U y (vs.getD j undef)) : PRep w U (.func f caps) (.func (.func f) #[] vs)
  | agg (cs : List PV) (vs : Array Value) (hl : vs.size = cs.length) (h1 : ∀ j y, cs[j]? = some y → (vs.getD j undef).oneCell' = true)
      (hr : ∀ j y, cs[j]? = some y → PRep w U y (vs.getD j undef)) : PRep w U (.agg cs) (.agg vs)
  | tuple (cs : List PV) (vs : Array Value) (hl : vs.size = cs.length)
      (hr : ∀ j y, cs[j]? = some y → PRep w U y (vs.getD j undef)) : PRep w U (.tuple cs) (.tuple vs)
  | undef (v : Value) : PRep w U .undef v
  | z (a : Option Addr) (c : Nat) : PRep w U (.z a.isNone) (.slice a 0 c)

structure Keeps (w : World) (U : Nat → Prop) (w' : World) (U' : Nat → Prop) : Prop where
  block : ∀ b o, ¬ U b → w.heap[b]? = some o → w'.heap[b]? = some o
  out : ∀ b o, ¬ U b → w.heap[b]? = some o → ¬ U' b

theorem PRep.keep {w w' : World} {U U' : Nat → Prop} (h : Keeps w U w' U') {p : PV} {v : Value} (hp : PRep w U p v) : PRep w' U' p v := by
  induction hp with
  | int k n => exact .int k n
  | bool b => exact .bool b
  | str s => exact .str s
  | none full a c h => exact .none full a c h
  | slice full xs b off c sz arr T fz vs hne hc hf hb hu hsz hv h1 hr ih =>
    exact .slice full xs b off c sz arr T fz vs hne hc hf (h.block _ _ hu hb) (h.out _ _ hu hb) hsz hv h1 ih
  | vptr cs b off arr T fz vs hb hu hv h1 hr ih => exact .vptr cs b off arr T fz vs (h.block _ _ hu hb) (h.out _ _ hu hb) hv h1 ih
  | func f caps vs hl hr ih => exact .func f caps vs hl ih
  | agg cs vs hl h1 hr ih => exact .agg cs vs hl h1 ih
  | tuple cs vs hl hr ih => exact .tuple cs vs hl ih
  | undef v => exact .undef v
  | z a c => exact .z a c

theorem PRep.oneCell {w : World} {U : Nat → Prop} {p : PV} {v : Value} (hp : PRep w U p v) (h : p.isCell = true) : v.oneCell' = true := by
  cases hp <;> first | rfl | simp [PV.isCell] at h

abbrev Place := Nat → Option (Nat × Nat)

def RefOK (β : Place) (id off n sz : Nat) (xs : List (List PV)) (v : Value) : Prop :=
  (xs = [] ∧ β id = none ∧ ∃ a, v = .slice a 0 0) ∨
  ∃ b cap a, β id = some (b, cap) ∧ v = .slice a n (cap - off) ∧ (0 < n ∨ off = 0 → a = some ⟨b, off * sz, none⟩)

inductive DRep (w : World) (U : Nat → Prop) (β : Place) (H : Heap) (nx : Nat) : DV → Value → Prop
  | p (v : PV) (x : Value) (h : PRep w U v x) : DRep w U β H nx (.p v) x
  | agg (cs : List DV) (vs : Array Value) (hl : vs.size = cs.length) (h1 : ∀ j y, cs[j]? = some y → (vs.getD j undef).oneCell' = true)
      (hr : ∀ j y, cs[j]? = some y → DRep w U β H nx y (vs.getD j undef)) : DRep w U β H nx (.agg cs) (.agg vs)
  | tuple (cs : List DV) (vs : Array Value) (hl : vs.size = cs.length)
      (hr : ∀ j y, cs[j]? = some y → DRep w U β H nx y (vs.getD j undef)) : DRep w U β H nx (.tuple cs) (.tuple vs)
  | ref (id ver off n : Nat) (v : Value) (hid : id < nx) (hc : v.oneCell' = true)
      (h : ∀ fz sz xs, aget H id = some (.row fz sz xs) → ver ≤ xs.length ∧ (ver = xs.length → off + n ≤ xs.length → RefOK β id off n sz xs v)) : DRep w U β H nx (.ref id ver off n) v
  | ptr (id off : Nat) (v : Value) (hid : id < nx) (hc : v.oneCell' = true)
      (h : ∀ fz cs, aget H id = some (.var fz cs) → ∃ b c, β id = some (b, c) ∧ v = .pointer (some ⟨b, off, none⟩))
      (hm : ∀ fz kv, aget H id = some (.map fz kv) → ∃ b c, β id = some (b, c) ∧ v = .map (some b)) : DRep w U β H nx (.ptr id off) v
  | eptr (id ver i off : Nat) (v : Value) (hid : id < nx) (hc : v.oneCell' = true)
      (h : ∀ fz sz xs, aget H id = some (.row fz sz xs) → ver ≤ xs.length ∧ (ver = xs.length → i < xs.length → ∃ b c, β id = some (b, c) ∧ v = .pointer (some ⟨b, i * sz + off, none⟩))) : DRep w U β H nx (.eptr id ver i off) v
  | func (f : FuncId) (caps : List DV) (vs : Array Value) (hl : vs.size = caps.length)
      (hr : ∀ j y, caps[j]? = some y → DRep w U β H nx y (vs.getD j undef)) : DRep w U β H nx (.func f caps) (.func (.func f) #[] vs)

structure Evo (β : Place) (H : Heap) (nx : Nat) (β' : Place) (H' : Heap) (nx' : Nat) : Prop where
  next : nx ≤ nx'
  row : ∀ id, id < nx → ∀ fz sz xs, aget H' id = some (.row fz sz xs) → ∃ fz0 xs0, aget H id = some (.row fz0 sz xs0) ∧ xs0.length ≤ xs.length ∧ (xs0.length = xs.length → β' id = β id)
  var : ∀ id, id < nx → ∀ fz cs, aget H' id = some (.var fz cs) → ∃ fz0 cs0, aget H id = some (.var fz0 cs0) ∧ β' id = β id
  map : ∀ id, id < nx → ∀ fz kv, aget H' id = some (.map fz kv) → ∃ fz0 kv0, aget H id = some (.map fz0 kv0) ∧ β' id = β id

theorem Evo.refl (β : Place) (H : Heap) (nx : Nat) : Evo β H nx β H nx :=
  ⟨Nat.le_refl _, fun _ _ fz _ xs h => ⟨fz, xs, h, Nat.le_refl _, fun _ => rfl⟩, fun _ _ fz cs h => ⟨fz, cs, h, rfl⟩, fun _ _ fz cs h => ⟨fz, cs, h, rfl⟩⟩

theorem RefOK.congr {β β' : Place} {id off n sz : Nat} {xs xs' : List (List PV)} {v : Value} (hl : xs.length = xs'.length) (hb : β' id = β id) (h : RefOK β id off n sz xs v) : RefOK β' id off n sz xs' v := by
  rcases h with ⟨rfl, h2, h3⟩ | h
  · left; exact ⟨by simpa using hl.symm, by rw [hb, h2], h3⟩
  · right; rw [hb]; exact h

theorem DRep.evo {w w' : World} {U U' : Nat → Prop} {β β' : Place} {H H' : Heap} {nx nx' : Nat} (hk : Keeps w U w' U') (he : Evo β H nx β' H' nx')
    {d : DV} {v : Value} (h : DRep w U β H nx d v) : DRep w' U' β' H' nx' d v := by
  induction h with
  | p v x h => exact .p v x (h.keep hk)
  | agg cs vs hl h1 hr ih => exact .agg cs vs hl h1 ih
  | tuple cs vs hl hr ih => exact .tuple cs vs hl ih
  | func f cs vs hl hr ih => exact .func f cs vs hl ih
  | ref id ver off n v hid hc h =>
    refine .ref id ver off n v (Nat.lt_of_lt_of_le hid he.next) hc fun fz sz xs hx => ?_
    obtain ⟨fz0, xs0, h0, hle, hb⟩ := he.row id hid fz sz xs hx
    obtain ⟨h1, h2⟩ := h _ _ _ h0
    refine ⟨by omega, fun hv hn => ?_⟩
    have e : xs0.length = xs.length := by omega
    exact (h2 (by omega) (by omega)).congr e (hb e)
  | ptr id off v hid hc h hm =>
    refine .ptr id off v (Nat.lt_of_lt_of_le hid he.next) hc (fun fz cs hx => ?_) (fun fz kv hx => ?_)
    · obtain ⟨fz0, cs0, h0, hb⟩ := he.var id hid fz cs hx
      rw [hb]
      exact h _ _ h0
    · obtain ⟨fz0, kv0, h0, hb⟩ := he.map id hid fz kv hx
      rw [hb]
      exact hm _ _ h0
  | eptr id ver i off v hid hc h =>
    refine .eptr id ver i off v (Nat.lt_of_lt_of_le hid he.next) hc fun fz sz xs hx => ?_
    obtain ⟨fz0, xs0, h0, hle, hb⟩ := he.row id hid fz sz xs hx
    obtain ⟨h1, h2⟩ := h _ _ _ h0
    refine ⟨by omega, fun hv hi => ?_⟩
    have e : xs0.length = xs.length := by omega
    rw [hb e]
    exact h2 (by omega) (by omega)

theorem DRep.oneCell {w : World} {U : Nat → Prop} {β : Place} {H : Heap} {nx : Nat} {d : DV} {v : Value} (hp : DRep w U β H nx d v) (h : d.isCell = true) : v.oneCell' = true := by
  cases hp with
  | p v x hp => exact hp.oneCell h
  | ref _ _ _ _ _ _ hc _ => exact hc
  | ptr _ _ _ _ hc _ _ => exact hc
  | eptr _ _ _ _ _ _ hc _ => exact hc
  | func => rfl
  | agg => simp [DV.isCell] at h
  | tuple => simp [DV.isCell] at h

def BlkRep (w : World) (U : Nat → Prop) (β : Place) (H : Heap) (nx : Nat) (B : Nat) (id : Nat) : Blk → Prop
  | .var _ cs => ∃ b c arr T, β id = some (b, c) ∧ B ≤ b ∧ w.heap[b]? = some (.cells arr T (0, 0)) ∧ arr.size = cs.length ∧
      (∀ j d, cs[j]? = some d → (arr.getD j undef).oneCell' = true) ∧ ∀ j d, cs[j]? = some d → DRep w U β H nx d (arr.getD j undef)
  | .row _ sz xs => (xs = [] ∧ β id = none) ∨ ∃ b cap arr T, β id = some (b, cap) ∧ B ≤ b ∧ w.heap[b]? = some (.cells arr T (0, 0)) ∧ arr.size = cap * sz ∧ xs.length ≤ cap ∧
      (∀ x ∈ xs, x.length = sz) ∧ ∃ vs : Nat → Nat → Value, (∀ i x j y, xs[i]? = some x → x[j]? = some y → arr[i * sz + j]? = some (vs i j)) ∧
      (∀ i x j y, xs[i]? = some x → x[j]? = some y → (vs i j).oneCell' = true) ∧ ∀ i x j y, xs[i]? = some x → x[j]? = some y → PRep w U y (vs i j)
  | .map _ kv => ∃ b c es clock, β id = some (b, c) ∧ B ≤ b ∧ w.heap[b]? = some (.map es clock) ∧ es.size = kv.length ∧
      ∀ (j : Nat) (k : Int) (p : PV), kv[j]? = some (k, p) → ∃ e, es[j]? = some e ∧ e.key = .int .i64 k ∧ p.plain = true ∧ p.isCell = true ∧ PRep w U p e.val

def Blk.fz : Blk → Bool
  | .var f _ => f
  | .row f _ _ => f
  | .map f _ => f

def Own (U0 : Nat → Prop) (β : Place) (H : Heap) : Nat → Prop := fun b => U0 b ∨ ∃ id blk c, aget H id = some blk ∧ blk.fz = false ∧ β id = some (b, c)

structure HRep (w : World) (U0 : Nat → Prop) (β : Place) (H : Heap) (nx : Nat) (B : Nat) : Prop where
  lt : ∀ id blk, aget H id = some blk → id < nx
  blk : ∀ id blk, aget H id = some blk → BlkRep w (Own U0 β H) β H nx B id blk
  inj : ∀ id blk id' blk' b c c', aget H id = some blk → aget H id' = some blk' → β id = some (b, c) → β id' = some (b, c') → id = id'

end Go.Dv
