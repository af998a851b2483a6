/-
  Operations, part 6: slice expressions, addresses, literals, comparisons, the rest.
-/
import Derived.Test.YtphkbgjnhfidlaaGreatOpse
set_option linter.unusedVariables false
set_option linter.unusedSimpArgs false
namespace Go.Dv
open Go.RowKit

section
variable {P : Program} {B : Nat} {w0 : World} {U0 : Nat → Prop} {β : Place} {H : Heap} {nx : Nat} {w : World}

theorem sizeIs_info {t : TypeId} {n : Nat} (h : sizeIs P t n = true) : ∃ i, P.info? t = some i ∧ i.size = n := by
  unfold sizeIs at h
  cases hi : P.info? t with
  | none => rw [hi] at h; cases h
  | some i => rw [hi] at h; exact ⟨i, rfl, by simpa using h⟩

/-! ### slice expressions -/

def Bound (x : Option Value) (i : Option Int) : Prop := match x, i with
  | none, none => True
  | some v, some n => ∃ k, v = .int k n
  | _, _ => False

def Low (x : Option Value) (l : Int) : Prop := match x with
  | none => l = 0
  | some v => ∃ k, v = .int k l

theorem run_bounds (isSlice : Bool) (len cap : Nat) {lo hi mx : Option Value} {l : Int} {h m : Option Int} (hl : Low lo l) (hh : Bound hi h) (hm : Bound mx m) (hmh : mx.isSome = true → hi.isSome = true)
    (h0 : 0 ≤ l) (h1 : l ≤ h.getD len) (h2 : h.getD len ≤ m.getD cap) (h3 : m.getD cap ≤ cap) :
    (Instr.sliceBounds isSlice len cap lo hi mx).run P w = .ok (l.toNat, (h.getD (len : Int)).toNat, (m.getD (cap : Int)).toNat) w := by
  have sb : ∀ (k : IntKind) (n : Int) (y : Nat) (code : BoundsCode), 0 ≤ n → n ≤ y → (Instr.sliceBound (.int k n) y code).run P w = .ok n.toNat w := fun k n y code a b => run_sliceBound w k n y code a b
  cases mx with
  | none =>
    cases m with
    | some _ => exact hm.elim
    | none =>
    simp only [Option.getD_none] at h2 h3 ⊢
    cases hi with
    | none =>
      cases h with
      | some _ => exact hh.elim
      | none =>
      simp only [Option.getD_none] at h1 h2 ⊢
      cases lo with
      | none => obtain rfl : l = 0 := hl; simp [Instr.sliceBounds]
      | some v =>
        obtain ⟨k, rfl⟩ := hl
        simp [Instr.sliceBounds, sb k l len .sliceB h0 (by omega)]
    | some v =>
      cases h with
      | none => exact hh.elim
      | some n =>
      obtain ⟨k, rfl⟩ := hh
      simp only [Option.getD_some] at h1 h2 ⊢
      have hs := sb k n cap (if isSlice then .sliceAcap else .sliceAlen) (by omega) (by omega)
      cases lo with
      | none => obtain rfl : l = 0 := hl; simp [Instr.sliceBounds, hs]
      | some v =>
        obtain ⟨k', rfl⟩ := hl
        simp [Instr.sliceBounds, hs, sb k' l n.toNat .sliceB h0 (by omega)]
  | some vm =>
    cases m with
    | none => exact hm.elim
    | some mm =>
    obtain ⟨km, rfl⟩ := hm
    cases hi with
    | none => simp at hmh
    | some v =>
      cases h with
      | none => exact hh.elim
      | some n =>
      obtain ⟨k, rfl⟩ := hh
      simp only [Option.getD_some] at h1 h2 h3 ⊢
      have hs0 := sb km mm cap (if isSlice then .slice3Acap else .slice3Alen) (by omega) (by omega)
      have hs := sb k n mm.toNat .slice3B (by omega) (by omega)
      cases lo with
      | none => obtain rfl : l = 0 := hl; simp [Instr.sliceBounds, hs, hs0]
      | some v =>
        obtain ⟨k', rfl⟩ := hl
        simp [Instr.sliceBounds, hs, hs0, sb k' l n.toNat .slice3C h0 (by omega)]

theorem run_sliceAt {t e : TypeId} (ht : P.underlying t = some (.slice e)) {sz : Nat} (hs : sizeIs P e sz = true) {a : Option Addr} {len cap : Nat} {lo hi mx : Option Value} {l h m : Nat}
    (hb : (Instr.sliceBounds true len cap lo hi mx).run P w = .ok (l, h, m) w) :
    (Instr.sliceAt t (.slice a len cap) lo hi mx).run P w = .ok (.slice (if m = l then a else a.map (·.add (l * sz))) (h - l) (m - l)) w := by
  simp [Instr.sliceAt, Instr.slice, run_underlying ht, hb, run_sizeOf hs]

theorem run_sliceAt_str {t : TypeId} (ht : P.underlying t = some .string) {s : ByteArray} {lo hi : Option Value} {l h m : Nat}
    (hb : (Instr.sliceBounds false s.size s.size lo hi none).run P w = .ok (l, h, m) w) :
    (Instr.sliceAt t (.string s) lo hi none).run P w = .ok (.string (s.extract l h)) w := by
  simp [Instr.sliceAt, Instr.slice, run_underlying ht, hb]

theorem PRep.sub {U : Nat → Prop} {full : Bool} {xs : List (List PV)} {a : Option Addr} {c sz l h m : Nat} (hp : PRep w U (.slice full xs) (.slice a xs.length c)) (hs : allSz sz xs = true) (f : Bool)
    (hlh : l ≤ h) (hhx : h ≤ xs.length) (hhm : h ≤ m) (hf : f = true → m = h) : PRep w U (.slice f ((xs.take h).drop l)) (.slice (if m = l then a else a.map (·.add (l * sz))) (h - l) (m - l)) := by
  have hlen : ((xs.take h).drop l).length = h - l := by simp; omega
  by_cases he : h = l
  · subst he
    have : (xs.take h).drop h = [] := List.eq_nil_of_length_eq_zero (by omega)
    rw [this, Nat.sub_self]
    exact .none f _ _ fun e => by rw [hf e]; omega
  · rw [if_neg (by omega)]
    generalize hx : Value.slice a xs.length c = x at hp
    cases hp with
    | none => simp at hhx; omega
    | slice _ _ b off c' sz' arr T fz vs hne hc hf0 hb hu hsz hv h1 hr =>
      cases hx
      have hss : sz' = sz := by
        rw [← hsz _ (List.getElem_mem hne), allSz_mem hs _ (List.getElem_mem hne)]
      subst hss
      have hget : ∀ i x, ((xs.take h).drop l)[i]? = some x → xs[l + i]? = some x := by
        intro i x hx
        rw [List.getElem?_drop, List.getElem?_take] at hx
        split at hx
        · exact hx
        · cases hx
      have := PRep.slice (w := w) (U := U) f ((xs.take h).drop l) b (off + l * sz') (m - l) sz' arr T fz (fun i j => vs (l + i) j) (by omega) (by omega) (fun e => by rw [hf e]; omega) hb hu
        (fun x hx => hsz x (List.mem_of_mem_take (List.mem_of_mem_drop hx)))
        (fun i x j y hx hy => by have := hv _ x j y (hget i x hx) hy; rw [← this]; congr 1; rw [Nat.add_mul]; omega)
        (fun i x j y hx hy => h1 _ x j y (hget i x hx) hy) (fun i x j y hx hy => hr _ x j y (hget i x hx) hy)
      rw [hlen] at this
      rw [Option.map_some, add_off]
      exact this

theorem op_sliceS {t : TypeId} (ht : P.underlying t = some .string) (m : Mem B w0 U0 β H nx w) {b : ByteArray} {lo hi : Option Value} {l : Int} {h : Option Int}
    (hl : Low lo l) (hh : Bound hi h) {r : DV} (hr : sliceStr b l h = some r) :
    ∃ y w', (Instr.sliceAt t (.string b) lo hi none).run P w = .ok y w' ∧ Good B w0 U0 H nx β w r H nx y w' := by
  unfold sliceStr at hr
  simp only at hr
  split at hr
  · rename_i hc
    cases hr
    exact ⟨_, _, run_sliceAt_str ht (run_bounds false b.size b.size (m := none) hl hh trivial (by simp) hc.1 hc.2.1 hc.2.2 (by simp)), good_same m (.p _ _ (.str _))⟩
  · cases hr

theorem op_slice {t e : TypeId} {sz : Nat} (ht : P.underlying t = some (.slice e)) (hs : sizeIs P e sz = true) (m : Mem B w0 U0 β H nx w) {v : DV} {x : Value} (hx : DRep w (Own U0 β H) β H nx v x) {lo hi mx : Option Value} {l : Int} {h mm : Option Int}
    (hl : Low lo l) (hh : Bound hi h) (hm : Bound mx mm) (hmh : mx.isSome = true → hi.isSome = true) {r : DV} {ids : List Nat} (hr : sliceDV H sz v l h mm = some (r, ids)) :
    ∃ y w', (Instr.sliceAt t x lo hi mx).run P w = .ok y w' ∧ Good B w0 U0 H nx β w r (frz H ids) nx y w' := by
  have hmm : mm.isSome = true → h.isSome = true := by
    intro e
    cases mm with
    | none => cases e
    | some _ =>
      cases mx with
      | none => exact hm.elim
      | some _ =>
        have := hmh rfl
        cases hi with
        | none => cases this
        | some _ => cases h with
          | none => exact hh.elim
          | some _ => rfl
  unfold sliceDV at hr
  split at hr
  · -- a pure slice
    rename_i full xs
    cases hx with | p _ _ hp =>
    obtain ⟨a, c, rfl, hc, hfull⟩ := hp.slice_val
    simp only at hr
    split at hr
    · rename_i hcond
      obtain ⟨hsz, h0, h1, h2, h3⟩ := hcond
      cases hr
      have hm2 : (mm.getD (c : Int)) ≤ c := by
        cases mm with
        | none => simp
        | some q => simp only [Option.getD_some] at h3 ⊢; omega
      have hhm : h.getD (xs.length : Int) ≤ mm.getD (c : Int) := by
        cases mm with
        | none => simp only [Option.getD_none] at h2 h3 ⊢; omega
        | some q => simpa using h2
      have hb := run_bounds (P := P) (w := w) true xs.length c hl hh hm hmh h0 h1 hhm hm2
      refine ⟨_, _, run_sliceAt ht hs hb, good_same m (.p _ _ ?_)⟩
      refine hp.sub hsz _ (by omega) (by omega) (by omega) fun hf => ?_
      cases mm with
      | none =>
        simp only [Bool.and_eq_true, decide_eq_true_eq, Option.getD_none] at hf ⊢
        have := hfull hf.1
        omega
      | some q => simp only [decide_eq_true_eq, Option.getD_some] at hf ⊢; rw [hf]
    · cases hr
  · -- an own row
    rename_i id ver off n
    split at hr
    · rename_i fz sz' xs hH
      simp only at hr
      split at hr
      · rename_i hcond
        obtain ⟨rfl, hver, hle, h0, h1, h2, h3⟩ := hcond
        have hx0 := hx
        cases hx with | ref _ _ _ _ _ hid hcell href =>
        have hval : ∃ a c, x = .slice a n c ∧ n ≤ c := by
          rcases (href _ _ _ hH).2 hver hle with ⟨rfl, _, a, rfl⟩ | ⟨b, cap, a, hb, rfl, _⟩
          · simp at hle; obtain ⟨rfl, rfl⟩ := hle; exact ⟨_, _, rfl, Nat.le_refl _⟩
          · rcases m.h.blk id _ hH with ⟨hx0, hn⟩ | ⟨b', cap', arr, T, g1, g2, g3, g4, g5, _⟩
            · rw [hb] at hn; cases hn
            · rw [hb] at g1; simp only [Option.some.injEq, Prod.mk.injEq] at g1; obtain ⟨rfl, rfl⟩ := g1
              exact ⟨_, _, rfl, by omega⟩
        obtain ⟨a, c, rfl, hnc⟩ := hval
        have hm2 : (mm.getD (c : Int)) ≤ c := by
          cases mm with
          | none => simp
          | some q => simp only [Option.getD_some] at h3 ⊢; omega
        have hhm : h.getD (n : Int) ≤ mm.getD (c : Int) := by
          cases mm with
          | none => simp only [Option.getD_none] at h2 h3 ⊢; omega
          | some q => simpa using h2
        have hb := run_bounds (P := P) (w := w) true n c hl hh hm hmh h0 h1 hhm hm2
        have hrun := run_sliceAt (a := a) ht hs hb
        cases mm with
        | some q =>
          simp only [Option.getD_some] at h1 h2 h3 hr hrun hb
          split at hr
          · rename_i heq
            cases hr
            refine ⟨_, _, hrun, good_less m (less_frz _ _) (.p _ _ ?_)⟩
            have hpur : pur H 1 (.ref id ver off n) = some (.slice false ((xs.drop off).take n)) := by simp [pur, hH, hver]; omega
            by_cases hlh : l = h.getD (n : Int)
            · have : (((xs.drop off).take (h.getD (n : Int)).toNat).drop l.toNat) = [] := by rw [hlh]; apply List.eq_nil_of_length_eq_zero; simp
              rw [this, ← hlh, ← heq, ← hlh, Nat.sub_self]
              exact .none true _ _ fun _ => by omega
            · rw [if_neg hlh]
              have hp := pur_ok m [id] 1 _ _ _ hpur (by simp [tch]) hx0
              have hlen : ((xs.drop off).take n).length = n := by simp; omega
              have hsz : allSz sz' ((xs.drop off).take n) = true := by
                rcases m.h.blk id _ hH with ⟨rfl, _⟩ | ⟨_, _, _, _, _, _, _, _, _, g6, _⟩
                · simp [allSz]
                · unfold allSz; rw [List.all_eq_true]; intro y hy
                  simp; exact g6 y (List.mem_of_mem_drop (List.mem_of_mem_take hy))
              have hp' : PRep w (Own U0 β (frz H [id])) (.slice false ((xs.drop off).take n)) (.slice a ((xs.drop off).take n).length c) := by rw [hlen]; exact hp
              have := hp'.sub (l := l.toNat) (h := (h.getD (n : Int)).toNat) (m := q.toNat) hsz true (by omega) (by rw [hlen]; omega) (by omega) (fun _ => by rw [heq])
              rw [List.take_take, Nat.min_eq_left (by omega)] at this
              exact this
          · cases hr
        | none =>
          simp only [Option.getD_none] at h1 h2 h3 hr hrun hb
          cases hr
          refine ⟨_, _, hrun, good_same m (.ref _ _ _ _ _ hid rfl fun fz2 sz2 xs2 hH2 => ?_)⟩
          rw [hH] at hH2; cases hH2
          refine ⟨by omega, fun _ hle2 => ?_⟩
          rcases (href _ _ _ hH).2 hver hle with ⟨rfl, hβ, a', ha'⟩ | ⟨b, cap, a', hb', ha', haddr⟩
          · simp at hle; obtain ⟨rfl, rfl⟩ := hle
            cases ha'
            left
            have e : ∀ X : Option Addr, Value.slice X ((h.getD ((0 : Nat) : Int)).toNat - l.toNat) (((0 : Nat) : Int).toNat - l.toNat) = .slice X 0 0 := by
              intro X
              rw [show (h.getD ((0 : Nat) : Int)).toNat - l.toNat = 0 from by omega, show ((0 : Nat) : Int).toNat - l.toNat = 0 from by omega]
            exact ⟨rfl, hβ, _, e _⟩
          · cases ha'
            right
            have hcle : n ≤ cap - off := hnc
            refine ⟨b, cap, _, hb', by rw [show ((cap - off : Nat) : Int).toNat - l.toNat = cap - (off + l.toNat) from by omega], fun hpos => ?_⟩
            have hoff : 0 < n ∨ off = 0 := by
              rcases hpos with h' | h'
              · left; omega
              · right; omega
            rw [haddr hoff]
            split
            · rename_i e
              rcases hpos with h' | h'
              · omega
              · have : l.toNat = 0 := by omega
                rw [this, Nat.add_zero]
            · rw [Option.map_some, add_off, Nat.add_mul]
      · cases hr
    · cases hr
  · cases hr

/-! ### addresses -/
theorem op_indexAddr {t e : TypeId} {sz : Nat} (ht : P.underlying t = some (.slice e)) (hs : sizeIs P e sz = true) (m : Mem B w0 U0 β H nx w) {v : DV} {x : Value} (hx : DRep w (Own U0 β H) β H nx v x) {k : IntKind} {n : Int} {r : DV}
    (hr : (match v with
      | .p (.slice _ xs) => if 0 ≤ n then match xs[n.toNat]? with
          | some y => if y.length = sz then some (.p (.vptr y)) else none
          | none => none
        else none
      | .ref id ver off q => match aget H id with
        | some (.row _ sz' xs) => if ver = xs.length ∧ off + q ≤ xs.length ∧ sz' = sz ∧ 0 ≤ n ∧ n < q then some (.eptr id ver (off + n.toNat) 0) else none
        | _ => none
      | _ => none : Option DV) = some r) :
    ∃ y, (Instr.indexAt t x (.int k n)).run P w = .ok y w ∧ DRep w (Own U0 β H) β H nx r y := by
  have run : ∀ (ad : Addr) (len cap : Nat), 0 ≤ n → n < len → (Instr.indexAt t (.slice (some ad) len cap) (.int k n)).run P w = .ok (.pointer (some (ad.add (n.toNat * sz)))) w := by
    intro ad len cap h0 h1
    simp [Instr.indexAt, run_underlying ht, asIntOf, h0, h1, run_sizeOf hs]
  split at hr
  · rename_i full xs hx
    cases hx with | p _ _ hp =>
    split at hr
    · rename_i h0
      cases hy : xs[n.toNat]? with
      | none => rw [hy] at hr; cases hr
      | some y =>
        rw [hy] at hr
        simp only at hr
        split at hr
        · rename_i hl
          cases hr
          have hlt := lt_of_get? hy
          cases hp with
          | none => simp at hlt
          | slice _ _ b off c sz' arr T fz vs hne hc hf hb hu hsz hv h1 hr =>
            have hss : sz' = sz := by rw [← hl, hsz y (List.mem_of_getElem? hy)]
            subst hss
            refine ⟨_, run ⟨b, off, none⟩ xs.length c h0 (by omega), .p _ _ ?_⟩
            rw [add_off]
            exact .vptr y b (off + n.toNat * sz') arr T fz (fun j => vs n.toNat j) hb hu (fun j p hp => hv _ _ _ _ hy hp) (fun j p hp => h1 _ _ _ _ hy hp) (fun j p hp => hr _ _ _ _ hy hp)
        · cases hr
    · cases hr
  · rename_i id ver off q hx
    split at hr
    · rename_i fz sz' xs hH
      split at hr
      · rename_i hc
        obtain ⟨hver, hle, rfl, h0, h1⟩ := hc
        cases hr
        cases hx with | ref _ _ _ _ _ hid hcell href =>
        rcases (href _ _ _ hH).2 hver hle with ⟨rfl, _, a, rfl⟩ | ⟨b, cap, a, hb, rfl, ha⟩
        · simp at hle; omega
        · obtain rfl := ha (.inl (by omega))
          refine ⟨_, run ⟨b, off * sz', none⟩ q (cap - off) h0 h1, .eptr _ _ _ _ _ hid rfl fun fz2 sz2 xs2 hH2 => ?_⟩
          rw [hH] at hH2; cases hH2
          refine ⟨by omega, fun _ _ => ⟨b, cap, hb, ?_⟩⟩
          rw [add_off, Nat.add_zero, Nat.add_mul]
      · cases hr
    · cases hr
  · cases hr

theorem run_fieldAt {t : TypeId} {fs : Array Field} {f : Nat} {fl : Field} {i : TypeInfo} (ht : P.underlying t = some (.struct fs)) (hf : fs[f]? = some fl) (hi : P.info? fl.type = some i) (hpos : 0 < i.size) (b o : Nat) :
    (Instr.fieldAt t (.pointer (some ⟨b, o, none⟩)) f).run P w = .ok (.pointer (some ⟨b, o + fl.offset, none⟩)) w := by
  have hne : ¬ i.size = 0 := by omega
  simp [Instr.fieldAt, run_underlying ht, hf, Instr.sureAddr, fieldPlace, sizeOf, typeInfo, hi, hne, add_off]

theorem op_fieldAddr {t : TypeId} {fs : Array Field} {f : Nat} {fl : Field} {i : TypeInfo} (ht : P.underlying t = some (.struct fs)) (hf : fs[f]? = some fl) (hi : P.info? fl.type = some i) (hpos : 0 < i.size)
    (m : Mem B w0 U0 β H nx w) {v : DV} {x : Value} (hx : DRep w (Own U0 β H) β H nx v x) {r : DV}
    (hr : (match v with
    | .ptr id o => match aget H id with | some (.var _ _) => some (.ptr id (o + fl.offset)) | _ => none
    | .p (.vptr cs) => some (.p (.vptr (cs.drop fl.offset)))
    | .eptr id ver i o => match aget H id with | some (.row _ _ xs) => if ver = xs.length ∧ i < xs.length then some (.eptr id ver i (o + fl.offset)) else none | _ => none
    | _ => none : Option DV) = some r) :
    ∃ y, (Instr.fieldAt t x f).run P w = .ok y w ∧ DRep w (Own U0 β H) β H nx r y := by
  split at hr
  · rename_i id o hx
    cases hx with | ptr _ _ _ hid hc h =>
    split at hr
    · rename_i fz cs hH
      cases hr
      obtain ⟨b, c, hb, rfl⟩ := h _ _ hH
      refine ⟨_, run_fieldAt ht hf hi hpos b o, .ptr _ _ _ hid rfl (fun fz2 cs2 hH2 => ⟨b, c, hb, rfl⟩) (fun fz2 kv2 hH2 => by rw [hH] at hH2; cases hH2)⟩
    · cases hr
  · rename_i cs hx
    cases hr
    cases hx with | p _ _ hp =>
    cases hp with | vptr _ b off arr T fz vs hb hu hv h1 hr =>
    refine ⟨_, run_fieldAt ht hf hi hpos b off, .p _ _ (.vptr _ b _ arr T fz (fun j => vs (fl.offset + j)) hb hu (fun j y hy => ?_) (fun j y hy => ?_) (fun j y hy => ?_))⟩
    all_goals rw [List.getElem?_drop] at hy
    · have := hv _ _ hy; rw [← Nat.add_assoc] at this; exact this
    · exact h1 _ _ hy
    · exact hr _ _ hy
  · rename_i id ver q o hx
    split at hr
    · rename_i fz sz xs hH
      split at hr
      · rename_i hc
        cases hr
        cases hx with | eptr _ _ _ _ _ hid hcell h =>
        obtain ⟨b, c, hb, rfl⟩ := (h _ _ _ hH).2 hc.1 hc.2
        refine ⟨_, run_fieldAt ht hf hi hpos b _, .eptr _ _ _ _ _ hid rfl fun fz2 sz2 xs2 hH2 => ?_⟩
        rw [hH] at hH2; cases hH2
        exact ⟨by omega, fun _ _ => ⟨b, c, hb, by rw [Nat.add_assoc]⟩⟩
      · cases hr
    · cases hr
  · cases hr

theorem op_arrAddr {t e : TypeId} {len sz : Nat} (ht : P.underlying t = some (.array len e)) (hs : sizeIs P e sz = true) (m : Mem B w0 U0 β H nx w) {id off : Nat} {fz : Bool} {cs : List DV} (hH : aget H id = some (.var fz cs)) {x : Value}
    (hx : DRep w (Own U0 β H) β H nx (.ptr id off) x) {k : IntKind} {n : Int} (h0 : 0 ≤ n) (h1 : n < len) :
    ∃ y, (Instr.indexAt t x (.int k n)).run P w = .ok y w ∧ DRep w (Own U0 β H) β H nx (.ptr id (off + n.toNat * sz)) y := by
  cases hx with | ptr _ _ _ hid hc h =>
  obtain ⟨b, c, hb, rfl⟩ := h _ _ hH
  refine ⟨_, by simp [Instr.indexAt, run_underlying ht, asIntOf, Instr.sureAddr, h0, h1, run_sizeOf hs]; rfl, .ptr _ _ _ hid rfl (fun fz2 cs2 hH2 => ⟨b, c, hb, ?_⟩) (fun fz2 kv2 hH2 => by rw [hH] at hH2; cases hH2)⟩
  rw [add_off]

theorem op_index {t : TypeId} (ht : P.underlying t = some .string) {s : ByteArray} {k : IntKind} {n : Int} (h0 : 0 ≤ n) {c : UInt8} (hc : s.data[n.toNat]? = some c) :
    (Instr.index t (.string s) (.int k n)).run P w = .ok (.int .u8 c.toNat) w := by
  have h : s[n.toNat]? = some c := by
    have hlt := Array.getElem?_eq_some_iff.1 hc
    obtain ⟨h1, h2⟩ := hlt
    have h1' : n.toNat < s.size := h1
    rw [getElem?_pos s n.toNat h1']
    exact congrArg some h2
  simp [Instr.index, run_underlying ht, asIntOf, h0, h]

end
end Go.Dv
