/-
  The word at the head of the translation, once for the seat: what the form of the claims asks of it. Printed by wip/mkstart.py.
-/
import Derived.Test.YtphkbgjnhfidlaaGreatRows
import Derived.WalkKit
import Derived.ProofKit
import Derived.JoinedOf
namespace Go.Proofs.YtphkbgjnhfidlaaGreat
open Go

def joinSp : List (List Char) → List Char
  | [] => []
  | [w] => w
  | w :: r => w ++ Char.ofNat 32 :: joinSp r

theorem ws_space (r : List Char) : wordsSigns (Char.ofNat 32 :: r) = [] :: wordsSigns r := rfl

theorem ws_char (c : Char) (h : c ≠ Char.ofNat 32) (r : List Char) {w : List Char} {ws : List (List Char)} (hr : wordsSigns r = w :: ws) : wordsSigns (c :: r) = (c :: w) :: ws := by
  unfold wordsSigns
  split
  · rename_i e; cases e
  · rename_i e; exact absurd (by injection e) h
  · rename_i e; injection e with e1 e2; subst e1; subst e2; rw [hr]

theorem ws_word : ∀ (w : List Char), (∀ c ∈ w, c ≠ Char.ofNat 32) → ∀ (r : List Char) (ws : List (List Char)) (v : List Char), wordsSigns r = v :: ws → wordsSigns (w ++ r) = (w ++ v) :: ws
  | [], _, r, ws, v, h => h
  | c :: w, hc, r, ws, v, h => ws_char c (hc c (by simp)) _ (ws_word w (fun d hd => hc d (by simp [hd])) r ws v h)

theorem ws_join : ∀ (l : List (List Char)), l ≠ [] → (∀ w ∈ l, ∀ c ∈ w, c ≠ Char.ofNat 32) → wordsSigns (joinSp l) = l
  | [], h, _ => absurd rfl h
  | [w], _, hc => by
    have := ws_word w (hc w (by simp)) [] [] [] rfl
    simpa [joinSp] using this
  | w :: v :: r, _, hc => by
    have ih := ws_join (v :: r) (by simp) fun x hx => hc x (List.mem_cons_of_mem _ hx)
    have := ws_word w (hc w (by simp)) (Char.ofNat 32 :: joinSp (v :: r)) (v :: r) [] (by rw [ws_space, ih])
    simpa [joinSp] using this

def words : List (List Char) := [[Char.ofNat 104, Char.ofNat 97, Char.ofNat 114, Char.ofNat 110, Char.ofNat 101, Char.ofNat 115, Char.ofNat 115],
  [Char.ofNat 54, Char.ofNat 55, Char.ofNat 52, Char.ofNat 50, Char.ofNat 98, Char.ofNat 48, Char.ofNat 48, Char.ofNat 100, Char.ofNat 48, Char.ofNat 54, Char.ofNat 98, Char.ofNat 52, Char.ofNat 52, Char.ofNat 55, Char.ofNat 99, Char.ofNat 49, Char.ofNat 50, Char.ofNat 99, Char.ofNat 100, Char.ofNat 51, Char.ofNat 102, Char.ofNat 102, Char.ofNat 49, Char.ofNat 56, Char.ofNat 99, Char.ofNat 54, Char.ofNat 101, Char.ofNat 50, Char.ofNat 57, Char.ofNat 49, Char.ofNat 51, Char.ofNat 50, Char.ofNat 102, Char.ofNat 98, Char.ofNat 52, Char.ofNat 98, Char.ofNat 98, Char.ofNat 100, Char.ofNat 52, Char.ofNat 55, Char.ofNat 53, Char.ofNat 99, Char.ofNat 53, Char.ofNat 57, Char.ofNat 56, Char.ofNat 56, Char.ofNat 102, Char.ofNat 53, Char.ofNat 100, Char.ofNat 98, Char.ofNat 57, Char.ofNat 99, Char.ofNat 102, Char.ofNat 102, Char.ofNat 100, Char.ofNat 57, Char.ofNat 101, Char.ofNat 99, Char.ofNat 98, Char.ofNat 51, Char.ofNat 57, Char.ofNat 48, Char.ofNat 51, Char.ofNat 98],
  [Char.ofNat 99, Char.ofNat 117, Char.ofNat 116],
  [Char.ofNat 97, Char.ofNat 116],
  [Char.ofNat 99, Char.ofNat 108, Char.ofNat 111, Char.ofNat 99, Char.ofNat 107, Char.ofNat 119, Char.ofNat 111, Char.ofNat 114, Char.ofNat 107, Char.ofNat 47, Char.ofNat 99, Char.ofNat 108, Char.ofNat 111, Char.ofNat 99, Char.ofNat 107, Char.ofNat 119, Char.ofNat 111, Char.ofNat 114, Char.ofNat 107, Char.ofNat 108, Char.ofNat 97, Char.ofNat 119, Char.ofNat 52, Char.ofNat 51, Char.ofNat 46, Char.ofNat 81, Char.ofNat 117, Char.ofNat 111, Char.ofNat 114, Char.ofNat 117, Char.ofNat 109, Char.ofNat 86, Char.ofNat 97, Char.ofNat 108, Char.ofNat 105, Char.ofNat 100, Char.ofNat 97, Char.ofNat 116, Char.ofNat 101, Char.ofNat 115],
  [Char.ofNat 99, Char.ofNat 108, Char.ofNat 111, Char.ofNat 99, Char.ofNat 107, Char.ofNat 119, Char.ofNat 111, Char.ofNat 114, Char.ofNat 107, Char.ofNat 47, Char.ofNat 99, Char.ofNat 108, Char.ofNat 111, Char.ofNat 99, Char.ofNat 107, Char.ofNat 119, Char.ofNat 111, Char.ofNat 114, Char.ofNat 107, Char.ofNat 108, Char.ofNat 97, Char.ofNat 119, Char.ofNat 52, Char.ofNat 51, Char.ofNat 46, Char.ofNat 81, Char.ofNat 117, Char.ofNat 111, Char.ofNat 114, Char.ofNat 117, Char.ofNat 109, Char.ofNat 68, Char.ofNat 111, Char.ofNat 101, Char.ofNat 115],
  [Char.ofNat 99, Char.ofNat 108, Char.ofNat 111, Char.ofNat 99, Char.ofNat 107, Char.ofNat 119, Char.ofNat 111, Char.ofNat 114, Char.ofNat 107, Char.ofNat 47, Char.ofNat 99, Char.ofNat 108, Char.ofNat 111, Char.ofNat 99, Char.ofNat 107, Char.ofNat 119, Char.ofNat 111, Char.ofNat 114, Char.ofNat 107, Char.ofNat 108, Char.ofNat 97, Char.ofNat 119, Char.ofNat 52, Char.ofNat 51, Char.ofNat 46, Char.ofNat 81, Char.ofNat 117, Char.ofNat 111, Char.ofNat 114, Char.ofNat 117, Char.ofNat 109, Char.ofNat 82, Char.ofNat 117, Char.ofNat 110, Char.ofNat 115]]

theorem head_of : Tryz.prog.initOrder.toList = joinSp words := by
  have h : Tryz.prog.initOrder = String.ofList (joinSp words) := by kernel_rfl
  rw [h]; exact String.toList_ofList

theorem words_ok : (words.all fun w => w.all fun c => !(c == Char.ofNat 32)) = true := by kernel_rfl

theorem words_of : wordsSigns Tryz.prog.initOrder.toList = words := by
  rw [head_of]
  refine ws_join words (by unfold words; simp) fun w hw c hc => ?_
  have h := words_ok
  simp only [List.all_eq_true, Bool.not_eq_true', beq_eq_false_iff_ne] at h
  exact h w hw c hc

theorem behind : behindMainWord (wordsSigns Tryz.prog.initOrder.toList) = words.drop 2 := by
  rw [words_of]; kernel_rfl

theorem lays : Tryz.prog.laysLater = false := by kernel_rfl
theorem bears : Tryz.prog.bearsReflect = false := by kernel_rfl
theorem strip : stripLifts liftWords (words.drop 2) = ([], words.drop 2) := by kernel_rfl
theorem headLifts : Tryz.prog.headLifts = [] := by unfold Program.headLifts; rw [behind, strip]; kernel_rfl
theorem liftsFinal : Tryz.prog.liftsFinal = false := by unfold Program.liftsFinal; rw [headLifts, behind]; kernel_rfl
theorem make : Tryz.prog.make = some .cut := by unfold Program.make; rw [behind]; kernel_rfl
theorem door : Tryz.prog.doorFits [] = true := by kernel_rfl
theorem mayEnter_of {P : Program} {l : List (List Char)} (hb : behindMainWord (wordsSigns P.initOrder.toList) = l) (hne : l.isEmpty = false) (hs : stripLifts liftWords l = ([], l)) (hcut : (l.head? == some "cut".toList) = true)
    (hlay : P.laysLater = false) (hbear : P.bearsReflect = false) (hdoor : P.doorFits [] = true) : P.mayEnter = true := by
  unfold Program.mayEnter
  rw [hb]
  cases l with
  | nil => cases hne
  | cons c rest => simp only [hs, hcut, hlay, hbear, hdoor]; simp

theorem mayEnter : Tryz.prog.mayEnter = true := mayEnter_of behind (by kernel_rfl) strip (by kernel_rfl) lays bears door

theorem closedOf {P : Program} {f : FuncId} {fn : Func} {s : ChangeSpec} {c : OpenClaim} (h1 : P.mayEnter = true) (h2 : P.liftsFinal = false) (h3 : P.make = some .cut) (hl : c.lifted = false) (hm : c.make = .cut)
    (h : (c.wf (OpenSpec.ofChange s) && laidOutB P && mapsRowed P &&
      fn.params.all (P.readableRec ·) && namedTie P c.named s.vars &&
      (c.stops == []) && (P.stops == []) && (c.knobs == []) && (P.stopKnobs == []) &&
      (c.inPlace == P.inPlace f) && (c.unfollowed == P.unfollowed f) && (c.recurses == P.recurses f) && (c.named == P.varsNamed f) &&
      (c.maps == (fn.params.toList ++ s.plain.varTypes P).any (P.mapsRec ·)) && (c.ifaces == (fn.params.toList ++ s.plain.varTypes P).any (P.ifacesRec ·)) && (c.mapsOut == P.mapsAmong fn.resultTypes.toList) &&
      (c.loops == (fn.params.toList ++ s.plain.varTypes P).any (P.loopsFrom ·)) && (c.wideKeys == (fn.params.toList ++ s.plain.varTypes P ++ fn.resultTypes.toList).any (P.wideKeysFrom ·)) &&
      s.vars.all (P.varReadable ·) && fn.resultTypes.all (fun t => P.readableRec t && decide (t < P.types.size)) && (c.ifacesOut == fn.resultTypes.toList.any (P.ifacesRec ·)) && (c.loopsOut == fn.resultTypes.toList.any (P.loopsFrom ·)) && (c.plainKeys == P.plainKeys) && c.shortTexts.isNone && P.stopsHeard && (c.kinds == (if c.domain.isEmpty then [] else fn.params.toList.map fun t => match P.underlying t with | some (.int k) => some k | _ => none)) && (c.pinned == c.pinnedBy) &&
      (c.veiled == (fn.params.toList ++ s.plain.varTypes P ++ fn.resultTypes.toList).any (P.veiledRec ·)) && c.veiledFits P fn.params.toList (fn.params.toList ++ s.plain.varTypes P ++ fn.resultTypes.toList)) = true) : joinedFacts P f fn s c = true := by
  simp only [Bool.and_eq_true] at h
  obtain ⟨⟨⟨⟨⟨⟨⟨⟨⟨⟨⟨⟨⟨⟨⟨⟨⟨⟨⟨⟨⟨⟨⟨⟨⟨⟨⟨⟨k1, k2⟩, k3⟩, k4⟩, k5⟩, k6⟩, k7⟩, k8⟩, k9⟩, k10⟩, k11⟩, k12⟩, k13⟩, k14⟩, k15⟩, k16⟩, k17⟩, k18⟩, k19⟩, k20⟩, k21⟩, k22⟩, k23⟩, k24⟩, k25⟩, k26⟩, k27⟩, k28⟩, k29⟩ := h
  unfold joinedFacts
  simp only [Bool.and_eq_true]
  exact ⟨⟨⟨⟨⟨⟨⟨⟨⟨⟨⟨⟨⟨⟨⟨⟨⟨⟨⟨⟨⟨⟨⟨⟨⟨⟨⟨⟨⟨⟨⟨k1, k2⟩, k3⟩, k4⟩, k5⟩, k6⟩, k7⟩, k8⟩, k9⟩, k10⟩, k11⟩, k12⟩, k13⟩, k14⟩, k15⟩, k16⟩, k17⟩, k18⟩, k19⟩, k20⟩, k21⟩, k22⟩, k23⟩, k24⟩, k25⟩, h1⟩, by rw [hl, h2]; rfl⟩, by rw [hm, h3]; rfl⟩, k26⟩, k27⟩, k28⟩, k29⟩
end Go.Proofs.YtphkbgjnhfidlaaGreat
