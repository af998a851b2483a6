/-
  The rules by which a state is reckoned, laid into a set of rules.
-/
import Derived.Test.YtphkbgjnhfidlaaGreatLib
set_option linter.unusedVariables false
namespace Go.Dv

theorem allSz_nil (n : Nat) : allSz n [] = true := rfl

theorem pur_all {H : Heap} {id k : Nat} {fz : Bool} {sz : Nat} {xs : List (List PV)} (h : aget H id = some (.row fz sz xs)) (hk : k = xs.length) : pur H dep (.ref id k 0 k) = some (.slice false xs) := by
  subst hk
  simp [pur, dep, h]

attribute [go_sem] mget mset gd callOf dop aget St.ev St.evBool adels adel eput eset hset putSt evs evParts fillAgg evIx litElems evI evB asI foldO mm2 binPV intBin eqCells eqCell unPV sliceDV sliceStr elemsOf appendDV copyDV clearDV purSlots dghost resetTo topId belowAll below Blk.below frz frz1 Blk.freeze tch pur dep isPtr List.map List.all List.any List.filterMap List.length List.append List.flatMap List.flatten takeDrop putAt DV.cells PV.cellsOf DV.isCell PV.isCell PV.plain ofPV ofPV1 initEnv dresults mapO dres Option.getD List.replicate beq_self_eq_true bne_self_eq_false Bool.false_eq_true Bool.and_true Bool.true_and Bool.and_false Bool.false_and Bool.or_true Bool.true_or Bool.or_false Bool.false_or decide_true decide_false Nat.max_self Nat.zero_le Int.toNat_natCast Nat.le_refl List.getElem?_cons_zero List.getElem?_cons_succ bool_beq_true bool_beq_false Bool.not_true Bool.not_false Bool.not_not and_self and_true true_and not_false_eq_true not_true_eq_false List.cons_append List.nil_append List.append_nil List.drop_succ_cons List.drop_zero List.take_succ_cons List.take_zero List.length_cons List.length_nil gt_iff_lt ge_iff_le Int.toNat_zero Go.IntWalk.i64_in cast_succ' Option.map_some Option.map_none Nat.zero_add List.isEmpty_nil List.isEmpty_cons Int.le_refl Int.lt_irrefl Nat.lt_irrefl Nat.max_def List.not_mem_nil allSz_nil

end Go.Dv
