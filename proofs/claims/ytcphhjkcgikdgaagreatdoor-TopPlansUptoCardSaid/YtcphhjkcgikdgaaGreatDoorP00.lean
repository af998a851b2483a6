/- Lemmas for the law of this claim. -/
import Derived.Lib.ItoaNum
import Derived.KernelRfl
set_option linter.all false
set_option linter.defProp false
namespace Go.Dv
theorem ae{P:Prop}(h:P:=by omega):P:=h
theorem aB{P:Prop}(h:P:=by simp):P:=h
theorem jK{P:Prop}(h:P:=by kernel_rfl):P:=h
theorem bf{p0 p1:Prop}(v0:p0)(v1:p1):p0∧p1:=⟨v0,v1⟩
theorem c9{p0 p1 p2:Prop}(v0:p0)(v1:p1)(v2:p2):p0∧p1∧p2:=⟨v0,v1,v2⟩
theorem eY{p0 p1 p2 p3:Prop}(v0:p0)(v1:p1)(v2:p2)(v3:p3):p0∧p1∧p2∧p3:=⟨v0,v1,v2,v3⟩
theorem dM{p0 p1 p2 p3 p4:Prop}(v0:p0)(v1:p1)(v2:p2)(v3:p3)(v4:p4):p0∧p1∧p2∧p3∧p4:=⟨v0,v1,v2,v3,v4⟩
theorem pS{p0 p1 p2 p3 p4 p5:Prop}(v0:p0)(v1:p1)(v2:p2)(v3:p3)(v4:p4)(v5:p5):p0∧p1∧p2∧p3∧p4∧p5:=⟨v0,v1,v2,v3,v4,v5⟩
theorem uU{p0 p1 p2 p3 p4 p5 p6:Prop}(v0:p0)(v1:p1)(v2:p2)(v3:p3)(v4:p4)(v5:p5)(v6:p6):p0∧p1∧p2∧p3∧p4∧p5∧p6:=⟨v0,v1,v2,v3,v4,v5,v6⟩
theorem Gg{p0 p1 p2 p3 p4 p5 p6 p7:Prop}(v0:p0)(v1:p1)(v2:p2)(v3:p3)(v4:p4)(v5:p5)(v6:p6)(v7:p7):p0∧p1∧p2∧p3∧p4∧p5∧p6∧p7:=⟨v0,v1,v2,v3,v4,v5,v6,v7⟩
theorem ow{p0 p1 p2 p3 p4 p5 p6 p7 p8:Prop}(v0:p0)(v1:p1)(v2:p2)(v3:p3)(v4:p4)(v5:p5)(v6:p6)(v7:p7)(v8:p8):p0∧p1∧p2∧p3∧p4∧p5∧p6∧p7∧p8:=⟨v0,v1,v2,v3,v4,v5,v6,v7,v8⟩
theorem pL{p0 p1 p2 p3 p4 p5 p6 p7 p8 p9:Prop}(v0:p0)(v1:p1)(v2:p2)(v3:p3)(v4:p4)(v5:p5)(v6:p6)(v7:p7)(v8:p8)(v9:p9):p0∧p1∧p2∧p3∧p4∧p5∧p6∧p7∧p8∧p9:=⟨v0,v1,v2,v3,v4,v5,v6,v7,v8,v9⟩
theorem j0{p0 p1 p2 p3 p4 p5 p6 p7 p8 p9 p10:Prop}(v0:p0)(v1:p1)(v2:p2)(v3:p3)(v4:p4)(v5:p5)(v6:p6)(v7:p7)(v8:p8)(v9:p9)(v10:p10):p0∧p1∧p2∧p3∧p4∧p5∧p6∧p7∧p8∧p9∧p10:=⟨v0,v1,v2,v3,v4,v5,v6,v7,v8,v9,v10⟩
theorem q9{p0 p1 p2 p3 p4 p5 p6 p7 p8 p9 p10 p11:Prop}(v0:p0)(v1:p1)(v2:p2)(v3:p3)(v4:p4)(v5:p5)(v6:p6)(v7:p7)(v8:p8)(v9:p9)(v10:p10)(v11:p11):p0∧p1∧p2∧p3∧p4∧p5∧p6∧p7∧p8∧p9∧p10∧p11:=⟨v0,v1,v2,v3,v4,v5,v6,v7,v8,v9,v10,v11⟩
theorem mg{p0 p1 p2 p3 p4 p5 p6 p7 p8 p9 p10 p11 p12:Prop}(v0:p0)(v1:p1)(v2:p2)(v3:p3)(v4:p4)(v5:p5)(v6:p6)(v7:p7)(v8:p8)(v9:p9)(v10:p10)(v11:p11)(v12:p12):p0∧p1∧p2∧p3∧p4∧p5∧p6∧p7∧p8∧p9∧p10∧p11∧p12:=⟨v0,v1,v2,v3,v4,v5,v6,v7,v8,v9,v10,v11,v12⟩
theorem Jj{p0 p1 p2 p3 p4 p5 p6 p7 p8 p9 p10 p11 p12 p13:Prop}(v0:p0)(v1:p1)(v2:p2)(v3:p3)(v4:p4)(v5:p5)(v6:p6)(v7:p7)(v8:p8)(v9:p9)(v10:p10)(v11:p11)(v12:p12)(v13:p13):p0∧p1∧p2∧p3∧p4∧p5∧p6∧p7∧p8∧p9∧p10∧p11∧p12∧p13:=⟨v0,v1,v2,v3,v4,v5,v6,v7,v8,v9,v10,v11,v12,v13⟩
theorem Dw{p0 p1 p2 p3 p4 p5 p6 p7 p8 p9 p10 p11 p12 p13 p14:Prop}(v0:p0)(v1:p1)(v2:p2)(v3:p3)(v4:p4)(v5:p5)(v6:p6)(v7:p7)(v8:p8)(v9:p9)(v10:p10)(v11:p11)(v12:p12)(v13:p13)(v14:p14):p0∧p1∧p2∧p3∧p4∧p5∧p6∧p7∧p8∧p9∧p10∧p11∧p12∧p13∧p14:=⟨v0,v1,v2,v3,v4,v5,v6,v7,v8,v9,v10,v11,v12,v13,v14⟩
theorem IJ{p0 p1 p2 p3 p4 p5 p6 p7 p8 p9 p10 p11 p12 p13 p14 p15:Prop}(v0:p0)(v1:p1)(v2:p2)(v3:p3)(v4:p4)(v5:p5)(v6:p6)(v7:p7)(v8:p8)(v9:p9)(v10:p10)(v11:p11)(v12:p12)(v13:p13)(v14:p14)(v15:p15):p0∧p1∧p2∧p3∧p4∧p5∧p6∧p7∧p8∧p9∧p10∧p11∧p12∧p13∧p14∧p15:=⟨v0,v1,v2,v3,v4,v5,v6,v7,v8,v9,v10,v11,v12,v13,v14,v15⟩
theorem NV{p0 p1 p2 p3 p4 p5 p6 p7 p8 p9 p10 p11 p12 p13 p14 p15 p16:Prop}(v0:p0)(v1:p1)(v2:p2)(v3:p3)(v4:p4)(v5:p5)(v6:p6)(v7:p7)(v8:p8)(v9:p9)(v10:p10)(v11:p11)(v12:p12)(v13:p13)(v14:p14)(v15:p15)(v16:p16):p0∧p1∧p2∧p3∧p4∧p5∧p6∧p7∧p8∧p9∧p10∧p11∧p12∧p13∧p14∧p15∧p16:=⟨v0,v1,v2,v3,v4,v5,v6,v7,v8,v9,v10,v11,v12,v13,v14,v15,v16⟩
theorem aag{p0 p1 p2 p3 p4 p5 p6 p7 p8 p9 p10 p11 p12 p13 p14 p15 p16 p17:Prop}(v0:p0)(v1:p1)(v2:p2)(v3:p3)(v4:p4)(v5:p5)(v6:p6)(v7:p7)(v8:p8)(v9:p9)(v10:p10)(v11:p11)(v12:p12)(v13:p13)(v14:p14)(v15:p15)(v16:p16)(v17:p17):p0∧p1∧p2∧p3∧p4∧p5∧p6∧p7∧p8∧p9∧p10∧p11∧p12∧p13∧p14∧p15∧p16∧p17:=⟨v0,v1,v2,v3,v4,v5,v6,v7,v8,v9,v10,v11,v12,v13,v14,v15,v16,v17⟩
theorem aah{p0 p1 p2 p3 p4 p5 p6 p7 p8 p9 p10 p11 p12 p13 p14 p15 p16 p17 p18:Prop}(v0:p0)(v1:p1)(v2:p2)(v3:p3)(v4:p4)(v5:p5)(v6:p6)(v7:p7)(v8:p8)(v9:p9)(v10:p10)(v11:p11)(v12:p12)(v13:p13)(v14:p14)(v15:p15)(v16:p16)(v17:p17)(v18:p18):p0∧p1∧p2∧p3∧p4∧p5∧p6∧p7∧p8∧p9∧p10∧p11∧p12∧p13∧p14∧p15∧p16∧p17∧p18:=⟨v0,v1,v2,v3,v4,v5,v6,v7,v8,v9,v10,v11,v12,v13,v14,v15,v16,v17,v18⟩
theorem Z2{p0 p1 p2 p3 p4 p5 p6 p7 p8 p9 p10 p11 p12 p13 p14 p15 p16 p17 p18 p19:Prop}(v0:p0)(v1:p1)(v2:p2)(v3:p3)(v4:p4)(v5:p5)(v6:p6)(v7:p7)(v8:p8)(v9:p9)(v10:p10)(v11:p11)(v12:p12)(v13:p13)(v14:p14)(v15:p15)(v16:p16)(v17:p17)(v18:p18)(v19:p19):p0∧p1∧p2∧p3∧p4∧p5∧p6∧p7∧p8∧p9∧p10∧p11∧p12∧p13∧p14∧p15∧p16∧p17∧p18∧p19:=⟨v0,v1,v2,v3,v4,v5,v6,v7,v8,v9,v10,v11,v12,v13,v14,v15,v16,v17,v18,v19⟩
def an:=@if_neg
def aq:=@if_pos
def aw:=@Option.some.injEq
def aO:=@Bool.and_eq_true
def aZ:=@eq_true
def bQ:=@Prod.mk.injEq
def bZ:=@if_true
def cy:=@if_false
def cK:=@Nat.lt_or_ge
def dq:=@Nat.add_mul
def cp:=@decide_eq_true_eq
def cw:=@beq_iff_eq
def cN:=@Eq.trans
def c7:=@Nat.mul_le_mul_right
def dA:=@Array.getD_eq_getD_getElem?
def dL:=@Nat.le_trans
def dZ:=@Array.getElem?_toList
def er:=@beq_eq_false_iff_ne
def gX:=@Nat.one_mul
def il:=@Option.getD_some
def iQ:=@Nat.le_succ
def iT:=@Bool.or_eq_true
def jz:=@Array.length_toList
def jW:=@Bool.not_eq_true'
def kb:=@Array.toArray_toList
def j9:=@Classical.epsilon_spec
def kL:=@Array.getElem?_setIfInBounds_ne
def lZ:=@Nat.le_max_left
def lU:=@Nat.le_max_right
def ni:=@Array.getElem?_eq_getElem
def pb:=@Nat.lt_of_lt_of_le
def pO:=@Nat.add_zero
def py:=@Option.isSome_iff_exists
def qy:=@Nat.mul_comm
def qD:=@Nat.sub_zero
def rL:=@Array.ext
def tN:=@Array.getElem?_eq_none
def tK:=@Nat.eq_zero_or_pos
def tj:=@Option.getD_none
def tS:=@Array.all_eq_true'
def ug:=@decide_eq_false_iff_not
def wu:=@Array.toList_push
def wc:=@Nat.zero_mul
def wg:=@Array.getElem?_eq_some_iff
def vF:=@Option.map_eq_some_iff
def vD:=@Int.natCast_add
def Ay:=@Array.size_append
def Ad:=@Array.toList_map
def Aa:=@Array.getElem?_append
def Az:=@Int.natCast_one
def As:=@Array.replicate_succ
def Ah:=@Array.replicate_zero
def D4:=@Array.ext_getElem?
def CI:=@Nat.div_add_mod
def BW:=@Array.getElem?_append_left
def Di:=@congrArg
def Dn:=@Classical.choose_spec
def HV:=@Array.getElem?_push
def G6:=@Array.getElem?_modify
def Gl:=@Nat.lt_or_gt_of_ne
def HW:=@Array.append_empty
def Gx:=@Bool.not_eq_true
def GU:=@Option.some.inj
def G5:=@bne_iff_ne
def Gt:=@Array.toList_filter
def GJ:=@Nat.le_add_right
def HY:=@Function.comp_def
def GQ:=@Nat.sub_mul
def G8:=@UInt8.not_lt
def GI:=@Bool.eq_iff_iff
def Gn:=@eq_iff_iff
def GG:=@decide_eq_decide
def Gk:=@Int.add_assoc
def Lv:=@of_decide_eq_true
def Mb:=@Bool.not_eq_false
def MG:=@Nat.min_eq_left
def LZ:=@Nat.lt_trichotomy
def M9:=@Option.bind_some
def LJ:=@Nat.sub_add_cancel
def Me:=@Bool.and_eq_false_iff
def Q4:=@Array.getElem?_extract
def Ut:=@Array.mapM_eq_mapM_toList
def Q8:=@Option.isNone_iff_eq_none
def Tu:=@Int.eq_ofNat_of_zero_le
def RG:=@Nat.lt_succ_iff_lt_or_eq
def Sl:=@Classical.byContradiction
def Q2:=@Classical.not_and_iff_not_or_not
def Nx:List (Nat×Array Value):=[(1,(Lib.pow10Tab.map fun z=>Value.int .u64 z).toArray)]
inductive Sh where
 |int (k:IntKind)
 |bool
 |str
 |slice (l:List Sh)
 |rows (t:Nat)
def th:Nat->Option (List Sh)
 |88=>some [.int .i64,.int .i64,.str,.rows 88]
 |90=>some [.int .i64,.str,.int .i64,.int .i64,.int .i64,.str,.rows 88,.int .i64,.int .i64,.str,.rows 88,.rows 90,.rows 90]
 |_=>none
end Go.Dv
