/- Lemmas for the law of this claim. -/
import Derived.Lib.ItoaNum
import Derived.KernelRfl
set_option linter.all false
set_option linter.defProp false
namespace Go.Dv
theorem ae{P:Prop}(h:P:=by omega):P:=h
theorem az{P:Prop}(h:P:=by simp):P:=h
theorem tG{P:Prop}(h:P:=by kernel_rfl):P:=h
theorem bA{p0 p1:Prop}(v0:p0)(v1:p1):p0∧p1:=⟨v0,v1⟩
theorem dS{p0 p1 p2:Prop}(v0:p0)(v1:p1)(v2:p2):p0∧p1∧p2:=⟨v0,v1,v2⟩
theorem fW{p0 p1 p2 p3:Prop}(v0:p0)(v1:p1)(v2:p2)(v3:p3):p0∧p1∧p2∧p3:=⟨v0,v1,v2,v3⟩
theorem dP{p0 p1 p2 p3 p4:Prop}(v0:p0)(v1:p1)(v2:p2)(v3:p3)(v4:p4):p0∧p1∧p2∧p3∧p4:=⟨v0,v1,v2,v3,v4⟩
theorem vE{p0 p1 p2 p3 p4 p5:Prop}(v0:p0)(v1:p1)(v2:p2)(v3:p3)(v4:p4)(v5:p5):p0∧p1∧p2∧p3∧p4∧p5:=⟨v0,v1,v2,v3,v4,v5⟩
theorem qF{p0 p1 p2 p3 p4 p5 p6:Prop}(v0:p0)(v1:p1)(v2:p2)(v3:p3)(v4:p4)(v5:p5)(v6:p6):p0∧p1∧p2∧p3∧p4∧p5∧p6:=⟨v0,v1,v2,v3,v4,v5,v6⟩
theorem xI{p0 p1 p2 p3 p4 p5 p6 p7:Prop}(v0:p0)(v1:p1)(v2:p2)(v3:p3)(v4:p4)(v5:p5)(v6:p6)(v7:p7):p0∧p1∧p2∧p3∧p4∧p5∧p6∧p7:=⟨v0,v1,v2,v3,v4,v5,v6,v7⟩
theorem rG{p0 p1 p2 p3 p4 p5 p6 p7 p8:Prop}(v0:p0)(v1:p1)(v2:p2)(v3:p3)(v4:p4)(v5:p5)(v6:p6)(v7:p7)(v8:p8):p0∧p1∧p2∧p3∧p4∧p5∧p6∧p7∧p8:=⟨v0,v1,v2,v3,v4,v5,v6,v7,v8⟩
theorem o9{p0 p1 p2 p3 p4 p5 p6 p7 p8 p9:Prop}(v0:p0)(v1:p1)(v2:p2)(v3:p3)(v4:p4)(v5:p5)(v6:p6)(v7:p7)(v8:p8)(v9:p9):p0∧p1∧p2∧p3∧p4∧p5∧p6∧p7∧p8∧p9:=⟨v0,v1,v2,v3,v4,v5,v6,v7,v8,v9⟩
theorem rL{p0 p1 p2 p3 p4 p5 p6 p7 p8 p9 p10:Prop}(v0:p0)(v1:p1)(v2:p2)(v3:p3)(v4:p4)(v5:p5)(v6:p6)(v7:p7)(v8:p8)(v9:p9)(v10:p10):p0∧p1∧p2∧p3∧p4∧p5∧p6∧p7∧p8∧p9∧p10:=⟨v0,v1,v2,v3,v4,v5,v6,v7,v8,v9,v10⟩
theorem OK{p0 p1 p2 p3 p4 p5 p6 p7 p8 p9 p10 p11:Prop}(v0:p0)(v1:p1)(v2:p2)(v3:p3)(v4:p4)(v5:p5)(v6:p6)(v7:p7)(v8:p8)(v9:p9)(v10:p10)(v11:p11):p0∧p1∧p2∧p3∧p4∧p5∧p6∧p7∧p8∧p9∧p10∧p11:=⟨v0,v1,v2,v3,v4,v5,v6,v7,v8,v9,v10,v11⟩
theorem Fi{p0 p1 p2 p3 p4 p5 p6 p7 p8 p9 p10 p11 p12:Prop}(v0:p0)(v1:p1)(v2:p2)(v3:p3)(v4:p4)(v5:p5)(v6:p6)(v7:p7)(v8:p8)(v9:p9)(v10:p10)(v11:p11)(v12:p12):p0∧p1∧p2∧p3∧p4∧p5∧p6∧p7∧p8∧p9∧p10∧p11∧p12:=⟨v0,v1,v2,v3,v4,v5,v6,v7,v8,v9,v10,v11,v12⟩
theorem K3{p0 p1 p2 p3 p4 p5 p6 p7 p8 p9 p10 p11 p12 p13:Prop}(v0:p0)(v1:p1)(v2:p2)(v3:p3)(v4:p4)(v5:p5)(v6:p6)(v7:p7)(v8:p8)(v9:p9)(v10:p10)(v11:p11)(v12:p12)(v13:p13):p0∧p1∧p2∧p3∧p4∧p5∧p6∧p7∧p8∧p9∧p10∧p11∧p12∧p13:=⟨v0,v1,v2,v3,v4,v5,v6,v7,v8,v9,v10,v11,v12,v13⟩
theorem J4{p0 p1 p2 p3 p4 p5 p6 p7 p8 p9 p10 p11 p12 p13 p14:Prop}(v0:p0)(v1:p1)(v2:p2)(v3:p3)(v4:p4)(v5:p5)(v6:p6)(v7:p7)(v8:p8)(v9:p9)(v10:p10)(v11:p11)(v12:p12)(v13:p13)(v14:p14):p0∧p1∧p2∧p3∧p4∧p5∧p6∧p7∧p8∧p9∧p10∧p11∧p12∧p13∧p14:=⟨v0,v1,v2,v3,v4,v5,v6,v7,v8,v9,v10,v11,v12,v13,v14⟩
theorem DF{p0 p1 p2 p3 p4 p5 p6 p7 p8 p9 p10 p11 p12 p13 p14 p15:Prop}(v0:p0)(v1:p1)(v2:p2)(v3:p3)(v4:p4)(v5:p5)(v6:p6)(v7:p7)(v8:p8)(v9:p9)(v10:p10)(v11:p11)(v12:p12)(v13:p13)(v14:p14)(v15:p15):p0∧p1∧p2∧p3∧p4∧p5∧p6∧p7∧p8∧p9∧p10∧p11∧p12∧p13∧p14∧p15:=⟨v0,v1,v2,v3,v4,v5,v6,v7,v8,v9,v10,v11,v12,v13,v14,v15⟩
theorem tD{p0 p1 p2 p3 p4 p5 p6 p7 p8 p9 p10 p11 p12 p13 p14 p15 p16:Prop}(v0:p0)(v1:p1)(v2:p2)(v3:p3)(v4:p4)(v5:p5)(v6:p6)(v7:p7)(v8:p8)(v9:p9)(v10:p10)(v11:p11)(v12:p12)(v13:p13)(v14:p14)(v15:p15)(v16:p16):p0∧p1∧p2∧p3∧p4∧p5∧p6∧p7∧p8∧p9∧p10∧p11∧p12∧p13∧p14∧p15∧p16:=⟨v0,v1,v2,v3,v4,v5,v6,v7,v8,v9,v10,v11,v12,v13,v14,v15,v16⟩
theorem Jg{p0 p1 p2 p3 p4 p5 p6 p7 p8 p9 p10 p11 p12 p13 p14 p15 p16 p17:Prop}(v0:p0)(v1:p1)(v2:p2)(v3:p3)(v4:p4)(v5:p5)(v6:p6)(v7:p7)(v8:p8)(v9:p9)(v10:p10)(v11:p11)(v12:p12)(v13:p13)(v14:p14)(v15:p15)(v16:p16)(v17:p17):p0∧p1∧p2∧p3∧p4∧p5∧p6∧p7∧p8∧p9∧p10∧p11∧p12∧p13∧p14∧p15∧p16∧p17:=⟨v0,v1,v2,v3,v4,v5,v6,v7,v8,v9,v10,v11,v12,v13,v14,v15,v16,v17⟩
theorem aaB{p0 p1 p2 p3 p4 p5 p6 p7 p8 p9 p10 p11 p12 p13 p14 p15 p16 p17 p18:Prop}(v0:p0)(v1:p1)(v2:p2)(v3:p3)(v4:p4)(v5:p5)(v6:p6)(v7:p7)(v8:p8)(v9:p9)(v10:p10)(v11:p11)(v12:p12)(v13:p13)(v14:p14)(v15:p15)(v16:p16)(v17:p17)(v18:p18):p0∧p1∧p2∧p3∧p4∧p5∧p6∧p7∧p8∧p9∧p10∧p11∧p12∧p13∧p14∧p15∧p16∧p17∧p18:=⟨v0,v1,v2,v3,v4,v5,v6,v7,v8,v9,v10,v11,v12,v13,v14,v15,v16,v17,v18⟩
theorem R3{p0 p1 p2 p3 p4 p5 p6 p7 p8 p9 p10 p11 p12 p13 p14 p15 p16 p17 p18 p19:Prop}(v0:p0)(v1:p1)(v2:p2)(v3:p3)(v4:p4)(v5:p5)(v6:p6)(v7:p7)(v8:p8)(v9:p9)(v10:p10)(v11:p11)(v12:p12)(v13:p13)(v14:p14)(v15:p15)(v16:p16)(v17:p17)(v18:p18)(v19:p19):p0∧p1∧p2∧p3∧p4∧p5∧p6∧p7∧p8∧p9∧p10∧p11∧p12∧p13∧p14∧p15∧p16∧p17∧p18∧p19:=⟨v0,v1,v2,v3,v4,v5,v6,v7,v8,v9,v10,v11,v12,v13,v14,v15,v16,v17,v18,v19⟩
def ak:=@if_neg
def aq:=@if_pos
def ay:=@Option.some.injEq
def aL:=@Bool.and_eq_true
def bS:=@Nat.lt_or_ge
def bU:=@eq_true
def bY:=@Prod.mk.injEq
def cQ:=@if_true
def df:=@decide_eq_true_eq
def dB:=@Nat.add_mul
def cH:=@beq_iff_eq
def cK:=@if_false
def c9:=@Eq.trans
def di:=@Nat.mul_le_mul_right
def dz:=@Ne.symm
def dH:=@Array.getD_eq_getD_getElem?
def ep:=@Nat.le_trans
def eG:=@Array.getElem?_toList
def fy:=@beq_eq_false_iff_ne
def ir:=@Nat.one_mul
def iU:=@Nat.le_succ
def ji:=@Bool.or_eq_true
def jl:=@decide_eq_true
def jV:=@Array.length_toList
def ka:=@Option.getD_some
def kD:=@Bool.not_eq_true'
def lq:=@Array.getElem?_setIfInBounds_ne
def lQ:=@Nat.sub_zero
def lP:=@Array.toArray_toList
def lR:=@decide_eq_false
def mz:=@Nat.le_max_left
def mA:=@Nat.le_max_right
def nW:=@Array.getElem?_eq_getElem
def od:=@Classical.epsilon_spec
def pY:=@Nat.add_zero
def pO:=@Nat.eq_zero_or_pos
def qn:=@Nat.not_succ_le_self
def rm:=@Nat.lt_of_lt_of_le
def ri:=@Nat.mul_comm
def sG:=@Option.isSome_iff_exists
def ug:=@Array.getElem?_eq_none
def tK:=@ne_eq
def tW:=@Array.all_eq_true'
def tV:=@Array.ext
def wm:=@Array.toList_push
def wT:=@Nat.zero_mul
def wC:=@Array.getElem?_eq_some_iff
def wD:=@decide_eq_decide
def AL:=@Array.size_append
def AT:=@Option.getD_none
def Aw:=@Nat.min_eq_left
def AV:=@congrArg
def AK:=@Array.toList_map
def AY:=@Array.getElem?_append
def AS:=@Bool.or_eq_false_iff
def AG:=@Array.replicate_succ
def Ao:=@Array.replicate_zero
def Cm:=@Array.ext_getElem?
def Ek:=@Nat.div_add_mod
def Dy:=@Array.getElem?_append_left
def Dt:=@Nat.lt_trichotomy
def CN:=@Bool.not_eq_true
def C3:=@Nat.lt_succ_iff_lt_or_eq
def Ec:=@Classical.choose_spec
def H8:=@Array.getElem?_push
def H0:=@Array.getElem?_modify
def G5:=@Nat.lt_or_gt_of_ne
def HM:=@Nat.sub_self
def HF:=@Nat.lt_succ_self
def HE:=@Array.append_empty
def Hg:=@Option.some.inj
def GZ:=@bne_iff_ne
def HD:=@Array.toList_filter
def Ig:=@Nat.sub_mul
def Hr:=@UInt8.not_lt
def HX:=@Bool.eq_iff_iff
def GS:=@eq_iff_iff
def Hi:=@Nat.le_add_right
def GK:=@Int.tmod_nonneg
def GN:=@decide_eq_false_iff_not
def MN:=@of_decide_eq_true
def M7:=@Bool.not_eq_false
def MJ:=@Option.bind_some
def NB:=@Nat.sub_add_cancel
def UH:=@Array.getElem?_extract
def Sl:=@Array.mapM_eq_mapM_toList
def TE:=@Option.isNone_iff_eq_none
def SB:=@Int.eq_ofNat_of_zero_le
def OZ:List (Nat×Array Value):=[(1,(Lib.pow10Tab.map fun z=>Value.int .u64 z).toArray)]
inductive Sh where
 |int (k:IntKind)
 |bool
 |str
 |slice (l:List Sh)
 |rows (t:Nat)
def uw:Nat->Option (List Sh)
 |88=>some [.int .i64,.int .i64,.str,.rows 88]
 |90=>some [.int .i64,.str,.int .i64,.int .i64,.int .i64,.str,.rows 88,.int .i64,.int .i64,.str,.rows 88,.rows 90,.rows 90]
 |_=>none
end Go.Dv
