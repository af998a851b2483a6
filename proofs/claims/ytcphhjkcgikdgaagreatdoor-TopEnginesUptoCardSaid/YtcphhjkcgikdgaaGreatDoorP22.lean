/- Lemmas for the law of this claim. -/
import Derived.Test.YtcphhjkcgikdgaaGreatDoorP21
import Derived.Lib.Strings
import Derived.WideShapes
import Derived.Shelf.Sort.Plain
import Derived.Shelf.Slices.In.SortNone
import Derived.Shelf.Spec.SlicesGrow
set_option linter.all false
namespace Go.Dv
section
open Go
structure Bx(Q:Prop):Prop where
 q:Q
def Cj{a b:Prop}(x:a)(y:b):a/\b:=⟨x,y⟩
def eW:(∀(a b:DV) (l:List DV),(a::l).set 0 b=b::l)/\(∀(a b:DV) (l:List DV) (n:Nat),(a::l).set (n+1) b=a::l.set n b)/\(∀(a b:PV) (l:List PV),(a::l).set 0 b=b::l)/\∀(a b:PV) (l:List PV) (n:Nat),(a::l).set (n+1) b=a::l.set n b:=⟨λ_ _ _=>rfl,λ_ _ _ _=>rfl,λ_ _ _=>rfl,λ_ _ _ _=>rfl⟩
def aax:(∀n:Int,(n==n)=true)/\∀n:Nat,(n==n)=true:=⟨λn=>az,λn=>az⟩
def Q9:an=140737488355328:=rfl
def Ym:(∀l:List (List PV),l++[]=l)/\∀l:List PV,l++[]=l:=⟨λl=>az,λl=>az⟩
def Te:(∀l k:List Nat,(l++k).length=l.length+k.length)/\∀l k:List (List PV),(l++k).length=l.length+k.length:=⟨λl k=>az,λl k=>az⟩
def U6:(∀a:Nat,[a].length=1)/\∀a:List PV,[a].length=1:=⟨λ_=>rfl,λ_=>rfl⟩
def YO:∀(n:Nat) (a:List PV),(List.replicate n a).length=n:=λn a=>az
def eF{P:Prop}(h:P:=by first|with_reducible exact Ev.mk|(simp(disch:=omega) only[go_sem,seval,reduceCtorEq,F];done)|(simp(disch:=omega) only[go_sem,seval,reduceCtorEq,F];with_reducible exact Ev.mk)):P:=h
def k0:True/\True/\True/\True:=⟨⟨⟩,⟨⟩,⟨⟩,⟨⟩⟩
def k1{a:Prop}(x:a):a/\True/\True/\True:=⟨x,⟨⟩,⟨⟩,⟨⟩⟩
def k2{a b:Prop}(x:a)(y:b):a/\b/\True/\True:=⟨x,y,⟨⟩,⟨⟩⟩
def k3{a b c:Prop}(x:a)(y:b)(z:c):a/\b/\c/\True:=⟨x,y,z,⟨⟩⟩
def k4{a b c d:Prop}(x:a)(y:b)(z:c)(t:d):a/\b/\c/\d:=⟨x,y,z,t⟩
def ew{P q:Prop}(k:q)(h:Bx q->P:=by
 intro k;try simp(disch:=omega) only[go_sem,seval,reduceCtorEq]
 exact k.q):P:=h ⟨k⟩
def gN{uf P q r s t:Prop}(f0:uf)(k:q/\r/\s/\t)(h:uf->Bx q->Bx r->Bx s->Bx t->P:=by
 intro F k l m n;repeat'(first|(simp(disch:=omega) only[go_sem,seval,reduceCtorEq,F])|with_reducible exact Ev.mk|((first|apply aY|apply aQ)<;>intro qC hb<;>(simp(disch:=omega) only[go_sem,seval,reduceCtorEq,F,qC])<;>clear qC))
 first|done|(exact k.q;first|done|(exact l.q;first|done|(exact m.q;first|done|exact n.q)))):P:=h f0 ⟨k.1⟩ ⟨k.2.1⟩ ⟨k.2.2.1⟩ ⟨k.2.2.2⟩
def gP{uf ua P q r s t:Prop}(f0:uf)(a0:ua)(k:q/\r/\s/\t)(h:uf->ua->Bx q->Bx r->Bx s->Bx t->P:=by
 intro F A k l m n;repeat'(first|exact A|exact A.1|exact A.2|exact A.2.1|exact A.2.2|exact A.2.2.1|exact A.2.2.2|exact A.2.2.2.1|exact A.2.2.2.2|exact A.2.2.2.2.1|exact A.2.2.2.2.2|exact A.2.2.2.2.2.1|exact A.2.2.2.2.2.2|exact A.2.2.2.2.2.2.1|exact A.2.2.2.2.2.2.2|exact A.2.2.2.2.2.2.2.1|exact A.2.2.2.2.2.2.2.2|(simp(disch:=omega) only[go_sem,seval,reduceCtorEq,F])|with_reducible exact Ev.mk|apply cT|((first|apply aY|apply aQ)<;>intro qC hb<;>(simp(disch:=omega) only[go_sem,seval,reduceCtorEq,F,qC])<;>clear qC))
 first|done|(exact k.q;first|done|(exact l.q;first|done|(exact m.q;first|done|exact n.q)))):P:=h f0 a0 ⟨k.1⟩ ⟨k.2.1⟩ ⟨k.2.2.1⟩ ⟨k.2.2.2⟩
def gR{uf ua ub P q r s t:Prop}(f0:uf)(a0:ua)(b0:ub)(k:q/\r/\s/\t)(h:uf->ua->ub->Bx q->Bx r->Bx s->Bx t->P:=by
 intro F A B k l m n;repeat'(first|exact A|exact A.1|exact A.2|exact A.2.1|exact A.2.2|exact A.2.2.1|exact A.2.2.2|exact A.2.2.2.1|exact A.2.2.2.2|exact A.2.2.2.2.1|exact A.2.2.2.2.2|exact A.2.2.2.2.2.1|exact A.2.2.2.2.2.2|exact A.2.2.2.2.2.2.1|exact A.2.2.2.2.2.2.2|exact A.2.2.2.2.2.2.2.1|exact A.2.2.2.2.2.2.2.2|exact B|exact B.1|exact B.2|exact B.2.1|exact B.2.2|exact B.2.2.1|exact B.2.2.2|exact B.2.2.2.1|exact B.2.2.2.2|(simp(disch:=omega) only[go_sem,seval,reduceCtorEq,F])|with_reducible exact Ev.mk|refine pw ?_|apply cT|apply nf|refine ct eF eF B eF ?_|refine ct eF eF B.1 eF ?_|refine ct eF eF B.2 eF ?_|refine ct eF eF B.2.1 eF ?_|refine ct eF eF B.2.2 eF ?_|refine ct eF eF B.2.2.1 eF ?_|refine ct eF eF B.2.2.2 eF ?_|refine ct eF eF B.2.2.2.1 eF ?_|refine ct eF eF B.2.2.2.2 eF ?_|refine cW eF B ?_|refine cW eF B.1 ?_|refine cW eF B.2 ?_|refine cW eF B.2.1 ?_|refine cW eF B.2.2 ?_|refine cW eF B.2.2.1 ?_|refine cW eF B.2.2.2 ?_|refine cW eF B.2.2.2.1 ?_|refine cW eF B.2.2.2.2 ?_|((first|apply aY|apply aQ)<;>intro qC hb<;>(simp(disch:=omega) only[go_sem,seval,reduceCtorEq,F,qC])<;>clear qC))
 first|done|(exact k.q;first|done|(exact l.q;first|done|(exact m.q;first|done|exact n.q)))):P:=h f0 a0 b0 ⟨k.1⟩ ⟨k.2.1⟩ ⟨k.2.2.1⟩ ⟨k.2.2.2⟩
def gD{uf ua ub ud P q r s t:Prop}(f0:uf)(a0:ua)(b0:ub)(d0:ud)(k:q/\r/\s/\t)(h:uf->ua->ub->ud->Bx q->Bx r->Bx s->Bx t->P:=by
 intro F A B D k l m n;repeat'(first|exact A|exact A.1|exact A.2|exact A.2.1|exact A.2.2|exact A.2.2.1|exact A.2.2.2|exact A.2.2.2.1|exact A.2.2.2.2|exact A.2.2.2.2.1|exact A.2.2.2.2.2|exact A.2.2.2.2.2.1|exact A.2.2.2.2.2.2|exact A.2.2.2.2.2.2.1|exact A.2.2.2.2.2.2.2|exact A.2.2.2.2.2.2.2.1|exact A.2.2.2.2.2.2.2.2|exact B|exact B.1|exact B.2|exact B.2.1|exact B.2.2|exact B.2.2.1|exact B.2.2.2|exact B.2.2.2.1|exact B.2.2.2.2|(simp(disch:=omega) only[go_sem,seval,reduceCtorEq,F])|with_reducible exact Ev.mk|refine pw ?_|apply cT|apply nf|refine ct eF eF B eF ?_|refine ct eF eF B.1 eF ?_|refine ct eF eF B.2 eF ?_|refine ct eF eF B.2.1 eF ?_|refine ct eF eF B.2.2 eF ?_|refine ct eF eF B.2.2.1 eF ?_|refine ct eF eF B.2.2.2 eF ?_|refine ct eF eF B.2.2.2.1 eF ?_|refine ct eF eF B.2.2.2.2 eF ?_|refine IS eF D ?_|refine cW eF B ?_|refine cW eF B.1 ?_|refine cW eF B.2 ?_|refine cW eF B.2.1 ?_|refine cW eF B.2.2 ?_|refine cW eF B.2.2.1 ?_|refine cW eF B.2.2.2 ?_|refine cW eF B.2.2.2.1 ?_|refine cW eF B.2.2.2.2 ?_|refine Oj eF D ?_|((first|apply aY|apply aQ)<;>intro qC hb<;>(simp(disch:=omega) only[go_sem,seval,reduceCtorEq,F,qC])<;>clear qC))
 first|done|(exact k.q;first|done|(exact l.q;first|done|(exact m.q;first|done|exact n.q)))):P:=h f0 a0 b0 d0 ⟨k.1⟩ ⟨k.2.1⟩ ⟨k.2.2.1⟩ ⟨k.2.2.2⟩
def hN{uf P q r s t:Prop}(f0:uf)(k:q/\r/\s/\t)(h:uf->Bx q->Bx r->Bx s->Bx t->P:=by
 intro F k l m n;repeat'(first|(simp(disch:=omega) only[go_sem,seval,reduceCtorEq,F])|with_reducible exact Ev.mk|((first|apply aY|apply aQ)<;>intro qC hb<;>(simp(disch:=omega) only[go_sem,seval,reduceCtorEq,F,qC])<;>clear qC))
 first|done|((repeat revert hb);exact k.q;first|done|((repeat revert hb);exact l.q;first|done|((repeat revert hb);exact m.q;first|done|((repeat revert hb);exact n.q))))):P:=h f0 ⟨k.1⟩ ⟨k.2.1⟩ ⟨k.2.2.1⟩ ⟨k.2.2.2⟩
def hP{uf ua P q r s t:Prop}(f0:uf)(a0:ua)(k:q/\r/\s/\t)(h:uf->ua->Bx q->Bx r->Bx s->Bx t->P:=by
 intro F A k l m n;repeat'(first|exact A|exact A.1|exact A.2|exact A.2.1|exact A.2.2|exact A.2.2.1|exact A.2.2.2|exact A.2.2.2.1|exact A.2.2.2.2|exact A.2.2.2.2.1|exact A.2.2.2.2.2|exact A.2.2.2.2.2.1|exact A.2.2.2.2.2.2|exact A.2.2.2.2.2.2.1|exact A.2.2.2.2.2.2.2|exact A.2.2.2.2.2.2.2.1|exact A.2.2.2.2.2.2.2.2|(simp(disch:=omega) only[go_sem,seval,reduceCtorEq,F])|with_reducible exact Ev.mk|apply cT|((first|apply aY|apply aQ)<;>intro qC hb<;>(simp(disch:=omega) only[go_sem,seval,reduceCtorEq,F,qC])<;>clear qC))
 first|done|((repeat revert hb);exact k.q;first|done|((repeat revert hb);exact l.q;first|done|((repeat revert hb);exact m.q;first|done|((repeat revert hb);exact n.q))))):P:=h f0 a0 ⟨k.1⟩ ⟨k.2.1⟩ ⟨k.2.2.1⟩ ⟨k.2.2.2⟩
def hR{uf ua ub P q r s t:Prop}(f0:uf)(a0:ua)(b0:ub)(k:q/\r/\s/\t)(h:uf->ua->ub->Bx q->Bx r->Bx s->Bx t->P:=by
 intro F A B k l m n;repeat'(first|exact A|exact A.1|exact A.2|exact A.2.1|exact A.2.2|exact A.2.2.1|exact A.2.2.2|exact A.2.2.2.1|exact A.2.2.2.2|exact A.2.2.2.2.1|exact A.2.2.2.2.2|exact A.2.2.2.2.2.1|exact A.2.2.2.2.2.2|exact A.2.2.2.2.2.2.1|exact A.2.2.2.2.2.2.2|exact A.2.2.2.2.2.2.2.1|exact A.2.2.2.2.2.2.2.2|exact B|exact B.1|exact B.2|exact B.2.1|exact B.2.2|exact B.2.2.1|exact B.2.2.2|exact B.2.2.2.1|exact B.2.2.2.2|(simp(disch:=omega) only[go_sem,seval,reduceCtorEq,F])|with_reducible exact Ev.mk|refine pw ?_|apply cT|apply nf|refine ct eF eF B eF ?_|refine ct eF eF B.1 eF ?_|refine ct eF eF B.2 eF ?_|refine ct eF eF B.2.1 eF ?_|refine ct eF eF B.2.2 eF ?_|refine ct eF eF B.2.2.1 eF ?_|refine ct eF eF B.2.2.2 eF ?_|refine ct eF eF B.2.2.2.1 eF ?_|refine ct eF eF B.2.2.2.2 eF ?_|refine cW eF B ?_|refine cW eF B.1 ?_|refine cW eF B.2 ?_|refine cW eF B.2.1 ?_|refine cW eF B.2.2 ?_|refine cW eF B.2.2.1 ?_|refine cW eF B.2.2.2 ?_|refine cW eF B.2.2.2.1 ?_|refine cW eF B.2.2.2.2 ?_|((first|apply aY|apply aQ)<;>intro qC hb<;>(simp(disch:=omega) only[go_sem,seval,reduceCtorEq,F,qC])<;>clear qC))
 first|done|((repeat revert hb);exact k.q;first|done|((repeat revert hb);exact l.q;first|done|((repeat revert hb);exact m.q;first|done|((repeat revert hb);exact n.q))))):P:=h f0 a0 b0 ⟨k.1⟩ ⟨k.2.1⟩ ⟨k.2.2.1⟩ ⟨k.2.2.2⟩
def hD{uf ua ub ud P q r s t:Prop}(f0:uf)(a0:ua)(b0:ub)(d0:ud)(k:q/\r/\s/\t)(h:uf->ua->ub->ud->Bx q->Bx r->Bx s->Bx t->P:=by
 intro F A B D k l m n;repeat'(first|exact A|exact A.1|exact A.2|exact A.2.1|exact A.2.2|exact A.2.2.1|exact A.2.2.2|exact A.2.2.2.1|exact A.2.2.2.2|exact A.2.2.2.2.1|exact A.2.2.2.2.2|exact A.2.2.2.2.2.1|exact A.2.2.2.2.2.2|exact A.2.2.2.2.2.2.1|exact A.2.2.2.2.2.2.2|exact A.2.2.2.2.2.2.2.1|exact A.2.2.2.2.2.2.2.2|exact B|exact B.1|exact B.2|exact B.2.1|exact B.2.2|exact B.2.2.1|exact B.2.2.2|exact B.2.2.2.1|exact B.2.2.2.2|(simp(disch:=omega) only[go_sem,seval,reduceCtorEq,F])|with_reducible exact Ev.mk|refine pw ?_|apply cT|apply nf|refine ct eF eF B eF ?_|refine ct eF eF B.1 eF ?_|refine ct eF eF B.2 eF ?_|refine ct eF eF B.2.1 eF ?_|refine ct eF eF B.2.2 eF ?_|refine ct eF eF B.2.2.1 eF ?_|refine ct eF eF B.2.2.2 eF ?_|refine ct eF eF B.2.2.2.1 eF ?_|refine ct eF eF B.2.2.2.2 eF ?_|refine IS eF D ?_|refine cW eF B ?_|refine cW eF B.1 ?_|refine cW eF B.2 ?_|refine cW eF B.2.1 ?_|refine cW eF B.2.2 ?_|refine cW eF B.2.2.1 ?_|refine cW eF B.2.2.2 ?_|refine cW eF B.2.2.2.1 ?_|refine cW eF B.2.2.2.2 ?_|refine Oj eF D ?_|((first|apply aY|apply aQ)<;>intro qC hb<;>(simp(disch:=omega) only[go_sem,seval,reduceCtorEq,F,qC])<;>clear qC))
 first|done|((repeat revert hb);exact k.q;first|done|((repeat revert hb);exact l.q;first|done|((repeat revert hb);exact m.q;first|done|((repeat revert hb);exact n.q))))):P:=h f0 a0 b0 d0 ⟨k.1⟩ ⟨k.2.1⟩ ⟨k.2.2.1⟩ ⟨k.2.2.2⟩
end
def slt(a b:ByteArray):Bool:=Op.bytesLess a.toList b.toList
def uh:∀(x y:List UInt8),Op.bytesLess x y=true↔x<y
 |_,[]=>by simp[Op.bytesLess]
 |[],_::_=>by simp[Op.bytesLess]
 |a::x,b::y=>by
  simp only[Op.bytesLess,ji,aL,df,cH,List.cons_lt_cons_iff,uh x y]
def qj{a b:ByteArray}:slt a b=true↔a.data.toList<b.data.toList:=by
 unfold slt;rw[uh,Lib.toList_data,Lib.toList_data]
def kU(a:ByteArray):slt a a=false:=by
 cases h:slt a a with
 |false=>rfl
 |true=>exact absurd (qj.1 h) (List.lt_irrefl _)
def gM{a b c:ByteArray}(h:slt a b=true)(k:slt b c=true):slt a c=true:=
 qj.2 (List.lt_trans (qj.1 h) (qj.1 k))
def og{a b:ByteArray}(h:slt a b=true):slt b a=false:=by
 cases k:slt b a with
 |false=>rfl
 |true=>have:=gM h k;rw[kU]at this;cases this
def Av{a b:ByteArray}(h:a.data.toList=b.data.toList):a=b:=Go.WideShapes.bytes_inj h
def kq{a b:ByteArray}(h:slt a b=false)(k:slt b a=false):a=b:=by
 have c:¬a.data.toList<b.data.toList:=λx=>by rw[qj.2 x]at h;cases h
 have d:¬b.data.toList<a.data.toList:=λx=>by rw[qj.2 x]at k;cases k
 exact Av (List.le_antisymm (List.not_lt.1 d) (List.not_lt.1 c))
def rK{a b c:ByteArray}(h:slt b a=false)(k:slt b c=true):slt a c=true:=by
 cases x:slt a b with
 |true=>exact gM x k
 |false=>rw[kq x h];exact k
def z6{a b c:ByteArray}(h:slt a b=true)(k:slt c b=false):slt a c=true:=by
 cases x:slt b c with
 |true=>exact gM h x
 |false=>rw[kq k x];exact h
def wI{a b c:ByteArray}(h:slt b a=false)(k:slt c b=false):slt c a=false:=by
 cases x:slt c a with
 |false=>rfl
 |true=>have:=z6 x h;rw[k]at this;cases this
def kf{a b:ByteArray}(h:slt a b=true):a≠b:=by
 rintro rfl;rw[kU]at h;cases h
def sd(a b:ByteArray):(a.toList==b.toList)=decide (a=b):=by
 rw[Lib.toList_data,Lib.toList_data];by_cases h:a=b
 .subst h;simp
 .have:¬a.data.toList=b.data.toList:=λe=>h (Av e)
  rw[show decide (a=b)=false from by simp[h]];exact fy.2 this
def WH(a b:ByteArray):fK .lss a b=some (.bool (slt a b)):=c9 rfl rfl
def Wx(a b:ByteArray):fK .geq a b=some (.bool (!slt a b)):=c9 rfl rfl
def or_eq(a b:ByteArray):(Op.bytesLess a.toList b.toList||a.toList==b.toList)=!slt b a:=by
 rw[sd]
 show(slt a b||decide (a=b))=!slt b a
 cases h:slt a b with
 |true=>rw[og h];rfl
 |false=>
  cases k:slt b a with
  |true=>simp[(kf k).symm]
  |false=>simp[kq h k]
def WJ(a b:ByteArray):fK .leq a b=some (.bool (!slt b a)):=by
 have:fK .leq a b=some (.bool (Op.bytesLess a.toList b.toList||a.toList==b.toList)):=rfl;rw[this,or_eq]
def W9(a b:ByteArray):fK .gtr a b=some (.bool (slt b a)):=by
 have:fK .gtr a b=some (.bool !(Op.bytesLess a.toList b.toList||a.toList==b.toList)):=rfl;rw[this,or_eq,Bool.not_not]
def Wn(a b:ByteArray):fK .eql a b=some (.bool (decide (a=b))):=by
 have:fK .eql a b=some (.bool (a.toList==b.toList)):=rfl;rw[this,sd]
def WZ(a b:ByteArray):fK .neq a b=some (.bool (!decide (a=b))):=by
 have:fK .neq a b=some (.bool !(a.toList==b.toList)):=rfl;rw[this,sd]
attribute [go_sem] WH Wx WJ W9 Wn WZ
def aF(l:List ByteArray):List (List PV):=l.map λs=>[.str s]
def kI(l:List Int):List (List PV):=l.map λn=>[.int .i64 n]
def au(l:List ByteArray):(aF l).length=l.length:=by simp[aF]
def dN(l:List ByteArray)(i:Nat)(h:i<l.length):(aF l)[i]?=some [.str l[i]]:=by simp[aF,h]
def ln(l:List Int):(kI l).length=l.length:=by simp[kI]
def Lc(l:List Int)(i:Nat)(h:i<l.length):(kI l)[i]?=some [.int .i64 l[i]]:=by simp[kI,h]
def Ox:List (List PV)->Option (List ByteArray)
 |[]=>some []
 |[.str s]::r=>match Ox r with
  |some l=>some (s::l)
  |none=>none
 |_=>none
def OG(x:ByteArray):List ByteArray->List ByteArray
 |[]=>[x]
 |y::r=>if slt y x then y::OG x r else x::y::r
def sortStr:List ByteArray->List ByteArray
 |[]=>[]
 |x::r=>OG x (sortStr r)
def EI(l:List ByteArray):Prop:=l.Pairwise λa b=>slt b a=false
section
open Go.RowKit Go.Shelf Go.Sort Go.Proofs
section
variable{P:Program}
def Ax{w:World}{b:Nat}{a:Array Value}{T:TypeId}{d:Nat×Nat}(e:w.heap[b]?=some (.cells a T d))(f:Array Value->Array Value):mapBlock w b f=cA w b (f a) T d:=by
 have c:=aO e;simp only[mapBlock,cA];congr 1;apply Cm;intro i;rw[H0];by_cases h:b=i
 .subst h;rw[e];simp[c,onCells]
 .simp[h]
def xD(w:World)(n:Nat)(a:Array Obj):Below w.heap.size w (grow (Go.Sort.ahead w n) a):=
 Below.OI ⟨rfl,rfl,rfl,by simp[grow,Go.Sort.ahead],λk b=>by simp[grow,Go.Sort.ahead,AY,b]⟩ (by simp[grow,Go.Sort.ahead])
def KZ{D:Type}[Inhabited D]{f:FuncId}(G:gO P f)(d:D->Value)(u:D->PV)(I:∀(w:World) (U:Nat->Prop) (x:D),bN w U (u x) (d x))(J:∀x,(d x).oneCell'=true)
  (K:∀(w:World) (U:Nat->Prop) (x:D) (v:Value),bN w U (u x) v->v=d x)
  (l k:List D)(hl:k.length=l.length)
  (h0:l=[]->∀(p:Option Addr) (q:Nat) (w:World),Calls P f #[.slice p 0 q] w λe L=>e=.returned (.tuple #[])/\L=w)
  (Z:l≠[]->∀(b q:Nat) (w:World),Holds d w b 0 l.toArray->b<w.heap.size->Calls P f #[.slice (some ⟨b,0,none⟩) l.length q] w λe L=>e=.returned (.tuple #[])/\∃n os,L=grow (putRow d (Go.Sort.ahead w n) b 0 k.toArray) os)
  {id:Nat}{H:Heap}{V:Nat}(W:ag H id=some (.row false 1 (l.map λs=>[u s]))):
  kj P f [.ref id l.length 0 l.length] H V (.tuple []) (aC H id (.row false 1 (k.map λs=>[u s]))) V:=by
 refine⟨G,λB w0 U0 β w X m x1 M=>?_⟩;have hv:=M 0 _ rfl;have N:X=#[X.getD 0 undef]:=by
  apply tV
  .simpa using x1
  .intro i Z h2;have r:i=0:=by simp at h2;omega
   subst r;simp[Z]
 rw[N];generalize X.getD 0 undef=v at hv;have z:(l.map λs=>[u s]).length=l.length:=az;cases hv with|ref _ _ _ _ _ hid x2 o=>
 have o:=(o _ _ _ W).2 z.symm (by rw[z];omega);by_cases h:l=[]
 .have O:k=[]:=List.eq_nil_of_length_eq_zero (by rw[hl,h];rfl)
  have x3:∃p c,v=.slice p 0 c:=by
   rcases o with⟨_,_,a,rfl⟩|⟨b,q,a,_,rfl,_⟩
   .exact⟨_,_,rfl⟩
   .subst h;exact⟨_,_,rfl⟩
  obtain⟨p,c,rfl⟩:=x3;refine(h0 h p c w).mono ?_;rintro e L ⟨rfl,rfl⟩;refine⟨_,rfl,nZ m ?_ bg.undef⟩;subst h;subst O;exact mq W
 .have Q:0<l.length:=List.length_pos_iff.2 h;rcases o with⟨g,_,_⟩|⟨b,q,a,hb,rfl,ha⟩
  .simp at g;exact absurd g h
  .obtain rfl:=ha (.inl Q);rcases m.h.aZ id _ W with⟨R,hn⟩|⟨b',xb,t,T,k1,k2,k3,k4,k5,k6,X,k7,k8,k9⟩
   .simp at R;exact absurd R h
   .rw[hb]at k1;simp only[ay,bY]at k1;obtain⟨rfl,rfl⟩:=k1;have x4:∀i (r:i<l.length),t[i]?=some (d l[i]):=by
     intro i r;have g:(l.map λs=>[u s])[i]?=some [u l[i]]:=by simp[r]
     have Y:=k7 i _ 0 _ g rfl;have e2:=K _ _ _ _ (k9 i _ 0 _ g rfl);rw[e2]at Y;simpa using Y
    have A:Holds d w b 0 l.toArray:=by
     intro j C;simp only[List.size_toArray]at C;refine⟨?_,fX k3⟩;rw[Nat.zero_add];refine bR k3 ?_;rw[x4 j C];simp[getElem!_pos,C]
    simp only[wT,lQ];refine(Z h b q w A (aO k3)).mono ?_;rintro e L ⟨rfl,n,os,rfl⟩;have Y:putRow d (Go.Sort.ahead w n) b 0 k.toArray=Go.Sort.ahead (cA w b (putCells d 0 k.toArray t) T (0,0)) n:=by
     rw[putRow_ahead,putRow,Ax k3]
    rw[Y];have S:∀i (r:i<k.length),(putCells d 0 k.toArray t)[i]?=some (d k[i]):=by
     intro i r;have x5:i<t.size:=by rw[k4];simp only[List.length_map]at k5;omega
     have xm:i<k.toArray.size:=by simpa using r
     simp[putCells,Array.getElem?_mapIdx,x5,r,getElem!_pos]
    have hg:Good B w0 U0 H V β w (.tuple []) (aC H id (.row false 1 (k.map λs=>[u s]))) V (.tuple #[]) (cA w b (putCells d 0 k.toArray t) T (0,0)):=by
     refine lv m W hb k2 k3 (by simp[putCells,k4]) (by simp only[List.length_map]at k5⊢;omega) (by simp[hl]) (λi _=>d (k.getD i default)) ⟨?_,?_,?_⟩ ?_ _ _ (λ_ _ _ _=>bg.undef)
     .intro i x j y g E;exact J _
     .intro i x j y g E;rw[List.getElem?_map]at g;cases F:k[i]? with
      |none=>rw[F]at g;cases g
      |some c=>
       rw[F]at g;simp only[Option.map_some,ay]at g;subst g;have C:j=0:=by have:=aN E;simpa using this
       subst C;simp only[List.getElem?_cons_zero,ay]at E;subst E;rw[List.getD_eq_getElem?_getD,F];exact I _ _ _
     .intro x g;obtain⟨c,_,rfl⟩:=List.mem_map.1 g;rfl
     .intro i x j y g E;have r:=aN g;simp only[List.length_map]at r;rw[List.getElem?_map]at g;cases F:k[i]? with
      |none=>rw[F]at g;cases g
      |some c=>
       rw[F]at g;simp only[Option.map_some,ay]at g;subst g;have C:j=0:=by have:=aN E;simpa using this
       subst C;rw[Nat.mul_one,pY,S i r,List.getD_eq_getElem?_getD];simp[r]
    obtain⟨x6,m1,kp,ev,dr⟩:=hg;obtain⟨m2,x7⟩:=m1.call (xD _ n os);exact⟨_,rfl,x6,m2,kp.trans x7,ev,bg.undef⟩
def Gy{f:FuncId}{fn:Func}(h:P.funcs[f]?=some fn)(a:(fn.name== "runtime.NumGoroutine")=false)(b:fn.body.isNone=false):gO P f:=⟨fn,h,a,b⟩
def si(F:FuncId):aK where
 pure:=λ_ _=>none
 dq:=λf args H nx=>if f=F then match args with
   |[.ref id sj 0 n]=>match ag H id with
    |some (.row false 1 xs)=>match Ox xs with
     |some l=>if sj=l.length/\n=l.length/\l.length<=an then some (.tuple [],aC H id (.row false 1 (aF (sortStr l))),nx)else none
     |none=>none
    |_=>none
   |[.p (.slice _ [])]=>some (.tuple [],H,nx)
   |_=>none
  else none
def EA(F:FuncId)(sz bytes:Nat):aK where
 pure:=λ_ _=>none
 dq:=λf args H nx=>if f=F then match args with
   |[.p (.slice true []),.p (.int .i64 n)]=>if 0<=n/\n.toNat*bytes<=an/\n.toNat<=an then some (.ref nx 0 0 0,(nx,.row false sz [])::H,nx+1)else none
   |_=>none
  else none
end
end
end Go.Dv
