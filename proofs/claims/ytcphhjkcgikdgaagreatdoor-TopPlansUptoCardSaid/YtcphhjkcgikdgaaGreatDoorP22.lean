/- Lemmas for the law of this claim. -/
import Derived.Test.YtcphhjkcgikdgaaGreatDoorP21
import Derived.Lib.Strings
import Derived.WideShapes
import Derived.Shelf.Sort.Plain
import Derived.Shelf.Slices.In.SortNone
import Derived.Shelf.Spec.SlicesGrow
set_option linter.all false
namespace Go.Dv
section
open Go
structure Bx(Q:Prop):Prop where
 q:Q
def Cj{a b:Prop}(x:a)(y:b):a/\b:=⟨x,y⟩
def bC:(∀(a b:DV) (l:List DV),(a::l).set 0 b=b::l)/\(∀(a b:DV) (l:List DV) (n:Nat),(a::l).set (n+1) b=a::l.set n b)/\(∀(a b:PV) (l:List PV),(a::l).set 0 b=b::l)/\∀(a b:PV) (l:List PV) (n:Nat),(a::l).set (n+1) b=a::l.set n b:=⟨λ_ _ _=>rfl,λ_ _ _ _=>rfl,λ_ _ _=>rfl,λ_ _ _ _=>rfl⟩
def eF{P:Prop}(h:P:=by first|with_reducible exact Ev.mk|(simp(disch:=omega) only[go_sem,seval,reduceCtorEq,F];done)|(simp(disch:=omega) only[go_sem,seval,reduceCtorEq,F];with_reducible exact Ev.mk)):P:=h
def k0:True/\True/\True/\True:=⟨⟨⟩,⟨⟩,⟨⟩,⟨⟩⟩
def k1{a:Prop}(x:a):a/\True/\True/\True:=⟨x,⟨⟩,⟨⟩,⟨⟩⟩
def k2{a b:Prop}(x:a)(y:b):a/\b/\True/\True:=⟨x,y,⟨⟩,⟨⟩⟩
def k3{a b c:Prop}(x:a)(y:b)(z:c):a/\b/\c/\True:=⟨x,y,z,⟨⟩⟩
def k4{a b c d:Prop}(x:a)(y:b)(z:c)(t:d):a/\b/\c/\d:=⟨x,y,z,t⟩
def nJ{P q:Prop}(k:q)(h:Bx q->P:=by
 intro k;try simp(disch:=omega) only[go_sem,seval,reduceCtorEq]
 exact k.q):P:=h ⟨k⟩
def gN{uf P q r s t:Prop}(f0:uf)(k:q/\r/\s/\t)(h:uf->Bx q->Bx r->Bx s->Bx t->P:=by
 intro F k l m n;repeat'(first|(simp(disch:=omega) only[go_sem,seval,reduceCtorEq,F])|with_reducible exact Ev.mk|((first|apply b5|apply bO)<;>intro pP hb<;>(simp(disch:=omega) only[go_sem,seval,reduceCtorEq,F,pP])<;>clear pP))
 first|done|(exact k.q;first|done|(exact l.q;first|done|(exact m.q;first|done|exact n.q)))):P:=h f0 ⟨k.1⟩ ⟨k.2.1⟩ ⟨k.2.2.1⟩ ⟨k.2.2.2⟩
def gP{uf ua P q r s t:Prop}(f0:uf)(a0:ua)(k:q/\r/\s/\t)(h:uf->ua->Bx q->Bx r->Bx s->Bx t->P:=by
 intro F A k l m n;repeat'(first|exact A|exact A.1|exact A.2|exact A.2.1|exact A.2.2|exact A.2.2.1|exact A.2.2.2|exact A.2.2.2.1|exact A.2.2.2.2|exact A.2.2.2.2.1|exact A.2.2.2.2.2|exact A.2.2.2.2.2.1|exact A.2.2.2.2.2.2|exact A.2.2.2.2.2.2.1|exact A.2.2.2.2.2.2.2|exact A.2.2.2.2.2.2.2.1|exact A.2.2.2.2.2.2.2.2|(simp(disch:=omega) only[go_sem,seval,reduceCtorEq,F])|with_reducible exact Ev.mk|apply gb|((first|apply b5|apply bO)<;>intro pP hb<;>(simp(disch:=omega) only[go_sem,seval,reduceCtorEq,F,pP])<;>clear pP))
 first|done|(exact k.q;first|done|(exact l.q;first|done|(exact m.q;first|done|exact n.q)))):P:=h f0 a0 ⟨k.1⟩ ⟨k.2.1⟩ ⟨k.2.2.1⟩ ⟨k.2.2.2⟩
def gR{uf ua ub P q r s t:Prop}(f0:uf)(a0:ua)(b0:ub)(k:q/\r/\s/\t)(h:uf->ua->ub->Bx q->Bx r->Bx s->Bx t->P:=by
 intro F A B k l m n;repeat'(first|exact A|exact A.1|exact A.2|exact A.2.1|exact A.2.2|exact A.2.2.1|exact A.2.2.2|exact A.2.2.2.1|exact A.2.2.2.2|exact A.2.2.2.2.1|exact A.2.2.2.2.2|exact A.2.2.2.2.2.1|exact A.2.2.2.2.2.2|exact A.2.2.2.2.2.2.1|exact A.2.2.2.2.2.2.2|exact A.2.2.2.2.2.2.2.1|exact A.2.2.2.2.2.2.2.2|exact B|exact B.1|exact B.2|exact B.2.1|exact B.2.2|exact B.2.2.1|exact B.2.2.2|exact B.2.2.2.1|exact B.2.2.2.2|(simp(disch:=omega) only[go_sem,seval,reduceCtorEq,F])|with_reducible exact Ev.mk|refine xY ?_|apply gb|apply tY|refine cB eF eF B eF ?_|refine cB eF eF B.1 eF ?_|refine cB eF eF B.2 eF ?_|refine cB eF eF B.2.1 eF ?_|refine cB eF eF B.2.2 eF ?_|refine cB eF eF B.2.2.1 eF ?_|refine cB eF eF B.2.2.2 eF ?_|refine cB eF eF B.2.2.2.1 eF ?_|refine cB eF eF B.2.2.2.2 eF ?_|refine dh eF B ?_|refine dh eF B.1 ?_|refine dh eF B.2 ?_|refine dh eF B.2.1 ?_|refine dh eF B.2.2 ?_|refine dh eF B.2.2.1 ?_|refine dh eF B.2.2.2 ?_|refine dh eF B.2.2.2.1 ?_|refine dh eF B.2.2.2.2 ?_|((first|apply b5|apply bO)<;>intro pP hb<;>(simp(disch:=omega) only[go_sem,seval,reduceCtorEq,F,pP])<;>clear pP))
 first|done|(exact k.q;first|done|(exact l.q;first|done|(exact m.q;first|done|exact n.q)))):P:=h f0 a0 b0 ⟨k.1⟩ ⟨k.2.1⟩ ⟨k.2.2.1⟩ ⟨k.2.2.2⟩
def gD{uf ua ub ud P q r s t:Prop}(f0:uf)(a0:ua)(b0:ub)(d0:ud)(k:q/\r/\s/\t)(h:uf->ua->ub->ud->Bx q->Bx r->Bx s->Bx t->P:=by
 intro F A B D k l m n;repeat'(first|exact A|exact A.1|exact A.2|exact A.2.1|exact A.2.2|exact A.2.2.1|exact A.2.2.2|exact A.2.2.2.1|exact A.2.2.2.2|exact A.2.2.2.2.1|exact A.2.2.2.2.2|exact A.2.2.2.2.2.1|exact A.2.2.2.2.2.2|exact A.2.2.2.2.2.2.1|exact A.2.2.2.2.2.2.2|exact A.2.2.2.2.2.2.2.1|exact A.2.2.2.2.2.2.2.2|exact B|exact B.1|exact B.2|exact B.2.1|exact B.2.2|exact B.2.2.1|exact B.2.2.2|exact B.2.2.2.1|exact B.2.2.2.2|(simp(disch:=omega) only[go_sem,seval,reduceCtorEq,F])|with_reducible exact Ev.mk|refine xY ?_|apply gb|apply tY|refine cB eF eF B eF ?_|refine cB eF eF B.1 eF ?_|refine cB eF eF B.2 eF ?_|refine cB eF eF B.2.1 eF ?_|refine cB eF eF B.2.2 eF ?_|refine cB eF eF B.2.2.1 eF ?_|refine cB eF eF B.2.2.2 eF ?_|refine cB eF eF B.2.2.2.1 eF ?_|refine cB eF eF B.2.2.2.2 eF ?_|refine IA eF D ?_|refine dh eF B ?_|refine dh eF B.1 ?_|refine dh eF B.2 ?_|refine dh eF B.2.1 ?_|refine dh eF B.2.2 ?_|refine dh eF B.2.2.1 ?_|refine dh eF B.2.2.2 ?_|refine dh eF B.2.2.2.1 ?_|refine dh eF B.2.2.2.2 ?_|refine Oi eF D ?_|((first|apply b5|apply bO)<;>intro pP hb<;>(simp(disch:=omega) only[go_sem,seval,reduceCtorEq,F,pP])<;>clear pP))
 first|done|(exact k.q;first|done|(exact l.q;first|done|(exact m.q;first|done|exact n.q)))):P:=h f0 a0 b0 d0 ⟨k.1⟩ ⟨k.2.1⟩ ⟨k.2.2.1⟩ ⟨k.2.2.2⟩
def hN{uf P q r s t:Prop}(f0:uf)(k:q/\r/\s/\t)(h:uf->Bx q->Bx r->Bx s->Bx t->P:=by
 intro F k l m n;repeat'(first|(simp(disch:=omega) only[go_sem,seval,reduceCtorEq,F])|with_reducible exact Ev.mk|((first|apply b5|apply bO)<;>intro pP hb<;>(simp(disch:=omega) only[go_sem,seval,reduceCtorEq,F,pP])<;>clear pP))
 first|done|((repeat revert hb);exact k.q;first|done|((repeat revert hb);exact l.q;first|done|((repeat revert hb);exact m.q;first|done|((repeat revert hb);exact n.q))))):P:=h f0 ⟨k.1⟩ ⟨k.2.1⟩ ⟨k.2.2.1⟩ ⟨k.2.2.2⟩
def hP{uf ua P q r s t:Prop}(f0:uf)(a0:ua)(k:q/\r/\s/\t)(h:uf->ua->Bx q->Bx r->Bx s->Bx t->P:=by
 intro F A k l m n;repeat'(first|exact A|exact A.1|exact A.2|exact A.2.1|exact A.2.2|exact A.2.2.1|exact A.2.2.2|exact A.2.2.2.1|exact A.2.2.2.2|exact A.2.2.2.2.1|exact A.2.2.2.2.2|exact A.2.2.2.2.2.1|exact A.2.2.2.2.2.2|exact A.2.2.2.2.2.2.1|exact A.2.2.2.2.2.2.2|exact A.2.2.2.2.2.2.2.1|exact A.2.2.2.2.2.2.2.2|(simp(disch:=omega) only[go_sem,seval,reduceCtorEq,F])|with_reducible exact Ev.mk|apply gb|((first|apply b5|apply bO)<;>intro pP hb<;>(simp(disch:=omega) only[go_sem,seval,reduceCtorEq,F,pP])<;>clear pP))
 first|done|((repeat revert hb);exact k.q;first|done|((repeat revert hb);exact l.q;first|done|((repeat revert hb);exact m.q;first|done|((repeat revert hb);exact n.q))))):P:=h f0 a0 ⟨k.1⟩ ⟨k.2.1⟩ ⟨k.2.2.1⟩ ⟨k.2.2.2⟩
def hR{uf ua ub P q r s t:Prop}(f0:uf)(a0:ua)(b0:ub)(k:q/\r/\s/\t)(h:uf->ua->ub->Bx q->Bx r->Bx s->Bx t->P:=by
 intro F A B k l m n;repeat'(first|exact A|exact A.1|exact A.2|exact A.2.1|exact A.2.2|exact A.2.2.1|exact A.2.2.2|exact A.2.2.2.1|exact A.2.2.2.2|exact A.2.2.2.2.1|exact A.2.2.2.2.2|exact A.2.2.2.2.2.1|exact A.2.2.2.2.2.2|exact A.2.2.2.2.2.2.1|exact A.2.2.2.2.2.2.2|exact A.2.2.2.2.2.2.2.1|exact A.2.2.2.2.2.2.2.2|exact B|exact B.1|exact B.2|exact B.2.1|exact B.2.2|exact B.2.2.1|exact B.2.2.2|exact B.2.2.2.1|exact B.2.2.2.2|(simp(disch:=omega) only[go_sem,seval,reduceCtorEq,F])|with_reducible exact Ev.mk|refine xY ?_|apply gb|apply tY|refine cB eF eF B eF ?_|refine cB eF eF B.1 eF ?_|refine cB eF eF B.2 eF ?_|refine cB eF eF B.2.1 eF ?_|refine cB eF eF B.2.2 eF ?_|refine cB eF eF B.2.2.1 eF ?_|refine cB eF eF B.2.2.2 eF ?_|refine cB eF eF B.2.2.2.1 eF ?_|refine cB eF eF B.2.2.2.2 eF ?_|refine dh eF B ?_|refine dh eF B.1 ?_|refine dh eF B.2 ?_|refine dh eF B.2.1 ?_|refine dh eF B.2.2 ?_|refine dh eF B.2.2.1 ?_|refine dh eF B.2.2.2 ?_|refine dh eF B.2.2.2.1 ?_|refine dh eF B.2.2.2.2 ?_|((first|apply b5|apply bO)<;>intro pP hb<;>(simp(disch:=omega) only[go_sem,seval,reduceCtorEq,F,pP])<;>clear pP))
 first|done|((repeat revert hb);exact k.q;first|done|((repeat revert hb);exact l.q;first|done|((repeat revert hb);exact m.q;first|done|((repeat revert hb);exact n.q))))):P:=h f0 a0 b0 ⟨k.1⟩ ⟨k.2.1⟩ ⟨k.2.2.1⟩ ⟨k.2.2.2⟩
def hD{uf ua ub ud P q r s t:Prop}(f0:uf)(a0:ua)(b0:ub)(d0:ud)(k:q/\r/\s/\t)(h:uf->ua->ub->ud->Bx q->Bx r->Bx s->Bx t->P:=by
 intro F A B D k l m n;repeat'(first|exact A|exact A.1|exact A.2|exact A.2.1|exact A.2.2|exact A.2.2.1|exact A.2.2.2|exact A.2.2.2.1|exact A.2.2.2.2|exact A.2.2.2.2.1|exact A.2.2.2.2.2|exact A.2.2.2.2.2.1|exact A.2.2.2.2.2.2|exact A.2.2.2.2.2.2.1|exact A.2.2.2.2.2.2.2|exact A.2.2.2.2.2.2.2.1|exact A.2.2.2.2.2.2.2.2|exact B|exact B.1|exact B.2|exact B.2.1|exact B.2.2|exact B.2.2.1|exact B.2.2.2|exact B.2.2.2.1|exact B.2.2.2.2|(simp(disch:=omega) only[go_sem,seval,reduceCtorEq,F])|with_reducible exact Ev.mk|refine xY ?_|apply gb|apply tY|refine cB eF eF B eF ?_|refine cB eF eF B.1 eF ?_|refine cB eF eF B.2 eF ?_|refine cB eF eF B.2.1 eF ?_|refine cB eF eF B.2.2 eF ?_|refine cB eF eF B.2.2.1 eF ?_|refine cB eF eF B.2.2.2 eF ?_|refine cB eF eF B.2.2.2.1 eF ?_|refine cB eF eF B.2.2.2.2 eF ?_|refine IA eF D ?_|refine dh eF B ?_|refine dh eF B.1 ?_|refine dh eF B.2 ?_|refine dh eF B.2.1 ?_|refine dh eF B.2.2 ?_|refine dh eF B.2.2.1 ?_|refine dh eF B.2.2.2 ?_|refine dh eF B.2.2.2.1 ?_|refine dh eF B.2.2.2.2 ?_|refine Oi eF D ?_|((first|apply b5|apply bO)<;>intro pP hb<;>(simp(disch:=omega) only[go_sem,seval,reduceCtorEq,F,pP])<;>clear pP))
 first|done|((repeat revert hb);exact k.q;first|done|((repeat revert hb);exact l.q;first|done|((repeat revert hb);exact m.q;first|done|((repeat revert hb);exact n.q))))):P:=h f0 a0 b0 d0 ⟨k.1⟩ ⟨k.2.1⟩ ⟨k.2.2.1⟩ ⟨k.2.2.2⟩
end
def slt(a b:ByteArray):Bool:=Op.bytesLess a.toList b.toList
def s9:∀(x y:List UInt8),Op.bytesLess x y=true↔x<y
 |_,[]=>by simp[Op.bytesLess]
 |[],_::_=>by simp[Op.bytesLess]
 |a::x,b::y=>by
  simp only[Op.bytesLess,iT,aO,cp,cw,List.cons_lt_cons_iff,s9 x y]
def og{a b:ByteArray}:slt a b=true↔a.data.toList<b.data.toList:=by
 unfold slt;rw[s9,Lib.toList_data,Lib.toList_data]
def mu(a:ByteArray):slt a a=false:=by
 cases h:slt a a with
 |false=>rfl
 |true=>exact absurd (og.1 h) (List.lt_irrefl _)
def jT{a b c:ByteArray}(h:slt a b=true)(k:slt b c=true):slt a c=true:=
 og.2 (List.lt_trans (og.1 h) (og.1 k))
def rO{a b:ByteArray}(h:slt a b=true):slt b a=false:=by
 cases k:slt b a with
 |false=>rfl
 |true=>have:=jT h k;rw[mu]at this;cases this
def Ag{a b:ByteArray}(h:a.data.toList=b.data.toList):a=b:=Go.WideShapes.bytes_inj h
def mR{a b:ByteArray}(h:slt a b=false)(k:slt b a=false):a=b:=by
 have c:¬a.data.toList<b.data.toList:=λx=>by rw[og.2 x]at h;cases h
 have d:¬b.data.toList<a.data.toList:=λx=>by rw[og.2 x]at k;cases k
 exact Ag (List.le_antisymm (List.not_lt.1 d) (List.not_lt.1 c))
def Av{a b c:ByteArray}(h:slt b a=false)(k:slt b c=true):slt a c=true:=by
 cases x:slt a b with
 |true=>exact jT x k
 |false=>rw[mR x h];exact k
def zT{a b c:ByteArray}(h:slt a b=true)(k:slt c b=false):slt a c=true:=by
 cases x:slt b c with
 |true=>exact jT h x
 |false=>rw[mR k x];exact h
def CF{a b c:ByteArray}(h:slt b a=false)(k:slt c b=false):slt c a=false:=by
 cases x:slt c a with
 |false=>rfl
 |true=>have:=zT x h;rw[k]at this;cases this
def uN{a b:ByteArray}(h:slt a b=true):a≠b:=by
 rintro rfl;rw[mu]at h;cases h
def rh(a b:ByteArray):(a.toList==b.toList)=decide (a=b):=by
 rw[Lib.toList_data,Lib.toList_data];by_cases h:a=b
 .subst h;simp
 .have:¬a.data.toList=b.data.toList:=λe=>h (Ag e)
  rw[show decide (a=b)=false from by simp[h]];exact er.2 this
def Wm(a b:ByteArray):fA .lss a b=some (.bool (slt a b)):=cN rfl rfl
def Wk(a b:ByteArray):fA .geq a b=some (.bool (!slt a b)):=cN rfl rfl
def or_eq(a b:ByteArray):(Op.bytesLess a.toList b.toList||a.toList==b.toList)=!slt b a:=by
 rw[rh]
 show(slt a b||decide (a=b))=!slt b a
 cases h:slt a b with
 |true=>rw[rO h];rfl
 |false=>
  cases k:slt b a with
  |true=>simp[(uN k).symm]
  |false=>simp[mR h k]
def V5(a b:ByteArray):fA .leq a b=some (.bool (!slt b a)):=by
 have:fA .leq a b=some (.bool (Op.bytesLess a.toList b.toList||a.toList==b.toList)):=rfl;rw[this,or_eq]
def WT(a b:ByteArray):fA .gtr a b=some (.bool (slt b a)):=by
 have:fA .gtr a b=some (.bool !(Op.bytesLess a.toList b.toList||a.toList==b.toList)):=rfl;rw[this,or_eq,Bool.not_not]
def Wa(a b:ByteArray):fA .eql a b=some (.bool (decide (a=b))):=by
 have:fA .eql a b=some (.bool (a.toList==b.toList)):=rfl;rw[this,rh]
def VA(a b:ByteArray):fA .neq a b=some (.bool (!decide (a=b))):=by
 have:fA .neq a b=some (.bool !(a.toList==b.toList)):=rfl;rw[this,rh]
attribute [go_sem] Wm Wk V5 WT Wa VA
def aA(l:List ByteArray):List (List PV):=l.map λs=>[.str s]
def kf(l:List Int):List (List PV):=l.map λn=>[.int .i64 n]
def aE(l:List ByteArray):(aA l).length=l.length:=by simp[aA]
def jN(l:List ByteArray)(i:Nat)(h:i<l.length):(aA l)[i]?=some [.str l[i]]:=by simp[aA,h]
def GZ(x:ByteArray)(l:List ByteArray):aA (x::l)=[.str x]::aA l:=rfl
def Er(l:List ByteArray):bV 1 (aA l)=true:=by simp[bV,aA]
def kF(l:List Int):(kf l).length=l.length:=by simp[kf]
def JT(l:List Int)(i:Nat)(h:i<l.length):(kf l)[i]?=some [.int .i64 l[i]]:=by simp[kf,h]
def qh:List (List PV)->Option (List ByteArray)
 |[]=>some []
 |[.str s]::r=>match qh r with
  |some l=>some (s::l)
  |none=>none
 |_=>none
def A3:∀l,qh (aA l)=some l
 |[]=>rfl
 |x::l=>by simp only[GZ,qh,A3 l]
def yL:∀{b:List (List PV)} {l:List ByteArray},qh b=some l->b=aA l
 |[],l,h=>by simp only[qh,aw]at h;subst h;rfl
 |x::r,l,h=>by
  unfold qh at h;split at h
  .rename_i e;cases e
  .rename_i s c e;cases e;cases a:qh r with
   |none=>rw[a]at h;cases h
   |some q=>rw[a]at h;simp only[aw]at h;subst h;rw[yL a];rfl
  .cases h
def rK(x:ByteArray):List ByteArray->List ByteArray
 |[]=>[x]
 |y::r=>if slt y x then y::rK x r else x::y::r
def sortStr:List ByteArray->List ByteArray
 |[]=>[]
 |x::r=>rK x (sortStr r)
def sd(x:ByteArray):∀l,(rK x l).Perm (x::l)
 |[]=>List.Perm.refl _
 |y::r=>by
  unfold rK;split
  .exact((sd x r).cons y).trans (List.Perm.swap x y r)
  .exact List.Perm.refl _
def qH:∀l,(sortStr l).Perm l
 |[]=>List.Perm.refl _
 |x::r=>(sd x _).trans ((qH r).cons x)
def EM(l:List ByteArray):Prop:=l.Pairwise λa b=>slt b a=false
def AL(x:ByteArray):∀{l},EM l->EM (rK x l)
 |[],_=>by simp[rK,EM]
 |y::r,h=>by
  obtain⟨c,d⟩:=List.pairwise_cons.1 h;unfold rK;split
  .rename_i b;refine List.pairwise_cons.2 ⟨λz a=>?_,AL x d⟩;rcases List.mem_cons.1 ((sd x r).mem_iff.1 a)with rfl|a
   .exact rO b
   .exact c z a
  .rename_i b;have b:slt y x=false:=by simpa using b
   refine List.pairwise_cons.2 ⟨λz a=>?_,h⟩;rcases List.mem_cons.1 a with rfl|a
   .exact b
   .exact CF b (c z a)
def rX:∀l,EM (sortStr l)
 |[]=>List.Pairwise.nil
 |x::r=>AL x (rX r)
def AG{l c:List ByteArray}(h:EM l)(d:EM c)(e:l.Perm c):l=c:=
 List.Perm.eq_of_pairwise (le:=λa b=>slt b a=false) (λa b _ _ h k=>mR k h) h d e
def Jm(l:List ByteArray):((l.map λs=>s.data.toList).mergeSort λx y=>decide (x<=y)).map (λb=>(⟨b.toArray⟩:ByteArray))=sortStr l:=by
 refine AG ?_ (rX l) ?_
 .have d:=List.pairwise_mergeSort (le:=λ(x y:List UInt8)=>decide (x<=y)) (λa b c h k=>by
   simp only[cp]at h k⊢;exact List.le_trans h k) (λa b=>by
   simp only[iT,cp];exact List.le_total a b) (l.map λs=>s.data.toList)
  unfold EM;rw[List.pairwise_map];refine d.imp λ{a b} h=>?_
  simp only[cp]at h;cases k:slt (⟨b.toArray⟩:ByteArray) ⟨a.toArray⟩with
  |false=>rfl
  |true=>exact absurd (og.1 k) (by simpa using List.not_lt.2 h)
 .refine((List.mergeSort_perm _ _).map _).trans ?_;rw[List.map_map];refine(List.Perm.of_eq ?_).trans (qH l).symm
  conv=>rhs;rw[<-List.map_id l]
  rfl
section
open Go.RowKit Go.Shelf Go.Sort Go.Proofs
section
variable{P:Program}
def Af{w:World}{b:Nat}{a:Array Value}{T:TypeId}{d:Nat×Nat}(e:w.heap[b]?=some (.cells a T d))(f:Array Value->Array Value):mapBlock w b f=cu w b (f a) T d:=by
 have c:=aM e;simp only[mapBlock,cu];congr 1;apply D4;intro i;rw[G6];by_cases h:b=i
 .subst h;rw[e];simp[c,onCells]
 .simp[h]
def xS(w:World)(n:Nat)(a:Array Obj):Below w.heap.size w (grow (Go.Sort.ahead w n) a):=
 Below.Oh ⟨rfl,rfl,rfl,by simp[grow,Go.Sort.ahead],λk b=>by simp[grow,Go.Sort.ahead,Aa,b]⟩ (by simp[grow,Go.Sort.ahead])
def A8{D:Type}[Inhabited D]{f:FuncId}(G:fx P f)(d:D->Value)(u:D->PV)(I:∀(w:World) (U:Nat->Prop) (x:D),bP w U (u x) (d x))(J:∀x,(d x).oneCell'=true)
  (K:∀(w:World) (U:Nat->Prop) (x:D) (v:Value),bP w U (u x) v->v=d x)
  (l k:List D)(hl:k.length=l.length)
  (h0:l=[]->∀(p:Option Addr) (q:Nat) (w:World),Calls P f #[.slice p 0 q] w λe L=>e=.returned (.tuple #[])/\L=w)
  (Z:l≠[]->∀(b q:Nat) (w:World),Holds d w b 0 l.toArray->b<w.heap.size->Calls P f #[.slice (some ⟨b,0,none⟩) l.length q] w λe L=>e=.returned (.tuple #[])/\∃n os,L=grow (putRow d (Go.Sort.ahead w n) b 0 k.toArray) os)
  {id:Nat}{H:Heap}{V:Nat}(W:ah H id=some (.row false 1 (l.map λs=>[u s]))):
  iJ P f [.ref id l.length 0 l.length] H V (.tuple []) (aH H id (.row false 1 (k.map λs=>[u s]))) V:=by
 refine⟨G,λB w0 U0 β w X m x1 M=>?_⟩;have hv:=M 0 _ rfl;have N:X=#[X.getD 0 undef]:=by
  apply rL
  .simpa using x1
  .intro i Z h2;have r:i=0:=by simp at h2;omega
   subst r;simp[Z]
 rw[N];generalize X.getD 0 undef=v at hv;have z:(l.map λs=>[u s]).length=l.length:=aB;cases hv with|ref _ _ _ _ _ hid x2 o=>
 have o:=(o _ _ _ W).2 z.symm (by rw[z];omega);by_cases h:l=[]
 .have O:k=[]:=List.eq_nil_of_length_eq_zero (by rw[hl,h];rfl)
  have x3:∃p c,v=.slice p 0 c:=by
   rcases o with⟨_,_,a,rfl⟩|⟨b,q,a,_,rfl,_⟩
   .exact⟨_,_,rfl⟩
   .subst h;exact⟨_,_,rfl⟩
  obtain⟨p,c,rfl⟩:=x3;refine(h0 h p c w).mono ?_;rintro e L ⟨rfl,rfl⟩;refine⟨_,rfl,np m ?_ bj.undef⟩;subst h;subst O;exact lW W
 .have Q:0<l.length:=List.length_pos_iff.2 h;rcases o with⟨g,_,_⟩|⟨b,q,a,hb,rfl,ha⟩
  .simp at g;exact absurd g h
  .obtain rfl:=ha (.inl Q);rcases m.h.aY id _ W with⟨R,hn⟩|⟨b',xb,t,T,k1,k2,k3,k4,k5,k6,X,k7,k8,k9⟩
   .simp at R;exact absurd R h
   .rw[hb]at k1;simp only[aw,bQ]at k1;obtain⟨rfl,rfl⟩:=k1;have x4:∀i (r:i<l.length),t[i]?=some (d l[i]):=by
     intro i r;have g:(l.map λs=>[u s])[i]?=some [u l[i]]:=by simp[r]
     have Y:=k7 i _ 0 _ g rfl;have e2:=K _ _ _ _ (k9 i _ 0 _ g rfl);rw[e2]at Y;simpa using Y
    have A:Holds d w b 0 l.toArray:=by
     intro j C;simp only[List.size_toArray]at C;refine⟨?_,fJ k3⟩;rw[Nat.zero_add];refine bT k3 ?_;rw[x4 j C];simp[getElem!_pos,C]
    simp only[wc,qD];refine(Z h b q w A (aM k3)).mono ?_;rintro e L ⟨rfl,n,os,rfl⟩;have Y:putRow d (Go.Sort.ahead w n) b 0 k.toArray=Go.Sort.ahead (cu w b (putCells d 0 k.toArray t) T (0,0)) n:=by
     rw[putRow_ahead,putRow,Af k3]
    rw[Y];have S:∀i (r:i<k.length),(putCells d 0 k.toArray t)[i]?=some (d k[i]):=by
     intro i r;have x5:i<t.size:=by rw[k4];simp only[List.length_map]at k5;omega
     have xm:i<k.toArray.size:=by simpa using r
     simp[putCells,Array.getElem?_mapIdx,x5,r,getElem!_pos]
    have hg:Good B w0 U0 H V β w (.tuple []) (aH H id (.row false 1 (k.map λs=>[u s]))) V (.tuple #[]) (cu w b (putCells d 0 k.toArray t) T (0,0)):=by
     refine lh m W hb k2 k3 (by simp[putCells,k4]) (by simp only[List.length_map]at k5⊢;omega) (by simp[hl]) (λi _=>d (k.getD i default)) ⟨?_,?_,?_⟩ ?_ _ _ (λ_ _ _ _=>bj.undef)
     .intro i x j y g E;exact J _
     .intro i x j y g E;rw[List.getElem?_map]at g;cases F:k[i]? with
      |none=>rw[F]at g;cases g
      |some c=>
       rw[F]at g;simp only[Option.map_some,aw]at g;subst g;have C:j=0:=by have:=aL E;simpa using this
       subst C;simp only[List.getElem?_cons_zero,aw]at E;subst E;rw[List.getD_eq_getElem?_getD,F];exact I _ _ _
     .intro x g;obtain⟨c,_,rfl⟩:=List.mem_map.1 g;rfl
     .intro i x j y g E;have r:=aL g;simp only[List.length_map]at r;rw[List.getElem?_map]at g;cases F:k[i]? with
      |none=>rw[F]at g;cases g
      |some c=>
       rw[F]at g;simp only[Option.map_some,aw]at g;subst g;have C:j=0:=by have:=aL E;simpa using this
       subst C;rw[Nat.mul_one,pO,S i r,List.getD_eq_getElem?_getD];simp[r]
    obtain⟨x6,m1,kp,ev,dr⟩:=hg;obtain⟨m2,x7⟩:=m1.call (xS _ n os);exact⟨_,rfl,x6,m2,kp.trans x7,ev,bj.undef⟩
def xL{f:FuncId}{fn:Func}(h:P.funcs[f]?=some fn)(a:(fn.name== "runtime.NumGoroutine")=false)(b:fn.body.isNone=false):fx P f:=⟨fn,h,a,b⟩
def Et{d:Ren}(L:Lays.n190 P d)(g:fx P (d.f 190))(a:List (List UInt8))(i:a.length<4611686018427387904){id:Nat}{H:Heap}{nx:Nat}(l:ah H id=some (.row false 1 (a.map λx=>[PV.str ⟨x.toArray⟩]))):
  iJ P (d.f 190) [.ref id a.length 0 a.length] H nx (.tuple []) (aH H id (.row false 1 ((a.mergeSort λx y=>decide (x<=y)).map λx=>[PV.str ⟨x.toArray⟩]))) nx:=by
 have j:∀(b c:Nat) (w:World),Holds encStr w b 0 a.toArray->b<w.heap.size->Calls P (d.f 190) #[.slice (some ⟨b,0,none⟩) a.length c] w λe m=>e=.returned (.tuple #[])/\∃n o,m=grow (putRow encStr (Go.Sort.ahead w n) b 0 (a.mergeSort λx y=>decide (x<=y)).toArray) o:=
  λb c w q r=>Any.slices_Sort_string L b 0 c a w q r i
 have k:(a.mergeSort λx y=>decide (x<=y)).length=a.length:=aB;generalize(a.mergeSort λx y=>decide (x<=y))=s at j k⊢;exact A8 (P:=P) (f:=d.f 190) g encStr (λx=>PV.str ⟨x.toArray⟩) (λw U x=>.str _) (λx=>rfl) (λw U x v h=>by cases h;rfl)
  a s k (λt p c w=>Any.slices_Sort_string_none L p c w) (λ_=>j) l
def Un{a:Ren}(L:Lays.n190 P a):fx P (a.f 190):=xL (f:=a.f 190) (fn:=Body.n190 a) L.f190 jK jK
def J4{d:Ren}(L:Lays.n190 P d){l:List ByteArray}(a:l.length<=ak){id:Nat}{H:Heap}{c:Nat}(e:ah H id=some (.row false 1 (aA l))):
  iJ P (d.f 190) [.ref id l.length 0 l.length] H c (.tuple []) (aH H id (.row false 1 (aA (sortStr l)))) c:=by
 have f:(l.map λs=>s.data.toList).map (λx=>[PV.str ⟨x.toArray⟩])=aA l:=by
  simp[aA,HY]
 have g:((l.map λs=>s.data.toList).mergeSort λx y=>decide (x<=y)).map (λx=>[PV.str ⟨x.toArray⟩])=aA (sortStr l):=by
  rw[<-Jm];simp[aA,HY]
 have b:=Et L (Un L) (l.map λs=>s.data.toList) (by simp only[ak]at a;rw[List.length_map];omega) (id:=id) (H:=H) (nx:=c);rw[f,g,List.length_map]at b;exact b e
def G9{h:Ren}(L:Lays.n190 P h){a:Bool}{H:Heap}{j:Nat}:iJ P (h.f 190) [.p (.slice a [])] H j (.tuple []) H j:=by
 refine⟨Un L,λB r s t w f m g b=>?_⟩;have k:=b 0 _ rfl;have d:f=#[f.getD 0 undef]:=by
  apply rL
  .simpa using g
  .intro i l n;have o:i=0:=by simp at n;omega
   subst o;simp[l]
 rw[d];generalize f.getD 0 undef=v at k;cases k with|p _ _ q=>
 obtain⟨p,c,rfl,_,_⟩:=q.kz;refine(Any.slices_Sort_string_none L p c w).mono ?_;rintro e u ⟨rfl,rfl⟩;exact⟨_,rfl,bl m bj.undef⟩
def nO(F:FuncId):aI where
 pure:=λ_ _=>none
 de:=λf args H nx=>if f=F then match args with
   |[.ref id rD 0 n]=>match ah H id with
    |some (.row false 1 xs)=>match qh xs with
     |some l=>if rD=l.length/\n=l.length/\l.length<=ak then some (.tuple [],aH H id (.row false 1 (aA (sortStr l))),nx)else none
     |none=>none
    |_=>none
   |[.p (.slice _ [])]=>some (.tuple [],H,nx)
   |_=>none
  else none
def GY{a:Ren}(L:Lays.n190 P a){F:FuncId}(b:a.f 190=F):bS P (nO F):=by
 refine⟨λf args r h=>(by cases h),λf args H d r g i h=>?_,λf args H d r g h=>(by cases h)⟩;simp only[nO]at h;split at h
 .rename_i e;subst e;split at h
  .rename_i id j n;split at h
   .rename_i p c;split at h
    .rename_i l k;split at h
     .rename_i m;cases h;obtain⟨rfl,rfl,o⟩:=m;rw[yL k]at c;rw[<-b];exact J4 L o c
     .cases h
    .cases h
   .cases h
  .cases h;rw[<-b];exact G9 L
  .cases h
 .cases h
def Ll(F:FuncId)(sz bytes:Nat):aI where
 pure:=λ_ _=>none
 de:=λf args H nx=>if f=F then match args with
   |[.p (.slice true []),.p (.int .i64 n)]=>if 0<=n/\n.toNat*bytes<=ak/\n.toNat<=ak then some (.ref nx 0 0 0,(nx,.row false sz [])::H,nx+1)else none
   |_=>none
  else none
end
end
end Go.Dv
