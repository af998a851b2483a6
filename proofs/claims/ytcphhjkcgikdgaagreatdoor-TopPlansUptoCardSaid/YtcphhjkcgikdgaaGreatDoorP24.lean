/- Lemmas for the law of this claim. -/
import Derived.Test.YtcphhjkcgikdgaaGreatDoorP22
import Derived.Shelf.Small.Strs
import Derived.Test.YtcphhjkcgikdgaaGreatDoorProg
import Derived.Test.YtcphhjkcgikdgaaGreatDoorP23
import Derived.Shelf.Strconv.Itoa4
import Derived.Test.YtcphhjkcgikdgaaGreatDoorP20
import Derived.Test.YtcphhjkcgikdgaaGreatDoorP21
import Derived.Test.YtcphhjkcgikdgaaGreatDoorP18
set_option linter.all false
set_option maxRecDepth 100000
set_option maxHeartbeats 1000000
namespace Go.Dv
section
open Go.RowKit Go.Shelf Go.Proofs
def pG(a b:ByteArray):Int:=Lib.compareBytes a.data.toList b.data.toList
def rf:∀a b:List UInt8,Lib.compareBytes a b<0↔a<b
 |[],[]=>by simp[Lib.compareBytes]
 |[],_::_=>by simp[Lib.compareBytes]
 |_::_,[]=>by simp[Lib.compareBytes]
 |x::d,y::f=>by
  have g:=rf d f;simp only[Lib.compareBytes,List.cons_lt_cons_iff];by_cases h:x<y
  .simp[h]
  .by_cases c:y<x
   .have:x≠y:=λe=>by subst e;exact h c
    simp[h,c,this]
   .have e:x=y:=by
     have i:=G8.1 h;have j:=G8.1 c;exact UInt8.le_antisymm j i
    subst e;simp[h,g]
def qV:∀a b:List UInt8,Lib.compareBytes a b=0↔a=b
 |[],[]=>by simp[Lib.compareBytes]
 |[],_::_=>by simp[Lib.compareBytes]
 |_::_,[]=>by simp[Lib.compareBytes]
 |x::d,y::f=>by
  have g:=qV d f;simp only[Lib.compareBytes,List.cons.injEq];by_cases h:x<y
  .have:x≠y:=λe=>by subst e;exact UInt8.lt_irrefl _ h
   simp[h,this]
  .by_cases c:y<x
   .have:x≠y:=λe=>by subst e;exact h c
    simp[h,c,this]
   .have e:x=y:=by
     have i:=G8.1 h;have j:=G8.1 c;exact UInt8.le_antisymm j i
    subst e;simp[h,g]
def Ce(a b:ByteArray):pG a b<0↔slt a b=true:=by
 rw[og];exact rf _ _
def Kg(a b:ByteArray):pG a b=0↔a=b:=by
 unfold pG;rw[qV];constructor
 .intro h;have:a.data=b.data:=Array.toList_inj.1 h;cases a;cases b;simp_all
 .intro h;rw[h]
def pg(F:FuncId):aI where
 pure:=λf args=>if f=F then match args with
   |[.str a,.str b]=>some (.int .i64 (pG a b))
   |_=>none
  else none
 de:=λ_ _ _ _=>none
def It{P:Program}{m:Ren}(L:Lays.n106 P m){F:FuncId}(o:m.f 106=F)(d:fx P F):bS P (pg F):=by
 refine⟨λf args r h=>?_,λf args H p r q s h=>(by cases h),λf args H p r q h=>(by cases h)⟩;simp only[pg]at h;split at h
 .rename_i e;subst e;split at h
  .rename_i a b;cases h;refine⟨d,λU w g y z l c=>?_⟩;have j:g=#[g.getD 0 undef,g.getD 1 undef]:=by
    apply rL
    .simpa using l
    .intro i k t;have x:i=0\/i=1:=by simp at t;omega
     rcases x with rfl|rfl<;>simp[k]
   have n:=c 0 _ rfl;have k:=c 1 _ rfl;rw[j];generalize g.getD 0 undef=v at n;generalize g.getD 1 undef=u at k;cases n;cases k;subst o;refine(Any.strings_Compare L a b w).mono ?_;rintro e A ⟨rfl,rfl⟩;exact⟨_,rfl,.int _ _,Below.refl _ _⟩
  .cases h
 .cases h
end
end Go.Dv
namespace Go.Dv.Tryz
section
open Go Go.Shelf Go.Proofs
def Cn:Ren:=⟨fun|22=>77|29=>109|30=>110|n=>n,fun|0=>0|3=>3|4=>4|9=>114|24=>62|n=>n,fun n=>n⟩
theorem LM:sG Proofs.Tryz.prog Cn 2 40:={
 mixed:=by kernel_rfl,
 f22:=⟨Proofs.Tryz.f77.name,by decide,Proofs.Tryz.func77.trans (congrArg some (by kernel_rfl))⟩,
 ov:=fun w a b h=>by
  have hx:=run_callFunc_extern Proofs.Tryz.func109 (by kernel_rfl) (by kernel_rfl) (by kernel_rfl) (e:=Extern.SlicesOverlaps.overlaps #[62,62] #[4]) (by kernel_rfl) #[a,b] w;have h2:(Extern.SlicesOverlaps.overlaps #[62,62] #[4] #[a,b]).run Proofs.Tryz.prog w=.ok (.bool false) w:=h;rw[h2]at hx;exact hx,
 t0:=Proofs.Tryz.underlying0,a0:=Proofs.Tryz.isAgg0,z0:=Proofs.Tryz.sizeOf0,v0:=Proofs.Tryz.zeroValue0,
 t3:=Proofs.Tryz.underlying3,a3:=Proofs.Tryz.isAgg3,z3:=Proofs.Tryz.sizeOf3,v3:=Proofs.Tryz.zeroValue3,
 t4:=Proofs.Tryz.underlying4,a4:=Proofs.Tryz.isAgg4,z4:=Proofs.Tryz.sizeOf4,v4:=Proofs.Tryz.zeroValue4,
 t24:=Proofs.Tryz.underlying62,a24:=Proofs.Tryz.isAgg62,z24:=Proofs.Tryz.sizeOf62,v24:=Proofs.Tryz.zeroValue62,
 i9:=⟨_,_,rfl,rfl,rfl,rfl,rfl⟩,
 hk:=by decide,Sb:=by decide}
def Bz:Ren:=⟨fun|22=>216|29=>239|30=>240|n=>n,fun|0=>0|3=>3|4=>4|9=>9|24=>42|n=>n,fun n=>n⟩
theorem IG:sG Proofs.Tryz.prog Bz 1 16:={
 mixed:=by kernel_rfl,
 f22:=⟨Proofs.Tryz.f216.name,by decide,Proofs.Tryz.func216.trans (congrArg some (by kernel_rfl))⟩,
 ov:=fun w a b h=>by
  have hx:=run_callFunc_extern Proofs.Tryz.func239 (by kernel_rfl) (by kernel_rfl) (by kernel_rfl) (e:=Extern.SlicesOverlaps.overlaps #[42,42] #[4]) (by kernel_rfl) #[a,b] w;have h2:(Extern.SlicesOverlaps.overlaps #[42,42] #[4] #[a,b]).run Proofs.Tryz.prog w=.ok (.bool false) w:=h;rw[h2]at hx;exact hx,
 t0:=Proofs.Tryz.underlying0,a0:=Proofs.Tryz.isAgg0,z0:=Proofs.Tryz.sizeOf0,v0:=Proofs.Tryz.zeroValue0,
 t3:=Proofs.Tryz.underlying3,a3:=Proofs.Tryz.isAgg3,z3:=Proofs.Tryz.sizeOf3,v3:=Proofs.Tryz.zeroValue3,
 t4:=Proofs.Tryz.underlying4,a4:=Proofs.Tryz.isAgg4,z4:=Proofs.Tryz.sizeOf4,v4:=Proofs.Tryz.zeroValue4,
 t24:=Proofs.Tryz.underlying42,a24:=Proofs.Tryz.isAgg42,z24:=Proofs.Tryz.sizeOf42,v24:=Proofs.Tryz.zeroValue42,
 i9:=⟨_,_,rfl,rfl,rfl,rfl,rfl⟩,
 hk:=by decide,Sb:=by decide}
end
end Go.Dv.Tryz
namespace Go.Dv
section
open Go.RowKit Go.Shelf Go.Sort Go.Proofs
section
variable{P:Program}
def YS{a:Ren}(L:Lays.n189 P a):fx P (a.f 189):=xL (f:=a.f 189) (fn:=Body.n189 a) L.f189 jK jK
def sortInt(l:List Int):List Int:=l.mergeSort λx y=>decide (x<=y)
def uD(l:List Int):List (List PV):=l.map λz=>[.int .i64 z]
def Gw{g:Ren}(L:Lays.n189 P g)(a:List Int)(d:a.length<4611686018427387904){id:Nat}{H:Heap}{i:Nat}(l:ah H id=some (.row false 1 (uD a))):
  iJ P (g.f 189) [.ref id a.length 0 a.length] H i (.tuple []) (aH H id (.row false 1 (uD (sortInt a)))) i:=by
 have j:∀(b c:Nat) (w:World),Holds (Value.int .i64) w b 0 a.toArray->b<w.heap.size->Calls P (g.f 189) #[.slice (some ⟨b,0,none⟩) a.length c] w λe m=>e=.returned (.tuple #[])/\∃n o,m=grow (putRow (Value.int .i64) (Go.Sort.ahead w n) b 0 (sortInt a).toArray) o:=
  λb c w q r=>Any.slices_Sort_int L b 0 c a w q r d
 have k:(sortInt a).length=a.length:=by simp[sortInt]
 generalize sortInt a=s at j k⊢;exact A8 (P:=P) (f:=g.f 189) (YS L) (Value.int .i64) (λx=>PV.int .i64 x) (λw U x=>.int _ _) (λx=>rfl) (λw U x v h=>by cases h;rfl)
  a s k (λt p c w=>Any.slices_Sort_int_none L p c w) (λ_=>j) l
def uB:List (List PV)->Option (List Int)
 |[]=>some []
 |[.int .i64 s]::r=>match uB r with
  |some q=>some (s::q)
  |none=>none
 |_=>none
def xC:∀{d:List (List PV)} {l:List Int},uB d=some l->d=uD l
 |[],l,h=>by simp only[uB,aw]at h;subst h;rfl
 |c::r,l,h=>by
  unfold uB at h;split at h
  .rename_i a;cases a
  .rename_i s e a;cases a;cases b:uB r with
   |none=>rw[b]at h;cases h
   |some q=>rw[b]at h;simp only[aw]at h;subst h;rw[xC b];rfl
  .cases h
def nN(F:FuncId):aI where
 pure:=λ_ _=>none
 de:=λf args H nx=>if f=F then match args with
   |[.ref id rD 0 n]=>match ah H id with
    |some (.row false 1 xs)=>match uB xs with
     |some l=>if rD=l.length/\n=l.length/\l.length<=ak then some (.tuple [],aH H id (.row false 1 (uD (sortInt l))),nx)else none
     |none=>none
    |_=>none
   |_=>none
  else none
def H5{a:Ren}(L:Lays.n189 P a){F:FuncId}(c:a.f 189=F):bS P (nN F):=by
 refine⟨λf args r h=>(by cases h),λf args H d r g i h=>?_,λf args H d r g h=>(by cases h)⟩;simp only[nN]at h;split at h
 .rename_i e;subst e;split at h
  .rename_i id j n;split at h
   .rename_i p b;split at h
    .rename_i l k;split at h
     .rename_i m;cases h;obtain⟨rfl,rfl,o⟩:=m;rw[xC k]at b;rw[<-c];exact Gw L l (by simp only[ak]at o;omega) b
     .cases h
    .cases h
   .cases h
  .cases h
 .cases h
end
end
section
open Go.RowKit Go.Shelf Go.Proofs
def qF(n:Int):ByteArray:=⟨(Lib.itoa n).toArray⟩
def Gy(w:World)(k:Nat)(a:Array Obj):Below w.heap.size w (Go.Sort.grow (w.drewN k) a):=
 Below.Oh ⟨rfl,rfl,rfl,by simp[Go.Sort.grow,World.drewN],λk b=>by simp[Go.Sort.grow,World.drewN,Aa,b]⟩ (by simp[Go.Sort.grow,World.drewN])
def E4(F:FuncId):aI where
 pure:=λf args=>if f=F then match args with
   |[.int .i64 n,.int .i64 m]=>if m=10/\-9223372036854775808<=n/\n<=9223372036854775807 then some (.str (qF n))else none
   |_=>none
  else none
 de:=λ_ _ _ _=>none
def Td{P:Program}{q:Ren}(L:LaysM.n173 P q){g:Nat}(x:P.globalNamed "internal/strconv.uint64pow10" =some g)(y:(g,(Lib.pow10Tab.map λz=>Value.int .u64 z).toArray)∈Nx){F:FuncId}(A:q.f 173=F)(b:fx P F):bS P (E4 F):=by
 refine⟨λf args r h=>?_,λf args H B r C D h=>(by cases h),λf args H B r C h=>(by cases h)⟩;simp only[E4]at h;split at h
 .rename_i e;subst e;split at h
  .rename_i n m;split at h
   .rename_i E;obtain⟨rfl,l,o⟩:=E;cases h;refine⟨b,λU w c M G p a=>?_⟩;have d:c=#[c.getD 0 undef,c.getD 1 undef]:=by
     apply rL
     .simpa using p
     .intro i l o;have I:i=0\/i=1:=by simp at o;omega
      rcases I with rfl|rfl<;>simp[l]
    have s:=a 0 _ rfl;have t:=a 1 _ rfl;rw[d];generalize c.getD 0 undef=v at s;generalize c.getD 1 undef=u at t;cases s;cases t;subst A;have j:Lib.TabIs P w "internal/strconv.uint64pow10" .u64 Lib.pow10Tab:=by
     obtain⟨_,T,N,J⟩:=G _ y;unfold Lib.TabIs World.var?;rw[x];simp only[M9,J]
    refine(Any.strconv_FormatInt_10 L n l o w j).mono ?_;rintro e O ⟨rfl,k,K,rfl⟩;exact⟨_,rfl,.str _,Gy w k K⟩
   .cases h
  .cases h
 .cases h
end
end Go.Dv
namespace Go.Dv.Tryz
section
open Go Go.Dv
def Xo:List (Nat×au):=[(4,a4),(5,a5),(6,a6),(7,a7),(8,a8),(10,YG),(11,YR),(12,a12),(13,Yq),(14,X4),(15,a15),(16,a16),(17,Zz),(18,Zj),(19,a19),(20,a20),(21,a21),(22,a22),(23,a23),(24,a24),(25,a25),(26,a26),(27,a27),(28,a28),(29,a29),(30,Y9),(32,a32),(33,Yc),(34,YN),(35,SD),(37,a37),(38,ZA),(39,Yb),(40,a40),(41,a41),(42,a42),(43,a43),(44,a44),(45,Yg),(46,a46),(47,Vb),(48,a48),(49,a49),(50,a50),(51,a51),(52,a52),(53,a53),(54,YI),(55,YP),(56,X7),(57,XZ),(58,Yl),(59,a59),(60,Yk),(61,Yt),(63,a63),(64,Tq),(65,Yu),(66,YK),(68,Yo),(69,a69),(70,a70),(71,a71),(72,a72),(73,a73),(74,a74),(75,a75),(76,a76),(78,Q5),(79,Y1),(80,a80),(81,Yj),(82,Y0),(83,YX),(84,SF),(85,a85),(86,Qn),(87,a87),(88,XI),(89,a89),(90,a90),(91,a91),(93,a93),(94,a94),(95,a95),(96,YC),(97,YH),(99,VC),(100,Ss),(101,QX),(102,TK),(103,R1),(104,Rp),(106,Ua),(107,a107),(108,aay),(111,Jt),(112,TZ),(113,Si),(114,RL),(115,RV),(117,a117),(118,U1),(121,aam),(122,Ik),(123,Th),(125,Tz),(126,S6),(127,a127),(132,DH),(133,IC),(134,RA),(135,T9),(136,Q6),(137,RU),(138,a138),(139,a139),(140,T3),(141,a141),(154,a154),(155,xD),(156,a156),(157,a157),(158,TN),(159,a159),(160,a160),(163,Sv),(164,a164),(165,Um),(166,QT),(167,a167),(169,T4),(170,RS),(171,a171),(172,TF),(173,a173),(174,UY),(175,a175),(176,Q1),(177,Ih),(183,a183),(184,Iq),(185,Ug),(186,UK),(195,QI),(196,a196),(197,C6),(198,a198),(199,UB),(200,S1),(201,a201),(202,U4),(203,a203),(204,To),(205,Sk),(208,a208),(209,U9),(210,a210),(211,Kt),(212,a212),(213,a213),(214,Tm),(215,TM),(218,a218),(222,a222),(223,Rr),(224,Tv),(225,SZ),(226,a226),(227,a227),(228,a228),(229,a229),(230,Ja),(231,UI),(233,a233),(234,a234),(235,Sz),(236,a236),(237,R7),(238,S9),(241,SA),(242,KE),(244,RP),(245,S5),(246,QS),(247,K5),(248,RD),(250,SR),(251,Uu),(252,Tj),(254,RR),(255,IQ),(256,Su),(257,SE),(262,Sw),(264,Ky),(265,S0),(270,Ti)]
def tab(f:FuncId):Option au:=ah Xo f
def Jy:List Nat:=[86,133]
def mm:Xo.all (λp=>Jy.contains p.1||fP Proofs.Tryz.prog p.1 p.2)=true:=jK
def WX(c:∀f∈Jy,∀a,tab f=some a->sy Proofs.Tryz.prog f a):∀f a,tab f=some a->sy Proofs.Tryz.prog f a:=by
 intro f a b;have h:=List.all_eq_true.1 mm (f,a) (uP _ _ _ b);simp only[iT]at h;rcases h with h|h
 .exact c f (by simpa using h) a b
 .exact .inl h
def mixed:Proofs.Tryz.prog.follows .mixedOrders=true:=jK
def c36:fP Proofs.Tryz.prog 36 (kq 8 [.str ⟨#[]⟩,.int .i64 0,.int .i64 0,.str ⟨#[]⟩] 48)=true:=jK
def c67:fP Proofs.Tryz.prog 67 (kq 8 [.str ⟨#[]⟩,.int .i64 0] 24)=true:=jK
def Z8:fP Proofs.Tryz.prog 105 (kq 8 [.int .i64 0,.str ⟨#[]⟩,.int .i64 0,.int .i64 0,.int .i64 0,.str ⟨#[]⟩,.slice true [],.int .i64 0,.int .i64 0,.str ⟨#[]⟩,.slice true [],.slice true [],.slice true []] 192)=true:=jK
def ZZ:fP Proofs.Tryz.prog 129 (kq 8 [.str ⟨#[]⟩] 16)=true:=jK
def aaf:fP Proofs.Tryz.prog 130 (kq 8 [.int .i64 0,.int .i64 0,.str ⟨#[]⟩,.slice true []] 56)=true:=jK
def lI(f:FuncId):Option (Nat×Nat):=if f==36 then some (4,48)else if f==67 then some (2,24)else if f==105 then some (13,192)else if f==129 then some (1,16)else if f==130 then some (4,56)else none
def AU{f:FuncId}{d c:Nat}(h:lI f=some (d,c)):∃e b,b.length=d/\fP Proofs.Tryz.prog f (kq e b c)=true:=by
 unfold lI at h;split at h
 .rename_i a;simp only[cw]at a;subst a;cases h;exact⟨_,_,rfl,c36⟩
 split at h
 .rename_i a;simp only[cw]at a;subst a;cases h;exact⟨_,_,rfl,c67⟩
 split at h
 .rename_i a;simp only[cw]at a;subst a;cases h;exact⟨_,_,rfl,Z8⟩
 split at h
 .rename_i a;simp only[cw]at a;subst a;cases h;exact⟨_,_,rfl,ZZ⟩
 split at h
 .rename_i a;simp only[cw]at a;subst a;cases h;exact⟨_,_,rfl,aaf⟩
 cases h
def ln:aI where
 pure:=λf args=>match args,lI f with
  |[.slice _ xs],some (sz,by_)=>if bV sz xs&&decide (xs.length*by_<=ak)&&decide (xs.length<=ak)then some (.slice false xs)else none
  |_,_=>none
 de:=λf args H nx=>match args,lI f with
  |[.p (.slice _ xs)],some (sz,by_)=>if bV sz xs&&decide (xs.length*by_<=ak)&&decide (xs.length<=ak)then some (.ref nx xs.length 0 xs.length,(nx,.row false sz xs)::H,nx+1)else none
  |_,_=>none
def MH:bS Proofs.Tryz.prog ln:=by
 refine⟨λf args r h=>?_,λf args H e r g i h=>?_,λf args H e r g h=>(by cases h)⟩
 .simp only[ln]at h;split at h
  .rename_i c;split at h
   .rename_i a;simp only[aO,cp]at a;cases h;obtain⟨j,b,rfl,d⟩:=AU c;exact Kk mixed d a.1.1 a.1.2 a.2
   .cases h
  .cases h
 .simp only[ln]at h;split at h
  .rename_i c;split at h
   .rename_i a;simp only[aO,cp]at a;cases h;obtain⟨j,b,rfl,d⟩:=AU c;exact F8 mixed d a.1.1 a.1.2 a.2
   .cases h
  .cases h
def outside:aI:=aI.or (aI.or (aI.or (aI.or (aI.or (aI.or (ln) (AI 77 2 40)) (nN 92)) (pg 98)) (nO 128)) (AI 216 1 16)) (E4 232)
def K2:bS Proofs.Tryz.prog outside:=(bS.or (bS.or (bS.or (bS.or (bS.or (bS.or MH (Jb LM rfl (nW Proofs.Tryz.func77 rfl rfl))) (H5 QY rfl)) (It UX rfl (nW Proofs.Tryz.func98 rfl rfl))) (GY UL rfl)) (Jb IG rfl (nW Proofs.Tryz.func216 rfl rfl))) (Td (g:=1) Up jK (by simp[Nx]) rfl (nW Proofs.Tryz.func232 rfl rfl)))
def tb:dk:=⟨tab,outside⟩
def calls(b:∀f∈Jy,∀a,tab f=some a->sy Proofs.Tryz.prog f a){f:FuncId}{args:List PV}{r:PV}(h:PS tb f args r):sn Proofs.Tryz.prog f args r:=h.calls mixed (WX b) K2
end
section
open Go Go.Dv
def Pz{a:Type}(l:List a)(p:a->Bool)(i:Nat)(h:i<l.length)(b:(l.take i).all p=true)(c:p l[i]=true):(l.take (i+1)).all p=true:=by
 rw[List.take_add_one,List.all_append,b,List.getElem?_eq_getElem h];simp[c]
def Wr{a:Type}(l:List a)(p:a->Bool)(i:Nat)(h:i<l.length)(b:p l[i]=false):l.all p=false:=by
 rw[List.all_eq_false];exact⟨l[i],List.getElem_mem h,by simp[b]⟩
def OH(s:ByteArray)(i:Nat)(h:i<s.data.toList.length):s.data[i]?=some s.data.toList[i]:=by
 rw[<-dZ,List.getElem?_eq_getElem h]
def vH(s:ByteArray):s.data.toList.length=s.size:=jz
def X6(c:UInt8):Bool:=(decide (97<=c.toNat)&&decide (c.toNat<=122))||(decide (48<=c.toNat)&&decide (c.toNat<=57))||decide (c.toNat=47)||decide (c.toNat=46)||decide (c.toNat=95)||decide (c.toNat=45)
def mc(s:ByteArray)(p:UInt8->Bool):Bool:=s.data.toList.all p
def lG(s:ByteArray):Bool:=decide (1<=s.size)&&decide (s.size<=24)&&mc s X6
def Z6(n:Nat):Bool:=(decide (97<=n)&&decide (n<=122))||(decide (48<=n)&&decide (n<=57))||decide (n=47)||decide (n=46)||decide (n=95)||decide (n=45)
def R4{f:FuncId}{p:Nat->Bool}(h:((List.range 256).all λn=>match(dG tb.A tb.X 3).pure f [.int .u8 n]with|some (.bool b)=>b==p n|_=>false)=true)(c:UInt8):PS tb f [.int .u8 (c.toNat:Int)] (.bool (p c.toNat)):=by
 have:=(List.all_eq_true.1 h) c.toNat (List.mem_range.2 c.toNat_lt);split at this
 .rename_i b a;simp only[cw]at this;exact⟨3,by rw[a,this]⟩
 .cases this
def V1(c:UInt8):PS tb 108 [.int .u8 (c.toNat:Int)] (.bool (X6 c)):=R4 (p:=Z6) jK c
def Io(s:ByteArray)(t:s.size<=24)(f:FuncId)(p:UInt8->Bool)(h:∀c:UInt8,PS tb f [.int .u8 (c.toNat:Int)] (.bool (p c)))(K:Ex->St->Prop)(j:mc s p=true->K (.exit 0) ⟨[],[],0,[0]⟩)
  (k:mc s p=false->∀e,ah e.env 4=some (.p (.bool false))->K .ret e):∀(m i:Nat),i+m=s.size->(s.data.toList.take i).all p=true->
  W tb sY ⟨[(0,.p (.str s)),(1,.p (.func f [])),(10,.p (.int .i64 s.size)),(11,.p (.int .i64 i))],[],0,[0]⟩ (LK tb (.ghost .lower sY) K):=by
 intro m;induction m with
 |zero=>
  intro i l a;have b:¬(i:Int)<s.size:=ae;rw[List.take_of_length_le (by rw[vH];omega)]at a;refine bq sY.eq_1 ?_;refine gN b (k1 ?_);exact j a
 |succ m n=>
  intro i l a;have b:(i:Int)<s.size:=ae;have d:i<s.data.toList.length:=by rw[vH];omega
  have o:=OH s i d;have q:(0:Int)<=i:=ae;refine bq sY.eq_1 ?_;refine hP (c9 b o q) (λ{r}=>h r) (k2 ?_ ?_)<;>(repeat with_reducible intro g)
  .exact k (Wr _ p i d g) _ rfl
  .refine rn (dY ?_);refine nJ ?_;exact n (i+1) ae (Pz _ p i d a g)
def Hm(s:ByteArray)(f:FuncId)(p:UInt8->Bool)(e:∀c:UInt8,PS tb f [.int .u8 (c.toNat:Int)] (.bool (p c))):
  PS tb 107 [.str s,.func f []] (.bool (decide (s.size<=24)&&mc s p)):=by
 refine bM (af:=a107) rfl rfl ?_;unfold a107;dsimp only[List.map,aQ,aj];repeat'(first|(simp(disch:=omega) only[go_sem,seval,reduceCtorEq])|with_reducible exact Ev.mk|((first|apply b5|apply bO)<;>intro a h<;>(simp(disch:=omega) only[go_sem,seval,reduceCtorEq,a])<;>clear a))
 .have:¬s.size<=24:=ae;simp[this,bE,dep]
 .have b:s.size<=24:=ae;refine dY ?_;refine nJ ?_;refine Io s b f p e _ ?_ ?_ s.size 0 ae aB
  .intro d;refine nJ ?_;simp[b,d,bE,dep]
  .intro d i g
   (try simp(disch:=omega) only[go_sem,seval,reduceCtorEq,g])
   simp[b,d,bE,dep]
def vO(s:ByteArray):(s=⟨#[]⟩)↔s.size=0:=by
 constructor
 .rintro rfl;rfl
 .intro h;apply Ag;have:s.data.toList.length=0:=by rw[vH];exact h
  rw[List.eq_nil_of_length_eq_zero this]
def kD(s:ByteArray):PS tb 70 [.str s] (.bool (lG s)):=by
 refine bM (af:=a70) rfl rfl ?_;unfold a70;dsimp only[List.map,aQ,aj];repeat'(first|exact Hm s 108 X6 V1|(simp(disch:=omega) only[go_sem,seval,reduceCtorEq])|with_reducible exact Ev.mk|apply gb|((first|apply b5|apply bO)<;>intro a b<;>(simp(disch:=omega) only[go_sem,seval,reduceCtorEq,a])<;>clear a))
 .have c:¬s.size=0:=λh=>b ((vO s).2 h)
  simp[lG,bE,dep,show 1<=s.size by omega]
 .have c:s.size=0:=(vO s).1 b;simp[lG,bE,dep,c]
end
section
open Go Go.Dv
def Sh(l:List ByteArray):Prop:=l.length<=1048576/\∀x∈l,x.size<=1048576
abbrev E:ByteArray:=⟨#[]⟩
def hasB(l:List ByteArray)(k:ByteArray):Bool:=l.any λx=>decide (x=k)
def gp{l:List ByteArray}{k:ByteArray}:hasB l k=true↔k∈l:=by simp[hasB]
def wG{l:List ByteArray}{k:ByteArray}:hasB l k=false↔k∉l:=by rw[<-gp];simp
def tA{q:Nat->Bool}{i:Nat}(h:∀j,j<i->q j=true)(a:q i=true):∀j,j<i+1->q j=true:=by
 intro j b;rcases RG.1 b with c|rfl
 .exact h j c
 .exact a
def dE(l:List ByteArray)(i:Nat)(h:i<l.length):l.getD i E=l[i]:=by simp[List.getD_eq_getElem?_getD,h]
def Sh.size{l:List ByteArray}(h:Sh l){i:Nat}(a:i<l.length):l[i].size<=1048576:=h.2 _ (List.getElem_mem a)
def FE(l:List ByteArray)(p:ByteArray->Bool):(∀j,j<l.length->p (l.getD j E)=true)↔∀x∈l,p x=true:=by
 constructor
 .intro h x c;obtain⟨i,a,rfl⟩:=List.mem_iff_getElem.1 c;have:=h i a
  rwa [dE l i a]at this
 .intro h j b;rw[dE l j b];exact h _ (List.getElem_mem b)
def vd(l:List ByteArray)(j:Nat):Bool:=lG (l.getD j E)&&(decide (j=0)||slt (l.getD (j-1) E) (l.getD j E))
def uo(l:List ByteArray):Bool:=(List.range l.length).all (vd l)
def Tk{l:List ByteArray}(h:∀j,j<l.length->vd l j=true):uo l=true:=by
 simp only[uo,List.all_eq_true,List.mem_range];exact h
def Rg{l:List ByteArray}{i:Nat}(a:i<l.length)(h:vd l i=false):uo l=false:=by
 rw[uo,List.all_eq_false];exact⟨i,List.mem_range.2 a,by simp[h]⟩
def dx(l:List ByteArray):Prop:=l.Pairwise λa b=>slt a b=true
def O3{l:List ByteArray}:uo l=true↔(∀x∈l,lG x=true)/\dx l:=by
 simp only[uo,List.all_eq_true,List.mem_range,vd,aO,iT,cp];constructor
 .intro h;refine⟨(FE l lG).1 λj b=>(h j b).1,?_⟩;unfold dx;rw[List.pairwise_iff_getElem];intro i j g b k;have c:∀d,i+d+1<l.length->slt (l.getD i E) (l.getD (i+d+1) E)=true:=by
   intro d;induction d with
   |zero=>
    intro e;rcases(h (i+1) e).2 with a|a
    .omega
    .exact a
   |succ d m=>
    intro e;rcases(h (i+d+2) e).2 with a|a
    .omega
    .exact jT (m ae) a
  have:=c (j-i-1) ae;rw[show i+(j-i-1)+1=j by omega,dE l i g,dE l j b]at this;exact this
 .rintro⟨n,f⟩ j b;refine⟨(FE l lG).2 n j b,?_⟩;rcases tK j with a|a
  .exact .inl a
  .right;unfold dx at f;rw[List.pairwise_iff_getElem]at f;rw[dE l j b,dE l (j-1) ae];exact f (j-1) j ae b ae
end
section
open Go Go.Dv
structure Ft where
 all:Bool
 br:Bool
 r:List ByteArray
 bw:Bool
 w:List ByteArray
def rH(f:Ft):List PV:=[.bool f.all,.slice f.br (aA f.r),.slice f.bw (aA f.w)]
def kl(f:Ft):Bool:=if f.all then decide (f.r.length=0)&&decide (f.w.length=0)else(uo f.r&&decide (f.r.length<=64))&&(uo f.w&&decide (f.w.length<=64))
end
section
open Go Go.Dv
inductive aF where
 |mk (op n:Int) (s:ByteArray) (f:Bool) (xs:List aF)
mutual
def aF.cs:aF->List PV
 | .mk a n s f b=>[.int .i64 a,.int .i64 n,.str s,.slice f (aJ b)]
def aJ:List aF->List (List PV)
 |[]=>[]
 |e::r=>e.cs::aJ r
end
def aF.op:aF->Int| .mk a _ _ _ _=>a
def aF.n:aF->Int| .mk _ n _ _ _=>n
def aF.s:aF->ByteArray| .mk _ _ s _ _=>s
def aF.f:aF->Bool| .mk _ _ _ f _=>f
def aF.xs:aF->List aF| .mk _ _ _ _ a=>a
def aF.pM(e:aF):e.cs=[.int .i64 e.op,.int .i64 e.n,.str e.s,.slice e.f (aJ e.xs)]:=by cases e;simp[aF.cs,aF.op,aF.n,aF.s,aF.f,aF.xs]
def aD:∀l:List aF,(aJ l).length=l.length
 |[]=>rfl
 |_::r=>by simp[aJ,aD r]
def jh:∀(l:List aF) (i:Nat) (h:i<l.length),(aJ l)[i]?=some (l[i].cs)
 |[],_,h=>by simp at h
 |_::r,0,_=>by simp[aJ]
 |_::r,i+1,h=>by simp only[aJ,List.getElem?_cons_succ,List.getElem_cons_succ];exact jh r i (by simpa using h)
inductive aX where
 |mk (op:Int) (name:ByteArray) (max:Int) (a b:aF) (f:Bool) (body:List aX) (g:Bool) (els:List aX)
mutual
def aX.cs:aX->List PV
 | .mk e name max a b f c g d=>[.int .i64 e,.str name,.int .i64 max,.int .i64 a.op,.int .i64 a.n,.str a.s,.slice a.f (aJ a.xs),.int .i64 b.op,.int .i64 b.n,.str b.s,.slice b.f (aJ b.xs),.slice f (bD c),.slice g (bD d)]
def bD:List aX->List (List PV)
 |[]=>[]
 |s::r=>s.cs::bD r
end
def aU:∀l:List aX,(bD l).length=l.length
 |[]=>rfl
 |_::r=>by simp[bD,aU r]
def kG:∀(l:List aX) (i:Nat) (h:i<l.length),(bD l)[i]?=some (l[i].cs)
 |[],_,h=>by simp at h
 |_::r,0,_=>by simp[bD]
 |_::r,i+1,h=>by simp only[bD,List.getElem?_cons_succ,List.getElem_cons_succ];exact kG r i (by simpa using h)
structure bX where
 k:Int
 n:Int
 s:ByteArray
 deriving DecidableEq
def gB(v:bX):List PV:=[.int .i64 v.k,.int .i64 v.n,.str v.s]
def bF(l:List bX):List (List PV):=l.map gB
def cv(l:List bX):(bF l).length=l.length:=by simp[bF]
def tF(l:List bX)(i:Nat)(h:i<l.length):(bF l)[i]?=some [.int .i64 l[i].k,.int .i64 l[i].n,.str l[i].s]:=by simp[bF,gB,h]
abbrev V0:bX:=⟨0,0,E⟩
structure Pr where
 key:ByteArray
 v:bX
 deriving DecidableEq
def uS(p:Pr):List PV:=[.str p.key,.int .i64 p.v.k,.int .i64 p.v.n,.str p.v.s]
def bm(l:List Pr):List (List PV):=l.map uS
def bK(l:List Pr):(bm l).length=l.length:=by simp[bm]
def jS(l:List Pr)(i:Nat)(h:i<l.length):(bm l)[i]?=some [.str l[i].key,.int .i64 l[i].v.k,.int .i64 l[i].v.n,.str l[i].v.s]:=by simp[bm,uS,h]
def HR(l:List Pr):bV 4 (bm l)=true:=by simp[bV,bm,uS]
def cX(l:List Pr)(k:ByteArray):bX:=match l.find? λp=>decide (p.key=k)with
 |some p=>p.v
 |none=>V0
structure Pm where
 name:ByteArray
 ty:Int
def KS(p:Pm):List PV:=[.str p.name,.int .i64 p.ty]
def e9(l:List Pm):List (List PV):=l.map KS
def b6(l:List Pm):(e9 l).length=l.length:=by simp[e9]
def lT(l:List Pm)(i:Nat)(h:i<l.length):(e9 l)[i]?=some [.str l[i].name,.int .i64 l[i].ty]:=by simp[e9,KS,h]
structure Pc where
 name:ByteArray
 fp:Bool
 ps:List Pm
 fb:Bool
 body:List aX
def cq(p:Pc):List PV:=[.str p.name,.slice p.fp (e9 p.ps),.slice p.fb (bD p.body)]
def fY(l:List Pc):List (List PV):=l.map cq
def fH(l:List Pc):(fY l).length=l.length:=by simp[fY]
def wB(l:List Pc)(i:Nat)(h:i<l.length):(fY l)[i]?=some [.str l[i].name,.slice l[i].fp (e9 l[i].ps),.slice l[i].fb (bD l[i].body)]:=by simp[fY,cq,h]
structure Tx where
 id:Int
 proc:ByteArray
 fa:Bool
 args:List bX
 eT:Ft
 X8:Int
def qJ(t:Tx):List PV:=[.int .i64 t.id,.str t.proc,.slice t.fa (bF t.args),.bool t.eT.all,.slice t.eT.br (aA t.eT.r),.slice t.eT.bw (aA t.eT.w),.int .i64 t.X8]
def fK(l:List Tx):List (List PV):=l.map qJ
def eJ(l:List Tx):(fK l).length=l.length:=by simp[fK]
def Mm(l:List Tx)(i:Nat)(h:i<l.length):(fK l)[i]?=some (qJ l[i]):=by simp[fK,h]
structure Ef where
 st:Int
 code:Int
 fo:Bool
 out:List bX
 fr:Bool
 reads:List ByteArray
 fp:Bool
 cm:List ByteArray
 fw:Bool
 writes:List Pr
 Of:ByteArray
 steps:Int
def od(e:Ef):List PV:=[.int .i64 e.st,.int .i64 e.code,.slice e.fo (bF e.out),.slice e.fr (aA e.reads),.slice e.fp (aA e.cm),.slice e.fw (bm e.writes),.str e.Of,.int .i64 e.steps]
def iP(l:List Ef):List (List PV):=l.map od
def qx(l:List Ef):(iP l).length=l.length:=by simp[iP]
def Lt(l:List Ef)(i:Nat)(h:i<l.length):(iP l)[i]?=some (od l[i]):=by simp[iP,h]
def df(n:Int):Prop:=-9223372036854775808<=n/\n<=9223372036854775807
abbrev iq:Nat:=1048576
def cQ(v:bX):Prop:=df v.k/\df v.n/\v.s.size<=iq
def DF:cQ V0:=⟨⟨by decide,by decide⟩,⟨by decide,by decide⟩,by decide⟩
mutual
def aF.ok:aF->Prop
 | .mk a n s _ b=>df a/\df n/\s.size<=iq/\fQ b
def fQ:List aF->Prop
 |[]=>True
 |e::r=>e.ok/\fQ r
end
mutual
def aF.sz:aF->Nat
 | .mk _ _ _ _ a=>1+cI a
def cI:List aF->Nat
 |[]=>0
 |e::r=>e.sz+cI r
end
mutual
def aX.ok:aX->Prop
 | .mk e name max a b _ c _ d=>df e/\name.size<=iq/\df max/\(a.ok/\a.sz<=iq)/\(b.ok/\b.sz<=iq)/\cD c/\cD d
def cD:List aX->Prop
 |[]=>True
 |s::r=>s.ok/\cD r
end
def pV:∀{l:List aF},fQ l->∀e∈l,e.ok
 |[],_,e,h=>by simp at h
 |x::r,a,e,h=>by
  simp only[fQ]at a;rcases List.mem_cons.1 h with rfl|h
  .exact a.1
  .exact pV a.2 e h
def fk:∀{l:List aX},cD l->∀e∈l,e.ok
 |[],_,e,h=>by simp at h
 |x::r,a,e,h=>by
  simp only[cD]at a;rcases List.mem_cons.1 h with rfl|h
  .exact a.1
  .exact fk a.2 e h
def bI:∀l:List aF,l.length<=cI l
 |[]=>Nat.le_refl _
 |e::r=>by
  have:=bI r;have h:1<=e.sz:=by cases e;simp[aF.sz]
  simp only[List.length_cons,cI];omega
end
section
open Go Go.Dv
def nq{T:dk}{f:FuncId}{af:au}(c:T.A f=some af){args:List PV}{d:Type}{r:d->PV}(g:args.length=af.nparams)
  (h:W T af.body {env:=aj 0 (args.map aQ),heap:=[],next:=0,marks:=[0]} (ic af.results λv s=>∃i,bE s.heap dep v=some (r i)))(hrs:af.rs=false:=by rfl):∃i,PS T f args (r i):=by
 obtain⟨e,p,j,a⟩:=oq _ _ _ h;unfold ic at a;obtain⟨k,v,l,i,m⟩:=a;obtain⟨n,o⟩:=j.at;refine⟨i,n+1,?_⟩;rw[dG];simp only[c];have b:=j5 (aI.le.refl (jE T.A T.X n)) (iQ n) _ _ _ (o n (Nat.le_refl _));unfold prun jH pz;rw[mG b,hrs];simp only;rw[aq (by simpa using g),b];rcases k with rfl|rfl<;>simp only[l,m,Bool.false_eq_true,cy]
def pos(k:ByteArray):List ByteArray->Nat
 |[]=>0
 |x::r=>if slt x k then pos k r+1 else 0
def BI(k:ByteArray):∀l,pos k l<=l.length
 |[]=>Nat.le_refl _
 |x::r=>by
  unfold pos;split
  .simp only[List.length_cons];have:=BI k r;omega
  .exact Nat.zero_le _
def Hl(k:ByteArray):∀(l:List ByteArray) (i:Nat),i<pos k l->slt (l.getD i E) k=true
 |[],i,h=>by simp[pos]at h
 |x::r,i,h=>by
  unfold pos at h;split at h
  .rename_i a;cases i with
   |zero=>simpa using a
   |succ i=>simpa using Hl k r i ae
  .omega
def pos_at(k:ByteArray):∀(l:List ByteArray),pos k l<l.length->slt (l.getD (pos k l) E) k=false
 |[],h=>by simp at h
 |x::r,h=>by
  unfold pos at h⊢;split
  .rename_i a;rw[aq a]at h;simp only[List.length_cons]at h;simpa using pos_at k r ae
  .rename_i a;simpa using a
def ins(k:ByteArray)(l:List ByteArray):List ByteArray:=if pos k l<l.length/\l.getD (pos k l) E=k then l else l.take (pos k l)++[k]++l.drop (pos k l)
def gM{k x:ByteArray}{l:List ByteArray}:x∈ins k l↔x=k\/x∈l:=by
 unfold ins;split
 .rename_i h;have a:k∈l:=by
   have:=h.2;rw[dE l _ h.1]at this;rw[<-this];exact List.getElem_mem h.1
  constructor
  .exact .inr
  .rintro(rfl|b)
   .exact a
   .exact b
 .constructor
  .intro h;simp only[List.mem_append,List.mem_singleton]at h;rcases h with(h|h)|h
   .exact .inr (List.mem_of_mem_take h)
   .exact .inl h
   .exact .inr (List.mem_of_mem_drop h)
  .rintro(rfl|h)
   .simp
   .rw[<-List.take_append_drop (pos k l) l]at h;simp only[List.mem_append,List.mem_singleton];rcases List.mem_append.1 h with h|h
    .exact .inl (.inl h)
    .exact .inr h
def A5(k:ByteArray)(l:List ByteArray):(ins k l).length<=l.length+1:=by
 unfold ins;split
 .omega
 .have:=BI k l;simp;omega
def ot{k:ByteArray}{l:List ByteArray}(h:dx l):dx (ins k l):=by
 unfold ins;split
 .exact h
 .rename_i n;have o:=BI k l;have b:=h;unfold dx at b⊢;rw[List.append_assoc,List.pairwise_append];refine⟨b.sublist (List.take_sublist _ _),?_,?_⟩
  .rw[List.singleton_append,List.pairwise_cons];refine⟨λy a=>?_,b.sublist (List.drop_sublist _ _)⟩;obtain⟨i,g,rfl⟩:=List.mem_iff_getElem.1 a;simp only[List.length_drop]at g;have c:pos k l<l.length:=ae;have d:=pos_at k l c;rw[dE l _ c]at d;have p:l[pos k l]≠k:=λe=>n ⟨c,by rw[dE l _ c];exact e⟩
   have m:slt k l[pos k l]=true:=by
    cases q:slt k l[pos k l]with
    |true=>rfl
    |false=>exact absurd (mR d q) p
   rw[List.getElem_drop];rcases tK i with rfl|r
   .simpa using m
   .exact jT m ((List.pairwise_iff_getElem.1 b) _ _ c ae ae)
  .intro x s y a;obtain⟨i,g,rfl⟩:=List.mem_iff_getElem.1 s;simp only[List.length_take]at g;have f:i<l.length:=ae;have d:=Hl k l i ae;rw[dE l i f]at d;rw[List.getElem_take];rw[List.singleton_append]at a;rcases List.mem_cons.1 a with rfl|a
   .exact d
   .obtain⟨j,t,rfl⟩:=List.mem_iff_getElem.1 a;simp only[List.length_drop]at t;rw[List.getElem_drop];exact(List.pairwise_iff_getElem.1 b) _ _ f ae ae
end
end Go.Dv.Tryz
