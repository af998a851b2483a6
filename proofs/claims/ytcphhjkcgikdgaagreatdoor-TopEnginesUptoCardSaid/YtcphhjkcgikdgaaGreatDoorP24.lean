/- Lemmas for the law of this claim. -/
import Derived.Test.YtcphhjkcgikdgaaGreatDoorP22
import Derived.Shelf.Small.Strs
import Derived.Test.YtcphhjkcgikdgaaGreatDoorProg
import Derived.Test.YtcphhjkcgikdgaaGreatDoorP23
import Derived.Shelf.Strconv.Itoa4
import Derived.Test.YtcphhjkcgikdgaaGreatDoorP20
import Derived.Test.YtcphhjkcgikdgaaGreatDoorP21
import Derived.Test.YtcphhjkcgikdgaaGreatDoorP18
set_option linter.all false
set_option maxRecDepth 100000
set_option maxHeartbeats 1000000
namespace Go.Dv
section
open Go.RowKit Go.Shelf Go.Proofs
def qb(a b:ByteArray):Int:=Lib.compareBytes a.data.toList b.data.toList
def r9:∀a b:List UInt8,Lib.compareBytes a b<0↔a<b
 |[],[]=>by simp[Lib.compareBytes]
 |[],_::_=>by simp[Lib.compareBytes]
 |_::_,[]=>by simp[Lib.compareBytes]
 |x::d,y::f=>by
  have g:=r9 d f;simp only[Lib.compareBytes,List.cons_lt_cons_iff];by_cases h:x<y
  .simp[h]
  .by_cases c:y<x
   .have:x≠y:=λe=>by subst e;exact h c
    simp[h,c,this]
   .have e:x=y:=by
     have i:=Hr.1 h;have j:=Hr.1 c;exact UInt8.le_antisymm j i
    subst e;simp[h,g]
def rH:∀a b:List UInt8,Lib.compareBytes a b=0↔a=b
 |[],[]=>by simp[Lib.compareBytes]
 |[],_::_=>by simp[Lib.compareBytes]
 |_::_,[]=>by simp[Lib.compareBytes]
 |x::d,y::f=>by
  have g:=rH d f;simp only[Lib.compareBytes,List.cons.injEq];by_cases h:x<y
  .have:x≠y:=λe=>by subst e;exact UInt8.lt_irrefl _ h
   simp[h,this]
  .by_cases c:y<x
   .have:x≠y:=λe=>by subst e;exact h c
    simp[h,c,this]
   .have e:x=y:=by
     have i:=Hr.1 h;have j:=Hr.1 c;exact UInt8.le_antisymm j i
    subst e;simp[h,g]
def Cp(a b:ByteArray):qb a b<0↔slt a b=true:=by
 rw[qj];exact r9 _ _
def Ll(a b:ByteArray):qb a b=0↔a=b:=by
 unfold qb;rw[rH];constructor
 .intro h;have:a.data=b.data:=Array.toList_inj.1 h;cases a;cases b;simp_all
 .intro h;rw[h]
def oK(F:FuncId):aK where
 pure:=λf args=>if f=F then match args with
   |[.str a,.str b]=>some (.int .i64 (qb a b))
   |_=>none
  else none
 dq:=λ_ _ _ _=>none
def JQ{P:Program}{m:Ren}(L:Lays.n106 P m){F:FuncId}(o:m.f 106=F)(d:gO P F):bV P (oK F):=by
 refine⟨λf args r h=>?_,λf args H p r q s h=>(by cases h),λf args H p r q h=>(by cases h)⟩;simp only[oK]at h;split at h
 .rename_i e;subst e;split at h
  .rename_i a b;cases h;refine⟨d,λU w g y z l c=>?_⟩;have j:g=#[g.getD 0 undef,g.getD 1 undef]:=by
    apply tV
    .simpa using l
    .intro i k t;have x:i=0\/i=1:=by simp at t;omega
     rcases x with rfl|rfl<;>simp[k]
   have n:=c 0 _ rfl;have k:=c 1 _ rfl;rw[j];generalize g.getD 0 undef=v at n;generalize g.getD 1 undef=u at k;cases n;cases k;subst o;refine(Any.strings_Compare L a b w).mono ?_;rintro e A ⟨rfl,rfl⟩;exact⟨_,rfl,.int _ _,Below.refl _ _⟩
  .cases h
 .cases h
end
end Go.Dv
namespace Go.Dv.Tryz
section
open Go Go.Shelf Go.Proofs
def C4:Ren:=⟨fun|22=>77|29=>109|30=>110|n=>n,fun|0=>0|3=>3|4=>4|9=>114|24=>62|n=>n,fun n=>n⟩
theorem NT:tA Proofs.Tryz.prog C4 2 40:={
 mixed:=by kernel_rfl,
 f22:=⟨Proofs.Tryz.f77.name,by decide,Proofs.Tryz.func77.trans (congrArg some (by kernel_rfl))⟩,
 ov:=fun w a b h=>by
  have hx:=run_callFunc_extern Proofs.Tryz.func109 (by kernel_rfl) (by kernel_rfl) (by kernel_rfl) (e:=Extern.SlicesOverlaps.overlaps #[62,62] #[4]) (by kernel_rfl) #[a,b] w;have h2:(Extern.SlicesOverlaps.overlaps #[62,62] #[4] #[a,b]).run Proofs.Tryz.prog w=.ok (.bool false) w:=h;rw[h2]at hx;exact hx,
 t0:=Proofs.Tryz.underlying0,a0:=Proofs.Tryz.isAgg0,z0:=Proofs.Tryz.sizeOf0,v0:=Proofs.Tryz.zeroValue0,
 t3:=Proofs.Tryz.underlying3,a3:=Proofs.Tryz.isAgg3,z3:=Proofs.Tryz.sizeOf3,v3:=Proofs.Tryz.zeroValue3,
 t4:=Proofs.Tryz.underlying4,a4:=Proofs.Tryz.isAgg4,z4:=Proofs.Tryz.sizeOf4,v4:=Proofs.Tryz.zeroValue4,
 t24:=Proofs.Tryz.underlying62,a24:=Proofs.Tryz.isAgg62,z24:=Proofs.Tryz.sizeOf62,v24:=Proofs.Tryz.zeroValue62,
 i9:=⟨_,_,rfl,rfl,rfl,rfl,rfl⟩,
 hk:=by decide,Tw:=by decide}
def BZ:Ren:=⟨fun|22=>216|29=>239|30=>240|n=>n,fun|0=>0|3=>3|4=>4|9=>9|24=>42|n=>n,fun n=>n⟩
theorem Iu:tA Proofs.Tryz.prog BZ 1 16:={
 mixed:=by kernel_rfl,
 f22:=⟨Proofs.Tryz.f216.name,by decide,Proofs.Tryz.func216.trans (congrArg some (by kernel_rfl))⟩,
 ov:=fun w a b h=>by
  have hx:=run_callFunc_extern Proofs.Tryz.func239 (by kernel_rfl) (by kernel_rfl) (by kernel_rfl) (e:=Extern.SlicesOverlaps.overlaps #[42,42] #[4]) (by kernel_rfl) #[a,b] w;have h2:(Extern.SlicesOverlaps.overlaps #[42,42] #[4] #[a,b]).run Proofs.Tryz.prog w=.ok (.bool false) w:=h;rw[h2]at hx;exact hx,
 t0:=Proofs.Tryz.underlying0,a0:=Proofs.Tryz.isAgg0,z0:=Proofs.Tryz.sizeOf0,v0:=Proofs.Tryz.zeroValue0,
 t3:=Proofs.Tryz.underlying3,a3:=Proofs.Tryz.isAgg3,z3:=Proofs.Tryz.sizeOf3,v3:=Proofs.Tryz.zeroValue3,
 t4:=Proofs.Tryz.underlying4,a4:=Proofs.Tryz.isAgg4,z4:=Proofs.Tryz.sizeOf4,v4:=Proofs.Tryz.zeroValue4,
 t24:=Proofs.Tryz.underlying42,a24:=Proofs.Tryz.isAgg42,z24:=Proofs.Tryz.sizeOf42,v24:=Proofs.Tryz.zeroValue42,
 i9:=⟨_,_,rfl,rfl,rfl,rfl,rfl⟩,
 hk:=by decide,Tw:=by decide}
end
end Go.Dv.Tryz
namespace Go.Dv
section
open Go.RowKit Go.Shelf Go.Sort Go.Proofs
section
variable{P:Program}
def YY{a:Ren}(L:Lays.n189 P a):gO P (a.f 189):=Gy (f:=a.f 189) (fn:=Body.n189 a) L.f189 tG tG
def sortInt(l:List Int):List Int:=l.mergeSort λx y=>decide (x<=y)
def aJ(l:List Int):List (List PV):=l.map λz=>[.int .i64 z]
def GG{g:Ren}(L:Lays.n189 P g)(a:List Int)(d:a.length<4611686018427387904){id:Nat}{H:Heap}{i:Nat}(l:ag H id=some (.row false 1 (aJ a))):
  kj P (g.f 189) [.ref id a.length 0 a.length] H i (.tuple []) (aC H id (.row false 1 (aJ (sortInt a)))) i:=by
 have j:∀(b c:Nat) (w:World),Holds (Value.int .i64) w b 0 a.toArray->b<w.heap.size->Calls P (g.f 189) #[.slice (some ⟨b,0,none⟩) a.length c] w λe m=>e=.returned (.tuple #[])/\∃n o,m=grow (putRow (Value.int .i64) (Go.Sort.ahead w n) b 0 (sortInt a).toArray) o:=
  λb c w q r=>Any.slices_Sort_int L b 0 c a w q r d
 have k:(sortInt a).length=a.length:=by simp[sortInt]
 generalize sortInt a=s at j k⊢;exact KZ (P:=P) (f:=g.f 189) (YY L) (Value.int .i64) (λx=>PV.int .i64 x) (λw U x=>.int _ _) (λx=>rfl) (λw U x v h=>by cases h;rfl)
  a s k (λt p c w=>Any.slices_Sort_int_none L p c w) (λ_=>j) l
def rf:List (List PV)->Option (List Int)
 |[]=>some []
 |[.int .i64 s]::r=>match rf r with
  |some q=>some (s::q)
  |none=>none
 |_=>none
def vI:∀l,rf (aJ l)=some l
 |[]=>rfl
 |x::l=>by
  have h:=vI l;simp only[aJ,List.map_cons,rf]at h⊢;rw[h]
def zx:∀{d:List (List PV)} {l:List Int},rf d=some l->d=aJ l
 |[],l,h=>by simp only[rf,ay]at h;subst h;rfl
 |c::r,l,h=>by
  unfold rf at h;split at h
  .rename_i a;cases a
  .rename_i s e a;cases a;cases b:rf r with
   |none=>rw[b]at h;cases h
   |some q=>rw[b]at h;simp only[ay]at h;subst h;rw[zx b];rfl
  .cases h
def nP(F:FuncId):aK where
 pure:=λ_ _=>none
 dq:=λf args H nx=>if f=F then match args with
   |[.ref id sj 0 n]=>match ag H id with
    |some (.row false 1 xs)=>match rf xs with
     |some l=>if sj=l.length/\n=l.length/\l.length<=an then some (.tuple [],aC H id (.row false 1 (aJ (sortInt l))),nx)else none
     |none=>none
    |_=>none
   |_=>none
  else none
def GF{a:Ren}(L:Lays.n189 P a){F:FuncId}(c:a.f 189=F):bV P (nP F):=by
 refine⟨λf args r h=>(by cases h),λf args H d r g i h=>?_,λf args H d r g h=>(by cases h)⟩;simp only[nP]at h;split at h
 .rename_i e;subst e;split at h
  .rename_i id j n;split at h
   .rename_i p b;split at h
    .rename_i l k;split at h
     .rename_i m;cases h;obtain⟨rfl,rfl,o⟩:=m;rw[zx k]at b;rw[<-c];exact GG L l (by simp only[an]at o;omega) b
     .cases h
    .cases h
   .cases h
  .cases h
 .cases h
end
end
section
open Go.RowKit Go.Shelf Go.Proofs
def wS(n:Int):ByteArray:=⟨(Lib.itoa n).toArray⟩
def Ie(w:World)(k:Nat)(a:Array Obj):Below w.heap.size w (Go.Sort.grow (w.drewN k) a):=
 Below.OI ⟨rfl,rfl,rfl,by simp[Go.Sort.grow,World.drewN],λk b=>by simp[Go.Sort.grow,World.drewN,AY,b]⟩ (by simp[Go.Sort.grow,World.drewN])
def FR(F:FuncId):aK where
 pure:=λf args=>if f=F then match args with
   |[.int .i64 n,.int .i64 m]=>if m=10/\-9223372036854775808<=n/\n<=9223372036854775807 then some (.str (wS n))else none
   |_=>none
  else none
 dq:=λ_ _ _ _=>none
def UP{P:Program}{q:Ren}(L:LaysM.n173 P q){g:Nat}(x:P.globalNamed "internal/strconv.uint64pow10" =some g)(y:(g,(Lib.pow10Tab.map λz=>Value.int .u64 z).toArray)∈OZ){F:FuncId}(A:q.f 173=F)(b:gO P F):bV P (FR F):=by
 refine⟨λf args r h=>?_,λf args H B r C D h=>(by cases h),λf args H B r C h=>(by cases h)⟩;simp only[FR]at h;split at h
 .rename_i e;subst e;split at h
  .rename_i n m;split at h
   .rename_i E;obtain⟨rfl,l,o⟩:=E;cases h;refine⟨b,λU w c M G p a=>?_⟩;have d:c=#[c.getD 0 undef,c.getD 1 undef]:=by
     apply tV
     .simpa using p
     .intro i l o;have I:i=0\/i=1:=by simp at o;omega
      rcases I with rfl|rfl<;>simp[l]
    have s:=a 0 _ rfl;have t:=a 1 _ rfl;rw[d];generalize c.getD 0 undef=v at s;generalize c.getD 1 undef=u at t;cases s;cases t;subst A;have j:Lib.TabIs P w "internal/strconv.uint64pow10" .u64 Lib.pow10Tab:=by
     obtain⟨_,T,N,J⟩:=G _ y;unfold Lib.TabIs World.var?;rw[x];simp only[MJ,J]
    refine(Any.strconv_FormatInt_10 L n l o w j).mono ?_;rintro e O ⟨rfl,k,K,rfl⟩;exact⟨_,rfl,.str _,Ie w k K⟩
   .cases h
  .cases h
 .cases h
end
end Go.Dv
namespace Go.Dv.Tryz
section
open Go Go.Dv
def Xw:List (Nat×av):=[(3,a3),(5,a5),(6,a6),(7,a7),(8,a8),(9,a9),(10,ZP),(12,a12),(15,TD),(16,XT),(17,Tl),(18,Y3),(19,TM),(20,a20),(21,a21),(22,a22),(23,YC),(24,a24),(25,YR),(26,Yy),(27,YM),(28,a28),(29,ZB),(30,Zz),(31,a31),(32,Ys),(34,Yk),(35,Uq),(37,a37),(40,a40),(41,YZ),(42,Yl),(43,Ur),(44,Sd),(45,UF),(46,a46),(47,TG),(48,X6),(49,a49),(50,YW),(51,a51),(52,Vr),(53,a53),(54,Yd),(55,ZD),(56,X5),(57,X1),(58,YA),(59,a59),(60,YQ),(61,Yz),(62,YT),(63,XS),(66,ZQ),(69,Ya),(70,a70),(71,Zj),(72,a72),(73,Y9),(74,Yt),(75,a75),(76,a76),(78,Hq),(79,YB),(80,a80),(81,ZN),(82,ZU),(83,X0),(84,ZO),(85,a85),(86,Re),(87,a87),(88,Yp),(89,Tj),(90,Yu),(91,a91),(93,a93),(94,Yj),(95,Yh),(96,Y1),(97,Yn),(99,MA),(107,a107),(108,aaT),(111,VG),(112,VK),(113,Ua),(114,VF),(115,Ss),(117,a117),(118,SL),(121,Lt),(122,Jt),(123,Us),(125,Ut),(126,Sc),(132,Kk),(133,KJ),(134,TH),(135,Vy),(136,Sr),(137,VL),(138,a138),(139,a139),(140,TJ),(141,a141),(154,a154),(163,SA),(164,a164),(165,To),(166,Sj),(167,a167),(169,VJ),(170,SQ),(171,a171),(172,UD),(173,a173),(174,SJ),(175,a175),(176,Tf),(177,Ka),(183,a183),(186,SE),(195,TP),(196,a196),(197,Eu),(198,a198),(199,TQ),(200,Th),(201,a201),(202,Vh),(203,a203),(204,UX),(205,UN),(208,a208),(209,SD),(210,a210),(211,KX),(212,a212),(213,a213),(214,VN),(215,SS),(222,a222),(223,RV),(224,Ub),(225,RL),(226,a226),(227,a227),(228,a228),(229,a229),(230,U2),(231,SG),(233,a233),(234,a234),(235,VE),(236,a236),(237,RW),(238,VA),(244,T4),(245,Uj),(246,SR),(247,TR),(248,R1),(250,Vv),(251,Uz),(252,RT),(254,Sa),(255,UY),(256,R5),(257,S2),(262,Vn),(264,RH),(265,RQ),(270,Uc)]
def tab(f:FuncId):Option av:=ag Xw f
def K9:List Nat:=[86,133]
def mm:Xw.all (λp=>K9.contains p.1||jG Proofs.Tryz.prog p.1 p.2)=true:=tG
def Ws(c:∀f∈K9,∀a,tab f=some a->sM Proofs.Tryz.prog f a):∀f a,tab f=some a->sM Proofs.Tryz.prog f a:=by
 intro f a b;have h:=List.all_eq_true.1 mm (f,a) (vv _ _ _ b);simp only[ji]at h;rcases h with h|h
 .exact c f (by simpa using h) a b
 .exact .inl h
def mixed:Proofs.Tryz.prog.follows .mixedOrders=true:=tG
def c36:jG Proofs.Tryz.prog 36 (oG 8 [.str ⟨#[]⟩,.int .i64 0,.int .i64 0,.str ⟨#[]⟩] 48)=true:=tG
def tL(f:FuncId):Option (Nat×Nat):=if f==36 then some (4,48)else none
def BP{f:FuncId}{c b:Nat}(h:tL f=some (c,b)):∃e a,a.length=c/\jG Proofs.Tryz.prog f (oG e a b)=true:=by
 unfold tL at h;split at h
 .rename_i d;simp only[cH]at d;subst d;cases h;exact⟨_,_,rfl,c36⟩
 cases h
def oz:aK where
 pure:=λf args=>match args,tL f with
  |[.slice _ xs],some (sz,by_)=>if bT sz xs&&decide (xs.length*by_<=an)&&decide (xs.length<=an)then some (.slice false xs)else none
  |_,_=>none
 dq:=λf args H nx=>match args,tL f with
  |[.p (.slice _ xs)],some (sz,by_)=>if bT sz xs&&decide (xs.length*by_<=an)&&decide (xs.length<=an)then some (.ref nx xs.length 0 xs.length,(nx,.row false sz xs)::H,nx+1)else none
  |_,_=>none
def MU:bV Proofs.Tryz.prog oz:=by
 refine⟨λf args r h=>?_,λf args H e r g i h=>?_,λf args H e r g h=>(by cases h)⟩
 .simp only[oz]at h;split at h
  .rename_i c;split at h
   .rename_i a;simp only[aL,df]at a;cases h;obtain⟨j,b,rfl,d⟩:=BP c;exact JB mixed d a.1.1 a.1.2 a.2
   .cases h
  .cases h
 .simp only[oz]at h;split at h
  .rename_i c;split at h
   .rename_i a;simp only[aL,df]at a;cases h;obtain⟨j,b,rfl,d⟩:=BP c;exact FP mixed d a.1.1 a.1.2 a.2
   .cases h
  .cases h
def outside:aK:=aK.or (aK.or (aK.or (aK.or (aK.or (oz) (tZ 77 2 40)) (nP 92)) (oK 98)) (tZ 216 1 16)) (FR 232)
def Jo:bV Proofs.Tryz.prog outside:=(bV.or (bV.or (bV.or (bV.or (bV.or MU (Jj NT rfl (ot Proofs.Tryz.func77 rfl rfl))) (GF Vm rfl)) (JQ R9 rfl (ot Proofs.Tryz.func98 rfl rfl))) (Jj Iu rfl (ot Proofs.Tryz.func216 rfl rfl))) (UP (g:=1) TI tG (by simp[OZ]) rfl (ot Proofs.Tryz.func232 rfl rfl)))
def tb:dw:=⟨tab,outside⟩
def calls(b:∀f∈K9,∀a,tab f=some a->sM Proofs.Tryz.prog f a){f:FuncId}{args:List PV}{r:PV}(h:PS tb f args r):sO Proofs.Tryz.prog f args r:=h.calls mixed (Ws b) Jo
end
section
open Go Go.Dv
def Fy{a:Type}(l:List a)(p:a->Bool)(i:Nat)(h:i<l.length)(b:(l.take i).all p=true)(c:p l[i]=true):(l.take (i+1)).all p=true:=by
 rw[List.take_add_one,List.all_append,b,List.getElem?_eq_getElem h];simp[c]
def O0{a:Type}(l:List a)(p:a->Bool)(i:Nat)(h:i<l.length)(b:p l[i]=false):l.all p=false:=by
 rw[List.all_eq_false];exact⟨l[i],List.getElem_mem h,by simp[b]⟩
def Qz(s:ByteArray)(i:Nat)(h:i<s.data.toList.length):s.data[i]?=some s.data.toList[i]:=by
 rw[<-eG,List.getElem?_eq_getElem h]
def wV(s:ByteArray):s.data.toList.length=s.size:=jV
def Y0(c:UInt8):Bool:=(decide (97<=c.toNat)&&decide (c.toNat<=122))||(decide (48<=c.toNat)&&decide (c.toNat<=57))||decide (c.toNat=47)||decide (c.toNat=46)||decide (c.toNat=95)||decide (c.toNat=45)
def tq(s:ByteArray)(p:UInt8->Bool):Bool:=s.data.toList.all p
def lK(s:ByteArray):Bool:=decide (1<=s.size)&&decide (s.size<=24)&&tq s Y0
def aam(n:Nat):Bool:=(decide (97<=n)&&decide (n<=122))||(decide (48<=n)&&decide (n<=57))||decide (n=47)||decide (n=46)||decide (n=95)||decide (n=45)
def SF{f:FuncId}{p:Nat->Bool}(h:((List.range 256).all λn=>match(dQ tb.A tb.X 3).pure f [.int .u8 n]with|some (.bool b)=>b==p n|_=>false)=true)(c:UInt8):PS tb f [.int .u8 (c.toNat:Int)] (.bool (p c.toNat)):=by
 have:=(List.all_eq_true.1 h) c.toNat (List.mem_range.2 c.toNat_lt);split at this
 .rename_i b a;simp only[cH]at this;exact⟨3,by rw[a,this]⟩
 .cases this
def WR(c:UInt8):PS tb 108 [.int .u8 (c.toNat:Int)] (.bool (Y0 c)):=SF (p:=aam) tG c
def JM(s:ByteArray)(t:s.size<=24)(f:FuncId)(p:UInt8->Bool)(h:∀c:UInt8,PS tb f [.int .u8 (c.toNat:Int)] (.bool (p c)))(K:Ex->St->Prop)(j:tq s p=true->K (.exit 0) ⟨[],[],0,[0]⟩)
  (k:tq s p=false->∀e,ag e.env 4=some (.p (.bool false))->K .ret e):∀(m i:Nat),i+m=s.size->(s.data.toList.take i).all p=true->
  W tb uu ⟨[(0,.p (.str s)),(1,.p (.func f [])),(10,.p (.int .i64 s.size)),(11,.p (.int .i64 i))],[],0,[0]⟩ (LK tb (.ghost .lower uu) K):=by
 intro m;induction m with
 |zero=>
  intro i l a;have b:¬(i:Int)<s.size:=ae;rw[List.take_of_length_le (by rw[wV];omega)]at a;refine aH uu.eq_1 ?_;refine gN b (k1 ?_);exact j a
 |succ m n=>
  intro i l a;have b:(i:Int)<s.size:=ae;have d:i<s.data.toList.length:=by rw[wV];omega
  have o:=Qz s i d;have q:(0:Int)<=i:=ae;refine aH uu.eq_1 ?_;refine hP (dS b o q) (λ{r}=>h r) (k2 ?_ ?_)<;>(repeat with_reducible intro g)
  .exact k (O0 _ p i d g) _ rfl
  .refine fJ (aU ?_);refine ew ?_;exact n (i+1) ae (Fy _ p i d a g)
def GU(s:ByteArray)(f:FuncId)(p:UInt8->Bool)(e:∀c:UInt8,PS tb f [.int .u8 (c.toNat:Int)] (.bool (p c))):
  PS tb 107 [.str s,.func f []] (.bool (decide (s.size<=24)&&tq s p)):=by
 refine bD (af:=a107) rfl rfl ?_;unfold a107;dsimp only[List.map,aI,ai];repeat'(first|(simp(disch:=omega) only[go_sem,seval,reduceCtorEq])|with_reducible exact Ev.mk|((first|apply aY|apply aQ)<;>intro a h<;>(simp(disch:=omega) only[go_sem,seval,reduceCtorEq,a])<;>clear a))
 .have:¬s.size<=24:=ae;simp[this,aS,dep]
 .have b:s.size<=24:=ae;refine aU ?_;refine ew ?_;refine JM s b f p e _ ?_ ?_ s.size 0 ae az
  .intro d;refine ew ?_;simp[b,d,aS,dep]
  .intro d i g
   (try simp(disch:=omega) only[go_sem,seval,reduceCtorEq,g])
   simp[b,d,aS,dep]
def wu(s:ByteArray):(s=⟨#[]⟩)↔s.size=0:=by
 constructor
 .rintro rfl;rfl
 .intro h;apply Av;have:s.data.toList.length=0:=by rw[wV];exact h
  rw[List.eq_nil_of_length_eq_zero this]
def fh(s:ByteArray):PS tb 70 [.str s] (.bool (lK s)):=by
 refine bD (af:=a70) rfl rfl ?_;unfold a70;dsimp only[List.map,aI,ai];repeat'(first|exact GU s 108 Y0 WR|(simp(disch:=omega) only[go_sem,seval,reduceCtorEq])|with_reducible exact Ev.mk|apply cT|((first|apply aY|apply aQ)<;>intro a b<;>(simp(disch:=omega) only[go_sem,seval,reduceCtorEq,a])<;>clear a))
 .have c:¬s.size=0:=λh=>b ((wu s).2 h)
  simp[lK,aS,dep,show 1<=s.size by omega]
 .have c:s.size=0:=(wu s).1 b;simp[lK,aS,dep,c]
end
section
open Go Go.Dv
def Sh(l:List ByteArray):Prop:=l.length<=1048576/\∀x∈l,x.size<=1048576
abbrev E:ByteArray:=⟨#[]⟩
def hasB(l:List ByteArray)(k:ByteArray):Bool:=l.any λx=>decide (x=k)
def ej{l:List ByteArray}{k:ByteArray}:hasB l k=true↔k∈l:=by simp[hasB]
def iY{l:List ByteArray}{k:ByteArray}:hasB l k=false↔k∉l:=by rw[<-ej];simp
def nC{q:Nat->Bool}{i:Nat}(h:∀j,j<i->q j=true)(a:q i=true):∀j,j<i+1->q j=true:=by
 intro j b;rcases C3.1 b with c|rfl
 .exact h j c
 .exact a
def bW(l:List ByteArray)(i:Nat)(h:i<l.length):l.getD i E=l[i]:=by simp[List.getD_eq_getElem?_getD,h]
def Sh.size{l:List ByteArray}(h:Sh l){i:Nat}(a:i<l.length):l[i].size<=1048576:=h.2 _ (List.getElem_mem a)
def A0(l:List ByteArray)(p:ByteArray->Bool):(∀j,j<l.length->p (l.getD j E)=true)↔∀x∈l,p x=true:=by
 constructor
 .intro h x c;obtain⟨i,a,rfl⟩:=List.mem_iff_getElem.1 c;have:=h i a
  rwa [bW l i a]at this
 .intro h j b;rw[bW l j b];exact h _ (List.getElem_mem b)
def qq(l:List ByteArray)(j:Nat):Bool:=lK (l.getD j E)&&(decide (j=0)||slt (l.getD (j-1) E) (l.getD j E))
def tw(l:List ByteArray):Bool:=(List.range l.length).all (qq l)
def La{l:List ByteArray}(h:∀j,j<l.length->qq l j=true):tw l=true:=by
 simp only[tw,List.all_eq_true,List.mem_range];exact h
def Ko{l:List ByteArray}{i:Nat}(a:i<l.length)(h:qq l i=false):tw l=false:=by
 rw[tw,List.all_eq_false];exact⟨i,List.mem_range.2 a,by simp[h]⟩
def eY(l:List ByteArray):Prop:=l.Pairwise λa b=>slt a b=true
def nT{l:List ByteArray}:tw l=true↔(∀x∈l,lK x=true)/\eY l:=by
 simp only[tw,List.all_eq_true,List.mem_range,qq,aL,ji,df];constructor
 .intro h;refine⟨(A0 l lK).1 λj b=>(h j b).1,?_⟩;unfold eY;rw[List.pairwise_iff_getElem];intro i j g b k;have c:∀d,i+d+1<l.length->slt (l.getD i E) (l.getD (i+d+1) E)=true:=by
   intro d;induction d with
   |zero=>
    intro e;rcases(h (i+1) e).2 with a|a
    .omega
    .exact a
   |succ d m=>
    intro e;rcases(h (i+d+2) e).2 with a|a
    .omega
    .exact gM (m ae) a
  have:=c (j-i-1) ae;rw[show i+(j-i-1)+1=j by omega,bW l i g,bW l j b]at this;exact this
 .rintro⟨n,f⟩ j b;refine⟨(A0 l lK).2 n j b,?_⟩;rcases pO j with a|a
  .exact .inl a
  .right;unfold eY at f;rw[List.pairwise_iff_getElem]at f;rw[bW l j b,bW l (j-1) ae];exact f (j-1) j ae b ae
def WL(l:List ByteArray)(b:Bool)(n:Sh l)(K:Ex->St->Prop)(u:(∀j,j<l.length->qq l j=true)->K (.exit 0) ⟨[(0,.p (.slice b (aF l)))],[],0,[0]⟩)
  (o:∀i,i<l.length->qq l i=false->∀p,ag p.env 2=some (.p (.bool false))->K .ret p):∀(m i:Nat),i+m=l.length->(∀j,j<i->qq l j=true)->
  W tb vq ⟨[(0,.p (.slice b (aF l))),(5,.p (.slice b (aF l))),(6,.p (.int .i64 l.length)),(7,.p (.int .i64 i))],[],0,[0]⟩ (LK tb (.ghost .lower vq) K):=by
 intro m;induction m with
 |zero=>
  intro i v d;have e:¬(i:Int)<l.length:=ae;refine aH vq.eq_1 ?_;refine gN (bA e @au) (k1 ?_);exact u (λj B=>d j ae)
 |succ m q=>
  intro i v d;have e:(i:Int)<l.length:=ae;have c:i<l.length:=ae;have r:(0:Int)<=i:=ae;have s:=dN l i c;have C:=n.size c;have w:0<i->(aF l)[i-1]?=some [.str (l.getD (i-1) E)]:=λh=>by rw[dN l (i-1) ae,bW l (i-1) ae]
  have t:=n.1;have a:qq l i=(lK l[i]&&(decide (i=0)||slt (l.getD (i-1) E) l[i])):=by simp only[qq];rw[bW l i c]
  have x:0<i->((i:Int)-1)=((i-1:Nat):Int):=λh=>ae
  by_cases D:i=0
  .have f:¬(0:Int)<i:=ae;refine aH vq.eq_1 ?_;refine hP (dP e r @au s f) (λ{g}=>fh g) (k2 ?_ ?_)<;>(repeat with_reducible intro y)
   all_goals first
    |exact o i c (by rw[a];simp_all) _ rfl
    |(refine fJ (aU ?_)
      refine ew ?_;exact q (i+1) ae (nC d (by rw[a];simp_all)))
  .have f:(0:Int)<i:=ae;have z:=w ae;have A:=x ae;have k:(0:Int)<=((i-1:Nat):Int):=ae;refine aH vq.eq_1 ?_;refine hP (xI e r @au s f z A k) (λ{g}=>fh g) (k3 ?_ ?_ ?_)<;>(repeat with_reducible intro y)
   all_goals first
    |exact o i c (by rw[a];simp_all) _ rfl
    |(refine fJ (aU ?_)
      refine ew ?_;exact q (i+1) ae (nC d (by rw[a];simp_all)))
def Kl(l:List ByteArray)(b:Bool)(c:Sh l):PS tb 71 [.slice b (aF l)] (.bool (tw l&&decide (l.length<=64))):=by
 refine bD (af:=Zj) rfl rfl ?_;unfold Zj;dsimp only[List.map,aI,ai];refine gN @au (k1 ?_);refine aU ?_;refine ew ?_;refine WL l b c _ ?_ ?_ l.length 0 ae az
 .intro d
  (try simp(disch:=omega) only[go_sem,seval,reduceCtorEq,au])
  have e:decide ((l.length:Int)<=64)=decide (l.length<=64):=wD.2 ae;simp only[La d,aS,dep,e,Bool.true_and]
 .intro i f g h a
  (try simp(disch:=omega) only[go_sem,seval,reduceCtorEq,a])
  simp[Ko f g,aS,dep]
end
section
open Go Go.Dv
structure Ft where
 all:Bool
 br:Bool
 r:List ByteArray
 bw:Bool
 w:List ByteArray
def jZ(f:Ft):List PV:=[.bool f.all,.slice f.br (aF f.r),.slice f.bw (aF f.w)]
def oO(f:Ft):Prop:=Sh f.r/\Sh f.w
def dk(f:Ft):Bool:=if f.all then decide (f.r.length=0)&&decide (f.w.length=0)else(tw f.r&&decide (f.r.length<=64))&&(tw f.w&&decide (f.w.length<=64))
def qw(f:Ft)(h:oO f):PS tb 41 [.agg (jZ f)] (.bool (dk f)):=by
 refine bD (af:=YZ) rfl rfl ?_;unfold YZ;dsimp only[List.map,aI,jZ,ai];have d:=h.1.1;have e:=h.2.1;cases b:f.all with
 |true=>
  repeat'(first|(simp(disch:=omega) only[go_sem,seval,reduceCtorEq,au])|with_reducible exact Ev.mk|((first|apply aY|apply aQ)<;>intro a c<;>(simp(disch:=omega) only[go_sem,seval,reduceCtorEq,au,a])<;>clear a))
  all_goals simp only[aS,dep,ay,PV.bool.injEq,dk,b,cQ]
  .rw[jl (by omega:f.r.length=0),Bool.true_and];exact wD.2 ae
  .rw[lR (by omega:¬f.r.length=0),Bool.false_and]
 |false=>
  repeat'(first|exact Kl f.r f.br h.1|exact Kl f.w f.bw h.2|(simp(disch:=omega) only[go_sem,seval,reduceCtorEq,au])|with_reducible exact Ev.mk|apply cT|((first|apply aY|apply aQ)<;>intro a c<;>(simp(disch:=omega) only[go_sem,seval,reduceCtorEq,au,a])<;>clear a))
  all_goals simp only[aS,dep,ay,PV.bool.injEq,dk,b,Bool.false_eq_true,cK,c,Bool.true_and,Bool.false_and]
end
section
open Go Go.Dv
inductive bj where
 |mk (op n:Int) (s:ByteArray) (f:Bool) (xs:List bj)
mutual
def bj.cs:bj->List PV
 | .mk a n s f b=>[.int .i64 a,.int .i64 n,.str s,.slice f (cn b)]
def cn:List bj->List (List PV)
 |[]=>[]
 |e::r=>e.cs::cn r
end
def bj.op:bj->Int| .mk a _ _ _ _=>a
def bj.n:bj->Int| .mk _ n _ _ _=>n
def bj.s:bj->ByteArray| .mk _ _ s _ _=>s
def bj.f:bj->Bool| .mk _ _ _ f _=>f
def bj.xs:bj->List bj| .mk _ _ _ _ a=>a
def bj.As(e:bj):e.cs=[.int .i64 e.op,.int .i64 e.n,.str e.s,.slice e.f (cn e.xs)]:=by cases e;simp[bj.cs,bj.op,bj.n,bj.s,bj.f,bj.xs]
def bB:∀l:List bj,(cn l).length=l.length
 |[]=>rfl
 |_::r=>by simp[cn,bB r]
def kT:∀(l:List bj) (i:Nat) (h:i<l.length),(cn l)[i]?=some (l[i].cs)
 |[],_,h=>by simp at h
 |_::r,0,_=>by simp[cn]
 |_::r,i+1,h=>by simp only[cn,List.getElem?_cons_succ,List.getElem_cons_succ];exact kT r i (by simpa using h)
inductive cl where
 |mk (op:Int) (name:ByteArray) (max:Int) (a b:bj) (f:Bool) (body:List cl) (g:Bool) (els:List cl)
mutual
def cl.cs:cl->List PV
 | .mk e name max a b f c g d=>[.int .i64 e,.str name,.int .i64 max,.int .i64 a.op,.int .i64 a.n,.str a.s,.slice a.f (cn a.xs),.int .i64 b.op,.int .i64 b.n,.str b.s,.slice b.f (cn b.xs),.slice f (cU c),.slice g (cU d)]
def cU:List cl->List (List PV)
 |[]=>[]
 |s::r=>s.cs::cU r
end
def cG:∀l:List cl,(cU l).length=l.length
 |[]=>rfl
 |_::r=>by simp[cU,cG r]
def mG:∀(l:List cl) (i:Nat) (h:i<l.length),(cU l)[i]?=some (l[i].cs)
 |[],_,h=>by simp at h
 |_::r,0,_=>by simp[cU]
 |_::r,i+1,h=>by simp only[cU,List.getElem?_cons_succ,List.getElem_cons_succ];exact mG r i (by simpa using h)
structure dY where
 k:Int
 n:Int
 s:ByteArray
 deriving DecidableEq
def jD(v:dY):List PV:=[.int .i64 v.k,.int .i64 v.n,.str v.s]
def cy(l:List dY):List (List PV):=l.map jD
def b7(l:List dY):(cy l).length=l.length:=by simp[cy]
def uN(l:List dY)(i:Nat)(h:i<l.length):(cy l)[i]?=some [.int .i64 l[i].k,.int .i64 l[i].n,.str l[i].s]:=by simp[cy,jD,h]
abbrev V0:dY:=⟨0,0,E⟩
structure Pr where
 key:ByteArray
 v:dY
 deriving DecidableEq
def wM(p:Pr):List PV:=[.str p.key,.int .i64 p.v.k,.int .i64 p.v.n,.str p.v.s]
def aT(l:List Pr):List (List PV):=l.map wM
def bh(l:List Pr):(aT l).length=l.length:=by simp[aT]
def kc(l:List Pr)(i:Nat)(h:i<l.length):(aT l)[i]?=some [.str l[i].key,.int .i64 l[i].v.k,.int .i64 l[i].v.n,.str l[i].v.s]:=by simp[aT,wM,h]
def pb(l:List Pr):bT 4 (aT l)=true:=by simp[bT,aT,wM]
def cD(l:List Pr)(k:ByteArray):dY:=match l.find? λp=>decide (p.key=k)with
 |some p=>p.v
 |none=>V0
structure Pm where
 name:ByteArray
 ty:Int
def LV(p:Pm):List PV:=[.str p.name,.int .i64 p.ty]
def im(l:List Pm):List (List PV):=l.map LV
def cN(l:List Pm):(im l).length=l.length:=by simp[im]
def n8(l:List Pm)(i:Nat)(h:i<l.length):(im l)[i]?=some [.str l[i].name,.int .i64 l[i].ty]:=by simp[im,LV,h]
structure Pc where
 name:ByteArray
 fp:Bool
 ps:List Pm
 fb:Bool
 body:List cl
def eV(p:Pc):List PV:=[.str p.name,.slice p.fp (im p.ps),.slice p.fb (cU p.body)]
def eL(l:List Pc):List (List PV):=l.map eV
def kr(l:List Pc):(eL l).length=l.length:=by simp[eL]
def CO(l:List Pc)(i:Nat)(h:i<l.length):(eL l)[i]?=some [.str l[i].name,.slice l[i].fp (im l[i].ps),.slice l[i].fb (cU l[i].body)]:=by simp[eL,eV,h]
structure Tx where
 id:Int
 proc:ByteArray
 fa:Bool
 args:List dY
 dx:Ft
 att:Int
def nM(t:Tx):List PV:=[.int .i64 t.id,.str t.proc,.slice t.fa (cy t.args),.bool t.dx.all,.slice t.dx.br (aF t.dx.r),.slice t.dx.bw (aF t.dx.w),.int .i64 t.att]
def gp(l:List Tx):List (List PV):=l.map nM
def ca(l:List Tx):(gp l).length=l.length:=by simp[gp]
def NS(l:List Tx)(i:Nat)(h:i<l.length):(gp l)[i]?=some (nM l[i]):=by simp[gp,h]
structure Ef where
 st:Int
 code:Int
 fo:Bool
 out:List dY
 fr:Bool
 reads:List ByteArray
 fp:Bool
 dm:List ByteArray
 fw:Bool
 writes:List Pr
 OQ:ByteArray
 steps:Int
def iP(e:Ef):List PV:=[.int .i64 e.st,.int .i64 e.code,.slice e.fo (cy e.out),.slice e.fr (aF e.reads),.slice e.fp (aF e.dm),.slice e.fw (aT e.writes),.str e.OQ,.int .i64 e.steps]
def bu(l:List Ef):List (List PV):=l.map iP
def cu(l:List Ef):(bu l).length=l.length:=by simp[bu]
def sC(l:List Ef)(i:Nat)(h:i<l.length):(bu l)[i]?=some (iP l[i]):=by simp[bu,h]
def fA(n:Int):Prop:=-9223372036854775808<=n/\n<=9223372036854775807
abbrev jL:Nat:=1048576
def er(v:dY):Prop:=fA v.k/\fA v.n/\v.s.size<=jL
def Ii:er V0:=⟨⟨by decide,by decide⟩,⟨by decide,by decide⟩,by decide⟩
mutual
def bj.ok:bj->Prop
 | .mk a n s _ b=>fA a/\fA n/\s.size<=jL/\lu b
def lu:List bj->Prop
 |[]=>True
 |e::r=>e.ok/\lu r
end
mutual
def bj.sz:bj->Nat
 | .mk _ _ _ _ a=>1+dE a
def dE:List bj->Nat
 |[]=>0
 |e::r=>e.sz+dE r
end
mutual
def cl.ok:cl->Prop
 | .mk e name max a b _ c _ d=>fA e/\name.size<=jL/\fA max/\(a.ok/\a.sz<=jL)/\(b.ok/\b.sz<=jL)/\dU c/\dU d
def dU:List cl->Prop
 |[]=>True
 |s::r=>s.ok/\dU r
end
def uk:∀{l:List bj},lu l->∀e∈l,e.ok
 |[],_,e,h=>by simp at h
 |x::r,a,e,h=>by
  simp only[lu]at a;rcases List.mem_cons.1 h with rfl|h
  .exact a.1
  .exact uk a.2 e h
def jC:∀{l:List cl},dU l->∀e∈l,e.ok
 |[],_,e,h=>by simp at h
 |x::r,a,e,h=>by
  simp only[dU]at a;rcases List.mem_cons.1 h with rfl|h
  .exact a.1
  .exact jC a.2 e h
def bQ:∀l:List bj,l.length<=dE l
 |[]=>Nat.le_refl _
 |e::r=>by
  have:=bQ r;have h:1<=e.sz:=by cases e;simp[bj.sz]
  simp only[List.length_cons,dE];omega
end
section
open Go Go.Dv
def jg{T:dw}{f:FuncId}{af:av}(c:T.A f=some af){args:List PV}{d:Type}{r:d->PV}(g:args.length=af.nparams)
  (h:W T af.body {env:=ai 0 (args.map aI),heap:=[],next:=0,marks:=[0]} (eX af.results λv s=>∃i,aS s.heap dep v=some (r i)))(hrs:af.rs=false:=by rfl):∃i,PS T f args (r i):=by
 obtain⟨e,p,j,a⟩:=nr _ _ _ h;unfold eX at a;obtain⟨k,v,l,i,m⟩:=a;obtain⟨n,o⟩:=j.at;refine⟨i,n+1,?_⟩;rw[dQ];simp only[c];have b:=j0 (aK.le.refl (jn T.A T.X n)) (iU n) _ _ _ (o n (Nat.le_refl _));unfold prun jH oZ;rw[lB b,hrs];simp only;rw[aq (by simpa using g),b];rcases k with rfl|rfl<;>simp only[l,m,Bool.false_eq_true,cK]
def sg{b:Type}(a:List b):a.take a.length=a:=List.take_of_length_le az
def pos(k:ByteArray):List ByteArray->Nat
 |[]=>0
 |x::r=>if slt x k then pos k r+1 else 0
def B7(k:ByteArray):∀l,pos k l<=l.length
 |[]=>Nat.le_refl _
 |x::r=>by
  unfold pos;split
  .simp only[List.length_cons];have:=B7 k r;omega
  .exact Nat.zero_le _
def H6(k:ByteArray):∀(l:List ByteArray) (i:Nat),i<pos k l->slt (l.getD i E) k=true
 |[],i,h=>by simp[pos]at h
 |x::r,i,h=>by
  unfold pos at h;split at h
  .rename_i a;cases i with
   |zero=>simpa using a
   |succ i=>simpa using H6 k r i ae
  .omega
def pos_at(k:ByteArray):∀(l:List ByteArray),pos k l<l.length->slt (l.getD (pos k l) E) k=false
 |[],h=>by simp at h
 |x::r,h=>by
  unfold pos at h⊢;split
  .rename_i a;rw[aq a]at h;simp only[List.length_cons]at h;simpa using pos_at k r ae
  .rename_i a;simpa using a
def ins(k:ByteArray)(l:List ByteArray):List ByteArray:=if pos k l<l.length/\l.getD (pos k l) E=k then l else l.take (pos k l)++[k]++l.drop (pos k l)
def uU{k x:ByteArray}{l:List ByteArray}:x∈ins k l↔x=k\/x∈l:=by
 unfold ins;split
 .rename_i h;have a:k∈l:=by
   have:=h.2;rw[bW l _ h.1]at this;rw[<-this];exact List.getElem_mem h.1
  constructor
  .exact .inr
  .rintro(rfl|b)
   .exact a
   .exact b
 .constructor
  .intro h;simp only[List.mem_append,List.mem_singleton]at h;rcases h with(h|h)|h
   .exact .inr (List.mem_of_mem_take h)
   .exact .inl h
   .exact .inr (List.mem_of_mem_drop h)
  .rintro(rfl|h)
   .simp
   .rw[<-List.take_append_drop (pos k l) l]at h;simp only[List.mem_append,List.mem_singleton];rcases List.mem_append.1 h with h|h
    .exact .inl (.inl h)
    .exact .inr h
def A8(k:ByteArray)(l:List ByteArray):(ins k l).length<=l.length+1:=by
 unfold ins;split
 .omega
 .have:=B7 k l;simp;omega
def Bs{k:ByteArray}{l:List ByteArray}(h:eY l):eY (ins k l):=by
 unfold ins;split
 .exact h
 .rename_i n;have o:=B7 k l;have b:=h;unfold eY at b⊢;rw[List.append_assoc,List.pairwise_append];refine⟨b.sublist (List.take_sublist _ _),?_,?_⟩
  .rw[List.singleton_append,List.pairwise_cons];refine⟨λy a=>?_,b.sublist (List.drop_sublist _ _)⟩;obtain⟨i,g,rfl⟩:=List.mem_iff_getElem.1 a;simp only[List.length_drop]at g;have c:pos k l<l.length:=ae;have d:=pos_at k l c;rw[bW l _ c]at d;have p:l[pos k l]≠k:=λe=>n ⟨c,by rw[bW l _ c];exact e⟩
   have m:slt k l[pos k l]=true:=by
    cases q:slt k l[pos k l]with
    |true=>rfl
    |false=>exact absurd (kq d q) p
   rw[List.getElem_drop];rcases pO i with rfl|r
   .simpa using m
   .exact gM m ((List.pairwise_iff_getElem.1 b) _ _ c ae ae)
  .intro x s y a;obtain⟨i,g,rfl⟩:=List.mem_iff_getElem.1 s;simp only[List.length_take]at g;have f:i<l.length:=ae;have d:=H6 k l i ae;rw[bW l i f]at d;rw[List.getElem_take];rw[List.singleton_append]at a;rcases List.mem_cons.1 a with rfl|a
   .exact d
   .obtain⟨j,t,rfl⟩:=List.mem_iff_getElem.1 a;simp only[List.length_drop]at t;rw[List.getElem_drop];exact(List.pairwise_iff_getElem.1 b) _ _ f ae ae
end
end Go.Dv.Tryz
