/- Lemmas for the law of this claim. -/
import Derived.Test.YtcphhjkcgikdgaaGreatDoorP17
import Derived.Test.YtcphhjkcgikdgaaGreatDoorProg
import Derived.Shelf.Small.Strs
import Derived.Shelf.Strconv.Itoa4
import Derived.Shelf.Sort.Plain
set_option linter.all false
set_option maxRecDepth 100000
namespace Go.Dv
def kq(b:Nat)(a:List PV)(bytes:Nat):au:=⟨b,1,[.tmp 2],
 .seq (.region false [⟨some 2,.move (.c (.p (.slice true []))),none,[]⟩] [])
 (.seq (.seq (.region false [⟨some 3,.move (.t 0),none,[]⟩,⟨some 4,.isNil (.t 3),none,[]⟩] [])
  (.cond (.t 4) (.seq (.region false [⟨some 2,.move (.c (.p (.slice true []))),none,[]⟩] []) .ret) .skip))
 (.seq (.region false [⟨some 5,.buildSlice a 0 [],none,[]⟩,⟨some 6,.move (.t 0),none,[]⟩,⟨some 7,.append bytes a.length (.t 5) (.t 6),none,[]⟩,⟨some 2,.move (.t 7),none,[]⟩] []) .ret)),false⟩
def Na{e:Nat}{a:List PV}{bytes:Nat}{c:Bool}{x:List PV}{b:List (List PV)}{H:Heap}{d:Nat}(f:bV a.length (x::b)=true)(g:(b.length+1)*bytes<=ak)(h:b.length+1<=ak):
  jH lD 0 (kq e a bytes) [.p (.slice c (x::b))] H d=some (.ref d (b.length+1) 0 (b.length+1),(d,.row false a.length (x::b))::H,d+1):=by
 have i:bV a.length []=true:=rfl;simp[jH,pz,gU,kq,aN,bR,cM,gd,bg,St.ev,aj,ah,dz,fi,cT,iG,di,cY,jD,iX,fy,cl,sN,f,g,h,i]
def Be{nt:Nat}{zero:List PV}{bytes:Nat}{H:Heap}{nx:Nat}:
  jH lD 0 (kq nt zero bytes) [.p (.z true)] H nx=some (.p (.slice true []),H,nx)/\
  jH lD 0 (kq nt zero bytes) [.p (.z false)] H nx=some (.ref nx 0 0 0,(nx,.row false zero.length [])::H,nx+1):=by
 have a:bV zero.length []=true:=rfl;constructor
 .simp[jH,pz,gU,kq,aN,bR,cM,gd,bg,St.ev,aj,ah,dz,fi,cT,iG,di,cY,jD,iX,fy,cl,sN,a]
 .simp[jH,pz,gU,kq,aN,bR,cM,gd,bg,St.ev,aj,ah,dz,fi,cT,iG,di,cY,jD,iX,fy,cl,sN,a]
def F8{P:Program}(g:P.follows .mixedOrders=true){f:FuncId}{s:Nat}{zero:List PV}{bytes:Nat}(t:fP P f (kq s zero bytes)=true){full:Bool}{i:List (List PV)}{H:Heap}{nx:Nat}
  (K:bV zero.length i=true)(u:i.length*bytes<=ak)(L:i.length<=ak):
  iJ P f [.p (.slice full i)] H nx (.ref nx i.length 0 i.length) ((nx,.row false zero.length i)::H) (nx+1):=by
 cases i with
 |cons x i=>exact qe s7 g t (Na K u L)
 |nil=>
  have E:=qe (P:=P) (cf:=lD) s7 g t (Be (nt:=s) (zero:=zero) (bytes:=bytes) (H:=H) (nx:=nx)).1;have M:=qe (P:=P) (cf:=lD) s7 g t (Be (nt:=s) (zero:=zero) (bytes:=bytes) (H:=H) (nx:=nx)).2;refine⟨E.1,λB F y r w l m n o=>?_⟩;have G:=o 0 _ rfl;have z:∃a c,l.getD 0 undef=.slice a 0 c:=by
   generalize l.getD 0 undef=v at G⊢;cases G with|p _ _ A=>
    cases A with
    |none _ a c _=>exact⟨a,c,rfl⟩
    |slice _ _ _ _ _ _ _ _ _ _ k=>simp at k
  obtain⟨a,c,z⟩:=z;have I:∀(b:Bool),b=a.isNone->∀j d,[DV.p (.z b)][j]?=some d->bj w (Own y r H) r H nx d (l.getD j undef):=by
   intro b u j d C;cases j with
   |zero=>
    simp only[List.getElem?_cons_zero,aw]at C;subst C;rw[u,z];exact .p _ _ (.z a c)
   |succ j=>simp at C
  cases J:a.isNone with
  |false=>exact M.2 B F y r w l m n (I false J.symm)
  |true=>
   refine(E.2 B F y r w l m n (I true J.symm)).mono ?_;rintro e X ⟨x,rfl,N,O,Q,R,S⟩;refine⟨x,rfl,?_⟩;have T:∃q,x=.slice q 0 0:=by
    cases S with|p _ _ A=>
     cases A with
     |none _ q c h=>exact⟨q,by rw[h rfl]⟩
     |slice _ _ _ _ _ _ _ _ _ _ k=>simp at k
   obtain⟨q,rfl⟩:=T;obtain⟨D,U,k2,V,W⟩:=B5 O zero.length q;exact⟨D,U,Q.trans k2,R.trans V,W⟩
def Kk{P:Program}(d:P.follows .mixedOrders=true){f:FuncId}{e:Nat}{a:List PV}{bytes:Nat}(g:fP P f (kq e a bytes)=true){b:Bool}{c:List (List PV)}
  (i:bV a.length c=true)(j:c.length*bytes<=ak)(l:c.length<=ak):sn P f [.slice b c] (.slice false c):=by
 refine iJ.pure (v:=.ref 0 c.length 0 c.length) (h:=[(0,.row false a.length c)]) (k:=1) ?_ ?_
 .exact F8 d g (full:=b) (H:=[]) (nx:=0) i j l
 .simp[bE,dep,ah]
def aI.or(a b:aI):aI where
 pure:=λf args=>match a.pure f args with
  |some r=>some r
  |none=>b.pure f args
 de:=λf args H nx=>match a.de f args H nx with
  |some r=>some r
  |none=>b.de f args H nx
def bS.or{P:Program}{a b:aI}(d:bS P a)(e:bS P b):bS P (a.or b):=by
 refine⟨λf args r h=>?_,λf args H g r i j h=>?_,λf args H g r i h=>(by cases h)⟩
 .simp only[aI.or]at h;cases c:a.pure f args with
  |none=>rw[c]at h;exact e.pure _ _ _ h
  |some q=>rw[c]at h;cases h;exact d.pure _ _ _ c
 .simp only[aI.or]at h;cases c:a.de f args H g with
  |none=>rw[c]at h;exact e.de _ _ _ _ _ _ _ h
  |some q=>rw[c]at h;cases h;exact d.de _ _ _ _ _ _ _ c
end Go.Dv
namespace Go.Dv.Tryz
section
open Go Go.Shelf Go.Proofs
def HK:Ren:=⟨fun|106=>98|213=>124|265=>153|n=>n,fun|9=>9|3=>3|n=>n,fun|n=>n⟩
theorem UX:Lays.n106 Proofs.Tryz.prog HK:={
 mixed:=by kernel_rfl,
 f106:=Proofs.Tryz.func98.trans (congrArg some (by kernel_rfl)),
 f213:=Proofs.Tryz.func124.trans (congrArg some (by kernel_rfl)),
 f265:=Proofs.Tryz.func153.trans (congrArg some (by kernel_rfl)),
 t3:=Proofs.Tryz.underlying3,
 a3:=Proofs.Tryz.isAgg3,
 z3:=Proofs.Tryz.sizeOf3,
 v3:=Proofs.Tryz.zeroValue3,
 t9:=Proofs.Tryz.underlying9,
 a9:=Proofs.Tryz.isAgg9,
 z9:=Proofs.Tryz.sizeOf9,
 v9:=Proofs.Tryz.zeroValue9}
def HL:Ren:=⟨fun|173=>232|246=>249|283=>258|284=>259|285=>260|286=>261|129=>152|317=>266|318=>267|319=>268|320=>269|337=>271|338=>272|n=>n,fun|2=>2|3=>3|9=>9|4=>4|171=>317|0=>0|53=>221|37=>319|5=>5|173=>320|212=>325|51=>219|20=>20|213=>326|46=>183|232=>328|233=>329|n=>n,fun|17=>1|18=>2|19=>3|n=>n⟩
theorem Up:LaysM.n173 Proofs.Tryz.prog HL:={
 mixed:=by kernel_rfl,
 f129:=Proofs.Tryz.func152.trans (congrArg some (by kernel_rfl)),
 f173:=Proofs.Tryz.func232.trans (congrArg some (by kernel_rfl)),
 f246:=Proofs.Tryz.func249.trans (congrArg some (by kernel_rfl)),
 f283:=Proofs.Tryz.func258.trans (congrArg some (by kernel_rfl)),
 f284:=Proofs.Tryz.func259.trans (congrArg some (by kernel_rfl)),
 f285:=Proofs.Tryz.func260.trans (congrArg some (by kernel_rfl)),
 f286:=Proofs.Tryz.func261.trans (congrArg some (by kernel_rfl)),
 f317:=Proofs.Tryz.func266.trans (congrArg some (by kernel_rfl)),
 f318:=Proofs.Tryz.func267.trans (congrArg some (by kernel_rfl)),
 f319:=Proofs.Tryz.func268.trans (congrArg some (by kernel_rfl)),
 f320:=Proofs.Tryz.func269.trans (congrArg some (by kernel_rfl)),
 f337:=Proofs.Tryz.func271.trans (congrArg some (by kernel_rfl)),
 f338:=Proofs.Tryz.func272.trans (congrArg some (by kernel_rfl)),
 t0:=Proofs.Tryz.underlying0,
 a0:=Proofs.Tryz.isAgg0,
 z0:=Proofs.Tryz.sizeOf0,
 v0:=Proofs.Tryz.zeroValue0,
 t2:=Proofs.Tryz.underlying2,
 a2:=Proofs.Tryz.isAgg2,
 z2:=Proofs.Tryz.sizeOf2,
 v2:=Proofs.Tryz.zeroValue2,
 t3:=Proofs.Tryz.underlying3,
 a3:=Proofs.Tryz.isAgg3,
 z3:=Proofs.Tryz.sizeOf3,
 v3:=Proofs.Tryz.zeroValue3,
 t4:=Proofs.Tryz.underlying4,
 a4:=Proofs.Tryz.isAgg4,
 z4:=Proofs.Tryz.sizeOf4,
 v4:=Proofs.Tryz.zeroValue4,
 t5:=Proofs.Tryz.underlying5,
 a5:=Proofs.Tryz.isAgg5,
 z5:=Proofs.Tryz.sizeOf5,
 v5:=Proofs.Tryz.zeroValue5,
 t9:=Proofs.Tryz.underlying9,
 a9:=Proofs.Tryz.isAgg9,
 z9:=Proofs.Tryz.sizeOf9,
 v9:=Proofs.Tryz.zeroValue9,
 t20:=Proofs.Tryz.underlying20,
 a20:=Proofs.Tryz.isAgg20,
 z20:=Proofs.Tryz.sizeOf20,
 v20:=Proofs.Tryz.zeroValue20,
 t37:=Proofs.Tryz.underlying319,
 a37:=Proofs.Tryz.isAgg319,
 z37:=Proofs.Tryz.sizeOf319,
 v37:=Proofs.Tryz.zeroValue319,
 t46:=Proofs.Tryz.underlying183,
 a46:=Proofs.Tryz.isAgg183,
 z46:=Proofs.Tryz.sizeOf183,
 v46:=Proofs.Tryz.zeroValue183,
 t51:=Proofs.Tryz.underlying219,
 a51:=Proofs.Tryz.isAgg219,
 z51:=Proofs.Tryz.sizeOf219,
 v51:=Proofs.Tryz.zeroValue219,
 t53:=Proofs.Tryz.underlying221,
 a53:=Proofs.Tryz.isAgg221,
 z53:=Proofs.Tryz.sizeOf221,
 v53:=Proofs.Tryz.zeroValue221,
 t171:=Proofs.Tryz.underlying317,
 a171:=Proofs.Tryz.isAgg317,
 z171:=Proofs.Tryz.sizeOf317,
 v171:=Proofs.Tryz.zeroValue317,
 t173:=Proofs.Tryz.underlying320,
 a173:=Proofs.Tryz.isAgg320,
 z173:=Proofs.Tryz.sizeOf320,
 v173:=Proofs.Tryz.zeroValue320,
 t212:=Proofs.Tryz.underlying325,
 a212:=Proofs.Tryz.isAgg325,
 z212:=Proofs.Tryz.sizeOf325,
 v212:=Proofs.Tryz.zeroValue325,
 t213:=Proofs.Tryz.underlying326,
 a213:=Proofs.Tryz.isAgg326,
 z213:=Proofs.Tryz.sizeOf326,
 t232:=Proofs.Tryz.underlying328,
 a232:=Proofs.Tryz.isAgg328,
 z232:=Proofs.Tryz.sizeOf328,
 v232:=Proofs.Tryz.zeroValue328,
 t233:=Proofs.Tryz.underlying329,
 a233:=Proofs.Tryz.isAgg329,
 z233:=Proofs.Tryz.sizeOf329,
 v233:=Proofs.Tryz.zeroValue329,
 g17:=by kernel_rfl,
 g18:=by kernel_rfl,
 g19:=by kernel_rfl,
 i0:=by kernel_rfl,
 i2:=by kernel_rfl,
 i3:=by kernel_rfl,
 i4:=by kernel_rfl,
 i5:=by kernel_rfl,
 i9:=by kernel_rfl,
 i20:=by kernel_rfl,
 i37:=by kernel_rfl,
 i46:=by kernel_rfl,
 i51:=by kernel_rfl,
 i53:=by kernel_rfl,
 i171:=by kernel_rfl,
 i173:=by kernel_rfl,
 i212:=by kernel_rfl,
 i232:=by kernel_rfl,
 i233:=by kernel_rfl,
 m17:=by kernel_rfl,
 m18:=by kernel_rfl,
 m19:=by kernel_rfl}
def HZ:Ren:=⟨fun|189=>92|125=>120|257=>119|128=>151|129=>152|294=>142|295=>143|296=>144|297=>145|298=>146|299=>147|216=>148|300=>149|301=>150|328=>178|329=>179|330=>180|331=>181|332=>182|215=>183|343=>217|n=>n,fun|28=>25|3=>3|46=>183|0=>0|51=>219|53=>221|4=>4|183=>212|182=>211|131=>138|5=>5|9=>9|218=>248|222=>252|228=>279|229=>280|n=>n,fun|n=>n⟩
theorem QY:Lays.n189 Proofs.Tryz.prog HZ:={
 mixed:=by kernel_rfl,
 f125:=Proofs.Tryz.func120.trans (congrArg some (by kernel_rfl)),
 f128:=Proofs.Tryz.func151.trans (congrArg some (by kernel_rfl)),
 f129:=Proofs.Tryz.func152.trans (congrArg some (by kernel_rfl)),
 f189:=Proofs.Tryz.func92.trans (congrArg some (by kernel_rfl)),
 f215:=Proofs.Tryz.func183.trans (congrArg some (by kernel_rfl)),
 f216:=Proofs.Tryz.func148.trans (congrArg some (by kernel_rfl)),
 f257:=Proofs.Tryz.func119.trans (congrArg some (by kernel_rfl)),
 f294:=Proofs.Tryz.func142.trans (congrArg some (by kernel_rfl)),
 f295:=Proofs.Tryz.func143.trans (congrArg some (by kernel_rfl)),
 f296:=Proofs.Tryz.func144.trans (congrArg some (by kernel_rfl)),
 f297:=Proofs.Tryz.func145.trans (congrArg some (by kernel_rfl)),
 f298:=Proofs.Tryz.func146.trans (congrArg some (by kernel_rfl)),
 f299:=Proofs.Tryz.func147.trans (congrArg some (by kernel_rfl)),
 f300:=Proofs.Tryz.func149.trans (congrArg some (by kernel_rfl)),
 f301:=Proofs.Tryz.func150.trans (congrArg some (by kernel_rfl)),
 f328:=Proofs.Tryz.func178.trans (congrArg some (by kernel_rfl)),
 f329:=Proofs.Tryz.func179.trans (congrArg some (by kernel_rfl)),
 f330:=Proofs.Tryz.func180.trans (congrArg some (by kernel_rfl)),
 f331:=Proofs.Tryz.func181.trans (congrArg some (by kernel_rfl)),
 f332:=Proofs.Tryz.func182.trans (congrArg some (by kernel_rfl)),
 f343:=Proofs.Tryz.func217.trans (congrArg some (by kernel_rfl)),
 t0:=Proofs.Tryz.underlying0,
 a0:=Proofs.Tryz.isAgg0,
 z0:=Proofs.Tryz.sizeOf0,
 v0:=Proofs.Tryz.zeroValue0,
 t3:=Proofs.Tryz.underlying3,
 a3:=Proofs.Tryz.isAgg3,
 z3:=Proofs.Tryz.sizeOf3,
 v3:=Proofs.Tryz.zeroValue3,
 t4:=Proofs.Tryz.underlying4,
 a4:=Proofs.Tryz.isAgg4,
 z4:=Proofs.Tryz.sizeOf4,
 v4:=Proofs.Tryz.zeroValue4,
 t5:=Proofs.Tryz.underlying5,
 a5:=Proofs.Tryz.isAgg5,
 z5:=Proofs.Tryz.sizeOf5,
 v5:=Proofs.Tryz.zeroValue5,
 t9:=Proofs.Tryz.underlying9,
 a9:=Proofs.Tryz.isAgg9,
 z9:=Proofs.Tryz.sizeOf9,
 v9:=Proofs.Tryz.zeroValue9,
 t28:=Proofs.Tryz.underlying25,
 a28:=Proofs.Tryz.isAgg25,
 z28:=Proofs.Tryz.sizeOf25,
 v28:=Proofs.Tryz.zeroValue25,
 t46:=Proofs.Tryz.underlying183,
 a46:=Proofs.Tryz.isAgg183,
 z46:=Proofs.Tryz.sizeOf183,
 v46:=Proofs.Tryz.zeroValue183,
 t51:=Proofs.Tryz.underlying219,
 a51:=Proofs.Tryz.isAgg219,
 z51:=Proofs.Tryz.sizeOf219,
 v51:=Proofs.Tryz.zeroValue219,
 t53:=Proofs.Tryz.underlying221,
 a53:=Proofs.Tryz.isAgg221,
 z53:=Proofs.Tryz.sizeOf221,
 v53:=Proofs.Tryz.zeroValue221,
 t131:=Proofs.Tryz.underlying138,
 a131:=Proofs.Tryz.isAgg138,
 z131:=Proofs.Tryz.sizeOf138,
 v131:=Proofs.Tryz.zeroValue138,
 t182:=Proofs.Tryz.underlying211,
 a182:=Proofs.Tryz.isAgg211,
 z182:=Proofs.Tryz.sizeOf211,
 v182:=Proofs.Tryz.zeroValue211,
 t183:=Proofs.Tryz.underlying212,
 a183:=Proofs.Tryz.isAgg212,
 z183:=Proofs.Tryz.sizeOf212,
 v183:=Proofs.Tryz.zeroValue212,
 t218:=Proofs.Tryz.underlying248,
 a218:=Proofs.Tryz.isAgg248,
 z218:=Proofs.Tryz.sizeOf248,
 v218:=Proofs.Tryz.zeroValue248,
 t222:=Proofs.Tryz.underlying252,
 a222:=Proofs.Tryz.isAgg252,
 z222:=Proofs.Tryz.sizeOf252,
 v222:=Proofs.Tryz.zeroValue252,
 t228:=Proofs.Tryz.underlying279,
 a228:=Proofs.Tryz.isAgg279,
 z228:=Proofs.Tryz.sizeOf279,
 v228:=Proofs.Tryz.zeroValue279,
 t229:=Proofs.Tryz.underlying280,
 a229:=Proofs.Tryz.isAgg280,
 z229:=Proofs.Tryz.sizeOf280,
 v229:=Proofs.Tryz.zeroValue280}
def HP:Ren:=⟨fun|190=>128|125=>120|258=>161|128=>151|129=>152|302=>187|303=>188|304=>189|305=>190|306=>191|307=>192|308=>125|309=>193|310=>194|333=>219|329=>179|330=>180|334=>220|335=>221|336=>154|344=>243|n=>n,fun|31=>42|9=>9|3=>3|46=>183|0=>0|51=>219|53=>221|4=>4|183=>212|182=>211|131=>138|5=>5|218=>248|222=>252|228=>279|229=>280|n=>n,fun|n=>n⟩
theorem UL:Lays.n190 Proofs.Tryz.prog HP:={
 mixed:=by kernel_rfl,
 f125:=Proofs.Tryz.func120.trans (congrArg some (by kernel_rfl)),
 f128:=Proofs.Tryz.func151.trans (congrArg some (by kernel_rfl)),
 f129:=Proofs.Tryz.func152.trans (congrArg some (by kernel_rfl)),
 f190:=Proofs.Tryz.func128.trans (congrArg some (by kernel_rfl)),
 f258:=Proofs.Tryz.func161.trans (congrArg some (by kernel_rfl)),
 f302:=Proofs.Tryz.func187.trans (congrArg some (by kernel_rfl)),
 f303:=Proofs.Tryz.func188.trans (congrArg some (by kernel_rfl)),
 f304:=Proofs.Tryz.func189.trans (congrArg some (by kernel_rfl)),
 f305:=Proofs.Tryz.func190.trans (congrArg some (by kernel_rfl)),
 f306:=Proofs.Tryz.func191.trans (congrArg some (by kernel_rfl)),
 f307:=Proofs.Tryz.func192.trans (congrArg some (by kernel_rfl)),
 f308:=Proofs.Tryz.func125.trans (congrArg some (by kernel_rfl)),
 f309:=Proofs.Tryz.func193.trans (congrArg some (by kernel_rfl)),
 f310:=Proofs.Tryz.func194.trans (congrArg some (by kernel_rfl)),
 f329:=Proofs.Tryz.func179.trans (congrArg some (by kernel_rfl)),
 f330:=Proofs.Tryz.func180.trans (congrArg some (by kernel_rfl)),
 f333:=Proofs.Tryz.func219.trans (congrArg some (by kernel_rfl)),
 f334:=Proofs.Tryz.func220.trans (congrArg some (by kernel_rfl)),
 f335:=Proofs.Tryz.func221.trans (congrArg some (by kernel_rfl)),
 f336:=Proofs.Tryz.func154.trans (congrArg some (by kernel_rfl)),
 f344:=Proofs.Tryz.func243.trans (congrArg some (by kernel_rfl)),
 t0:=Proofs.Tryz.underlying0,
 a0:=Proofs.Tryz.isAgg0,
 z0:=Proofs.Tryz.sizeOf0,
 v0:=Proofs.Tryz.zeroValue0,
 t3:=Proofs.Tryz.underlying3,
 a3:=Proofs.Tryz.isAgg3,
 z3:=Proofs.Tryz.sizeOf3,
 v3:=Proofs.Tryz.zeroValue3,
 t4:=Proofs.Tryz.underlying4,
 a4:=Proofs.Tryz.isAgg4,
 z4:=Proofs.Tryz.sizeOf4,
 v4:=Proofs.Tryz.zeroValue4,
 t5:=Proofs.Tryz.underlying5,
 a5:=Proofs.Tryz.isAgg5,
 z5:=Proofs.Tryz.sizeOf5,
 v5:=Proofs.Tryz.zeroValue5,
 t9:=Proofs.Tryz.underlying9,
 a9:=Proofs.Tryz.isAgg9,
 z9:=Proofs.Tryz.sizeOf9,
 v9:=Proofs.Tryz.zeroValue9,
 t31:=Proofs.Tryz.underlying42,
 a31:=Proofs.Tryz.isAgg42,
 z31:=Proofs.Tryz.sizeOf42,
 v31:=Proofs.Tryz.zeroValue42,
 t46:=Proofs.Tryz.underlying183,
 a46:=Proofs.Tryz.isAgg183,
 z46:=Proofs.Tryz.sizeOf183,
 v46:=Proofs.Tryz.zeroValue183,
 t51:=Proofs.Tryz.underlying219,
 a51:=Proofs.Tryz.isAgg219,
 z51:=Proofs.Tryz.sizeOf219,
 v51:=Proofs.Tryz.zeroValue219,
 t53:=Proofs.Tryz.underlying221,
 a53:=Proofs.Tryz.isAgg221,
 z53:=Proofs.Tryz.sizeOf221,
 v53:=Proofs.Tryz.zeroValue221,
 t131:=Proofs.Tryz.underlying138,
 a131:=Proofs.Tryz.isAgg138,
 z131:=Proofs.Tryz.sizeOf138,
 v131:=Proofs.Tryz.zeroValue138,
 t182:=Proofs.Tryz.underlying211,
 a182:=Proofs.Tryz.isAgg211,
 z182:=Proofs.Tryz.sizeOf211,
 v182:=Proofs.Tryz.zeroValue211,
 t183:=Proofs.Tryz.underlying212,
 a183:=Proofs.Tryz.isAgg212,
 z183:=Proofs.Tryz.sizeOf212,
 v183:=Proofs.Tryz.zeroValue212,
 t218:=Proofs.Tryz.underlying248,
 a218:=Proofs.Tryz.isAgg248,
 z218:=Proofs.Tryz.sizeOf248,
 v218:=Proofs.Tryz.zeroValue248,
 t222:=Proofs.Tryz.underlying252,
 a222:=Proofs.Tryz.isAgg252,
 z222:=Proofs.Tryz.sizeOf252,
 v222:=Proofs.Tryz.zeroValue252,
 t228:=Proofs.Tryz.underlying279,
 a228:=Proofs.Tryz.isAgg279,
 z228:=Proofs.Tryz.sizeOf279,
 v228:=Proofs.Tryz.zeroValue279,
 t229:=Proofs.Tryz.underlying280,
 a229:=Proofs.Tryz.isAgg280,
 z229:=Proofs.Tryz.sizeOf280,
 v229:=Proofs.Tryz.zeroValue280}
end
end Go.Dv.Tryz
namespace Go.Dv
def Mj(n:Nat):bV n []=true:=rfl
attribute [go_sem] DD tt tr mJ jL FG Fe NY Xm wH D9 canon List.filterMap_cons List.filterMap_nil Xn Xt gd jt bg ah St.ev St.yE cT oe dz fi aH jy gn eP pA iG di sT qZ S2 wm Ng DK BF iM uQ KX jb OJ jD iX re BD xJ o0 eU Lw cL tG az below ca.below cY ml ca.freeze eR bE dep kd List.map List.all List.any List.filterMap List.length List.append List.flatMap List.flatten dR putAt DV.cells PV.cellsOf DV.iz PV.iz PV.plain aQ rR aj fy cl sN Option.getD List.replicate beq_self_eq_true bne_self_eq_false Bool.false_eq_true Bool.and_true Bool.true_and Bool.and_false Bool.false_and Bool.or_true Bool.true_or Bool.or_false Bool.false_or decide_true decide_false Nat.max_self Nat.zero_le Int.toNat_natCast Nat.le_refl List.getElem?_cons_zero List.getElem?_cons_succ B3 Bq Bool.not_true Bool.not_false Bool.not_not and_self and_true true_and not_false_eq_true not_true_eq_false List.cons_append List.nil_append List.append_nil List.drop_succ_cons List.drop_zero List.take_succ_cons List.take_zero List.length_cons List.length_nil gt_iff_lt ge_iff_le Int.toNat_zero Go.IntWalk.i64_in Jl Option.map_some Option.map_none Nat.zero_add List.isEmpty_nil List.isEmpty_cons Int.le_refl Int.lt_irrefl Nat.lt_irrefl Nat.max_def List.not_mem_nil Mj tV Gc FJ IP MV.pv SC.pv fF oC jR lR
section
def dN.mV:dN->Bool
 | .call _ _ _| .eu _ _ _| .jZ _ _=>true
 |_=>false
def dN.isRef:dN->Bool
 | .call b _ _| .eu b _ _=>b
 | .jZ _ _=>true
 |_=>false
def GD{s:St}{d:dN}(h:d.mV=false):jt s d=none:=by
 cases d<;>simp_all [dN.mV,jt]
def Ip{d:dN}(h:d.mV=false):C1 d=none:=by
 cases d<;>simp_all [dN.mV,C1]
def RK(K:Ex->St->Prop)(a:List Nat)(s:St):Prop:=K .normal {s with env:=cT s.env a}
def Vf(T:dk)(K:Ex->St->Prop)(a:List (Nat×Nat))(b:List ai)(f d:List Nat)(s:St)(r:List (List Nat))(g:St):Prop:=jg a b g.env=true/\mY (canon s.next f g) λe=>DD T b a f s e r/\K .normal {e with env:=cT e.env d}
def Wc(K:Ex->St->Prop)(a:List (Nat×Nat))(d:List ai)(b:List Nat)(s:St):Prop:=jg a d s.env=true/\K .normal {s with env:=cT s.env b}
def KK(T:dk)(k:List Nat)(r:List (ai×List Nat))(Q:St->Prop)(s:St):Prop:=mI T r {s with env:=cT s.env k} Q
def KN(K:Ex->St->Prop)(s:St):Prop:=K .normal s
def XB(T:dk)(b:Option Bool)(x y:aC)(s:St)(K:Ex->St->Prop):Prop:=mY b λb=>Br b (W T x s K) (W T y s K)
def XG(T:dk)(q:Option St)(c:aC)(K:Ex->St->Prop):Prop:=mY q λs'=>W T c s' K
def XC(T:dk)(o:ai)(r:List ai)(s:St)(Q:St->Prop):Prop:=Bv T o.op s λx=>ct T r (jy s o.dst x) Q
def Lu(T:dk)(o:ai)(r:List ai)(s:St)(Q:St->Prop):Prop:=XC T o r s Q
def XE(T:dk)(b:Bool)(o:ai)(r:List ai)(s:St)(Q:St->Prop):Prop:=XC T o r s Q
def XO(T:dk)(q:Option (DV×Heap×Nat))(o:ai)(r:List ai)(s:St)(Q:St->Prop):Prop:=mY q λx=>ct T r (jy s o.dst x) Q
def XD(T:dk)(b:Bool)(o:ai)(r:List ai)(s:St)(Q:St->Prop):Prop:=
 match b with
 |true=>XE T o.op.isRef o r s Q
 |false=>XO T (bg lD o.op s) o r s Q
def XQ(T:dk)(b:Option Bool)(o:ai)(r:List ai)(s:St)(Q:St->Prop):Prop:=
 mY b λb=>Br b (XD T o.op.mV o r s Q) (ct T r {s with env:=dz s.env o.dst (.tuple [])} Q)
def XR(q:Option DV)(R:DV->St->Prop)(s:St):Prop:=mY q λv=>R v s
section
variable{T:dk}{s s':St}{K:Ex->St->Prop}{o:ai}{r:List ai}{Q:St->Prop}{x y c:aC}{R:DV->St->Prop}
def IX:XB T (some true) x y s K=W T x s K:=by unfold XB;rw[kX,tk]
def F9:XB T (some false) x y s K=W T y s K:=by unfold XB;rw[kX,uy]
def KW:XG T (some s) c K=W T c s K:=by unfold XG;rw[kX]
def SH{q:DV×Heap×Nat}:XO T (some q) o r s Q=ct T r (jy s o.dst q) Q:=by unfold XO;rw[kX]
def UU:XD T true o r s Q=XE T o.op.isRef o r s Q:=cN rfl rfl
def Te:XE T true o r s Q=Lu T o r s Q:=cN rfl rfl
def OS:XE T false o r s Q=XC T o r s Q:=cN rfl rfl
def Fg:XD T false o r s Q=XO T (bg lD o.op s) o r s Q:=cN rfl rfl
def IV:XQ T (some true) o r s Q=XD T o.op.mV o r s Q:=by unfold XQ;rw[kX,tk]
def Fp:XQ T (some false) o r s Q=ct T r {s with env:=dz s.env o.dst (.tuple [])} Q:=by unfold XQ;rw[kX,uy]
def U6{v:DV}:XR (some v) R s=R v s:=by unfold XR;rw[kX]
def EB{b:Bool}(a:b=true->W T x s K)(d:b=false->W T y s K):XB T (some b) x y s K:=by
 cases b
 .rw[F9];exact d rfl
 .rw[IX];exact a rfl
def Du{b:Bool}(a:b=true->XD T o.op.mV o r s Q)(d:b=false->ct T r {s with env:=dz s.env o.dst (.tuple [])} Q):XQ T (some b) o r s Q:=by
 cases b
 .rw[Fp];exact d rfl
 .rw[IV];exact a rfl
def XU{a:List Nat}:ct T [] s (RK K a)=K .normal {s with env:=cT s.env a}:=by
 unfold ct RK;exact cN rfl rfl
def WH{e:Env}{h:Heap}{n:Nat}{m:List Nat}:ct T (o::r) ⟨e,h,n,m⟩ Q=XQ T (gd o.guard e) o r ⟨e,h,n,m⟩ Q:=by
 have h:ct T (o::r) ⟨e,h,n,m⟩ Q=mY (gd o.guard e) λb=>Br b (Bv T o.op ⟨e,h,n,m⟩ λx=>ct T r (jy ⟨e,h,n,m⟩ o.dst x) Q) (ct T r {env:=dz e o.dst (.tuple []),heap:=h,next:=n,marks:=m} Q):=by
  conv=>lhs;unfold ct
 rw[h];unfold XQ;have d:∀s:St,XD T o.op.mV o r s Q=Bv T o.op s λx=>ct T r (jy s o.dst x) Q:=by
  intro s;cases a:o.op.mV with
  |true=>rfl
  |false=>rw[Fg];unfold Bv XO;rw[GD a,Ip a]
 rw[d]
def Qs{d:Bool}{b:List ai}{a:List Nat}:W T (.region d b a) s K=ct T b s (RK K a):=by
 rw[OQ];rfl
def Wi{a:List (Nat×Nat)}{d:List ai}{b:List Nat}:ct T [] s (Wc K a d b)=(jg a d s.env=true/\K .normal {s with env:=cT s.env b}):=by
 unfold ct Wc;exact cN rfl rfl
def Lk{a:List (Nat×Nat)}{d:List ai}{b:List Nat}:W T (.iI a d b) s K=ct T d s (Wc K a d b):=by
 conv=>lhs;unfold W
 rfl
def Nc{a:List (Nat×Nat)}{f:List Nat}{l:List Nat}{r:List (List Nat)}{d:List ai}{e b:List Nat}:W T (.ob a f (l::r) d e b) s K=ct T (tt d l) s (Vf T K a d e b s r):=by
 conv=>lhs;unfold W
 rfl
def Ww{a:List (Nat×Nat)}{d:List ai}{e b:List Nat}{f:St}{r:List (List Nat)}:ct T [] s (Vf T K a d e b f r)=(jg a d s.env=true/\mY (canon f.next e s) λg=>DD T d a e f g r/\K .normal {g with env:=cT g.env b}):=by
 unfold ct Vf;exact cN rfl rfl
def WV{a:List (Nat×Nat)}{b:List ai}{d:List Nat}{n:Nat}{e:St}:ct T [] s (Yd a b d n e)=(jg a b s.env=true/\canon n d s=some e):=by
 unfold ct Yd;exact cN rfl rfl
def Ni{d:Bool}{a:List (ai×List Nat)}:W T (.aT d a) s K=mI T a s (KN K):=by
 conv=>lhs;unfold W
 rfl
def Sf{k:List Nat}{r:List (ai×List Nat)}:mI T ((o,k)::r) s Q=ct T [o] s (KK T k r Q):=by
 conv=>lhs;unfold mI
 rfl
def Vw{k:List Nat}{r:List (ai×List Nat)}:ct T [] s (KK T k r Q)=mI T r {s with env:=cT s.env k} Q:=by
 unfold ct KK;exact cN rfl rfl
def VP:mI T [] s (KN K)=K .normal s:=by
 unfold mI KN;exact cN rfl rfl
def VQ{c:DO}:W T (.cond c x y) s K=XB T (s.yE c) x y s K:=by rw[Wg];rfl
def Ib{g:DJ}:W T (.ghost g c) s K=XG T (eU g s) c K:=by rw[UP];rfl
def RW{l:List Nat}:W T (.after c l) s K=W T c s (SK T (.ghost (.free l) .skip) K):=cN RH rfl
def Xi{a:List gm}:ic a R .ret s=XR (fy s a) R s:=by rw[O1];rfl
def TE{a:List gm}:ic a R .normal s=XR (fy s a) R s:=by rw[GK];rfl
def Wx:W T .skip s K=K .normal s:=cN Vx rfl
def Yr:W T .ret s K=K .ret s:=cN Y8 rfl
def Vq{i:Nat}:W T (.exit i) s K=K (.exit i) s:=cN Wz rfl
def YM:W T (.seq x y) s K=W T x s (SK T y K):=cN X2 rfl
def yM{i:Nat}:W T (.block i x) s K=W T x s (BK i K):=cN Tc rfl
def aav:SK T c K .normal s=W T c s K:=cN L5 rfl
def Ya{i:Nat}:SK T c K (.exit i) s=K (.exit i) s:=cN RQ rfl
def Ys:SK T c K .ret s=K .ret s:=cN WS rfl
def aal{i:Nat}:BK i K .normal s=K .normal s:=cN Nh rfl
def YU{i j:Nat}:BK i K (.exit j) s=if j=i then K .normal s else K (.exit j) s:=cN Se rfl
def X0{i:Nat}:BK i K .ret s=K .ret s:=cN VH rfl
def X1{i:Nat}:LK T c K (.exit i) s=K (.exit i) s:=cN Uj rfl
def XW:LK T c K .ret s=K .ret s:=cN Vd rfl
def Xj{f:FuncId}{l:List DV}{a:List PV}{v:PV}{H:Heap}(b:jt s o.op=some (false,some (f,l)))(d:cl (bE s.heap dep) l=some a)(e:PS T f a v)
  (g:(if v.plain then s.heap else cY s.heap (l.flatMap (eR s.heap dep)))=H)(i:jy s o.dst (aQ v,H,s.next)=s')(h:ct T r s' Q):XC T o r s Q:=by
 subst i;subst g;unfold XC;simp only[Bv,b,tU,d,kX];exact⟨v,e,h⟩
def RI{f:FuncId}{l:List DV}{v:DV}{H:Heap}{n:Nat}(a:jt s o.op=some (true,some (f,l)))(b:BS T f l s.heap s.next v H n)
  (d:jy s o.dst (v,H,n)=s')(h:ct T r s' Q):Lu T o r s Q:=by
 subst d;unfold Lu XC;simp only[Bv,a,tU];exact⟨v,H,n,b,h⟩
end
def Ev{d:Type}(a b:d):Prop:=a=b
def Ev.mk{b:Type}{a:b}:Ev a a:=rfl
def Ev.of{d:Type}{a b:d}(h:a=b):Ev a b:=h
@[congr] theorem ZP {e:Type} {a d b:e} (h:a=d):Ev a b=Ev d b:=by rw[h]
def KF(T:dk)(x:aC)(K:Ex->St->Prop)(s:St):Prop:=W T x s K
def KP(T:dk)(k:List Nat)(r:List (ai×List Nat))(K:Ex->St->Prop)(s:St):Prop:=iH T r {s with env:=cT s.env k} K
def XP(T:dk)(b:Bool)(o:ai)(k:List Nat)(r:List (ai×List Nat))(s:St)(K:Ex->St->Prop):Prop:=iH T ((o,k)::r) s K
def Mg(T:dk)(o:ai)(k:List Nat)(r:List (ai×List Nat))(s:St)(K:Ex->St->Prop):Prop:=iH T ((o,k)::r) s K
def KD(K:Ex->St->Prop)(x:DO)(s:St):Prop:=∃t v,s.ev x=some (.p (.iface t v))/\K (.panic (.iface t v)) {s with env:=[]}
def XV(K:Ex->St->Prop)(q:Option DV)(s:St):Prop:=∃t v,q=some (.p (.iface t v))/\K (.panic (.iface t v)) {s with env:=[]}
def KC(T:dk)(pre:List ai)(a:ai)(post:List ai)(b:List Nat)(e:St)(K:Ex->St->Prop)(s:St):Prop:=
 (ct T [a] s λd=>ct T pre {e with heap:=d.heap,next:=d.next} λg=>g.env=s.env/\ct T post d λf=>K .normal {f with env:=cT f.env b})\/
  NQ T a s λv H=>K (.panic v) {e with env:=[],heap:=H}
def HM(T:dk)(pre:List ai)(a:ai)(post:List ai)(b:List Nat)(d:St)(s:St)(K:Ex->St->Prop):Prop:=KC T pre a post b d K s
section
variable{T:dk}{s s':St}{K:Ex->St->Prop}{o:ai}{Q:St->Prop}{x y z c:aC}{R:DV->St->Prop}
def L2{a:List (ai×List Nat)}:W T (.aS a) s K=iH T a s K:=cN M5 rfl
def VU:iH T [] s K=K .normal s:=cN MJ rfl
def TJ{k:List Nat}{r:List (ai×List Nat)}:iH T ((o,k)::r) s K=XP T o.op.isRef o k r s K:=rfl
def Ra{k:List Nat}{r:List (ai×List Nat)}:XP T true o k r s K=Mg T o k r s K:=rfl
def xY{k:List Nat}{r:List (ai×List Nat)}(h:ct T [o] s (KP T k r K)):XP T false o k r s K:=HQ h
def W8{k:List Nat}{r:List (ai×List Nat)}:ct T [] s (KP T k r K)=iH T r {s with env:=cT s.env k} K:=by
 unfold ct KP;exact cN rfl rfl
def cB{k:List Nat}{r:List (ai×List Nat)}{f:FuncId}{l:List DV}{v:DV}{H:Heap}{n:Nat}(a:Ev (gd o.guard s.env) (some true))(b:Ev (jt s o.op) (some (true,some (f,l))))(e:BS T f l s.heap s.next v H n)
  (d:Ev (jy s o.dst (v,H,n)) s')(h:iH T r {s' with env:=cT s'.env k} K):Mg T o k r s K:=by
 unfold Ev at a b d;exact HQ (Ct a b e d (by unfold ct;exact h))
def Rm{k:List Nat}{r:List (ai×List Nat)}{f:FuncId}{l:List DV}{q:(DV×Heap×Nat)⊕(PV×Heap)}(a:Ev (oC s o) (some (f,l)))(b:CS T f l s.heap s.next q)
  (d:∀x,q=.inl x->iH T r {jy s o.dst x with env:=cT (jy s o.dst x).env k} K)(e:∀v H,q=.inr (v,H)->K (.panic v) {s with env:=[],heap:=H}):Mg T o k r s K:=by
 unfold Ev at a;exact Vc a b d e
def QW{b:List ai}{a:DO}:W T (.panic b a) s K=ct T b s (KD K a):=cN Ri rfl
def aab{a:DO}:ct T [] s (KD K a)=XV K (s.ev a) s:=by
 unfold ct KD XV;exact cN rfl rfl
def aaB{t:Nat}{v:PV}:XV K (some (.p (.iface t v))) s=K (.panic (.iface t v)) {s with env:=[]}:=by
 unfold XV;apply propext;constructor
 .rintro⟨a,b,e,h⟩;cases e;exact h
 .exact λh=>⟨t,v,rfl,h⟩
def Eb{a:Type}:∀l:List Nat,cT ([]:List (Nat×a)) l=[]
 |[]=>rfl
 |i::r=>Eb r
def M8{pre:List ai}{a:ai}{post:List ai}{b:List Nat}:W T (.j2 pre a post b) s K=ct T pre s (KC T pre a post b s K):=by
 rw[Lf];unfold BO KC;simp only[Eb]
def Vs{pre:List ai}{a:ai}{post:List ai}{b:List Nat}{d:St}:ct T [] s (KC T pre a post b d K)=HM T pre a post b d s K:=by
 unfold ct HM;exact cN rfl rfl
def KR(T:dk)(s b:St)(post:List ai)(a:List Nat)(K:Ex->St->Prop)(d:St):Prop:=d.env=s.env/\ct T post b (RK K a)
def Wq{b:St}{post:List ai}{a:List Nat}{d:St}:ct T [] d (KR T s b post a K)=(d.env=s.env/\ct T post b (RK K a)):=by
 conv=>lhs;unfold ct
 unfold KR;rfl
def K4{pre:List ai}{a:ai}{post:List ai}{d:List Nat}{g:St}{f:FuncId}{l:List DV}{q:(DV×Heap×Nat)⊕(PV×Heap)}(b:Ev (oC s a) (some (f,l)))(i:CS T f l s.heap s.next q)
  (k:∀x,q=.inl x->ct T pre {g with heap:=x.2.1,next:=x.2.2} (KR T s (jy s a.dst x) post d K))(m:∀v H,q=.inr (v,H)->K (.panic v) {g with env:=[],heap:=H}):HM T pre a post d g s K:=by
 unfold Ev at b;have e:gd a.guard s.env=some true/\jt s a.op=some (true,some (f,l)):=by
  unfold oC at b;split at b
  .rename_i t args e n;cases h:gn s args with
   |none=>rw[h]at b;cases b
   |some u=>
    rw[h]at b;simp only[aw,bQ]at b;obtain⟨rfl,rfl⟩:=b;exact⟨e,by simp only[n,jt,h]⟩
  .cases b
 unfold HM KC;obtain⟨r,j,p⟩|⟨v,j⟩:=q
 .left;refine Ct e.1 e.2 i rfl ?_;have:=k _ rfl;unfold ct;unfold KR RK at this;exact this
 .right;exact⟨f,l,v,j,b,i,m _ _ rfl⟩
def Wo{B:St->(Ex->St->Prop)->Prop}{a:List ai}{b:Nat}{hid:List Nat}:nb T B a b hid [] s K=K .normal s:=cN qX rfl
def BM{a:List ai}{b:Nat}{hid:List Nat}{d:DV}{r:List DV}:nb T (W T x) a b hid (d::r) s K=ct T a {s with env:=fi s.env b d,marks:=[]} (KF T x (FK T (W T x) a b hid r s.marks K)):=by
 conv=>lhs;unfold nb
 unfold KF FK;rfl
def aad{K:Ex->St->Prop}:ct T [] s (KF T x K)=W T x s K:=by
 unfold ct KF;exact cN rfl rfl
def H7{B:St->(Ex->St->Prop)->Prop}{a:List ai}{b:Nat}{hid:List Nat}{r:List DV}{d:List Nat}:FK T B a b hid r d K .normal s=nb T B a b hid r {s with env:=cT s.env hid,marks:=d} K:=by
 unfold FK;rfl
def UM{B:St->(Ex->St->Prop)->Prop}{a:List ai}{b:Nat}{hid:List Nat}{r:List DV}{d:List Nat}:FK T B a b hid r d K .ret s=K .ret {s with marks:=d}:=by
 unfold FK;rfl
def XK{B:St->(Ex->St->Prop)->Prop}{a:List ai}{b:Nat}{hid:List Nat}{r:List DV}{d:List Nat}{v:PV}:FK T B a b hid r d K (.panic v) s=K (.panic v) {s with marks:=d}:=by
 unfold FK;rfl
def Y3{v:PV}:SK T c K (.panic v) s=K (.panic v) s:=cN P4 rfl
def Y4{i:Nat}{v:PV}:BK i K (.panic v) s=K (.panic v) s:=cN Qh rfl
def XY{I:Nat->St->Prop}{m i:Nat}:LI I m K (.exit i) s=K (.exit i) s:=cN Uw rfl
def Yx{I:Nat->St->Prop}{m:Nat}:LI I m K .ret s=K .ret s:=cN Vy rfl
def XT{I:Nat->St->Prop}{m:Nat}{v:PV}:LI I m K (.panic v) s=K (.panic v) s:=cN Qt rfl
def XJ{v:PV}:LK T c K (.panic v) s=K (.panic v) s:=cN OX rfl
@[congr] theorem ZV {q a:Option DV} (h:q=a):XV K q s=XV K a s:=by rw[h]
@[congr] theorem ZX {b a:Bool} {k:List Nat} {r:List (ai×List Nat)} (h:b=a):XP T b o k r s K=XP T a o k r s K:=by rw[h]
@[congr] theorem V3 {l:List (ai×List Nat)} (h:s=s'):iH T l s K=iH T l s' K:=by rw[h]
@[congr] theorem Y7 {k:List Nat} {r:List (ai×List Nat)} (h:s=s'):Mg T o k r s K=Mg T o k r s' K:=by rw[h]
@[congr] theorem Xz {pre:List ai} {a:ai} {post:List ai} {b:List Nat} {d:St} (h:s=s'):HM T pre a post b d s K=HM T pre a post b d s' K:=by rw[h]
end
class Nb (b:Bool) (B P C N:outParam Prop):Prop where
 pos:b=true->B/\P
 neg:b=false->C/\N
instance(priority:=low) Nb.any{b:Bool}:Nb b (b=true) (b=true) (b=false) (b=false):=⟨λh=>⟨h,h⟩,λh=>⟨h,h⟩⟩
instance Nb.dec{p:Prop}[Decidable p]:Nb (decide p) (decide p=true) p (decide p=false) (¬p):=⟨λh=>⟨h,Lv h⟩,λh=>⟨h,of_decide_eq_false h⟩⟩
instance(priority:=high) Nb.decNot{p:Prop}[Decidable p]:Nb (decide (¬p)) (decide (¬p)=true) (¬p) (decide (¬p)=false) p:=⟨λh=>⟨h,Lv h⟩,λh=>⟨h,Decidable.of_not_not (of_decide_eq_false h)⟩⟩
instance Nb.beq{d:Type}[BEq d][LawfulBEq d]{a b:d}:Nb (a==b) ((a==b)=true) (a=b) ((a==b)=false) (¬a=b):=⟨λh=>⟨h,eq_of_beq h⟩,λh=>⟨h,ne_of_beq_false h⟩⟩
instance Nb.bne{d:Type}[BEq d][LawfulBEq d]{a b:d}:Nb (a !=b) ((a !=b)=true) (¬a=b) ((a !=b)=false) (a=b):=⟨λh=>⟨h,by simpa[bne]using h⟩,λh=>⟨h,by simpa[bne]using h⟩⟩
instance Nb.not{b:Bool}{B P C N:Prop}[i:Nb b B P C N]:Nb (!b) C N B P:=⟨λh=>i.neg (by simpa using h),λh=>i.pos (by simpa using h)⟩
section
variable{T:dk}{s s':St}{K:Ex->St->Prop}{o:ai}{r:List ai}{Q:St->Prop}{x y c:aC}
def b5{b:Bool}{B P C N:Prop}[i:Nb b B P C N](a:B->P->W T x s K)(d:C->N->W T y s K):XB T (some b) x y s K:=EB (λh=>a (i.pos h).1 (i.pos h).2) (λh=>d (i.neg h).1 (i.neg h).2)
def bO{b:Bool}{B P C N:Prop}[i:Nb b B P C N](a:B->P->XD T o.op.mV o r s Q)(d:C->N->ct T r {s with env:=dz s.env o.dst (.tuple [])} Q):XQ T (some b) o r s Q:=Du (λh=>a (i.pos h).1 (i.pos h).2) (λh=>d (i.neg h).1 (i.neg h).2)
def gb{f:FuncId}{l:List DV}{a:List PV}{v:PV}{H:Heap}(b:Ev (jt s o.op) (some (false,some (f,l))))(d:Ev (cl (bE s.heap dep) l) (some a))(e:PS T f a v)
 (g:Ev (if v.plain then s.heap else cY s.heap (l.flatMap (eR s.heap dep))) H)(i:Ev (jy s o.dst (aQ v,H,s.next)) s')(h:ct T r s' Q):XC T o r s Q:=Xj b d e g i h
def tY{f:FuncId}{l:List DV}{v:DV}{H:Heap}{n:Nat}(a:Ev (jt s o.op) (some (true,some (f,l))))(b:BS T f l s.heap s.next v H n)
 (d:Ev (jy s o.dst (v,H,n)) s')(h:ct T r s' Q):Lu T o r s Q:=RI a b d h
def YD{k:Nat}{x:dN}:(ai.o k x).dst=some k:=cN rfl rfl
def aas{k:Nat}{x:dN}:(ai.o k x).op=x:=cN rfl rfl
def SJ{k:Nat}{x:dN}:(ai.o k x).guard=none:=cN rfl rfl
def XL{x:dN}:(ai.u x).dst=none:=cN rfl rfl
def Z4{x:dN}:(ai.u x).op=x:=cN rfl rfl
def Uf{x:dN}:(ai.u x).guard=none:=cN rfl rfl
def Yi{k j:Nat}{b:Bool}{x:dN}{l:List Nat}:(ai.g k j b x l).dst=some k:=cN rfl rfl
def aaC{k j:Nat}{b:Bool}{x:dN}{l:List Nat}:(ai.g k j b x l).op=x:=cN rfl rfl
def QU{k j:Nat}{b:Bool}{x:dN}{l:List Nat}:(ai.g k j b x l).guard=some (j,b):=cN rfl rfl
end
section
variable{T:dk}{s s':St}{K:Ex->St->Prop}{o:ai}{r:List ai}{Q:St->Prop}{x y c:aC}{R:DV->St->Prop}
@[congr] theorem ZW {b a:Option Bool} (h:b=a):XB T b x y s K=XB T a x y s K:=by rw[h]
@[congr] theorem ZN {q a:Option St} (h:q=a):XG T q c K=XG T a c K:=by rw[h]
@[congr] theorem ZG (h:s=s'):XC T o r s Q=XC T o r s' Q:=by rw[h]
@[congr] theorem Yn (h:s=s'):Lu T o r s Q=Lu T o r s' Q:=by rw[h]
@[congr] theorem ZM {b a:Bool} (h:b=a):XE T b o r s Q=XE T a o r s Q:=by rw[h]
@[congr] theorem ZR {q a:Option (DV×Heap×Nat)} (h:q=a):XO T q o r s Q=XO T a o r s Q:=by rw[h]
@[congr] theorem ZY {b a:Bool} (h:b=a):XD T b o r s Q=XD T a o r s Q:=by rw[h]
@[congr] theorem ZE {b a:Option Bool} (h:b=a):XQ T b o r s Q=XQ T a o r s Q:=by rw[h]
@[congr] theorem ZO {q a:Option DV} (h:q=a):XR q R s=XR a R s:=by rw[h]
end
attribute [irreducible] Vf KP XP Mg KD XV KC HM KR KF RK Wc KK KN XB XG XC Lu XE XO XD XQ XR Ev
attribute [go_sem↓] Nc Ww WV XY Yx XT L2 VU TJ Ra QW M8 UM XK Y3 Y4 XJ Wx Yr Vq YM yM VQ Ib RW Qs Lk Ni WH Sf Ya Ys X0 X1 XW IX F9 IV Fp UU Fg Te OS
attribute [go_sem] YD aas SJ XL Z4 Uf Yi aaC QU DO.i DO.b XU Wi Vw VP W8 aab aaB Vs Wq Wo aad H7 jg uh storeAt dQ gV sB tf xB oz DV.flat dN.mV dN.isRef KW SH U6 aav aal YU Xi TE
end
end Go.Dv
