/- Lemmas for the law of this claim. -/
import Derived.Test.YtcphhjkcgikdgaaGreatDoorP43
import Derived.Test.YtcphhjkcgikdgaaGreatDoorP32
import Derived.Test.YtcphhjkcgikdgaaGreatDoorP41
import Derived.Test.YtcphhjkcgikdgaaGreatDoorP31
set_option linter.all false
set_option maxRecDepth 100000
set_option maxHeartbeats 8000000
namespace Go.Dv.Tryz
section
open Go Go.Dv
def p56(y:Nat):(5<y+6)=True:=bU ae
section
variable(procs:List Pc)(l:List Tx)(s:List Pr)(c:List Int)(bp bs bt bc f0:Bool)
def MvI(j:Nat)(a:St):Prop:=∃(D:Nat->Bool) (o:List Nat) (G:Heap) (y r:Nat),GB 6 G y/\r+j=l.length/\kH D l.length=r/\o.length=r/\
 a=⟨[(0,.p (.slice bp (eL procs))),(1,.p (.slice bs (aT s))),(2,.p (.slice bt (gp l))),(3,.p (.slice bc (aJ c))),(15,.ref 2 l.length 0 l.length),(16,.ptr 4 0),(17,.func 23 [.ptr 4 0,.ptr 1 0]),(18,.ref 5 r 0 r),(45,.p (.int .i64 l.length)),(46,.p (.int .i64 (r:Int)))],G++jQ l D D (bH procs l s) o f0,y+6,[0]⟩
def YH(h:nH procs l)(u:s.length<=1048576/\∀p∈s,er p.v)(R:Ex->St->Prop)
  (hR:∀(D:Nat->Bool) (o:List Nat) (G:Heap) (y:Nat),GB 6 G y->kH D l.length=l.length->o.length=l.length->R (.exit 2) ⟨[(1,.p (.slice bs (aT s))),(2,.p (.slice bt (gp l))),(15,.ref 2 l.length 0 l.length),(16,.ptr 4 0),(18,.ref 5 l.length 0 l.length)],G++jQ l D D (bH procs l s) o f0,y+6,[0]⟩)(j:Nat)(n:St)(T:MvI procs l s c bp bs bt bc f0 j n):
  W tb (.loop MT) n R:=by
 have U:=h.len;refine bL (MvI procs l s c bp bs bt bc f0) ?_ j n T;rintro j n ⟨D,o,G,y,r,e,hr,hD,v,rfl⟩;refine aH MT.eq_1 ?_;have q:=e.get;have A:=e.set;have K:∀D a o,nb (G++jQ l D a (bH procs l s) o f0)=y+6:=λD a o=>e.top _ rfl
 have B:∀D a o c,y+6<=c->aD c (G++jQ l D a (bH procs l s) o f0)=G++jQ l D a (bH procs l s) o f0:=λD a o c L=>by
  rw[e.zQ _ c L];have V:0<c:=ae;have m:1<c:=ae;have X:2<c:=ae;have C:3<c:=ae;have Y:4<c:=ae;have Z:5<c:=ae;simp[jQ,aD,V,m,X,C,Y,Z]
 have E:∀D a o c,y+6<=c->de c (G++jQ l D a (bH procs l s) o f0)=true:=λD a o c L=>by
  rw[e.all];have C:3<c:=ae;simp[jQ,de,bq.below,below,dep,C]
 have M:∀D a o,ag (G++jQ l D a (bH procs l s) o f0) 2=some (.row false 8 (bu (mW D (bH procs l s) l.length))):=λD a o=>q _ 2 ae
 have N:∀D a o,ag (G++jQ l D a (bH procs l s) o f0) 3=some (.row false 1 (iV a l.length)):=λD a o=>q _ 3 ae
 have g4:∀D a o,ag (G++jQ l D a (bH procs l s) o f0) 4=some (.var false [.ref 3 l.length 0 l.length]):=λD a o=>q _ 4 ae
 have g5:∀D a o,ag (G++jQ l D a (bH procs l s) o f0) 5=some (.row false 1 (dW o)):=λD a o=>q _ 5 ae
 rcases bS r l.length with k|k
 .have m:(r:Int)<l.length:=ae;have F:0<(jR l D l.length).length:=Qv ae;obtain⟨z,H,x,rfl,O⟩:=MD c bc r (jR l D l.length).length F;refine gN (bA m @ca) (k1 ?_);refine XX G y e l (.p (.slice bp (eL procs))) (.p (.slice bs (aT s))) (.p (.slice bt (gp l))) (.p (.slice bc (aJ c))) rfl rfl rfl rfl D (bH procs l s) o f0 r U _ ?_;have u1:(0:Int)<=x:=ae;have u2:(x:Int)<(jR l D l.length).length:=ae;have P:=Dp (jR l D l.length) x O;obtain⟨b,t⟩:=Ri (List.getElem_mem O);generalize(jR l D l.length)[x]=w at P b t;have w1:(0:Int)<=w:=ae;have w2:(w:Int)<l.length:=ae;have w3:=kR l w b;have I:D w=false:=by
   simp only[ts,aL,kD]at t;exact t.1
  obtain⟨f,hv⟩:=OH ((y+6,.row false 1 (dW (jR l D l.length)))::(G++jQ l D D (bH procs l s) o f0)) (y+7) 2 3 l.length w D (bH procs l s) s bs false false
   (by simp only[aD];rw[aq ae,B _ _ _ _ ae]) (by simp only[de,bq.below,Bool.true_and];exact E _ _ _ _ ae) ae ae ae ae
   (by rw[aw,ak ae];exact M _ _ _) (by rw[aw,ak ae];exact N _ _ _)
   (λi hi=>(xS h u i ae).2) (λi hi _=>Fh h u i ae)
  have d:=xO (h.ok _ (List.getElem_mem b)) (xS (D:=D) h u w ae).2 bp f;rw[<-gQ w b,UT t,gQ w b]at d;dsimp only[nM,iP]at d;have Q:=IU D (bH procs l s) l.length w b;dsimp only[iP]at Q;have t3:=NG D l.length w b;have t4:=q7 o w;have S:(bu (mW D (bH procs l s) l.length))[w]?=some (iP X7):=by simp[bu,mW,b,I]
  have g7:(iV D l.length)[w]?=some [.bool false]:=by rw[tj D _ w b,I]
  dsimp only[iP]at S;have n1:(bu (mW D (bH procs l s) l.length)).length=l.length:=by rw[cu,DT]
  have n2:=fY D l.length;have n3:(dW o).length=r:=by rw[c7,v]
  have s2:∀D a g o,aC (G++jQ l D a (bH procs l s) o f0) 2 (.row false 8 (bu (mW g (bH procs l s) l.length)))=G++jQ l g a (bH procs l s) o f0:=λD a g o=>by rw[A _ 2 _ ae];rfl
  have s3:∀D a g o,aC (G++jQ l D a (bH procs l s) o f0) 3 (.row false 1 (iV g l.length))=G++jQ l D g (bH procs l s) o f0:=λD a g o=>by rw[A _ 3 _ ae];rfl
  have s5:∀D a o J,aC (G++jQ l D a (bH procs l s) o f0) 5 (.row false 1 (dW J))=G++jQ l D a (bH procs l s) J f0:=λD a o J=>by rw[A _ 5 _ ae];rfl
  have c2:(r+1)*8<=an:=by simp only[an];omega
  have c3:r+1<=an:=by simp only[an];omega
  refine gR (Cj u1<|Cj u2<|Cj P<|Cj w1<|Cj w2<|Cj w3<|Cj b<|Cj @ca<|Cj n1<|Cj n2<|Cj n3<|Cj @c7<|Cj Q<|Cj t3<|Cj t4<|Cj S<|Cj g7<|Cj M<|Cj N<|Cj g4<|Cj g5<|Cj s2<|Cj s3<|Cj s5<|Cj K<|Cj B<|Cj E<|Cj c2<|Cj c3<|Cj ss<|Cj qn<|Cj uQ<|p56) (bA H d) hv (k1 ?_);refine LI.next (m':=j-1) ae ⟨j2 D w,o++[w],_,y+1,r+1,e.cons false 1 (dW (jR l D l.length)),ae,by rw[uW I b,hD],by simp[v],?_⟩;rfl
 .have m:¬(r:Int)<l.length:=ae;obtain rfl:r=l.length:=ae;refine gN (qF m K B E qn uQ p56) (k1 ?_);exact hR D o G y e hD v
end
def I8(l:List Ft)(f:Ft):kE l++[[.bool f.all,.slice f.br (aF f.r),.slice f.bw (aF f.w)]]=kE (l++[f]):=by simp[kE,jZ]
def VQ(a b c:PV):bT 3 [[a,b,c]]=true:=rfl
def Tg(procs:List Pc)(s:List Pr)(l:List Tx)(c:List Int)(b d e g:Bool)(h:nH procs l)(F:∀t∈l,oO t.dx)(A:s.length<=1048576/\∀p∈s,er p.v):∃(f:Bool) (o:List Nat),PS tb 6 [.slice b (eL procs),.slice d (aT s),.slice e (gp l),.slice g (aJ c)] (.tuple [.slice f (aT (dt procs l s l.length)),.slice false (bu (fE procs l s l.length)),.slice false (dW o)]):=by
 have P:=h.len;have Q:=A.1;have w:W tb a6.body {env:=ai 0 ([PV.slice b (eL procs),PV.slice d (aT s),PV.slice e (gp l),PV.slice g (aJ c)].map aI),heap:=[],next:=0,marks:=[0]} (eX a6.results λv B=>∃n:Bool×List Nat,aS B.heap dep v=some (.tuple [.slice n.1 (aT (dt procs l s l.length)),.slice false (bu (fE procs l s l.length)),.slice false (dW n.2)])):=by
  unfold a6;dsimp only[List.map,aI,ai];have H:=UG (gT l) false (by simpa using P) (λf R=>by
   obtain⟨t,S,rfl⟩:=List.mem_map.1 R;exact F t S)
  refine gN @ca (k1 ?_);refine bL (λm B=>∃(i:Nat),i+m=l.length/\B=⟨[(0,.p (.slice b (eL procs))),(1,.p (.slice d (aT s))),(2,.p (.slice e (gp l))),(3,.p (.slice g (aJ c))),(11,.ref 0 i 0 i),(23,.p (.slice e (gp l))),(24,.p (.int .i64 l.length)),(25,.p (.int .i64 (i:Int)))],[(0,.row false 3 (kE (gT (l.take i))))],1,[0]⟩) ?_ l.length _ ⟨0,ae,rfl⟩;rintro m B ⟨i,C,rfl⟩;refine aH RG.eq_1 ?_;rcases bS i l.length with k|k
  .have q:(i:Int)<l.length:=ae;have u:(0:Int)<=i:=ae;have x:=kR l i k;have z:=I8 (gT (l.take i)) l[i].dx;have U:gT (l.take i)++[l[i].dx]=gT (l.take (i+1)):=by
    rw[List.take_succ_eq_append_getElem k,gT,gT,List.map_append];rfl
   rw[U]at z;have r:(kE (gT (l.take i))).length=i:=by rw[lX,gT,List.length_map,List.length_take];omega
   have I:(i+1)*56<=an:=by simp only[an];omega
   have V:i+1<=an:=by simp only[an];omega
   refine gN (o9 q u x @ca r z VQ I V eW) (k1 ?_);exact LI.next (m':=m-1) ae ⟨i+1,ae,rfl⟩
  .have q:¬(i:Int)<l.length:=ae;have X:i=l.length:=ae;rw[List.take_of_length_le k];have r:(kE (gT l)).length=i:=by rw[lX,gT,List.length_map];omega
   have J:(kE (gT l)).take i=kE (gT l):=List.take_of_length_le ae;have Y:l.length*136<=an:=by simp only[an];omega
   have I:l.length<=an:=by simp only[an];omega
   have Z:l.length*1<=an:=by simp only[an];omega
   have c5:(0:Int)<=l.length:=ae;have c6:(l.length:Int)<=140737488355328:=ae;have y1:List.replicate l.length [PV.bool false]=iV (λ_=>false) l.length:=List.ext_getElem (by simp[iV]) λj q u=>by simp[iV]
   have y2:List.replicate l.length [PV.int IntKind.i64 0,PV.int IntKind.i64 0,PV.slice true [],PV.slice true [],PV.slice true [],PV.slice true [],PV.str {data:=#[]},PV.int IntKind.i64 0]=bu (mW (λ_=>false) (bH procs l s) l.length):=List.ext_getElem (by simp[bu,mW]) λj q u=>by simp[bu,mW];rfl
   have y3:(gT l).length=l.length:=by simp[gT]
   refine gP (rL q r J @ca Y I Z c5 c6 y1 y2) H (k1 ?_);refine N1 rfl ⟨rfl,?_⟩;refine gN (bA @ca y3) (k1 ?_);refine YH procs l s c b d e g true h A _ ?_ l.length _ ⟨λ_=>false,[],[],0,0,.nil 6,ae,s6 _,rfl,rfl⟩;intro D o G y K hD ho;have a:=vj hD;have E:=K.get;have q4:∀c,y+6<=c->aD c (G++jQ l D D (bH procs l s) o true)=G++jQ l D D (bH procs l s) o true:=λc M=>by
    rw[K.zQ _ c M];have h0:0<c:=ae;have q:1<c:=ae;have u:2<c:=ae;have x:3<c:=ae;have h4:4<c:=ae;have h5:5<c:=ae;simp[jQ,aD,h0,q,u,x,h4,h5]
   have q5:∀c,y+6<=c->de c (G++jQ l D D (bH procs l s) o true)=true:=λc M=>by
    rw[K.all];have x:3<c:=ae;simp[jQ,de,bq.below,below,dep,x]
   have L:ag (G++jQ l D D (bH procs l s) o true) 2=some (.row false 8 (bu (mW D (bH procs l s) l.length))):=E _ 2 ae;have N:ag (G++jQ l D D (bH procs l s) o true) 3=some (.row false 1 (iV D l.length)):=E _ 3 ae;have g4:ag (G++jQ l D D (bH procs l s) o true) 4=some (.var false [.ref 3 l.length 0 l.length]):=E _ 4 ae;have g5:ag (G++jQ l D D (bH procs l s) o true) 5=some (.row false 1 (dW o)):=E _ 5 ae;obtain⟨f,O⟩:=OH (G++jQ l D D (bH procs l s) o true) (y+6) 2 3 l.length l.length D (bH procs l s) s d false false (q4 _ ae) (q5 _ ae) ae ae ae ae L N
    (λi C=>(xS h A i ae).2) (λi C _=>Fh h A i ae)
   rw[KA a]at O;have e1:mW D (bH procs l s) l.length=fE procs l s l.length:=by
    rw[KU a];exact List.map_congr_left λi C=>by rw[aq (List.mem_range.1 C)]
   rw[e1]at L;have n1:(bu (fE procs l s l.length)).length=l.length:=by rw[cu,e8]
   have t1:=Ci (fE procs l s l.length) l.length (e8 _);have t2:(dW o).take l.length=dW o:=List.take_of_length_le (by rw[c7];omega);refine gR (o9 @ca L N g4 g5 n1 t1 t2 @c7 ho) trivial O (k1 ?_);all_goals exact⟨(_,_),rfl⟩
 obtain⟨⟨f,bs⟩,h⟩:=jg (T:=tb) (f:=6) (af:=a6) rfl rfl w;exact⟨f,bs,h⟩
end
section
open Go Go.Dv
def Pz(f:Ft)(h:oO f):PS tb 16 [.agg (jZ f)] (.agg (jZ (jI f))):=by
 have a:=qw f h;refine bD (af:=XT) rfl rfl ?_;unfold XT;dsimp only[List.map,aI,ai,jZ];dsimp only[jZ]at a;unfold jI;cases e:dk f with
 |false=>
  rw[e]at a;refine gP eW a (k1 ?_);all_goals rfl
 |true=>
  rw[e]at a;exact gP eW a k0;all_goals rfl
def Sb{f:Ft}(h:oO f):oO (jI f):=by
 unfold jI;split
 .exact h
 .exact⟨⟨az,az⟩,⟨az,az⟩⟩
def Mp(c:List Int)(b:Bool)(r n:Nat)(d:0<n):∃z:Int,PS tb 21 [.slice b (aJ c),.int .i64 (r:Int),.int .i64 (n:Int)] (.int .i64 z)/\∃k:Nat,z=k/\k<n:=by
 refine mr (af:=a21) rfl rfl ?_;unfold a21;dsimp only[List.map,aI,ai];have e:(0:Int)<=r:=ae;rcases bS r c.length with k|k
 .have f:(r:Int)<c.length:=ae;have a:¬(c.length:Int)<=r:=ae;have g:=KE c r k;have h:¬(n:Int)=0:=ae;have i:¬n=0:=ae;by_cases j:c[r]<0
  .refine gN (xI e f a g h i j @mK) (k1 ?_);all_goals exact⟨⟨0,0,rfl,d⟩,rfl⟩
  .refine gN (xI e f a g h i j @mK) (k1 ?_);all_goals exact⟨⟨_,Gc ae n d⟩,rfl⟩
 .have a:(c.length:Int)<=r:=ae;refine gN (dS e a @mK) (k1 ?_);all_goals exact⟨⟨0,0,rfl,d⟩,rfl⟩
def wW.aaS{n:Nat}{t:Td}{f:Ft}(h:wW n t)(x:Int):wW (n+tC f) (jK t x f).1:=by
 obtain⟨_,b,c⟩:=Jl (t:=t) (x:=x) (f:=f);by_cases e:(jK t x f).2=0
 .rw[b e];have a:=(h.b.fk (x,true) f.w).fk (x,false) (other f.w f.r);have g:(other f.w f.r).length<=f.r.length:=List.length_filter_le _ _;unfold tC;refine⟨by unfold qK;simp;have:=h.g;omega,?_⟩;exact⟨by have:=a.1;unfold qK;simp only;omega,λq d=>by have:=a.2 q d;omega⟩
 .rw[c e];exact⟨az,az,az⟩
section
variable{l:List Tx}
def Ip{i:Nat}(h:i<l.length):(jK (lk (s4 l) i) (i:Int) (jI (l[i]'h).dx)).1=lk (s4 l) (i+1)/\(jK (lk (s4 l) i) (i:Int) (jI (l[i]'h).dx)).2=0:=by
 have e:iy (s4 l) i=jI (l[i]'h).dx:=by rw[H2 h,Hm,gQ i h]
 have c:=Si (zP l) (n:=i) (by rw[Cl];exact h);rw[e]at c;obtain⟨a,b,_⟩:=Jl (t:=lk (s4 l) i) (x:=(i:Int)) (f:=jI (l[i]'h).dx);have d:=a.2 c;exact⟨by rw[b d,lk,e],d⟩
def Mb:∀i,i<=l.length->wW (mu (l.take i)) (lk (s4 l) i)
 |0,_=>⟨by simp[lk],by simp[lk],by simp[lk]⟩
 |i+1,h=>by
  have b:=Mb i ae;have a:=b.aaS (i:Int) (f:=jI (l[i]'ae).dx);rw[(Ip ae).1]at a;refine a.mono ?_;rw[List.take_succ_eq_append_getElem ae,Bk];have:=QO (l[i]'ae).dx;omega
end
def lkB(a:List Pc)(l:List Tx)(b c d e:Bool)(t:Tb):Heap:=[(2,.var false [.p (.slice t.gf (bM t.g)),.p (.slice t.qf (dL t.qs))]),(1,.var e [.p (.slice c (gp l))]),(0,.var d [.p (.slice b (eL a))])]
def Kf(a:List Pc)(l:List Tx)(s:List Pr)(b c d:Bool)(t:Tb)(D:Nat->Bool)(e:Nat->Ef)(o:List Nat)(N:DV):Heap:=
 [(8,.row false 1 (dW o)),(7,.var false [.ref 8 o.length 0 o.length]),(6,.var false [.ref 5 l.length 0 l.length]),(5,.row false 8 (bu (mW D e l.length))),(4,.var false [N]),(3,.row d 4 (aT s)),
  (2,.var false [.p (.slice t.gf (bM t.g)),.p (.slice t.qf (dL t.qs))]),(1,.var false [.p (.slice c (gp l))]),(0,.var false [.p (.slice b (eL a))])]
def XJ(s a:List Pr)(N:DV):Prop:=(N=.ref 3 s.length 0 s.length/\a=s)\/∃f,N=.p (.slice f (aT a))
def V6(a:List Pc)(l:List Tx)(s h:List Pr)(n q r:Bool)(t u:Tb)(D:Nat->Bool)(g:Nat->Ef)(o:List Nat)(N:DV)(i:Nat)(m:i<l.length)(I:l.length<=1048576)(C:s.length<=1048576)(J:o.length<=1048576)(E:D i=false)(hN:XJ s h N)
  (b:∀c,PS tb 18 [.slice n (eL a),.slice c (aT h),.agg (nM l[i])] (.tuple [.slice false (aT (eE h (g i))),.agg (iP (g i))]))(e:Int)
  (d:PS tb 19 [.agg (lT t),.int .i64 (i:Int)] (.tuple [.agg (lT u),.int .i64 e])):
  ∃f,BS tb 17 [.p (.int .i64 (i:Int)),.ptr 0 0,.ptr 4 0,.ptr 1 0,.ptr 6 0,.ptr 2 0,.ptr 7 0] (Kf a l s n q r t D g o N) 9 (.tuple []) (Kf a l s n q f u (j2 D i) g (o++[i]) (.p (.slice false (aT (eE h (g i)))))) 9:=by
 have v:(i:Int)<l.length:=ae;have w:(0:Int)<=i:=ae;have x:=kR l i m;have p:(bu (mW D g l.length))[i]?=some (iP X7):=by simp[bu,mW,m,E]
 have y:(bu (mW D g l.length)).length=l.length:=by rw[cu,DT]
 have j:=IU D g l.length i m;have z:=q7 o i;have A:(o.length+1)*8<=an:=by simp only[an];omega
 have B:o.length+1<=an:=by simp only[an];omega
 have F:=pb s;have G:(aT s).take s.length=aT s:=List.take_of_length_le (by rw[bh];omega);dsimp only[iP]at p j;dsimp only[nM,iP]at b;dsimp only[lT]at d;rcases hN with⟨rfl,rfl⟩|⟨f,rfl⟩
 .refine⟨true,ib (af:=Tl) rfl rfl ?_⟩;have k:=b false;generalize g i=H at*;unfold Tl Kf;dsimp only[ai];exact gP (Jg v w x m @ca y p j z A B F G @bh @c7 ss Te U6) (bA k d) k0
 .refine⟨r,ib (af:=Tl) rfl rfl ?_⟩;have k:=b f;generalize g i=H at*;unfold Tl Kf;dsimp only[ai];exact gP (DF v w x m @ca y p j z A B @bh @c7 ss Te U6) (bA k d) k0
end
section
open Go Go.Dv
def Ve{a:List Pc}{t:Tx}{s:List Pr}(h:zX a t)(c:lS s):(eE s (eA a t s)).length<=s.length+16385/\∀p∈eE s (eA a t s),er p.v:=by
 have d:=lr h c;unfold eE;split
 .refine⟨?_,λp b=>?_⟩
  .have:=mD s (eA a t s).writes;have:=d.wl;omega
  .rcases fO b with b|⟨b,_⟩
   .exact c.vs p b
   .exact d.wv p b
 .exact⟨Hi _ _,c.vs⟩
def LkI(a:List Pc)(l:List Tx)(s:List Pr)(c:List Int)(d e f:Bool)(j:Nat)(g:St):Prop:=∃(t:Tb) (D:Nat->Bool) (o:List Nat) (N:DV) (b:List Pr) (h:Bool) (r:Nat),
 KI l t.d D/\IP a l s D b/\XJ s b N/\r+j=l.length/\t.d.1.length+kH D l.length=l.length/\kH D l.length=r/\o.length=r/\wW 1048576 t.d/\b.length<=1048576+r*16385/\(∀p∈b,er p.v)/\
 g=⟨[(3,.p (.slice f (aJ c))),(11,.ptr 2 0),(14,.ptr 4 0),(15,.ptr 6 0),(16,.ptr 7 0),(17,.func 17 [.ptr 0 0,.ptr 4 0,.ptr 1 0,.ptr 6 0,.ptr 2 0,.ptr 7 0]),(44,.p (.int .i64 l.length)),(45,.p (.int .i64 (r:Int)))],Kf a l s d e h t D (bH a l s) o N,9,[0]⟩
def we(a:List Pc)(s:List Pr)(l:List Tx)(c:List Int)(b d e g:Bool)(h:nH a l)(O:∀t∈l,oO t.dx)(P:mu l<=1048576)(hs:s.length<=1048576/\∀p∈s,er p.v):∃(f:Bool) (o:List Nat),PS tb 5 [.slice b (eL a),.slice d (aT s),.slice e (gp l),.slice g (aJ c)] (.tuple [.slice f (aT (dt a l s l.length)),.slice false (bu (fE a l s l.length)),.slice false (dW o)]):=by
 have hl:=h.len;have x4:=hs.1;have w:W tb a5.body {env:=ai 0 ([PV.slice b (eL a),PV.slice d (aT s),PV.slice e (gp l),PV.slice g (aJ c)].map aI),heap:=[],next:=0,marks:=[0]} (eX a5.results λv Q=>∃n:Bool×List Nat,aS Q.heap dep v=some (.tuple [.slice n.1 (aT (dt a l s l.length)),.slice false (bu (fE a l s l.length)),.slice false (dW n.2)])):=by
  unfold a5;dsimp only[List.map,aI,ai];refine gN @ca (k1 ?_);refine bL (λm Q=>∃(i:Nat) (t:Tb),i+m=l.length/\t.d=lk (s4 l) i/\Q=⟨[(1,.p (.slice d (aT s))),(3,.p (.slice g (aJ c))),(4,.ptr 0 0),(6,.ptr 1 0),(11,.ptr 2 0),(20,.p (.slice e (gp l))),(21,.p (.int .i64 l.length)),(22,.p (.int .i64 (i:Int)))],lkB a l b e false false t,3,[0]⟩) ?_ l.length _ ⟨0,⟨true,[],true,[]⟩,ae,rfl,rfl⟩;rintro m Q ⟨i,t,y,M,rfl⟩;refine aH RE.eq_1 ?_;unfold lkB;rcases bS i l.length with k|k
  .have E:(i:Int)<l.length:=ae;have h2:(0:Int)<=i:=ae;have h3:=kR l i k;have R:=Pz l[i].dx (O _ (List.getElem_mem k));have z:=((Mb i ae).mono (ep (By l i) P)).tb M;obtain⟨F,u,K⟩:=IB t (i:Int) (jI l[i].dx) ae ae (λq hq=>by have:=z.2.2 q hq;omega) (Sb (O _ (List.getElem_mem k)));rw[M,(Ip k).1]at u;rw[M,(Ip k).2]at K;dsimp only[lT,jZ]at K R;refine gP (fW E h2 h3 @ca) (bA R K) (k1 ?_);exact LI.next (m':=m-1) ae ⟨i+1,F,ae,u,rfl⟩
  .have E:¬(i:Int)<l.length:=ae;obtain rfl:i=l.length:=ae;have c1:l.length*136<=an:=by simp only[an];omega
   have c2:l.length<=an:=by simp only[an];omega
   have c3:s.length*48<=an:=by simp only[an];omega
   have c4:s.length<=an:=by simp only[an];omega
   have c5:(0:Int)<=l.length:=ae;have c6:(l.length:Int)<=140737488355328:=ae;have y2:List.replicate l.length [PV.int IntKind.i64 0,PV.int IntKind.i64 0,PV.slice true [],PV.slice true [],PV.slice true [],PV.slice true [],PV.str {data:=#[]},PV.int IntKind.i64 0]=bu (mW (λ_=>false) (bH a l s) l.length):=List.ext_getElem (by simp[bu,mW]) λj E h2=>by simp[bu,mW];rfl
   refine gN (rL E @ca @bh @pb c1 c2 c3 c4 c5 c6 y2) (k1 ?_);refine bL (LkI a l s c b e g) ?_ l.length _ ⟨t,λ_=>false,[],.ref 3 s.length 0 s.length,s,false,0,by rw[M];exact QR,Mz,.inl ⟨rfl,rfl⟩,ae,by rw[M,Ls,s6];rfl,s6 _,rfl,(by rw[M];exact(Mb _ (Nat.le_refl _)).mono (by rw[List.take_of_length_le (Nat.le_refl _)];exact P)),ae,hs.2,rfl⟩;rintro j Q ⟨t,D,o,N,A,f3,r,S,U,hN,hr,x6,hD,ho,hS,xx,x8,rfl⟩;refine aH Tm.eq_1 ?_;have z:=hS.tb rfl;rcases bS r l.length with k|k
   .have E:(r:Int)<l.length:=ae;have x9:Sm t:=⟨z.1,by have:=z.2.1;omega,z.2.2⟩;obtain⟨fr,V⟩:=P6 t x9;have xa:=PM S.L.v (show 0<t.d.1.length by omega);have X:0<(iI t.d).length:=List.length_pos_iff.2 xa;obtain⟨zz,xb,x,rfl,hx⟩:=Mp c g r (iI t.d).length X;have u3:=kx (iI t.d) x hx;obtain⟨i,y,Y,B,Z⟩:=S.ready (List.getElem_mem hx);rw[Y]at u3;have u1:(0:Int)<=x:=ae;have u2:(x:Int)<(iI t.d).length:=ae;have u4:¬((iI t.d).length:Int)=0:=ae;have u5:(((iI t.d).length:Int)==0)=false:=by rw[fy];omega
    have L:=MX (List.getElem_mem hx);rw[Y]at L;obtain⟨F,u,x0⟩:=LH t (i:Int) ae ae (λq hq=>by have:=z.2.2 q hq;omega);rw[L]at u x0;obtain⟨G,x1⟩:=TO S U y B Z;have H:lS A:=⟨ae,x8⟩;have xd:∀c,PS tb 18 [.slice b (eL a),.slice c (aT A),.agg (nM l[i])] (.tuple [.slice false (aT (eE A (bH a l s i))),.agg (iP (bH a l s i))]):=λc=>by
     have:=xO (h.ok _ (List.getElem_mem y)) H b c
     rwa [<-gQ i y,G,gQ i y]at this
    have C:=Ve (h.ok _ (List.getElem_mem y)) H;rw[<-gQ i y,G]at C;obtain⟨f4,I⟩:=V6 a l s A b e f3 t F D (bH a l s) o N i y hl x4 ae B hN xd 0 x0;have b1:below 9 5 N=true:=by rcases hN with⟨rfl,_⟩|⟨f,rfl⟩<;>rfl
    have x2:LkI a l s c b e g (j-1) ⟨[(3,.p (.slice g (aJ c))),(11,.ptr 2 0),(14,.ptr 4 0),(15,.ptr 6 0),(16,.ptr 7 0),(17,.func 17 [.ptr 0 0,.ptr 4 0,.ptr 1 0,.ptr 6 0,.ptr 2 0,.ptr 7 0]),(44,.p (.int .i64 l.length)),(45,.p (.int .i64 ((r+1:Nat):Int)))],Kf a l s b e f4 F (j2 D i) (bH a l s) (o++[i]) (.p (.slice false (aT (eE A (bH a l s i))))),9,[0]⟩:=by
     have xe:=Wr S x6 y B;refine⟨F,j2 D i,o++[i],_,_,f4,r+1,by rw[u];exact S.step y B Z,x1,.inr ⟨_,rfl⟩,ae,by rw[u];exact xe,by rw[uW B y,hD],by simp[ho],?_,?_,C.2,rfl⟩
     .rw[u];have:=hS.rel (i:Int)
      rwa [L]at this
     .have:=C.1;omega
    dsimp only[lT]at V;unfold Kf at I x2⊢;refine gR (xI E u1 u2 u3 u4 u5 b1 @cB) (bA V xb) I (k1 ?_);exact LI.next (m':=j-1) ae x2
   .have E:¬(r:Int)<l.length:=ae;obtain rfl:r=l.length:=ae;have J:=vj hD;have e0:=Xd U J;have e1:mW D (bH a l s) l.length=fE a l s l.length:=by
     rw[KU J];exact List.map_congr_left λi y=>by rw[aq (List.mem_range.1 y)]
    have n1:(bu (fE a l s l.length)).length=l.length:=by rw[cu,e8]
    have t1:=Ci (fE a l s l.length) l.length (e8 _);have F:(dW o).take l.length=dW o:=List.take_of_length_le (by rw[c7];omega);have t3:(aT s).take s.length=aT s:=List.take_of_length_le (by rw[bh];omega);have b1:below 9 5 N=true:=by rcases hN with⟨rfl,_⟩|⟨f,rfl⟩<;>rfl
    unfold Kf;rw[e1];rcases hN with⟨rfl,rfl⟩|⟨f,rfl⟩
    .refine gN (rG E b1 n1 t1 F t3 @c7 @bh ho) (k1 ?_);all_goals rw[<-e0]
     all_goals exact⟨(_,_),rfl⟩
    .refine gN (qF E b1 n1 t1 F @c7 ho) (k1 ?_);all_goals rw[<-e0]
     all_goals exact⟨(_,_),rfl⟩
 obtain⟨⟨f,bs⟩,h⟩:=jg (T:=tb) (f:=5) (af:=a5) rfl rfl w;exact⟨f,bs,h⟩
end
section
open Go Go.Dv
def Vo(a:List Pc)(b:Bool):PS tb 34 [.slice b (eL a)] (.agg [.func 66 [.dT [.slice b (eL a)]]]):=by
 refine bD (af:=Yk) rfl rfl ?_;unfold Yk;dsimp only[List.map,aI,ai];exact gN eW k0;all_goals rfl
def Rp{a:List Pc}{t:Tx}(h:zX a t){s:List Pr}(f:lS s)(b c:Bool):PS tb 66 [.slice c (aT s),.agg (nM t),.dT [.slice b (eL a)]] (.tuple [.slice false (aT (eE s (eA a t s))),.agg (iP (eA a t s))]):=by
 have d:=xO h f b c;generalize eA a t s=e at d⊢;refine bD (af:=ZQ) rfl rfl ?_;unfold ZQ;dsimp only[List.map,aI,ai,nM];dsimp only[nM,iP]at d;refine gP trivial d (k1 ?_);all_goals rfl
def L3(a:List Pc)(s:List Pr)(l:List Tx)(b c d:Bool)(h:nH a l)(u:s.length<=1048576/\∀p∈s,er p.v):∃f:Bool,PS tb 35 [.agg [.func 66 [.dT [.slice b (eL a)]]],.slice c (aT s),.slice d (gp l)] (.tuple [.slice f (aT (dt a l s l.length)),.slice false (bu ((List.range l.length).map (bH a l s)))]):=by
 have D:=h.len;have w:W tb Uq.body {env:=ai 0 ([PV.agg [.func 66 [.dT [.slice b (eL a)]]],.slice c (aT s),.slice d (gp l)].map aI),heap:=[],next:=0,marks:=[0]} (eX Uq.results λv m=>∃f:Bool,aS m.heap dep v=some (.tuple [.slice f (aT (dt a l s l.length)),.slice false (bu ((List.range l.length).map (bH a l s)))])):=by
  unfold Uq;dsimp only[List.map,aI,ai];refine gN @ca (k1 ?_);refine bL (λj m=>∃(i:Nat) (f:Bool),i+j=l.length/\m=⟨[(1,.p (.slice f (aT (dt a l s i)))),(3,.ptr 0 0),(8,.ref 1 i 0 i),(12,.p (.slice d (gp l))),(13,.p (.int .i64 l.length)),(14,.p (.int .i64 i))],[(1,.row false 8 (bu ((List.range i).map (bH a l s)))),(0,.var false [.p (.func 66 [.dT [.slice b (eL a)]])])],2,[0]⟩) ?_ l.length _ ⟨0,c,ae,rfl⟩;rintro j m ⟨i,f,E,rfl⟩;refine aH OJ.eq_1 ?_;rcases bS i l.length with k|k
  .have o:(i:Int)<l.length:=ae;have x:(0:Int)<=i:=ae;have y:=kR l i k;have z:=(mI h u i ae).2;have n:=Rp (h.ok _ (List.getElem_mem k)) z b f;have g:=BH ((List.range i).map (bH a l s)) (bH a l s i);have A:(List.range i).map (bH a l s)++[bH a l s i]=(List.range (i+1)).map (bH a l s):=by simp[List.range_succ]
   rw[A]at g;have q:bH a l s i=eA a l[i] (dt a l s i):=by rw[<-gQ i k];rfl
   rw[<-q]at n;have r:dt a l s (i+1)=eE (dt a l s i) (bH a l s i):=rfl;have e:(bu ((List.range i).map (bH a l s))).length=i:=by rw[cu,List.length_map,List.length_range]
   have B:(i+1)*136<=an:=by simp only[an];omega
   have C:i+1<=an:=by simp only[an];omega
   rw[<-r]at n;dsimp only[nM,iP]at n;refine gP (rG o x y @ca B C e g @Fq) n (k1 ?_);exact LI.next (m':=j-1) ae ⟨i+1,false,ae,by rw[List.range_succ]⟩
  .have o:¬(i:Int)<l.length:=ae;obtain rfl:i=l.length:=ae;have e:(bu ((List.range l.length).map (bH a l s))).length=l.length:=by rw[cu,List.length_map,List.length_range]
   have t:(bu ((List.range l.length).map (bH a l s))).take l.length=bu ((List.range l.length).map (bH a l s)):=List.take_of_length_le ae;refine gN (dS o e t) (k1 ?_);all_goals exact⟨_,rfl⟩
 obtain⟨f,h⟩:=jg (T:=tb) (f:=35) (af:=Uq) rfl rfl w;exact⟨f,h⟩
def Nr(a:List Pc)(s:List Pr)(l:List Tx)(b c d:Bool)(h:nH a l)(e:s.length<=1048576/\∀p∈s,er p.v):PS tb 12 [.slice b (eL a),.slice c (aT s),.slice d (gp l)] (.tuple [.slice false (aT (dt a l s l.length)),.slice false (bu ((List.range l.length).map (bH a l s)))]):=by
 obtain⟨f,g⟩:=L3 a s l b c d h e;have i:=Vo a b;have j:=wQ (dt a l s l.length) f (mI h e _ (Nat.le_refl _)).2.len;refine bD (af:=a12) rfl rfl ?_;unfold a12;dsimp only[List.map,aI,ai];exact gP trivial (dS i g j) k0;all_goals rfl
abbrev kW:ByteArray:=⟨#[97]⟩
abbrev p0:Pc:=⟨⟨#[112]⟩,true,[],true,[.mk 3 E 0 (.mk 2 0 kW true []) (.mk 1 1 E true []) true [] true []]⟩
abbrev t0:Tx:=⟨1,⟨#[112]⟩,true,[],⟨false,true,[],true,[kW]⟩,1⟩
def aal:(dQ tb.A tb.X 40).pure 81 [.agg (eV p0)]=some (.int .i64 0):=tG
def aaf:(dQ tb.A tb.X 40).pure 80 [.agg (eV p0),.slice true (cy [])]=some (.int .i64 0):=tG
def X8:I2 p0=0:=by
 have a:PS tb 81 [.agg (eV p0)] (.int .i64 0):=⟨40,aal⟩;have b:PS tb 81 [.agg (eV p0)] (.int .i64 (I2 p0)):=od (p:=λe=>PS tb 81 [.agg (eV p0)] (.int .i64 e)) ⟨0,a⟩;have:=G3 b a;simpa using this
def TV:vJ p0 true []=0:=by
 have a:PS tb 80 [.agg (eV p0),.slice true (cy [])] (.int .i64 0):=⟨40,aaf⟩;have b:PS tb 80 [.agg (eV p0),.slice true (cy [])] (.int .i64 (vJ p0 true [])):=od (p:=λe=>PS tb 80 [.agg (eV p0),.slice true (cy [])] (.int .i64 e)) ⟨0,a⟩;have:=G3 b a;simpa using this
def aau:dk t0.dx=true:=by decide
def aan:eA [p0] t0 []=⟨1,0,false,[],false,[],false,[kW],false,[⟨kW,⟨1,1,E⟩⟩],E,1⟩:=by
 have a:mo [p0] t0=some p0:=by
  unfold mo;have:[p0].find? (SO t0)=some p0:=rfl;rw[this];simp only;rw[aq TV]
 unfold eA;rw[a];simp only;unfold xU;rw[aq ⟨X8,TV,rfl,aau⟩];rfl
def Xc:KB t0:=⟨az,az,⟨⟨az,az⟩,⟨az,λx a=>by rw[List.mem_singleton]at a;rw[a];decide⟩⟩⟩
def oj(n:Int)(h:-9223372036854775808<=n/\n<=9223372036854775807):fA n:=h
def aaj:o7 p0:=by
 refine⟨by decide,az,az,?_,by simp[p0,eZ,cl.sz]⟩;simp only[p0,dU,cl.ok,bj.ok,lu,bj.sz,dE,and_true];refine⟨oj _ (by decide),by decide,oj _ (by decide),⟨⟨oj _ (by decide),oj _ (by decide),by decide⟩,by decide⟩,⟨oj _ (by decide),oj _ (by decide),by decide⟩,by decide⟩
def Oh:nH [p0] [t0]:=⟨az,λt a=>by
 rw[List.mem_singleton]at a;subst a;exact Uf az (λp b=>by rw[List.mem_singleton]at b;subst b;exact aaj) Xc⟩
def aai:dt [p0] [t0] [] 1=[⟨kW,⟨1,1,E⟩⟩]:=by
 show eE [] (eA [p0] t0 [])=_
 rw[aan];unfold eE;rw[aq ⟨rfl,by decide⟩,dj];rfl
def K8:PS tb 10 [] (.bool true):=by
 have e:([]:List Pr).length<=1048576/\∀p∈([]:List Pr),er p.v:=⟨az,az⟩;have b:∀t∈[t0],oO t.dx:=λt j=>by rw[List.mem_singleton]at j;subst j;exact Xc.ft
 obtain⟨k,l,c⟩:=we [p0] [] [t0] [] true true true true Oh b (by decide) e;obtain⟨m,n,d⟩:=Tg [p0] [] [t0] [] true true true true Oh b e;obtain⟨o,x,g⟩:=Pb [p0] [] [t0] true true true Oh e;have h:=Nr [p0] [] [t0] true true true Oh e;have i:=Ms t0.dx t0.dx Xc.ft Xc.ft;have q:pA t0.dx t0.dx=true:=by decide
 rw[q]at i;have r:dt [p0] [t0] [] [t0].length=[⟨kW,⟨1,1,E⟩⟩]:=aai;rw[r]at c d g h;have a:=λf=>vg [⟨kW,⟨1,1,E⟩⟩] f true az
 generalize bu (fE [p0] [t0] [] [t0].length)=y at c d g;generalize bu ((List.range [t0].length).map (bH [p0] [t0] []))=z at h;generalize dW l=A at c;generalize dW n=B at d;simp only[eL,eV,aT,wM,gp,nM,jZ,aJ,List.map,cU,cl.cs,bj.op,bj.n,bj.s,bj.f,bj.xs,cn,im,cy,aF,E,kW]at c d g h i a;have s:=a k;have u:=a m;have v:=a o;have w:=a false;clear a;refine bD (af:=ZP) rfl rfl ?_;unfold ZP;dsimp only[List.map,aI,ai];exact gP eW (rG c d g h i s u v w) k0
 all_goals rfl
end
section
open Go Go.Dv
def walkTopEngines{i j k m n:PV}(z:Fit (.slice [.str,.slice [.str,.int .i64],.rows 90]) i)(A:Fit (.slice [.str,.int .i64,.int .i64,.str]) j)
  (B:Fit (.slice [.int .i64,.str,.slice [.int .i64,.int .i64,.str],.bool,.slice [.str],.slice [.str],.int .i64]) k)(C:Fit (.slice [.int .i64]) m)(D:Fit (.slice [.int .i64]) n)
  (E:dG i<=1048576)(F:dG j<=1048576)(G:dG k<=1048576)(Q:dG m<=1048576)(R:dG n<=1048576):PS tb 3 [i,j,k,m,n] (.bool true):=by
 obtain⟨a,rfl,o,p⟩:=Nf z E;obtain⟨s,rfl,c⟩:=L7 A F;obtain⟨l,rfl,H,I,r⟩:=RZ B G;obtain⟨J,rfl⟩:=Om C;obtain⟨K,rfl⟩:=Om D;have d:nH a l:=⟨I,λt h=>Uf o p (r t h)⟩;have e:∀t∈l,oO t.dx:=λt h=>(r t h).ft
 obtain⟨u,L,f⟩:=we a s l J false false false false d e H c;obtain⟨M,N,g⟩:=Tg a s l K false false false false d e c;obtain⟨O,S,q⟩:=Pb a s l false false false d c;have P:=K8;have b:(dt a l s l.length).length<=1099511627776:=(mI d c _ (Nat.le_refl _)).2.len;have v:=vg (dt a l s l.length) u M b;have w:=vg (dt a l s l.length) u O b;have x:=QN (fE a l s l.length) false false (K4 d c _) (by rw[e8];omega);have y:(bu (fE a l s l.length)).length=l.length:=by rw[cu,e8]
 generalize dt a l s l.length=T at f g q v w;generalize bu (fE a l s l.length)=U at f g q x y;generalize dW L=V at f;generalize dW N=W at g;refine bD (af:=a3) rfl rfl ?_;unfold a3;dsimp only[List.map,aI,ai];exact gP (dS y @ca aax) (qF f g q v w x P) k0;all_goals rfl
end
end Go.Dv.Tryz
