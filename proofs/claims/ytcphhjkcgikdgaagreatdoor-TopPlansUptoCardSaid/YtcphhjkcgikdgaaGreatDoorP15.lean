/- Lemmas for the law of this claim. -/
import Derived.Test.YtcphhjkcgikdgaaGreatDoorP12
import Derived.Test.YtcphhjkcgikdgaaGreatDoorP13
set_option linter.all false
namespace Go.Dv
section
open Go.RowKit
def l6(i j k:Nat):tr i j (tr i j k)=k:=by
 unfold tr;repeat' split
 all_goals omega
def Hz{i j k n:Nat}(b:i<n)(c:j<n)(d:k<n):tr i j k<n:=by
 unfold tr;repeat' split
 all_goals omega
def WJ{i j k b:Nat}(c:b<=i)(d:b<=j)(e:k<b):tr i j k=k:=by
 unfold tr;repeat' split
 all_goals omega
def nk{k e:Type}{f:k->Option e}{l:List k}{r:List e}(h:cl f l=some r){i:Nat}{y:e}(g:r[i]?=some y):∃x,l[i]?=some x/\f x=some y:=by
 obtain⟨n,o⟩:=eS h;have d:i<l.length:=by
  rw[<-n];rcases cK i r.length with c|c
  .exact c
  .rw[List.getElem?_eq_none c]at g;cases g
 obtain⟨b,m,p⟩:=o i _ (List.getElem?_eq_getElem d);rw[g]at m;cases m;exact⟨_,List.getElem?_eq_getElem d,p⟩
structure um(i j:Nat)(H H':Heap):Prop where
 some_:∀id b,ah H id=some b->∃b',jL i j b=some b'/\ah H' (tr i j id)=some b'
 none_:∀id,ah H id=none->ah H' (tr i j id)=none
def E8{i j:Nat}:∀{H H':Heap},FG i j H=some H'->um i j H H'
 |[],H',h=>by
   simp only[FG,aw]at h;subst h;exact⟨λid b f=>by simp[ah]at f,λ_ _=>rfl⟩
 |(k,b)::r,H',h=>by
   simp only[FG]at h;split at h
   .rename_i l q f m;simp only[aw]at h;subst h;have g:=E8 m;constructor
    .intro id c d;rw[aP]at d;split at d
     .rename_i e;cases d;subst e;exact⟨l,f,by rw[aP,aq rfl]⟩
     .rename_i e;obtain⟨n,o,p⟩:=g.some_ id c d;refine⟨n,o,?_⟩;rw[aP,an λh=>e ?_]
      .exact p
      .rw[<-l6 i j k,h,l6]
    .intro id hid;rw[aP]at hid;split at hid
     .cases hid
     .rename_i e;rw[aP,an λh=>e (by rw[<-l6 i j k,h,l6])];exact g.none_ id hid
   .cases h
def um.inv{i j:Nat}{H H':Heap}(r:um i j H H'){id:Nat}{d:ca}(h:ah H' (tr i j id)=some d):∃b,ah H id=some b/\jL i j b=some d:=by
 cases e:ah H id with
 |none=>rw[r.none_ id e]at h;cases h
 |some b=>
  obtain⟨c,g,f⟩:=r.some_ id b e;rw[h]at f;cases f;exact⟨b,rfl,g⟩
def um.xU{i j:Nat}{H H':Heap}(r:um i j H H'){id:Nat}{c:ca}(h:ah H' id=some c):∃b,ah H (tr i j id)=some b/\jL i j b=some c:=r.inv (by rw[l6];exact h)
def Al{i j:Nat}{b:ca}{c:Bool}{d:Nat}{e:List (List PV)}(h:jL i j b=some (.row c d e)):b=.row c d e:=by
 cases b with
 |var f g=>simp only[jL]at h;split at h<;>simp at h
 |row f z x=>simpa[jL]using h
 |map f k|bh f z x=>simp[jL]at h
def Ge{i j:Nat}{b:ca}{d:Bool}{e:List DV}(h:jL i j b=some (.var d e)):∃c,b=.var d c/\cl (mJ i j dep) c=some e:=by
 cases b with
 |var f c=>
  simp only[jL]at h;split at h
  .rename_i l g;simp only[aw,ca.var.injEq]at h;obtain⟨rfl,rfl⟩:=h;exact⟨_,rfl,g⟩
  .cases h
 |row f z x|map f k|bh f z x=>simp[jL]at h
def E0{i j:Nat}{b:ca}{d:Bool}{c}(h:jL i j b=some (.map d c)):False:=by
 cases b with
 |var f e=>simp only[jL]at h;split at h<;>simp at h
 |row f z x|map f c|bh f z x=>simp[jL]at h
def vM{i j:Nat}{b:ca}{c:Bool}{d:Nat}{e}(h:jL i j b=some (.bh c d e)):False:=by
 cases b with
 |var f g=>simp only[jL]at h;split at h<;>simp at h
 |row f z x|map f k|bh f z x=>simp[jL]at h
def Kd{i j:Nat}{b c:ca}(h:jL i j b=some c):c.fz=b.fz:=by
 cases b with
 |var f d=>
  simp only[jL]at h;split at h
  .simp only[aw]at h;subst h;rfl
  .cases h
 |row f z x=>simp only[jL,aw]at h;subst h;rfl
 |map f e|bh f z x=>simp[jL]at h
section
variable{w:World}{U:Nat->Prop}{U0:Nat->Prop}{β:Place}{H H':Heap}{nx i j:Nat}
def bj.Qz(L:i<nx)(M:j<nx)(r:um i j H H'):∀(n:Nat) (d I:DV) (v:Value),mJ i j n d=some I->bj w U β H nx d v->bj w U (λk=>β (tr i j k)) H' nx I v:=by
 intro n;induction n with
 |zero=>intro d I v h _;simp[mJ]at h
 |succ n J=>
  intro d I v h R;cases R with
  |p x v S=>simp only[mJ,aw]at h;subst h;exact .p x v S
  |agg K z A g C=>
   simp only[mJ]at h;split at h
   .rename_i l m;simp only[aw]at h;subst h;refine .agg l z (by rw[A,(eS m).1]) (λq y u=>?_) λq y u=>?_
    .obtain⟨x,c,_⟩:=nk m u;exact g q x c
    .obtain⟨x,c,e⟩:=nk m u;exact J x y _ e (C q x c)
   .cases h
  |tuple K z A C=>
   simp only[mJ]at h;split at h
   .rename_i l m;simp only[aw]at h;subst h;refine .tuple l z (by rw[A,(eS m).1]) λq y u=>?_
    obtain⟨x,c,e⟩:=nk m u;exact J x y _ e (C q x c)
   .cases h
  |func f K z A C=>
   simp only[mJ]at h;split at h
   .rename_i l m;simp only[aw]at h;subst h;refine .func f l z (by rw[A,(eS m).1]) λq y u=>?_
    obtain⟨x,c,e⟩:=nk m u;exact J x y _ e (C q x c)
   .cases h
  |kh f K z A C=>
   simp only[mJ]at h;split at h
   .rename_i l m;simp only[aw]at h;subst h;refine .kh f l z (by rw[A,(eS m).1]) λq y u=>?_
    obtain⟨x,c,e⟩:=nk m u;exact J x y _ e (C q x c)
   .cases h
  |ref id D o k v hid E F N=>
   simp only[mJ,aw]at h;subst h;refine .ref _ D o k v (Hz L M hid) E (λG O Q c=>?_) λG O Q c=>?_
   .obtain⟨b,g,t⟩:=r.inv c;rw[Al t]at g;obtain⟨T,V⟩:=F _ _ _ g;refine⟨T,λa b=>?_⟩;have:=V a b;unfold zW at this⊢;simpa only[l6]using this
   .obtain⟨b,g,t⟩:=r.inv c;exact(vM t).elim
  |ptr id o v hid E F W=>
   simp only[mJ,aw]at h;subst h;refine .ptr _ o v (Hz L M hid) E (λG K c=>?_) λG X c=>?_
   .obtain⟨b,g,t⟩:=r.inv c;obtain⟨Y,rfl,_⟩:=Ge t;simpa only[l6]using F _ _ g
   .obtain⟨b,g,t⟩:=r.inv c;exact(E0 t).elim
  |du id D q o v hid E F N=>
   simp only[mJ,aw]at h;subst h;refine .du _ D q o v (Hz L M hid) E (λG O Q c=>?_) λG O Q c=>?_
   .obtain⟨b,g,t⟩:=r.inv c;rw[Al t]at g;simpa only[l6]using F _ _ _ g
   .obtain⟨b,g,t⟩:=r.inv c;exact(vM t).elim
def km.Qz{B id:Nat}{b t:ca}(u:i<nx)(v:j<nx)(r:um i j H H')(d:jL i j b=some t)(h:km w U β H nx B id b):km w U (λk=>β (tr i j k)) H' nx B (tr i j id) t:=by
 cases b with
 |var f J=>
  simp only[jL]at d;split at d
  .rename_i l g;simp only[aw]at d;subst d;obtain⟨p,c,m,T,z,A,C,D,E,F⟩:=h;refine⟨p,c,m,T,by simp only[l6];exact z,A,C,by rw[D,(eS g).1],λq y n=>?_,λq y n=>?_⟩
   .obtain⟨x,o,_⟩:=nk g n;exact E q x o
   .obtain⟨x,o,e⟩:=nk g n;exact(F q x o).Qz u v r _ _ _ _ e
  .cases d
 |row f G I=>
  simp only[jL,aw]at d;subst d;unfold km at h⊢;simpa only[l6]using h
 |map f K|bh f G I=>simp[jL]at d
def CJ(r:um i j H H'):Own U0 (λk=>β (tr i j k)) H'=Own U0 β H:=by
 funext p;refine propext ⟨λh=>?_,λh=>?_⟩
 .rcases h with h|⟨id,aY,c,d,e,f⟩
  .exact .inl h
  .obtain⟨b,g,l⟩:=r.xU d;exact .inr ⟨tr i j id,b,c,g,by rw[<-Kd l];exact e,f⟩
 .rcases h with h|⟨id,aY,c,d,e,f⟩
  .exact .inl h
  .obtain⟨b,g,l⟩:=r.some_ _ _ d;exact .inr ⟨tr i j id,b,c,l,by rw[Kd g];exact e,by simp only[l6];exact f⟩
def E7:∀{e f:Env},Fe i j e=some f->∀k c,ah f k=some c->∃d,ah e k=some d/\mJ i j dep d=some c
 |[],f,h,k,c,b=>by
   simp only[Fe,aw]at h;subst h;simp[ah]at b
 |(q,x)::r,f,h,k,c,b=>by
   simp only[Fe]at h;split at h
   .rename_i y m g l;simp only[aw]at h;subst h;rw[aP]at b⊢;split at b
    .cases b;rename_i e;rw[aq e];exact⟨x,rfl,g⟩
    .rename_i e;rw[an e];exact E7 l k c b
   .cases h
end
section
variable{P:Program}{B:Nat}{w0:World}{U0:Nat->Prop}{β:Place}{w:World}{nt:Cx}{s s':St}{a:Act}{cf:aI}
def bH.Qz{b i j:Nat}(L:nt.ns<=b)(h:NY b i j s=some s')(g:bH B w0 U0 nt β s a w):bH B w0 U0 nt (λk=>β (tr i j k)) s' a w/\s'.next=s.next/\s'.marks=s.marks:=by
 unfold NY at h;split at h
 .rename_i z;obtain⟨A,C,m,n⟩:=z;split at h
  .rename_i M N D E;simp only[aw]at h;subst h;have r:=E8 E;refine⟨⟨⟨g.mem.below,g.mem.bsize,g.mem.u0,⟨λid aY l=>?_,λid aY l=>?_,λid aY F y p c O e f t u=>?_⟩,g.mem.tab⟩,λk d G=>?_,g.size,g.defers,?_,?_,g.marks⟩,rfl,rfl⟩
   .obtain⟨o,e,_⟩:=r.xU l;have:=Hz m n (g.mem.h.lt _ _ e)
    rwa [l6]at this
   .obtain⟨o,e,f⟩:=r.xU l;have:=(g.mem.h.aY _ _ e).Qz m n r f;rw[l6]at this;simp only[CJ r];exact this
   .obtain⟨o,k1,_⟩:=r.xU e;obtain⟨Q,k2,_⟩:=r.xU f;have:=g.mem.h.inj _ _ _ _ _ _ _ k1 k2 t u;rw[<-l6 i j id,this,l6]
   .obtain⟨I,e,f⟩:=E7 D k d G;obtain⟨v,t,u⟩:=g.env k I e;refine⟨v,t,?_⟩;simp only[CJ r];exact u.Qz m n r _ _ _ _ f
   .simp only[CJ r];exact g.keeps
   .have q:∀id,id<nt.ns->tr i j id=id:=λid hid=>WJ A C ae
    refine⟨g.cn.next,λid hid x J K l=>?_,λid hid x R l=>?_,λid hid x S l=>?_,λid hid x J K l=>?_⟩
    .obtain⟨o,e,f⟩:=r.xU l;rw[Al f,q id hid]at e;simp only[q id hid];exact g.cn.row id hid _ _ _ e
    .obtain⟨o,e,f⟩:=r.xU l;obtain⟨T,rfl,_⟩:=Ge f;rw[q id hid]at e;simp only[q id hid];exact g.cn.var id hid _ _ e
    .obtain⟨o,e,f⟩:=r.xU l;exact(E0 f).elim
    .obtain⟨o,e,f⟩:=r.xU l;exact(vM f).elim
  .cases h
 .cases h
def bH.wH{b:Nat}(d:nt.ns<=b):∀(e:List Nat) (k:Nat) (s s':St) (β:Place),wH b k e s=some s'->bH B w0 U0 nt β s a w->∃c,bH B w0 U0 nt c s' a w
 |[],k,s,s',β,h,g=>by
  simp only[Go.Dv.wH,aw]at h;subst h;exact⟨β,g⟩
 |x::r,k,s,s',β,h,g=>by
  simp only[Go.Dv.wH]at h;split at h
  .split at h
   .split at h
    .rename_i f l;exact bH.wH d r (k+1) f s' _ h (g.Qz d l).1
    .cases h
   .cases h
  .cases h
def vQ(b:Nat)(H:Heap):∀(n id:Nat) (x:ca),ah (D9 b n H) id=some x->ah H id=some x
 |0,id,x,h=>by
  simp only[D9]at h;have c:=(mC b H id x h).1
  rwa [cP b H id c]at h
 |n+1,id,x,h=>by
  simp only[D9]at h;split at h
  .rename_i y d;rw[aP]at h;split at h
   .rename_i e;cases h;rw[<-e];exact d
   .exact vQ b H n id x h
  .exact vQ b H n id x h
def bH.canon{b:Nat}{d:List Nat}(e:nt.ns<=b)(h:Go.Dv.canon b d s=some s')(g:bH B w0 U0 nt β s a w):∃c,bH B w0 U0 nt c s' a w:=by
 unfold Go.Dv.canon at h;split at h
 .rename_i f k;simp only[aw]at h;subst h;obtain⟨c,l⟩:=bH.wH e d 0 s f β k g;exact⟨c,l.Gp ⟨λid aY m=>⟨aY,vQ b _ _ _ _ m,.inl rfl⟩⟩ λ_ _ h=>h⟩
 .cases h
def vg{b:Nat->Nat}{k:Nat}:∀{l:List Nat},l.Pairwise (λx y=>b x<=b y)->l=l.filter (λx=>decide (b x<k))++l.filter (λx=>!decide (b x<k))
 |[],_=>rfl
 |x::l,h=>by
  obtain⟨e,f⟩:=List.pairwise_cons.1 h;by_cases c:b x<k
  .rw[List.filter_cons_of_pos (by simpa using c),List.filter_cons_of_neg (by simpa using c),List.cons_append,<-vg f]
  .rw[List.filter_cons_of_neg (by simpa using c),List.filter_cons_of_pos (by simpa using c)];have g:l.filter (λx=>decide (b x<k))=[]:=List.filter_eq_nil_iff.2 λy d=>by have:=e y d;simp;omega
   have m:l.filter (λx=>!decide (b x<k))=l:=List.filter_eq_self.2 λy d=>by have:=e y d;simp;omega
   rw[g,m,List.nil_append]
def Cc(d:Nat->Nat)(l:List Nat):∃e:List Nat,e.Perm l/\e.Pairwise (λx y=>d x<=d y):=by
 refine⟨l.mergeSort (λx y=>decide (d x<=d y)),List.mergeSort_perm _ _,?_⟩;have:=List.pairwise_mergeSort (le:=λx y=>decide (d x<=d y)) (λa b c f g=>by simp at f g⊢;omega) (λa b=>by simp;omega) l;exact this.imp λh=>by simpa using h
def FB{f:List Nat}:∀(n:Nat) (l b:List Nat),l.length<=n->b.Perm l->b.Pairwise (λx y=>lY f x<=lY f y)->b∈Da f n l
 |0,l,b,k,c,_=>by
  obtain rfl:l=[]:=List.eq_nil_of_length_eq_zero ae;rw[List.perm_nil.1 c];simp[Da]
 |n+1,l,b,k,c,o=>by
  cases b with
  |nil=>
   obtain rfl:l=[]:=List.nil_perm.1 c;simp[Da]
  |cons m r=>
   have g:m∈l:=c.mem_iff.1 aB;have p:r.Perm (l.erase m):=(List.cons_perm_iff_perm_erase.1 c).2;obtain⟨q,t⟩:=List.pairwise_cons.1 o;have d:(l.erase m).length<=n:=by rw[List.length_erase_of_mem g];omega
   have u:=FB n (l.erase m) r d p t;have h:l.isEmpty=false:=by cases l with
    |nil=>simp at g
    |cons=>rfl
   simp only[Da,h,Bool.false_eq_true,cy];refine List.mem_flatMap.2 ⟨m,List.mem_filter.2 ⟨g,?_⟩,List.mem_map.2 ⟨r,u,rfl⟩⟩;rw[List.all_eq_true];intro x v;simp only[cp];rcases List.mem_cons.1 (c.mem_iff.2 v)with e|e
   .rw[e];exact Nat.le_refl _
   .exact q x e
def qL{f:List (Nat×Nat)}{g:List Nat}{b:List ai}{r:List Oper}(h:rp f g b r=true){i:Nat}{o:Oper}{d:ai}(t:r[i]?=some o)(n:b[i]?=some d):
  (∀p∈direct o,p∈d.dp)/\(∀p∈d.dp,p<b.length/\lY g p<lY g i/\(p∈direct o\/∃q∈direct o,∃e,b[q]?=some e/\p∈e.dp))/\
  ∀j,j<b.length->lY g j<lY g i->j∈d.dp\/(∃e,b[j]?=some e/\iy e d=true)\/((j,i)∈f/\Aj b j i=true):=by
 unfold rp at h;have u:i<b.length:=by
  rcases cK i b.length with c|c
  .exact c
  .rw[List.getElem?_eq_none c]at n;cases n
 have:=List.all_eq_true.1 h i (List.mem_range.2 u);rw[t,n]at this;simp only[aO,List.all_eq_true,cp,iT,List.contains_iff_mem,List.any_eq_true,List.mem_range]at this;obtain⟨⟨v,x⟩,y⟩:=this;refine⟨v,λp z=>?_,λj A D=>?_⟩
 .obtain⟨⟨k1,k2⟩,k3⟩:=x p z;refine⟨k1,k2,?_⟩;rcases k3 with k|⟨q,C,m⟩
  .exact .inl k
  .right;refine⟨q,C,?_⟩;cases l:b[q]? with
   |none=>rw[l]at m;cases m
   |some e=>rw[l]at m;exact⟨e,rfl,by simpa using m⟩
 .rcases y j A with((k|k)|k)|k
  .omega
  .exact .inl k
  .right;left;cases l:b[j]? with
   |none=>rw[l]at k;cases k
   |some e=>rw[l]at k;exact⟨e,rfl,k⟩
  .exact .inr (.inr k)
def KJ{S:List (Nat×Nat)}{t:List Nat}(hc:bS P cf){c:Array Oper}{f:List ai}(hm:b4 P nt.bd c c.toList f=true)(ho:rp S t f c.toList=true){Q:Exit->Act->World->Prop}:
  ∀(u:Nat) (b:Array Bool) (R:List Nat) (s:St) (a:Act) (w:World) (β:Place),R.length<=u->b.size=c.size->R.Nodup->(∀i,i∈R↔i<c.size/\b.getD i true=false)->
   (∀i d,b.getD i false=true->f[i]?=some d->∀p∈d.dp,b.getD p false=true)->bH B w0 U0 nt β s a w->
   (∀L:List Nat,L.Perm R->L.Pairwise (λx y=>lY t x<=lY t y)->∃s',bR cf (todo f L) s=some s'/\jg S f s'.env=true/\∀a' w' T,bH B w0 U0 nt T s' a' w'->Q .normal a' w')->
   wpAny P .any c Q u b a w:=by
 obtain⟨xr,xs⟩:=fI _ _ hm;simp only[jz]at xr;have v:∀(b:Array Bool) (i:Nat),i∈Region.ready .any c b↔i<c.size/\b.getD i true=false/\∃o,c[i]?=some o/\∀p∈direct o,b.getD p false=true:=by
  intro b i;unfold Region.ready;simp only[List.mem_filter,List.mem_range,aO,jW];constructor
  .rintro⟨z,O,h3⟩;have m:=ni z;rw[m]at h3;simp only[Option.map_some,il]at h3;refine⟨z,O,c[i],m,λp n=>?_⟩;unfold direct at n;obtain⟨e,he,rfl⟩:=List.mem_map.1 n;obtain⟨ya,x4⟩:=List.mem_filter.1 he;have:=(tS.1 h3) e (by simpa using ya);simpa[x4]using this
  .rintro⟨z,O,o,m,h3⟩;refine⟨z,O,?_⟩;rw[m];simp only[Option.map_some,il];rw[tS];intro e he;by_cases hb:Region.binds .any e=true
   .simp only[hb,Bool.not_true,Bool.false_or];exact h3 e.on (List.mem_map.2 ⟨e,List.mem_filter.2 ⟨by simpa using he,hb⟩,rfl⟩)
   .simp only[Gx]at hb;simp[hb]
 intro u;induction u with
 |zero=>
  intro b R s a w β hR x5 x6 l V g hd;have yb:R=[]:=List.eq_nil_of_length_eq_zero ae;subst yb;obtain⟨s',z,_,O⟩:=hd [] (List.Perm.refl _) List.Pairwise.nil;simp only[todo,List.filterMap_nil,bR,aw]at z;subst z;refine⟨?_,O _ _ _ g⟩;cases hr:Region.ready .any c b with
  |nil=>rfl
  |cons i r=>
   have:=(v b i).1 (by rw[hr];simp);exact absurd ((l i).2 ⟨this.1,this.2.1⟩) aB
 |succ u ih=>
  intro b R s a w β hR x5 x6 l V g hd;have xg:∀p,p∈R->¬b.getD p false=true:=by
   intro p n z;obtain⟨k1,k2⟩:=(l p).1 n;have xh:p<b.size:=ae;simp[xh]at z k2;rw[z]at k2;cases k2
  constructor
  .intro hr;obtain⟨L,hL,ye⟩:=Cc (lY t) R;cases L with
   |nil=>
    obtain rfl:R=[]:=List.nil_perm.1 hL;obtain⟨s',z,_,O⟩:=hd [] (List.Perm.refl _) List.Pairwise.nil;simp only[todo,List.filterMap_nil,bR,aw]at z;subst z;exact O _ _ _ g
   |cons i r=>
    exfalso;have x7:i∈R:=hL.mem_iff.1 aB;obtain⟨hi,xi⟩:=(l i).1 x7;have m:=ni hi;have D:f[i]?=some (f[i]'ae):=List.getElem?_eq_getElem ae;obtain⟨k1,k2,_⟩:=qL ho (by rw[dZ];exact m) D;have:i∈Region.ready .any c b:=(v b i).2 ⟨hi,xi,_,m,λp n=>by
     obtain⟨q1,q2,_⟩:=k2 p (k1 p n);have xt:p∉R:=by
      intro yf;rcases List.mem_cons.1 (hL.mem_iff.2 yf)with h|h
      .rw[h]at q2;omega
      .have:=(List.pairwise_cons.1 ye).1 p h;omega
     have xh:p<c.size:=ae;have W:¬b.getD p true=false:=λh=>xt ((l p).2 ⟨xh,h⟩)
     have xu:p<b.size:=ae;simp[xu]at W⊢;exact W⟩
    rw[hr]at this;simp at this
  .intro i yg;obtain⟨hi,xi,o,m,x9⟩:=(v b i).1 yg;have D:f[i]?=some (f[i]'ae):=List.getElem?_eq_getElem ae;generalize yy:f[i]'ae=d at D;obtain⟨k1,k2,k3⟩:=qL ho (by rw[dZ];exact m) D;obtain⟨m1,m2,m3⟩:=xs i o d (by rw[dZ];exact m) D;have x7:i∈R:=(l i).2 ⟨hi,xi⟩;have W:∀p∈d.dp,b.getD p false=true:=by
    intro p n;rcases(k2 p n).2.2 with h|⟨q,hq,e,he,E⟩
    .exact x9 p h
    .exact V q e (x9 q hq) he p E
   have xv:∀p∈R,p∉d.dp:=λp n h=>xg p n (W p h)
   have xa:∀L':List Nat,L'.Perm (R.erase i)->L'.Pairwise (λx y=>lY t x<=lY t y)->∃s',bR cf (d::todo f L') s=some s'/\jg S f s'.env=true/\∀a' w' T,bH B w0 U0 nt T s' a' w'->Q .normal a' w':=by
    intro L' xk X;have Y:=vg (k:=lY t i) X;generalize hA:L'.filter (λx=>decide (lY t x<lY t i))=A at Y;generalize hC:L'.filter (λx=>!decide (lY t x<lY t i))=C at Y;have xw:∀x∈A,lY t x<lY t i:=λx I=>by rw[<-hA]at I;simpa using(List.mem_filter.1 I).2
    have yh:∀x∈C,lY t i<=lY t x:=λx I=>by
     rw[<-hC]at I;have:=(List.mem_filter.1 I).2;simp at this;exact this
    have F:(A++i::C).Perm R:=by
     refine List.perm_middle.trans ?_;rw[<-Y];exact(List.Perm.cons i xk).trans (List.perm_cons_erase x7).symm
    rw[Y]at X;obtain⟨p1,p2,p3⟩:=List.pairwise_append.1 X;have G:(A++i::C).Pairwise (λx y=>lY t x<=lY t y):=by
     refine List.pairwise_append.2 ⟨p1,List.pairwise_cons.2 ⟨yh,p2⟩,λx I y hy=>?_⟩;rcases List.mem_cons.1 hy with e|e
     .rw[e];exact Nat.le_of_lt (xw x I)
     .exact p3 x I y e
    obtain⟨s',z,O,h3⟩:=hd _ F G;refine⟨s',?_,O,h3⟩;have xc:(A++i::C).Nodup:=F.nodup_iff.2 x6;have Z:∀x∈A++i::C,x∈R:=λx I=>F.mem_iff.1 I
    have x0:∀x∈A++i::C,x<f.length:=λx I=>by have:=((l x).1 (Z x I)).1;omega
    have yi:qT d (todo f C) s' (todo f A):=by
     have gen:∀(A1 J:List Nat),A=A1++J->qT d (todo f C) s' (todo f J):=by
      intro A1 J;induction J generalizing A1 with
      |nil=>intro _;exact trivial
      |cons q J yj=>
       intro x8;have xx:=yj (A1++[q]) (by rw[x8];simp);have xy:q∈A:=by rw[x8];simp
       have hq:q∈A++i::C:=by simp[xy]
       have M:f[q]?=some (f[q]'(x0 q hq)):=List.getElem?_eq_getElem _;generalize f[q]'(x0 q hq)=e at M;have et:todo f (q::J)=e::todo f J:=by simp only[todo,List.filterMap_cons,M]
       rw[et];refine⟨?_,xx⟩;rcases k3 q (x0 q hq) (xw q xy)with h|⟨e2,x4,N⟩|⟨yk,N⟩
       .exact absurd h (xv q (Z q hq))
       .rw[M]at x4;cases x4;exact .inl N
       .right;unfold Aj at N;rw[M,D]at N;simp only[aO,List.all_eq_true,List.mem_range]at N;obtain⟨⟨⟨c1,c2⟩,c3⟩,c4⟩:=N;refine⟨c1,c2,c3,?_,?_⟩
        .have:=List.all_eq_true.1 O (q,i) yk;simp only[M,D]at this;exact this
        .intro x I;have yl:∃p,p∈J++C/\f[p]?=some x:=by
          rcases List.mem_append.1 I with h|h
          .obtain⟨p,n,E⟩:=List.mem_filterMap.1 h;exact⟨p,by simp[n],E⟩
          .obtain⟨p,n,E⟩:=List.mem_filterMap.1 h;exact⟨p,by simp[n],E⟩
         obtain⟨p,n,E⟩:=yl;have xz:p∈A++i::C:=by
          rcases List.mem_append.1 n with h|h
          .rw[x8];simp[h]
          .simp[h]
         have y0:=x0 p xz;have c5:=c4 p y0;rw[E]at c5;simp only[aO,iT,cw,List.contains_iff_mem]at c5;rw[x8]at xc G;have xd:(q::(J++i::C)).Nodup:=by
          have:=(List.append_assoc A1 (q::J) (i::C))▸xc;have:=(List.nodup_append.1 this).2.1;simpa using this
         have ym:(q::(J++i::C)).Pairwise (λx y=>lY t x<=lY t y):=by
          have:=(List.append_assoc A1 (q::J) (i::C))▸G;have:=(List.pairwise_append.1 this).2.1;simpa using this
         have y1:p∈J++i::C:=by
          rcases List.mem_append.1 n with h|h
          .simp[h]
          .simp[h]
         have yn:p≠q:=λe=>(List.nodup_cons.1 xd).1 (e▸y1)
         have ze:=(List.pairwise_cons.1 ym).1 p y1;have yo:p≠i:=by
          rintro rfl;have yp:=(List.nodup_cons.1 xd).2;have y2:=(List.nodup_append.1 yp);rcases List.mem_append.1 n with h|h
          .exact y2.2.2 p h p aB rfl
          .exact(List.nodup_cons.1 y2.2.1).1 h
         refine⟨?_,?_⟩
         .rcases c5.1 with(h|h)|h
          .exact absurd h yn
          .exfalso;have yq:c[q]?=some (c[q]'(by have:=x0 q hq;omega)):=ni _;obtain⟨_,z2,_⟩:=qL ho (by rw[dZ];exact yq) M;have:=(z2 p h).2.1;omega
          .exact h
         .rcases c5.2 with(h|h)|h
          .exact absurd h yo
          .exact absurd h (xv p (Z p xz))
          .exact h
     exact gen [] A rfl
    have xl:todo f (A++i::C)=todo f A++d::todo f C:=by
     simp only[todo,List.filterMap_append,List.filterMap_cons,D]
    rw[xl]at z;have:=rN _ _ yi z;rw[Y,show todo f (A++C)=todo f A++todo f C from by simp[todo,List.filterMap_append]];exact this
   obtain⟨L0,yr,y3⟩:=Cc (lY t) (R.erase i);obtain⟨s0,xm,_,_⟩:=xa L0 yr y3;simp only[bR]at xm;cases xn:cM cf d s with
   |none=>rw[xn]at xm;cases xm
   |some s1=>
    have aH:∀k,(b.setIfInBounds i true).getD k true=if k=i then true else b.getD k true:=by
     intro k;rw[dA,dA];by_cases e:k=i
     .subst e;simp[x5,hi]
     .rw[kL (λh=>e h.symm),an e]
    have x1:∀k,(b.setIfInBounds i true).getD k false=true↔k=i\/b.getD k false=true:=by
     intro k;rw[dA,dA];by_cases e:k=i
     .subst e;simp[x5,hi]
     .rw[kL (λh=>e h.symm)];simp[e]
    have y4:=jk (P:=P) (ops:=c) (Q:=Q) hc g m1 m2 m3 xn (K:=wpAny P .any c Q u (b.setIfInBounds i true)) λa' w' T g'=>by
     refine ih (b.setIfInBounds i true) (R.erase i) s1 a' w' T (by rw[List.length_erase_of_mem x7];omega) (by simp[x5]) (x6.erase i) ?_ ?_ g' ?_
     .intro k;rw[aH,x6.mem_erase_iff];constructor
      .rintro⟨xo,hk⟩;obtain⟨g1,g2⟩:=(l k).1 hk;rw[an xo];exact⟨g1,g2⟩
      .rintro⟨g1,g2⟩;split at g2
       .cases g2
       .rename_i xo;exact⟨xo,(l k).2 ⟨g1,g2⟩⟩
     .intro k e hk he p n;rw[x1];rcases(x1 k).1 hk with h|h
      .subst h;rw[D]at he;cases he;exact .inr (W p n)
      .exact .inr (V k e h he p n)
     .intro L' xk X;obtain⟨s',z,O,h3⟩:=xa L' xk X;simp only[bR,xn]at z;exact⟨s',z,O,h3⟩
    unfold wpOp;rw[m];exact y4
def C5(R:bS P cf)(x:P.follows .mixedOrders=true){id:Nat}{b:Array Oper}{m:List (Nat×Nat)}{J:List Nat}{c:List (List Nat)}{K:List Nat}{p:List ai}(M:b4 P nt.bd b b.toList p=true)(S:rp m J p b.toList=true)(y:((Da J p.length (List.range p.length)).all λl=>c.contains l)=true)
  (g:bH B w0 U0 nt β s a w){D:St}(f:vp cf p m K c s=some D)
  {Q:Exit->Act->World->Prop}(T:∀q t k,bH B w0 U0 nt k D q t->Q .normal q t):(Code.region id b true).wp P Q a w:=by
 obtain⟨n,_⟩:=fI _ _ M;simp only[jz]at n;refine wp_region_any x ?_;have V:bH B w0 U0 nt β s a w.drew:=by
  obtain⟨W,k1⟩:=g.mem.call (eA w.heap.size w);refine⟨W,λi d f=>?_,g.size,g.defers,g.keeps.trans k1,g.cn,g.marks⟩;obtain⟨v,E,F⟩:=g.env i d f;exact⟨v,E,F.cn k1 (ku.refl _ _ _)⟩
 have G:nt.ns<=s.next:=g.cn.next;refine KJ R M S b.size (Array.replicate b.size false) (List.range b.size) s a w.drew β aB aB List.nodup_range (λi=>?_) (λi d h _=>?_) V ?_
 .simp only[List.mem_range];constructor
  .intro h;exact⟨h,by simp[h]⟩
  .exact λh=>h.1
 .exfalso;by_cases X:i<b.size<;>simp[X]at h
 .intro L Y Z;have o:L∈c:=by
   have E:=FB p.length (List.range p.length) L aB (by rw[<-n];exact Y) Z;simpa using List.all_eq_true.1 y L E
  have z:∀s',Go.Dv.canon s.next K s'=some D->∀q t k,bH B w0 U0 nt k s' q t->Q .normal q t:=λs' h q t k gg=>by
   obtain⟨I,g2⟩:=gg.canon G h;exact T q t I g2
  unfold vp at f;cases c with
  |nil=>cases o
  |cons l r=>
   simp only at f;split at f
   .rename_i N h0;split at f
    .rename_i A;split at f
     .rename_i x3 C;split at f
      .rename_i u;simp only[aw]at f;subst f;rcases List.mem_cons.1 o with e|e
       .subst e;exact⟨N,h0,A,z N C⟩
       .obtain⟨O,F,h3,h4⟩:=u L e;exact⟨O,F,h3,z O h4⟩
      .cases f
     .cases f
    .cases f
   .cases f
end
end
end Go.Dv
