/- Texts that the law leans on, part 40. No conditions. -/
import Derived.Test.YtnpliafeboadcaaGreatK38
section
namespace Go.Proofs.aaa
open Go.bA Go.IntWalk
section
variable{α:Type}{key:α->Int}{c:α}
theorem abH:∀{l:List α}{x:α},x∈wth key c l->x=c\/x∈l
 |[],x,h=>by unfold wth at h;exact .inl (by simpa using h)
 |y::l,x,h=>by
  unfold wth at h;split at h
  ·rcases List.mem_cons.1 h with rfl|h
   ·exact .inr List.mem_cons_self
   ·rcases abH h with h|h
    ·exact .inl h
    ·exact .inr (List.mem_cons_of_mem _ h)
  ·split at h
   ·rcases List.mem_cons.1 h with rfl|h
    ·exact .inl rfl
    ·exact .inr (List.mem_cons_of_mem _ h)
   ·rcases List.mem_cons.1 h with rfl|h
    ·exact .inl rfl
    ·exact .inr h
theorem vG:∀{l:List α},bU key l->bU key (wth key c l)
 |[],_=>by unfold wth;exact List.pairwise_singleton _ _
 |y::l,hs=>by
  obtain⟨h1,h2⟩:=List.pairwise_cons.1 hs;unfold wth;split
  ·rename_i h3;refine List.pairwise_cons.2 ⟨λz hz=> ?_,vG h2⟩;rcases abH hz with rfl|hz
   ·exact h3
   ·exact h1 z hz
  ·split
   ·rename_i h3 h4;exact List.pairwise_cons.2 ⟨λz hz=>by have:=h1 z hz;omega,h2⟩
   ·rename_i h3 h4;refine List.pairwise_cons.2 ⟨λz hz=> ?_,hs⟩;rcases List.mem_cons.1 hz with rfl|hz
    ·omega
    ·have:=h1 z hz;omega
theorem DL:∀{l:List α},bU key l->∀(n:Int),bq key (wth key c l) n=if key c=n then some c else bq key l n
 |[],_,n=>by unfold wth;rw[dY]
 |y::l,hs,n=>by
  obtain⟨h1,h2⟩:=List.pairwise_cons.1 hs;unfold wth;split
  ·rename_i h3;rw[dY,dY,DL h2];by_cases hy:key y=n
   ·rw[if_pos hy,if_neg (by omega),if_pos hy]
   ·rw[if_neg hy,if_neg hy]
  ·split
   ·rename_i h3 h4;rw[dY,dY];by_cases hc:key c=n
    ·rw[if_pos hc,if_pos hc]
    ·rw[if_neg hc,if_neg hc,if_neg (by omega)]
   ·rw[dY]
theorem qB {l:List α}(hs:bU key l){x:α}(h:x∈iw key l c):x=c\/x∈l:=by rw[u9 key c hs]at h;exact abH h
theorem kJ {l:List α}(hs:bU key l):bU key (iw key l c):=by rw[u9 key c hs];exact vG hs
theorem lK {l:List α}(hs:bU key l)(n:Int):bq key (iw key l c) n=if key c=n then some c else bq key l n:=by rw[u9 key c hs];exact DL hs n
theorem A9 {l:List α}(h:bq key l (key c)=none):bt l (eO key l (key c)) c=iw key l c:=by unfold iw;rw[h];rfl
theorem pG:∀{l:List α}(m n:Int),bq key (l.filter λq=>decide (key q≠m)) n=if n=m then none else bq key l n
 |[],m,n=>by simp[bq]
 |y::l,m,n=>by
  by_cases hy:key y=m
  ·rw[List.filter_cons_of_neg (by simp[hy]),pG,dY];by_cases hn:n=m
   ·rw[if_pos hn,if_pos hn]
   ·rw[if_neg hn,if_neg hn,if_neg (by omega)]
  ·rw[List.filter_cons_of_pos (by simp[hy]),dY,dY,pG];by_cases hn:n=m
   ·rw[if_pos hn,if_neg (by omega),if_pos hn]
   ·rw[if_neg hn,if_neg hn]
theorem wP {l:List α}(hs:bU key l)(p:α->Bool):bU key (l.filter p):=List.Pairwise.filter p hs
theorem mC:∀{l:List α},bU key l->∀{x:α},x∈l->bq key l (key x)=some x
 |[],_,x,h=>by cases h
 |y::l,hs,x,h=>by
  obtain⟨h1,h2⟩:=List.pairwise_cons.1 hs;rw[dY];rcases List.mem_cons.1 h with rfl|h
  ·rw[if_pos rfl]
  ·have:=h1 x h;rw[if_neg (by omega),mC h2 h]
def dI {α:Type}(f:α->Int)(l:List α):Int:=(l.map f).sum
theorem cQ {α:Type}(f:α->Int)(x:α)(l:List α):dI f (x::l)=f x+dI f l:=by simp[dI]
theorem iP {α:Type}{f g:α->Int}:∀{l:List α},(∀x∈l,f x=g x)->dI f l=dI g l
 |[],_=>rfl
 |x::l,h=>by rw[cQ,cQ,h x List.mem_cons_self,iP λy hy=>h y (List.mem_cons_of_mem _ hy)]
theorem kK {α:Type}{f:α->Int}:∀{l:List α},(∀x∈l,0<=f x)->0<=dI f l
 |[],_=>Int.le_refl _
 |x::l,h=>by rw[cQ];have:=h x List.mem_cons_self;have:=kK λy hy=>h y (List.mem_cons_of_mem _ hy);omega
theorem tZ {α:Type}{f:α->Int}:∀{l:List α},(∀x∈l,0<=f x)->∀{x:α},x∈l->f x<=dI f l
 |[],_,x,h=>by cases h
 |y::l,hn,x,h=>by
  rw[cQ];have h0:=hn y List.mem_cons_self;have h1:=kK λz hz=>hn z (List.mem_cons_of_mem _ hz);rcases List.mem_cons.1 h with rfl|h
  ·omega
  ·have:=tZ (λz hz=>hn z (List.mem_cons_of_mem _ hz)) h;omega
theorem HL {l:List α}(hs:bU key l){x:α}(hx:x∈l){f g:α->Int}(h:∀y∈l,key y≠key x->f y=g y):dI f l=dI g l -g x+f x:=by
 induction l with
 |nil=>cases hx
 |cons y l ih=>
  obtain⟨h1,h2⟩:=List.pairwise_cons.1 hs;rw[cQ,cQ];rcases List.mem_cons.1 hx with rfl|hx
  ·rw[iP λz hz=>h z (List.mem_cons_of_mem _ hz) (by have:=h1 z hz;omega)];omega
  ·have:=ih h2 hx λz hz=>h z (List.mem_cons_of_mem _ hz);rw[this,h y List.mem_cons_self (by have:=h1 x hx;omega)];omega
theorem nC {α:Type}(f:α->Int)(a b:List α):dI f (a++b)=dI f a+dI f b:=by simp[dI]
theorem A_ (f:α->Int)(l:List α)(i:Nat)(x:α):dI f (bt l i x)=dI f l+f x:=by
 have e2:dI f l=dI f (l.take i)+dI f (l.drop i):=by rw[<-nC,List.take_append_drop]
 unfold bt;rw[nC,cQ,e2];omega
end
end Go.Proofs.aaa
end
section
namespace Go.Proofs.aaa
open Go.bA Go.IntWalk
def dD (l:List aU)(i w:Int):Int:=dI (λx=>if x.item=i/\x.aE=w then x.gF else 0) l
theorem rU (x:aU)(l:List aU)(i w:Int):dD (x::l) i w=(if x.item=i/\x.aE=w then x.gF else 0)+dD l i w:=cQ _ _ _
def iD (k:Int)(c:Cell):Int:=if k=1 then c.free else if k=2 then c.held else if k=3 then c.held else c.out
abbrev jv (x:aU):Prop:=Kn x.item x.aE/\1<=x.gF/\x.gF<=1048576
theorem Ba {l:List aU}(h:∀x∈l,jv x)(i w:Int):0<=dD l i w:=kK λx hx=>by
 have:=(h x hx).2.1;split<;>omega
theorem Kd {l:List aU}(h:∀x∈l,jv x){x:aU}(hx:x∈l):x.gF<=dD l x.item x.aE:=by
 have:=tZ (f:=λy:aU=>if y.item=x.item/\y.aE=x.aE then y.gF else 0) (λy hy=>by
  have:=(h y hy).2.1;split<;>omega) hx
 unfold dD;simpa using this
theorem rV {k:Int}(hk:1<=k){c:Cell}{n:Int}:mq k c n↔n<=iD k c:=by
 unfold mq iD;rw[if_neg (by omega)]
 repeat' split
 all_goals exact Iff.rfl
theorem HM (k:Int)(c:Cell):oJ k c 0=c:=by
 unfold oJ;repeat' split
 all_goals (obtain⟨_,_,_,_,_,_⟩:=c;simp)
theorem Ke (k:Int)(c:Cell)(a b:Int):oJ k (oJ k c a) b=oJ k c (a+b):=by
 unfold oJ;repeat' split
 all_goals (simp only[Cell.mk.injEq,true_and,and_true];omega)
theorem Kf {k:Int}(hk:1<=k/\k<=4)(c:Cell)(n:Int):iD k (oJ k c n)=iD k c -n:=by
 have:k=1\/k=2\/k=3\/k=4:=by omega
 rcases this with rfl|rfl|rfl|rfl<;>rfl
theorem DM {k:Int}(hk:1<=k/\k<=4)(c:Cell)(n:Int):(oJ k c n).all=c.all:=by
 have:k=1\/k=2\/k=3\/k=4:=by omega
 rcases this with rfl|rfl|rfl|rfl<;>rfl
theorem HN {k:Int}(hk:0<=k/\k<=4){c:Cell}{n:Int}(hc:ew c=true)(hn:1<=n)(ho:mq k c n)(ha:(oJ k c n).all<=1125899906842624):ew (oJ k c n)=true:=by
 rw[b8]at hc⊢;have:k=0\/k=1\/k=2\/k=3\/k=4:=by omega
 rcases this with rfl|rfl|rfl|rfl|rfl;all_goals (simp[oJ,mq]at ho ha⊢;omega)
theorem mD {k:Int}{l:List Cell}{i w n:Int}(h:(cm k l i w n).2=0):b7 l=true/\Kn i w/\1<=n/\n<=1048576/\mq k (cellOf l i w) n/\(oJ k (cellOf l i w) n).all<=1125899906842624/\(cm k l i w n).1=iw Cell.key l (oJ k (cellOf l i w) n):=by
 unfold cm at h⊢;by_cases h0:dN l i w=0
 case neg=>rw[if_pos h0]at h;exact absurd h h0
 rw[if_neg (λe=>e h0)]at h⊢;by_cases h1:n<1\/n>1048576
 ·rw[if_pos h1]at h;exact absurd h (by decide)
 rw[if_neg h1]at h⊢;by_cases h2:¬mq k (cellOf l i w) n
 ·rw[if_pos h2]at h;exact absurd h (by decide)
 rw[if_neg h2]at h⊢;by_cases h3:(oJ k (cellOf l i w) n).all>1125899906842624
 ·rw[if_pos h3]at h;exact absurd h (by decide)
 rw[if_neg h3]at h⊢;by_cases h4:(bq Cell.key l (i*2000+w)).isSome=false/\l.length>=4096
 ·rw[if_pos h4]at h;exact absurd h (by decide)
 rw[if_neg h4];obtain⟨a,b⟩:=j3 h0;exact⟨a,b,by omega,by omega,Decidable.not_not.1 h2,by omega,rfl⟩
theorem xO {k:Int}{l:List Cell}{i w n:Int}(hok:b7 l=true)(hk:Kn i w):Cell.key (oJ k (cellOf l i w) n)=i*2000+w:=by
 obtain⟨_,f2,f3⟩:=cZ hok hk;unfold Cell.key;rw[tV.1,tV.2,f2,f3]
theorem nD {k:Int}(hk:0<=k/\k<=4){l:List Cell}{i w n:Int}(h:(cm k l i w n).2=0):b7 (cm k l i w n).1=true:=by
 have hlen:=rN (k:=k) (l:=l) (i:=i) (w:=w) (n:=n);obtain⟨h1,h2,h3,h4,h5,h6,h7⟩:=mD h;obtain⟨c1,c2,c3⟩:=cE.1 h1;rw[cE];refine⟨hlen,λc hc=> ?_, ?_⟩
 ·rw[h7]at hc;rcases qB c3 hc with rfl|hc
  ·exact HN hk (cZ h1 h2).1 h3 h5 h6
  ·exact c2 c hc
 ·rw[h7];exact kJ c3
theorem Bb {k:Int}{l:List Cell}{i w n:Int}(h:(cm k l i w n).2=0){i' w':Int}(hk':Kn i' w'):cellOf (cm k l i w n).1 i' w'=if i=i'/\w=w' then oJ k (cellOf l i w) n else cellOf l i' w':=by
 obtain⟨h1,h2,h3,h4,h5,h6,h7⟩:=mD h;obtain⟨c1,c2,c3⟩:=cE.1 h1;rw[h7];have hkey:=xO (k:=k) (n:=n) h1 h2;obtain⟨c,hc⟩:∃c,oJ k (cellOf l i w) n=c:=⟨_,rfl⟩;rw[hc]at hkey⊢;unfold cellOf;rw[lK c3,hkey];by_cases e:i=i'/\w=w'
 ·obtain⟨rfl,rfl⟩:=e;rw[if_pos rfl,if_pos ⟨rfl,rfl⟩]
 ·rw[if_neg e,if_neg (by omega)]
theorem Bc {l:List Cell}{i w:Int}(h:1<=(cellOf l i w).free\/1<=(cellOf l i w).held\/1<=(cellOf l i w).out):(bq Cell.key l (i*2000+w)).isSome=true:=by
 unfold cellOf at h;cases hf:bq Cell.key l (i*2000+w)with
 |some c=>rfl
 |none=>rw[hf]at h;simp at h
theorem xP {k:Int}{l:List Cell}{i w:Int}(h:1<=iD k (cellOf l i w)):(bq Cell.key l (i*2000+w)).isSome=true:=by
 refine Bc ?_;unfold iD at h
 repeat' split at h
 ·exact .inl h
 ·exact .inr (.inl h)
 ·exact .inr (.inl h)
 ·exact .inr (.inr h)
theorem CP {k:Int}(hk:1<=k/\k<=4){l:List Cell}{i w n:Int}(h:(cm k l i w n).2=0)(m:Int):(bq Cell.key (cm k l i w n).1 m).isSome=(bq Cell.key l m).isSome:=by
 obtain⟨h1,h2,h3,h4,h5,h6,h7⟩:=mD h;obtain⟨c1,c2,c3⟩:=cE.1 h1;rw[h7,lK c3,show Cell.key _=_ from xO h1 h2];by_cases e:i*2000+w=m
 ·subst e;rw[if_pos rfl,xP (k:=k) (by have:=(rV hk.1).1 h5;omega)];rfl
 ·rw[if_neg e]
theorem xQ {k:Int}(hk:1<=k/\k<=4){l:List Cell}{i w n:Int}(hok:b7 l=true)(hk':Kn i w)(hn:1<=n/\n<=1048576)(h:n<=iD k (cellOf l i w)):(cm k l i w n).2=0:=by
 have h0:dN l i w=0:=by unfold dN;rw[if_neg (by rw[hok];decide),if_pos hk']
 unfold cm;have hf:=(cZ hok hk').1;rw[b8]at hf;rw[if_neg (λe=>e h0),if_neg (by omega),if_neg (λe=>e ((rV hk.1).2 h)),if_neg (by rw[DM hk];omega),if_neg (λe=>by rw[xP (k:=k) (by omega)]at e;cases e.1)]
theorem HO {k:Int}(hk:1<=k/\k<=4){l:List Cell}{i w n:Int}(hok:b7 l=true)(hk':Kn i w)(hn:1<=n/\n<=1048576)(h:¬n<=iD k (cellOf l i w)):cm k l i w n=([],13):=by
 have h0:dN l i w=0:=by unfold dN;rw[if_neg (by rw[hok];decide),if_pos hk']
 unfold cm;rw[if_neg (λe=>e h0),if_neg (by omega),if_pos (λe=>h ((rV hk.1).1 e))]
theorem nE {k:Int}(hk:0<=k/\k<=4):∀{lines:List aU}{l:List Cell},b7 l=true->(bV k l lines).2=0->
  b7 (bV k l lines).1=true/\(∀x∈lines,jv x)/\(∀i w,Kn i w->cellOf (bV k l lines).1 i w=oJ k (cellOf l i w) (dD lines i w))/\(1<=k->∀m,(bq Cell.key (bV k l lines).1 m).isSome=(bq Cell.key l m).isSome)
 |[],l,hok,h=>⟨hok,λ_ h=>(by cases h),λi w _=>(HM _ _).symm,λ_ _=>rfl⟩
 |x::r,l,hok,h=>by
  unfold bV at h⊢;by_cases he:(cm k l x.item x.aE x.gF).2≠0
  ·rw[if_pos he]at h;exact absurd h he
  rw[if_neg he]at h⊢;have he:(cm k l x.item x.aE x.gF).2=0:=by omega
  obtain⟨h1,h2,h3,h4,-,-,-⟩:=mD he;obtain⟨i1,i2,i3,i4⟩:=nE hk (nD hk he) h;refine⟨i1,λy hy=> ?_,λi w hw=> ?_,λh1 m=> ?_⟩
  ·rcases List.mem_cons.1 hy with rfl|hy
   ·exact⟨h2,h3,h4⟩
   ·exact i2 y hy
  ·rw[i3 i w hw,Bb he hw,rU];by_cases e:x.item=i/\x.aE=w
   ·rw[if_pos e,if_pos e,Ke,e.1,e.2]
   ·rw[if_neg e,if_neg e,Int.zero_add]
  ·rw[i4 h1,CP ⟨h1,hk.2⟩ he]
theorem sV {k:Int}(hk:1<=k/\k<=4){x:aU}{r:List aU}{l:List Cell}(he:(cm k l x.item x.aE x.gF).2=0):
  (∀i w,Kn i w->dD (x::r) i w<=iD k (cellOf l i w))↔∀i w,Kn i w->dD r i w<=iD k (cellOf (cm k l x.item x.aE x.gF).1 i w):=by
 have key:∀i w,Kn i w->(dD (x::r) i w<=iD k (cellOf l i w)↔dD r i w<=iD k (cellOf (cm k l x.item x.aE x.gF).1 i w)):=λi w hw=>by
  rw[Bb he hw,rU];by_cases e:x.item=i/\x.aE=w
  ·rw[if_pos e,if_pos e,Kf hk,e.1,e.2];omega
  ·rw[if_neg e,if_neg e,Int.zero_add]
 exact⟨λh i w hw=>(key i w hw).1 (h i w hw),λh i w hw=>(key i w hw).2 (h i w hw)⟩
theorem vH {k:Int}(hk:1<=k/\k<=4):∀{lines:List aU}{l:List Cell},b7 l=true->(∀x∈lines,jv x)->(∀i w,Kn i w->dD lines i w<=iD k (cellOf l i w))->(bV k l lines).2=0
 |[],_,_,_,_=>rfl
 |x::r,l,hok,hq,h=>by
  have hx:=hq x List.mem_cons_self;have he:=xQ hk hok hx.1 hx.2 (Int.le_trans (Kd hq List.mem_cons_self) (h _ _ hx.1));unfold bV;rw[if_neg (λe=>e he)];exact vH hk (nD ⟨by omega,hk.2⟩ he) (λy hy=>hq y (List.mem_cons_of_mem _ hy)) ((sV hk he).1 h)
theorem rW {k:Int}(hk:1<=k/\k<=4):∀{lines:List aU}{l:List Cell},b7 l=true->(∀x∈lines,jv x)->¬(∀i w,Kn i w->dD lines i w<=iD k (cellOf l i w))->bV k l lines=([],13)
 |[],l,hok,_,h=>by
  refine absurd (λi w hw=> ?_) h;have hf:=(cZ hok hw).1;rw[b8]at hf;show(0:Int)<=_;unfold iD;repeat' split
  all_goals omega
 |x::r,l,hok,hq,h=>by
  have hx:=hq x List.mem_cons_self;by_cases hh:x.gF<=iD k (cellOf l x.item x.aE)
  ·have he:=xQ hk hok hx.1 hx.2 hh;unfold bV;rw[if_neg (λe=>e he)];exact rW hk (nD ⟨by omega,hk.2⟩ he) (λy hy=>hq y (List.mem_cons_of_mem _ hy)) (λh'=>h ((sV hk he).2 h'))
  ·unfold bV;rw[HO hk hok hx.1 hx.2 hh];rfl
end Go.Proofs.aaa
end
section
namespace Go.Proofs.aaa
open Go.bA Go.IntWalk
theorem vI {α:Type}{key:α->Int}:∀{l:List α}{a b:Int},bU key l->a<=b->(∀x∈l,a<key x/\key x<=b)->(l.length:Int)<=b -a
 |[],a,b,_,h,_=>by simp;omega
 |y::l,a,b,hs,h,hb=>by
  obtain⟨h1,h2⟩:=List.pairwise_cons.1 hs;have hy:=hb y List.mem_cons_self;have:=vI (a:=key y) (b:=b) h2 (by omega) λx hx=>⟨h1 x hx,(hb x (List.mem_cons_of_mem _ hx)).2⟩;simp only[List.length_cons];omega
theorem E8 (b:aF)(hr:bU aQ.order b.aK)(q:aQ)(ps:List au)(n:Int):aG ⟨fu b.aK q,ps⟩ n=if n=q.order then q else aG b n:=by
 unfold aG fu;by_cases hn:jt q=true
 ·simp only[if_pos hn];rw[pG];by_cases e:n=q.order
  ·rw[if_pos e,if_pos e];unfold jt at hn;rw[decide_eq_true_eq]at hn;obtain⟨a,b,c,d⟩:=q;simp only at hn e⊢;rw[hn.1,hn.2.1,hn.2.2,e]
  ·rw[if_neg e,if_neg e]
 ·simp only[if_neg hn];rw[lK hr];by_cases e:n=q.order
  ·rw[if_pos e,if_pos e.symm]
  ·rw[if_neg e,if_neg (λh=>e h.symm)]
theorem abI {b:aF}{x:au}(h:bO b)(hx:eH x=true)(hl:b.ak.length<16384)(hb:wg (dV (aG b x.order) x)=true)(hp:0<=(dV (aG b x.order) x).bC/\(dV (aG b x.order) x).aX<=(dV (aG b x.order) x).aT):
  (j6 b x).2=0/\bO (j6 b x).1/\(j6 b x).1.ak=b.ak++[x]/\∀n,aG (j6 b x).1 n=if n=x.order then dV (aG b x.order) x else aG b n:=by
 unfold j6;rw[if_neg (by omega),if_pos hb];obtain⟨q,hq⟩:∃q,dV (aG b x.order) x=q:=⟨_,rfl⟩;have hqo:q.order=x.order:=by rw[<-hq,CG,kH]
 have hxf:=dH.1 hx;have Q7:∀n,aG ⟨fu b.aK q,b.ak++[x]⟩ n=if n=x.order then q else aG b n:=λn=>by rw[E8 b h.rising,hqo]
 have hsum:∀n,f_ (b.ak++[x]) n=some (aG ⟨fu b.aK q,b.ak++[x]⟩ n):=λn=>by
  rw[Q7];by_cases e:n=x.order
  ·subst e;rw[if_pos rfl,h.aaB,if_pos hb,hq]
  ·rw[if_neg e,f_,j5,show fZ n _ b.ak=_ from h.zg n,Option.bind_some,fZ,if_neg (λh=>e h.symm)];rfl
 have hr:bU aQ.order (fu b.aK q):=by
  unfold fu;split
  ·exact wP h.rising _
  ·exact kJ h.rising
 have hmem:∀p∈fu b.aK q,1<=p.order/\p.order<=1024/\jt p=false/\0<=p.bC/\p.aX<=p.aT:=λp BW=>by
  unfold fu at BW;split at BW
  ·have:=h.aK p (List.mem_filter.1 BW).1;exact⟨this.1,this.2.1,this.2.2.1,this.2.2.2.1,this.2.2.2.2.1⟩
  ·rename_i hn;rcases qB h.rising BW with rfl|hm
   ·rw[hq]at hp;exact⟨by omega,by omega,by simpa using hn,hp.1,hp.2⟩
   ·have:=h.aK p hm;exact⟨this.1,this.2.1,this.2.2.1,this.2.2.2.1,this.2.2.2.2.1⟩
 rw[hq];refine⟨rfl, ?_,rfl,Q7⟩;constructor
 ·have:=vI (a:=0) (b:=1024) hr (by omega) λp hp=>by have:=hmem p hp;omega
  show(fu b.aK q).length<=1024;omega
 ·show(b.ak++[x]).length<=16384;rw[List.length_append];simp;omega
 ·intro y hy;rcases List.mem_append.1 hy with hy|hy
  ·exact h.i_ y hy
  ·rw[List.mem_singleton]at hy;subst hy;exact hx
 ·exact hr
 ·intro p BW;obtain⟨h1,h2,h3,h4,h5⟩:=hmem p BW;refine⟨h1,h2,h3,h4,h5, ?_⟩;show f_ (b.ak++[x]) p.order=some p;rw[hsum];unfold aG;rw[mC hr BW]
 ·intro y _;exact hsum y.order
theorem DN:∀{l:List ah}{last:Int},bU ah.order l->(∀x∈l,last<x.order/\x.order<=1024/\x.state≠0/\x.state<7)->fR last l=true
 |[],_,_,_=>rfl
 |x::l,last,hs,h=>by
  obtain⟨h1,h2⟩:=List.pairwise_cons.1 hs;have hx:=h x List.mem_cons_self;have:=DN (last:=x.order) h2 λy hy=>by
   have:=h y (List.mem_cons_of_mem _ hy);exact⟨h1 y hy,this.2⟩
  unfold fR;simp[hx,this]
theorem sW (s m:Int):0<=ig s m/\ig s m<7:=by
 unfold ig;repeat' split
 all_goals omega
theorem Kg {l:List ah}{n m:Int}(h:fR 0 l=true)(hw:∀x∈l,0<=x.state)(hn:1<=n/\n<=1024)(hm:1<=m/\m<7)(hs:ig (cz l n) m≠0):
  fE l n m 0=0/\fR 0 (dz l n m 0)=true/\(∀x∈dz l n m 0,0<=x.state)/\∀k,cz (dz l n m 0) k=if k=n then ig (cz l n) m else cz l k:=by
 obtain⟨hr,hb⟩:=kL h;have h7:cz l n<7:=by
  unfold cz;split
  ·rename_i x hx;exact(hb x (b_ _ hx).1).2.2.2
  ·decide
 have e0:fE l n m 0=0:=by
  have e:sX l n=0:=if_pos ⟨h,hn⟩;have e2:iX (cz l n) m=0:=by unfold iX;rw[if_neg (show¬(cz l n>=7\/m<=0\/m>=7) by omega),if_neg hs]
  unfold fE;rw[e,e2];simp
 have e1:dz l n m 0=iw ah.order l ⟨n,ig (cz l n) m⟩:=by unfold dz;rw[if_pos e0]
 have hmr:=sW (cz l n) m;refine⟨e0, ?_, ?_,λk=> ?_⟩
 ·rw[e1];refine DN (kJ hr) λx hx=> ?_;rcases qB hr hx with rfl|hx
  ·exact⟨by show(0:Int)<n;omega,by show n<=1024;omega,hs,hmr.2⟩
  ·exact hb x hx
 ·rw[e1];intro x hx;rcases qB hr hx with rfl|hx
  ·exact hmr.1
  ·exact hw x hx
 ·rw[e1];unfold cz;rw[lK hr];by_cases e:k=n
  ·subst e;rw[if_pos rfl,if_pos rfl]
  ·rw[if_neg e,if_neg (show¬n=k fromλh=>e h.symm)]
end Go.Proofs.aaa
end
