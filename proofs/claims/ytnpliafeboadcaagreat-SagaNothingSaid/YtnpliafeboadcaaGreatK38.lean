/- Texts that the law leans on, part 38. No conditions. -/
import Derived.Test.YtnpliafeboadcaaGreatK17
import Derived.Test.YtnpliafeboadcaaGreatK26
import Derived.Lib.Strings
import Derived.Lib.Bytealg
section
namespace Go.Proofs.aaa
open Go.bA Go.IntWalk
def oI {α σ ρ:Type}(f:σ->Int->α->σ⊕ρ):List α->Int->σ->σ⊕ρ
 |[],_,s=>.inl s
 |x::l,i,s=>match f s i x with| .inl s'=>oI f l (i+1) s'| .inr r=>.inr r
theorem xD {α σ ρ:Type}{step:σ->Int->α->Option (σ⊕ρ)}{f:σ->Int->α->σ⊕ρ}(Inv:Int->σ->Prop):∀(l pre:List α)(i:Int)(s:σ),i=(pre.length:Int)->Inv i s->
  (∀(j:Int) x s,0<=j->(pre++l)[j.toNat]?=some x->Inv j s->step s j x=some (f s j x)/\∀s',f s j x=.inl s'->Inv (j+1) s')->gY step l i s=some (oI f l i s)
 |[],_,_,_,_,_,_=>rfl
 |x::l,pre,i,s,hi,hs,h=>by
  obtain⟨h1,h2⟩:=h i x s (by omega) (by rw[hi,Int.toNat_natCast,List.getElem?_append_right (Nat.le_refl _)];simp) hs;simp only[gY,oI,h1,Option.bind]
  cases hf:f s i x with
  |inl s'=>
   exact xD Inv l (pre++[x]) (i+1) s' (by simp;omega) (h2 s' hf) (by simpa using h)
  |inr r=>rfl
theorem rL {α σ ρ:Type}{step:σ->Int->α->Option (σ⊕ρ)}{l:List α}{s0:σ}(f:σ->Int->α->σ⊕ρ)(Inv:Int->σ->Prop)(hl:l.length<=4611686018427387904)(h0:Inv 0 s0)
  (h:∀(j:Int) x s,0<=j->l[j.toNat]?=some x->Inv j s->step s j x=some (f s j x)/\∀s',f s j x=.inl s'->Inv (j+1) s'):bh step l s0=some (oI f l 0 s0):=by
 rw[bh,if_pos (decide_eq_true hl)];exact xD Inv l [] 0 s0 rfl h0 (by simpa using h)
def allI {α:Type}(p:Int->α->Bool):List α->Int->Bool
 |[],_=>true
 |x::l,i=>p i x&&allI p l (i+1)
theorem jY {α:Type}{p:Int->α->Bool}:∀{l:List α}{i:Int},allI p l i=true↔∀(j:Nat) x,l[j]?=some x->p (i+j) x=true
 |[],i=>by simp[allI]
 |x::l,i=>by
  rw[allI,Bool.and_eq_true,jY];constructor
  ·rintro⟨h1,h2⟩ j y hy
   cases j with
   |zero=>simp at hy;subst hy;simpa using h1
   |succ j=>have:=h2 j y (by simpa using hy);rw[show i+((j+1:Nat):Int)=i+1+(j:Int) by omega];exact this
  ·intro h;refine⟨by simpa using h 0 x rfl,λj y hy=> ?_⟩;have:=h (j+1) y (by simpa using hy);rw[show i+((j+1:Nat):Int)=i+1+(j:Int) by omega]at this;exact this
theorem xE {α ρ:Type}{p:Int->α->Bool}{r:ρ}{f:Unit->Int->α->Unit⊕ρ}(h:∀i x,f () i x=if p i x=true then .inl ()else .inr r):∀(l:List α)(i:Int),oI f l i ()=if allI p l i=true then .inl ()else .inr r
 |[],i=>by simp[oI,allI]
 |x::l,i=>by
  rw[oI,allI,h];by_cases hp:p i x=true
  ·simp only[hp,Bool.true_and];exact xE h l (i+1)
  ·simp only[if_neg hp];rw[Bool.not_eq_true]at hp;simp[hp]
theorem pz {α ρ:Type}{step:Unit->Int->α->Option (Unit⊕ρ)}{l:List α}(p:Int->α->Bool)(r:ρ)(hl:l.length<=4611686018427387904)
  (h:∀(j:Int) x,0<=j->l[j.toNat]?=some x->step () j x=some (if p j x=true then .inl ()else .inr r)):bh step l ()=some (if allI p l 0=true then .inl ()else .inr r):=by
 rw[rL (λ_ i x=>if p i x=true then .inl ()else .inr r) (λ_ _=>True) hl trivial (λj x s hj hx _=>⟨h j x hj hx,λ_ _=>trivial⟩),xE (λi x=>rfl)]
theorem mg {α:Sort _}{c:Prop} [Decidable c]{A B r:α}(h1:c->A=r)(h2:¬c->B=r):(if c then A else B)=r:=by
 by_cases h:c
 ·rw[if_pos h];exact h1 h
 ·rw[if_neg h];exact h2 h
theorem fK {α:Type}(ts:α->List T)(l:List α):((l.map ts).length:Int)=(l.length:Int):=by simp
theorem cT {α:Type}{l:List α}{i:Int}{x:α}(h:0<=i)(hx:l[i.toNat]?=some x):fH l i=some x:=by rw[fH,if_pos h];exact hx
end Go.Proofs.aaa
end
section
namespace Go.Proofs.aaa
open Go.bA Go.IntWalk
theorem JM (x:Int):Ej x=some false:=by simp[Ej,ai]
theorem JN (x y:Int):Ek x y=some (lE x y):=by
 simp only[Ek,JM,Option.bind];unfold lE;simp only[ai,decide_eq_true_eq,Bool.false_eq_true,if_false]
 repeat' split
 all_goals first|rfl|omega
theorem Ht (a b:Int):Gg [a,b]=some (if a≠0 then a else b):=by
 simp only[Gg,bh,gY,ai];by_cases ha:a=0
 ·subst ha;by_cases hb:b=0
  ·subst hb;simp
  ·simp[hb]
 ·simp[ha]
def rM (a b:Cell):Int:=if lE a.item b.item≠0 then lE a.item b.item else lE a.aE b.aE
theorem y9 (a b:Cell):z7 a b=some (rM a b):=by
 simp only[z7,JN,Option.bind,Ht,rM]
def Cell.key (c:Cell):Int:=c.item*2000+c.aE
def ew (c:Cell):Bool:=decide (1<=c.item/\c.item<=1024/\1<=c.aE/\c.aE<=1024/\0<=c.free/\c.free<=1125899906842624/\0<=c.held/\c.held<=1125899906842624/\0<=c.out/\c.out<=1125899906842624/\0<=c.all/\c.all<=1125899906842624/\c.free+c.held+c.out=c.all)
theorem JO (n:Int):Ei n=some (decide (1<=n/\n<=1024)):=by
 simp only[Ei,ai,decide_eq_true_eq,ge_iff_le];split
 ·rename_i h;simp[h]
 ·rename_i h;simp[h]
theorem JP (c:Cell):Gf c=some (ew c):=by
 unfold Gf;simp only[ai,decide_eq_true_eq]
 repeat' (refine mg (λ_=> ?_) (λ_=> ?_))
 all_goals (rw[Option.some.injEq,Bool.eq_iff_iff];simp only[ew,aH,wrap64,decide_eq_true_eq,beq_iff_eq,Bool.false_eq_true,false_iff,gt_iff_lt]at*;omega)
def b7 (l:List Cell):Bool:=decide (l.length<=4096)&&allI (λi c=>ew c&&(decide (i<=0)||match l[(i -1).toNat]? with|some d=>decide (rM d c<0)|none=>false)) l 0
abbrev pE (l:List Cell):Int:=if b7 l=true then 0 else 9
theorem AP {α:Type}{l:List α}{j:Int}{x:α}(_:0<=j)(hx:l[j.toNat]?=some x)(h:0<j):∃y,l[(j -1).toNat]?=some y/\fH l (aH .sub .i64 j 1)=some y\/9223372036854775807<j:=by
 by_cases hj:j<=9223372036854775807
 ·have hlt:=(List.getElem?_eq_some_iff.1 hx).1;have hy:l[(j -1).toNat]?=some (l[(j -1).toNat]'(by omega)):=List.getElem?_eq_getElem (by omega)
  refine⟨_,.inl ⟨hy, ?_⟩⟩;rw[show aH .sub .i64 j 1=j -1 by simp only[aH,wrap64];omega];exact cT (by omega) hy
 ·exact⟨x,.inr (by omega)⟩
theorem mh (a b:Int):a<b/\lE a b=-1\/a=b/\lE a b=0\/a>b/\lE a b=1:=by
 unfold lE;by_cases h:a<b
 ·exact .inl ⟨h,if_pos h⟩
 ·rw[if_neg h];by_cases h2:a>b
  ·exact .inr (.inr ⟨h2,if_pos h2⟩)
  ·exact .inr (.inl ⟨by omega,if_neg h2⟩)
theorem JQ {a b:Cell}:rM a b<0↔a.item<b.item\/a.item=b.item/\a.aE<b.aE:=by
 unfold rM;rcases mh a.item b.item with⟨h,e⟩|⟨h,e⟩|⟨h,e⟩<;>rcases mh a.aE b.aE with⟨h',e'⟩|⟨h',e'⟩|⟨h',e'⟩<;>rw[e]<;>(try rw[e'])<;>simp<;>omega
theorem JR {a b:Cell}:rM a b=0↔a.item=b.item/\a.aE=b.aE:=by
 unfold rM;rcases mh a.item b.item with⟨h,e⟩|⟨h,e⟩|⟨h,e⟩<;>rcases mh a.aE b.aE with⟨h',e'⟩|⟨h',e'⟩|⟨h',e'⟩<;>rw[e]<;>(try rw[e'])<;>simp<;>omega
theorem b8 {c:Cell}:ew c=true↔(1<=c.item/\c.item<=1024/\1<=c.aE/\c.aE<=1024/\0<=c.free/\c.free<=1125899906842624/\0<=c.held/\c.held<=1125899906842624/\0<=c.out/\c.out<=1125899906842624/\0<=c.all/\c.all<=1125899906842624/\c.free+c.held+c.out=c.all):=by
 unfold ew;rw[decide_eq_true_eq]
def mL (l:List Cell)(i:Int)(c:Cell):Bool:=ew c&&(decide (i<=0)||match l[(i -1).toNat]? with|some d=>decide (rM d c<0)|none=>false)
theorem sP (l:List Cell):b7 l=(decide (l.length<=4096)&&allI (mL l) l 0):=rfl
theorem Hu (l:List Cell)(hl:l.length<=4611686018427387904):N2 l=some (pE l):=by
 unfold N2;simp only[ai,fK,decide_eq_true_eq];by_cases h1:(l.length:Int)>4096
 ·rw[if_pos h1];have:b7 l=false:=by unfold b7;rw[decide_eq_false (by omega)];rfl
  rw[pE,this];rfl
 ·rw[if_neg h1,pz (mL l) () hl]
  ·have hc:b7 l=allI (mL l) l 0:=by rw[sP,decide_eq_true (by omega)];rfl
   rw[pE,hc];cases allI (mL l) l 0<;>rfl
  ·intro j x h0 hx;have hj:j<=4611686018427387904:=by have:=(List.getElem?_eq_some_iff.1 hx).1;omega
   rw[JP];simp only[Option.bind]
   cases hf:ew x with
   |false=>simp[mL,hf]
   |true=>
    by_cases h3:0<j
    ·obtain⟨y,⟨hy,ha⟩|JS⟩:=AP h0 hx h3
     ·have hp:mL l j x=decide (rM y x<0):=by unfold mL;simp only[hy,hf];rw[decide_eq_false (by omega)];simp
      rw[hp,ha];simp only[y9];by_cases h4:rM y x<0
      ·simp[h3,h4]
      ·simp[h3,h4,Int.not_lt.1 h4]
     ·omega
    ·have hp:mL l j x=true:=by unfold mL;rw[hf,decide_eq_true (by omega)];simp
     simp[h3,hp]
end Go.Proofs.aaa
end
section
namespace Go.Proofs.aaa
open Go.bA Go.IntWalk
theorem abz {α:Type}{key:α->Int}{l:List α}(hs:bU key l)(hl:l.length<=1000000000000)(n:Int)(cmp:α->Option Int)
  (hc:∀x∈l,∃p,cmp x=some p/\(p<0↔key x<n)) {body:Int×Int->Option ((Int×Int)⊕Int)}
  (hb:∀s,body s=if(ai .lss s.1 s.2)=true then
   (fH l (IntKind.i64.wrap (aH .shr .u64 (IntKind.u64.wrap (aH .add .i64 s.1 s.2)) 1))).bind λeu=>(cmp eu).bind λgO=>
   if(ai .lss gO 0)=true then some (.inl ((aH .add .i64 (IntKind.i64.wrap (aH .shr .u64 (IntKind.u64.wrap (aH .add .i64 s.1 s.2)) 1)) 1),s.2))
   else some (.inl (s.1,(IntKind.i64.wrap (aH .shr .u64 (IntKind.u64.wrap (aH .add .i64 s.1 s.2)) 1))))else some (.inr s.1)):
  ∀(k:Nat)(lo hi:Int),0<=lo->lo<=(eO key l n:Int)->(eO key l n:Int)<=hi->hi<=l.length->hi -lo<(2:Int)^k->iB body (k+1) (lo,hi)=some (eO key l n:Int)
 |k,lo,hi,h0,h1,h2,h3,h4=>by
  simp only[iB,hb];by_cases hlt:lo<hi
  ·have hh:=half lo hi h0 hlt (by omega);have hm:((lo+hi)/2).toNat<l.length:=by omega
   have hx:=List.getElem?_eq_getElem hm;obtain⟨p,hp,BC⟩:=hc _ (List.getElem_mem hm);have hsp:=jZ key hs n _ _ hx;simp only[ai,hlt,decide_true,if_true,hh,cT (show 0<=(lo+hi)/2 by omega) hx,Option.bind,hp]
   cases k with
   |zero=>simp at h4;omega
   |succ k=>
    have V3:(2:Int)^(k+1)=2*2^k:=by rw[Int.pow_succ];omega
    by_cases JT:p<0
    ·have:=hsp.1 (BC.1 JT);simp only[JT,decide_true,if_true];rw[show aH .add .i64 ((lo+hi)/2) 1=(lo+hi)/2+1 by simp only[aH,wrap64];omega];exact abz hs hl n cmp hc hb k _ _ (by omega) (by omega) h2 h3 (by omega)
    ·have:¬((lo+hi)/2).toNat<eO key l n:=λh=>JT (BC.2 (hsp.2 h));simp only[JT,decide_false,Bool.false_eq_true,if_false];exact abz hs hl n cmp hc hb k _ _ h0 h1 (by omega) (by omega) (by omega)
  ·obtain rfl:lo=(eO key l n:Int):=by omega
   simp[ai,hlt]
abbrev zL {α:Type}(key:α->Int)(l:List α)(n:Int):Int×Bool:=((eO key l n:Int),(bq key l n).isSome)
theorem Cell.CE {a b:Cell}(ha:1<=a.aE/\a.aE<=1024)(hb:1<=b.aE/\b.aE<=1024):rM a b<0↔a.key<b.key:=by
 rw[JQ];unfold Cell.key;omega
theorem Cell.Nb {a b:Cell}(ha:1<=a.aE/\a.aE<=1024)(hb:1<=b.aE/\b.aE<=1024):rM a b=0↔a.key=b.key:=by
 rw[JR];unfold Cell.key;omega
theorem nU (l:List Cell)(t:Cell)(hs:bU Cell.key l)(hl:l.length<=1000000000000)(hw:∀c∈l,1<=c.aE/\c.aE<=1024)(ht:1<=t.aE/\t.aE<=1024):Gh l t=some (zL Cell.key l t.key):=by
 unfold Gh;have hlb:=nt Cell.key l t.key;rw[abz hs hl t.key (λx=>z7 x t) (λx hx=>⟨_,y9 x t,Cell.CE (hw x hx) ht⟩) (λs=>rfl) 99 0 ((l.map Cell.ts).length:Int) (by omega) (by omega) (by simp;omega) (by simp) (by simp;omega)];have tP:=mj Cell.key hs t.key;simp only[Option.bind,ai,fK];by_cases hlt:(eO Cell.key l t.key:Int)<(l.length:Int)
 ·have hm:eO Cell.key l t.key<l.length:=by omega
  have hx:=List.getElem?_eq_getElem hm;have ha:fH l (eO Cell.key l t.key:Int)=some l[eO Cell.key l t.key]:=cT (by omega) (by rw[Int.toNat_natCast];exact hx);simp only[hlt,decide_true,if_true,ha,y9,zL]
  congr 2
  rw[Bool.eq_iff_iff,tP];have hk:=Cell.Nb (hw _ (List.getElem_mem hm)) ht;constructor
  ·intro h;exact⟨_,hx,hk.1 (by simpa using h)⟩
  ·rintro⟨x,hx',h⟩;rw[hx]at hx';cases hx';simpa using hk.2 h
 ·simp only[hlt,decide_false,Bool.false_eq_true,if_false,zL]
  congr 2
  cases hf:(bq Cell.key l t.key).isSome with
  |false=>rfl
  |true=>
   obtain⟨x,hx,_⟩:=tP.1 hf;have:=(List.getElem?_eq_some_iff.1 hx).1;omega
end Go.Proofs.aaa
end
section
namespace Go.Proofs.aaa
open Go.bA Go.IntWalk
theorem kT {α:Type}(key:α->Int):∀{l:List α},(∀(j:Nat) x y,l[j]?=some x->l[j+1]?=some y->key x<key y)->bU key l
 |[],_=>.nil
 |[x],_=>List.pairwise_singleton _ _
 |x::y::l,h=>by
  have ih:bU key (y::l):=kT key λj a b ha hb=>h (j+1) a b (by simpa using ha) (by simpa using hb);refine List.pairwise_cons.2 ⟨λz hz=> ?_,ih⟩;have hxy:=h 0 x y rfl rfl;rcases List.mem_cons.1 hz with rfl|hz
  ·exact hxy
  ·have:=(List.pairwise_cons.1 ih).1 z hz;omega
theorem u7 {α:Type}{key:α->Int}{l:List α}(h:bU key l){j:Nat}{x y:α}(hx:l[j]?=some x)(hy:l[j+1]?=some y):key x<key y:=by
 obtain⟨h1,rfl⟩:=List.getElem?_eq_some_iff.1 hx;obtain⟨h2,rfl⟩:=List.getElem?_eq_some_iff.1 hy;exact List.pairwise_iff_getElem.1 h j (j+1) h1 h2 (by omega)
theorem cG {c:Cell}(h:ew c=true):1<=c.aE/\c.aE<=1024:=by rw[b8]at h;omega
theorem cE {l:List Cell}:b7 l=true↔l.length<=4096/\(∀c∈l,ew c=true)/\bU Cell.key l:=by
 rw[sP,Bool.and_eq_true,decide_eq_true_eq,jY];constructor
 ·rintro⟨h1,h2⟩;have hf:∀c∈l,ew c=true:=λc hc=>by
   obtain⟨j,hj⟩:=List.mem_iff_getElem?.1 hc;have:=h2 j c hj;unfold mL at this;exact(Bool.and_eq_true _ _▸this).1
  refine⟨h1,hf,kT _ λj x y hx hy=> ?_⟩;have:=h2 (j+1) y hy;unfold mL at this;rw[Bool.and_eq_true]at this;have h3:=this.2;rw[decide_eq_false (by omega),show((0:Int)+((j+1:Nat):Int) -1).toNat=j by omega,hx]at h3;have h4:rM x y<0:=by simpa using h3
  exact(Cell.CE (cG (hf x (List.mem_of_getElem? hx))) (cG (hf y (List.mem_of_getElem? hy)))).1 h4
 ·rintro⟨h1,h2,h3⟩;refine⟨h1,λj c hc=> ?_⟩;unfold mL;rw[h2 c (List.mem_of_getElem? hc),Bool.true_and,Bool.or_eq_true]
  cases j with
  |zero=>left;simp
  |succ j=>
   right;have hlt:=(List.getElem?_eq_some_iff.1 hc).1;have hx:=List.getElem?_eq_getElem (show j<l.length by omega);rw[show((0:Int)+((j+1:Nat):Int) -1).toNat=j by omega,hx];have:=(Cell.CE (cG (h2 _ (List.mem_of_getElem? hx))) (cG (h2 c (List.mem_of_getElem? hc)))).2 (u7 h3 hx hc);simpa using this
def cellOf (l:List Cell)(i w:Int):Cell:=match bq Cell.key l (i*2000+w)with|some c=>c|none=>⟨i,w,0,0,0,0⟩
abbrev Kn (i w:Int):Prop:=1<=i/\i<=1024/\1<=w/\w<=1024
def dM (l:List Cell)(i w:Int):Cell×Int:=if b7 l=false then(⟨0,0,0,0,0,0⟩,9)else if Kn i w then(cellOf l i w,0)else(⟨0,0,0,0,0,0⟩,2)
theorem nV (l:List Cell)(i w:Int)(hl:l.length<=4611686018427387904):wv l i w=some (dM l i w):=by
 unfold wv;rw[Hu l hl]
 cases hok:b7 l with
 |false=>simp[pE,hok,ai,dM]
 |true=>
  obtain⟨h1,h2,h3⟩:=cE.1 hok;simp only[pE,hok,if_true,Option.bind,ai,JO,dM,Bool.true_eq_false,if_false];by_cases hi:1<=i/\i<=1024
  ·by_cases hw:1<=w/\w<=1024
   ·rw[if_pos (show Kn i w from⟨hi.1,hi.2,hw⟩)];have hb:=nU l ⟨i,w,0,0,0,0⟩ h3 (by omega) (λc hc=>cG (h2 c hc)) hw;have hk:Cell.key ⟨i,w,0,0,0,0⟩=i*2000+w:=rfl;rw[hk]at hb;simp only[hi,hw,lX,hb,Option.bind];cases hf:bq Cell.key l (i*2000+w)with
    |none=>simp[cellOf,hf]
    |some c=>
     have hg:=fj Cell.key h3 hf;have ha:fH l (eO Cell.key l (i*2000+w):Int)=some c:=cT (by omega) (by rw[Int.toNat_natCast];exact hg);simp[cellOf,hf,ha]
   ·rw[if_neg (show¬Kn i w fromλh=>hw h.2.2)];simp[hi,hw]
  ·rw[if_neg (show¬Kn i w fromλh=>hi ⟨h.1,h.2.1⟩)];simp[hi]
theorem Hv {l:List Cell}(h:∀c∈l,ew c=true){i w:Int}(hw:1<=w/\w<=1024):l.find? (λc=>c.item==i&&c.aE==w)=bq Cell.key l (i*2000+w):=by
 unfold bq
 induction l with
 |nil=>rfl
 |cons c l ih=>
  have hc:=cG (h c List.mem_cons_self);have:(c.item==i&&c.aE==w)=(Cell.key c==i*2000+w):=by
   rw[Bool.eq_iff_iff];simp[Cell.key];omega
  rw[List.find?_cons,List.find?_cons,this,ih λc hc=>h c (List.mem_cons_of_mem _ hc)]
theorem nu {α ρ:Type}{step:Unit->Int->α->Option (Unit⊕ρ)}{l:List α}(p:α->Bool)(f:α->ρ)(hl:l.length<=4611686018427387904)
  (h:∀(j:Int) x,0<=j->l[j.toNat]?=some x->step () j x=some (if p x=true then .inr (f x)else .inl ())):bh step l ()=some (match l.find? p with|some x=>.inr (f x)|none=>.inl ()):=by
 rw[rL (λ_ _ x=>if p x=true then .inr (f x)else .inl ()) (λ_ _=>True) hl trivial (λj x s hj hx _=>⟨h j x hj hx,λ_ _=>trivial⟩)]
 congr 1
 clear h hl;generalize (0:Int)=i
 induction l generalizing i with
 |nil=>rfl
 |cons x l ih=>
  rw[oI,List.find?_cons]
  cases hp:p x with
  |true=>simp
  |false=>simp;exact ih (i+1)
theorem Nc (l:List Cell)(i w:Int)(hl:l.length<=4611686018427387904):FP l i w=some (match l.find? (λc=>c.item==i&&c.aE==w)with|some c=>c|none=>⟨i,w,0,0,0,0⟩):=by
 unfold FP;rw[nu (λc=>c.item==i&&c.aE==w) id hl]
 ·simp only[Option.bind];cases l.find? _<;>rfl
 ·intro j x _ _;simp only[ai];by_cases h1:x.item=i<;>by_cases h2:x.aE=w<;>simp[h1,h2]
theorem Hw (l:List Cell)(i w:Int)(hok:b7 l=true)(hw:1<=w/\w<=1024):FP l i w=some (cellOf l i w):=by
 obtain⟨h1,h2,_⟩:=cE.1 hok;rw[Nc l i w (by omega),Hv h2 hw];unfold cellOf;cases bq Cell.key l (i*2000+w)<;>rfl
def dN (l:List Cell)(i w:Int):Int:=if b7 l=false then 9 else if Kn i w then 0 else 2
end Go.Proofs.aaa
end
section
namespace Go.Proofs.aaa
open Go.bA Go.IntWalk
section
variable{α:Type}(key:α->Int)(c:α)
def u5:List α->List α
 |[]=>[c]
 |x::l=>if key x<key c then x::u5 l else if key x=key c then c::l else c::x::l
theorem u9 {l:List α}(hs:bU key l):iw key l c=u5 key c l:=by
 induction l with
 |nil=>simp[iw,bq,eO,bt,u5]
 |cons x l ih=>
  obtain⟨h1,h2⟩:=List.pairwise_cons.1 hs;have ih:=ih h2;unfold u5;by_cases hlt:key x<key c
  ·rw[if_pos hlt,<-ih];have hlb:eO key (x::l) (key c)=eO key l (key c)+1:=by simp[eO,hlt]
   have hf:bq key (x::l) (key c)=bq key l (key c):=by rw[dY,if_neg (by omega)]
   unfold iw;rw[hlb,hf];split
   ·rfl
   ·rfl
  ·have hlb:eO key (x::l) (key c)=0:=qp key (λy hy=>by
    rcases List.mem_cons.1 hy with rfl|hy
    ·exact hlt
    ·have:=h1 y hy;omega)
   rw[if_neg hlt];unfold iw;rw[hlb,dY];by_cases he:key x=key c
   ·rw[if_pos he,if_pos he];rfl
   ·rw[if_neg he,if_neg he];have hf:bq key l (key c)=none:=by
     unfold bq;rw[List.find?_eq_none];intro y hy;have:=h1 y hy;simp;omega
    rw[hf];rfl
end
end Go.Proofs.aaa
end
section
namespace Go.Proofs.aaa
open Go.bA Go.IntWalk
def oJ (k:Int)(c:Cell)(n:Int):Cell:=
 if k=0 then⟨c.item,c.aE,c.free+n,c.held,c.out,c.all+n⟩else if k=1 then⟨c.item,c.aE,c.free -n,c.held+n,c.out,c.all⟩
 else if k=2 then⟨c.item,c.aE,c.free+n,c.held -n,c.out,c.all⟩else if k=3 then⟨c.item,c.aE,c.free,c.held -n,c.out+n,c.all⟩
 else⟨c.item,c.aE,c.free+n,c.held,c.out -n,c.all⟩
def mq (k:Int)(c:Cell)(n:Int):Prop:=if k=0 then True else if k=1 then n<=c.free else if k=2 then n<=c.held else if k=3 then n<=c.held else n<=c.out
instance(k:Int)(c:Cell)(n:Int):Decidable (mq k c n):=by unfold mq;infer_instance
def cm (k:Int)(l:List Cell)(i w n:Int):List Cell×Int:=
 if dN l i w≠0 then([],dN l i w)else if n<1\/n>1048576 then([],2)else if¬mq k (cellOf l i w) n then([],13)
 else if(oJ k (cellOf l i w) n).all>1125899906842624 then([],5)else if(bq Cell.key l (i*2000+w)).isSome=false/\l.length>=4096 then([],3)
 else(iw Cell.key l (oJ k (cellOf l i w) n),0)
theorem cZ {l:List Cell}{i w:Int}(hok:b7 l=true)(hk:Kn i w):ew (cellOf l i w)=true/\(cellOf l i w).item=i/\(cellOf l i w).aE=w:=by
 obtain⟨_,h2,_⟩:=cE.1 hok;unfold cellOf;cases hf:bq Cell.key l (i*2000+w)with
 |none=>exact⟨by rw[b8];simp only;omega,rfl,rfl⟩
 |some c=>
  obtain⟨h3,h4⟩:=b_ _ hf;have h5:=cG (h2 c h3);refine⟨h2 c h3, ?_, ?_⟩<;>unfold Cell.key at h4<;>have:=hk.2.2<;>simp only<;>omega
theorem AQ {α:Type}(key:α->Int)(l:List α)(x:α):(iw key l x).length=if(bq key l (key x)).isSome=true then l.length else l.length+1:=by
 unfold iw;split
 ·exact List.length_set
 ·exact bW ..
theorem j3 {l:List Cell}{i w:Int}(h:dN l i w=0):b7 l=true/\Kn i w:=by
 unfold dN at h
 cases hok:b7 l with
 |false=>simp[hok]at h
 |true=>
  refine⟨rfl, ?_⟩;simp only[hok,Bool.true_eq_false,if_false]at h;by_cases hk:Kn i w
  ·exact hk
  ·rw[if_neg hk]at h;omega
theorem tV {k:Int}{c:Cell}{n:Int}:(oJ k c n).item=c.item/\(oJ k c n).aE=c.aE:=by
 unfold oJ;repeat' split
 all_goals exact⟨rfl,rfl⟩
theorem lF {l:List Cell}{i w:Int}(h0:¬dN l i w=0):dM l i w=(⟨0,0,0,0,0,0⟩,dN l i w):=by
 unfold dM;unfold dN at h0⊢;by_cases hok:b7 l=false
 ·rw[if_pos hok,if_pos hok]
 ·rw[if_neg hok]at h0;rw[if_neg hok,if_neg hok];by_cases hk:Kn i w
  ·rw[if_pos hk]at h0;exact absurd rfl h0
  ·rw[if_neg hk,if_neg hk]
theorem lG {l:List Cell}{c:Cell}{n:Int}(hs:bU Cell.key l)(hk:c.key=n)(hl:l.length<=4096)(hf:(bq Cell.key l n).isSome=true):
  (if l.length<=1000000000000 then if(dJ l.length (zL Cell.key l n).1)=true then(fH l (zL Cell.key l n).1).bind λ_=>some ((((l).set ((zL Cell.key l n).1).toNat c),(0:Int)))else none else none)=some (iw Cell.key l c,0):=by
 obtain⟨x,hx,_⟩:=(mj Cell.key hs n).1 hf;have hlt:=(List.getElem?_eq_some_iff.1 hx).1;have ha:fH l (eO Cell.key l n:Int)=some x:=cT (by omega) (by rw[Int.toNat_natCast];exact hx);rw[if_pos (by omega),if_pos (qq hlt),ha];unfold iw;rw[hk,if_pos hf];simp
theorem j4 {l:List Cell}{c:Cell}{n:Int}(hk:c.key=n)(hl:l.length<=4096)(hf:(bq Cell.key l n).isSome=false):
  (if l.length<=1000000000000 then if 0<=(zL Cell.key l n).1/\(zL Cell.key l n).1<=(l.length:Int)/\l.length<=1000000 then
   if(dJ (l.length+1) (zL Cell.key l n).1)=true then(fH (bt l ((zL Cell.key l n).1).toNat c) (zL Cell.key l n).1).bind λ_=>some ((((bt l ((zL Cell.key l n).1).toNat c)).set ((zL Cell.key l n).1).toNat c),(0:Int))else none else none else none)=some (iw Cell.key l c,0):=by
 have hle:=nt Cell.key l n;have hlt:eO Cell.key l n<(bt l (eO Cell.key l n) c).length:=by rw[bW];omega
 have ha:fH (bt l (eO Cell.key l n) c) (eO Cell.key l n:Int)=some (bt l (eO Cell.key l n) c)[eO Cell.key l n]:=cT (by omega) (by rw[Int.toNat_natCast];exact List.getElem?_eq_getElem hlt);simp only[Int.toNat_natCast];rw[if_pos (by omega),if_pos (by omega),if_pos (qq (by omega)),ha];unfold iw;rw[hk,if_neg (by rw[hf];decide)];simp only[Option.bind,AR l _ c c hle]
theorem JU (l:List Cell)(i w n:Int)(hl:l.length<=4611686018427387904):El l i w n=some (cm 0 l i w n):=by
 unfold El;rw[nV l i w hl];by_cases h0:dN l i w=0
 ·obtain⟨hok,hk⟩:=j3 h0;obtain⟨f1,f2,f3⟩:=cZ hok hk;obtain⟨o1,o2,o3⟩:=cE.1 hok;have hv:dM l i w=(cellOf l i w,0):=by unfold dM;rw[if_neg (by rw[hok];decide),if_pos hk]
  have hb:=nU l ⟨i,w,0,0,0,0⟩ o3 (by omega) (λc hc=>cG (o2 c hc)) ⟨hk.2.2.1,hk.2.2.2⟩;have pQ:Cell.key ⟨i,w,0,0,0,0⟩=i*2000+w:=rfl;rw[pQ]at hb;have hp:lX l i w=some (zL Cell.key l (i*2000+w)):=by simp[lX,hb]
  rw[hv,hp];unfold cm;generalize hc:cellOf l i w=c at*;have fc:=b8.1 f1;have e:∀a b:Int,-1125899907842624<=a->a<=1125899907842624->-1125899907842624<=b->b<=1125899907842624->aH .add .i64 a b=a+b/\aH .sub .i64 a b=a -b:=λa b h1 h2 h3 h4=>by simp only[aH,wrap64];omega
  by_cases hn:n<1\/n>1048576
  ·simp only[h0,Option.bind,ai,ne_eq,not_true_eq_false,if_false,bne_self_eq_false,Bool.false_eq_true,decide_eq_true_eq];rw[if_pos hn];by_cases h1:n<1
   ·rw[if_pos h1]
   ·rw[if_neg h1,if_pos (by omega)]
  ·have q1:=e c.free n (by omega) (by omega) (by omega) (by omega);have q2:=e c.held n (by omega) (by omega) (by omega) (by omega);have q3:=e c.out n (by omega) (by omega) (by omega) (by omega);have q4:=e c.all n (by omega) (by omega) (by omega) (by omega);have hm:oJ 0 c n=⟨c.item,c.aE,c.free+n,c.held,c.out,c.all+n⟩:=rfl;have hmo:mq 0 c n↔True:=by unfold mq;simp
   have hkey:Cell.key ⟨c.item,c.aE,c.free+n,c.held,c.out,c.all+n⟩=i*2000+w:=by unfold Cell.key;simp only[f2,f3]
   rw[hm];simp only[h0,Option.bind,ai,ne_eq,not_true_eq_false,if_false,bne_self_eq_false,Bool.false_eq_true,decide_eq_true_eq,q1.1,q4.1,hmo,fK];rw[if_neg hn,if_neg (by omega),if_neg (by omega)];by_cases lV:True
   ·rw[if_neg (by omega),if_neg (by omega),if_neg (by omega)];try simp only[lV,not_true_eq_false,if_false]
    by_cases ha:c.all+n>1125899906842624
    ·simp only[ha,if_true]
    ·simp only[ha,if_false]
     cases hf:(bq Cell.key l (i*2000+w)).isSome with
     |true=>
      simp only[Bool.not_true,Bool.false_eq_true,if_false,false_and,Bool.true_eq_false];exact lG o3 hkey o1 hf
     |false=>
      simp only[Bool.not_false,if_true,true_and,ge_iff_le];by_cases h4:4096<=l.length
      ·rw[if_pos (by omega),if_pos h4]
      ·rw[if_neg (by omega),if_neg h4];exact j4 hkey o1 hf
   ·first|exact absurd trivial lV|skip
    try simp only[lV,not_false_eq_true,if_true]
    repeat' (refine mg (λ_=> ?_) (λ_=> ?_))
    all_goals first|rfl|(exfalso;omega)
 ·have hv:dM l i w=(⟨0,0,0,0,0,0⟩,dN l i w):=lF h0;rw[hv];unfold cm;simp[h0,ai]
theorem JV (l:List Cell)(i w n:Int)(hl:l.length<=4611686018427387904):Eo l i w n=some (cm 1 l i w n):=by
 unfold Eo;rw[nV l i w hl];by_cases h0:dN l i w=0
 ·obtain⟨hok,hk⟩:=j3 h0;obtain⟨f1,f2,f3⟩:=cZ hok hk;obtain⟨o1,o2,o3⟩:=cE.1 hok;have hv:dM l i w=(cellOf l i w,0):=by unfold dM;rw[if_neg (by rw[hok];decide),if_pos hk]
  have hb:=nU l ⟨i,w,0,0,0,0⟩ o3 (by omega) (λc hc=>cG (o2 c hc)) ⟨hk.2.2.1,hk.2.2.2⟩;have pQ:Cell.key ⟨i,w,0,0,0,0⟩=i*2000+w:=rfl;rw[pQ]at hb;have hp:lX l i w=some (zL Cell.key l (i*2000+w)):=by simp[lX,hb]
  rw[hv,hp];unfold cm;generalize hc:cellOf l i w=c at*;have fc:=b8.1 f1;have e:∀a b:Int,-1125899907842624<=a->a<=1125899907842624->-1125899907842624<=b->b<=1125899907842624->aH .add .i64 a b=a+b/\aH .sub .i64 a b=a -b:=λa b h1 h2 h3 h4=>by simp only[aH,wrap64];omega
  by_cases hn:n<1\/n>1048576
  ·simp only[h0,Option.bind,ai,ne_eq,not_true_eq_false,if_false,bne_self_eq_false,Bool.false_eq_true,decide_eq_true_eq];rw[if_pos hn];by_cases h1:n<1
   ·rw[if_pos h1]
   ·rw[if_neg h1,if_pos (by omega)]
  ·have q1:=e c.free n (by omega) (by omega) (by omega) (by omega);have q2:=e c.held n (by omega) (by omega) (by omega) (by omega);have q3:=e c.out n (by omega) (by omega) (by omega) (by omega);have q4:=e c.all n (by omega) (by omega) (by omega) (by omega);have hm:oJ 1 c n=⟨c.item,c.aE,c.free -n,c.held+n,c.out,c.all⟩:=rfl;have hmo:mq 1 c n↔n<=c.free:=by unfold mq;simp
   have hkey:Cell.key ⟨c.item,c.aE,c.free -n,c.held+n,c.out,c.all⟩=i*2000+w:=by unfold Cell.key;simp only[f2,f3]
   rw[hm];simp only[h0,Option.bind,ai,ne_eq,not_true_eq_false,if_false,bne_self_eq_false,Bool.false_eq_true,decide_eq_true_eq,q1.2,q2.1,hmo,fK];rw[if_neg hn,if_neg (by omega),if_neg (by omega)];by_cases lV:n<=c.free
   ·rw[if_neg (by omega),if_neg (by omega),if_neg (by omega)];try simp only[lV,not_true_eq_false,if_false]
    by_cases ha:c.all>1125899906842624
    ·simp only[ha,if_true]
    ·simp only[ha,if_false]
     cases hf:(bq Cell.key l (i*2000+w)).isSome with
     |true=>
      simp only[Bool.not_true,Bool.false_eq_true,if_false,false_and,Bool.true_eq_false];exact lG o3 hkey o1 hf
     |false=>
      simp only[Bool.not_false,if_true,true_and,ge_iff_le];by_cases h4:4096<=l.length
      ·rw[if_pos (by omega),if_pos h4]
      ·rw[if_neg (by omega),if_neg h4];exact j4 hkey o1 hf
   ·first|exact absurd trivial lV|skip
    try simp only[lV,not_false_eq_true,if_true]
    repeat' (refine mg (λ_=> ?_) (λ_=> ?_))
    all_goals first|rfl|(exfalso;omega)
 ·have hv:dM l i w=(⟨0,0,0,0,0,0⟩,dN l i w):=lF h0;rw[hv];unfold cm;simp[h0,ai]
theorem JW (l:List Cell)(i w n:Int)(hl:l.length<=4611686018427387904):Ep l i w n=some (cm 2 l i w n):=by
 unfold Ep;rw[nV l i w hl];by_cases h0:dN l i w=0
 ·obtain⟨hok,hk⟩:=j3 h0;obtain⟨f1,f2,f3⟩:=cZ hok hk;obtain⟨o1,o2,o3⟩:=cE.1 hok;have hv:dM l i w=(cellOf l i w,0):=by unfold dM;rw[if_neg (by rw[hok];decide),if_pos hk]
  have hb:=nU l ⟨i,w,0,0,0,0⟩ o3 (by omega) (λc hc=>cG (o2 c hc)) ⟨hk.2.2.1,hk.2.2.2⟩;have pQ:Cell.key ⟨i,w,0,0,0,0⟩=i*2000+w:=rfl;rw[pQ]at hb;have hp:lX l i w=some (zL Cell.key l (i*2000+w)):=by simp[lX,hb]
  rw[hv,hp];unfold cm;generalize hc:cellOf l i w=c at*;have fc:=b8.1 f1;have e:∀a b:Int,-1125899907842624<=a->a<=1125899907842624->-1125899907842624<=b->b<=1125899907842624->aH .add .i64 a b=a+b/\aH .sub .i64 a b=a -b:=λa b h1 h2 h3 h4=>by simp only[aH,wrap64];omega
  by_cases hn:n<1\/n>1048576
  ·simp only[h0,Option.bind,ai,ne_eq,not_true_eq_false,if_false,bne_self_eq_false,Bool.false_eq_true,decide_eq_true_eq];rw[if_pos hn];by_cases h1:n<1
   ·rw[if_pos h1]
   ·rw[if_neg h1,if_pos (by omega)]
  ·have q1:=e c.free n (by omega) (by omega) (by omega) (by omega);have q2:=e c.held n (by omega) (by omega) (by omega) (by omega);have q3:=e c.out n (by omega) (by omega) (by omega) (by omega);have q4:=e c.all n (by omega) (by omega) (by omega) (by omega);have hm:oJ 2 c n=⟨c.item,c.aE,c.free+n,c.held -n,c.out,c.all⟩:=rfl;have hmo:mq 2 c n↔n<=c.held:=by unfold mq;simp
   have hkey:Cell.key ⟨c.item,c.aE,c.free+n,c.held -n,c.out,c.all⟩=i*2000+w:=by unfold Cell.key;simp only[f2,f3]
   rw[hm];simp only[h0,Option.bind,ai,ne_eq,not_true_eq_false,if_false,bne_self_eq_false,Bool.false_eq_true,decide_eq_true_eq,q1.1,q2.2,hmo,fK];rw[if_neg hn,if_neg (by omega),if_neg (by omega)];by_cases lV:n<=c.held
   ·rw[if_neg (by omega),if_neg (by omega),if_neg (by omega)];try simp only[lV,not_true_eq_false,if_false]
    by_cases ha:c.all>1125899906842624
    ·simp only[ha,if_true]
    ·simp only[ha,if_false]
     cases hf:(bq Cell.key l (i*2000+w)).isSome with
     |true=>
      simp only[Bool.not_true,Bool.false_eq_true,if_false,false_and,Bool.true_eq_false];exact lG o3 hkey o1 hf
     |false=>
      simp only[Bool.not_false,if_true,true_and,ge_iff_le];by_cases h4:4096<=l.length
      ·rw[if_pos (by omega),if_pos h4]
      ·rw[if_neg (by omega),if_neg h4];exact j4 hkey o1 hf
   ·first|exact absurd trivial lV|skip
    try simp only[lV,not_false_eq_true,if_true]
    repeat' (refine mg (λ_=> ?_) (λ_=> ?_))
    all_goals first|rfl|(exfalso;omega)
 ·have hv:dM l i w=(⟨0,0,0,0,0,0⟩,dN l i w):=lF h0;rw[hv];unfold cm;simp[h0,ai]
theorem JX (l:List Cell)(i w n:Int)(hl:l.length<=4611686018427387904):Er l i w n=some (cm 3 l i w n):=by
 unfold Er;rw[nV l i w hl];by_cases h0:dN l i w=0
 ·obtain⟨hok,hk⟩:=j3 h0;obtain⟨f1,f2,f3⟩:=cZ hok hk;obtain⟨o1,o2,o3⟩:=cE.1 hok;have hv:dM l i w=(cellOf l i w,0):=by unfold dM;rw[if_neg (by rw[hok];decide),if_pos hk]
  have hb:=nU l ⟨i,w,0,0,0,0⟩ o3 (by omega) (λc hc=>cG (o2 c hc)) ⟨hk.2.2.1,hk.2.2.2⟩;have pQ:Cell.key ⟨i,w,0,0,0,0⟩=i*2000+w:=rfl;rw[pQ]at hb;have hp:lX l i w=some (zL Cell.key l (i*2000+w)):=by simp[lX,hb]
  rw[hv,hp];unfold cm;generalize hc:cellOf l i w=c at*;have fc:=b8.1 f1;have e:∀a b:Int,-1125899907842624<=a->a<=1125899907842624->-1125899907842624<=b->b<=1125899907842624->aH .add .i64 a b=a+b/\aH .sub .i64 a b=a -b:=λa b h1 h2 h3 h4=>by simp only[aH,wrap64];omega
  by_cases hn:n<1\/n>1048576
  ·simp only[h0,Option.bind,ai,ne_eq,not_true_eq_false,if_false,bne_self_eq_false,Bool.false_eq_true,decide_eq_true_eq];rw[if_pos hn];by_cases h1:n<1
   ·rw[if_pos h1]
   ·rw[if_neg h1,if_pos (by omega)]
  ·have q1:=e c.free n (by omega) (by omega) (by omega) (by omega);have q2:=e c.held n (by omega) (by omega) (by omega) (by omega);have q3:=e c.out n (by omega) (by omega) (by omega) (by omega);have q4:=e c.all n (by omega) (by omega) (by omega) (by omega);have hm:oJ 3 c n=⟨c.item,c.aE,c.free,c.held -n,c.out+n,c.all⟩:=rfl;have hmo:mq 3 c n↔n<=c.held:=by unfold mq;simp
   have hkey:Cell.key ⟨c.item,c.aE,c.free,c.held -n,c.out+n,c.all⟩=i*2000+w:=by unfold Cell.key;simp only[f2,f3]
   rw[hm];simp only[h0,Option.bind,ai,ne_eq,not_true_eq_false,if_false,bne_self_eq_false,Bool.false_eq_true,decide_eq_true_eq,q2.2,q3.1,hmo,fK];rw[if_neg hn,if_neg (by omega),if_neg (by omega)];by_cases lV:n<=c.held
   ·rw[if_neg (by omega),if_neg (by omega),if_neg (by omega)];try simp only[lV,not_true_eq_false,if_false]
    by_cases ha:c.all>1125899906842624
    ·simp only[ha,if_true]
    ·simp only[ha,if_false]
     cases hf:(bq Cell.key l (i*2000+w)).isSome with
     |true=>
      simp only[Bool.not_true,Bool.false_eq_true,if_false,false_and,Bool.true_eq_false];exact lG o3 hkey o1 hf
     |false=>
      simp only[Bool.not_false,if_true,true_and,ge_iff_le];by_cases h4:4096<=l.length
      ·rw[if_pos (by omega),if_pos h4]
      ·rw[if_neg (by omega),if_neg h4];exact j4 hkey o1 hf
   ·first|exact absurd trivial lV|skip
    try simp only[lV,not_false_eq_true,if_true]
    repeat' (refine mg (λ_=> ?_) (λ_=> ?_))
    all_goals first|rfl|(exfalso;omega)
 ·have hv:dM l i w=(⟨0,0,0,0,0,0⟩,dN l i w):=lF h0;rw[hv];unfold cm;simp[h0,ai]
theorem JY (l:List Cell)(i w n:Int)(hl:l.length<=4611686018427387904):Es l i w n=some (cm 4 l i w n):=by
 unfold Es;rw[nV l i w hl];by_cases h0:dN l i w=0
 ·obtain⟨hok,hk⟩:=j3 h0;obtain⟨f1,f2,f3⟩:=cZ hok hk;obtain⟨o1,o2,o3⟩:=cE.1 hok;have hv:dM l i w=(cellOf l i w,0):=by unfold dM;rw[if_neg (by rw[hok];decide),if_pos hk]
  have hb:=nU l ⟨i,w,0,0,0,0⟩ o3 (by omega) (λc hc=>cG (o2 c hc)) ⟨hk.2.2.1,hk.2.2.2⟩;have pQ:Cell.key ⟨i,w,0,0,0,0⟩=i*2000+w:=rfl;rw[pQ]at hb;have hp:lX l i w=some (zL Cell.key l (i*2000+w)):=by simp[lX,hb]
  rw[hv,hp];unfold cm;generalize hc:cellOf l i w=c at*;have fc:=b8.1 f1;have e:∀a b:Int,-1125899907842624<=a->a<=1125899907842624->-1125899907842624<=b->b<=1125899907842624->aH .add .i64 a b=a+b/\aH .sub .i64 a b=a -b:=λa b h1 h2 h3 h4=>by simp only[aH,wrap64];omega
  by_cases hn:n<1\/n>1048576
  ·simp only[h0,Option.bind,ai,ne_eq,not_true_eq_false,if_false,bne_self_eq_false,Bool.false_eq_true,decide_eq_true_eq];rw[if_pos hn];by_cases h1:n<1
   ·rw[if_pos h1]
   ·rw[if_neg h1,if_pos (by omega)]
  ·have q1:=e c.free n (by omega) (by omega) (by omega) (by omega);have q2:=e c.held n (by omega) (by omega) (by omega) (by omega);have q3:=e c.out n (by omega) (by omega) (by omega) (by omega);have q4:=e c.all n (by omega) (by omega) (by omega) (by omega);have hm:oJ 4 c n=⟨c.item,c.aE,c.free+n,c.held,c.out -n,c.all⟩:=rfl;have hmo:mq 4 c n↔n<=c.out:=by unfold mq;simp
   have hkey:Cell.key ⟨c.item,c.aE,c.free+n,c.held,c.out -n,c.all⟩=i*2000+w:=by unfold Cell.key;simp only[f2,f3]
   rw[hm];simp only[h0,Option.bind,ai,ne_eq,not_true_eq_false,if_false,bne_self_eq_false,Bool.false_eq_true,decide_eq_true_eq,q1.1,q3.2,hmo,fK];rw[if_neg hn,if_neg (by omega),if_neg (by omega)];by_cases lV:n<=c.out
   ·rw[if_neg (by omega),if_neg (by omega),if_neg (by omega)];try simp only[lV,not_true_eq_false,if_false]
    by_cases ha:c.all>1125899906842624
    ·simp only[ha,if_true]
    ·simp only[ha,if_false]
     cases hf:(bq Cell.key l (i*2000+w)).isSome with
     |true=>
      simp only[Bool.not_true,Bool.false_eq_true,if_false,false_and,Bool.true_eq_false];exact lG o3 hkey o1 hf
     |false=>
      simp only[Bool.not_false,if_true,true_and,ge_iff_le];by_cases h4:4096<=l.length
      ·rw[if_pos (by omega),if_pos h4]
      ·rw[if_neg (by omega),if_neg h4];exact j4 hkey o1 hf
   ·first|exact absurd trivial lV|skip
    try simp only[lV,not_false_eq_true,if_true]
    repeat' (refine mg (λ_=> ?_) (λ_=> ?_))
    all_goals first|rfl|(exfalso;omega)
 ·have hv:dM l i w=(⟨0,0,0,0,0,0⟩,dN l i w):=lF h0;rw[hv];unfold cm;simp[h0,ai]
end Go.Proofs.aaa
end
section
namespace Go.Proofs.aaa
open Go.bA Go.IntWalk
def bV (k:Int):List Cell->List aU->List Cell×Int
 |l,[]=>(l,0)
 |l,x::r=>if(cm k l x.item x.aE x.gF).2≠0 then([],(cm k l x.item x.aE x.gF).2)else bV k (cm k l x.item x.aE x.gF).1 r
theorem rN {k:Int}{l:List Cell}{i w n:Int}:(cm k l i w n).1.length<=4096:=by
 unfold cm;by_cases h0:dN l i w=0
 ·obtain⟨hok,hk⟩:=j3 h0;obtain⟨f1,f2,f3⟩:=cZ hok hk;obtain⟨o1,_,_⟩:=cE.1 hok;have hkey:Cell.key (oJ k (cellOf l i w) n)=i*2000+w:=by unfold Cell.key;rw[tV.1,tV.2,f2,f3]
  rw[if_neg (λh=>h h0)];split
  ·simp
  ·split
   ·simp
   ·split
    ·simp
    ·split
     ·simp
     ·rename_i h4;simp only[AQ,hkey];split
      ·exact o1
      ·rename_i h5;have:¬l.length>=4096:=λh=>h4 ⟨by simpa using h5,h⟩;omega
 ·rw[if_pos h0];simp
theorem u_ (k:Int){step:List Cell->Int->aU->Option (List Cell⊕Int)}(hst:∀s i x,s.length<=4611686018427387904->step s i x=some (if(cm k s x.item x.aE x.gF).2≠0 then .inr (cm k s x.item x.aE x.gF).2 else .inl (cm k s x.item x.aE x.gF).1))
  {lines:List aU} {l:List Cell} (h1:lines.length<=4611686018427387904) (h2:l.length<=4611686018427387904):bh step lines l=some (if(bV k l lines).2≠0 then .inr (bV k l lines).2 else .inl (bV k l lines).1):=by
 rw[rL (λs _ x=>if(cm k s x.item x.aE x.gF).2≠0 then .inr (cm k s x.item x.aE x.gF).2 else .inl (cm k s x.item x.aE x.gF).1) (λ_ s=>s.length<=4611686018427387904) h1 h2]
 ·congr 1
  clear hst h1 h2
  suffices∀(lines:List aU)(i:Int)(l:List Cell),oI (λs _ x=>if(cm k s x.item x.aE x.gF).2≠0 then .inr (cm k s x.item x.aE x.gF).2 else .inl (cm k s x.item x.aE x.gF).1) lines i l=(if(bV k l lines).2≠0 then .inr (bV k l lines).2 else .inl (bV k l lines).1) from this lines 0 l
  intro lines
  induction lines with
  |nil=>intro i l;rfl
  |cons x r ih=>
   intro i l;rw[oI,bV];by_cases he:(cm k l x.item x.aE x.gF).2≠0
   ·rw[if_pos he,if_pos he];simp[he]
   ·rw[if_neg he,if_neg he];exact ih (i+1) _
 ·intro j x s hj hx hs;refine⟨hst s j x hs,λs' h=> ?_⟩;split at h
  ·cases h
  ·cases h;have:=rN (k:=k) (l:=s) (i:=x.item) (w:=x.aE) (n:=x.gF);omega
theorem rO {α:Type} [DecidableEq α]{a b:List α}(hl:a.length=b.length)(hb:a.length<=4611686018427387904){step:Unit->Int->α->Option (Unit⊕Unit)}
  (hst:∀(i:Int) x y,0<=i->a[i.toNat]?=some x->b[i.toNat]?=some y->fH b i=some y->step () i x=some (if x=y then .inl ()else .inr ())):bh step a ()=some (if a=b then .inl ()else .inr ()):=by
 rw[pz (λi x=>decide (b[i.toNat]?=some x)) () hb]
 ·congr 1
  have:allI (λi x=>decide (b[i.toNat]?=some x)) a 0=decide (a=b):=by
   rw[Bool.eq_iff_iff,jY,decide_eq_true_eq];constructor
   ·intro h;apply List.ext_getElem?;intro j
    cases hj:a[j]? with
    |none=>
     rw[List.getElem?_eq_none_iff]at hj;exact(List.getElem?_eq_none_iff.2 (by omega)).symm
    |some x=>have:=h j x hj;simp at this;exact this.symm
   ·rintro rfl j x hx;simpa using hx
  rw[this];by_cases hab:a=b
  ·simp[hab]
  ·simp[hab]
 ·intro i x hi hx;have hlt:=(List.getElem?_eq_some_iff.1 hx).1;have hy:b[i.toNat]?=some (b[i.toNat]'(by omega)):=List.getElem?_eq_getElem (by omega)
  rw[hst i x _ hi hx hy (cT hi hy),hy];by_cases h:x=b[i.toNat]'(by omega)
  ·simp[h]
  ·have:¬b[i.toNat]'(by omega)=x:=λe=>h e.symm
   simp[h,this]
theorem Nd (a b:List Cell)(hb:a.length<=4611686018427387904):Mr a b=some (decide (a=b)):=by
 unfold Mr;simp only[ai,fK,bne_iff_ne,ne_eq];by_cases hl:(a.length:Int)=b.length
 ·rw[if_neg (λh=>h hl),rO (a:=a) (b:=b) (by omega) hb (λi x y hi hx hy ha=> ?_)]
  ·by_cases h:a=b<;>simp[h]
  ·rw[ha];simp only[Option.bind];by_cases h:x=y
   ·subst h;simp
   ·have:¬(x.item=y.item/\x.aE=y.aE/\x.free=y.free/\x.held=y.held/\x.out=y.out/\x.all=y.all):=λe=>h (by cases x;cases y;simp_all);simp[h];intro h1 h2 h3 h4 h5 h6;exact this ⟨h1,h2,h3,h4,h5,h6⟩
 ·rw[if_pos hl];have:¬a=b:=λe=>hl (by rw[e]);simp[this]
end Go.Proofs.aaa
end
section
namespace Go.Proofs.aaa
open Go.bA Go.IntWalk
abbrev jl {α:Type}(l:List (Int×α)):Prop:=(l.map (·.1)).Nodup
theorem va {α:Type}:∀(l:List (Int×α))(n m:Int)(v:α),ck (iI l n v) m=if m=n then some v else ck l m
 |[],n,m,v=>by
  by_cases h:n=m
  ·subst h;simp[iI,ck]
  ·have:¬m=n:=λe=>h e.symm;simp[iI,ck,h,this]
 |(k,u)::l,n,m,v=>by
  simp only[iI];by_cases h:k=n
  ·subst h;by_cases h2:k=m
   ·subst h2;simp[ck]
   ·have:¬m=k:=λe=>h2 e.symm;simp[ck,h2,this]
  ·rw[if_neg h];by_cases h2:k=m
   ·subst h2;simp[ck,h]
   ·simp[ck,h2,va l n m v]
theorem vb {α:Type}:∀(l:List (Int×α))(n:Int)(v:α),jl l->jl (iI l n v)/\∀k,k∈(iI l n v).map (·.1)->k=n\/k∈l.map (·.1)
 |[],n,v,_=>⟨by simp[iI,jl],λk hk=>by simp[iI]at hk;exact .inl hk⟩
 |(k,u)::l,n,v,h=>by
  obtain⟨h1,h2⟩:=List.nodup_cons.1 h;simp only[iI];by_cases hk:k=n
  ·rw[if_pos hk];exact⟨h,λq hq=>.inr hq⟩
  ·rw[if_neg hk];obtain⟨i1,i2⟩:=vb l n v h2;refine⟨List.nodup_cons.2 ⟨λhm=> ?_,i1⟩,λq hq=> ?_⟩
   ·rcases i2 k hm with e|e
    ·exact hk e
    ·exact h1 e
   ·rcases List.mem_cons.1 hq with e|e
    ·exact .inr (by simp[e])
    ·rcases i2 q e with e|e
     ·exact .inl e
     ·exact .inr (List.mem_cons_of_mem _ e)
theorem xF {α:Type}:∀{l:List (Int×α)}{n:Int},n∉l.map (·.1)->ck l n=none
 |[],_,_=>rfl
 |(k,u)::l,n,h=>by
  simp only[List.map_cons,List.mem_cons,not_or]at h;rw[ck,if_neg (λe=>h.1 e.symm)];exact xF h.2
theorem AT {α:Type}:∀{l:List (Int×α)}{n:Int}{v:α},ck l n=some v->(n,v)∈l
 |(k,u)::l,n,v,h=>by
  rw[ck]at h;split at h
  ·rename_i e;subst e;cases h;exact List.mem_cons_self
  ·exact List.mem_cons_of_mem _ (AT h)
theorem AU {α:Type}:∀{l:List (Int×α)}{n:Int}{v:α},jl l->(n,v)∈l->ck l n=some v
 |(k,u)::l,n,v,hk,h=>by
  obtain⟨h1,h2⟩:=List.nodup_cons.1 hk;rw[ck];rcases List.mem_cons.1 h with e|e
  ·cases e;rw[if_pos rfl]
  ·have hn:k≠n:=λe2=>h1 (by subst e2;exact List.mem_map_of_mem (f:=(·.1)) e);rw[if_neg hn,AU h2 e]
theorem AW {α:Type}:∀(l:List (Int×α))(n m:Int),jl l->ck (kg l n) m=if m=n then none else ck l m
 |[],n,m,_=>by simp[kg,ck]
 |(k,u)::l,n,m,h=>by
  obtain⟨h1,h2⟩:=List.nodup_cons.1 h;simp only[kg];by_cases hk:k=n
  ·subst hk;rw[if_pos rfl];by_cases hm:m=k
   ·subst hm;rw[if_pos rfl];exact xF h1
   ·rw[if_neg hm,ck,if_neg (λe=>hm e.symm)]
  ·rw[if_neg hk,ck,ck,AW l n m h2];by_cases hm:k=m
   ·subst hm;simp[hk]
   ·simp[hm]
theorem AX {α:Type}:∀(l:List (Int×α))(n:Int),jl l->jl (kg l n)/\∀k,k∈(kg l n).map (·.1)->k∈l.map (·.1)
 |[],n,h=>⟨h,λk hk=>hk⟩
 |(k,u)::l,n,h=>by
  obtain⟨h1,h2⟩:=List.nodup_cons.1 h;simp only[kg];by_cases hk:k=n
  ·rw[if_pos hk];exact⟨h2,λq hq=>List.mem_cons_of_mem _ hq⟩
  ·rw[if_neg hk];obtain⟨i1,i2⟩:=AX l n h2;refine⟨List.nodup_cons.2 ⟨λhm=>h1 (i2 k hm),i1⟩,λq hq=> ?_⟩;rcases List.mem_cons.1 hq with e|e
   ·simp[e]
   ·exact List.mem_cons_of_mem _ (i2 q e)
theorem AY {α ρ:Type} [DecidableEq ρ]{step:Int->α->Option (Unit⊕ρ)}(p:Int->α->Bool)(r:ρ):∀(l:List (Int×α)),(∀n v,(n,v)∈l->step n v=some (if p n v=true then .inl ()else .inr r))->
  anyM step l=some (if(l.all λq=>p q.1 q.2)=true then .inl ()else .inr r)
 |[],_=>by simp[anyM]
 |(n,v)::l,h=>by
  rw[anyM,h n v List.mem_cons_self,AY p r l λm u hm=>h m u (List.mem_cons_of_mem _ hm),List.all_cons];simp only[Option.bind];cases p n v<;>cases (l.all λq=>p q.1 q.2)<;>simp
def dV (p:aQ)(x:au):aQ:=⟨p.order,(p.bC+if x.dst=2 then x.ax else 0) -(if x.sJ=2 then x.ax else 0),p.aT+(if x.dst=3 then x.ax else 0),p.aX+(if x.sJ=3 then x.ax else 0)⟩
def wg (p:aQ):Bool:=decide (p.bC<=1152921504606846976/\-1152921504606846976<=p.bC/\p.aT<=1152921504606846976/\p.aX<=1152921504606846976)
def eH (x:au):Bool:=decide (1<=x.order/\x.order<=1024/\1<=x.ax/\x.ax<=1152921504606846976/\1<=x.sJ/\x.sJ<=3/\1<=x.dst/\x.dst<=3/\x.sJ≠x.dst)
theorem dH {x:au}:eH x=true↔(1<=x.order/\x.order<=1024/\1<=x.ax/\x.ax<=1152921504606846976/\1<=x.sJ/\x.sJ<=3/\1<=x.dst/\x.dst<=3/\x.sJ≠x.dst):=by unfold eH;rw[decide_eq_true_eq]
abbrev IW (p:aQ):Prop:=-1152921504606846976<=p.bC/\p.bC<=1152921504606846976/\0<=p.aT/\p.aT<=1152921504606846976/\0<=p.aX/\p.aX<=1152921504606846976
theorem Hx {p:aQ}{x:au}(hp:IW p)(hx:eH x=true)(hb:wg (dV p x)=true):IW (dV p x):=by
 rw[dH]at hx;unfold wg at hb;rw[decide_eq_true_eq]at hb;refine⟨hb.2.1,hb.1, ?_,hb.2.2.1, ?_,hb.2.2.2⟩<;>simp only[dV]<;>split<;>omega
theorem zb (p:aQ)(x:au)(hp:IW p)(hx:eH x=true):B6 p x=some (wg (dV p x),dV p x):=by
  rw[dH]at hx;have e:∀a b:Int,-2305843009213693952<=a->a<=2305843009213693952->-2305843009213693952<=b->b<=2305843009213693952->aH .add .i64 a b=a+b/\aH .sub .i64 a b=a -b:=λa b h1 h2 h3 h4=>by simp only[aH,wrap64];omega
  have e1:=e p.bC x.ax (by omega) (by omega) (by omega) (by omega);have e2:=(e p.aT x.ax (by omega) (by omega) (by omega) (by omega)).1;have e3:=(e p.aX x.ax (by omega) (by omega) (by omega) (by omega)).1;have e4:=(e (p.bC+x.ax) x.ax (by omega) (by omega) (by omega) (by omega)).2;obtain⟨po,p1,p2,p3⟩:=p;obtain⟨o,f,d,a⟩:=x;simp only at hx e1 e2 e3 e4 hp;have hf:f=1\/f=2\/f=3:=by omega
  have hd:d=1\/d=2\/d=3:=by omega
  unfold B6 dV wg;simp only[e1.1,e1.2,e2,e3,e4];clear e e1 e2 e3 e4;rcases hf with rfl|rfl|rfl<;>rcases hd with rfl|rfl|rfl
  all_goals first
    |(exfalso;omega)
    | (simp only[ai,beq_iff_eq,decide_eq_true_eq,ge_iff_le,Int.reduceEq,if_true,if_false]
       repeat' (refine mg (λ_=> ?_) (λ_=> ?_))
       all_goals (rw[Option.some.injEq,Prod.mk.injEq];refine⟨?_, ?_⟩)
       all_goals first
         |(show aQ.mk _ _ _ _=aQ.mk _ _ _ _;congr 1<;>omega;done)
         |(simp only[aQ.mk.injEq,true_and];omega)
         |(rw[Bool.eq_iff_iff];simp only[decide_eq_true_eq,Bool.false_eq_true,false_iff];omega)
         |skip)
end Go.Proofs.aaa
end
section
namespace Go.Proofs.aaa
open Go.bA Go.IntWalk
def fZ (n:Int):aQ->List au->Option aQ
 |p,[]=>some p
 |p,x::l=>if x.order=n then(if wg (dV p x)=true then fZ n (dV p x) l else none)else fZ n p l
abbrev f_ (l:List au)(n:Int):Option aQ:=fZ n ⟨n,0,0,0⟩ l
end Go.Proofs.aaa
end
section
namespace Go.Proofs.aaa
open Go.bA Go.IntWalk
def jt (p:aQ):Bool:=decide (p.bC=0/\p.aT=0/\p.aX=0)
def aG (b:aF)(n:Int):aQ:=match bq aQ.order b.aK n with|some p=>p|none=>⟨n,0,0,0⟩
structure bO (b:aF):Prop where
 qo:b.aK.length<=1024
 rK:b.ak.length<=16384
 i_:∀x∈b.ak,eH x=true
 rising:bU aQ.order b.aK
 aK:∀p∈b.aK,1<=p.order/\p.order<=1024/\jt p=false/\0<=p.bC/\p.aX<=p.aT/\f_ b.ak p.order=some p
 rest:∀x∈b.ak,f_ b.ak x.order=some (aG b x.order)
open Classical in
noncomputable def ve (b:aF):Int:=if bO b then 0 else 9
theorem jH {b:aF}(h:bO b):ve b=0:=by unfold ve;rw[if_pos h]
theorem iO {b:aF}(h:¬bO b):ve b=9:=by unfold ve;rw[if_neg h]
theorem nW (n:Int):wu n=some (decide (1<=n/\n<=1024)):=by
 simp only[wu,ai,decide_eq_true_eq,ge_iff_le];refine mg (λh=> ?_) (λh=> ?_)<;>simp[h]
theorem ze (n:Int):uz n=some (decide (1<=n/\n<=1152921504606846976)):=by
 simp only[uz,ai,decide_eq_true_eq,ge_iff_le];refine mg (λh=> ?_) (λh=> ?_)<;>simp[h]
theorem JZ (n:Int):Eh n=some (decide (1<=n/\n<=3)):=by
 simp only[Eh,ai,decide_eq_true_eq,ge_iff_le];refine mg (λh=> ?_) (λh=> ?_)
 ·rw[Option.some.injEq,Bool.eq_iff_iff];simp;omega
 ·simp[h]
theorem Hy (b:aF)(n:Int)(hl:b.aK.length<=4611686018427387904):IL b n=some (aG b n):=by
 unfold IL;rw[nu (λp=>p.order==n) id hl]
 ·unfold aG bq;cases b.aK.find? (λp=>p.order==n)<;>rfl
 ·intro j x _ _;simp only[ai];by_cases h:x.order=n<;>simp[h]
theorem qt (n:Int):∀{l:List au}{p q:aQ},(∀x∈l,eH x=true)->IW p->fZ n p l=some q->IW q/\q.order=p.order
 |[],p,q,_,hp,h=>by cases h;exact⟨hp,rfl⟩
 |x::l,p,q,hf,hp,h=>by
  rw[fZ]at h;split at h
  ·split at h
   ·rename_i h2;have h3:=qt n (p:=dV p x) (λy hy=>hf y (List.mem_cons_of_mem _ hy)) (Hx hp (hf x List.mem_cons_self) h2) h;exact h3
   ·cases h
  ·exact qt n (λy hy=>hf y (List.mem_cons_of_mem _ hy)) hp h
theorem CF (p q:aQ):((p.order==q.order)&&((p.bC==q.bC)&&((p.aT==q.aT)&&((p.aX==q.aX)&&true))))=decide (p=q):=by
 rw[Bool.eq_iff_iff];obtain⟨a,b,c,d⟩:=p;obtain⟨a',b',c',d'⟩:=q;simp
def wN (b:aF)(i:Int)(p:aQ):Bool:=decide (1<=p.order/\p.order<=1024/\jt p=false/\0<=p.bC/\p.aX<=p.aT/\f_ b.ak p.order=some p)&&(decide (i<=0)||match b.aK[(i -1).toNat]? with|some d=>decide (d.order<p.order)|none=>false)
theorem AZ {b:aF}:allI (wN b) b.aK 0=true↔bU aQ.order b.aK/\∀p∈b.aK,1<=p.order/\p.order<=1024/\jt p=false/\0<=p.bC/\p.aX<=p.aT/\f_ b.ak p.order=some p:=by
 rw[jY];constructor
 ·intro h;refine⟨kT _ λj x y hx hy=> ?_,λp hp=> ?_⟩
  ·have:=h (j+1) y hy;unfold wN at this;rw[Bool.and_eq_true]at this;have h3:=this.2;rw[decide_eq_false (by omega),show((0:Int)+((j+1:Nat):Int) -1).toNat=j by omega,hx]at h3;simpa using h3
  ·obtain⟨j,hj⟩:=List.mem_iff_getElem?.1 hp;have:=h j p hj;unfold wN at this;rw[Bool.and_eq_true,decide_eq_true_eq]at this;exact this.1
 ·rintro⟨h1,h2⟩ j p hp;unfold wN;rw[decide_eq_true (h2 p (List.mem_of_getElem? hp)),Bool.true_and,Bool.or_eq_true]
  cases j with
  |zero=>left;simp
  |succ j=>
   right;have hlt:=(List.getElem?_eq_some_iff.1 hp).1;have hx:=List.getElem?_eq_getElem (show j<b.aK.length by omega);rw[show((0:Int)+((j+1:Nat):Int) -1).toNat=j by omega,hx];have:=u7 h1 hx hp;simpa using this
end Go.Proofs.aaa
end
section
namespace Go.Proofs.aaa
open Go.bA Go.IntWalk
theorem sQ {α σ ρ:Type}{step:σ->Int->α->Option (σ⊕ρ)}(Inv:Nat->σ->Prop)(A0:ρ->Prop):∀(l pre:List α)(s:σ),Inv pre.length s->
  (∀(j:Nat) x s,(pre++l)[j]?=some x->Inv j s->(∃s',step s j x=some (.inl s')/\Inv (j+1) s')\/∃r,step s j x=some (.inr r)/\A0 r)->
  (∃s',gY step l (pre.length:Int) s=some (.inl s')/\Inv (pre.length+l.length) s')\/∃r,gY step l (pre.length:Int) s=some (.inr r)/\A0 r
 |[],pre,s,h,_=>.inl ⟨s,rfl,h⟩
 |x::l,pre,s,h,hs=>by
  rcases hs pre.length x s (by simp) h with⟨s',e,hi⟩|⟨r,e,hb⟩
  ·have:=sQ Inv A0 l (pre++[x]) s' (by simpa using hi) (by simpa using hs);simp only[List.length_append,List.length_cons,List.length_nil,Nat.zero_add]at this;rw[gY,e,Option.bind_some];dsimp only;rw[List.length_cons,show pre.length+(l.length+1)=pre.length+1+l.length by omega];exact this
  ·exact .inr ⟨r,by rw[gY,e];rfl,hb⟩
theorem cP {α σ ρ:Type}{step:σ->Int->α->Option (σ⊕ρ)}{l:List α}{s0:σ}(Inv:Nat->σ->Prop)(A0:ρ->Prop)(hl:l.length<=4611686018427387904)(h0:Inv 0 s0)
  (h:∀(j:Nat) x s,l[j]?=some x->Inv j s->(∃s',step s j x=some (.inl s')/\Inv (j+1) s')\/∃r,step s j x=some (.inr r)/\A0 r):
  (∃s',bh step l s0=some (.inl s')/\Inv l.length s')\/∃r,bh step l s0=some (.inr r)/\A0 r:=by
 rw[bh,if_pos (decide_eq_true hl)];have:=sQ Inv A0 l [] s0 h0 (by simpa using h);simpa using this
theorem j5 (n:Int):∀(a b:List au)(p:aQ),fZ n p (a++b)=(fZ n p a).bind λq=>fZ n q b
 |[],b,p=>rfl
 |x::a,b,p=>by
  rw[List.cons_append,fZ,fZ];split
  ·split
   ·exact j5 n a b _
   ·rfl
  ·exact j5 n a b _
theorem zf (n:Int):∀(l:List au)(p:aQ),(∀x∈l,x.order≠n)->fZ n p l=some p
 |[],p,_=>rfl
 |x::l,p,h=>by rw[fZ,if_neg (h x List.mem_cons_self)];exact zf n l p λy hy=>h y (List.mem_cons_of_mem _ hy)
structure kU (pre:List au)(s:List (Int×aQ)):Prop where
 keys:jl s
 rP:∀x∈pre,eH x=true
 has:∀n,(ck s n=none/\∀x∈pre,x.order≠n)\/∃p,ck s n=some p/\f_ pre n=some p/\∃x∈pre,x.order=n
theorem kU.zg {pre s}(h:kU pre s)(n:Int):f_ pre n=some ((ck s n).getD ⟨n,0,0,0⟩):=by
 rcases h.has n with⟨h1,h2⟩|⟨p,h1,h2,-⟩
 ·rw[h1];exact zf n pre _ h2
 ·rw[h1];exact h2
theorem kU.cnt {pre s}(h:kU pre s)(n:Int):IW ((ck s n).getD ⟨n,0,0,0⟩)/\((ck s n).getD ⟨n,0,0,0⟩).order=n:=
 qt n h.rP (by unfold IW;simp) (h.zg n)
theorem kU.step {pre s}(h:kU pre s){x:au}(hx:eH x=true)(hb:wg (dV ((ck s x.order).getD ⟨x.order,0,0,0⟩) x)=true):kU (pre++[x]) (iI s x.order (dV ((ck s x.order).getD ⟨x.order,0,0,0⟩) x)):=by
 refine⟨(vb s _ _ h.keys).1, ?_,λn=> ?_⟩
 ·intro y hy;rcases List.mem_append.1 hy with hy|hy
  ·exact h.rP y hy
  ·rw[List.mem_singleton]at hy;subst hy;exact hx
 ·rw[va];by_cases hn:n=x.order
  ·rw[if_pos hn];refine .inr ⟨_,rfl, ?_,x,by simp,hn.symm⟩;subst hn;rw[f_,j5,show fZ x.order _ pre=_ from h.zg x.order,Option.bind_some,fZ,if_pos rfl,if_pos hb];rfl
  ·rw[if_neg hn];rcases h.has n with⟨h1,h2⟩|⟨p,h1,h2,y,hy,hyn⟩
   ·refine .inl ⟨h1,λy hy=> ?_⟩;rcases List.mem_append.1 hy with hy|hy
    ·exact h2 y hy
    ·rw[List.mem_singleton]at hy;subst hy;exactλe=>hn e.symm
   ·refine .inr ⟨p,h1, ?_,y,List.mem_append_left _ hy,hyn⟩;rw[f_,j5,show fZ n _ pre=_ from h2,Option.bind_some,fZ,if_neg (λe=>hn e.symm)];rfl
theorem kU.bad {b:aF}{pre post s}(h:kU pre s){x:au}(hp:b.ak=pre++x::post)(hb:¬wg (dV ((ck s x.order).getD ⟨x.order,0,0,0⟩) x)=true):¬bO b:=by
 intro ho;have h1:=ho.rest x (by rw[hp];simp);rw[hp,f_,j5,show fZ x.order _ pre=_ from h.zg x.order,Option.bind_some,fZ,if_pos rfl,if_neg hb]at h1;cases h1
theorem Nf {α:Type}{l:List α}{j:Nat}{x:α}(h:l[j]?=some x):l=l.take j++x::l.drop (j+1):=by
 obtain⟨h1,rfl⟩:=List.getElem?_eq_some_iff.1 h;rw[<-List.drop_eq_getElem_cons h1,List.take_append_drop]
theorem take_one {α:Type}{l:List α}{j:Nat}{x:α}(h:l[j]?=some x):l.take (j+1)=l.take j++[x]:=by
 rw[List.take_add_one,h];rfl
theorem J0 (x:aQ):(!(!((x.order==x.order)&&((x.bC==0)&&((x.aT==0)&&((x.aX==0)&&true))))))=jt x:=by
 rw[Bool.eq_iff_iff];unfold jt;simp
theorem Q5 (x:aQ)(h:1<=x.order):(!((0==x.order)&&((0==x.bC)&&((0==x.aT)&&((0==x.aX)&&true)))))=true:=by
 have:(0==x.order)=false:=by simp;omega
 rw[this];rfl
end Go.Proofs.aaa
end
section
namespace Go.Proofs.aaa
open Go.bA Go.IntWalk
theorem nw {σ ρ β:Type}{o:Option (σ⊕ρ)}{K:σ⊕ρ->Option β}{I:σ->Prop}{A0:ρ->Prop}{v:Option β}(h:(∃s,o=some (.inl s)/\I s)\/∃r,o=some (.inr r)/\A0 r)(h1:∀s,I s->K (.inl s)=v)(h2:∀r,A0 r->K (.inr r)=v):o.bind K=v:=by
 rcases h with⟨s,rfl,hi⟩|⟨r,rfl,hb⟩
 ·exact h1 s hi
 ·exact h2 r hb
theorem vg {σ ρ:Type}{o:Option (σ⊕ρ)}{I:σ->Prop}{A0:ρ->Prop}(c:Prop) [Decidable c](s1:σ)(r:ρ)(e:o=some (if c then .inl s1 else .inr r))(h1:c->I s1)(h2:¬c->A0 r):(∃s,o=some (.inl s)/\I s)\/∃r,o=some (.inr r)/\A0 r:=by
 by_cases h:c
 ·exact .inl ⟨s1,by rw[e,if_pos h],h1 h⟩
 ·exact .inr ⟨r,by rw[e,if_neg h],h2 h⟩
theorem xG {l:List aQ}{j:Nat}{x:aQ}(hr:bU aQ.order (l.take j))(h:∀y,0<j->l[j -1]?=some y->y.order<x.order)(hj:j<=l.length):∀p∈l.take j,p.order<x.order:=by
 intro p hp;by_cases h0:j=0
 ·subst h0;simp at hp
 ·have hy:l[j -1]?=some (l[j -1]'(by omega)):=List.getElem?_eq_getElem (by omega)
  have e:=take_one hy;rw[show j -1+1=j by omega]at e;have hlt:=h _ (by omega) hy;rw[e]at hp hr;rcases List.mem_append.1 hp with hp|hp
  ·have:=(List.pairwise_append.1 hr).2.2 p hp _ (List.mem_singleton.2 rfl);omega
  ·rw[List.mem_singleton]at hp;rw[hp];exact hlt
theorem vh (b:aF)(h1:b.aK.length<=4611686018427387904)(h2:b.ak.length<=4611686018427387904):Jc b=some (ve b):=by
 unfold Jc;simp only[ai,fK,decide_eq_true_eq];by_cases l1:(b.aK.length:Int)>1024
 ·rw[if_pos l1,iO (λh=>by have:=h.qo;omega)]
 rw[if_neg l1];by_cases l2:(b.ak.length:Int)>16384
 ·rw[if_pos l2,iO (λh=>by have:=h.rK;omega)]
 rw[if_neg l2];refine nw (cP (λj s=>kU (b.ak.take j) s) (λ_=>¬bO b) h2 ⟨by simp[jl],by simp,λn=>.inl ⟨rfl,by simp⟩⟩ ?_) (λs0 hs0=> ?_) (λ_ hb=>by rw[iO hb])
 ·intro j x s hx hi;refine vg (eH x=true/\wg (dV ((ck s x.order).getD ⟨x.order,0,0,0⟩) x)=true) (iI s x.order (dV ((ck s x.order).getD ⟨x.order,0,0,0⟩) x)) () ?_ (λh=>by rw[take_one hx];exact hi.step h.1 h.2) (λh hb=> ?_)
  ·have hx':=dH (x:=x);simp only[nW,ze,JZ,Option.bind_some]
   cases hp:eH x with
   |true=>
    have:=hx'.1 hp;rw[if_neg (by simp;omega),if_neg (by simp;omega),if_neg (by simp;omega),if_neg (by simp;omega)];refine(if_neg (by simp;omega)).trans ?_;have hc:=hi.cnt x.order
    cases hl:ck s x.order with
    |none=>
     simp only[ou,Option.getD_none];rw[zb _ _ (by unfold IW;simp) hp,Option.bind_some];cases wg (dV ⟨x.order,0,0,0⟩ x)<;>simp
    |some v=>
     rw[hl]at hc;simp only[Option.getD_some]at hc;have hv:(⟨x.order,v.bC,v.aT,v.aX⟩:aQ)=v:=by rw[<-hc.2]
     simp only[ou,Option.getD_some,hv];rw[zb _ _ hc.1 hp,Option.bind_some];cases wg (dV v x)<;>simp
   |false=>
    simp only[Bool.false_eq_true,false_and,if_false];have hn:¬_:=λh=>by have:=hx'.2 h;rw[hp]at this;cases this
    repeat' (refine mg (λ_=> ?_) (λ_=> ?_))
    all_goals first
     |rfl
     |(exfalso;apply hn;simp at*;omega)
  ·by_cases hp:eH x=true
   ·exact hi.bad (Nf hx) (λh'=>h ⟨hp,h'⟩) hb
   ·exact hp (hb.i_ x (List.mem_of_getElem? hx))
 dsimp only;rw[List.take_length]at hs0;refine nw (cP (λj s=>(∀(k:Nat) p,k<j->b.aK[k]?=some p->wN b k p=true)/\bU aQ.order (b.aK.take j)/\jl s/\∀n,ck s n=if n∈(b.aK.take j).map aQ.order then none else ck s0 n) (λ_=>¬bO b) h1 ⟨by intro k p hk;omega,by simp,hs0.keys,by simp⟩ ?_) (λs1 Um=> ?_) (λ_ hb=>by rw[iO hb])
 ·rintro j x s hx ⟨i1,i2,i3,i4⟩;have hjl:=(List.getElem?_eq_some_iff.1 hx).1;have hlt:wN b j x=true->∀p∈b.aK.take j,p.order<x.order:=λhp=>by
   refine xG i2 (λy h0 hy=> ?_) (by omega);unfold wN at hp;rw[Bool.and_eq_true]at hp;have:=hp.2;rw[decide_eq_false (by omega),show((j:Int) -1).toNat=j -1 by omega,hy]at this;simpa using this
  refine vg (wN b j x=true) (kg s x.order) () ?_ (λhp=>⟨?_, ?_,(AX _ _ i3).1,λn=> ?_⟩) (λh hb=> ?_)
  ·have hj:(j:Int)<=4611686018427387904:=by omega
   have tl:(∀p∈b.aK.take j,p.order<x.order)->1<=x.order->jt x=false->(if x.bC<0 then(some (.inr ()):Option (List (Int×aQ)⊕Unit))else if x.aX>x.aT then some (.inr ())else
     ou (ck s x.order) (λIN=>if(!((IN.order==x.order)&&((IN.bC==x.bC)&&((IN.aT==x.aT)&&((IN.aX==x.aX)&&true)))))=true then some (.inr ())else some (.inl (kg s x.order)))
      (if(!((0==x.order)&&((0==x.bC)&&((0==x.aT)&&((0==x.aX)&&true)))))=true then some (.inr ())else some (.inl (kg s x.order))))
     =some (if(0<=x.bC/\x.aX<=x.aT/\f_ b.ak x.order=some x)then .inl (kg s x.order)else .inr ()):=by
    intro hlt hx1 Sk;have hs:=hs0.zg x.order;have e4:=i4 x.order;rw[if_neg (λh=>by obtain⟨p,hp,he⟩:=List.mem_map.1 h;have:=hlt p hp;omega)]at e4;rw[e4,hs]
    cases hl:ck s0 x.order with
    |none=>
     simp only[ou,Q5 x hx1,Option.getD_none,Option.some.injEq,if_true];have:¬(⟨x.order,0,0,0⟩:aQ)=x:=λh=>by rw[<-h]at Sk;simp[jt]at Sk
     simp only[this,and_false,if_false]
     repeat' (refine mg (λ_=> ?_) (λ_=> ?_))
     all_goals rfl
    |some v=>
     simp only[ou,Option.getD_some,CF,Option.some.injEq];by_cases hp:v=x
     ·simp only[hp,and_true];by_cases h5:0<=x.bC/\x.aX<=x.aT
      ·rw[if_pos h5,if_neg (by omega),if_neg (by omega)];simp
      ·rw[if_neg h5]
       repeat' (refine mg (λ_=> ?_) (λ_=> ?_))
       all_goals first|rfl|(exfalso;omega)
     ·simp only[hp,and_false,if_false]
      repeat' (refine mg (λ_=> ?_) (λ_=> ?_))
      all_goals first|rfl|(exfalso;simp at*;done)
   simp only[nW,J0,Option.bind_some];have yT:∀y,0<j->b.aK[j -1]?=some y->¬y.order>=x.order->∀p∈b.aK.take j,p.order<x.order:=λy h0 hy h=>xG i2 (λz _ hz=>by rw[hy]at hz;cases hz;omega) (by omega);unfold wN;by_cases c1:1<=x.order/\x.order<=1024
   ·rw[if_neg (by simp;omega)]
    cases c2:jt x with
    |true=>simp
    |false=>
     rw[if_neg (by simp)];by_cases hj0:0<(j:Int)
     ·rw[if_pos (by omega)];obtain⟨y,⟨hy,ha⟩|JS⟩:=AP (j:=(j:Int)) (by omega) (by rw[Int.toNat_natCast];exact hx) hj0
      ·rw[ha,hy,Option.bind_some];by_cases c3:y.order>=x.order
       ·rw[if_pos c3,if_neg (by simp;omega)]
       ·rw[if_neg c3,tl (yT y (by omega) (by rw[show((j:Int) -1).toNat=j -1 by omega]at hy;exact hy) c3) c1.1 c2];by_cases c4:0<=x.bC/\x.aX<=x.aT/\f_ b.ak x.order=some x
        ·rw[if_pos c4,if_pos (by rw[decide_eq_true ⟨c1.1,c1.2,(by first|rfl|trivial),c4⟩];simp only[Bool.true_and,Bool.or_eq_true,decide_eq_true_eq];right;omega)]
        ·rw[if_neg c4,if_neg (by rw[decide_eq_false (λh=>c4 h.2.2.2)];simp)]
      ·omega
     ·have hz:j=0:=by omega
      rw[if_neg (by omega),tl (by subst hz;simp) c1.1 c2];by_cases c4:0<=x.bC/\x.aX<=x.aT/\f_ b.ak x.order=some x
      ·rw[if_pos c4,if_pos (by rw[decide_eq_true ⟨c1.1,c1.2,(by first|rfl|trivial),c4⟩,decide_eq_true (by omega:(j:Int)<=0)];simp)]
      ·rw[if_neg c4,if_neg (by rw[decide_eq_false (λh=>c4 h.2.2.2)];simp)]
   ·rw[if_pos (by simp;omega),if_neg (by rw[decide_eq_false (λh=>c1 ⟨h.1,h.2.1⟩)];simp)]
  ·intro k p hk BW;by_cases hkj:k=j
   ·subst hkj;rw[hx]at BW;cases BW;exact hp
   ·exact i1 k p (by omega) BW
  ·rw[take_one hx];refine List.pairwise_append.2 ⟨i2,List.pairwise_singleton _ _,λp BW y hy=> ?_⟩;rw[List.mem_singleton]at hy;subst hy;exact hlt hp p BW
  ·rw[AW _ _ _ i3,i4,take_one hx,List.map_append];by_cases hn:n=x.order
   ·rw[if_pos hn,if_pos (by simp[hn])]
   ·rw[if_neg hn];have:n∈(b.aK.take j).map aQ.order++[x].map aQ.order↔n∈(b.aK.take j).map aQ.order:=by simp[hn]
    by_cases h3:n∈(b.aK.take j).map aQ.order
    ·rw[if_pos h3,if_pos (this.2 h3)]
    ·rw[if_neg h3,if_neg (λh=>h3 (this.1 h))]
  ·have:=jY.1 (AZ.2 ⟨hb.rising,hb.aK⟩) j x hx;rw[Int.zero_add]at this;exact h this
 obtain⟨i1,-,i3,i4⟩:=Um;rw[List.take_length]at i4;dsimp only;have hP:=AZ.1 (jY.2 (λj x hx=>by rw[Int.zero_add];exact i1 j x (List.getElem?_eq_some_iff.1 hx).1 hx):allI (wN b) b.aK 0=true);rw[AY (λn v=>decide (v=⟨n,0,0,0⟩)) () s1 (λn v _=> ?_),Option.bind_some]
 ·have hR:(s1.all λq=>decide (q.2=⟨q.1,0,0,0⟩))=true↔∀x∈b.ak,f_ b.ak x.order=some (aG b x.order):=by
   rw[List.all_eq_true];have hin:∀n,n∈b.aK.map aQ.order↔∃p,bq aQ.order b.aK n=some p:=λn=>by
    constructor
    ·intro h;obtain⟨p,hp,he⟩:=List.mem_map.1 h
     cases hf:bq aQ.order b.aK n with
     |none=>rw[bq,List.find?_eq_none]at hf;have:=hf p hp;simp[he]at this
     |some q=>exact⟨q,rfl⟩
    ·rintro⟨p,hp⟩;exact List.mem_map.2 ⟨p,List.mem_of_find?_eq_some hp,by simpa using List.find?_some hp⟩
   constructor
   ·intro h x hx;rw[hs0.zg x.order];rcases hs0.has x.order with⟨-,hno⟩|⟨p,hp,V4,hex⟩
    ·exact absurd rfl (hno x hx)
    ·rw[hp,Option.getD_some];unfold aG
     cases hf:bq aQ.order b.aK x.order with
     |some q=>
      have hq:=hP.2 q (List.mem_of_find?_eq_some hf);have ho:q.order=x.order:=by simpa using List.find?_some hf
      have:=hq.2.2.2.2.2;rw[ho,V4]at this;simpa using this
     |none=>
      have e:=i4 x.order;rw[if_neg (λhm=>by obtain⟨q,hq⟩:=(hin _).1 hm;rw[hf]at hq;cases hq),hp]at e;have:=h _ (AT e);simpa using this
   ·rintro h ⟨n,v⟩ hq;have e:=AU i3 hq;have e2:=i4 n;rw[e]at e2;split at e2
    ·cases e2
    ·rename_i hno;rcases hs0.has n with⟨hn,-⟩|⟨p,hp,V4,hex⟩
     ·rw[hn]at e2;cases e2
     ·rw[hp]at e2;cases e2;obtain⟨x,hx,rfl⟩:=hex;have:=h x hx;rw[V4]at this;unfold aG at this
      cases hf:bq aQ.order b.aK x.order with
      |some q=>exact absurd ((hin _).2 ⟨q,hf⟩) hno
      |none=>rw[hf]at this;simpa using this
  by_cases hr:∀x∈b.ak,f_ b.ak x.order=some (aG b x.order)
  ·rw[if_pos (hR.2 hr),jH ⟨by omega,by omega,hs0.rP,hP.1,hP.2,hr⟩]
  ·rw[if_neg (λh=>hr (hR.1 h)),iO (λh=>hr h.rest)]
 ·have e:((v.order==n)&&((v.bC==0)&&((v.aT==0)&&((v.aX==0)&&true))))=decide (v=⟨n,0,0,0⟩):=CF v ⟨n,0,0,0⟩;rw[e];by_cases hv:v=⟨n,0,0,0⟩<;>simp[hv]
end Go.Proofs.aaa
end
section
namespace Go.Proofs.aaa
open Go.bA Go.IntWalk
abbrev BH:aF:=⟨[],[]⟩
def fu (l:List aQ)(p:aQ):List aQ:=if jt p=true then l.filter (λq=>decide (q.order≠p.order))else iw aQ.order l p
def j6 (b:aF)(x:au):aF×Int:=
 if b.ak.length>=16384 then(BH,3)else if wg (dV (aG b x.order) x)=true then(⟨fu b.aK (dV (aG b x.order) x),b.ak++[x]⟩,0)else(BH,5)
theorem kH (b:aF)(n:Int):(aG b n).order=n:=by
 unfold aG
 cases h:bq aQ.order b.aK n with
 |none=>rfl
 |some p=>exact(b_ aQ.order h).2
theorem bO.zg {b:aF}(h:bO b)(n:Int):f_ b.ak n=some (aG b n):=by
 by_cases hx:∃x∈b.ak,x.order=n
 ·obtain⟨x,hx,rfl⟩:=hx;exact h.rest x hx
 ·have hz:=zf n b.ak ⟨n,0,0,0⟩ (λx hx' he=>hx ⟨x,hx',he⟩);rw[f_,hz];unfold aG
  cases hf:bq aQ.order b.aK n with
  |none=>rfl
  |some p=>
   obtain⟨hp,rfl⟩:=b_ aQ.order hf;have:=(h.aK p hp).2.2.2.2.2;rw[f_,hz]at this;exact this
theorem bO.cnt {b:aF}(h:bO b)(n:Int):IW (aG b n):=(qt n h.i_ (by unfold IW;simp) (h.zg n)).1
theorem bO.bC {b:aF}(h:bO b)(n:Int):0<=(aG b n).bC/\(aG b n).aX<=(aG b n).aT:=by
 unfold aG
 cases hf:bq aQ.order b.aK n with
 |none=>exact⟨Int.le_refl _,Int.le_refl _⟩
 |some p=>
  have:=h.aK p (b_ aQ.order hf).1;exact⟨this.2.2.2.1,this.2.2.2.2.1⟩
theorem bO.aaB {b:aF}(h:bO b)(x:au):f_ (b.ak++[x]) x.order=if wg (dV (aG b x.order) x)=true then some (dV (aG b x.order) x)else none:=by
 rw[f_,j5,show fZ x.order _ b.ak=_ from h.zg x.order,Option.bind_some,fZ,if_pos rfl];rfl
theorem bO.Gu {b:aF}(h:bO b)(n:Int):Gu aQ.order b.aK n=some (((eO aQ.order b.aK n:Nat):Int),(bq aQ.order b.aK n).isSome):=by
 unfold Go.Proofs.aaa.Gu;rw[if_pos];rw[decide_eq_true_eq];exact⟨by have:=h.qo;omega,h.rising⟩
theorem DE {b:aF}(h:bO b)(n:Int):Ev b.aK n=some (((eO aQ.order b.aK n:Nat):Int),(bq aQ.order b.aK n).isSome):=by
 unfold Ev;rw[h.Gu];rfl
theorem qu {b:aF}(h:bO b)(w n:Int):oW ⟨b,w⟩ n=some (aG b n,⟨b,w⟩):=by
 unfold oW;simp only[DE h,Option.bind_some];unfold aG
 cases hf:bq aQ.order b.aK n with
 |none=>rfl
 |some p=>
  have hg:=fj aQ.order h.rising hf;have hlt:=(List.getElem?_eq_some_iff.1 hg).1;rw[if_pos (by rfl),if_pos (by simp[dJ];omega),cT (x:=p) (by omega) (by rw[Int.toNat_natCast];exact hg)]
  rfl
theorem qv (b:aF)(w:Int)(is:Bool)(why:Int):kQ ⟨b,w⟩ is why=some ⟨b,if w=0/\is=true then why else w⟩:=by
 simp only[kQ,ai,beq_iff_eq];by_cases h:w=0
 ·cases is<;>simp[h]
 ·simp[h]
theorem filter_none {α:Type}(key:α->Int)(l:List α)(n:Int)(h:bq key l n=none):l.filter (λq=>decide (key q≠n))=l:=by
 rw[List.filter_eq_self];intro x hx;have:=rQ key h x hx;simpa using this
theorem qw {α:Type}{key:α->Int}:∀{l:List α},bU key l->∀{n:Int}{p:α},bq key l n=some p->l.eraseIdx (eO key l n)=l.filter (λq=>decide (key q≠n))
 |[],_,n,p,h=>by cases h
 |x::l,hs,n,p,h=>by
  obtain⟨h1,h2⟩:=List.pairwise_cons.1 hs;rw[dY]at h;by_cases he:key x=n
  ·have hlb:eO key (x::l) n=0:=qp key (λy hy=>by
    rcases List.mem_cons.1 hy with rfl|hy
    ·omega
    ·have:=h1 y hy;omega)
   rw[hlb,List.eraseIdx_cons_zero,List.filter_cons_of_neg (by simp[he])];refine(List.filter_eq_self.2 λy hy=> ?_).symm;have:=h1 y hy;simp;omega
  ·rw[if_neg he]at h;have hp:=b_ key h;have hlt:key x<n:=by have:=h1 p hp.1;omega
   have hlb:eO key (x::l) n=eO key l n+1:=by simp[eO,hlt]
   rw[hlb,List.eraseIdx_cons_succ,List.filter_cons_of_pos (by simp[he]),qw h2 h]
theorem aaC {α:Type}(l:List α)(i:Nat)(x:α)(h:i<l.length):bt (l.eraseIdx i) i x=l.set i x:=by
 unfold bt;rw[List.eraseIdx_eq_take_drop_succ,List.take_append_of_le_length (by simp;omega),List.take_take,Nat.min_self,List.drop_append_of_le_length (by simp;omega),List.set_eq_take_append_cons_drop,if_pos h];simp
theorem vj {a:Int}(h0:0<=a)(h:a<=4611686018427387904):aH .add .i64 a 1=a+1:=by simp only[aH,wrap64];omega
theorem zero_eq (p:aQ)(n:Int)(h:p.order=n):((p.order==n)&&((p.bC==0)&&((p.aT==0)&&((p.aX==0)&&true))))=jt p:=by
 rw[Bool.eq_iff_iff];unfold jt;simp[h]
theorem CG (p:aQ)(x:au):(dV p x).order=p.order:=rfl
abbrev vl (B:cV):aF×Int:=if B.why≠0 then(BH,B.why)else(B.af,0)
theorem ja (b:aF)(w:Int)(x:au)(h:w≠0):oX ⟨b,w⟩ x=some ⟨b,w⟩:=by
 unfold oX;simp only[qv,Option.bind_some,ai,bne_iff_ne];simp[h]
theorem zh {b:aF}(h:bO b)(x:au)(hx:eH x=true):∃B,oX ⟨b,0⟩ x=some B/\vl B=j6 b x:=by
 have hc:=h.cnt x.order;have h1:=h.qo;have h2:=h.rK;have hl:=nt aQ.order b.aK x.order;unfold oX j6;simp only[qv,qu h,zb _ _ hc hx,DE h,Option.bind_some,true_and];by_cases l2:b.ak.length>=16384
 ·rw[if_pos l2];have e0:(ai .geq (Int.ofNat b.ak.length) 16384=true)=True:=by simp[ai];omega
  simp only[e0,if_true];exact⟨_,if_pos (by simp[ai]),rfl⟩
 rw[if_neg l2];have e0:(ai .geq (Int.ofNat b.ak.length) 16384=true)=False:=by simp[ai];omega
 simp only[e0,if_false,true_and];rw[if_neg (by simp[ai])];have hcap:decide ((b.ak++[x]).length*24<=140737488355328)=true:=decide_eq_true (by simp;omega);have hz:=zero_eq (dV (aG b x.order) x) x.order (kH b x.order);simp only[hcap,if_true,hz];have fin:∀l,l=fu b.aK (dV (aG b x.order) x)->vl ⟨⟨l,b.ak++[x]⟩,if(!wg (dV (aG b x.order) x))=true then 5 else 0⟩=if wg (dV (aG b x.order) x)=true then(⟨fu b.aK (dV (aG b x.order) x),b.ak++[x]⟩,0)else(BH,5):=by
  rintro l rfl;cases wg (dV (aG b x.order) x)<;>simp[vl]
 have ho:(dV (aG b x.order) x).order=x.order:=kH b x.order
 cases hf:bq aQ.order b.aK x.order with
 |none=>
  rw[if_neg (by simp)];cases hn:jt (dV (aG b x.order) x)with
  |true=>
   rw[if_neg (by simp)];refine⟨_,rfl,fin _ ?_⟩;unfold fu;rw[if_pos hn,ho,filter_none _ _ _ hf]
  |false=>
   rw[if_pos (by simp),if_pos (by rw[decide_eq_true_eq];omega)];refine⟨_,rfl,fin _ ?_⟩;unfold fu iw;rw[if_neg (by simp[hn]),ho,hf,if_neg (by simp),Int.toNat_natCast]
 |some p=>
  have hlt:=(List.getElem?_eq_some_iff.1 (fj aQ.order h.rising hf)).1;rw[if_pos (by rfl),if_pos (by rw[decide_eq_true_eq,vj (by omega) (by omega)];omega)];rw[Int.toNat_natCast];cases hn:jt (dV (aG b x.order) x)with
  |true=>
   rw[if_neg (by simp)];refine⟨_,rfl,fin _ ?_⟩;unfold fu;rw[if_pos hn,ho,qw h.rising hf]
  |false=>
   rw[if_pos (by simp),if_pos (by rw[decide_eq_true_eq,List.length_eraseIdx_of_lt hlt];omega)];refine⟨_,rfl,fin _ ?_⟩;unfold fu iw;rw[if_neg (by simp[hn]),ho,hf,if_pos (by rfl),aaC _ _ _ hlt]
end Go.Proofs.aaa
end
section
namespace Go.Proofs.aaa
open Go.bA Go.IntWalk
abbrev gH (n:Int):Prop:=1<=n/\n<=1024
abbrev A1 (n:Int):Prop:=1<=n/\n<=1152921504606846976
def ju (b:aF)(order n:Int):aF×Int:=
 if gH order then if A1 n then if(aG b order).bC>0 then(BH,9)else j6 b ⟨order,1,2,n⟩else(BH,2)else(BH,2)
def di (b:aF)(order dst:Int):aF×Int×Int:=
 if gH order then if(aG b order).bC=0 then(BH,0,9)else if(j6 b ⟨order,2,dst,(aG b order).bC⟩).2≠0 then(BH,0,(j6 b ⟨order,2,dst,(aG b order).bC⟩).2)else((j6 b ⟨order,2,dst,(aG b order).bC⟩).1,(aG b order).bC,0)else(BH,0,2)
def ez (b:aF)(order n:Int):aF×Int:=
 if gH order then if A1 n then if(aG b order).aT -(aG b order).aX<n then(BH,13)else j6 b ⟨order,3,1,n⟩else(BH,2)else(BH,2)
theorem vn {B:cV}{v:aF×Int}(h:vl B=v):(if ai .neq B.why 0=true then some (BH,B.why)else some (B.af,0))=some v:=by
 subst h;by_cases hw:B.why=0<;>simp[vl,ai,hw]
theorem A2 {B:cV}{v:aF×Int}(n:Int)(h:vl B=v):(if ai .neq B.why 0=true then some (BH,(0:Int),B.why)else some (B.af,n,(0:Int)))=some (if v.2≠0 then(BH,0,v.2)else(v.1,n,0)):=by
 subst h;by_cases hw:B.why=0<;>simp[vl,ai,hw]
theorem J1 {b:aF}(h:bO b)(order n:Int):Gx b order n=some (ju b order n):=by
 have h1:=h.qo;have h2:=h.rK;unfold Gx ju;rw[vh b (by omega) (by omega),jH h,Option.bind_some,if_pos (decide_eq_true (by omega)),if_pos (decide_eq_true (by omega)),if_pos (by rfl),nW,Option.bind_some];simp only[ze,qv,qu h,Option.bind_some];by_cases ho:gH order
 ·rw[if_neg (by simp[ho]),if_pos ho];by_cases hn:A1 n
  ·rw[if_pos hn];by_cases hp:(aG b order).bC>0
   ·simp only[hn,hp,ai,decide_true,Bool.not_true,Bool.false_eq_true,and_false,if_false,and_true,if_true];rw[ja _ _ _ (by decide),Option.bind_some];rfl
   ·simp only[hn,hp,ai,decide_true,decide_false,Bool.not_true,Bool.false_eq_true,and_false,if_false,and_true];obtain⟨B,hB,hv⟩:=zh h ⟨order,1,2,n⟩ (by rw[dH];simp;omega);rw[hB,Option.bind_some];exact vn hv
  ·rw[if_neg hn];simp only[hn,decide_false,Bool.not_false,and_true,if_true];rw[if_neg (by simp),ja _ _ _ (by decide),Option.bind_some];rfl
 ·rw[if_pos (by simp only[ho];rfl),if_neg ho];rw[ja _ _ _ (by simp),Option.bind_some];simp[ai]
theorem J2 {b:aF}(h:bO b)(order:Int):Cg b order=some (if gH order then(aG b order,0)else(⟨0,0,0,0⟩,2)):=by
 have h1:=h.qo;have h2:=h.rK;unfold Cg;rw[vh b (by omega) (by omega),jH h,Option.bind_some,if_pos (decide_eq_true (by omega)),if_pos (decide_eq_true (by omega)),if_pos (by rfl),nW,Option.bind_some];by_cases ho:gH order
 ·rw[if_neg (by simp[ho]),if_pos ho,qu h];rfl
 ·rw[if_pos (by simp only[ho];rfl),if_neg ho]
theorem sR {b:aF}(h:bO b){order dst:Int}(ho:gH order)(hd:dst=1\/dst=3)(hp:(aG b order).bC≠0):eH ⟨order,2,dst,(aG b order).bC⟩=true:=by
 have h1:=(h.bC order).1;have h2:=h.cnt order;rw[dH];refine⟨ho.1,ho.2, ?_,h2.2.1, ?_⟩
 ·show 1<=(aG b order).bC;omega
 ·simp;omega
theorem DF {b:aF}(h:bO b)(order dst:Int)(hd:dst=1\/dst=3):Ey b order dst=some (di b order dst):=by
 have h1:=h.qo;have h2:=h.rK;unfold Ey di;rw[vh b (by omega) (by omega),jH h,Option.bind_some,if_pos (decide_eq_true (by omega)),if_pos (decide_eq_true (by omega)),if_pos (by rfl),nW,Option.bind_some];simp only[qv,qu h,Option.bind_some];by_cases ho:gH order
 ·rw[if_neg (by simp[ho]),if_pos ho];by_cases hp:(aG b order).bC=0
  ·rw[if_pos hp,if_pos (by simp[ai,hp]),ja _ _ _ (by decide),Option.bind_some];rfl
  ·rw[if_neg hp,if_neg (by simp[ai,hp])];obtain⟨B,hB,hv⟩:=zh h _ (sR h ho hd hp);rw[hB,Option.bind_some];exact(A2 _ hv).trans (by split<;>rfl)
 ·rw[if_pos (by simp only[ho];rfl),if_neg ho,if_neg (by simp)];rw[ja _ _ _ (by decide),Option.bind_some];rfl
theorem J3 {b:aF}(h:bO b)(order:Int):GB b order=some (di b order 1):=by unfold GB;rw[DF h _ _ (.inl rfl)];rfl
theorem J4 {b:aF}(h:bO b)(order:Int):GC b order=some (di b order 3):=by unfold GC;rw[DF h _ _ (.inr rfl)];rfl
theorem Hz {b:aF}(h:bO b)(n:Int):aH .sub .i64 (aG b n).aT (aG b n).aX=(aG b n).aT -(aG b n).aX:=by
 have h2:=h.cnt n;simp only[aH,wrap64];omega
theorem J5 {b:aF}(h:bO b)(order n:Int):GD b order n=some (ez b order n):=by
 have h1:=h.qo;have h2:=h.rK;unfold GD ez;rw[vh b (by omega) (by omega),jH h,Option.bind_some,if_pos (decide_eq_true (by omega)),if_pos (decide_eq_true (by omega)),if_pos (by rfl),nW,Option.bind_some];simp only[ze,qv,qu h,Option.bind_some,Hz h];by_cases ho:gH order
 ·rw[if_neg (by simp[ho]),if_pos ho];by_cases hn:A1 n
  ·rw[if_pos hn];by_cases hp:(aG b order).aT -(aG b order).aX<n
   ·simp only[hn,hp,ai,decide_true,Bool.not_true,Bool.false_eq_true,and_false,if_false,and_true,if_true];rw[ja _ _ _ (by decide),Option.bind_some];rfl
   ·simp only[hn,hp,ai,decide_true,decide_false,Bool.not_true,Bool.false_eq_true,and_false,if_false,and_true];obtain⟨B,hB,hv⟩:=zh h ⟨order,3,1,n⟩ (by rw[dH];simp;omega);rw[hB,Option.bind_some];exact vn hv
  ·rw[if_neg hn];simp only[hn,decide_false,Bool.not_false,and_true,if_true];rw[if_neg (by simp),ja _ _ _ (by decide),Option.bind_some];rfl
 ·rw[if_pos (by simp only[ho];rfl),if_neg ho];rw[ja _ _ _ (by simp),Option.bind_some];simp[ai]
end Go.Proofs.aaa
end
section
namespace Go.Proofs.aaa
open Go.bA Go.IntWalk
theorem xH:∀(l:List ah)(i last:Int),gY (ρ:=Unit) (λ(s1:Int)(_:Int)(x5:ah)=>
  if(ai .leq x5.order s1)=true then some (.inr ())else if(ai .gtr x5.order 1024)=true then some (.inr ())else if(ai .eql x5.state 0)=true then some (.inr ())else if(ai .geq x5.state 7)=true then some (.inr ())else some (.inl x5.order)) l i last
  =some (if fR last l=true then .inl ((l.getLast?.map ah.order).getD last)else .inr ())
 |[],_,_=>rfl
 |x::l,i,last=>by
  rw[gY,fR];by_cases h1:x.order<=last
  ·rw[if_pos (by simpa[ai]using h1),if_neg (by simp;omega)];rfl
  rw[if_neg (by simpa[ai]using h1)];by_cases h2:x.order>1024
  ·rw[if_pos (by simpa[ai]using h2),if_neg (by simp;omega)];rfl
  rw[if_neg (by simpa[ai]using h2)];by_cases h3:x.state=0
  ·rw[if_pos (by simpa[ai]using h3),if_neg (by simp[h3])];rfl
  rw[if_neg (by simpa[ai]using h3)];by_cases h4:x.state>=7
  ·rw[if_pos (by simpa[ai]using h4),if_neg (by simp;omega)];rfl
  rw[if_neg (by simpa[ai]using h4),Option.bind_some];dsimp only;rw[xH l (i+1) x.order,decide_eq_true (by omega:last<x.order),decide_eq_true (by omega:x.order<=1024),decide_eq_true h3,decide_eq_true (by omega:x.state<7)];simp only[Bool.true_and]
  cases l with
  |nil=>rfl
  |cons y l=>simp[List.getLast?_cons_cons];rw[List.getLast?_cons];simp
theorem Ng (l:List ah)(hl:l.length<=4611686018427387904):O4 l=some (Nh l):=by
 unfold O4;rw[bh,if_pos (decide_eq_true hl),xH,Option.bind_some];unfold Nh;cases fR 0 l<;>rfl
end Go.Proofs.aaa
end
section
namespace Go.Proofs.aaa
open Go.bA Go.IntWalk
theorem CH (l:List ah)(n m v:Int)(hl:l.length<=1000000000000)(hw:∀x∈l,0<=x.state):jA l n m v=some (dz l n m v,fE l n m v):=by
 unfold jA;rw[if_pos (decide_eq_true ⟨hl,hw⟩)]
end Go.Proofs.aaa
end
section
namespace Go.Proofs.aaa
open Go.bA Go.IntWalk
section
variable{α κ:Type}(lt:κ->κ->Bool)(key:α->κ)(rP:α->Bool)
def vo:κ->List α->Bool
 |_,[]=>true
 |last,x::l=>lt last (key x)&&rP x&&vo (key x) l
theorem qx (tr:∀a b c,lt a b=true->lt b c=true->lt a c=true):∀{l:List α}{last:κ},vo lt key rP last l=true↔(l.Pairwise λx y=>lt (key x) (key y)=true)/\∀x∈l,lt last (key x)=true/\rP x=true
 |[],_=>by simp[vo]
 |x::l,last=>by
  rw[vo,Bool.and_eq_true,Bool.and_eq_true,qx tr,List.pairwise_cons];constructor
  ·rintro⟨⟨h1,h2⟩,h3,h4⟩;refine⟨⟨λy hy=>(h4 y hy).1,h3⟩,λy hy=> ?_⟩;rcases List.mem_cons.1 hy with rfl|hy
   ·exact⟨h1,h2⟩
   ·exact⟨tr _ _ _ h1 (h4 y hy).1,(h4 y hy).2⟩
  ·rintro⟨⟨h1,h2⟩,h3⟩;have:=h3 x List.mem_cons_self;exact⟨⟨this.1,this.2⟩,h2,λy hy=>⟨h1 y hy,(h3 y (List.mem_cons_of_mem _ hy)).2⟩⟩
theorem vp {step:κ->Int->α->Option (κ⊕Unit)}:∀(l:List α)(i:Int)(last:κ),(∀s i x,x∈l->step s i x=some (if lt s (key x)=true/\rP x=true then .inl (key x)else .inr ()))->
  ∃s,gY step l i last=some (if vo lt key rP last l=true then .inl s else .inr ())
 |[],_,last,_=>⟨last,rfl⟩
 |x::l,i,last,h=>by
  obtain⟨s,hs⟩:=vp l (i+1) (key x) (λs i y hy=>h s i y (List.mem_cons_of_mem _ hy));refine⟨s, ?_⟩;rw[gY,h _ _ _ List.mem_cons_self,vo];by_cases h1:lt last (key x)=true/\rP x=true
  ·rw[if_pos h1,Option.bind_some,h1.1,h1.2];exact hs
  ·rw[if_neg h1,if_neg]
   ·rfl
   ·intro h2;rw[Bool.and_eq_true,Bool.and_eq_true]at h2;exact h1 h2.1
theorem vq {step:κ->Int->α->Option (κ⊕Unit)}{l:List α}{last:κ}(hl:l.length<=4611686018427387904)(h:∀s i x,x∈l->step s i x=some (if lt s (key x)=true/\rP x=true then .inl (key x)else .inr ())):
  ∃s,bh step l last=some (if vo lt key rP last l=true then .inl s else .inr ()):=by
 rw[bh,if_pos (decide_eq_true hl)];exact vp lt key rP l 0 last h
end
theorem Ni (a b:UInt8):a<b\/a=b\/b<a:=by
 rcases Nat.lt_trichotomy a.toNat b.toNat with h|h|h
 ·exact .inl (UInt8.lt_iff_toNat_lt.2 h)
 ·exact .inr (.inl (UInt8.toNat_inj.1 h))
 ·exact .inr (.inr (UInt8.lt_iff_toNat_lt.2 h))
theorem Q6 {a b c:UInt8}(h1:a<b)(h2:b<c):a<c:=by
 rw[UInt8.lt_iff_toNat_lt]at*;omega
theorem zi {a b:UInt8}(h1:a<b)(h2:b<a):False:=by
 rw[UInt8.lt_iff_toNat_lt]at*;omega
theorem tW (a:UInt8):¬a<a:=λh=>zi h h
theorem qy (a b:UInt8)(x y:List UInt8):Op.bytesLess (a::x) (b::y)=true↔a<b\/a=b/\Op.bytesLess x y=true:=by
 rw[Op.bytesLess];simp
theorem Ly:∀{a b c:List UInt8},Op.bytesLess a b=true->Op.bytesLess b c=true->Op.bytesLess a c=true
 |_,_,[],_,h=>by simp[Op.bytesLess]at h
 |_,[],_::_,h,_=>by simp[Op.bytesLess]at h
 |[],_::_,_::_,_,_=>by simp[Op.bytesLess]
 |a::x,b::y,c::z,h1,h2=>by
  rw[qy]at*;rcases h1 with h1|⟨rfl,h1⟩
  ·rcases h2 with h2|⟨rfl,h2⟩
   ·exact .inl (Q6 h1 h2)
   ·exact .inl h1
  ·rcases h2 with h2|⟨rfl,h2⟩
   ·exact .inl h2
   ·exact .inr ⟨rfl,Ly h1 h2⟩
theorem HA:∀(a b:List UInt8),(Op.bytesLess a b=true/\Lib.compareBytes a b=-1/\a≠b/\Op.bytesLess b a=false)\/(a=b/\Lib.compareBytes a b=0/\Op.bytesLess a b=false)\/(Op.bytesLess b a=true/\Lib.compareBytes a b=1/\a≠b/\Op.bytesLess a b=false)
 |[],[]=>by simp[Op.bytesLess,Lib.compareBytes]
 |[],_::_=>by simp[Op.bytesLess,Lib.compareBytes]
 |_::_,[]=>by simp[Op.bytesLess,Lib.compareBytes]
 |a::x,b::y=>by
  rcases Ni a b with h|rfl|h
  ·refine .inl ⟨(qy ..).2 (.inl h),by simp[Lib.compareBytes,h],λe=>by cases e;exact tW _ h, ?_⟩;rw[<-Bool.not_eq_true,qy];rintro(h2|⟨rfl,-⟩)
   ·exact zi h h2
   ·exact tW _ h
  ·have e:Lib.compareBytes (a::x) (a::y)=Lib.compareBytes x y:=by simp[Lib.compareBytes]
   have e1:∀u v,Op.bytesLess (a::u) (a::v)=Op.bytesLess u v:=λu v=>by simp[Op.bytesLess]
   rw[e,e1,e1];rcases HA x y with⟨h1,h2,h3,h4⟩|⟨rfl,h2⟩|⟨h1,h2,h3,h4⟩
   ·exact .inl ⟨h1,h2,λe=>h3 (by cases e;rfl),h4⟩
   ·exact .inr (.inl ⟨rfl,h2⟩)
   ·exact .inr (.inr ⟨h1,h2,λe=>h3 (by cases e;rfl),h4⟩)
  ·refine .inr (.inr ⟨(qy ..).2 (.inl h),by simp only[Lib.compareBytes];rw[if_neg (λh2=>zi h h2),if_pos h],λe=>by cases e;exact tW _ h, ?_⟩);rw[<-Bool.not_eq_true,qy];rintro(h2|⟨rfl,-⟩)
   ·exact zi h h2
   ·exact tW _ h
theorem CI {a b:ByteArray}(h:a.data.toList=b.data.toList):a=b:=by
 cases a;cases b;congr 1;exact Array.toList_inj.1 h
theorem vr (a b:ByteArray):dA .eql a b=decide (a=b):=by
 unfold dA;rw[Lib.toList_data,Lib.toList_data,Bool.eq_iff_iff];simp only[beq_iff_eq,decide_eq_true_eq];exact⟨CI,λh=>by rw[h]⟩
theorem HB (a b:ByteArray):dA .neq a b= !dA .eql a b:=rfl
theorem HC (a b:ByteArray):dA .leq a b=(dA .lss a b||dA .eql a b):=rfl
theorem vt (a b c:ByteArray):dA .lss a b=true->dA .lss b c=true->dA .lss a c=true:=λh1 h2=>Ly h1 h2
theorem lH (a b:ByteArray):(dA .lss a b=true/\pW a b=some (-1)/\a≠b/\dA .lss b a=false)\/(a=b/\pW a b=some 0/\dA .lss a b=false/\dA .lss b a=false)\/(dA .lss b a=true/\pW a b=some 1/\a≠b/\dA .lss a b=false):=by
 unfold dA pW;rw[Lib.toList_data,Lib.toList_data];rcases HA a.data.toList b.data.toList with⟨h1,h2,h3,h4⟩|⟨h1,h2,h3⟩|⟨h1,h2,h3,h4⟩
 ·exact .inl ⟨h1,by rw[h2],λe=>h3 (by rw[e]),h4⟩
 ·have:=CI h1;subst this;exact .inr (.inl ⟨rfl,by rw[h2],h3,h3⟩)
 ·exact .inr (.inr ⟨h1,by rw[h2],λe=>h3 (by rw[e]),h4⟩)
theorem J6 (a b:ByteArray):dA .leq a b= !dA .lss b a:=by
 rw[HC,vr];rcases lH a b with⟨h1,-,h3,h4⟩|⟨rfl,-,h3,h4⟩|⟨h1,-,h3,h4⟩
 ·rw[h1,h4];rfl
 ·rw[h3];simp
 ·rw[h4,h1,decide_eq_false h3];rfl
theorem xI (a:ByteArray):dA .lss ByteArray.empty a=decide (a≠ByteArray.empty):=by
 unfold dA;rw[Lib.toList_data,Lib.toList_data,Bool.eq_iff_iff,decide_eq_true_eq];have e:ByteArray.empty.data.toList=[]:=rfl;rw[e]
 cases h:a.data.toList with
 |nil=>simp only[Op.bytesLess,Bool.false_eq_true,false_iff];intro h2;exact h2 (CI h)
 |cons x l=>simp only[Op.bytesLess,true_iff];rintro rfl;cases h
end Go.Proofs.aaa
end
section
namespace Go.Proofs.aaa
open Go.bA Go.IntWalk
def jb (x:aU):Bool:=decide (1<=x.item/\x.item<=1024/\1<=x.aE/\x.aE<=1024)
def dW (l:List aU):Int×Int:=
 if l.length=0 then(0,2)else if(∀x∈l,jb x=true)then(if tF l≠0 then(0,tF l)else if rR l<1 then(0,2)else if rR l>1152921504606846976 then(0,5)else(rR l,0))else(0,2)
theorem CJ (l:List aU):((q9 l).bind λAa=>
   if(ai .neq Aa.2 0)=true then some ((0:Int),Aa.2)else if(ai .lss Aa.1 1)=true then some (0,2)else if(ai .gtr Aa.1 1152921504606846976)=true then some (0,5)else some (Aa.1,0))
  =some (if tF l≠0 then(0,tF l)else if rR l<1 then(0,2)else if rR l>1152921504606846976 then(0,5)else(rR l,0)):=by
 unfold q9;rw[Option.bind_some];simp only[ai,bne_iff_ne,decide_eq_true_eq]
 repeat' split
 all_goals first|rfl|(exfalso;omega)|simp_all
theorem HD {α:Type}{p:α->Bool}{l:List α}:allI (λ_ x=>p x) l 0=true↔∀x∈l,p x=true:=by
 rw[jY];constructor
 ·intro h x hx;obtain⟨j,hj⟩:=List.mem_iff_getElem?.1 hx;exact h j x hj
 ·intro h j x hx;exact h x (List.mem_of_getElem? hx)
theorem DG (n m:Int):B0 n m=some (decide (1<=n/\n<=m)):=by
 simp only[B0,ai,decide_eq_true_eq,ge_iff_le];refine mg (λh=> ?_) (λh=> ?_)<;>simp[h]
theorem DH (l:List aU)(hl:l.length<=4611686018427387904):Ci l=some (dW l):=by
 unfold Ci dW;rw[fK];by_cases h0:l.length=0
 ·rw[if_pos (by simp[ai,h0]),if_pos h0]
 rw[if_neg (by simp only[ai,beq_iff_eq];omega),if_neg h0];refine nw (cP (λj (_:Unit)=>∀x∈l.take j,jb x=true) (λ(r:Int)=>0<=r/\¬∀x∈l,jb x=true) hl (by simp) ?_) (λs hs=> ?_) (λr hr=> ?_)
 ·intro j x s hx hi;have hm:=List.mem_of_getElem? hx;simp only[DG,Option.bind_some];by_cases c1:1<=x.item/\x.item<=1024
  ·rw[if_neg (by simp[c1])];by_cases c2:1<=x.aE/\x.aE<=1024
   ·rw[if_neg (by simp[c2])];refine .inl ⟨(),rfl,λy hy=> ?_⟩;rw[take_one hx]at hy;rcases List.mem_append.1 hy with hy|hy
    ·exact hi y hy
    ·rw[List.mem_singleton]at hy;subst hy;unfold jb;rw[decide_eq_true_eq];omega
   ·rw[if_pos (by simp only[c2];rfl)];refine .inr ⟨j,rfl,by omega,λh=> ?_⟩;have:=h x hm;unfold jb at this;rw[decide_eq_true_eq]at this;omega
  ·rw[if_pos (by simp only[c1];rfl)];refine .inr ⟨j,rfl,by omega,λh=> ?_⟩;have:=h x hm;unfold jb at this;rw[decide_eq_true_eq]at this;omega
 ·rw[List.take_length]at hs;rw[if_pos hs];exact CJ l
 ·dsimp only;rw[if_neg hr.2,if_pos (by simpa[ai]using hr.1)]
def fo (x:Order):Bool:=decide (x.id<=1024/\dW x.lines=(x.aP,0)/\x.status≠0/\x.status<8)
abbrev J7 (a b:Int):Bool:=decide (a<b)
theorem Nj (a b c:Int):J7 a b=true->J7 b c=true->J7 a c=true:=by simp only[decide_eq_true_eq];omega
abbrev jc (l:List Order):Bool:=vo J7 Order.id fo 0 l
theorem Nk (l:List Order)(hl:l.length<=4611686018427387904)(FX:∀x∈l,x.lines.length<=4611686018427387904):O8 l=some (jc l):=by
 unfold O8;obtain⟨s,hs⟩:=vq (step:=λ(s1:Int)(i3:Int)(x5:Order)=>
  (Ci x5.lines).bind λp9=>
  if(ai .leq x5.id s1)=true then some (.inr ())else if(ai .gtr x5.id 1024)=true then some (.inr ())else if(ai .neq p9.2 0)=true then some (.inr ())else
    if(ai .neq p9.1 x5.aP)=true then some (.inr ())else if(ai .eql x5.status 0)=true then some (.inr ())else if(ai .geq x5.status 8)=true then some (.inr ())else some (.inl x5.id)) J7 Order.id fo (last:=0) hl (λs i x hx=>by
   rw[DH _ (FX x hx),Option.bind_some];simp only[ai,bne_iff_ne,beq_iff_eq,decide_eq_true_eq,J7,fo,Prod.ext_iff]
   repeat' split
   all_goals first|rfl|(exfalso;omega)|simp_all)
 rw[hs,Option.bind_some];unfold jc;cases vo J7 Order.id fo 0 l<;>rfl
def gZ (x:Kept):Bool:=decide (x.mark.size<=64/\0<=x.cH.why/\x.cH.why<=15/\x.cH.status<8/\0<=x.cH.ax)
abbrev kV (l:List Kept):Bool:=decide (l.length<=4096)&&vo (dA .lss) Kept.mark gZ ByteArray.empty l
theorem Nl (l:List Kept)(hl:l.length<=4611686018427387904):Pa l=some (kV l):=by
 unfold Pa;rw[fK];obtain⟨s,hs⟩:=vq (l:=l) (step:=λ(s1:ByteArray)(i3:Int)(x5:Kept)=>
  if(ai .geq x5.cH.why 0)=true then
   if(ai .leq x5.cH.why 15)=true then
    if(ai .lss x5.cH.status 8)=true then
     if(dA .leq x5.mark s1)=true then some (.inr ())else if(ai .gtr ((x5.mark).size:Int) 64)=true then some (.inr ())else if(!(ai .geq x5.cH.ax 0))=true then some (.inr ())else some (.inl x5.mark)
    else if(dA .leq x5.mark s1)=true then some (.inr ())else if(ai .gtr ((x5.mark).size:Int) 64)=true then some (.inr ())else some (.inr ())
   else if(dA .leq x5.mark s1)=true then some (.inr ())else if(ai .gtr ((x5.mark).size:Int) 64)=true then some (.inr ())else some (.inr ())
  else if(dA .leq x5.mark s1)=true then some (.inr ())else if(ai .gtr ((x5.mark).size:Int) 64)=true then some (.inr ())else some (.inr ())) (dA .lss) Kept.mark gZ (last:=ByteArray.empty) hl (λs i x hx=>by
   simp only[ai,J6,decide_eq_true_eq,gZ,Bool.not_eq_true',decide_eq_false_iff_not];cases hc:dA .lss s x.mark
   ·simp only[Bool.false_eq_true,false_and,if_false]
    repeat' (refine mg (λ_=> ?_) (λ_=> ?_))
    all_goals first|rfl|(exfalso;simp_all;done)
   ·simp only[true_and]
    repeat' (refine mg (λ_=> ?_) (λ_=> ?_))
    all_goals first|(exfalso;simp_all;done)|(rw[if_pos (by omega)];done)|(rw[if_neg (by omega)];done))
 rw[hs,Option.bind_some];unfold kV;cases vo (dA .lss) Kept.mark gZ ByteArray.empty l
 ·simp
 ·simp[ai];omega
end Go.Proofs.aaa
end
section
namespace Go.Proofs.aaa
open Go.bA Go.IntWalk
def gI (st:Int):Int:=if st=1 then 1 else if st=4 then 2 else if st=6 then 3 else 0
theorem DI (s:Int):Ez s=some (gI s):=by
 simp only[Ez,beq_iff_eq,gI]
 repeat' split
 all_goals first|rfl|(exfalso;omega)
theorem bR {l:List Order}:jc l=true↔bU Order.id l/\∀x∈l,0<x.id/\fo x=true:=by
 unfold jc;rw[qx J7 Order.id fo Nj];simp only[J7,decide_eq_true_eq]
def vu (os:List Order)(x:aC):Bool:=decide (cF x.kind x.pos x.aO=0)&&dc x.kind x.pos x.aO&&(match bq Order.id os x.order with|some o=>decide (gI o.status=x.kind)|none=>false)
abbrev eX (l:List aC)(n:Int):Nat:=l.countP λx=>decide (x.order=n)
def mu (l:List aC)(o:Order):Bool:=if gI o.status=0 then decide (eX l o.id=0)else decide (eX l o.id=1)
def hU (s:State):Bool:=(s.aj.all λx=>vu s.aa x)&&(s.aa.all λo=>mu s.aj o)
theorem HE {α:Type}{p:α->Bool}{l:List α}:allI (λ_ x=>p x) l 0=l.all p:=by
 rw[Bool.eq_iff_iff,HD,List.all_eq_true]
theorem Nm (s:State)(n:Int)(hl:s.aa.length<=4611686018427387904):Qv s n=some (match bq Order.id s.aa n with|some o=>(o,true)|none=>(⟨0,[],0,0⟩,false)):=by
 unfold Qv;rw[nu (λp=>p.id==n) id hl]
 ·unfold bq;cases s.aa.find? (λp=>p.id==n)<;>rfl
 ·intro j x _ _;simp only[ai];by_cases h:x.id=n<;>simp[h]
end Go.Proofs.aaa
end
