/- Texts that the law leans on, part 37. No conditions. -/
import Derived.Test.YtnpliafeboadcaaGreatK12
import Derived.Test.YtnpliafeboadcaaGreatK14
import Derived.Test.YtnpliafeboadcaaGreatK24
import Derived.Test.YtnpliafeboadcaaGreatK25
section
namespace Go.Proofs.aaa
open Go.bA Go.IntWalk
def oI {α σ ρ:Type}(f:σ->Int->α->σ⊕ρ):List α->Int->σ->σ⊕ρ
 |[],_,s=>.inl s
 |x::l,i,s=>match f s i x with| .inl s'=>oI f l (i+1) s'| .inr r=>.inr r
theorem xD {α σ ρ:Type}{step:σ->Int->α->Option (σ⊕ρ)}{f:σ->Int->α->σ⊕ρ}(Inv:Int->σ->Prop):∀(l pre:List α)(i:Int)(s:σ),i=(pre.length:Int)->Inv i s->
  (∀(j:Int) x s,0<=j->(pre++l)[j.toNat]?=some x->Inv j s->step s j x=some (f s j x)/\∀s',f s j x=.inl s'->Inv (j+1) s')->gY step l i s=some (oI f l i s)
 |[],_,_,_,_,_,_=>rfl
 |x::l,pre,i,s,hi,hs,h=>by
  obtain⟨h1,h2⟩:=h i x s (by omega) (by rw[hi,Int.toNat_natCast,List.getElem?_append_right (Nat.le_refl _)];simp) hs;simp only[gY,oI,h1,Option.bind]
  cases hf:f s i x with
  |inl s'=>
   exact xD Inv l (pre++[x]) (i+1) s' (by simp;omega) (h2 s' hf) (by simpa using h)
  |inr r=>rfl
theorem rL {α σ ρ:Type}{step:σ->Int->α->Option (σ⊕ρ)}{l:List α}{s0:σ}(f:σ->Int->α->σ⊕ρ)(Inv:Int->σ->Prop)(hl:l.length<=4611686018427387904)(h0:Inv 0 s0)
  (h:∀(j:Int) x s,0<=j->l[j.toNat]?=some x->Inv j s->step s j x=some (f s j x)/\∀s',f s j x=.inl s'->Inv (j+1) s'):bh step l s0=some (oI f l 0 s0):=by
 rw[bh,if_pos (decide_eq_true hl)];exact xD Inv l [] 0 s0 rfl h0 (by simpa using h)
def allI {α:Type}(p:Int->α->Bool):List α->Int->Bool
 |[],_=>true
 |x::l,i=>p i x&&allI p l (i+1)
theorem jY {α:Type}{p:Int->α->Bool}:∀{l:List α}{i:Int},allI p l i=true↔∀(j:Nat) x,l[j]?=some x->p (i+j) x=true
 |[],i=>by simp[allI]
 |x::l,i=>by
  rw[allI,Bool.and_eq_true,jY];constructor
  ·rintro⟨h1,h2⟩ j y hy
   cases j with
   |zero=>simp at hy;subst hy;simpa using h1
   |succ j=>have:=h2 j y (by simpa using hy);rw[show i+((j+1:Nat):Int)=i+1+(j:Int) by omega];exact this
  ·intro h;refine⟨by simpa using h 0 x rfl,λj y hy=> ?_⟩;have:=h (j+1) y (by simpa using hy);rw[show i+((j+1:Nat):Int)=i+1+(j:Int) by omega]at this;exact this
theorem xE {α ρ:Type}{p:Int->α->Bool}{r:ρ}{f:Unit->Int->α->Unit⊕ρ}(h:∀i x,f () i x=if p i x=true then .inl ()else .inr r):∀(l:List α)(i:Int),oI f l i ()=if allI p l i=true then .inl ()else .inr r
 |[],i=>by simp[oI,allI]
 |x::l,i=>by
  rw[oI,allI,h];by_cases hp:p i x=true
  ·simp only[hp,Bool.true_and];exact xE h l (i+1)
  ·simp only[if_neg hp];rw[Bool.not_eq_true]at hp;simp[hp]
theorem pz {α ρ:Type}{step:Unit->Int->α->Option (Unit⊕ρ)}{l:List α}(p:Int->α->Bool)(r:ρ)(hl:l.length<=4611686018427387904)
  (h:∀(j:Int) x,0<=j->l[j.toNat]?=some x->step () j x=some (if p j x=true then .inl ()else .inr r)):bh step l ()=some (if allI p l 0=true then .inl ()else .inr r):=by
 rw[rL (λ_ i x=>if p i x=true then .inl ()else .inr r) (λ_ _=>True) hl trivial (λj x s hj hx _=>⟨h j x hj hx,λ_ _=>trivial⟩),xE (λi x=>rfl)]
theorem mg {α:Sort _}{c:Prop} [Decidable c]{A B r:α}(h1:c->A=r)(h2:¬c->B=r):(if c then A else B)=r:=by
 by_cases h:c
 ·rw[if_pos h];exact h1 h
 ·rw[if_neg h];exact h2 h
theorem fK {α:Type}(ts:α->List T)(l:List α):((l.map ts).length:Int)=(l.length:Int):=by simp
theorem cT {α:Type}{l:List α}{i:Int}{x:α}(h:0<=i)(hx:l[i.toNat]?=some x):fH l i=some x:=by rw[fH,if_pos h];exact hx
end Go.Proofs.aaa
end
section
namespace Go.Proofs.aaa
open Go.bA Go.IntWalk
theorem JM (x:Int):Ej x=some false:=by simp[Ej,ai]
theorem JN (x y:Int):Ek x y=some (lE x y):=by
 simp only[Ek,JM,Option.bind];unfold lE;simp only[ai,decide_eq_true_eq,Bool.false_eq_true,if_false]
 repeat' split
 all_goals first|rfl|omega
theorem Ht (a b:Int):Gg [a,b]=some (if a≠0 then a else b):=by
 simp only[Gg,bh,gY,ai];by_cases ha:a=0
 ·subst ha;by_cases hb:b=0
  ·subst hb;simp
  ·simp[hb]
 ·simp[ha]
def rM (a b:Cell):Int:=if lE a.item b.item≠0 then lE a.item b.item else lE a.aE b.aE
theorem y9 (a b:Cell):z7 a b=some (rM a b):=by
 simp only[z7,JN,Option.bind,Ht,rM]
def Cell.key (c:Cell):Int:=c.item*2000+c.aE
def ew (c:Cell):Bool:=decide (1<=c.item/\c.item<=1024/\1<=c.aE/\c.aE<=1024/\0<=c.free/\c.free<=1125899906842624/\0<=c.held/\c.held<=1125899906842624/\0<=c.out/\c.out<=1125899906842624/\0<=c.all/\c.all<=1125899906842624/\c.free+c.held+c.out=c.all)
theorem JO (n:Int):Ei n=some (decide (1<=n/\n<=1024)):=by
 simp only[Ei,ai,decide_eq_true_eq,ge_iff_le];split
 ·rename_i h;simp[h]
 ·rename_i h;simp[h]
theorem JP (c:Cell):Gf c=some (ew c):=by
 unfold Gf;simp only[ai,decide_eq_true_eq]
 repeat' (refine mg (λ_=> ?_) (λ_=> ?_))
 all_goals (rw[Option.some.injEq,Bool.eq_iff_iff];simp only[ew,aH,wrap64,decide_eq_true_eq,beq_iff_eq,Bool.false_eq_true,false_iff,gt_iff_lt]at*;omega)
def b7 (l:List Cell):Bool:=decide (l.length<=4096)&&allI (λi c=>ew c&&(decide (i<=0)||match l[(i -1).toNat]? with|some d=>decide (rM d c<0)|none=>false)) l 0
abbrev pE (l:List Cell):Int:=if b7 l=true then 0 else 9
theorem AP {α:Type}{l:List α}{j:Int}{x:α}(_:0<=j)(hx:l[j.toNat]?=some x)(h:0<j):∃y,l[(j -1).toNat]?=some y/\fH l (aH .sub .i64 j 1)=some y\/9223372036854775807<j:=by
 by_cases hj:j<=9223372036854775807
 ·have hlt:=(List.getElem?_eq_some_iff.1 hx).1;have hy:l[(j -1).toNat]?=some (l[(j -1).toNat]'(by omega)):=List.getElem?_eq_getElem (by omega)
  refine⟨_,.inl ⟨hy, ?_⟩⟩;rw[show aH .sub .i64 j 1=j -1 by simp only[aH,wrap64];omega];exact cT (by omega) hy
 ·exact⟨x,.inr (by omega)⟩
theorem mh (a b:Int):a<b/\lE a b=-1\/a=b/\lE a b=0\/a>b/\lE a b=1:=by
 unfold lE;by_cases h:a<b
 ·exact .inl ⟨h,if_pos h⟩
 ·rw[if_neg h];by_cases h2:a>b
  ·exact .inr (.inr ⟨h2,if_pos h2⟩)
  ·exact .inr (.inl ⟨by omega,if_neg h2⟩)
theorem JQ {a b:Cell}:rM a b<0↔a.item<b.item\/a.item=b.item/\a.aE<b.aE:=by
 unfold rM;rcases mh a.item b.item with⟨h,e⟩|⟨h,e⟩|⟨h,e⟩<;>rcases mh a.aE b.aE with⟨h',e'⟩|⟨h',e'⟩|⟨h',e'⟩<;>rw[e]<;>(try rw[e'])<;>simp<;>omega
theorem JR {a b:Cell}:rM a b=0↔a.item=b.item/\a.aE=b.aE:=by
 unfold rM;rcases mh a.item b.item with⟨h,e⟩|⟨h,e⟩|⟨h,e⟩<;>rcases mh a.aE b.aE with⟨h',e'⟩|⟨h',e'⟩|⟨h',e'⟩<;>rw[e]<;>(try rw[e'])<;>simp<;>omega
theorem b8 {c:Cell}:ew c=true↔(1<=c.item/\c.item<=1024/\1<=c.aE/\c.aE<=1024/\0<=c.free/\c.free<=1125899906842624/\0<=c.held/\c.held<=1125899906842624/\0<=c.out/\c.out<=1125899906842624/\0<=c.all/\c.all<=1125899906842624/\c.free+c.held+c.out=c.all):=by
 unfold ew;rw[decide_eq_true_eq]
def mL (l:List Cell)(i:Int)(c:Cell):Bool:=ew c&&(decide (i<=0)||match l[(i -1).toNat]? with|some d=>decide (rM d c<0)|none=>false)
theorem sP (l:List Cell):b7 l=(decide (l.length<=4096)&&allI (mL l) l 0):=rfl
theorem Hu (l:List Cell)(hl:l.length<=4611686018427387904):N2 l=some (pE l):=by
 unfold N2;simp only[ai,fK,decide_eq_true_eq];by_cases h1:(l.length:Int)>4096
 ·rw[if_pos h1];have:b7 l=false:=by unfold b7;rw[decide_eq_false (by omega)];rfl
  rw[pE,this];rfl
 ·rw[if_neg h1,pz (mL l) () hl]
  ·have hc:b7 l=allI (mL l) l 0:=by rw[sP,decide_eq_true (by omega)];rfl
   rw[pE,hc];cases allI (mL l) l 0<;>rfl
  ·intro j x h0 hx;have hj:j<=4611686018427387904:=by have:=(List.getElem?_eq_some_iff.1 hx).1;omega
   rw[JP];simp only[Option.bind]
   cases hf:ew x with
   |false=>simp[mL,hf]
   |true=>
    by_cases h3:0<j
    ·obtain⟨y,⟨hy,ha⟩|JS⟩:=AP h0 hx h3
     ·have hp:mL l j x=decide (rM y x<0):=by unfold mL;simp only[hy,hf];rw[decide_eq_false (by omega)];simp
      rw[hp,ha];simp only[y9];by_cases h4:rM y x<0
      ·simp[h3,h4]
      ·simp[h3,h4,Int.not_lt.1 h4]
     ·omega
    ·have hp:mL l j x=true:=by unfold mL;rw[hf,decide_eq_true (by omega)];simp
     simp[h3,hp]
end Go.Proofs.aaa
end
section
namespace Go.Proofs.aaa
open Go.bA Go.IntWalk
theorem acJ (l:List Cell)(hl:l.length<=4611686018427387904):g68 l=some (pE l):=by
 unfold g68;simp only[ai,fK,decide_eq_true_eq];by_cases h1:(l.length:Int)>4096
 ·rw[if_pos h1];have:b7 l=false:=by unfold b7;rw[decide_eq_false (by omega)];rfl
  rw[pE,this];rfl
 ·rw[if_neg h1,pz (mL l) () hl]
  ·have hc:b7 l=allI (mL l) l 0:=by rw[sP,decide_eq_true (by omega)];rfl
   rw[pE,hc];cases allI (mL l) l 0<;>rfl
  ·intro j x h0 hx;have hj:j<=4611686018427387904:=by have:=(List.getElem?_eq_some_iff.1 hx).1;omega
   by_cases h3:0<j
   ·obtain⟨y,⟨hy,ha⟩|JS⟩:=AP h0 hx h3
    ·have hp:mL l j x=true↔(ew x=true/\rM y x<0):=by unfold mL;simp only[hy];simp;omega
     rw[b8,JQ]at hp;simp only[ha,Option.bind]
     repeat' (refine mg (λ_=> ?_) (λ_=> ?_))
     all_goals simp only[bne_iff_ne,beq_iff_eq,ne_eq,aH,wrap64,gt_iff_lt,ge_iff_le,Decidable.not_not]at*
     all_goals first
      |(rw[if_neg (λh=>by have:=hp.1 h;omega)];done)
      |(rw[if_pos (hp.2 (by omega))];done)
      |(exfalso;omega)
    ·omega
   ·have hp:mL l j x=true↔ew x=true:=by unfold mL;simp;intro _;left;omega
    rw[b8]at hp
    repeat' (refine mg (λ_=> ?_) (λ_=> ?_))
    all_goals simp only[bne_iff_ne,beq_iff_eq,ne_eq,aH,wrap64,gt_iff_lt,ge_iff_le,Decidable.not_not]at*
    all_goals first
     |(rw[if_neg (λh=>by have:=hp.1 h;omega)];done)
     |(rw[if_pos (hp.2 (by omega))];done)
     |(exfalso;omega)
end Go.Proofs.aaa
end
section
namespace Go.Proofs.aaa
open Go.bA Go.IntWalk
theorem abz {α:Type}{key:α->Int}{l:List α}(hs:bU key l)(hl:l.length<=1000000000000)(n:Int)(cmp:α->Option Int)
  (hc:∀x∈l,∃p,cmp x=some p/\(p<0↔key x<n)) {body:Int×Int->Option ((Int×Int)⊕Int)}
  (hb:∀s,body s=if(ai .lss s.1 s.2)=true then
   (fH l (IntKind.i64.wrap (aH .shr .u64 (IntKind.u64.wrap (aH .add .i64 s.1 s.2)) 1))).bind λeu=>(cmp eu).bind λgO=>
   if(ai .lss gO 0)=true then some (.inl ((aH .add .i64 (IntKind.i64.wrap (aH .shr .u64 (IntKind.u64.wrap (aH .add .i64 s.1 s.2)) 1)) 1),s.2))
   else some (.inl (s.1,(IntKind.i64.wrap (aH .shr .u64 (IntKind.u64.wrap (aH .add .i64 s.1 s.2)) 1))))else some (.inr s.1)):
  ∀(k:Nat)(lo hi:Int),0<=lo->lo<=(eO key l n:Int)->(eO key l n:Int)<=hi->hi<=l.length->hi -lo<(2:Int)^k->iB body (k+1) (lo,hi)=some (eO key l n:Int)
 |k,lo,hi,h0,h1,h2,h3,h4=>by
  simp only[iB,hb];by_cases hlt:lo<hi
  ·have hh:=half lo hi h0 hlt (by omega);have hm:((lo+hi)/2).toNat<l.length:=by omega
   have hx:=List.getElem?_eq_getElem hm;obtain⟨p,hp,BC⟩:=hc _ (List.getElem_mem hm);have hsp:=jZ key hs n _ _ hx;simp only[ai,hlt,decide_true,if_true,hh,cT (show 0<=(lo+hi)/2 by omega) hx,Option.bind,hp]
   cases k with
   |zero=>simp at h4;omega
   |succ k=>
    have V3:(2:Int)^(k+1)=2*2^k:=by rw[Int.pow_succ];omega
    by_cases JT:p<0
    ·have:=hsp.1 (BC.1 JT);simp only[JT,decide_true,if_true];rw[show aH .add .i64 ((lo+hi)/2) 1=(lo+hi)/2+1 by simp only[aH,wrap64];omega];exact abz hs hl n cmp hc hb k _ _ (by omega) (by omega) h2 h3 (by omega)
    ·have:¬((lo+hi)/2).toNat<eO key l n:=λh=>JT (BC.2 (hsp.2 h));simp only[JT,decide_false,Bool.false_eq_true,if_false];exact abz hs hl n cmp hc hb k _ _ h0 h1 (by omega) (by omega) (by omega)
  ·obtain rfl:lo=(eO key l n:Int):=by omega
   simp[ai,hlt]
abbrev zL {α:Type}(key:α->Int)(l:List α)(n:Int):Int×Bool:=((eO key l n:Int),(bq key l n).isSome)
theorem Cell.CE {a b:Cell}(ha:1<=a.aE/\a.aE<=1024)(hb:1<=b.aE/\b.aE<=1024):rM a b<0↔a.key<b.key:=by
 rw[JQ];unfold Cell.key;omega
theorem Cell.Nb {a b:Cell}(ha:1<=a.aE/\a.aE<=1024)(hb:1<=b.aE/\b.aE<=1024):rM a b=0↔a.key=b.key:=by
 rw[JR];unfold Cell.key;omega
theorem nU (l:List Cell)(t:Cell)(hs:bU Cell.key l)(hl:l.length<=1000000000000)(hw:∀c∈l,1<=c.aE/\c.aE<=1024)(ht:1<=t.aE/\t.aE<=1024):Gh l t=some (zL Cell.key l t.key):=by
 unfold Gh;have hlb:=nt Cell.key l t.key;rw[abz hs hl t.key (λx=>z7 x t) (λx hx=>⟨_,y9 x t,Cell.CE (hw x hx) ht⟩) (λs=>rfl) 99 0 ((l.map Cell.ts).length:Int) (by omega) (by omega) (by simp;omega) (by simp) (by simp;omega)];have tP:=mj Cell.key hs t.key;simp only[Option.bind,ai,fK];by_cases hlt:(eO Cell.key l t.key:Int)<(l.length:Int)
 ·have hm:eO Cell.key l t.key<l.length:=by omega
  have hx:=List.getElem?_eq_getElem hm;have ha:fH l (eO Cell.key l t.key:Int)=some l[eO Cell.key l t.key]:=cT (by omega) (by rw[Int.toNat_natCast];exact hx);simp only[hlt,decide_true,if_true,ha,y9,zL]
  congr 2
  rw[Bool.eq_iff_iff,tP];have hk:=Cell.Nb (hw _ (List.getElem_mem hm)) ht;constructor
  ·intro h;exact⟨_,hx,hk.1 (by simpa using h)⟩
  ·rintro⟨x,hx',h⟩;rw[hx]at hx';cases hx';simpa using hk.2 h
 ·simp only[hlt,decide_false,Bool.false_eq_true,if_false,zL]
  congr 2
  cases hf:(bq Cell.key l t.key).isSome with
  |false=>rfl
  |true=>
   obtain⟨x,hx,_⟩:=tP.1 hf;have:=(List.getElem?_eq_some_iff.1 hx).1;omega
end Go.Proofs.aaa
end
section
namespace Go.Proofs.aaa
open Go.bA Go.IntWalk
theorem kT {α:Type}(key:α->Int):∀{l:List α},(∀(j:Nat) x y,l[j]?=some x->l[j+1]?=some y->key x<key y)->bU key l
 |[],_=>.nil
 |[x],_=>List.pairwise_singleton _ _
 |x::y::l,h=>by
  have ih:bU key (y::l):=kT key λj a b ha hb=>h (j+1) a b (by simpa using ha) (by simpa using hb);refine List.pairwise_cons.2 ⟨λz hz=> ?_,ih⟩;have hxy:=h 0 x y rfl rfl;rcases List.mem_cons.1 hz with rfl|hz
  ·exact hxy
  ·have:=(List.pairwise_cons.1 ih).1 z hz;omega
theorem u7 {α:Type}{key:α->Int}{l:List α}(h:bU key l){j:Nat}{x y:α}(hx:l[j]?=some x)(hy:l[j+1]?=some y):key x<key y:=by
 obtain⟨h1,rfl⟩:=List.getElem?_eq_some_iff.1 hx;obtain⟨h2,rfl⟩:=List.getElem?_eq_some_iff.1 hy;exact List.pairwise_iff_getElem.1 h j (j+1) h1 h2 (by omega)
theorem cG {c:Cell}(h:ew c=true):1<=c.aE/\c.aE<=1024:=by rw[b8]at h;omega
theorem cE {l:List Cell}:b7 l=true↔l.length<=4096/\(∀c∈l,ew c=true)/\bU Cell.key l:=by
 rw[sP,Bool.and_eq_true,decide_eq_true_eq,jY];constructor
 ·rintro⟨h1,h2⟩;have hf:∀c∈l,ew c=true:=λc hc=>by
   obtain⟨j,hj⟩:=List.mem_iff_getElem?.1 hc;have:=h2 j c hj;unfold mL at this;exact(Bool.and_eq_true _ _▸this).1
  refine⟨h1,hf,kT _ λj x y hx hy=> ?_⟩;have:=h2 (j+1) y hy;unfold mL at this;rw[Bool.and_eq_true]at this;have h3:=this.2;rw[decide_eq_false (by omega),show((0:Int)+((j+1:Nat):Int) -1).toNat=j by omega,hx]at h3;have h4:rM x y<0:=by simpa using h3
  exact(Cell.CE (cG (hf x (List.mem_of_getElem? hx))) (cG (hf y (List.mem_of_getElem? hy)))).1 h4
 ·rintro⟨h1,h2,h3⟩;refine⟨h1,λj c hc=> ?_⟩;unfold mL;rw[h2 c (List.mem_of_getElem? hc),Bool.true_and,Bool.or_eq_true]
  cases j with
  |zero=>left;simp
  |succ j=>
   right;have hlt:=(List.getElem?_eq_some_iff.1 hc).1;have hx:=List.getElem?_eq_getElem (show j<l.length by omega);rw[show((0:Int)+((j+1:Nat):Int) -1).toNat=j by omega,hx];have:=(Cell.CE (cG (h2 _ (List.mem_of_getElem? hx))) (cG (h2 c (List.mem_of_getElem? hc)))).2 (u7 h3 hx hc);simpa using this
def cellOf (l:List Cell)(i w:Int):Cell:=match bq Cell.key l (i*2000+w)with|some c=>c|none=>⟨i,w,0,0,0,0⟩
abbrev Kn (i w:Int):Prop:=1<=i/\i<=1024/\1<=w/\w<=1024
def dM (l:List Cell)(i w:Int):Cell×Int:=if b7 l=false then(⟨0,0,0,0,0,0⟩,9)else if Kn i w then(cellOf l i w,0)else(⟨0,0,0,0,0,0⟩,2)
theorem nV (l:List Cell)(i w:Int)(hl:l.length<=4611686018427387904):wv l i w=some (dM l i w):=by
 unfold wv;rw[Hu l hl]
 cases hok:b7 l with
 |false=>simp[pE,hok,ai,dM]
 |true=>
  obtain⟨h1,h2,h3⟩:=cE.1 hok;simp only[pE,hok,if_true,Option.bind,ai,JO,dM,Bool.true_eq_false,if_false];by_cases hi:1<=i/\i<=1024
  ·by_cases hw:1<=w/\w<=1024
   ·rw[if_pos (show Kn i w from⟨hi.1,hi.2,hw⟩)];have hb:=nU l ⟨i,w,0,0,0,0⟩ h3 (by omega) (λc hc=>cG (h2 c hc)) hw;have hk:Cell.key ⟨i,w,0,0,0,0⟩=i*2000+w:=rfl;rw[hk]at hb;simp only[hi,hw,lX,hb,Option.bind];cases hf:bq Cell.key l (i*2000+w)with
    |none=>simp[cellOf,hf]
    |some c=>
     have hg:=fj Cell.key h3 hf;have ha:fH l (eO Cell.key l (i*2000+w):Int)=some c:=cT (by omega) (by rw[Int.toNat_natCast];exact hg);simp[cellOf,hf,ha]
   ·rw[if_neg (show¬Kn i w fromλh=>hw h.2.2)];simp[hi,hw]
  ·rw[if_neg (show¬Kn i w fromλh=>hi ⟨h.1,h.2.1⟩)];simp[hi]
theorem Hv {l:List Cell}(h:∀c∈l,ew c=true){i w:Int}(hw:1<=w/\w<=1024):l.find? (λc=>c.item==i&&c.aE==w)=bq Cell.key l (i*2000+w):=by
 unfold bq
 induction l with
 |nil=>rfl
 |cons c l ih=>
  have hc:=cG (h c List.mem_cons_self);have:(c.item==i&&c.aE==w)=(Cell.key c==i*2000+w):=by
   rw[Bool.eq_iff_iff];simp[Cell.key];omega
  rw[List.find?_cons,List.find?_cons,this,ih λc hc=>h c (List.mem_cons_of_mem _ hc)]
theorem nu {α ρ:Type}{step:Unit->Int->α->Option (Unit⊕ρ)}{l:List α}(p:α->Bool)(f:α->ρ)(hl:l.length<=4611686018427387904)
  (h:∀(j:Int) x,0<=j->l[j.toNat]?=some x->step () j x=some (if p x=true then .inr (f x)else .inl ())):bh step l ()=some (match l.find? p with|some x=>.inr (f x)|none=>.inl ()):=by
 rw[rL (λ_ _ x=>if p x=true then .inr (f x)else .inl ()) (λ_ _=>True) hl trivial (λj x s hj hx _=>⟨h j x hj hx,λ_ _=>trivial⟩)]
 congr 1
 clear h hl;generalize (0:Int)=i
 induction l generalizing i with
 |nil=>rfl
 |cons x l ih=>
  rw[oI,List.find?_cons]
  cases hp:p x with
  |true=>simp
  |false=>simp;exact ih (i+1)
theorem Nc (l:List Cell)(i w:Int)(hl:l.length<=4611686018427387904):FP l i w=some (match l.find? (λc=>c.item==i&&c.aE==w)with|some c=>c|none=>⟨i,w,0,0,0,0⟩):=by
 unfold FP;rw[nu (λc=>c.item==i&&c.aE==w) id hl]
 ·simp only[Option.bind];cases l.find? _<;>rfl
 ·intro j x _ _;simp only[ai];by_cases h1:x.item=i<;>by_cases h2:x.aE=w<;>simp[h1,h2]
theorem Hw (l:List Cell)(i w:Int)(hok:b7 l=true)(hw:1<=w/\w<=1024):FP l i w=some (cellOf l i w):=by
 obtain⟨h1,h2,_⟩:=cE.1 hok;rw[Nc l i w (by omega),Hv h2 hw];unfold cellOf;cases bq Cell.key l (i*2000+w)<;>rfl
def dN (l:List Cell)(i w:Int):Int:=if b7 l=false then 9 else if Kn i w then 0 else 2
theorem ab8 (l:List Cell)(i w:Int)(hl:l.length<=4611686018427387904):acj l i w=some (dN l i w):=by
 unfold acj;rw[acJ l hl]
 cases hok:b7 l with
 |false=>simp[pE,hok,ai,dN]
 |true=>
  simp only[pE,hok,if_true,Option.bind,ai,dN,Bool.true_eq_false,if_false,decide_eq_true_eq,gt_iff_lt];simp only[beq_self_eq_true,if_true]
  repeat' (refine mg (λ_=> ?_) (λ_=> ?_))
  all_goals first
   |(rw[if_neg (λh=>by omega)];done)
   |(rw[if_pos (by omega)];done)
theorem adI (l:List Cell)(i w:Int)(hl:l.length<=4611686018427387904):g95 l i w=some (dM l i w):=by
 unfold g95;rw[ab8 l i w hl];unfold dN dM
 cases hok:b7 l with
 |false=>simp[ai]
 |true=>
  by_cases hk:Kn i w
  ·simp[hk,ai,Hw l i w hok ⟨hk.2.2.1,hk.2.2.2⟩]
  ·simp[hk,ai]
end Go.Proofs.aaa
end
section
namespace Go.Proofs.aaa
open Go.bA Go.IntWalk
section
variable{α:Type}(key:α->Int)(c:α)
def U (s:List α×Bool)(x:α):List α×Bool:=
 if s.2=false/\key x>=key c then((if key x≠key c then(s.1++[c])++[x]else s.1++[c]),true)else((if key x≠key c then s.1++[x]else s.1),s.2)
def wth:List α->List α
 |[]=>[c]
 |x::l=>if key x<key c then x::wth l else if key x=key c then c::l else c::x::l
theorem abP {l:List α}(h:∀x∈l,key x≠key c):∀acc,l.foldl (U key c) (acc,true)=(acc++l,true):=by
 induction l with
 |nil=>intro acc;simp
 |cons x l ih=>
  intro acc;have hx:=h x List.mem_cons_self;rw[List.foldl_cons,show U key c (acc,true) x=(acc++[x],true) by simp[U,hx],ih (λy hy=>h y (List.mem_cons_of_mem _ hy))];simp
theorem acK {l:List α}(hs:bU key l):∀acc,(let r:=l.foldl (U key c) (acc,false);if r.2=true then r.1 else r.1++[c])=acc++wth key c l:=by
 induction l with
 |nil=>intro acc;simp[wth]
 |cons x l ih=>
  intro acc;obtain⟨h1,h2⟩:=List.pairwise_cons.1 hs;by_cases hlt:key x<key c
  ·have:U key c (acc,false) x=(acc++[x],false):=by
    unfold U;rw[if_neg (λh=>by have:=h.2;omega),if_pos (show key x≠key c by omega)]
   have h3:=ih h2 (acc++[x]);simp only[List.foldl_cons,wth,this,hlt,if_true];simpa using h3
  ·by_cases he:key x=key c
   ·have:U key c (acc,false) x=(acc++[c],true):=by
     unfold U;rw[if_pos ⟨rfl,show key x>=key c by omega⟩,if_neg (λh=>h he)]
    simp only[List.foldl_cons,wth,this,hlt,if_false];rw[abP key c (λy hy=>by have:=h1 y hy;omega)];simp[he]
   ·have:U key c (acc,false) x=((acc++[c])++[x],true):=by
     unfold U;rw[if_pos ⟨rfl,show key x>=key c by omega⟩,if_pos he]
    simp only[List.foldl_cons,wth,this,hlt,if_false];rw[abP key c (λy hy=>by have:=h1 y hy;omega)];simp[he]
theorem u9 {l:List α}(hs:bU key l):iw key l c=wth key c l:=by
 induction l with
 |nil=>simp[iw,bq,eO,bt,wth]
 |cons x l ih=>
  obtain⟨h1,h2⟩:=List.pairwise_cons.1 hs;have ih:=ih h2;unfold wth;by_cases hlt:key x<key c
  ·rw[if_pos hlt,<-ih];have hlb:eO key (x::l) (key c)=eO key l (key c)+1:=by simp[eO,hlt]
   have hf:bq key (x::l) (key c)=bq key l (key c):=by rw[dY,if_neg (by omega)]
   unfold iw;rw[hlb,hf];split
   ·rfl
   ·rfl
  ·have hlb:eO key (x::l) (key c)=0:=qp key (λy hy=>by
    rcases List.mem_cons.1 hy with rfl|hy
    ·exact hlt
    ·have:=h1 y hy;omega)
   rw[if_neg hlt];unfold iw;rw[hlb,dY];by_cases he:key x=key c
   ·rw[if_pos he,if_pos he];rfl
   ·rw[if_neg he,if_neg he];have hf:bq key l (key c)=none:=by
     unfold bq;rw[List.find?_eq_none];intro y hy;have:=h1 y hy;simp;omega
    rw[hf];rfl
theorem S3 {step:(List α×Bool)->Int->α->Option ((List α×Bool)⊕Empty)}{l:List α}(hl:l.length<=1000000)
  (h:∀(j:Int) x s,0<=j->l[j.toNat]?=some x->s.1.length<=1000002->step s j x=some (.inl (U key c s x))):bh step l ([],false)=some (.inl (l.foldl (U key c) ([],false))):=by
 rw[rL (λs _ x=>.inl (U key c s x)) (λj s=>0<=j/\(s.1.length:Int)<=j+(if s.2=true then 1 else 0)) (by omega) ⟨by omega,by simp⟩]
 ·congr 1
  suffices∀(l:List α) i s,oI (ρ:=Empty) (λs _ x=>Sum.inl (U key c s x)) l i s=.inl (l.foldl (U key c) s) from this l 0 _
  intro l
  induction l with
  |nil=>intro i s;rfl
  |cons x l ih=>intro i s;rw[oI];exact ih (i+1) _
 ·intro j x s hj hx hI;have hlt:=(List.getElem?_eq_some_iff.1 hx).1;refine⟨h j x s hj hx (by have:=hI.2;split at this<;>omega),λs' hs'=> ?_⟩;cases hs';refine⟨by omega, ?_⟩;have:=hI.2;unfold U;split
  ·rename_i hc;rw[hc.1]at this;split<;>simp at*<;>omega
  ·split<;>simp<;>split at this<;>simp_all<;>omega
end
theorem S0 {α:Type}(key:α->Int)(c:α){l:List α}(hs:bU key l):(let r:=l.foldl (U key c) ([],false);if r.2=true then r.1 else r.1++[c])=iw key l c:=by
 rw[u9 key c hs];simpa using acK key c hs []
theorem E2 {α:Type}(key:α->Int)(c:α):∀(l:List α)(s:List α×Bool),(l.foldl (U key c) s).1.length<=s.1.length+2*l.length
 |[],s=>by simp
 |x::l,s=>by
  rw[List.foldl_cons];have h1:=E2 key c l (U key c s x);have h2:(U key c s x).1.length<=s.1.length+2:=by
   unfold U;split<;>split<;>simp
  simp only[List.length_cons];omega
theorem ac_ (l:List Cell)(c:Cell)(hok:b7 l=true)(hc:1<=c.aE/\c.aE<=1024):acy l c=some (iw Cell.key l c):=by
 obtain⟨h1,h2,h3⟩:=cE.1 hok;unfold acy;rw[S3 Cell.key c (by omega)]
 ·simp only[Option.bind];have hd:=S0 Cell.key c h3;have hle:=E2 Cell.key c l ([],false)
  cases hp:(l.foldl (U Cell.key c) ([],false)).2 with
  |true=>simp only[hp]at hd⊢;simp[<-hd]
  |false=>
   simp only[hp]at hd⊢;simp at hd hle⊢;exact⟨by omega,hd⟩
 ·intro j x s hj hx hlen;have hw:=cG (h2 x (List.mem_of_getElem? hx));have e1:(key:Cell->Int)->True:=λ_=>trivial;have k1:x.key>=c.key↔(x.item>c.item\/x.item=c.item/\x.aE>=c.aE):=by unfold Cell.key;omega
  have k2:x.key≠c.key↔(x.item≠c.item\/x.aE≠c.aE):=by unfold Cell.key;omega
  unfold U;simp only[ai,decide_eq_true_eq,k1,k2,bne_iff_ne,beq_iff_eq,Bool.not_eq_true',gt_iff_lt,ge_iff_le,List.length_append,List.length_cons,List.length_nil];obtain⟨acc,put⟩:=s;simp only at hlen⊢
  repeat' (refine mg (λ_=> ?_) (λ_=> ?_))
  all_goals first
   |(exfalso;omega)
   |(rw[if_pos ⟨by assumption,by omega⟩,if_pos (by omega)];done)
   |(rw[if_pos ⟨by assumption,by omega⟩,if_neg (by omega)];done)
   |(rw[if_neg (λh=>by have h1:=h.1;have h2:=h.2;first|omega|simp_all),if_pos (by omega)];done)
   |(rw[if_neg (λh=>by have h1:=h.1;have h2:=h.2;first|omega|simp_all),if_neg (by omega)];done)
   |skip
end Go.Proofs.aaa
end
section
namespace Go.Proofs.aaa
open Go.bA Go.IntWalk
def oJ (k:Int)(c:Cell)(n:Int):Cell:=
 if k=0 then⟨c.item,c.aE,c.free+n,c.held,c.out,c.all+n⟩else if k=1 then⟨c.item,c.aE,c.free -n,c.held+n,c.out,c.all⟩
 else if k=2 then⟨c.item,c.aE,c.free+n,c.held -n,c.out,c.all⟩else if k=3 then⟨c.item,c.aE,c.free,c.held -n,c.out+n,c.all⟩
 else⟨c.item,c.aE,c.free+n,c.held,c.out -n,c.all⟩
def mq (k:Int)(c:Cell)(n:Int):Prop:=if k=0 then True else if k=1 then n<=c.free else if k=2 then n<=c.held else if k=3 then n<=c.held else n<=c.out
instance(k:Int)(c:Cell)(n:Int):Decidable (mq k c n):=by unfold mq;infer_instance
def cm (k:Int)(l:List Cell)(i w n:Int):List Cell×Int:=
 if dN l i w≠0 then([],dN l i w)else if n<1\/n>1048576 then([],2)else if¬mq k (cellOf l i w) n then([],13)
 else if(oJ k (cellOf l i w) n).all>1125899906842624 then([],5)else if(bq Cell.key l (i*2000+w)).isSome=false/\l.length>=4096 then([],3)
 else(iw Cell.key l (oJ k (cellOf l i w) n),0)
theorem cZ {l:List Cell}{i w:Int}(hok:b7 l=true)(hk:Kn i w):ew (cellOf l i w)=true/\(cellOf l i w).item=i/\(cellOf l i w).aE=w:=by
 obtain⟨_,h2,_⟩:=cE.1 hok;unfold cellOf;cases hf:bq Cell.key l (i*2000+w)with
 |none=>exact⟨by rw[b8];simp only;omega,rfl,rfl⟩
 |some c=>
  obtain⟨h3,h4⟩:=b_ _ hf;have h5:=cG (h2 c h3);refine⟨h2 c h3, ?_, ?_⟩<;>unfold Cell.key at h4<;>have:=hk.2.2<;>simp only<;>omega
theorem AQ {α:Type}(key:α->Int)(l:List α)(x:α):(iw key l x).length=if(bq key l (key x)).isSome=true then l.length else l.length+1:=by
 unfold iw;split
 ·exact List.length_set
 ·exact bW ..
theorem j3 {l:List Cell}{i w:Int}(h:dN l i w=0):b7 l=true/\Kn i w:=by
 unfold dN at h
 cases hok:b7 l with
 |false=>simp[hok]at h
 |true=>
  refine⟨rfl, ?_⟩;simp only[hok,Bool.true_eq_false,if_false]at h;by_cases hk:Kn i w
  ·exact hk
  ·rw[if_neg hk]at h;omega
theorem tV {k:Int}{c:Cell}{n:Int}:(oJ k c n).item=c.item/\(oJ k c n).aE=c.aE:=by
 unfold oJ;repeat' split
 all_goals exact⟨rfl,rfl⟩
theorem ada (c:Cell)(k n:Int)(hc:ew c=true)(hn:1<=n/\n<=1048576):acw c k n=some (oJ k c n,decide (mq k c n)):=by
 rw[b8]at hc;unfold acw oJ mq;simp only[ai,beq_iff_eq,ge_iff_le];have e:∀a b:Int,-1125899907842624<=a->a<=1125899907842624->-1125899907842624<=b->b<=1125899907842624->aH .add .i64 a b=a+b/\aH .sub .i64 a b=a -b:=λa b h1 h2 h3 h4=>by simp only[aH,wrap64];omega
 rw[(e c.free n (by omega) (by omega) (by omega) (by omega)).1,(e c.free n (by omega) (by omega) (by omega) (by omega)).2,(e c.held n (by omega) (by omega) (by omega) (by omega)).1,(e c.held n (by omega) (by omega) (by omega) (by omega)).2,(e c.out n (by omega) (by omega) (by omega) (by omega)).1,(e c.out n (by omega) (by omega) (by omega) (by omega)).2,(e c.all n (by omega) (by omega) (by omega) (by omega)).1];by_cases h0:k=0
 ·simp[h0]
 ·by_cases h1:k=1
  ·simp[h1]
  ·by_cases h2:k=2
   ·simp[h2]
   ·by_cases h3:k=3
    ·simp[h3]
    ·simp[h0,h1,h2,h3]
theorem adb (k:Int)(l:List Cell)(i w n:Int)(hl:l.length<=4611686018427387904):acz k l i w n=some (cm k l i w n):=by
 unfold acz cm;rw[ab8 l i w hl];by_cases h0:dN l i w=0
 ·obtain⟨hok,hk⟩:=j3 h0;obtain⟨f1,f2,f3⟩:=cZ hok hk;obtain⟨o1,o2,o3⟩:=cE.1 hok;simp only[h0,Option.bind,ai,ne_eq,not_true_eq_false,if_false,beq_self_eq_true,if_true,decide_eq_true_eq];by_cases hn:n<1\/n>1048576
  ·rw[if_pos hn];by_cases h1:n<1
   ·rw[if_pos h1]
   ·rw[if_neg h1,if_pos (by omega)]
  ·rw[if_neg hn,if_neg (by omega),if_neg (by omega),Hw l i w hok ⟨hk.2.2.1,hk.2.2.2⟩];simp only;rw[ada _ k n f1 (by omega)];simp only[decide_eq_false_iff_not,Bool.not_eq_true'];by_cases hm:mq k (cellOf l i w) n
   ·simp only[hm,not_true_eq_false,if_false];by_cases ha:(oJ k (cellOf l i w) n).all>1125899906842624
    ·simp only[ha,if_true]
    ·simp only[ha,if_false];have hkey:Cell.key (oJ k (cellOf l i w) n)=i*2000+w:=by unfold Cell.key;rw[tV.1,tV.2,f2,f3]
     rw[ac_ l _ hok (by rw[tV.2,f3];exact⟨hk.2.2.1,hk.2.2.2⟩)];simp only[fK,AQ,hkey]
     cases hf:(bq Cell.key l (i*2000+w)).isSome with
     |true=>simp;omega
     |false=>
      by_cases h4:l.length>=4096
      ·simp[h4];omega
      ·simp[h4];omega
   ·simp only[hm,not_false_eq_true,if_true]
 ·simp[h0,ai]
theorem lF {l:List Cell}{i w:Int}(h0:¬dN l i w=0):dM l i w=(⟨0,0,0,0,0,0⟩,dN l i w):=by
 unfold dM;unfold dN at h0⊢;by_cases hok:b7 l=false
 ·rw[if_pos hok,if_pos hok]
 ·rw[if_neg hok]at h0;rw[if_neg hok,if_neg hok];by_cases hk:Kn i w
  ·rw[if_pos hk]at h0;exact absurd rfl h0
  ·rw[if_neg hk,if_neg hk]
theorem lG {l:List Cell}{c:Cell}{n:Int}(hs:bU Cell.key l)(hk:c.key=n)(hl:l.length<=4096)(hf:(bq Cell.key l n).isSome=true):
  (if l.length<=1000000000000 then if(dJ l.length (zL Cell.key l n).1)=true then(fH l (zL Cell.key l n).1).bind λ_=>some ((((l).set ((zL Cell.key l n).1).toNat c),(0:Int)))else none else none)=some (iw Cell.key l c,0):=by
 obtain⟨x,hx,_⟩:=(mj Cell.key hs n).1 hf;have hlt:=(List.getElem?_eq_some_iff.1 hx).1;have ha:fH l (eO Cell.key l n:Int)=some x:=cT (by omega) (by rw[Int.toNat_natCast];exact hx);rw[if_pos (by omega),if_pos (qq hlt),ha];unfold iw;rw[hk,if_pos hf];simp
theorem j4 {l:List Cell}{c:Cell}{n:Int}(hk:c.key=n)(hl:l.length<=4096)(hf:(bq Cell.key l n).isSome=false):
  (if l.length<=1000000000000 then if 0<=(zL Cell.key l n).1/\(zL Cell.key l n).1<=(l.length:Int)/\l.length<=1000000 then
   if(dJ (l.length+1) (zL Cell.key l n).1)=true then(fH (bt l ((zL Cell.key l n).1).toNat c) (zL Cell.key l n).1).bind λ_=>some ((((bt l ((zL Cell.key l n).1).toNat c)).set ((zL Cell.key l n).1).toNat c),(0:Int))else none else none else none)=some (iw Cell.key l c,0):=by
 have hle:=nt Cell.key l n;have hlt:eO Cell.key l n<(bt l (eO Cell.key l n) c).length:=by rw[bW];omega
 have ha:fH (bt l (eO Cell.key l n) c) (eO Cell.key l n:Int)=some (bt l (eO Cell.key l n) c)[eO Cell.key l n]:=cT (by omega) (by rw[Int.toNat_natCast];exact List.getElem?_eq_getElem hlt);simp only[Int.toNat_natCast];rw[if_pos (by omega),if_pos (by omega),if_pos (qq (by omega)),ha];unfold iw;rw[hk,if_neg (by rw[hf];decide)];simp only[Option.bind,AR l _ c c hle]
theorem JU (l:List Cell)(i w n:Int)(hl:l.length<=4611686018427387904):El l i w n=some (cm 0 l i w n):=by
 unfold El;rw[nV l i w hl];by_cases h0:dN l i w=0
 ·obtain⟨hok,hk⟩:=j3 h0;obtain⟨f1,f2,f3⟩:=cZ hok hk;obtain⟨o1,o2,o3⟩:=cE.1 hok;have hv:dM l i w=(cellOf l i w,0):=by unfold dM;rw[if_neg (by rw[hok];decide),if_pos hk]
  have hb:=nU l ⟨i,w,0,0,0,0⟩ o3 (by omega) (λc hc=>cG (o2 c hc)) ⟨hk.2.2.1,hk.2.2.2⟩;have pQ:Cell.key ⟨i,w,0,0,0,0⟩=i*2000+w:=rfl;rw[pQ]at hb;have hp:lX l i w=some (zL Cell.key l (i*2000+w)):=by simp[lX,hb]
  rw[hv,hp];unfold cm;generalize hc:cellOf l i w=c at*;have fc:=b8.1 f1;have e:∀a b:Int,-1125899907842624<=a->a<=1125899907842624->-1125899907842624<=b->b<=1125899907842624->aH .add .i64 a b=a+b/\aH .sub .i64 a b=a -b:=λa b h1 h2 h3 h4=>by simp only[aH,wrap64];omega
  by_cases hn:n<1\/n>1048576
  ·simp only[h0,Option.bind,ai,ne_eq,not_true_eq_false,if_false,bne_self_eq_false,Bool.false_eq_true,decide_eq_true_eq];rw[if_pos hn];by_cases h1:n<1
   ·rw[if_pos h1]
   ·rw[if_neg h1,if_pos (by omega)]
  ·have q1:=e c.free n (by omega) (by omega) (by omega) (by omega);have q2:=e c.held n (by omega) (by omega) (by omega) (by omega);have q3:=e c.out n (by omega) (by omega) (by omega) (by omega);have q4:=e c.all n (by omega) (by omega) (by omega) (by omega);have hm:oJ 0 c n=⟨c.item,c.aE,c.free+n,c.held,c.out,c.all+n⟩:=rfl;have hmo:mq 0 c n↔True:=by unfold mq;simp
   have hkey:Cell.key ⟨c.item,c.aE,c.free+n,c.held,c.out,c.all+n⟩=i*2000+w:=by unfold Cell.key;simp only[f2,f3]
   rw[hm];simp only[h0,Option.bind,ai,ne_eq,not_true_eq_false,if_false,bne_self_eq_false,Bool.false_eq_true,decide_eq_true_eq,q1.1,q4.1,hmo,fK];rw[if_neg hn,if_neg (by omega),if_neg (by omega)];by_cases lV:True
   ·rw[if_neg (by omega),if_neg (by omega),if_neg (by omega)];try simp only[lV,not_true_eq_false,if_false]
    by_cases ha:c.all+n>1125899906842624
    ·simp only[ha,if_true]
    ·simp only[ha,if_false]
     cases hf:(bq Cell.key l (i*2000+w)).isSome with
     |true=>
      simp only[Bool.not_true,Bool.false_eq_true,if_false,false_and,Bool.true_eq_false];exact lG o3 hkey o1 hf
     |false=>
      simp only[Bool.not_false,if_true,true_and,ge_iff_le];by_cases h4:4096<=l.length
      ·rw[if_pos (by omega),if_pos h4]
      ·rw[if_neg (by omega),if_neg h4];exact j4 hkey o1 hf
   ·first|exact absurd trivial lV|skip
    try simp only[lV,not_false_eq_true,if_true]
    repeat' (refine mg (λ_=> ?_) (λ_=> ?_))
    all_goals first|rfl|(exfalso;omega)
 ·have hv:dM l i w=(⟨0,0,0,0,0,0⟩,dN l i w):=lF h0;rw[hv];unfold cm;simp[h0,ai]
theorem JV (l:List Cell)(i w n:Int)(hl:l.length<=4611686018427387904):Eo l i w n=some (cm 1 l i w n):=by
 unfold Eo;rw[nV l i w hl];by_cases h0:dN l i w=0
 ·obtain⟨hok,hk⟩:=j3 h0;obtain⟨f1,f2,f3⟩:=cZ hok hk;obtain⟨o1,o2,o3⟩:=cE.1 hok;have hv:dM l i w=(cellOf l i w,0):=by unfold dM;rw[if_neg (by rw[hok];decide),if_pos hk]
  have hb:=nU l ⟨i,w,0,0,0,0⟩ o3 (by omega) (λc hc=>cG (o2 c hc)) ⟨hk.2.2.1,hk.2.2.2⟩;have pQ:Cell.key ⟨i,w,0,0,0,0⟩=i*2000+w:=rfl;rw[pQ]at hb;have hp:lX l i w=some (zL Cell.key l (i*2000+w)):=by simp[lX,hb]
  rw[hv,hp];unfold cm;generalize hc:cellOf l i w=c at*;have fc:=b8.1 f1;have e:∀a b:Int,-1125899907842624<=a->a<=1125899907842624->-1125899907842624<=b->b<=1125899907842624->aH .add .i64 a b=a+b/\aH .sub .i64 a b=a -b:=λa b h1 h2 h3 h4=>by simp only[aH,wrap64];omega
  by_cases hn:n<1\/n>1048576
  ·simp only[h0,Option.bind,ai,ne_eq,not_true_eq_false,if_false,bne_self_eq_false,Bool.false_eq_true,decide_eq_true_eq];rw[if_pos hn];by_cases h1:n<1
   ·rw[if_pos h1]
   ·rw[if_neg h1,if_pos (by omega)]
  ·have q1:=e c.free n (by omega) (by omega) (by omega) (by omega);have q2:=e c.held n (by omega) (by omega) (by omega) (by omega);have q3:=e c.out n (by omega) (by omega) (by omega) (by omega);have q4:=e c.all n (by omega) (by omega) (by omega) (by omega);have hm:oJ 1 c n=⟨c.item,c.aE,c.free -n,c.held+n,c.out,c.all⟩:=rfl;have hmo:mq 1 c n↔n<=c.free:=by unfold mq;simp
   have hkey:Cell.key ⟨c.item,c.aE,c.free -n,c.held+n,c.out,c.all⟩=i*2000+w:=by unfold Cell.key;simp only[f2,f3]
   rw[hm];simp only[h0,Option.bind,ai,ne_eq,not_true_eq_false,if_false,bne_self_eq_false,Bool.false_eq_true,decide_eq_true_eq,q1.2,q2.1,hmo,fK];rw[if_neg hn,if_neg (by omega),if_neg (by omega)];by_cases lV:n<=c.free
   ·rw[if_neg (by omega),if_neg (by omega),if_neg (by omega)];try simp only[lV,not_true_eq_false,if_false]
    by_cases ha:c.all>1125899906842624
    ·simp only[ha,if_true]
    ·simp only[ha,if_false]
     cases hf:(bq Cell.key l (i*2000+w)).isSome with
     |true=>
      simp only[Bool.not_true,Bool.false_eq_true,if_false,false_and,Bool.true_eq_false];exact lG o3 hkey o1 hf
     |false=>
      simp only[Bool.not_false,if_true,true_and,ge_iff_le];by_cases h4:4096<=l.length
      ·rw[if_pos (by omega),if_pos h4]
      ·rw[if_neg (by omega),if_neg h4];exact j4 hkey o1 hf
   ·first|exact absurd trivial lV|skip
    try simp only[lV,not_false_eq_true,if_true]
    repeat' (refine mg (λ_=> ?_) (λ_=> ?_))
    all_goals first|rfl|(exfalso;omega)
 ·have hv:dM l i w=(⟨0,0,0,0,0,0⟩,dN l i w):=lF h0;rw[hv];unfold cm;simp[h0,ai]
theorem JW (l:List Cell)(i w n:Int)(hl:l.length<=4611686018427387904):Ep l i w n=some (cm 2 l i w n):=by
 unfold Ep;rw[nV l i w hl];by_cases h0:dN l i w=0
 ·obtain⟨hok,hk⟩:=j3 h0;obtain⟨f1,f2,f3⟩:=cZ hok hk;obtain⟨o1,o2,o3⟩:=cE.1 hok;have hv:dM l i w=(cellOf l i w,0):=by unfold dM;rw[if_neg (by rw[hok];decide),if_pos hk]
  have hb:=nU l ⟨i,w,0,0,0,0⟩ o3 (by omega) (λc hc=>cG (o2 c hc)) ⟨hk.2.2.1,hk.2.2.2⟩;have pQ:Cell.key ⟨i,w,0,0,0,0⟩=i*2000+w:=rfl;rw[pQ]at hb;have hp:lX l i w=some (zL Cell.key l (i*2000+w)):=by simp[lX,hb]
  rw[hv,hp];unfold cm;generalize hc:cellOf l i w=c at*;have fc:=b8.1 f1;have e:∀a b:Int,-1125899907842624<=a->a<=1125899907842624->-1125899907842624<=b->b<=1125899907842624->aH .add .i64 a b=a+b/\aH .sub .i64 a b=a -b:=λa b h1 h2 h3 h4=>by simp only[aH,wrap64];omega
  by_cases hn:n<1\/n>1048576
  ·simp only[h0,Option.bind,ai,ne_eq,not_true_eq_false,if_false,bne_self_eq_false,Bool.false_eq_true,decide_eq_true_eq];rw[if_pos hn];by_cases h1:n<1
   ·rw[if_pos h1]
   ·rw[if_neg h1,if_pos (by omega)]
  ·have q1:=e c.free n (by omega) (by omega) (by omega) (by omega);have q2:=e c.held n (by omega) (by omega) (by omega) (by omega);have q3:=e c.out n (by omega) (by omega) (by omega) (by omega);have q4:=e c.all n (by omega) (by omega) (by omega) (by omega);have hm:oJ 2 c n=⟨c.item,c.aE,c.free+n,c.held -n,c.out,c.all⟩:=rfl;have hmo:mq 2 c n↔n<=c.held:=by unfold mq;simp
   have hkey:Cell.key ⟨c.item,c.aE,c.free+n,c.held -n,c.out,c.all⟩=i*2000+w:=by unfold Cell.key;simp only[f2,f3]
   rw[hm];simp only[h0,Option.bind,ai,ne_eq,not_true_eq_false,if_false,bne_self_eq_false,Bool.false_eq_true,decide_eq_true_eq,q1.1,q2.2,hmo,fK];rw[if_neg hn,if_neg (by omega),if_neg (by omega)];by_cases lV:n<=c.held
   ·rw[if_neg (by omega),if_neg (by omega),if_neg (by omega)];try simp only[lV,not_true_eq_false,if_false]
    by_cases ha:c.all>1125899906842624
    ·simp only[ha,if_true]
    ·simp only[ha,if_false]
     cases hf:(bq Cell.key l (i*2000+w)).isSome with
     |true=>
      simp only[Bool.not_true,Bool.false_eq_true,if_false,false_and,Bool.true_eq_false];exact lG o3 hkey o1 hf
     |false=>
      simp only[Bool.not_false,if_true,true_and,ge_iff_le];by_cases h4:4096<=l.length
      ·rw[if_pos (by omega),if_pos h4]
      ·rw[if_neg (by omega),if_neg h4];exact j4 hkey o1 hf
   ·first|exact absurd trivial lV|skip
    try simp only[lV,not_false_eq_true,if_true]
    repeat' (refine mg (λ_=> ?_) (λ_=> ?_))
    all_goals first|rfl|(exfalso;omega)
 ·have hv:dM l i w=(⟨0,0,0,0,0,0⟩,dN l i w):=lF h0;rw[hv];unfold cm;simp[h0,ai]
theorem JX (l:List Cell)(i w n:Int)(hl:l.length<=4611686018427387904):Er l i w n=some (cm 3 l i w n):=by
 unfold Er;rw[nV l i w hl];by_cases h0:dN l i w=0
 ·obtain⟨hok,hk⟩:=j3 h0;obtain⟨f1,f2,f3⟩:=cZ hok hk;obtain⟨o1,o2,o3⟩:=cE.1 hok;have hv:dM l i w=(cellOf l i w,0):=by unfold dM;rw[if_neg (by rw[hok];decide),if_pos hk]
  have hb:=nU l ⟨i,w,0,0,0,0⟩ o3 (by omega) (λc hc=>cG (o2 c hc)) ⟨hk.2.2.1,hk.2.2.2⟩;have pQ:Cell.key ⟨i,w,0,0,0,0⟩=i*2000+w:=rfl;rw[pQ]at hb;have hp:lX l i w=some (zL Cell.key l (i*2000+w)):=by simp[lX,hb]
  rw[hv,hp];unfold cm;generalize hc:cellOf l i w=c at*;have fc:=b8.1 f1;have e:∀a b:Int,-1125899907842624<=a->a<=1125899907842624->-1125899907842624<=b->b<=1125899907842624->aH .add .i64 a b=a+b/\aH .sub .i64 a b=a -b:=λa b h1 h2 h3 h4=>by simp only[aH,wrap64];omega
  by_cases hn:n<1\/n>1048576
  ·simp only[h0,Option.bind,ai,ne_eq,not_true_eq_false,if_false,bne_self_eq_false,Bool.false_eq_true,decide_eq_true_eq];rw[if_pos hn];by_cases h1:n<1
   ·rw[if_pos h1]
   ·rw[if_neg h1,if_pos (by omega)]
  ·have q1:=e c.free n (by omega) (by omega) (by omega) (by omega);have q2:=e c.held n (by omega) (by omega) (by omega) (by omega);have q3:=e c.out n (by omega) (by omega) (by omega) (by omega);have q4:=e c.all n (by omega) (by omega) (by omega) (by omega);have hm:oJ 3 c n=⟨c.item,c.aE,c.free,c.held -n,c.out+n,c.all⟩:=rfl;have hmo:mq 3 c n↔n<=c.held:=by unfold mq;simp
   have hkey:Cell.key ⟨c.item,c.aE,c.free,c.held -n,c.out+n,c.all⟩=i*2000+w:=by unfold Cell.key;simp only[f2,f3]
   rw[hm];simp only[h0,Option.bind,ai,ne_eq,not_true_eq_false,if_false,bne_self_eq_false,Bool.false_eq_true,decide_eq_true_eq,q2.2,q3.1,hmo,fK];rw[if_neg hn,if_neg (by omega),if_neg (by omega)];by_cases lV:n<=c.held
   ·rw[if_neg (by omega),if_neg (by omega),if_neg (by omega)];try simp only[lV,not_true_eq_false,if_false]
    by_cases ha:c.all>1125899906842624
    ·simp only[ha,if_true]
    ·simp only[ha,if_false]
     cases hf:(bq Cell.key l (i*2000+w)).isSome with
     |true=>
      simp only[Bool.not_true,Bool.false_eq_true,if_false,false_and,Bool.true_eq_false];exact lG o3 hkey o1 hf
     |false=>
      simp only[Bool.not_false,if_true,true_and,ge_iff_le];by_cases h4:4096<=l.length
      ·rw[if_pos (by omega),if_pos h4]
      ·rw[if_neg (by omega),if_neg h4];exact j4 hkey o1 hf
   ·first|exact absurd trivial lV|skip
    try simp only[lV,not_false_eq_true,if_true]
    repeat' (refine mg (λ_=> ?_) (λ_=> ?_))
    all_goals first|rfl|(exfalso;omega)
 ·have hv:dM l i w=(⟨0,0,0,0,0,0⟩,dN l i w):=lF h0;rw[hv];unfold cm;simp[h0,ai]
theorem JY (l:List Cell)(i w n:Int)(hl:l.length<=4611686018427387904):Es l i w n=some (cm 4 l i w n):=by
 unfold Es;rw[nV l i w hl];by_cases h0:dN l i w=0
 ·obtain⟨hok,hk⟩:=j3 h0;obtain⟨f1,f2,f3⟩:=cZ hok hk;obtain⟨o1,o2,o3⟩:=cE.1 hok;have hv:dM l i w=(cellOf l i w,0):=by unfold dM;rw[if_neg (by rw[hok];decide),if_pos hk]
  have hb:=nU l ⟨i,w,0,0,0,0⟩ o3 (by omega) (λc hc=>cG (o2 c hc)) ⟨hk.2.2.1,hk.2.2.2⟩;have pQ:Cell.key ⟨i,w,0,0,0,0⟩=i*2000+w:=rfl;rw[pQ]at hb;have hp:lX l i w=some (zL Cell.key l (i*2000+w)):=by simp[lX,hb]
  rw[hv,hp];unfold cm;generalize hc:cellOf l i w=c at*;have fc:=b8.1 f1;have e:∀a b:Int,-1125899907842624<=a->a<=1125899907842624->-1125899907842624<=b->b<=1125899907842624->aH .add .i64 a b=a+b/\aH .sub .i64 a b=a -b:=λa b h1 h2 h3 h4=>by simp only[aH,wrap64];omega
  by_cases hn:n<1\/n>1048576
  ·simp only[h0,Option.bind,ai,ne_eq,not_true_eq_false,if_false,bne_self_eq_false,Bool.false_eq_true,decide_eq_true_eq];rw[if_pos hn];by_cases h1:n<1
   ·rw[if_pos h1]
   ·rw[if_neg h1,if_pos (by omega)]
  ·have q1:=e c.free n (by omega) (by omega) (by omega) (by omega);have q2:=e c.held n (by omega) (by omega) (by omega) (by omega);have q3:=e c.out n (by omega) (by omega) (by omega) (by omega);have q4:=e c.all n (by omega) (by omega) (by omega) (by omega);have hm:oJ 4 c n=⟨c.item,c.aE,c.free+n,c.held,c.out -n,c.all⟩:=rfl;have hmo:mq 4 c n↔n<=c.out:=by unfold mq;simp
   have hkey:Cell.key ⟨c.item,c.aE,c.free+n,c.held,c.out -n,c.all⟩=i*2000+w:=by unfold Cell.key;simp only[f2,f3]
   rw[hm];simp only[h0,Option.bind,ai,ne_eq,not_true_eq_false,if_false,bne_self_eq_false,Bool.false_eq_true,decide_eq_true_eq,q1.1,q3.2,hmo,fK];rw[if_neg hn,if_neg (by omega),if_neg (by omega)];by_cases lV:n<=c.out
   ·rw[if_neg (by omega),if_neg (by omega),if_neg (by omega)];try simp only[lV,not_true_eq_false,if_false]
    by_cases ha:c.all>1125899906842624
    ·simp only[ha,if_true]
    ·simp only[ha,if_false]
     cases hf:(bq Cell.key l (i*2000+w)).isSome with
     |true=>
      simp only[Bool.not_true,Bool.false_eq_true,if_false,false_and,Bool.true_eq_false];exact lG o3 hkey o1 hf
     |false=>
      simp only[Bool.not_false,if_true,true_and,ge_iff_le];by_cases h4:4096<=l.length
      ·rw[if_pos (by omega),if_pos h4]
      ·rw[if_neg (by omega),if_neg h4];exact j4 hkey o1 hf
   ·first|exact absurd trivial lV|skip
    try simp only[lV,not_false_eq_true,if_true]
    repeat' (refine mg (λ_=> ?_) (λ_=> ?_))
    all_goals first|rfl|(exfalso;omega)
 ·have hv:dM l i w=(⟨0,0,0,0,0,0⟩,dN l i w):=lF h0;rw[hv];unfold cm;simp[h0,ai]
end Go.Proofs.aaa
end
section
namespace Go.Proofs.aaa
open Go.bA Go.IntWalk
def bV (k:Int):List Cell->List aU->List Cell×Int
 |l,[]=>(l,0)
 |l,x::r=>if(cm k l x.item x.aE x.gF).2≠0 then([],(cm k l x.item x.aE x.gF).2)else bV k (cm k l x.item x.aE x.gF).1 r
theorem rN {k:Int}{l:List Cell}{i w n:Int}:(cm k l i w n).1.length<=4096:=by
 unfold cm;by_cases h0:dN l i w=0
 ·obtain⟨hok,hk⟩:=j3 h0;obtain⟨f1,f2,f3⟩:=cZ hok hk;obtain⟨o1,_,_⟩:=cE.1 hok;have hkey:Cell.key (oJ k (cellOf l i w) n)=i*2000+w:=by unfold Cell.key;rw[tV.1,tV.2,f2,f3]
  rw[if_neg (λh=>h h0)];split
  ·simp
  ·split
   ·simp
   ·split
    ·simp
    ·split
     ·simp
     ·rename_i h4;simp only[AQ,hkey];split
      ·exact o1
      ·rename_i h5;have:¬l.length>=4096:=λh=>h4 ⟨by simpa using h5,h⟩;omega
 ·rw[if_pos h0];simp
theorem u_ (k:Int){step:List Cell->Int->aU->Option (List Cell⊕Int)}(hst:∀s i x,s.length<=4611686018427387904->step s i x=some (if(cm k s x.item x.aE x.gF).2≠0 then .inr (cm k s x.item x.aE x.gF).2 else .inl (cm k s x.item x.aE x.gF).1))
  {lines:List aU} {l:List Cell} (h1:lines.length<=4611686018427387904) (h2:l.length<=4611686018427387904):bh step lines l=some (if(bV k l lines).2≠0 then .inr (bV k l lines).2 else .inl (bV k l lines).1):=by
 rw[rL (λs _ x=>if(cm k s x.item x.aE x.gF).2≠0 then .inr (cm k s x.item x.aE x.gF).2 else .inl (cm k s x.item x.aE x.gF).1) (λ_ s=>s.length<=4611686018427387904) h1 h2]
 ·congr 1
  clear hst h1 h2
  suffices∀(lines:List aU)(i:Int)(l:List Cell),oI (λs _ x=>if(cm k s x.item x.aE x.gF).2≠0 then .inr (cm k s x.item x.aE x.gF).2 else .inl (cm k s x.item x.aE x.gF).1) lines i l=(if(bV k l lines).2≠0 then .inr (bV k l lines).2 else .inl (bV k l lines).1) from this lines 0 l
  intro lines
  induction lines with
  |nil=>intro i l;rfl
  |cons x r ih=>
   intro i l;rw[oI,bV];by_cases he:(cm k l x.item x.aE x.gF).2≠0
   ·rw[if_pos he,if_pos he];simp[he]
   ·rw[if_neg he,if_neg he];exact ih (i+1) _
 ·intro j x s hj hx hs;refine⟨hst s j x hs,λs' h=> ?_⟩;split at h
  ·cases h
  ·cases h;have:=rN (k:=k) (l:=s) (i:=x.item) (w:=x.aE) (n:=x.gF);omega
theorem aaW {k:Int}:∀{lines:List aU}{l:List Cell},(bV k l lines).2≠0->(bV k l lines).1=[]
 |[],l,h=>absurd rfl h
 |x::r,l,h=>by
  unfold bV at h⊢;split
  ·rfl
  ·rename_i he;rw[if_neg he]at h;exact aaW h
theorem ab9 (k:Int)(l:List Cell)(lines:List aU)(h1:lines.length<=4611686018427387904)(h2:l.length*48<=140737488355328):ack k l lines=some (bV k l lines):=by
 unfold ack;rw[if_pos (by simpa using h2),List.nil_append,u_ k (λs i x hs=>by
  rw[adb k s x.item x.aE x.gF hs];simp only[Option.bind,ai,bne_iff_ne];split<;>rfl) h1 (by omega)]
 by_cases he:(bV k l lines).2≠0
 ·rw[if_pos he];simp only[Option.bind];rw[<-aaW he]
 ·rw[if_neg he];simp only[Option.bind];have:(bV k l lines).2=0:=by omega
  rw[<-this]
theorem rO {α:Type} [DecidableEq α]{a b:List α}(hl:a.length=b.length)(hb:a.length<=4611686018427387904){step:Unit->Int->α->Option (Unit⊕Unit)}
  (hst:∀(i:Int) x y,0<=i->a[i.toNat]?=some x->b[i.toNat]?=some y->fH b i=some y->step () i x=some (if x=y then .inl ()else .inr ())):bh step a ()=some (if a=b then .inl ()else .inr ()):=by
 rw[pz (λi x=>decide (b[i.toNat]?=some x)) () hb]
 ·congr 1
  have:allI (λi x=>decide (b[i.toNat]?=some x)) a 0=decide (a=b):=by
   rw[Bool.eq_iff_iff,jY,decide_eq_true_eq];constructor
   ·intro h;apply List.ext_getElem?;intro j
    cases hj:a[j]? with
    |none=>
     rw[List.getElem?_eq_none_iff]at hj;exact(List.getElem?_eq_none_iff.2 (by omega)).symm
    |some x=>have:=h j x hj;simp at this;exact this.symm
   ·rintro rfl j x hx;simpa using hx
  rw[this];by_cases hab:a=b
  ·simp[hab]
  ·simp[hab]
 ·intro i x hi hx;have hlt:=(List.getElem?_eq_some_iff.1 hx).1;have hy:b[i.toNat]?=some (b[i.toNat]'(by omega)):=List.getElem?_eq_getElem (by omega)
  rw[hst i x _ hi hx hy (cT hi hy),hy];by_cases h:x=b[i.toNat]'(by omega)
  ·simp[h]
  ·have:¬b[i.toNat]'(by omega)=x:=λe=>h e.symm
   simp[h,this]
theorem Nd (a b:List Cell)(hb:a.length<=4611686018427387904):Mr a b=some (decide (a=b)):=by
 unfold Mr;simp only[ai,fK,bne_iff_ne,ne_eq];by_cases hl:(a.length:Int)=b.length
 ·rw[if_neg (λh=>h hl),rO (a:=a) (b:=b) (by omega) hb (λi x y hi hx hy ha=> ?_)]
  ·by_cases h:a=b<;>simp[h]
  ·rw[ha];simp only[Option.bind];by_cases h:x=y
   ·subst h;simp
   ·have:¬(x.item=y.item/\x.aE=y.aE/\x.free=y.free/\x.held=y.held/\x.out=y.out/\x.all=y.all):=λe=>h (by cases x;cases y;simp_all);simp[h];intro h1 h2 h3 h4 h5 h6;exact this ⟨h1,h2,h3,h4,h5,h6⟩
 ·rw[if_pos hl];have:¬a=b:=λe=>hl (by rw[e]);simp[this]
end Go.Proofs.aaa
end
section
namespace Go.Proofs.aaa
open Go.bA Go.IntWalk
abbrev jl {α:Type}(l:List (Int×α)):Prop:=(l.map (·.1)).Nodup
theorem va {α:Type}:∀(l:List (Int×α))(n m:Int)(v:α),ck (iI l n v) m=if m=n then some v else ck l m
 |[],n,m,v=>by
  by_cases h:n=m
  ·subst h;simp[iI,ck]
  ·have:¬m=n:=λe=>h e.symm;simp[iI,ck,h,this]
 |(k,u)::l,n,m,v=>by
  simp only[iI];by_cases h:k=n
  ·subst h;by_cases h2:k=m
   ·subst h2;simp[ck]
   ·have:¬m=k:=λe=>h2 e.symm;simp[ck,h2,this]
  ·rw[if_neg h];by_cases h2:k=m
   ·subst h2;simp[ck,h]
   ·simp[ck,h2,va l n m v]
theorem vb {α:Type}:∀(l:List (Int×α))(n:Int)(v:α),jl l->jl (iI l n v)/\∀k,k∈(iI l n v).map (·.1)->k=n\/k∈l.map (·.1)
 |[],n,v,_=>⟨by simp[iI,jl],λk hk=>by simp[iI]at hk;exact .inl hk⟩
 |(k,u)::l,n,v,h=>by
  obtain⟨h1,h2⟩:=List.nodup_cons.1 h;simp only[iI];by_cases hk:k=n
  ·rw[if_pos hk];exact⟨h,λq hq=>.inr hq⟩
  ·rw[if_neg hk];obtain⟨i1,i2⟩:=vb l n v h2;refine⟨List.nodup_cons.2 ⟨λhm=> ?_,i1⟩,λq hq=> ?_⟩
   ·rcases i2 k hm with e|e
    ·exact hk e
    ·exact h1 e
   ·rcases List.mem_cons.1 hq with e|e
    ·exact .inr (by simp[e])
    ·rcases i2 q e with e|e
     ·exact .inl e
     ·exact .inr (List.mem_cons_of_mem _ e)
theorem xF {α:Type}:∀{l:List (Int×α)}{n:Int},n∉l.map (·.1)->ck l n=none
 |[],_,_=>rfl
 |(k,u)::l,n,h=>by
  simp only[List.map_cons,List.mem_cons,not_or]at h;rw[ck,if_neg (λe=>h.1 e.symm)];exact xF h.2
theorem AT {α:Type}:∀{l:List (Int×α)}{n:Int}{v:α},ck l n=some v->(n,v)∈l
 |(k,u)::l,n,v,h=>by
  rw[ck]at h;split at h
  ·rename_i e;subst e;cases h;exact List.mem_cons_self
  ·exact List.mem_cons_of_mem _ (AT h)
theorem AU {α:Type}:∀{l:List (Int×α)}{n:Int}{v:α},jl l->(n,v)∈l->ck l n=some v
 |(k,u)::l,n,v,hk,h=>by
  obtain⟨h1,h2⟩:=List.nodup_cons.1 hk;rw[ck];rcases List.mem_cons.1 h with e|e
  ·cases e;rw[if_pos rfl]
  ·have hn:k≠n:=λe2=>h1 (by subst e2;exact List.mem_map_of_mem (f:=(·.1)) e);rw[if_neg hn,AU h2 e]
theorem AW {α:Type}:∀(l:List (Int×α))(n m:Int),jl l->ck (kg l n) m=if m=n then none else ck l m
 |[],n,m,_=>by simp[kg,ck]
 |(k,u)::l,n,m,h=>by
  obtain⟨h1,h2⟩:=List.nodup_cons.1 h;simp only[kg];by_cases hk:k=n
  ·subst hk;rw[if_pos rfl];by_cases hm:m=k
   ·subst hm;rw[if_pos rfl];exact xF h1
   ·rw[if_neg hm,ck,if_neg (λe=>hm e.symm)]
  ·rw[if_neg hk,ck,ck,AW l n m h2];by_cases hm:k=m
   ·subst hm;simp[hk]
   ·simp[hm]
theorem AX {α:Type}:∀(l:List (Int×α))(n:Int),jl l->jl (kg l n)/\∀k,k∈(kg l n).map (·.1)->k∈l.map (·.1)
 |[],n,h=>⟨h,λk hk=>hk⟩
 |(k,u)::l,n,h=>by
  obtain⟨h1,h2⟩:=List.nodup_cons.1 h;simp only[kg];by_cases hk:k=n
  ·rw[if_pos hk];exact⟨h2,λq hq=>List.mem_cons_of_mem _ hq⟩
  ·rw[if_neg hk];obtain⟨i1,i2⟩:=AX l n h2;refine⟨List.nodup_cons.2 ⟨λhm=>h1 (i2 k hm),i1⟩,λq hq=> ?_⟩;rcases List.mem_cons.1 hq with e|e
   ·simp[e]
   ·exact List.mem_cons_of_mem _ (i2 q e)
theorem AY {α ρ:Type} [DecidableEq ρ]{step:Int->α->Option (Unit⊕ρ)}(p:Int->α->Bool)(r:ρ):∀(l:List (Int×α)),(∀n v,(n,v)∈l->step n v=some (if p n v=true then .inl ()else .inr r))->
  anyM step l=some (if(l.all λq=>p q.1 q.2)=true then .inl ()else .inr r)
 |[],_=>by simp[anyM]
 |(n,v)::l,h=>by
  rw[anyM,h n v List.mem_cons_self,AY p r l λm u hm=>h m u (List.mem_cons_of_mem _ hm),List.all_cons];simp only[Option.bind];cases p n v<;>cases (l.all λq=>p q.1 q.2)<;>simp
def dV (p:aQ)(x:au):aQ:=⟨p.order,(p.bC+if x.dst=2 then x.ax else 0) -(if x.sJ=2 then x.ax else 0),p.aT+(if x.dst=3 then x.ax else 0),p.aX+(if x.sJ=3 then x.ax else 0)⟩
def wg (p:aQ):Bool:=decide (p.bC<=1152921504606846976/\-1152921504606846976<=p.bC/\p.aT<=1152921504606846976/\p.aX<=1152921504606846976)
def eH (x:au):Bool:=decide (1<=x.order/\x.order<=1024/\1<=x.ax/\x.ax<=1152921504606846976/\1<=x.sJ/\x.sJ<=3/\1<=x.dst/\x.dst<=3/\x.sJ≠x.dst)
theorem dH {x:au}:eH x=true↔(1<=x.order/\x.order<=1024/\1<=x.ax/\x.ax<=1152921504606846976/\1<=x.sJ/\x.sJ<=3/\1<=x.dst/\x.dst<=3/\x.sJ≠x.dst):=by unfold eH;rw[decide_eq_true_eq]
abbrev IW (p:aQ):Prop:=-1152921504606846976<=p.bC/\p.bC<=1152921504606846976/\0<=p.aT/\p.aT<=1152921504606846976/\0<=p.aX/\p.aX<=1152921504606846976
theorem Hx {p:aQ}{x:au}(hp:IW p)(hx:eH x=true)(hb:wg (dV p x)=true):IW (dV p x):=by
 rw[dH]at hx;unfold wg at hb;rw[decide_eq_true_eq]at hb;refine⟨hb.2.1,hb.1, ?_,hb.2.2.1, ?_,hb.2.2.2⟩<;>simp only[dV]<;>split<;>omega
theorem zb (p:aQ)(x:au)(hp:IW p)(hx:eH x=true):B6 p x=some (wg (dV p x),dV p x):=by
  rw[dH]at hx;have e:∀a b:Int,-2305843009213693952<=a->a<=2305843009213693952->-2305843009213693952<=b->b<=2305843009213693952->aH .add .i64 a b=a+b/\aH .sub .i64 a b=a -b:=λa b h1 h2 h3 h4=>by simp only[aH,wrap64];omega
  have e1:=e p.bC x.ax (by omega) (by omega) (by omega) (by omega);have e2:=(e p.aT x.ax (by omega) (by omega) (by omega) (by omega)).1;have e3:=(e p.aX x.ax (by omega) (by omega) (by omega) (by omega)).1;have e4:=(e (p.bC+x.ax) x.ax (by omega) (by omega) (by omega) (by omega)).2;obtain⟨po,p1,p2,p3⟩:=p;obtain⟨o,f,d,a⟩:=x;simp only at hx e1 e2 e3 e4 hp;have hf:f=1\/f=2\/f=3:=by omega
  have hd:d=1\/d=2\/d=3:=by omega
  unfold B6 dV wg;simp only[e1.1,e1.2,e2,e3,e4];clear e e1 e2 e3 e4;rcases hf with rfl|rfl|rfl<;>rcases hd with rfl|rfl|rfl
  all_goals first
    |(exfalso;omega)
    | (simp only[ai,beq_iff_eq,decide_eq_true_eq,ge_iff_le,Int.reduceEq,if_true,if_false]
       repeat' (refine mg (λ_=> ?_) (λ_=> ?_))
       all_goals (rw[Option.some.injEq,Prod.mk.injEq];refine⟨?_, ?_⟩)
       all_goals first
         |(show aQ.mk _ _ _ _=aQ.mk _ _ _ _;congr 1<;>omega;done)
         |(simp only[aQ.mk.injEq,true_and];omega)
         |(rw[Bool.eq_iff_iff];simp only[decide_eq_true_eq,Bool.false_eq_true,false_iff];omega)
         |skip)
end Go.Proofs.aaa
end
section
namespace Go.Proofs.aaa
open Go.bA Go.IntWalk
theorem E3 {α σ ρ:Type}{step:σ->Int->α->Option (σ⊕ρ)}(h:∀s i x,∃y,step s i x=some y):∀(l:List α)(i:Int)(s:σ),∃r,gY step l i s=some r
 |[],i,s=>⟨_,rfl⟩
 |x::l,i,s=>by
  obtain⟨y,hy⟩:=h s i x;rw[gY,hy]
  cases y with
  |inl s'=>exact E3 h l (i+1) s'
  |inr r=>exact⟨_,rfl⟩
theorem E4 {α σ ρ:Type}{step:σ->Int->α->Option (σ⊕ρ)}{l:List α}{s:σ}(hl:l.length<=4611686018427387904)(h:∀s i x,∃y,step s i x=some y):∃r,bh step l s=some r:=by
 rw[bh,if_pos (decide_eq_true hl)];exact E3 h l 0 s
theorem abQ {β:Type}{c:Prop} [Decidable c]{A B:Option β}(h1:c->∃y,A=some y)(h2:¬c->∃y,B=some y):∃y,(if c then A else B)=some y:=by
 by_cases h:c
 ·rw[if_pos h];exact h1 h
 ·rw[if_neg h];exact h2 h
theorem aaX {α β:Type}{a:Option α}{k:α->Option β}(h:∃x,a=some x)(hk:∀x,a=some x->∃y,k x=some y):∃y,a.bind k=some y:=by
 obtain⟨x,hx⟩:=h;rw[hx];exact hk x hx
def fZ (n:Int):aQ->List au->Option aQ
 |p,[]=>some p
 |p,x::l=>if x.order=n then(if wg (dV p x)=true then fZ n (dV p x) l else none)else fZ n p l
abbrev f_ (l:List au)(n:Int):Option aQ:=fZ n ⟨n,0,0,0⟩ l
theorem abc (l:List au)(n:Int)(hl:l.length<=4611686018427387904):∃r,aaM l n=some r:=by
 unfold aaM;refine aaX (E4 hl λs i x=> ?_) (λr _=> ?_)
 ·repeat' (refine abQ (λ_=> ?_) (λ_=> ?_))
  all_goals exact⟨_,rfl⟩
 ·cases r<;>exact⟨_,rfl⟩
theorem abA (l:List au)(n:Int)(hl:l.length<=4611686018427387904)(hf:∀x∈l,eH x=true):aaM l n=some (match f_ l n with|some p=>(p,true)|none=>(⟨0,0,0,0⟩,false)):=by
  unfold aaM;rw[rL (λs _ x=>if x.order=n then(if wg (dV ⟨n,s.1,s.2.1,s.2.2⟩ x)=true then .inl ((dV ⟨n,s.1,s.2.1,s.2.2⟩ x).bC,(dV ⟨n,s.1,s.2.1,s.2.2⟩ x).aT,(dV ⟨n,s.1,s.2.1,s.2.2⟩ x).aX)else .inr ())else .inl s) (λ_ s=>IW ⟨n,s.1,s.2.1,s.2.2⟩) hl (by unfold IW;simp)]
  · have key:∀(l:List au)(i:Int)(s:Int×Int×Int),oI (λs _ x=>if x.order=n then(if wg (dV ⟨n,s.1,s.2.1,s.2.2⟩ x)=true then Sum.inl ((dV ⟨n,s.1,s.2.1,s.2.2⟩ x).bC,(dV ⟨n,s.1,s.2.1,s.2.2⟩ x).aT,(dV ⟨n,s.1,s.2.1,s.2.2⟩ x).aX)else .inr ())else .inl s) l i s
        =match fZ n ⟨n,s.1,s.2.1,s.2.2⟩ l with|some p=>.inl (p.bC,p.aT,p.aX)|none=>.inr ():=by
      intro l
      induction l with
      |nil=>intro i s;rfl
      | cons x l ih=>
        intro i s;rw[oI,fZ];by_cases h1:x.order=n
        · rw[if_pos h1,if_pos h1]
          by_cases h2:wg (dV ⟨n,s.1,s.2.1,s.2.2⟩ x)=true
          · rw[if_pos h2,if_pos h2];exact ih (i+1) _
          · rw[if_neg h2,if_neg h2]
        · rw[if_neg h1,if_neg h1];exact ih (i+1) _
    have NI:∀(l:List au)(p q:aQ),fZ n p l=some q->q.order=p.order:=by
      intro l
      induction l with
      |nil=>intro p q h;cases h;rfl
      | cons x l ih=>
        intro p q h;rw[fZ]at h;split at h
        · split at h
          · have:=ih _ _ h
            exact this
          · cases h
        · exact ih _ _ h
    rw[key];simp only[Option.bind]
    cases hs:fZ n ⟨n,0,0,0⟩ l with
    |none=>simp only[f_,hs]
    | some p=>
      have:=NI l _ _ hs;obtain⟨a,b,c,d⟩:=p;simp only at this;subst this;simp only[f_,hs]
  · intro j x s hj hx hs
    have hfx:=hf x (List.mem_of_getElem? hx);obtain⟨s1,s2,s3⟩:=s;refine⟨?_,λs' h=> ?_⟩
    · have e:∀a b:Int,-2305843009213693952<=a->a<=2305843009213693952->-2305843009213693952<=b->b<=2305843009213693952->aH .add .i64 a b=a+b/\aH .sub .i64 a b=a -b:=λa b h1 h2 h3 h4=>by simp only[aH,wrap64];omega
      rw[dH]at hfx;obtain⟨o,f,d,a⟩:=x;simp only at hfx;obtain⟨q1,q2,q3,q4,q5,q6⟩:=hs;simp only at q1 q2 q3 q4 q5 q6;have e1:=e s1 a (by omega) (by omega) (by omega) (by omega);have e2:=(e s2 a (by omega) (by omega) (by omega) (by omega)).1;have e3:=(e s3 a (by omega) (by omega) (by omega) (by omega)).1;have e4:=(e (s1+a) a (by omega) (by omega) (by omega) (by omega)).2;have hf':f=1\/f=2\/f=3:=by omega
      have hd:d=1\/d=2\/d=3:=by omega
      simp only[e1.1,e1.2,e2,e3,e4,dV,wg,ai,bne_iff_ne,ne_eq,decide_eq_true_eq,beq_iff_eq];clear e e1 e2 e3 e4 hx;by_cases ho:o=n
      · rcases hf' with rfl|rfl|rfl<;>rcases hd with rfl|rfl|rfl
        all_goals first
          |(exfalso;omega)
          | (simp only[ho,not_true_eq_false,if_false,if_true,Int.reduceEq]
             repeat' (refine mg (λ_=> ?_) (λ_=> ?_))
             all_goals first
               |(rw[if_pos (by omega)];simp;done)
               |(rw[if_neg (by omega)];done)
               |skip)
      · simp only[ho,not_false_eq_true,if_true,if_false]
    · simp only at h
      split at h
      · split at h
        · cases h
          rename_i h2;have:=Hx hs hfx h2;exact this
        · cases h
      · cases h;exact hs
end Go.Proofs.aaa
end
section
namespace Go.Proofs.aaa
open Go.bA Go.IntWalk
theorem abl {α σ ρ:Type}{step:σ->Int->α->Option (σ⊕ρ)}{l:List α}{s0:σ}(hl:l.length<=4611686018427387904)(h:∀(j:Int) x s,0<=j->l[j.toNat]?=some x->∃y,step s j x=some y):∃r,bh step l s0=some r:=
 ⟨_,rL (λs i x=>(step s i x).getD (.inl s)) (λ_ _=>True) hl trivial (λj x s hj hx _=>⟨by obtain⟨y,hy⟩:=h j x s hj hx;rw[hy];rfl,λ_ _=>trivial⟩)⟩
def jt (p:aQ):Bool:=decide (p.bC=0/\p.aT=0/\p.aX=0)
def aG (b:aF)(n:Int):aQ:=match bq aQ.order b.aK n with|some p=>p|none=>⟨n,0,0,0⟩
structure bO (b:aF):Prop where
 qo:b.aK.length<=1024
 rK:b.ak.length<=16384
 i_:∀x∈b.ak,eH x=true
 rising:bU aQ.order b.aK
 aK:∀p∈b.aK,1<=p.order/\p.order<=1024/\jt p=false/\0<=p.bC/\p.aX<=p.aT/\f_ b.ak p.order=some p
 rest:∀x∈b.ak,f_ b.ak x.order=some (aG b x.order)
open Classical in
noncomputable def ve (b:aF):Int:=if bO b then 0 else 9
theorem jH {b:aF}(h:bO b):ve b=0:=by unfold ve;rw[if_pos h]
theorem iO {b:aF}(h:¬bO b):ve b=9:=by unfold ve;rw[if_neg h]
theorem aaA (n:Int):abK n=some (decide (1<=n/\n<=1024)):=by
 simp only[abK,ai,decide_eq_true_eq,ge_iff_le];refine mg (λh=> ?_) (λh=> ?_)<;>simp[h]
theorem nW (n:Int):wu n=some (decide (1<=n/\n<=1024)):=by
 simp only[wu,ai,decide_eq_true_eq,ge_iff_le];refine mg (λh=> ?_) (λh=> ?_)<;>simp[h]
theorem ze (n:Int):uz n=some (decide (1<=n/\n<=1152921504606846976)):=by
 simp only[uz,ai,decide_eq_true_eq,ge_iff_le];refine mg (λh=> ?_) (λh=> ?_)<;>simp[h]
theorem JZ (n:Int):Eh n=some (decide (1<=n/\n<=3)):=by
 simp only[Eh,ai,decide_eq_true_eq,ge_iff_le];refine mg (λh=> ?_) (λh=> ?_)
 ·rw[Option.some.injEq,Bool.eq_iff_iff];simp;omega
 ·simp[h]
theorem ade (n:Int):abL n=some (decide (1<=n/\n<=3)):=by
 simp only[abL,ai,decide_eq_true_eq,ge_iff_le];refine mg (λh=> ?_) (λh=> ?_)<;>simp[h]
theorem abB (p:aQ):ach p=some (jt p):=by
 simp only[ach,ai,beq_iff_eq,jt]
 repeat' (refine mg (λ_=> ?_) (λ_=> ?_))
 all_goals (rw[Option.some.injEq,Bool.eq_iff_iff];simp;omega)
theorem Hy (b:aF)(n:Int)(hl:b.aK.length<=4611686018427387904):IL b n=some (aG b n):=by
 unfold IL;rw[nu (λp=>p.order==n) id hl]
 ·unfold aG bq;cases b.aK.find? (λp=>p.order==n)<;>rfl
 ·intro j x _ _;simp only[ai];by_cases h:x.order=n<;>simp[h]
theorem qt (n:Int):∀{l:List au}{p q:aQ},(∀x∈l,eH x=true)->IW p->fZ n p l=some q->IW q/\q.order=p.order
 |[],p,q,_,hp,h=>by cases h;exact⟨hp,rfl⟩
 |x::l,p,q,hf,hp,h=>by
  rw[fZ]at h;split at h
  ·split at h
   ·rename_i h2;have h3:=qt n (p:=dV p x) (λy hy=>hf y (List.mem_cons_of_mem _ hy)) (Hx hp (hf x List.mem_cons_self) h2) h;exact h3
   ·cases h
  ·exact qt n (λy hy=>hf y (List.mem_cons_of_mem _ hy)) hp h
theorem CF (p q:aQ):((p.order==q.order)&&((p.bC==q.bC)&&((p.aT==q.aT)&&((p.aX==q.aX)&&true))))=decide (p=q):=by
 rw[Bool.eq_iff_iff];obtain⟨a,b,c,d⟩:=p;obtain⟨a',b',c',d'⟩:=q;simp
def wN (b:aF)(i:Int)(p:aQ):Bool:=decide (1<=p.order/\p.order<=1024/\jt p=false/\0<=p.bC/\p.aX<=p.aT/\f_ b.ak p.order=some p)&&(decide (i<=0)||match b.aK[(i -1).toNat]? with|some d=>decide (d.order<p.order)|none=>false)
theorem AZ {b:aF}:allI (wN b) b.aK 0=true↔bU aQ.order b.aK/\∀p∈b.aK,1<=p.order/\p.order<=1024/\jt p=false/\0<=p.bC/\p.aX<=p.aT/\f_ b.ak p.order=some p:=by
 rw[jY];constructor
 ·intro h;refine⟨kT _ λj x y hx hy=> ?_,λp hp=> ?_⟩
  ·have:=h (j+1) y hy;unfold wN at this;rw[Bool.and_eq_true]at this;have h3:=this.2;rw[decide_eq_false (by omega),show((0:Int)+((j+1:Nat):Int) -1).toNat=j by omega,hx]at h3;simpa using h3
  ·obtain⟨j,hj⟩:=List.mem_iff_getElem?.1 hp;have:=h j p hj;unfold wN at this;rw[Bool.and_eq_true,decide_eq_true_eq]at this;exact this.1
 ·rintro⟨h1,h2⟩ j p hp;unfold wN;rw[decide_eq_true (h2 p (List.mem_of_getElem? hp)),Bool.true_and,Bool.or_eq_true]
  cases j with
  |zero=>left;simp
  |succ j=>
   right;have hlt:=(List.getElem?_eq_some_iff.1 hp).1;have hx:=List.getElem?_eq_getElem (show j<b.aK.length by omega);rw[show((0:Int)+((j+1:Nat):Int) -1).toNat=j by omega,hx];have:=u7 h1 hx hp;simpa using this
theorem acL (b:aF)(h1:b.aK.length<=4611686018427387904)(h2:b.ak.length<=4611686018427387904):g69 b=some (ve b):=by
  unfold g69;simp only[ai,fK,decide_eq_true_eq];by_cases l1:(b.aK.length:Int)>1024
  · rw[if_pos l1,iO (λh=>by have:=h.qo;omega)]
  rw[if_neg l1];by_cases l2:(b.ak.length:Int)>16384
  · rw[if_pos l2,iO (λh=>by have:=h.rK;omega)]
  rw[if_neg l2];have second:(bh (λ(s41:Unit)(i43:Int)(x45:au)=>
          (abK x45.order).bind λs7=>if(!s7)=true then some (.inr ())else
            if (ai .lss x45.ax 1)=true then some (.inr ())else if(ai .gtr x45.ax 1152921504606846976)=true then some (.inr ())else
                (abL x45.sJ).bind λJt=>if(!Jt)=true then some (.inr ())else
                  (abL x45.dst).bind λgK=>if(!gK)=true then some (.inr ())else
                    if(ai .eql x45.sJ x45.dst)=true then some (.inr ())else some (.inl ())) b.ak ():Option ((Unit)⊕(Unit)))=some (if(∀x∈b.ak,eH x=true)then .inl ()else .inr ()):=by
    simp only[ai,decide_eq_true_eq];rw[pz (λ_ x=>eH x) () h2]
    · have:allI (λ_ x=>eH x) b.ak 0=true↔∀x∈b.ak,eH x=true:=by
        rw[jY];constructor
        · intro h x hx
          obtain⟨j,hj⟩:=List.mem_iff_getElem?.1 hx;exact h j x hj
        · intro h j x hx
          exact h x (List.mem_of_getElem? hx)
      by_cases hh:∀x∈b.ak,eH x=true
      · rw[if_pos hh,if_pos (this.2 hh)]
      · rw[if_neg hh,if_neg (λh=>hh (this.1 h))]
    · intro j x _ _
      have hx:=dH (x:=x);simp only[aaA,ade,Option.bind]
      cases hp:eH x with
      | true=>
        have:=hx.1 hp;rw[if_neg (by simp;omega),if_neg (by omega),if_neg (by omega),if_neg (by simp;omega),if_neg (by simp;omega)];exact(if_neg (by simp;omega)).trans rfl
      | false=>
        have:¬_:=λh=>by have:=hx.2 h;rw[hp]at this;cases this
        repeat' (refine mg (λ_=> ?_) (λ_=> ?_))
        all_goals first
          |rfl
          |(exfalso;apply this;simp at*;omega)
  simp only[ai,decide_eq_true_eq]at second;by_cases hf:∀x∈b.ak,eH x=true
  · have hC:∀n p,f_ b.ak n=some p->IW p:=λn p h=>(qt n hf (by unfold IW;simp) h).1
    rw[pz (wN b) () h1,Option.bind_some]
    · by_cases hP:allI (wN b) b.aK 0=true
      · rw[if_pos hP]
        dsimp only;rw[second,if_pos hf,Option.bind_some];dsimp only;rw[pz (λ_ x=>decide (f_ b.ak x.order=some (aG b x.order))) () h2,Option.bind_some]
        · have hT:allI (λ(_:Int)(x:au)=>decide (f_ b.ak x.order=some (aG b x.order))) b.ak 0=true↔∀x∈b.ak,f_ b.ak x.order=some (aG b x.order):=by
            rw[jY];constructor
            · intro h x hx
              obtain⟨j,hj⟩:=List.mem_iff_getElem?.1 hx;simpa using h j x hj
            · intro h j x hx
              simpa using h x (List.mem_of_getElem? hx)
          by_cases hh:∀x∈b.ak,f_ b.ak x.order=some (aG b x.order)
          · rw[if_pos (hT.2 hh),jH ⟨by omega,by omega,hf,(AZ.1 hP).1,(AZ.1 hP).2,hh⟩]
          · rw[if_neg (λh=>hh (hT.1 h)),iO (λh=>hh h.rest)]
        · intro j x _ _
          simp only[abA _ _ h2 hf,Hy b _ h1,Option.bind]
          cases hs:f_ b.ak x.order with
          |none=>simp
          | some p=>
            simp only[CF,Option.some.injEq];by_cases hp:p=aG b x.order<;>simp[hp]
      · rw[if_neg hP,iO (λh=>hP (AZ.2 ⟨h.rising,h.aK⟩))]
    · intro j x h0 hx
      have hj:j<=4611686018427387904:=by have:=(List.getElem?_eq_some_iff.1 hx).1;omega
      have tl:(if x.bC<0 then(some (.inr ()):Option (Unit⊕Unit))else if x.bC>1152921504606846976 then some (.inr ())else if x.aT<0 then some (.inr ())else if x.aT>1152921504606846976 then some (.inr ())else if x.aX<0 then some (.inr ())else if x.aX>x.aT then some (.inr ())else
          (aaM b.ak x.order).bind λGn=>if(!Gn.2)=true then some (.inr ())else
            if(!((Gn.1.order==x.order)&&((Gn.1.bC==x.bC)&&((Gn.1.aT==x.aT)&&((Gn.1.aX==x.aX)&&true)))))=true then some (.inr ())else some (.inl ()))
          =some (if(0<=x.bC/\x.aX<=x.aT/\f_ b.ak x.order=some x)then .inl ()else .inr ()):=by
        rw[abA _ _ h2 hf];simp only[Option.bind]
        cases hs:f_ b.ak x.order with
        |none=>simp
        | some p=>
          have hc:=hC _ _ hs;simp only[CF,Option.some.injEq];by_cases hp:p=x
          · subst hp
            simp only[and_true];by_cases h5:0<=p.bC/\p.aX<=p.aT
            · rw[if_pos h5,if_neg (by omega),if_neg (by omega),if_neg (by omega),if_neg (by omega),if_neg (by omega),if_neg (by omega)];simp
            · rw[if_neg h5]
              repeat' (refine mg (λ_=> ?_) (λ_=> ?_))
              all_goals first|rfl|(exfalso;omega)
          · simp only[hp,and_false]
            repeat' (refine mg (λ_=> ?_) (λ_=> ?_))
            all_goals first|rfl|(exfalso;simp at*;done)
      simp only[aaA,abB]at tl⊢;simp only[Option.bind]at tl⊢;unfold wN;by_cases c1:1<=x.order/\x.order<=1024
      · rw[if_neg (by simp;omega)]
        cases c2:jt x with
        |true=>simp
        | false=>
          rw[if_neg (by simp)];by_cases hj0:0<j
          · rw[if_pos (by omega)]
            obtain⟨y,⟨hy,ha⟩|JS⟩:=AP h0 hx hj0
            · rw[ha,hy]
              simp only[];by_cases c3:y.order>=x.order
              · rw[if_pos c3,if_neg (by simp;omega)]
              · rw[if_neg c3,tl]
                by_cases c4:0<=x.bC/\x.aX<=x.aT/\f_ b.ak x.order=some x
                · rw[if_pos c4,if_pos (by rw[decide_eq_true ⟨c1.1,c1.2,(by first|rfl|trivial),c4⟩,decide_eq_true (by omega:y.order<x.order)];simp)]
                · rw[if_neg c4,if_neg (by rw[decide_eq_false (λh=>c4 h.2.2.2)];simp)]
            · omega
          · rw[if_neg (by omega),tl]
            by_cases c4:0<=x.bC/\x.aX<=x.aT/\f_ b.ak x.order=some x
            · rw[if_pos c4,if_pos (by rw[decide_eq_true ⟨c1.1,c1.2,(by first|rfl|trivial),c4⟩,decide_eq_true (by omega:j<=0)];simp)]
            · rw[if_neg c4,if_neg (by rw[decide_eq_false (λh=>c4 h.2.2.2)];simp)]
      · rw[if_pos (by simp;omega),if_neg (by rw[decide_eq_false (λh=>c1 ⟨h.1,h.2.1⟩)];simp)]
  · rw[iO (λh=>hf h.i_)]
    have ht:∀{K:Unit⊕Unit->Option Int}{o:Option (Unit⊕Unit)},(∃R,o=some R)->(∀R,K R=some 9)->o.bind K=some 9:=by
      rintro K o ⟨R,rfl⟩ h;exact h R
    refine ht ?_ ?_
    · refine abl h1 λj x s h0 hx=> ?_
      have hj:j<=4611686018427387904:=by have:=(List.getElem?_eq_some_iff.1 hx).1;omega
      refine aaX ⟨_,aaA _⟩ λgO _=>abQ (λ_=>⟨_,rfl⟩) λ_=>aaX ⟨_,abB _⟩ λz9 _=>abQ (λ_=>⟨_,rfl⟩) λ_=>abQ (λhj0=> ?_) λ_=> ?_
      · obtain⟨y,⟨hy,ha⟩|JS⟩:=AP h0 hx hj0
        · refine aaX ⟨_,ha⟩ λx16 _=> ?_
          repeat' (refine abQ (λ_=> ?_) (λ_=> ?_))
          all_goals first
            |exact⟨_,rfl⟩
            | (refine aaX (abc _ _ h2) λp _=> ?_
               repeat' (refine abQ (λ_=> ?_) (λ_=> ?_))
               all_goals exact⟨_,rfl⟩)
        · omega
      · repeat' (refine abQ (λ_=> ?_) (λ_=> ?_))
        all_goals first
          |exact⟨_,rfl⟩
          | (refine aaX (abc _ _ h2) λp _=> ?_
             repeat' (refine abQ (λ_=> ?_) (λ_=> ?_))
             all_goals exact⟨_,rfl⟩)
    · rintro(R|R)
      · dsimp only
        rw[second,if_neg hf];rfl
      · rfl
end Go.Proofs.aaa
end
section
namespace Go.Proofs.aaa
open Go.bA Go.IntWalk
theorem sQ {α σ ρ:Type}{step:σ->Int->α->Option (σ⊕ρ)}(Inv:Nat->σ->Prop)(A0:ρ->Prop):∀(l pre:List α)(s:σ),Inv pre.length s->
  (∀(j:Nat) x s,(pre++l)[j]?=some x->Inv j s->(∃s',step s j x=some (.inl s')/\Inv (j+1) s')\/∃r,step s j x=some (.inr r)/\A0 r)->
  (∃s',gY step l (pre.length:Int) s=some (.inl s')/\Inv (pre.length+l.length) s')\/∃r,gY step l (pre.length:Int) s=some (.inr r)/\A0 r
 |[],pre,s,h,_=>.inl ⟨s,rfl,h⟩
 |x::l,pre,s,h,hs=>by
  rcases hs pre.length x s (by simp) h with⟨s',e,hi⟩|⟨r,e,hb⟩
  ·have:=sQ Inv A0 l (pre++[x]) s' (by simpa using hi) (by simpa using hs);simp only[List.length_append,List.length_cons,List.length_nil,Nat.zero_add]at this;rw[gY,e,Option.bind_some];dsimp only;rw[List.length_cons,show pre.length+(l.length+1)=pre.length+1+l.length by omega];exact this
  ·exact .inr ⟨r,by rw[gY,e];rfl,hb⟩
theorem cP {α σ ρ:Type}{step:σ->Int->α->Option (σ⊕ρ)}{l:List α}{s0:σ}(Inv:Nat->σ->Prop)(A0:ρ->Prop)(hl:l.length<=4611686018427387904)(h0:Inv 0 s0)
  (h:∀(j:Nat) x s,l[j]?=some x->Inv j s->(∃s',step s j x=some (.inl s')/\Inv (j+1) s')\/∃r,step s j x=some (.inr r)/\A0 r):
  (∃s',bh step l s0=some (.inl s')/\Inv l.length s')\/∃r,bh step l s0=some (.inr r)/\A0 r:=by
 rw[bh,if_pos (decide_eq_true hl)];have:=sQ Inv A0 l [] s0 h0 (by simpa using h);simpa using this
theorem j5 (n:Int):∀(a b:List au)(p:aQ),fZ n p (a++b)=(fZ n p a).bind λq=>fZ n q b
 |[],b,p=>rfl
 |x::a,b,p=>by
  rw[List.cons_append,fZ,fZ];split
  ·split
   ·exact j5 n a b _
   ·rfl
  ·exact j5 n a b _
theorem zf (n:Int):∀(l:List au)(p:aQ),(∀x∈l,x.order≠n)->fZ n p l=some p
 |[],p,_=>rfl
 |x::l,p,h=>by rw[fZ,if_neg (h x List.mem_cons_self)];exact zf n l p λy hy=>h y (List.mem_cons_of_mem _ hy)
structure kU (pre:List au)(s:List (Int×aQ)):Prop where
 keys:jl s
 rP:∀x∈pre,eH x=true
 has:∀n,(ck s n=none/\∀x∈pre,x.order≠n)\/∃p,ck s n=some p/\f_ pre n=some p/\∃x∈pre,x.order=n
theorem kU.zg {pre s}(h:kU pre s)(n:Int):f_ pre n=some ((ck s n).getD ⟨n,0,0,0⟩):=by
 rcases h.has n with⟨h1,h2⟩|⟨p,h1,h2,-⟩
 ·rw[h1];exact zf n pre _ h2
 ·rw[h1];exact h2
theorem kU.cnt {pre s}(h:kU pre s)(n:Int):IW ((ck s n).getD ⟨n,0,0,0⟩)/\((ck s n).getD ⟨n,0,0,0⟩).order=n:=
 qt n h.rP (by unfold IW;simp) (h.zg n)
theorem kU.step {pre s}(h:kU pre s){x:au}(hx:eH x=true)(hb:wg (dV ((ck s x.order).getD ⟨x.order,0,0,0⟩) x)=true):kU (pre++[x]) (iI s x.order (dV ((ck s x.order).getD ⟨x.order,0,0,0⟩) x)):=by
 refine⟨(vb s _ _ h.keys).1, ?_,λn=> ?_⟩
 ·intro y hy;rcases List.mem_append.1 hy with hy|hy
  ·exact h.rP y hy
  ·rw[List.mem_singleton]at hy;subst hy;exact hx
 ·rw[va];by_cases hn:n=x.order
  ·rw[if_pos hn];refine .inr ⟨_,rfl, ?_,x,by simp,hn.symm⟩;subst hn;rw[f_,j5,show fZ x.order _ pre=_ from h.zg x.order,Option.bind_some,fZ,if_pos rfl,if_pos hb];rfl
  ·rw[if_neg hn];rcases h.has n with⟨h1,h2⟩|⟨p,h1,h2,y,hy,hyn⟩
   ·refine .inl ⟨h1,λy hy=> ?_⟩;rcases List.mem_append.1 hy with hy|hy
    ·exact h2 y hy
    ·rw[List.mem_singleton]at hy;subst hy;exactλe=>hn e.symm
   ·refine .inr ⟨p,h1, ?_,y,List.mem_append_left _ hy,hyn⟩;rw[f_,j5,show fZ n _ pre=_ from h2,Option.bind_some,fZ,if_neg (λe=>hn e.symm)];rfl
theorem kU.bad {b:aF}{pre post s}(h:kU pre s){x:au}(hp:b.ak=pre++x::post)(hb:¬wg (dV ((ck s x.order).getD ⟨x.order,0,0,0⟩) x)=true):¬bO b:=by
 intro ho;have h1:=ho.rest x (by rw[hp];simp);rw[hp,f_,j5,show fZ x.order _ pre=_ from h.zg x.order,Option.bind_some,fZ,if_pos rfl,if_neg hb]at h1;cases h1
theorem Nf {α:Type}{l:List α}{j:Nat}{x:α}(h:l[j]?=some x):l=l.take j++x::l.drop (j+1):=by
 obtain⟨h1,rfl⟩:=List.getElem?_eq_some_iff.1 h;rw[<-List.drop_eq_getElem_cons h1,List.take_append_drop]
theorem take_one {α:Type}{l:List α}{j:Nat}{x:α}(h:l[j]?=some x):l.take (j+1)=l.take j++[x]:=by
 rw[List.take_add_one,h];rfl
theorem J0 (x:aQ):(!(!((x.order==x.order)&&((x.bC==0)&&((x.aT==0)&&((x.aX==0)&&true))))))=jt x:=by
 rw[Bool.eq_iff_iff];unfold jt;simp
theorem Q5 (x:aQ)(h:1<=x.order):(!((0==x.order)&&((0==x.bC)&&((0==x.aT)&&((0==x.aX)&&true)))))=true:=by
 have:(0==x.order)=false:=by simp;omega
 rw[this];rfl
end Go.Proofs.aaa
end
section
namespace Go.Proofs.aaa
open Go.bA Go.IntWalk
theorem nw {σ ρ β:Type}{o:Option (σ⊕ρ)}{K:σ⊕ρ->Option β}{I:σ->Prop}{A0:ρ->Prop}{v:Option β}(h:(∃s,o=some (.inl s)/\I s)\/∃r,o=some (.inr r)/\A0 r)(h1:∀s,I s->K (.inl s)=v)(h2:∀r,A0 r->K (.inr r)=v):o.bind K=v:=by
 rcases h with⟨s,rfl,hi⟩|⟨r,rfl,hb⟩
 ·exact h1 s hi
 ·exact h2 r hb
theorem vg {σ ρ:Type}{o:Option (σ⊕ρ)}{I:σ->Prop}{A0:ρ->Prop}(c:Prop) [Decidable c](s1:σ)(r:ρ)(e:o=some (if c then .inl s1 else .inr r))(h1:c->I s1)(h2:¬c->A0 r):(∃s,o=some (.inl s)/\I s)\/∃r,o=some (.inr r)/\A0 r:=by
 by_cases h:c
 ·exact .inl ⟨s1,by rw[e,if_pos h],h1 h⟩
 ·exact .inr ⟨r,by rw[e,if_neg h],h2 h⟩
theorem xG {l:List aQ}{j:Nat}{x:aQ}(hr:bU aQ.order (l.take j))(h:∀y,0<j->l[j -1]?=some y->y.order<x.order)(hj:j<=l.length):∀p∈l.take j,p.order<x.order:=by
 intro p hp;by_cases h0:j=0
 ·subst h0;simp at hp
 ·have hy:l[j -1]?=some (l[j -1]'(by omega)):=List.getElem?_eq_getElem (by omega)
  have e:=take_one hy;rw[show j -1+1=j by omega]at e;have hlt:=h _ (by omega) hy;rw[e]at hp hr;rcases List.mem_append.1 hp with hp|hp
  ·have:=(List.pairwise_append.1 hr).2.2 p hp _ (List.mem_singleton.2 rfl);omega
  ·rw[List.mem_singleton]at hp;rw[hp];exact hlt
theorem vh (b:aF)(h1:b.aK.length<=4611686018427387904)(h2:b.ak.length<=4611686018427387904):Jc b=some (ve b):=by
 unfold Jc;simp only[ai,fK,decide_eq_true_eq];by_cases l1:(b.aK.length:Int)>1024
 ·rw[if_pos l1,iO (λh=>by have:=h.qo;omega)]
 rw[if_neg l1];by_cases l2:(b.ak.length:Int)>16384
 ·rw[if_pos l2,iO (λh=>by have:=h.rK;omega)]
 rw[if_neg l2];refine nw (cP (λj s=>kU (b.ak.take j) s) (λ_=>¬bO b) h2 ⟨by simp[jl],by simp,λn=>.inl ⟨rfl,by simp⟩⟩ ?_) (λs0 hs0=> ?_) (λ_ hb=>by rw[iO hb])
 ·intro j x s hx hi;refine vg (eH x=true/\wg (dV ((ck s x.order).getD ⟨x.order,0,0,0⟩) x)=true) (iI s x.order (dV ((ck s x.order).getD ⟨x.order,0,0,0⟩) x)) () ?_ (λh=>by rw[take_one hx];exact hi.step h.1 h.2) (λh hb=> ?_)
  ·have hx':=dH (x:=x);simp only[nW,ze,JZ,Option.bind_some]
   cases hp:eH x with
   |true=>
    have:=hx'.1 hp;rw[if_neg (by simp;omega),if_neg (by simp;omega),if_neg (by simp;omega),if_neg (by simp;omega)];refine(if_neg (by simp;omega)).trans ?_;have hc:=hi.cnt x.order
    cases hl:ck s x.order with
    |none=>
     simp only[ou,Option.getD_none];rw[zb _ _ (by unfold IW;simp) hp,Option.bind_some];cases wg (dV ⟨x.order,0,0,0⟩ x)<;>simp
    |some v=>
     rw[hl]at hc;simp only[Option.getD_some]at hc;have hv:(⟨x.order,v.bC,v.aT,v.aX⟩:aQ)=v:=by rw[<-hc.2]
     simp only[ou,Option.getD_some,hv];rw[zb _ _ hc.1 hp,Option.bind_some];cases wg (dV v x)<;>simp
   |false=>
    simp only[Bool.false_eq_true,false_and,if_false];have hn:¬_:=λh=>by have:=hx'.2 h;rw[hp]at this;cases this
    repeat' (refine mg (λ_=> ?_) (λ_=> ?_))
    all_goals first
     |rfl
     |(exfalso;apply hn;simp at*;omega)
  ·by_cases hp:eH x=true
   ·exact hi.bad (Nf hx) (λh'=>h ⟨hp,h'⟩) hb
   ·exact hp (hb.i_ x (List.mem_of_getElem? hx))
 dsimp only;rw[List.take_length]at hs0;refine nw (cP (λj s=>(∀(k:Nat) p,k<j->b.aK[k]?=some p->wN b k p=true)/\bU aQ.order (b.aK.take j)/\jl s/\∀n,ck s n=if n∈(b.aK.take j).map aQ.order then none else ck s0 n) (λ_=>¬bO b) h1 ⟨by intro k p hk;omega,by simp,hs0.keys,by simp⟩ ?_) (λs1 Um=> ?_) (λ_ hb=>by rw[iO hb])
 ·rintro j x s hx ⟨i1,i2,i3,i4⟩;have hjl:=(List.getElem?_eq_some_iff.1 hx).1;have hlt:wN b j x=true->∀p∈b.aK.take j,p.order<x.order:=λhp=>by
   refine xG i2 (λy h0 hy=> ?_) (by omega);unfold wN at hp;rw[Bool.and_eq_true]at hp;have:=hp.2;rw[decide_eq_false (by omega),show((j:Int) -1).toNat=j -1 by omega,hy]at this;simpa using this
  refine vg (wN b j x=true) (kg s x.order) () ?_ (λhp=>⟨?_, ?_,(AX _ _ i3).1,λn=> ?_⟩) (λh hb=> ?_)
  ·have hj:(j:Int)<=4611686018427387904:=by omega
   have tl:(∀p∈b.aK.take j,p.order<x.order)->1<=x.order->jt x=false->(if x.bC<0 then(some (.inr ()):Option (List (Int×aQ)⊕Unit))else if x.aX>x.aT then some (.inr ())else
     ou (ck s x.order) (λIN=>if(!((IN.order==x.order)&&((IN.bC==x.bC)&&((IN.aT==x.aT)&&((IN.aX==x.aX)&&true)))))=true then some (.inr ())else some (.inl (kg s x.order)))
      (if(!((0==x.order)&&((0==x.bC)&&((0==x.aT)&&((0==x.aX)&&true)))))=true then some (.inr ())else some (.inl (kg s x.order))))
     =some (if(0<=x.bC/\x.aX<=x.aT/\f_ b.ak x.order=some x)then .inl (kg s x.order)else .inr ()):=by
    intro hlt hx1 Sk;have hs:=hs0.zg x.order;have e4:=i4 x.order;rw[if_neg (λh=>by obtain⟨p,hp,he⟩:=List.mem_map.1 h;have:=hlt p hp;omega)]at e4;rw[e4,hs]
    cases hl:ck s0 x.order with
    |none=>
     simp only[ou,Q5 x hx1,Option.getD_none,Option.some.injEq,if_true];have:¬(⟨x.order,0,0,0⟩:aQ)=x:=λh=>by rw[<-h]at Sk;simp[jt]at Sk
     simp only[this,and_false,if_false]
     repeat' (refine mg (λ_=> ?_) (λ_=> ?_))
     all_goals rfl
    |some v=>
     simp only[ou,Option.getD_some,CF,Option.some.injEq];by_cases hp:v=x
     ·simp only[hp,and_true];by_cases h5:0<=x.bC/\x.aX<=x.aT
      ·rw[if_pos h5,if_neg (by omega),if_neg (by omega)];simp
      ·rw[if_neg h5]
       repeat' (refine mg (λ_=> ?_) (λ_=> ?_))
       all_goals first|rfl|(exfalso;omega)
     ·simp only[hp,and_false,if_false]
      repeat' (refine mg (λ_=> ?_) (λ_=> ?_))
      all_goals first|rfl|(exfalso;simp at*;done)
   simp only[nW,J0,Option.bind_some];have yT:∀y,0<j->b.aK[j -1]?=some y->¬y.order>=x.order->∀p∈b.aK.take j,p.order<x.order:=λy h0 hy h=>xG i2 (λz _ hz=>by rw[hy]at hz;cases hz;omega) (by omega);unfold wN;by_cases c1:1<=x.order/\x.order<=1024
   ·rw[if_neg (by simp;omega)]
    cases c2:jt x with
    |true=>simp
    |false=>
     rw[if_neg (by simp)];by_cases hj0:0<(j:Int)
     ·rw[if_pos (by omega)];obtain⟨y,⟨hy,ha⟩|JS⟩:=AP (j:=(j:Int)) (by omega) (by rw[Int.toNat_natCast];exact hx) hj0
      ·rw[ha,hy,Option.bind_some];by_cases c3:y.order>=x.order
       ·rw[if_pos c3,if_neg (by simp;omega)]
       ·rw[if_neg c3,tl (yT y (by omega) (by rw[show((j:Int) -1).toNat=j -1 by omega]at hy;exact hy) c3) c1.1 c2];by_cases c4:0<=x.bC/\x.aX<=x.aT/\f_ b.ak x.order=some x
        ·rw[if_pos c4,if_pos (by rw[decide_eq_true ⟨c1.1,c1.2,(by first|rfl|trivial),c4⟩];simp only[Bool.true_and,Bool.or_eq_true,decide_eq_true_eq];right;omega)]
        ·rw[if_neg c4,if_neg (by rw[decide_eq_false (λh=>c4 h.2.2.2)];simp)]
      ·omega
     ·have hz:j=0:=by omega
      rw[if_neg (by omega),tl (by subst hz;simp) c1.1 c2];by_cases c4:0<=x.bC/\x.aX<=x.aT/\f_ b.ak x.order=some x
      ·rw[if_pos c4,if_pos (by rw[decide_eq_true ⟨c1.1,c1.2,(by first|rfl|trivial),c4⟩,decide_eq_true (by omega:(j:Int)<=0)];simp)]
      ·rw[if_neg c4,if_neg (by rw[decide_eq_false (λh=>c4 h.2.2.2)];simp)]
   ·rw[if_pos (by simp;omega),if_neg (by rw[decide_eq_false (λh=>c1 ⟨h.1,h.2.1⟩)];simp)]
  ·intro k p hk BW;by_cases hkj:k=j
   ·subst hkj;rw[hx]at BW;cases BW;exact hp
   ·exact i1 k p (by omega) BW
  ·rw[take_one hx];refine List.pairwise_append.2 ⟨i2,List.pairwise_singleton _ _,λp BW y hy=> ?_⟩;rw[List.mem_singleton]at hy;subst hy;exact hlt hp p BW
  ·rw[AW _ _ _ i3,i4,take_one hx,List.map_append];by_cases hn:n=x.order
   ·rw[if_pos hn,if_pos (by simp[hn])]
   ·rw[if_neg hn];have:n∈(b.aK.take j).map aQ.order++[x].map aQ.order↔n∈(b.aK.take j).map aQ.order:=by simp[hn]
    by_cases h3:n∈(b.aK.take j).map aQ.order
    ·rw[if_pos h3,if_pos (this.2 h3)]
    ·rw[if_neg h3,if_neg (λh=>h3 (this.1 h))]
  ·have:=jY.1 (AZ.2 ⟨hb.rising,hb.aK⟩) j x hx;rw[Int.zero_add]at this;exact h this
 obtain⟨i1,-,i3,i4⟩:=Um;rw[List.take_length]at i4;dsimp only;have hP:=AZ.1 (jY.2 (λj x hx=>by rw[Int.zero_add];exact i1 j x (List.getElem?_eq_some_iff.1 hx).1 hx):allI (wN b) b.aK 0=true);rw[AY (λn v=>decide (v=⟨n,0,0,0⟩)) () s1 (λn v _=> ?_),Option.bind_some]
 ·have hR:(s1.all λq=>decide (q.2=⟨q.1,0,0,0⟩))=true↔∀x∈b.ak,f_ b.ak x.order=some (aG b x.order):=by
   rw[List.all_eq_true];have hin:∀n,n∈b.aK.map aQ.order↔∃p,bq aQ.order b.aK n=some p:=λn=>by
    constructor
    ·intro h;obtain⟨p,hp,he⟩:=List.mem_map.1 h
     cases hf:bq aQ.order b.aK n with
     |none=>rw[bq,List.find?_eq_none]at hf;have:=hf p hp;simp[he]at this
     |some q=>exact⟨q,rfl⟩
    ·rintro⟨p,hp⟩;exact List.mem_map.2 ⟨p,List.mem_of_find?_eq_some hp,by simpa using List.find?_some hp⟩
   constructor
   ·intro h x hx;rw[hs0.zg x.order];rcases hs0.has x.order with⟨-,hno⟩|⟨p,hp,V4,hex⟩
    ·exact absurd rfl (hno x hx)
    ·rw[hp,Option.getD_some];unfold aG
     cases hf:bq aQ.order b.aK x.order with
     |some q=>
      have hq:=hP.2 q (List.mem_of_find?_eq_some hf);have ho:q.order=x.order:=by simpa using List.find?_some hf
      have:=hq.2.2.2.2.2;rw[ho,V4]at this;simpa using this
     |none=>
      have e:=i4 x.order;rw[if_neg (λhm=>by obtain⟨q,hq⟩:=(hin _).1 hm;rw[hf]at hq;cases hq),hp]at e;have:=h _ (AT e);simpa using this
   ·rintro h ⟨n,v⟩ hq;have e:=AU i3 hq;have e2:=i4 n;rw[e]at e2;split at e2
    ·cases e2
    ·rename_i hno;rcases hs0.has n with⟨hn,-⟩|⟨p,hp,V4,hex⟩
     ·rw[hn]at e2;cases e2
     ·rw[hp]at e2;cases e2;obtain⟨x,hx,rfl⟩:=hex;have:=h x hx;rw[V4]at this;unfold aG at this
      cases hf:bq aQ.order b.aK x.order with
      |some q=>exact absurd ((hin _).2 ⟨q,hf⟩) hno
      |none=>rw[hf]at this;simpa using this
  by_cases hr:∀x∈b.ak,f_ b.ak x.order=some (aG b x.order)
  ·rw[if_pos (hR.2 hr),jH ⟨by omega,by omega,hs0.rP,hP.1,hP.2,hr⟩]
  ·rw[if_neg (λh=>hr (hR.1 h)),iO (λh=>hr h.rest)]
 ·have e:((v.order==n)&&((v.bC==0)&&((v.aT==0)&&((v.aX==0)&&true))))=decide (v=⟨n,0,0,0⟩):=CF v ⟨n,0,0,0⟩;rw[e];by_cases hv:v=⟨n,0,0,0⟩<;>simp[hv]
end Go.Proofs.aaa
end
