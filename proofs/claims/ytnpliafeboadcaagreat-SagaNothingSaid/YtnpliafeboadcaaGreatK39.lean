/- Texts that the law leans on, part 39. No conditions. -/
import Derived.Test.YtnpliafeboadcaaGreatK20
import Derived.Test.YtnpliafeboadcaaGreatK22
import Derived.Test.YtnpliafeboadcaaGreatK38
section
namespace Go.Proofs.aaa
open Go.bA Go.IntWalk
theorem mw (l:List Order)(n:Int)(hl:l.length<=1000000000000)(hr:bU Order.id l):uD l n=some (((eO Order.id l n:Nat):Int),(bq Order.id l n).isSome):=by
 unfold uD Gu;rw[if_pos (decide_eq_true ⟨hl,hr⟩)];rfl
theorem Nn (s:State)(ho:s.aa.length<=1000000000000)(hr:bU Order.id s.aa)(hs:s.aj.length<=4611686018427387904):O9 s=some (hU s):=by
 unfold O9;refine nw (cP (λj (m:List (Int×Int))=>(∀x∈s.aj.take j,vu s.aa x=true)/\jl m/\∀n,ck m n=if eX (s.aj.take j) n=0 then none else some ((eX (s.aj.take j) n:Nat):Int)) (λ_=>hU s=false) hs ⟨by simp,by simp[jl],by intro n;simp[ck]⟩ ?_) (λm hm=> ?_) (λ_ hb=>by rw[hb])
 ·rintro j x m hx ⟨i1,i2,i3⟩;refine vg (vu s.aa x=true) (iI m x.order ((eX (s.aj.take j) x.order:Nat)+1)) () ?_ (λhB=>⟨λy hy=> ?_,(vb m _ _ i2).1,λn=> ?_⟩) (λh=> ?_)
  ·have hle:eX (s.aj.take j) x.order<=4611686018427387904:=Nat.le_trans List.countP_le_length (by rw[List.length_take];omega);have tail:(ou (ck m x.order) (λOa=>some (.inl (iI m x.order (aH .add .i64 Oa 1)))) (some (.inl (iI m x.order 1))):Option (List (Int×Int)⊕Unit))=some (.inl (iI m x.order ((eX (s.aj.take j) x.order:Nat)+1))):=by
    rw[i3 x.order];by_cases h0:eX (s.aj.take j) x.order=0
    ·rw[if_pos h0,h0];rfl
    ·rw[if_neg h0];simp only[ou];rw[vj (by omega) (by omega)]
   simp only[hnext,mw _ _ ho hr,DI,Option.bind_some,ai,bne_iff_ne,vu,tail];by_cases h1:cF x.kind x.pos x.aO=0
   ·by_cases h2:dc x.kind x.pos x.aO=true
    ·obtain⟨q,h3⟩:∃q,bq Order.id s.aa x.order=q:=⟨_,rfl⟩;simp only[h3]
     cases q with
     |none=>simp[h1,h2]
     |some o=>
      have hg:=fj Order.id hr h3;rw[cT (x:=o) (by omega) (by rw[Int.toNat_natCast];exact hg)];by_cases h4:gI o.status=x.kind<;>simp[h1,h2,h4]
    ·simp[h1,h2]
   ·simp[h1]
  ·rw[take_one hx]at hy;rcases List.mem_append.1 hy with hy|hy
   ·exact i1 y hy
   ·rw[List.mem_singleton]at hy;subst hy;exact hB
  ·rw[va,take_one hx,i3];have e:eX (s.aj.take j++[x]) n=eX (s.aj.take j) n+if x.order=n then 1 else 0:=by
    rw[eX,List.countP_append,List.countP_singleton];simp
   rw[e];by_cases hn:n=x.order
   ·subst hn;simp
   ·rw[if_neg hn,if_neg (show¬x.order=n fromλh=>hn h.symm),Nat.add_zero]
  ·unfold hU;rw[Bool.and_eq_false_iff];left;rw[<-Bool.not_eq_true,List.all_eq_true];exactλh'=>h (h' x (List.mem_of_getElem? hx))
 ·obtain⟨i1,i2,i3⟩:=hm;rw[List.take_length]at i1 i3;dsimp only;have e:hU s=s.aa.all λo=>mu s.aj o:=by
   unfold hU;rw[List.all_eq_true.2 i1,Bool.true_and]
  rw[e,pz (λ_ x=>mu s.aj x) () (by omega),Option.bind_some,HE]
  ·cases s.aa.all λx=>mu s.aj x<;>rfl
  ·intro j x _ _;rw[DI,Option.bind_some,i3 x.id];unfold mu;by_cases h0:eX s.aj x.id=0
   ·rw[if_pos h0];by_cases hk:gI x.status=0<;>simp[ou,ai,hk,h0]
   ·rw[if_neg h0];simp only[ou,ai];by_cases h1:eX s.aj x.id=1
    ·by_cases hk:gI x.status=0<;>simp[hk,h1]
    ·have h2:((eX s.aj x.id:Nat):Int)>1:=by omega
     have h3:((eX s.aj x.id:Nat):Int)≠1:=by omega
     by_cases hk:gI x.status=0
     ·have:decide (((eX s.aj x.id:Nat):Int)>1)=true:=decide_eq_true h2;simp[hk,h3,h0,this]
     ·simp[hk,h1];intro _;omega
structure Typed (s:State):Prop where
 cells:s.cells.length<=4611686018427387904
 aK:s.af.aK.length<=4611686018427387904
 i_:s.af.ak.length<=4611686018427387904
 aA:s.aA.length<=4611686018427387904
 aa:s.aa.length<=4611686018427387904
 lines:∀x∈s.aa,x.lines.length<=4611686018427387904
 aj:s.aj.length<=4611686018427387904
 kept:s.kept.length<=4611686018427387904
 eP:∀x∈s.aA,0<=x.state
 aad:∀x∈s.aa,0<=x.status
structure bY (s:State):Prop where
 limit:0<=s.limit/\s.limit<=1024
 wO:(s.aa.length:Int)<=s.limit
 kept:kV s.kept=true
 cells:b7 s.cells=true
 af:bO s.af
 aA:fR 0 s.aA=true
 aa:jc s.aa=true
 aj:hU s=true
open Classical in
noncomputable def kW (s:State):Int:=if bY s then 0 else 9
theorem lI {s:State}(h:bY s):kW s=0:=by unfold kW;rw[if_pos h]
theorem dX {s:State}(h:¬bY s):kW s=9:=by unfold kW;rw[if_neg h]
theorem zj (s:State)(t:Typed s):K2 s=some (kW s):=by
 unfold K2;rw[fK];by_cases c1:s.limit<0
 ·rw[if_pos (by simpa[ai]using c1),dX (λh=>by have:=h.limit;omega)]
 rw[if_neg (by simpa[ai]using c1)];by_cases c2:s.limit>1024
 ·rw[if_pos (by simpa[ai]using c2),dX (λh=>by have:=h.limit;omega)]
 rw[if_neg (by simpa[ai]using c2)];by_cases c3:(s.aa.length:Int)>s.limit
 ·rw[if_pos (by simpa[ai]using c3),dX (λh=>by have:=h.wO;omega)]
 rw[if_neg (by simpa[ai]using c3),Nl _ t.kept,Option.bind_some];by_cases c4:kV s.kept=true
 case neg=>rw[if_pos (by rw[Bool.not_eq_true'];simpa only[Bool.not_eq_true]using c4),dX (λh=>c4 h.kept)]
 rw[if_neg (by simp only[c4];decide),Hu _ t.cells,Option.bind_some];by_cases c5:b7 s.cells=true
 case neg=>rw[if_pos (by simp[ai,pE,c5]),dX (λh=>c5 h.cells)]
 rw[if_neg (by simp[ai,pE,c5]),vh _ t.aK t.i_,Option.bind_some];by_cases c6:bO s.af
 case neg=>rw[iO c6,if_pos (by rfl),dX (λh=>c6 h.af)]
 rw[jH c6,if_neg (by decide),Ng _ t.aA,Option.bind_some];by_cases c7:fR 0 s.aA=true
 case neg=>rw[if_pos (by simp[ai,Nh,c7]),dX (λh=>c7 h.aA)]
 rw[if_neg (by simp[ai,Nh,c7]),Nk _ t.aa t.lines,Option.bind_some];by_cases c8:jc s.aa=true
 case neg=>rw[if_pos (by rw[Bool.not_eq_true'];simpa only[Bool.not_eq_true]using c8),dX (λh=>c8 h.aa)]
 rw[if_neg (by simp only[c8];decide),Nn _ (by omega) (bR.1 c8).1 t.aj,Option.bind_some];by_cases c9:hU s=true
 ·rw[if_neg (by simp only[c9];decide),lI ⟨by omega,by omega,c4,c5,c6,c7,c8,c9⟩]
 ·rw[if_pos (by rw[Bool.not_eq_true'];simpa only[Bool.not_eq_true]using c9),dX (λh=>c9 h.aj)]
end Go.Proofs.aaa
end
section
namespace Go.Proofs.aaa
open Go.bA Go.IntWalk
structure bX (s:State):Prop where
 cells:s.cells.length*48<=140737488355328
 aK:s.af.aK.length*32<=140737488355328
 i_:s.af.ak.length*24<=140737488355328
 aA:s.aA.length*16<=140737488355328
 aa:s.aa.length*48<=140737488355328
 lines:∀x∈s.aa,x.lines.length*32<=140737488355328
 aj:s.aj.length*32<=140737488355328
 kept:s.kept.length*40<=140737488355328
 eP:∀x∈s.aA,0<=x.state
 aad:∀x∈s.aa,0<=x.status
theorem bX.typed {s:State}(h:bX s):Typed s where
 cells:=by have:=h.cells;omega
 aK:=by have:=h.aK;omega
 i_:=by have:=h.i_;omega
 aA:=by have:=h.aA;omega
 aa:=by have:=h.aa;omega
 lines:=λx hx=>by have:=h.lines x hx;omega
 aj:=by have:=h.aj;omega
 kept:=by have:=h.kept;omega
 eP:=h.eP
 aad:=h.aad
theorem Lz {n:Int}(h:(Lit.int .u8 n).wf=true):0<=n/\n<=255:=by
 simp only[Lit.wf,Bool.and_eq_true,decide_eq_true_eq]at h;have h1:IntKind.u8.min=0:=rfl;have h2:IntKind.u8.max=255:=rfl;rw[h1,h2]at h;exact h
theorem No (b:aF)(h1:b.aK.length*32<=140737488355328)(h2:b.ak.length*24<=140737488355328):Qt b=some b:=by
 unfold Qt;simp only[List.nil_append];rw[if_pos (decide_eq_true h1),if_pos (decide_eq_true h2)]
theorem Np (s:State)(h:bX s):M0 s=some s:=by
 unfold M0;simp only[List.nil_append];rw[if_pos (decide_eq_true h.cells),No _ h.aK h.i_,Option.bind_some,if_pos (decide_eq_true h.aA)];refine nw (cP (λj (o:List Order)=>o=s.aa.take j) (λ_=>False) h.typed.aa rfl ?_) (λo ho=> ?_) (λ_ hb=>hb.elim)
 ·intro j x o hx ho;have hj:=(List.getElem?_eq_some_iff.1 hx).1;have hc:=h.aa;refine .inl ⟨o++[x], ?_,by rw[ho,take_one hx]⟩;rw[if_pos (decide_eq_true (h.lines x (List.mem_of_getElem? hx))),if_pos (decide_eq_true (by rw[ho,List.length_append,List.length_take];simp;omega))]
 ·rw[List.take_length]at ho;subst ho;dsimp only;rw[if_pos (decide_eq_true h.aj),if_pos (decide_eq_true h.kept)]
end Go.Proofs.aaa
end
section
namespace Go.Proofs.aaa
open Go.bA Go.IntWalk
theorem J8 (p q:aC):((p.order==q.order)&&((p.kind==q.kind)&&((p.pos==q.pos)&&((p.aO==q.aO)&&true))))=decide (p=q):=by
 rw[Bool.eq_iff_iff];obtain⟨a,b,c,d⟩:=p;obtain⟨a',b',c',d'⟩:=q;simp
theorem CK (p q:au):((p.order==q.order)&&((p.sJ==q.sJ)&&((p.dst==q.dst)&&((p.ax==q.ax)&&true))))=decide (p=q):=by
 rw[Bool.eq_iff_iff];obtain⟨a,b,c,d⟩:=p;obtain⟨a',b',c',d'⟩:=q;simp
theorem J9 (p q:aU):((p.item==q.item)&&((p.aE==q.aE)&&((p.gF==q.gF)&&((p.unit==q.unit)&&true))))=decide (p=q):=by
 rw[Bool.eq_iff_iff];obtain⟨a,b,c,d⟩:=p;obtain⟨a',b',c',d'⟩:=q;simp
theorem J_ (p q:ah):((p.order==q.order)&&((p.state==q.state)&&true))=decide (p=q):=by
 rw[Bool.eq_iff_iff];obtain⟨a,b⟩:=p;obtain⟨a',b'⟩:=q;simp
theorem jI {α β:Type} [DecidableEq α]{a b:List α}(hl:a.length=b.length)(ha:a.length<=4611686018427387904){e:α->α->Bool}(he:∀x y,e x y=decide (x=y)){K:Unit⊕Unit->Option β}:
  ((bh (λ(_:Unit)(i:Int)(x:α)=>(fH b i).bind λy=>if(!e x y)=true then some (.inr ())else some (.inl ())) a ():Option (Unit⊕Unit))).bind K=if a=b then K (.inl ())else K (.inr ()):=by
 rw[rO (a:=a) (b:=b) hl ha (λi x y _ _ _ h=>by rw[h,Option.bind_some,he];by_cases hxy:x=y<;>simp[hxy]),Option.bind_some];split<;>rfl
theorem Nq (a b:List ah)(ha:a.length<=4611686018427387904):O5 a b=some (decide (a=b)):=by
 unfold O5;rw[fK,fK];by_cases hl:a.length=b.length
 ·rw[if_neg (by simp[ai,hl]),jI hl ha J_];by_cases h:a=b<;>simp[h]
 ·rw[if_pos (by simp[ai];omega),decide_eq_false (λh=>hl (by rw[h]))]
theorem Nr (a b:List aU)(ha:a.length<=4611686018427387904):Qw a b=some (decide (a=b)):=by
 unfold Qw;rw[fK,fK];by_cases hl:a.length=b.length
 ·rw[if_neg (by simp[ai,hl]),jI hl ha J9];by_cases h:a=b<;>simp[h]
 ·rw[if_pos (by simp[ai];omega),decide_eq_false (λh=>hl (by rw[h]))]
theorem Ns (a b:aF)(h1:a.aK.length<=4611686018427387904)(h2:a.ak.length<=4611686018427387904):Qu a b=some (decide (a=b)):=by
 unfold Qu;rw[fK,fK,fK,fK];obtain⟨a1,a2⟩:=a;obtain⟨b1,b2⟩:=b;simp only at h1 h2⊢;by_cases hl:a1.length=b1.length
 ·rw[if_neg (by simp[ai,hl])];by_cases hm:a2.length=b2.length
  ·rw[if_neg (by simp[ai,hm]),jI hl h1 CF];by_cases h:a1=b1
   ·rw[if_pos h];dsimp only;rw[jI hm h2 CK];by_cases h':a2=b2<;>simp[h,h']
   ·rw[if_neg h];simp[h]
  ·rw[if_pos (by simp[ai];omega)];simp;intro _ h;exact hm (by rw[h])
 ·rw[if_pos (by simp[ai];omega)];simp;intro h;exact absurd (by rw[h]) hl
end Go.Proofs.aaa
end
section
namespace Go.Proofs.aaa
open Go.bA Go.IntWalk
theorem Nt (a b:ByteArray):(a==b)=decide (a=b):=by
 obtain⟨a⟩:=a;obtain⟨b⟩:=b;have e:((⟨a⟩:ByteArray)==⟨b⟩)=(a==b):=by first|rfl|(simp only[BEq.beq,instBEqByteArray.beq];done)|(cases h:(a==b)<;>simp_all)
 rw[e,Bool.eq_iff_iff,beq_iff_eq,decide_eq_true_eq,ByteArray.mk.injEq]
theorem Ka (p q:Kept):((p.mark==q.mark)&&(((p.cH.why==q.cH.why)&&((p.cH.status==q.cH.status)&&((p.cH.ax==q.cH.ax)&&true)))&&true))=decide (p=q):=by
 rw[Bool.eq_iff_iff];obtain⟨a,b,c,d⟩:=p;obtain⟨a',b',c',d'⟩:=q;simp[Nt]
theorem vw (a b:State)(h:bX a):sN a b=some (decide (a=b)):=by
 have t:=h.typed;unfold sN;rw[fK,fK,fK,fK,fK,fK];obtain⟨a0,a1,a2,a3,a4,a5,a6⟩:=a;obtain⟨b0,b1,b2,b3,b4,b5,b6⟩:=b;simp only[Nd _ _ t.cells,Ns _ _ t.aK t.i_,Nq _ _ t.aA,Option.bind_some];by_cases c0:a0=b0
 case neg=>rw[if_pos (by simpa[ai]using c0)];simp[c0]
 rw[if_neg (by simpa[ai]using c0)];by_cases c1:a1=b1
 case neg=>simp[c1]
 by_cases c2:a2=b2
 case neg=>simp[c1,c2]
 by_cases c3:a3=b3
 case neg=>simp[c1,c2,c3]
 rw[if_neg (by simp[c1]),if_neg (by simp[c2]),if_neg (by simp[c3])];by_cases l4:a4.length=b4.length
 case neg=>rw[if_pos (by simp[ai];omega)];simp;intro _ _ _ _ h;exact absurd (by rw[h]) l4
 rw[if_neg (by simp[ai,l4])];by_cases l5:a5.length=b5.length
 case neg=>rw[if_pos (by simp[ai];omega)];simp;intro _ _ _ _ _ h;exact absurd (by rw[h]) l5
 rw[if_neg (by simp[ai,l5])];by_cases l6:a6.length=b6.length
 case neg=>rw[if_pos (by simp[ai];omega)];simp;intro _ _ _ _ _ _ h;exact absurd (by rw[h]) l6
 rw[if_neg (by simp[ai,l6])];rw[rO (a:=a4) (b:=b4) l4 t.aa (λi x y _ hx _ hy=>by
  rw[hy,Option.bind_some];have hm:=t.lines x (List.mem_of_getElem? hx);simp only[ai,bne_iff_ne,Nr _ _ hm,Option.bind_some];obtain⟨p,q,r,u⟩:=x;obtain⟨p',q',r',u'⟩:=y;simp only[Order.mk.injEq];by_cases e1:p=p'
  case neg=>simp[e1]
  by_cases e2:q=q'
  case neg=>by_cases e3:r=r'<;>by_cases e4:u=u'<;>simp[e1,e2,e3,e4]
  by_cases e3:r=r'<;>by_cases e4:u=u'<;>simp[e1,e2,e3,e4]),Option.bind_some]
 by_cases c4:a4=b4
 case neg=>rw[if_neg c4];simp[c4]
 rw[if_pos c4];dsimp only;rw[jI l5 t.aj J8];by_cases c5:a5=b5
 case neg=>rw[if_neg c5];simp[c5]
 rw[if_pos c5];dsimp only;rw[jI l6 t.kept Ka];by_cases c6:a6=b6
 case neg=>rw[if_neg c6];simp[c6]
 rw[if_pos c6];simp[c0,c1,c2,c3,c4,c5,c6]
end Go.Proofs.aaa
end
section
namespace Go.Proofs.aaa
open Go.bA Go.IntWalk
theorem vz {α:Type}{l:List α}(p:α->Bool)(L:Nat)(hs:∀(a:Nat) x,l[a]?=some x->(p x=true↔a<L))(hl:l.length<=1000000000000)(cmp:α->Option Int)
  (hc:∀x∈l,∃q,cmp x=some q/\(q<0↔p x=true)) {body:Int×Int->Option ((Int×Int)⊕Int)}
  (hb:∀s,body s=if(ai .lss s.1 s.2)=true then
   (fH l (IntKind.i64.wrap (aH .shr .u64 (IntKind.u64.wrap (aH .add .i64 s.1 s.2)) 1))).bind λeu=>(cmp eu).bind λgO=>
   if(ai .lss gO 0)=true then some (.inl ((aH .add .i64 (IntKind.i64.wrap (aH .shr .u64 (IntKind.u64.wrap (aH .add .i64 s.1 s.2)) 1)) 1),s.2))
   else some (.inl (s.1,(IntKind.i64.wrap (aH .shr .u64 (IntKind.u64.wrap (aH .add .i64 s.1 s.2)) 1))))else some (.inr s.1)):
  ∀(k:Nat)(lo hi:Int),0<=lo->lo<=(L:Int)->(L:Int)<=hi->hi<=l.length->hi -lo<(2:Int)^k->iB body (k+1) (lo,hi)=some (L:Int)
 |k,lo,hi,h0,h1,h2,h3,h4=>by
  simp only[iB,hb];by_cases hlt:lo<hi
  ·have hh:=half lo hi h0 hlt (by omega);have hm:((lo+hi)/2).toNat<l.length:=by omega
   have hx:=List.getElem?_eq_getElem hm;obtain⟨q,hq,LX⟩:=hc _ (List.getElem_mem hm);have hsp:=hs _ _ hx;simp only[ai,hlt,decide_true,if_true,hh,cT (show 0<=(lo+hi)/2 by omega) hx,Option.bind,hq]
   cases k with
   |zero=>simp at h4;omega
   |succ k=>
    have V3:(2:Int)^(k+1)=2*2^k:=by rw[Int.pow_succ];omega
    by_cases JT:q<0
    ·have:=hsp.1 (LX.1 JT);simp only[JT,decide_true,if_true];rw[show aH .add .i64 ((lo+hi)/2) 1=(lo+hi)/2+1 by simp only[aH,wrap64];omega];exact vz p L hs hl cmp hc hb k _ _ (by omega) (by omega) h2 h3 (by omega)
    ·have:¬((lo+hi)/2).toNat<L:=λh=>JT (LX.2 (hsp.2 h));simp only[JT,decide_false,Bool.false_eq_true,if_false];exact vz p L hs hl cmp hc hb k _ _ h0 h1 (by omega) (by omega) (by omega)
  ·obtain rfl:lo=(L:Int):=by omega
   simp[ai,hlt]
abbrev vA (l:List Kept):Prop:=l.Pairwise λx y=>dA .lss x.mark y.mark=true
abbrev lJ (l:List Kept)(t:ByteArray):Nat:=l.countP λx=>dA .lss x.mark t
def h_ (l:List Kept)(t:ByteArray):Option Kept:=l.find? λx=>decide (x.mark=t)
theorem fL:∀{l:List Kept},vA l->∀(t:ByteArray)(a:Nat)(x:Kept),l[a]?=some x->(dA .lss x.mark t=true↔a<lJ l t)
 |[],_,t,a,x,h=>by simp at h
 |y::l,hr,t,a,x,h=>by
  obtain⟨h1,h2⟩:=List.pairwise_cons.1 hr;by_cases hy:dA .lss y.mark t=true
  ·have e:lJ (y::l) t=lJ l t+1:=List.countP_cons_of_pos hy;rw[e]
   cases a with
   |zero=>cases h;simp[hy]
   |succ a=>rw[fL h2 t a x (by simpa using h)];omega
  ·have e:lJ (y::l) t=0:=by
    rw[lJ,List.countP_eq_zero];intro z hz X5;rcases List.mem_cons.1 hz with rfl|hz
    ·exact hy X5
    ·exact hy (vt _ _ _ (h1 z hz) X5)
   rw[e];constructor
   ·intro hx;have Oy:=List.mem_of_getElem? h;rcases List.mem_cons.1 Oy with rfl|hz
    ·exact absurd hx hy
    ·exact absurd (vt _ _ _ (h1 x hz) hx) hy
   ·intro h;omega
theorem zk (a:ByteArray):¬dA .lss a a=true:=by
 rcases lH a a with⟨h,-,h2,-⟩|⟨-,-,h,-⟩|⟨h,-,h2,-⟩
 ·exact absurd rfl h2
 ·rw[h];decide
 ·exact absurd rfl h2
theorem DJ {l:List Kept}(hr:vA l)(t:ByteArray):(∀x,l[lJ l t]?=some x->x.mark=t->h_ l t=some x)/\(∀x,h_ l t=some x->l[lJ l t]?=some x/\x.mark=t):=by
 have inj:∀{a b:Nat}{x y:Kept},l[a]?=some x->l[b]?=some y->x.mark=y.mark->a=b:=λ{a b x y} ha hb h=>by
  have h1:=fL hr y.mark a x ha;have h2:=fL hr y.mark b y hb;have h3:=fL hr x.mark b y hb;have h4:=fL hr x.mark a x ha;rcases Nat.lt_trichotomy a b with hab|hab|hab
  ·obtain⟨la,rfl⟩:=List.getElem?_eq_some_iff.1 ha;obtain⟨lb,rfl⟩:=List.getElem?_eq_some_iff.1 hb;have:=List.pairwise_iff_getElem.1 hr a b la lb hab;rw[h]at this;exact absurd this (zk _)
  ·exact hab
  ·obtain⟨la,rfl⟩:=List.getElem?_eq_some_iff.1 ha;obtain⟨lb,rfl⟩:=List.getElem?_eq_some_iff.1 hb;have:=List.pairwise_iff_getElem.1 hr b a lb la hab;rw[h]at this;exact absurd this (zk _)
 have DK:∀x,h_ l t=some x->l[lJ l t]?=some x/\x.mark=t:=λx hx=>by
  have hm:=List.mem_of_find?_eq_some hx;have ht:x.mark=t:=by simpa using List.find?_some hx
  obtain⟨a,ha⟩:=List.mem_iff_getElem?.1 hm;have hsp:=fL hr t a x ha;have h1:¬a<lJ l t:=λh=>by have:=hsp.2 h;rw[ht]at this;exact zk _ this
  by_cases h2:a=lJ l t
  ·rw[<-h2];exact⟨ha,ht⟩
  ·have hlt:lJ l t<a:=by omega
   have hla:=(List.getElem?_eq_some_iff.1 ha).1;have hy:=List.getElem?_eq_getElem (show lJ l t<l.length by omega);have h3:=(fL hr t _ _ hy);have h4:=List.pairwise_iff_getElem.1 hr (lJ l t) a (by omega) hla hlt;have h5:l[a]=x:=(List.getElem?_eq_some_iff.1 ha).2;rw[h5,ht]at h4;exact absurd (h3.1 h4) (Nat.lt_irrefl _)
 refine⟨λx hx ht=> ?_,DK⟩
 cases hf:h_ l t with
 |some y=>have:=(DK y hf).1;rw[hx]at this;exact this.symm
 |none=>
  unfold h_ at hf;rw[List.find?_eq_none]at hf;have:=hf x (List.mem_of_getElem? hx);simp[ht]at this
end Go.Proofs.aaa
end
section
namespace Go.Proofs.aaa
open Go.bA Go.IntWalk
theorem HF (k:Kept)(t:ByteArray):L2 k t=pW k.mark t:=by
 unfold L2 Rv Ru
 cases h:pW k.mark t with
 |none=>rfl
 |some v=>rfl
theorem Nu (l:List Kept)(t:ByteArray)(hr:vA l)(hl:l.length<=1000000000000):Gj l t=some (((lJ l t:Nat):Int),(h_ l t).isSome):=by
 unfold Gj;have hlb:lJ l t<=l.length:=List.countP_le_length;rw[vz (λx=>dA .lss x.mark t) (lJ l t) (fL hr t) hl (λx=>L2 x t) (λx hx=>by
  rw[HF];rcases lH x.mark t with⟨h1,h2,h3,h4⟩|⟨h1,h2,h3,h4⟩|⟨h1,h2,h3,h4⟩
  ·exact⟨_,h2,by simp[h1]⟩
  ·exact⟨_,h2,by simp[h3]⟩
  ·exact⟨_,h2,by simp[h4]⟩) (λs=>rfl) 99 0 ((l.map Kept.ts).length:Int) (by omega) (by omega) (by simp;omega) (by simp) (by simp;omega),Option.bind_some]
 obtain⟨hA,hB⟩:=DJ hr t;rw[fK];by_cases hlt:lJ l t<l.length
 ·have hx:=List.getElem?_eq_getElem hlt;rw[if_pos (by simp[ai];omega),cT (by omega) (by rw[Int.toNat_natCast];exact hx),Option.bind_some,HF];rcases lH (l[lJ l t]).mark t with⟨h1,h2,h3,h4⟩|⟨h1,h2,h3,h4⟩|⟨h1,h2,h3,h4⟩
  ·exact absurd ((fL hr t _ _ hx).1 h1) (Nat.lt_irrefl _)
  ·rw[h2,Option.bind_some,hA _ hx h1];rfl
  ·rw[h2,Option.bind_some]
   cases hf:h_ l t with
   |none=>rfl
   |some y=>have:=hB y hf;rw[hx]at this;exact absurd (by have h5:=this.1;cases h5;exact this.2) h3
 ·rw[if_neg (by simp[ai];omega)]
  cases hf:h_ l t with
  |none=>rfl
  |some y=>have:=(List.getElem?_eq_some_iff.1 (hB y hf).1).1;omega
end Go.Proofs.aaa
end
section
namespace Go.Proofs.aaa
open Go.bA Go.IntWalk
def dF (l:List Order)(id dst:Int):List Order:=l.map λo=>if o.id=id then⟨o.id,o.lines,o.aP,dst⟩else o
theorem nX:∀{l:List Order},bU Order.id l->∀{n:Int}{o:Order}(dst:Int),bq Order.id l n=some o->l.set (eO Order.id l n) ⟨o.id,o.lines,o.aP,dst⟩=dF l n dst
 |[],_,n,o,dst,h=>by cases h
 |x::l,hs,n,o,dst,h=>by
  obtain⟨h1,h2⟩:=List.pairwise_cons.1 hs;rw[dY]at h;unfold dF;by_cases he:x.id=n
  ·rw[if_pos he]at h;cases h;have hlb:eO Order.id (x::l) n=0:=qp Order.id (λy hy=>by
    rcases List.mem_cons.1 hy with rfl|hy
    ·omega
    ·have:=h1 y hy;omega)
   rw[hlb,List.map_cons,if_pos he,List.set_cons_zero]
   congr 1
   have e:l.map (λo=>if o.id=n then(⟨o.id,o.lines,o.aP,dst⟩:Order)else o)=l.map id:=List.map_congr_left λy hy=>by
    have:=h1 y hy;rw[if_neg (by omega)];rfl
   rw[e,List.map_id]
  ·rw[if_neg he]at h;have hp:=b_ Order.id h;have hlt:x.id<n:=by have:=h1 o hp.1;omega
   have hlb:eO Order.id (x::l) n=eO Order.id l n+1:=by simp[eO,hlt]
   rw[hlb,List.set_cons_succ,List.map_cons,if_neg he,nX h2 dst h];rfl
end Go.Proofs.aaa
end
section
namespace Go.Proofs.aaa
open Go.bA Go.IntWalk
theorem A3:∀{a b:List Int},a.Nodup->(∀x∈a,x∈b)->a.length<=b.length
 |[],_,_,_=>Nat.zero_le _
 |x::a,b,hn,hs=>by
  obtain⟨h1,h2⟩:=List.nodup_cons.1 hn;have hx:=hs x List.mem_cons_self;have:=A3 (b:=b.erase x) h2 λy hy=>by
   have hne:y≠x:=λe=>h1 (e▸hy);exact(List.mem_erase_of_ne hne).2 (hs y (List.mem_cons_of_mem _ hy))
  have hl:=List.length_erase_of_mem hx;have hp:0<b.length:=List.length_pos_of_mem hx;rw[List.length_cons];omega
theorem j7:∀{l:List aC},(∀x∈l,eX l x.order<=1)->(l.map aC.order).Nodup
 |[],_=>.nil
 |x::l,h=>by
  have hx:=h x List.mem_cons_self;have e:eX (x::l) x.order=eX l x.order+1:=List.countP_cons_of_pos (by simp);have h0:eX l x.order=0:=by omega
  rw[List.map_cons,List.nodup_cons];refine⟨λhm=> ?_,j7 λy hy=> ?_⟩
  ·obtain⟨y,hy,he⟩:=List.mem_map.1 hm;have:=(List.countP_eq_zero.1 h0) y hy;simp[he]at this
  ·have h3:=h y (List.mem_cons_of_mem _ hy);have:eX l y.order<=eX (x::l) y.order:=by
    show l.countP _<=(x::l).countP _;rw[List.countP_cons];omega
   omega
theorem nY {os:List Order}{x:aC}(h:vu os x=true):∃o,bq Order.id os x.order=some o/\gI o.status=x.kind/\cF x.kind x.pos x.aO=0/\dc x.kind x.pos x.aO=true:=by
 unfold vu at h;rw[Bool.and_eq_true,Bool.and_eq_true,decide_eq_true_eq]at h;obtain⟨⟨h1,h2⟩,h3⟩:=h;obtain⟨q,hq⟩:∃q,bq Order.id os x.order=q:=⟨_,rfl⟩;rw[hq]at h3
 cases q with
 |none=>cases h3
 |some o=>exact⟨o,hq,by simpa using h3,h1,h2⟩
theorem bY.A4 {s:State}(h:bY s):s.aj.length<=s.aa.length:=by
 have hs:=h.aj;unfold hU at hs;rw[Bool.and_eq_true,List.all_eq_true,List.all_eq_true]at hs;obtain⟨h1,h2⟩:=hs;have:=A3 (a:=s.aj.map aC.order) (b:=s.aa.map Order.id) (j7 λx hx=>by
  obtain⟨o,ho,hk,-,-⟩:=nY (h1 x hx);obtain⟨hm,he⟩:=(b_ Order.id ho);have:=h2 o hm;unfold mu at this;rw[he]at this;split at this<;>(rw[decide_eq_true_eq]at this;omega)) (λn hn=>by
  obtain⟨x,hx,rfl⟩:=List.mem_map.1 hn;obtain⟨o,ho,-⟩:=nY (h1 x hx);exact List.mem_map.2 ⟨o,b_ Order.id ho⟩)
 simpa using this
end Go.Proofs.aaa
end
section
namespace Go.Proofs.aaa
open Go.bA Go.IntWalk
def qz (x:aC):Int:=if x.kind=2 then 5 else if x.kind=1 then(if x.aO=true then 2 else 3)else(if x.aO=true then 3 else 7)
abbrev settled (s:State)(k:Nat)(x:aC):State:=⟨s.limit,s.cells,s.af,s.aA,dF s.aa x.order (qz x),s.aj.eraseIdx k,s.kept⟩
theorem Kb (x:aC)(h:x.kind=1\/x.kind=2\/x.kind=3):GI x=some (qz x):=by
 obtain⟨o,k,p,u⟩:=x;simp only at h;unfold GI qz;rcases h with rfl|rfl|rfl<;>cases u<;>rfl
theorem gq {n:Nat}{k:Nat}(h:k<n):dJ n (k:Int)=true:=by simp[dJ];omega
theorem HG (s:State)(k:Nat)(x:aC)(o:Order)(hx:s.aj[k]?=some x)(hr:bU Order.id s.aa)(ho:s.aa.length<=1000000000000)(hs:s.aj.length<=1000000)(hf:bq Order.id s.aa x.order=some o)(hk:x.kind=1\/x.kind=2\/x.kind=3):
  FT ⟨s⟩ k=some (if dc x.kind x.pos x.aO=true then(false,⟨s⟩)else(true,⟨settled s k x⟩)):=by
 have hlt:=(List.getElem?_eq_some_iff.1 hx).1;have hg:=fj Order.id hr hf;have Kc:=(List.getElem?_eq_some_iff.1 hg).1;unfold FT;rw[if_pos (gq hlt),cT (x:=x) (by omega) (by rw[Int.toNat_natCast];exact hx),Option.bind_some];simp only[hnext,Option.bind_some];by_cases hn:dc x.kind x.pos x.aO=true
 ·rw[if_pos hn,if_pos hn]
 rw[if_neg hn,if_neg hn,mw _ _ ho hr,Option.bind_some,Kb x hk,Option.bind_some];dsimp only;rw[if_pos (gq Kc),cT (x:=o) (by omega) (by rw[Int.toNat_natCast];exact hg),Option.bind_some,if_pos (decide_eq_true ⟨by omega,by omega,vj (by omega) (by omega),hs⟩),Int.toNat_natCast,Int.toNat_natCast,nX hr _ hf]
end Go.Proofs.aaa
end
section
namespace Go.Proofs.aaa
open Go.bA Go.IntWalk
def fS (s:State)(a:Ask):State×bz:=
 if gH a.order then
  if(dW a.lines).2≠0 then(s,⟨(dW a.lines).2,0,0⟩)else
  if(bq Order.id s.aa a.order).isSome=true then(s,⟨12,0,0⟩)else
  if(s.aa.length:Int)>=s.limit then(s,⟨7,0,0⟩)else
  (⟨s.limit,s.cells,s.af,s.aA,bt s.aa (eO Order.id s.aa a.order) ⟨a.order,a.lines,(dW a.lines).1,1⟩,s.aj++[⟨a.order,1,0,false⟩],s.kept⟩,⟨0,1,(dW a.lines).1⟩)
 else(s,⟨2,0,0⟩)
theorem kX (w:Int):nM w=some ⟨w,0,0⟩:=rfl
theorem nx {l:List aU}(h:(dW l).2=0):l.length<=16/\l≠[]/\(∀x∈l,(1<=x.item/\x.item<=1024/\1<=x.aE/\x.aE<=1024)/\1<=x.gF/\x.gF<=1048576)/\1<=(dW l).1/\(dW l).1<=1152921504606846976:=by
 unfold dW at h⊢;by_cases h0:l.length=0
 ·rw[if_pos h0]at h;exact absurd h (by decide)
 rw[if_neg h0]at h⊢;by_cases h1:∀x∈l,jb x=true
 case neg=>rw[if_neg h1]at h;exact absurd h (by decide)
 rw[if_pos h1]at h⊢;by_cases h2:tF l≠0
 ·rw[if_pos h2]at h;exact absurd h h2
 rw[if_neg h2]at h⊢;by_cases h3:rR l<1
 ·rw[if_pos h3]at h;exact absurd h (by decide)
 rw[if_neg h3]at h⊢;by_cases h4:rR l>1152921504606846976
 ·rw[if_pos h4]at h;exact absurd h (by decide)
 rw[if_neg h4];have h2:=Decidable.not_not.1 h2;unfold tF at h2;by_cases h5:l.length>16
 ·rw[if_pos h5]at h2;exact absurd h2 (by decide)
 rw[if_neg h5]at h2;by_cases h6:∃x∈l,x.bad
 ·rw[if_pos h6]at h2;exact absurd h2 (by decide)
 refine⟨by omega,λe=>h0 (by rw[e];rfl),λx hx=> ?_,by omega,by omega⟩;have a:=h1 x hx;unfold jb at a;rw[decide_eq_true_eq]at a;have b:¬x.bad:=λe=>h6 ⟨x,hx,e⟩;exact⟨a,by unfold aU.bad at b;omega,by unfold aU.bad at b;omega⟩
theorem Nv (s:State)(a:Ask)(h:bY s)(hl:a.lines.length*32<=140737488355328):Mj ⟨s⟩ a=some ((fS s a).2,⟨(fS s a).1⟩):=by
 have hr:=(bR.1 h.aa).1;have hf:=h.wO;have aaz:=h.limit;have G_:=h.A4;have hlb:=nt Order.id s.aa a.order;unfold Mj fS;rw[DG,Option.bind_some];by_cases c1:gH a.order
 case neg=>rw[if_neg c1,if_pos (by simp only[c1];rfl),kX];rfl
 rw[if_pos c1,if_neg (by simp[c1]),DH _ (by omega),Option.bind_some];dsimp only;rw[mw _ _ (by omega) hr,Option.bind_some];by_cases c2:(dW a.lines).2≠0
 ·rw[if_pos (by simpa[ai]using c2),if_pos c2,kX];rfl
 rw[if_neg (by simpa[ai]using c2),if_neg c2];by_cases c3:(bq Order.id s.aa a.order).isSome=true
 ·rw[if_pos c3,if_pos c3,kX];rfl
 rw[if_neg c3,if_neg c3];by_cases c4:(s.aa.length:Int)>=s.limit
 ·rw[if_pos (by simpa[ai]using c4),if_pos c4,kX];rfl
 rw[if_neg (by simpa[ai]using c4),if_neg c4];have hp:=(nx (Decidable.not_not.1 c2)).1;have hc:hcl a.lines=some a.lines:=by unfold hcl;rw[if_pos (decide_eq_true (by omega))]
 rw[hc,Option.bind_some,if_pos (decide_eq_true ⟨by omega,by omega,by omega⟩),if_pos (decide_eq_true (by simp;omega)),Int.toNat_natCast]
 rfl
end Go.Proofs.aaa
end
section
namespace Go.Proofs.aaa
open Go.bA Go.IntWalk
abbrev jd (l:List aC):Prop:=(l.map aC.order).Nodup
def dr (l:List aC)(n:Int):Option aC:=l.find? λx=>decide (x.order=n)
def vB (l:List aC)(n:Int):Nat:=l.findIdx λx=>decide (x.order=n)
theorem CL (n:Int):dr [] n=none:=rfl
theorem iW (x:aC)(l:List aC)(n:Int):dr (x::l) n=if x.order=n then some x else dr l n:=by
 unfold dr;rw[List.find?_cons];by_cases h:x.order=n<;>simp[h]
theorem nZ {l:List aC}{n:Int}{x:aC}(h:dr l n=some x):x∈l/\x.order=n:=⟨List.mem_of_find?_eq_some h,by simpa using List.find?_some h⟩
theorem aap {l:List aC}{n:Int}(h:dr l n=none):∀x∈l,x.order≠n:=λx hx=>by
 have:=List.find?_eq_none.1 h x hx;simpa using this
theorem zl {l:List aC}{n:Int}(h:∀x∈l,x.order≠n):dr l n=none:=List.find?_eq_none.2 λx hx=>by simpa using h x hx
theorem aak:∀{l:List aC},jd l->∀{x:aC},x∈l->dr l x.order=some x
 |[],_,x,h=>by cases h
 |y::l,hn,x,h=>by
  obtain⟨h1,h2⟩:=List.nodup_cons.1 hn;rw[iW];rcases List.mem_cons.1 h with rfl|h
  ·rw[if_pos rfl]
  ·rw[if_neg (λe=>h1 (by rw[e];exact List.mem_map_of_mem h)),aak h2 h]
theorem aay:∀{l:List aC},jd l->∀{k:Nat}{x:aC},l[k]?=some x->vB l x.order=k
 |[],_,k,x,h=>by cases h
 |y::l,hn,k,x,h=>by
  obtain⟨h1,h2⟩:=List.nodup_cons.1 hn;unfold vB;rw[List.findIdx_cons]
  cases k with
  |zero=>cases h;simp
  |succ k=>
   have h':l[k]?=some x:=by simpa using h
   have hne:¬y.order=x.order:=λe=>h1 (by rw[e];exact List.mem_map_of_mem (List.mem_of_getElem? h'));have:=aay h2 h';unfold vB at this;rw[decide_eq_false hne,this];rfl
theorem zm {l:List aC}{n:Int}{x:aC}(h:dr l n=some x):l[vB l n]?=some x:=by
 induction l with
 |nil=>cases h
 |cons y l ih=>
  rw[iW]at h;unfold vB;rw[List.findIdx_cons];by_cases e:y.order=n
  ·rw[if_pos e]at h;cases h;rw[decide_eq_true e];rfl
  ·rw[if_neg e]at h;have:=ih h;unfold vB at this;rw[decide_eq_false e];simpa using this
theorem xJ:∀{l:List aC},jd l->∀{k:Nat}{x y:aC},l[k]?=some x->y.order=x.order->jd (l.set k y):=λ{l} hn {k x y} hx hy=>by
 unfold jd at*;rw[List.map_set,hy];have:(l.map aC.order).set k x.order=l.map aC.order:=by
  apply List.ext_getElem?;intro j;rw[List.getElem?_set];by_cases hj:k=j
  ·subst hj;have hlt:=(List.getElem?_eq_some_iff.1 hx).1;rw[if_pos rfl,if_pos (by simpa using hlt),List.getElem?_map,hx];rfl
  ·rw[if_neg hj]
 rw[this];exact hn
theorem vD:∀{l:List aC},jd l->∀{k:Nat}{x y:aC},l[k]?=some x->y.order=x.order->∀n,dr (l.set k y) n=if n=x.order then some y else dr l n
 |[],_,k,x,y,h,_,n=>by cases h
 |z::l,hn,k,x,y,h,hy,n=>by
  obtain⟨h1,h2⟩:=List.nodup_cons.1 hn
  cases k with
  |zero=>
   cases h;rw[List.set_cons_zero,iW,iW,hy];by_cases e:n=z.order
   ·rw[if_pos e,if_pos e.symm]
   ·rw[if_neg e,if_neg (λh=>e h.symm),if_neg (λh=>e h.symm)]
  |succ k=>
   have h':l[k]?=some x:=by simpa using h
   have hne:¬z.order=x.order:=λe=>h1 (by rw[e];exact List.mem_map_of_mem (List.mem_of_getElem? h'));rw[List.set_cons_succ,iW,iW,vD h2 h' hy];by_cases e:z.order=n
   ·rw[if_pos e,if_pos e,if_neg (λh=>hne (by omega))]
   ·rw[if_neg e,if_neg e]
theorem pF:∀{l:List aC},jd l->∀{k:Nat}{x:aC},l[k]?=some x->∀n,dr (l.eraseIdx k) n=if n=x.order then none else dr l n
 |[],_,k,x,h,n=>by cases h
 |z::l,hn,k,x,h,n=>by
  obtain⟨h1,h2⟩:=List.nodup_cons.1 hn
  cases k with
  |zero=>
   cases h;rw[List.eraseIdx_cons_zero,iW];by_cases e:n=z.order
   ·rw[if_pos e];exact zl λy hy=>λe2=>h1 (by rw[<-e,<-e2];exact List.mem_map_of_mem hy)
   ·rw[if_neg e,if_neg (λh=>e h.symm)]
  |succ k=>
   have h':l[k]?=some x:=by simpa using h
   have hne:¬z.order=x.order:=λe=>h1 (by rw[e];exact List.mem_map_of_mem (List.mem_of_getElem? h'));rw[List.eraseIdx_cons_succ,iW,iW,pF h2 h'];by_cases e:z.order=n
   ·rw[if_pos e,if_pos e,if_neg (λh=>hne (by omega))]
   ·rw[if_neg e,if_neg e]
theorem sS {l:List aC}(hn:jd l)(k:Nat):jd (l.eraseIdx k):=(List.eraseIdx_sublist l k).map aC.order|>.nodup hn
theorem A5 (l:List aC)(x:aC)(h:dr l x.order=none)(n:Int):dr (l++[x]) n=if n=x.order then some x else dr l n:=by
 unfold dr at*;rw[List.find?_append];by_cases e:n=x.order
 ·subst e;rw[h,if_pos rfl];simp
 ·rw[if_neg e];have:¬x.order=n:=λh=>e h.symm;simp[this]
theorem xK {l:List aC}(hn:jd l)(x:aC)(h:dr l x.order=none):jd (l++[x]):=by
 unfold jd;rw[List.map_append,List.map_singleton,List.nodup_append];refine⟨hn,by simp,λa ha b hb=> ?_⟩;rw[List.mem_singleton]at hb;obtain⟨y,hy,rfl⟩:=List.mem_map.1 ha;rw[hb];exact aap h y hy
theorem xL {l:List aC}(hn:jd l)(n:Int):(eX l n=0↔dr l n=none)/\(eX l n=1↔(dr l n).isSome=true):=by
 induction l with
 |nil=>simp[eX,dr]
 |cons x l ih=>
  obtain⟨h1,h2⟩:=List.nodup_cons.1 hn;have ih:=ih h2;rw[iW];unfold eX at ih⊢;rw[List.countP_cons];by_cases e:x.order=n
  ·have:dr l n=none:=zl λy hy e2=>h1 (by rw[e,<-e2];exact List.mem_map_of_mem hy);have h0:=ih.1.2 this;simp[e,h0]
  ·simp[e,ih]
theorem bY.apart {s:State}(h:bY s):jd s.aj:=by
 have hs:=h.aj;unfold hU at hs;rw[Bool.and_eq_true,List.all_eq_true,List.all_eq_true]at hs;obtain⟨h1,h2⟩:=hs;refine j7 λx hx=> ?_;obtain⟨o,ho,hk,-,-⟩:=nY (h1 x hx);obtain⟨hm,he⟩:=(b_ Order.id ho);have:=h2 o hm;unfold mu at this;rw[he]at this;split at this<;>(rw[decide_eq_true_eq]at this;omega)
structure zn (s:State):Prop where
 apart:jd s.aj
 jm:∀x∈s.aj,∃o,bq Order.id s.aa x.order=some o/\gI o.status=x.kind/\cF x.kind x.pos x.aO=0/\dc x.kind x.pos x.aO=true
 order:∀o∈s.aa,(gI o.status=0↔dr s.aj o.id=none)
theorem ny {s:State}:(jd s.aj/\hU s=true)↔zn s:=by
 unfold hU;rw[Bool.and_eq_true,List.all_eq_true,List.all_eq_true];constructor
 ·rintro⟨ha,h1,h2⟩;refine⟨ha,λx hx=>nY (h1 x hx),λo ho=> ?_⟩;have:=h2 o ho;unfold mu at this;have hN:=xL ha o.id;by_cases hk:gI o.status=0
  ·rw[if_pos hk,decide_eq_true_eq]at this;exact⟨λ_=>hN.1.1 this,λ_=>hk⟩
  ·rw[if_neg hk,decide_eq_true_eq]at this;have:=hN.2.1 this;exact⟨λh=>absurd h hk,λh=>by rw[h]at this;cases this⟩
 ·rintro⟨ha,h1,h2⟩;refine⟨ha,λx hx=> ?_,λo ho=> ?_⟩
  ·obtain⟨o,h3,h4,h5,h6⟩:=h1 x hx;unfold vu;rw[h3,h5,h6];simp[h4]
  ·unfold mu;have hN:=xL ha o.id;by_cases hk:gI o.status=0
   ·rw[if_pos hk,decide_eq_true_eq];exact hN.1.2 ((h2 o ho).1 hk)
   ·rw[if_neg hk,decide_eq_true_eq];refine hN.2.2 ?_
    cases hs:dr s.aj o.id with
    |some x=>rfl
    |none=>exact absurd ((h2 o ho).2 hs) hk
theorem bY.nA {s:State}(h:bY s):zn s:=ny.1 ⟨h.apart,h.aj⟩
end Go.Proofs.aaa
end
section
namespace Go.Proofs.aaa
open Go.bA Go.IntWalk
theorem bX.wO {s:State}(h:bY s):s.aa.length<=1024/\s.aj.length<=1024/\s.kept.length<=4096/\s.cells.length<=4096:=by
 have h1:=h.wO;have h2:=h.limit;have h3:=h.A4;have h4:=h.kept;have h5:=(cE.1 h.cells).1;unfold kV at h4;rw[Bool.and_eq_true,decide_eq_true_eq]at h4;refine⟨by omega,by omega,by omega,h5⟩
def qA (s:State)(m:ByteArray)(r:bz):State:=⟨s.limit,s.cells,s.af,s.aA,s.aa,s.aj,bt s.kept (lJ s.kept m) ⟨m,r⟩⟩
theorem Nw (l:List Kept)(m:ByteArray):lJ l m<=l.length:=List.countP_le_length
theorem nB {l:List Kept}(h:kV l=true):l.length<=4096/\vA l/\∀x∈l,gZ x=true/\x.mark≠ByteArray.empty:=by
 unfold kV at h;rw[Bool.and_eq_true,decide_eq_true_eq,qx (dA .lss) Kept.mark gZ vt]at h;refine⟨by omega,h.2.1,λx hx=> ?_⟩;have:=h.2.2 x hx;rw[xI,decide_eq_true_eq]at this;exact⟨this.2,this.1⟩
theorem E5 {l:List Kept}(h1:l.length<=4096)(h2:vA l)(h3:∀x∈l,gZ x=true/\x.mark≠ByteArray.empty):kV l=true:=by
 unfold kV;rw[Bool.and_eq_true,decide_eq_true_eq,qx (dA .lss) Kept.mark gZ vt];refine⟨by omega,h2,λx hx=> ?_⟩;rw[xI,decide_eq_true_eq];exact⟨(h3 x hx).2,(h3 x hx).1⟩
theorem HH (l:List Order)(n d:Int):(dF l n d).map Order.id=l.map Order.id:=by
 unfold dF;rw[List.map_map];refine List.map_congr_left λo _=> ?_;show(if o.id=n then _ else o:Order).id=o.id;split<;>rfl
theorem jD {l:List Order}(h:bU Order.id l)(n d:Int):bU Order.id (dF l n d):=by
 have:(dF l n d).map Order.id|>.Pairwise (·<·):=by rw[HH];exact List.pairwise_map.2 h
 exact List.pairwise_map.1 this
theorem rS (l:List Order)(n d:Int):(dF l n d).length=l.length:=List.length_map ..
theorem n_ (n d m:Int):∀(l:List Order),bq Order.id (dF l n d) m=(bq Order.id l m).map λo=>if m=n then⟨o.id,o.lines,o.aP,d⟩else o
 |[]=>rfl
 |o::l=>by
  have ih:=n_ n d m l;unfold dF at ih⊢;rw[List.map_cons,dY,dY,ih];have e:(if o.id=n then(⟨o.id,o.lines,o.aP,d⟩:Order)else o).id=o.id:=by split<;>rfl
  rw[e];by_cases h:o.id=m
  ·rw[if_pos h,if_pos h,Option.map_some,h]
  ·rw[if_neg h,if_neg h]
theorem xM {l:List Order}{n d:Int}{o:Order}(h:o∈dF l n d):∃p∈l,o.id=p.id/\o.lines=p.lines/\o.aP=p.aP/\(o.status=p.status/\p.id≠n\/o.status=d/\p.id=n):=by
 unfold dF at h;obtain⟨p,hp,rfl⟩:=List.mem_map.1 h;refine⟨p,hp, ?_⟩;split
 ·rename_i e;exact⟨rfl,rfl,rfl,.inr ⟨rfl,e⟩⟩
 ·rename_i e;exact⟨rfl,rfl,rfl,.inl ⟨rfl,e⟩⟩
theorem A6 (l:List Order)(n d m:Int):eO Order.id (dF l n d) m=eO Order.id l m:=by
 unfold eO dF;rw[List.countP_map]
 congr 1
 funext o;show decide ((if o.id=n then(⟨o.id,o.lines,o.aP,d⟩:Order)else o).id<m)=_;split<;>rfl
theorem A7 (l:List Order)(n d e:Int):dF (dF l n d) n e=dF l n e:=by
 unfold dF;rw[List.map_map];refine List.map_congr_left λo _=> ?_;show(if(if o.id=n then(⟨o.id,o.lines,o.aP,d⟩:Order)else o).id=n then _ else _)=_;by_cases h:o.id=n
 ·simp[h]
 ·simp[h]
theorem bX.dF {s:State}(z:bX s)(n d:Int)(hd:0<=d)(sg:List aC)(hs:sg.length*32<=140737488355328):bX ⟨s.limit,s.cells,s.af,s.aA,Go.Proofs.aaa.dF s.aa n d,sg,s.kept⟩where
 cells:=z.cells
 aK:=z.aK
 i_:=z.i_
 aA:=z.aA
 aa:=by show(Go.Proofs.aaa.dF s.aa n d).length*48<=_;rw[rS];exact z.aa
 lines:=λx hx=>by obtain⟨p,hp,-,h2,-⟩:=xM hx;rw[h2];exact z.lines p hp
 aj:=hs
 kept:=z.kept
 eP:=z.eP
 aad:=λx hx=>by
  obtain⟨p,hp,-,-,-,h|h⟩:=xM hx
  ·rw[h.1];exact z.aad p hp
  ·rw[h.1];exact hd
theorem E6 {s:State}(n:Int){x:aC}(hx:dr s.aj n=some x)(hl:s.aj.length<=4611686018427387904):bh (λ(_:Unit)(i:Int)(x:aC)=>if(ai .eql x.order n)=true then some (.inr i)else some (.inl ())) s.aj ()=some (Sum.inr ((vB s.aj n:Nat):Int)):=by
 have tP:=zm hx;have HI:=(nZ hx).2;rcases cP (step:=λ(_:Unit)(i:Int)(x:aC)=>if(ai .eql x.order n)=true then some (Sum.inr i)else some (.inl ())) (s0:=()) (λj _=>∀y∈s.aj.take j,y.order≠n) (λr=>r=((vB s.aj n:Nat):Int)) hl (by simp) (λj y _ hy hi=>by
  by_cases e:y.order=n
  ·rw[if_pos (by simpa[ai]using e)];refine .inr ⟨_,rfl, ?_⟩;have hj:=(List.getElem?_eq_some_iff.1 hy).1;have:vB s.aj n=j:=by
    unfold vB;rw[List.findIdx_eq hj];refine⟨by rw[(List.getElem?_eq_some_iff.1 hy).2];simpa using e,λi hij=> ?_⟩;have:=hi (s.aj[i]'(by omega)) (List.mem_take_iff_getElem.2 ⟨i,by omega,rfl⟩)
    simpa using this
   rw[this]
  ·rw[if_neg (by simpa[ai]using e)];refine .inl ⟨_,rfl,λz hz=> ?_⟩;rw[take_one hy]at hz;rcases List.mem_append.1 hz with hz|hz
   ·exact hi z hz
   ·rw[List.mem_singleton]at hz;rw[hz];exact e)with⟨s',e,hi⟩|⟨r,e,hb⟩
 ·rw[List.take_length]at hi;exact absurd HI (hi x (List.mem_of_getElem? tP))
 ·rw[e,hb]
def kI (s:State)(a:Ask):State×bz:=
 match bq Order.id s.aa a.order with
 |none=>(s,⟨11,0,0⟩)
 |some o=>if o.status≠1 then(s,⟨9,0,0⟩)else
  match dr s.aj a.order with
  |none=>(s,⟨0,0,0⟩)
  |some x=>
   if dc 2 x.pos true=true then(⟨s.limit,s.cells,s.af,s.aA,dF s.aa a.order 4,s.aj.set (vB s.aj a.order) ⟨a.order,2,x.pos,true⟩,s.kept⟩,⟨0,4,o.aP⟩)
   else(⟨s.limit,s.cells,s.af,s.aA,dF s.aa a.order 5,s.aj.eraseIdx (vB s.aj a.order),s.kept⟩,⟨0,5,o.aP⟩)
theorem rT {α:Type}:∀(l:List α)(k:Nat)(x:α),(l.set k x).eraseIdx k=l.eraseIdx k
 |[],_,_=>rfl
 |_::_,0,_=>rfl
 |y::l,k+1,x=>by rw[List.set_cons_succ,List.eraseIdx_cons_succ,List.eraseIdx_cons_succ,rT]
theorem xN {s:State}(h:bY s){o:Order}{n:Int}(hf:bq Order.id s.aa n=some o)(hs:gI o.status≠0):∃x,dr s.aj n=some x:=by
 obtain⟨hm,he⟩:=b_ Order.id hf;have:=h.nA.order o hm
 cases hx:dr s.aj n with
 |some x=>exact⟨x,rfl⟩
 |none=>rw[<-he]at hx;exact absurd (this.2 hx) hs
theorem tX (o:Order):Cj o=some ⟨0,o.status,o.aP⟩:=rfl
theorem Nx (s:State)(a:Ask)(h:bY s):K3 ⟨s⟩ a=some ((kI s a).2,⟨(kI s a).1⟩):=by
 have hr:=(bR.1 h.aa).1;have hf:=bX.wO h;unfold K3 kI;dsimp only;rw[mw _ _ (by omega) hr,Option.bind_some];dsimp only
 cases hfn:bq Order.id s.aa a.order with
 |none=>simp[kX]
 |some o=>
  dsimp only;have hg:=fj Order.id hr hfn;have Kc:=(List.getElem?_eq_some_iff.1 hg).1;rw[if_neg (show¬(!(some o).isSome)=true fromλh=>by cases h),if_pos (gq Kc),cT (by omega) (by rw[Int.toNat_natCast];exact hg),Option.bind_some];by_cases c1:o.status≠1
  ·rw[if_pos (by simpa[ai]using c1),if_pos c1];rfl
  rw[if_neg (by simpa[ai]using c1),if_neg c1];obtain⟨x,hx⟩:=xN h hfn (by rw[Decidable.not_not.1 c1];decide);have tP:=zm hx;have HI:=(nZ hx).2;have hlt:=(List.getElem?_eq_some_iff.1 tP).1;rw[E6 a.order hx (by omega),Option.bind_some,hx];dsimp only;rw[if_pos (gq hlt),cT (by omega) (by rw[Int.toNat_natCast];exact tP),Option.bind_some];simp only[Int.toNat_natCast,List.set_set];rw[nX hr 4 hfn];have qV:(s.aj.set (vB s.aj a.order) ⟨x.order,2,x.pos,true⟩)[vB s.aj a.order]?=some ⟨x.order,2,x.pos,true⟩:=tN tP;have Pr:bq Order.id (dF s.aa a.order 4) x.order=some ⟨o.id,o.lines,o.aP,4⟩:=by rw[HI,n_,hfn,Option.map_some,if_pos rfl]
  rw[HG _ _ ⟨x.order,2,x.pos,true⟩ ⟨o.id,o.lines,o.aP,4⟩ qV (jD hr _ _) (by show(dF _ _ _).length<=_;rw[rS];omega) (by show(s.aj.set _ _).length<=_;rw[List.length_set];omega) Pr (.inr (.inl rfl)),Option.bind_some];dsimp only;by_cases hn:dc 2 x.pos true=true
  ·rw[if_pos hn,if_pos hn];dsimp only;have V5:(dF s.aa a.order 4)[eO Order.id s.aa a.order]?=some ⟨o.id,o.lines,o.aP,4⟩:=by
    have:=fj Order.id (jD hr a.order 4) (by rw[HI]at Pr;exact Pr);rw[A6]at this;exact this
   rw[cT (by omega) (by rw[Int.toNat_natCast];exact V5),Option.bind_some,tX,Option.bind_some,HI]
  ·rw[if_neg hn,if_neg hn];dsimp only[settled];have hf2:bq Order.id (dF s.aa a.order 5) a.order=some ⟨o.id,o.lines,o.aP,5⟩:=by rw[n_,hfn,Option.map_some,if_pos rfl]
   have V5:(dF s.aa a.order 5)[eO Order.id s.aa a.order]?=some ⟨o.id,o.lines,o.aP,5⟩:=by
    have:=fj Order.id (jD hr a.order 5) hf2;rw[A6]at this;exact this
   have e5:qz ⟨x.order,2,x.pos,true⟩=5:=rfl;rw[e5,HI,A7,cT (by omega) (by rw[Int.toNat_natCast];exact V5),Option.bind_some,tX,Option.bind_some,rT]
def sU (s:State)(a:Ask):State×bz:=
 match bq Order.id s.aa a.order with
 |none=>(s,⟨11,0,0⟩)
 |some o=>if o.status≠3 then(s,⟨9,0,0⟩)else(⟨s.limit,s.cells,s.af,s.aA,dF s.aa a.order 6,s.aj++[⟨a.order,3,0,false⟩],s.kept⟩,⟨0,6,o.aP⟩)
theorem Ny (s:State)(a:Ask)(h:bY s):Mp ⟨s⟩ a=some ((sU s a).2,⟨(sU s a).1⟩):=by
 have hr:=(bR.1 h.aa).1;have hf:=bX.wO h;unfold Mp sU;dsimp only;rw[mw _ _ (by omega) hr,Option.bind_some];dsimp only
 cases hfn:bq Order.id s.aa a.order with
 |none=>simp[kX]
 |some o=>
  dsimp only;have hg:=fj Order.id hr hfn;have Kc:=(List.getElem?_eq_some_iff.1 hg).1;rw[if_neg (show¬(!(some o).isSome)=true fromλh=>by cases h),if_pos (gq Kc),cT (by omega) (by rw[Int.toNat_natCast];exact hg),Option.bind_some];by_cases c1:o.status≠3
  ·rw[if_pos (by simpa[ai]using c1),if_pos c1];rfl
  rw[if_neg (by simpa[ai]using c1),if_neg c1,if_pos (decide_eq_true (by simp;omega)),tX,Option.bind_some,Int.toNat_natCast,nX hr 6 hfn]
end Go.Proofs.aaa
end
section
namespace Go.Proofs.aaa
open Go.bA Go.IntWalk
def ia (s:State)(a:Ask):State×bz:=
 if a.lines.length=0 then(s,⟨2,0,0⟩)else if¬(∀x∈a.lines,x.unit=0)then(s,⟨2,0,0⟩)else if(a.lines.length:Int)>16 then(s,⟨3,0,0⟩)
 else if(bV 0 s.cells a.lines).2≠0 then(s,⟨(bV 0 s.cells a.lines).2,0,0⟩)else(⟨s.limit,(bV 0 s.cells a.lines).1,s.af,s.aA,s.aa,s.aj,s.kept⟩,⟨0,0,0⟩)
theorem CM {ρ:Type}{step:Unit->Int->aU->Option (Unit⊕ρ)}{l:List aU}(A0:ρ->Prop)(hl:l.length<=4611686018427387904)(h:∀(i:Nat) x,l[i]?=some x->(x.unit=0/\step () i x=some (.inl ()))\/(x.unit≠0/\∃r,step () i x=some (.inr r)/\A0 r)):
  ((∀x∈l,x.unit=0)/\bh step l ()=some (.inl ()))\/((¬∀x∈l,x.unit=0)/\∃r,bh step l ()=some (.inr r)/\A0 r):=by
 rcases cP (step:=step) (s0:=()) (λj _=>∀x∈l.take j,x.unit=0) (λr=>(¬∀x∈l,x.unit=0)/\A0 r) hl (by simp) (λj x _ hx hi=>by
  rcases h j x hx with⟨h1,h2⟩|⟨h1,r,h2,h3⟩
  ·refine .inl ⟨(),h2,λy hy=> ?_⟩;rw[take_one hx]at hy;rcases List.mem_append.1 hy with hy|hy
   ·exact hi y hy
   ·rw[List.mem_singleton]at hy;rw[hy];exact h1
  ·exact .inr ⟨r,h2,λh=>h1 (h x (List.mem_of_getElem? hx)),h3⟩)with⟨s',e,hi⟩|⟨r,e,hb⟩
 ·rw[List.take_length]at hi;exact .inl ⟨hi,e⟩
 ·exact .inr ⟨hb.1,r,e,hb.2⟩
theorem Nz (s:State)(a:Ask)(z:bX s)(h4:s.cells.length<=4096)(hl:a.lines.length*32<=140737488355328):K5 ⟨s⟩ a=some ((ia s a).2,⟨(ia s a).1⟩):=by
 have zc:=z.cells;unfold K5 ia;rw[fK];by_cases c0:a.lines.length=0
 ·rw[if_pos (by simp[ai,c0]),if_pos c0];rfl
 rw[if_neg (by simp only[ai,beq_iff_eq];omega),if_neg c0];have hc:hcl s.cells=some s.cells:=by unfold hcl;rw[if_pos (decide_eq_true (by omega))]
 rcases CM (l:=a.lines) (step:=λ(_:Unit)(i5:Int)(x7:aU)=>if(ai .neq x7.unit 0)=true then some (.inr i5)else some (.inl ())) (λr:Int=>0<=r) (by omega) (λi x _=>by
  by_cases e:x.unit=0
  ·exact .inl ⟨e,if_neg (by simpa[ai]using e)⟩
  ·exact .inr ⟨e,_,if_pos (by simpa[ai]using e),by omega⟩)with⟨h,e⟩|⟨h,r,e,h0⟩
 ·rw[e,Option.bind_some,if_neg (show¬¬(∀x∈a.lines,x.unit=0) fromλk=>k h)];dsimp only;by_cases c1:(a.lines.length:Int)>16
  ·rw[if_pos (by simpa[ai]using c1),if_pos c1];rfl
  rw[if_neg (by simpa[ai]using c1),if_neg c1,hc,Option.bind_some,u_ 0 (λs i x hs=>by
   rw[JU s x.item x.aE x.gF hs,Option.bind_some];simp only[ai,bne_iff_ne];split<;>rfl) (by omega) (by omega)]
  by_cases c2:(bV 0 s.cells a.lines).2≠0
  ·rw[if_pos c2,if_pos c2,Option.bind_some];dsimp only;rw[if_pos (by simpa[ai]using c2),kX,Option.bind_some]
  ·rw[if_neg c2,if_neg c2,Option.bind_some]
 ·rw[e,Option.bind_some,if_pos (show¬(∀x∈a.lines,x.unit=0) from h)];dsimp only;rw[if_pos (by simpa[ai]using h0),kX,Option.bind_some]
def ic (s:State)(a:Ask):State×bz:=match bq Order.id s.aa a.order with|none=>(s,⟨11,0,0⟩)|some o=>(s,⟨0,o.status,o.aP⟩)
theorem NA (s:State)(a:Ask)(h:bY s):K7 ⟨s⟩ a=some ((ic s a).2,⟨(ic s a).1⟩):=by
 have hr:=(bR.1 h.aa).1;have hf:=bX.wO h;unfold K7 ic;dsimp only;rw[mw _ _ (by omega) hr,Option.bind_some];dsimp only
 cases hfn:bq Order.id s.aa a.order with
 |none=>simp[kX]
 |some o=>
  dsimp only;have hg:=fj Order.id hr hfn;have Kc:=(List.getElem?_eq_some_iff.1 hg).1;rw[if_neg (show¬(!(some o).isSome)=true fromλh=>by cases h),if_pos (gq Kc),cT (by omega) (by rw[Int.toNat_natCast];exact hg),Option.bind_some,tX,Option.bind_some]
def ga (s:State)(a:Ask):State×bz:=match a.lines with|[x]=>if(dM s.cells x.item x.aE).2≠0 then(s,⟨(dM s.cells x.item x.aE).2,0,0⟩)else(s,⟨0,0,(dM s.cells x.item x.aE).1.free⟩)|_=>(s,⟨2,0,0⟩)
theorem NB (s:State)(a:Ask)(hc:s.cells.length<=4611686018427387904):K8 ⟨s⟩ a=some ((ga s a).2,⟨(ga s a).1⟩):=by
 obtain⟨m,k,n,l⟩:=a;unfold K8 ga
 match l with
 |[]=>rfl
 |[x]=>
  rw[fK,if_neg (by simp[ai])];dsimp only;rw[show fH [x] 0=some x from rfl,Option.bind_some,nV _ _ _ hc,Option.bind_some];by_cases c:(dM s.cells x.item x.aE).2≠0
  ·rw[if_pos (by simpa[ai]using c),if_pos c];rfl
  ·rw[if_neg (by simpa[ai]using c),if_neg c]
 |x::y::l=>
  rw[fK,if_pos (by simp[ai];omega)];rfl
def dG (s:State)(a:Ask):State×bz:=
 if a.kind=1 then fS s a else if a.kind=2 then kI s a else if a.kind=3 then sU s a else if a.kind=4 then ia s a else if a.kind=5 then ic s a else ga s a
theorem vE {k:Int}:∀{lines:List aU}{l:List Cell},(bV k l lines).1.length<=max l.length 4096
 |[],l=>by show l.length<=_;omega
 |x::r,l=>by
  unfold bV;split
  ·simp
  ·have:=vE (k:=k) (lines:=r) (l:=(cm k l x.item x.aE x.gF).1);have h2:=rN (k:=k) (l:=l) (i:=x.item) (w:=x.aE) (n:=x.gF);omega
theorem tY {α:Type}{l:List α}{i:Nat}{x y:α}(h:y∈bt l i x):y=x\/y∈l:=by
 unfold bt at h;rcases List.mem_append.1 h with h|h
 ·exact .inr (List.mem_of_mem_take h)
 ·rcases List.mem_cons.1 h with h|h
  ·exact .inl h
  ·exact .inr (List.mem_of_mem_drop h)
theorem mz (s:State)(a:Ask):(dG s a).1.kept=s.kept:=by
 unfold dG
 repeat' split
 ·unfold fS;repeat' split
  all_goals rfl
 ·unfold kI;repeat' split
  all_goals rfl
 ·unfold sU;repeat' split
  all_goals rfl
 ·unfold ia;repeat' split
  all_goals rfl
 ·unfold ic;split<;>rfl
 ·unfold ga;repeat' split
  all_goals rfl
def eU (s:State)(a:Ask):State×bz:=
 if a.kind<1\/a.kind>=7 then(s,⟨15,0,0⟩)else if(a.mark.size:Int)>64 then(s,⟨4,0,0⟩)else
 match h_ s.kept a.mark with
 |some k=>(s,k.cH)
 |none=>if a.mark=ByteArray.empty then dG s a else if s.kept.length>=4096 then(s,⟨7,0,0⟩)else(qA (dG s a).1 a.mark (dG s a).2,(dG s a).2)
abbrev IX:State:=⟨0,[],⟨[],[]⟩,[],[],[],[]⟩
abbrev V6:bz:=⟨0,0,0⟩
theorem bY.order {s:State}(h:bY s){o:Order}(ho:o∈s.aa):gH o.id/\dW o.lines=(o.aP,0)/\o.status≠0/\o.status<8:=by
 obtain⟨h1,h2⟩:=(bR.1 h.aa).2 o ho;unfold fo at h2;rw[decide_eq_true_eq]at h2;exact⟨⟨by omega,h2.1⟩,h2.2⟩
theorem vF {s:State}(t:bX s)(h:bY s):bh (ρ:=Empty) (λ(lu:(List Order))(Ak:Int)(_:Order)=>
    if(dJ s.aa.length Ak)=true then
     (fH lu Ak).bind λwe=>
     (hcl we.lines).bind λBE=>
     some (.inl ((lu).set (Ak).toNat (⟨we.id,BE,we.aP,we.status⟩:Order)))
    else none) s.aa s.aa=some (.inl s.aa):=by
 rcases cP (step:=λ(lu:(List Order))(Ak:Int)(zG:Order)=>
    if(dJ s.aa.length Ak)=true then
     (fH lu Ak).bind λwe=>
     (hcl we.lines).bind λBE=>
     some (Sum.inl ((lu).set (Ak).toNat (⟨we.id,BE,we.aP,we.status⟩:Order)))
    else none) (s0:=s.aa) (λj o=>o=s.aa) (λ(_:Empty)=>False) t.typed.aa rfl (λj x o hx ho=>by
  subst ho;have hlt:=(List.getElem?_eq_some_iff.1 hx).1;have hl:=(nx (l:=x.lines) (by rw[(h.order (List.mem_of_getElem? hx)).2.1])).1;refine .inl ⟨_, ?_,rfl⟩;rw[if_pos (gq hlt),cT (by omega) (by rw[Int.toNat_natCast];exact hx),Option.bind_some];unfold hcl;rw[if_pos (decide_eq_true (by omega)),Option.bind_some,Int.toNat_natCast]
  congr 2
  apply List.ext_getElem?;intro k;rw[List.getElem?_set];by_cases e:j=k
  ·subst e;rw[if_pos rfl,if_pos hlt,hx]
  ·rw[if_neg e])with⟨o,e,ho⟩|⟨r,_,hb⟩
 ·rw[e,ho]
 ·exact hb.elim
theorem mA {α:Type}{l:List α}(h:l.length<=1000000000000):hcl l=some l:=by unfold hcl;rw[if_pos (decide_eq_true h)]
theorem CN {s:State}{a:Ask}(h1:a.kind≠1)(h2:a.kind≠2)(h3:a.kind≠3):(dG s a).1.aa=s.aa/\(dG s a).1.aj=s.aj:=by
 unfold dG;rw[if_neg h1,if_neg h2,if_neg h3]
 repeat' split
 ·unfold ia;repeat' split
  all_goals exact⟨rfl,rfl⟩
 ·unfold ic;split<;>exact⟨rfl,rfl⟩
 ·unfold ga;repeat' split
  all_goals exact⟨rfl,rfl⟩
theorem HJ (s:State)(a:Ask)(z:bX s)(hl:a.lines.length*32<=140737488355328):oF s a=some (if kW s=0 then((eU s a).1,(eU s a).2,0)else(IX,V6,kW s)):=by
  have t:=z.typed;unfold oF;rw[zj s t,Option.bind_some];by_cases h:bY s
  case neg=>rw[dX h,if_pos (by rfl),if_neg (by decide)]
  rw[lI h,if_neg (by decide),if_pos rfl];have hf:=bX.wO h;have hk:=nB h.kept;have b1:=h.af.qo;have b2:=h.af.rK;have b3:=j8 (Int.le_refl 0) (by decide) h.aA;have hlb:=Nw s.kept a.mark;rw[mA (show s.cells.length<=1000000000000 by omega),mA (show s.af.aK.length<=1000000000000 by omega),mA (show s.af.ak.length<=1000000000000 by omega),mA (show s.aA.length<=1000000000000 by omega)];simp only[Option.bind_some];rw[if_pos (decide_eq_true (by omega)),if_pos (decide_eq_true (by omega)),if_pos (decide_eq_true (by omega)),vF z h,Option.bind_some];dsimp only;rw[Nu _ _ hk.2.1 (by omega)];simp only[Option.bind_some,kX,HB,vr];have gN:∀(k:Int)(g:aI->Ask->Option (bz×aI)),a.kind=k->1<=k->k<7->g ⟨s⟩ a=some ((dG s a).2,⟨(dG s a).1⟩)->∀(F:bz×aI->State),F ((dG s a).2,⟨(dG s a).1⟩)=(dG s a).1->∀(G:bz×aI->State),G ((dG s a).2,⟨(dG s a).1⟩)=qA (dG s a).1 a.mark (dG s a).2->
      (if ai .gtr (a.mark.size:Int) 64=true then some (s,(⟨4,0,0⟩:bz),(0:Int))else
       if(h_ s.kept a.mark).isSome=true then if dJ s.kept.length ((lJ s.kept a.mark:Nat):Int)=true then(fH s.kept ((lJ s.kept a.mark:Nat):Int)).bind λx=>some (s,x.cH,0)else none
       else if(!decide (a.mark=ByteArray.empty))=true then if ai .geq (Int.ofNat s.kept.length) 4096=true then some (s,⟨7,0,0⟩,0)else(g ⟨s⟩ a).bind λp=>if decide (0<=((lJ s.kept a.mark:Nat):Int)/\((lJ s.kept a.mark:Nat):Int)<=(s.kept.length:Int)/\s.kept.length<=1000000)=true then some (G p,p.1,0)else none
       else(g ⟨s⟩ a).bind λp=>some (F p,p.1,0))=some ((eU s a).1,(eU s a).2,0):=by
    intro k g hkk h1 h7 hg F hF G hG;unfold eU;rw[if_neg (show¬(a.kind<1\/a.kind>=7) by omega),hg];by_cases k3:(a.mark.size:Int)>64
    · rw[if_pos (by simpa[ai]using k3),if_pos k3]
    rw[if_neg (by simpa[ai]using k3),if_neg k3]
    cases hfm:h_ s.kept a.mark with
    | some x=>
      obtain⟨h3,h4⟩:=(DJ hk.2.1 a.mark).2 x hfm;have hlt:=(List.getElem?_eq_some_iff.1 h3).1;rw[if_pos (by rfl),if_pos (gq hlt),cT (by omega) (by rw[Int.toNat_natCast];exact h3)];rfl
    | none=>
      rw[if_neg (by decide)];dsimp only;by_cases k4:a.mark=ByteArray.empty
      · rw[if_neg (by simp[k4]),if_pos k4,Option.bind_some,hF]
      rw[if_pos (by simp[k4]),if_neg k4];by_cases k5:s.kept.length>=4096
      · rw[if_pos (by simp[ai];omega),if_pos k5]
      rw[if_neg (by simp[ai];omega),if_neg k5,Option.bind_some,if_pos (decide_eq_true ⟨by omega,by omega,by omega⟩),hG]
  have kd:=mz s a;have fin:∀d:State,d.kept=s.kept->(⟨d.limit,d.cells,d.af,d.aA,d.aa,d.aj,s.kept⟩:State)=d:=λd e=>by rw[<-e]
  have NC:∀(d:State)(r:bz),d.kept=s.kept->(⟨d.limit,d.cells,d.af,d.aA,d.aa,d.aj,bt s.kept (((lJ s.kept a.mark:Nat):Int)).toNat ⟨a.mark,r⟩⟩:State)=qA d a.mark r:=λd r e=>by unfold qA;rw[e,Int.toNat_natCast]
  by_cases k1:a.kind=1
  · rw[if_pos (by simpa using k1)]
    exact gN 1 Mj k1 (by decide) (by decide) (by unfold dG;rw[if_pos k1];exact Nv s a h hl) (λjs=>(⟨js.2.state.limit,js.2.state.cells,js.2.state.af,js.2.state.aA,js.2.state.aa,js.2.state.aj,s.kept⟩:State)) (fin _ kd) (λgK=>(⟨gK.2.state.limit,gK.2.state.cells,gK.2.state.af,gK.2.state.aA,gK.2.state.aa,gK.2.state.aj,(bt s.kept (((lJ s.kept a.mark:Nat):Int)).toNat (⟨a.mark,gK.1⟩:Kept))⟩:State)) (NC _ _ kd)
  rw[if_neg (by simpa using k1)];by_cases k2:a.kind=2
  · rw[if_pos (by simpa using k2)]
    exact gN 2 K3 k2 (by decide) (by decide) (by unfold dG;rw[if_neg k1,if_pos k2];exact Nx s a h) (λjs=>(⟨js.2.state.limit,js.2.state.cells,js.2.state.af,js.2.state.aA,js.2.state.aa,js.2.state.aj,s.kept⟩:State)) (fin _ kd) (λgK=>(⟨gK.2.state.limit,gK.2.state.cells,gK.2.state.af,gK.2.state.aA,gK.2.state.aa,gK.2.state.aj,(bt s.kept (((lJ s.kept a.mark:Nat):Int)).toNat (⟨a.mark,gK.1⟩:Kept))⟩:State)) (NC _ _ kd)
  rw[if_neg (by simpa using k2)];by_cases k3:a.kind=3
  · rw[if_pos (by simpa using k3)]
    exact gN 3 Mp k3 (by decide) (by decide) (by unfold dG;rw[if_neg k1,if_neg k2,if_pos k3];exact Ny s a h) (λjs=>(⟨js.2.state.limit,js.2.state.cells,js.2.state.af,js.2.state.aA,js.2.state.aa,js.2.state.aj,s.kept⟩:State)) (fin _ kd) (λgK=>(⟨gK.2.state.limit,gK.2.state.cells,gK.2.state.af,gK.2.state.aA,gK.2.state.aa,gK.2.state.aj,(bt s.kept (((lJ s.kept a.mark:Nat):Int)).toNat (⟨a.mark,gK.1⟩:Kept))⟩:State)) (NC _ _ kd)
  rw[if_neg (by simpa using k3)];have hsame:=CN (s:=s) k1 k2 k3;have fin':∀d:State,d.kept=s.kept->d.aa=s.aa/\d.aj=s.aj->(⟨d.limit,d.cells,d.af,d.aA,s.aa,s.aj,s.kept⟩:State)=d:=λd e e2=>by rw[<-e,<-e2.1,<-e2.2]
  have HK:∀(d:State)(r:bz),d.kept=s.kept->d.aa=s.aa/\d.aj=s.aj->(⟨d.limit,d.cells,d.af,d.aA,s.aa,s.aj,bt s.kept (((lJ s.kept a.mark:Nat):Int)).toNat ⟨a.mark,r⟩⟩:State)=qA d a.mark r:=λd r e e2=>by unfold qA;rw[e,e2.1,e2.2,Int.toNat_natCast]
  by_cases k4:a.kind=4
  · rw[if_pos (by simpa using k4)]
    exact gN 4 K5 k4 (by decide) (by decide) (by unfold dG;rw[if_neg k1,if_neg k2,if_neg k3,if_pos k4];exact Nz s a z hf.2.2.2 hl) (λjs=>(⟨js.2.state.limit,js.2.state.cells,js.2.state.af,js.2.state.aA,s.aa,s.aj,s.kept⟩:State)) (fin' _ kd hsame) (λgK=>(⟨gK.2.state.limit,gK.2.state.cells,gK.2.state.af,gK.2.state.aA,s.aa,s.aj,(bt s.kept (((lJ s.kept a.mark:Nat):Int)).toNat (⟨a.mark,gK.1⟩:Kept))⟩:State)) (HK _ _ kd hsame)
  rw[if_neg (by simpa using k4)];by_cases k5:a.kind=5
  · rw[if_pos (by simpa using k5)]
    exact gN 5 K7 k5 (by decide) (by decide) (by unfold dG;rw[if_neg k1,if_neg k2,if_neg k3,if_neg k4,if_pos k5];exact NA s a h) (λjs=>(⟨js.2.state.limit,js.2.state.cells,js.2.state.af,js.2.state.aA,s.aa,s.aj,s.kept⟩:State)) (fin' _ kd hsame) (λgK=>(⟨gK.2.state.limit,gK.2.state.cells,gK.2.state.af,gK.2.state.aA,s.aa,s.aj,(bt s.kept (((lJ s.kept a.mark:Nat):Int)).toNat (⟨a.mark,gK.1⟩:Kept))⟩:State)) (HK _ _ kd hsame)
  rw[if_neg (by simpa using k5)];by_cases k6:a.kind=6
  · rw[if_pos (by simpa using k6)]
    exact gN 6 K8 k6 (by decide) (by decide) (by unfold dG;rw[if_neg k1,if_neg k2,if_neg k3,if_neg k4,if_neg k5];exact NB s a (by omega)) (λjs=>(⟨js.2.state.limit,js.2.state.cells,js.2.state.af,js.2.state.aA,s.aa,s.aj,s.kept⟩:State)) (fin' _ kd hsame) (λgK=>(⟨gK.2.state.limit,gK.2.state.cells,gK.2.state.af,gK.2.state.aA,s.aa,s.aj,(bt s.kept (((lJ s.kept a.mark:Nat):Int)).toNat (⟨a.mark,gK.1⟩:Kept))⟩:State)) (HK _ _ kd hsame)
  rw[if_neg (by simpa using k6)];unfold eU;rw[if_pos (show(a.kind<1\/a.kind>=7) by omega)]
end Go.Proofs.aaa
end
section
namespace Go.Proofs.aaa
open Go.bA Go.IntWalk
abbrev oK (s:State)(l:List Cell):State:=⟨s.limit,l,s.af,s.aA,s.aa,s.aj,s.kept⟩
abbrev je (s:State)(b:aF):State:=⟨s.limit,s.cells,b,s.aA,s.aa,s.aj,s.kept⟩
abbrev A8 (s:State)(l:List ah):State:=⟨s.limit,s.cells,s.af,l,s.aa,s.aj,s.kept⟩
def jn (s:State)(o:Order)(k:Int):State×Int:=(oK s (bV k s.cells o.lines).1,(bV k s.cells o.lines).2)
def eB (s:State)(o:Order)(m:Int):State×Int:=(A8 s (dz s.aA o.id m 0),fE s.aA o.id m 0)
def dw (s:State)(o:Order)(x:Int):State×Int:=
 if x=1 then jn s o 1 else if x=6 then jn s o 2
 else if x=2 then(je s (ju s.af o.id o.aP).1,(ju s.af o.id o.aP).2)
 else if x=7 then(if(aG s.af o.id).bC=0 then(s,0)else(je s (di s.af o.id 1).1,(di s.af o.id 1).2.2))
 else if x=4 then(je s (di s.af o.id 3).1,(di s.af o.id 3).2.2)
 else if x=9 then(je s (ez s.af o.id ((aG s.af o.id).aT -(aG s.af o.id).aX)).1,(ez s.af o.id ((aG s.af o.id).aT -(aG s.af o.id).aX)).2)
 else if x=3 then eB s o 1 else if x=8 then eB s o 4 else if x=10 then eB s o 5
 else if x=5 then(if(eB s o 2).2≠0 then(s,(eB s o 2).2)else jn (eB s o 2).1 o 3)
 else if(eB s o 6).2≠0 then(s,(eB s o 6).2)else jn (eB s o 6).1 o 4
theorem CO (s:State)(o:Order)(x:Int):(dw s o x).1.aa=s.aa/\(dw s o x).1.aj=s.aj/\(dw s o x).1.kept=s.kept/\(dw s o x).1.limit=s.limit:=by
 have key:∀(c:Prop) [Decidable c](A B:State×Int),(A.1.aa=s.aa/\A.1.aj=s.aj/\A.1.kept=s.kept/\A.1.limit=s.limit)->(B.1.aa=s.aa/\B.1.aj=s.aj/\B.1.kept=s.kept/\B.1.limit=s.limit)->((if c then A else B).1.aa=s.aa/\(if c then A else B).1.aj=s.aj/\(if c then A else B).1.kept=s.kept/\(if c then A else B).1.limit=s.limit):=λc _ A B h1 h2=>by
  by_cases h:c
  ·rw[if_pos h];exact h1
  ·rw[if_neg h];exact h2
 unfold dw
 repeat' (first|exact⟨rfl,rfl,rfl,rfl⟩|refine key _ _ _ ?_ ?_)
abbrev LA (s:State)(o:Order)(x:Int)(g:Option (Int×aI)):Prop:=∃d:State,g=some ((dw s o x).2,⟨d⟩)/\((dw s o x).2=0->d=(dw s o x).1)
theorem j9 {w:Int}{d1 d2:State}{r:State×Int}(h:r=(d1,w)){g:Option (Int×aI)}(hg:g=if ai .neq w 0=true then some (w,(⟨d2⟩:aI))else some (0,⟨d1⟩)):∃d:State,g=some (r.2,⟨d⟩)/\(r.2=0->d=r.1):=by
 subst h;by_cases c:w=0
 ·exact⟨d1,by rw[hg,if_neg (by simp[ai,c]),c],λ_=>rfl⟩
 ·exact⟨d2,by rw[hg,if_pos (by simp[ai,c])],λh=>absurd h c⟩
theorem mB (k:Int)(gm:List Cell->Int->Int->Int->Option (List Cell×Int))(hm:∀l i w n,l.length<=4611686018427387904->gm l i w n=some (cm k l i w n)){s:State}(hc:s.cells.length<=4096){lines:List aU}(hl:lines.length<=4611686018427387904)(mk:List Cell->State):
  ∃d:State,((hcl s.cells).bind λp=>(bh (λ(s6:List Cell)(_:Int)(eu:aU)=>(gm s6 eu.item eu.aE eu.gF).bind λiq=>if(ai .neq iq.2 0)=true then some (.inr iq.2)else some (.inl iq.1)) lines p:Option (List Cell⊕Int)).bind λL4=>
   match L4 with
   | .inl eS=>some ((0:Int),(⟨mk eS⟩:aI))
   | .inr Oi=>if(ai .neq Oi 0)=true then some (Oi,⟨mk []⟩)else some (0,⟨mk []⟩))=some ((bV k s.cells lines).2,⟨d⟩)/\((bV k s.cells lines).2=0->d=mk (bV k s.cells lines).1):=by
 rw[mA (show s.cells.length<=1000000000000 by omega),Option.bind_some,u_ k (λs i x hs=>by
  rw[hm s x.item x.aE x.gF hs,Option.bind_some];simp only[ai,bne_iff_ne];split<;>rfl) hl (by omega)]
 by_cases c:(bV k s.cells lines).2≠0
 ·rw[if_pos c,Option.bind_some];dsimp only;rw[if_pos (by simpa[ai]using c)];exact⟨_,rfl,λh=>absurd h c⟩
 ·rw[if_neg c,Option.bind_some];exact⟨_,by rw[Decidable.not_not.1 c],λ_=>rfl⟩
theorem ND {s:State}(z:bX s)(h:bY s){o:Order}{n:Int}(x:Int)(hf:bq Order.id s.aa n=some o):LA s o x (Oh ⟨s⟩ n x):=by
 have t:=z.typed;have hr:=(bR.1 h.aa).1;have NF:=bX.wO h;have hg:=fj Order.id hr hf;have Kc:=(List.getElem?_eq_some_iff.1 hg).1;obtain⟨hm,he⟩:=b_ Order.id hf;have hl:=t.lines o hm;have hid:gH o.id:=by
  obtain⟨h1,h2⟩:=(bR.1 h.aa).2 o hm;unfold fo at h2;rw[decide_eq_true_eq]at h2;exact⟨by omega,h2.1⟩
 have V7:Cg s.af o.id=some (aG s.af o.id,0):=by rw[J2 h.af,if_pos hid]
 have hsh:=λm=>CH s.aA o.id m 0 (by have:=j8 (Int.le_refl 0) (by decide) h.aA;omega) t.eP;have V8:=h.af.bC o.id;unfold Oh LA;dsimp only;rw[mw _ _ (by omega) hr,Option.bind_some];dsimp only;rw[if_pos (gq Kc),cT (x:=o) (by omega) (by rw[Int.toNat_natCast];exact hg),Option.bind_some];simp only[J1 h.af,J3 h.af,J4 h.af,J5 h.af,V7,hsh,Option.bind_some,Hz h.af];by_cases x1:x=1
 ·subst x1;rw[if_pos (by decide)];exact mB 1 Eo JV NF.2.2.2 hl λl=>oK s l
 rw[if_neg (by simpa[ai]using x1)];by_cases x6:x=6
 ·subst x6;rw[if_pos (by decide)];exact mB 2 Ep JW NF.2.2.2 hl λl=>oK s l
 rw[if_neg (by simpa[ai]using x6)];by_cases x2:x=2
 ·subst x2;rw[if_pos (by decide)];exact j9 (r:=dw s o 2) rfl rfl
 rw[if_neg (by simpa[ai]using x2)];by_cases x7:x=7
 ·subst x7;rw[if_pos (by decide),if_pos (by decide)];have e:dw s o 7=if(aG s.af o.id).bC=0 then(s,0)else(je s (di s.af o.id 1).1,(di s.af o.id 1).2.2):=rfl;rw[e];by_cases c:(aG s.af o.id).bC=0
  ·rw[if_neg (by simp[ai,c]),if_pos c];exact⟨s,rfl,λ_=>rfl⟩
  ·rw[if_pos (by simp[ai];omega),if_neg c];exact j9 rfl rfl
 rw[if_neg (by simpa[ai]using x7)];by_cases x4:x=4
 ·subst x4;rw[if_pos (by decide)];exact j9 (r:=dw s o 4) rfl rfl
 rw[if_neg (by simpa[ai]using x4)];by_cases x9:x=9
 ·subst x9;rw[if_pos (by decide),if_pos (by decide)];exact j9 (r:=dw s o 9) rfl rfl
 rw[if_neg (by simpa[ai]using x9)];by_cases x3:x=3
 ·subst x3;rw[if_pos (by decide)];exact j9 (r:=dw s o 3) rfl rfl
 rw[if_neg (by simpa[ai]using x3)];by_cases x8:x=8
 ·subst x8;rw[if_pos (by decide)];exact j9 (r:=dw s o 8) rfl rfl
 rw[if_neg (by simpa[ai]using x8)];by_cases eu:x=10
 ·subst eu;rw[if_pos (by decide)];exact j9 (r:=dw s o 10) rfl rfl
 rw[if_neg (by simpa[ai]using eu)];by_cases x5:x=5
 ·subst x5;rw[if_pos (by decide)];have e:dw s o 5=if(eB s o 2).2≠0 then(s,(eB s o 2).2)else jn (eB s o 2).1 o 3:=rfl;rw[e];by_cases c:fE s.aA o.id 2 0=0
  ·rw[if_neg (by simp[ai,c]),if_neg (λh=>h c)];exact mB 3 Er JX NF.2.2.2 hl λl=>oK (A8 s (dz s.aA o.id 2 0)) l
  ·rw[if_pos (by simp[ai,c]),if_pos (show(eB s o 2).2≠0 from c)];exact⟨_,rfl,λh=>absurd h c⟩
 rw[if_neg (by simpa[ai]using x5)];have e:dw s o x=if(eB s o 6).2≠0 then(s,(eB s o 6).2)else jn (eB s o 6).1 o 4:=by unfold dw;simp only[x1,x6,x2,x7,x4,x9,x3,x8,eu,x5,if_false]
 rw[e];by_cases c:fE s.aA o.id 6 0=0
 ·rw[if_neg (by simp[ai,c]),if_neg (show¬(eB s o 6).2≠0 fromλh=>h c)];exact mB 4 Es JY NF.2.2.2 hl λl=>oK (A8 s (dz s.aA o.id 6 0)) l
 ·rw[if_pos (by simp[ai,c]),if_pos (show(eB s o 6).2≠0 from c)];exact⟨_,rfl,λh=>absurd h c⟩
end Go.Proofs.aaa
end
