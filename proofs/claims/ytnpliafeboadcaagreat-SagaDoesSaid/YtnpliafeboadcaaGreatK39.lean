/- Texts that the law leans on, part 39. No conditions. -/
import Derived.Test.YtnpliafeboadcaaGreatK23
import Derived.Test.YtnpliafeboadcaaGreatK30
import Derived.Test.YtnpliafeboadcaaGreatK32
import Derived.Test.YtnpliafeboadcaaGreatK38
section
namespace Go.Proofs.aaa
open Go.bA Go.IntWalk
theorem abS {α:Type}{l:List α}{k:Nat}(h:k<=l.length)(x:α):(l.take k++[x])++(([]:List α)++AM l (k:Int) (Int.ofNat l.length))=bt l k x:=by
 have e:(l.drop k).take ((l.length:Int) -(k:Int)).toNat=l.drop k:=List.take_of_length_le (by rw[List.length_drop];omega);unfold AM bt;rw[List.nil_append,Int.toNat_natCast,show(Int.ofNat l.length)=(l.length:Int) from rfl,e];simp
theorem abg {α:Type}{l:List α}(p:α->Bool)(L:Nat)(hL:L<=l.length)(hs:∀(a:Nat) x,l[a]?=some x->(p x=true↔a<L))(hl:l.length<1000000){body:Int->Option (Int⊕Int)}
  (hb:∀s,body s=if ai .lss s (Int.ofNat l.length)=true then if dJ l.length s=true then(fH l s).bind λx=>if p x=true then some (.inl (aH .add .i64 s 1))else some (.inr s)else none else some (.inr s)):iB body 1000000 0=some (L:Int):=by
 refine abp p L hL hs (by omega) (λk x hx=> ?_) ?_ 1000000 0 (by omega) (by omega)
 ·have hlt:=(List.getElem?_eq_some_iff.1 hx).1;rw[hb,if_pos (by simp[ai];omega),if_pos (gq hlt),cT (by omega) (by rw[Int.toNat_natCast];exact hx),Option.bind_some,vj (by omega) (by omega)];split<;>rfl
 ·rw[hb,if_neg (by simp[ai])]
theorem bX.wO {s:State}(h:bY s):s.aa.length<=1024/\s.aj.length<=1024/\s.kept.length<=4096/\s.cells.length<=4096:=by
 have h1:=h.wO;have h2:=h.limit;have h3:=h.A4;have h4:=h.kept;have h5:=(cE.1 h.cells).1;unfold kV at h4;rw[Bool.and_eq_true,decide_eq_true_eq]at h4;refine⟨by omega,by omega,by omega,h5⟩
theorem adK (s:State)(a:Ask)(z:bX s)(h:bY s)(hl:a.lines.length*32<=140737488355328):UZ s a=some (fS s a):=by
 have hr:=(bR.1 h.aa).1;have hf:=bX.wO h;have hlb:=nt Order.id s.aa a.order;have zo:=z.aa;have zs:=z.aj;unfold UZ fS;by_cases c0:a.order<1
 ·rw[if_pos (by simpa[ai]using c0),if_neg (λh=>by omega)];rfl
 rw[if_neg (by simpa[ai]using c0)];by_cases c1:a.order>1024
 ·rw[if_pos (by simpa[ai]using c1),if_neg (λh=>by omega)];rfl
 rw[if_neg (by simpa[ai]using c1),if_pos ⟨by omega,by omega⟩,acQ _ (by omega),Nm s _ (by omega),Option.bind_some,Option.bind_some];by_cases c2:(dW a.lines).2≠0
 ·rw[if_pos (by simpa[ai]using c2),if_pos c2];rfl
 rw[if_neg (by simpa[ai]using c2),if_neg c2]
 cases hfn:bq Order.id s.aa a.order with
 |some o=>simp[abf]
 |none=>
  dsimp only;simp only[Option.isSome_none,Bool.false_eq_true,if_false];rw[fK];by_cases c4:(s.aa.length:Int)>=s.limit
  ·rw[if_pos (by simpa[ai]using c4),if_pos c4];rfl
  rw[if_neg (by simpa[ai]using c4),if_neg c4,List.nil_append,if_pos (decide_eq_true hl),Np s z,Option.bind_some];rw[abg (λx=>ai .lss x.id a.order) (eO Order.id s.aa a.order) hlb (λk x hx=>by
   simp only[ai,decide_eq_true_eq];exact jZ Order.id hr a.order k x hx) (by omega) (λs=>rfl),Option.bind_some]
  have e1:decide (0<=((eO Order.id s.aa a.order:Nat):Int)/\((eO Order.id s.aa a.order:Nat):Int)<=Int.ofNat s.aa.length/\Int.ofNat s.aa.length<=(s.aa.length:Int))=true:=decide_eq_true ⟨by omega,by show _<=(s.aa.length:Int);omega,Int.le_refl _⟩;have e2:decide (0<=(0:Int)/\(0:Int)<=((eO Order.id s.aa a.order:Nat):Int)/\((eO Order.id s.aa a.order:Nat):Int)<=(s.aa.length:Int))=true:=decide_eq_true ⟨by omega,by omega,by omega⟩;have l1:(([]:List Order)++AM s.aa ((eO Order.id s.aa a.order:Nat):Int) (Int.ofNat s.aa.length)).length<=s.aa.length:=by unfold AM;rw[List.nil_append,List.length_take,List.length_drop];omega
  have l2:∀x:Order,(s.aa.take (eO Order.id s.aa a.order)++[x]).length<=s.aa.length+1:=λx=>by rw[List.length_append,List.length_take];simp;omega
  rw[if_pos e1,if_pos (decide_eq_true (by omega)),if_pos e2,Int.toNat_natCast,if_pos (decide_eq_true (by have:=l2 (⟨a.order,a.lines,(dW a.lines).1,1⟩:Order);omega)),abS hlb,if_pos (decide_eq_true (by rw[bW];omega)),if_pos (decide_eq_true (by simp;omega))]
def qA (s:State)(m:ByteArray)(r:bz):State:=⟨s.limit,s.cells,s.af,s.aA,s.aa,s.aj,bt s.kept (lJ s.kept m) ⟨m,r⟩⟩
theorem Nw (l:List Kept)(m:ByteArray):lJ l m<=l.length:=List.countP_le_length
theorem nB {l:List Kept}(h:kV l=true):l.length<=4096/\vA l/\∀x∈l,gZ x=true/\x.mark≠ByteArray.empty:=by
 unfold kV at h;rw[Bool.and_eq_true,decide_eq_true_eq,qx (dA .lss) Kept.mark gZ vt]at h;refine⟨by omega,h.2.1,λx hx=> ?_⟩;have:=h.2.2 x hx;rw[xI,decide_eq_true_eq]at this;exact⟨this.2,this.1⟩
theorem E5 {l:List Kept}(h1:l.length<=4096)(h2:vA l)(h3:∀x∈l,gZ x=true/\x.mark≠ByteArray.empty):kV l=true:=by
 unfold kV;rw[Bool.and_eq_true,decide_eq_true_eq,qx (dA .lss) Kept.mark gZ vt];refine⟨by omega,h2,λx hx=> ?_⟩;rw[xI,decide_eq_true_eq];exact⟨(h3 x hx).2,(h3 x hx).1⟩
theorem adL (s:State)(m:ByteArray)(r:bz)(z:bX s)(hr:vA s.kept)(hk:s.kept.length<=4096):g46 s m r=some (qA s m r):=by
 have hlb:=Nw s.kept m;unfold g46 qA;rw[Np s z,Option.bind_some,abg (λx=>dA .lss x.mark m) (lJ s.kept m) hlb (fL hr m) (by omega) (λs=>rfl),Option.bind_some];have e1:decide (0<=((lJ s.kept m:Nat):Int)/\((lJ s.kept m:Nat):Int)<=Int.ofNat s.kept.length/\Int.ofNat s.kept.length<=(s.kept.length:Int))=true:=decide_eq_true ⟨by omega,by show _<=(s.kept.length:Int);omega,Int.le_refl _⟩;have e2:decide (0<=(0:Int)/\(0:Int)<=((lJ s.kept m:Nat):Int)/\((lJ s.kept m:Nat):Int)<=(s.kept.length:Int))=true:=decide_eq_true ⟨by omega,by omega,by omega⟩;have l1:(([]:List Kept)++AM s.kept ((lJ s.kept m:Nat):Int) (Int.ofNat s.kept.length)).length<=s.kept.length:=by unfold AM;rw[List.nil_append,List.length_take,List.length_drop];omega
 have l2:∀x:Kept,(s.kept.take (lJ s.kept m)++[x]).length<=s.kept.length+1:=λx=>by rw[List.length_append,List.length_take];simp;omega
 rw[if_pos e1,if_pos (decide_eq_true (by omega)),if_pos e2,Int.toNat_natCast,if_pos (decide_eq_true (by have:=l2 (⟨m,r⟩:Kept);omega)),abS hlb,if_pos (decide_eq_true (by rw[bW];omega))]
theorem HH (l:List Order)(n d:Int):(dF l n d).map Order.id=l.map Order.id:=by
 unfold dF;rw[List.map_map];refine List.map_congr_left λo _=> ?_;show(if o.id=n then _ else o:Order).id=o.id;split<;>rfl
theorem jD {l:List Order}(h:bU Order.id l)(n d:Int):bU Order.id (dF l n d):=by
 have:(dF l n d).map Order.id|>.Pairwise (·<·):=by rw[HH];exact List.pairwise_map.2 h
 exact List.pairwise_map.1 this
theorem rS (l:List Order)(n d:Int):(dF l n d).length=l.length:=List.length_map ..
theorem n_ (n d m:Int):∀(l:List Order),bq Order.id (dF l n d) m=(bq Order.id l m).map λo=>if m=n then⟨o.id,o.lines,o.aP,d⟩else o
 |[]=>rfl
 |o::l=>by
  have ih:=n_ n d m l;unfold dF at ih⊢;rw[List.map_cons,dY,dY,ih];have e:(if o.id=n then(⟨o.id,o.lines,o.aP,d⟩:Order)else o).id=o.id:=by split<;>rfl
  rw[e];by_cases h:o.id=m
  ·rw[if_pos h,if_pos h,Option.map_some,h]
  ·rw[if_neg h,if_neg h]
theorem xM {l:List Order}{n d:Int}{o:Order}(h:o∈dF l n d):∃p∈l,o.id=p.id/\o.lines=p.lines/\o.aP=p.aP/\(o.status=p.status/\p.id≠n\/o.status=d/\p.id=n):=by
 unfold dF at h;obtain⟨p,hp,rfl⟩:=List.mem_map.1 h;refine⟨p,hp, ?_⟩;split
 ·rename_i e;exact⟨rfl,rfl,rfl,.inr ⟨rfl,e⟩⟩
 ·rename_i e;exact⟨rfl,rfl,rfl,.inl ⟨rfl,e⟩⟩
theorem A6 (l:List Order)(n d m:Int):eO Order.id (dF l n d) m=eO Order.id l m:=by
 unfold eO dF;rw[List.countP_map]
 congr 1
 funext o;show decide ((if o.id=n then(⟨o.id,o.lines,o.aP,d⟩:Order)else o).id<m)=_;split<;>rfl
theorem A7 (l:List Order)(n d e:Int):dF (dF l n d) n e=dF l n e:=by
 unfold dF;rw[List.map_map];refine List.map_congr_left λo _=> ?_;show(if(if o.id=n then(⟨o.id,o.lines,o.aP,d⟩:Order)else o).id=n then _ else _)=_;by_cases h:o.id=n
 ·simp[h]
 ·simp[h]
theorem bX.dF {s:State}(z:bX s)(n d:Int)(hd:0<=d)(sg:List aC)(hs:sg.length*32<=140737488355328):bX ⟨s.limit,s.cells,s.af,s.aA,Go.Proofs.aaa.dF s.aa n d,sg,s.kept⟩where
 cells:=z.cells
 aK:=z.aK
 i_:=z.i_
 aA:=z.aA
 aa:=by show(Go.Proofs.aaa.dF s.aa n d).length*48<=_;rw[rS];exact z.aa
 lines:=λx hx=>by obtain⟨p,hp,-,h2,-⟩:=xM hx;rw[h2];exact z.lines p hp
 aj:=hs
 kept:=z.kept
 eP:=z.eP
 aad:=λx hx=>by
  obtain⟨p,hp,-,-,-,h|h⟩:=xM hx
  ·rw[h.1];exact z.aad p hp
  ·rw[h.1];exact hd
theorem E6 {s:State}(n:Int){x:aC}(hx:dr s.aj n=some x)(hl:s.aj.length<=4611686018427387904):bh (λ(_:Unit)(i:Int)(x:aC)=>if(ai .eql x.order n)=true then some (.inr i)else some (.inl ())) s.aj ()=some (Sum.inr ((vB s.aj n:Nat):Int)):=by
 have tP:=zm hx;have HI:=(nZ hx).2;rcases cP (step:=λ(_:Unit)(i:Int)(x:aC)=>if(ai .eql x.order n)=true then some (Sum.inr i)else some (.inl ())) (s0:=()) (λj _=>∀y∈s.aj.take j,y.order≠n) (λr=>r=((vB s.aj n:Nat):Int)) hl (by simp) (λj y _ hy hi=>by
  by_cases e:y.order=n
  ·rw[if_pos (by simpa[ai]using e)];refine .inr ⟨_,rfl, ?_⟩;have hj:=(List.getElem?_eq_some_iff.1 hy).1;have:vB s.aj n=j:=by
    unfold vB;rw[List.findIdx_eq hj];refine⟨by rw[(List.getElem?_eq_some_iff.1 hy).2];simpa using e,λi hij=> ?_⟩;have:=hi (s.aj[i]'(by omega)) (List.mem_take_iff_getElem.2 ⟨i,by omega,rfl⟩)
    simpa using this
   rw[this]
  ·rw[if_neg (by simpa[ai]using e)];refine .inl ⟨_,rfl,λz hz=> ?_⟩;rw[take_one hy]at hz;rcases List.mem_append.1 hz with hz|hz
   ·exact hi z hz
   ·rw[List.mem_singleton]at hz;rw[hz];exact e)with⟨s',e,hi⟩|⟨r,e,hb⟩
 ·rw[List.take_length]at hi;exact absurd HI (hi x (List.mem_of_getElem? tP))
 ·rw[e,hb]
def kI (s:State)(a:Ask):State×bz:=
 match bq Order.id s.aa a.order with
 |none=>(s,⟨11,0,0⟩)
 |some o=>if o.status≠1 then(s,⟨9,0,0⟩)else
  match dr s.aj a.order with
  |none=>(s,⟨0,0,0⟩)
  |some x=>
   if cw 2 x.pos true=true then(⟨s.limit,s.cells,s.af,s.aA,dF s.aa a.order 4,s.aj.set (vB s.aj a.order) ⟨a.order,2,x.pos,true⟩,s.kept⟩,⟨0,4,o.aP⟩)
   else(⟨s.limit,s.cells,s.af,s.aA,dF s.aa a.order 5,s.aj.eraseIdx (vB s.aj a.order),s.kept⟩,⟨0,5,o.aP⟩)
theorem rT {α:Type}:∀(l:List α)(k:Nat)(x:α),(l.set k x).eraseIdx k=l.eraseIdx k
 |[],_,_=>rfl
 |_::_,0,_=>rfl
 |y::l,k+1,x=>by rw[List.set_cons_succ,List.eraseIdx_cons_succ,List.eraseIdx_cons_succ,rT]
theorem xN {s:State}(h:bY s){o:Order}{n:Int}(hf:bq Order.id s.aa n=some o)(hs:gI o.status≠0):∃x,dr s.aj n=some x:=by
 obtain⟨hm,he⟩:=b_ Order.id hf;have:=h.nA.order o hm
 cases hx:dr s.aj n with
 |some x=>exact⟨x,rfl⟩
 |none=>rw[<-he]at hx;exact absurd (this.2 hx) hs
theorem adM (s:State)(a:Ask)(z:bX s)(h:bY s):g91 s a=some (kI s a):=by
 have hr:=(bR.1 h.aa).1;have hf:=bX.wO h;unfold g91 kI;rw[Nm s _ (by omega),Option.bind_some]
 cases hfn:bq Order.id s.aa a.order with
 |none=>simp[abf]
 |some o=>
  dsimp only;rw[if_neg (by decide)];by_cases c1:o.status≠1
  ·rw[if_pos (by simpa[ai]using c1),if_pos c1];rfl
  rw[if_neg (by simpa[ai]using c1),if_neg c1,abF s z,Option.bind_some];obtain⟨x,hx⟩:=xN h hfn (by rw[Decidable.not_not.1 c1];decide);have tP:=zm hx;have HI:=(nZ hx).2;have hlt:=(List.getElem?_eq_some_iff.1 tP).1;unfold ac9;rw[hx];dsimp only;rw[E6 (s:=⟨s.limit,s.cells,s.af,s.aA,dF s.aa a.order 4,s.aj,s.kept⟩) a.order hx (by show s.aj.length<=_;omega),Option.bind_some];dsimp only;rw[Option.bind_some,if_pos (gq hlt),cT (by omega) (by rw[Int.toNat_natCast];exact tP),Option.bind_some];simp only[Int.toNat_natCast,List.set_set];have qV:(s.aj.set (vB s.aj a.order) ⟨x.order,2,x.pos,true⟩)[vB s.aj a.order]?=some ⟨x.order,2,x.pos,true⟩:=tN tP;have z1:=z.dF a.order 4 (by decide) (s.aj.set (vB s.aj a.order) ⟨x.order,2,x.pos,true⟩) (by rw[List.length_set];exact z.aj);rw[acS _ _ ⟨x.order,2,x.pos,true⟩ z1 qV (by show(s.aj.set _ _).length<=_;rw[List.length_set];omega) (.inr (.inl rfl)),Option.bind_some];dsimp only;by_cases hn:cw 2 x.pos true=true
  ·rw[if_pos hn,if_pos hn];dsimp only;rw[Nm _ _ (by show(dF _ _ _).length<=_;rw[rS];omega),Option.bind_some];dsimp only;rw[n_,hfn,Option.map_some,if_pos rfl,HI]
  ·rw[if_neg hn,if_neg hn];dsimp only[settled];rw[Nm _ _ (by show(dF _ _ _).length<=_;rw[rS,rS];omega),Option.bind_some];dsimp only;rw[HI,A7,n_,hfn,Option.map_some,if_pos rfl,rT];rfl
theorem tX (o:Order):Cj o=some ⟨0,o.status,o.aP⟩:=rfl
theorem Nx (s:State)(a:Ask)(h:bY s):K3 ⟨s⟩ a=some ((kI s a).2,⟨(kI s a).1⟩):=by
 have hr:=(bR.1 h.aa).1;have hf:=bX.wO h;unfold K3 kI;dsimp only;rw[mw _ _ (by omega) hr,Option.bind_some];dsimp only
 cases hfn:bq Order.id s.aa a.order with
 |none=>simp[kX]
 |some o=>
  dsimp only;have hg:=fj Order.id hr hfn;have Kc:=(List.getElem?_eq_some_iff.1 hg).1;rw[if_neg (show¬(!(some o).isSome)=true fromλh=>by cases h),if_pos (gq Kc),cT (by omega) (by rw[Int.toNat_natCast];exact hg),Option.bind_some];by_cases c1:o.status≠1
  ·rw[if_pos (by simpa[ai]using c1),if_pos c1];rfl
  rw[if_neg (by simpa[ai]using c1),if_neg c1];obtain⟨x,hx⟩:=xN h hfn (by rw[Decidable.not_not.1 c1];decide);have tP:=zm hx;have HI:=(nZ hx).2;have hlt:=(List.getElem?_eq_some_iff.1 tP).1;rw[E6 a.order hx (by omega),Option.bind_some,hx];dsimp only;rw[if_pos (gq hlt),cT (by omega) (by rw[Int.toNat_natCast];exact tP),Option.bind_some];simp only[Int.toNat_natCast,List.set_set];rw[nX hr 4 hfn];have qV:(s.aj.set (vB s.aj a.order) ⟨x.order,2,x.pos,true⟩)[vB s.aj a.order]?=some ⟨x.order,2,x.pos,true⟩:=tN tP;have Pr:bq Order.id (dF s.aa a.order 4) x.order=some ⟨o.id,o.lines,o.aP,4⟩:=by rw[HI,n_,hfn,Option.map_some,if_pos rfl]
  rw[HG _ _ ⟨x.order,2,x.pos,true⟩ ⟨o.id,o.lines,o.aP,4⟩ qV (jD hr _ _) (by show(dF _ _ _).length<=_;rw[rS];omega) (by show(s.aj.set _ _).length<=_;rw[List.length_set];omega) Pr (.inr (.inl rfl)),Option.bind_some];dsimp only;by_cases hn:cw 2 x.pos true=true
  ·rw[if_pos hn,if_pos hn];dsimp only;have V5:(dF s.aa a.order 4)[eO Order.id s.aa a.order]?=some ⟨o.id,o.lines,o.aP,4⟩:=by
    have:=fj Order.id (jD hr a.order 4) (by rw[HI]at Pr;exact Pr);rw[A6]at this;exact this
   rw[cT (by omega) (by rw[Int.toNat_natCast];exact V5),Option.bind_some,tX,Option.bind_some,HI]
  ·rw[if_neg hn,if_neg hn];dsimp only[settled];have hf2:bq Order.id (dF s.aa a.order 5) a.order=some ⟨o.id,o.lines,o.aP,5⟩:=by rw[n_,hfn,Option.map_some,if_pos rfl]
   have V5:(dF s.aa a.order 5)[eO Order.id s.aa a.order]?=some ⟨o.id,o.lines,o.aP,5⟩:=by
    have:=fj Order.id (jD hr a.order 5) hf2;rw[A6]at this;exact this
   have e5:qz ⟨x.order,2,x.pos,true⟩=5:=rfl;rw[e5,HI,A7,cT (by omega) (by rw[Int.toNat_natCast];exact V5),Option.bind_some,tX,Option.bind_some,rT]
def sU (s:State)(a:Ask):State×bz:=
 match bq Order.id s.aa a.order with
 |none=>(s,⟨11,0,0⟩)
 |some o=>if o.status≠3 then(s,⟨9,0,0⟩)else(⟨s.limit,s.cells,s.af,s.aA,dF s.aa a.order 6,s.aj++[⟨a.order,3,0,false⟩],s.kept⟩,⟨0,6,o.aP⟩)
theorem adN (s:State)(a:Ask)(z:bX s)(h:bY s):g92 s a=some (sU s a):=by
 have hf:=bX.wO h;unfold g92 sU;rw[Nm s _ (by omega),Option.bind_some]
 cases hfn:bq Order.id s.aa a.order with
 |none=>simp[abf]
 |some o=>
  dsimp only;rw[if_neg (by decide)];by_cases c1:o.status≠3
  ·rw[if_pos (by simpa[ai]using c1),if_pos c1];rfl
  rw[if_neg (by simpa[ai]using c1),if_neg c1,abF s z,Option.bind_some];dsimp only;rw[if_pos (decide_eq_true (by simp;omega))]
theorem Ny (s:State)(a:Ask)(h:bY s):Mp ⟨s⟩ a=some ((sU s a).2,⟨(sU s a).1⟩):=by
 have hr:=(bR.1 h.aa).1;have hf:=bX.wO h;unfold Mp sU;dsimp only;rw[mw _ _ (by omega) hr,Option.bind_some];dsimp only
 cases hfn:bq Order.id s.aa a.order with
 |none=>simp[kX]
 |some o=>
  dsimp only;have hg:=fj Order.id hr hfn;have Kc:=(List.getElem?_eq_some_iff.1 hg).1;rw[if_neg (show¬(!(some o).isSome)=true fromλh=>by cases h),if_pos (gq Kc),cT (by omega) (by rw[Int.toNat_natCast];exact hg),Option.bind_some];by_cases c1:o.status≠3
  ·rw[if_pos (by simpa[ai]using c1),if_pos c1];rfl
  rw[if_neg (by simpa[ai]using c1),if_neg c1,if_pos (decide_eq_true (by simp;omega)),tX,Option.bind_some,Int.toNat_natCast,nX hr 6 hfn]
end Go.Proofs.aaa
end
section
namespace Go.Proofs.aaa
open Go.bA Go.IntWalk
def ia (s:State)(a:Ask):State×bz:=
 if a.lines.length=0 then(s,⟨2,0,0⟩)else if¬(∀x∈a.lines,x.unit=0)then(s,⟨2,0,0⟩)else if(a.lines.length:Int)>16 then(s,⟨3,0,0⟩)
 else if(bV 0 s.cells a.lines).2≠0 then(s,⟨(bV 0 s.cells a.lines).2,0,0⟩)else(⟨s.limit,(bV 0 s.cells a.lines).1,s.af,s.aA,s.aa,s.aj,s.kept⟩,⟨0,0,0⟩)
theorem CM {ρ:Type}{step:Unit->Int->aU->Option (Unit⊕ρ)}{l:List aU}(A0:ρ->Prop)(hl:l.length<=4611686018427387904)(h:∀(i:Nat) x,l[i]?=some x->(x.unit=0/\step () i x=some (.inl ()))\/(x.unit≠0/\∃r,step () i x=some (.inr r)/\A0 r)):
  ((∀x∈l,x.unit=0)/\bh step l ()=some (.inl ()))\/((¬∀x∈l,x.unit=0)/\∃r,bh step l ()=some (.inr r)/\A0 r):=by
 rcases cP (step:=step) (s0:=()) (λj _=>∀x∈l.take j,x.unit=0) (λr=>(¬∀x∈l,x.unit=0)/\A0 r) hl (by simp) (λj x _ hx hi=>by
  rcases h j x hx with⟨h1,h2⟩|⟨h1,r,h2,h3⟩
  ·refine .inl ⟨(),h2,λy hy=> ?_⟩;rw[take_one hx]at hy;rcases List.mem_append.1 hy with hy|hy
   ·exact hi y hy
   ·rw[List.mem_singleton]at hy;rw[hy];exact h1
  ·exact .inr ⟨r,h2,λh=>h1 (h x (List.mem_of_getElem? hx)),h3⟩)with⟨s',e,hi⟩|⟨r,e,hb⟩
 ·rw[List.take_length]at hi;exact .inl ⟨hi,e⟩
 ·exact .inr ⟨hb.1,r,e,hb.2⟩
theorem adO (s:State)(a:Ask)(z:bX s)(hl:a.lines.length*32<=140737488355328):g93 s a=some (ia s a):=by
 have zc:=z.cells;unfold g93 ia;rw[fK];by_cases c0:a.lines.length=0
 ·rw[if_pos (by simp[ai,c0]),if_pos c0];rfl
 rw[if_neg (by simp only[ai,beq_iff_eq];omega),if_neg c0];rcases CM (l:=a.lines) (step:=λ(_:Unit)(_:Int)(x7:aU)=>if(ai .neq x7.unit 0)=true then(g94 s 2).bind λqb=>some (.inr (qb.1,qb.2))else some (.inl ())) (λr:State×bz=>r=(s,⟨2,0,0⟩)) (by omega) (λi x _=>by
  by_cases e:x.unit=0
  ·exact .inl ⟨e,if_neg (by simpa[ai]using e)⟩
  ·exact .inr ⟨e,_,(if_pos (by simpa[ai]using e)).trans rfl,rfl⟩)with⟨h,e⟩|⟨h,r,e,rfl⟩
 ·rw[e,Option.bind_some,if_neg (show¬¬(∀x∈a.lines,x.unit=0) fromλk=>k h)];dsimp only;by_cases c1:(a.lines.length:Int)>16
  ·rw[if_pos (by simpa[ai]using c1),if_pos c1];rfl
  rw[if_neg (by simpa[ai]using c1),if_neg c1,ab9 0 s.cells a.lines (by omega) zc,Option.bind_some];by_cases c2:(bV 0 s.cells a.lines).2≠0
  ·rw[if_pos (by simpa[ai]using c2),if_pos c2];rfl
  rw[if_neg (by simpa[ai]using c2),if_neg c2,Np s z,Option.bind_some]
 ·rw[e,Option.bind_some,if_pos (show¬(∀x∈a.lines,x.unit=0) from h)]
theorem Nz (s:State)(a:Ask)(z:bX s)(h4:s.cells.length<=4096)(hl:a.lines.length*32<=140737488355328):K5 ⟨s⟩ a=some ((ia s a).2,⟨(ia s a).1⟩):=by
 have zc:=z.cells;unfold K5 ia;rw[fK];by_cases c0:a.lines.length=0
 ·rw[if_pos (by simp[ai,c0]),if_pos c0];rfl
 rw[if_neg (by simp only[ai,beq_iff_eq];omega),if_neg c0];have hc:hcl s.cells=some s.cells:=by unfold hcl;rw[if_pos (decide_eq_true (by omega))]
 rcases CM (l:=a.lines) (step:=λ(_:Unit)(i5:Int)(x7:aU)=>if(ai .neq x7.unit 0)=true then some (.inr i5)else some (.inl ())) (λr:Int=>0<=r) (by omega) (λi x _=>by
  by_cases e:x.unit=0
  ·exact .inl ⟨e,if_neg (by simpa[ai]using e)⟩
  ·exact .inr ⟨e,_,if_pos (by simpa[ai]using e),by omega⟩)with⟨h,e⟩|⟨h,r,e,h0⟩
 ·rw[e,Option.bind_some,if_neg (show¬¬(∀x∈a.lines,x.unit=0) fromλk=>k h)];dsimp only;by_cases c1:(a.lines.length:Int)>16
  ·rw[if_pos (by simpa[ai]using c1),if_pos c1];rfl
  rw[if_neg (by simpa[ai]using c1),if_neg c1,hc,Option.bind_some,u_ 0 (λs i x hs=>by
   rw[JU s x.item x.aE x.gF hs,Option.bind_some];simp only[ai,bne_iff_ne];split<;>rfl) (by omega) (by omega)]
  by_cases c2:(bV 0 s.cells a.lines).2≠0
  ·rw[if_pos c2,if_pos c2,Option.bind_some];dsimp only;rw[if_pos (by simpa[ai]using c2),kX,Option.bind_some]
  ·rw[if_neg c2,if_neg c2,Option.bind_some]
 ·rw[e,Option.bind_some,if_pos (show¬(∀x∈a.lines,x.unit=0) from h)];dsimp only;rw[if_pos (by simpa[ai]using h0),kX,Option.bind_some]
def eg (s:State)(a:Ask):State×bz:=match bq Order.id s.aa a.order with|none=>(s,⟨11,0,0⟩)|some o=>(s,⟨0,o.status,o.aP⟩)
theorem NA (s:State)(a:Ask)(h:bY s):K7 ⟨s⟩ a=some ((eg s a).2,⟨(eg s a).1⟩):=by
 have hr:=(bR.1 h.aa).1;have hf:=bX.wO h;unfold K7 eg;dsimp only;rw[mw _ _ (by omega) hr,Option.bind_some];dsimp only
 cases hfn:bq Order.id s.aa a.order with
 |none=>simp[kX]
 |some o=>
  dsimp only;have hg:=fj Order.id hr hfn;have Kc:=(List.getElem?_eq_some_iff.1 hg).1;rw[if_neg (show¬(!(some o).isSome)=true fromλh=>by cases h),if_pos (gq Kc),cT (by omega) (by rw[Int.toNat_natCast];exact hg),Option.bind_some,tX,Option.bind_some]
def ga (s:State)(a:Ask):State×bz:=match a.lines with|[x]=>if(dM s.cells x.item x.aE).2≠0 then(s,⟨(dM s.cells x.item x.aE).2,0,0⟩)else(s,⟨0,0,(dM s.cells x.item x.aE).1.free⟩)|_=>(s,⟨2,0,0⟩)
theorem NB (s:State)(a:Ask)(hc:s.cells.length<=4611686018427387904):K8 ⟨s⟩ a=some ((ga s a).2,⟨(ga s a).1⟩):=by
 obtain⟨m,k,n,l⟩:=a;unfold K8 ga
 match l with
 |[]=>rfl
 |[x]=>
  rw[fK,if_neg (by simp[ai])];dsimp only;rw[show fH [x] 0=some x from rfl,Option.bind_some,nV _ _ _ hc,Option.bind_some];by_cases c:(dM s.cells x.item x.aE).2≠0
  ·rw[if_pos (by simpa[ai]using c),if_pos c];rfl
  ·rw[if_neg (by simpa[ai]using c),if_neg c]
 |x::y::l=>
  rw[fK,if_pos (by simp[ai];omega)];rfl
def dG (s:State)(a:Ask):State×bz:=
 if a.kind=1 then fS s a else if a.kind=2 then kI s a else if a.kind=3 then sU s a else if a.kind=4 then ia s a else if a.kind=5 then eg s a else ga s a
theorem adP (s:State)(a:Ask)(z:bX s)(h:bY s)(hl:a.lines.length*32<=140737488355328):g45 s a=some (dG s a):=by
 have hf:=bX.wO h;unfold g45 dG;simp only[ai,beq_iff_eq];by_cases k1:a.kind=1
 ·rw[if_pos k1,if_pos k1,adK s a z h hl];rfl
 rw[if_neg k1,if_neg k1];by_cases k2:a.kind=2
 ·rw[if_pos k2,if_pos k2,adM s a z h];rfl
 rw[if_neg k2,if_neg k2];by_cases k3:a.kind=3
 ·rw[if_pos k3,if_pos k3,adN s a z h];rfl
 rw[if_neg k3,if_neg k3];by_cases k4:a.kind=4
 ·rw[if_pos k4,if_pos k4,adO s a z hl];rfl
 rw[if_neg k4,if_neg k4];by_cases k5:a.kind=5
 ·rw[if_pos k5,if_pos k5,Nm s _ (by omega),Option.bind_some];unfold eg
  cases hfn:bq Order.id s.aa a.order with
  |none=>simp[abf]
  |some o=>rfl
 rw[if_neg k5,if_neg k5];obtain⟨m,k,n,l⟩:=a;unfold ga
 match l with
 |[]=>rfl
 |[x]=>
  refine(if_neg (by simp)).trans ?_;dsimp only;rw[show fH [x] 0=some x from rfl,Option.bind_some,adI _ _ _ (by omega),Option.bind_some];by_cases c:(dM s.cells x.item x.aE).2=0
  ·simp[c]
  ·simp[c,abf]
 |x::y::l=>
  exact if_pos (by simp;omega)
theorem vE {k:Int}:∀{lines:List aU}{l:List Cell},(bV k l lines).1.length<=max l.length 4096
 |[],l=>by show l.length<=_;omega
 |x::r,l=>by
  unfold bV;split
  ·simp
  ·have:=vE (k:=k) (lines:=r) (l:=(cm k l x.item x.aE x.gF).1);have h2:=rN (k:=k) (l:=l) (i:=x.item) (w:=x.aE) (n:=x.gF);omega
theorem tY {α:Type}{l:List α}{i:Nat}{x y:α}(h:y∈bt l i x):y=x\/y∈l:=by
 unfold bt at h;rcases List.mem_append.1 h with h|h
 ·exact .inr (List.mem_of_mem_take h)
 ·rcases List.mem_cons.1 h with h|h
  ·exact .inl h
  ·exact .inr (List.mem_of_mem_drop h)
theorem bX.done {s:State}(z:bX s)(a:Ask)(h:bY s)(hl:a.lines.length*32<=140737488355328):bX (dG s a).1:=by
  have hf:=bX.wO h;have zs:∀x:aC,(s.aj++[x]).length*32<=140737488355328:=λx=>by simp;omega
  unfold dG
  repeat' split
  · unfold fS
    repeat' split
    all_goals first
      |exact z
      | (refine⟨z.cells,z.aK,z.i_,z.aA,by show(bt _ _ _).length*48<=_;rw[bW];omega,λx hx=> ?_,zs _,z.kept,z.eP,λx hx=> ?_⟩
         · rcases tY hx with rfl|hx
           · exact hl
           · exact z.lines x hx
         · rcases tY hx with rfl|hx
           · show(0:Int)<=1;decide
           · exact z.aad x hx)
  · unfold kI
    repeat' split
    all_goals first
      |exact z
      |exact z.dF _ _ (by decide) _ (by rw[List.length_set];exact z.aj)
      |exact z.dF _ _ (by decide) _ (Nat.le_trans (Nat.mul_le_mul_right _ (List.length_eraseIdx_le ..)) z.aj)
  · unfold sU
    repeat' split
    all_goals first
      |exact z
      |exact z.dF _ _ (by decide) _ (zs _)
  · unfold ia
    repeat' split
    all_goals first
      |exact z
      | (refine⟨?_,z.aK,z.i_,z.aA,z.aa,z.lines,z.aj,z.kept,z.eP,z.aad⟩
         show(bV _ _ _).1.length*48<=_;have:=vE (k:=0) (lines:=a.lines) (l:=s.cells);omega)
  · unfold eg
    split<;>exact z
  · unfold ga
    repeat' split
    all_goals exact z
theorem mz (s:State)(a:Ask):(dG s a).1.kept=s.kept:=by
 unfold dG
 repeat' split
 ·unfold fS;repeat' split
  all_goals rfl
 ·unfold kI;repeat' split
  all_goals rfl
 ·unfold sU;repeat' split
  all_goals rfl
 ·unfold ia;repeat' split
  all_goals rfl
 ·unfold eg;split<;>rfl
 ·unfold ga;repeat' split
  all_goals rfl
def eU (s:State)(a:Ask):State×bz:=
 if a.kind<1\/a.kind>=7 then(s,⟨15,0,0⟩)else if(a.mark.size:Int)>64 then(s,⟨4,0,0⟩)else
 match h_ s.kept a.mark with
 |some k=>(s,k.cH)
 |none=>if a.mark=ByteArray.empty then dG s a else if s.kept.length>=4096 then(s,⟨7,0,0⟩)else(qA (dG s a).1 a.mark (dG s a).2,(dG s a).2)
theorem bX.keep {s:State}(z:bX s)(m:ByteArray)(r:bz)(h:s.kept.length<=4096):bX (qA s m r):=
 ⟨z.cells,z.aK,z.i_,z.aA,z.aa,z.lines,z.aj,by show(bt _ _ _).length*40<=_;rw[bW];omega,z.eP,z.aad⟩
abbrev IX:State:=⟨0,[],⟨[],[]⟩,[],[],[],[]⟩
abbrev V6:bz:=⟨0,0,0⟩
theorem acT (s:State)(a:Ask)(z:bX s)(hl:a.lines.length*32<=140737488355328):g15 s a=some (if kW s=0 then((eU s a).1,(eU s a).2,0)else(IX,V6,kW s)):=by
 have t:=z.typed;unfold g15;rw[abe s t,Option.bind_some];by_cases h:bY s
 case neg=>rw[dX h,if_pos (by rfl),if_neg (by decide)]
 rw[lI h,if_neg (by decide),if_pos rfl];have hf:=bX.wO h;have hk:=nB h.kept;unfold eU;by_cases k1:a.kind<1
 ·rw[if_pos (by simpa[ai]using k1),if_pos (.inl k1),Np s z];rfl
 rw[if_neg (by simpa[ai]using k1)];by_cases k2:a.kind>=7
 ·rw[if_pos (by simpa[ai]using k2),if_pos (.inr k2),Np s z];rfl
 rw[if_neg (by simpa[ai]using k2),if_neg (show¬(a.kind<1\/a.kind>=7) by omega)];by_cases k3:(a.mark.size:Int)>64
 ·rw[if_pos (by simpa[ai]using k3),if_pos k3,Np s z];rfl
 rw[if_neg (by simpa[ai]using k3),if_neg k3];rw[nu (λk:Kept=>decide (k.mark=a.mark)) (λk=>(s,k.cH)) t.kept (λj x _ _=>by
  rw[vr,Np s z,Option.bind_some];split<;>rfl)]
 rw[Option.bind_some,show s.kept.find? (λk:Kept=>decide (k.mark=a.mark))=h_ s.kept a.mark from rfl]
 cases hfm:h_ s.kept a.mark with
 |some k=>rfl
 |none=>
  dsimp only;have zd:=z.done a h hl;have NK:=mz s a;rw[fK,HB,vr,adP s a z h hl];by_cases k4:a.mark=ByteArray.empty
  ·rw[if_neg (by simp[k4]),if_pos k4,Option.bind_some,Np _ zd];rfl
  rw[if_pos (by simp[k4]),if_neg k4];by_cases k5:s.kept.length>=4096
  ·rw[if_pos (by simp[ai];omega),if_pos k5,Np s z];rfl
  rw[if_neg (by simp[ai];omega),if_neg k5,Option.bind_some,adL _ _ _ zd (by rw[NK];exact hk.2.1) (by rw[NK];omega),Option.bind_some,Np _ (zd.keep _ _ (by rw[NK];omega))];rfl
theorem bY.order {s:State}(h:bY s){o:Order}(ho:o∈s.aa):gH o.id/\dW o.lines=(o.aP,0)/\o.status≠0/\o.status<8:=by
 obtain⟨h1,h2⟩:=(bR.1 h.aa).2 o ho;unfold fo at h2;rw[decide_eq_true_eq]at h2;exact⟨⟨by omega,h2.1⟩,h2.2⟩
theorem vF {s:State}(t:bX s)(h:bY s):bh (ρ:=Empty) (λ(lu:(List Order))(Ak:Int)(_:Order)=>
    if(dJ s.aa.length Ak)=true then
     (fH lu Ak).bind λwe=>
     (hcl we.lines).bind λBE=>
     some (.inl ((lu).set (Ak).toNat (⟨we.id,BE,we.aP,we.status⟩:Order)))
    else none) s.aa s.aa=some (.inl s.aa):=by
 rcases cP (step:=λ(lu:(List Order))(Ak:Int)(zG:Order)=>
    if(dJ s.aa.length Ak)=true then
     (fH lu Ak).bind λwe=>
     (hcl we.lines).bind λBE=>
     some (Sum.inl ((lu).set (Ak).toNat (⟨we.id,BE,we.aP,we.status⟩:Order)))
    else none) (s0:=s.aa) (λj o=>o=s.aa) (λ(_:Empty)=>False) t.typed.aa rfl (λj x o hx ho=>by
  subst ho;have hlt:=(List.getElem?_eq_some_iff.1 hx).1;have hl:=(nx (l:=x.lines) (by rw[(h.order (List.mem_of_getElem? hx)).2.1])).1;refine .inl ⟨_, ?_,rfl⟩;rw[if_pos (gq hlt),cT (by omega) (by rw[Int.toNat_natCast];exact hx),Option.bind_some];unfold hcl;rw[if_pos (decide_eq_true (by omega)),Option.bind_some,Int.toNat_natCast]
  congr 2
  apply List.ext_getElem?;intro k;rw[List.getElem?_set];by_cases e:j=k
  ·subst e;rw[if_pos rfl,if_pos hlt,hx]
  ·rw[if_neg e])with⟨o,e,ho⟩|⟨r,_,hb⟩
 ·rw[e,ho]
 ·exact hb.elim
theorem mA {α:Type}{l:List α}(h:l.length<=1000000000000):hcl l=some l:=by unfold hcl;rw[if_pos (decide_eq_true h)]
theorem CN {s:State}{a:Ask}(h1:a.kind≠1)(h2:a.kind≠2)(h3:a.kind≠3):(dG s a).1.aa=s.aa/\(dG s a).1.aj=s.aj:=by
 unfold dG;rw[if_neg h1,if_neg h2,if_neg h3]
 repeat' split
 ·unfold ia;repeat' split
  all_goals exact⟨rfl,rfl⟩
 ·unfold eg;split<;>exact⟨rfl,rfl⟩
 ·unfold ga;repeat' split
  all_goals exact⟨rfl,rfl⟩
theorem HJ (s:State)(a:Ask)(z:bX s)(hl:a.lines.length*32<=140737488355328):oF s a=some (if kW s=0 then((eU s a).1,(eU s a).2,0)else(IX,V6,kW s)):=by
  have t:=z.typed;unfold oF;rw[zj s t,Option.bind_some];by_cases h:bY s
  case neg=>rw[dX h,if_pos (by rfl),if_neg (by decide)]
  rw[lI h,if_neg (by decide),if_pos rfl];have hf:=bX.wO h;have hk:=nB h.kept;have b1:=h.af.qo;have b2:=h.af.rK;have b3:=j8 (Int.le_refl 0) (by decide) h.aA;have hlb:=Nw s.kept a.mark;rw[mA (show s.cells.length<=1000000000000 by omega),mA (show s.af.aK.length<=1000000000000 by omega),mA (show s.af.ak.length<=1000000000000 by omega),mA (show s.aA.length<=1000000000000 by omega)];simp only[Option.bind_some];rw[if_pos (decide_eq_true (by omega)),if_pos (decide_eq_true (by omega)),if_pos (decide_eq_true (by omega)),vF z h,Option.bind_some];dsimp only;rw[Nu _ _ hk.2.1 (by omega)];simp only[Option.bind_some,kX,HB,vr];have gN:∀(k:Int)(g:aI->Ask->Option (bz×aI)),a.kind=k->1<=k->k<7->g ⟨s⟩ a=some ((dG s a).2,⟨(dG s a).1⟩)->∀(F:bz×aI->State),F ((dG s a).2,⟨(dG s a).1⟩)=(dG s a).1->∀(G:bz×aI->State),G ((dG s a).2,⟨(dG s a).1⟩)=qA (dG s a).1 a.mark (dG s a).2->
      (if ai .gtr (a.mark.size:Int) 64=true then some (s,(⟨4,0,0⟩:bz),(0:Int))else
       if(h_ s.kept a.mark).isSome=true then if dJ s.kept.length ((lJ s.kept a.mark:Nat):Int)=true then(fH s.kept ((lJ s.kept a.mark:Nat):Int)).bind λx=>some (s,x.cH,0)else none
       else if(!decide (a.mark=ByteArray.empty))=true then if ai .geq (Int.ofNat s.kept.length) 4096=true then some (s,⟨7,0,0⟩,0)else(g ⟨s⟩ a).bind λp=>if decide (0<=((lJ s.kept a.mark:Nat):Int)/\((lJ s.kept a.mark:Nat):Int)<=(s.kept.length:Int)/\s.kept.length<=1000000)=true then some (G p,p.1,0)else none
       else(g ⟨s⟩ a).bind λp=>some (F p,p.1,0))=some ((eU s a).1,(eU s a).2,0):=by
    intro k g hkk h1 h7 hg F hF G hG;unfold eU;rw[if_neg (show¬(a.kind<1\/a.kind>=7) by omega),hg];by_cases k3:(a.mark.size:Int)>64
    · rw[if_pos (by simpa[ai]using k3),if_pos k3]
    rw[if_neg (by simpa[ai]using k3),if_neg k3]
    cases hfm:h_ s.kept a.mark with
    | some x=>
      obtain⟨h3,h4⟩:=(DJ hk.2.1 a.mark).2 x hfm;have hlt:=(List.getElem?_eq_some_iff.1 h3).1;rw[if_pos (by rfl),if_pos (gq hlt),cT (by omega) (by rw[Int.toNat_natCast];exact h3)];rfl
    | none=>
      rw[if_neg (by decide)];dsimp only;by_cases k4:a.mark=ByteArray.empty
      · rw[if_neg (by simp[k4]),if_pos k4,Option.bind_some,hF]
      rw[if_pos (by simp[k4]),if_neg k4];by_cases k5:s.kept.length>=4096
      · rw[if_pos (by simp[ai];omega),if_pos k5]
      rw[if_neg (by simp[ai];omega),if_neg k5,Option.bind_some,if_pos (decide_eq_true ⟨by omega,by omega,by omega⟩),hG]
  have kd:=mz s a;have fin:∀d:State,d.kept=s.kept->(⟨d.limit,d.cells,d.af,d.aA,d.aa,d.aj,s.kept⟩:State)=d:=λd e=>by rw[<-e]
  have NC:∀(d:State)(r:bz),d.kept=s.kept->(⟨d.limit,d.cells,d.af,d.aA,d.aa,d.aj,bt s.kept (((lJ s.kept a.mark:Nat):Int)).toNat ⟨a.mark,r⟩⟩:State)=qA d a.mark r:=λd r e=>by unfold qA;rw[e,Int.toNat_natCast]
  by_cases k1:a.kind=1
  · rw[if_pos (by simpa using k1)]
    exact gN 1 Mj k1 (by decide) (by decide) (by unfold dG;rw[if_pos k1];exact Nv s a h hl) (λjs=>(⟨js.2.state.limit,js.2.state.cells,js.2.state.af,js.2.state.aA,js.2.state.aa,js.2.state.aj,s.kept⟩:State)) (fin _ kd) (λgK=>(⟨gK.2.state.limit,gK.2.state.cells,gK.2.state.af,gK.2.state.aA,gK.2.state.aa,gK.2.state.aj,(bt s.kept (((lJ s.kept a.mark:Nat):Int)).toNat (⟨a.mark,gK.1⟩:Kept))⟩:State)) (NC _ _ kd)
  rw[if_neg (by simpa using k1)];by_cases k2:a.kind=2
  · rw[if_pos (by simpa using k2)]
    exact gN 2 K3 k2 (by decide) (by decide) (by unfold dG;rw[if_neg k1,if_pos k2];exact Nx s a h) (λjs=>(⟨js.2.state.limit,js.2.state.cells,js.2.state.af,js.2.state.aA,js.2.state.aa,js.2.state.aj,s.kept⟩:State)) (fin _ kd) (λgK=>(⟨gK.2.state.limit,gK.2.state.cells,gK.2.state.af,gK.2.state.aA,gK.2.state.aa,gK.2.state.aj,(bt s.kept (((lJ s.kept a.mark:Nat):Int)).toNat (⟨a.mark,gK.1⟩:Kept))⟩:State)) (NC _ _ kd)
  rw[if_neg (by simpa using k2)];by_cases k3:a.kind=3
  · rw[if_pos (by simpa using k3)]
    exact gN 3 Mp k3 (by decide) (by decide) (by unfold dG;rw[if_neg k1,if_neg k2,if_pos k3];exact Ny s a h) (λjs=>(⟨js.2.state.limit,js.2.state.cells,js.2.state.af,js.2.state.aA,js.2.state.aa,js.2.state.aj,s.kept⟩:State)) (fin _ kd) (λgK=>(⟨gK.2.state.limit,gK.2.state.cells,gK.2.state.af,gK.2.state.aA,gK.2.state.aa,gK.2.state.aj,(bt s.kept (((lJ s.kept a.mark:Nat):Int)).toNat (⟨a.mark,gK.1⟩:Kept))⟩:State)) (NC _ _ kd)
  rw[if_neg (by simpa using k3)];have hsame:=CN (s:=s) k1 k2 k3;have fin':∀d:State,d.kept=s.kept->d.aa=s.aa/\d.aj=s.aj->(⟨d.limit,d.cells,d.af,d.aA,s.aa,s.aj,s.kept⟩:State)=d:=λd e e2=>by rw[<-e,<-e2.1,<-e2.2]
  have HK:∀(d:State)(r:bz),d.kept=s.kept->d.aa=s.aa/\d.aj=s.aj->(⟨d.limit,d.cells,d.af,d.aA,s.aa,s.aj,bt s.kept (((lJ s.kept a.mark:Nat):Int)).toNat ⟨a.mark,r⟩⟩:State)=qA d a.mark r:=λd r e e2=>by unfold qA;rw[e,e2.1,e2.2,Int.toNat_natCast]
  by_cases k4:a.kind=4
  · rw[if_pos (by simpa using k4)]
    exact gN 4 K5 k4 (by decide) (by decide) (by unfold dG;rw[if_neg k1,if_neg k2,if_neg k3,if_pos k4];exact Nz s a z hf.2.2.2 hl) (λjs=>(⟨js.2.state.limit,js.2.state.cells,js.2.state.af,js.2.state.aA,s.aa,s.aj,s.kept⟩:State)) (fin' _ kd hsame) (λgK=>(⟨gK.2.state.limit,gK.2.state.cells,gK.2.state.af,gK.2.state.aA,s.aa,s.aj,(bt s.kept (((lJ s.kept a.mark:Nat):Int)).toNat (⟨a.mark,gK.1⟩:Kept))⟩:State)) (HK _ _ kd hsame)
  rw[if_neg (by simpa using k4)];by_cases k5:a.kind=5
  · rw[if_pos (by simpa using k5)]
    exact gN 5 K7 k5 (by decide) (by decide) (by unfold dG;rw[if_neg k1,if_neg k2,if_neg k3,if_neg k4,if_pos k5];exact NA s a h) (λjs=>(⟨js.2.state.limit,js.2.state.cells,js.2.state.af,js.2.state.aA,s.aa,s.aj,s.kept⟩:State)) (fin' _ kd hsame) (λgK=>(⟨gK.2.state.limit,gK.2.state.cells,gK.2.state.af,gK.2.state.aA,s.aa,s.aj,(bt s.kept (((lJ s.kept a.mark:Nat):Int)).toNat (⟨a.mark,gK.1⟩:Kept))⟩:State)) (HK _ _ kd hsame)
  rw[if_neg (by simpa using k5)];by_cases k6:a.kind=6
  · rw[if_pos (by simpa using k6)]
    exact gN 6 K8 k6 (by decide) (by decide) (by unfold dG;rw[if_neg k1,if_neg k2,if_neg k3,if_neg k4,if_neg k5];exact NB s a (by omega)) (λjs=>(⟨js.2.state.limit,js.2.state.cells,js.2.state.af,js.2.state.aA,s.aa,s.aj,s.kept⟩:State)) (fin' _ kd hsame) (λgK=>(⟨gK.2.state.limit,gK.2.state.cells,gK.2.state.af,gK.2.state.aA,s.aa,s.aj,(bt s.kept (((lJ s.kept a.mark:Nat):Int)).toNat (⟨a.mark,gK.1⟩:Kept))⟩:State)) (HK _ _ kd hsame)
  rw[if_neg (by simpa using k6)];unfold eU;rw[if_pos (show(a.kind<1\/a.kind>=7) by omega)]
end Go.Proofs.aaa
end
section
namespace Go.Proofs.aaa
open Go.bA Go.IntWalk
abbrev oK (s:State)(l:List Cell):State:=⟨s.limit,l,s.af,s.aA,s.aa,s.aj,s.kept⟩
abbrev je (s:State)(b:aF):State:=⟨s.limit,s.cells,b,s.aA,s.aa,s.aj,s.kept⟩
abbrev A8 (s:State)(l:List ah):State:=⟨s.limit,s.cells,s.af,l,s.aa,s.aj,s.kept⟩
def jn (s:State)(o:Order)(k:Int):State×Int:=(oK s (bV k s.cells o.lines).1,(bV k s.cells o.lines).2)
def eB (s:State)(o:Order)(m:Int):State×Int:=(A8 s (dz s.aA o.id m 0),fE s.aA o.id m 0)
def dw (s:State)(o:Order)(x:Int):State×Int:=
 if x=1 then jn s o 1 else if x=6 then jn s o 2
 else if x=2 then(je s (ju s.af o.id o.aP).1,(ju s.af o.id o.aP).2)
 else if x=7 then(if(aG s.af o.id).bC=0 then(s,0)else(je s (di s.af o.id 1).1,(di s.af o.id 1).2.2))
 else if x=4 then(je s (di s.af o.id 3).1,(di s.af o.id 3).2.2)
 else if x=9 then(je s (ez s.af o.id ((aG s.af o.id).aT -(aG s.af o.id).aX)).1,(ez s.af o.id ((aG s.af o.id).aT -(aG s.af o.id).aX)).2)
 else if x=3 then eB s o 1 else if x=8 then eB s o 4 else if x=10 then eB s o 5
 else if x=5 then(if(eB s o 2).2≠0 then(s,(eB s o 2).2)else jn (eB s o 2).1 o 3)
 else if(eB s o 6).2≠0 then(s,(eB s o 6).2)else jn (eB s o 6).1 o 4
theorem CO (s:State)(o:Order)(x:Int):(dw s o x).1.aa=s.aa/\(dw s o x).1.aj=s.aj/\(dw s o x).1.kept=s.kept/\(dw s o x).1.limit=s.limit:=by
 have key:∀(c:Prop) [Decidable c](A B:State×Int),(A.1.aa=s.aa/\A.1.aj=s.aj/\A.1.kept=s.kept/\A.1.limit=s.limit)->(B.1.aa=s.aa/\B.1.aj=s.aj/\B.1.kept=s.kept/\B.1.limit=s.limit)->((if c then A else B).1.aa=s.aa/\(if c then A else B).1.aj=s.aj/\(if c then A else B).1.kept=s.kept/\(if c then A else B).1.limit=s.limit):=λc _ A B h1 h2=>by
  by_cases h:c
  ·rw[if_pos h];exact h1
  ·rw[if_neg h];exact h2
 unfold dw
 repeat' (first|exact⟨rfl,rfl,rfl,rfl⟩|refine key _ _ _ ?_ ?_)
theorem abG {s:State}(o:Order)(k:Int)(h1:o.lines.length<=4611686018427387904)(h2:s.cells.length*48<=140737488355328):abO s o k=some (jn s o k):=by
 unfold abO jn;rw[ab9 k s.cells o.lines h1 h2];rfl
theorem adq {s:State}(o:Order)(m:Int)(h1:s.aA.length<=4611686018427387904)(h2:∀x∈s.aA,0<=x.state):aby s o m=some (eB s o m):=by
 unfold aby eB;rw[ado _ _ _ _ h1 h2];rfl
theorem acU {s:State}(z:bX s)(h:bY s)(o:Order)(x:Int)(ho:o.lines.length<=4611686018427387904):g57 s o x=some (dw s o x):=by
 have t:=z.typed;unfold g57 dw;simp only[ai,beq_iff_eq,abG o _ ho z.cells,adq o _ t.aA t.eP,adf h.af,adg h.af,adh h.af,adi h.af,Hy _ _ t.aK,Option.bind_some,Hz h.af];by_cases x1:x=1
 ·rw[if_pos x1,if_pos x1]
 rw[if_neg x1,if_neg x1];by_cases x6:x=6
 ·rw[if_pos x6,if_pos x6]
 rw[if_neg x6,if_neg x6];by_cases x2:x=2
 ·rw[if_pos x2,if_pos x2]
 rw[if_neg x2,if_neg x2];by_cases x7:x=7
 ·rw[if_pos x7,if_pos x7];split<;>rfl
 rw[if_neg x7,if_neg x7];by_cases x4:x=4
 ·rw[if_pos x4,if_pos x4]
 rw[if_neg x4,if_neg x4];by_cases x9:x=9
 ·rw[if_pos x9,if_pos x9]
 rw[if_neg x9,if_neg x9];by_cases x3:x=3
 ·rw[if_pos x3,if_pos x3]
 rw[if_neg x3,if_neg x3];by_cases x8:x=8
 ·rw[if_pos x8,if_pos x8]
 rw[if_neg x8,if_neg x8];by_cases eu:x=10
 ·rw[if_pos eu,if_pos eu]
 rw[if_neg eu,if_neg eu];by_cases x5:x=5
 ·rw[if_pos x5,if_pos x5];refine mg (λc=> ?_) (λc=> ?_)
  ·exact congrArg some (if_pos (show(eB s o 2).2≠0 by simpa using c)).symm
  ·refine Eq.trans ?_ (congrArg some (if_neg (show¬(eB s o 2).2≠0 by simpa using c)).symm);rw[abG (s:=(eB s o 2).1) o 3 ho z.cells];rfl
 rw[if_neg x5,if_neg x5];refine mg (λc=> ?_) (λc=> ?_)
 ·exact congrArg some (if_pos (show(eB s o 6).2≠0 by simpa using c)).symm
 ·refine Eq.trans ?_ (congrArg some (if_neg (show¬(eB s o 6).2≠0 by simpa using c)).symm);rw[abG (s:=(eB s o 6).1) o 4 ho z.cells];rfl
abbrev LA (s:State)(o:Order)(x:Int)(g:Option (Int×aI)):Prop:=∃d:State,g=some ((dw s o x).2,⟨d⟩)/\((dw s o x).2=0->d=(dw s o x).1)
theorem j9 {w:Int}{d1 d2:State}{r:State×Int}(h:r=(d1,w)){g:Option (Int×aI)}(hg:g=if ai .neq w 0=true then some (w,(⟨d2⟩:aI))else some (0,⟨d1⟩)):∃d:State,g=some (r.2,⟨d⟩)/\(r.2=0->d=r.1):=by
 subst h;by_cases c:w=0
 ·exact⟨d1,by rw[hg,if_neg (by simp[ai,c]),c],λ_=>rfl⟩
 ·exact⟨d2,by rw[hg,if_pos (by simp[ai,c])],λh=>absurd h c⟩
theorem mB (k:Int)(gm:List Cell->Int->Int->Int->Option (List Cell×Int))(hm:∀l i w n,l.length<=4611686018427387904->gm l i w n=some (cm k l i w n)){s:State}(hc:s.cells.length<=4096){lines:List aU}(hl:lines.length<=4611686018427387904)(mk:List Cell->State):
  ∃d:State,((hcl s.cells).bind λp=>(bh (λ(s6:List Cell)(_:Int)(eu:aU)=>(gm s6 eu.item eu.aE eu.gF).bind λiq=>if(ai .neq iq.2 0)=true then some (.inr iq.2)else some (.inl iq.1)) lines p:Option (List Cell⊕Int)).bind λL4=>
   match L4 with
   | .inl eS=>some ((0:Int),(⟨mk eS⟩:aI))
   | .inr Oi=>if(ai .neq Oi 0)=true then some (Oi,⟨mk []⟩)else some (0,⟨mk []⟩))=some ((bV k s.cells lines).2,⟨d⟩)/\((bV k s.cells lines).2=0->d=mk (bV k s.cells lines).1):=by
 rw[mA (show s.cells.length<=1000000000000 by omega),Option.bind_some,u_ k (λs i x hs=>by
  rw[hm s x.item x.aE x.gF hs,Option.bind_some];simp only[ai,bne_iff_ne];split<;>rfl) hl (by omega)]
 by_cases c:(bV k s.cells lines).2≠0
 ·rw[if_pos c,Option.bind_some];dsimp only;rw[if_pos (by simpa[ai]using c)];exact⟨_,rfl,λh=>absurd h c⟩
 ·rw[if_neg c,Option.bind_some];exact⟨_,by rw[Decidable.not_not.1 c],λ_=>rfl⟩
theorem ND {s:State}(z:bX s)(h:bY s){o:Order}{n:Int}(x:Int)(hf:bq Order.id s.aa n=some o):LA s o x (Oh ⟨s⟩ n x):=by
 have t:=z.typed;have hr:=(bR.1 h.aa).1;have NF:=bX.wO h;have hg:=fj Order.id hr hf;have Kc:=(List.getElem?_eq_some_iff.1 hg).1;obtain⟨hm,he⟩:=b_ Order.id hf;have hl:=t.lines o hm;have hid:gH o.id:=by
  obtain⟨h1,h2⟩:=(bR.1 h.aa).2 o hm;unfold fo at h2;rw[decide_eq_true_eq]at h2;exact⟨by omega,h2.1⟩
 have V7:Cg s.af o.id=some (aG s.af o.id,0):=by rw[J2 h.af,if_pos hid]
 have hsh:=λm=>CH s.aA o.id m 0 (by have:=j8 (Int.le_refl 0) (by decide) h.aA;omega) t.eP;have V8:=h.af.bC o.id;unfold Oh LA;dsimp only;rw[mw _ _ (by omega) hr,Option.bind_some];dsimp only;rw[if_pos (gq Kc),cT (x:=o) (by omega) (by rw[Int.toNat_natCast];exact hg),Option.bind_some];simp only[J1 h.af,J3 h.af,J4 h.af,J5 h.af,V7,hsh,Option.bind_some,Hz h.af];by_cases x1:x=1
 ·subst x1;rw[if_pos (by decide)];exact mB 1 Eo JV NF.2.2.2 hl λl=>oK s l
 rw[if_neg (by simpa[ai]using x1)];by_cases x6:x=6
 ·subst x6;rw[if_pos (by decide)];exact mB 2 Ep JW NF.2.2.2 hl λl=>oK s l
 rw[if_neg (by simpa[ai]using x6)];by_cases x2:x=2
 ·subst x2;rw[if_pos (by decide)];exact j9 (r:=dw s o 2) rfl rfl
 rw[if_neg (by simpa[ai]using x2)];by_cases x7:x=7
 ·subst x7;rw[if_pos (by decide),if_pos (by decide)];have e:dw s o 7=if(aG s.af o.id).bC=0 then(s,0)else(je s (di s.af o.id 1).1,(di s.af o.id 1).2.2):=rfl;rw[e];by_cases c:(aG s.af o.id).bC=0
  ·rw[if_neg (by simp[ai,c]),if_pos c];exact⟨s,rfl,λ_=>rfl⟩
  ·rw[if_pos (by simp[ai];omega),if_neg c];exact j9 rfl rfl
 rw[if_neg (by simpa[ai]using x7)];by_cases x4:x=4
 ·subst x4;rw[if_pos (by decide)];exact j9 (r:=dw s o 4) rfl rfl
 rw[if_neg (by simpa[ai]using x4)];by_cases x9:x=9
 ·subst x9;rw[if_pos (by decide),if_pos (by decide)];exact j9 (r:=dw s o 9) rfl rfl
 rw[if_neg (by simpa[ai]using x9)];by_cases x3:x=3
 ·subst x3;rw[if_pos (by decide)];exact j9 (r:=dw s o 3) rfl rfl
 rw[if_neg (by simpa[ai]using x3)];by_cases x8:x=8
 ·subst x8;rw[if_pos (by decide)];exact j9 (r:=dw s o 8) rfl rfl
 rw[if_neg (by simpa[ai]using x8)];by_cases eu:x=10
 ·subst eu;rw[if_pos (by decide)];exact j9 (r:=dw s o 10) rfl rfl
 rw[if_neg (by simpa[ai]using eu)];by_cases x5:x=5
 ·subst x5;rw[if_pos (by decide)];have e:dw s o 5=if(eB s o 2).2≠0 then(s,(eB s o 2).2)else jn (eB s o 2).1 o 3:=rfl;rw[e];by_cases c:fE s.aA o.id 2 0=0
  ·rw[if_neg (by simp[ai,c]),if_neg (λh=>h c)];exact mB 3 Er JX NF.2.2.2 hl λl=>oK (A8 s (dz s.aA o.id 2 0)) l
  ·rw[if_pos (by simp[ai,c]),if_pos (show(eB s o 2).2≠0 from c)];exact⟨_,rfl,λh=>absurd h c⟩
 rw[if_neg (by simpa[ai]using x5)];have e:dw s o x=if(eB s o 6).2≠0 then(s,(eB s o 6).2)else jn (eB s o 6).1 o 4:=by unfold dw;simp only[x1,x6,x2,x7,x4,x9,x3,x8,eu,x5,if_false]
 rw[e];by_cases c:fE s.aA o.id 6 0=0
 ·rw[if_neg (by simp[ai,c]),if_neg (show¬(eB s o 6).2≠0 fromλh=>h c)];exact mB 4 Es JY NF.2.2.2 hl λl=>oK (A8 s (dz s.aA o.id 6 0)) l
 ·rw[if_pos (by simp[ai,c]),if_pos (show(eB s o 6).2≠0 from c)];exact⟨_,rfl,λh=>absurd h c⟩
end Go.Proofs.aaa
end
