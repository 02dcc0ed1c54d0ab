/- Texts that the law leans on, part 20. No conditions. -/
import Derived.Test.YtnpliafeboadcaaGreatK19
section
namespace Go.Proofs.aaa
open Go.bA Go.IntWalk
variable{P:Program}
set_option maxHeartbeats 4000000
set_option maxRecDepth 20000
def Mj (s:aI)(a:Ask):Option (bz×aI):=
 (B0 a.order 1024).bind λp1=>
 if(!p1)=true then
  (nM 2).bind λp3=>
  some (p3,s)
 else(Ci a.lines).bind λp4=>
 (uD s.state.aa a.order).bind λxm=>
 if(ai .neq p4.2 0)=true then
  (nM p4.2).bind λW9=>
  some (W9,s)
 else if xm.2=true then
  (nM 12).bind λow=>
  some (ow,s)
 else if(ai .geq (Int.ofNat s.state.aa.length) s.state.limit)=true then
  (nM 7).bind λmU=>
  some (mU,s)
 else(hcl a.lines).bind λkR=>
 if(decide (0<=xm.1/\xm.1<=(s.state.aa.length:Int)/\s.state.aa.length<=1000000))=true then
  if(decide ((s.state.aj++[(⟨a.order,1,0,false⟩:aC)]).length*32<=140737488355328))=true then
   (Cj (⟨a.order,kR,p4.1,1⟩:Order)).bind λED=>
   some (ED,(⟨(⟨s.state.limit,s.state.cells,s.state.af,s.state.aA,(bt s.state.aa (xm.1).toNat (⟨a.order,kR,p4.1,1⟩:Order)),(s.state.aj++[(⟨a.order,1,0,false⟩:aC)]),s.state.kept⟩:State)⟩:aI))
  else none
 else none
theorem Dh (hP:P=Tryz.prog)(s:aI)(a:Ask)(r:bz×aI)(hR:Mj s a=some r)(cW:Nat)(iJ:s.state.aa.length<=cW)(dB:Nat)(lg:s.state.aj.length<=dB)(eL:Nat)(_:s.state.kept.length<=eL):aV P 81 [.ref 0 0,a.av] [.box [I6 s.state.limit,aq Cell.ts 6 s.state.cells,aq aQ.ts 4 s.state.af.aK,aq au.ts 4 s.state.af.ak,aq ah.ts 2 s.state.aA,.sl 1 4 (.lit 0) (.th λ_=>s.state.aa.length) (.th λ_=>cW),.sl 2 4 (.lit 0) (.th λ_=>s.state.aj.length) (.th λ_=>dB),.sl 3 4 (.lit 0) (.th λ_=>s.state.kept.length) (.th λ_=>eL)],aL Order.ts 4 s.state.aa cW,aL aC.ts 4 s.state.aj dB,aL Kept.ts 4 s.state.kept eL] (λy_ o_=>∃Gv Gw:Nat,r.2.state.aa.length<=Gv/\r.2.state.aj.length<=Gw/\y_=r.1.av/\o_=[.box [I6 r.2.state.limit,aq Cell.ts 6 r.2.state.cells,aq aQ.ts 4 r.2.state.af.aK,aq au.ts 4 r.2.state.af.ak,aq ah.ts 2 r.2.state.aA,.sl 4 4 (.lit 0) (.th λ_=>r.2.state.aa.length) (.th λ_=>Gv),.sl 5 4 (.lit 0) (.th λ_=>r.2.state.aj.length) (.th λ_=>Gw),.sl 3 4 (.lit 0) (.th λ_=>s.state.kept.length) (.th λ_=>eL)],.dead,.dead,aL Kept.ts 4 s.state.kept eL,aL Order.ts 4 r.2.state.aa Gv,aL aC.ts 4 r.2.state.aj Gw]):=by
 have:=Pg.mk hP;unfold Mj at hR;refine aV.can ?_;refine ZB hP ?_;cbv;obtain⟨p1,gM,hR⟩:=az hR;refine aJ gM ?_;cbv;refine aM.i hR ?_ ?_<;>intro c2 hR<;>cbv
 ·obtain⟨p3,oV,hR⟩:=az hR;refine aJ oV ?_;cbv;cases hR;exact⟨_,_,⟨[0,1001,1002,3,1,2],rfl,rfl,al,al⟩,cW,dB,iJ,lg,rfl,rfl⟩
 obtain⟨p4,Ew,hR⟩:=az hR;refine aJ Ew ?_;cbv;refine aR.cS (ty hP) (mo hP) rfl ?_;cbv;(iterate 7 (refine aS.z ?_;cbv));obtain⟨xm,Cf,hR⟩:=az hR;refine jQ Cf ?_;cbv;(iterate 5 (refine aS.z ?_;cbv));refine aM.i hR ?_ ?_<;>intro S8 hR<;>cbv
 ·obtain⟨W9,TU,hR⟩:=az hR;refine aJ TU ?_;cbv;cases hR;exact⟨_,_,⟨[0,1001,1002,3,1,2],rfl,rfl,al,al⟩,cW,dB,iJ,lg,rfl,rfl⟩
 refine aM.i hR ?_ ?_<;>intro WY hR<;>cbv
 ·obtain⟨ow,yI,hR⟩:=az hR;refine aJ yI ?_;cbv;cases hR;exact⟨_,_,⟨[0,1001,1002,3,1,2],rfl,rfl,al,al⟩,cW,dB,iJ,lg,rfl,rfl⟩
 refine aR.cS (ty hP) (mo hP) rfl ?_;cbv;(iterate 13 (refine aS.z ?_;cbv));refine aM.i hR ?_ ?_<;>intro Tb hR<;>cbv
 ·obtain⟨mU,TV,hR⟩:=az hR;refine aJ TV ?_;cbv;cases hR;exact⟨_,_,⟨[0,1001,1002,3,1,2],rfl,rfl,al,al⟩,cW,dB,iJ,lg,rfl,rfl⟩
 refine aR.cS (ty hP) (mo hP) rfl ?_;cbv;(iterate 5 (refine aS.z ?_;cbv));refine EE.mk ?_ ?_
 ·cbv;obtain⟨kR,Ck,hR⟩:=az hR;refine aJ Ck ?_;cbv;refine bZ.mk (aZ.cons rfl (aZ.cons rfl aZ.nil)) ?_;cbv;refine aS.z ?_;cbv;refine bZ.mk (aZ.cons rfl (aZ.cons rfl (aZ.cons rfl (aZ.cons rfl aZ.nil)))) ?_;cbv;refine aR.cS (ty hP) (mo hP) rfl ?_;cbv
  (iterate 8 (refine aS.z ?_;cbv));refine bZ.mk (aZ.cons rfl (aZ.cons rfl (aZ.cons rfl (aZ.cons rfl aZ.nil)))) ?_;cbv;obtain⟨Mk,hR⟩:=bl hR;refine aV.i6 0 rfl (λ_ (TW:cW<=9223372036854775807)=> ?_)
  refine(qc hP s.state.aa cW xm.1 (s.state.aa.length:Int) (⟨a.order,kR,p4.1,1⟩:Order) iJ rfl (of_decide_eq_true Mk).1 (of_decide_eq_true Mk).2.1 (of_decide_eq_true Mk).2.2 TW).own [1,7] [] (by rfl) (by rfl) al al (λx_ o_ bI=> ?_);obtain⟨TX,Ml,rfl,rfl⟩:=bI;refine⟨.dead (.dead (.arr (an _ _) .nil)), ?_⟩;cbv
  (iterate 3 (refine aS.z ?_;cbv));refine aR.cS (ty hP) (mo hP) rfl ?_;cbv;(iterate 9 (refine aS.z ?_;cbv));refine bZ.mk (aZ.cons rfl (aZ.cons rfl (aZ.cons rfl (aZ.cons rfl aZ.nil)))) ?_;cbv;obtain⟨TY,hR⟩:=bl hR
  refine IP (ty hP) (e:=116) s.state.aj (⟨a.order,1,0,false⟩:aC) (of_decide_eq_true TY) λTZ Mm=> ?_;cbv
  (iterate 3 (refine aS.z ?_;cbv));obtain⟨ED,GJ,hR⟩:=az hR;refine aJ GJ ?_;cbv;cases hR;exact⟨_,_,⟨[0,1001,1002,3,8,10],rfl,rfl,al,al⟩,TX,TZ,(lZ Ml),Mm,rfl,rfl⟩
 cbv;refine bZ.mk (aZ.cons rfl (aZ.cons rfl (aZ.cons rfl (aZ.cons rfl aZ.nil)))) ?_;cbv;obtain⟨kR,Ck,hR⟩:=az hR;refine aJ Ck ?_;cbv;refine bZ.mk (aZ.cons rfl (aZ.cons rfl aZ.nil)) ?_;cbv;refine aS.z ?_;cbv;refine aR.cS (ty hP) (mo hP) rfl ?_;cbv
 (iterate 8 (refine aS.z ?_;cbv));refine bZ.mk (aZ.cons rfl (aZ.cons rfl (aZ.cons rfl (aZ.cons rfl aZ.nil)))) ?_;cbv;obtain⟨Mk,hR⟩:=bl hR;refine aV.i6 0 rfl (λ_ (TW:cW<=9223372036854775807)=> ?_)
 refine(qc hP s.state.aa cW xm.1 (s.state.aa.length:Int) (⟨a.order,kR,p4.1,1⟩:Order) iJ rfl (of_decide_eq_true Mk).1 (of_decide_eq_true Mk).2.1 (of_decide_eq_true Mk).2.2 TW).own [1,7] [] (by rfl) (by rfl) al al (λx_ o_ bI=> ?_);obtain⟨TX,Ml,rfl,rfl⟩:=bI;refine⟨.dead (.dead (.arr (an _ _) .nil)), ?_⟩;cbv
 (iterate 3 (refine aS.z ?_;cbv));refine aR.cS (ty hP) (mo hP) rfl ?_;cbv;(iterate 9 (refine aS.z ?_;cbv));refine bZ.mk (aZ.cons rfl (aZ.cons rfl (aZ.cons rfl (aZ.cons rfl aZ.nil)))) ?_;cbv;obtain⟨TY,hR⟩:=bl hR
 refine IP (ty hP) (e:=116) s.state.aj (⟨a.order,1,0,false⟩:aC) (of_decide_eq_true TY) λTZ Mm=> ?_;cbv
 (iterate 3 (refine aS.z ?_;cbv));obtain⟨ED,GJ,hR⟩:=az hR;refine aJ GJ ?_;cbv;cases hR;exact⟨_,_,⟨[0,1001,1002,3,8,10],rfl,rfl,al,al⟩,TX,TZ,(lZ Ml),Mm,rfl,rfl⟩
def K3 (s:aI)(a:Ask):Option (bz×aI):=
 (uD s.state.aa a.order).bind λp1=>
 if(!p1.2)=true then
  (nM 11).bind λp3=>
  some (p3,s)
 else if(dJ s.state.aa.length p1.1)=true then
  (fH s.state.aa p1.1).bind λx5=>
  if(ai .neq x5.status 1)=true then
   (nM 9).bind λp7=>
   some (p7,s)
  else(bh (λ(_:Unit)(RK:Int)(W_:aC)=>
   if(ai .eql W_.order a.order)=true then
    some (.inr RK)
   else some (.inl ())) s.state.aj ():Option ((Unit)⊕(Int))).bind λZC=>
  match ZC with
  | .inl _=>
   none
  | .inr Mn=>
   if(dJ s.state.aj.length Mn)=true then
    (fH s.state.aj Mn).bind λoY=>
    (FT (⟨(⟨s.state.limit,s.state.cells,s.state.af,s.state.aA,((s.state.aa).set (p1.1).toNat (⟨x5.id,x5.lines,x5.aP,4⟩:Order)),((((s.state.aj).set (Mn).toNat (⟨oY.order,2,oY.pos,oY.aO⟩:aC))).set (Mn).toNat (⟨(⟨oY.order,2,oY.pos,oY.aO⟩:aC).order,(⟨oY.order,2,oY.pos,oY.aO⟩:aC).kind,(⟨oY.order,2,oY.pos,oY.aO⟩:aC).pos,true⟩:aC)),s.state.kept⟩:State)⟩:aI) Mn).bind λv9=>
    (fH v9.2.state.aa p1.1).bind λXa=>
    (Cj Xa).bind λmT=>
    some (mT,(⟨(⟨v9.2.state.limit,v9.2.state.cells,v9.2.state.af,v9.2.state.aA,v9.2.state.aa,v9.2.state.aj,s.state.kept⟩:State)⟩:aI))
   else none
 else none
theorem Di (hP:P=Tryz.prog)(s:aI)(a:Ask)(r:bz×aI)(hR:K3 s a=some r)(cW:Nat)(iJ:s.state.aa.length<=cW)(dB:Nat)(lg:s.state.aj.length<=dB)(eL:Nat)(T0:s.state.kept.length<=eL):aV P 82 [.ref 0 0,a.av] [.box [I6 s.state.limit,aq Cell.ts 6 s.state.cells,aq aQ.ts 4 s.state.af.aK,aq au.ts 4 s.state.af.ak,aq ah.ts 2 s.state.aA,.sl 1 4 (.lit 0) (.th λ_=>s.state.aa.length) (.th λ_=>cW),.sl 2 4 (.lit 0) (.th λ_=>s.state.aj.length) (.th λ_=>dB),.sl 3 4 (.lit 0) (.th λ_=>s.state.kept.length) (.th λ_=>eL)],aL Order.ts 4 s.state.aa cW,aL aC.ts 4 s.state.aj dB,aL Kept.ts 4 s.state.kept eL] (λy_ o_=>r.2.state.aa.length<=cW/\r.2.state.aj.length<=dB/\y_=r.1.av/\o_=[.box [I6 r.2.state.limit,aq Cell.ts 6 r.2.state.cells,aq aQ.ts 4 r.2.state.af.aK,aq au.ts 4 r.2.state.af.ak,aq ah.ts 2 r.2.state.aA,.sl 1 4 (.lit 0) (.th λ_=>r.2.state.aa.length) (.th λ_=>cW),.sl 2 4 (.lit 0) (.th λ_=>r.2.state.aj.length) (.th λ_=>dB),.sl 3 4 (.lit 0) (.th λ_=>s.state.kept.length) (.th λ_=>eL)],aL Order.ts 4 r.2.state.aa cW,aL aC.ts 4 r.2.state.aj dB,aL Kept.ts 4 s.state.kept eL]):=by
 have:=Pg.mk hP;unfold K3 at hR;refine aV.can ?_;refine ZD hP ?_;cbv;refine Pb hP ?_;cbv;obtain⟨p1,gM,hR⟩:=az hR;refine jQ gM ?_;cbv;refine aM.i hR ?_ ?_<;>intro c2 hR<;>cbv
 ·obtain⟨p3,oV,hR⟩:=az hR;refine aJ oV ?_;cbv;cases hR;exact⟨_,_,⟨[0,1,2,3],rfl,rfl,al,al⟩,iJ,lg,rfl,rfl⟩
 obtain⟨m4,hR⟩:=bl hR;refine bg.mk m4 ?_;cbv;obtain⟨x5,Df,hR⟩:=az hR;refine bF.mk _ (ec _) (cj rfl (bn Df) (eT _)) ?_;cbv;refine aM.i hR ?_ ?_<;>intro c6 hR<;>cbv
 ·obtain⟨p7,Cd,hR⟩:=az hR;refine aJ Cd ?_;cbv;cases hR;exact⟨_,_,⟨[0,1,2,3],rfl,rfl,al,al⟩,iJ,lg,rfl,rfl⟩
 refine bg.mk m4 ?_;cbv;refine bF.mk _ (ec _) (cj rfl (bn Df) (eT _)) ?_;cbv;refine T1 hP ?_;cbv;refine kC (ty hP) 19 (λRL RK s8=>[(0,.sl 2 4 (.lit 0) (.th λ_=>s.state.aj.length) (.th λ_=>dB)),(1,.fn (.func 135) [] [.ref 4 0]),(7,I6 RL),(8,I6 RK)]) (λs8=>[.box [I6 s.state.limit,aq Cell.ts 6 s.state.cells,aq aQ.ts 4 s.state.af.aK,aq au.ts 4 s.state.af.ak,aq ah.ts 2 s.state.aA,.sl 1 4 (.lit 0) (.th λ_=>s.state.aa.length) (.th λ_=>cW),.sl 2 4 (.lit 0) (.th λ_=>s.state.aj.length) (.th λ_=>dB),.sl 3 4 (.lit 0) (.th λ_=>s.state.kept.length) (.th λ_=>eL)],aL Order.ts 4 ((s.state.aa).set (p1.1).toNat (⟨x5.id,x5.lines,x5.aP,4⟩:Order)) cW,aL aC.ts 4 s.state.aj dB,aL Kept.ts 4 s.state.kept eL,.box [AS (.th λ_=>a.mark),I8 a.kind,I6 a.order,aq aU.ts 4 a.lines],.box [AI .i64 (.lit 0),AI .u8 (.lit 0),AI .i64 (.lit 0)]]) (λr_ g_=>(AE.ret,sp 19 [(4,I6 r_)],[.box [I6 s.state.limit,aq Cell.ts 6 s.state.cells,aq aQ.ts 4 s.state.af.aK,aq au.ts 4 s.state.af.ak,aq ah.ts 2 s.state.aA,.sl 1 4 (.lit 0) (.th λ_=>s.state.aa.length) (.th λ_=>cW),.sl 2 4 (.lit 0) (.th λ_=>s.state.aj.length) (.th λ_=>dB),.sl 3 4 (.lit 0) (.th λ_=>s.state.kept.length) (.th λ_=>eL)],aL Order.ts 4 ((s.state.aa).set (p1.1).toNat (⟨x5.id,x5.lines,x5.aP,4⟩:Order)) cW,aL aC.ts 4 s.state.aj dB,aL Kept.ts 4 s.state.kept eL,.box [AS (.th λ_=>a.mark),I8 a.kind,I6 a.order,aq aU.ts 4 a.lines],.box [AI .i64 (.lit 0),AI .u8 (.lit 0),AI .i64 (.lit 0)]])) (AE.exit 0) hR (λRL Jk=>aaP) ?_ ?_ ?_
 ·intro RL Jk RK s8 g9 W_ y13 Pc K4 RM T2 hR J B hJ hB;cbv;refine aM.t (decide_eq_true K4) ?_;cbv;refine bg.mk (Dj Jk Pc K4) ?_;cbv;refine bF.mk _ (ec _) (cj rfl T2 (eT _)) ?_;cbv;refine T3 hP ?_;cbv;exact go
 ·intro RL Jk Xb Mo hR;dsimp only at hR;cbv;refine aR.cS (ty hP) (mo hP) rfl ?_;cbv;(iterate 12 (refine aS.z ?_;cbv));cases hR
 intro Mn yJ hR;dsimp only at hR;cbv;refine aR.cS (ty hP) (mo hP) rfl ?_;cbv;(iterate 12 (refine aS.z ?_;cbv));obtain⟨Xc,hR⟩:=bl hR;apply aS.is
 ·intro J hJ;cbv;refine bg.mk Xc ?_;cbv;exact hJ
 cbv;refine aS.z ?_;cbv;obtain⟨oY,Pd,hR⟩:=az hR;refine bF.mk _ (ec _) (cj rfl (bn Pd) (eT _)) ?_;cbv;apply aS.is
 ·intro J hJ;cbv;refine bg.mk Xc ?_;cbv;exact hJ
 cbv;refine aS.z ?_;cbv;refine bF.mk _ (ec _) (cj (bL (ts:=aC.ts) (l:=s.state.aj) (⟨oY.order,2,oY.pos,oY.aO⟩:aC) rfl (Nat.zero_add _) rfl) (tN (bn Pd)) (eT _)) ?_;cbv;obtain⟨v9,B_,hR⟩:=az hR;refine(nN hP _ _ _ B_ cW (fA iJ) dB (fA (fA lg)) eL T0).own [0,1,2,3] [] (by rfl) (by rfl) al (.cons rfl (.aN (.cons (.int rfl) (.cons (.c .refl) (.cons (.c .refl) (.cons (.c .refl) (.cons (.c .refl) (.cons (.sl (q:=1) rfl rfl (bT rfl) rfl) (.cons (.sl (q:=2) rfl rfl (bT (bT rfl)) rfl) (.cons (.sl (q:=3) rfl rfl rfl rfl) .nil))))))))) (.cons rfl (.aD rfl rfl) (.cons rfl (.aD (bL (ts:=aC.ts) (l:=((s.state.aj).set (Mn).toNat (⟨oY.order,2,oY.pos,oY.aO⟩:aC))) (⟨(⟨oY.order,2,oY.pos,oY.aO⟩:aC).order,(⟨oY.order,2,oY.pos,oY.aO⟩:aC).kind,(⟨oY.order,2,oY.pos,oY.aO⟩:aC).pos,true⟩:aC) (bL (ts:=aC.ts) (l:=s.state.aj) (⟨oY.order,2,oY.pos,oY.aO⟩:aC) rfl (Nat.zero_add _) rfl) (Nat.zero_add _) rfl) rfl) (.cons rfl (.aD rfl rfl) .nil)))) (λx_ o_ bI=> ?_);obtain⟨t23,t24,rfl,rfl⟩:=bI;refine⟨.box (.arr (an _ _) (.arr (an _ _) (.arr (an _ _) .nil))), ?_⟩;cbv;obtain⟨Xa,T4,hR⟩:=az hR;refine bF.mk _ (ec _) (cj rfl (bn T4) (eT _)) ?_;cbv;obtain⟨mT,Cb,hR⟩:=az hR;refine aJ Cb ?_;cbv;cases hR;exact⟨_,_,⟨[0,1,2,3],rfl,rfl,al,al⟩,t23,t24,rfl,rfl⟩
def Mp (s:aI)(a:Ask):Option (bz×aI):=
 (uD s.state.aa a.order).bind λp1=>
 if(!p1.2)=true then
  (nM 11).bind λp3=>
  some (p3,s)
 else if(dJ s.state.aa.length p1.1)=true then
  (fH s.state.aa p1.1).bind λx5=>
  if(ai .neq x5.status 3)=true then
   (nM 9).bind λp7=>
   some (p7,s)
  else if(decide ((s.state.aj++[(⟨a.order,3,0,false⟩:aC)]).length*32<=140737488355328))=true then
   (Cj (⟨(⟨x5.id,x5.lines,x5.aP,6⟩:Order).id,(⟨x5.id,x5.lines,x5.aP,6⟩:Order).lines,(⟨x5.id,x5.lines,x5.aP,6⟩:Order).aP,(⟨x5.id,x5.lines,x5.aP,6⟩:Order).status⟩:Order)).bind λpJ=>
   some (pJ,(⟨(⟨s.state.limit,s.state.cells,s.state.af,s.state.aA,((s.state.aa).set (p1.1).toNat (⟨x5.id,x5.lines,x5.aP,6⟩:Order)),(s.state.aj++[(⟨a.order,3,0,false⟩:aC)]),s.state.kept⟩:State)⟩:aI))
  else none
 else none
theorem Dk (hP:P=Tryz.prog)(s:aI)(a:Ask)(r:bz×aI)(hR:Mp s a=some r)(cW:Nat)(iJ:s.state.aa.length<=cW)(dB:Nat)(lg:s.state.aj.length<=dB)(eL:Nat)(_:s.state.kept.length<=eL):aV P 83 [.ref 0 0,a.av] [.box [I6 s.state.limit,aq Cell.ts 6 s.state.cells,aq aQ.ts 4 s.state.af.aK,aq au.ts 4 s.state.af.ak,aq ah.ts 2 s.state.aA,.sl 1 4 (.lit 0) (.th λ_=>s.state.aa.length) (.th λ_=>cW),.sl 2 4 (.lit 0) (.th λ_=>s.state.aj.length) (.th λ_=>dB),.sl 3 4 (.lit 0) (.th λ_=>s.state.kept.length) (.th λ_=>eL)],aL Order.ts 4 s.state.aa cW,aL aC.ts 4 s.state.aj dB,aL Kept.ts 4 s.state.kept eL] (λy_ o_=>∃Gv Gw:Nat,r.2.state.aa.length<=Gv/\r.2.state.aj.length<=Gw/\y_=r.1.av/\o_=[.box [I6 r.2.state.limit,aq Cell.ts 6 r.2.state.cells,aq aQ.ts 4 r.2.state.af.aK,aq au.ts 4 r.2.state.af.ak,aq ah.ts 2 r.2.state.aA,.sl 4 4 (.lit 0) (.th λ_=>r.2.state.aa.length) (.th λ_=>Gv),.sl 5 4 (.lit 0) (.th λ_=>r.2.state.aj.length) (.th λ_=>Gw),.sl 3 4 (.lit 0) (.th λ_=>s.state.kept.length) (.th λ_=>eL)],.dead,.dead,aL Kept.ts 4 s.state.kept eL,aL Order.ts 4 r.2.state.aa Gv,aL aC.ts 4 r.2.state.aj Gw]):=by
 have:=Pg.mk hP;unfold Mp at hR;refine aV.can ?_;refine ZE hP ?_;cbv;refine Pb hP ?_;cbv;obtain⟨p1,gM,hR⟩:=az hR;refine jQ gM ?_;cbv;refine aM.i hR ?_ ?_<;>intro c2 hR<;>cbv
 ·obtain⟨p3,oV,hR⟩:=az hR;refine aJ oV ?_;cbv;cases hR;exact⟨_,_,⟨[0,1001,1002,3,1,2],rfl,rfl,al,al⟩,cW,dB,iJ,lg,rfl,rfl⟩
 obtain⟨m4,hR⟩:=bl hR;refine bg.mk m4 ?_;cbv;obtain⟨x5,Df,hR⟩:=az hR;refine bF.mk _ (ec _) (cj rfl (bn Df) (eT _)) ?_;cbv;refine aM.i hR ?_ ?_<;>intro c6 hR<;>cbv
 ·obtain⟨p7,Cd,hR⟩:=az hR;refine aJ Cd ?_;cbv;cases hR;exact⟨_,_,⟨[0,1001,1002,3,1,2],rfl,rfl,al,al⟩,cW,dB,iJ,lg,rfl,rfl⟩
 refine bg.mk m4 ?_;cbv;refine bF.mk _ (ec _) (cj rfl (bn Df) (eT _)) ?_;cbv;refine aR.cS (ty hP) (mo hP) rfl ?_;cbv;(iterate 9 (refine aS.z ?_;cbv));refine bZ.mk (aZ.cons rfl (aZ.cons rfl (aZ.cons rfl (aZ.cons rfl aZ.nil)))) ?_;cbv;obtain⟨m8,hR⟩:=bl hR;refine IP (ty hP) (e:=116) s.state.aj (⟨a.order,3,0,false⟩:aC) (of_decide_eq_true m8) λk9 ZF=> ?_;cbv
 (iterate 3 (refine aS.z ?_;cbv));refine bF.mk _ (ec _) (cj (bL (ts:=Order.ts) (l:=s.state.aa) (⟨x5.id,x5.lines,x5.aP,6⟩:Order) rfl (Nat.zero_add _) rfl) (tN (bn Df)) (eT _)) ?_;cbv;obtain⟨pJ,qW,hR⟩:=az hR;refine aJ qW ?_;cbv
 cases hR;exact⟨_,_,⟨[0,1001,1002,3,1,7],rfl,rfl,al,al⟩,cW,k9,(fA iJ),ZF,rfl,rfl⟩
def K5 (s:aI)(a:Ask):Option (bz×aI):=
 if(ai .eql ((a.lines.map aU.ts).length:Int) 0)=true then
  (nM 2).bind λp2=>
  some (p2,s)
 else(bh (λ(_:Unit)(i5:Int)(x7:aU)=>
  if(ai .neq x7.unit 0)=true then
   some (.inr i5)
  else some (.inl ())) a.lines ():Option ((Unit)⊕(Int))).bind λGF=>
 match GF with
 | .inl _=>
  if(ai .gtr ((a.lines.map aU.ts).length:Int) 16)=true then
   (nM 3).bind λXd=>
   some (Xd,s)
  else(hcl s.state.cells).bind λK6=>
  (bh (λ(RN:(List Cell))(_:Int)(T5:aU)=>
   (El RN T5.item T5.aE T5.gF).bind λED=>
   if(ai .neq ED.2 0)=true then
    some (.inr ED.2)
   else some (.inl ED.1)) a.lines K6:Option (((List Cell))⊕(Int))).bind λZG=>
  match ZG with
  | .inl Xe=>
   some ((⟨0,0,0⟩:bz),(⟨(⟨s.state.limit,Xe,s.state.af,s.state.aA,s.state.aa,s.state.aj,s.state.kept⟩:State)⟩:aI))
  | .inr T6=>
   if(ai .neq T6 0)=true then
    (nM T6).bind λXf=>
    some (Xf,s)
   else some ((⟨0,0,0⟩:bz),(⟨(⟨s.state.limit,([]:List Cell),s.state.af,s.state.aA,s.state.aa,s.state.aj,s.state.kept⟩:State)⟩:aI))
 | .inr Xg=>
  if(ai .geq Xg 0)=true then
   (nM 2).bind λCh=>
   some (Ch,s)
  else if(ai .gtr ((a.lines.map aU.ts).length:Int) 16)=true then
   (nM 3).bind λeI=>
   some (eI,s)
  else(hcl s.state.cells).bind λAa=>
  (bh (λ(eS:(List Cell))(_:Int)(x24:aU)=>
   (El eS x24.item x24.aE x24.gF).bind λxm=>
   if(ai .neq xm.2 0)=true then
    some (.inr xm.2)
   else some (.inl xm.1)) a.lines Aa:Option (((List Cell))⊕(Int))).bind λZH=>
  match ZH with
  | .inl Xh=>
   some ((⟨0,0,0⟩:bz),(⟨(⟨s.state.limit,Xh,s.state.af,s.state.aA,s.state.aa,s.state.aj,s.state.kept⟩:State)⟩:aI))
  | .inr T7=>
   if(ai .neq T7 0)=true then
    (nM T7).bind λq_=>
    some (q_,s)
   else some ((⟨0,0,0⟩:bz),(⟨(⟨s.state.limit,([]:List Cell),s.state.af,s.state.aA,s.state.aa,s.state.aj,s.state.kept⟩:State)⟩:aI))
theorem Dl (hP:P=Tryz.prog)(s:aI)(a:Ask)(r:bz×aI)(hR:K5 s a=some r)(cW:Nat)(_:s.state.aa.length<=cW)(dB:Nat)(_:s.state.aj.length<=dB)(eL:Nat)(_:s.state.kept.length<=eL):aV P 84 [.ref 0 0,a.av] [.box [I6 s.state.limit,aq Cell.ts 6 s.state.cells,aq aQ.ts 4 s.state.af.aK,aq au.ts 4 s.state.af.ak,aq ah.ts 2 s.state.aA,.sl 1 4 (.lit 0) (.th λ_=>s.state.aa.length) (.th λ_=>cW),.sl 2 4 (.lit 0) (.th λ_=>s.state.aj.length) (.th λ_=>dB),.sl 3 4 (.lit 0) (.th λ_=>s.state.kept.length) (.th λ_=>eL)],aL Order.ts 4 s.state.aa cW,aL aC.ts 4 s.state.aj dB,aL Kept.ts 4 s.state.kept eL] (λy_ o_=>y_=r.1.av/\o_=[.box [I6 r.2.state.limit,aq Cell.ts 6 r.2.state.cells,aq aQ.ts 4 r.2.state.af.aK,aq au.ts 4 r.2.state.af.ak,aq ah.ts 2 r.2.state.aA,.sl 1 4 (.lit 0) (.th λ_=>s.state.aa.length) (.th λ_=>cW),.sl 2 4 (.lit 0) (.th λ_=>s.state.aj.length) (.th λ_=>dB),.sl 3 4 (.lit 0) (.th λ_=>s.state.kept.length) (.th λ_=>eL)],aL Order.ts 4 s.state.aa cW,aL aC.ts 4 s.state.aj dB,aL Kept.ts 4 s.state.kept eL]):=by
 have:=Pg.mk hP;unfold K5 at hR;refine aV.can ?_;refine ZI hP ?_;cbv;refine aM.i hR ?_ ?_<;>intro c1 hR<;>cbv
 ·obtain⟨p2,BC,hR⟩:=az hR;refine aJ BC ?_;cbv;cases hR;exact⟨_,_,⟨[0,1,2,3],rfl,rfl,al,al⟩,rfl,rfl⟩
 refine O6 hP ?_;cbv;refine O7 hP ?_;cbv;refine kC (ty hP) 19 (λN6 i5 s3=>[(0,aq aU.ts 4 a.lines),(1,.fn (.func 137) [] []),(7,I6 N6),(8,I6 i5)]) (λs3=>[.box [I6 s.state.limit,aq Cell.ts 6 s.state.cells,aq aQ.ts 4 s.state.af.aK,aq au.ts 4 s.state.af.ak,aq ah.ts 2 s.state.aA,.sl 1 4 (.lit 0) (.th λ_=>s.state.aa.length) (.th λ_=>cW),.sl 2 4 (.lit 0) (.th λ_=>s.state.aj.length) (.th λ_=>dB),.sl 3 4 (.lit 0) (.th λ_=>s.state.kept.length) (.th λ_=>eL)],aL Order.ts 4 s.state.aa cW,aL aC.ts 4 s.state.aj dB,aL Kept.ts 4 s.state.kept eL,.box [AS (.th λ_=>a.mark),I8 a.kind,I6 a.order,aq aU.ts 4 a.lines],.box [AI .i64 (.lit 0),AI .u8 (.lit 0),AI .i64 (.lit 0)]]) (λr_ g_=>(AE.ret,sp 19 [(4,I6 r_)],[.box [I6 s.state.limit,aq Cell.ts 6 s.state.cells,aq aQ.ts 4 s.state.af.aK,aq au.ts 4 s.state.af.ak,aq ah.ts 2 s.state.aA,.sl 1 4 (.lit 0) (.th λ_=>s.state.aa.length) (.th λ_=>cW),.sl 2 4 (.lit 0) (.th λ_=>s.state.aj.length) (.th λ_=>dB),.sl 3 4 (.lit 0) (.th λ_=>s.state.kept.length) (.th λ_=>eL)],aL Order.ts 4 s.state.aa cW,aL aC.ts 4 s.state.aj dB,aL Kept.ts 4 s.state.kept eL,.box [AS (.th λ_=>a.mark),I8 a.kind,I6 a.order,aq aU.ts 4 a.lines],.box [AI .i64 (.lit 0),AI .u8 (.lit 0),AI .i64 (.lit 0)]])) (AE.exit 0) hR (λN6 B7=>aaP) ?_ ?_ ?_
 ·intro N6 B7 i5 s3 g4 x7 y8 Gp Gq Gr OY hR J B hJ hB;cbv;refine aM.t (decide_eq_true Gq) ?_;cbv;refine bF.mk _ Gp (aY aU.ts _ _ _ OY) ?_;cbv;refine T8 hP ?_;cbv;exact go
 ·intro N6 B7 s37 g38 hR;dsimp only at hR;cbv;refine aM.i hR ?_ ?_<;>intro YI hR<;>cbv
  ·obtain⟨Xd,T9,hR⟩:=az hR;refine aJ T9 ?_;cbv;cases hR;exact⟨_,_,⟨[0,1,2,3],rfl,rfl,al,al⟩,rfl,rfl⟩
  refine aR.cS (ty hP) (mo hP) rfl ?_;cbv;(iterate 7 (refine aS.z ?_;cbv));refine EF hP ?_;cbv;obtain⟨K6,Mq,hR⟩:=az hR;refine aJ Mq ?_;cbv;refine kC (ty hP) 41 (λT_ ZJ RN=>[(2,.fn (.func 139) [] []),(8,aq Cell.ts 6 RN),(17,aq aU.ts 4 a.lines),(18,I6 T_),(19,I6 ZJ)]) (λRN=>[.box [I6 s.state.limit,aq Cell.ts 6 s.state.cells,aq aQ.ts 4 s.state.af.aK,aq au.ts 4 s.state.af.ak,aq ah.ts 2 s.state.aA,.sl 1 4 (.lit 0) (.th λ_=>s.state.aa.length) (.th λ_=>cW),.sl 2 4 (.lit 0) (.th λ_=>s.state.aj.length) (.th λ_=>dB),.sl 3 4 (.lit 0) (.th λ_=>s.state.kept.length) (.th λ_=>eL)],aL Order.ts 4 s.state.aa cW,aL aC.ts 4 s.state.aj dB,aL Kept.ts 4 s.state.kept eL,.box [AS (.th λ_=>a.mark),I8 a.kind,I6 a.order,aq aU.ts 4 a.lines],.box [AI .i64 (.lit 0),AI .u8 (.lit 0),AI .i64 (.lit 0)]]) (λr_ g_=>(AE.ret,sp 41 [(6,.c (.lit (.slice none 0 0))),(7,I6 r_)],[.box [I6 s.state.limit,aq Cell.ts 6 s.state.cells,aq aQ.ts 4 s.state.af.aK,aq au.ts 4 s.state.af.ak,aq ah.ts 2 s.state.aA,.sl 1 4 (.lit 0) (.th λ_=>s.state.aa.length) (.th λ_=>cW),.sl 2 4 (.lit 0) (.th λ_=>s.state.aj.length) (.th λ_=>dB),.sl 3 4 (.lit 0) (.th λ_=>s.state.kept.length) (.th λ_=>eL)],aL Order.ts 4 s.state.aa cW,aL aC.ts 4 s.state.aj dB,aL Kept.ts 4 s.state.kept eL,.box [AS (.th λ_=>a.mark),I8 a.kind,I6 a.order,aq aU.ts 4 a.lines],.box [AI .i64 (.lit 0),AI .u8 (.lit 0),AI .i64 (.lit 0)]])) (AE.exit 0) hR (λT_ Pe=>aaP) go ?_ ?_
  ·intro T_ Pe Xe ZK hR;dsimp only at hR;cbv;(iterate 5 (refine aS.z ?_;cbv));cases hR;exact⟨_,_,⟨[0,1,2,3],rfl,rfl,al,al⟩,rfl,rfl⟩
  intro T6 FT hR;dsimp only at hR;cbv;(iterate 5 (refine aS.z ?_;cbv));refine aM.i hR ?_ ?_<;>intro W2 hR<;>cbv
  ·obtain⟨Xf,Ua,hR⟩:=az hR;refine aJ Ua ?_;cbv;cases hR;exact⟨_,_,⟨[0,1,2,3],rfl,rfl,al,al⟩,rfl,rfl⟩
  cases hR;exact⟨_,_,⟨[0,1,2,3],rfl,rfl,al,al⟩,rfl,rfl⟩
 intro Xg oF hR;dsimp only at hR;cbv;refine aM.i hR ?_ ?_<;>intro S6 hR<;>cbv
 ·obtain⟨Ch,Mg,hR⟩:=az hR;refine aJ Mg ?_;cbv;cases hR;exact⟨_,_,⟨[0,1,2,3],rfl,rfl,al,al⟩,rfl,rfl⟩
 refine aM.i hR ?_ ?_<;>intro YB hR<;>cbv
 ·obtain⟨eI,qZ,hR⟩:=az hR;refine aJ qZ ?_;cbv;cases hR;exact⟨_,_,⟨[0,1,2,3],rfl,rfl,al,al⟩,rfl,rfl⟩
 refine aR.cS (ty hP) (mo hP) rfl ?_;cbv;(iterate 7 (refine aS.z ?_;cbv));refine EF hP ?_;cbv;obtain⟨Aa,Gy,hR⟩:=az hR;refine aJ Gy ?_;cbv;refine kC (ty hP) 41 (λUb i22 eS=>[(2,.fn (.func 139) [] []),(8,aq Cell.ts 6 eS),(17,aq aU.ts 4 a.lines),(18,I6 Ub),(19,I6 i22)]) (λeS=>[.box [I6 s.state.limit,aq Cell.ts 6 s.state.cells,aq aQ.ts 4 s.state.af.aK,aq au.ts 4 s.state.af.ak,aq ah.ts 2 s.state.aA,.sl 1 4 (.lit 0) (.th λ_=>s.state.aa.length) (.th λ_=>cW),.sl 2 4 (.lit 0) (.th λ_=>s.state.aj.length) (.th λ_=>dB),.sl 3 4 (.lit 0) (.th λ_=>s.state.kept.length) (.th λ_=>eL)],aL Order.ts 4 s.state.aa cW,aL aC.ts 4 s.state.aj dB,aL Kept.ts 4 s.state.kept eL,.box [AS (.th λ_=>a.mark),I8 a.kind,I6 a.order,aq aU.ts 4 a.lines],.box [AI .i64 (.lit 0),AI .u8 (.lit 0),AI .i64 (.lit 0)]]) (λr_ g_=>(AE.ret,sp 41 [(6,.c (.lit (.slice none 0 0))),(7,I6 r_)],[.box [I6 s.state.limit,aq Cell.ts 6 s.state.cells,aq aQ.ts 4 s.state.af.aK,aq au.ts 4 s.state.af.ak,aq ah.ts 2 s.state.aA,.sl 1 4 (.lit 0) (.th λ_=>s.state.aa.length) (.th λ_=>cW),.sl 2 4 (.lit 0) (.th λ_=>s.state.aj.length) (.th λ_=>dB),.sl 3 4 (.lit 0) (.th λ_=>s.state.kept.length) (.th λ_=>eL)],aL Order.ts 4 s.state.aa cW,aL aC.ts 4 s.state.aj dB,aL Kept.ts 4 s.state.kept eL,.box [AS (.th λ_=>a.mark),I8 a.kind,I6 a.order,aq aU.ts 4 a.lines],.box [AI .i64 (.lit 0),AI .u8 (.lit 0),AI .i64 (.lit 0)]])) (AE.exit 0) hR (λUb Pf=>aaP) go ?_ ?_
 ·intro Ub Pf Xh Mr hR;dsimp only at hR;cbv;(iterate 5 (refine aS.z ?_;cbv));cases hR;exact⟨_,_,⟨[0,1,2,3],rfl,rfl,al,al⟩,rfl,rfl⟩
 intro T7 FP hR;dsimp only at hR;cbv;(iterate 5 (refine aS.z ?_;cbv));refine aM.i hR ?_ ?_<;>intro S9 hR<;>cbv
 ·obtain⟨q_,Ms,hR⟩:=az hR;refine aJ Ms ?_;cbv;cases hR;exact⟨_,_,⟨[0,1,2,3],rfl,rfl,al,al⟩,rfl,rfl⟩
 cases hR;exact⟨_,_,⟨[0,1,2,3],rfl,rfl,al,al⟩,rfl,rfl⟩
def K7 (s:aI)(a:Ask):Option (bz×aI):=
 (uD s.state.aa a.order).bind λp7=>
 if(!p7.2)=true then
  (nM 11).bind λp9=>
  some (p9,s)
 else if(dJ s.state.aa.length p7.1)=true then
  (fH s.state.aa p7.1).bind λGK=>
  (Cj GK).bind λqb=>
  some (qb,s)
 else none
theorem Dm (hP:P=Tryz.prog)(s:aI)(a:Ask)(r:bz×aI)(hR:K7 s a=some r)(cW:Nat)(_:s.state.aa.length<=cW)(dB:Nat)(_:s.state.aj.length<=dB)(eL:Nat)(_:s.state.kept.length<=eL):aV P 85 [.ref 0 0,a.av] [.box [I6 s.state.limit,aq Cell.ts 6 s.state.cells,aq aQ.ts 4 s.state.af.aK,aq au.ts 4 s.state.af.ak,aq ah.ts 2 s.state.aA,.sl 1 4 (.lit 0) (.th λ_=>s.state.aa.length) (.th λ_=>cW),.sl 2 4 (.lit 0) (.th λ_=>s.state.aj.length) (.th λ_=>dB),.sl 3 4 (.lit 0) (.th λ_=>s.state.kept.length) (.th λ_=>eL)],aL Order.ts 4 s.state.aa cW,aL aC.ts 4 s.state.aj dB,aL Kept.ts 4 s.state.kept eL] (λy_ o_=>y_=r.1.av/\o_=[.box [I6 r.2.state.limit,aq Cell.ts 6 r.2.state.cells,aq aQ.ts 4 r.2.state.af.aK,aq au.ts 4 r.2.state.af.ak,aq ah.ts 2 r.2.state.aA,.sl 1 4 (.lit 0) (.th λ_=>s.state.aa.length) (.th λ_=>cW),.sl 2 4 (.lit 0) (.th λ_=>s.state.aj.length) (.th λ_=>dB),.sl 3 4 (.lit 0) (.th λ_=>s.state.kept.length) (.th λ_=>eL)],aL Order.ts 4 s.state.aa cW,aL aC.ts 4 s.state.aj dB,aL Kept.ts 4 s.state.kept eL]):=by
 have:=Pg.mk hP;unfold K7 at hR;refine aV.can ?_;refine ZL hP ?_;cbv;refine aR.cS (ty hP) (mo hP) rfl ?_;cbv;(iterate 7 (refine aS.z ?_;cbv));obtain⟨p7,Cd,hR⟩:=az hR;refine jQ Cd ?_;cbv;(iterate 5 (refine aS.z ?_;cbv));refine aM.i hR ?_ ?_<;>intro c8 hR<;>cbv
 ·obtain⟨p9,tw,hR⟩:=az hR;refine aJ tw ?_;cbv;cases hR;exact⟨_,_,⟨[0,1,2,3],rfl,rfl,al,al⟩,rfl,rfl⟩
 obtain⟨ZM,hR⟩:=bl hR;refine bg.mk ZM ?_;cbv;obtain⟨GK,Cl,hR⟩:=az hR;refine bF.mk _ (ec _) (cj rfl (bn Cl) (eT _)) ?_;cbv;obtain⟨qb,Ce,hR⟩:=az hR;refine aJ Ce ?_;cbv;cases hR;exact⟨_,_,⟨[0,1,2,3],rfl,rfl,al,al⟩,rfl,rfl⟩
def K8 (s:aI)(a:Ask):Option (bz×aI):=
 if(ai .neq ((a.lines.map aU.ts).length:Int) 1)=true then
  (nM 2).bind λp2=>
  some (p2,s)
 else(fH a.lines 0).bind λx3=>
 (wv s.state.cells x3.item x3.aE).bind λp4=>
 if(ai .neq p4.2 0)=true then
  (nM p4.2).bind λp6=>
  some (p6,s)
 else some ((⟨0,0,p4.1.free⟩:bz),s)
theorem Dn (hP:P=Tryz.prog)(s:aI)(a:Ask)(r:bz×aI)(hR:K8 s a=some r)(cW:Nat)(_:s.state.aa.length<=cW)(dB:Nat)(_:s.state.aj.length<=dB)(eL:Nat)(_:s.state.kept.length<=eL):aV P 86 [.ref 0 0,a.av] [.box [I6 s.state.limit,aq Cell.ts 6 s.state.cells,aq aQ.ts 4 s.state.af.aK,aq au.ts 4 s.state.af.ak,aq ah.ts 2 s.state.aA,.sl 1 4 (.lit 0) (.th λ_=>s.state.aa.length) (.th λ_=>cW),.sl 2 4 (.lit 0) (.th λ_=>s.state.aj.length) (.th λ_=>dB),.sl 3 4 (.lit 0) (.th λ_=>s.state.kept.length) (.th λ_=>eL)],aL Order.ts 4 s.state.aa cW,aL aC.ts 4 s.state.aj dB,aL Kept.ts 4 s.state.kept eL] (λy_ o_=>y_=r.1.av/\o_=[.box [I6 r.2.state.limit,aq Cell.ts 6 r.2.state.cells,aq aQ.ts 4 r.2.state.af.aK,aq au.ts 4 r.2.state.af.ak,aq ah.ts 2 r.2.state.aA,.sl 1 4 (.lit 0) (.th λ_=>s.state.aa.length) (.th λ_=>cW),.sl 2 4 (.lit 0) (.th λ_=>s.state.aj.length) (.th λ_=>dB),.sl 3 4 (.lit 0) (.th λ_=>s.state.kept.length) (.th λ_=>eL)],aL Order.ts 4 s.state.aa cW,aL aC.ts 4 s.state.aj dB,aL Kept.ts 4 s.state.kept eL]):=by
 have:=Pg.mk hP;unfold K8 at hR;refine aV.can ?_;refine ZN hP ?_;cbv;refine aM.i hR ?_ ?_<;>intro c1 hR<;>cbv
 ·obtain⟨p2,BC,hR⟩:=az hR;refine aJ BC ?_;cbv;cases hR;exact⟨_,_,⟨[0,1,2,3],rfl,rfl,al,al⟩,rfl,rfl⟩
 refine aR.cS (ty hP) (mo hP) rfl ?_;cbv;(iterate 7 (refine aS.z ?_;cbv));obtain⟨x3,K9,hR⟩:=az hR;apply aS.is
 ·intro J hJ;cbv;refine bF.mk _ (iC K9) (aY aU.ts _ _ _ (bn K9)) ?_;cbv;exact hJ
 cbv
 (iterate 4 (refine aS.z ?_;cbv));apply aS.is
 ·intro J hJ;cbv;refine bF.mk _ (iC K9) (aY aU.ts _ _ _ (bn K9)) ?_;cbv;exact hJ
 cbv
 (iterate 2 (refine aS.z ?_;cbv));refine EE.mk ?_ ?_
 ·cbv;obtain⟨p4,Ew,hR⟩:=az hR;refine aJ Ew ?_;cbv;(iterate 3 (refine aS.z ?_;cbv));refine bZ.mk (aZ.cons rfl (aZ.cons rfl (aZ.cons rfl (aZ.cons rfl (aZ.cons rfl (aZ.cons rfl (aZ.cons rfl (aZ.cons rfl aZ.nil)))))))) ?_;cbv;refine aS.z ?_;cbv;refine aM.i hR ?_ ?_<;>intro c5 hR<;>cbv
  ·obtain⟨p6,GL,hR⟩:=az hR;refine aJ GL ?_;cbv;cases hR;exact⟨_,_,⟨[0,1,2,3],rfl,rfl,al,al⟩,rfl,rfl⟩
  cases hR;exact⟨_,_,⟨[0,1,2,3],rfl,rfl,al,al⟩,rfl,rfl⟩
 cbv;refine bZ.mk (aZ.cons rfl (aZ.cons rfl (aZ.cons rfl (aZ.cons rfl (aZ.cons rfl (aZ.cons rfl (aZ.cons rfl (aZ.cons rfl aZ.nil)))))))) ?_;cbv;obtain⟨p4,Ew,hR⟩:=az hR;refine aJ Ew ?_;cbv;(iterate 4 (refine aS.z ?_;cbv));refine aM.i hR ?_ ?_<;>intro c5 hR<;>cbv
 ·obtain⟨p6,GL,hR⟩:=az hR;refine aJ GL ?_;cbv;cases hR;exact⟨_,_,⟨[0,1,2,3],rfl,rfl,al,al⟩,rfl,rfl⟩
 cases hR;exact⟨_,_,⟨[0,1,2,3],rfl,rfl,al,al⟩,rfl,rfl⟩
end Go.Proofs.aaa
end
