/- Texts that the law leans on, part 19. No conditions. -/
import Derived.Test.YtnpliafeboadcaaGreatK18
section
namespace Go.Proofs.aaa
open Go.bA Go.IntWalk
variable{P:Program}
set_option maxHeartbeats 4000000
set_option maxRecDepth 20000
def FT (s:aI)(k:Int):Option (Bool×aI):=
 if(dJ s.state.aj.length k)=true then
  (fH s.state.aj k).bind λx2=>
  (hnext x2).bind λp3=>
  if p3.2.1=true then
   some (false,s)
  else(uD s.state.aa x2.order).bind λgO=>
  (GI x2).bind λqb=>
  if(dJ s.state.aa.length gO.1)=true then
   (fH s.state.aa gO.1).bind λmQ=>
   if(decide (0<=k/\k<(s.state.aj.length:Int)/\(aH .add .i64 k 1)=k+1/\s.state.aj.length<=1000000))=true then
    some (true,(⟨(⟨s.state.limit,s.state.cells,s.state.af,s.state.aA,((s.state.aa).set (gO.1).toNat (⟨mQ.id,mQ.lines,mQ.aP,qb⟩:Order)),(s.state.aj.eraseIdx (k).toNat),s.state.kept⟩:State)⟩:aI))
   else none
  else none
 else none
theorem nN (hP:P=Tryz.prog)(s:aI)(k:Int)(r:Bool×aI)(hR:FT s k=some r)(cW:Nat)(iJ:s.state.aa.length<=cW)(dB:Nat)(lg:s.state.aj.length<=dB)(eL:Nat)(_:s.state.kept.length<=eL):aV P 54 [.ref 0 0,I6 k] [.box [I6 s.state.limit,aq Cell.ts 6 s.state.cells,aq aQ.ts 4 s.state.af.aK,aq au.ts 4 s.state.af.ak,aq ah.ts 2 s.state.aA,.sl 1 4 (.lit 0) (.th λ_=>s.state.aa.length) (.th λ_=>cW),.sl 2 4 (.lit 0) (.th λ_=>s.state.aj.length) (.th λ_=>dB),.sl 3 4 (.lit 0) (.th λ_=>s.state.kept.length) (.th λ_=>eL)],aL Order.ts 4 s.state.aa cW,aL aC.ts 4 s.state.aj dB,aL Kept.ts 4 s.state.kept eL] (λy_ o_=>r.2.state.aa.length<=cW/\r.2.state.aj.length<=dB/\y_=AB (.th λ_=>r.1)/\o_=[.box [I6 r.2.state.limit,aq Cell.ts 6 r.2.state.cells,aq aQ.ts 4 r.2.state.af.aK,aq au.ts 4 r.2.state.af.ak,aq ah.ts 2 r.2.state.aA,.sl 1 4 (.lit 0) (.th λ_=>r.2.state.aa.length) (.th λ_=>cW),.sl 2 4 (.lit 0) (.th λ_=>r.2.state.aj.length) (.th λ_=>dB),.sl 3 4 (.lit 0) (.th λ_=>s.state.kept.length) (.th λ_=>eL)],aL Order.ts 4 r.2.state.aa cW,aL aC.ts 4 r.2.state.aj dB,aL Kept.ts 4 s.state.kept eL]):=by
 have:=Pg.mk hP;unfold FT at hR;refine aV.can ?_;refine Zy hP ?_;cbv;obtain⟨m1,hR⟩:=bl hR;refine bg.mk m1 ?_;cbv;obtain⟨x2,Zz,hR⟩:=az hR;refine bF.mk _ (ec _) (cj rfl (bn Zz) (eT _)) ?_;cbv;obtain⟨p3,oV,hR⟩:=az hR;refine aJ oV ?_;cbv;refine aM.i hR ?_ ?_<;>intro c4 hR<;>cbv
 ·cases hR;exact⟨_,_,⟨[0,1,2,3],rfl,rfl,al,al⟩,iJ,lg,rfl,rfl⟩
 refine aR.cS (ty hP) (mo hP) rfl ?_;cbv;(iterate 7 (refine aS.z ?_;cbv));obtain⟨gO,qX,hR⟩:=az hR;refine jQ qX ?_;cbv;(iterate 5 (refine aS.z ?_;cbv));refine aR.cS (ty hP) (mo hP) rfl ?_;cbv;(iterate 7 (refine aS.z ?_;cbv));obtain⟨qb,Ce,hR⟩:=az hR;refine aJ Ce ?_;cbv;refine bZ.mk (aZ.cons rfl (aZ.cons rfl (aZ.cons rfl (aZ.cons rfl aZ.nil)))) ?_;cbv;obtain⟨ZA,hR⟩:=bl hR;apply aS.is
 ·intro J hJ;cbv;refine bg.mk ZA ?_;cbv;exact hJ
 cbv;refine aS.z ?_;cbv;obtain⟨mQ,Ji,hR⟩:=az hR;refine bF.mk _ (ec _) (cj rfl (bn Ji) (eT _)) ?_;cbv;obtain⟨Oc,hR⟩:=bl hR;refine aV.i6 0 rfl (λ_ (Gm:dB<=9223372036854775807)=> ?_);refine(Ab hP s.state.aj dB k (aH .add .i64 k 1) (s.state.aj.length:Int) lg rfl (of_decide_eq_true Oc).1 (of_decide_eq_true Oc).2.1 (of_decide_eq_true Oc).2.2.1 (of_decide_eq_true Oc).2.2.2 Gm).own [2] [] (by rfl) (by rfl) al al (λx_ o_ bI=> ?_);obtain⟨rfl,rfl⟩:=bI;refine⟨.arr (an _ _) .nil, ?_⟩;cbv;cases hR;exact⟨_,[.box [AI .i64 (.th λ_=>(true,(⟨(⟨s.state.limit,s.state.cells,s.state.af,s.state.aA,((s.state.aa).set (gO.1).toNat (⟨mQ.id,mQ.lines,mQ.aP,qb⟩:Order)),(s.state.aj.eraseIdx (k).toNat),s.state.kept⟩:State)⟩:aI)).2.state.limit),aq Cell.ts 6 (true,(⟨(⟨s.state.limit,s.state.cells,s.state.af,s.state.aA,((s.state.aa).set (gO.1).toNat (⟨mQ.id,mQ.lines,mQ.aP,qb⟩:Order)),(s.state.aj.eraseIdx (k).toNat),s.state.kept⟩:State)⟩:aI)).2.state.cells,aq aQ.ts 4 (true,(⟨(⟨s.state.limit,s.state.cells,s.state.af,s.state.aA,((s.state.aa).set (gO.1).toNat (⟨mQ.id,mQ.lines,mQ.aP,qb⟩:Order)),(s.state.aj.eraseIdx (k).toNat),s.state.kept⟩:State)⟩:aI)).2.state.af.aK,aq au.ts 4 (true,(⟨(⟨s.state.limit,s.state.cells,s.state.af,s.state.aA,((s.state.aa).set (gO.1).toNat (⟨mQ.id,mQ.lines,mQ.aP,qb⟩:Order)),(s.state.aj.eraseIdx (k).toNat),s.state.kept⟩:State)⟩:aI)).2.state.af.ak,aq ah.ts 2 (true,(⟨(⟨s.state.limit,s.state.cells,s.state.af,s.state.aA,((s.state.aa).set (gO.1).toNat (⟨mQ.id,mQ.lines,mQ.aP,qb⟩:Order)),(s.state.aj.eraseIdx (k).toNat),s.state.kept⟩:State)⟩:aI)).2.state.aA,.sl 1 4 (.lit 0) (.th λ_=>(true,(⟨(⟨s.state.limit,s.state.cells,s.state.af,s.state.aA,((s.state.aa).set (gO.1).toNat (⟨mQ.id,mQ.lines,mQ.aP,qb⟩:Order)),(s.state.aj.eraseIdx (k).toNat),s.state.kept⟩:State)⟩:aI)).2.state.aa.length) (.th λ_=>cW),.sl 2 4 (.lit 0) (.th λ_=>(true,(⟨(⟨s.state.limit,s.state.cells,s.state.af,s.state.aA,((s.state.aa).set (gO.1).toNat (⟨mQ.id,mQ.lines,mQ.aP,qb⟩:Order)),(s.state.aj.eraseIdx (k).toNat),s.state.kept⟩:State)⟩:aI)).2.state.aj.length) (.th λ_=>dB),.sl 3 4 (.lit 0) (.th λ_=>s.state.kept.length) (.th λ_=>eL)],aL Order.ts 4 (true,(⟨(⟨s.state.limit,s.state.cells,s.state.af,s.state.aA,((s.state.aa).set (gO.1).toNat (⟨mQ.id,mQ.lines,mQ.aP,qb⟩:Order)),(s.state.aj.eraseIdx (k).toNat),s.state.kept⟩:State)⟩:aI)).2.state.aa cW,aL aC.ts 4 (true,(⟨(⟨s.state.limit,s.state.cells,s.state.af,s.state.aA,((s.state.aa).set (gO.1).toNat (⟨mQ.id,mQ.lines,mQ.aP,qb⟩:Order)),(s.state.aj.eraseIdx (k).toNat),s.state.kept⟩:State)⟩:aI)).2.state.aj dB,aL Kept.ts 4 s.state.kept eL],⟨[0,1,2,3],rfl,rfl,al,(.cons rfl (.aN (.cons (.int rfl) (.cons (.c .refl) (.cons (.c .refl) (.cons (.c .refl) (.cons (.c .refl) (.cons (.sl (q:=1) rfl rfl (bT rfl) rfl) (.cons (.sl (q:=2) rfl rfl (qY (of_decide_eq_true Oc).1 (of_decide_eq_true Oc).2.1) rfl) (.cons (.sl (q:=3) rfl rfl rfl rfl) .nil))))))))) (.cons rfl (.aD (bL (ts:=Order.ts) (l:=s.state.aa) (⟨mQ.id,mQ.lines,mQ.aP,qb⟩:Order) rfl (Nat.zero_add _) rfl) rfl) (.cons rfl (.aD rfl rfl) (.cons rfl (.aD rfl rfl) .nil))))⟩,(fA iJ),(lY lg),rfl,rfl⟩
end Go.Proofs.aaa
end
