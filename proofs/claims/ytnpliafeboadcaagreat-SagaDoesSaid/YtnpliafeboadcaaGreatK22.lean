/- Texts that the law leans on, part 22. No conditions. -/
import Derived.Test.YtnpliafeboadcaaGreatK19
section
namespace Go.Proofs.aaa
open Go.bA Go.IntWalk
variable{P:Program}
set_option maxHeartbeats 4000000
set_option maxRecDepth 20000
def Oh (s:aI)(order:Int)(step:Int):Option (Int×aI):=
 (uD s.state.aa order).bind λp1=>
 if(dJ s.state.aa.length p1.1)=true then
  (fH s.state.aa p1.1).bind λx3=>
  if(ai .eql step 1)=true then
   (hcl s.state.cells).bind λp5=>
   (bh (λ(s6:(List Cell))(_:Int)(eu:aU)=>
    (Eo s6 eu.item eu.aE eu.gF).bind λiq=>
    if(ai .neq iq.2 0)=true then
     some (.inr iq.2)
    else some (.inl iq.1)) x3.lines p5:Option (((List Cell))⊕(Int))).bind λL4=>
   match L4 with
   | .inl eS=>
    some (0,(⟨(⟨s.state.limit,eS,s.state.af,s.state.aA,s.state.aa,s.state.aj,s.state.kept⟩:State)⟩:aI))
   | .inr Oi=>
    if(ai .neq Oi 0)=true then
     some (Oi,(⟨(⟨s.state.limit,([]:List Cell),s.state.af,s.state.aA,s.state.aa,s.state.aj,s.state.kept⟩:State)⟩:aI))
    else some (0,(⟨(⟨s.state.limit,([]:List Cell),s.state.af,s.state.aA,s.state.aa,s.state.aj,s.state.kept⟩:State)⟩:aI))
  else if(ai .eql step 6)=true then
   (hcl s.state.cells).bind λBE=>
   (bh (λ(FQ:(List Cell))(_:Int)(Jh:aU)=>
    (Ep FQ Jh.item Jh.aE Jh.gF).bind λow=>
    if(ai .neq ow.2 0)=true then
     some (.inr ow.2)
    else some (.inl ow.1)) x3.lines BE:Option (((List Cell))⊕(Int))).bind λR34=>
   match R34 with
   | .inl XC=>
    some (0,(⟨(⟨s.state.limit,XC,s.state.af,s.state.aA,s.state.aa,s.state.aj,s.state.kept⟩:State)⟩:aI))
   | .inr UI=>
    if(ai .neq UI 0)=true then
     some (UI,(⟨(⟨s.state.limit,([]:List Cell),s.state.af,s.state.aA,s.state.aa,s.state.aj,s.state.kept⟩:State)⟩:aI))
    else some (0,(⟨(⟨s.state.limit,([]:List Cell),s.state.af,s.state.aA,s.state.aa,s.state.aj,s.state.kept⟩:State)⟩:aI))
  else if(ai .eql step 2)=true then
   (Gx s.state.af x3.id x3.aP).bind λK6=>
   if(ai .neq K6.2 0)=true then
    some (K6.2,(⟨(⟨s.state.limit,s.state.cells,K6.1,s.state.aA,s.state.aa,s.state.aj,s.state.kept⟩:State)⟩:aI))
   else some (0,(⟨(⟨s.state.limit,s.state.cells,K6.1,s.state.aA,s.state.aa,s.state.aj,s.state.kept⟩:State)⟩:aI))
  else if(ai .eql step 7)=true then
   (Cg s.state.af x3.id).bind λkR=>
   if(ai .eql kR.2 0)=true then
    if(ai .gtr kR.1.bC 0)=true then
     (GB s.state.af x3.id).bind λOj=>
     if(ai .neq Oj.2.2 0)=true then
      some (Oj.2.2,(⟨(⟨s.state.limit,s.state.cells,Oj.1,s.state.aA,s.state.aa,s.state.aj,s.state.kept⟩:State)⟩:aI))
     else some (0,(⟨(⟨s.state.limit,s.state.cells,Oj.1,s.state.aA,s.state.aa,s.state.aj,s.state.kept⟩:State)⟩:aI))
    else some (0,s)
   else some (kR.2,s)
  else if(ai .eql step 4)=true then
   (GC s.state.af x3.id).bind λED=>
   if(ai .neq ED.2.2 0)=true then
    some (ED.2.2,(⟨(⟨s.state.limit,s.state.cells,ED.1,s.state.aA,s.state.aa,s.state.aj,s.state.kept⟩:State)⟩:aI))
   else some (0,(⟨(⟨s.state.limit,s.state.cells,ED.1,s.state.aA,s.state.aa,s.state.aj,s.state.kept⟩:State)⟩:aI))
  else if(ai .eql step 9)=true then
   (Cg s.state.af x3.id).bind λJt=>
   if(ai .eql Jt.2 0)=true then
    (GD s.state.af x3.id (aH .sub .i64 Jt.1.aT Jt.1.aX)).bind λgK=>
    if(ai .neq gK.2 0)=true then
     some (gK.2,(⟨(⟨s.state.limit,s.state.cells,gK.1,s.state.aA,s.state.aa,s.state.aj,s.state.kept⟩:State)⟩:aI))
    else some (0,(⟨(⟨s.state.limit,s.state.cells,gK.1,s.state.aA,s.state.aa,s.state.aj,s.state.kept⟩:State)⟩:aI))
   else some (Jt.2,s)
  else if(ai .eql step 3)=true then
   (jA s.state.aA x3.id 1 0).bind λQc=>
   if(ai .neq Qc.2 0)=true then
    some (Qc.2,(⟨(⟨s.state.limit,s.state.cells,s.state.af,Qc.1,s.state.aa,s.state.aj,s.state.kept⟩:State)⟩:aI))
   else some (0,(⟨(⟨s.state.limit,s.state.cells,s.state.af,Qc.1,s.state.aa,s.state.aj,s.state.kept⟩:State)⟩:aI))
  else if(ai .eql step 8)=true then
   (jA s.state.aA x3.id 4 0).bind λjs=>
   if(ai .neq js.2 0)=true then
    some (js.2,(⟨(⟨s.state.limit,s.state.cells,s.state.af,js.1,s.state.aa,s.state.aj,s.state.kept⟩:State)⟩:aI))
   else some (0,(⟨(⟨s.state.limit,s.state.cells,s.state.af,js.1,s.state.aa,s.state.aj,s.state.kept⟩:State)⟩:aI))
  else if(ai .eql step 10)=true then
   (jA s.state.aA x3.id 5 0).bind λDr=>
   if(ai .neq Dr.2 0)=true then
    some (Dr.2,(⟨(⟨s.state.limit,s.state.cells,s.state.af,Dr.1,s.state.aa,s.state.aj,s.state.kept⟩:State)⟩:aI))
   else some (0,(⟨(⟨s.state.limit,s.state.cells,s.state.af,Dr.1,s.state.aa,s.state.aj,s.state.kept⟩:State)⟩:aI))
  else if(ai .eql step 5)=true then
   (jA s.state.aA x3.id 2 0).bind λJu=>
   if(ai .neq Ju.2 0)=true then
    some (Ju.2,(⟨(⟨s.state.limit,s.state.cells,s.state.af,Ju.1,s.state.aa,s.state.aj,s.state.kept⟩:State)⟩:aI))
   else(hcl s.state.cells).bind λXD=>
   (bh (λ(iV:(List Cell))(_:Int)(RZ:aU)=>
    (Er iV RZ.item RZ.aE RZ.gF).bind λFZ=>
    if(ai .neq FZ.2 0)=true then
     some (.inr FZ.2)
    else some (.inl FZ.1)) x3.lines XD:Option (((List Cell))⊕(Int))).bind λUJ=>
   match UJ with
   | .inl XE=>
    some (0,(⟨(⟨s.state.limit,XE,s.state.af,Ju.1,s.state.aa,s.state.aj,s.state.kept⟩:State)⟩:aI))
   | .inr UK=>
    if(ai .neq UK 0)=true then
     some (UK,(⟨(⟨s.state.limit,([]:List Cell),s.state.af,Ju.1,s.state.aa,s.state.aj,s.state.kept⟩:State)⟩:aI))
    else some (0,(⟨(⟨s.state.limit,([]:List Cell),s.state.af,Ju.1,s.state.aa,s.state.aj,s.state.kept⟩:State)⟩:aI))
  else(jA s.state.aA x3.id 6 0).bind λJv=>
  if(ai .neq Jv.2 0)=true then
   some (Jv.2,(⟨(⟨s.state.limit,s.state.cells,s.state.af,Jv.1,s.state.aa,s.state.aj,s.state.kept⟩:State)⟩:aI))
  else(hcl s.state.cells).bind λXF=>
  (bh (λ(Lk:(List Cell))(_:Int)(R0:aU)=>
   (Es Lk R0.item R0.aE R0.gF).bind λR1=>
   if(ai .neq R1.2 0)=true then
    some (.inr R1.2)
   else some (.inl R1.1)) x3.lines XF:Option (((List Cell))⊕(Int))).bind λ_I=>
  match _I with
  | .inl Qd=>
   some (0,(⟨(⟨s.state.limit,Qd,s.state.af,Jv.1,s.state.aa,s.state.aj,s.state.kept⟩:State)⟩:aI))
  | .inr MQ=>
   if(ai .neq MQ 0)=true then
    some (MQ,(⟨(⟨s.state.limit,([]:List Cell),s.state.af,Jv.1,s.state.aa,s.state.aj,s.state.kept⟩:State)⟩:aI))
   else some (0,(⟨(⟨s.state.limit,([]:List Cell),s.state.af,Jv.1,s.state.aa,s.state.aj,s.state.kept⟩:State)⟩:aI))
 else none
theorem Ds (hP:P=Tryz.prog)(s:aI)(order:Int)(step:Int)(r:Int×aI)(hR:Oh s order step=some r)(cW:Nat)(_:s.state.aa.length<=cW)(dB:Nat)(_:s.state.aj.length<=dB)(eL:Nat)(_:s.state.kept.length<=eL):aV P 52 [.ref 0 0,I6 order,I8 step] [.box [I6 s.state.limit,aq Cell.ts 6 s.state.cells,aq aQ.ts 4 s.state.af.aK,aq au.ts 4 s.state.af.ak,aq ah.ts 2 s.state.aA,.sl 1 4 (.lit 0) (.th λ_=>s.state.aa.length) (.th λ_=>cW),.sl 2 4 (.lit 0) (.th λ_=>s.state.aj.length) (.th λ_=>dB),.sl 3 4 (.lit 0) (.th λ_=>s.state.kept.length) (.th λ_=>eL)],aL Order.ts 4 s.state.aa cW,aL aC.ts 4 s.state.aj dB,aL Kept.ts 4 s.state.kept eL] (λy_ o_=>y_=I6 r.1/\o_=[.box [I6 r.2.state.limit,aq Cell.ts 6 r.2.state.cells,aq aQ.ts 4 r.2.state.af.aK,aq au.ts 4 r.2.state.af.ak,aq ah.ts 2 r.2.state.aA,.sl 1 4 (.lit 0) (.th λ_=>s.state.aa.length) (.th λ_=>cW),.sl 2 4 (.lit 0) (.th λ_=>s.state.aj.length) (.th λ_=>dB),.sl 3 4 (.lit 0) (.th λ_=>s.state.kept.length) (.th λ_=>eL)],aL Order.ts 4 s.state.aa cW,aL aC.ts 4 s.state.aj dB,aL Kept.ts 4 s.state.kept eL]):=by
 have:=Pg.mk hP;unfold Oh at hR;refine aV.can ?_;refine _J hP ?_;cbv;obtain⟨p1,gM,hR⟩:=az hR;refine jQ gM ?_;cbv;obtain⟨m2,hR⟩:=bl hR;refine bg.mk m2 ?_;cbv;obtain⟨x3,K9,hR⟩:=az hR;refine bF.mk _ (ec _) (cj rfl (bn K9) (eT _)) ?_;cbv;refine UL hP ?_;cbv;refine aM.i hR ?_ ?_<;>intro c4 hR<;>cbv
 ·refine Jw hP ?_;cbv;refine cu.rounds (ty hP) 2 ?_;cbv;refine Jx hP ?_;cbv;refine aR.cS (ty hP) (mo hP) rfl ?_;cbv;(iterate 9 (refine aS.z ?_;cbv));refine EF hP ?_;cbv;obtain⟨p5,Ma,hR⟩:=az hR;refine aJ Ma ?_;cbv;refine kC (ty hP) 41 (λN9 i8 s6=>[(2,.fn (.func 151) [] []),(8,aq Cell.ts 6 s6),(17,aq aU.ts 4 x3.lines),(18,I6 N9),(19,I6 i8)]) (λs6=>[.box [I6 s.state.limit,aq Cell.ts 6 s.state.cells,aq aQ.ts 4 s.state.af.aK,aq au.ts 4 s.state.af.ak,aq ah.ts 2 s.state.aA,.sl 1 4 (.lit 0) (.th λ_=>s.state.aa.length) (.th λ_=>cW),.sl 2 4 (.lit 0) (.th λ_=>s.state.aj.length) (.th λ_=>dB),.sl 3 4 (.lit 0) (.th λ_=>s.state.kept.length) (.th λ_=>eL)],aL Order.ts 4 s.state.aa cW,aL aC.ts 4 s.state.aj dB,aL Kept.ts 4 s.state.kept eL,.box [I6 x3.id,aq aU.ts 4 x3.lines,I6 x3.aP,I8 x3.status],.box [.ref 0 0],.box [.fn (.func 151) [] []],.arr 1 (.lit [[.fn (.func 178) [] [.ref 5 0,.ref 6 0]]]) (.lit 1),.box [I6 x3.id,aq aU.ts 4 x3.lines,I6 x3.aP,I8 x3.status]]) (λr_ g_=>(AE.ret,sp 41 [(6,.c (.lit (.slice none 0 0))),(7,I6 r_)],[.box [I6 s.state.limit,aq Cell.ts 6 s.state.cells,aq aQ.ts 4 s.state.af.aK,aq au.ts 4 s.state.af.ak,aq ah.ts 2 s.state.aA,.sl 1 4 (.lit 0) (.th λ_=>s.state.aa.length) (.th λ_=>cW),.sl 2 4 (.lit 0) (.th λ_=>s.state.aj.length) (.th λ_=>dB),.sl 3 4 (.lit 0) (.th λ_=>s.state.kept.length) (.th λ_=>eL)],aL Order.ts 4 s.state.aa cW,aL aC.ts 4 s.state.aj dB,aL Kept.ts 4 s.state.kept eL,.box [I6 x3.id,aq aU.ts 4 x3.lines,I6 x3.aP,I8 x3.status],.box [.ref 0 0],.box [.fn (.func 151) [] []],.arr 1 (.lit [[.fn (.func 178) [] [.ref 5 0,.ref 6 0]]]) (.lit 1),.box [I6 x3.id,aq aU.ts 4 x3.lines,I6 x3.aP,I8 x3.status]])) (AE.exit 0) hR (λN9 uQ=>dj.sp [0,1,2,3,4,5,6,7,8] rfl rfl rfl (.cons rfl (.ki .nil .nil) (.cons rfl (.c .refl) (.cons rfl (.c .refl) (.cons rfl (.int ((aW aU.ts 4 x3.lines).trans uQ.symm)) (.cons rfl (.int rfl) .nil))))) (.cons rfl (.aN (.cons (.int rfl) (.cons (.c .refl) (.cons (.c .refl) (.cons (.c .refl) (.cons (.c .refl) (.cons (.sl (q:=1) rfl rfl rfl rfl) (.cons (.sl (q:=2) rfl rfl rfl rfl) (.cons (.sl (q:=3) rfl rfl rfl rfl) .nil))))))))) (.cons rfl (.aD rfl rfl) (.cons rfl (.aD rfl rfl) (.cons rfl (.aD rfl rfl) (.cons rfl (.aN (.cons (.int rfl) (.cons (.c .refl) (.cons (.int rfl) (.cons (.int rfl) .nil))))) (.cons rfl (.aN (.cons (.ref (q:=0) rfl) .nil)) (.cons rfl (.aN (.cons (.ki .nil .nil) .nil)) (.cons rfl (.tD (.cons (.cons (.ki .nil (.cons (.ref (q:=5) rfl) (.cons (.ref (q:=6) rfl) .nil))) .nil) .nil) rfl) (.cons rfl (.aN (.cons (.int rfl) (.cons (.c .refl) (.cons (.int rfl) (.cons (.int rfl) .nil))))) .nil)))))))))) ?_ ?_ ?_
  ·intro N9 uQ i8 s6 g7 eu UM Cr Cs Ct lW hR J B hJ hB;cbv;refine aM.t (decide_eq_true Cs) ?_;cbv;refine bF.mk _ Cr (aY aU.ts _ _ _ lW) ?_;cbv;obtain⟨iq,L6,hR⟩:=az hR;refine aJ L6 ?_;cbv;refine aM.i hR ?_ ?_<;>intro S6 hR<;>cbv
   ·cases hR;exact hB _ () _ _ _ rfl rfl (mN [0,1,2,3,4,5,6,7,8] (.cons rfl (.aN (.cons (.int rfl) (.cons (.c .refl) (.cons (.c .refl) (.cons (.c .refl) (.cons (.c .refl) (.cons (.sl (q:=1) rfl rfl rfl rfl) (.cons (.sl (q:=2) rfl rfl rfl rfl) (.cons (.sl (q:=3) rfl rfl rfl rfl) .nil))))))))) (.cons rfl (.aD rfl rfl) (.cons rfl (.aD rfl rfl) (.cons rfl (.aD rfl rfl) (.cons rfl (.aN (.cons (.int rfl) (.cons (.c .refl) (.cons (.int rfl) (.cons (.int rfl) .nil))))) (.cons rfl (.aN (.cons (.ref (q:=0) rfl) .nil)) (.cons rfl (.aN (.cons (.ki .nil .nil) .nil)) (.cons rfl (.tD (.cons (.cons (.ki .nil (.cons (.ref (q:=5) rfl) (.cons (.ref (q:=6) rfl) .nil))) .nil) .nil) rfl) (.cons rfl (.aN (.cons (.int rfl) (.cons (.c .refl) (.cons (.int rfl) (.cons (.int rfl) .nil))))) .nil))))))))))
   cases hR;exact hJ _ () _ _ rfl (mN [0,1,2,3,4,5,6,7,8] (.cons rfl (.aN (.cons (.int rfl) (.cons (.c .refl) (.cons (.c .refl) (.cons (.c .refl) (.cons (.c .refl) (.cons (.sl (q:=1) rfl rfl rfl rfl) (.cons (.sl (q:=2) rfl rfl rfl rfl) (.cons (.sl (q:=3) rfl rfl rfl rfl) .nil))))))))) (.cons rfl (.aD rfl rfl) (.cons rfl (.aD rfl rfl) (.cons rfl (.aD rfl rfl) (.cons rfl (.aN (.cons (.int rfl) (.cons (.c .refl) (.cons (.int rfl) (.cons (.int rfl) .nil))))) (.cons rfl (.aN (.cons (.ref (q:=0) rfl) .nil)) (.cons rfl (.aN (.cons (.ki .nil .nil) .nil)) (.cons rfl (.tD (.cons (.cons (.ki .nil (.cons (.ref (q:=5) rfl) (.cons (.ref (q:=6) rfl) .nil))) .nil) .nil) rfl) (.cons rfl (.aN (.cons (.int rfl) (.cons (.c .refl) (.cons (.int rfl) (.cons (.int rfl) .nil))))) .nil))))))))))
  ·intro N9 uQ eS EN hR;dsimp only at hR;cbv;refine bZ.mk (aZ.cons rfl aZ.nil) ?_;cbv;(iterate 7 (refine aS.z ?_;cbv));cases hR;exact⟨_,_,⟨[0,1,2,3],rfl,rfl,al,al⟩,rfl,rfl⟩
  intro Oi g18 hR;dsimp only at hR;cbv;refine bZ.mk (aZ.cons rfl aZ.nil) ?_;cbv;(iterate 7 (refine aS.z ?_;cbv));refine aM.i hR ?_ ?_<;>intro L7 hR<;>cbv<;>(cases hR;exact⟨_,_,⟨[0,1,2,3],rfl,rfl,al,al⟩,rfl,rfl⟩)
 refine aM.i hR ?_ ?_<;>intro WT hR<;>cbv
 ·refine Jw hP ?_;cbv;refine cu.rounds (ty hP) 2 ?_;cbv;refine Jx hP ?_;cbv;refine aR.cS (ty hP) (mo hP) rfl ?_;cbv;(iterate 9 (refine aS.z ?_;cbv));refine EF hP ?_;cbv;obtain⟨BE,GA,hR⟩:=az hR;refine aJ GA ?_;cbv;refine kC (ty hP) 41 (λK1 O_ FQ=>[(2,.fn (.func 152) [] []),(8,aq Cell.ts 6 FQ),(17,aq aU.ts 4 x3.lines),(18,I6 K1),(19,I6 O_)]) (λFQ=>[.box [I6 s.state.limit,aq Cell.ts 6 s.state.cells,aq aQ.ts 4 s.state.af.aK,aq au.ts 4 s.state.af.ak,aq ah.ts 2 s.state.aA,.sl 1 4 (.lit 0) (.th λ_=>s.state.aa.length) (.th λ_=>cW),.sl 2 4 (.lit 0) (.th λ_=>s.state.aj.length) (.th λ_=>dB),.sl 3 4 (.lit 0) (.th λ_=>s.state.kept.length) (.th λ_=>eL)],aL Order.ts 4 s.state.aa cW,aL aC.ts 4 s.state.aj dB,aL Kept.ts 4 s.state.kept eL,.box [I6 x3.id,aq aU.ts 4 x3.lines,I6 x3.aP,I8 x3.status],.box [.ref 0 0],.box [.fn (.func 152) [] []],.arr 1 (.lit [[.fn (.func 178) [] [.ref 5 0,.ref 6 0]]]) (.lit 1),.box [I6 x3.id,aq aU.ts 4 x3.lines,I6 x3.aP,I8 x3.status]]) (λr_ g_=>(AE.ret,sp 41 [(6,.c (.lit (.slice none 0 0))),(7,I6 r_)],[.box [I6 s.state.limit,aq Cell.ts 6 s.state.cells,aq aQ.ts 4 s.state.af.aK,aq au.ts 4 s.state.af.ak,aq ah.ts 2 s.state.aA,.sl 1 4 (.lit 0) (.th λ_=>s.state.aa.length) (.th λ_=>cW),.sl 2 4 (.lit 0) (.th λ_=>s.state.aj.length) (.th λ_=>dB),.sl 3 4 (.lit 0) (.th λ_=>s.state.kept.length) (.th λ_=>eL)],aL Order.ts 4 s.state.aa cW,aL aC.ts 4 s.state.aj dB,aL Kept.ts 4 s.state.kept eL,.box [I6 x3.id,aq aU.ts 4 x3.lines,I6 x3.aP,I8 x3.status],.box [.ref 0 0],.box [.fn (.func 152) [] []],.arr 1 (.lit [[.fn (.func 178) [] [.ref 5 0,.ref 6 0]]]) (.lit 1),.box [I6 x3.id,aq aU.ts 4 x3.lines,I6 x3.aP,I8 x3.status]])) (AE.exit 0) hR (λK1 EA=>dj.sp [0,1,2,3,4,5,6,7,8] rfl rfl rfl (.cons rfl (.ki .nil .nil) (.cons rfl (.c .refl) (.cons rfl (.c .refl) (.cons rfl (.int ((aW aU.ts 4 x3.lines).trans EA.symm)) (.cons rfl (.int rfl) .nil))))) (.cons rfl (.aN (.cons (.int rfl) (.cons (.c .refl) (.cons (.c .refl) (.cons (.c .refl) (.cons (.c .refl) (.cons (.sl (q:=1) rfl rfl rfl rfl) (.cons (.sl (q:=2) rfl rfl rfl rfl) (.cons (.sl (q:=3) rfl rfl rfl rfl) .nil))))))))) (.cons rfl (.aD rfl rfl) (.cons rfl (.aD rfl rfl) (.cons rfl (.aD rfl rfl) (.cons rfl (.aN (.cons (.int rfl) (.cons (.c .refl) (.cons (.int rfl) (.cons (.int rfl) .nil))))) (.cons rfl (.aN (.cons (.ref (q:=0) rfl) .nil)) (.cons rfl (.aN (.cons (.ki .nil .nil) .nil)) (.cons rfl (.tD (.cons (.cons (.ki .nil (.cons (.ref (q:=5) rfl) (.cons (.ref (q:=6) rfl) .nil))) .nil) .nil) rfl) (.cons rfl (.aN (.cons (.int rfl) (.cons (.c .refl) (.cons (.int rfl) (.cons (.int rfl) .nil))))) .nil)))))))))) ?_ ?_ ?_
  ·intro K1 EA O_ FQ Zq Jh Zr GG GH Jj Mi hR J B hJ hB;cbv;refine aM.t (decide_eq_true GH) ?_;cbv;refine bF.mk _ GG (aY aU.ts _ _ _ Mi) ?_;cbv;obtain⟨ow,yI,hR⟩:=az hR;refine aJ yI ?_;cbv;refine aM.i hR ?_ ?_<;>intro S9 hR<;>cbv
   ·cases hR;exact hB _ () _ _ _ rfl rfl (mN [0,1,2,3,4,5,6,7,8] (.cons rfl (.aN (.cons (.int rfl) (.cons (.c .refl) (.cons (.c .refl) (.cons (.c .refl) (.cons (.c .refl) (.cons (.sl (q:=1) rfl rfl rfl rfl) (.cons (.sl (q:=2) rfl rfl rfl rfl) (.cons (.sl (q:=3) rfl rfl rfl rfl) .nil))))))))) (.cons rfl (.aD rfl rfl) (.cons rfl (.aD rfl rfl) (.cons rfl (.aD rfl rfl) (.cons rfl (.aN (.cons (.int rfl) (.cons (.c .refl) (.cons (.int rfl) (.cons (.int rfl) .nil))))) (.cons rfl (.aN (.cons (.ref (q:=0) rfl) .nil)) (.cons rfl (.aN (.cons (.ki .nil .nil) .nil)) (.cons rfl (.tD (.cons (.cons (.ki .nil (.cons (.ref (q:=5) rfl) (.cons (.ref (q:=6) rfl) .nil))) .nil) .nil) rfl) (.cons rfl (.aN (.cons (.int rfl) (.cons (.c .refl) (.cons (.int rfl) (.cons (.int rfl) .nil))))) .nil))))))))))
   cases hR;exact hJ _ () _ _ rfl (mN [0,1,2,3,4,5,6,7,8] (.cons rfl (.aN (.cons (.int rfl) (.cons (.c .refl) (.cons (.c .refl) (.cons (.c .refl) (.cons (.c .refl) (.cons (.sl (q:=1) rfl rfl rfl rfl) (.cons (.sl (q:=2) rfl rfl rfl rfl) (.cons (.sl (q:=3) rfl rfl rfl rfl) .nil))))))))) (.cons rfl (.aD rfl rfl) (.cons rfl (.aD rfl rfl) (.cons rfl (.aD rfl rfl) (.cons rfl (.aN (.cons (.int rfl) (.cons (.c .refl) (.cons (.int rfl) (.cons (.int rfl) .nil))))) (.cons rfl (.aN (.cons (.ref (q:=0) rfl) .nil)) (.cons rfl (.aN (.cons (.ki .nil .nil) .nil)) (.cons rfl (.tD (.cons (.cons (.ki .nil (.cons (.ref (q:=5) rfl) (.cons (.ref (q:=6) rfl) .nil))) .nil) .nil) rfl) (.cons rfl (.aN (.cons (.int rfl) (.cons (.c .refl) (.cons (.int rfl) (.cons (.int rfl) .nil))))) .nil))))))))))
  ·intro K1 EA XC g39 hR;dsimp only at hR;cbv;refine bZ.mk (aZ.cons rfl aZ.nil) ?_;cbv;(iterate 7 (refine aS.z ?_;cbv));cases hR;exact⟨_,_,⟨[0,1,2,3],rfl,rfl,al,al⟩,rfl,rfl⟩
  intro UI Mr hR;dsimp only at hR;cbv;refine bZ.mk (aZ.cons rfl aZ.nil) ?_;cbv;(iterate 7 (refine aS.z ?_;cbv));refine aM.i hR ?_ ?_<;>intro Ta hR<;>cbv<;>(cases hR;exact⟨_,_,⟨[0,1,2,3],rfl,rfl,al,al⟩,rfl,rfl⟩)
 refine aM.i hR ?_ ?_<;>intro WZ hR<;>cbv
 ·refine cu.rounds (ty hP) 2 ?_;cbv;refine UN hP ?_;cbv;refine aR.cS (ty hP) (mo hP) rfl ?_;cbv;(iterate 10 (refine aS.z ?_;cbv));obtain⟨K6,Mq,hR⟩:=az hR;refine aJ Mq ?_;cbv;(iterate 7 (refine aS.z ?_;cbv));refine aM.i hR ?_ ?_<;>intro Tb hR<;>cbv<;>(cases hR;exact⟨_,_,⟨[0,1,2,3],rfl,rfl,al,al⟩,rfl,rfl⟩)
 refine aM.i hR ?_ ?_<;>intro YK hR<;>cbv
 ·refine cu.rounds (ty hP) 2 ?_;cbv;refine UO hP ?_;cbv;refine aR.cS (ty hP) (mo hP) rfl ?_;cbv;(iterate 7 (refine aS.z ?_;cbv));refine EE.mk ?_ ?_
  ·cbv;obtain⟨kR,Ck,hR⟩:=az hR;refine aJ Ck ?_;cbv;(iterate 3 (refine aS.z ?_;cbv));refine bZ.mk (aZ.cons rfl (aZ.cons rfl (aZ.cons rfl (aZ.cons rfl (aZ.cons rfl (aZ.cons rfl aZ.nil)))))) ?_;cbv;refine aS.z ?_;cbv;refine aM.i hR ?_ ?_<;>intro L8 hR<;>cbv
   ·refine aM.i hR ?_ ?_<;>intro Tc hR<;>cbv
    ·refine aR.cS (ty hP) (mo hP) rfl ?_;cbv;(iterate 8 (refine aS.z ?_;cbv));obtain⟨Oj,MR,hR⟩:=az hR;refine aJ MR ?_;cbv;(iterate 8 (refine aS.z ?_;cbv));refine aM.i hR ?_ ?_<;>intro W0 hR<;>cbv<;>(cases hR;exact⟨_,_,⟨[0,1,2,3],rfl,rfl,al,al⟩,rfl,rfl⟩)
    refine aM.f (Ex L8) ?_;cbv;cases hR;exact⟨_,_,⟨[0,1,2,3],rfl,rfl,al,al⟩,rfl,rfl⟩
   refine aM.t (Cu L8) ?_;cbv;cases hR;exact⟨_,_,⟨[0,1,2,3],rfl,rfl,al,al⟩,rfl,rfl⟩
  cbv;refine bZ.mk (aZ.cons rfl (aZ.cons rfl (aZ.cons rfl (aZ.cons rfl (aZ.cons rfl (aZ.cons rfl aZ.nil)))))) ?_;cbv;obtain⟨kR,Ck,hR⟩:=az hR;refine aJ Ck ?_;cbv;(iterate 4 (refine aS.z ?_;cbv));refine aM.i hR ?_ ?_<;>intro L8 hR<;>cbv
  ·refine aM.i hR ?_ ?_<;>intro Tc hR<;>cbv
   ·refine aR.cS (ty hP) (mo hP) rfl ?_;cbv;(iterate 8 (refine aS.z ?_;cbv));obtain⟨Oj,MR,hR⟩:=az hR;refine aJ MR ?_;cbv;(iterate 8 (refine aS.z ?_;cbv));refine aM.i hR ?_ ?_<;>intro W0 hR<;>cbv<;>(cases hR;exact⟨_,_,⟨[0,1,2,3],rfl,rfl,al,al⟩,rfl,rfl⟩)
   refine aM.f (Ex L8) ?_;cbv;cases hR;exact⟨_,_,⟨[0,1,2,3],rfl,rfl,al,al⟩,rfl,rfl⟩
  refine aM.t (Cu L8) ?_;cbv;cases hR;exact⟨_,_,⟨[0,1,2,3],rfl,rfl,al,al⟩,rfl,rfl⟩
 refine aM.i hR ?_ ?_<;>intro Td hR<;>cbv
 ·refine cu.rounds (ty hP) 2 ?_;cbv;refine UP hP ?_;cbv;refine aR.cS (ty hP) (mo hP) rfl ?_;cbv;(iterate 8 (refine aS.z ?_;cbv));obtain⟨ED,GJ,hR⟩:=az hR;refine aJ GJ ?_;cbv;(iterate 8 (refine aS.z ?_;cbv));refine aM.i hR ?_ ?_<;>intro W1 hR<;>cbv<;>(cases hR;exact⟨_,_,⟨[0,1,2,3],rfl,rfl,al,al⟩,rfl,rfl⟩)
 refine aM.i hR ?_ ?_<;>intro Rz hR<;>cbv
 ·refine cu.rounds (ty hP) 2 ?_;cbv;refine UQ hP ?_;cbv;refine aR.cS (ty hP) (mo hP) rfl ?_;cbv;(iterate 7 (refine aS.z ?_;cbv));refine EE.mk ?_ ?_
  ·cbv;obtain⟨Jt,G1,hR⟩:=az hR;refine aJ G1 ?_;cbv;(iterate 3 (refine aS.z ?_;cbv));refine bZ.mk (aZ.cons rfl (aZ.cons rfl (aZ.cons rfl (aZ.cons rfl (aZ.cons rfl (aZ.cons rfl aZ.nil)))))) ?_;cbv;refine aS.z ?_;cbv;refine aM.i hR ?_ ?_<;>intro RA hR<;>cbv
   ·refine aR.cS (ty hP) (mo hP) rfl ?_;cbv;(iterate 13 (refine aS.z ?_;cbv));obtain⟨gK,GZ,hR⟩:=az hR;refine aJ GZ ?_;cbv;(iterate 7 (refine aS.z ?_;cbv));refine aM.i hR ?_ ?_<;>intro RB hR<;>cbv<;>(cases hR;exact⟨_,_,⟨[0,1,2,3],rfl,rfl,al,al⟩,rfl,rfl⟩)
   refine aM.t (Cu RA) ?_;cbv;cases hR;exact⟨_,_,⟨[0,1,2,3],rfl,rfl,al,al⟩,rfl,rfl⟩
  cbv;refine bZ.mk (aZ.cons rfl (aZ.cons rfl (aZ.cons rfl (aZ.cons rfl (aZ.cons rfl (aZ.cons rfl aZ.nil)))))) ?_;cbv;obtain⟨Jt,G1,hR⟩:=az hR;refine aJ G1 ?_;cbv;(iterate 4 (refine aS.z ?_;cbv));refine aM.i hR ?_ ?_<;>intro RA hR<;>cbv
  ·refine aR.cS (ty hP) (mo hP) rfl ?_;cbv;(iterate 13 (refine aS.z ?_;cbv));obtain⟨gK,GZ,hR⟩:=az hR;refine aJ GZ ?_;cbv;(iterate 7 (refine aS.z ?_;cbv));refine aM.i hR ?_ ?_<;>intro RB hR<;>cbv<;>(cases hR;exact⟨_,_,⟨[0,1,2,3],rfl,rfl,al,al⟩,rfl,rfl⟩)
  refine aM.t (Cu RA) ?_;cbv;cases hR;exact⟨_,_,⟨[0,1,2,3],rfl,rfl,al,al⟩,rfl,rfl⟩
 refine aM.i hR ?_ ?_<;>intro W3 hR<;>cbv
 ·refine G2 hP ?_;cbv;refine cu.rounds (ty hP) 2 ?_;cbv;refine G3 hP ?_;cbv;refine aR.cS (ty hP) (mo hP) rfl ?_;cbv;(iterate 9 (refine aS.z ?_;cbv));obtain⟨Qc,UR,hR⟩:=az hR;refine aJ UR ?_;cbv;refine bZ.mk (aZ.cons rfl aZ.nil) ?_;cbv
  (iterate 7 (refine aS.z ?_;cbv));refine aM.i hR ?_ ?_<;>intro Te hR<;>cbv<;>(cases hR;exact⟨_,_,⟨[0,1,2,3],rfl,rfl,al,al⟩,rfl,rfl⟩)
 refine aM.i hR ?_ ?_<;>intro YR hR<;>cbv
 ·refine G2 hP ?_;cbv;refine cu.rounds (ty hP) 2 ?_;cbv;refine G3 hP ?_;cbv;refine aR.cS (ty hP) (mo hP) rfl ?_;cbv;(iterate 9 (refine aS.z ?_;cbv));obtain⟨js,MK,hR⟩:=az hR;refine aJ MK ?_;cbv;refine bZ.mk (aZ.cons rfl aZ.nil) ?_;cbv
  (iterate 7 (refine aS.z ?_;cbv));refine aM.i hR ?_ ?_<;>intro YS hR<;>cbv<;>(cases hR;exact⟨_,_,⟨[0,1,2,3],rfl,rfl,al,al⟩,rfl,rfl⟩)
 refine aM.i hR ?_ ?_<;>intro YT hR<;>cbv
 ·refine G2 hP ?_;cbv;refine cu.rounds (ty hP) 2 ?_;cbv;refine G3 hP ?_;cbv;refine aR.cS (ty hP) (mo hP) rfl ?_;cbv;(iterate 9 (refine aS.z ?_;cbv));obtain⟨Dr,MS,hR⟩:=az hR;refine aJ MS ?_;cbv;refine bZ.mk (aZ.cons rfl aZ.nil) ?_;cbv
  (iterate 7 (refine aS.z ?_;cbv));refine aM.i hR ?_ ?_<;>intro c65 hR<;>cbv<;>(cases hR;exact⟨_,_,⟨[0,1,2,3],rfl,rfl,al,al⟩,rfl,rfl⟩)
 refine aM.i hR ?_ ?_<;>intro c66 hR<;>cbv
 ·refine G2 hP ?_;cbv;refine Jw hP ?_;cbv;refine cu.rounds (ty hP) 3 ?_;cbv;refine G3 hP ?_;cbv;refine aR.cS (ty hP) (mo hP) rfl ?_;cbv;(iterate 9 (refine aS.z ?_;cbv));obtain⟨Ju,US,hR⟩:=az hR;refine aJ US ?_;cbv;refine bZ.mk (aZ.cons rfl aZ.nil) ?_;cbv
  (iterate 7 (refine aS.z ?_;cbv));refine aM.i hR ?_ ?_<;>intro c68 hR<;>cbv
  ·cases hR;exact⟨_,_,⟨[0,1,2,3],rfl,rfl,al,al⟩,rfl,rfl⟩
  refine Jx hP ?_;cbv;refine aR.cS (ty hP) (mo hP) rfl ?_;cbv;(iterate 9 (refine aS.z ?_;cbv));refine EF hP ?_;cbv;obtain⟨XD,UT,hR⟩:=az hR;refine aJ UT ?_;cbv;refine kC (ty hP) 41 (λR2 XG iV=>[(2,.fn (.func 158) [] []),(8,aq Cell.ts 6 iV),(17,aq aU.ts 4 x3.lines),(18,I6 R2),(19,I6 XG)]) (λiV=>[.box [I6 s.state.limit,aq Cell.ts 6 s.state.cells,aq aQ.ts 4 s.state.af.aK,aq au.ts 4 s.state.af.ak,aq ah.ts 2 Ju.1,.sl 1 4 (.lit 0) (.th λ_=>s.state.aa.length) (.th λ_=>cW),.sl 2 4 (.lit 0) (.th λ_=>s.state.aj.length) (.th λ_=>dB),.sl 3 4 (.lit 0) (.th λ_=>s.state.kept.length) (.th λ_=>eL)],aL Order.ts 4 s.state.aa cW,aL aC.ts 4 s.state.aj dB,aL Kept.ts 4 s.state.kept eL,.box [I6 x3.id,aq aU.ts 4 x3.lines,I6 x3.aP,I8 x3.status],.box [.ref 0 0],.box [AI .u8 (.lit 2)],.box [.ref 0 0],.box [.fn (.func 158) [] []],.arr 1 (.lit [[.fn (.func 186) [] [.ref 5 0,.ref 6 0]],[.fn (.func 178) [] [.ref 7 0,.ref 8 0]]]) (.lit 2),.box [I6 x3.id,aq aU.ts 4 x3.lines,I6 x3.aP,I8 x3.status],.box [I6 x3.id,aq aU.ts 4 x3.lines,I6 x3.aP,I8 x3.status]]) (λr_ g_=>(AE.ret,sp 41 [(6,.c (.lit (.slice none 0 0))),(7,I6 r_)],[.box [I6 s.state.limit,aq Cell.ts 6 s.state.cells,aq aQ.ts 4 s.state.af.aK,aq au.ts 4 s.state.af.ak,aq ah.ts 2 Ju.1,.sl 1 4 (.lit 0) (.th λ_=>s.state.aa.length) (.th λ_=>cW),.sl 2 4 (.lit 0) (.th λ_=>s.state.aj.length) (.th λ_=>dB),.sl 3 4 (.lit 0) (.th λ_=>s.state.kept.length) (.th λ_=>eL)],aL Order.ts 4 s.state.aa cW,aL aC.ts 4 s.state.aj dB,aL Kept.ts 4 s.state.kept eL,.box [I6 x3.id,aq aU.ts 4 x3.lines,I6 x3.aP,I8 x3.status],.box [.ref 0 0],.box [AI .u8 (.lit 2)],.box [.ref 0 0],.box [.fn (.func 158) [] []],.arr 1 (.lit [[.fn (.func 186) [] [.ref 5 0,.ref 6 0]],[.fn (.func 178) [] [.ref 7 0,.ref 8 0]]]) (.lit 2),.box [I6 x3.id,aq aU.ts 4 x3.lines,I6 x3.aP,I8 x3.status],.box [I6 x3.id,aq aU.ts 4 x3.lines,I6 x3.aP,I8 x3.status]])) (AE.exit 0) hR (λR2 MT=>dj.sp [0,1,2,3,4,5,6,7,8,9,10,11] rfl rfl rfl (.cons rfl (.ki .nil .nil) (.cons rfl (.c .refl) (.cons rfl (.c .refl) (.cons rfl (.int ((aW aU.ts 4 x3.lines).trans MT.symm)) (.cons rfl (.int rfl) .nil))))) (.cons rfl (.aN (.cons (.int rfl) (.cons (.c .refl) (.cons (.c .refl) (.cons (.c .refl) (.cons (.c .refl) (.cons (.sl (q:=1) rfl rfl rfl rfl) (.cons (.sl (q:=2) rfl rfl rfl rfl) (.cons (.sl (q:=3) rfl rfl rfl rfl) .nil))))))))) (.cons rfl (.aD rfl rfl) (.cons rfl (.aD rfl rfl) (.cons rfl (.aD rfl rfl) (.cons rfl (.aN (.cons (.int rfl) (.cons (.c .refl) (.cons (.int rfl) (.cons (.int rfl) .nil))))) (.cons rfl (.aN (.cons (.ref (q:=0) rfl) .nil)) (.cons rfl (.aN (.cons (.int rfl) .nil)) (.cons rfl (.aN (.cons (.ref (q:=0) rfl) .nil)) (.cons rfl (.aN (.cons (.ki .nil .nil) .nil)) (.cons rfl (.tD (.cons (.cons (.ki .nil (.cons (.ref (q:=5) rfl) (.cons (.ref (q:=6) rfl) .nil))) .nil) (.cons (.cons (.ki .nil (.cons (.ref (q:=7) rfl) (.cons (.ref (q:=8) rfl) .nil))) .nil) .nil)) rfl) (.cons rfl (.aN (.cons (.int rfl) (.cons (.c .refl) (.cons (.int rfl) (.cons (.int rfl) .nil))))) (.cons rfl (.aN (.cons (.int rfl) (.cons (.c .refl) (.cons (.int rfl) (.cons (.int rfl) .nil))))) .nil))))))))))))) ?_ ?_ ?_
  ·intro R2 MT XG iV g71 RZ y75 Qe Qf R3 UU hR J B hJ hB;cbv;refine aM.t (decide_eq_true Qf) ?_;cbv;refine bF.mk _ Qe (aY aU.ts _ _ _ UU) ?_;cbv;obtain⟨FZ,UW,hR⟩:=az hR;refine aJ UW ?_;cbv;refine aM.i hR ?_ ?_<;>intro c79 hR<;>cbv
   ·cases hR;exact hB _ () _ _ _ rfl rfl (mN [0,1,2,3,4,5,6,7,8,9,10,11] (.cons rfl (.aN (.cons (.int rfl) (.cons (.c .refl) (.cons (.c .refl) (.cons (.c .refl) (.cons (.c .refl) (.cons (.sl (q:=1) rfl rfl rfl rfl) (.cons (.sl (q:=2) rfl rfl rfl rfl) (.cons (.sl (q:=3) rfl rfl rfl rfl) .nil))))))))) (.cons rfl (.aD rfl rfl) (.cons rfl (.aD rfl rfl) (.cons rfl (.aD rfl rfl) (.cons rfl (.aN (.cons (.int rfl) (.cons (.c .refl) (.cons (.int rfl) (.cons (.int rfl) .nil))))) (.cons rfl (.aN (.cons (.ref (q:=0) rfl) .nil)) (.cons rfl (.aN (.cons (.int rfl) .nil)) (.cons rfl (.aN (.cons (.ref (q:=0) rfl) .nil)) (.cons rfl (.aN (.cons (.ki .nil .nil) .nil)) (.cons rfl (.tD (.cons (.cons (.ki .nil (.cons (.ref (q:=5) rfl) (.cons (.ref (q:=6) rfl) .nil))) .nil) (.cons (.cons (.ki .nil (.cons (.ref (q:=7) rfl) (.cons (.ref (q:=8) rfl) .nil))) .nil) .nil)) rfl) (.cons rfl (.aN (.cons (.int rfl) (.cons (.c .refl) (.cons (.int rfl) (.cons (.int rfl) .nil))))) (.cons rfl (.aN (.cons (.int rfl) (.cons (.c .refl) (.cons (.int rfl) (.cons (.int rfl) .nil))))) .nil)))))))))))))
   cases hR;exact hJ _ () _ _ rfl (mN [0,1,2,3,4,5,6,7,8,9,10,11] (.cons rfl (.aN (.cons (.int rfl) (.cons (.c .refl) (.cons (.c .refl) (.cons (.c .refl) (.cons (.c .refl) (.cons (.sl (q:=1) rfl rfl rfl rfl) (.cons (.sl (q:=2) rfl rfl rfl rfl) (.cons (.sl (q:=3) rfl rfl rfl rfl) .nil))))))))) (.cons rfl (.aD rfl rfl) (.cons rfl (.aD rfl rfl) (.cons rfl (.aD rfl rfl) (.cons rfl (.aN (.cons (.int rfl) (.cons (.c .refl) (.cons (.int rfl) (.cons (.int rfl) .nil))))) (.cons rfl (.aN (.cons (.ref (q:=0) rfl) .nil)) (.cons rfl (.aN (.cons (.int rfl) .nil)) (.cons rfl (.aN (.cons (.ref (q:=0) rfl) .nil)) (.cons rfl (.aN (.cons (.ki .nil .nil) .nil)) (.cons rfl (.tD (.cons (.cons (.ki .nil (.cons (.ref (q:=5) rfl) (.cons (.ref (q:=6) rfl) .nil))) .nil) (.cons (.cons (.ki .nil (.cons (.ref (q:=7) rfl) (.cons (.ref (q:=8) rfl) .nil))) .nil) .nil)) rfl) (.cons rfl (.aN (.cons (.int rfl) (.cons (.c .refl) (.cons (.int rfl) (.cons (.int rfl) .nil))))) (.cons rfl (.aN (.cons (.int rfl) (.cons (.c .refl) (.cons (.int rfl) (.cons (.int rfl) .nil))))) .nil)))))))))))))
  ·intro R2 MT XE K7 hR;dsimp only at hR;cbv;refine bZ.mk (aZ.cons rfl aZ.nil) ?_;cbv;(iterate 7 (refine aS.z ?_;cbv));cases hR;exact⟨_,_,⟨[0,1,2,3],rfl,rfl,al,al⟩,rfl,rfl⟩
  intro UK K3 hR;dsimp only at hR;cbv;refine bZ.mk (aZ.cons rfl aZ.nil) ?_;cbv;(iterate 7 (refine aS.z ?_;cbv));refine aM.i hR ?_ ?_<;>intro c83 hR<;>cbv<;>(cases hR;exact⟨_,_,⟨[0,1,2,3],rfl,rfl,al,al⟩,rfl,rfl⟩)
 refine G2 hP ?_;cbv;refine Jw hP ?_;cbv;refine cu.rounds (ty hP) 3 ?_;cbv;refine G3 hP ?_;cbv;refine aR.cS (ty hP) (mo hP) rfl ?_;cbv;(iterate 9 (refine aS.z ?_;cbv));obtain⟨Jv,UX,hR⟩:=az hR;refine aJ UX ?_;cbv;refine bZ.mk (aZ.cons rfl aZ.nil) ?_;cbv
 (iterate 7 (refine aS.z ?_;cbv));refine aM.i hR ?_ ?_<;>intro c87 hR<;>cbv
 ·cases hR;exact⟨_,_,⟨[0,1,2,3],rfl,rfl,al,al⟩,rfl,rfl⟩
 refine Jx hP ?_;cbv;refine aR.cS (ty hP) (mo hP) rfl ?_;cbv;(iterate 9 (refine aS.z ?_;cbv));refine EF hP ?_;cbv;obtain⟨XF,UY,hR⟩:=az hR;refine aJ UY ?_;cbv;refine kC (ty hP) 41 (λR4 XH Lk=>[(2,.fn (.func 159) [] []),(8,aq Cell.ts 6 Lk),(17,aq aU.ts 4 x3.lines),(18,I6 R4),(19,I6 XH)]) (λLk=>[.box [I6 s.state.limit,aq Cell.ts 6 s.state.cells,aq aQ.ts 4 s.state.af.aK,aq au.ts 4 s.state.af.ak,aq ah.ts 2 Jv.1,.sl 1 4 (.lit 0) (.th λ_=>s.state.aa.length) (.th λ_=>cW),.sl 2 4 (.lit 0) (.th λ_=>s.state.aj.length) (.th λ_=>dB),.sl 3 4 (.lit 0) (.th λ_=>s.state.kept.length) (.th λ_=>eL)],aL Order.ts 4 s.state.aa cW,aL aC.ts 4 s.state.aj dB,aL Kept.ts 4 s.state.kept eL,.box [I6 x3.id,aq aU.ts 4 x3.lines,I6 x3.aP,I8 x3.status],.box [.ref 0 0],.box [AI .u8 (.lit 6)],.box [.ref 0 0],.box [.fn (.func 159) [] []],.arr 1 (.lit [[.fn (.func 186) [] [.ref 5 0,.ref 6 0]],[.fn (.func 178) [] [.ref 7 0,.ref 8 0]]]) (.lit 2),.box [I6 x3.id,aq aU.ts 4 x3.lines,I6 x3.aP,I8 x3.status],.box [I6 x3.id,aq aU.ts 4 x3.lines,I6 x3.aP,I8 x3.status]]) (λr_ g_=>(AE.ret,sp 41 [(6,.c (.lit (.slice none 0 0))),(7,I6 r_)],[.box [I6 s.state.limit,aq Cell.ts 6 s.state.cells,aq aQ.ts 4 s.state.af.aK,aq au.ts 4 s.state.af.ak,aq ah.ts 2 Jv.1,.sl 1 4 (.lit 0) (.th λ_=>s.state.aa.length) (.th λ_=>cW),.sl 2 4 (.lit 0) (.th λ_=>s.state.aj.length) (.th λ_=>dB),.sl 3 4 (.lit 0) (.th λ_=>s.state.kept.length) (.th λ_=>eL)],aL Order.ts 4 s.state.aa cW,aL aC.ts 4 s.state.aj dB,aL Kept.ts 4 s.state.kept eL,.box [I6 x3.id,aq aU.ts 4 x3.lines,I6 x3.aP,I8 x3.status],.box [.ref 0 0],.box [AI .u8 (.lit 6)],.box [.ref 0 0],.box [.fn (.func 159) [] []],.arr 1 (.lit [[.fn (.func 186) [] [.ref 5 0,.ref 6 0]],[.fn (.func 178) [] [.ref 7 0,.ref 8 0]]]) (.lit 2),.box [I6 x3.id,aq aU.ts 4 x3.lines,I6 x3.aP,I8 x3.status],.box [I6 x3.id,aq aU.ts 4 x3.lines,I6 x3.aP,I8 x3.status]])) (AE.exit 0) hR (λR4 MU=>dj.sp [0,1,2,3,4,5,6,7,8,9,10,11] rfl rfl rfl (.cons rfl (.ki .nil .nil) (.cons rfl (.c .refl) (.cons rfl (.c .refl) (.cons rfl (.int ((aW aU.ts 4 x3.lines).trans MU.symm)) (.cons rfl (.int rfl) .nil))))) (.cons rfl (.aN (.cons (.int rfl) (.cons (.c .refl) (.cons (.c .refl) (.cons (.c .refl) (.cons (.c .refl) (.cons (.sl (q:=1) rfl rfl rfl rfl) (.cons (.sl (q:=2) rfl rfl rfl rfl) (.cons (.sl (q:=3) rfl rfl rfl rfl) .nil))))))))) (.cons rfl (.aD rfl rfl) (.cons rfl (.aD rfl rfl) (.cons rfl (.aD rfl rfl) (.cons rfl (.aN (.cons (.int rfl) (.cons (.c .refl) (.cons (.int rfl) (.cons (.int rfl) .nil))))) (.cons rfl (.aN (.cons (.ref (q:=0) rfl) .nil)) (.cons rfl (.aN (.cons (.int rfl) .nil)) (.cons rfl (.aN (.cons (.ref (q:=0) rfl) .nil)) (.cons rfl (.aN (.cons (.ki .nil .nil) .nil)) (.cons rfl (.tD (.cons (.cons (.ki .nil (.cons (.ref (q:=5) rfl) (.cons (.ref (q:=6) rfl) .nil))) .nil) (.cons (.cons (.ki .nil (.cons (.ref (q:=7) rfl) (.cons (.ref (q:=8) rfl) .nil))) .nil) .nil)) rfl) (.cons rfl (.aN (.cons (.int rfl) (.cons (.c .refl) (.cons (.int rfl) (.cons (.int rfl) .nil))))) (.cons rfl (.aN (.cons (.int rfl) (.cons (.c .refl) (.cons (.int rfl) (.cons (.int rfl) .nil))))) .nil))))))))))))) ?_ ?_ ?_
 ·intro R4 MU XH Lk UZ R0 y94 Qg Qh R5 U0 hR J B hJ hB;cbv;refine aM.t (decide_eq_true Qh) ?_;cbv;refine bF.mk _ Qg (aY aU.ts _ _ _ U0) ?_;cbv;obtain⟨R1,U1,hR⟩:=az hR;refine aJ U1 ?_;cbv;refine aM.i hR ?_ ?_<;>intro c98 hR<;>cbv
  ·cases hR;exact hB _ () _ _ _ rfl rfl (mN [0,1,2,3,4,5,6,7,8,9,10,11] (.cons rfl (.aN (.cons (.int rfl) (.cons (.c .refl) (.cons (.c .refl) (.cons (.c .refl) (.cons (.c .refl) (.cons (.sl (q:=1) rfl rfl rfl rfl) (.cons (.sl (q:=2) rfl rfl rfl rfl) (.cons (.sl (q:=3) rfl rfl rfl rfl) .nil))))))))) (.cons rfl (.aD rfl rfl) (.cons rfl (.aD rfl rfl) (.cons rfl (.aD rfl rfl) (.cons rfl (.aN (.cons (.int rfl) (.cons (.c .refl) (.cons (.int rfl) (.cons (.int rfl) .nil))))) (.cons rfl (.aN (.cons (.ref (q:=0) rfl) .nil)) (.cons rfl (.aN (.cons (.int rfl) .nil)) (.cons rfl (.aN (.cons (.ref (q:=0) rfl) .nil)) (.cons rfl (.aN (.cons (.ki .nil .nil) .nil)) (.cons rfl (.tD (.cons (.cons (.ki .nil (.cons (.ref (q:=5) rfl) (.cons (.ref (q:=6) rfl) .nil))) .nil) (.cons (.cons (.ki .nil (.cons (.ref (q:=7) rfl) (.cons (.ref (q:=8) rfl) .nil))) .nil) .nil)) rfl) (.cons rfl (.aN (.cons (.int rfl) (.cons (.c .refl) (.cons (.int rfl) (.cons (.int rfl) .nil))))) (.cons rfl (.aN (.cons (.int rfl) (.cons (.c .refl) (.cons (.int rfl) (.cons (.int rfl) .nil))))) .nil)))))))))))))
  cases hR;exact hJ _ () _ _ rfl (mN [0,1,2,3,4,5,6,7,8,9,10,11] (.cons rfl (.aN (.cons (.int rfl) (.cons (.c .refl) (.cons (.c .refl) (.cons (.c .refl) (.cons (.c .refl) (.cons (.sl (q:=1) rfl rfl rfl rfl) (.cons (.sl (q:=2) rfl rfl rfl rfl) (.cons (.sl (q:=3) rfl rfl rfl rfl) .nil))))))))) (.cons rfl (.aD rfl rfl) (.cons rfl (.aD rfl rfl) (.cons rfl (.aD rfl rfl) (.cons rfl (.aN (.cons (.int rfl) (.cons (.c .refl) (.cons (.int rfl) (.cons (.int rfl) .nil))))) (.cons rfl (.aN (.cons (.ref (q:=0) rfl) .nil)) (.cons rfl (.aN (.cons (.int rfl) .nil)) (.cons rfl (.aN (.cons (.ref (q:=0) rfl) .nil)) (.cons rfl (.aN (.cons (.ki .nil .nil) .nil)) (.cons rfl (.tD (.cons (.cons (.ki .nil (.cons (.ref (q:=5) rfl) (.cons (.ref (q:=6) rfl) .nil))) .nil) (.cons (.cons (.ki .nil (.cons (.ref (q:=7) rfl) (.cons (.ref (q:=8) rfl) .nil))) .nil) .nil)) rfl) (.cons rfl (.aN (.cons (.int rfl) (.cons (.c .refl) (.cons (.int rfl) (.cons (.int rfl) .nil))))) (.cons rfl (.aN (.cons (.int rfl) (.cons (.c .refl) (.cons (.int rfl) (.cons (.int rfl) .nil))))) .nil)))))))))))))
 ·intro R4 MU Qd _K hR;dsimp only at hR;cbv;refine bZ.mk (aZ.cons rfl aZ.nil) ?_;cbv;(iterate 7 (refine aS.z ?_;cbv));cases hR;exact⟨_,_,⟨[0,1,2,3],rfl,rfl,al,al⟩,rfl,rfl⟩
 intro MQ _L hR;dsimp only at hR;cbv;refine bZ.mk (aZ.cons rfl aZ.nil) ?_;cbv;(iterate 7 (refine aS.z ?_;cbv));refine aM.i hR ?_ ?_<;>intro _M hR<;>cbv<;>(cases hR;exact⟨_,_,⟨[0,1,2,3],rfl,rfl,al,al⟩,rfl,rfl⟩)
end Go.Proofs.aaa
end
