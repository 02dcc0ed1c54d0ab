/- Texts that the law leans on, part 23. No conditions. -/
import Derived.Test.YtnpliafeboadcaaGreatK22
section
namespace Go.Proofs.aaa
open Go.bA Go.IntWalk
variable{P:Program}
set_option maxHeartbeats 4000000
set_option maxRecDepth 20000
def uR (s:State)(pick:Int)(v:Int):Option (State×Told×Int):=
 (K2 s).bind λp1=>
 if(ai .neq p1 0)=true then
  some ((⟨0,([]:List Cell),(⟨([]:List aQ),([]:List au)⟩:aF),([]:List ah),([]:List Order),([]:List aC),([]:List Kept)⟩:State),(⟨0,0,0,0,false⟩:Told),p1)
 else if(ai .geq v 2)=true then
  some ((⟨0,([]:List Cell),(⟨([]:List aQ),([]:List au)⟩:aF),([]:List ah),([]:List Order),([]:List aC),([]:List Kept)⟩:State),(⟨0,0,0,0,false⟩:Told),15)
 else if(ai .eql ((s.aj.map aC.ts).length:Int) 0)=true then
  some ((⟨0,([]:List Cell),(⟨([]:List aQ),([]:List au)⟩:aF),([]:List ah),([]:List Order),([]:List aC),([]:List Kept)⟩:State),(⟨0,0,0,0,false⟩:Told),11)
 else if(((s.aj.map aC.ts).length:Int) !=0)=true then
  (fH s.aj (aH .rem .i64 (aH .add .i64 (aH .rem .i64 pick ((s.aj.map aC.ts).length:Int)) ((s.aj.map aC.ts).length:Int)) ((s.aj.map aC.ts).length:Int))).bind λx6=>
  (hnext x6).bind λp7=>
  (hcl s.cells).bind λp8=>
  (hcl s.af.aK).bind λp9=>
  (hcl s.af.ak).bind λpJ=>
  (hcl s.aA).bind λgO=>
  if(decide (s.aj.length<=1000000000000))=true then
   if(decide (s.kept.length<=1000000000000))=true then
    if(decide (s.aa.length<=1000000000000))=true then
     (bh (λ(F0:(List Order))(G4:Int)(_:Order)=>
      if(dJ s.aa.length G4)=true then
       (fH F0 G4).bind λMV=>
       (hcl MV.lines).bind λxm=>
       some (.inl ((F0).set (G4).toNat (⟨MV.id,xm,MV.aP,MV.status⟩:Order)))
      else none) s.aa s.aa:Option (((List Order))⊕(Empty))).bind λ_N=>
     match _N with
     | .inl lB=>
      (hasks p7.1).bind λow=>
      if(!ow)=true then
       (Oh (⟨(⟨s.limit,p8,(⟨p9,pJ⟩:aF),gO,lB,s.aj,s.kept⟩:State)⟩:aI) x6.order p7.1).bind λq_=>
       if(ai .neq q_.1 0)=true then
        (hcl s.cells).bind λU2=>
        (hcl s.af.aK).bind λU3=>
        (hcl s.af.ak).bind λtT=>
        (hcl s.aA).bind λN3=>
        (bh (λ(IT:(List Order))(Ok:Int)(_:Order)=>
         if(dJ s.aa.length Ok)=true then
          (fH IT Ok).bind λQi=>
          (hcl Qi.lines).bind λJt=>
          some (.inl ((IT).set (Ok).toNat (⟨Qi.id,Jt,Qi.aP,Qi.status⟩:Order)))
         else none) s.aa s.aa:Option (((List Order))⊕(Empty))).bind λU4=>
        match U4 with
        | .inl XI=>
         (Cv x6 (ai .eql q_.1 0)).bind λU5=>
         if(dJ s.aj.length (aH .rem .i64 (aH .add .i64 (aH .rem .i64 pick ((s.aj.map aC.ts).length:Int)) ((s.aj.map aC.ts).length:Int)) ((s.aj.map aC.ts).length:Int)))=true then
          (FT (⟨(⟨s.limit,U2,(⟨U3,tT⟩:aF),N3,XI,((s.aj).set ((aH .rem .i64 (aH .add .i64 (aH .rem .i64 pick ((s.aj.map aC.ts).length:Int)) ((s.aj.map aC.ts).length:Int)) ((s.aj.map aC.ts).length:Int))).toNat U5.1),s.kept⟩:State)⟩:aI) (aH .rem .i64 (aH .add .i64 (aH .rem .i64 pick ((s.aj.map aC.ts).length:Int)) ((s.aj.map aC.ts).length:Int)) ((s.aj.map aC.ts).length:Int))).bind λLl=>
          some ((⟨Ll.2.state.limit,Ll.2.state.cells,Ll.2.state.af,Ll.2.state.aA,Ll.2.state.aa,Ll.2.state.aj,s.kept⟩:State),(⟨x6.order,x6.kind,p7.1,q_.1,Ll.1⟩:Told),0)
         else none
        | .inr r_=>r_.elim
       else(Cv x6 (ai .eql q_.1 0)).bind λU6=>
       if(dJ s.aj.length (aH .rem .i64 (aH .add .i64 (aH .rem .i64 pick ((s.aj.map aC.ts).length:Int)) ((s.aj.map aC.ts).length:Int)) ((s.aj.map aC.ts).length:Int)))=true then
        (FT (⟨(⟨q_.2.state.limit,q_.2.state.cells,q_.2.state.af,q_.2.state.aA,lB,((s.aj).set ((aH .rem .i64 (aH .add .i64 (aH .rem .i64 pick ((s.aj.map aC.ts).length:Int)) ((s.aj.map aC.ts).length:Int)) ((s.aj.map aC.ts).length:Int))).toNat U6.1),s.kept⟩:State)⟩:aI) (aH .rem .i64 (aH .add .i64 (aH .rem .i64 pick ((s.aj.map aC.ts).length:Int)) ((s.aj.map aC.ts).length:Int)) ((s.aj.map aC.ts).length:Int))).bind λDr=>
        some ((⟨Dr.2.state.limit,Dr.2.state.cells,Dr.2.state.af,Dr.2.state.aA,Dr.2.state.aa,Dr.2.state.aj,s.kept⟩:State),(⟨x6.order,x6.kind,p7.1,q_.1,Dr.1⟩:Told),0)
       else none
      else if(ai .eql v 0)=true then
       (Oh (⟨(⟨s.limit,p8,(⟨p9,pJ⟩:aF),gO,lB,s.aj,s.kept⟩:State)⟩:aI) x6.order p7.1).bind λtE=>
       if(ai .neq tE.1 0)=true then
        (hcl s.cells).bind λU7=>
        (hcl s.af.aK).bind λU8=>
        (hcl s.af.ak).bind λQj=>
        (hcl s.aA).bind λJy=>
        (bh (λ(Jz:(List Order))(Ol:Int)(_:Order)=>
         if(dJ s.aa.length Ol)=true then
          (fH Jz Ol).bind λQk=>
          (hcl Qk.lines).bind λXJ=>
          some (.inl ((Jz).set (Ol).toNat (⟨Qk.id,XJ,Qk.aP,Qk.status⟩:Order)))
         else none) s.aa s.aa:Option (((List Order))⊕(Empty))).bind λR88=>
        match R88 with
        | .inl Lk=>
         (Cv x6 (ai .eql tE.1 0)).bind λOf=>
         if(dJ s.aj.length (aH .rem .i64 (aH .add .i64 (aH .rem .i64 pick ((s.aj.map aC.ts).length:Int)) ((s.aj.map aC.ts).length:Int)) ((s.aj.map aC.ts).length:Int)))=true then
          (FT (⟨(⟨s.limit,U7,(⟨U8,Qj⟩:aF),Jy,Lk,((s.aj).set ((aH .rem .i64 (aH .add .i64 (aH .rem .i64 pick ((s.aj.map aC.ts).length:Int)) ((s.aj.map aC.ts).length:Int)) ((s.aj.map aC.ts).length:Int))).toNat Of.1),s.kept⟩:State)⟩:aI) (aH .rem .i64 (aH .add .i64 (aH .rem .i64 pick ((s.aj.map aC.ts).length:Int)) ((s.aj.map aC.ts).length:Int)) ((s.aj.map aC.ts).length:Int))).bind λLm=>
          some ((⟨Lm.2.state.limit,Lm.2.state.cells,Lm.2.state.af,Lm.2.state.aA,Lm.2.state.aa,Lm.2.state.aj,s.kept⟩:State),(⟨x6.order,x6.kind,p7.1,tE.1,Lm.1⟩:Told),0)
         else none
        | .inr r_=>r_.elim
       else(Cv x6 (ai .eql tE.1 0)).bind λU9=>
       if(dJ s.aj.length (aH .rem .i64 (aH .add .i64 (aH .rem .i64 pick ((s.aj.map aC.ts).length:Int)) ((s.aj.map aC.ts).length:Int)) ((s.aj.map aC.ts).length:Int)))=true then
        (FT (⟨(⟨tE.2.state.limit,tE.2.state.cells,tE.2.state.af,tE.2.state.aA,lB,((s.aj).set ((aH .rem .i64 (aH .add .i64 (aH .rem .i64 pick ((s.aj.map aC.ts).length:Int)) ((s.aj.map aC.ts).length:Int)) ((s.aj.map aC.ts).length:Int))).toNat U9.1),s.kept⟩:State)⟩:aI) (aH .rem .i64 (aH .add .i64 (aH .rem .i64 pick ((s.aj.map aC.ts).length:Int)) ((s.aj.map aC.ts).length:Int)) ((s.aj.map aC.ts).length:Int))).bind λAl=>
        some ((⟨Al.2.state.limit,Al.2.state.cells,Al.2.state.af,Al.2.state.aA,Al.2.state.aa,Al.2.state.aj,s.kept⟩:State),(⟨x6.order,x6.kind,p7.1,tE.1,Al.1⟩:Told),0)
       else none
      else(Cv x6 false).bind λG5=>
      if(dJ s.aj.length (aH .rem .i64 (aH .add .i64 (aH .rem .i64 pick ((s.aj.map aC.ts).length:Int)) ((s.aj.map aC.ts).length:Int)) ((s.aj.map aC.ts).length:Int)))=true then
       (FT (⟨(⟨s.limit,p8,(⟨p9,pJ⟩:aF),gO,lB,((s.aj).set ((aH .rem .i64 (aH .add .i64 (aH .rem .i64 pick ((s.aj.map aC.ts).length:Int)) ((s.aj.map aC.ts).length:Int)) ((s.aj.map aC.ts).length:Int))).toNat G5.1),s.kept⟩:State)⟩:aI) (aH .rem .i64 (aH .add .i64 (aH .rem .i64 pick ((s.aj.map aC.ts).length:Int)) ((s.aj.map aC.ts).length:Int)) ((s.aj.map aC.ts).length:Int))).bind λwG=>
       some ((⟨wG.2.state.limit,wG.2.state.cells,wG.2.state.af,wG.2.state.aA,wG.2.state.aa,wG.2.state.aj,s.kept⟩:State),(⟨x6.order,x6.kind,p7.1,10,wG.1⟩:Told),0)
      else none
     | .inr r_=>r_.elim
    else none
   else none
  else none
 else none
instance [Pg P](s:State)(pick:Int)(v:Int)(r:State×Told×Int):bx P 17 (uR s pick v=some r) [s.av,I6 pick,I8 v] (.cI [r.1.av,r.2.1.av,I6 r.2.2]):=⟨λhR=>by
 have hP:=Pg.h (P:=P);unfold uR at hR;refine _O hP ?_;cbv;obtain⟨p1,gM,hR⟩:=az hR;refine aJ gM ?_;cbv;refine aM.i hR ?_ ?_<;>intro c2 hR<;>cbv
 ·exact go
 refine aM.i hR ?_ ?_<;>intro c3 hR<;>cbv
 ·cases hR;exact al
 refine aM.i hR ?_ ?_<;>intro c4 hR<;>cbv
 ·cases hR;exact al
 refine aM.f c2 ?_;cbv;obtain⟨m5,hR⟩:=bl hR;refine bg.mk m5 ?_;cbv;refine bg.mk m5 ?_;cbv;obtain⟨x6,z8,hR⟩:=az hR;refine bF.mk _ (iC z8) (aY aC.ts _ _ _ (bn z8)) ?_;cbv;obtain⟨p7,Cd,hR⟩:=az hR;refine aJ Cd ?_;cbv;refine RX hP ?_;cbv;obtain⟨p8,U_,hR⟩:=az hR;refine aJ U_ ?_;cbv;refine aR.cS (ty hP) (mo hP) rfl ?_;cbv;(iterate 6 (refine aS.z ?_;cbv));obtain⟨p9,tw,hR⟩:=az hR;refine aJ tw ?_;cbv;refine bZ.mk (aZ.cons rfl (aZ.cons rfl (aZ.cons rfl aZ.nil))) ?_;cbv;obtain⟨pJ,qW,hR⟩:=az hR;refine aJ qW ?_;cbv;(iterate 2 (refine aS.z ?_;cbv));obtain⟨gO,qX,hR⟩:=az hR;refine aJ qX ?_;cbv;obtain⟨Em,hR⟩:=bl hR;refine(iT hP s.aj (of_decide_eq_true Em)).frame rfl (λx_ o_ bI=> ?_);obtain⟨pX,ot,rfl,rfl⟩:=bI;refine⟨[0],_,_,rfl,.sl (q:=0) rfl rfl rfl rfl,.cons rfl .aL .nil, ?_⟩;cbv;obtain⟨pY,hR⟩:=bl hR;refine(iU hP s.kept (of_decide_eq_true pY)).frame rfl (λx_ o_ bI=> ?_);obtain⟨v8,pZ,rfl,rfl⟩:=bI;refine⟨[0],_,_,rfl,.sl (q:=0) rfl rfl rfl rfl,.cons rfl .aL .nil, ?_⟩;cbv;obtain⟨JA,hR⟩:=bl hR;refine(gU hP s.aa (of_decide_eq_true JA)).frame rfl (λx_ o_ bI=> ?_);obtain⟨wH,EO,rfl,rfl⟩:=bI;refine⟨[0],_,_,rfl,.sl (q:=0) rfl rfl rfl rfl,.cons rfl .aL .nil, ?_⟩;cbv;refine lp (ty hP) (γ:=(λF0=>(PLift (F0.length<=wH/\s.aa.length=F0.length)))) (γ':=(λ_=>Unit)) 56 (λLo G4 F0 yJ=>[(1,.ref 5 0),(36,I6 Lo),(37,I6 G4)]) (λF0 yJ=>[.box [I6 s.limit,aq Cell.ts 6 s.cells,aq aQ.ts 4 s.af.aK,aq au.ts 4 s.af.ak,aq ah.ts 2 s.aA,aq Order.ts 4 s.aa,aq aC.ts 4 s.aj,aq Kept.ts 4 s.kept],.box [AI .i64 (.lit 0),.c (.lit (.slice none 0 0)),.c (.lit (.slice none 0 0)),.c (.lit (.slice none 0 0)),.c (.lit (.slice none 0 0)),.c (.lit (.slice none 0 0)),.c (.lit (.slice none 0 0)),.c (.lit (.slice none 0 0))],.box [AI .i64 (.lit 0),AI .u8 (.lit 0),AI .u8 (.lit 0),AI .i64 (.lit 0),AB (.lit false)],.box [I6 x6.order,I8 x6.kind,I6 x6.pos,B1 x6.aO],.box [I6 x6.order,I8 x6.kind,I8 p7.1,AI .i64 (.lit 10),AB (.lit false)],.box [I6 s.limit,aq Cell.ts 6 p8,aq aQ.ts 4 p9,aq au.ts 4 pJ,aq ah.ts 2 gO,.sl 6 4 (.lit 0) (.th λ_=>s.aa.length) (.th λ_=>wH),.sl 7 4 (.lit 0) (.th λ_=>s.aj.length) (.th λ_=>pX),.sl 8 4 (.lit 0) (.th λ_=>s.kept.length) (.th λ_=>v8)],aL Order.ts 4 F0 wH,aL aC.ts 4 s.aj pX,aL Kept.ts 4 s.kept v8]) (λr_ _=>r_.elim) (AE.exit 0) ⟨EO,rfl⟩ hR (λLo EP=>aaP) ?_ ?_ go
 ·intro Lo EP G4 F0 yJ we _Q Lp G6 JB GY hR J B hJ hB;cbv;refine aM.t (decide_eq_true G6) ?_;cbv;refine aR.cS (ty hP) (mo hP) rfl ?_;cbv;(iterate 6 (refine aS.z ?_;cbv));obtain⟨XK,hR⟩:=bl hR;apply aS.is
  ·intro J hJ;cbv;refine bg.mk XK ?_;cbv;exact hJ
  cbv;refine aS.z ?_;cbv;obtain⟨MV,Ql,hR⟩:=az hR;apply aS.is
  ·intro J hJ;cbv;refine bF.mk _ (ec _) (cj rfl (bn Ql) (eT _)) ?_;cbv;exact hJ
  cbv;obtain⟨xm,Cf,hR⟩:=az hR;refine aJ Cf ?_;cbv;refine bZ.mk (aZ.cons rfl (aZ.cons rfl aZ.nil)) ?_;cbv;apply aS.is
  ·intro J hJ;cbv;refine bg.mk XK ?_;cbv;exact hJ
  cbv;refine aS.z ?_;cbv;refine bF.mk _ (ec _) (cj rfl (bn Ql) (eT _)) ?_;cbv;cases hR;exact hJ _ ⟨(fA yJ.down.1),(bT yJ.down.2)⟩ _ _ rfl (Gi [0,1,2,3,4,5,6,7,8])
 intro Lo EP lB Cw hR;dsimp only at hR;cbv;obtain⟨ow,yI,hR⟩:=az hR;refine aJ yI ?_;cbv;refine aM.i hR ?_ ?_<;>intro S9 hR<;>cbv
 ·obtain⟨q_,Ms,hR⟩:=az hR;refine(Ds hP _ _ _ _ Ms wH Cw.down.1 pX ot v8 pZ).own [9,6,7,8] [] (by rfl) (by rfl) al (.cons rfl (.aN (.cons (.int rfl) (.cons (.c .refl) (.cons (.c .refl) (.cons (.c .refl) (.cons (.c .refl) (.cons (.sl (q:=1) rfl rfl Cw.down.2 rfl) (.cons (.sl (q:=2) rfl rfl rfl rfl) (.cons (.sl (q:=3) rfl rfl rfl rfl) .nil))))))))) (.cons rfl (.aD rfl rfl) (.cons rfl (.aD rfl rfl) (.cons rfl (.aD rfl rfl) .nil)))) (λx_ o_ bI=> ?_);obtain⟨rfl,rfl⟩:=bI;refine⟨.box (.arr (an _ _) (.arr (an _ _) (.arr (an _ _) .nil))), ?_⟩;cbv;refine aM.i hR ?_ ?_<;>intro S_ hR<;>cbv
  ·refine RX hP ?_;cbv;obtain⟨U2,Va,hR⟩:=az hR;refine aJ Va ?_;cbv;refine aR.cS (ty hP) (mo hP) rfl ?_;cbv;(iterate 6 (refine aS.z ?_;cbv));obtain⟨U3,Vb,hR⟩:=az hR;refine aJ Vb ?_;cbv;refine bZ.mk (aZ.cons rfl (aZ.cons rfl (aZ.cons rfl aZ.nil))) ?_;cbv;obtain⟨tT,MW,hR⟩:=az hR;refine aJ MW ?_;cbv;(iterate 2 (refine aS.z ?_;cbv));obtain⟨N3,L_,hR⟩:=az hR;refine aJ L_ ?_;cbv;refine(iT hP s.aj (of_decide_eq_true Em)).frame rfl (λx_ o_ bI=> ?_);obtain⟨O2,Mb,rfl,rfl⟩:=bI;refine⟨[0],_,_,rfl,.sl (q:=0) rfl rfl rfl rfl,.cons rfl .aL .nil, ?_⟩;cbv;refine(iU hP s.kept (of_decide_eq_true pY)).frame rfl (λx_ o_ bI=> ?_);obtain⟨Vc,Vd,rfl,rfl⟩:=bI;refine⟨[0],_,_,rfl,.sl (q:=0) rfl rfl rfl rfl,.cons rfl .aL .nil, ?_⟩;cbv;refine(gU hP s.aa (of_decide_eq_true JA)).frame rfl (λx_ o_ bI=> ?_);obtain⟨R6,Ve,rfl,rfl⟩:=bI;refine⟨[0],_,_,rfl,.sl (q:=0) rfl rfl rfl rfl,.cons rfl .aL .nil, ?_⟩;cbv;refine lp (ty hP) (γ:=(λIT=>(PLift (IT.length<=R6/\s.aa.length=IT.length)))) (γ':=(λ_=>Unit)) 56 (λR7 Ok IT Qm=>[(1,.ref 10 0),(36,I6 R7),(37,I6 Ok)]) (λIT Qm=>[.box [I6 s.limit,aq Cell.ts 6 s.cells,aq aQ.ts 4 s.af.aK,aq au.ts 4 s.af.ak,aq ah.ts 2 s.aA,aq Order.ts 4 s.aa,aq aC.ts 4 s.aj,aq Kept.ts 4 s.kept],.box [AI .i64 (.lit 0),.c (.lit (.slice none 0 0)),.c (.lit (.slice none 0 0)),.c (.lit (.slice none 0 0)),.c (.lit (.slice none 0 0)),.c (.lit (.slice none 0 0)),.c (.lit (.slice none 0 0)),.c (.lit (.slice none 0 0))],.box [AI .i64 (.lit 0),AI .u8 (.lit 0),AI .u8 (.lit 0),AI .i64 (.lit 0),AB (.lit false)],.box [I6 x6.order,I8 x6.kind,I6 x6.pos,B1 x6.aO],.box [I6 x6.order,I8 x6.kind,I8 p7.1,I6 q_.1,AB (.lit false)],.box [I6 s.limit,aq Cell.ts 6 p8,aq aQ.ts 4 p9,aq au.ts 4 pJ,aq ah.ts 2 gO,.sl 6 4 (.lit 0) (.th λ_=>s.aa.length) (.th λ_=>wH),.sl 7 4 (.lit 0) (.th λ_=>s.aj.length) (.th λ_=>pX),.sl 8 4 (.lit 0) (.th λ_=>s.kept.length) (.th λ_=>v8)],aL Order.ts 4 lB wH,aL aC.ts 4 s.aj pX,aL Kept.ts 4 s.kept v8,.box [I6 q_.2.state.limit,aq Cell.ts 6 q_.2.state.cells,aq aQ.ts 4 q_.2.state.af.aK,aq au.ts 4 q_.2.state.af.ak,aq ah.ts 2 q_.2.state.aA,.sl 6 4 (.lit 0) (.th λ_=>lB.length) (.th λ_=>wH),.sl 7 4 (.lit 0) (.th λ_=>s.aj.length) (.th λ_=>pX),.sl 8 4 (.lit 0) (.th λ_=>s.kept.length) (.th λ_=>v8)],.box [I6 s.limit,aq Cell.ts 6 U2,aq aQ.ts 4 U3,aq au.ts 4 tT,aq ah.ts 2 N3,.sl 11 4 (.lit 0) (.th λ_=>s.aa.length) (.th λ_=>R6),.sl 12 4 (.lit 0) (.th λ_=>s.aj.length) (.th λ_=>O2),.sl 13 4 (.lit 0) (.th λ_=>s.kept.length) (.th λ_=>Vc)],aL Order.ts 4 IT R6,aL aC.ts 4 s.aj O2,aL Kept.ts 4 s.kept Vc]) (λr_ _=>r_.elim) (AE.exit 0) ⟨Ve,rfl⟩ hR (λR7 MX=>aaP) ?_ ?_ go
   ·intro R7 MX Ok IT Qm x47 y48 XL Qn R8 _R hR J B hJ hB;cbv;refine aM.t (decide_eq_true Qn) ?_;cbv;refine aR.cS (ty hP) (mo hP) rfl ?_;cbv;(iterate 6 (refine aS.z ?_;cbv));obtain⟨XM,hR⟩:=bl hR;apply aS.is
    ·intro J hJ;cbv;refine bg.mk XM ?_;cbv;exact hJ
    cbv;refine aS.z ?_;cbv;obtain⟨Qi,Qo,hR⟩:=az hR;apply aS.is
    ·intro J hJ;cbv;refine bF.mk _ (ec _) (cj rfl (bn Qo) (eT _)) ?_;cbv;exact hJ
    cbv;obtain⟨Jt,G1,hR⟩:=az hR;refine aJ G1 ?_;cbv;refine bZ.mk (aZ.cons rfl (aZ.cons rfl aZ.nil)) ?_;cbv;apply aS.is
    ·intro J hJ;cbv;refine bg.mk XM ?_;cbv;exact hJ
    cbv;refine aS.z ?_;cbv;refine bF.mk _ (ec _) (cj rfl (bn Qo) (eT _)) ?_;cbv;cases hR;exact hJ _ ⟨(fA Qm.down.1),(bT Qm.down.2)⟩ _ _ rfl (Gi [0,1,2,3,4,5,6,7,8,9,10,11,12,13])
   intro R7 MX XI Vf hR;dsimp only at hR;cbv;refine aR.cS (ty hP) (mo hP) rfl ?_;cbv;(iterate 10 (refine aS.z ?_;cbv));obtain⟨U5,Vg,hR⟩:=az hR;refine aJ Vg ?_;cbv;refine bZ.mk (aZ.cons rfl (aZ.cons rfl (aZ.cons rfl (aZ.cons rfl aZ.nil)))) ?_;cbv
   (iterate 3 (refine aS.z ?_;cbv));obtain⟨PK,hR⟩:=bl hR;apply aS.is
   ·intro J hJ;cbv;refine bg.mk PK ?_;cbv;exact hJ
   cbv;refine bF.mk _ (ec _) (cj rfl (bn z8) (eT _)) ?_;cbv;obtain⟨Ll,Vh,hR⟩:=az hR;refine(nN hP _ _ _ Vh R6 Vf.down.1 O2 (fA Mb) Vc Vd).own [14,11,12,13] [] (by rfl) (by rfl) al (.cons rfl (.aN (.cons (.int rfl) (.cons (.c .refl) (.cons (.c .refl) (.cons (.c .refl) (.cons (.c .refl) (.cons (.sl (q:=1) rfl rfl Vf.down.2 rfl) (.cons (.sl (q:=2) rfl rfl (bT rfl) rfl) (.cons (.sl (q:=3) rfl rfl rfl rfl) .nil))))))))) (.cons rfl (.aD rfl rfl) (.cons rfl (.aD (bL (ts:=aC.ts) (l:=s.aj) U5.1 rfl (Nat.zero_add _) rfl) rfl) (.cons rfl (.aD rfl rfl) .nil)))) (λx_ o_ bI=> ?_);obtain⟨t60,t61,rfl,rfl⟩:=bI;refine⟨.box (.arr (an _ _) (.arr (an _ _) (.arr (an _ _) .nil))), ?_⟩;cbv;exact go
  refine aR.cS (ty hP) (mo hP) rfl ?_;cbv;(iterate 10 (refine aS.z ?_;cbv));obtain⟨U6,Vi,hR⟩:=az hR;refine aJ Vi ?_;cbv;refine bZ.mk (aZ.cons rfl (aZ.cons rfl (aZ.cons rfl (aZ.cons rfl aZ.nil)))) ?_;cbv;(iterate 3 (refine aS.z ?_;cbv));obtain⟨_S,hR⟩:=bl hR;apply aS.is
  ·intro J hJ;cbv;refine bg.mk _S ?_;cbv;exact hJ
  cbv;refine bF.mk _ (ec _) (cj rfl (bn z8) (eT _)) ?_;cbv;obtain⟨Dr,MS,hR⟩:=az hR;refine(nN hP _ _ _ MS wH Cw.down.1 pX (fA ot) v8 pZ).own [9,6,7,8] [] (by rfl) (by rfl) al al (λx_ o_ bI=> ?_);obtain⟨t65,t66,rfl,rfl⟩:=bI;refine⟨.box (.arr (an _ _) (.arr (an _ _) (.arr (an _ _) .nil))), ?_⟩;cbv;exact go
 refine aM.i hR ?_ ?_<;>intro c67 hR<;>cbv
 ·obtain⟨tE,Vj,hR⟩:=az hR;refine(Ds hP _ _ _ _ Vj wH Cw.down.1 pX ot v8 pZ).own [9,6,7,8] [] (by rfl) (by rfl) al (.cons rfl (.aN (.cons (.int rfl) (.cons (.c .refl) (.cons (.c .refl) (.cons (.c .refl) (.cons (.c .refl) (.cons (.sl (q:=1) rfl rfl Cw.down.2 rfl) (.cons (.sl (q:=2) rfl rfl rfl rfl) (.cons (.sl (q:=3) rfl rfl rfl rfl) .nil))))))))) (.cons rfl (.aD rfl rfl) (.cons rfl (.aD rfl rfl) (.cons rfl (.aD rfl rfl) .nil)))) (λx_ o_ bI=> ?_);obtain⟨rfl,rfl⟩:=bI;refine⟨.box (.arr (an _ _) (.arr (an _ _) (.arr (an _ _) .nil))), ?_⟩;cbv;refine aM.i hR ?_ ?_<;>intro c69 hR<;>cbv
  ·refine RX hP ?_;cbv;obtain⟨U7,Vk,hR⟩:=az hR;refine aJ Vk ?_;cbv;refine aR.cS (ty hP) (mo hP) rfl ?_;cbv;(iterate 6 (refine aS.z ?_;cbv));obtain⟨U8,Vl,hR⟩:=az hR;refine aJ Vl ?_;cbv;refine bZ.mk (aZ.cons rfl (aZ.cons rfl (aZ.cons rfl aZ.nil))) ?_;cbv;obtain⟨Qj,Vm,hR⟩:=az hR;refine aJ Vm ?_;cbv;(iterate 2 (refine aS.z ?_;cbv));obtain⟨Jy,Vn,hR⟩:=az hR;refine aJ Vn ?_;cbv;refine(iT hP s.aj (of_decide_eq_true Em)).frame rfl (λx_ o_ bI=> ?_);obtain⟨Vo,Vp,rfl,rfl⟩:=bI;refine⟨[0],_,_,rfl,.sl (q:=0) rfl rfl rfl rfl,.cons rfl .aL .nil, ?_⟩;cbv;refine(iU hP s.kept (of_decide_eq_true pY)).frame rfl (λx_ o_ bI=> ?_);obtain⟨Vq,Vr,rfl,rfl⟩:=bI;refine⟨[0],_,_,rfl,.sl (q:=0) rfl rfl rfl rfl,.cons rfl .aL .nil, ?_⟩;cbv;refine(gU hP s.aa (of_decide_eq_true JA)).frame rfl (λx_ o_ bI=> ?_);obtain⟨R9,Vs,rfl,rfl⟩:=bI;refine⟨[0],_,_,rfl,.sl (q:=0) rfl rfl rfl rfl,.cons rfl .aL .nil, ?_⟩;cbv;refine lp (ty hP) (γ:=(λJz=>(PLift (Jz.length<=R9/\s.aa.length=Jz.length)))) (γ':=(λ_=>Unit)) 56 (λR_ Ol Jz Sa=>[(1,.ref 10 0),(36,I6 R_),(37,I6 Ol)]) (λJz Sa=>[.box [I6 s.limit,aq Cell.ts 6 s.cells,aq aQ.ts 4 s.af.aK,aq au.ts 4 s.af.ak,aq ah.ts 2 s.aA,aq Order.ts 4 s.aa,aq aC.ts 4 s.aj,aq Kept.ts 4 s.kept],.box [AI .i64 (.lit 0),.c (.lit (.slice none 0 0)),.c (.lit (.slice none 0 0)),.c (.lit (.slice none 0 0)),.c (.lit (.slice none 0 0)),.c (.lit (.slice none 0 0)),.c (.lit (.slice none 0 0)),.c (.lit (.slice none 0 0))],.box [AI .i64 (.lit 0),AI .u8 (.lit 0),AI .u8 (.lit 0),AI .i64 (.lit 0),AB (.lit false)],.box [I6 x6.order,I8 x6.kind,I6 x6.pos,B1 x6.aO],.box [I6 x6.order,I8 x6.kind,I8 p7.1,I6 tE.1,AB (.lit false)],.box [I6 s.limit,aq Cell.ts 6 p8,aq aQ.ts 4 p9,aq au.ts 4 pJ,aq ah.ts 2 gO,.sl 6 4 (.lit 0) (.th λ_=>s.aa.length) (.th λ_=>wH),.sl 7 4 (.lit 0) (.th λ_=>s.aj.length) (.th λ_=>pX),.sl 8 4 (.lit 0) (.th λ_=>s.kept.length) (.th λ_=>v8)],aL Order.ts 4 lB wH,aL aC.ts 4 s.aj pX,aL Kept.ts 4 s.kept v8,.box [I6 tE.2.state.limit,aq Cell.ts 6 tE.2.state.cells,aq aQ.ts 4 tE.2.state.af.aK,aq au.ts 4 tE.2.state.af.ak,aq ah.ts 2 tE.2.state.aA,.sl 6 4 (.lit 0) (.th λ_=>lB.length) (.th λ_=>wH),.sl 7 4 (.lit 0) (.th λ_=>s.aj.length) (.th λ_=>pX),.sl 8 4 (.lit 0) (.th λ_=>s.kept.length) (.th λ_=>v8)],.box [I6 s.limit,aq Cell.ts 6 U7,aq aQ.ts 4 U8,aq au.ts 4 Qj,aq ah.ts 2 Jy,.sl 11 4 (.lit 0) (.th λ_=>s.aa.length) (.th λ_=>R9),.sl 12 4 (.lit 0) (.th λ_=>s.aj.length) (.th λ_=>Vo),.sl 13 4 (.lit 0) (.th λ_=>s.kept.length) (.th λ_=>Vq)],aL Order.ts 4 Jz R9,aL aC.ts 4 s.aj Vo,aL Kept.ts 4 s.kept Vq]) (λr_ _=>r_.elim) (AE.exit 0) ⟨Vs,rfl⟩ hR (λR_ MY=>aaP) ?_ ?_ go
   ·intro R_ MY Ol Jz Sa x81 y82 XN Qp Sb _T hR J B hJ hB;cbv;refine aM.t (decide_eq_true Qp) ?_;cbv;refine aR.cS (ty hP) (mo hP) rfl ?_;cbv;(iterate 6 (refine aS.z ?_;cbv));obtain⟨XO,hR⟩:=bl hR;apply aS.is
    ·intro J hJ;cbv;refine bg.mk XO ?_;cbv;exact hJ
    cbv;refine aS.z ?_;cbv;obtain⟨Qk,Qq,hR⟩:=az hR;apply aS.is
    ·intro J hJ;cbv;refine bF.mk _ (ec _) (cj rfl (bn Qq) (eT _)) ?_;cbv;exact hJ
    cbv;obtain⟨XJ,Vt,hR⟩:=az hR;refine aJ Vt ?_;cbv;refine bZ.mk (aZ.cons rfl (aZ.cons rfl aZ.nil)) ?_;cbv;apply aS.is
    ·intro J hJ;cbv;refine bg.mk XO ?_;cbv;exact hJ
    cbv;refine aS.z ?_;cbv;refine bF.mk _ (ec _) (cj rfl (bn Qq) (eT _)) ?_;cbv;cases hR;exact hJ _ ⟨(fA Sa.down.1),(bT Sa.down.2)⟩ _ _ rfl (Gi [0,1,2,3,4,5,6,7,8,9,10,11,12,13])
   intro R_ MY Lk UZ hR;dsimp only at hR;cbv;refine aR.cS (ty hP) (mo hP) rfl ?_;cbv;(iterate 10 (refine aS.z ?_;cbv));obtain⟨Of,ML,hR⟩:=az hR;refine aJ ML ?_;cbv;refine bZ.mk (aZ.cons rfl (aZ.cons rfl (aZ.cons rfl (aZ.cons rfl aZ.nil)))) ?_;cbv
   (iterate 3 (refine aS.z ?_;cbv));obtain⟨_U,hR⟩:=bl hR;apply aS.is
   ·intro J hJ;cbv;refine bg.mk _U ?_;cbv;exact hJ
   cbv;refine bF.mk _ (ec _) (cj rfl (bn z8) (eT _)) ?_;cbv;obtain⟨Lm,Vu,hR⟩:=az hR;refine(nN hP _ _ _ Vu R9 UZ.down.1 Vo (fA Vp) Vq Vr).own [14,11,12,13] [] (by rfl) (by rfl) al (.cons rfl (.aN (.cons (.int rfl) (.cons (.c .refl) (.cons (.c .refl) (.cons (.c .refl) (.cons (.c .refl) (.cons (.sl (q:=1) rfl rfl UZ.down.2 rfl) (.cons (.sl (q:=2) rfl rfl (bT rfl) rfl) (.cons (.sl (q:=3) rfl rfl rfl rfl) .nil))))))))) (.cons rfl (.aD rfl rfl) (.cons rfl (.aD (bL (ts:=aC.ts) (l:=s.aj) Of.1 rfl (Nat.zero_add _) rfl) rfl) (.cons rfl (.aD rfl rfl) .nil)))) (λx_ o_ bI=> ?_);obtain⟨t94,t95,rfl,rfl⟩:=bI;refine⟨.box (.arr (an _ _) (.arr (an _ _) (.arr (an _ _) .nil))), ?_⟩;cbv;exact go
  refine aR.cS (ty hP) (mo hP) rfl ?_;cbv;(iterate 10 (refine aS.z ?_;cbv));obtain⟨U9,Vv,hR⟩:=az hR;refine aJ Vv ?_;cbv;refine bZ.mk (aZ.cons rfl (aZ.cons rfl (aZ.cons rfl (aZ.cons rfl aZ.nil)))) ?_;cbv;(iterate 3 (refine aS.z ?_;cbv));obtain⟨_V,hR⟩:=bl hR;apply aS.is
  ·intro J hJ;cbv;refine bg.mk _V ?_;cbv;exact hJ
  cbv;refine bF.mk _ (ec _) (cj rfl (bn z8) (eT _)) ?_;cbv;obtain⟨Al,MM,hR⟩:=az hR;refine(nN hP _ _ _ MM wH Cw.down.1 pX (fA ot) v8 pZ).own [9,6,7,8] [] (by rfl) (by rfl) al al (λx_ o_ bI=> ?_);obtain⟨t99,t100,rfl,rfl⟩:=bI;refine⟨.box (.arr (an _ _) (.arr (an _ _) (.arr (an _ _) .nil))), ?_⟩;cbv;exact go
 refine aR.cS (ty hP) (mo hP) rfl ?_;cbv;(iterate 10 (refine aS.z ?_;cbv));obtain⟨G5,Qr,hR⟩:=az hR;refine aJ Qr ?_;cbv;refine bZ.mk (aZ.cons rfl (aZ.cons rfl (aZ.cons rfl (aZ.cons rfl aZ.nil)))) ?_;cbv;(iterate 3 (refine aS.z ?_;cbv));obtain⟨Vw,hR⟩:=bl hR;apply aS.is
 ·intro J hJ;cbv;refine bg.mk Vw ?_;cbv;exact hJ
 cbv;refine bF.mk _ (ec _) (cj rfl (bn z8) (eT _)) ?_;cbv;obtain⟨wG,Qs,hR⟩:=az hR;refine(nN hP _ _ _ Qs wH Cw.down.1 pX (fA ot) v8 pZ).own [9,6,7,8] [] (by rfl) (by rfl) al (.cons rfl (.aN (.cons (.int rfl) (.cons (.c .refl) (.cons (.c .refl) (.cons (.c .refl) (.cons (.c .refl) (.cons (.sl (q:=1) rfl rfl Cw.down.2 rfl) (.cons (.sl (q:=2) rfl rfl (bT rfl) rfl) (.cons (.sl (q:=3) rfl rfl rfl rfl) .nil))))))))) (.cons rfl (.aD rfl rfl) (.cons rfl (.aD (bL (ts:=aC.ts) (l:=s.aj) G5.1 rfl (Nat.zero_add _) rfl) rfl) (.cons rfl (.aD rfl rfl) .nil)))) (λx_ o_ bI=> ?_);obtain⟨t104,t105,rfl,rfl⟩:=bI;refine⟨.box (.arr (an _ _) (.arr (an _ _) (.arr (an _ _) .nil))), ?_⟩;cbv;exact go⟩
end Go.Proofs.aaa
end
