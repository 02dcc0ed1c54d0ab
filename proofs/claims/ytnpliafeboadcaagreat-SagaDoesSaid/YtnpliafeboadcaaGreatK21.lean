/- Texts that the law leans on, part 21. No conditions. -/
import Derived.Test.YtnpliafeboadcaaGreatK20
section
namespace Go.Proofs.aaa
open Go.bA Go.IntWalk
variable{P:Program}
set_option maxHeartbeats 4000000
set_option maxRecDepth 20000
def oF (s:State)(a:Ask):Option (State×bz×Int):=
 (K2 s).bind λp1=>
 if(ai .neq p1 0)=true then
  some ((⟨0,([]:List Cell),(⟨([]:List aQ),([]:List au)⟩:aF),([]:List ah),([]:List Order),([]:List aC),([]:List Kept)⟩:State),(⟨0,0,0⟩:bz),p1)
 else(hcl s.cells).bind λp3=>
 (hcl s.af.aK).bind λp4=>
 (hcl s.af.ak).bind λp5=>
 (hcl s.aA).bind λp6=>
 if(decide (s.aj.length<=1000000000000))=true then
  if(decide (s.kept.length<=1000000000000))=true then
   if(decide (s.aa.length<=1000000000000))=true then
    (bh (λ(lu:(List Order))(Ak:Int)(_:Order)=>
     if(dJ s.aa.length Ak)=true then
      (fH lu Ak).bind λwe=>
      (hcl we.lines).bind λBE=>
      some (.inl ((lu).set (Ak).toNat (⟨we.id,BE,we.aP,we.status⟩:Order)))
     else none) s.aa s.aa:Option (((List Order))⊕(Empty))).bind λZ1=>
    match Z1 with
    | .inl mK=>
     if(a.kind==1)=true then
      (Gj s.kept a.mark).bind λzI=>
      if(ai .gtr ((a.mark).size:Int) 64)=true then
       (nM 4).bind λLi=>
       some ((⟨s.limit,p3,(⟨p4,p5⟩:aF),p6,mK,s.aj,s.kept⟩:State),Li,0)
      else if zI.2=true then
       if(dJ s.kept.length zI.1)=true then
        (fH s.kept zI.1).bind λXs=>
        some ((⟨s.limit,p3,(⟨p4,p5⟩:aF),p6,mK,s.aj,s.kept⟩:State),Xs.cH,0)
       else none
      else if(dA .neq a.mark ByteArray.empty)=true then
       if(ai .geq (Int.ofNat s.kept.length) 4096)=true then
        (nM 7).bind λXt=>
        some ((⟨s.limit,p3,(⟨p4,p5⟩:aF),p6,mK,s.aj,s.kept⟩:State),Xt,0)
       else(Mj (⟨(⟨s.limit,p3,(⟨p4,p5⟩:aF),p6,mK,s.aj,s.kept⟩:State)⟩:aI) a).bind λgK=>
       if(decide (0<=zI.1/\zI.1<=(s.kept.length:Int)/\s.kept.length<=1000000))=true then
        some ((⟨gK.2.state.limit,gK.2.state.cells,gK.2.state.af,gK.2.state.aA,gK.2.state.aa,gK.2.state.aj,(bt s.kept (zI.1).toNat (⟨a.mark,gK.1⟩:Kept))⟩:State),gK.1,0)
       else none
      else(Mj (⟨(⟨s.limit,p3,(⟨p4,p5⟩:aF),p6,mK,s.aj,s.kept⟩:State)⟩:aI) a).bind λjs=>
      some ((⟨js.2.state.limit,js.2.state.cells,js.2.state.af,js.2.state.aA,js.2.state.aa,js.2.state.aj,s.kept⟩:State),js.1,0)
     else if(a.kind==2)=true then
      (Gj s.kept a.mark).bind λLj=>
      if(ai .gtr ((a.mark).size:Int) 64)=true then
       (nM 4).bind λRW=>
       some ((⟨s.limit,p3,(⟨p4,p5⟩:aF),p6,mK,s.aj,s.kept⟩:State),RW,0)
      else if Lj.2=true then
       if(dJ s.kept.length Lj.1)=true then
        (fH s.kept Lj.1).bind λXu=>
        some ((⟨s.limit,p3,(⟨p4,p5⟩:aF),p6,mK,s.aj,s.kept⟩:State),Xu.cH,0)
       else none
      else if(dA .neq a.mark ByteArray.empty)=true then
       if(ai .geq (Int.ofNat s.kept.length) 4096)=true then
        (nM 7).bind λOf=>
        some ((⟨s.limit,p3,(⟨p4,p5⟩:aF),p6,mK,s.aj,s.kept⟩:State),Of,0)
       else(K3 (⟨(⟨s.limit,p3,(⟨p4,p5⟩:aF),p6,mK,s.aj,s.kept⟩:State)⟩:aI) a).bind λIS=>
       if(decide (0<=Lj.1/\Lj.1<=(s.kept.length:Int)/\s.kept.length<=1000000))=true then
        some ((⟨IS.2.state.limit,IS.2.state.cells,IS.2.state.af,IS.2.state.aA,IS.2.state.aa,IS.2.state.aj,(bt s.kept (Lj.1).toNat (⟨a.mark,IS.1⟩:Kept))⟩:State),IS.1,0)
       else none
      else(K3 (⟨(⟨s.limit,p3,(⟨p4,p5⟩:aF),p6,mK,s.aj,s.kept⟩:State)⟩:aI) a).bind λAl=>
      some ((⟨Al.2.state.limit,Al.2.state.cells,Al.2.state.af,Al.2.state.aA,Al.2.state.aa,Al.2.state.aj,s.kept⟩:State),Al.1,0)
     else if(a.kind==3)=true then
      (Gj s.kept a.mark).bind λAm=>
      if(ai .gtr ((a.mark).size:Int) 64)=true then
       (nM 4).bind λPv=>
       some ((⟨s.limit,p3,(⟨p4,p5⟩:aF),p6,mK,s.aj,s.kept⟩:State),Pv,0)
      else if Am.2=true then
       if(dJ s.kept.length Am.1)=true then
        (fH s.kept Am.1).bind λPw=>
        some ((⟨s.limit,p3,(⟨p4,p5⟩:aF),p6,mK,s.aj,s.kept⟩:State),Pw.cH,0)
       else none
      else if(dA .neq a.mark ByteArray.empty)=true then
       if(ai .geq (Int.ofNat s.kept.length) 4096)=true then
        (nM 7).bind λPx=>
        some ((⟨s.limit,p3,(⟨p4,p5⟩:aF),p6,mK,s.aj,s.kept⟩:State),Px,0)
       else(Mp (⟨(⟨s.limit,p3,(⟨p4,p5⟩:aF),p6,mK,s.aj,s.kept⟩:State)⟩:aI) a).bind λwF=>
       if(decide (0<=Am.1/\Am.1<=(s.kept.length:Int)/\s.kept.length<=1000000))=true then
        some ((⟨wF.2.state.limit,wF.2.state.cells,wF.2.state.af,wF.2.state.aA,wF.2.state.aa,wF.2.state.aj,(bt s.kept (Am.1).toNat (⟨a.mark,wF.1⟩:Kept))⟩:State),wF.1,0)
       else none
      else(Mp (⟨(⟨s.limit,p3,(⟨p4,p5⟩:aF),p6,mK,s.aj,s.kept⟩:State)⟩:aI) a).bind λAn=>
      some ((⟨An.2.state.limit,An.2.state.cells,An.2.state.af,An.2.state.aA,An.2.state.aa,An.2.state.aj,s.kept⟩:State),An.1,0)
     else if(a.kind==4)=true then
      (Gj s.kept a.mark).bind λAo=>
      if(ai .gtr ((a.mark).size:Int) 64)=true then
       (nM 4).bind λPy=>
       some ((⟨s.limit,p3,(⟨p4,p5⟩:aF),p6,mK,s.aj,s.kept⟩:State),Py,0)
      else if Ao.2=true then
       if(dJ s.kept.length Ao.1)=true then
        (fH s.kept Ao.1).bind λPz=>
        some ((⟨s.limit,p3,(⟨p4,p5⟩:aF),p6,mK,s.aj,s.kept⟩:State),Pz.cH,0)
       else none
      else if(dA .neq a.mark ByteArray.empty)=true then
       if(ai .geq (Int.ofNat s.kept.length) 4096)=true then
        (nM 7).bind λPA=>
        some ((⟨s.limit,p3,(⟨p4,p5⟩:aF),p6,mK,s.aj,s.kept⟩:State),PA,0)
       else(K5 (⟨(⟨s.limit,p3,(⟨p4,p5⟩:aF),p6,mK,s.aj,s.kept⟩:State)⟩:aI) a).bind λAp=>
       if(decide (0<=Ao.1/\Ao.1<=(s.kept.length:Int)/\s.kept.length<=1000000))=true then
        some ((⟨Ap.2.state.limit,Ap.2.state.cells,Ap.2.state.af,Ap.2.state.aA,mK,s.aj,(bt s.kept (Ao.1).toNat (⟨a.mark,Ap.1⟩:Kept))⟩:State),Ap.1,0)
       else none
      else(K5 (⟨(⟨s.limit,p3,(⟨p4,p5⟩:aF),p6,mK,s.aj,s.kept⟩:State)⟩:aI) a).bind λEJ=>
      some ((⟨EJ.2.state.limit,EJ.2.state.cells,EJ.2.state.af,EJ.2.state.aA,mK,s.aj,s.kept⟩:State),EJ.1,0)
     else if(a.kind==5)=true then
      (Gj s.kept a.mark).bind λAq=>
      if(ai .gtr ((a.mark).size:Int) 64)=true then
       (nM 4).bind λPB=>
       some ((⟨s.limit,p3,(⟨p4,p5⟩:aF),p6,mK,s.aj,s.kept⟩:State),PB,0)
      else if Aq.2=true then
       if(dJ s.kept.length Aq.1)=true then
        (fH s.kept Aq.1).bind λPC=>
        some ((⟨s.limit,p3,(⟨p4,p5⟩:aF),p6,mK,s.aj,s.kept⟩:State),PC.cH,0)
       else none
      else if(dA .neq a.mark ByteArray.empty)=true then
       if(ai .geq (Int.ofNat s.kept.length) 4096)=true then
        (nM 7).bind λPD=>
        some ((⟨s.limit,p3,(⟨p4,p5⟩:aF),p6,mK,s.aj,s.kept⟩:State),PD,0)
       else(K7 (⟨(⟨s.limit,p3,(⟨p4,p5⟩:aF),p6,mK,s.aj,s.kept⟩:State)⟩:aI) a).bind λAr=>
       if(decide (0<=Aq.1/\Aq.1<=(s.kept.length:Int)/\s.kept.length<=1000000))=true then
        some ((⟨Ar.2.state.limit,Ar.2.state.cells,Ar.2.state.af,Ar.2.state.aA,mK,s.aj,(bt s.kept (Aq.1).toNat (⟨a.mark,Ar.1⟩:Kept))⟩:State),Ar.1,0)
       else none
      else(K7 (⟨(⟨s.limit,p3,(⟨p4,p5⟩:aF),p6,mK,s.aj,s.kept⟩:State)⟩:aI) a).bind λEK=>
      some ((⟨EK.2.state.limit,EK.2.state.cells,EK.2.state.af,EK.2.state.aA,mK,s.aj,s.kept⟩:State),EK.1,0)
     else if(a.kind==6)=true then
      (Gj s.kept a.mark).bind λAs=>
      if(ai .gtr ((a.mark).size:Int) 64)=true then
       (nM 4).bind λPE=>
       some ((⟨s.limit,p3,(⟨p4,p5⟩:aF),p6,mK,s.aj,s.kept⟩:State),PE,0)
      else if As.2=true then
       if(dJ s.kept.length As.1)=true then
        (fH s.kept As.1).bind λPF=>
        some ((⟨s.limit,p3,(⟨p4,p5⟩:aF),p6,mK,s.aj,s.kept⟩:State),PF.cH,0)
       else none
      else if(dA .neq a.mark ByteArray.empty)=true then
       if(ai .geq (Int.ofNat s.kept.length) 4096)=true then
        (nM 7).bind λPG=>
        some ((⟨s.limit,p3,(⟨p4,p5⟩:aF),p6,mK,s.aj,s.kept⟩:State),PG,0)
       else(K8 (⟨(⟨s.limit,p3,(⟨p4,p5⟩:aF),p6,mK,s.aj,s.kept⟩:State)⟩:aI) a).bind λAt=>
       if(decide (0<=As.1/\As.1<=(s.kept.length:Int)/\s.kept.length<=1000000))=true then
        some ((⟨At.2.state.limit,At.2.state.cells,At.2.state.af,At.2.state.aA,mK,s.aj,(bt s.kept (As.1).toNat (⟨a.mark,At.1⟩:Kept))⟩:State),At.1,0)
       else none
      else(K8 (⟨(⟨s.limit,p3,(⟨p4,p5⟩:aF),p6,mK,s.aj,s.kept⟩:State)⟩:aI) a).bind λEL=>
      some ((⟨EL.2.state.limit,EL.2.state.cells,EL.2.state.af,EL.2.state.aA,mK,s.aj,s.kept⟩:State),EL.1,0)
     else(Gj s.kept a.mark).bind λ_=>
     (nM 15).bind λPI=>
     some ((⟨s.limit,p3,(⟨p4,p5⟩:aF),p6,mK,s.aj,s.kept⟩:State),PI,0)
    | .inr r_=>r_.elim
   else none
  else none
 else none
instance [Pg P](s:State)(a:Ask)(r:State×bz×Int):bx P 14 (oF s a=some r) [s.av,a.av] (.cI [r.1.av,r.2.1.av,I6 r.2.2]):=⟨λhR=>by
 have hP:=Pg.h (P:=P);unfold oF at hR;refine Z2 hP ?_;cbv;obtain⟨p1,gM,hR⟩:=az hR;refine aJ gM ?_;cbv;refine aM.i hR ?_ ?_<;>intro c2 hR<;>cbv
 ·cases hR;exact al
 refine RX hP ?_;cbv;obtain⟨p3,oV,hR⟩:=az hR;refine aJ oV ?_;cbv;refine aR.cS (ty hP) (mo hP) rfl ?_;cbv;(iterate 6 (refine aS.z ?_;cbv));obtain⟨p4,Ew,hR⟩:=az hR;refine aJ Ew ?_;cbv;refine bZ.mk (aZ.cons rfl (aZ.cons rfl (aZ.cons rfl aZ.nil))) ?_;cbv;obtain⟨p5,Ma,hR⟩:=az hR;refine aJ Ma ?_;cbv;(iterate 2 (refine aS.z ?_;cbv));obtain⟨p6,GL,hR⟩:=az hR;refine aJ GL ?_;cbv;obtain⟨m7,hR⟩:=bl hR;refine(iT hP s.aj (of_decide_eq_true m7)).frame rfl (λx_ o_ bI=> ?_);obtain⟨k8,FY,rfl,rfl⟩:=bI;refine⟨[0],_,_,rfl,.sl (q:=0) rfl rfl rfl rfl,.cons rfl .aL .nil, ?_⟩;cbv;obtain⟨m9,hR⟩:=bl hR;refine(iU hP s.kept (of_decide_eq_true m9)).frame rfl (λx_ o_ bI=> ?_);obtain⟨sM,mR,rfl,rfl⟩:=bI;refine⟨[0],_,_,rfl,.sl (q:=0) rfl rfl rfl rfl,.cons rfl .aL .nil, ?_⟩;cbv;obtain⟨Z3,hR⟩:=bl hR;refine(gU hP s.aa (of_decide_eq_true Z3)).frame rfl (λx_ o_ bI=> ?_);obtain⟨BF,O3,rfl,rfl⟩:=bI;refine⟨[0],_,_,rfl,.sl (q:=0) rfl rfl rfl rfl,.cons rfl .aL .nil, ?_⟩;cbv;refine lp (ty hP) (γ:=(λlu=>(PLift (lu.length<=BF/\s.aa.length=lu.length)))) (γ':=(λ_=>Unit)) 56 (λMJ Ak lu oF=>[(1,.ref 4 0),(36,I6 MJ),(37,I6 Ak)]) (λlu oF=>[.box [I6 s.limit,aq Cell.ts 6 s.cells,aq aQ.ts 4 s.af.aK,aq au.ts 4 s.af.ak,aq ah.ts 2 s.aA,aq Order.ts 4 s.aa,aq aC.ts 4 s.aj,aq Kept.ts 4 s.kept],.box [AS (.th λ_=>a.mark),I8 a.kind,I6 a.order,aq aU.ts 4 a.lines],.box [AI .i64 (.lit 0),.c (.lit (.slice none 0 0)),.c (.lit (.slice none 0 0)),.c (.lit (.slice none 0 0)),.c (.lit (.slice none 0 0)),.c (.lit (.slice none 0 0)),.c (.lit (.slice none 0 0)),.c (.lit (.slice none 0 0))],.box [AI .i64 (.lit 0),AI .u8 (.lit 0),AI .i64 (.lit 0)],.box [I6 s.limit,aq Cell.ts 6 p3,aq aQ.ts 4 p4,aq au.ts 4 p5,aq ah.ts 2 p6,.sl 5 4 (.lit 0) (.th λ_=>s.aa.length) (.th λ_=>BF),.sl 6 4 (.lit 0) (.th λ_=>s.aj.length) (.th λ_=>k8),.sl 7 4 (.lit 0) (.th λ_=>s.kept.length) (.th λ_=>sM)],aL Order.ts 4 lu BF,aL aC.ts 4 s.aj k8,aL Kept.ts 4 s.kept sM]) (λr_ _=>r_.elim) (AE.exit 0) ⟨O3,rfl⟩ hR (λMJ GX=>aaP) ?_ ?_ go
 ·intro MJ GX Ak lu oF zG y18 Xv PJ RY L1 hR J B hJ hB;cbv;refine aM.t (decide_eq_true PJ) ?_;cbv;refine aR.cS (ty hP) (mo hP) rfl ?_;cbv;(iterate 6 (refine aS.z ?_;cbv));obtain⟨Og,hR⟩:=bl hR;apply aS.is
  ·intro J hJ;cbv;refine bg.mk Og ?_;cbv;exact hJ
  cbv;refine aS.z ?_;cbv;obtain⟨we,GY,hR⟩:=az hR;apply aS.is
  ·intro J hJ;cbv;refine bF.mk _ (ec _) (cj rfl (bn GY) (eT _)) ?_;cbv;exact hJ
  cbv;obtain⟨BE,GA,hR⟩:=az hR;refine aJ GA ?_;cbv;refine bZ.mk (aZ.cons rfl (aZ.cons rfl aZ.nil)) ?_;cbv;apply aS.is
  ·intro J hJ;cbv;refine bg.mk Og ?_;cbv;exact hJ
  cbv;refine aS.z ?_;cbv;refine bF.mk _ (ec _) (cj rfl (bn GY) (eT _)) ?_;cbv;cases hR;exact hJ _ ⟨(fA oF.down.1),(bT oF.down.2)⟩ _ _ rfl (Gi [0,1,2,3,4,5,6,7])
 intro MJ GX mK gV hR;dsimp only at hR;cbv;refine aR.cS (ty hP) (mo hP) rfl ?_;cbv;(iterate 3 (refine aS.z ?_;cbv));refine Z4 hP ?_;cbv;refine bZ.mk (aZ.cons rfl (aZ.cons rfl aZ.nil)) ?_;cbv;rcases Bool.eq_false_or_eq_true (a.kind==1)with Et|Et
 ·replace hR:=wz Et hR;apply aS.is
  ·intro J hJ;cbv;refine aM.t Et ?_;cbv;exact hJ
  cbv;refine aS.z ?_;cbv;refine aR.cS (ty hP) (mo hP) rfl ?_;cbv;(iterate 7 (refine aS.z ?_;cbv));obtain⟨zI,Up,hR⟩:=az hR;refine jQ Up ?_;cbv;(iterate 5 (refine aS.z ?_;cbv));refine aM.i hR ?_ ?_<;>intro YM hR<;>cbv
  ·refine aR.cS (ty hP) (mo hP) rfl ?_;cbv;(iterate 4 (refine aS.z ?_;cbv));obtain⟨Li,Uq,hR⟩:=az hR;refine aJ Uq ?_;cbv;refine bZ.mk (aZ.cons rfl (aZ.cons rfl (aZ.cons rfl aZ.nil))) ?_;cbv;refine aS.z ?_;cbv;cases hR;exact .cA (.cons (.eJ (.cons (.int rfl) (.cons (.c .refl) (.cons (.c .refl) (.cons (.c .refl) (.cons (.c .refl) (.cons (.aD rfl rfl rfl rfl gV.down.2) (.cons (.aD rfl rfl rfl rfl rfl) (.cons (.aD rfl rfl rfl rfl rfl) .nil))))))))) (.cons (.pure rfl) (.cons (.int rfl) .nil)))
  refine aM.i hR ?_ ?_<;>intro Td hR<;>cbv
  ·refine aR.cS (ty hP) (mo hP) rfl ?_;cbv;(iterate 10 (refine aS.z ?_;cbv));obtain⟨Z5,hR⟩:=bl hR;apply aS.is
   ·intro J hJ;cbv;refine bg.mk Z5 ?_;cbv;exact hJ
   cbv;refine aS.z ?_;cbv;obtain⟨Xs,Ur,hR⟩:=az hR;apply aS.is
   ·intro J hJ;cbv;refine bF.mk _ (ec _) (cj rfl (bn Ur) (eT _)) ?_;cbv;exact hJ
   cbv;refine bZ.mk (aZ.cons rfl (aZ.cons rfl (aZ.cons rfl (aZ.cons rfl (aZ.cons rfl (aZ.cons rfl aZ.nil)))))) ?_;cbv;refine aS.z ?_;cbv;cases hR;exact .cA (.cons (.eJ (.cons (.int rfl) (.cons (.c .refl) (.cons (.c .refl) (.cons (.c .refl) (.cons (.c .refl) (.cons (.aD rfl rfl rfl rfl gV.down.2) (.cons (.aD rfl rfl rfl rfl rfl) (.cons (.aD rfl rfl rfl rfl rfl) .nil))))))))) (.cons (.pure rfl) (.cons (.int rfl) .nil)))
  refine aM.i hR ?_ ?_<;>intro Rz hR<;>cbv
  ·refine aM.i hR ?_ ?_<;>intro YO hR<;>cbv
   ·refine aR.cS (ty hP) (mo hP) rfl ?_;cbv;(iterate 4 (refine aS.z ?_;cbv));obtain⟨Xt,Us,hR⟩:=az hR;refine aJ Us ?_;cbv;refine bZ.mk (aZ.cons rfl (aZ.cons rfl (aZ.cons rfl aZ.nil))) ?_;cbv;refine aS.z ?_;cbv;cases hR;exact .cA (.cons (.eJ (.cons (.int rfl) (.cons (.c .refl) (.cons (.c .refl) (.cons (.c .refl) (.cons (.c .refl) (.cons (.aD rfl rfl rfl rfl gV.down.2) (.cons (.aD rfl rfl rfl rfl rfl) (.cons (.aD rfl rfl rfl rfl rfl) .nil))))))))) (.cons (.pure rfl) (.cons (.int rfl) .nil)))
   obtain⟨gK,GZ,hR⟩:=az hR;refine(Dh hP _ _ _ GZ BF gV.down.1 k8 FY sM mR).own [8,5,6,7] [] (by rfl) (by rfl) al (.cons rfl (.aN (.cons (.int rfl) (.cons (.c .refl) (.cons (.c .refl) (.cons (.c .refl) (.cons (.c .refl) (.cons (.sl (q:=1) rfl rfl gV.down.2 rfl) (.cons (.sl (q:=2) rfl rfl rfl rfl) (.cons (.sl (q:=3) rfl rfl rfl rfl) .nil))))))))) (.cons rfl (.aD rfl rfl) (.cons rfl (.aD rfl rfl) (.cons rfl (.aD rfl rfl) .nil)))) (λx_ o_ bI=> ?_);obtain⟨k56,k57,Z6,Z7,rfl,rfl⟩:=bI;refine⟨.box (.dead (.dead (.arr (an _ _) (.arr (an _ _) (.arr (an _ _) .nil))))), ?_⟩;cbv;refine aM.t Rz ?_;cbv;refine aR.cS (ty hP) (mo hP) rfl ?_;cbv;(iterate 11 (refine aS.z ?_;cbv));refine bZ.mk (aZ.cons rfl (aZ.cons rfl (aZ.cons rfl (aZ.cons rfl aZ.nil)))) ?_;cbv;obtain⟨PK,hR⟩:=bl hR;refine aV.i6 0 rfl (λ_ (Z8:sM<=9223372036854775807)=> ?_);refine(gG hP s.kept sM zI.1 (s.kept.length:Int) (⟨a.mark,gK.1⟩:Kept) mR rfl (of_decide_eq_true PK).1 (of_decide_eq_true PK).2.1 (of_decide_eq_true PK).2.2 Z8).own [7,13] [] (by rfl) (by rfl) al al (λx_ o_ bI=> ?_);obtain⟨k59,Z9,rfl,rfl⟩:=bI;refine⟨.dead (.dead (.arr (an _ _) .nil)), ?_⟩;cbv;exact go
  obtain⟨js,MK,hR⟩:=az hR;refine(Dh hP _ _ _ MK BF gV.down.1 k8 FY sM mR).own [8,5,6,7] [] (by rfl) (by rfl) al (.cons rfl (.aN (.cons (.int rfl) (.cons (.c .refl) (.cons (.c .refl) (.cons (.c .refl) (.cons (.c .refl) (.cons (.sl (q:=1) rfl rfl gV.down.2 rfl) (.cons (.sl (q:=2) rfl rfl rfl rfl) (.cons (.sl (q:=3) rfl rfl rfl rfl) .nil))))))))) (.cons rfl (.aD rfl rfl) (.cons rfl (.aD rfl rfl) (.cons rfl (.aD rfl rfl) .nil)))) (λx_ o_ bI=> ?_);obtain⟨k62,k63,Z_,_a,rfl,rfl⟩:=bI;refine⟨.box (.dead (.dead (.arr (an _ _) (.arr (an _ _) (.arr (an _ _) .nil))))), ?_⟩;cbv;exact go
 replace hR:=wA Et hR;rcases Bool.eq_false_or_eq_true (a.kind==2)with Js|Js
 ·replace hR:=wz Js hR;apply aS.is
  ·intro J hJ;cbv;refine aM.f Et ?_;cbv;refine aM.t Js ?_;cbv;exact hJ
  cbv;refine aS.z ?_;cbv;refine aR.cS (ty hP) (mo hP) rfl ?_;cbv;(iterate 7 (refine aS.z ?_;cbv));obtain⟨Lj,Ut,hR⟩:=az hR;refine jQ Ut ?_;cbv;(iterate 5 (refine aS.z ?_;cbv));refine aM.i hR ?_ ?_<;>intro c84 hR<;>cbv
  ·refine aR.cS (ty hP) (mo hP) rfl ?_;cbv;(iterate 4 (refine aS.z ?_;cbv));obtain⟨RW,Uu,hR⟩:=az hR;refine aJ Uu ?_;cbv;refine bZ.mk (aZ.cons rfl (aZ.cons rfl (aZ.cons rfl aZ.nil))) ?_;cbv;refine aS.z ?_;cbv;cases hR;exact .cA (.cons (.eJ (.cons (.int rfl) (.cons (.c .refl) (.cons (.c .refl) (.cons (.c .refl) (.cons (.c .refl) (.cons (.aD rfl rfl rfl rfl gV.down.2) (.cons (.aD rfl rfl rfl rfl rfl) (.cons (.aD rfl rfl rfl rfl rfl) .nil))))))))) (.cons (.pure rfl) (.cons (.int rfl) .nil)))
  refine aM.i hR ?_ ?_<;>intro c86 hR<;>cbv
  ·refine aR.cS (ty hP) (mo hP) rfl ?_;cbv;(iterate 10 (refine aS.z ?_;cbv));obtain⟨_b,hR⟩:=bl hR;apply aS.is
   ·intro J hJ;cbv;refine bg.mk _b ?_;cbv;exact hJ
   cbv;refine aS.z ?_;cbv;obtain⟨Xu,Uv,hR⟩:=az hR;apply aS.is
   ·intro J hJ;cbv;refine bF.mk _ (ec _) (cj rfl (bn Uv) (eT _)) ?_;cbv;exact hJ
   cbv;refine bZ.mk (aZ.cons rfl (aZ.cons rfl (aZ.cons rfl (aZ.cons rfl (aZ.cons rfl (aZ.cons rfl aZ.nil)))))) ?_;cbv;refine aS.z ?_;cbv;cases hR;exact .cA (.cons (.eJ (.cons (.int rfl) (.cons (.c .refl) (.cons (.c .refl) (.cons (.c .refl) (.cons (.c .refl) (.cons (.aD rfl rfl rfl rfl gV.down.2) (.cons (.aD rfl rfl rfl rfl rfl) (.cons (.aD rfl rfl rfl rfl rfl) .nil))))))))) (.cons (.pure rfl) (.cons (.int rfl) .nil)))
  refine aM.i hR ?_ ?_<;>intro _c hR<;>cbv
  ·refine aM.i hR ?_ ?_<;>intro c90 hR<;>cbv
   ·refine aR.cS (ty hP) (mo hP) rfl ?_;cbv;(iterate 4 (refine aS.z ?_;cbv));obtain⟨Of,ML,hR⟩:=az hR;refine aJ ML ?_;cbv;refine bZ.mk (aZ.cons rfl (aZ.cons rfl (aZ.cons rfl aZ.nil))) ?_;cbv;refine aS.z ?_;cbv;cases hR;exact .cA (.cons (.eJ (.cons (.int rfl) (.cons (.c .refl) (.cons (.c .refl) (.cons (.c .refl) (.cons (.c .refl) (.cons (.aD rfl rfl rfl rfl gV.down.2) (.cons (.aD rfl rfl rfl rfl rfl) (.cons (.aD rfl rfl rfl rfl rfl) .nil))))))))) (.cons (.pure rfl) (.cons (.int rfl) .nil)))
   obtain⟨IS,Uw,hR⟩:=az hR;refine(Di hP _ _ _ Uw BF gV.down.1 k8 FY sM mR).own [8,5,6,7] [] (by rfl) (by rfl) al (.cons rfl (.aN (.cons (.int rfl) (.cons (.c .refl) (.cons (.c .refl) (.cons (.c .refl) (.cons (.c .refl) (.cons (.sl (q:=1) rfl rfl gV.down.2 rfl) (.cons (.sl (q:=2) rfl rfl rfl rfl) (.cons (.sl (q:=3) rfl rfl rfl rfl) .nil))))))))) (.cons rfl (.aD rfl rfl) (.cons rfl (.aD rfl rfl) (.cons rfl (.aD rfl rfl) .nil)))) (λx_ o_ bI=> ?_);obtain⟨t93,t94,rfl,rfl⟩:=bI;refine⟨.box (.arr (an _ _) (.arr (an _ _) (.arr (an _ _) .nil))), ?_⟩;cbv;refine aM.t _c ?_;cbv;refine aR.cS (ty hP) (mo hP) rfl ?_;cbv;(iterate 11 (refine aS.z ?_;cbv));refine bZ.mk (aZ.cons rfl (aZ.cons rfl (aZ.cons rfl (aZ.cons rfl aZ.nil)))) ?_;cbv;obtain⟨Ux,hR⟩:=bl hR;refine aV.i6 0 rfl (λ_ (_d:sM<=9223372036854775807)=> ?_);refine(gG hP s.kept sM Lj.1 (s.kept.length:Int) (⟨a.mark,IS.1⟩:Kept) mR rfl (of_decide_eq_true Ux).1 (of_decide_eq_true Ux).2.1 (of_decide_eq_true Ux).2.2 _d).own [7,11] [] (by rfl) (by rfl) al al (λx_ o_ bI=> ?_);obtain⟨k96,_e,rfl,rfl⟩:=bI;refine⟨.dead (.dead (.arr (an _ _) .nil)), ?_⟩;cbv;exact go
  obtain⟨Al,MM,hR⟩:=az hR;refine(Di hP _ _ _ MM BF gV.down.1 k8 FY sM mR).own [8,5,6,7] [] (by rfl) (by rfl) al (.cons rfl (.aN (.cons (.int rfl) (.cons (.c .refl) (.cons (.c .refl) (.cons (.c .refl) (.cons (.c .refl) (.cons (.sl (q:=1) rfl rfl gV.down.2 rfl) (.cons (.sl (q:=2) rfl rfl rfl rfl) (.cons (.sl (q:=3) rfl rfl rfl rfl) .nil))))))))) (.cons rfl (.aD rfl rfl) (.cons rfl (.aD rfl rfl) (.cons rfl (.aD rfl rfl) .nil)))) (λx_ o_ bI=> ?_);obtain⟨t99,t100,rfl,rfl⟩:=bI;refine⟨.box (.arr (an _ _) (.arr (an _ _) (.arr (an _ _) .nil))), ?_⟩;cbv;exact go
 replace hR:=wA Js hR;rcases Bool.eq_false_or_eq_true (a.kind==3)with Au|Au
 ·replace hR:=wz Au hR;apply aS.is
  ·intro J hJ;cbv;refine aM.f Et ?_;cbv;refine aM.f Js ?_;cbv;refine aM.t Au ?_;cbv;exact hJ
  cbv;refine aS.z ?_;cbv;refine aR.cS (ty hP) (mo hP) rfl ?_;cbv;(iterate 7 (refine aS.z ?_;cbv));obtain⟨Am,PL,hR⟩:=az hR;refine jQ PL ?_;cbv;(iterate 5 (refine aS.z ?_;cbv));refine aM.i hR ?_ ?_<;>intro _g hR<;>cbv
  ·refine aR.cS (ty hP) (mo hP) rfl ?_;cbv;(iterate 4 (refine aS.z ?_;cbv));obtain⟨Pv,PM,hR⟩:=az hR;refine aJ PM ?_;cbv;refine bZ.mk (aZ.cons rfl (aZ.cons rfl (aZ.cons rfl aZ.nil))) ?_;cbv;refine aS.z ?_;cbv;cases hR;exact .cA (.cons (.eJ (.cons (.int rfl) (.cons (.c .refl) (.cons (.c .refl) (.cons (.c .refl) (.cons (.c .refl) (.cons (.aD rfl rfl rfl rfl gV.down.2) (.cons (.aD rfl rfl rfl rfl rfl) (.cons (.aD rfl rfl rfl rfl rfl) .nil))))))))) (.cons (.pure rfl) (.cons (.int rfl) .nil)))
  refine aM.i hR ?_ ?_<;>intro _i hR<;>cbv
  ·refine aR.cS (ty hP) (mo hP) rfl ?_;cbv;(iterate 10 (refine aS.z ?_;cbv));obtain⟨Uy,hR⟩:=bl hR;apply aS.is
   ·intro J hJ;cbv;refine bg.mk Uy ?_;cbv;exact hJ
   cbv;refine aS.z ?_;cbv;obtain⟨Pw,PN,hR⟩:=az hR;apply aS.is
   ·intro J hJ;cbv;refine bF.mk _ (ec _) (cj rfl (bn PN) (eT _)) ?_;cbv;exact hJ
   cbv;refine bZ.mk (aZ.cons rfl (aZ.cons rfl (aZ.cons rfl (aZ.cons rfl (aZ.cons rfl (aZ.cons rfl aZ.nil)))))) ?_;cbv;refine aS.z ?_;cbv;cases hR;exact .cA (.cons (.eJ (.cons (.int rfl) (.cons (.c .refl) (.cons (.c .refl) (.cons (.c .refl) (.cons (.c .refl) (.cons (.aD rfl rfl rfl rfl gV.down.2) (.cons (.aD rfl rfl rfl rfl rfl) (.cons (.aD rfl rfl rfl rfl rfl) .nil))))))))) (.cons (.pure rfl) (.cons (.int rfl) .nil)))
  refine aM.i hR ?_ ?_<;>intro Uz hR<;>cbv
  ·refine aM.i hR ?_ ?_<;>intro _j hR<;>cbv
   ·refine aR.cS (ty hP) (mo hP) rfl ?_;cbv;(iterate 4 (refine aS.z ?_;cbv));obtain⟨Px,PO,hR⟩:=az hR;refine aJ PO ?_;cbv;refine bZ.mk (aZ.cons rfl (aZ.cons rfl (aZ.cons rfl aZ.nil))) ?_;cbv;refine aS.z ?_;cbv;cases hR;exact .cA (.cons (.eJ (.cons (.int rfl) (.cons (.c .refl) (.cons (.c .refl) (.cons (.c .refl) (.cons (.c .refl) (.cons (.aD rfl rfl rfl rfl gV.down.2) (.cons (.aD rfl rfl rfl rfl rfl) (.cons (.aD rfl rfl rfl rfl rfl) .nil))))))))) (.cons (.pure rfl) (.cons (.int rfl) .nil)))
   obtain⟨wF,PR,hR⟩:=az hR;refine(Dk hP _ _ _ PR BF gV.down.1 k8 FY sM mR).own [8,5,6,7] [] (by rfl) (by rfl) al (.cons rfl (.aN (.cons (.int rfl) (.cons (.c .refl) (.cons (.c .refl) (.cons (.c .refl) (.cons (.c .refl) (.cons (.sl (q:=1) rfl rfl gV.down.2 rfl) (.cons (.sl (q:=2) rfl rfl rfl rfl) (.cons (.sl (q:=3) rfl rfl rfl rfl) .nil))))))))) (.cons rfl (.aD rfl rfl) (.cons rfl (.aD rfl rfl) (.cons rfl (.aD rfl rfl) .nil)))) (λx_ o_ bI=> ?_);obtain⟨_k,_l,Xw,Xx,rfl,rfl⟩:=bI;refine⟨.box (.dead (.dead (.arr (an _ _) (.arr (an _ _) (.arr (an _ _) .nil))))), ?_⟩;cbv;refine aM.t Uz ?_;cbv;refine aR.cS (ty hP) (mo hP) rfl ?_;cbv;(iterate 11 (refine aS.z ?_;cbv));refine bZ.mk (aZ.cons rfl (aZ.cons rfl (aZ.cons rfl (aZ.cons rfl aZ.nil)))) ?_;cbv;obtain⟨MN,hR⟩:=bl hR;refine aV.i6 0 rfl (λ_ (UA:sM<=9223372036854775807)=> ?_);refine(gG hP s.kept sM Am.1 (s.kept.length:Int) (⟨a.mark,wF.1⟩:Kept) mR rfl (of_decide_eq_true MN).1 (of_decide_eq_true MN).2.1 (of_decide_eq_true MN).2.2 UA).own [7,13] [] (by rfl) (by rfl) al al (λx_ o_ bI=> ?_);obtain⟨_o,Xy,rfl,rfl⟩:=bI;refine⟨.dead (.dead (.arr (an _ _) .nil)), ?_⟩;cbv;exact go
  obtain⟨An,PS,hR⟩:=az hR;refine(Dk hP _ _ _ PS BF gV.down.1 k8 FY sM mR).own [8,5,6,7] [] (by rfl) (by rfl) al (.cons rfl (.aN (.cons (.int rfl) (.cons (.c .refl) (.cons (.c .refl) (.cons (.c .refl) (.cons (.c .refl) (.cons (.sl (q:=1) rfl rfl gV.down.2 rfl) (.cons (.sl (q:=2) rfl rfl rfl rfl) (.cons (.sl (q:=3) rfl rfl rfl rfl) .nil))))))))) (.cons rfl (.aD rfl rfl) (.cons rfl (.aD rfl rfl) (.cons rfl (.aD rfl rfl) .nil)))) (λx_ o_ bI=> ?_);obtain⟨_q,_t,Xz,XA,rfl,rfl⟩:=bI;refine⟨.box (.dead (.dead (.arr (an _ _) (.arr (an _ _) (.arr (an _ _) .nil))))), ?_⟩;cbv;exact go
 replace hR:=wA Au hR;rcases Bool.eq_false_or_eq_true (a.kind==4)with Cq|Cq
 ·replace hR:=wz Cq hR;apply aS.is
  ·intro J hJ;cbv;refine aM.f Et ?_;cbv;refine aM.f Js ?_;cbv;refine aM.f Au ?_;cbv;refine aM.t Cq ?_;cbv;exact hJ
  cbv;refine aS.z ?_;cbv;refine aR.cS (ty hP) (mo hP) rfl ?_;cbv;(iterate 7 (refine aS.z ?_;cbv));obtain⟨Ao,PT,hR⟩:=az hR;refine jQ PT ?_;cbv;(iterate 5 (refine aS.z ?_;cbv));refine aM.i hR ?_ ?_<;>intro _u hR<;>cbv
  ·refine aR.cS (ty hP) (mo hP) rfl ?_;cbv;(iterate 4 (refine aS.z ?_;cbv));obtain⟨Py,PU,hR⟩:=az hR;refine aJ PU ?_;cbv;refine bZ.mk (aZ.cons rfl (aZ.cons rfl (aZ.cons rfl aZ.nil))) ?_;cbv;refine aS.z ?_;cbv;cases hR;exact .cA (.cons (.eJ (.cons (.int rfl) (.cons (.c .refl) (.cons (.c .refl) (.cons (.c .refl) (.cons (.c .refl) (.cons (.aD rfl rfl rfl rfl gV.down.2) (.cons (.aD rfl rfl rfl rfl rfl) (.cons (.aD rfl rfl rfl rfl rfl) .nil))))))))) (.cons (.pure rfl) (.cons (.int rfl) .nil)))
  refine aM.i hR ?_ ?_<;>intro _v hR<;>cbv
  ·refine aR.cS (ty hP) (mo hP) rfl ?_;cbv;(iterate 10 (refine aS.z ?_;cbv));obtain⟨UB,hR⟩:=bl hR;apply aS.is
   ·intro J hJ;cbv;refine bg.mk UB ?_;cbv;exact hJ
   cbv;refine aS.z ?_;cbv;obtain⟨Pz,PV,hR⟩:=az hR;apply aS.is
   ·intro J hJ;cbv;refine bF.mk _ (ec _) (cj rfl (bn PV) (eT _)) ?_;cbv;exact hJ
   cbv;refine bZ.mk (aZ.cons rfl (aZ.cons rfl (aZ.cons rfl (aZ.cons rfl (aZ.cons rfl (aZ.cons rfl aZ.nil)))))) ?_;cbv;refine aS.z ?_;cbv;cases hR;exact .cA (.cons (.eJ (.cons (.int rfl) (.cons (.c .refl) (.cons (.c .refl) (.cons (.c .refl) (.cons (.c .refl) (.cons (.aD rfl rfl rfl rfl gV.down.2) (.cons (.aD rfl rfl rfl rfl rfl) (.cons (.aD rfl rfl rfl rfl rfl) .nil))))))))) (.cons (.pure rfl) (.cons (.int rfl) .nil)))
  refine aM.i hR ?_ ?_<;>intro UC hR<;>cbv
  ·refine aM.i hR ?_ ?_<;>intro _y hR<;>cbv
   ·refine aR.cS (ty hP) (mo hP) rfl ?_;cbv;(iterate 4 (refine aS.z ?_;cbv));obtain⟨PA,PW,hR⟩:=az hR;refine aJ PW ?_;cbv;refine bZ.mk (aZ.cons rfl (aZ.cons rfl (aZ.cons rfl aZ.nil))) ?_;cbv;refine aS.z ?_;cbv;cases hR;exact .cA (.cons (.eJ (.cons (.int rfl) (.cons (.c .refl) (.cons (.c .refl) (.cons (.c .refl) (.cons (.c .refl) (.cons (.aD rfl rfl rfl rfl gV.down.2) (.cons (.aD rfl rfl rfl rfl rfl) (.cons (.aD rfl rfl rfl rfl rfl) .nil))))))))) (.cons (.pure rfl) (.cons (.int rfl) .nil)))
   obtain⟨Ap,PX,hR⟩:=az hR;refine(Dl hP _ _ _ PX BF gV.down.1 k8 FY sM mR).own [8,5,6,7] [] (by rfl) (by rfl) al (.cons rfl (.aN (.cons (.int rfl) (.cons (.c .refl) (.cons (.c .refl) (.cons (.c .refl) (.cons (.c .refl) (.cons (.sl (q:=1) rfl rfl gV.down.2 rfl) (.cons (.sl (q:=2) rfl rfl rfl rfl) (.cons (.sl (q:=3) rfl rfl rfl rfl) .nil))))))))) (.cons rfl (.aD rfl rfl) (.cons rfl (.aD rfl rfl) (.cons rfl (.aD rfl rfl) .nil)))) (λx_ o_ bI=> ?_);obtain⟨rfl,rfl⟩:=bI;refine⟨.box (.arr (an _ _) (.arr (an _ _) (.arr (an _ _) .nil))), ?_⟩;cbv;refine aM.t UC ?_;cbv;refine aR.cS (ty hP) (mo hP) rfl ?_;cbv;(iterate 11 (refine aS.z ?_;cbv));refine bZ.mk (aZ.cons rfl (aZ.cons rfl (aZ.cons rfl (aZ.cons rfl aZ.nil)))) ?_;cbv;obtain⟨aeo,hR⟩:=bl hR;refine aV.i6 0 rfl (λ_ (af0:sM<=9223372036854775807)=> ?_);refine(gG hP s.kept sM Ao.1 (s.kept.length:Int) (⟨a.mark,Ap.1⟩:Kept) mR rfl (of_decide_eq_true aeo).1 (of_decide_eq_true aeo).2.1 (of_decide_eq_true aeo).2.2 af0).own [7,11] [] (by rfl) (by rfl) al al (λx_ o_ bI=> ?_);obtain⟨ag3,ags,rfl,rfl⟩:=bI;refine⟨.dead (.dead (.arr (an _ _) .nil)), ?_⟩;cbv;exact go
  obtain⟨EJ,PY,hR⟩:=az hR;refine(Dl hP _ _ _ PY BF gV.down.1 k8 FY sM mR).own [8,5,6,7] [] (by rfl) (by rfl) al (.cons rfl (.aN (.cons (.int rfl) (.cons (.c .refl) (.cons (.c .refl) (.cons (.c .refl) (.cons (.c .refl) (.cons (.sl (q:=1) rfl rfl gV.down.2 rfl) (.cons (.sl (q:=2) rfl rfl rfl rfl) (.cons (.sl (q:=3) rfl rfl rfl rfl) .nil))))))))) (.cons rfl (.aD rfl rfl) (.cons rfl (.aD rfl rfl) (.cons rfl (.aD rfl rfl) .nil)))) (λx_ o_ bI=> ?_);obtain⟨rfl,rfl⟩:=bI;refine⟨.box (.arr (an _ _) (.arr (an _ _) (.arr (an _ _) .nil))), ?_⟩;cbv;exact go
 replace hR:=wA Cq hR;rcases Bool.eq_false_or_eq_true (a.kind==5)with EM|EM
 ·replace hR:=wz EM hR;apply aS.is
  ·intro J hJ;cbv;refine aM.f Et ?_;cbv;refine aM.f Js ?_;cbv;refine aM.f Au ?_;cbv;refine aM.f Cq ?_;cbv;refine aM.t EM ?_;cbv;exact hJ
  cbv;refine aS.z ?_;cbv;refine aR.cS (ty hP) (mo hP) rfl ?_;cbv;(iterate 7 (refine aS.z ?_;cbv));obtain⟨Aq,PZ,hR⟩:=az hR;refine jQ PZ ?_;cbv;(iterate 5 (refine aS.z ?_;cbv));refine aM.i hR ?_ ?_<;>intro _z hR<;>cbv
  ·refine aR.cS (ty hP) (mo hP) rfl ?_;cbv;(iterate 4 (refine aS.z ?_;cbv));obtain⟨PB,P0,hR⟩:=az hR;refine aJ P0 ?_;cbv;refine bZ.mk (aZ.cons rfl (aZ.cons rfl (aZ.cons rfl aZ.nil))) ?_;cbv;refine aS.z ?_;cbv;cases hR;exact .cA (.cons (.eJ (.cons (.int rfl) (.cons (.c .refl) (.cons (.c .refl) (.cons (.c .refl) (.cons (.c .refl) (.cons (.aD rfl rfl rfl rfl gV.down.2) (.cons (.aD rfl rfl rfl rfl rfl) (.cons (.aD rfl rfl rfl rfl rfl) .nil))))))))) (.cons (.pure rfl) (.cons (.int rfl) .nil)))
  refine aM.i hR ?_ ?_<;>intro _B hR<;>cbv
  ·refine aR.cS (ty hP) (mo hP) rfl ?_;cbv;(iterate 10 (refine aS.z ?_;cbv));obtain⟨UD,hR⟩:=bl hR;apply aS.is
   ·intro J hJ;cbv;refine bg.mk UD ?_;cbv;exact hJ
   cbv;refine aS.z ?_;cbv;obtain⟨PC,P1,hR⟩:=az hR;apply aS.is
   ·intro J hJ;cbv;refine bF.mk _ (ec _) (cj rfl (bn P1) (eT _)) ?_;cbv;exact hJ
   cbv;refine bZ.mk (aZ.cons rfl (aZ.cons rfl (aZ.cons rfl (aZ.cons rfl (aZ.cons rfl (aZ.cons rfl aZ.nil)))))) ?_;cbv;refine aS.z ?_;cbv;cases hR;exact .cA (.cons (.eJ (.cons (.int rfl) (.cons (.c .refl) (.cons (.c .refl) (.cons (.c .refl) (.cons (.c .refl) (.cons (.aD rfl rfl rfl rfl gV.down.2) (.cons (.aD rfl rfl rfl rfl rfl) (.cons (.aD rfl rfl rfl rfl rfl) .nil))))))))) (.cons (.pure rfl) (.cons (.int rfl) .nil)))
  refine aM.i hR ?_ ?_<;>intro UE hR<;>cbv
  ·refine aM.i hR ?_ ?_<;>intro _C hR<;>cbv
   ·refine aR.cS (ty hP) (mo hP) rfl ?_;cbv;(iterate 4 (refine aS.z ?_;cbv));obtain⟨PD,P2,hR⟩:=az hR;refine aJ P2 ?_;cbv;refine bZ.mk (aZ.cons rfl (aZ.cons rfl (aZ.cons rfl aZ.nil))) ?_;cbv;refine aS.z ?_;cbv;cases hR;exact .cA (.cons (.eJ (.cons (.int rfl) (.cons (.c .refl) (.cons (.c .refl) (.cons (.c .refl) (.cons (.c .refl) (.cons (.aD rfl rfl rfl rfl gV.down.2) (.cons (.aD rfl rfl rfl rfl rfl) (.cons (.aD rfl rfl rfl rfl rfl) .nil))))))))) (.cons (.pure rfl) (.cons (.int rfl) .nil)))
   obtain⟨Ar,P3,hR⟩:=az hR;refine(Dm hP _ _ _ P3 BF gV.down.1 k8 FY sM mR).own [8,5,6,7] [] (by rfl) (by rfl) al (.cons rfl (.aN (.cons (.int rfl) (.cons (.c .refl) (.cons (.c .refl) (.cons (.c .refl) (.cons (.c .refl) (.cons (.sl (q:=1) rfl rfl gV.down.2 rfl) (.cons (.sl (q:=2) rfl rfl rfl rfl) (.cons (.sl (q:=3) rfl rfl rfl rfl) .nil))))))))) (.cons rfl (.aD rfl rfl) (.cons rfl (.aD rfl rfl) (.cons rfl (.aD rfl rfl) .nil)))) (λx_ o_ bI=> ?_);obtain⟨rfl,rfl⟩:=bI;refine⟨.box (.arr (an _ _) (.arr (an _ _) (.arr (an _ _) .nil))), ?_⟩;cbv;refine aM.t UE ?_;cbv;refine aR.cS (ty hP) (mo hP) rfl ?_;cbv;(iterate 11 (refine aS.z ?_;cbv));refine bZ.mk (aZ.cons rfl (aZ.cons rfl (aZ.cons rfl (aZ.cons rfl aZ.nil)))) ?_;cbv;obtain⟨MO,hR⟩:=bl hR;refine aV.i6 0 rfl (λ_ (UF:sM<=9223372036854775807)=> ?_);refine(gG hP s.kept sM Aq.1 (s.kept.length:Int) (⟨a.mark,Ar.1⟩:Kept) mR rfl (of_decide_eq_true MO).1 (of_decide_eq_true MO).2.1 (of_decide_eq_true MO).2.2 UF).own [7,11] [] (by rfl) (by rfl) al al (λx_ o_ bI=> ?_);obtain⟨_D,XB,rfl,rfl⟩:=bI;refine⟨.dead (.dead (.arr (an _ _) .nil)), ?_⟩;cbv;exact go
  obtain⟨EK,P4,hR⟩:=az hR;refine(Dm hP _ _ _ P4 BF gV.down.1 k8 FY sM mR).own [8,5,6,7] [] (by rfl) (by rfl) al (.cons rfl (.aN (.cons (.int rfl) (.cons (.c .refl) (.cons (.c .refl) (.cons (.c .refl) (.cons (.c .refl) (.cons (.sl (q:=1) rfl rfl gV.down.2 rfl) (.cons (.sl (q:=2) rfl rfl rfl rfl) (.cons (.sl (q:=3) rfl rfl rfl rfl) .nil))))))))) (.cons rfl (.aD rfl rfl) (.cons rfl (.aD rfl rfl) (.cons rfl (.aD rfl rfl) .nil)))) (λx_ o_ bI=> ?_);obtain⟨rfl,rfl⟩:=bI;refine⟨.box (.arr (an _ _) (.arr (an _ _) (.arr (an _ _) .nil))), ?_⟩;cbv;exact go
 replace hR:=wA EM hR;rcases Bool.eq_false_or_eq_true (a.kind==6)with G0|G0
 ·replace hR:=wz G0 hR;apply aS.is
  ·intro J hJ;cbv;refine aM.f Et ?_;cbv;refine aM.f Js ?_;cbv;refine aM.f Au ?_;cbv;refine aM.f Cq ?_;cbv;refine aM.f EM ?_;cbv;refine aM.t G0 ?_;cbv;exact hJ
  cbv;refine aS.z ?_;cbv;refine aR.cS (ty hP) (mo hP) rfl ?_;cbv;(iterate 7 (refine aS.z ?_;cbv));obtain⟨As,P5,hR⟩:=az hR;refine jQ P5 ?_;cbv;(iterate 5 (refine aS.z ?_;cbv));refine aM.i hR ?_ ?_<;>intro _E hR<;>cbv
  ·refine aR.cS (ty hP) (mo hP) rfl ?_;cbv;(iterate 4 (refine aS.z ?_;cbv));obtain⟨PE,P6,hR⟩:=az hR;refine aJ P6 ?_;cbv;refine bZ.mk (aZ.cons rfl (aZ.cons rfl (aZ.cons rfl aZ.nil))) ?_;cbv;refine aS.z ?_;cbv;cases hR;exact .cA (.cons (.eJ (.cons (.int rfl) (.cons (.c .refl) (.cons (.c .refl) (.cons (.c .refl) (.cons (.c .refl) (.cons (.aD rfl rfl rfl rfl gV.down.2) (.cons (.aD rfl rfl rfl rfl rfl) (.cons (.aD rfl rfl rfl rfl rfl) .nil))))))))) (.cons (.pure rfl) (.cons (.int rfl) .nil)))
  refine aM.i hR ?_ ?_<;>intro _F hR<;>cbv
  ·refine aR.cS (ty hP) (mo hP) rfl ?_;cbv;(iterate 10 (refine aS.z ?_;cbv));obtain⟨UG,hR⟩:=bl hR;apply aS.is
   ·intro J hJ;cbv;refine bg.mk UG ?_;cbv;exact hJ
   cbv;refine aS.z ?_;cbv;obtain⟨PF,P7,hR⟩:=az hR;apply aS.is
   ·intro J hJ;cbv;refine bF.mk _ (ec _) (cj rfl (bn P7) (eT _)) ?_;cbv;exact hJ
   cbv;refine bZ.mk (aZ.cons rfl (aZ.cons rfl (aZ.cons rfl (aZ.cons rfl (aZ.cons rfl (aZ.cons rfl aZ.nil)))))) ?_;cbv;refine aS.z ?_;cbv;cases hR;exact .cA (.cons (.eJ (.cons (.int rfl) (.cons (.c .refl) (.cons (.c .refl) (.cons (.c .refl) (.cons (.c .refl) (.cons (.aD rfl rfl rfl rfl gV.down.2) (.cons (.aD rfl rfl rfl rfl rfl) (.cons (.aD rfl rfl rfl rfl rfl) .nil))))))))) (.cons (.pure rfl) (.cons (.int rfl) .nil)))
  refine aM.i hR ?_ ?_<;>intro UH hR<;>cbv
  ·refine aM.i hR ?_ ?_<;>intro _G hR<;>cbv
   ·refine aR.cS (ty hP) (mo hP) rfl ?_;cbv;(iterate 4 (refine aS.z ?_;cbv));obtain⟨PG,P8,hR⟩:=az hR;refine aJ P8 ?_;cbv;refine bZ.mk (aZ.cons rfl (aZ.cons rfl (aZ.cons rfl aZ.nil))) ?_;cbv;refine aS.z ?_;cbv;cases hR;exact .cA (.cons (.eJ (.cons (.int rfl) (.cons (.c .refl) (.cons (.c .refl) (.cons (.c .refl) (.cons (.c .refl) (.cons (.aD rfl rfl rfl rfl gV.down.2) (.cons (.aD rfl rfl rfl rfl rfl) (.cons (.aD rfl rfl rfl rfl rfl) .nil))))))))) (.cons (.pure rfl) (.cons (.int rfl) .nil)))
   obtain⟨At,P9,hR⟩:=az hR;refine(Dn hP _ _ _ P9 BF gV.down.1 k8 FY sM mR).own [8,5,6,7] [] (by rfl) (by rfl) al (.cons rfl (.aN (.cons (.int rfl) (.cons (.c .refl) (.cons (.c .refl) (.cons (.c .refl) (.cons (.c .refl) (.cons (.sl (q:=1) rfl rfl gV.down.2 rfl) (.cons (.sl (q:=2) rfl rfl rfl rfl) (.cons (.sl (q:=3) rfl rfl rfl rfl) .nil))))))))) (.cons rfl (.aD rfl rfl) (.cons rfl (.aD rfl rfl) (.cons rfl (.aD rfl rfl) .nil)))) (λx_ o_ bI=> ?_);obtain⟨rfl,rfl⟩:=bI;refine⟨.box (.arr (an _ _) (.arr (an _ _) (.arr (an _ _) .nil))), ?_⟩;cbv;refine aM.t UH ?_;cbv;refine aR.cS (ty hP) (mo hP) rfl ?_;cbv;(iterate 11 (refine aS.z ?_;cbv));refine bZ.mk (aZ.cons rfl (aZ.cons rfl (aZ.cons rfl (aZ.cons rfl aZ.nil)))) ?_;cbv;obtain⟨MP,hR⟩:=bl hR;refine aV.i6 0 rfl (λ_ (af1:sM<=9223372036854775807)=> ?_);refine(gG hP s.kept sM As.1 (s.kept.length:Int) (⟨a.mark,At.1⟩:Kept) mR rfl (of_decide_eq_true MP).1 (of_decide_eq_true MP).2.1 (of_decide_eq_true MP).2.2 af1).own [7,11] [] (by rfl) (by rfl) al al (λx_ o_ bI=> ?_);obtain⟨ag4,agt,rfl,rfl⟩:=bI;refine⟨.dead (.dead (.arr (an _ _) .nil)), ?_⟩;cbv;exact go
  obtain⟨EL,P_,hR⟩:=az hR;refine(Dn hP _ _ _ P_ BF gV.down.1 k8 FY sM mR).own [8,5,6,7] [] (by rfl) (by rfl) al (.cons rfl (.aN (.cons (.int rfl) (.cons (.c .refl) (.cons (.c .refl) (.cons (.c .refl) (.cons (.c .refl) (.cons (.sl (q:=1) rfl rfl gV.down.2 rfl) (.cons (.sl (q:=2) rfl rfl rfl rfl) (.cons (.sl (q:=3) rfl rfl rfl rfl) .nil))))))))) (.cons rfl (.aD rfl rfl) (.cons rfl (.aD rfl rfl) (.cons rfl (.aD rfl rfl) .nil)))) (λx_ o_ bI=> ?_);obtain⟨rfl,rfl⟩:=bI;refine⟨.box (.arr (an _ _) (.arr (an _ _) (.arr (an _ _) .nil))), ?_⟩;cbv;exact go
 replace hR:=wA G0 hR;apply aS.is
 ·intro J hJ;cbv;refine aM.f Et ?_;cbv;refine aM.f Js ?_;cbv;refine aM.f Au ?_;cbv;refine aM.f Cq ?_;cbv;refine aM.f EM ?_;cbv;refine aM.f G0 ?_;cbv;exact hJ
 cbv;refine aS.z ?_;cbv;refine aR.cS (ty hP) (mo hP) rfl ?_;cbv;(iterate 7 (refine aS.z ?_;cbv));obtain⟨_H,Qa,hR⟩:=az hR;refine jQ Qa ?_;cbv;(iterate 5 (refine aS.z ?_;cbv));refine aR.cS (ty hP) (mo hP) rfl ?_;cbv;(iterate 4 (refine aS.z ?_;cbv));obtain⟨PI,Qb,hR⟩:=az hR;refine aJ Qb ?_;cbv;refine bZ.mk (aZ.cons rfl (aZ.cons rfl (aZ.cons rfl aZ.nil))) ?_;cbv;refine aS.z ?_;cbv;cases hR;exact .cA (.cons (.eJ (.cons (.int rfl) (.cons (.c .refl) (.cons (.c .refl) (.cons (.c .refl) (.cons (.c .refl) (.cons (.aD rfl rfl rfl rfl gV.down.2) (.cons (.aD rfl rfl rfl rfl rfl) (.cons (.aD rfl rfl rfl rfl rfl) .nil))))))))) (.cons (.pure rfl) (.cons (.int rfl) .nil)))⟩
end Go.Proofs.aaa
end
