/- Texts that the law leans on, part 16. No conditions. -/
import Derived.Test.YtnpliafeboadcaaGreatK14
import Derived.Test.YtnpliafeboadcaaGreatK15
section
namespace Go.Proofs.aaa
open Go.bA Go.IntWalk
variable{P:Program}
set_option maxHeartbeats 4000000
set_option maxRecDepth 20000
def Gx (b:aF)(order:Int)(n:Int):Option (aF×Int):=
 (Jc b).bind λp1=>
 if(decide (b.aK.length<=1000000000000))=true then
  if(decide (b.ak.length<=1000000000000))=true then
   if(ai .eql p1 0)=true then
    (wu order).bind λp7=>
    if(!p7)=true then
     (uz n).bind λp9=>
     (kQ (⟨b,2⟩:cV) (!p9) 2).bind λpJ=>
     (oW (⟨b,pJ.why⟩:cV) order).bind λgO=>
     (kQ (⟨b,gO.2.why⟩:cV) (ai .gtr gO.1.bC 0) 9).bind λqb=>
     (oX (⟨b,qb.why⟩:cV) (⟨order,1,2,n⟩:au)).bind λz9=>
     if(ai .neq z9.why 0)=true then
      some ((⟨([]:List aQ),([]:List au)⟩:aF),z9.why)
     else some (z9.af,0)
    else(uz n).bind λxl=>
    (kQ (⟨b,p1⟩:cV) (!xl) 2).bind λeI=>
    (oW (⟨b,eI.why⟩:cV) order).bind λAa=>
    (kQ (⟨b,Aa.2.why⟩:cV) (ai .gtr Aa.1.bC 0) 9).bind λKY=>
    (oX (⟨b,KY.why⟩:cV) (⟨order,1,2,n⟩:au)).bind λmO=>
    if(ai .neq mO.why 0)=true then
     some ((⟨([]:List aQ),([]:List au)⟩:aF),mO.why)
    else some (mO.af,0)
   else(uz n).bind λMc=>
   (kQ (⟨b,p1⟩:cV) (!Mc) 2).bind λmT=>
   (oW (⟨b,mT.why⟩:cV) order).bind λN_=>
   (kQ (⟨b,N_.2.why⟩:cV) (ai .gtr N_.1.bC 0) 9).bind λxm=>
   (oX (⟨b,xm.why⟩:cV) (⟨order,1,2,n⟩:au)).bind λJe=>
   if(ai .neq Je.why 0)=true then
    some ((⟨([]:List aQ),([]:List au)⟩:aF),Je.why)
   else some (Je.af,0)
  else none
 else none
instance [Pg P](b:aF)(order:Int)(n:Int)(r:aF×Int):bx P 181 (Gx b order n=some r) [b.av,I6 order,I6 n] (.cI [r.1.av,I6 r.2]):=⟨λhR=>by
 have hP:=Pg.h (P:=P);unfold Gx at hR;refine Tz hP ?_;cbv;refine Jf hP ?_;cbv;obtain⟨p1,gM,hR⟩:=az hR;refine aJ gM ?_;cbv;refine aR.cS (ty hP) (mo hP) rfl ?_;cbv;(iterate 6 (refine aS.z ?_;cbv));obtain⟨m2,hR⟩:=bl hR;refine(gR hP b.aK (of_decide_eq_true m2)).frame rfl (λx_ o_ bI=> ?_);obtain⟨k3,mP,rfl,rfl⟩:=bI;refine⟨[0],_,_,rfl,.sl (q:=0) rfl rfl rfl rfl,.cons rfl .aL .nil, ?_⟩;cbv;refine bZ.mk (aZ.cons rfl (aZ.cons rfl aZ.nil)) ?_;cbv;obtain⟨m4,hR⟩:=bl hR;refine(eN hP b.ak (of_decide_eq_true m4)).frame rfl (λx_ o_ bI=> ?_);obtain⟨k5,l7,rfl,rfl⟩:=bI;refine⟨[0],_,_,rfl,.sl (q:=0) rfl rfl rfl rfl,.cons rfl .aL .nil, ?_⟩;cbv
 (iterate 6 (refine aS.z ?_;cbv));refine aM.i hR ?_ ?_<;>intro c6 hR<;>cbv
 ·obtain⟨p7,Cd,hR⟩:=az hR;refine aJ Cd ?_;cbv;refine aM.i hR ?_ ?_<;>intro c8 hR<;>cbv
  ·obtain⟨p9,tw,hR⟩:=az hR;refine aJ tw ?_;cbv;obtain⟨pJ,qW,hR⟩:=az hR;refine(dK hP _ _ _ _ qW k3 mP k5 l7).own [3,4,5] [] (by rfl) (by rfl) al al (λx_ o_ bI=> ?_);obtain⟨rfl,rfl⟩:=bI;refine⟨.box (.arr (an _ _) (.arr (an _ _) .nil)), ?_⟩;cbv;obtain⟨gO,qX,hR⟩:=az hR;refine(fJ hP _ _ _ qX k3 mP k5 l7).own [3,4,5] [] (by rfl) (by rfl) al al (λx_ o_ bI=> ?_);obtain⟨rfl,rfl⟩:=bI;refine⟨.box (.arr (an _ _) (.arr (an _ _) .nil)), ?_⟩;cbv;obtain⟨qb,Ce,hR⟩:=az hR;refine(dK hP _ _ _ _ Ce k3 mP k5 l7).own [3,4,5] [] (by rfl) (by rfl) al al (λx_ o_ bI=> ?_);obtain⟨rfl,rfl⟩:=bI;refine⟨.box (.arr (an _ _) (.arr (an _ _) .nil)), ?_⟩;cbv;obtain⟨z9,B8,hR⟩:=az hR;refine(gQ hP _ _ _ B8 k3 mP k5 l7).own [3,4,5] [] (by rfl) (by rfl) al al (λx_ o_ bI=> ?_);obtain⟨Zb,v8,TA,pZ,rfl,rfl⟩:=bI;refine⟨.box (.dead (.dead (.arr (an _ _) (.arr (an _ _) .nil)))), ?_⟩;cbv;refine yH hP ?_;cbv;exact go
  obtain⟨xl,yG,hR⟩:=az hR;refine aJ yG ?_;cbv;obtain⟨eI,qZ,hR⟩:=az hR;refine(dK hP _ _ _ _ qZ k3 mP k5 l7).own [3,4,5] [] (by rfl) (by rfl) al al (λx_ o_ bI=> ?_);obtain⟨rfl,rfl⟩:=bI;refine⟨.box (.arr (an _ _) (.arr (an _ _) .nil)), ?_⟩;cbv;obtain⟨Aa,Gy,hR⟩:=az hR;refine(fJ hP _ _ _ Gy k3 mP k5 l7).own [3,4,5] [] (by rfl) (by rfl) al al (λx_ o_ bI=> ?_);obtain⟨rfl,rfl⟩:=bI;refine⟨.box (.arr (an _ _) (.arr (an _ _) .nil)), ?_⟩;cbv;obtain⟨KY,Gz,hR⟩:=az hR;refine(dK hP _ _ _ _ Gz k3 mP k5 l7).own [3,4,5] [] (by rfl) (by rfl) al al (λx_ o_ bI=> ?_);obtain⟨rfl,rfl⟩:=bI;refine⟨.box (.arr (an _ _) (.arr (an _ _) .nil)), ?_⟩;cbv;obtain⟨mO,uC,hR⟩:=az hR;refine(gQ hP _ _ _ uC k3 mP k5 l7).own [3,4,5] [] (by rfl) (by rfl) al al (λx_ o_ bI=> ?_);obtain⟨RI,Zc,Jg,TB,rfl,rfl⟩:=bI;refine⟨.box (.dead (.dead (.arr (an _ _) (.arr (an _ _) .nil)))), ?_⟩;cbv;refine yH hP ?_;cbv;exact go
 obtain⟨Mc,Md,hR⟩:=az hR;refine aJ Md ?_;cbv;obtain⟨mT,Cb,hR⟩:=az hR;refine(dK hP _ _ _ _ Cb k3 mP k5 l7).own [3,4,5] [] (by rfl) (by rfl) al al (λx_ o_ bI=> ?_);obtain⟨rfl,rfl⟩:=bI;refine⟨.box (.arr (an _ _) (.arr (an _ _) .nil)), ?_⟩;cbv;obtain⟨N_,Me,hR⟩:=az hR;refine(fJ hP _ _ _ Me k3 mP k5 l7).own [3,4,5] [] (by rfl) (by rfl) al al (λx_ o_ bI=> ?_);obtain⟨rfl,rfl⟩:=bI;refine⟨.box (.arr (an _ _) (.arr (an _ _) .nil)), ?_⟩;cbv;obtain⟨xm,Cf,hR⟩:=az hR;refine(dK hP _ _ _ _ Cf k3 mP k5 l7).own [3,4,5] [] (by rfl) (by rfl) al al (λx_ o_ bI=> ?_);obtain⟨rfl,rfl⟩:=bI;refine⟨.box (.arr (an _ _) (.arr (an _ _) .nil)), ?_⟩;cbv;obtain⟨Je,Mf,hR⟩:=az hR;refine(gQ hP _ _ _ Mf k3 mP k5 l7).own [3,4,5] [] (by rfl) (by rfl) al al (λx_ o_ bI=> ?_);obtain⟨Zd,Ze,TC,TF,rfl,rfl⟩:=bI;refine⟨.box (.dead (.dead (.arr (an _ _) (.arr (an _ _) .nil)))), ?_⟩;cbv;refine yH hP ?_;cbv;exact go⟩
def Cg (b:aF)(order:Int):Option (aQ×Int):=
 (Jc b).bind λp1=>
 if(decide (b.aK.length<=1000000000000))=true then
  if(decide (b.ak.length<=1000000000000))=true then
   if(ai .eql p1 0)=true then
    (wu order).bind λp7=>
    if(!p7)=true then
     some ((⟨0,0,0,0⟩:aQ),2)
    else(oW (⟨b,p1⟩:cV) order).bind λp9=>
    some (p9.1,0)
   else some ((⟨0,0,0,0⟩:aQ),p1)
  else none
 else none
instance [Pg P](b:aF)(order:Int)(r:aQ×Int):bx P 182 (Cg b order=some r) [b.av,I6 order] (.cI [r.1.av,I6 r.2]):=⟨λhR=>by
 have hP:=Pg.h (P:=P);unfold Cg at hR;refine TG hP ?_;cbv;refine Jf hP ?_;cbv;obtain⟨p1,gM,hR⟩:=az hR;refine aJ gM ?_;cbv;refine aR.cS (ty hP) (mo hP) rfl ?_;cbv;(iterate 6 (refine aS.z ?_;cbv));obtain⟨m2,hR⟩:=bl hR;refine(gR hP b.aK (of_decide_eq_true m2)).frame rfl (λx_ o_ bI=> ?_);obtain⟨k3,mP,rfl,rfl⟩:=bI;refine⟨[0],_,_,rfl,.sl (q:=0) rfl rfl rfl rfl,.cons rfl .aL .nil, ?_⟩;cbv;refine bZ.mk (aZ.cons rfl (aZ.cons rfl aZ.nil)) ?_;cbv;obtain⟨m4,hR⟩:=bl hR;refine(eN hP b.ak (of_decide_eq_true m4)).frame rfl (λx_ o_ bI=> ?_);obtain⟨k5,l7,rfl,rfl⟩:=bI;refine⟨[0],_,_,rfl,.sl (q:=0) rfl rfl rfl rfl,.cons rfl .aL .nil, ?_⟩;cbv
 (iterate 6 (refine aS.z ?_;cbv));refine aM.i hR ?_ ?_<;>intro c6 hR<;>cbv
 ·obtain⟨p7,Cd,hR⟩:=az hR;refine aJ Cd ?_;cbv;refine aM.i hR ?_ ?_<;>intro c8 hR<;>cbv
  ·exact go
  refine aM.f (Ex c6) ?_;cbv;obtain⟨p9,tw,hR⟩:=az hR;refine(fJ hP _ _ _ tw k3 mP k5 l7).own [3,4,5] [] (by rfl) (by rfl) al al (λx_ o_ bI=> ?_);obtain⟨rfl,rfl⟩:=bI;refine⟨.box (.arr (an _ _) (.arr (an _ _) .nil)), ?_⟩;cbv;cases hR;exact al
 exact go⟩
def Ey (b:aF)(order:Int)(dst:Int):Option (aF×Int×Int):=
 (Jc b).bind λp1=>
 if(decide (b.aK.length<=1000000000000))=true then
  if(decide (b.ak.length<=1000000000000))=true then
   if(ai .eql p1 0)=true then
    (wu order).bind λp7=>
    if(!p7)=true then
     (oW (⟨b,2⟩:cV) order).bind λp9=>
     (kQ (⟨b,p9.2.why⟩:cV) (ai .eql p9.1.bC 0) 9).bind λpJ=>
     (oX (⟨b,pJ.why⟩:cV) (⟨order,2,dst,p9.1.bC⟩:au)).bind λgO=>
     if(ai .neq gO.why 0)=true then
      some ((⟨([]:List aQ),([]:List au)⟩:aF),0,gO.why)
     else some (gO.af,p9.1.bC,0)
    else(oW (⟨b,p1⟩:cV) order).bind λkD=>
    (kQ (⟨b,kD.2.why⟩:cV) (ai .eql kD.1.bC 0) 9).bind λCh=>
    (oX (⟨b,Ch.why⟩:cV) (⟨order,2,dst,kD.1.bC⟩:au)).bind λxl=>
    if(ai .neq xl.why 0)=true then
     some ((⟨([]:List aQ),([]:List au)⟩:aF),0,xl.why)
    else some (xl.af,kD.1.bC,0)
   else(oW (⟨b,p1⟩:cV) order).bind λmO=>
   (kQ (⟨b,mO.2.why⟩:cV) (ai .eql mO.1.bC 0) 9).bind λv9=>
   (oX (⟨b,v9.why⟩:cV) (⟨order,2,dst,mO.1.bC⟩:au)).bind λBE=>
   if(ai .neq BE.why 0)=true then
    some ((⟨([]:List aQ),([]:List au)⟩:aF),0,BE.why)
   else some (BE.af,mO.1.bC,0)
  else none
 else none
instance [Pg P](b:aF)(order:Int)(dst:Int)(r:aF×Int×Int):bx P 206 (Ey b order dst=some r) [b.av,I6 order,I8 dst] (.cI [r.1.av,I6 r.2.1,I6 r.2.2]):=⟨λhR=>by
 have hP:=Pg.h (P:=P);unfold Ey at hR;refine TH hP ?_;cbv;refine Jf hP ?_;cbv;obtain⟨p1,gM,hR⟩:=az hR;refine aJ gM ?_;cbv;refine aR.cS (ty hP) (mo hP) rfl ?_;cbv;(iterate 6 (refine aS.z ?_;cbv));obtain⟨m2,hR⟩:=bl hR;refine(gR hP b.aK (of_decide_eq_true m2)).frame rfl (λx_ o_ bI=> ?_);obtain⟨k3,mP,rfl,rfl⟩:=bI;refine⟨[0],_,_,rfl,.sl (q:=0) rfl rfl rfl rfl,.cons rfl .aL .nil, ?_⟩;cbv;refine bZ.mk (aZ.cons rfl (aZ.cons rfl aZ.nil)) ?_;cbv;obtain⟨m4,hR⟩:=bl hR;refine(eN hP b.ak (of_decide_eq_true m4)).frame rfl (λx_ o_ bI=> ?_);obtain⟨k5,l7,rfl,rfl⟩:=bI;refine⟨[0],_,_,rfl,.sl (q:=0) rfl rfl rfl rfl,.cons rfl .aL .nil, ?_⟩;cbv
 (iterate 6 (refine aS.z ?_;cbv));refine aM.i hR ?_ ?_<;>intro c6 hR<;>cbv
 ·obtain⟨p7,Cd,hR⟩:=az hR;refine aJ Cd ?_;cbv;refine aM.i hR ?_ ?_<;>intro c8 hR<;>cbv
  ·obtain⟨p9,tw,hR⟩:=az hR;refine(fJ hP _ _ _ tw k3 mP k5 l7).own [3,4,5] [] (by rfl) (by rfl) al al (λx_ o_ bI=> ?_);obtain⟨rfl,rfl⟩:=bI;refine⟨.box (.arr (an _ _) (.arr (an _ _) .nil)), ?_⟩;cbv;obtain⟨pJ,qW,hR⟩:=az hR;refine(dK hP _ _ _ _ qW k3 mP k5 l7).own [3,4,5] [] (by rfl) (by rfl) al al (λx_ o_ bI=> ?_);obtain⟨rfl,rfl⟩:=bI;refine⟨.box (.arr (an _ _) (.arr (an _ _) .nil)), ?_⟩;cbv;obtain⟨gO,qX,hR⟩:=az hR;refine(gQ hP _ _ _ qX k3 mP k5 l7).own [3,4,5] [] (by rfl) (by rfl) al al (λx_ o_ bI=> ?_);obtain⟨BF,pX,O3,ot,rfl,rfl⟩:=bI;refine⟨.box (.dead (.dead (.arr (an _ _) (.arr (an _ _) .nil)))), ?_⟩;cbv;refine yH hP ?_;cbv;exact go
  obtain⟨kD,B9,hR⟩:=az hR;refine(fJ hP _ _ _ B9 k3 mP k5 l7).own [3,4,5] [] (by rfl) (by rfl) al al (λx_ o_ bI=> ?_);obtain⟨rfl,rfl⟩:=bI;refine⟨.box (.arr (an _ _) (.arr (an _ _) .nil)), ?_⟩;cbv;obtain⟨Ch,Mg,hR⟩:=az hR;refine(dK hP _ _ _ _ Mg k3 mP k5 l7).own [3,4,5] [] (by rfl) (by rfl) al al (λx_ o_ bI=> ?_);obtain⟨rfl,rfl⟩:=bI;refine⟨.box (.arr (an _ _) (.arr (an _ _) .nil)), ?_⟩;cbv;obtain⟨xl,yG,hR⟩:=az hR;refine(gQ hP _ _ _ yG k3 mP k5 l7).own [3,4,5] [] (by rfl) (by rfl) al al (λx_ o_ bI=> ?_);obtain⟨k18,k19,Zf,Zg,rfl,rfl⟩:=bI;refine⟨.box (.dead (.dead (.arr (an _ _) (.arr (an _ _) .nil)))), ?_⟩;cbv;refine yH hP ?_;cbv;exact go
 obtain⟨mO,uC,hR⟩:=az hR;refine(fJ hP _ _ _ uC k3 mP k5 l7).own [3,4,5] [] (by rfl) (by rfl) al al (λx_ o_ bI=> ?_);obtain⟨rfl,rfl⟩:=bI;refine⟨.box (.arr (an _ _) (.arr (an _ _) .nil)), ?_⟩;cbv;obtain⟨v9,B_,hR⟩:=az hR;refine(dK hP _ _ _ _ B_ k3 mP k5 l7).own [3,4,5] [] (by rfl) (by rfl) al al (λx_ o_ bI=> ?_);obtain⟨rfl,rfl⟩:=bI;refine⟨.box (.arr (an _ _) (.arr (an _ _) .nil)), ?_⟩;cbv;obtain⟨BE,GA,hR⟩:=az hR;refine(gQ hP _ _ _ GA k3 mP k5 l7).own [3,4,5] [] (by rfl) (by rfl) al al (λx_ o_ bI=> ?_);obtain⟨TI,k25,Mh,Zh,rfl,rfl⟩:=bI;refine⟨.box (.dead (.dead (.arr (an _ _) (.arr (an _ _) .nil)))), ?_⟩;cbv;refine yH hP ?_;cbv;exact go⟩
def GB (b:aF)(order:Int):Option (aF×Int×Int):=
 (Ey b order 1).bind λp1=>
 some (p1.1,p1.2.1,p1.2.2)
instance [Pg P](b:aF)(order:Int)(r:aF×Int×Int):bx P 183 (GB b order=some r) [b.av,I6 order] (.cI [r.1.av,I6 r.2.1,I6 r.2.2]):=⟨λhR=>by
 have hP:=Pg.h (P:=P);unfold GB at hR;refine TJ hP ?_;cbv;exact go⟩
def GC (b:aF)(order:Int):Option (aF×Int×Int):=
 (Ey b order 3).bind λp1=>
 some (p1.1,p1.2.1,p1.2.2)
instance [Pg P](b:aF)(order:Int)(r:aF×Int×Int):bx P 184 (GC b order=some r) [b.av,I6 order] (.cI [r.1.av,I6 r.2.1,I6 r.2.2]):=⟨λhR=>by
 have hP:=Pg.h (P:=P);unfold GC at hR;refine TK hP ?_;cbv;exact go⟩
def GD (b:aF)(order:Int)(n:Int):Option (aF×Int):=
 (Jc b).bind λp1=>
 if(decide (b.aK.length<=1000000000000))=true then
  if(decide (b.ak.length<=1000000000000))=true then
   if(ai .eql p1 0)=true then
    (wu order).bind λp7=>
    if(!p7)=true then
     (oW (⟨b,2⟩:cV) order).bind λp9=>
     (uz n).bind λpJ=>
     (kQ (⟨b,p9.2.why⟩:cV) (!pJ) 2).bind λgO=>
     (kQ (⟨b,gO.why⟩:cV) (ai .lss (aH .sub .i64 p9.1.aT p9.1.aX) n) 13).bind λqb=>
     (oX (⟨b,qb.why⟩:cV) (⟨order,3,1,n⟩:au)).bind λz9=>
     if(ai .neq z9.why 0)=true then
      some ((⟨([]:List aQ),([]:List au)⟩:aF),z9.why)
     else some (z9.af,0)
    else(oW (⟨b,p1⟩:cV) order).bind λxl=>
    (uz n).bind λeI=>
    (kQ (⟨b,xl.2.why⟩:cV) (!eI) 2).bind λAa=>
    (kQ (⟨b,Aa.why⟩:cV) (ai .lss (aH .sub .i64 xl.1.aT xl.1.aX) n) 13).bind λKY=>
    (oX (⟨b,KY.why⟩:cV) (⟨order,3,1,n⟩:au)).bind λmO=>
    if(ai .neq mO.why 0)=true then
     some ((⟨([]:List aQ),([]:List au)⟩:aF),mO.why)
    else some (mO.af,0)
   else(oW (⟨b,p1⟩:cV) order).bind λMc=>
   (uz n).bind λmT=>
   (kQ (⟨b,Mc.2.why⟩:cV) (!mT) 2).bind λN_=>
   (kQ (⟨b,N_.why⟩:cV) (ai .lss (aH .sub .i64 Mc.1.aT Mc.1.aX) n) 13).bind λxm=>
   (oX (⟨b,xm.why⟩:cV) (⟨order,3,1,n⟩:au)).bind λJe=>
   if(ai .neq Je.why 0)=true then
    some ((⟨([]:List aQ),([]:List au)⟩:aF),Je.why)
   else some (Je.af,0)
  else none
 else none
instance [Pg P](b:aF)(order:Int)(n:Int)(r:aF×Int):bx P 185 (GD b order n=some r) [b.av,I6 order,I6 n] (.cI [r.1.av,I6 r.2]):=⟨λhR=>by
 have hP:=Pg.h (P:=P);unfold GD at hR;refine TL hP ?_;cbv;refine Jf hP ?_;cbv;obtain⟨p1,gM,hR⟩:=az hR;refine aJ gM ?_;cbv;refine aR.cS (ty hP) (mo hP) rfl ?_;cbv;(iterate 6 (refine aS.z ?_;cbv));obtain⟨m2,hR⟩:=bl hR;refine(gR hP b.aK (of_decide_eq_true m2)).frame rfl (λx_ o_ bI=> ?_);obtain⟨k3,mP,rfl,rfl⟩:=bI;refine⟨[0],_,_,rfl,.sl (q:=0) rfl rfl rfl rfl,.cons rfl .aL .nil, ?_⟩;cbv;refine bZ.mk (aZ.cons rfl (aZ.cons rfl aZ.nil)) ?_;cbv;obtain⟨m4,hR⟩:=bl hR;refine(eN hP b.ak (of_decide_eq_true m4)).frame rfl (λx_ o_ bI=> ?_);obtain⟨k5,l7,rfl,rfl⟩:=bI;refine⟨[0],_,_,rfl,.sl (q:=0) rfl rfl rfl rfl,.cons rfl .aL .nil, ?_⟩;cbv
 (iterate 6 (refine aS.z ?_;cbv));refine aM.i hR ?_ ?_<;>intro c6 hR<;>cbv
 ·obtain⟨p7,Cd,hR⟩:=az hR;refine aJ Cd ?_;cbv;refine aM.i hR ?_ ?_<;>intro c8 hR<;>cbv
  ·obtain⟨p9,tw,hR⟩:=az hR;refine(fJ hP _ _ _ tw k3 mP k5 l7).own [3,4,5] [] (by rfl) (by rfl) al al (λx_ o_ bI=> ?_);obtain⟨rfl,rfl⟩:=bI;refine⟨.box (.arr (an _ _) (.arr (an _ _) .nil)), ?_⟩;cbv;obtain⟨pJ,qW,hR⟩:=az hR;refine aJ qW ?_;cbv;obtain⟨gO,qX,hR⟩:=az hR;refine(dK hP _ _ _ _ qX k3 mP k5 l7).own [3,4,5] [] (by rfl) (by rfl) al al (λx_ o_ bI=> ?_);obtain⟨rfl,rfl⟩:=bI;refine⟨.box (.arr (an _ _) (.arr (an _ _) .nil)), ?_⟩;cbv;obtain⟨qb,Ce,hR⟩:=az hR;refine(dK hP _ _ _ _ Ce k3 mP k5 l7).own [3,4,5] [] (by rfl) (by rfl) al al (λx_ o_ bI=> ?_);obtain⟨rfl,rfl⟩:=bI;refine⟨.box (.arr (an _ _) (.arr (an _ _) .nil)), ?_⟩;cbv;obtain⟨z9,B8,hR⟩:=az hR;refine(gQ hP _ _ _ B8 k3 mP k5 l7).own [3,4,5] [] (by rfl) (by rfl) al al (λx_ o_ bI=> ?_);obtain⟨Zb,v8,TA,pZ,rfl,rfl⟩:=bI;refine⟨.box (.dead (.dead (.arr (an _ _) (.arr (an _ _) .nil)))), ?_⟩;cbv;refine yH hP ?_;cbv;exact go
  obtain⟨xl,yG,hR⟩:=az hR;refine(fJ hP _ _ _ yG k3 mP k5 l7).own [3,4,5] [] (by rfl) (by rfl) al al (λx_ o_ bI=> ?_);obtain⟨rfl,rfl⟩:=bI;refine⟨.box (.arr (an _ _) (.arr (an _ _) .nil)), ?_⟩;cbv;obtain⟨eI,qZ,hR⟩:=az hR;refine aJ qZ ?_;cbv;obtain⟨Aa,Gy,hR⟩:=az hR;refine(dK hP _ _ _ _ Gy k3 mP k5 l7).own [3,4,5] [] (by rfl) (by rfl) al al (λx_ o_ bI=> ?_);obtain⟨rfl,rfl⟩:=bI;refine⟨.box (.arr (an _ _) (.arr (an _ _) .nil)), ?_⟩;cbv;obtain⟨KY,Gz,hR⟩:=az hR;refine(dK hP _ _ _ _ Gz k3 mP k5 l7).own [3,4,5] [] (by rfl) (by rfl) al al (λx_ o_ bI=> ?_);obtain⟨rfl,rfl⟩:=bI;refine⟨.box (.arr (an _ _) (.arr (an _ _) .nil)), ?_⟩;cbv;obtain⟨mO,uC,hR⟩:=az hR;refine(gQ hP _ _ _ uC k3 mP k5 l7).own [3,4,5] [] (by rfl) (by rfl) al al (λx_ o_ bI=> ?_);obtain⟨RI,Zc,Jg,TB,rfl,rfl⟩:=bI;refine⟨.box (.dead (.dead (.arr (an _ _) (.arr (an _ _) .nil)))), ?_⟩;cbv;refine yH hP ?_;cbv;exact go
 obtain⟨Mc,Md,hR⟩:=az hR;refine(fJ hP _ _ _ Md k3 mP k5 l7).own [3,4,5] [] (by rfl) (by rfl) al al (λx_ o_ bI=> ?_);obtain⟨rfl,rfl⟩:=bI;refine⟨.box (.arr (an _ _) (.arr (an _ _) .nil)), ?_⟩;cbv;obtain⟨mT,Cb,hR⟩:=az hR;refine aJ Cb ?_;cbv;obtain⟨N_,Me,hR⟩:=az hR;refine(dK hP _ _ _ _ Me k3 mP k5 l7).own [3,4,5] [] (by rfl) (by rfl) al al (λx_ o_ bI=> ?_);obtain⟨rfl,rfl⟩:=bI;refine⟨.box (.arr (an _ _) (.arr (an _ _) .nil)), ?_⟩;cbv;obtain⟨xm,Cf,hR⟩:=az hR;refine(dK hP _ _ _ _ Cf k3 mP k5 l7).own [3,4,5] [] (by rfl) (by rfl) al al (λx_ o_ bI=> ?_);obtain⟨rfl,rfl⟩:=bI;refine⟨.box (.arr (an _ _) (.arr (an _ _) .nil)), ?_⟩;cbv;obtain⟨Je,Mf,hR⟩:=az hR;refine(gQ hP _ _ _ Mf k3 mP k5 l7).own [3,4,5] [] (by rfl) (by rfl) al al (λx_ o_ bI=> ?_);obtain⟨Zd,Ze,TC,TF,rfl,rfl⟩:=bI;refine⟨.box (.dead (.dead (.arr (an _ _) (.arr (an _ _) .nil)))), ?_⟩;cbv;refine yH hP ?_;cbv;exact go⟩
end Go.Proofs.aaa
end
