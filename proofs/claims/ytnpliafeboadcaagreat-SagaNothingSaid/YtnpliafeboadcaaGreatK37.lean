/- Texts that the law leans on, part 37. No conditions. -/
import Derived.Test.YtnpliafeboadcaaGreatK28
import Derived.Test.YtnpliafeboadcaaGreatK29
section
namespace Go.Proofs.aaa
open Go.bA Go.IntWalk
variable{P:Program}
set_option maxHeartbeats 4000000
set_option maxRecDepth 20000
def g9 (limit:Int)(bp:List Act)(order:Int)(lines:List aU)(aac:List Int)(cancel:Int):Option (Bool):=
 (EN).bind λp1=>
 if(!p1)=true then
  some false
 else(Oo limit bp).bind λp3=>
 if(!p3.2)=true then
  some true
 else(oF p3.1 (⟨ByteArray.empty,1,order,lines⟩:Ask)).bind λp5=>
 if(ai .neq p5.2.2 0)=true then
  some false
 else if(ai .neq p5.2.1.why 0)=true then
  (sN p5.1 p3.1).bind λp8=>
  some p8
 else(iB (λ(s9:Int×Int×(List Cell)×(List aQ)×(List au)×(List ah)×(List Order)×(List aC)×(List Kept))=>
  if(ai .lss s9.1 cancel)=true then
   if(ai .lss s9.1 4)=true then
    if(ai .lss s9.1 ((aac.map (v7 .u8)).length:Int))=true then
     (fH aac s9.1).bind λx20=>
     if(ai .eql x20 1)=true then
      (uR (⟨s9.2.1,s9.2.2.1,(⟨s9.2.2.2.1,s9.2.2.2.2.1⟩:aF),s9.2.2.2.2.2.1,s9.2.2.2.2.2.2.1,s9.2.2.2.2.2.2.2.1,s9.2.2.2.2.2.2.2.2⟩:State) (aH .sub .i64 ((s9.2.2.2.2.2.2.2.1.map aC.ts).length:Int) 1) 1).bind λv9=>
      if(ai .neq v9.2.2 0)=true then
       some (.inr v9.1)
      else if(ai .lss ((v9.1.aj.map aC.ts).length:Int) ((s9.2.2.2.2.2.2.2.1.map aC.ts).length:Int))=true then
       some (.inr v9.1)
      else some (.inl ((aH .add .i64 s9.1 1),v9.1.limit,v9.1.cells,v9.1.af.aK,v9.1.af.ak,v9.1.aA,v9.1.aa,v9.1.aj,v9.1.kept))
     else(uR (⟨s9.2.1,s9.2.2.1,(⟨s9.2.2.2.1,s9.2.2.2.2.1⟩:aF),s9.2.2.2.2.2.1,s9.2.2.2.2.2.2.1,s9.2.2.2.2.2.2.2.1,s9.2.2.2.2.2.2.2.2⟩:State) (aH .sub .i64 ((s9.2.2.2.2.2.2.2.1.map aC.ts).length:Int) 1) 0).bind λMc=>
     if(ai .neq Mc.2.2 0)=true then
      some (.inr Mc.1)
     else if(ai .lss ((Mc.1.aj.map aC.ts).length:Int) ((s9.2.2.2.2.2.2.2.1.map aC.ts).length:Int))=true then
      some (.inr Mc.1)
     else some (.inl ((aH .add .i64 s9.1 1),Mc.1.limit,Mc.1.cells,Mc.1.af.aK,Mc.1.af.ak,Mc.1.aA,Mc.1.aa,Mc.1.aj,Mc.1.kept))
    else(uR (⟨s9.2.1,s9.2.2.1,(⟨s9.2.2.2.1,s9.2.2.2.2.1⟩:aF),s9.2.2.2.2.2.1,s9.2.2.2.2.2.2.1,s9.2.2.2.2.2.2.2.1,s9.2.2.2.2.2.2.2.2⟩:State) (aH .sub .i64 ((s9.2.2.2.2.2.2.2.1.map aC.ts).length:Int) 1) 0).bind λxm=>
    if(ai .neq xm.2.2 0)=true then
     some (.inr xm.1)
    else if(ai .lss ((xm.1.aj.map aC.ts).length:Int) ((s9.2.2.2.2.2.2.2.1.map aC.ts).length:Int))=true then
     some (.inr xm.1)
    else some (.inl ((aH .add .i64 s9.1 1),xm.1.limit,xm.1.cells,xm.1.af.aK,xm.1.af.ak,xm.1.aA,xm.1.aa,xm.1.aj,xm.1.kept))
   else some (.inr (⟨s9.2.1,s9.2.2.1,(⟨s9.2.2.2.1,s9.2.2.2.2.1⟩:aF),s9.2.2.2.2.2.1,s9.2.2.2.2.2.2.1,s9.2.2.2.2.2.2.2.1,s9.2.2.2.2.2.2.2.2⟩:State))
  else some (.inr (⟨s9.2.1,s9.2.2.1,(⟨s9.2.2.2.1,s9.2.2.2.2.1⟩:aF),s9.2.2.2.2.2.1,s9.2.2.2.2.2.2.1,s9.2.2.2.2.2.2.2.1,s9.2.2.2.2.2.2.2.2⟩:State))) 1000000 (0,p5.1.limit,p5.1.cells,p5.1.af.aK,p5.1.af.ak,p5.1.aA,p5.1.aa,p5.1.aj,p5.1.kept):Option (State)).bind λr32=>
 (oF r32 (⟨ByteArray.empty,2,order,([]:List aU)⟩:Ask)).bind λq_=>
 if(ai .eql q_.2.2 0)=true then
  if(ai .eql q_.2.1.why 0)=true then
   (v5 q_.1 order aac).bind λU3=>
   (Qv U3 order).bind λtT=>
   if(!tT.2)=true then
    some false
   else if(ai .neq tT.1.status 5)=true then
    if(ai .neq tT.1.status 2)=true then
     some false
    else(Mr U3.cells p3.1.cells).bind λp42=>
    if p42=true then
     (Mo U3).bind λkR=>
     some kR
    else some false
   else(Mr U3.cells p3.1.cells).bind λVZ=>
   if VZ=true then
    (Mo U3).bind λOj=>
    some Oj
   else some false
  else(v5 r32 order aac).bind λLi=>
  (Qv Li order).bind λp49=>
  if(!p49.2)=true then
   some false
  else if(ai .neq p49.1.status 5)=true then
   if(ai .neq p49.1.status 2)=true then
    some false
   else(Mr Li.cells p3.1.cells).bind λJt=>
   if Jt=true then
    (Mo Li).bind λgK=>
    some gK
   else some false
  else(Mr Li.cells p3.1.cells).bind λXf=>
  if Xf=true then
   (Mo Li).bind λQc=>
   some Qc
  else some false
 else(v5 r32 order aac).bind λLl=>
 (Qv Ll order).bind λp60=>
 if(!p60.2)=true then
  some false
 else if(ai .neq p60.1.status 5)=true then
  if(ai .neq p60.1.status 2)=true then
   some false
  else(Mr Ll.cells p3.1.cells).bind λDr=>
  if Dr=true then
   (Mo Ll).bind λp66=>
   some p66
  else some false
 else(Mr Ll.cells p3.1.cells).bind λJu=>
 if Ju=true then
  (Mo Ll).bind λXD=>
  some XD
 else some false
instance [Pg P](limit:Int)(bp:List Act)(order:Int)(lines:List aU)(aac:List Int)(cancel:Int)(r:Bool):bx P 9 (g9 limit bp order lines aac cancel=some r) [I6 limit,aq Act.ts 7 bp,I6 order,aq aU.ts 4 lines,aq (v7 .u8) 1 aac,I6 cancel] (B1 r):=⟨λhR=>by
 have hP:=Pg.h (P:=P);unfold g9 at hR;refine e9 hP ?_;cbv;obtain⟨p1,gM,hR⟩:=az hR;refine aJ gM ?_;cbv;refine aM.i hR ?_ ?_<;>intro c2 hR<;>cbv
 ·cases hR;exact al
 obtain⟨p3,oV,hR⟩:=az hR;refine aJ oV ?_;cbv;refine aM.i hR ?_ ?_<;>intro c4 hR<;>cbv
 ·cases hR;exact al
 obtain⟨p5,Ma,hR⟩:=az hR;refine aJ Ma ?_;cbv;refine aM.i hR ?_ ?_<;>intro c6 hR<;>cbv
 ·cases hR;exact al
 refine aM.i hR ?_ ?_<;>intro c7 hR<;>cbv
 ·exact go
 refine lq (ty hP) (γ:=(λs9=>Unit)) (γ':=(λ_=>Unit)) 146 (λs9 zp=>[(2,I6 order),(4,aq (v7 .u8) 1 aac),(5,I6 cancel),(13,.ref 0 0),(15,.ref 1 0),(18,I6 s9.1)]) (λs9 zp=>[.box [I6 p3.1.limit,aq Cell.ts 6 p3.1.cells,aq aQ.ts 4 p3.1.af.aK,aq au.ts 4 p3.1.af.ak,aq ah.ts 2 p3.1.aA,aq Order.ts 4 p3.1.aa,aq aC.ts 4 p3.1.aj,aq Kept.ts 4 p3.1.kept],.box [I6 s9.2.1,aq Cell.ts 6 s9.2.2.1,aq aQ.ts 4 s9.2.2.2.1,aq au.ts 4 s9.2.2.2.2.1,aq ah.ts 2 s9.2.2.2.2.2.1,aq Order.ts 4 s9.2.2.2.2.2.2.1,aq aC.ts 4 s9.2.2.2.2.2.2.2.1,aq Kept.ts 4 s9.2.2.2.2.2.2.2.2]]) (λr_ g_=>(AE.exit 0,sp 146 [(2,I6 order),(4,aq (v7 .u8) 1 aac),(13,.ref 0 0),(15,.ref 1 0)],[.box [I6 p3.1.limit,aq Cell.ts 6 p3.1.cells,aq aQ.ts 4 p3.1.af.aK,aq au.ts 4 p3.1.af.ak,aq ah.ts 2 p3.1.aA,aq Order.ts 4 p3.1.aa,aq aC.ts 4 p3.1.aj,aq Kept.ts 4 p3.1.kept],.box [I6 r_.limit,aq Cell.ts 6 r_.cells,aq aQ.ts 4 r_.af.aK,aq au.ts 4 r_.af.ak,aq ah.ts 2 r_.aA,aq Order.ts 4 r_.aa,aq aC.ts 4 r_.aj,aq Kept.ts 4 r_.kept]])) () hR (Gi [0,1]) ?_ go;intro s9 zp y14 hR J B hJ hB;cbv;refine aM.i hR ?_ ?_<;>intro YB hR<;>cbv
 ·refine aM.i hR ?_ ?_<;>intro YC hR<;>cbv
  ·refine aM.i hR ?_ ?_<;>intro L7 hR<;>cbv
   ·obtain⟨x20,aa3,hR⟩:=az hR;refine bF.mk _ (iC aa3) (aY (v7 .u8) _ _ _ (bn aa3)) ?_;cbv;exact go
   exact go
  exact go
 exact go⟩
end Go.Proofs.aaa
end
