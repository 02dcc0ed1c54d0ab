/- Texts that the law leans on, part 30. No conditions. -/
import Derived.Test.YtnpliafeboadcaaGreatK28
import Derived.Test.YtnpliafeboadcaaGreatK29
section
namespace Go.Proofs.aaa
open Go.bA Go.IntWalk
variable{P:Program}
set_option maxHeartbeats 4000000
set_option maxRecDepth 20000
def Sm (limit:Int)(bp:List Act)(pick:Int)(v:Int):Option (Bool):=
 (EN).bind λp1=>
 if(!p1)=true then
  some false
 else(Oo limit bp).bind λp3=>
 if(!p3.2)=true then
  some true
 else if(ai .eql ((p3.1.aj.map aC.ts).length:Int) 0)=true then
  some true
 else(uR p3.1 pick v).bind λp6=>
 if(((p3.1.aj.map aC.ts).length:Int) !=0)=true then
  (uR p3.1 (aH .rem .i64 (aH .add .i64 (aH .rem .i64 pick ((p3.1.aj.map aC.ts).length:Int)) ((p3.1.aj.map aC.ts).length:Int)) ((p3.1.aj.map aC.ts).length:Int)) v).bind λp8=>
  (sN p6.1 p8.1).bind λp9=>
  if(!p9)=true then
   some false
  else if(!((p6.2.1.order==p8.2.1.order)&&((p6.2.1.kind==p8.2.1.kind)&&((p6.2.1.step==p8.2.1.step)&&((p6.2.1.why==p8.2.1.why)&&((p6.2.1.over==p8.2.1.over)&&true))))))=true then
   some false
  else if(ai .neq p6.2.2 p8.2.2)=true then
   some false
  else if(ai .neq p6.2.2 0)=true then
   some true
  else if(ai .eql p6.2.1.why 0)=true then
   some true
  else if(ai .eql p6.2.1.step 7)=true then
   (sN p6.1 p3.1).bind λCh=>
   if Ch=true then
    some (!p6.2.1.over)
   else some false
  else if(ai .eql p6.2.1.step 8)=true then
   (sN p6.1 p3.1).bind λAa=>
   if Aa=true then
    some (!p6.2.1.over)
   else some false
  else if(ai .eql p6.2.1.step 9)=true then
   (sN p6.1 p3.1).bind λv9=>
   if v9=true then
    some (!p6.2.1.over)
   else some false
  else some true
 else none
instance [Pg P](limit:Int)(bp:List Act)(pick:Int)(v:Int)(r:Bool):bx P 11 (Sm limit bp pick v=some r) [I6 limit,aq Act.ts 7 bp,I6 pick,I8 v] (B1 r):=⟨λhR=>by
 have hP:=Pg.h (P:=P);unfold Sm at hR;refine e11 hP ?_;cbv;obtain⟨p1,gM,hR⟩:=az hR;refine aJ gM ?_;cbv;refine aM.i hR ?_ ?_<;>intro c2 hR<;>cbv
 ·cases hR;exact al
 obtain⟨p3,oV,hR⟩:=az hR;refine aJ oV ?_;cbv;refine aM.i hR ?_ ?_<;>intro c4 hR<;>cbv
 ·cases hR;exact al
 refine aM.i hR ?_ ?_<;>intro c5 hR<;>cbv
 ·cases hR;exact al
 obtain⟨p6,GL,hR⟩:=az hR;refine aJ GL ?_;cbv;refine aR.cS (ty hP) (mo hP) rfl ?_;cbv;(iterate 3 (refine aS.z ?_;cbv));obtain⟨m7,hR⟩:=bl hR;apply aS.is
 ·intro J hJ;cbv;refine bg.mk m7 ?_;cbv;exact hJ
 cbv
 (iterate 3 (refine aS.z ?_;cbv));apply aS.is
 ·intro J hJ;cbv;refine bg.mk m7 ?_;cbv;exact hJ
 exact go⟩
end Go.Proofs.aaa
end
