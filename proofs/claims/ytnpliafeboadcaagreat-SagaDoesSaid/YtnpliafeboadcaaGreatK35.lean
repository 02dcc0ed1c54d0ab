/- Texts that the law leans on, part 35. No conditions. -/
import Derived.Test.YtnpliafeboadcaaGreatK34
section
namespace Go.Proofs.aaa
open Go.bA Go.IntWalk
variable{P:Program}
set_option maxHeartbeats 4000000
set_option maxRecDepth 20000
def g3 (s:State)(a:Ask)(pick:Int)(v:Int):Option (Bool):=
 (M0 s).bind λp1=>
 (oF p1 a).bind λp2=>
 (g15 s a).bind λp3=>
 (sN p2.1 p3.1).bind λp4=>
 if(!p4)=true then
  some false
 else if(!((p2.2.1.why==p3.2.1.why)&&((p2.2.1.status==p3.2.1.status)&&((p2.2.1.ax==p3.2.1.ax)&&true))))=true then
  some false
 else if(ai .neq p2.2.2 p3.2.2)=true then
  some false
 else(uR p1 pick v).bind λp8=>
 (g18 s pick v).bind λp9=>
 (yJ p1).bind λpJ=>
 (VE s).bind λgO=>
 (EN).bind λqb=>
 if qb=true then
  (sN p8.1 p9.1).bind λiq=>
  if iq=true then
   if((p8.2.1.order==p9.2.1.order)&&((p8.2.1.kind==p9.2.1.kind)&&((p8.2.1.step==p9.2.1.step)&&((p8.2.1.why==p9.2.1.why)&&((p8.2.1.over==p9.2.1.over)&&true)))))=true then
    if(ai .eql p8.2.2 p9.2.2)=true then
     if(ai .eql pJ.1 gO.1)=true then
      if(ai .eql pJ.2 gO.2)=true then
       (K2 p1).bind λKY=>
       (Zp s).bind λmO=>
       if(ai .eql KY mO)=true then
        (sN p1 s).bind λBE=>
        some BE
       else some false
      else some false
     else some false
    else some false
   else some false
  else some false
 else some false
instance [Pg P](s:State)(a:Ask)(pick:Int)(v:Int)(r:Bool):bx P 3 (g3 s a pick v=some r) [s.av,a.av,I6 pick,I8 v] (B1 r):=⟨λhR=>by
 have hP:=Pg.h (P:=P);unfold g3 at hR;refine e3 hP ?_;cbv;obtain⟨p1,gM,hR⟩:=az hR;refine aJ gM ?_;cbv;obtain⟨p2,BC,hR⟩:=az hR;refine aJ BC ?_;cbv;obtain⟨p3,oV,hR⟩:=az hR;refine aJ oV ?_;cbv;obtain⟨p4,Ew,hR⟩:=az hR;refine aJ Ew ?_;cbv;refine aM.i hR ?_ ?_<;>intro c5 hR<;>cbv
 ·cases hR;exact al
 refine aM.i hR ?_ ?_<;>intro c6 hR<;>cbv
 ·cases hR;exact al
 refine aM.i hR ?_ ?_<;>intro c7 hR<;>cbv
 ·cases hR;exact al
 obtain⟨p8,U_,hR⟩:=az hR;refine aJ U_ ?_;cbv;obtain⟨p9,tw,hR⟩:=az hR;refine aJ tw ?_;cbv;obtain⟨pJ,qW,hR⟩:=az hR;refine aJ qW ?_;cbv;obtain⟨gO,qX,hR⟩:=az hR;refine aJ qX ?_;cbv;refine aR.of (ty hP) (mo hP) rfl ?_ (br.box (br.box (br.box (br.box (br.box (br.box (br.box (br.box (br.box br.nil)))))))));cbv;obtain⟨qb,Ce,hR⟩:=az hR;apply aS.is
 ·intro J hJ;cbv;refine aJ Ce ?_;cbv;exact hJ
 cbv;refine aS.z ?_;cbv;refine aM.i hR ?_ ?_<;>intro YA hR<;>cbv
 ·(iterate 2 (refine aS.z ?_;cbv));obtain⟨iq,L6,hR⟩:=az hR;apply aS.is
  ·intro J hJ;cbv;refine aJ L6 ?_;cbv;exact hJ
  cbv
  (iterate 2 (refine aS.z ?_;cbv));refine aM.i hR ?_ ?_<;>intro S6 hR<;>cbv
  ·(iterate 5 (refine aS.z ?_;cbv));refine aM.i hR ?_ ?_<;>intro Rt hR<;>cbv
   ·(iterate 5 (refine aS.z ?_;cbv));refine aM.i hR ?_ ?_<;>intro YB hR<;>cbv
    ·(iterate 5 (refine aS.z ?_;cbv));refine aM.i hR ?_ ?_<;>intro YC hR<;>cbv
     ·(iterate 5 (refine aS.z ?_;cbv));refine aM.i hR ?_ ?_<;>intro L7 hR<;>cbv
      ·refine aS.z ?_;cbv;obtain⟨KY,Gz,hR⟩:=az hR;apply aS.is
       ·intro J hJ;cbv;refine aJ Gz ?_;cbv;exact hJ
       cbv;refine aS.z ?_;cbv;obtain⟨mO,uC,hR⟩:=az hR;apply aS.is
       ·intro J hJ;cbv;refine aJ uC ?_;cbv;exact hJ
       cbv
       (iterate 3 (refine aS.z ?_;cbv));refine aM.i hR ?_ ?_<;>intro WT hR<;>cbv
       ·(iterate 2 (refine aS.z ?_;cbv));obtain⟨BE,GA,hR⟩:=az hR;apply aS.is
        ·intro J hJ;cbv;refine aJ GA ?_;cbv;exact hJ
        exact go
       exact go
      exact go
     exact go
    exact go
   exact go
  exact go
 exact go⟩
end Go.Proofs.aaa
end
