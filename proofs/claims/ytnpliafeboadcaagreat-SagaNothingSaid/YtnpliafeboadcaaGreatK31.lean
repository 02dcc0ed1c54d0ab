/- Texts that the law leans on, part 31. No conditions. -/
import Derived.Test.YtnpliafeboadcaaGreatK28
import Derived.Test.YtnpliafeboadcaaGreatK29
section
namespace Go.Proofs.aaa
open Go.bA Go.IntWalk
variable{P:Program}
set_option maxHeartbeats 4000000
set_option maxRecDepth 20000
def Sn (limit:Int)(bp:List Act)(order:Int)(item:Int)(aE:Int):Option (Bool):=
 (EN).bind λp1=>
 if(!p1)=true then
  some false
 else(Oo limit bp).bind λp3=>
 if(!p3.2)=true then
  some true
 else(oF p3.1 (⟨ByteArray.empty,5,order,([]:List aU)⟩:Ask)).bind λp5=>
 (oF p3.1 (⟨ByteArray.empty,6,0,([(⟨item,aE,0,0⟩:aU)]:List aU)⟩:Ask)).bind λp6=>
 if(ai .neq p5.2.2 0)=true then
  some false
 else if(ai .neq p6.2.2 0)=true then
  some false
 else(sN p5.1 p3.1).bind λp9=>
 if(!p9)=true then
  some false
 else(sN p6.1 p3.1).bind λgO=>
 if(!gO)=true then
  some false
 else(Qv p3.1 order).bind λz9=>
 if z9.2=true then
  if(!((p5.2.1.why==0)&&((p5.2.1.status==z9.1.status)&&((p5.2.1.ax==z9.1.aP)&&true))))=true then
   some false
  else if(ai .neq p6.2.1.why 0)=true then
   some true
  else(FP p3.1.cells item aE).bind λxl=>
  if(ai .eql p6.2.1.ax xl.free)=true then
   some (ai .eql p6.2.1.status 0)
  else some false
 else if(!((p5.2.1.why==11)&&((p5.2.1.status==0)&&((p5.2.1.ax==0)&&true))))=true then
  some false
 else if(ai .neq p6.2.1.why 0)=true then
  some true
 else(FP p3.1.cells item aE).bind λmO=>
 if(ai .eql p6.2.1.ax mO.free)=true then
  some (ai .eql p6.2.1.status 0)
 else some false
instance [Pg P](limit:Int)(bp:List Act)(order:Int)(item:Int)(aE:Int)(r:Bool):bx P 12 (Sn limit bp order item aE=some r) [I6 limit,aq Act.ts 7 bp,I6 order,I6 item,I6 aE] (B1 r):=⟨λhR=>by
 have hP:=Pg.h (P:=P);unfold Sn at hR;refine e12 hP ?_;cbv;obtain⟨p1,gM,hR⟩:=az hR;refine aJ gM ?_;cbv;refine aM.i hR ?_ ?_<;>intro c2 hR<;>cbv
 ·cases hR;exact al
 obtain⟨p3,oV,hR⟩:=az hR;refine aJ oV ?_;cbv;refine aM.i hR ?_ ?_<;>intro c4 hR<;>cbv
 ·cases hR;exact al
 obtain⟨p5,Ma,hR⟩:=az hR;refine aJ Ma ?_;cbv;obtain⟨p6,GL,hR⟩:=az hR;refine(@rt P 14 _ _ _ _ GL).freeze [3] (.cons (.pure rfl) (.cons (.eJ (.cons (.str rfl) (.cons (.int rfl) (.cons (.int rfl) (.cons (.B5 [[.int .i64 (.th λ_=>item),.int .i64 (.th λ_=>aE),.int .i64 (.lit 0),.int .i64 (.lit 0)]] _ rfl rfl rfl (Nat.le_refl _) (.jP rfl (.cons (.cons (.int rfl) (.cons (.int rfl) (.cons (.int rfl) (.cons (.int rfl) .nil)))) .nil))) .nil))))) .nil)) rfl ?_;cbv;refine aM.i hR ?_ ?_<;>intro c7 hR<;>cbv
 ·cases hR;exact al
 refine aM.i hR ?_ ?_<;>intro c8 hR<;>cbv
 ·cases hR;exact al
 obtain⟨p9,tw,hR⟩:=az hR;refine aJ tw ?_;cbv;refine aM.i hR ?_ ?_<;>intro De hR<;>cbv
 ·cases hR;exact al
 obtain⟨gO,qX,hR⟩:=az hR;refine aJ qX ?_;cbv;refine aM.i hR ?_ ?_<;>intro OU hR<;>cbv
 ·cases hR;exact al
 obtain⟨z9,B8,hR⟩:=az hR;refine aJ B8 ?_;cbv;refine aM.i hR ?_ ?_<;>intro Ry hR<;>cbv
 ·refine aM.i hR ?_ ?_<;>intro S6 hR<;>cbv
  ·cases hR;exact al
  refine aM.f (JI Ry) ?_;cbv;refine aR.of (ty hP) (mo hP) rfl ?_ (br.box (br.box (br.box (br.dead (br.box (br.box (br.box br.nil)))))));cbv;(iterate 4 (refine aS.z ?_;cbv));refine aM.i hR ?_ ?_<;>intro Rt hR<;>cbv
  ·exact go
  (iterate 6 (refine aS.z ?_;cbv));obtain⟨xl,yG,hR⟩:=az hR;apply aS.is
  ·intro J hJ;cbv;refine aJ yG ?_;cbv;exact hJ
  exact go
 refine aM.t (JJ Ry) ?_;cbv;refine aM.i hR ?_ ?_<;>intro L7 hR<;>cbv
 ·cases hR;exact al
 refine aR.of (ty hP) (mo hP) rfl ?_ (br.box (br.box (br.box (br.dead (br.box (br.box (br.box br.nil)))))));cbv;(iterate 4 (refine aS.z ?_;cbv));refine aM.i hR ?_ ?_<;>intro S7 hR<;>cbv
 ·exact go
 (iterate 6 (refine aS.z ?_;cbv));obtain⟨mO,uC,hR⟩:=az hR;apply aS.is
 ·intro J hJ;cbv;refine aJ uC ?_;cbv;exact hJ
 exact go⟩
end Go.Proofs.aaa
end
