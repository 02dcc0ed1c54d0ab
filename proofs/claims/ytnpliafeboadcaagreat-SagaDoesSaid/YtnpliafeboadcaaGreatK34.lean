/- Texts that the law leans on, part 34. No conditions. -/
import Derived.Test.YtnpliafeboadcaaGreatK33
section
namespace Go.Proofs.aaa
open Go.bA Go.IntWalk
variable{P:Program}
set_option maxHeartbeats 4000000
set_option maxRecDepth 20000
def EN:Option (Bool):=
 (EC 9).bind λp1=>
 (oF p1.1 (⟨ByteArray.empty,4,0,([(⟨1,1,5,0⟩:aU)]:List aU)⟩:Ask)).bind λp2=>
 (oF p2.1 (⟨ByteArray.empty,1,1,([(⟨1,1,2,300⟩:aU)]:List aU)⟩:Ask)).bind λp3=>
 if(ai .neq p1.2 0)=true then
  some false
 else if(ai .neq p2.2.2 0)=true then
  some false
 else if(ai .neq p3.2.2 0)=true then
  some false
 else if(!((p3.2.1.why==0)&&((p3.2.1.status==1)&&((p3.2.1.ax==600)&&true))))=true then
  some false
 else(yJ p3.1).bind λp8=>
 (uR p3.1 0 0).bind λp9=>
 if(ai .neq p9.2.2 0)=true then
  some false
 else if(ai .neq p9.2.1.why 0)=true then
  some false
 else(uR p9.1 0 0).bind λqb=>
 if(ai .neq qb.2.2 0)=true then
  some false
 else if(ai .neq qb.2.1.why 0)=true then
  some false
 else(uR qb.1 0 0).bind λkD=>
 if(ai .neq kD.2.2 0)=true then
  some false
 else if(ai .neq kD.2.1.why 0)=true then
  some false
 else(uR kD.1 0 0).bind λeI=>
 if(ai .neq eI.2.2 0)=true then
  some false
 else if(ai .neq eI.2.1.why 0)=true then
  some false
 else(uR eI.1 0 0).bind λmO=>
 if(ai .neq mO.2.2 0)=true then
  some false
 else if(ai .neq mO.2.1.why 0)=true then
  some false
 else if(ai .eql p8.1 5)=true then
  if(ai .eql ((mO.1.aj.map aC.ts).length:Int) 0)=true then
   if(ai .eql ((mO.1.aa.map Order.ts).length:Int) 1)=true then
    (fH mO.1.aa 0).bind λMV=>
    if(ai .eql MV.status 3)=true then
     if(ai .eql ((mO.1.cells.map Cell.ts).length:Int) 1)=true then
      (fH mO.1.cells 0).bind λOn=>
      some ((On.item==1)&&((On.aE==1)&&((On.free==3)&&((On.held==0)&&((On.out==2)&&((On.all==5)&&true))))))
     else some false
    else some false
   else some false
  else some false
 else some false
instance [Pg P](r:Bool):bx P 21 (EN=some r) [] (B1 r):=⟨λhR=>by
 have hP:=Pg.h (P:=P);unfold EN at hR;refine e21 hP ?_;cbv;obtain⟨p1,gM,hR⟩:=az hR;refine aJ gM ?_;cbv;obtain⟨p2,BC,hR⟩:=az hR;refine(@rt P 14 _ _ _ _ BC).freeze [1] (.cons (.pure rfl) (.cons (.eJ (.cons (.str rfl) (.cons (.int rfl) (.cons (.int rfl) (.cons (.B5 [[.int .i64 (.lit 1),.int .i64 (.lit 1),.int .i64 (.lit 5),.int .i64 (.lit 0)]] _ rfl rfl rfl (Nat.le_refl _) (.jP rfl (.cons (.cons (.int rfl) (.cons (.int rfl) (.cons (.int rfl) (.cons (.int rfl) .nil)))) .nil))) .nil))))) .nil)) rfl ?_;cbv;obtain⟨p3,oV,hR⟩:=az hR;refine(@rt P 14 _ _ _ _ oV).freeze [3] (.cons (.pure rfl) (.cons (.eJ (.cons (.str rfl) (.cons (.int rfl) (.cons (.int rfl) (.cons (.B5 [[.int .i64 (.lit 1),.int .i64 (.lit 1),.int .i64 (.lit 2),.int .i64 (.lit 300)]] _ rfl rfl rfl (Nat.le_refl _) (.jP rfl (.cons (.cons (.int rfl) (.cons (.int rfl) (.cons (.int rfl) (.cons (.int rfl) .nil)))) .nil))) .nil))))) .nil)) rfl ?_;cbv;refine aM.i hR ?_ ?_<;>intro c4 hR<;>cbv
 ·cases hR;exact al
 refine aM.i hR ?_ ?_<;>intro c5 hR<;>cbv
 ·cases hR;exact al
 refine aM.i hR ?_ ?_<;>intro c6 hR<;>cbv
 ·cases hR;exact al
 refine aM.i hR ?_ ?_<;>intro c7 hR<;>cbv
 ·cases hR;exact al
 obtain⟨p8,U_,hR⟩:=az hR;refine aJ U_ ?_;cbv;refine cu.rounds (ty hP) 6 ?_;cbv;exact go⟩
end Go.Proofs.aaa
end
