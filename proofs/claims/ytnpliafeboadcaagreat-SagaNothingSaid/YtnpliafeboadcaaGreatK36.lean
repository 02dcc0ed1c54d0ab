/- Texts that the law leans on, part 36. No conditions. -/
import Derived.Test.YtnpliafeboadcaaGreatK28
import Derived.Test.YtnpliafeboadcaaGreatK29
section
namespace Go.Proofs.aaa
open Go.bA Go.IntWalk
variable{P:Program}
set_option maxHeartbeats 4000000
set_option maxRecDepth 20000
def zp (limit:Int)(bp:List Act)(order:Int)(lines:List aU)(refuse:Bool):Option (Bool):=
 (EN).bind λp1=>
 if(!p1)=true then
  some false
 else(Oo limit bp).bind λp3=>
 if(!p3.2)=true then
  some true
 else(oF p3.1 (⟨ByteArray.empty,1,order,lines⟩:Ask)).bind λp5=>
 if(ai .neq p5.2.2 0)=true then
  some (ai .eql p5.2.2 0)
 else if(ai .neq p5.2.1.why 0)=true then
  some (ai .eql p5.2.2 0)
 else(v5 p5.1 order ([]:List Int)).bind λp8=>
 (Qv p8 order).bind λp9=>
 if(!p9.2)=true then
  some p9.2
 else if(ai .eql p9.1.status 2)=true then
  some p9.2
 else(oF p8 (⟨ByteArray.empty,3,order,([]:List aU)⟩:Ask)).bind λqb=>
 if(ai .neq qb.2.2 0)=true then
  some false
 else if(ai .neq p9.1.status 3)=true then
  some false
 else if(!((qb.2.1.why==0)&&((qb.2.1.status==6)&&((qb.2.1.ax==p9.1.aP)&&true))))=true then
  some false
 else if refuse=true then
  (v5 qb.1 order ([1]:List Int)).bind λxl=>
  (Qv xl order).bind λeI=>
  if(ai .eql eI.1.status 3)=true then
   (Mr xl.cells p8.cells).bind λKY=>
   if KY=true then
    (Mo xl).bind λv9=>
    some v9
   else some false
  else some false
 else(v5 qb.1 order ([]:List Int)).bind λBE=>
 (Qv BE order).bind λGn=>
 if(ai .eql Gn.1.status 7)=true then
  (Mr BE.cells p3.1.cells).bind λmT=>
  if mT=true then
   (Mo BE).bind λxm=>
   some xm
  else some false
 else some false
instance [Pg P](limit:Int)(bp:List Act)(order:Int)(lines:List aU)(refuse:Bool)(r:Bool):bx P 10 (zp limit bp order lines refuse=some r) [I6 limit,aq Act.ts 7 bp,I6 order,aq aU.ts 4 lines,B1 refuse] (B1 r):=⟨λhR=>by
 have hP:=Pg.h (P:=P);unfold zp at hR;refine e10 hP ?_;cbv;obtain⟨p1,gM,hR⟩:=az hR;refine aJ gM ?_;cbv;refine aM.i hR ?_ ?_<;>intro c2 hR<;>cbv
 ·cases hR;exact al
 obtain⟨p3,oV,hR⟩:=az hR;refine aJ oV ?_;cbv;refine aM.i hR ?_ ?_<;>intro c4 hR<;>cbv
 ·cases hR;exact al
 obtain⟨p5,Ma,hR⟩:=az hR;refine aJ Ma ?_;cbv;refine aM.i hR ?_ ?_<;>intro c6 hR<;>cbv
 ·cases hR;exact al
 refine aM.i hR ?_ ?_<;>intro c7 hR<;>cbv
 ·cases hR;exact al
 obtain⟨p8,U_,hR⟩:=az hR;refine aJ U_ ?_;cbv;obtain⟨p9,tw,hR⟩:=az hR;refine aJ tw ?_;cbv;refine aM.i hR ?_ ?_<;>intro De hR<;>cbv
 ·cases hR;exact al
 refine aM.i hR ?_ ?_<;>intro L5 hR<;>cbv
 ·cases hR;exact al
 obtain⟨qb,Ce,hR⟩:=az hR;refine aJ Ce ?_;cbv;refine aM.i hR ?_ ?_<;>intro YA hR<;>cbv
 ·cases hR;exact al
 refine aM.i hR ?_ ?_<;>intro Ry hR<;>cbv
 ·cases hR;exact al
 refine aM.i hR ?_ ?_<;>intro S6 hR<;>cbv
 ·cases hR;exact al
 refine aM.i hR ?_ ?_<;>intro Rt hR<;>cbv
 ·obtain⟨xl,yG,hR⟩:=az hR;refine(@rt P 34 _ _ _ _ yG).freeze [6] (.cons (.pure rfl) (.cons (.int rfl) (.cons (.B5 [[.int .u8 (.lit 1)]] _ rfl rfl rfl (Nat.le_refl _) (.jP rfl (.cons (.cons (.int rfl) .nil) .nil))) .nil))) rfl ?_;cbv;exact go
 exact go⟩
end Go.Proofs.aaa
end
