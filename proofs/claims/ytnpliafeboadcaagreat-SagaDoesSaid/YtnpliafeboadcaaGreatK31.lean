/- Texts that the law leans on, part 31. No conditions. -/
import Derived.Test.YtnpliafeboadcaaGreatK28
section
namespace Go.Proofs.aaa
open Go.bA Go.IntWalk
variable{P:Program}
set_option maxHeartbeats 4000000
set_option maxRecDepth 20000
def abO (s:State)(o:Order)(k:Int):Option (State×Int):=
 (ack k s.cells o.lines).bind λp1=>
 some ((⟨s.limit,p1.1,s.af,s.aA,s.aa,s.aj,s.kept⟩:State),p1.2)
instance [Pg P](s:State)(o:Order)(k:Int)(r:State×Int):bx P 108 (abO s o k=some r) [s.av,o.av,I6 k] (.cI [r.1.av,I6 r.2]):=⟨λhR=>by
 have hP:=Pg.h (P:=P);unfold abO at hR;refine aff hP ?_;cbv;exact go⟩
def aby (s:State)(o:Order)(m:Int):Option (State×Int):=
 (acv s.aA o.id m 0).bind λp1=>
 some ((⟨s.limit,s.cells,s.af,p1.1,s.aa,s.aj,s.kept⟩:State),p1.2)
instance [Pg P](s:State)(o:Order)(m:Int)(r:State×Int):bx P 113 (aby s o m=some r) [s.av,o.av,I8 m] (.cI [r.1.av,I6 r.2]):=⟨λhR=>by
 have hP:=Pg.h (P:=P);unfold aby at hR;refine afg hP ?_;cbv;exact go⟩
def g57 (s:State)(o:Order)(x:Int):Option (State×Int):=
 if(ai .eql x 1)=true then
  (abO s o 1).bind λp2=>
  some (p2.1,p2.2)
 else if(ai .eql x 6)=true then
  (abO s o 2).bind λp4=>
  some (p4.1,p4.2)
 else if(ai .eql x 2)=true then
  (acA s.af o.id o.aP).bind λp6=>
  some ((⟨s.limit,s.cells,p6.1,s.aA,s.aa,s.aj,s.kept⟩:State),p6.2)
 else if(ai .eql x 7)=true then
  (IL s.af o.id).bind λp8=>
  if(ai .eql p8.bC 0)=true then
   some (s,0)
  else(acB s.af o.id).bind λpJ=>
  some ((⟨s.limit,s.cells,pJ.1,s.aA,s.aa,s.aj,s.kept⟩:State),pJ.2.2)
 else if(ai .eql x 4)=true then
  (acC s.af o.id).bind λqb=>
  some ((⟨s.limit,s.cells,qb.1,s.aA,s.aa,s.aj,s.kept⟩:State),qb.2.2)
 else if(ai .eql x 9)=true then
  (IL s.af o.id).bind λiq=>
  (acD s.af o.id (aH .sub .i64 iq.aT iq.aX)).bind λkD=>
  some ((⟨s.limit,s.cells,kD.1,s.aA,s.aa,s.aj,s.kept⟩:State),kD.2)
 else if(ai .eql x 3)=true then
  (aby s o 1).bind λxl=>
  some (xl.1,xl.2)
 else if(ai .eql x 8)=true then
  (aby s o 4).bind λAa=>
  some (Aa.1,Aa.2)
 else if(ai .eql x 10)=true then
  (aby s o 5).bind λmO=>
  some (mO.1,mO.2)
 else if(ai .eql x 5)=true then
  (aby s o 2).bind λBE=>
  if(ai .neq BE.2 0)=true then
   some (s,BE.2)
  else(abO BE.1 o 3).bind λMc=>
  some (Mc.1,Mc.2)
 else(aby s o 6).bind λmT=>
 if(ai .neq mT.2 0)=true then
  some (s,mT.2)
 else(abO mT.1 o 4).bind λxm=>
 some (xm.1,xm.2)
instance [Pg P](s:State)(o:Order)(x:Int)(r:State×Int):bx P 57 (g57 s o x=some r) [s.av,o.av,I8 x] (.cI [r.1.av,I6 r.2]):=⟨λhR=>by
 have hP:=Pg.h (P:=P);unfold g57 at hR;refine e57 hP ?_;cbv;exact go⟩
end Go.Proofs.aaa
end
