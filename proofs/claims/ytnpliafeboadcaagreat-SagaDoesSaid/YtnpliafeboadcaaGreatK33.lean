/- Texts that the law leans on, part 33. No conditions. -/
import Derived.Test.YtnpliafeboadcaaGreatK21
import Derived.Test.YtnpliafeboadcaaGreatK23
import Derived.Test.YtnpliafeboadcaaGreatK30
import Derived.Test.YtnpliafeboadcaaGreatK32
section
namespace Go.Proofs.aaa
open Go.bA Go.IntWalk
variable{P:Program}
set_option maxHeartbeats 4000000
set_option maxRecDepth 20000
def gV (s:State)(a:Act):Option (State×bz×Told×Int):=
 if a.mS=true then
  (uR s a.pick a.verdict).bind λp2=>
  if(ai .neq p2.2.2 0)=true then
   some (s,(⟨0,0,0⟩:bz),p2.2.1,p2.2.2)
  else some (p2.1,(⟨0,0,0⟩:bz),p2.2.1,p2.2.2)
 else(oF s a.ask).bind λp4=>
 if(ai .neq p4.2.2 0)=true then
  some (s,p4.2.1,(⟨0,0,0,0,false⟩:Told),p4.2.2)
 else some (p4.1,p4.2.1,(⟨0,0,0,0,false⟩:Told),p4.2.2)
instance [Pg P](s:State)(a:Act)(r:State×bz×Told×Int):bx P 26 (gV s a=some r) [s.av,a.av] (.cI [r.1.av,r.2.1.av,r.2.2.1.av,I6 r.2.2.2]):=⟨λhR=>by
 have hP:=Pg.h (P:=P);unfold gV at hR;refine _7 hP ?_;cbv;exact go⟩
def g27 (s:State)(a:Act):Option (State×bz×Told×Int):=
 if a.mS=true then
  (g18 s a.pick a.verdict).bind λp2=>
  if(ai .neq p2.2.2 0)=true then
   some (s,(⟨0,0,0⟩:bz),p2.2.1,p2.2.2)
  else some (p2.1,(⟨0,0,0⟩:bz),p2.2.1,p2.2.2)
 else(g15 s a.ask).bind λp4=>
 if(ai .neq p4.2.2 0)=true then
  some (s,p4.2.1,(⟨0,0,0,0,false⟩:Told),p4.2.2)
 else some (p4.1,p4.2.1,(⟨0,0,0,0,false⟩:Told),p4.2.2)
instance [Pg P](s:State)(a:Act)(r:State×bz×Told×Int):bx P 27 (g27 s a=some r) [s.av,a.av] (.cI [r.1.av,r.2.1.av,r.2.2.1.av,I6 r.2.2.2]):=⟨λhR=>by
 have hP:=Pg.h (P:=P);unfold g27 at hR;refine e27 hP ?_;cbv;exact go⟩
end Go.Proofs.aaa
end
