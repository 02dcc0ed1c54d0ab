/- Texts that the law leans on, part 30. No conditions. -/
import Derived.Test.YtnpliafeboadcaaGreatK29
section
namespace Go.Proofs.aaa
open Go.bA Go.IntWalk
variable{P:Program}
set_option maxHeartbeats 4000000
set_option maxRecDepth 20000
def g45 (s:State)(a:Ask):Option (State×bz):=
 if(ai .eql a.kind 1)=true then
  (UZ s a).bind λp2=>
  some (p2.1,p2.2)
 else if(ai .eql a.kind 2)=true then
  (g91 s a).bind λp4=>
  some (p4.1,p4.2)
 else if(ai .eql a.kind 3)=true then
  (g92 s a).bind λp6=>
  some (p6.1,p6.2)
 else if(ai .eql a.kind 4)=true then
  (g93 s a).bind λp8=>
  some (p8.1,p8.2)
 else if(ai .eql a.kind 5)=true then
  (Qv s a.order).bind λpJ=>
  if(!pJ.2)=true then
   (g94 s 11).bind λqb=>
   some (qb.1,qb.2)
  else some (s,(⟨0,pJ.1.status,pJ.1.aP⟩:bz))
 else if(ai .neq ((a.lines.map aU.ts).length:Int) 1)=true then
  (g94 s 2).bind λiq=>
  some (iq.1,iq.2)
 else(fH a.lines 0).bind λSc=>
 (g95 s.cells Sc.item Sc.aE).bind λCh=>
 if(ai .neq Ch.2 0)=true then
  (g94 s Ch.2).bind λeI=>
  some (eI.1,eI.2)
 else some (s,(⟨0,0,Ch.1.free⟩:bz))
instance [Pg P](s:State)(a:Ask)(r:State×bz):bx P 45 (g45 s a=some r) [s.av,a.av] (.cI [r.1.av,r.2.av]):=⟨λhR=>by
 have hP:=Pg.h (P:=P);unfold g45 at hR;refine e45 hP ?_;cbv;refine aM.i hR ?_ ?_<;>intro c1 hR<;>cbv
 ·exact go
 refine aM.i hR ?_ ?_<;>intro c3 hR<;>cbv
 ·exact go
 refine aM.i hR ?_ ?_<;>intro c5 hR<;>cbv
 ·exact go
 refine aM.i hR ?_ ?_<;>intro c7 hR<;>cbv
 ·exact go
 refine aM.i hR ?_ ?_<;>intro c9 hR<;>cbv
 ·exact go
 refine aM.i hR ?_ ?_<;>intro YA hR<;>cbv
 ·exact go
 refine aR.cS (ty hP) (mo hP) rfl ?_;cbv;(iterate 4 (refine aS.z ?_;cbv));obtain⟨Sc,abv,hR⟩:=az hR;apply aS.is
 ·intro J hJ;cbv;refine bF.mk _ (iC abv) (aY aU.ts _ _ _ (bn abv)) ?_;cbv;exact hJ
 cbv
 (iterate 4 (refine aS.z ?_;cbv));apply aS.is
 ·intro J hJ;cbv;refine bF.mk _ (iC abv) (aY aU.ts _ _ _ (bn abv)) ?_;cbv;exact hJ
 exact go⟩
def g15 (s:State)(a:Ask):Option (State×bz×Int):=
 (Zp s).bind λp1=>
 if(ai .neq p1 0)=true then
  some ((⟨0,([]:List Cell),(⟨([]:List aQ),([]:List au)⟩:aF),([]:List ah),([]:List Order),([]:List aC),([]:List Kept)⟩:State),(⟨0,0,0⟩:bz),p1)
 else if(ai .lss a.kind 1)=true then
  (M0 s).bind λp4=>
  some (p4,(⟨15,0,0⟩:bz),0)
 else if(ai .geq a.kind 7)=true then
  (M0 s).bind λp6=>
  some (p6,(⟨15,0,0⟩:bz),0)
 else if(ai .gtr ((a.mark).size:Int) 64)=true then
  (M0 s).bind λp8=>
  some (p8,(⟨4,0,0⟩:bz),0)
 else(bh (λ(_:Unit)(_:Int)(L3:Kept)=>
  if(dA .eql L3.mark a.mark)=true then
   (M0 s).bind λeI=>
   some (.inr (eI,L3.cH))
  else some (.inl ())) s.kept ():Option ((Unit)⊕((State×bz)))).bind λZm=>
 match Zm with
 | .inl _=>
  if(dA .neq a.mark ByteArray.empty)=true then
   if(ai .geq ((s.kept.map Kept.ts).length:Int) 4096)=true then
    (M0 s).bind λmT=>
    some (mT,(⟨7,0,0⟩:bz),0)
   else(g45 s a).bind λN_=>
   (g46 N_.1 a.mark N_.2).bind λxm=>
   (M0 xm).bind λJe=>
   some (Je,N_.2,0)
  else(g45 s a).bind λW9=>
  (M0 W9.1).bind λE1=>
  some (E1,W9.2,0)
 | .inr r20=>
  some (r20.1,r20.2,0)
instance [Pg P](s:State)(a:Ask)(r:State×bz×Int):bx P 15 (g15 s a=some r) [s.av,a.av] (.cI [r.1.av,r.2.1.av,I6 r.2.2]):=⟨λhR=>by
 have hP:=Pg.h (P:=P);unfold g15 at hR;refine e15 hP ?_;cbv;obtain⟨p1,gM,hR⟩:=az hR;refine aJ gM ?_;cbv;refine aM.i hR ?_ ?_<;>intro c2 hR<;>cbv
 ·cases hR;exact al
 refine aM.i hR ?_ ?_<;>intro c3 hR<;>cbv
 ·exact go
 refine aM.i hR ?_ ?_<;>intro c5 hR<;>cbv
 ·exact go
 refine aM.i hR ?_ ?_<;>intro c7 hR<;>cbv
 ·exact go
 exact kC (ty hP) 83 (λXS XT s9=>[(2,.ref 0 0),(3,.ref 1 0),(4,.ref 2 0),(5,.ref 3 0),(38,aq Kept.ts 4 s.kept),(39,I6 XS),(40,I6 XT)]) (λs9=>[.box [I6 s.limit,aq Cell.ts 6 s.cells,aq aQ.ts 4 s.af.aK,aq au.ts 4 s.af.ak,aq ah.ts 2 s.aA,aq Order.ts 4 s.aa,aq aC.ts 4 s.aj,aq Kept.ts 4 s.kept],.box [AS (.th λ_=>a.mark),I8 a.kind,I6 a.order,aq aU.ts 4 a.lines],.box [AI .i64 (.lit 0),.c (.lit (.slice none 0 0)),.c (.lit (.slice none 0 0)),.c (.lit (.slice none 0 0)),.c (.lit (.slice none 0 0)),.c (.lit (.slice none 0 0)),.c (.lit (.slice none 0 0)),.c (.lit (.slice none 0 0))],.box [AI .i64 (.lit 0),AI .u8 (.lit 0),AI .i64 (.lit 0)]]) (λr_ g_=>(AE.ret,sp 83 [(4,.ref 0 0),(5,.ref 1 0),(6,AI .i64 (.lit 0))],[.box [I6 r_.1.limit,aq Cell.ts 6 r_.1.cells,aq aQ.ts 4 r_.1.af.aK,aq au.ts 4 r_.1.af.ak,aq ah.ts 2 r_.1.aA,aq Order.ts 4 r_.1.aa,aq aC.ts 4 r_.1.aj,aq Kept.ts 4 r_.1.kept],.box [I6 r_.2.why,I8 r_.2.status,I6 r_.2.ax]])) (AE.exit 0) hR (λXS VH=>aaP) go go go⟩
end Go.Proofs.aaa
end
