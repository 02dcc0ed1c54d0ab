/- Texts that the law leans on, part 36. No conditions. -/
import Derived.Test.YtnpliafeboadcaaGreatK34
section
namespace Go.Proofs.aaa
open Go.bA Go.IntWalk
variable{P:Program}
set_option maxHeartbeats 4000000
set_option maxRecDepth 20000
def g4 (limit:Int)(bp:List Act):Option (Bool):=
 (EC limit).bind λp1=>
 (Zq limit).bind λp2=>
 (EN).bind λp3=>
 if(!p3)=true then
  some false
 else if(ai .neq p1.2 p2.2)=true then
  some false
 else(sN p1.1 p2.1).bind λp6=>
 if(!p6)=true then
  some false
 else(bh (λ(s8:Int×(List Cell)×(List aQ)×(List au)×(List ah)×(List Order)×(List aC)×(List Kept)×Int×(List Cell)×(List aQ)×(List au)×(List ah)×(List Order)×(List aC)×(List Kept))(_:Int)(W_:Act)=>
  if(ai .neq p1.2 0)=true then
   some (.inr (.inl ()))
  else(gV (⟨s8.2.2.2.2.2.2.2.2.1,s8.2.2.2.2.2.2.2.2.2.1,(⟨s8.2.2.2.2.2.2.2.2.2.2.1,s8.2.2.2.2.2.2.2.2.2.2.2.1⟩:aF),s8.2.2.2.2.2.2.2.2.2.2.2.2.1,s8.2.2.2.2.2.2.2.2.2.2.2.2.2.1,s8.2.2.2.2.2.2.2.2.2.2.2.2.2.2.1,s8.2.2.2.2.2.2.2.2.2.2.2.2.2.2.2⟩:State) W_).bind λxl=>
  (g27 (⟨s8.1,s8.2.1,(⟨s8.2.2.1,s8.2.2.2.1⟩:aF),s8.2.2.2.2.1,s8.2.2.2.2.2.1,s8.2.2.2.2.2.2.1,s8.2.2.2.2.2.2.2.1⟩:State) W_).bind λeI=>
  (sN xl.1 eI.1).bind λAa=>
  if(!Aa)=true then
   some (.inr (.inr ()))
  else if(!((xl.2.1.why==eI.2.1.why)&&((xl.2.1.status==eI.2.1.status)&&((xl.2.1.ax==eI.2.1.ax)&&true))))=true then
   some (.inr (.inr ()))
  else if(!((xl.2.2.1.order==eI.2.2.1.order)&&((xl.2.2.1.kind==eI.2.2.1.kind)&&((xl.2.2.1.step==eI.2.2.1.step)&&((xl.2.2.1.why==eI.2.2.1.why)&&((xl.2.2.1.over==eI.2.2.1.over)&&true))))))=true then
   some (.inr (.inr ()))
  else if(ai .neq xl.2.2.2 eI.2.2.2)=true then
   some (.inr (.inr ()))
  else some (.inl (eI.1.limit,eI.1.cells,eI.1.af.aK,eI.1.af.ak,eI.1.aA,eI.1.aa,eI.1.aj,eI.1.kept,xl.1.limit,xl.1.cells,xl.1.af.aK,xl.1.af.ak,xl.1.aA,xl.1.aa,xl.1.aj,xl.1.kept))) bp (p2.1.limit,p2.1.cells,p2.1.af.aK,p2.1.af.ak,p2.1.aA,p2.1.aa,p2.1.aj,p2.1.kept,p1.1.limit,p1.1.cells,p1.1.af.aK,p1.1.af.ak,p1.1.aA,p1.1.aa,p1.1.aj,p1.1.kept):Option ((Int×(List Cell)×(List aQ)×(List au)×(List ah)×(List Order)×(List aC)×(List Kept)×Int×(List Cell)×(List aQ)×(List au)×(List ah)×(List Order)×(List aC)×(List Kept))⊕(Unit⊕Unit))).bind λZ1=>
 match Z1 with
 | .inl _=>
  some true
 | .inr (.inl _)=>
  some true
 | .inr (.inr _)=>
  some false
instance [Pg P](limit:Int)(bp:List Act)(r:Bool):bx P 4 (g4 limit bp=some r) [I6 limit,aq Act.ts 7 bp] (B1 r):=⟨λhR=>by
 have hP:=Pg.h (P:=P);unfold g4 at hR;refine e4 hP ?_;cbv;obtain⟨p1,gM,hR⟩:=az hR;refine aJ gM ?_;cbv;obtain⟨p2,BC,hR⟩:=az hR;refine aJ BC ?_;cbv;obtain⟨p3,oV,hR⟩:=az hR;refine aJ oV ?_;cbv;refine aM.i hR ?_ ?_<;>intro c4 hR<;>cbv
 ·cases hR;exact al
 refine aM.i hR ?_ ?_<;>intro c5 hR<;>cbv
 ·cases hR;exact al
 obtain⟨p6,GL,hR⟩:=az hR;refine aJ GL ?_;cbv;refine aM.i hR ?_ ?_<;>intro c7 hR<;>cbv
 ·cases hR;exact al
 refine kC (ty hP) 88 (λRL RK s8=>[(5,.ref 0 0),(6,I6 p1.2),(7,.ref 1 0),(42,aq Act.ts 7 bp),(43,I6 RL),(44,I6 RK)]) (λs8=>[.box [I6 s8.2.2.2.2.2.2.2.2.1,aq Cell.ts 6 s8.2.2.2.2.2.2.2.2.2.1,aq aQ.ts 4 s8.2.2.2.2.2.2.2.2.2.2.1,aq au.ts 4 s8.2.2.2.2.2.2.2.2.2.2.2.1,aq ah.ts 2 s8.2.2.2.2.2.2.2.2.2.2.2.2.1,aq Order.ts 4 s8.2.2.2.2.2.2.2.2.2.2.2.2.2.1,aq aC.ts 4 s8.2.2.2.2.2.2.2.2.2.2.2.2.2.2.1,aq Kept.ts 4 s8.2.2.2.2.2.2.2.2.2.2.2.2.2.2.2],.box [I6 s8.1,aq Cell.ts 6 s8.2.1,aq aQ.ts 4 s8.2.2.1,aq au.ts 4 s8.2.2.2.1,aq ah.ts 2 s8.2.2.2.2.1,aq Order.ts 4 s8.2.2.2.2.2.1,aq aC.ts 4 s8.2.2.2.2.2.2.1,aq Kept.ts 4 s8.2.2.2.2.2.2.2.1]]) (λr_ g_=>match r_ with| .inl r_=>(AE.exit 0,sp 88 [],[])| .inr r_=>(AE.ret,sp 88 [(4,AB (.lit false))],[])) (AE.exit 0) hR (λRL Jk=>aaP) go go ?_;rintro(r25|r27) g_ hR;all_goals dsimp only at hR
 ·obtain⟨gV,Na⟩:∃x,x=g_:=⟨_,rfl⟩;subst Na;cbv;cases hR;exact al
 obtain⟨Mo,Na⟩:∃x,x=g_:=⟨_,rfl⟩;subst Na;cbv;cases hR;exact al⟩
end Go.Proofs.aaa
end
