/- Texts that the law leans on, part 32. No conditions. -/
import Derived.Test.YtnpliafeboadcaaGreatK28
import Derived.Test.YtnpliafeboadcaaGreatK29
section
namespace Go.Proofs.aaa
open Go.bA Go.IntWalk
variable{P:Program}
set_option maxHeartbeats 4000000
set_option maxRecDepth 20000
def g7 (limit:Int)(before:List Act)(a:Ask)(dS:List Act)(other:Ask):Option (Bool):=
 (EN).bind λp1=>
 if(!p1)=true then
  some false
 else(EC limit).bind λp3=>
 if(ai .neq p3.2 0)=true then
  if(ai .lss limit 0)=true then
   some true
  else some (ai .gtr limit 1024)
 else(bh (λ(s6:Int×(List Cell)×(List aQ)×(List au)×(List ah)×(List Order)×(List aC)×(List Kept))(_:Int)(eu:Act)=>
  (gV (⟨s6.1,s6.2.1,(⟨s6.2.2.1,s6.2.2.2.1⟩:aF),s6.2.2.2.2.1,s6.2.2.2.2.2.1,s6.2.2.2.2.2.2.1,s6.2.2.2.2.2.2.2⟩:State) eu).bind λiq=>
  some (.inl (iq.1.limit,iq.1.cells,iq.1.af.aK,iq.1.af.ak,iq.1.aA,iq.1.aa,iq.1.aj,iq.1.kept))) before (p3.1.limit,p3.1.cells,p3.1.af.aK,p3.1.af.ak,p3.1.aA,p3.1.aa,p3.1.aj,p3.1.kept):Option ((Int×(List Cell)×(List aQ)×(List au)×(List ah)×(List Order)×(List aC)×(List Kept))⊕(Empty))).bind λQW=>
 match QW with
 | .inl gu=>
  (oF (⟨gu.1,gu.2.1,(⟨gu.2.2.1,gu.2.2.2.1⟩:aF),gu.2.2.2.2.1,gu.2.2.2.2.2.1,gu.2.2.2.2.2.2.1,gu.2.2.2.2.2.2.2⟩:State) a).bind λeI=>
  if(ai .neq eI.2.2 0)=true then
   some false
  else if(ai .neq eI.2.1.why 0)=true then
   (M0 eI.1).bind λmO=>
   (sN (⟨mO.limit,mO.cells,mO.af,mO.aA,mO.aa,mO.aj,gu.2.2.2.2.2.2.2⟩:State) (⟨gu.1,gu.2.1,(⟨gu.2.2.1,gu.2.2.2.1⟩:aF),gu.2.2.2.2.1,gu.2.2.2.2.2.1,gu.2.2.2.2.2.2.1,gu.2.2.2.2.2.2.2⟩:State)).bind λv9=>
   if(!v9)=true then
    some false
   else if(ai .neq eI.2.1.status 0)=true then
    some false
   else if(ai .neq eI.2.1.ax 0)=true then
    some false
   else if(dA .eql a.mark ByteArray.empty)=true then
    some true
   else if(ai .gtr ((a.mark).size:Int) 64)=true then
    some true
   else if(ai .lss a.kind 1)=true then
    some true
   else if(ai .geq a.kind 7)=true then
    some true
   else(bh (λ(lB:Int×(List Cell)×(List aQ)×(List au)×(List ah)×(List Order)×(List aC)×(List Kept))(_:Int)(JD:Act)=>
    (gV (⟨lB.1,lB.2.1,(⟨lB.2.2.1,lB.2.2.2.1⟩:aF),lB.2.2.2.2.1,lB.2.2.2.2.2.1,lB.2.2.2.2.2.2.1,lB.2.2.2.2.2.2.2⟩:State) JD).bind λtT=>
    some (.inl (tT.1.limit,tT.1.cells,tT.1.af.aK,tT.1.af.ak,tT.1.aA,tT.1.aa,tT.1.aj,tT.1.kept))) dS (eI.1.limit,eI.1.cells,eI.1.af.aK,eI.1.af.ak,eI.1.aA,eI.1.aa,eI.1.aj,eI.1.kept):Option ((Int×(List Cell)×(List aQ)×(List au)×(List ah)×(List Order)×(List aC)×(List Kept))⊕(Empty))).bind λVV=>
   match VV with
   | .inl ek=>
    if(ai .lss other.kind 1)=true then
     (oF (⟨ek.1,ek.2.1,(⟨ek.2.2.1,ek.2.2.2.1⟩:aF),ek.2.2.2.2.1,ek.2.2.2.2.2.1,ek.2.2.2.2.2.2.1,ek.2.2.2.2.2.2.2⟩:State) (⟨a.mark,a.kind,other.order,other.lines⟩:Ask)).bind λmU=>
     if(ai .eql mU.2.2 0)=true then
      if((mU.2.1.why==eI.2.1.why)&&((mU.2.1.status==eI.2.1.status)&&((mU.2.1.ax==eI.2.1.ax)&&true)))=true then
       (sN mU.1 (⟨ek.1,ek.2.1,(⟨ek.2.2.1,ek.2.2.2.1⟩:aF),ek.2.2.2.2.1,ek.2.2.2.2.2.1,ek.2.2.2.2.2.2.1,ek.2.2.2.2.2.2.2⟩:State)).bind λzI=>
       some zI
      else some false
     else some false
    else if(ai .geq other.kind 7)=true then
     (oF (⟨ek.1,ek.2.1,(⟨ek.2.2.1,ek.2.2.2.1⟩:aF),ek.2.2.2.2.1,ek.2.2.2.2.2.1,ek.2.2.2.2.2.2.1,ek.2.2.2.2.2.2.2⟩:State) (⟨a.mark,a.kind,other.order,other.lines⟩:Ask)).bind λLi=>
     if(ai .eql Li.2.2 0)=true then
      if((Li.2.1.why==eI.2.1.why)&&((Li.2.1.status==eI.2.1.status)&&((Li.2.1.ax==eI.2.1.ax)&&true)))=true then
       (sN Li.1 (⟨ek.1,ek.2.1,(⟨ek.2.2.1,ek.2.2.2.1⟩:aF),ek.2.2.2.2.1,ek.2.2.2.2.2.1,ek.2.2.2.2.2.2.1,ek.2.2.2.2.2.2.2⟩:State)).bind λp51=>
       some p51
      else some false
     else some false
    else(oF (⟨ek.1,ek.2.1,(⟨ek.2.2.1,ek.2.2.2.1⟩:aF),ek.2.2.2.2.1,ek.2.2.2.2.2.1,ek.2.2.2.2.2.2.1,ek.2.2.2.2.2.2.2⟩:State) (⟨a.mark,other.kind,other.order,other.lines⟩:Ask)).bind λp52=>
    if(ai .eql p52.2.2 0)=true then
     if((p52.2.1.why==eI.2.1.why)&&((p52.2.1.status==eI.2.1.status)&&((p52.2.1.ax==eI.2.1.ax)&&true)))=true then
      (sN p52.1 (⟨ek.1,ek.2.1,(⟨ek.2.2.1,ek.2.2.2.1⟩:aF),ek.2.2.2.2.1,ek.2.2.2.2.2.1,ek.2.2.2.2.2.2.1,ek.2.2.2.2.2.2.2⟩:State)).bind λgK=>
      some gK
     else some false
    else some false
   | .inr r_=>r_.elim
  else if(dA .eql a.mark ByteArray.empty)=true then
   some true
  else if(ai .gtr ((a.mark).size:Int) 64)=true then
   some true
  else if(ai .lss a.kind 1)=true then
   some true
  else if(ai .geq a.kind 7)=true then
   some true
  else(bh (λ(tC:Int×(List Cell)×(List aQ)×(List au)×(List ah)×(List Order)×(List aC)×(List Kept))(_:Int)(IV:Act)=>
   (gV (⟨tC.1,tC.2.1,(⟨tC.2.2.1,tC.2.2.2.1⟩:aF),tC.2.2.2.2.1,tC.2.2.2.2.2.1,tC.2.2.2.2.2.2.1,tC.2.2.2.2.2.2.2⟩:State) IV).bind λtE=>
   some (.inl (tE.1.limit,tE.1.cells,tE.1.af.aK,tE.1.af.ak,tE.1.aA,tE.1.aa,tE.1.aj,tE.1.kept))) dS (eI.1.limit,eI.1.cells,eI.1.af.aK,eI.1.af.ak,eI.1.aA,eI.1.aa,eI.1.aj,eI.1.kept):Option ((Int×(List Cell)×(List aQ)×(List au)×(List ah)×(List Order)×(List aC)×(List Kept))⊕(Empty))).bind λR69=>
  match R69 with
  | .inl iV=>
   if(ai .lss other.kind 1)=true then
    (oF (⟨iV.1,iV.2.1,(⟨iV.2.2.1,iV.2.2.2.1⟩:aF),iV.2.2.2.2.1,iV.2.2.2.2.2.1,iV.2.2.2.2.2.2.1,iV.2.2.2.2.2.2.2⟩:State) (⟨a.mark,a.kind,other.order,other.lines⟩:Ask)).bind λJy=>
    if(ai .eql Jy.2.2 0)=true then
     if((Jy.2.1.why==eI.2.1.why)&&((Jy.2.1.status==eI.2.1.status)&&((Jy.2.1.ax==eI.2.1.ax)&&true)))=true then
      (sN Jy.1 (⟨iV.1,iV.2.1,(⟨iV.2.2.1,iV.2.2.2.1⟩:aF),iV.2.2.2.2.1,iV.2.2.2.2.2.1,iV.2.2.2.2.2.2.1,iV.2.2.2.2.2.2.2⟩:State)).bind λp76=>
      some p76
     else some false
    else some false
   else if(ai .geq other.kind 7)=true then
    (oF (⟨iV.1,iV.2.1,(⟨iV.2.2.1,iV.2.2.2.1⟩:aF),iV.2.2.2.2.1,iV.2.2.2.2.2.1,iV.2.2.2.2.2.2.1,iV.2.2.2.2.2.2.2⟩:State) (⟨a.mark,a.kind,other.order,other.lines⟩:Ask)).bind λFZ=>
    if(ai .eql FZ.2.2 0)=true then
     if((FZ.2.1.why==eI.2.1.why)&&((FZ.2.1.status==eI.2.1.status)&&((FZ.2.1.ax==eI.2.1.ax)&&true)))=true then
      (sN FZ.1 (⟨iV.1,iV.2.1,(⟨iV.2.2.1,iV.2.2.2.1⟩:aF),iV.2.2.2.2.1,iV.2.2.2.2.2.1,iV.2.2.2.2.2.2.1,iV.2.2.2.2.2.2.2⟩:State)).bind λp81=>
      some p81
     else some false
    else some false
   else(oF (⟨iV.1,iV.2.1,(⟨iV.2.2.1,iV.2.2.2.1⟩:aF),iV.2.2.2.2.1,iV.2.2.2.2.2.1,iV.2.2.2.2.2.2.1,iV.2.2.2.2.2.2.2⟩:State) (⟨a.mark,other.kind,other.order,other.lines⟩:Ask)).bind λp82=>
   if(ai .eql p82.2.2 0)=true then
    if((p82.2.1.why==eI.2.1.why)&&((p82.2.1.status==eI.2.1.status)&&((p82.2.1.ax==eI.2.1.ax)&&true)))=true then
     (sN p82.1 (⟨iV.1,iV.2.1,(⟨iV.2.2.1,iV.2.2.2.1⟩:aF),iV.2.2.2.2.1,iV.2.2.2.2.2.1,iV.2.2.2.2.2.2.1,iV.2.2.2.2.2.2.2⟩:State)).bind λRW=>
     some RW
    else some false
   else some false
  | .inr r_=>r_.elim
 | .inr r_=>r_.elim
instance [Pg P](limit:Int)(before:List Act)(a:Ask)(dS:List Act)(other:Ask)(r:Bool):bx P 7 (g7 limit before a dS other=some r) [I6 limit,aq Act.ts 7 before,a.av,aq Act.ts 7 dS,other.av] (B1 r):=⟨λhR=>by
 have hP:=Pg.h (P:=P);unfold g7 at hR;refine e7 hP ?_;cbv;obtain⟨p1,gM,hR⟩:=az hR;refine aJ gM ?_;cbv;refine aM.i hR ?_ ?_<;>intro c2 hR<;>cbv
 ·cases hR;exact al
 obtain⟨p3,oV,hR⟩:=az hR;refine aJ oV ?_;cbv;refine aM.i hR ?_ ?_<;>intro c4 hR<;>cbv
 ·exact go
 refine kC (ty hP) 160 (λN9 i8 s6=>[(3,aq Act.ts 7 dS),(7,.ref 0 0),(9,.ref 1 0),(11,.ref 2 0),(45,aq Act.ts 7 before),(46,I6 N9),(47,I6 i8)]) (λs6=>[.box [AS (.th λ_=>a.mark),I8 a.kind,I6 a.order,aq aU.ts 4 a.lines],.box [AS (.th λ_=>other.mark),I8 other.kind,I6 other.order,aq aU.ts 4 other.lines],.box [I6 s6.1,aq Cell.ts 6 s6.2.1,aq aQ.ts 4 s6.2.2.1,aq au.ts 4 s6.2.2.2.1,aq ah.ts 2 s6.2.2.2.2.1,aq Order.ts 4 s6.2.2.2.2.2.1,aq aC.ts 4 s6.2.2.2.2.2.2.1,aq Kept.ts 4 s6.2.2.2.2.2.2.2]]) (λr_ _=>r_.elim) (AE.exit 0) hR (λN9 uQ=>dj.sp [0,1,2] rfl rfl rfl (.cons rfl (.c .refl) (.cons rfl (.ref (q:=0) rfl) (.cons rfl (.ref (q:=1) rfl) (.cons rfl (.ref (q:=2) rfl) (.cons rfl (.c .refl) (.cons rfl (.int ((aW Act.ts 7 before).trans uQ.symm)) (.cons rfl (.int rfl) .nil))))))) (.cons rfl (.aN (.cons (.str rfl) (.cons (.int rfl) (.cons (.int rfl) (.cons (.c .refl) .nil))))) (.cons rfl (.aN (.cons (.str rfl) (.cons (.int rfl) (.cons (.int rfl) (.cons (.c .refl) .nil))))) (.cons rfl (.aN (.cons (.int rfl) (.cons (.c .refl) (.cons (.c .refl) (.cons (.c .refl) (.cons (.c .refl) (.cons (.c .refl) (.cons (.c .refl) (.cons (.c .refl) .nil))))))))) .nil)))) go ?_ go;intro N9 uQ gu uR hR;dsimp only at hR;cbv;obtain⟨eI,qZ,hR⟩:=az hR;refine aJ qZ ?_;cbv;refine aM.i hR ?_ ?_<;>intro L7 hR<;>cbv
 ·cases hR;exact al
 refine aM.i hR ?_ ?_<;>intro S7 hR<;>cbv
 ·obtain⟨mO,uC,hR⟩:=az hR;refine aJ uC ?_;cbv;obtain⟨v9,B_,hR⟩:=az hR;refine aJ B_ ?_;cbv;refine aM.i hR ?_ ?_<;>intro WU hR<;>cbv
  ·cases hR;exact al
  refine aM.i hR ?_ ?_<;>intro YE hR<;>cbv
  ·cases hR;exact al
  refine aM.i hR ?_ ?_<;>intro WV hR<;>cbv
  ·cases hR;exact al
  refine aM.i hR ?_ ?_<;>intro YF hR<;>cbv
  ·cases hR;exact al
  refine aM.i hR ?_ ?_<;>intro Et hR<;>cbv
  ·cases hR;exact al
  refine aM.i hR ?_ ?_<;>intro WW hR<;>cbv
  ·cases hR;exact al
  refine aM.i hR ?_ ?_<;>intro S8 hR<;>cbv
  ·cases hR;exact al
  exact kC (ty hP) 160 (λMZ i32 lB=>[(7,.ref 0 0),(9,.ref 1 0),(19,.ref 2 0),(20,.ref 3 0),(111,aq Act.ts 7 dS),(112,I6 MZ),(113,I6 i32)]) (λlB=>[.box [AS (.th λ_=>a.mark),I8 a.kind,I6 a.order,aq aU.ts 4 a.lines],.box [AS (.th λ_=>other.mark),I8 other.kind,I6 other.order,aq aU.ts 4 other.lines],.box [I6 lB.1,aq Cell.ts 6 lB.2.1,aq aQ.ts 4 lB.2.2.1,aq au.ts 4 lB.2.2.2.1,aq ah.ts 2 lB.2.2.2.2.1,aq Order.ts 4 lB.2.2.2.2.2.1,aq aC.ts 4 lB.2.2.2.2.2.2.1,aq Kept.ts 4 lB.2.2.2.2.2.2.2],.box [I6 eI.2.1.why,I8 eI.2.1.status,I6 eI.2.1.ax]]) (λr_ _=>r_.elim) (AE.exit 2) hR (λMZ G7=>dj.sp [0,1,3,4] rfl rfl rfl (.cons rfl (.ref (q:=0) rfl) (.cons rfl (.ref (q:=1) rfl) (.cons rfl (.ref (q:=2) rfl) (.cons rfl (.ref (q:=3) rfl) (.cons rfl (.c .refl) (.cons rfl (.int ((aW Act.ts 7 dS).trans G7.symm)) (.cons rfl (.int rfl) .nil))))))) (.cons rfl (.aN (.cons (.str rfl) (.cons (.int rfl) (.cons (.int rfl) (.cons (.c .refl) .nil))))) (.cons rfl (.aN (.cons (.str rfl) (.cons (.int rfl) (.cons (.int rfl) (.cons (.c .refl) .nil))))) (.cons rfl (.aN (.cons (.int rfl) (.cons (.c .refl) (.cons (.c .refl) (.cons (.c .refl) (.cons (.c .refl) (.cons (.c .refl) (.cons (.c .refl) (.cons (.c .refl) .nil))))))))) (.cons rfl (.aN (.cons (.int rfl) (.cons (.int rfl) (.cons (.int rfl) .nil)))) .nil))))) go go go
 refine aM.i hR ?_ ?_<;>intro RB hR<;>cbv
 ·cases hR;exact al
 refine aM.i hR ?_ ?_<;>intro W3 hR<;>cbv
 ·cases hR;exact al
 refine aM.i hR ?_ ?_<;>intro YP hR<;>cbv
 ·cases hR;exact al
 refine aM.i hR ?_ ?_<;>intro Te hR<;>cbv
 ·cases hR;exact al
 exact kC (ty hP) 160 (λOx VW tC=>[(7,.ref 0 0),(9,.ref 1 0),(19,.ref 2 0),(20,.ref 3 0),(111,aq Act.ts 7 dS),(112,I6 Ox),(113,I6 VW)]) (λtC=>[.box [AS (.th λ_=>a.mark),I8 a.kind,I6 a.order,aq aU.ts 4 a.lines],.box [AS (.th λ_=>other.mark),I8 other.kind,I6 other.order,aq aU.ts 4 other.lines],.box [I6 tC.1,aq Cell.ts 6 tC.2.1,aq aQ.ts 4 tC.2.2.1,aq au.ts 4 tC.2.2.2.1,aq ah.ts 2 tC.2.2.2.2.1,aq Order.ts 4 tC.2.2.2.2.2.1,aq aC.ts 4 tC.2.2.2.2.2.2.1,aq Kept.ts 4 tC.2.2.2.2.2.2.2],.box [I6 eI.2.1.why,I8 eI.2.1.status,I6 eI.2.1.ax]]) (λr_ _=>r_.elim) (AE.exit 2) hR (λOx JK=>dj.sp [0,1,3,4] rfl rfl rfl (.cons rfl (.ref (q:=0) rfl) (.cons rfl (.ref (q:=1) rfl) (.cons rfl (.ref (q:=2) rfl) (.cons rfl (.ref (q:=3) rfl) (.cons rfl (.c .refl) (.cons rfl (.int ((aW Act.ts 7 dS).trans JK.symm)) (.cons rfl (.int rfl) .nil))))))) (.cons rfl (.aN (.cons (.str rfl) (.cons (.int rfl) (.cons (.int rfl) (.cons (.c .refl) .nil))))) (.cons rfl (.aN (.cons (.str rfl) (.cons (.int rfl) (.cons (.int rfl) (.cons (.c .refl) .nil))))) (.cons rfl (.aN (.cons (.int rfl) (.cons (.c .refl) (.cons (.c .refl) (.cons (.c .refl) (.cons (.c .refl) (.cons (.c .refl) (.cons (.c .refl) (.cons (.c .refl) .nil))))))))) (.cons rfl (.aN (.cons (.int rfl) (.cons (.int rfl) (.cons (.int rfl) .nil)))) .nil))))) go go go⟩
end Go.Proofs.aaa
end
