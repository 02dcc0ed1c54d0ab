/- Texts that the law leans on, part 32. No conditions. -/
import Derived.Test.YtnpliafeboadcaaGreatK31
section
namespace Go.Proofs.aaa
open Go.bA Go.IntWalk
variable{P:Program}
set_option maxHeartbeats 4000000
set_option maxRecDepth 20000
def g18 (s:State)(pick:Int)(v:Int):Option (State×Told×Int):=
 (Zp s).bind λp1=>
 if(ai .neq p1 0)=true then
  some ((⟨0,([]:List Cell),(⟨([]:List aQ),([]:List au)⟩:aF),([]:List ah),([]:List Order),([]:List aC),([]:List Kept)⟩:State),(⟨0,0,0,0,false⟩:Told),p1)
 else if(ai .geq v 2)=true then
  some ((⟨0,([]:List Cell),(⟨([]:List aQ),([]:List au)⟩:aF),([]:List ah),([]:List Order),([]:List aC),([]:List Kept)⟩:State),(⟨0,0,0,0,false⟩:Told),15)
 else if(ai .eql ((s.aj.map aC.ts).length:Int) 0)=true then
  some ((⟨0,([]:List Cell),(⟨([]:List aQ),([]:List au)⟩:aF),([]:List ah),([]:List Order),([]:List aC),([]:List Kept)⟩:State),(⟨0,0,0,0,false⟩:Told),11)
 else if(((s.aj.map aC.ts).length:Int) !=0)=true then
  if(ai .lss (aH .rem .i64 pick ((s.aj.map aC.ts).length:Int)) 0)=true then
   (fH s.aj (aH .add .i64 (aH .rem .i64 pick ((s.aj.map aC.ts).length:Int)) ((s.aj.map aC.ts).length:Int))).bind λx7=>
   (Qv s x7.order).bind λp8=>
   (hnext x7).bind λp9=>
   (hasks p9.1).bind λpJ=>
   if pJ=true then
    if(ai .eql v 1)=true then
     (M0 s).bind λz9=>
     (Cv x7 false).bind λxl=>
     if(dJ z9.aj.length (aH .add .i64 (aH .rem .i64 pick ((s.aj.map aC.ts).length:Int)) ((s.aj.map aC.ts).length:Int)))=true then
      (fH z9.aj (aH .add .i64 (aH .rem .i64 pick ((s.aj.map aC.ts).length:Int)) ((s.aj.map aC.ts).length:Int))).bind λ_=>
      (ei (⟨z9.limit,z9.cells,z9.af,z9.aA,z9.aa,((z9.aj).set ((aH .add .i64 (aH .rem .i64 pick ((s.aj.map aC.ts).length:Int)) ((s.aj.map aC.ts).length:Int))).toNat xl.1),z9.kept⟩:State) (aH .add .i64 (aH .rem .i64 pick ((s.aj.map aC.ts).length:Int)) ((s.aj.map aC.ts).length:Int))).bind λKY=>
      some (KY.1,(⟨x7.order,x7.kind,p9.1,10,KY.2⟩:Told),0)
     else none
    else(g57 s p8.1 p9.1).bind λmO=>
    if(ai .eql mO.2 0)=true then
     (M0 mO.1).bind λBE=>
     (Cv x7 (ai .eql mO.2 0)).bind λN_=>
     if(dJ BE.aj.length (aH .add .i64 (aH .rem .i64 pick ((s.aj.map aC.ts).length:Int)) ((s.aj.map aC.ts).length:Int)))=true then
      (fH BE.aj (aH .add .i64 (aH .rem .i64 pick ((s.aj.map aC.ts).length:Int)) ((s.aj.map aC.ts).length:Int))).bind λ_=>
      (ei (⟨BE.limit,BE.cells,BE.af,BE.aA,BE.aa,((BE.aj).set ((aH .add .i64 (aH .rem .i64 pick ((s.aj.map aC.ts).length:Int)) ((s.aj.map aC.ts).length:Int))).toNat N_.1),BE.kept⟩:State) (aH .add .i64 (aH .rem .i64 pick ((s.aj.map aC.ts).length:Int)) ((s.aj.map aC.ts).length:Int))).bind λW9=>
      some (W9.1,(⟨x7.order,x7.kind,p9.1,mO.2,W9.2⟩:Told),0)
     else none
    else(M0 s).bind λE1=>
    (Cv x7 (ai .eql mO.2 0)).bind λJL=>
    if(dJ E1.aj.length (aH .add .i64 (aH .rem .i64 pick ((s.aj.map aC.ts).length:Int)) ((s.aj.map aC.ts).length:Int)))=true then
     (fH E1.aj (aH .add .i64 (aH .rem .i64 pick ((s.aj.map aC.ts).length:Int)) ((s.aj.map aC.ts).length:Int))).bind λ_=>
     (ei (⟨E1.limit,E1.cells,E1.af,E1.aA,E1.aa,((E1.aj).set ((aH .add .i64 (aH .rem .i64 pick ((s.aj.map aC.ts).length:Int)) ((s.aj.map aC.ts).length:Int))).toNat JL.1),E1.kept⟩:State) (aH .add .i64 (aH .rem .i64 pick ((s.aj.map aC.ts).length:Int)) ((s.aj.map aC.ts).length:Int))).bind λtT=>
     some (tT.1,(⟨x7.order,x7.kind,p9.1,mO.2,tT.2⟩:Told),0)
    else none
   else(g57 s p8.1 p9.1).bind λN3=>
   if(ai .eql N3.2 0)=true then
    (M0 N3.1).bind λK6=>
    (Cv x7 (ai .eql N3.2 0)).bind λVZ=>
    if(dJ K6.aj.length (aH .add .i64 (aH .rem .i64 pick ((s.aj.map aC.ts).length:Int)) ((s.aj.map aC.ts).length:Int)))=true then
     (fH K6.aj (aH .add .i64 (aH .rem .i64 pick ((s.aj.map aC.ts).length:Int)) ((s.aj.map aC.ts).length:Int))).bind λ_=>
     (ei (⟨K6.limit,K6.cells,K6.af,K6.aA,K6.aa,((K6.aj).set ((aH .add .i64 (aH .rem .i64 pick ((s.aj.map aC.ts).length:Int)) ((s.aj.map aC.ts).length:Int))).toNat VZ.1),K6.kept⟩:State) (aH .add .i64 (aH .rem .i64 pick ((s.aj.map aC.ts).length:Int)) ((s.aj.map aC.ts).length:Int))).bind λLi=>
     some (Li.1,(⟨x7.order,x7.kind,p9.1,N3.2,Li.2⟩:Told),0)
    else none
   else(M0 s).bind λs7=>
   (Cv x7 (ai .eql N3.2 0)).bind λJt=>
   if(dJ s7.aj.length (aH .add .i64 (aH .rem .i64 pick ((s.aj.map aC.ts).length:Int)) ((s.aj.map aC.ts).length:Int)))=true then
    (fH s7.aj (aH .add .i64 (aH .rem .i64 pick ((s.aj.map aC.ts).length:Int)) ((s.aj.map aC.ts).length:Int))).bind λ_=>
    (ei (⟨s7.limit,s7.cells,s7.af,s7.aA,s7.aa,((s7.aj).set ((aH .add .i64 (aH .rem .i64 pick ((s.aj.map aC.ts).length:Int)) ((s.aj.map aC.ts).length:Int))).toNat Jt.1),s7.kept⟩:State) (aH .add .i64 (aH .rem .i64 pick ((s.aj.map aC.ts).length:Int)) ((s.aj.map aC.ts).length:Int))).bind λXf=>
    some (Xf.1,(⟨x7.order,x7.kind,p9.1,N3.2,Xf.2⟩:Told),0)
   else none
  else(fH s.aj (aH .rem .i64 pick ((s.aj.map aC.ts).length:Int))).bind λx57=>
  (Qv s x57.order).bind λQc=>
  (hnext x57).bind λLl=>
  (hasks Ll.1).bind λp60=>
  if p60=true then
   if(ai .eql v 1)=true then
    (M0 s).bind λp63=>
    (Cv x57 false).bind λJu=>
    if(dJ p63.aj.length (aH .rem .i64 pick ((s.aj.map aC.ts).length:Int)))=true then
     (fH p63.aj (aH .rem .i64 pick ((s.aj.map aC.ts).length:Int))).bind λ_=>
     (ei (⟨p63.limit,p63.cells,p63.af,p63.aA,p63.aa,((p63.aj).set ((aH .rem .i64 pick ((s.aj.map aC.ts).length:Int))).toNat Ju.1),p63.kept⟩:State) (aH .rem .i64 pick ((s.aj.map aC.ts).length:Int))).bind λU7=>
     some (U7.1,(⟨x57.order,x57.kind,Ll.1,10,U7.2⟩:Told),0)
    else none
   else(g57 s Qc.1 Ll.1).bind λU8=>
   if(ai .eql U8.2 0)=true then
    (M0 U8.1).bind λJy=>
    (Cv x57 (ai .eql U8.2 0)).bind λp77=>
    if(dJ Jy.aj.length (aH .rem .i64 pick ((s.aj.map aC.ts).length:Int)))=true then
     (fH Jy.aj (aH .rem .i64 pick ((s.aj.map aC.ts).length:Int))).bind λ_=>
     (ei (⟨Jy.limit,Jy.cells,Jy.af,Jy.aA,Jy.aa,((Jy.aj).set ((aH .rem .i64 pick ((s.aj.map aC.ts).length:Int))).toNat p77.1),Jy.kept⟩:State) (aH .rem .i64 pick ((s.aj.map aC.ts).length:Int))).bind λp80=>
     some (p80.1,(⟨x57.order,x57.kind,Ll.1,U8.2,p80.2⟩:Told),0)
    else none
   else(M0 s).bind λp81=>
   (Cv x57 (ai .eql U8.2 0)).bind λRW=>
   if(dJ p81.aj.length (aH .rem .i64 pick ((s.aj.map aC.ts).length:Int)))=true then
    (fH p81.aj (aH .rem .i64 pick ((s.aj.map aC.ts).length:Int))).bind λ_=>
    (ei (⟨p81.limit,p81.cells,p81.af,p81.aA,p81.aa,((p81.aj).set ((aH .rem .i64 pick ((s.aj.map aC.ts).length:Int))).toNat RW.1),p81.kept⟩:State) (aH .rem .i64 pick ((s.aj.map aC.ts).length:Int))).bind λXF=>
    some (XF.1,(⟨x57.order,x57.kind,Ll.1,U8.2,XF.2⟩:Told),0)
   else none
  else(g57 s Qc.1 Ll.1).bind λp89=>
  if(ai .eql p89.2 0)=true then
   (M0 p89.1).bind λOf=>
   (Cv x57 (ai .eql p89.2 0)).bind λp95=>
   if(dJ Of.aj.length (aH .rem .i64 pick ((s.aj.map aC.ts).length:Int)))=true then
    (fH Of.aj (aH .rem .i64 pick ((s.aj.map aC.ts).length:Int))).bind λ_=>
    (ei (⟨Of.limit,Of.cells,Of.af,Of.aA,Of.aa,((Of.aj).set ((aH .rem .i64 pick ((s.aj.map aC.ts).length:Int))).toNat p95.1),Of.kept⟩:State) (aH .rem .i64 pick ((s.aj.map aC.ts).length:Int))).bind λAl=>
    some (Al.1,(⟨x57.order,x57.kind,Ll.1,p89.2,Al.2⟩:Told),0)
   else none
  else(M0 s).bind λp99=>
  (Cv x57 (ai .eql p89.2 0)).bind λwG=>
  if(dJ p99.aj.length (aH .rem .i64 pick ((s.aj.map aC.ts).length:Int)))=true then
   (fH p99.aj (aH .rem .i64 pick ((s.aj.map aC.ts).length:Int))).bind λ_=>
   (ei (⟨p99.limit,p99.cells,p99.af,p99.aA,p99.aa,((p99.aj).set ((aH .rem .i64 pick ((s.aj.map aC.ts).length:Int))).toNat wG.1),p99.kept⟩:State) (aH .rem .i64 pick ((s.aj.map aC.ts).length:Int))).bind λadH=>
   some (adH.1,(⟨x57.order,x57.kind,Ll.1,p89.2,adH.2⟩:Told),0)
  else none
 else none
instance [Pg P](s:State)(pick:Int)(v:Int)(r:State×Told×Int):bx P 18 (g18 s pick v=some r) [s.av,I6 pick,I8 v] (.cI [r.1.av,r.2.1.av,I6 r.2.2]):=⟨λhR=>by
 have hP:=Pg.h (P:=P);unfold g18 at hR;refine e18 hP ?_;cbv;obtain⟨p1,gM,hR⟩:=az hR;refine aJ gM ?_;cbv;refine aM.i hR ?_ ?_<;>intro c2 hR<;>cbv
 ·cases hR;exact al
 refine aM.i hR ?_ ?_<;>intro c3 hR<;>cbv
 ·cases hR;exact al
 refine aM.i hR ?_ ?_<;>intro c4 hR<;>cbv
 ·cases hR;exact al
 obtain⟨m5,hR⟩:=bl hR;refine bg.mk m5 ?_;cbv;refine aM.i hR ?_ ?_<;>intro c6 hR<;>cbv
 ·obtain⟨x7,OY,hR⟩:=az hR;refine bF.mk _ (iC OY) (aY aC.ts _ _ _ (bn OY)) ?_;cbv;obtain⟨p8,U_,hR⟩:=az hR;refine aJ U_ ?_;cbv;obtain⟨p9,tw,hR⟩:=az hR;refine aJ tw ?_;cbv;obtain⟨pJ,qW,hR⟩:=az hR;refine aJ qW ?_;cbv;refine aM.i hR ?_ ?_<;>intro L5 hR<;>cbv
  ·refine aM.i hR ?_ ?_<;>intro OU hR<;>cbv
   ·obtain⟨z9,B8,hR⟩:=az hR;refine((Si hP s _ B8).args (λw F μ vs hv=>gj.same (base:=0) (by exact(.cons (.pure rfl) .nil)) hv)).frame rfl (λx_ o_ bI=> ?_);obtain⟨Zb,v8,Q2,TA,pZ,Q4,rfl,rfl⟩:=bI;refine⟨[0,1,2],_,_,rfl,.eJ (.cons (.pure rfl) (.cons (.pure rfl) (.cons (.pure rfl) (.cons (.pure rfl) (.cons (.pure rfl) (.cons (.sl (q:=0) rfl rfl rfl rfl) (.cons (.sl (q:=1) rfl rfl rfl rfl) (.cons (.sl (q:=2) rfl rfl rfl rfl) .nil)))))))),(.cons rfl .aL (.cons rfl .aL (.cons rfl .aL .nil))), ?_⟩;cbv;obtain⟨xl,yG,hR⟩:=az hR;refine aJ yG ?_;cbv;obtain⟨m18,hR⟩:=bl hR;refine bg.mk m18 ?_;cbv;obtain⟨Sd,afk,hR⟩:=az hR;refine bF.mk _ (ec _) (cj rfl (bn afk) (eT _)) ?_;cbv;obtain⟨KY,Gz,hR⟩:=az hR;refine(@rt P 59 _ _ _ _ Gz).freeze [7,8,9] (.cons (.eJ (.cons (.int rfl) (.cons (.c .refl) (.cons (.c .refl) (.cons (.c .refl) (.cons (.c .refl) (.cons (.aD rfl rfl rfl rfl rfl) (.cons (.aD rfl (bL (ts:=aC.ts) (l:=z9.aj) xl.1 rfl (Nat.zero_add _) rfl) rfl rfl (bT rfl)) (.cons (.aD rfl rfl rfl rfl rfl) .nil))))))))) (.cons (.int rfl) .nil)) rfl ?_;cbv;exact go
   obtain⟨mO,uC,hR⟩:=az hR;refine aJ uC ?_;cbv;refine aM.i hR ?_ ?_<;>intro WT hR<;>cbv
   ·obtain⟨BE,GA,hR⟩:=az hR;refine((Si hP mO.1 _ GA).args (λw F μ vs hv=>gj.same (base:=0) (by exact(.cons (.pure rfl) .nil)) hv)).frame rfl (λx_ o_ bI=> ?_);obtain⟨TI,k25,k26,Mh,Zh,ag8,rfl,rfl⟩:=bI;refine⟨[0,1,2],_,_,rfl,.eJ (.cons (.pure rfl) (.cons (.pure rfl) (.cons (.pure rfl) (.cons (.pure rfl) (.cons (.pure rfl) (.cons (.sl (q:=0) rfl rfl rfl rfl) (.cons (.sl (q:=1) rfl rfl rfl rfl) (.cons (.sl (q:=2) rfl rfl rfl rfl) .nil)))))))),(.cons rfl .aL (.cons rfl .aL (.cons rfl .aL .nil))), ?_⟩;cbv;obtain⟨N_,Me,hR⟩:=az hR;refine aJ Me ?_;cbv;obtain⟨KX,hR⟩:=bl hR;refine bg.mk KX ?_;cbv;obtain⟨x29,afl,hR⟩:=az hR;refine bF.mk _ (ec _) (cj rfl (bn afl) (eT _)) ?_;cbv;obtain⟨W9,TU,hR⟩:=az hR;refine(@rt P 59 _ _ _ _ TU).freeze [8,9,10] (.cons (.eJ (.cons (.int rfl) (.cons (.c .refl) (.cons (.c .refl) (.cons (.c .refl) (.cons (.c .refl) (.cons (.aD rfl rfl rfl rfl rfl) (.cons (.aD rfl (bL (ts:=aC.ts) (l:=BE.aj) N_.1 rfl (Nat.zero_add _) rfl) rfl rfl (bT rfl)) (.cons (.aD rfl rfl rfl rfl rfl) .nil))))))))) (.cons (.int rfl) .nil)) rfl ?_;cbv;exact go
   obtain⟨E1,afm,hR⟩:=az hR;refine((Si hP s _ afm).args (λw F μ vs hv=>gj.same (base:=0) (by exact(.cons (.pure rfl) .nil)) hv)).frame rfl (λx_ o_ bI=> ?_);obtain⟨Y4,k33,k34,Ts,ag9,ag_,rfl,rfl⟩:=bI;refine⟨[0,1,2],_,_,rfl,.eJ (.cons (.pure rfl) (.cons (.pure rfl) (.cons (.pure rfl) (.cons (.pure rfl) (.cons (.pure rfl) (.cons (.sl (q:=0) rfl rfl rfl rfl) (.cons (.sl (q:=1) rfl rfl rfl rfl) (.cons (.sl (q:=2) rfl rfl rfl rfl) .nil)))))))),(.cons rfl .aL (.cons rfl .aL (.cons rfl .aL .nil))), ?_⟩;cbv;obtain⟨JL,afn,hR⟩:=az hR;refine aJ afn ?_;cbv;obtain⟨Y7,hR⟩:=bl hR;refine bg.mk Y7 ?_;cbv;obtain⟨x37,afo,hR⟩:=az hR;refine bF.mk _ (ec _) (cj rfl (bn afo) (eT _)) ?_;cbv;obtain⟨tT,MW,hR⟩:=az hR;refine(@rt P 59 _ _ _ _ MW).freeze [8,9,10] (.cons (.eJ (.cons (.int rfl) (.cons (.c .refl) (.cons (.c .refl) (.cons (.c .refl) (.cons (.c .refl) (.cons (.aD rfl rfl rfl rfl rfl) (.cons (.aD rfl (bL (ts:=aC.ts) (l:=E1.aj) JL.1 rfl (Nat.zero_add _) rfl) rfl rfl (bT rfl)) (.cons (.aD rfl rfl rfl rfl rfl) .nil))))))))) (.cons (.int rfl) .nil)) rfl ?_;cbv;exact go
  obtain⟨N3,L_,hR⟩:=az hR;refine aJ L_ ?_;cbv;refine aM.i hR ?_ ?_<;>intro WZ hR<;>cbv
  ·obtain⟨K6,Mq,hR⟩:=az hR;refine((Si hP N3.1 _ Mq).args (λw F μ vs hv=>gj.same (base:=0) (by exact(.cons (.pure rfl) .nil)) hv)).frame rfl (λx_ o_ bI=> ?_);obtain⟨R6,Y9,k44,Ve,Tx,aha,rfl,rfl⟩:=bI;refine⟨[0,1,2],_,_,rfl,.eJ (.cons (.pure rfl) (.cons (.pure rfl) (.cons (.pure rfl) (.cons (.pure rfl) (.cons (.pure rfl) (.cons (.sl (q:=0) rfl rfl rfl rfl) (.cons (.sl (q:=1) rfl rfl rfl rfl) (.cons (.sl (q:=2) rfl rfl rfl rfl) .nil)))))))),(.cons rfl .aL (.cons rfl .aL (.cons rfl .aL .nil))), ?_⟩;cbv;obtain⟨VZ,afp,hR⟩:=az hR;refine aJ afp ?_;cbv;obtain⟨m46,hR⟩:=bl hR;refine bg.mk m46 ?_;cbv;obtain⟨x47,_R,hR⟩:=az hR;refine bF.mk _ (ec _) (cj rfl (bn _R) (eT _)) ?_;cbv;obtain⟨Li,Uq,hR⟩:=az hR;refine(@rt P 59 _ _ _ _ Uq).freeze [8,9,10] (.cons (.eJ (.cons (.int rfl) (.cons (.c .refl) (.cons (.c .refl) (.cons (.c .refl) (.cons (.c .refl) (.cons (.aD rfl rfl rfl rfl rfl) (.cons (.aD rfl (bL (ts:=aC.ts) (l:=K6.aj) VZ.1 rfl (Nat.zero_add _) rfl) rfl rfl (bT rfl)) (.cons (.aD rfl rfl rfl rfl rfl) .nil))))))))) (.cons (.int rfl) .nil)) rfl ?_;cbv;exact go
  obtain⟨s7,afq,hR⟩:=az hR;refine((Si hP s _ afq).args (λw F μ vs hv=>gj.same (base:=0) (by exact(.cons (.pure rfl) .nil)) hv)).frame rfl (λx_ o_ bI=> ?_);obtain⟨k50,k51,k52,ahc,ahd,ahe,rfl,rfl⟩:=bI;refine⟨[0,1,2],_,_,rfl,.eJ (.cons (.pure rfl) (.cons (.pure rfl) (.cons (.pure rfl) (.cons (.pure rfl) (.cons (.pure rfl) (.cons (.sl (q:=0) rfl rfl rfl rfl) (.cons (.sl (q:=1) rfl rfl rfl rfl) (.cons (.sl (q:=2) rfl rfl rfl rfl) .nil)))))))),(.cons rfl .aL (.cons rfl .aL (.cons rfl .aL .nil))), ?_⟩;cbv;obtain⟨Jt,G1,hR⟩:=az hR;refine aJ G1 ?_;cbv;obtain⟨m54,hR⟩:=bl hR;refine bg.mk m54 ?_;cbv;obtain⟨x55,afr,hR⟩:=az hR;refine bF.mk _ (ec _) (cj rfl (bn afr) (eT _)) ?_;cbv;obtain⟨Xf,Ua,hR⟩:=az hR;refine(@rt P 59 _ _ _ _ Ua).freeze [8,9,10] (.cons (.eJ (.cons (.int rfl) (.cons (.c .refl) (.cons (.c .refl) (.cons (.c .refl) (.cons (.c .refl) (.cons (.aD rfl rfl rfl rfl rfl) (.cons (.aD rfl (bL (ts:=aC.ts) (l:=s7.aj) Jt.1 rfl (Nat.zero_add _) rfl) rfl rfl (bT rfl)) (.cons (.aD rfl rfl rfl rfl rfl) .nil))))))))) (.cons (.int rfl) .nil)) rfl ?_;cbv;exact go
 obtain⟨x57,ael,hR⟩:=az hR;refine bF.mk _ (iC ael) (aY aC.ts _ _ _ (bn ael)) ?_;cbv;obtain⟨Qc,UR,hR⟩:=az hR;refine aJ UR ?_;cbv;obtain⟨Ll,Vh,hR⟩:=az hR;refine aJ Vh ?_;cbv;obtain⟨p60,afs,hR⟩:=az hR;refine aJ afs ?_;cbv;refine aM.i hR ?_ ?_<;>intro c61 hR<;>cbv
 ·refine aM.i hR ?_ ?_<;>intro YS hR<;>cbv
  ·obtain⟨p63,aft,hR⟩:=az hR;refine((Si hP s _ aft).args (λw F μ vs hv=>gj.same (base:=0) (by exact(.cons (.pure rfl) .nil)) hv)).frame rfl (λx_ o_ bI=> ?_);obtain⟨k64,k65,k66,ahg,ahh,ahi,rfl,rfl⟩:=bI;refine⟨[0,1,2],_,_,rfl,.eJ (.cons (.pure rfl) (.cons (.pure rfl) (.cons (.pure rfl) (.cons (.pure rfl) (.cons (.pure rfl) (.cons (.sl (q:=0) rfl rfl rfl rfl) (.cons (.sl (q:=1) rfl rfl rfl rfl) (.cons (.sl (q:=2) rfl rfl rfl rfl) .nil)))))))),(.cons rfl .aL (.cons rfl .aL (.cons rfl .aL .nil))), ?_⟩;cbv;obtain⟨Ju,US,hR⟩:=az hR;refine aJ US ?_;cbv;obtain⟨m68,hR⟩:=bl hR;refine bg.mk m68 ?_;cbv;obtain⟨x69,afu,hR⟩:=az hR;refine bF.mk _ (ec _) (cj rfl (bn afu) (eT _)) ?_;cbv;obtain⟨U7,Vk,hR⟩:=az hR;refine(@rt P 59 _ _ _ _ Vk).freeze [7,8,9] (.cons (.eJ (.cons (.int rfl) (.cons (.c .refl) (.cons (.c .refl) (.cons (.c .refl) (.cons (.c .refl) (.cons (.aD rfl rfl rfl rfl rfl) (.cons (.aD rfl (bL (ts:=aC.ts) (l:=p63.aj) Ju.1 rfl (Nat.zero_add _) rfl) rfl rfl (bT rfl)) (.cons (.aD rfl rfl rfl rfl rfl) .nil))))))))) (.cons (.int rfl) .nil)) rfl ?_;cbv;exact go
  obtain⟨U8,Vl,hR⟩:=az hR;refine aJ Vl ?_;cbv;refine aM.i hR ?_ ?_<;>intro c72 hR<;>cbv
  ·obtain⟨Jy,Vn,hR⟩:=az hR;refine((Si hP U8.1 _ Vn).args (λw F μ vs hv=>gj.same (base:=0) (by exact(.cons (.pure rfl) .nil)) hv)).frame rfl (λx_ o_ bI=> ?_);obtain⟨Vo,Vq,R9,Vp,Vr,Vs,rfl,rfl⟩:=bI;refine⟨[0,1,2],_,_,rfl,.eJ (.cons (.pure rfl) (.cons (.pure rfl) (.cons (.pure rfl) (.cons (.pure rfl) (.cons (.pure rfl) (.cons (.sl (q:=0) rfl rfl rfl rfl) (.cons (.sl (q:=1) rfl rfl rfl rfl) (.cons (.sl (q:=2) rfl rfl rfl rfl) .nil)))))))),(.cons rfl .aL (.cons rfl .aL (.cons rfl .aL .nil))), ?_⟩;cbv;obtain⟨p77,afv,hR⟩:=az hR;refine aJ afv ?_;cbv;obtain⟨m78,hR⟩:=bl hR;refine bg.mk m78 ?_;cbv;obtain⟨x79,afw,hR⟩:=az hR;refine bF.mk _ (ec _) (cj rfl (bn afw) (eT _)) ?_;cbv;obtain⟨p80,afx,hR⟩:=az hR;refine(@rt P 59 _ _ _ _ afx).freeze [8,9,10] (.cons (.eJ (.cons (.int rfl) (.cons (.c .refl) (.cons (.c .refl) (.cons (.c .refl) (.cons (.c .refl) (.cons (.aD rfl rfl rfl rfl rfl) (.cons (.aD rfl (bL (ts:=aC.ts) (l:=Jy.aj) p77.1 rfl (Nat.zero_add _) rfl) rfl rfl (bT rfl)) (.cons (.aD rfl rfl rfl rfl rfl) .nil))))))))) (.cons (.int rfl) .nil)) rfl ?_;cbv;exact go
  obtain⟨p81,afy,hR⟩:=az hR;refine((Si hP s _ afy).args (λw F μ vs hv=>gj.same (base:=0) (by exact(.cons (.pure rfl) .nil)) hv)).frame rfl (λx_ o_ bI=> ?_);obtain⟨k82,k83,k84,ahl,ahm,ahn,rfl,rfl⟩:=bI;refine⟨[0,1,2],_,_,rfl,.eJ (.cons (.pure rfl) (.cons (.pure rfl) (.cons (.pure rfl) (.cons (.pure rfl) (.cons (.pure rfl) (.cons (.sl (q:=0) rfl rfl rfl rfl) (.cons (.sl (q:=1) rfl rfl rfl rfl) (.cons (.sl (q:=2) rfl rfl rfl rfl) .nil)))))))),(.cons rfl .aL (.cons rfl .aL (.cons rfl .aL .nil))), ?_⟩;cbv;obtain⟨RW,Uu,hR⟩:=az hR;refine aJ Uu ?_;cbv;obtain⟨m86,hR⟩:=bl hR;refine bg.mk m86 ?_;cbv;obtain⟨x87,afz,hR⟩:=az hR;refine bF.mk _ (ec _) (cj rfl (bn afz) (eT _)) ?_;cbv;obtain⟨XF,UY,hR⟩:=az hR;refine(@rt P 59 _ _ _ _ UY).freeze [8,9,10] (.cons (.eJ (.cons (.int rfl) (.cons (.c .refl) (.cons (.c .refl) (.cons (.c .refl) (.cons (.c .refl) (.cons (.aD rfl rfl rfl rfl rfl) (.cons (.aD rfl (bL (ts:=aC.ts) (l:=p81.aj) RW.1 rfl (Nat.zero_add _) rfl) rfl rfl (bT rfl)) (.cons (.aD rfl rfl rfl rfl rfl) .nil))))))))) (.cons (.int rfl) .nil)) rfl ?_;cbv;exact go
 obtain⟨p89,afA,hR⟩:=az hR;refine aJ afA ?_;cbv;refine aM.i hR ?_ ?_<;>intro c90 hR<;>cbv
 ·obtain⟨Of,ML,hR⟩:=az hR;refine((Si hP p89.1 _ ML).args (λw F μ vs hv=>gj.same (base:=0) (by exact(.cons (.pure rfl) .nil)) hv)).frame rfl (λx_ o_ bI=> ?_);obtain⟨k92,k93,k94,ahp,ahq,ahr,rfl,rfl⟩:=bI;refine⟨[0,1,2],_,_,rfl,.eJ (.cons (.pure rfl) (.cons (.pure rfl) (.cons (.pure rfl) (.cons (.pure rfl) (.cons (.pure rfl) (.cons (.sl (q:=0) rfl rfl rfl rfl) (.cons (.sl (q:=1) rfl rfl rfl rfl) (.cons (.sl (q:=2) rfl rfl rfl rfl) .nil)))))))),(.cons rfl .aL (.cons rfl .aL (.cons rfl .aL .nil))), ?_⟩;cbv;obtain⟨p95,afB,hR⟩:=az hR;refine aJ afB ?_;cbv;obtain⟨m96,hR⟩:=bl hR;refine bg.mk m96 ?_;cbv;obtain⟨x97,afC,hR⟩:=az hR;refine bF.mk _ (ec _) (cj rfl (bn afC) (eT _)) ?_;cbv;obtain⟨Al,MM,hR⟩:=az hR;refine(@rt P 59 _ _ _ _ MM).freeze [8,9,10] (.cons (.eJ (.cons (.int rfl) (.cons (.c .refl) (.cons (.c .refl) (.cons (.c .refl) (.cons (.c .refl) (.cons (.aD rfl rfl rfl rfl rfl) (.cons (.aD rfl (bL (ts:=aC.ts) (l:=Of.aj) p95.1 rfl (Nat.zero_add _) rfl) rfl rfl (bT rfl)) (.cons (.aD rfl rfl rfl rfl rfl) .nil))))))))) (.cons (.int rfl) .nil)) rfl ?_;cbv;exact go
 obtain⟨p99,afD,hR⟩:=az hR;refine((Si hP s _ afD).args (λw F μ vs hv=>gj.same (base:=0) (by exact(.cons (.pure rfl) .nil)) hv)).frame rfl (λx_ o_ bI=> ?_);obtain⟨aht,ahu,ahv,afV,afW,afX,rfl,rfl⟩:=bI;refine⟨[0,1,2],_,_,rfl,.eJ (.cons (.pure rfl) (.cons (.pure rfl) (.cons (.pure rfl) (.cons (.pure rfl) (.cons (.pure rfl) (.cons (.sl (q:=0) rfl rfl rfl rfl) (.cons (.sl (q:=1) rfl rfl rfl rfl) (.cons (.sl (q:=2) rfl rfl rfl rfl) .nil)))))))),(.cons rfl .aL (.cons rfl .aL (.cons rfl .aL .nil))), ?_⟩;cbv;obtain⟨wG,Qs,hR⟩:=az hR;refine aJ Qs ?_;cbv;obtain⟨afE,hR⟩:=bl hR;refine bg.mk afE ?_;cbv;obtain⟨ahw,aem,hR⟩:=az hR;refine bF.mk _ (ec _) (cj rfl (bn aem) (eT _)) ?_;cbv;obtain⟨adH,aen,hR⟩:=az hR;refine(@rt P 59 _ _ _ _ aen).freeze [8,9,10] (.cons (.eJ (.cons (.int rfl) (.cons (.c .refl) (.cons (.c .refl) (.cons (.c .refl) (.cons (.c .refl) (.cons (.aD rfl rfl rfl rfl rfl) (.cons (.aD rfl (bL (ts:=aC.ts) (l:=p99.aj) wG.1 rfl (Nat.zero_add _) rfl) rfl rfl (bT rfl)) (.cons (.aD rfl rfl rfl rfl rfl) .nil))))))))) (.cons (.int rfl) .nil)) rfl ?_;cbv;exact go⟩
end Go.Proofs.aaa
end
