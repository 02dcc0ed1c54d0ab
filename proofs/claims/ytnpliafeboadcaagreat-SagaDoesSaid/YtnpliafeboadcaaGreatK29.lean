/- Texts that the law leans on, part 29. No conditions. -/
import Derived.Test.YtnpliafeboadcaaGreatK28
section
namespace Go.Proofs.aaa
open Go.bA Go.IntWalk
variable{P:Program}
set_option maxHeartbeats 4000000
set_option maxRecDepth 20000
def UZ (s:State)(a:Ask):Option (State×bz):=
 if(ai .lss a.order 1)=true then
  (g94 s 2).bind λp2=>
  some (p2.1,p2.2)
 else if(ai .gtr a.order 1024)=true then
  (g94 s 2).bind λp4=>
  some (p4.1,p4.2)
 else(g71 a.lines).bind λp5=>
 (Qv s a.order).bind λp6=>
 if(ai .neq p5.2 0)=true then
  (g94 s p5.2).bind λp8=>
  some (p8.1,p8.2)
 else if p6.2=true then
  (g94 s 12).bind λpJ=>
  some (pJ.1,pJ.2)
 else if(ai .geq ((s.aa.map Order.ts).length:Int) s.limit)=true then
  (g94 s 7).bind λqb=>
  some (qb.1,qb.2)
 else if(decide ((([]:List aU)++a.lines).length*32<=140737488355328))=true then
  (M0 s).bind λCh=>
  (iB (λ(eS:Int)=>
   if(ai .lss eS (Int.ofNat Ch.aa.length))=true then
    if(dJ Ch.aa.length eS)=true then
     (fH Ch.aa eS).bind λJD=>
     if(ai .lss JD.id a.order)=true then
      some (.inl (aH .add .i64 eS 1))
     else some (.inr eS)
    else none
   else some (.inr eS)) 1000000 0:Option (Int)).bind λr37=>
  if(decide (0<=r37/\r37<=(Int.ofNat Ch.aa.length)/\(Int.ofNat Ch.aa.length)<=(Ch.aa.length:Int)))=true then
   if(decide ((([]:List Order)++AM Ch.aa r37 (Int.ofNat Ch.aa.length)).length*48<=140737488355328))=true then
    if(decide (0<=(0:Int)/\(0:Int)<=r37/\r37<=(Ch.aa.length:Int)))=true then
     if(decide (((Ch.aa.take (r37).toNat)++[(⟨a.order,(([]:List aU)++a.lines),p5.1,1⟩:Order)]).length*48<=140737488355328))=true then
      if(decide ((((Ch.aa.take (r37).toNat)++[(⟨a.order,(([]:List aU)++a.lines),p5.1,1⟩:Order)])++(([]:List Order)++AM Ch.aa r37 (Int.ofNat Ch.aa.length))).length*48<=140737488355328))=true then
       if(decide ((Ch.aj++[(⟨a.order,1,0,false⟩:aC)]).length*32<=140737488355328))=true then
        some ((⟨Ch.limit,Ch.cells,Ch.af,Ch.aA,(((Ch.aa.take (r37).toNat)++[(⟨a.order,(([]:List aU)++a.lines),p5.1,1⟩:Order)])++(([]:List Order)++AM Ch.aa r37 (Int.ofNat Ch.aa.length))),(Ch.aj++[(⟨a.order,1,0,false⟩:aC)]),Ch.kept⟩:State),(⟨0,1,p5.1⟩:bz))
       else none
      else none
     else none
    else none
   else none
  else none
 else none
instance [Pg P](s:State)(a:Ask)(r:State×bz):bx P 90 (UZ s a=some r) [s.av,a.av] (.cI [r.1.av,r.2.av]):=⟨λhR=>by
 have hP:=Pg.h (P:=P);unfold UZ at hR;refine e90 hP ?_;cbv;refine aM.i hR ?_ ?_<;>intro c1 hR<;>cbv
 ·exact go
 refine aM.i hR ?_ ?_<;>intro c3 hR<;>cbv
 ·exact go
 obtain⟨p5,Ma,hR⟩:=az hR;refine aJ Ma ?_;cbv;obtain⟨p6,GL,hR⟩:=az hR;refine aJ GL ?_;cbv;refine aM.i hR ?_ ?_<;>intro c7 hR<;>cbv
 ·exact go
 refine aM.i hR ?_ ?_<;>intro c9 hR<;>cbv
 ·exact go
 refine aM.i hR ?_ ?_<;>intro L5 hR<;>cbv
 ·exact go
 obtain⟨ZA,hR⟩:=bl hR;refine aR.cut (γ:=({c_:Nat//(([]:List aU)++a.lines).length<=c_})) (n:=119) (λg15=>[(2,.ref 0 0),(3,.ref 1 0),(4,.ref 2 0),(5,.ref 3 0),(6,I6 p5.1),(10,.ref 4 0)]) (λg15=>[.box [I6 s.limit,aq Cell.ts 6 s.cells,aq aQ.ts 4 s.af.aK,aq au.ts 4 s.af.ak,aq ah.ts 2 s.aA,aq Order.ts 4 s.aa,aq aC.ts 4 s.aj,aq Kept.ts 4 s.kept],.box [AS (.th λ_=>a.mark),I8 a.kind,I6 a.order,aq aU.ts 4 a.lines],.box [AI .i64 (.lit 0),.c (.lit (.slice none 0 0)),.c (.lit (.slice none 0 0)),.c (.lit (.slice none 0 0)),.c (.lit (.slice none 0 0)),.c (.lit (.slice none 0 0)),.c (.lit (.slice none 0 0)),.c (.lit (.slice none 0 0))],.box [AI .i64 (.lit 0),AI .u8 (.lit 0),AI .i64 (.lit 0)],.box [I6 a.order,.sl 5 4 (.lit 0) (.th λ_=>(([]:List aU)++a.lines).length) (.th λ_=>g15.val),I6 p5.1,AI .u8 (.lit 1)],aL aU.ts 4 (([]:List aU)++a.lines) g15.val]) (λB hB=>ord) (λg15=> ?_);cbv;obtain⟨Ch,Mg,hR⟩:=az hR;refine((Si hP s _ Mg).args (λw F μ vs hv=>gj.same (base:=0) (by exact(.cons (.pure rfl) .nil)) hv)).frame rfl (λx_ o_ bI=> ?_);obtain⟨wH,k18,k19,EO,Zf,Zg,rfl,rfl⟩:=bI;refine⟨[0,1,2],_,_,rfl,.eJ (.cons (.pure rfl) (.cons (.pure rfl) (.cons (.pure rfl) (.cons (.pure rfl) (.cons (.pure rfl) (.cons (.sl (q:=0) rfl rfl rfl rfl) (.cons (.sl (q:=1) rfl rfl rfl rfl) (.cons (.sl (q:=2) rfl rfl rfl rfl) .nil)))))))),(.cons rfl .aL (.cons rfl .aL (.cons rfl .aL .nil))), ?_⟩;cbv;refine lq (ty hP) (γ:=(λeS=>Unit)) (γ':=(λ_=>Unit)) 119 (λeS EN=>[(3,.ref 0 0),(4,.ref 1 0),(5,.ref 2 0),(6,I6 p5.1),(10,.ref 3 0),(11,.ref 5 0),(12,I6 eS)]) (λeS EN=>[.box [AS (.th λ_=>a.mark),I8 a.kind,I6 a.order,aq aU.ts 4 a.lines],.box [AI .i64 (.lit 0),.c (.lit (.slice none 0 0)),.c (.lit (.slice none 0 0)),.c (.lit (.slice none 0 0)),.c (.lit (.slice none 0 0)),.c (.lit (.slice none 0 0)),.c (.lit (.slice none 0 0)),.c (.lit (.slice none 0 0))],.box [AI .i64 (.lit 0),AI .u8 (.lit 0),AI .i64 (.lit 0)],.box [I6 a.order,.sl 4 4 (.lit 0) (.th λ_=>(([]:List aU)++a.lines).length) (.th λ_=>g15.val),I6 p5.1,AI .u8 (.lit 1)],aL aU.ts 4 (([]:List aU)++a.lines) g15.val,.box [I6 Ch.limit,aq Cell.ts 6 Ch.cells,aq aQ.ts 4 Ch.af.aK,aq au.ts 4 Ch.af.ak,aq ah.ts 2 Ch.aA,.sl 6 4 (.lit 0) (.th λ_=>Ch.aa.length) (.th λ_=>wH),.sl 7 4 (.lit 0) (.th λ_=>Ch.aj.length) (.th λ_=>k18),.sl 8 4 (.lit 0) (.th λ_=>Ch.kept.length) (.th λ_=>k19)],aL Order.ts 4 Ch.aa wH,aL aC.ts 4 Ch.aj k18,aL Kept.ts 4 Ch.kept k19]) (λr_ g_=>(AE.exit 1,sp 119 [(3,.ref 0 0),(4,.ref 1 0),(5,.ref 2 0),(6,I6 p5.1),(10,.ref 3 0),(11,.ref 5 0),(12,I6 r_)],[.box [AS (.th λ_=>a.mark),I8 a.kind,I6 a.order,aq aU.ts 4 a.lines],.box [AI .i64 (.lit 0),.c (.lit (.slice none 0 0)),.c (.lit (.slice none 0 0)),.c (.lit (.slice none 0 0)),.c (.lit (.slice none 0 0)),.c (.lit (.slice none 0 0)),.c (.lit (.slice none 0 0)),.c (.lit (.slice none 0 0))],.box [AI .i64 (.lit 0),AI .u8 (.lit 0),AI .i64 (.lit 0)],.box [I6 a.order,.sl 4 4 (.lit 0) (.th λ_=>(([]:List aU)++a.lines).length) (.th λ_=>g15.val),I6 p5.1,AI .u8 (.lit 1)],aL aU.ts 4 (([]:List aU)++a.lines) g15.val,.box [I6 Ch.limit,aq Cell.ts 6 Ch.cells,aq aQ.ts 4 Ch.af.aK,aq au.ts 4 Ch.af.ak,aq ah.ts 2 Ch.aA,.sl 6 4 (.lit 0) (.th λ_=>Ch.aa.length) (.th λ_=>wH),.sl 7 4 (.lit 0) (.th λ_=>Ch.aj.length) (.th λ_=>k18),.sl 8 4 (.lit 0) (.th λ_=>Ch.kept.length) (.th λ_=>k19)],aL Order.ts 4 Ch.aa wH,aL aC.ts 4 Ch.aj k18,aL Kept.ts 4 Ch.kept k19])) () hR (Gi [1,2,3,4,5,9,6,7,8]) ?_ ?_
 ·intro eS EN y25 hR J B hJ hB;cbv;refine aR.cS (ty hP) (mo hP) rfl ?_;cbv;(iterate 6 (refine aS.z ?_;cbv));refine aM.i hR ?_ ?_<;>intro c32 hR<;>cbv
  ·(iterate 3 (refine aS.z ?_;cbv));obtain⟨m33,hR⟩:=bl hR;apply aS.is
   ·intro J hJ;cbv;refine bg.mk m33 ?_;cbv;exact hJ
   cbv;refine aS.z ?_;cbv;obtain⟨JD,VA,hR⟩:=az hR;apply aS.is
   ·intro J hJ;cbv;refine bF.mk _ (ec _) (cj rfl (bn VA) (eT _)) ?_;cbv;exact hJ
   exact go
  exact go
 intro r37 g38 hR;cbv;obtain⟨Tw,hR⟩:=bl hR;refine bg.mk (hM (of_decide_eq_true Tw) EO) ?_;cbv;obtain⟨m40,hR⟩:=bl hR;refine abt (ty hP) (e:=72) rfl rfl rfl (by simp) (by decide) ([]:List Order) Ch.aa r37 (Int.ofNat Ch.aa.length) rfl rfl (by decide) rfl rfl rfl rfl (λ_=>rfl) rfl rfl (of_decide_eq_true Tw) EO rfl rfl (of_decide_eq_true m40) (λVc Vd=> ?_);cbv;refine aR.cS (ty hP) (mo hP) rfl ?_;cbv;(iterate 3 (refine aS.z ?_;cbv));obtain⟨Y8,hR⟩:=bl hR;apply aS.is
 ·intro J hJ;cbv;refine bg.mk (hM (of_decide_eq_true Y8) EO) ?_;cbv;exact hJ
 cbv
 (iterate 2 (refine aS.z ?_;cbv));refine bZ.mk (aZ.cons rfl (aZ.cons rfl aZ.nil)) ?_;cbv;obtain⟨m43,hR⟩:=bl hR
 refine fe.XR (s':=.sl 6 4 (.th λ_=>(bP 0 (0:Int) (Int.ofNat wH))) (.th λ_=>((r37 -(0:Int)).toNat)) (.th λ_=>(((Int.ofNat wH) -(0:Int)).toNat))) (x':=.sl 11 4 (.lit 0) (.lit 1) (.lit 1)) (cc:=[.box [AS (.th λ_=>a.mark),I8 a.kind,I6 a.order,aq aU.ts 4 a.lines],.box [AI .i64 (.lit 0),.c (.lit (.slice none 0 0)),.c (.lit (.slice none 0 0)),.c (.lit (.slice none 0 0)),.c (.lit (.slice none 0 0)),.c (.lit (.slice none 0 0)),.c (.lit (.slice none 0 0)),.c (.lit (.slice none 0 0))],.box [AI .i64 (.lit 0),AI .u8 (.lit 0),AI .i64 (.lit 0)],.box [I6 a.order,aq aU.ts 4 (([]:List aU)++a.lines),I6 p5.1,AI .u8 (.lit 1)],.dead,.box [I6 Ch.limit,aq Cell.ts 6 Ch.cells,aq aQ.ts 4 Ch.af.aK,aq au.ts 4 Ch.af.ak,aq ah.ts 2 Ch.aA,.sl 6 4 (.lit 0) (.th λ_=>Ch.aa.length) (.th λ_=>wH),.sl 7 4 (.lit 0) (.th λ_=>Ch.aj.length) (.th λ_=>k18),.sl 8 4 (.lit 0) (.th λ_=>Ch.kept.length) (.th λ_=>k19)],aL Order.ts 4 Ch.aa wH,aL aC.ts 4 Ch.aj k18,aL Kept.ts 4 Ch.kept k19,.dead,aL Order.ts 4 (([]:List Order)++AM Ch.aa r37 (Int.ofNat Ch.aa.length)) Vc,.arr 4 (.lit [[I6 a.order,aq aU.ts 4 (([]:List aU)++a.lines),I6 p5.1,AI .u8 (.lit 1)]]) (.lit 4)]) [0,1,2,3,1004,5,6,7,8,9,10,11] rfl rfl (.cons (.sl (q:=6) rfl rfl rfl rfl) (.cons (.sl (q:=11) rfl rfl rfl rfl) .nil)) (.cons rfl (.aN (.cons (.pure rfl) (.cons (.pure rfl) (.cons (.pure rfl) (.cons (.pure rfl) .nil))))) (.cons rfl (.aN (.cons (.pure rfl) (.cons (.pure rfl) (.cons (.pure rfl) (.cons (.pure rfl) (.cons (.pure rfl) (.cons (.pure rfl) (.cons (.pure rfl) (.cons (.pure rfl) .nil))))))))) (.cons rfl (.aN (.cons (.pure rfl) (.cons (.pure rfl) (.cons (.pure rfl) .nil)))) (.cons rfl (.aN (.cons (.pure rfl) (.cons (.aD rfl rfl rfl rfl rfl) (.cons (.pure rfl) (.cons (.pure rfl) .nil))))) (.kill (y:=.dead) rfl trivial (.cons rfl (.aN (.cons (.pure rfl) (.cons (.pure rfl) (.cons (.pure rfl) (.cons (.pure rfl) (.cons (.pure rfl) (.cons (.sl (q:=6) rfl rfl rfl rfl) (.cons (.sl (q:=7) rfl rfl rfl rfl) (.cons (.sl (q:=8) rfl rfl rfl rfl) .nil))))))))) (.cons rfl (.aD rfl rfl) (.cons rfl (.aD rfl rfl) (.cons rfl (.aD rfl rfl) (.cons rfl .dead (.cons rfl (.aD rfl rfl) (.cons rfl (.jx (.cons (.pure rfl) (.cons (.aD rfl rfl rfl rfl rfl) (.cons (.pure rfl) (.cons (.pure rfl) .nil)))) rfl) .nil)))))))))))) ?_;refine abu (ty hP) (e:=72) rfl rfl rfl (by simp) (by decide) Ch.aa r37 (⟨a.order,(([]:List aU)++a.lines),p5.1,1⟩:Order) rfl rfl (by decide) (by exact ac7 _) (of_decide_eq_true Y8) rfl rfl rfl rfl (λ_=>rfl) (by decide) rfl rfl (by exact(.cons (.int rfl) (.cons (.c .refl) (.cons (.int rfl) (.cons (.int rfl) .nil))))) (of_decide_eq_true m43) (λk44 aha=> ?_);cbv;obtain⟨Mk,hR⟩:=bl hR;refine ab7 (ty hP) (e:=72) rfl rfl rfl (by simp) (by decide) ((Ch.aa.take (r37).toNat)++[(⟨a.order,(([]:List aU)++a.lines),p5.1,1⟩:Order)]) (([]:List Order)++AM Ch.aa r37 (Int.ofNat Ch.aa.length)) rfl rfl (by decide) rfl rfl rfl rfl (λ_=>rfl) rfl rfl rfl rfl (of_decide_eq_true Mk) (λTX Ml=> ?_);cbv;exact go⟩
def g91 (s:State)(a:Ask):Option (State×bz):=
 (Qv s a.order).bind λp1=>
 if(!p1.2)=true then
  (g94 s 11).bind λp3=>
  some (p3.1,p3.2)
 else if(ai .neq p1.1.status 1)=true then
  (g94 s 9).bind λp5=>
  some (p5.1,p5.2)
 else(Q3 s a.order 4).bind λp6=>
 (ac9 p6 a.order).bind λp9=>
 if(dJ p6.aj.length p9)=true then
  (fH p6.aj p9).bind λGK=>
  (ei (⟨p6.limit,p6.cells,p6.af,p6.aA,p6.aa,((((p6.aj).set (p9).toNat (⟨GK.order,2,GK.pos,GK.aO⟩:aC))).set (p9).toNat (⟨(⟨GK.order,2,GK.pos,GK.aO⟩:aC).order,(⟨GK.order,2,GK.pos,GK.aO⟩:aC).kind,(⟨GK.order,2,GK.pos,GK.aO⟩:aC).pos,true⟩:aC)),p6.kept⟩:State) p9).bind λqb=>
  (Qv qb.1 a.order).bind λz9=>
  some (qb.1,(⟨0,z9.1.status,z9.1.aP⟩:bz))
 else none
instance [Pg P](s:State)(a:Ask)(r:State×bz):bx P 91 (g91 s a=some r) [s.av,a.av] (.cI [r.1.av,r.2.av]):=⟨λhR=>by
 have hP:=Pg.h (P:=P);unfold g91 at hR;refine e91 hP ?_;cbv;obtain⟨p1,gM,hR⟩:=az hR;refine aJ gM ?_;cbv;refine aM.i hR ?_ ?_<;>intro c2 hR<;>cbv
 ·exact go
 refine aM.i hR ?_ ?_<;>intro c4 hR<;>cbv
 ·exact go
 obtain⟨p6,GL,hR⟩:=az hR;refine((abN hP s a.order 4 _ GL).args (λw F μ vs hv=>gj.same (base:=0) (by exact(.cons (.pure rfl) (.cons (.int rfl) (.cons (.int rfl) .nil)))) hv)).frame rfl (λx_ o_ bI=> ?_);obtain⟨k7,k8,hk7,FY,rfl,rfl⟩:=bI;refine⟨[0,1],_,_,rfl,.eJ (.cons (.pure rfl) (.cons (.pure rfl) (.cons (.pure rfl) (.cons (.pure rfl) (.cons (.pure rfl) (.cons (.sl (q:=0) rfl rfl rfl rfl) (.cons (.sl (q:=1) rfl rfl rfl rfl) (.cons (.pure rfl) .nil)))))))),(.cons rfl .aL (.cons rfl .aL .nil)), ?_⟩;cbv;obtain⟨p9,tw,hR⟩:=az hR;refine(@rt P 143 _ _ _ _ tw).Hs (.own (.aeC (.cons (.pure rfl) (.cons (.pure rfl) (.cons (.pure rfl) (.cons (.pure rfl) (.cons (.pure rfl) (.cons (.AN rfl rfl rfl rfl) (.cons (.AN rfl rfl rfl rfl) (.cons (.pure rfl) .nil))))))))) (.pure rfl (.int rfl) .nil)) rfl ?_;cbv;obtain⟨ZM,hR⟩:=bl hR;refine bg.mk ZM ?_;cbv;obtain⟨GK,Cl,hR⟩:=az hR;refine bF.mk _ (ec _) (cj rfl (bn Cl) (eT _)) ?_;cbv;refine bg.mk ZM ?_;cbv;refine bF.mk _ (ec _) (cj (bL (ts:=aC.ts) (l:=p6.aj) (⟨GK.order,2,GK.pos,GK.aO⟩:aC) rfl (Nat.zero_add _) rfl) (tN (bn Cl)) (eT _)) ?_;cbv;obtain⟨qb,Ce,hR⟩:=az hR;refine(@rt P 59 _ _ _ _ Ce).freeze [5,6] (.cons (.eJ (.cons (.int rfl) (.cons (.c .refl) (.cons (.c .refl) (.cons (.c .refl) (.cons (.c .refl) (.cons (.aD rfl rfl rfl rfl rfl) (.cons (.aD rfl (bL (ts:=aC.ts) (l:=((p6.aj).set (p9).toNat (⟨GK.order,2,GK.pos,GK.aO⟩:aC))) (⟨(⟨GK.order,2,GK.pos,GK.aO⟩:aC).order,(⟨GK.order,2,GK.pos,GK.aO⟩:aC).kind,(⟨GK.order,2,GK.pos,GK.aO⟩:aC).pos,true⟩:aC) (bL (ts:=aC.ts) (l:=p6.aj) (⟨GK.order,2,GK.pos,GK.aO⟩:aC) rfl (Nat.zero_add _) rfl) (Nat.zero_add _) rfl) rfl rfl (bT (bT rfl))) (.cons (.c .refl) .nil))))))))) (.cons (.int rfl) .nil)) rfl ?_;cbv;exact go⟩
def g92 (s:State)(a:Ask):Option (State×bz):=
 (Qv s a.order).bind λp1=>
 if(!p1.2)=true then
  (g94 s 11).bind λp3=>
  some (p3.1,p3.2)
 else if(ai .neq p1.1.status 3)=true then
  (g94 s 9).bind λp5=>
  some (p5.1,p5.2)
 else(Q3 s a.order 6).bind λp6=>
 if(decide ((p6.aj++[(⟨a.order,3,0,false⟩:aC)]).length*32<=140737488355328))=true then
  some ((⟨p6.limit,p6.cells,p6.af,p6.aA,p6.aa,(p6.aj++[(⟨a.order,3,0,false⟩:aC)]),p6.kept⟩:State),(⟨0,6,p1.1.aP⟩:bz))
 else none
instance [Pg P](s:State)(a:Ask)(r:State×bz):bx P 92 (g92 s a=some r) [s.av,a.av] (.cI [r.1.av,r.2.av]):=⟨λhR=>by
 have hP:=Pg.h (P:=P);unfold g92 at hR;refine e92 hP ?_;cbv;obtain⟨p1,gM,hR⟩:=az hR;refine aJ gM ?_;cbv;refine aM.i hR ?_ ?_<;>intro c2 hR<;>cbv
 ·exact go
 refine aM.i hR ?_ ?_<;>intro c4 hR<;>cbv
 ·exact go
 obtain⟨p6,GL,hR⟩:=az hR;refine((abN hP s a.order 6 _ GL).args (λw F μ vs hv=>gj.same (base:=0) (by exact(.cons (.pure rfl) (.cons (.int rfl) (.cons (.int rfl) .nil)))) hv)).frame rfl (λx_ o_ bI=> ?_);obtain⟨k7,k8,hk7,FY,rfl,rfl⟩:=bI;refine⟨[0,1],_,_,rfl,.eJ (.cons (.pure rfl) (.cons (.pure rfl) (.cons (.pure rfl) (.cons (.pure rfl) (.cons (.pure rfl) (.cons (.sl (q:=0) rfl rfl rfl rfl) (.cons (.sl (q:=1) rfl rfl rfl rfl) (.cons (.pure rfl) .nil)))))))),(.cons rfl .aL (.cons rfl .aL .nil)), ?_⟩;cbv;exact go⟩
def g93 (s:State)(a:Ask):Option (State×bz):=
 if(ai .eql ((a.lines.map aU.ts).length:Int) 0)=true then
  (g94 s 2).bind λp2=>
  some (p2.1,p2.2)
 else(bh (λ(_:Unit)(_:Int)(x7:aU)=>
  if(ai .neq x7.unit 0)=true then
   (g94 s 2).bind λqb=>
   some (.inr (qb.1,qb.2))
  else some (.inl ())) a.lines ():Option ((Unit)⊕((State×bz)))).bind λTM=>
 match TM with
 | .inl _=>
  if(ai .gtr ((a.lines.map aU.ts).length:Int) 16)=true then
   (g94 s 3).bind λAa=>
   some (Aa.1,Aa.2)
  else(ack 0 s.cells a.lines).bind λKY=>
  if(ai .neq KY.2 0)=true then
   (g94 s KY.2).bind λv9=>
   some (v9.1,v9.2)
  else(M0 s).bind λBE=>
  some ((⟨BE.limit,KY.1,BE.af,BE.aA,BE.aa,BE.aj,BE.kept⟩:State),(⟨0,0,0⟩:bz))
 | .inr IM=>
  some (IM.1,IM.2)
instance [Pg P](s:State)(a:Ask)(r:State×bz):bx P 93 (g93 s a=some r) [s.av,a.av] (.cI [r.1.av,r.2.av]):=⟨λhR=>by
 have hP:=Pg.h (P:=P);unfold g93 at hR;refine e93 hP ?_;cbv;refine aM.i hR ?_ ?_<;>intro c1 hR<;>cbv
 ·exact go
 exact kC (ty hP) 63 (λN6 i5 s3=>[(2,.ref 0 0),(3,.ref 1 0),(4,.ref 2 0),(5,.ref 3 0),(20,aq aU.ts 4 a.lines),(21,I6 N6),(22,I6 i5)]) (λs3=>[.box [I6 s.limit,aq Cell.ts 6 s.cells,aq aQ.ts 4 s.af.aK,aq au.ts 4 s.af.ak,aq ah.ts 2 s.aA,aq Order.ts 4 s.aa,aq aC.ts 4 s.aj,aq Kept.ts 4 s.kept],.box [AS (.th λ_=>a.mark),I8 a.kind,I6 a.order,aq aU.ts 4 a.lines],.box [AI .i64 (.lit 0),.c (.lit (.slice none 0 0)),.c (.lit (.slice none 0 0)),.c (.lit (.slice none 0 0)),.c (.lit (.slice none 0 0)),.c (.lit (.slice none 0 0)),.c (.lit (.slice none 0 0)),.c (.lit (.slice none 0 0))],.box [AI .i64 (.lit 0),AI .u8 (.lit 0),AI .i64 (.lit 0)]]) (λr_ g_=>(AE.ret,sp 63 [(4,.ref 0 0),(5,.ref 1 0)],[.box [I6 r_.1.limit,aq Cell.ts 6 r_.1.cells,aq aQ.ts 4 r_.1.af.aK,aq au.ts 4 r_.1.af.ak,aq ah.ts 2 r_.1.aA,aq Order.ts 4 r_.1.aa,aq aC.ts 4 r_.1.aj,aq Kept.ts 4 r_.1.kept],.box [I6 r_.2.why,I8 r_.2.status,I6 r_.2.ax]])) (AE.exit 0) hR (λN6 B7=>aaP) go go go⟩
def g46 (s:State)(mark:ByteArray)(rp:bz):Option (State):=
 (M0 s).bind λp1=>
 (iB (λ(s5:Int)=>
  if(ai .lss s5 (Int.ofNat p1.kept.length))=true then
   if(dJ p1.kept.length s5)=true then
    (fH p1.kept s5).bind λSc=>
    if(dA .lss Sc.mark mark)=true then
     some (.inl (aH .add .i64 s5 1))
    else some (.inr s5)
   else none
  else some (.inr s5)) 1000000 0:Option (Int)).bind λMn=>
 if(decide (0<=Mn/\Mn<=(Int.ofNat p1.kept.length)/\(Int.ofNat p1.kept.length)<=(p1.kept.length:Int)))=true then
  if(decide ((([]:List Kept)++AM p1.kept Mn (Int.ofNat p1.kept.length)).length*40<=140737488355328))=true then
   if(decide (0<=(0:Int)/\(0:Int)<=Mn/\Mn<=(p1.kept.length:Int)))=true then
    if(decide (((p1.kept.take (Mn).toNat)++[(⟨mark,rp⟩:Kept)]).length*40<=140737488355328))=true then
     if(decide ((((p1.kept.take (Mn).toNat)++[(⟨mark,rp⟩:Kept)])++(([]:List Kept)++AM p1.kept Mn (Int.ofNat p1.kept.length))).length*40<=140737488355328))=true then
      some (⟨p1.limit,p1.cells,p1.af,p1.aA,p1.aa,p1.aj,(((p1.kept.take (Mn).toNat)++[(⟨mark,rp⟩:Kept)])++(([]:List Kept)++AM p1.kept Mn (Int.ofNat p1.kept.length)))⟩:State)
     else none
    else none
   else none
  else none
 else none
instance [Pg P](s:State)(mark:ByteArray)(rp:bz)(r:State):bx P 46 (g46 s mark rp=some r) [s.av,AS (.th λ_=>mark),rp.av] (r.av):=⟨λhR=>by
 have hP:=Pg.h (P:=P);unfold g46 at hR;refine e46 hP ?_;cbv;obtain⟨p1,gM,hR⟩:=az hR;refine((Si hP s _ gM).args (λw F μ vs hv=>gj.same (base:=0) (by exact(.cons (.pure rfl) .nil)) hv)).frame rfl (λx_ o_ bI=> ?_);obtain⟨k2,k3,k4,hk2,mP,hk4,rfl,rfl⟩:=bI;refine⟨[0,1,2],_,_,rfl,.eJ (.cons (.pure rfl) (.cons (.pure rfl) (.cons (.pure rfl) (.cons (.pure rfl) (.cons (.pure rfl) (.cons (.sl (q:=0) rfl rfl rfl rfl) (.cons (.sl (q:=1) rfl rfl rfl rfl) (.cons (.sl (q:=2) rfl rfl rfl rfl) .nil)))))))),(.cons rfl .aL (.cons rfl .aL (.cons rfl .aL .nil))), ?_⟩;cbv;refine lq (ty hP) (γ:=(λs5=>Unit)) (γ':=(λ_=>Unit)) 48 (λs5 g6=>[(1,AS (.th λ_=>mark)),(5,.ref 0 0),(6,.ref 1 0),(7,.ref 2 0),(8,I6 s5)]) (λs5 g6=>[.box [I6 rp.why,I8 rp.status,I6 rp.ax],.box [AI .i64 (.lit 0),.c (.lit (.slice none 0 0)),.c (.lit (.slice none 0 0)),.c (.lit (.slice none 0 0)),.c (.lit (.slice none 0 0)),.c (.lit (.slice none 0 0)),.c (.lit (.slice none 0 0)),.c (.lit (.slice none 0 0))],.box [I6 p1.limit,aq Cell.ts 6 p1.cells,aq aQ.ts 4 p1.af.aK,aq au.ts 4 p1.af.ak,aq ah.ts 2 p1.aA,.sl 3 4 (.lit 0) (.th λ_=>p1.aa.length) (.th λ_=>k2),.sl 4 4 (.lit 0) (.th λ_=>p1.aj.length) (.th λ_=>k3),.sl 5 4 (.lit 0) (.th λ_=>p1.kept.length) (.th λ_=>k4)],aL Order.ts 4 p1.aa k2,aL aC.ts 4 p1.aj k3,aL Kept.ts 4 p1.kept k4]) (λr_ g_=>(AE.exit 0,sp 48 [(1,AS (.th λ_=>mark)),(5,.ref 0 0),(6,.ref 1 0),(7,.ref 2 0),(8,I6 r_)],[.box [I6 rp.why,I8 rp.status,I6 rp.ax],.box [AI .i64 (.lit 0),.c (.lit (.slice none 0 0)),.c (.lit (.slice none 0 0)),.c (.lit (.slice none 0 0)),.c (.lit (.slice none 0 0)),.c (.lit (.slice none 0 0)),.c (.lit (.slice none 0 0)),.c (.lit (.slice none 0 0))],.box [I6 p1.limit,aq Cell.ts 6 p1.cells,aq aQ.ts 4 p1.af.aK,aq au.ts 4 p1.af.ak,aq ah.ts 2 p1.aA,.sl 3 4 (.lit 0) (.th λ_=>p1.aa.length) (.th λ_=>k2),.sl 4 4 (.lit 0) (.th λ_=>p1.aj.length) (.th λ_=>k3),.sl 5 4 (.lit 0) (.th λ_=>p1.kept.length) (.th λ_=>k4)],aL Order.ts 4 p1.aa k2,aL aC.ts 4 p1.aj k3,aL Kept.ts 4 p1.kept k4])) () hR (Gi [1,2,6,3,4,5]) go ?_;intro Mn yJ hR;cbv;obtain⟨Xc,hR⟩:=bl hR;refine bg.mk (hM (of_decide_eq_true Xc) hk4) ?_;cbv;obtain⟨Og,hR⟩:=bl hR;refine abt (ty hP) (e:=102) rfl rfl rfl (by simp) (by decide) ([]:List Kept) p1.kept Mn (Int.ofNat p1.kept.length) rfl rfl (by decide) rfl rfl rfl rfl (λ_=>rfl) rfl rfl (of_decide_eq_true Xc) hk4 rfl rfl (of_decide_eq_true Og) (λRI Jg=> ?_);cbv;refine aR.cS (ty hP) (mo hP) rfl ?_;cbv;(iterate 3 (refine aS.z ?_;cbv));obtain⟨VF,hR⟩:=bl hR;apply aS.is
 ·intro J hJ;cbv;refine bg.mk (hM (of_decide_eq_true VF) hk4) ?_;cbv;exact hJ
 cbv
 (iterate 4 (refine aS.z ?_;cbv));refine bZ.mk (aZ.cons rfl (aZ.cons rfl aZ.nil)) ?_;cbv;obtain⟨m24,hR⟩:=bl hR
 refine abu (ty hP) (e:=102) rfl rfl rfl (by simp) (by decide) p1.kept Mn (⟨mark,rp⟩:Kept) rfl rfl (by decide) (by exact ac7 _) (of_decide_eq_true VF) rfl rfl rfl rfl (λ_=>rfl) (by decide) rfl rfl (by exact(.cons (.str rfl) (.cons (.int rfl) (.cons (.int rfl) (.cons (.int rfl) .nil))))) (of_decide_eq_true m24) (λk25 Zh=> ?_);cbv;obtain⟨XK,hR⟩:=bl hR;refine ab7 (ty hP) (e:=102) rfl rfl rfl (by simp) (by decide) ((p1.kept.take (Mn).toNat)++[(⟨mark,rp⟩:Kept)]) (([]:List Kept)++AM p1.kept Mn (Int.ofNat p1.kept.length)) rfl rfl (by decide) rfl rfl rfl rfl (λ_=>rfl) rfl rfl rfl rfl (of_decide_eq_true XK) (λk27 agT=> ?_);cbv;exact go⟩
end Go.Proofs.aaa
end
