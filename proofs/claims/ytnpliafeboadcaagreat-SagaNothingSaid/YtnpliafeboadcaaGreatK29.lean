/- Texts that the law leans on, part 29. No conditions. -/
import Derived.Test.YtnpliafeboadcaaGreatK27
section
namespace Go.Proofs.aaa
open Go.bA Go.IntWalk
variable{P:Program}
set_option maxHeartbeats 4000000
set_option maxRecDepth 20000
def Om (bp:List Act)(nP:List bz)(item:Int)(aE:Int):Option (Int):=
 (bh (λ(s1:Int)(i3:Int)(x5:Act)=>
  if x5.mS=true then
   some (.inl s1)
  else if(ai .neq x5.ask.kind 4)=true then
   some (.inl s1)
  else(fH nP i3).bind λGK=>
  if(ai .neq GK.why 0)=true then
   some (.inl s1)
  else(bh (λ(lu:Int)(_:Int)(zG:aU)=>
   if(ai .eql zG.item item)=true then
    if(ai .eql zG.aE aE)=true then
     some (.inl (aH .add .i64 lu zG.gF))
    else some (.inl lu)
   else some (.inl lu)) x5.ask.lines s1:Option ((Int)⊕(Empty))).bind λVG=>
  match VG with
  | .inl FQ=>
   some (.inl FQ)
  | .inr r_=>r_.elim) bp 0:Option ((Int)⊕(Empty))).bind λTf=>
 match Tf with
 | .inl Xb=>
  some Xb
 | .inr r_=>r_.elim
instance [Pg P](bp:List Act)(nP:List bz)(item:Int)(aE:Int)(r:Int):bx P 29 (Om bp nP item aE=some r) [aq Act.ts 7 bp,aq bz.ts 3 nP,I6 item,I6 aE] (I6 r):=⟨λhR=>by
 have hP:=Pg.h (P:=P);unfold Om at hR;refine e29 hP ?_;cbv;refine kC (ty hP) 62 (λN4 i3 s1=>[(1,aq bz.ts 3 nP),(2,I6 item),(3,I6 aE),(9,I6 s1),(14,aq Act.ts 7 bp),(15,I6 N4),(16,I6 i3)]) (λs1=>[]) (λr_ _=>r_.elim) (AE.exit 0) hR (λN4 sI=>dj.sp [] rfl rfl rfl (.cons rfl (.c .refl) (.cons rfl (.int rfl) (.cons rfl (.int rfl) (.cons rfl (.int rfl) (.cons rfl (.c .refl) (.cons rfl (.int ((aW Act.ts 7 bp).trans sI.symm)) (.cons rfl (.int rfl) .nil))))))) .nil) ?_ go go;intro N4 sI i3 s1 g2 x5 y6 B2 B3 B4 Df hR J B hJ hB;cbv;refine aM.t (decide_eq_true B3) ?_;cbv;refine bF.mk _ B2 (aY Act.ts _ _ _ Df) ?_;cbv;refine aM.i hR ?_ ?_<;>intro c9 hR<;>cbv
 ·exact go
 refine aM.i hR ?_ ?_<;>intro De hR<;>cbv
 ·exact go
 obtain⟨GK,Cl,hR⟩:=az hR;refine bF.mk _ (iC Cl) (aY bz.ts _ _ _ (bn Cl)) ?_;cbv;refine aM.i hR ?_ ?_<;>intro OU hR<;>cbv
 ·exact go
 exact kC (ty hP) 62 (λMJ Ak lu=>[(1,aq bz.ts 3 nP),(2,I6 item),(3,I6 aE),(9,I6 lu),(14,aq Act.ts 7 bp),(15,I6 N4),(16,I6 i3),(39,aq aU.ts 4 x5.ask.lines),(40,I6 MJ),(41,I6 Ak)]) (λlu=>[]) (λr_ _=>r_.elim) (AE.exit 2) hR (λMJ GX=>dj.sp [] rfl rfl rfl (.cons rfl (.c .refl) (.cons rfl (.int rfl) (.cons rfl (.int rfl) (.cons rfl (.int rfl) (.cons rfl (.c .refl) (.cons rfl (.int rfl) (.cons rfl (.int rfl) (.cons rfl (.c .refl) (.cons rfl (.int ((aW aU.ts 4 x5.ask.lines).trans GX.symm)) (.cons rfl (.int rfl) .nil)))))))))) .nil) go go go⟩
def Oo (limit:Int)(bp:List Act):Option (State×Bool):=
 (EC limit).bind λp1=>
 if(ai .neq p1.2 0)=true then
  some (p1.1,false)
 else(bh (λ(s3:Int×(List Cell)×(List aQ)×(List au)×(List ah)×(List Order)×(List aC)×(List Kept))(_:Int)(x7:Act)=>
  (gV (⟨s3.1,s3.2.1,(⟨s3.2.2.1,s3.2.2.2.1⟩:aF),s3.2.2.2.2.1,s3.2.2.2.2.2.1,s3.2.2.2.2.2.2.1,s3.2.2.2.2.2.2.2⟩:State) x7).bind λgO=>
  some (.inl (gO.1.limit,gO.1.cells,gO.1.af.aK,gO.1.af.ak,gO.1.aA,gO.1.aa,gO.1.aj,gO.1.kept))) bp (p1.1.limit,p1.1.cells,p1.1.af.aK,p1.1.af.ak,p1.1.aA,p1.1.aa,p1.1.aj,p1.1.kept):Option ((Int×(List Cell)×(List aQ)×(List au)×(List ah)×(List Order)×(List aC)×(List Kept))⊕(Empty))).bind λGF=>
 match GF with
 | .inl lu=>
  some ((⟨lu.1,lu.2.1,(⟨lu.2.2.1,lu.2.2.2.1⟩:aF),lu.2.2.2.2.1,lu.2.2.2.2.2.1,lu.2.2.2.2.2.2.1,lu.2.2.2.2.2.2.2⟩:State),true)
 | .inr r_=>r_.elim
instance [Pg P](limit:Int)(bp:List Act)(r:State×Bool):bx P 33 (Oo limit bp=some r) [I6 limit,aq Act.ts 7 bp] (.cI [r.1.av,B1 r.2]):=⟨λhR=>by
 have hP:=Pg.h (P:=P);unfold Oo at hR;refine e33 hP ?_;cbv;obtain⟨p1,gM,hR⟩:=az hR;refine aJ gM ?_;cbv;refine aM.i hR ?_ ?_<;>intro c2 hR<;>cbv
 ·cases hR;exact al
 exact kC (ty hP) 39 (λN6 i5 s3=>[(4,.ref 0 0),(6,.ref 1 0),(22,aq Act.ts 7 bp),(23,I6 N6),(24,I6 i5)]) (λs3=>[.box [AI .i64 (.lit 0),.c (.lit (.slice none 0 0)),.c (.lit (.slice none 0 0)),.c (.lit (.slice none 0 0)),.c (.lit (.slice none 0 0)),.c (.lit (.slice none 0 0)),.c (.lit (.slice none 0 0)),.c (.lit (.slice none 0 0))],.box [I6 s3.1,aq Cell.ts 6 s3.2.1,aq aQ.ts 4 s3.2.2.1,aq au.ts 4 s3.2.2.2.1,aq ah.ts 2 s3.2.2.2.2.1,aq Order.ts 4 s3.2.2.2.2.2.1,aq aC.ts 4 s3.2.2.2.2.2.2.1,aq Kept.ts 4 s3.2.2.2.2.2.2.2]]) (λr_ _=>r_.elim) (AE.exit 0) hR (λN6 B7=>dj.sp [0,1] rfl rfl rfl (.cons rfl (.ref (q:=0) rfl) (.cons rfl (.ref (q:=1) rfl) (.cons rfl (.c .refl) (.cons rfl (.int ((aW Act.ts 7 bp).trans B7.symm)) (.cons rfl (.int rfl) .nil))))) (.cons rfl (.aN (.cons (.int rfl) (.cons (.pure rfl) (.cons (.pure rfl) (.cons (.pure rfl) (.cons (.pure rfl) (.cons (.pure rfl) (.cons (.pure rfl) (.cons (.pure rfl) .nil))))))))) (.cons rfl (.aN (.cons (.int rfl) (.cons (.c .refl) (.cons (.c .refl) (.cons (.c .refl) (.cons (.c .refl) (.cons (.c .refl) (.cons (.c .refl) (.cons (.c .refl) .nil))))))))) .nil))) go go go⟩
def v5 (s:State)(order:Int)(aac:List Int):Option (State):=
 (iB (λ(s1:Int×Int×(List Cell)×(List aQ)×(List au)×(List ah)×(List Order)×(List aC)×(List Kept))=>
  if(ai .lss s1.1 40)=true then
   (bh (λ(s10:Int)(zo:Int)(mQ:aC)=>
    if(ai .eql mQ.order order)=true then
     some (.inl zo)
    else some (.inl s10)) s1.2.2.2.2.2.2.2.1 (-1):Option ((Int)⊕(Empty))).bind λZm=>
   match Zm with
   | .inl eS=>
    if(ai .lss eS 0)=true then
     some (.inr (.inl (⟨s1.2.1,s1.2.2.1,(⟨s1.2.2.2.1,s1.2.2.2.2.1⟩:aF),s1.2.2.2.2.2.1,s1.2.2.2.2.2.2.1,s1.2.2.2.2.2.2.2.1,s1.2.2.2.2.2.2.2.2⟩:State)))
    else if(ai .lss s1.1 ((aac.map (v7 .u8)).length:Int))=true then
     if(ai .lss s1.1 20)=true then
      (fH aac s1.1).bind λXa=>
      if(ai .eql Xa 1)=true then
       (uR (⟨s1.2.1,s1.2.2.1,(⟨s1.2.2.2.1,s1.2.2.2.2.1⟩:aF),s1.2.2.2.2.2.1,s1.2.2.2.2.2.2.1,s1.2.2.2.2.2.2.2.1,s1.2.2.2.2.2.2.2.2⟩:State) eS 1).bind λN_=>
       if(ai .neq N_.2.2 0)=true then
        some (.inr (.inl (⟨s1.2.1,s1.2.2.1,(⟨s1.2.2.2.1,s1.2.2.2.2.1⟩:aF),s1.2.2.2.2.2.1,s1.2.2.2.2.2.2.1,s1.2.2.2.2.2.2.2.1,s1.2.2.2.2.2.2.2.2⟩:State)))
       else some (.inl ((aH .add .i64 s1.1 1),N_.1.limit,N_.1.cells,N_.1.af.aK,N_.1.af.ak,N_.1.aA,N_.1.aa,N_.1.aj,N_.1.kept))
      else(uR (⟨s1.2.1,s1.2.2.1,(⟨s1.2.2.2.1,s1.2.2.2.2.1⟩:aF),s1.2.2.2.2.2.1,s1.2.2.2.2.2.2.1,s1.2.2.2.2.2.2.2.1,s1.2.2.2.2.2.2.2.2⟩:State) eS 0).bind λJe=>
      if(ai .neq Je.2.2 0)=true then
       some (.inr (.inl (⟨s1.2.1,s1.2.2.1,(⟨s1.2.2.2.1,s1.2.2.2.2.1⟩:aF),s1.2.2.2.2.2.1,s1.2.2.2.2.2.2.1,s1.2.2.2.2.2.2.2.1,s1.2.2.2.2.2.2.2.2⟩:State)))
      else some (.inl ((aH .add .i64 s1.1 1),Je.1.limit,Je.1.cells,Je.1.af.aK,Je.1.af.ak,Je.1.aA,Je.1.aa,Je.1.aj,Je.1.kept))
     else(uR (⟨s1.2.1,s1.2.2.1,(⟨s1.2.2.2.1,s1.2.2.2.2.1⟩:aF),s1.2.2.2.2.2.1,s1.2.2.2.2.2.2.1,s1.2.2.2.2.2.2.2.1,s1.2.2.2.2.2.2.2.2⟩:State) eS 0).bind λw4=>
     if(ai .neq w4.2.2 0)=true then
      some (.inr (.inl (⟨s1.2.1,s1.2.2.1,(⟨s1.2.2.2.1,s1.2.2.2.2.1⟩:aF),s1.2.2.2.2.2.1,s1.2.2.2.2.2.2.1,s1.2.2.2.2.2.2.2.1,s1.2.2.2.2.2.2.2.2⟩:State)))
     else some (.inl ((aH .add .i64 s1.1 1),w4.1.limit,w4.1.cells,w4.1.af.aK,w4.1.af.ak,w4.1.aA,w4.1.aa,w4.1.aj,w4.1.kept))
    else(uR (⟨s1.2.1,s1.2.2.1,(⟨s1.2.2.2.1,s1.2.2.2.2.1⟩:aF),s1.2.2.2.2.2.1,s1.2.2.2.2.2.2.1,s1.2.2.2.2.2.2.2.1,s1.2.2.2.2.2.2.2.2⟩:State) eS 0).bind λgL=>
    if(ai .neq gL.2.2 0)=true then
     some (.inr (.inl (⟨s1.2.1,s1.2.2.1,(⟨s1.2.2.2.1,s1.2.2.2.2.1⟩:aF),s1.2.2.2.2.2.1,s1.2.2.2.2.2.2.1,s1.2.2.2.2.2.2.2.1,s1.2.2.2.2.2.2.2.2⟩:State)))
    else some (.inl ((aH .add .i64 s1.1 1),gL.1.limit,gL.1.cells,gL.1.af.aK,gL.1.af.ak,gL.1.aA,gL.1.aa,gL.1.aj,gL.1.kept))
   | .inr r_=>r_.elim
  else some (.inr (.inr (⟨s1.2.1,s1.2.2.1,(⟨s1.2.2.2.1,s1.2.2.2.2.1⟩:aF),s1.2.2.2.2.2.1,s1.2.2.2.2.2.2.1,s1.2.2.2.2.2.2.2.1,s1.2.2.2.2.2.2.2.2⟩:State)))) 1000000 (0,s.limit,s.cells,s.af.aK,s.af.ak,s.aA,s.aa,s.aj,s.kept):Option (State⊕State)).bind λR35=>
 match R35 with
 | .inl r36=>
  some r36
 | .inr r38=>
  some r38
instance [Pg P](s:State)(order:Int)(aac:List Int)(r:State):bx P 34 (v5 s order aac=some r) [s.av,I6 order,aq (v7 .u8) 1 aac] (r.av):=⟨λhR=>by
 have hP:=Pg.h (P:=P);unfold v5 at hR;refine e34 hP ?_;cbv;refine lq (ty hP) (γ:=(λs1=>Unit)) (γ':=(λ_=>Unit)) 64 (λs1 g2=>[(1,I6 order),(2,aq (v7 .u8) 1 aac),(3,.ref 0 0),(6,.ref 1 0),(7,I6 s1.1)]) (λs1 g2=>[.box [I6 s1.2.1,aq Cell.ts 6 s1.2.2.1,aq aQ.ts 4 s1.2.2.2.1,aq au.ts 4 s1.2.2.2.2.1,aq ah.ts 2 s1.2.2.2.2.2.1,aq Order.ts 4 s1.2.2.2.2.2.2.1,aq aC.ts 4 s1.2.2.2.2.2.2.2.1,aq Kept.ts 4 s1.2.2.2.2.2.2.2.2],.box [AI .i64 (.lit 0),.c (.lit (.slice none 0 0)),.c (.lit (.slice none 0 0)),.c (.lit (.slice none 0 0)),.c (.lit (.slice none 0 0)),.c (.lit (.slice none 0 0)),.c (.lit (.slice none 0 0)),.c (.lit (.slice none 0 0))]]) (λr_ g_=>match r_ with| .inl r_=>(AE.ret,sp 64 [(6,.ref 0 0)],[.box [I6 r_.limit,aq Cell.ts 6 r_.cells,aq aQ.ts 4 r_.af.aK,aq au.ts 4 r_.af.ak,aq ah.ts 2 r_.aA,aq Order.ts 4 r_.aa,aq aC.ts 4 r_.aj,aq Kept.ts 4 r_.kept]])| .inr r_=>(AE.exit 0,sp 64 [(3,.ref 0 0),(6,.ref 1 0)],[.box [I6 r_.limit,aq Cell.ts 6 r_.cells,aq aQ.ts 4 r_.af.aK,aq au.ts 4 r_.af.ak,aq ah.ts 2 r_.aA,aq Order.ts 4 r_.aa,aq aC.ts 4 r_.aj,aq Kept.ts 4 r_.kept],.box [AI .i64 (.lit 0),.c (.lit (.slice none 0 0)),.c (.lit (.slice none 0 0)),.c (.lit (.slice none 0 0)),.c (.lit (.slice none 0 0)),.c (.lit (.slice none 0 0)),.c (.lit (.slice none 0 0)),.c (.lit (.slice none 0 0))]])) () hR (Gi [0,1]) ?_ ?_
 ·intro s1 g2 y6 hR J B hJ hB;cbv;refine aM.i hR ?_ ?_<;>intro c9 hR<;>cbv
  ·refine kC (ty hP) 64 (λN13 zo s10=>[(1,I6 order),(2,aq (v7 .u8) 1 aac),(3,.ref 0 0),(6,.ref 1 0),(7,I6 s1.1),(8,I6 s10),(20,aq aC.ts 4 s1.2.2.2.2.2.2.2.1),(21,I6 N13),(22,I6 zo)]) (λs10=>[.box [I6 s1.2.1,aq Cell.ts 6 s1.2.2.1,aq aQ.ts 4 s1.2.2.2.1,aq au.ts 4 s1.2.2.2.2.1,aq ah.ts 2 s1.2.2.2.2.2.1,aq Order.ts 4 s1.2.2.2.2.2.2.1,aq aC.ts 4 s1.2.2.2.2.2.2.2.1,aq Kept.ts 4 s1.2.2.2.2.2.2.2.2],.box [AI .i64 (.lit 0),.c (.lit (.slice none 0 0)),.c (.lit (.slice none 0 0)),.c (.lit (.slice none 0 0)),.c (.lit (.slice none 0 0)),.c (.lit (.slice none 0 0)),.c (.lit (.slice none 0 0)),.c (.lit (.slice none 0 0))]]) (λr_ _=>r_.elim) (AE.exit 2) hR (λN13 aaY=>dj.sp [0,1] rfl rfl rfl (.cons rfl (.int rfl) (.cons rfl (.c .refl) (.cons rfl (.ref (q:=0) rfl) (.cons rfl (.ref (q:=1) rfl) (.cons rfl (.int rfl) (.cons rfl (.int rfl) (.cons rfl (.c .refl) (.cons rfl (.int ((aW aC.ts 4 s1.2.2.2.2.2.2.2.1).trans aaY.symm)) (.cons rfl (.int rfl) .nil))))))))) (.cons rfl (.aN (.cons (.int rfl) (.cons (.c .refl) (.cons (.c .refl) (.cons (.c .refl) (.cons (.c .refl) (.cons (.c .refl) (.cons (.c .refl) (.cons (.c .refl) .nil))))))))) (.cons rfl (.aN (.cons (.int rfl) (.cons (.pure rfl) (.cons (.pure rfl) (.cons (.pure rfl) (.cons (.pure rfl) (.cons (.pure rfl) (.cons (.pure rfl) (.cons (.pure rfl) .nil))))))))) .nil))) go ?_ go;intro N13 aaY eS EN hR;dsimp only at hR;cbv;refine aM.i hR ?_ ?_<;>intro WT hR<;>cbv
   ·exact go
   refine aM.i hR ?_ ?_<;>intro WU hR<;>cbv
   ·refine aM.i hR ?_ ?_<;>intro YE hR<;>cbv
    ·obtain⟨Xa,T4,hR⟩:=az hR;refine bF.mk _ (iC T4) (aY (v7 .u8) _ _ _ (bn T4)) ?_;cbv;exact go
    exact go
   exact go
  exact go
 rintro(r36|r38) g_ hR;all_goals dsimp only at hR
 ·obtain⟨Qt,Na⟩:∃x,x=g_:=⟨_,rfl⟩;subst Na;cbv;cases hR;exact al
 obtain⟨g39,Na⟩:∃x,x=g_:=⟨_,rfl⟩;subst Na;cbv;cases hR;exact al⟩
end Go.Proofs.aaa
end
