/- Texts that the law leans on, part 27. No conditions. -/
import Derived.Test.YtnpliafeboadcaaGreatK17
import Derived.Test.YtnpliafeboadcaaGreatK24
import Derived.Test.YtnpliafeboadcaaGreatK26
section
namespace Go.Proofs.aaa
open Go.bA Go.IntWalk
variable{P:Program}
set_option maxHeartbeats 4000000
set_option maxRecDepth 20000
def g71 (l:List aU):Option (Int×Int):=
 if(ai .eql ((l.map aU.ts).length:Int) 0)=true then
  some (0,2)
 else(bh (λ(_:Unit)(_:Int)(x6:aU)=>
  if(ai .lss x6.item 1)=true then
   some (.inr ())
  else if(ai .gtr x6.item 1024)=true then
   some (.inr ())
  else if(ai .lss x6.aE 1)=true then
   some (.inr ())
  else if(ai .gtr x6.aE 1024)=true then
   some (.inr ())
  else some (.inl ())) l ():Option ((Unit)⊕(Unit))).bind λZj=>
 match Zj with
 | .inl _=>
  (q9 l).bind λAa=>
  if(ai .neq Aa.2 0)=true then
   some (0,Aa.2)
  else if(ai .lss Aa.1 1)=true then
   some (0,2)
  else if(ai .gtr Aa.1 1152921504606846976)=true then
   some (0,5)
  else some (Aa.1,0)
 | .inr _=>
  some (0,2)
instance [Pg P](l:List aU)(r:Int×Int):bx P 71 (g71 l=some r) [aq aU.ts 4 l] (.cI [I6 r.1,I6 r.2]):=⟨λhR=>by
 have hP:=Pg.h (P:=P);unfold g71 at hR;refine e71 hP ?_;cbv;refine aM.i hR ?_ ?_<;>intro c1 hR<;>cbv
 ·cases hR;exact al
 exact kC (ty hP) 52 (λN5 i4 s2=>[(0,aq aU.ts 4 l),(11,aq aU.ts 4 l),(12,I6 N5),(13,I6 i4)]) (λs2=>[]) (λr_ g_=>(AE.ret,sp 52 [(2,AI .i64 (.lit 0)),(3,AI .i64 (.lit 2))],[])) (AE.exit 0) hR (λN5 Dg=>aaP) go go go⟩
def Qv (s:State)(id:Int):Option (Order×Bool):=
 (bh (λ(_:Unit)(_:Int)(x5:Order)=>
  if(ai .eql x5.id id)=true then
   some (.inr x5)
  else some (.inl ())) s.aa ():Option ((Unit)⊕(Order))).bind λOR=>
 match OR with
 | .inl _=>
  some ((⟨0,([]:List aU),0,0⟩:Order),false)
 | .inr OS=>
  some (OS,true)
instance [Pg P](s:State)(id:Int)(r:Order×Bool):bx P 35 (Qv s id=some r) [s.av,I6 id] (.cI [r.1.av,B1 r.2]):=⟨λhR=>by
 have hP:=Pg.h (P:=P);unfold Qv at hR;refine _0 hP ?_;cbv;exact kC (ty hP) 22 (λN4 i3 s1=>[(1,I6 id),(4,.ref 0 0),(9,aq Order.ts 4 s.aa),(10,I6 N4),(11,I6 i3)]) (λs1=>[.box [AI .i64 (.lit 0),.c (.lit (.slice none 0 0)),AI .i64 (.lit 0),AI .u8 (.lit 0)]]) (λr_ g_=>(AE.ret,sp 22 [(4,.ref 0 0),(5,AB (.lit true))],[.box [I6 r_.id,aq aU.ts 4 r_.lines,I6 r_.aP,I8 r_.status]])) (AE.exit 0) hR (λN4 sI=>aaP) go go go⟩
def abM (s:Int):Option (Int):=
 if(ai .eql s 1)=true then
  some 1
 else if(ai .eql s 4)=true then
  some 2
 else if(ai .eql s 6)=true then
  some 3
 else some 0
instance [Pg P](s:Int)(r:Int):bx P 129 (abM s=some r) [I8 s] (I8 r):=⟨λhR=>by
 have hP:=Pg.h (P:=P);unfold abM at hR;refine ae7 hP ?_;cbv;exact go⟩
def g72 (s:State):Option (Bool):=
 (bh (λ(_:Unit)(_:Int)(x5:aC)=>
  (hnext x5).bind λp9=>
  (Qv s x5.order).bind λpJ=>
  if(ai .neq p9.2.2 0)=true then
   some (.inr ())
  else if(!p9.2.1)=true then
   some (.inr ())
  else if(!pJ.2)=true then
   some (.inr ())
  else(abM pJ.1.status).bind λiq=>
  if(ai .neq iq x5.kind)=true then
   some (.inr ())
  else some (.inl ())) s.aj ():Option ((Unit)⊕(Unit))).bind λL4=>
 match L4 with
 | .inl _=>
  (bh (λ(_:Unit)(_:Int)(Xa:Order)=>
   (bh (λ(Tg:Int)(_:Int)(x33:aC)=>
    if(ai .eql x33.order Xa.id)=true then
     some (.inl (aH .add .i64 Tg 1))
    else some (.inl Tg)) s.aj 0:Option ((Int)⊕(Empty))).bind λZn=>
   match Zn with
   | .inl s39=>
    (abM Xa.status).bind λK6=>
    if(ai .eql K6 0)=true then
     if(ai .neq s39 0)=true then
      some (.inr ())
     else(abM Xa.status).bind λkR=>
     if(ai .neq kR 0)=true then
      if(ai .neq s39 1)=true then
       some (.inr ())
      else some (.inl ())
     else some (.inl ())
    else(abM Xa.status).bind λOj=>
    if(ai .neq Oj 0)=true then
     if(ai .neq s39 1)=true then
      some (.inr ())
     else some (.inl ())
    else some (.inl ())
   | .inr r_=>r_.elim) s.aa ():Option ((Unit)⊕(Unit))).bind λR50=>
  match R50 with
  | .inl _=>
   some true
  | .inr _=>
   some false
 | .inr _=>
  some false
instance [Pg P](s:State)(r:Bool):bx P 72 (g72 s=some r) [s.av] (B1 r):=⟨λhR=>by
 have hP:=Pg.h (P:=P);unfold g72 at hR;refine e72 hP ?_;cbv;refine kC (ty hP) 95 (λN4 i3 s1=>[(1,.ref 0 0),(16,aq aC.ts 4 s.aj),(17,I6 N4),(18,I6 i3)]) (λs1=>[.box [I6 s.limit,aq Cell.ts 6 s.cells,aq aQ.ts 4 s.af.aK,aq au.ts 4 s.af.ak,aq ah.ts 2 s.aA,aq Order.ts 4 s.aa,aq aC.ts 4 s.aj,aq Kept.ts 4 s.kept]]) (λr_ g_=>(AE.ret,sp 95 [(2,AB (.lit false))],[])) (AE.exit 0) hR (λN4 sI=>aaP) ?_ ?_ go
 ·intro N4 sI i3 s1 g2 x5 y6 B2 B3 B4 Df hR J B hJ hB;cbv;refine aM.t (decide_eq_true B3) ?_;cbv;refine bF.mk _ B2 (aY aC.ts _ _ _ Df) ?_;cbv;obtain⟨p9,tw,hR⟩:=az hR;refine aJ tw ?_;cbv;obtain⟨pJ,qW,hR⟩:=az hR;refine aJ qW ?_;cbv;refine aR.of (ty hP) (mo hP) rfl ?_ (br.box (br.box (br.box br.nil)));cbv;(iterate 3 (refine aS.z ?_;cbv));refine aM.i hR ?_ ?_<;>intro L5 hR<;>cbv
  ·exact go
  (iterate 4 (refine aS.z ?_;cbv));refine aM.i hR ?_ ?_<;>intro OU hR<;>cbv
  ·exact go
  (iterate 4 (refine aS.z ?_;cbv));refine aM.i hR ?_ ?_<;>intro YA hR<;>cbv
  ·exact go
  (iterate 2 (refine aS.z ?_;cbv));obtain⟨iq,L6,hR⟩:=az hR;apply aS.is
  ·intro J hJ;cbv;refine aJ L6 ?_;cbv;exact hJ
  exact go
 intro N4 sI VD VE hR;dsimp only at hR;cbv;refine kC (ty hP) 95 (λN24 i23 s21=>[(1,.ref 0 0),(55,aq Order.ts 4 s.aa),(56,I6 N24),(57,I6 i23)]) (λs21=>[.box [I6 s.limit,aq Cell.ts 6 s.cells,aq aQ.ts 4 s.af.aK,aq au.ts 4 s.af.ak,aq ah.ts 2 s.aA,aq Order.ts 4 s.aa,aq aC.ts 4 s.aj,aq Kept.ts 4 s.kept]]) (λr_ g_=>(AE.ret,sp 95 [(2,AB (.lit false))],[])) (AE.exit 2) hR (λN24 ad8=>aaP) ?_ go go;intro N24 ad8 i23 s21 K2 Xa y26 ad9 ad_ aev T4 hR J B hJ hB;cbv;refine aM.t (decide_eq_true ad_) ?_;cbv;refine bF.mk _ ad9 (aY Order.ts _ _ _ T4) ?_;cbv;exact kC (ty hP) 95 (λN32 i31 Tg=>[(1,.ref 0 0),(11,.ref 1 0),(12,I6 Tg),(55,aq Order.ts 4 s.aa),(56,I6 N24),(57,I6 i23),(62,aq aC.ts 4 s.aj),(63,I6 N32),(64,I6 i31)]) (λTg=>[.box [I6 s.limit,aq Cell.ts 6 s.cells,aq aQ.ts 4 s.af.aK,aq au.ts 4 s.af.ak,aq ah.ts 2 s.aA,aq Order.ts 4 s.aa,aq aC.ts 4 s.aj,aq Kept.ts 4 s.kept],.box [I6 Xa.id,aq aU.ts 4 Xa.lines,I6 Xa.aP,I8 Xa.status]]) (λr_ _=>r_.elim) (AE.exit 4) hR (λN32 ae9=>aaP) go go go⟩
def Zp (s:State):Option (Int):=
 if(ai .lss s.limit 0)=true then
  some 9
 else if(ai .gtr s.limit 1024)=true then
  some 9
 else if(ai .gtr ((s.aa.map Order.ts).length:Int) s.limit)=true then
  some 9
 else if(ai .gtr ((s.kept.map Kept.ts).length:Int) 4096)=true then
  some 9
 else(g68 s.cells).bind λp5=>
 if(ai .neq p5 0)=true then
  some 9
 else(g69 s.af).bind λp7=>
 if(ai .neq p7 0)=true then
  some 9
 else(g70 s.aA).bind λp9=>
 if(ai .neq p9 0)=true then
  some 9
 else(bh (λ(_:Unit)(Vx:Int)(Sc:Order)=>
  (g71 Sc.lines).bind λAa=>
  if(ai .lss Sc.id 1)=true then
   some (.inr ())
  else if(ai .gtr Sc.id 1024)=true then
   some (.inr ())
  else if(ai .gtr Vx 0)=true then
   (fH s.aa (aH .sub .i64 Vx 1)).bind λx23=>
   if(ai .geq x23.id Sc.id)=true then
    some (.inr ())
   else if(ai .neq Aa.2 0)=true then
    some (.inr ())
   else if(ai .neq Aa.1 Sc.aP)=true then
    some (.inr ())
   else if(ai .lss Sc.status 1)=true then
    some (.inr ())
   else if(ai .geq Sc.status 8)=true then
    some (.inr ())
   else some (.inl ())
  else if(ai .neq Aa.2 0)=true then
   some (.inr ())
  else if(ai .neq Aa.1 Sc.aP)=true then
   some (.inr ())
  else if(ai .lss Sc.status 1)=true then
   some (.inr ())
  else if(ai .geq Sc.status 8)=true then
   some (.inr ())
  else some (.inl ())) s.aa ():Option ((Unit)⊕(Unit))).bind λR33=>
 match R33 with
 | .inl _=>
  (bh (λ(_:Unit)(i40:Int)(x42:Kept)=>
   if(dA .eql x42.mark ByteArray.empty)=true then
    some (.inr ())
   else if(ai .gtr ((x42.mark).size:Int) 64)=true then
    some (.inr ())
   else if(ai .lss x42.cH.why 0)=true then
    some (.inr ())
   else if(ai .gtr x42.cH.why 15)=true then
    some (.inr ())
   else if(ai .geq x42.cH.status 8)=true then
    some (.inr ())
   else if(ai .lss x42.cH.ax 0)=true then
    some (.inr ())
   else if(ai .gtr i40 0)=true then
    (fH s.kept (aH .sub .i64 i40 1)).bind λQz=>
    if(dA .geq Qz.mark x42.mark)=true then
     some (.inr ())
    else some (.inl ())
   else some (.inl ())) s.kept ():Option ((Unit)⊕(Unit))).bind λ_3=>
  match _3 with
  | .inl _=>
   (g72 s).bind λp60=>
   if(!p60)=true then
    some 9
   else some 0
  | .inr _=>
   some 9
 | .inr _=>
  some 9
instance [Pg P](s:State)(r:Int):bx P 23 (Zp s=some r) [s.av] (I6 r):=⟨λhR=>by
 have hP:=Pg.h (P:=P);unfold Zp at hR;refine e23 hP ?_;cbv;refine aM.i hR ?_ ?_<;>intro c1 hR<;>cbv
 ·cases hR;exact al
 refine aM.i hR ?_ ?_<;>intro c2 hR<;>cbv
 ·cases hR;exact al
 refine aM.i hR ?_ ?_<;>intro c3 hR<;>cbv
 ·cases hR;exact al
 refine aM.i hR ?_ ?_<;>intro c4 hR<;>cbv
 ·cases hR;exact al
 obtain⟨p5,Ma,hR⟩:=az hR;refine aJ Ma ?_;cbv;refine aM.i hR ?_ ?_<;>intro c6 hR<;>cbv
 ·cases hR;exact al
 obtain⟨p7,Cd,hR⟩:=az hR;refine aJ Cd ?_;cbv;refine aM.i hR ?_ ?_<;>intro c8 hR<;>cbv
 ·cases hR;exact al
 obtain⟨p9,tw,hR⟩:=az hR;refine aJ tw ?_;cbv;refine aM.i hR ?_ ?_<;>intro De hR<;>cbv
 ·cases hR;exact al
 refine kC (ty hP) 167 (λVz Vx _5=>[(1,.ref 0 0),(48,aq Order.ts 4 s.aa),(49,I6 Vz),(50,I6 Vx)]) (λ_5=>[.box [I6 s.limit,aq Cell.ts 6 s.cells,aq aQ.ts 4 s.af.aK,aq au.ts 4 s.af.ak,aq ah.ts 2 s.aA,aq Order.ts 4 s.aa,aq aC.ts 4 s.aj,aq Kept.ts 4 s.kept]]) (λr_ g_=>(AE.ret,sp 167 [(2,AI .i64 (.lit 9))],[])) (AE.exit 0) hR (λVz QA=>aaP) ?_ ?_ go
 ·intro Vz QA Vx _5 Sn Sc y16 aeb aec aex abv hR J B hJ hB;cbv;refine aM.t (decide_eq_true aec) ?_;cbv;refine bF.mk _ aeb (aY Order.ts _ _ _ abv) ?_;cbv;obtain⟨Aa,Gy,hR⟩:=az hR;refine aJ Gy ?_;cbv;refine aR.of (ty hP) (mo hP) rfl ?_ (br.box (br.box br.nil));cbv;(iterate 4 (refine aS.z ?_;cbv));refine aM.i hR ?_ ?_<;>intro S7 hR<;>cbv
  ·exact go
  (iterate 5 (refine aS.z ?_;cbv));refine aM.i hR ?_ ?_<;>intro YD hR<;>cbv
  ·exact go
  (iterate 3 (refine aS.z ?_;cbv));refine aM.i hR ?_ ?_<;>intro WT hR<;>cbv
  ·(iterate 4 (refine aS.z ?_;cbv));obtain⟨x23,abx,hR⟩:=az hR;apply aS.is
   ·intro J hJ;cbv;refine bF.mk _ (iC abx) (aY Order.ts _ _ _ (bn abx)) ?_;cbv;exact hJ
   exact go
  exact go
 intro Vz QA s36 Qt hR;dsimp only at hR;cbv;refine kC (ty hP) 167 (λN41 i40 XC=>[(1,.ref 0 0),(107,aq Kept.ts 4 s.kept),(108,I6 N41),(109,I6 i40)]) (λXC=>[.box [I6 s.limit,aq Cell.ts 6 s.cells,aq aQ.ts 4 s.af.aK,aq au.ts 4 s.af.ak,aq ah.ts 2 s.aA,aq Order.ts 4 s.aa,aq aC.ts 4 s.aj,aq Kept.ts 4 s.kept]]) (λr_ g_=>(AE.ret,sp 167 [(2,AI .i64 (.lit 9))],[])) (AE.exit 2) hR (λN41 aed=>aaP) ?_ go go;intro N41 aed i40 XC g39 x42 y43 aee aef aey afa hR J B hJ hB;cbv;refine aM.t (decide_eq_true aef) ?_;cbv;refine bF.mk _ aee (aY Kept.ts _ _ _ afa) ?_;cbv;refine aR.of (ty hP) (mo hP) rfl ?_ (br.box (br.box br.nil));cbv
 (iterate 4 (refine aS.z ?_;cbv));refine aM.i hR ?_ ?_<;>intro Tc hR<;>cbv
 ·exact go
 (iterate 6 (refine aS.z ?_;cbv));refine aM.i hR ?_ ?_<;>intro YM hR<;>cbv
 ·exact go
 (iterate 6 (refine aS.z ?_;cbv));refine aM.i hR ?_ ?_<;>intro W0 hR<;>cbv
 ·exact go
 (iterate 6 (refine aS.z ?_;cbv));refine aM.i hR ?_ ?_<;>intro Td hR<;>cbv
 ·exact go
 (iterate 6 (refine aS.z ?_;cbv));refine aM.i hR ?_ ?_<;>intro YN hR<;>cbv
 ·exact go
 (iterate 6 (refine aS.z ?_;cbv));refine aM.i hR ?_ ?_<;>intro W1 hR<;>cbv
 ·exact go
 (iterate 3 (refine aS.z ?_;cbv));refine aM.i hR ?_ ?_<;>intro Rz hR<;>cbv
 ·(iterate 4 (refine aS.z ?_;cbv));obtain⟨Qz,QI,hR⟩:=az hR;apply aS.is
  ·intro J hJ;cbv;refine bF.mk _ (iC QI) (aY Kept.ts _ _ _ (bn QI)) ?_;cbv;exact hJ
  exact go
 exact go⟩
def Zq (limit:Int):Option (State×Int):=
 if(ai .lss limit 0)=true then
  some ((⟨0,([]:List Cell),(⟨([]:List aQ),([]:List au)⟩:aF),([]:List ah),([]:List Order),([]:List aC),([]:List Kept)⟩:State),2)
 else if(ai .gtr limit 1024)=true then
  some ((⟨0,([]:List Cell),(⟨([]:List aQ),([]:List au)⟩:aF),([]:List ah),([]:List Order),([]:List aC),([]:List Kept)⟩:State),2)
 else some ((⟨limit,([]:List Cell),(⟨([]:List aQ),([]:List au)⟩:aF),([]:List ah),([]:List Order),([]:List aC),([]:List Kept)⟩:State),0)
instance [Pg P](limit:Int)(r:State×Int):bx P 25 (Zq limit=some r) [I6 limit] (.cI [r.1.av,I6 r.2]):=⟨λhR=>by
 have hP:=Pg.h (P:=P);unfold Zq at hR;refine e25 hP ?_;cbv;exact go⟩
def ac9 (s:State)(id:Int):Option (Int):=
 (bh (λ(_:Unit)(i3:Int)(x5:aC)=>
  if(ai .eql x5.order id)=true then
   some (.inr i3)
  else some (.inl ())) s.aj ():Option ((Unit)⊕(Int))).bind λOR=>
 match OR with
 | .inl _=>
  some (-1)
 | .inr OS=>
  some OS
instance [Pg P](s:State)(id:Int)(r:Int):bx P 143 (ac9 s id=some r) [s.av,I6 id] (I6 r):=⟨λhR=>by
 have hP:=Pg.h (P:=P);unfold ac9 at hR;refine afb hP ?_;cbv;exact kC (ty hP) 21 (λN4 i3 s1=>[(1,I6 id),(8,aq aC.ts 4 s.aj),(9,I6 N4),(10,I6 i3)]) (λs1=>[]) (λr_ g_=>(AE.ret,sp 21 [(4,I6 r_)],[])) (AE.exit 0) hR (λN4 sI=>aaP) go go go⟩
def Qw (a:List aU)(b:List aU):Option (Bool):=
 if(ai .neq ((a.map aU.ts).length:Int) ((b.map aU.ts).length:Int))=true then
  some false
 else(bh (λ(_:Unit)(i4:Int)(x6:aU)=>
  (fH b i4).bind λeu=>
  if(!((x6.item==eu.item)&&((x6.aE==eu.aE)&&((x6.gF==eu.gF)&&((x6.unit==eu.unit)&&true)))))=true then
   some (.inr ())
  else some (.inl ())) a ():Option ((Unit)⊕(Unit))).bind λGF=>
 match GF with
 | .inl _=>
  some true
 | .inr _=>
  some false
instance [Pg P](a:List aU)(b:List aU)(r:Bool):bx P 49 (Qw a b=some r) [aq aU.ts 4 a,aq aU.ts 4 b] (B1 r):=⟨λhR=>by
 have hP:=Pg.h (P:=P);unfold Qw at hR;refine _1 hP ?_;cbv;refine aM.i hR ?_ ?_<;>intro c1 hR<;>cbv
 ·cases hR;exact al
 refine kC (ty hP) 26 (λN5 i4 s2=>[(0,aq aU.ts 4 a),(1,aq aU.ts 4 b),(12,I6 N5),(13,I6 i4)]) (λs2=>[]) (λr_ g_=>(AE.ret,sp 26 [(4,AB (.lit false))],[])) (AE.exit 0) hR (λN5 Dg=>aaP) ?_ go go;intro N5 Dg i4 s2 g3 x6 y7 yC yD yE z8 hR J B hJ hB;cbv;refine aM.t (decide_eq_true yD) ?_;cbv;refine aR.of (ty hP) (mo hP) rfl ?_ br.nil;cbv;(iterate 2 (refine aS.z ?_;cbv));apply aS.is
 ·intro J hJ;cbv;refine bF.mk _ yC (aY aU.ts _ _ _ z8) ?_;cbv;exact hJ
 cbv
 (iterate 3 (refine aS.z ?_;cbv));obtain⟨eu,lW,hR⟩:=az hR;apply aS.is
 ·intro J hJ;cbv;refine bF.mk _ (iC lW) (aY aU.ts _ _ _ (bn lW)) ?_;cbv;exact hJ
 exact go⟩
def sN (a:State)(b:State):Option (Bool):=
 if(ai .neq a.limit b.limit)=true then
  some false
 else(Mr a.cells b.cells).bind λp2=>
 if(!p2)=true then
  some false
 else(Qu a.af b.af).bind λp4=>
 if(!p4)=true then
  some false
 else(O5 a.aA b.aA).bind λp6=>
 if(!p6)=true then
  some false
 else if(ai .neq ((a.aa.map Order.ts).length:Int) ((b.aa.map Order.ts).length:Int))=true then
  some false
 else if(ai .neq ((a.aj.map aC.ts).length:Int) ((b.aj.map aC.ts).length:Int))=true then
  some false
 else if(ai .neq ((a.kept.map Kept.ts).length:Int) ((b.kept.map Kept.ts).length:Int))=true then
  some false
 else(bh (λ(_:Unit)(Vx:Int)(Sc:Order)=>
  (fH b.aa Vx).bind λSd=>
  if(ai .neq Sc.id Sd.id)=true then
   some (.inr ())
  else if(ai .neq Sc.aP Sd.aP)=true then
   some (.inr ())
  else if(ai .neq Sc.status Sd.status)=true then
   some (.inr ())
  else(Qw Sc.lines Sd.lines).bind λBE=>
  if(!BE)=true then
   some (.inr ())
  else some (.inl ())) a.aa ():Option ((Unit)⊕(Unit))).bind λ_2=>
 match _2 with
 | .inl _=>
  (bh (λ(_:Unit)(i32:Int)(JD:aC)=>
   (fH b.aj i32).bind λQx=>
   if(!((JD.order==Qx.order)&&((JD.kind==Qx.kind)&&((JD.pos==Qx.pos)&&((JD.aO==Qx.aO)&&true)))))=true then
    some (.inr ())
   else some (.inl ())) a.aj ():Option ((Unit)⊕(Unit))).bind λVy=>
  match Vy with
  | .inl _=>
   (bh (λ(_:Unit)(Se:Int)(Qy:Kept)=>
    (fH b.kept Se).bind λQz=>
    if(!((Qy.mark==Qz.mark)&&(((Qy.cH.why==Qz.cH.why)&&((Qy.cH.status==Qz.cH.status)&&((Qy.cH.ax==Qz.cH.ax)&&true)))&&true)))=true then
     some (.inr ())
    else some (.inl ())) a.kept ():Option ((Unit)⊕(Unit))).bind λ_3=>
   match _3 with
   | .inl _=>
    some true
   | .inr _=>
    some false
  | .inr _=>
   some false
 | .inr _=>
  some false
instance [Pg P](a:State)(b:State)(r:Bool):bx P 16 (sN a b=some r) [a.av,b.av] (B1 r):=⟨λhR=>by
 have hP:=Pg.h (P:=P);unfold sN at hR;refine _4 hP ?_;cbv;refine aM.i hR ?_ ?_<;>intro c1 hR<;>cbv
 ·cases hR;exact al
 obtain⟨p2,BC,hR⟩:=az hR;refine aJ BC ?_;cbv;refine aM.i hR ?_ ?_<;>intro c3 hR<;>cbv
 ·cases hR;exact al
 obtain⟨p4,Ew,hR⟩:=az hR;refine aJ Ew ?_;cbv;refine aM.i hR ?_ ?_<;>intro c5 hR<;>cbv
 ·cases hR;exact al
 obtain⟨p6,GL,hR⟩:=az hR;refine aJ GL ?_;cbv;refine aM.i hR ?_ ?_<;>intro c7 hR<;>cbv
 ·cases hR;exact al
 refine aM.i hR ?_ ?_<;>intro c8 hR<;>cbv
 ·cases hR;exact al
 refine aM.i hR ?_ ?_<;>intro c9 hR<;>cbv
 ·cases hR;exact al
 refine aM.i hR ?_ ?_<;>intro De hR<;>cbv
 ·cases hR;exact al
 refine kC (ty hP) 143 (λVz Vx _5=>[(2,.ref 0 0),(3,.ref 1 0),(67,aq Order.ts 4 a.aa),(68,I6 Vz),(69,I6 Vx)]) (λ_5=>[.box [I6 a.limit,aq Cell.ts 6 a.cells,aq aQ.ts 4 a.af.aK,aq au.ts 4 a.af.ak,aq ah.ts 2 a.aA,aq Order.ts 4 a.aa,aq aC.ts 4 a.aj,aq Kept.ts 4 a.kept],.box [I6 b.limit,aq Cell.ts 6 b.cells,aq aQ.ts 4 b.af.aK,aq au.ts 4 b.af.ak,aq ah.ts 2 b.aA,aq Order.ts 4 b.aa,aq aC.ts 4 b.aj,aq Kept.ts 4 b.kept]]) (λr_ g_=>(AE.ret,sp 143 [(4,AB (.lit false))],[])) (AE.exit 0) hR (λVz QA=>aaP) go ?_ go;intro Vz QA s28 Om hR;dsimp only at hR;cbv;refine kC (ty hP) 143 (λMZ i32 lB=>[(2,.ref 0 0),(3,.ref 1 0),(109,I6 MZ),(110,I6 i32)]) (λlB=>[.box [I6 a.limit,aq Cell.ts 6 a.cells,aq aQ.ts 4 a.af.aK,aq au.ts 4 a.af.ak,aq ah.ts 2 a.aA,aq Order.ts 4 a.aa,aq aC.ts 4 a.aj,aq Kept.ts 4 a.kept],.box [I6 b.limit,aq Cell.ts 6 b.cells,aq aQ.ts 4 b.af.aK,aq au.ts 4 b.af.ak,aq ah.ts 2 b.aA,aq Order.ts 4 b.aa,aq aC.ts 4 b.aj,aq Kept.ts 4 b.kept]]) (λr_ g_=>(AE.ret,sp 143 [(4,AB (.lit false))],[])) (AE.exit 2) hR (λMZ G7=>aaP) ?_ ?_ go
 ·intro MZ G7 i32 lB Cw JD y35 QB QD Sf VA hR J B hJ hB;cbv;refine aM.t (decide_eq_true QD) ?_;cbv;refine aR.of (ty hP) (mo hP) rfl ?_ (br.box (br.box br.nil));cbv;(iterate 3 (refine aS.z ?_;cbv));apply aS.is
  ·intro J hJ;cbv;refine bF.mk _ QB (aY aC.ts _ _ _ VA) ?_;cbv;exact hJ
  cbv
  (iterate 4 (refine aS.z ?_;cbv));obtain⟨Qx,QE,hR⟩:=az hR;apply aS.is
  ·intro J hJ;cbv;refine bF.mk _ (iC QE) (aY aC.ts _ _ _ (bn QE)) ?_;cbv;exact hJ
  exact go
 intro MZ G7 IT Qm hR;dsimp only at hR;cbv;refine kC (ty hP) 143 (λVB Se XP=>[(2,.ref 0 0),(3,.ref 1 0),(127,I6 VB),(128,I6 Se)]) (λXP=>[.box [I6 a.limit,aq Cell.ts 6 a.cells,aq aQ.ts 4 a.af.aK,aq au.ts 4 a.af.ak,aq ah.ts 2 a.aA,aq Order.ts 4 a.aa,aq aC.ts 4 a.aj,aq Kept.ts 4 a.kept],.box [I6 b.limit,aq Cell.ts 6 b.cells,aq aQ.ts 4 b.af.aK,aq au.ts 4 b.af.ak,aq ah.ts 2 b.aA,aq Order.ts 4 b.aa,aq aC.ts 4 b.aj,aq Kept.ts 4 b.kept]]) (λr_ g_=>(AE.ret,sp 143 [(4,AB (.lit false))],[])) (AE.exit 4) hR (λVB QF=>aaP) ?_ go go;intro VB QF Se XP g46 Qy y50 QG QH Sg VC hR J B hJ hB;cbv;refine aM.t (decide_eq_true QH) ?_;cbv;refine aR.of (ty hP) (mo hP) rfl ?_ (br.box (br.box br.nil));cbv;(iterate 3 (refine aS.z ?_;cbv));apply aS.is
 ·intro J hJ;cbv;refine bF.mk _ QG (aY Kept.ts _ _ _ VC) ?_;cbv;exact hJ
 cbv
 (iterate 4 (refine aS.z ?_;cbv));obtain⟨Qz,QI,hR⟩:=az hR;apply aS.is
 ·intro J hJ;cbv;refine bF.mk _ (iC QI) (aY Kept.ts _ _ _ (bn QI)) ?_;cbv;exact hJ
 exact go⟩
def g94 (s:State)(why:Int):Option (State×bz):=
 some (s,(⟨why,0,0⟩:bz))
instance [Pg P](s:State)(why:Int)(r:State×bz):bx P 94 (g94 s why=some r) [s.av,I6 why] (.cI [r.1.av,r.2.av]):=⟨λhR=>by
 have hP:=Pg.h (P:=P);unfold g94 at hR;refine e94 hP ?_;cbv;cases hR;exact al⟩
def VE (s:State):Option (Int×Int):=
 (Zp s).bind λp1=>
 if(ai .neq p1 0)=true then
  some (0,p1)
 else(bh (λ(s3:Int)(_:Int)(x7:aC)=>
  (hleft x7).bind λgO=>
  some (.inl (aH .add .i64 s3 gO.1))) s.aj 0:Option ((Int)⊕(Empty))).bind λGF=>
 match GF with
 | .inl lu=>
  some (lu,0)
 | .inr r_=>r_.elim
instance [Pg P](s:State)(r:Int×Int):bx P 20 (VE s=some r) [s.av] (.cI [I6 r.1,I6 r.2]):=⟨λhR=>by
 have hP:=Pg.h (P:=P);unfold VE at hR;refine e20 hP ?_;cbv;obtain⟨p1,gM,hR⟩:=az hR;refine aJ gM ?_;cbv;refine aM.i hR ?_ ?_<;>intro c2 hR<;>cbv
 ·cases hR;exact al
 exact kC (ty hP) 32 (λN6 i5 s3=>[(5,I6 s3),(16,aq aC.ts 4 s.aj),(17,I6 N6),(18,I6 i5)]) (λs3=>[]) (λr_ _=>r_.elim) (AE.exit 0) hR (λN6 B7=>aaP) go go go⟩
end Go.Proofs.aaa
end
