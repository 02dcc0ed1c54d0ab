/- Texts that the law leans on, part 25. No conditions. -/
import Derived.Test.YtnpliafeboadcaaGreatK16
import Derived.Test.YtnpliafeboadcaaGreatK23
import Derived.Test.YtnpliafeboadcaaGreatK24
section
namespace Go.Proofs.aaa
open Go.bA Go.IntWalk
variable{P:Program}
set_option maxHeartbeats 4000000
set_option maxRecDepth 20000
def Qv (s:State)(id:Int):Option (Order×Bool):=
 (bh (λ(_:Unit)(_:Int)(x5:Order)=>
  if(ai .eql x5.id id)=true then
   some (.inr x5)
  else some (.inl ())) s.aa ():Option ((Unit)⊕(Order))).bind λOR=>
 match OR with
 | .inl _=>
  some ((⟨0,([]:List aU),0,0⟩:Order),false)
 | .inr OS=>
  some (OS,true)
instance [Pg P](s:State)(id:Int)(r:Order×Bool):bx P 35 (Qv s id=some r) [s.av,I6 id] (.cI [r.1.av,B1 r.2]):=⟨λhR=>by
 have hP:=Pg.h (P:=P);unfold Qv at hR;refine _0 hP ?_;cbv;exact kC (ty hP) 22 (λN4 i3 s1=>[(1,I6 id),(4,.ref 0 0),(9,aq Order.ts 4 s.aa),(10,I6 N4),(11,I6 i3)]) (λs1=>[.box [AI .i64 (.lit 0),.c (.lit (.slice none 0 0)),AI .i64 (.lit 0),AI .u8 (.lit 0)]]) (λr_ g_=>(AE.ret,sp 22 [(4,.ref 0 0),(5,AB (.lit true))],[.box [I6 r_.id,aq aU.ts 4 r_.lines,I6 r_.aP,I8 r_.status]])) (AE.exit 0) hR (λN4 sI=>dj.sp [1] rfl rfl rfl (.cons rfl (.int rfl) (.cons rfl (.ref (q:=0) rfl) (.cons rfl (.c .refl) (.cons rfl (.int ((aW Order.ts 4 s.aa).trans sI.symm)) (.cons rfl (.int rfl) .nil))))) (.cons rfl (.aN (.cons (.int rfl) (.cons (.pure rfl) (.cons (.int rfl) (.cons (.int rfl) .nil))))) .nil)) go go go⟩
def Qw (a:List aU)(b:List aU):Option (Bool):=
 if(ai .neq ((a.map aU.ts).length:Int) ((b.map aU.ts).length:Int))=true then
  some false
 else(bh (λ(_:Unit)(i4:Int)(x6:aU)=>
  (fH b i4).bind λeu=>
  if(!((x6.item==eu.item)&&((x6.aE==eu.aE)&&((x6.gF==eu.gF)&&((x6.unit==eu.unit)&&true)))))=true then
   some (.inr ())
  else some (.inl ())) a ():Option ((Unit)⊕(Unit))).bind λGF=>
 match GF with
 | .inl _=>
  some true
 | .inr _=>
  some false
instance [Pg P](a:List aU)(b:List aU)(r:Bool):bx P 49 (Qw a b=some r) [aq aU.ts 4 a,aq aU.ts 4 b] (B1 r):=⟨λhR=>by
 have hP:=Pg.h (P:=P);unfold Qw at hR;refine _1 hP ?_;cbv;refine aM.i hR ?_ ?_<;>intro c1 hR<;>cbv
 ·cases hR;exact al
 refine kC (ty hP) 26 (λN5 i4 s2=>[(0,aq aU.ts 4 a),(1,aq aU.ts 4 b),(12,I6 N5),(13,I6 i4)]) (λs2=>[]) (λr_ g_=>(AE.ret,sp 26 [(4,AB (.lit false))],[])) (AE.exit 0) hR (λN5 Dg=>dj.sp [] rfl rfl rfl (.cons rfl (.c .refl) (.cons rfl (.c .refl) (.cons rfl (.int ((aW aU.ts 4 a).trans Dg.symm)) (.cons rfl (.int rfl) .nil)))) .nil) ?_ go go;intro N5 Dg i4 s2 g3 x6 y7 yC yD yE z8 hR J B hJ hB;cbv;refine aM.t (decide_eq_true yD) ?_;cbv;refine aR.of (ty hP) (mo hP) rfl ?_ br.nil;cbv;(iterate 2 (refine aS.z ?_;cbv));apply aS.is
 ·intro J hJ;cbv;refine bF.mk _ yC (aY aU.ts _ _ _ z8) ?_;cbv;exact hJ
 cbv
 (iterate 3 (refine aS.z ?_;cbv));obtain⟨eu,lW,hR⟩:=az hR;apply aS.is
 ·intro J hJ;cbv;refine bF.mk _ (iC lW) (aY aU.ts _ _ _ (bn lW)) ?_;cbv;exact hJ
 exact go⟩
def sN (a:State)(b:State):Option (Bool):=
 if(ai .neq a.limit b.limit)=true then
  some false
 else(Mr a.cells b.cells).bind λp2=>
 if(!p2)=true then
  some false
 else(Qu a.af b.af).bind λp4=>
 if(!p4)=true then
  some false
 else(O5 a.aA b.aA).bind λp6=>
 if(!p6)=true then
  some false
 else if(ai .neq ((a.aa.map Order.ts).length:Int) ((b.aa.map Order.ts).length:Int))=true then
  some false
 else if(ai .neq ((a.aj.map aC.ts).length:Int) ((b.aj.map aC.ts).length:Int))=true then
  some false
 else if(ai .neq ((a.kept.map Kept.ts).length:Int) ((b.kept.map Kept.ts).length:Int))=true then
  some false
 else(bh (λ(_:Unit)(Vx:Int)(Sc:Order)=>
  (fH b.aa Vx).bind λSd=>
  if(ai .neq Sc.id Sd.id)=true then
   some (.inr ())
  else if(ai .neq Sc.aP Sd.aP)=true then
   some (.inr ())
  else if(ai .neq Sc.status Sd.status)=true then
   some (.inr ())
  else(Qw Sc.lines Sd.lines).bind λBE=>
  if(!BE)=true then
   some (.inr ())
  else some (.inl ())) a.aa ():Option ((Unit)⊕(Unit))).bind λ_2=>
 match _2 with
 | .inl _=>
  (bh (λ(_:Unit)(i32:Int)(JD:aC)=>
   (fH b.aj i32).bind λQx=>
   if(!((JD.order==Qx.order)&&((JD.kind==Qx.kind)&&((JD.pos==Qx.pos)&&((JD.aO==Qx.aO)&&true)))))=true then
    some (.inr ())
   else some (.inl ())) a.aj ():Option ((Unit)⊕(Unit))).bind λVy=>
  match Vy with
  | .inl _=>
   (bh (λ(_:Unit)(Se:Int)(Qy:Kept)=>
    (fH b.kept Se).bind λQz=>
    if(!((Qy.mark==Qz.mark)&&(((Qy.cH.why==Qz.cH.why)&&((Qy.cH.status==Qz.cH.status)&&((Qy.cH.ax==Qz.cH.ax)&&true)))&&true)))=true then
     some (.inr ())
    else some (.inl ())) a.kept ():Option ((Unit)⊕(Unit))).bind λ_3=>
   match _3 with
   | .inl _=>
    some true
   | .inr _=>
    some false
  | .inr _=>
   some false
 | .inr _=>
  some false
instance [Pg P](a:State)(b:State)(r:Bool):bx P 16 (sN a b=some r) [a.av,b.av] (B1 r):=⟨λhR=>by
 have hP:=Pg.h (P:=P);unfold sN at hR;refine _4 hP ?_;cbv;refine aM.i hR ?_ ?_<;>intro c1 hR<;>cbv
 ·cases hR;exact al
 obtain⟨p2,BC,hR⟩:=az hR;refine aJ BC ?_;cbv;refine aM.i hR ?_ ?_<;>intro c3 hR<;>cbv
 ·cases hR;exact al
 obtain⟨p4,Ew,hR⟩:=az hR;refine aJ Ew ?_;cbv;refine aM.i hR ?_ ?_<;>intro c5 hR<;>cbv
 ·cases hR;exact al
 obtain⟨p6,GL,hR⟩:=az hR;refine aJ GL ?_;cbv;refine aM.i hR ?_ ?_<;>intro c7 hR<;>cbv
 ·cases hR;exact al
 refine aM.i hR ?_ ?_<;>intro c8 hR<;>cbv
 ·cases hR;exact al
 refine aM.i hR ?_ ?_<;>intro c9 hR<;>cbv
 ·cases hR;exact al
 refine aM.i hR ?_ ?_<;>intro De hR<;>cbv
 ·cases hR;exact al
 refine kC (ty hP) 143 (λVz Vx _5=>[(2,.ref 0 0),(3,.ref 1 0),(67,aq Order.ts 4 a.aa),(68,I6 Vz),(69,I6 Vx)]) (λ_5=>[.box [I6 a.limit,aq Cell.ts 6 a.cells,aq aQ.ts 4 a.af.aK,aq au.ts 4 a.af.ak,aq ah.ts 2 a.aA,aq Order.ts 4 a.aa,aq aC.ts 4 a.aj,aq Kept.ts 4 a.kept],.box [I6 b.limit,aq Cell.ts 6 b.cells,aq aQ.ts 4 b.af.aK,aq au.ts 4 b.af.ak,aq ah.ts 2 b.aA,aq Order.ts 4 b.aa,aq aC.ts 4 b.aj,aq Kept.ts 4 b.kept]]) (λr_ g_=>(AE.ret,sp 143 [(4,AB (.lit false))],[])) (AE.exit 0) hR (λVz QA=>dj.sp [0,1] rfl rfl rfl (.cons rfl (.ref (q:=0) rfl) (.cons rfl (.ref (q:=1) rfl) (.cons rfl (.c .refl) (.cons rfl (.int ((aW Order.ts 4 a.aa).trans QA.symm)) (.cons rfl (.int rfl) .nil))))) (.cons rfl (.aN (.cons (.int rfl) (.cons (.c .refl) (.cons (.c .refl) (.cons (.c .refl) (.cons (.c .refl) (.cons (.c .refl) (.cons (.c .refl) (.cons (.c .refl) .nil))))))))) (.cons rfl (.aN (.cons (.int rfl) (.cons (.c .refl) (.cons (.c .refl) (.cons (.c .refl) (.cons (.c .refl) (.cons (.c .refl) (.cons (.c .refl) (.cons (.c .refl) .nil))))))))) .nil))) go ?_ go;intro Vz QA s28 Om hR;dsimp only at hR;cbv;refine kC (ty hP) 143 (λMZ i32 lB=>[(2,.ref 0 0),(3,.ref 1 0),(109,I6 MZ),(110,I6 i32)]) (λlB=>[.box [I6 a.limit,aq Cell.ts 6 a.cells,aq aQ.ts 4 a.af.aK,aq au.ts 4 a.af.ak,aq ah.ts 2 a.aA,aq Order.ts 4 a.aa,aq aC.ts 4 a.aj,aq Kept.ts 4 a.kept],.box [I6 b.limit,aq Cell.ts 6 b.cells,aq aQ.ts 4 b.af.aK,aq au.ts 4 b.af.ak,aq ah.ts 2 b.aA,aq Order.ts 4 b.aa,aq aC.ts 4 b.aj,aq Kept.ts 4 b.kept]]) (λr_ g_=>(AE.ret,sp 143 [(4,AB (.lit false))],[])) (AE.exit 2) hR (λMZ G7=>dj.sp [0,1] rfl rfl rfl (.cons rfl (.ref (q:=0) rfl) (.cons rfl (.ref (q:=1) rfl) (.cons rfl (.int ((aW aC.ts 4 a.aj).trans G7.symm)) (.cons rfl (.int rfl) .nil)))) (.cons rfl (.aN (.cons (.int rfl) (.cons (.c .refl) (.cons (.c .refl) (.cons (.c .refl) (.cons (.c .refl) (.cons (.c .refl) (.cons (.c .refl) (.cons (.c .refl) .nil))))))))) (.cons rfl (.aN (.cons (.int rfl) (.cons (.c .refl) (.cons (.c .refl) (.cons (.c .refl) (.cons (.c .refl) (.cons (.c .refl) (.cons (.c .refl) (.cons (.c .refl) .nil))))))))) .nil))) ?_ ?_ go
 ·intro MZ G7 i32 lB Cw JD y35 QB QD Sf VA hR J B hJ hB;cbv;refine aM.t (decide_eq_true QD) ?_;cbv;refine aR.of (ty hP) (mo hP) rfl ?_ (br.box (br.box br.nil));cbv;(iterate 3 (refine aS.z ?_;cbv));apply aS.is
  ·intro J hJ;cbv;refine bF.mk _ QB (aY aC.ts _ _ _ VA) ?_;cbv;exact hJ
  cbv
  (iterate 4 (refine aS.z ?_;cbv));obtain⟨Qx,QE,hR⟩:=az hR;apply aS.is
  ·intro J hJ;cbv;refine bF.mk _ (iC QE) (aY aC.ts _ _ _ (bn QE)) ?_;cbv;exact hJ
  exact go
 intro MZ G7 IT Qm hR;dsimp only at hR;cbv;refine kC (ty hP) 143 (λVB Se XP=>[(2,.ref 0 0),(3,.ref 1 0),(127,I6 VB),(128,I6 Se)]) (λXP=>[.box [I6 a.limit,aq Cell.ts 6 a.cells,aq aQ.ts 4 a.af.aK,aq au.ts 4 a.af.ak,aq ah.ts 2 a.aA,aq Order.ts 4 a.aa,aq aC.ts 4 a.aj,aq Kept.ts 4 a.kept],.box [I6 b.limit,aq Cell.ts 6 b.cells,aq aQ.ts 4 b.af.aK,aq au.ts 4 b.af.ak,aq ah.ts 2 b.aA,aq Order.ts 4 b.aa,aq aC.ts 4 b.aj,aq Kept.ts 4 b.kept]]) (λr_ g_=>(AE.ret,sp 143 [(4,AB (.lit false))],[])) (AE.exit 4) hR (λVB QF=>dj.sp [0,1] rfl rfl rfl (.cons rfl (.ref (q:=0) rfl) (.cons rfl (.ref (q:=1) rfl) (.cons rfl (.int ((aW Kept.ts 4 a.kept).trans QF.symm)) (.cons rfl (.int rfl) .nil)))) (.cons rfl (.aN (.cons (.int rfl) (.cons (.c .refl) (.cons (.c .refl) (.cons (.c .refl) (.cons (.c .refl) (.cons (.c .refl) (.cons (.c .refl) (.cons (.c .refl) .nil))))))))) (.cons rfl (.aN (.cons (.int rfl) (.cons (.c .refl) (.cons (.c .refl) (.cons (.c .refl) (.cons (.c .refl) (.cons (.c .refl) (.cons (.c .refl) (.cons (.c .refl) .nil))))))))) .nil))) ?_ go go;intro VB QF Se XP g46 Qy y50 QG QH Sg VC hR J B hJ hB;cbv;refine aM.t (decide_eq_true QH) ?_;cbv;refine aR.of (ty hP) (mo hP) rfl ?_ (br.box (br.box br.nil));cbv;(iterate 3 (refine aS.z ?_;cbv));apply aS.is
 ·intro J hJ;cbv;refine bF.mk _ QG (aY Kept.ts _ _ _ VC) ?_;cbv;exact hJ
 cbv
 (iterate 4 (refine aS.z ?_;cbv));obtain⟨Qz,QI,hR⟩:=az hR;apply aS.is
 ·intro J hJ;cbv;refine bF.mk _ (iC QI) (aY Kept.ts _ _ _ (bn QI)) ?_;cbv;exact hJ
 exact go⟩
end Go.Proofs.aaa
end
