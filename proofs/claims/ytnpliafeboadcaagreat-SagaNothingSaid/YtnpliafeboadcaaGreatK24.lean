/- Texts that the law leans on, part 24. No conditions. -/
import Derived.Test.YtnpliafeboadcaaGreatK10
section
namespace Go.Proofs.aaa
open Go.bA Go.IntWalk
variable{P:Program}
set_option maxHeartbeats 4000000
set_option maxRecDepth 20000
def Qt (b:aF):Option (aF):=
 if(decide ((([]:List aQ)++b.aK).length*32<=140737488355328))=true then
  if(decide ((([]:List au)++b.ak).length*24<=140737488355328))=true then
   some (⟨(([]:List aQ)++b.aK),(([]:List au)++b.ak)⟩:aF)
  else none
 else none
instance [Pg P](b:aF)(r:aF):bx P 37 (Qt b=some r) [b.av] (r.av):=⟨λhR=>by
 have hP:=Pg.h (P:=P);unfold Qt at hR;refine _X hP ?_;cbv;exact go⟩
def Qu (a:aF)(b:aF):Option (Bool):=
 if(ai .neq ((a.aK.map aQ.ts).length:Int) ((b.aK.map aQ.ts).length:Int))=true then
  some false
 else if(ai .neq ((a.ak.map au.ts).length:Int) ((b.ak.map au.ts).length:Int))=true then
  some false
 else(bh (λ(_:Unit)(i5:Int)(x7:aQ)=>
  (fH b.aK i5).bind λGK=>
  if(!((x7.order==GK.order)&&((x7.bC==GK.bC)&&((x7.aT==GK.aT)&&((x7.aX==GK.aX)&&true)))))=true then
   some (.inr ())
  else some (.inl ())) a.aK ():Option ((Unit)⊕(Unit))).bind λTM=>
 match TM with
 | .inl _=>
  (bh (λ(_:Unit)(G4:Int)(we:au)=>
   (fH b.ak G4).bind λCx=>
   if(!((we.order==Cx.order)&&((we.sJ==Cx.sJ)&&((we.dst==Cx.dst)&&((we.ax==Cx.ax)&&true)))))=true then
    some (.inr ())
   else some (.inl ())) a.ak ():Option ((Unit)⊕(Unit))).bind λ_Y=>
  match _Y with
  | .inl _=>
   some true
  | .inr _=>
   some false
 | .inr _=>
  some false
instance [Pg P](a:aF)(b:aF)(r:Bool):bx P 47 (Qu a b=some r) [a.av,b.av] (B1 r):=⟨λhR=>by
 have hP:=Pg.h (P:=P);unfold Qu at hR;refine _Z hP ?_;cbv;refine aM.i hR ?_ ?_<;>intro c1 hR<;>cbv
 ·cases hR;exact al
 refine aM.i hR ?_ ?_<;>intro c2 hR<;>cbv
 ·cases hR;exact al
 refine kC (ty hP) 59 (λN6 i5 s3=>[(2,.ref 0 0),(3,.ref 1 0),(25,I6 N6),(26,I6 i5)]) (λs3=>[.box [aq aQ.ts 4 a.aK,aq au.ts 4 a.ak],.box [aq aQ.ts 4 b.aK,aq au.ts 4 b.ak]]) (λr_ g_=>(AE.ret,sp 59 [(4,AB (.lit false))],[])) (AE.exit 0) hR (λN6 B7=>dj.sp [0,1] rfl rfl rfl (.cons rfl (.ref (q:=0) rfl) (.cons rfl (.ref (q:=1) rfl) (.cons rfl (.int ((aW aQ.ts 4 a.aK).trans B7.symm)) (.cons rfl (.int rfl) .nil)))) (.cons rfl (.aN (.cons (.c .refl) (.cons (.c .refl) .nil))) (.cons rfl (.aN (.cons (.c .refl) (.cons (.c .refl) .nil))) .nil))) ?_ ?_ go
 ·intro N6 B7 i5 s3 g4 x7 y8 Gp Gq Gr OY hR J B hJ hB;cbv;refine aM.t (decide_eq_true Gq) ?_;cbv;refine aR.of (ty hP) (mo hP) rfl ?_ (br.box (br.box br.nil));cbv;(iterate 3 (refine aS.z ?_;cbv));apply aS.is
  ·intro J hJ;cbv;refine bF.mk _ Gp (aY aQ.ts _ _ _ OY) ?_;cbv;exact hJ
  cbv
  (iterate 4 (refine aS.z ?_;cbv));obtain⟨GK,Cl,hR⟩:=az hR;apply aS.is
  ·intro J hJ;cbv;refine bF.mk _ (iC Cl) (aY aQ.ts _ _ _ (bn Cl)) ?_;cbv;exact hJ
  exact go
 intro N6 B7 gu uR hR;dsimp only at hR;cbv;refine kC (ty hP) 59 (λLo G4 F0=>[(2,.ref 0 0),(3,.ref 1 0),(43,I6 Lo),(44,I6 G4)]) (λF0=>[.box [aq aQ.ts 4 a.aK,aq au.ts 4 a.ak],.box [aq aQ.ts 4 b.aK,aq au.ts 4 b.ak]]) (λr_ g_=>(AE.ret,sp 59 [(4,AB (.lit false))],[])) (AE.exit 2) hR (λLo EP=>dj.sp [0,1] rfl rfl rfl (.cons rfl (.ref (q:=0) rfl) (.cons rfl (.ref (q:=1) rfl) (.cons rfl (.int ((aW au.ts 4 a.ak).trans EP.symm)) (.cons rfl (.int rfl) .nil)))) (.cons rfl (.aN (.cons (.c .refl) (.cons (.c .refl) .nil))) (.cons rfl (.aN (.cons (.c .refl) (.cons (.c .refl) .nil))) .nil))) ?_ go go;intro Lo EP G4 F0 yJ we _Q Lp G6 JB GY hR J B hJ hB;cbv;refine aM.t (decide_eq_true G6) ?_;cbv;refine aR.of (ty hP) (mo hP) rfl ?_ (br.box (br.box br.nil));cbv;(iterate 3 (refine aS.z ?_;cbv));apply aS.is
 ·intro J hJ;cbv;refine bF.mk _ Lp (aY au.ts _ _ _ GY) ?_;cbv;exact hJ
 cbv
 (iterate 4 (refine aS.z ?_;cbv));obtain⟨Cx,JC,hR⟩:=az hR;apply aS.is
 ·intro J hJ;cbv;refine bF.mk _ (iC JC) (aY au.ts _ _ _ (bn JC)) ?_;cbv;exact hJ
 exact go⟩
end Go.Proofs.aaa
end
