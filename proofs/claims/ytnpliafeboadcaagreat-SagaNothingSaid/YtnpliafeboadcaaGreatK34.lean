/- Texts that the law leans on, part 34. No conditions. -/
import Derived.Test.YtnpliafeboadcaaGreatK28
import Derived.Test.YtnpliafeboadcaaGreatK29
section
namespace Go.Proofs.aaa
open Go.bA Go.IntWalk
variable{P:Program}
set_option maxHeartbeats 4000000
set_option maxRecDepth 20000
def g5 (limit:Int)(bp:List Act):Option (Bool):=
 (EN).bind λp1=>
 if(!p1)=true then
  some false
 else(EC limit).bind λp3=>
 if(ai .neq p3.2 0)=true then
  if(ai .lss limit 0)=true then
   some true
  else some (ai .gtr limit 1024)
 else(bh (λ(s6:(List bz)×Int×(List Cell)×(List aQ)×(List au)×(List ah)×(List Order)×(List aC)×(List Kept))(i8:Int)(eu:Act)=>
  if(okB (0:Int) (aH .add .i64 i8 1) ((bp.map Act.ts).length:Int) ((bp.map Act.ts).length:Int))=true then
   (gV (⟨s6.2.1,s6.2.2.1,(⟨s6.2.2.2.1,s6.2.2.2.2.1⟩:aF),s6.2.2.2.2.2.1,s6.2.2.2.2.2.2.1,s6.2.2.2.2.2.2.2.1,s6.2.2.2.2.2.2.2.2⟩:State) (⟨eu.mS,(⟨ByteArray.empty,eu.ask.kind,eu.ask.order,eu.ask.lines⟩:Ask),eu.pick,eu.verdict⟩:Act)).bind λkD=>
   if(decide ((s6.1++[kD.2.1]).length*24<=140737488355328))=true then
    (K2 kD.1).bind λeI=>
    if(ai .neq eI 0)=true then
     some (.inr ())
    else(Mo kD.1).bind λKY=>
    if(!KY)=true then
     some (.inr ())
    else(bh (λ(_:Unit)(_:Int)(Cx:Cell)=>
     if(ai .lss Cx.free 0)=true then
      some (.inr ())
     else if(ai .lss Cx.held 0)=true then
      some (.inr ())
     else if(ai .lss Cx.out 0)=true then
      some (.inr ())
     else(Om (AM bp (0:Int) (aH .add .i64 i8 1)) (s6.1++[kD.2.1]) Cx.item Cx.aE).bind λtT=>
     if(ai .neq (aH .add .i64 (aH .add .i64 Cx.free Cx.held) Cx.out) tT)=true then
      some (.inr ())
     else some (.inl ())) kD.1.cells ():Option ((Unit)⊕(Unit))).bind λVy=>
    match Vy with
    | .inl _=>
     some (.inl ((s6.1++[kD.2.1]),kD.1.limit,kD.1.cells,kD.1.af.aK,kD.1.af.ak,kD.1.aA,kD.1.aa,kD.1.aj,kD.1.kept))
    | .inr _=>
     some (.inr ())
   else none
  else none) bp ([],p3.1.limit,p3.1.cells,p3.1.af.aK,p3.1.af.ak,p3.1.aA,p3.1.aa,p3.1.aj,p3.1.kept):Option (((List bz)×Int×(List Cell)×(List aQ)×(List au)×(List ah)×(List Order)×(List aC)×(List Kept))⊕(Unit))).bind λR45=>
 match R45 with
 | .inl _=>
  some true
 | .inr _=>
  some false
instance [Pg P](limit:Int)(bp:List Act)(r:Bool):bx P 5 (g5 limit bp=some r) [I6 limit,aq Act.ts 7 bp] (B1 r):=⟨λhR=>by
 have hP:=Pg.h (P:=P);unfold g5 at hR;refine e5 hP ?_;cbv;obtain⟨p1,gM,hR⟩:=az hR;refine aJ gM ?_;cbv;refine aM.i hR ?_ ?_<;>intro c2 hR<;>cbv
 ·cases hR;exact al
 obtain⟨p3,oV,hR⟩:=az hR;refine aJ oV ?_;cbv;refine aM.i hR ?_ ?_<;>intro c4 hR<;>cbv
 ·exact go
 refine lp (ty hP) (γ:=(λs6=>({c_:Nat//s6.1.length<=c_}))) (γ':=(λ_=>Unit)) 106 (λN9 i8 s6 g7=>[(1,aq Act.ts 7 bp),(5,.ref 0 0),(7,.sl 1 3 (.lit 0) (.th λ_=>s6.1.length) (.th λ_=>g7.val)),(32,aq Act.ts 7 bp),(33,I6 N9),(34,I6 i8)]) (λs6 g7=>[.box [I6 s6.2.1,aq Cell.ts 6 s6.2.2.1,aq aQ.ts 4 s6.2.2.2.1,aq au.ts 4 s6.2.2.2.2.1,aq ah.ts 2 s6.2.2.2.2.2.1,aq Order.ts 4 s6.2.2.2.2.2.2.1,aq aC.ts 4 s6.2.2.2.2.2.2.2.1,aq Kept.ts 4 s6.2.2.2.2.2.2.2.2],aL bz.ts 3 s6.1 g7.val]) (λr_ g_=>(AE.ret,sp 106 [(4,AB (.lit false))],[])) (AE.exit 0) ⟨0,Nat.le_refl 0⟩ hR (λN9 uQ=>dj.sp [0,1001] rfl rfl rfl (.cons rfl (.c .refl) (.cons rfl (.ref (q:=0) rfl) (.cons rfl (.o6 (q:=1) rfl rfl rfl rfl) (.cons rfl (.c .refl) (.cons rfl (.int ((aW Act.ts 7 bp).trans uQ.symm)) (.cons rfl (.int rfl) .nil)))))) (.cons rfl (.aN (.cons (.int rfl) (.cons (.c .refl) (.cons (.c .refl) (.cons (.c .refl) (.cons (.c .refl) (.cons (.c .refl) (.cons (.c .refl) (.cons (.c .refl) .nil))))))))) (.kill rfl ⟨rfl,rfl⟩ .nil))) ?_ go go;intro N9 uQ i8 s6 g7 eu UM Cr Cs Ct lW hR J B hJ hB;cbv;refine aM.t (decide_eq_true Cs) ?_;cbv;refine bF.mk _ Cr (aY Act.ts _ _ _ lW) ?_;cbv;obtain⟨pY,hR⟩:=bl hR;refine bg.mk pY ?_;cbv;obtain⟨kD,B9,hR⟩:=az hR;refine aJ B9 ?_;cbv;obtain⟨JA,hR⟩:=bl hR;refine IP (ty hP) (e:=42) s6.1 kD.2.1 (of_decide_eq_true JA) λwH EO=> ?_;cbv;obtain⟨eI,qZ,hR⟩:=az hR;refine aJ qZ ?_;cbv;refine aM.i hR ?_ ?_<;>intro L7 hR<;>cbv
 ·exact go
 obtain⟨KY,Gz,hR⟩:=az hR;refine aJ Gz ?_;cbv;refine aM.i hR ?_ ?_<;>intro YD hR<;>cbv
 ·exact go
 refine kC (ty hP) 106 (λVY X0 KZ=>[(1,aq Act.ts 7 bp),(5,.ref 0 0),(7,.sl 1 3 (.lit 0) (.th λ_=>(s6.1++[kD.2.1]).length) (.th λ_=>wH)),(10,.c (.bJ 7 λ_=>.dO 7 (sC (bp.map Act.ts) (0:Int) (aH .add .i64 i8 1)))),(32,aq Act.ts 7 bp),(33,I6 N9),(34,I6 i8),(67,aq Cell.ts 6 kD.1.cells),(68,I6 VY),(69,I6 X0)]) (λKZ=>[.box [I6 kD.1.limit,aq Cell.ts 6 kD.1.cells,aq aQ.ts 4 kD.1.af.aK,aq au.ts 4 kD.1.af.ak,aq ah.ts 2 kD.1.aA,aq Order.ts 4 kD.1.aa,aq aC.ts 4 kD.1.aj,aq Kept.ts 4 kD.1.kept],aL bz.ts 3 (s6.1++[kD.2.1]) wH]) (λr_ g_=>(AE.ret,sp 106 [(4,AB (.lit false))],[])) (AE.exit 2) hR (λVY QX=>dj.sp [0,7] rfl rfl rfl (.cons rfl (.c .refl) (.cons rfl (.ref (q:=0) rfl) (.cons rfl (.sl (q:=1) rfl rfl rfl rfl) (.cons rfl (.pure rfl) (.cons rfl (.c .refl) (.cons rfl (.int rfl) (.cons rfl (.int rfl) (.cons rfl (.c .refl) (.cons rfl (.int ((aW Cell.ts 6 kD.1.cells).trans QX.symm)) (.cons rfl (.int rfl) .nil)))))))))) (.cons rfl (.aN (.cons (.int rfl) (.cons (.c .refl) (.cons (.c .refl) (.cons (.c .refl) (.cons (.c .refl) (.cons (.c .refl) (.cons (.c .refl) (.cons (.c .refl) .nil))))))))) (.cons rfl (.aD rfl rfl) .nil))) ?_ go go;intro VY QX X0 KZ Zp Cx y27 QY QZ So JC hR J B hJ hB;cbv;refine aM.t (decide_eq_true QZ) ?_;cbv;refine bF.mk _ QY (aY Cell.ts _ _ _ JC) ?_;cbv;refine aR.cS (ty hP) (mo hP) rfl ?_;cbv;(iterate 4 (refine aS.z ?_;cbv));refine aM.i hR ?_ ?_<;>intro S_ hR<;>cbv
 ·exact go
 (iterate 5 (refine aS.z ?_;cbv));refine aM.i hR ?_ ?_<;>intro YG hR<;>cbv
 ·exact go
 (iterate 5 (refine aS.z ?_;cbv));refine aM.i hR ?_ ?_<;>intro Ta hR<;>cbv
 ·exact go
 (iterate 14 (refine aS.z ?_;cbv));obtain⟨tT,MW,hR⟩:=az hR;refine(@rt P 29 _ _ _ _ MW).Hs (.pure rfl (.c (.bJ rfl rfl (.of (E0 _ _ _ _)))) (.own (.AN rfl rfl rfl rfl) (.pure rfl (.int rfl) (.pure rfl (.int rfl) .nil)))) rfl ?_;cbv;exact go⟩
end Go.Proofs.aaa
end
