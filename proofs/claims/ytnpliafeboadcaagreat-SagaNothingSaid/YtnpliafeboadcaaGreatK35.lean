/- Texts that the law leans on, part 35. No conditions. -/
import Derived.Test.YtnpliafeboadcaaGreatK28
import Derived.Test.YtnpliafeboadcaaGreatK29
section
namespace Go.Proofs.aaa
open Go.bA Go.IntWalk
variable{P:Program}
set_option maxHeartbeats 4000000
set_option maxRecDepth 20000
def g6 (limit:Int)(bp:List Act)(kG:List Int):Option (Bool):=
 (EN).bind λp1=>
 if(!p1)=true then
  some false
 else(EC limit).bind λp3=>
 if(ai .neq p3.2 0)=true then
  if(ai .lss limit 0)=true then
   some true
  else some (ai .gtr limit 1024)
 else(bh (λ(s6:Int×(List Cell)×(List aQ)×(List au)×(List ah)×(List Order)×(List aC)×(List Kept))(_:Int)(eu:Act)=>
  (gV (⟨s6.1,s6.2.1,(⟨s6.2.2.1,s6.2.2.2.1⟩:aF),s6.2.2.2.2.1,s6.2.2.2.2.2.1,s6.2.2.2.2.2.2.1,s6.2.2.2.2.2.2.2⟩:State) eu).bind λiq=>
  some (.inl (iq.1.limit,iq.1.cells,iq.1.af.aK,iq.1.af.ak,iq.1.aA,iq.1.aa,iq.1.aj,iq.1.kept))) bp (p3.1.limit,p3.1.cells,p3.1.af.aK,p3.1.af.ak,p3.1.aA,p3.1.aa,p3.1.aj,p3.1.kept):Option ((Int×(List Cell)×(List aQ)×(List au)×(List ah)×(List Order)×(List aC)×(List Kept))⊕(Empty))).bind λQW=>
 match QW with
 | .inl gu=>
  (yJ (⟨gu.1,gu.2.1,(⟨gu.2.2.1,gu.2.2.2.1⟩:aF),gu.2.2.2.2.1,gu.2.2.2.2.2.1,gu.2.2.2.2.2.2.1,gu.2.2.2.2.2.2.2⟩:State)).bind λeI=>
  if(ai .neq eI.2 0)=true then
   some false
  else(iB (λ(eS:Int×Int×(List Cell)×(List aQ)×(List au)×(List ah)×(List Order)×(List aC)×(List Kept))=>
   if(ai .lss eS.1 eI.1)=true then
    if(ai .gtr ((eS.2.2.2.2.2.2.2.1.map aC.ts).length:Int) 0)=true then
     if(ai .lss eS.1 ((kG.map (v7 .i64)).length:Int))=true then
      (fH kG eS.1).bind λX1=>
      (yJ (⟨eS.2.1,eS.2.2.1,(⟨eS.2.2.2.1,eS.2.2.2.2.1⟩:aF),eS.2.2.2.2.2.1,eS.2.2.2.2.2.2.1,eS.2.2.2.2.2.2.2.1,eS.2.2.2.2.2.2.2.2⟩:State)).bind λow=>
      (uR (⟨eS.2.1,eS.2.2.1,(⟨eS.2.2.2.1,eS.2.2.2.2.1⟩:aF),eS.2.2.2.2.2.1,eS.2.2.2.2.2.2.1,eS.2.2.2.2.2.2.2.1,eS.2.2.2.2.2.2.2.2⟩:State) X1 0).bind λgL=>
      (yJ gL.1).bind λq_=>
      if(ai .neq gL.2.2 0)=true then
       some (.inr (.inl ()))
      else if(ai .geq q_.1 ow.1)=true then
       if(ai .eql gL.2.1.why 0)=true then
        some (.inr (.inl ()))
       else if(ai .neq gL.2.1.step 1)=true then
        some (.inr (.inl ()))
       else if(ai .gtr q_.1 ow.1)=true then
        some (.inr (.inl ()))
       else some (.inl ((aH .add .i64 eS.1 1),gL.1.limit,gL.1.cells,gL.1.af.aK,gL.1.af.ak,gL.1.aA,gL.1.aa,gL.1.aj,gL.1.kept))
      else if(ai .neq gL.2.1.why 0)=true then
       if(ai .neq gL.2.1.step 1)=true then
        some (.inr (.inl ()))
       else if(ai .gtr q_.1 ow.1)=true then
        some (.inr (.inl ()))
       else some (.inl ((aH .add .i64 eS.1 1),gL.1.limit,gL.1.cells,gL.1.af.aK,gL.1.af.ak,gL.1.aA,gL.1.aa,gL.1.aj,gL.1.kept))
      else some (.inl ((aH .add .i64 eS.1 1),gL.1.limit,gL.1.cells,gL.1.af.aK,gL.1.af.ak,gL.1.aA,gL.1.aa,gL.1.aj,gL.1.kept))
     else(yJ (⟨eS.2.1,eS.2.2.1,(⟨eS.2.2.2.1,eS.2.2.2.2.1⟩:aF),eS.2.2.2.2.2.1,eS.2.2.2.2.2.2.1,eS.2.2.2.2.2.2.2.1,eS.2.2.2.2.2.2.2.2⟩:State)).bind λmU=>
     (uR (⟨eS.2.1,eS.2.2.1,(⟨eS.2.2.2.1,eS.2.2.2.2.1⟩:aF),eS.2.2.2.2.2.1,eS.2.2.2.2.2.2.1,eS.2.2.2.2.2.2.2.1,eS.2.2.2.2.2.2.2.2⟩:State) eS.1 0).bind λkR=>
     (yJ kR.1).bind λVZ=>
     if(ai .neq kR.2.2 0)=true then
      some (.inr (.inl ()))
     else if(ai .geq VZ.1 mU.1)=true then
      if(ai .eql kR.2.1.why 0)=true then
       some (.inr (.inl ()))
      else if(ai .neq kR.2.1.step 1)=true then
       some (.inr (.inl ()))
      else if(ai .gtr VZ.1 mU.1)=true then
       some (.inr (.inl ()))
      else some (.inl ((aH .add .i64 eS.1 1),kR.1.limit,kR.1.cells,kR.1.af.aK,kR.1.af.ak,kR.1.aA,kR.1.aa,kR.1.aj,kR.1.kept))
     else if(ai .neq kR.2.1.why 0)=true then
      if(ai .neq kR.2.1.step 1)=true then
       some (.inr (.inl ()))
      else if(ai .gtr VZ.1 mU.1)=true then
       some (.inr (.inl ()))
      else some (.inl ((aH .add .i64 eS.1 1),kR.1.limit,kR.1.cells,kR.1.af.aK,kR.1.af.ak,kR.1.aA,kR.1.aa,kR.1.aj,kR.1.kept))
     else some (.inl ((aH .add .i64 eS.1 1),kR.1.limit,kR.1.cells,kR.1.af.aK,kR.1.af.ak,kR.1.aA,kR.1.aa,kR.1.aj,kR.1.kept))
    else some (.inr (.inr (⟨eS.2.1,eS.2.2.1,(⟨eS.2.2.2.1,eS.2.2.2.2.1⟩:aF),eS.2.2.2.2.2.1,eS.2.2.2.2.2.2.1,eS.2.2.2.2.2.2.2.1,eS.2.2.2.2.2.2.2.2⟩:State)))
   else some (.inr (.inr (⟨eS.2.1,eS.2.2.1,(⟨eS.2.2.2.1,eS.2.2.2.2.1⟩:aF),eS.2.2.2.2.2.1,eS.2.2.2.2.2.2.1,eS.2.2.2.2.2.2.2.1,eS.2.2.2.2.2.2.2.2⟩:State)))) 1000000 (0,gu.1,gu.2.1,gu.2.2.1,gu.2.2.2.1,gu.2.2.2.2.1,gu.2.2.2.2.2.1,gu.2.2.2.2.2.2.1,gu.2.2.2.2.2.2.2):Option (Unit⊕State)).bind λU4=>
  match U4 with
  | .inl _=>
   some false
  | .inr pq=>
   if(ai .neq ((pq.aj.map aC.ts).length:Int) 0)=true then
    some false
   else(bh (λ(_:Unit)(_:Int)(IV:Order)=>
    if(ai .neq IV.status 2)=true then
     if(ai .neq IV.status 3)=true then
      if(ai .neq IV.status 5)=true then
       if(ai .neq IV.status 7)=true then
        some (.inr ())
       else(IL pq.af IV.id).bind λQj=>
       if(ai .neq Qj.bC 0)=true then
        some (.inr ())
       else some (.inl ())
      else(IL pq.af IV.id).bind λp74=>
      if(ai .neq p74.bC 0)=true then
       some (.inr ())
      else some (.inl ())
     else(IL pq.af IV.id).bind λp76=>
     if(ai .neq p76.bC 0)=true then
      some (.inr ())
     else some (.inl ())
    else(IL pq.af IV.id).bind λFZ=>
    if(ai .neq FZ.bC 0)=true then
     some (.inr ())
    else some (.inl ())) pq.aa ():Option ((Unit)⊕(Unit))).bind λUJ=>
   match UJ with
   | .inl _=>
    (bh (λ(_:Unit)(_:Int)(Q0:Cell)=>
     if(ai .neq Q0.held 0)=true then
      some (.inr ())
     else(Cw pq Q0.item Q0.aE).bind λX2=>
     if(ai .neq Q0.out X2)=true then
      some (.inr ())
     else some (.inl ())) pq.cells ():Option ((Unit)⊕(Unit))).bind λR96=>
    match R96 with
    | .inl _=>
     (uR pq 0 0).bind λG5=>
     if(ai .eql G5.2.2 11)=true then
      (Mo pq).bind λwG=>
      some wG
     else some false
    | .inr _=>
     some false
   | .inr _=>
    some false
 | .inr r_=>r_.elim
instance [Pg P](limit:Int)(bp:List Act)(kG:List Int)(r:Bool):bx P 6 (g6 limit bp kG=some r) [I6 limit,aq Act.ts 7 bp,aq (v7 .i64) 1 kG] (B1 r):=⟨λhR=>by
 have hP:=Pg.h (P:=P);unfold g6 at hR;refine e6 hP ?_;cbv;obtain⟨p1,gM,hR⟩:=az hR;refine aJ gM ?_;cbv;refine aM.i hR ?_ ?_<;>intro c2 hR<;>cbv
 ·cases hR;exact al
 obtain⟨p3,oV,hR⟩:=az hR;refine aJ oV ?_;cbv;refine aM.i hR ?_ ?_<;>intro c4 hR<;>cbv
 ·exact go
 refine kC (ty hP) 204 (λN9 i8 s6=>[(2,aq (v7 .i64) 1 kG),(7,.ref 0 0),(47,aq Act.ts 7 bp),(48,I6 N9),(49,I6 i8)]) (λs6=>[.box [I6 s6.1,aq Cell.ts 6 s6.2.1,aq aQ.ts 4 s6.2.2.1,aq au.ts 4 s6.2.2.2.1,aq ah.ts 2 s6.2.2.2.2.1,aq Order.ts 4 s6.2.2.2.2.2.1,aq aC.ts 4 s6.2.2.2.2.2.2.1,aq Kept.ts 4 s6.2.2.2.2.2.2.2]]) (λr_ _=>r_.elim) (AE.exit 0) hR (λN9 uQ=>dj.sp [0] rfl rfl rfl (.cons rfl (.c .refl) (.cons rfl (.ref (q:=0) rfl) (.cons rfl (.c .refl) (.cons rfl (.int ((aW Act.ts 7 bp).trans uQ.symm)) (.cons rfl (.int rfl) .nil))))) (.cons rfl (.aN (.cons (.int rfl) (.cons (.c .refl) (.cons (.c .refl) (.cons (.c .refl) (.cons (.c .refl) (.cons (.c .refl) (.cons (.c .refl) (.cons (.c .refl) .nil))))))))) .nil)) go ?_ go;intro N9 uQ gu uR hR;dsimp only at hR;cbv;obtain⟨eI,qZ,hR⟩:=az hR;refine aJ qZ ?_;cbv;refine aM.i hR ?_ ?_<;>intro L7 hR<;>cbv
 ·cases hR;exact al
 refine lq (ty hP) (γ:=(λeS=>Unit)) (γ':=(λ_=>Unit)) 204 (λeS EN=>[(2,aq (v7 .i64) 1 kG),(7,.ref 0 0),(15,I6 eI.1),(16,I6 eS.1)]) (λeS EN=>[.box [I6 eS.2.1,aq Cell.ts 6 eS.2.2.1,aq aQ.ts 4 eS.2.2.2.1,aq au.ts 4 eS.2.2.2.2.1,aq ah.ts 2 eS.2.2.2.2.2.1,aq Order.ts 4 eS.2.2.2.2.2.2.1,aq aC.ts 4 eS.2.2.2.2.2.2.2.1,aq Kept.ts 4 eS.2.2.2.2.2.2.2.2]]) (λr_ g_=>match r_ with| .inl r_=>(AE.ret,sp 204 [(6,AB (.lit false))],[])| .inr r_=>(AE.exit 2,sp 204 [(7,.ref 0 0)],[.box [I6 r_.limit,aq Cell.ts 6 r_.cells,aq aQ.ts 4 r_.af.aK,aq au.ts 4 r_.af.ak,aq ah.ts 2 r_.aA,aq Order.ts 4 r_.aa,aq aC.ts 4 r_.aj,aq Kept.ts 4 r_.kept]])) () hR (Gi [0]) ?_ ?_
 ·intro eS EN y25 hR J B hJ hB;cbv;refine aM.i hR ?_ ?_<;>intro WW hR<;>cbv
  ·refine aM.i hR ?_ ?_<;>intro S8 hR<;>cbv
   ·refine aM.i hR ?_ ?_<;>intro WX hR<;>cbv
    ·obtain⟨X1,aaZ,hR⟩:=az hR;refine bF.mk _ (iC aaZ) (aY (v7 .i64) _ _ _ (bn aaZ)) ?_;cbv;exact go
    exact go
   exact go
  exact go
 rintro(r55|pq) g_ hR;all_goals dsimp only at hR
 ·obtain⟨Vf,Na⟩:∃x,x=g_:=⟨_,rfl⟩;subst Na;cbv;cases hR;exact al
 obtain⟨ZK,Na⟩:∃x,x=g_:=⟨_,rfl⟩;subst Na;cbv;refine aM.i hR ?_ ?_<;>intro Te hR<;>cbv
 ·cases hR;exact al
 refine kC (ty hP) 204 (λOx VW tC=>[(7,.ref 0 0),(136,aq Order.ts 4 pq.aa),(137,I6 Ox),(138,I6 VW)]) (λtC=>[.box [I6 pq.limit,aq Cell.ts 6 pq.cells,aq aQ.ts 4 pq.af.aK,aq au.ts 4 pq.af.ak,aq ah.ts 2 pq.aA,aq Order.ts 4 pq.aa,aq aC.ts 4 pq.aj,aq Kept.ts 4 pq.kept]]) (λr_ g_=>(AE.ret,sp 204 [(6,AB (.lit false))],[])) (AE.exit 4) hR (λOx JK=>dj.sp [0] rfl rfl rfl (.cons rfl (.ref (q:=0) rfl) (.cons rfl (.c .refl) (.cons rfl (.int ((aW Order.ts 4 pq.aa).trans JK.symm)) (.cons rfl (.int rfl) .nil)))) (.cons rfl (.aN (.cons (.int rfl) (.cons (.c .refl) (.cons (.c .refl) (.cons (.c .refl) (.cons (.c .refl) (.cons (.c .refl) (.cons (.c .refl) (.cons (.c .refl) .nil))))))))) .nil)) go ?_ go;intro Ox JK s83 K5 hR;dsimp only at hR;cbv;refine kC (ty hP) 204 (λV0 X3 X4=>[(7,.ref 0 0),(171,aq Cell.ts 6 pq.cells),(172,I6 V0),(173,I6 X3)]) (λX4=>[.box [I6 pq.limit,aq Cell.ts 6 pq.cells,aq aQ.ts 4 pq.af.aK,aq au.ts 4 pq.af.ak,aq ah.ts 2 pq.aA,aq Order.ts 4 pq.aa,aq aC.ts 4 pq.aj,aq Kept.ts 4 pq.kept]]) (λr_ g_=>(AE.ret,sp 204 [(6,AB (.lit false))],[])) (AE.exit 6) hR (λV0 aa0=>dj.sp [0] rfl rfl rfl (.cons rfl (.ref (q:=0) rfl) (.cons rfl (.c .refl) (.cons rfl (.int ((aW Cell.ts 6 pq.cells).trans aa0.symm)) (.cons rfl (.int rfl) .nil)))) (.cons rfl (.aN (.cons (.int rfl) (.cons (.c .refl) (.cons (.c .refl) (.cons (.c .refl) (.cons (.c .refl) (.cons (.c .refl) (.cons (.c .refl) (.cons (.c .refl) .nil))))))))) .nil)) ?_ go go;intro V0 aa0 X3 X4 K8 Q0 y90 aa1 aa2 Sp V1 hR J B hJ hB;cbv;refine aM.t (decide_eq_true aa2) ?_;cbv;refine bF.mk _ aa1 (aY Cell.ts _ _ _ V1) ?_;cbv;refine aR.of (ty hP) (mo hP) rfl ?_ (br.box (br.box br.nil));cbv
 (iterate 4 (refine aS.z ?_;cbv));refine aM.i hR ?_ ?_<;>intro c93 hR<;>cbv
 ·exact go
 (iterate 7 (refine aS.z ?_;cbv));obtain⟨X2,V2,hR⟩:=az hR;apply aS.is
 ·intro J hJ;cbv;refine aJ V2 ?_;cbv;exact hJ
 exact go⟩
end Go.Proofs.aaa
end
