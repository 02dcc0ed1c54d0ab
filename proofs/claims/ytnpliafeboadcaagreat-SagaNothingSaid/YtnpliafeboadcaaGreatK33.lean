/- Texts that the law leans on, part 33. No conditions. -/
import Derived.Test.YtnpliafeboadcaaGreatK28
import Derived.Test.YtnpliafeboadcaaGreatK29
section
namespace Go.Proofs.aaa
open Go.bA Go.IntWalk
variable{P:Program}
set_option maxHeartbeats 4000000
set_option maxRecDepth 20000
def g8 (limit:Int)(bp:List Act)(item:Int)(aE:Int)(order:Int):Option (Bool):=
 (EN).bind λp1=>
 if(!p1)=true then
  some false
 else(EC limit).bind λp3=>
 if(ai .neq p3.2 0)=true then
  if(ai .lss limit 0)=true then
   some true
  else some (ai .gtr limit 1024)
 else(bh (λ(s6:Int×(List Cell)×(List aQ)×(List au)×(List ah)×(List Order)×(List aC)×(List Kept))(_:Int)(eu:Act)=>
  (gV (⟨s6.1,s6.2.1,(⟨s6.2.2.1,s6.2.2.2.1⟩:aF),s6.2.2.2.2.1,s6.2.2.2.2.2.1,s6.2.2.2.2.2.2.1,s6.2.2.2.2.2.2.2⟩:State) eu).bind λiq=>
  some (.inl (iq.1.limit,iq.1.cells,iq.1.af.aK,iq.1.af.ak,iq.1.aA,iq.1.aa,iq.1.aj,iq.1.kept))) bp (p3.1.limit,p3.1.cells,p3.1.af.aK,p3.1.af.ak,p3.1.aA,p3.1.aa,p3.1.aj,p3.1.kept):Option ((Int×(List Cell)×(List aQ)×(List au)×(List ah)×(List Order)×(List aC)×(List Kept))⊕(Empty))).bind λQW=>
 match QW with
 | .inl gu=>
  (oF (⟨gu.1,gu.2.1,(⟨gu.2.2.1,gu.2.2.2.1⟩:aF),gu.2.2.2.2.1,gu.2.2.2.2.2.1,gu.2.2.2.2.2.2.1,gu.2.2.2.2.2.2.2⟩:State) (⟨ByteArray.empty,6,0,([(⟨item,aE,0,0⟩:aU)]:List aU)⟩:Ask)).bind λeI=>
  if(ai .neq eI.2.2 0)=true then
   some false
  else if(ai .neq eI.2.1.why 0)=true then
   some (ai .eql eI.2.1.why 2)
  else(FP gu.2.1 item aE).bind λmO=>
  if(ai .neq mO.free eI.2.1.ax)=true then
   some false
  else(iB (λ(EZ:Int)=>
   if(ai .lss EZ 2)=true then
    (oF (⟨gu.1,gu.2.1,(⟨gu.2.2.1,gu.2.2.2.1⟩:aF),gu.2.2.2.2.1,gu.2.2.2.2.2.1,gu.2.2.2.2.2.2.1,gu.2.2.2.2.2.2.2⟩:State) (⟨ByteArray.empty,1,order,([(⟨item,aE,(aH .add .i64 eI.2.1.ax EZ),1⟩:aU)]:List aU)⟩:Ask)).bind λow=>
    if(ai .neq ow.2.2 0)=true then
     some (.inr (.inl ()))
    else if(ai .neq ow.2.1.why 0)=true then
     some (.inl (aH .add .i64 EZ 1))
    else(uR ow.1 (aH .sub .i64 ((ow.1.aj.map aC.ts).length:Int) 1) 0).bind λJL=>
    if(ai .neq JL.2.2 0)=true then
     some (.inr (.inl ()))
    else if(ai .neq JL.2.1.step 1)=true then
     some (.inr (.inl ()))
    else if(!((ai .eql JL.2.1.why 0)==(ai .eql EZ 0)))=true then
     some (.inr (.inl ()))
    else if(ai .eql EZ 1)=true then
     if(ai .neq JL.2.1.why 13)=true then
      some (.inr (.inl ()))
     else some (.inl (aH .add .i64 EZ 1))
    else some (.inl (aH .add .i64 EZ 1))
   else some (.inr (.inr ()))) 1000000 0:Option (Unit⊕Unit)).bind λVX=>
  match VX with
  | .inl _=>
   some false
  | .inr _=>
   some true
 | .inr r_=>r_.elim
instance [Pg P](limit:Int)(bp:List Act)(item:Int)(aE:Int)(order:Int)(r:Bool):bx P 8 (g8 limit bp item aE order=some r) [I6 limit,aq Act.ts 7 bp,I6 item,I6 aE,I6 order] (B1 r):=⟨λhR=>by
 have hP:=Pg.h (P:=P);unfold g8 at hR;refine e8 hP ?_;cbv;obtain⟨p1,gM,hR⟩:=az hR;refine aJ gM ?_;cbv;refine aM.i hR ?_ ?_<;>intro c2 hR<;>cbv
 ·cases hR;exact al
 obtain⟨p3,oV,hR⟩:=az hR;refine aJ oV ?_;cbv;refine aM.i hR ?_ ?_<;>intro c4 hR<;>cbv
 ·exact go
 refine kC (ty hP) 153 (λN9 i8 s6=>[(2,I6 item),(3,I6 aE),(4,I6 order),(11,.ref 0 0),(43,aq Act.ts 7 bp),(44,I6 N9),(45,I6 i8)]) (λs6=>[.box [I6 s6.1,aq Cell.ts 6 s6.2.1,aq aQ.ts 4 s6.2.2.1,aq au.ts 4 s6.2.2.2.1,aq ah.ts 2 s6.2.2.2.2.1,aq Order.ts 4 s6.2.2.2.2.2.1,aq aC.ts 4 s6.2.2.2.2.2.2.1,aq Kept.ts 4 s6.2.2.2.2.2.2.2]]) (λr_ _=>r_.elim) (AE.exit 0) hR (λN9 uQ=>dj.sp [0] rfl rfl rfl (.cons rfl (.int rfl) (.cons rfl (.int rfl) (.cons rfl (.int rfl) (.cons rfl (.ref (q:=0) rfl) (.cons rfl (.c .refl) (.cons rfl (.int ((aW Act.ts 7 bp).trans uQ.symm)) (.cons rfl (.int rfl) .nil))))))) (.cons rfl (.aN (.cons (.int rfl) (.cons (.c .refl) (.cons (.c .refl) (.cons (.c .refl) (.cons (.c .refl) (.cons (.c .refl) (.cons (.c .refl) (.cons (.c .refl) .nil))))))))) .nil)) go ?_ go;intro N9 uQ gu uR hR;dsimp only at hR;cbv;obtain⟨eI,qZ,hR⟩:=az hR;refine(@rt P 14 _ _ _ _ qZ).freeze [1] (.cons (.pure rfl) (.cons (.eJ (.cons (.str rfl) (.cons (.int rfl) (.cons (.int rfl) (.cons (.B5 [[.int .i64 (.th λ_=>item),.int .i64 (.th λ_=>aE),.int .i64 (.lit 0),.int .i64 (.lit 0)]] _ rfl rfl rfl (Nat.le_refl _) (.jP rfl (.cons (.cons (.int rfl) (.cons (.int rfl) (.cons (.int rfl) (.cons (.int rfl) .nil)))) .nil))) .nil))))) .nil)) rfl ?_;cbv;refine aM.i hR ?_ ?_<;>intro L7 hR<;>cbv
 ·exact go
 refine aM.i hR ?_ ?_<;>intro S7 hR<;>cbv
 ·exact go
 refine aR.of (ty hP) (mo hP) rfl ?_ (br.box (br.dead (br.box (br.box br.nil))));cbv;(iterate 4 (refine aS.z ?_;cbv));obtain⟨mO,uC,hR⟩:=az hR;apply aS.is
 ·intro J hJ;cbv;refine aJ uC ?_;cbv;exact hJ
 cbv
 (iterate 4 (refine aS.z ?_;cbv));refine aM.i hR ?_ ?_<;>intro WT hR<;>cbv
 ·cases hR;exact al
 refine lq (ty hP) (γ:=(λEZ=>Unit)) (γ':=(λ_=>Unit)) 153 (λEZ EC=>[(2,I6 item),(3,I6 aE),(4,I6 order),(11,.ref 0 0),(20,.ref 1 0),(21,I6 EZ)]) (λEZ EC=>[.box [I6 gu.1,aq Cell.ts 6 gu.2.1,aq aQ.ts 4 gu.2.2.1,aq au.ts 4 gu.2.2.2.1,aq ah.ts 2 gu.2.2.2.2.1,aq Order.ts 4 gu.2.2.2.2.2.1,aq aC.ts 4 gu.2.2.2.2.2.2.1,aq Kept.ts 4 gu.2.2.2.2.2.2.2],.box [I6 eI.2.1.why,I8 eI.2.1.status,I6 eI.2.1.ax]]) (λr_ g_=>match r_ with| .inl r_=>(AE.ret,sp 153 [(10,AB (.lit false))],[])| .inr r_=>(AE.exit 2,sp 153 [],[])) () hR (Gi [0,3]) ?_ ?_
 ·intro EZ EC y28 hR J B hJ hB;cbv;refine aM.i hR ?_ ?_<;>intro WY hR<;>cbv
  ·obtain⟨ow,yI,hR⟩:=az hR;refine(@rt P 14 _ _ _ _ yI).freeze [3] (.cons (.pure rfl) (.cons (.eJ (.cons (.str rfl) (.cons (.int rfl) (.cons (.int rfl) (.cons (.B5 [[.int .i64 (.th λ_=>item),.int .i64 (.th λ_=>aE),.int .i64 (.th λ_=>(aH .add .i64 eI.2.1.ax EZ)),.int .i64 (.lit 1)]] _ rfl rfl rfl (Nat.le_refl _) (.jP rfl (.cons (.cons (.int rfl) (.cons (.int rfl) (.cons (.int rfl) (.cons (.int rfl) .nil)))) .nil))) .nil))))) .nil)) rfl ?_;cbv;exact go
  exact go
 rintro(r42|r44) g_ hR;all_goals dsimp only at hR
 ·obtain⟨nM,Na⟩:∃x,x=g_:=⟨_,rfl⟩;subst Na;cbv;cases hR;exact al
 obtain⟨g45,Na⟩:∃x,x=g_:=⟨_,rfl⟩;subst Na;cbv;cases hR;exact al⟩
end Go.Proofs.aaa
end
