/- Texts that the law leans on, part 23. No conditions. -/
import Derived.Test.YtnpliafeboadcaaGreatK10
section
namespace Go.Proofs.aaa
open Go.bA Go.IntWalk
variable{P:Program}
set_option maxHeartbeats 4000000
set_option maxRecDepth 20000
def Mr (a:List Cell)(b:List Cell):Option (Bool):=
 if(ai .neq ((a.map Cell.ts).length:Int) ((b.map Cell.ts).length:Int))=true then
  some false
 else(bh (λ(_:Unit)(i4:Int)(x6:Cell)=>
  (fH b i4).bind λeu=>
  if(!((x6.item==eu.item)&&((x6.aE==eu.aE)&&((x6.free==eu.free)&&((x6.held==eu.held)&&((x6.out==eu.out)&&((x6.all==eu.all)&&true)))))))=true then
   some (.inr ())
  else some (.inl ())) a ():Option ((Unit)⊕(Unit))).bind λGF=>
 match GF with
 | .inl _=>
  some true
 | .inr _=>
  some false
instance [Pg P](a:List Cell)(b:List Cell)(r:Bool):bx P 36 (Mr a b=some r) [aq Cell.ts 6 a,aq Cell.ts 6 b] (B1 r):=⟨λhR=>by
 have hP:=Pg.h (P:=P);unfold Mr at hR;refine _W hP ?_;cbv;refine aM.i hR ?_ ?_<;>intro c1 hR<;>cbv
 ·cases hR;exact al
 refine kC (ty hP) 26 (λN5 i4 s2=>[(0,aq Cell.ts 6 a),(1,aq Cell.ts 6 b),(12,I6 N5),(13,I6 i4)]) (λs2=>[]) (λr_ g_=>(AE.ret,sp 26 [(4,AB (.lit false))],[])) (AE.exit 0) hR (λN5 Dg=>dj.sp [] rfl rfl rfl (.cons rfl (.c .refl) (.cons rfl (.c .refl) (.cons rfl (.int ((aW Cell.ts 6 a).trans Dg.symm)) (.cons rfl (.int rfl) .nil)))) .nil) ?_ go go;intro N5 Dg i4 s2 g3 x6 y7 yC yD yE z8 hR J B hJ hB;cbv;refine aM.t (decide_eq_true yD) ?_;cbv;refine aR.of (ty hP) (mo hP) rfl ?_ br.nil;cbv;(iterate 2 (refine aS.z ?_;cbv));apply aS.is
 ·intro J hJ;cbv;refine bF.mk _ yC (aY Cell.ts _ _ _ z8) ?_;cbv;exact hJ
 cbv
 (iterate 3 (refine aS.z ?_;cbv));obtain⟨eu,lW,hR⟩:=az hR;apply aS.is
 ·intro J hJ;cbv;refine bF.mk _ (iC lW) (aY Cell.ts _ _ _ (bn lW)) ?_;cbv;exact hJ
 exact go⟩
end Go.Proofs.aaa
end
