/- Texts that the law leans on, part 16. No conditions. -/
import Derived.Test.YtnpliafeboadcaaGreatK10
section
namespace Go.Proofs.aaa
open Go.bA Go.IntWalk
variable{P:Program}
set_option maxHeartbeats 4000000
set_option maxRecDepth 20000
def O4 (l:List ah):Option (Int):=
 (bh (λ(s1:Int)(_:Int)(x5:ah)=>
  if(ai .leq x5.order s1)=true then
   some (.inr ())
  else if(ai .gtr x5.order 1024)=true then
   some (.inr ())
  else if(ai .eql x5.state 0)=true then
   some (.inr ())
  else if(ai .geq x5.state 7)=true then
   some (.inr ())
  else some (.inl x5.order)) l 0:Option ((Int)⊕(Unit))).bind λTM=>
 match TM with
 | .inl _=>
  some 0
 | .inr _=>
  some 2
instance [Pg P](l:List ah)(r:Int):bx P 65 (O4 l=some r) [aq ah.ts 2 l] (I6 r):=⟨λhR=>by
 have hP:=Pg.h (P:=P);unfold O4 at hR;refine W8 hP ?_;cbv;exact kC (ty hP) 34 (λN4 i3 s1=>[(3,I6 s1),(6,aq ah.ts 2 l),(7,I6 N4),(8,I6 i3)]) (λs1=>[]) (λr_ g_=>(AE.ret,sp 34 [(2,AI .i64 (.lit 2))],[])) (AE.exit 0) hR (λN4 sI=>dj.sp [] rfl rfl rfl (.cons rfl (.int rfl) (.cons rfl (.c .refl) (.cons rfl (.int ((aW ah.ts 2 l).trans sI.symm)) (.cons rfl (.int rfl) .nil)))) .nil) go go go⟩
def O5 (a:List ah)(b:List ah):Option (Bool):=
 if(ai .neq ((a.map ah.ts).length:Int) ((b.map ah.ts).length:Int))=true then
  some false
 else(bh (λ(_:Unit)(i4:Int)(x6:ah)=>
  (fH b i4).bind λeu=>
  if(!((x6.order==eu.order)&&((x6.state==eu.state)&&true)))=true then
   some (.inr ())
  else some (.inl ())) a ():Option ((Unit)⊕(Unit))).bind λGF=>
 match GF with
 | .inl _=>
  some true
 | .inr _=>
  some false
instance [Pg P](a:List ah)(b:List ah)(r:Bool):bx P 48 (O5 a b=some r) [aq ah.ts 2 a,aq ah.ts 2 b] (B1 r):=⟨λhR=>by
 have hP:=Pg.h (P:=P);unfold O5 at hR;refine Zi hP ?_;cbv;refine aM.i hR ?_ ?_<;>intro c1 hR<;>cbv
 ·cases hR;exact al
 refine kC (ty hP) 26 (λN5 i4 s2=>[(0,aq ah.ts 2 a),(1,aq ah.ts 2 b),(12,I6 N5),(13,I6 i4)]) (λs2=>[]) (λr_ g_=>(AE.ret,sp 26 [(4,AB (.lit false))],[])) (AE.exit 0) hR (λN5 Dg=>dj.sp [] rfl rfl rfl (.cons rfl (.c .refl) (.cons rfl (.c .refl) (.cons rfl (.int ((aW ah.ts 2 a).trans Dg.symm)) (.cons rfl (.int rfl) .nil)))) .nil) ?_ go go;intro N5 Dg i4 s2 g3 x6 y7 yC yD yE z8 hR J B hJ hB;cbv;refine aM.t (decide_eq_true yD) ?_;cbv;refine aR.of (ty hP) (mo hP) rfl ?_ br.nil;cbv;(iterate 2 (refine aS.z ?_;cbv));apply aS.is
 ·intro J hJ;cbv;refine bF.mk _ yC (aY ah.ts _ _ _ z8) ?_;cbv;exact hJ
 cbv
 (iterate 3 (refine aS.z ?_;cbv));obtain⟨eu,lW,hR⟩:=az hR;apply aS.is
 ·intro J hJ;cbv;refine bF.mk _ (iC lW) (aY ah.ts _ _ _ (bn lW)) ?_;cbv;exact hJ
 exact go⟩
end Go.Proofs.aaa
end
