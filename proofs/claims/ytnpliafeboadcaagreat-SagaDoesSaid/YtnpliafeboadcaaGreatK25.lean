/- Texts that the law leans on, part 25. No conditions. -/
import Derived.Test.YtnpliafeboadcaaGreatK11
section
namespace Go.Proofs.aaa
open Go.bA Go.IntWalk
variable{P:Program}
set_option maxHeartbeats 4000000
set_option maxRecDepth 20000
def aaM (l:List au)(order:Int):Option (aQ×Bool):=
 (bh (λ(s1:Int×Int×Int)(_:Int)(x5:au)=>
  if(ai .neq x5.order order)=true then
   some (.inl (s1.1,s1.2.1,s1.2.2))
  else if(ai .eql x5.dst 2)=true then
   if(ai .eql x5.sJ 2)=true then
    if(ai .eql x5.dst 3)=true then
     if(ai .eql x5.sJ 3)=true then
      if(ai .gtr (aH .sub .i64 (aH .add .i64 s1.1 x5.ax) x5.ax) 1152921504606846976)=true then
       some (.inr ())
      else if(ai .lss (aH .sub .i64 (aH .add .i64 s1.1 x5.ax) x5.ax) (-1152921504606846976))=true then
       some (.inr ())
      else if(ai .gtr (aH .add .i64 s1.2.1 x5.ax) 1152921504606846976)=true then
       some (.inr ())
      else if(ai .gtr (aH .add .i64 s1.2.2 x5.ax) 1152921504606846976)=true then
       some (.inr ())
      else some (.inl ((aH .sub .i64 (aH .add .i64 s1.1 x5.ax) x5.ax),(aH .add .i64 s1.2.1 x5.ax),(aH .add .i64 s1.2.2 x5.ax)))
     else if(ai .gtr (aH .sub .i64 (aH .add .i64 s1.1 x5.ax) x5.ax) 1152921504606846976)=true then
      some (.inr ())
     else if(ai .lss (aH .sub .i64 (aH .add .i64 s1.1 x5.ax) x5.ax) (-1152921504606846976))=true then
      some (.inr ())
     else if(ai .gtr (aH .add .i64 s1.2.1 x5.ax) 1152921504606846976)=true then
      some (.inr ())
     else if(ai .gtr s1.2.2 1152921504606846976)=true then
      some (.inr ())
     else some (.inl ((aH .sub .i64 (aH .add .i64 s1.1 x5.ax) x5.ax),(aH .add .i64 s1.2.1 x5.ax),s1.2.2))
    else if(ai .eql x5.sJ 3)=true then
     if(ai .gtr (aH .sub .i64 (aH .add .i64 s1.1 x5.ax) x5.ax) 1152921504606846976)=true then
      some (.inr ())
     else if(ai .lss (aH .sub .i64 (aH .add .i64 s1.1 x5.ax) x5.ax) (-1152921504606846976))=true then
      some (.inr ())
     else if(ai .gtr s1.2.1 1152921504606846976)=true then
      some (.inr ())
     else if(ai .gtr (aH .add .i64 s1.2.2 x5.ax) 1152921504606846976)=true then
      some (.inr ())
     else some (.inl ((aH .sub .i64 (aH .add .i64 s1.1 x5.ax) x5.ax),s1.2.1,(aH .add .i64 s1.2.2 x5.ax)))
    else if(ai .gtr (aH .sub .i64 (aH .add .i64 s1.1 x5.ax) x5.ax) 1152921504606846976)=true then
     some (.inr ())
    else if(ai .lss (aH .sub .i64 (aH .add .i64 s1.1 x5.ax) x5.ax) (-1152921504606846976))=true then
     some (.inr ())
    else if(ai .gtr s1.2.1 1152921504606846976)=true then
     some (.inr ())
    else if(ai .gtr s1.2.2 1152921504606846976)=true then
     some (.inr ())
    else some (.inl ((aH .sub .i64 (aH .add .i64 s1.1 x5.ax) x5.ax),s1.2.1,s1.2.2))
   else if(ai .eql x5.dst 3)=true then
    if(ai .eql x5.sJ 3)=true then
     if(ai .gtr (aH .add .i64 s1.1 x5.ax) 1152921504606846976)=true then
      some (.inr ())
     else if(ai .lss (aH .add .i64 s1.1 x5.ax) (-1152921504606846976))=true then
      some (.inr ())
     else if(ai .gtr (aH .add .i64 s1.2.1 x5.ax) 1152921504606846976)=true then
      some (.inr ())
     else if(ai .gtr (aH .add .i64 s1.2.2 x5.ax) 1152921504606846976)=true then
      some (.inr ())
     else some (.inl ((aH .add .i64 s1.1 x5.ax),(aH .add .i64 s1.2.1 x5.ax),(aH .add .i64 s1.2.2 x5.ax)))
    else if(ai .gtr (aH .add .i64 s1.1 x5.ax) 1152921504606846976)=true then
     some (.inr ())
    else if(ai .lss (aH .add .i64 s1.1 x5.ax) (-1152921504606846976))=true then
     some (.inr ())
    else if(ai .gtr (aH .add .i64 s1.2.1 x5.ax) 1152921504606846976)=true then
     some (.inr ())
    else if(ai .gtr s1.2.2 1152921504606846976)=true then
     some (.inr ())
    else some (.inl ((aH .add .i64 s1.1 x5.ax),(aH .add .i64 s1.2.1 x5.ax),s1.2.2))
   else if(ai .eql x5.sJ 3)=true then
    if(ai .gtr (aH .add .i64 s1.1 x5.ax) 1152921504606846976)=true then
     some (.inr ())
    else if(ai .lss (aH .add .i64 s1.1 x5.ax) (-1152921504606846976))=true then
     some (.inr ())
    else if(ai .gtr s1.2.1 1152921504606846976)=true then
     some (.inr ())
    else if(ai .gtr (aH .add .i64 s1.2.2 x5.ax) 1152921504606846976)=true then
     some (.inr ())
    else some (.inl ((aH .add .i64 s1.1 x5.ax),s1.2.1,(aH .add .i64 s1.2.2 x5.ax)))
   else if(ai .gtr (aH .add .i64 s1.1 x5.ax) 1152921504606846976)=true then
    some (.inr ())
   else if(ai .lss (aH .add .i64 s1.1 x5.ax) (-1152921504606846976))=true then
    some (.inr ())
   else if(ai .gtr s1.2.1 1152921504606846976)=true then
    some (.inr ())
   else if(ai .gtr s1.2.2 1152921504606846976)=true then
    some (.inr ())
   else some (.inl ((aH .add .i64 s1.1 x5.ax),s1.2.1,s1.2.2))
  else if(ai .eql x5.sJ 2)=true then
   if(ai .eql x5.dst 3)=true then
    if(ai .eql x5.sJ 3)=true then
     if(ai .gtr (aH .sub .i64 s1.1 x5.ax) 1152921504606846976)=true then
      some (.inr ())
     else if(ai .lss (aH .sub .i64 s1.1 x5.ax) (-1152921504606846976))=true then
      some (.inr ())
     else if(ai .gtr (aH .add .i64 s1.2.1 x5.ax) 1152921504606846976)=true then
      some (.inr ())
     else if(ai .gtr (aH .add .i64 s1.2.2 x5.ax) 1152921504606846976)=true then
      some (.inr ())
     else some (.inl ((aH .sub .i64 s1.1 x5.ax),(aH .add .i64 s1.2.1 x5.ax),(aH .add .i64 s1.2.2 x5.ax)))
    else if(ai .gtr (aH .sub .i64 s1.1 x5.ax) 1152921504606846976)=true then
     some (.inr ())
    else if(ai .lss (aH .sub .i64 s1.1 x5.ax) (-1152921504606846976))=true then
     some (.inr ())
    else if(ai .gtr (aH .add .i64 s1.2.1 x5.ax) 1152921504606846976)=true then
     some (.inr ())
    else if(ai .gtr s1.2.2 1152921504606846976)=true then
     some (.inr ())
    else some (.inl ((aH .sub .i64 s1.1 x5.ax),(aH .add .i64 s1.2.1 x5.ax),s1.2.2))
   else if(ai .eql x5.sJ 3)=true then
    if(ai .gtr (aH .sub .i64 s1.1 x5.ax) 1152921504606846976)=true then
     some (.inr ())
    else if(ai .lss (aH .sub .i64 s1.1 x5.ax) (-1152921504606846976))=true then
     some (.inr ())
    else if(ai .gtr s1.2.1 1152921504606846976)=true then
     some (.inr ())
    else if(ai .gtr (aH .add .i64 s1.2.2 x5.ax) 1152921504606846976)=true then
     some (.inr ())
    else some (.inl ((aH .sub .i64 s1.1 x5.ax),s1.2.1,(aH .add .i64 s1.2.2 x5.ax)))
   else if(ai .gtr (aH .sub .i64 s1.1 x5.ax) 1152921504606846976)=true then
    some (.inr ())
   else if(ai .lss (aH .sub .i64 s1.1 x5.ax) (-1152921504606846976))=true then
    some (.inr ())
   else if(ai .gtr s1.2.1 1152921504606846976)=true then
    some (.inr ())
   else if(ai .gtr s1.2.2 1152921504606846976)=true then
    some (.inr ())
   else some (.inl ((aH .sub .i64 s1.1 x5.ax),s1.2.1,s1.2.2))
  else if(ai .eql x5.dst 3)=true then
   if(ai .eql x5.sJ 3)=true then
    if(ai .gtr s1.1 1152921504606846976)=true then
     some (.inr ())
    else if(ai .lss s1.1 (-1152921504606846976))=true then
     some (.inr ())
    else if(ai .gtr (aH .add .i64 s1.2.1 x5.ax) 1152921504606846976)=true then
     some (.inr ())
    else if(ai .gtr (aH .add .i64 s1.2.2 x5.ax) 1152921504606846976)=true then
     some (.inr ())
    else some (.inl (s1.1,(aH .add .i64 s1.2.1 x5.ax),(aH .add .i64 s1.2.2 x5.ax)))
   else if(ai .gtr s1.1 1152921504606846976)=true then
    some (.inr ())
   else if(ai .lss s1.1 (-1152921504606846976))=true then
    some (.inr ())
   else if(ai .gtr (aH .add .i64 s1.2.1 x5.ax) 1152921504606846976)=true then
    some (.inr ())
   else if(ai .gtr s1.2.2 1152921504606846976)=true then
    some (.inr ())
   else some (.inl (s1.1,(aH .add .i64 s1.2.1 x5.ax),s1.2.2))
  else if(ai .eql x5.sJ 3)=true then
   if(ai .gtr s1.1 1152921504606846976)=true then
    some (.inr ())
   else if(ai .lss s1.1 (-1152921504606846976))=true then
    some (.inr ())
   else if(ai .gtr s1.2.1 1152921504606846976)=true then
    some (.inr ())
   else if(ai .gtr (aH .add .i64 s1.2.2 x5.ax) 1152921504606846976)=true then
    some (.inr ())
   else some (.inl (s1.1,s1.2.1,(aH .add .i64 s1.2.2 x5.ax)))
  else if(ai .gtr s1.1 1152921504606846976)=true then
   some (.inr ())
  else if(ai .lss s1.1 (-1152921504606846976))=true then
   some (.inr ())
  else if(ai .gtr s1.2.1 1152921504606846976)=true then
   some (.inr ())
  else if(ai .gtr s1.2.2 1152921504606846976)=true then
   some (.inr ())
  else some (.inl (s1.1,s1.2.1,s1.2.2))) l (0,0,0):Option ((Int×Int×Int)⊕(Unit))).bind λR89=>
 match R89 with
 | .inl s92=>
  some ((⟨order,s92.1,s92.2.1,s92.2.2⟩:aQ),true)
 | .inr _=>
  some ((⟨0,0,0,0⟩:aQ),false)
instance [Pg P](l:List au)(order:Int)(r:aQ×Bool):bx P 126 (aaM l order=some r) [aq au.ts 4 l,I6 order] (.cI [r.1.av,B1 r.2]):=⟨λhR=>by
 have hP:=Pg.h (P:=P);unfold aaM at hR;refine aeU hP ?_;cbv;exact kC (ty hP) 78 (λN4 i3 s1=>[(1,I6 order),(4,.ref 0 0),(6,.ref 1 0),(11,aq au.ts 4 l),(12,I6 N4),(13,I6 i3)]) (λs1=>[.box [AI .i64 (.lit 0),AI .i64 (.lit 0),AI .i64 (.lit 0),AI .i64 (.lit 0)],.box [I6 order,I6 s1.1,I6 s1.2.1,I6 s1.2.2]]) (λr_ g_=>(AE.ret,sp 78 [(4,.ref 0 0),(5,AB (.lit false))],[.box [AI .i64 (.lit 0),AI .i64 (.lit 0),AI .i64 (.lit 0),AI .i64 (.lit 0)]])) (AE.exit 0) hR (λN4 sI=>aaP) go go go⟩
def g69 (b:aF):Option (Int):=
 if(ai .gtr ((b.aK.map aQ.ts).length:Int) 1024)=true then
  some 9
 else if(ai .gtr ((b.ak.map au.ts).length:Int) 16384)=true then
  some 9
 else(bh (λ(_:Unit)(i5:Int)(x7:aQ)=>
  (abK x7.order).bind λgO=>
  if(!gO)=true then
   some (.inr ())
  else(ach x7).bind λz9=>
  if z9=true then
   some (.inr ())
  else if(ai .gtr i5 0)=true then
   (fH b.aK (aH .sub .i64 i5 1)).bind λx16=>
   if(ai .geq x16.order x7.order)=true then
    some (.inr ())
   else if(ai .lss x7.bC 0)=true then
    some (.inr ())
   else if(ai .gtr x7.bC 1152921504606846976)=true then
    some (.inr ())
   else if(ai .lss x7.aT 0)=true then
    some (.inr ())
   else if(ai .gtr x7.aT 1152921504606846976)=true then
    some (.inr ())
   else if(ai .lss x7.aX 0)=true then
    some (.inr ())
   else if(ai .gtr x7.aX x7.aT)=true then
    some (.inr ())
   else(aaM b.ak x7.order).bind λGn=>
   if(!Gn.2)=true then
    some (.inr ())
   else if(!((Gn.1.order==x7.order)&&((Gn.1.bC==x7.bC)&&((Gn.1.aT==x7.aT)&&((Gn.1.aX==x7.aX)&&true)))))=true then
    some (.inr ())
   else some (.inl ())
  else if(ai .lss x7.bC 0)=true then
   some (.inr ())
  else if(ai .gtr x7.bC 1152921504606846976)=true then
   some (.inr ())
  else if(ai .lss x7.aT 0)=true then
   some (.inr ())
  else if(ai .gtr x7.aT 1152921504606846976)=true then
   some (.inr ())
  else if(ai .lss x7.aX 0)=true then
   some (.inr ())
  else if(ai .gtr x7.aX x7.aT)=true then
   some (.inr ())
  else(aaM b.ak x7.order).bind λgL=>
  if(!gL.2)=true then
   some (.inr ())
  else if(!((gL.1.order==x7.order)&&((gL.1.bC==x7.bC)&&((gL.1.aT==x7.aT)&&((gL.1.aX==x7.aX)&&true)))))=true then
   some (.inr ())
  else some (.inl ())) b.aK ():Option ((Unit)⊕(Unit))).bind λR36=>
 match R36 with
 | .inl _=>
  (bh (λ(_:Unit)(_:Int)(x45:au)=>
   (abK x45.order).bind λs7=>
   if(!s7)=true then
    some (.inr ())
   else if(ai .lss x45.ax 1)=true then
    some (.inr ())
   else if(ai .gtr x45.ax 1152921504606846976)=true then
    some (.inr ())
   else(abL x45.sJ).bind λJt=>
   if(!Jt)=true then
    some (.inr ())
   else(abL x45.dst).bind λgK=>
   if(!gK)=true then
    some (.inr ())
   else if(ai .eql x45.sJ x45.dst)=true then
    some (.inr ())
   else some (.inl ())) b.ak ():Option ((Unit)⊕(Unit))).bind λR58=>
  match R58 with
  | .inl _=>
   (bh (λ(_:Unit)(_:Int)(x67:au)=>
    (aaM b.ak x67.order).bind λU8=>
    if(!U8.2)=true then
     some (.inr ())
    else(IL b x67.order).bind λJy=>
    if(!((U8.1.order==Jy.order)&&((U8.1.bC==Jy.bC)&&((U8.1.aT==Jy.aT)&&((U8.1.aX==Jy.aX)&&true)))))=true then
     some (.inr ())
    else some (.inl ())) b.ak ():Option ((Unit)⊕(Unit))).bind λR75=>
   match R75 with
   | .inl _=>
    some 0
   | .inr _=>
    some 9
  | .inr _=>
   some 9
 | .inr _=>
  some 9
instance [Pg P](b:aF)(r:Int):bx P 69 (g69 b=some r) [b.av] (I6 r):=⟨λhR=>by
 have hP:=Pg.h (P:=P);unfold g69 at hR;refine e69 hP ?_;cbv;refine aM.i hR ?_ ?_<;>intro c1 hR<;>cbv
 ·cases hR;exact al
 refine aM.i hR ?_ ?_<;>intro c2 hR<;>cbv
 ·cases hR;exact al
 refine kC (ty hP) 170 (λN6 i5 s3=>[(1,.ref 0 0),(24,aq aQ.ts 4 b.aK),(25,I6 N6),(26,I6 i5)]) (λs3=>[.box [aq aQ.ts 4 b.aK,aq au.ts 4 b.ak]]) (λr_ g_=>(AE.ret,sp 170 [(2,AI .i64 (.lit 9))],[])) (AE.exit 0) hR (λN6 B7=>aaP) ?_ ?_ go
 ·intro N6 B7 i5 s3 g4 x7 y8 Gp Gq Gr OY hR J B hJ hB;cbv;refine aM.t (decide_eq_true Gq) ?_;cbv;refine bF.mk _ Gp (aY aQ.ts _ _ _ OY) ?_;cbv;refine aR.of (ty hP) (mo hP) rfl ?_ (br.box (br.box br.nil));cbv;(iterate 2 (refine aS.z ?_;cbv));obtain⟨gO,qX,hR⟩:=az hR;apply aS.is
  ·intro J hJ;cbv;refine aJ qX ?_;cbv;exact hJ
  cbv
  (iterate 2 (refine aS.z ?_;cbv));refine aM.i hR ?_ ?_<;>intro OU hR<;>cbv
  ·exact go
  refine aS.z ?_;cbv;obtain⟨z9,B8,hR⟩:=az hR;apply aS.is
  ·intro J hJ;cbv;refine aJ B8 ?_;cbv;exact hJ
  cbv
  (iterate 2 (refine aS.z ?_;cbv));refine aM.i hR ?_ ?_<;>intro Ry hR<;>cbv
  ·exact go
  (iterate 3 (refine aS.z ?_;cbv));refine aM.i hR ?_ ?_<;>intro S6 hR<;>cbv
  ·(iterate 4 (refine aS.z ?_;cbv));obtain⟨x16,ad2,hR⟩:=az hR;apply aS.is
   ·intro J hJ;cbv;refine bF.mk _ (iC ad2) (aY aQ.ts _ _ _ (bn ad2)) ?_;cbv;exact hJ
   exact go
  exact go
 intro N6 B7 s39 Gj hR;dsimp only at hR;cbv;refine kC (ty hP) 170 (λN44 i43 s41=>[(1,.ref 0 0),(104,aq au.ts 4 b.ak),(105,I6 N44),(106,I6 i43)]) (λs41=>[.box [aq aQ.ts 4 b.aK,aq au.ts 4 b.ak]]) (λr_ g_=>(AE.ret,sp 170 [(2,AI .i64 (.lit 9))],[])) (AE.exit 2) hR (λN44 ad3=>aaP) go ?_ go;intro N44 ad3 s61 Pa hR;dsimp only at hR;cbv;refine kC (ty hP) 170 (λN66 i65 s63=>[(1,.ref 0 0),(145,aq au.ts 4 b.ak),(146,I6 N66),(147,I6 i65)]) (λs63=>[.box [aq aQ.ts 4 b.aK,aq au.ts 4 b.ak]]) (λr_ g_=>(AE.ret,sp 170 [(2,AI .i64 (.lit 9))],[])) (AE.exit 4) hR (λN66 ad4=>aaP) ?_ go go;intro N66 ad4 i65 s63 Jc x67 y68 ad5 ad6 aet aeZ hR J B hJ hB;cbv;refine aM.t (decide_eq_true ad6) ?_;cbv;refine bF.mk _ ad5 (aY au.ts _ _ _ aeZ) ?_;cbv;obtain⟨U8,Vl,hR⟩:=az hR;refine aJ Vl ?_;cbv;refine aR.of (ty hP) (mo hP) rfl ?_ (br.box (br.box (br.box br.nil)));cbv;(iterate 3 (refine aS.z ?_;cbv));refine aM.i hR ?_ ?_<;>intro c72 hR<;>cbv
 ·exact go
 (iterate 4 (refine aS.z ?_;cbv));obtain⟨Jy,Vn,hR⟩:=az hR;apply aS.is
 ·intro J hJ;cbv;refine aJ Vn ?_;cbv;exact hJ
 exact go⟩
end Go.Proofs.aaa
end
