/- Texts that the law leans on, part 12. No conditions. -/
import Derived.Test.YtnpliafeboadcaaGreatK11
section
namespace Go.Proofs.aaa
open Go.bA Go.IntWalk
variable{P:Program}
set_option maxHeartbeats 4000000
set_option maxRecDepth 20000
def N2 (l:List Cell):Option (Int):=
 if(ai .gtr ((l.map Cell.ts).length:Int) 4096)=true then
  some 9
 else(bh (λ(_:Unit)(i4:Int)(x6:Cell)=>
  (Gf x6).bind λpJ=>
  if(!pJ)=true then
   some (.inr ())
  else if(ai .gtr i4 0)=true then
   (fH l (aH .sub .i64 i4 1)).bind λL3=>
   (z7 L3 x6).bind λiq=>
   if(ai .geq iq 0)=true then
    some (.inr ())
   else some (.inl ())
  else some (.inl ())) l ():Option ((Unit)⊕(Unit))).bind λL4=>
 match L4 with
 | .inl _=>
  some 0
 | .inr _=>
  some 9
instance [Pg P](l:List Cell)(r:Int):bx P 63 (N2 l=some r) [aq Cell.ts 6 l] (I6 r):=⟨λhR=>by
 have hP:=Pg.h (P:=P);unfold N2 at hR;refine Yz hP ?_;cbv;refine aM.i hR ?_ ?_<;>intro c1 hR<;>cbv
 ·cases hR;exact al
 refine kC (ty hP) 33 (λN5 i4 s2=>[(0,aq Cell.ts 6 l),(8,aq Cell.ts 6 l),(9,I6 N5),(10,I6 i4)]) (λs2=>[]) (λr_ g_=>(AE.ret,sp 33 [(2,AI .i64 (.lit 9))],[])) (AE.exit 0) hR (λN5 Dg=>aaP) ?_ go go;intro N5 Dg i4 s2 g3 x6 y7 yC yD yE z8 hR J B hJ hB;cbv;refine aM.t (decide_eq_true yD) ?_;cbv;refine bF.mk _ yC (aY Cell.ts _ _ _ z8) ?_;cbv;refine aR.of (ty hP) (mo hP) rfl ?_ (br.box br.nil);cbv;refine aS.z ?_;cbv;obtain⟨pJ,qW,hR⟩:=az hR;apply aS.is
 ·intro J hJ;cbv;refine aJ qW ?_;cbv;exact hJ
 cbv
 (iterate 2 (refine aS.z ?_;cbv));refine aM.i hR ?_ ?_<;>intro L5 hR<;>cbv
 ·exact go
 (iterate 3 (refine aS.z ?_;cbv));refine aM.i hR ?_ ?_<;>intro OU hR<;>cbv
 ·(iterate 3 (refine aS.z ?_;cbv));obtain⟨L3,OV,hR⟩:=az hR;apply aS.is
  ·intro J hJ;cbv;refine bF.mk _ (iC OV) (aY Cell.ts _ _ _ (bn OV)) ?_;cbv;exact hJ
  cbv
  (iterate 2 (refine aS.z ?_;cbv));obtain⟨iq,L6,hR⟩:=az hR;apply aS.is
  ·intro J hJ;cbv;refine aJ L6 ?_;cbv;exact hJ
  exact go
 exact go⟩
def lX (l:List Cell)(item:Int)(aE:Int):Option (Int×Bool):=
 (Gh l (⟨item,aE,0,0,0,0⟩:Cell)).bind λp1=>
 some (p1.1,p1.2)
instance [Pg P](l:List Cell)(item:Int)(aE:Int)(r:Int×Bool):bx P 174 (lX l item aE=some r) [aq Cell.ts 6 l,I6 item,I6 aE] (.cI [I6 r.1,B1 r.2]):=⟨λhR=>by
 have hP:=Pg.h (P:=P);unfold lX at hR;refine SS hP ?_;cbv;exact go⟩
def wv (l:List Cell)(item:Int)(aE:Int):Option (Cell×Int):=
 (N2 l).bind λp1=>
 if(ai .neq p1 0)=true then
  some ((⟨0,0,0,0,0,0⟩:Cell),p1)
 else(Ei item).bind λp3=>
 if(!p3)=true then
  some ((⟨0,0,0,0,0,0⟩:Cell),2)
 else(Ei aE).bind λp5=>
 if(!p5)=true then
  some ((⟨0,0,0,0,0,0⟩:Cell),2)
 else(lX l item aE).bind λp7=>
 if p7.2=true then
  (fH l p7.1).bind λx9=>
  some (x9,0)
 else some ((⟨item,aE,0,0,0,0⟩:Cell),0)
instance [Pg P](l:List Cell)(item:Int)(aE:Int)(r:Cell×Int):bx P 140 (wv l item aE=some r) [aq Cell.ts 6 l,I6 item,I6 aE] (.cI [r.1.av,I6 r.2]):=⟨λhR=>by
 have hP:=Pg.h (P:=P);unfold wv at hR;refine SU hP ?_;cbv;exact go⟩
def El (l:List Cell)(item:Int)(aE:Int)(n:Int):Option ((List Cell)×Int):=
 (wv l item aE).bind λp1=>
 if(ai .neq p1.2 0)=true then
  some (([]:List Cell),p1.2)
 else if(ai .lss n 1)=true then
  some (([]:List Cell),2)
 else if(ai .gtr n 1048576)=true then
  some (([]:List Cell),2)
 else if(ai .lss (aH .add .i64 p1.1.free n) 0)=true then
  some (([]:List Cell),13)
 else if(ai .lss p1.1.held 0)=true then
  some (([]:List Cell),13)
 else if(ai .lss p1.1.out 0)=true then
  some (([]:List Cell),13)
 else if(ai .gtr (aH .add .i64 p1.1.all n) 1125899906842624)=true then
  some (([]:List Cell),5)
 else(lX l item aE).bind λp9=>
 if(!p9.2)=true then
  if(ai .geq ((l.map Cell.ts).length:Int) 4096)=true then
   some (([]:List Cell),3)
  else if(decide (l.length<=1000000000000))=true then
   if(decide (0<=p9.1/\p9.1<=(l.length:Int)/\l.length<=1000000))=true then
    if(dJ (l.length+1) p9.1)=true then
     (fH (bt l (p9.1).toNat (⟨p1.1.item,p1.1.aE,(aH .add .i64 p1.1.free n),p1.1.held,p1.1.out,(aH .add .i64 p1.1.all n)⟩:Cell)) p9.1).bind λ_=>
     some ((((bt l (p9.1).toNat (⟨p1.1.item,p1.1.aE,(aH .add .i64 p1.1.free n),p1.1.held,p1.1.out,(aH .add .i64 p1.1.all n)⟩:Cell))).set (p9.1).toNat (⟨p1.1.item,p1.1.aE,(aH .add .i64 p1.1.free n),p1.1.held,p1.1.out,(aH .add .i64 p1.1.all n)⟩:Cell)),0)
    else none
   else none
  else none
 else if(decide (l.length<=1000000000000))=true then
  if(dJ l.length p9.1)=true then
   (fH l p9.1).bind λ_=>
   some (((l).set (p9.1).toNat (⟨p1.1.item,p1.1.aE,(aH .add .i64 p1.1.free n),p1.1.held,p1.1.out,(aH .add .i64 p1.1.all n)⟩:Cell)),0)
  else none
 else none
instance [Pg P](l:List Cell)(item:Int)(aE:Int)(n:Int)(r:(List Cell)×Int):bx P 139 (El l item aE n=some r) [aq Cell.ts 6 l,I6 item,I6 aE,I6 n] (.cI [aq Cell.ts 6 r.1,I6 r.2]):=⟨λhR=>by
 have hP:=Pg.h (P:=P);unfold El at hR;refine SV hP ?_;cbv;refine Gk hP ?_;cbv;obtain⟨p1,gM,hR⟩:=az hR;refine aJ gM ?_;cbv;refine aM.i hR ?_ ?_<;>intro c2 hR<;>cbv
 ·cases hR;exact al
 refine aM.i hR ?_ ?_<;>intro c3 hR<;>cbv
 ·cases hR;exact al
 refine aM.i hR ?_ ?_<;>intro c4 hR<;>cbv
 ·cases hR;exact al
 refine SW hP ?_;cbv;refine aR.cS (ty hP) (mo hP) rfl ?_;cbv;(iterate 16 (refine aS.z ?_;cbv));refine bZ.mk (aZ.cons rfl aZ.nil) ?_;cbv;(iterate 2 (refine aS.z ?_;cbv));refine aM.i hR ?_ ?_<;>intro c5 hR<;>cbv
 ·cases hR;exact al
 refine aM.i hR ?_ ?_<;>intro c6 hR<;>cbv
 ·cases hR;exact al
 refine aM.i hR ?_ ?_<;>intro c7 hR<;>cbv
 ·cases hR;exact al
 refine aM.i hR ?_ ?_<;>intro c8 hR<;>cbv
 ·cases hR;exact al
 obtain⟨p9,tw,hR⟩:=az hR;refine aJ tw ?_;cbv;refine aM.i hR ?_ ?_<;>intro De hR<;>cbv
 ·refine aM.i hR ?_ ?_<;>intro L5 hR<;>cbv
  ·cases hR;exact al
  obtain⟨Em,hR⟩:=bl hR;refine(cR hP l (of_decide_eq_true Em)).frame rfl (λx_ o_ bI=> ?_);obtain⟨pX,ot,rfl,rfl⟩:=bI;refine⟨[0],_,_,rfl,.sl (q:=0) rfl rfl rfl rfl,.cons rfl .aL .nil, ?_⟩;cbv;refine aM.t De ?_;cbv;obtain⟨pY,hR⟩:=bl hR;refine aV.i6 0 rfl (λ_ (Gm:pX<=9223372036854775807)=> ?_);refine(ef hP l pX p9.1 (l.length:Int) (⟨p1.1.item,p1.1.aE,(aH .add .i64 p1.1.free n),p1.1.held,p1.1.out,(aH .add .i64 p1.1.all n)⟩:Cell) ot rfl (of_decide_eq_true pY).1 (of_decide_eq_true pY).2.1 (of_decide_eq_true pY).2.2 Gm).own [2,3] [] (by rfl) (by rfl) al al (λx_ o_ bI=> ?_);obtain⟨v8,pZ,rfl,rfl⟩:=bI;refine⟨.dead (.dead (.arr (an _ _) .nil)), ?_⟩;cbv;obtain⟨I_,hR⟩:=bl hR;refine bg.mk I_ ?_;cbv;obtain⟨Rw,yF,hR⟩:=az hR;refine bF.mk _ (ec _) (cj rfl (bn yF) (eT _)) ?_;cbv;cases hR;exact .cA (.cons (.aD rfl (bL (ts:=Cell.ts) (l:=(bt l (p9.1).toNat (⟨p1.1.item,p1.1.aE,(aH .add .i64 p1.1.free n),p1.1.held,p1.1.out,(aH .add .i64 p1.1.all n)⟩:Cell))) (⟨p1.1.item,p1.1.aE,(aH .add .i64 p1.1.free n),p1.1.held,p1.1.out,(aH .add .i64 p1.1.all n)⟩:Cell) rfl (Nat.zero_add _) rfl) rfl rfl (bT ((bW _ _ _).symm))) (.cons (.int rfl) .nil))
 obtain⟨Ja,hR⟩:=bl hR;refine(cR hP l (of_decide_eq_true Ja)).frame rfl (λx_ o_ bI=> ?_);obtain⟨Rx,Jb,rfl,rfl⟩:=bI;refine⟨[0],_,_,rfl,.sl (q:=0) rfl rfl rfl rfl,.cons rfl .aL .nil, ?_⟩;cbv;exact go⟩
def Eo (l:List Cell)(item:Int)(aE:Int)(n:Int):Option ((List Cell)×Int):=
 (wv l item aE).bind λp1=>
 if(ai .neq p1.2 0)=true then
  some (([]:List Cell),p1.2)
 else if(ai .lss n 1)=true then
  some (([]:List Cell),2)
 else if(ai .gtr n 1048576)=true then
  some (([]:List Cell),2)
 else if(ai .lss (aH .sub .i64 p1.1.free n) 0)=true then
  some (([]:List Cell),13)
 else if(ai .lss (aH .add .i64 p1.1.held n) 0)=true then
  some (([]:List Cell),13)
 else if(ai .lss p1.1.out 0)=true then
  some (([]:List Cell),13)
 else if(ai .gtr p1.1.all 1125899906842624)=true then
  some (([]:List Cell),5)
 else(lX l item aE).bind λp9=>
 if(!p9.2)=true then
  if(ai .geq ((l.map Cell.ts).length:Int) 4096)=true then
   some (([]:List Cell),3)
  else if(decide (l.length<=1000000000000))=true then
   if(decide (0<=p9.1/\p9.1<=(l.length:Int)/\l.length<=1000000))=true then
    if(dJ (l.length+1) p9.1)=true then
     (fH (bt l (p9.1).toNat (⟨p1.1.item,p1.1.aE,(aH .sub .i64 p1.1.free n),(aH .add .i64 p1.1.held n),p1.1.out,p1.1.all⟩:Cell)) p9.1).bind λ_=>
     some ((((bt l (p9.1).toNat (⟨p1.1.item,p1.1.aE,(aH .sub .i64 p1.1.free n),(aH .add .i64 p1.1.held n),p1.1.out,p1.1.all⟩:Cell))).set (p9.1).toNat (⟨p1.1.item,p1.1.aE,(aH .sub .i64 p1.1.free n),(aH .add .i64 p1.1.held n),p1.1.out,p1.1.all⟩:Cell)),0)
    else none
   else none
  else none
 else if(decide (l.length<=1000000000000))=true then
  if(dJ l.length p9.1)=true then
   (fH l p9.1).bind λ_=>
   some (((l).set (p9.1).toNat (⟨p1.1.item,p1.1.aE,(aH .sub .i64 p1.1.free n),(aH .add .i64 p1.1.held n),p1.1.out,p1.1.all⟩:Cell)),0)
  else none
 else none
instance [Pg P](l:List Cell)(item:Int)(aE:Int)(n:Int)(r:(List Cell)×Int):bx P 151 (Eo l item aE n=some r) [aq Cell.ts 6 l,I6 item,I6 aE,I6 n] (.cI [aq Cell.ts 6 r.1,I6 r.2]):=⟨λhR=>by
 have hP:=Pg.h (P:=P);unfold Eo at hR;refine SX hP ?_;cbv;refine Gk hP ?_;cbv;obtain⟨p1,gM,hR⟩:=az hR;refine aJ gM ?_;cbv;refine aM.i hR ?_ ?_<;>intro c2 hR<;>cbv
 ·cases hR;exact al
 refine aM.i hR ?_ ?_<;>intro c3 hR<;>cbv
 ·cases hR;exact al
 refine aM.i hR ?_ ?_<;>intro c4 hR<;>cbv
 ·cases hR;exact al
 refine SY hP ?_;cbv;refine aR.cS (ty hP) (mo hP) rfl ?_;cbv;(iterate 16 (refine aS.z ?_;cbv));refine bZ.mk (aZ.cons rfl aZ.nil) ?_;cbv;(iterate 2 (refine aS.z ?_;cbv));refine aM.i hR ?_ ?_<;>intro c5 hR<;>cbv
 ·cases hR;exact al
 refine aM.i hR ?_ ?_<;>intro c6 hR<;>cbv
 ·cases hR;exact al
 refine aM.i hR ?_ ?_<;>intro c7 hR<;>cbv
 ·cases hR;exact al
 refine aM.i hR ?_ ?_<;>intro c8 hR<;>cbv
 ·cases hR;exact al
 obtain⟨p9,tw,hR⟩:=az hR;refine aJ tw ?_;cbv;refine aM.i hR ?_ ?_<;>intro De hR<;>cbv
 ·refine aM.i hR ?_ ?_<;>intro L5 hR<;>cbv
  ·cases hR;exact al
  obtain⟨Em,hR⟩:=bl hR;refine(cR hP l (of_decide_eq_true Em)).frame rfl (λx_ o_ bI=> ?_);obtain⟨pX,ot,rfl,rfl⟩:=bI;refine⟨[0],_,_,rfl,.sl (q:=0) rfl rfl rfl rfl,.cons rfl .aL .nil, ?_⟩;cbv;refine aM.t De ?_;cbv;obtain⟨pY,hR⟩:=bl hR;refine aV.i6 0 rfl (λ_ (Gm:pX<=9223372036854775807)=> ?_);refine(ef hP l pX p9.1 (l.length:Int) (⟨p1.1.item,p1.1.aE,(aH .sub .i64 p1.1.free n),(aH .add .i64 p1.1.held n),p1.1.out,p1.1.all⟩:Cell) ot rfl (of_decide_eq_true pY).1 (of_decide_eq_true pY).2.1 (of_decide_eq_true pY).2.2 Gm).own [2,3] [] (by rfl) (by rfl) al al (λx_ o_ bI=> ?_);obtain⟨v8,pZ,rfl,rfl⟩:=bI;refine⟨.dead (.dead (.arr (an _ _) .nil)), ?_⟩;cbv;obtain⟨I_,hR⟩:=bl hR;refine bg.mk I_ ?_;cbv;obtain⟨Rw,yF,hR⟩:=az hR;refine bF.mk _ (ec _) (cj rfl (bn yF) (eT _)) ?_;cbv;cases hR;exact .cA (.cons (.aD rfl (bL (ts:=Cell.ts) (l:=(bt l (p9.1).toNat (⟨p1.1.item,p1.1.aE,(aH .sub .i64 p1.1.free n),(aH .add .i64 p1.1.held n),p1.1.out,p1.1.all⟩:Cell))) (⟨p1.1.item,p1.1.aE,(aH .sub .i64 p1.1.free n),(aH .add .i64 p1.1.held n),p1.1.out,p1.1.all⟩:Cell) rfl (Nat.zero_add _) rfl) rfl rfl (bT ((bW _ _ _).symm))) (.cons (.int rfl) .nil))
 obtain⟨Ja,hR⟩:=bl hR;refine(cR hP l (of_decide_eq_true Ja)).frame rfl (λx_ o_ bI=> ?_);obtain⟨Rx,Jb,rfl,rfl⟩:=bI;refine⟨[0],_,_,rfl,.sl (q:=0) rfl rfl rfl rfl,.cons rfl .aL .nil, ?_⟩;cbv;exact go⟩
def Ep (l:List Cell)(item:Int)(aE:Int)(n:Int):Option ((List Cell)×Int):=
 (wv l item aE).bind λp1=>
 if(ai .neq p1.2 0)=true then
  some (([]:List Cell),p1.2)
 else if(ai .lss n 1)=true then
  some (([]:List Cell),2)
 else if(ai .gtr n 1048576)=true then
  some (([]:List Cell),2)
 else if(ai .lss (aH .add .i64 p1.1.free n) 0)=true then
  some (([]:List Cell),13)
 else if(ai .lss (aH .sub .i64 p1.1.held n) 0)=true then
  some (([]:List Cell),13)
 else if(ai .lss p1.1.out 0)=true then
  some (([]:List Cell),13)
 else if(ai .gtr p1.1.all 1125899906842624)=true then
  some (([]:List Cell),5)
 else(lX l item aE).bind λp9=>
 if(!p9.2)=true then
  if(ai .geq ((l.map Cell.ts).length:Int) 4096)=true then
   some (([]:List Cell),3)
  else if(decide (l.length<=1000000000000))=true then
   if(decide (0<=p9.1/\p9.1<=(l.length:Int)/\l.length<=1000000))=true then
    if(dJ (l.length+1) p9.1)=true then
     (fH (bt l (p9.1).toNat (⟨p1.1.item,p1.1.aE,(aH .add .i64 p1.1.free n),(aH .sub .i64 p1.1.held n),p1.1.out,p1.1.all⟩:Cell)) p9.1).bind λ_=>
     some ((((bt l (p9.1).toNat (⟨p1.1.item,p1.1.aE,(aH .add .i64 p1.1.free n),(aH .sub .i64 p1.1.held n),p1.1.out,p1.1.all⟩:Cell))).set (p9.1).toNat (⟨p1.1.item,p1.1.aE,(aH .add .i64 p1.1.free n),(aH .sub .i64 p1.1.held n),p1.1.out,p1.1.all⟩:Cell)),0)
    else none
   else none
  else none
 else if(decide (l.length<=1000000000000))=true then
  if(dJ l.length p9.1)=true then
   (fH l p9.1).bind λ_=>
   some (((l).set (p9.1).toNat (⟨p1.1.item,p1.1.aE,(aH .add .i64 p1.1.free n),(aH .sub .i64 p1.1.held n),p1.1.out,p1.1.all⟩:Cell)),0)
  else none
 else none
instance [Pg P](l:List Cell)(item:Int)(aE:Int)(n:Int)(r:(List Cell)×Int):bx P 152 (Ep l item aE n=some r) [aq Cell.ts 6 l,I6 item,I6 aE,I6 n] (.cI [aq Cell.ts 6 r.1,I6 r.2]):=⟨λhR=>by
 have hP:=Pg.h (P:=P);unfold Ep at hR;refine SZ hP ?_;cbv;refine Gk hP ?_;cbv;obtain⟨p1,gM,hR⟩:=az hR;refine aJ gM ?_;cbv;refine aM.i hR ?_ ?_<;>intro c2 hR<;>cbv
 ·cases hR;exact al
 refine aM.i hR ?_ ?_<;>intro c3 hR<;>cbv
 ·cases hR;exact al
 refine aM.i hR ?_ ?_<;>intro c4 hR<;>cbv
 ·cases hR;exact al
 refine aa9 hP ?_;cbv;refine aR.cS (ty hP) (mo hP) rfl ?_;cbv;(iterate 16 (refine aS.z ?_;cbv));refine bZ.mk (aZ.cons rfl aZ.nil) ?_;cbv;(iterate 2 (refine aS.z ?_;cbv));refine aM.i hR ?_ ?_<;>intro c5 hR<;>cbv
 ·cases hR;exact al
 refine aM.i hR ?_ ?_<;>intro c6 hR<;>cbv
 ·cases hR;exact al
 refine aM.i hR ?_ ?_<;>intro c7 hR<;>cbv
 ·cases hR;exact al
 refine aM.i hR ?_ ?_<;>intro c8 hR<;>cbv
 ·cases hR;exact al
 obtain⟨p9,tw,hR⟩:=az hR;refine aJ tw ?_;cbv;refine aM.i hR ?_ ?_<;>intro De hR<;>cbv
 ·refine aM.i hR ?_ ?_<;>intro L5 hR<;>cbv
  ·cases hR;exact al
  obtain⟨Em,hR⟩:=bl hR;refine(cR hP l (of_decide_eq_true Em)).frame rfl (λx_ o_ bI=> ?_);obtain⟨pX,ot,rfl,rfl⟩:=bI;refine⟨[0],_,_,rfl,.sl (q:=0) rfl rfl rfl rfl,.cons rfl .aL .nil, ?_⟩;cbv;refine aM.t De ?_;cbv;obtain⟨pY,hR⟩:=bl hR;refine aV.i6 0 rfl (λ_ (Gm:pX<=9223372036854775807)=> ?_);refine(ef hP l pX p9.1 (l.length:Int) (⟨p1.1.item,p1.1.aE,(aH .add .i64 p1.1.free n),(aH .sub .i64 p1.1.held n),p1.1.out,p1.1.all⟩:Cell) ot rfl (of_decide_eq_true pY).1 (of_decide_eq_true pY).2.1 (of_decide_eq_true pY).2.2 Gm).own [2,3] [] (by rfl) (by rfl) al al (λx_ o_ bI=> ?_);obtain⟨v8,pZ,rfl,rfl⟩:=bI;refine⟨.dead (.dead (.arr (an _ _) .nil)), ?_⟩;cbv;obtain⟨I_,hR⟩:=bl hR;refine bg.mk I_ ?_;cbv;obtain⟨Rw,yF,hR⟩:=az hR;refine bF.mk _ (ec _) (cj rfl (bn yF) (eT _)) ?_;cbv;cases hR;exact .cA (.cons (.aD rfl (bL (ts:=Cell.ts) (l:=(bt l (p9.1).toNat (⟨p1.1.item,p1.1.aE,(aH .add .i64 p1.1.free n),(aH .sub .i64 p1.1.held n),p1.1.out,p1.1.all⟩:Cell))) (⟨p1.1.item,p1.1.aE,(aH .add .i64 p1.1.free n),(aH .sub .i64 p1.1.held n),p1.1.out,p1.1.all⟩:Cell) rfl (Nat.zero_add _) rfl) rfl rfl (bT ((bW _ _ _).symm))) (.cons (.int rfl) .nil))
 obtain⟨Ja,hR⟩:=bl hR;refine(cR hP l (of_decide_eq_true Ja)).frame rfl (λx_ o_ bI=> ?_);obtain⟨Rx,Jb,rfl,rfl⟩:=bI;refine⟨[0],_,_,rfl,.sl (q:=0) rfl rfl rfl rfl,.cons rfl .aL .nil, ?_⟩;cbv;exact go⟩
def Er (l:List Cell)(item:Int)(aE:Int)(n:Int):Option ((List Cell)×Int):=
 (wv l item aE).bind λp1=>
 if(ai .neq p1.2 0)=true then
  some (([]:List Cell),p1.2)
 else if(ai .lss n 1)=true then
  some (([]:List Cell),2)
 else if(ai .gtr n 1048576)=true then
  some (([]:List Cell),2)
 else if(ai .lss p1.1.free 0)=true then
  some (([]:List Cell),13)
 else if(ai .lss (aH .sub .i64 p1.1.held n) 0)=true then
  some (([]:List Cell),13)
 else if(ai .lss (aH .add .i64 p1.1.out n) 0)=true then
  some (([]:List Cell),13)
 else if(ai .gtr p1.1.all 1125899906842624)=true then
  some (([]:List Cell),5)
 else(lX l item aE).bind λp9=>
 if(!p9.2)=true then
  if(ai .geq ((l.map Cell.ts).length:Int) 4096)=true then
   some (([]:List Cell),3)
  else if(decide (l.length<=1000000000000))=true then
   if(decide (0<=p9.1/\p9.1<=(l.length:Int)/\l.length<=1000000))=true then
    if(dJ (l.length+1) p9.1)=true then
     (fH (bt l (p9.1).toNat (⟨p1.1.item,p1.1.aE,p1.1.free,(aH .sub .i64 p1.1.held n),(aH .add .i64 p1.1.out n),p1.1.all⟩:Cell)) p9.1).bind λ_=>
     some ((((bt l (p9.1).toNat (⟨p1.1.item,p1.1.aE,p1.1.free,(aH .sub .i64 p1.1.held n),(aH .add .i64 p1.1.out n),p1.1.all⟩:Cell))).set (p9.1).toNat (⟨p1.1.item,p1.1.aE,p1.1.free,(aH .sub .i64 p1.1.held n),(aH .add .i64 p1.1.out n),p1.1.all⟩:Cell)),0)
    else none
   else none
  else none
 else if(decide (l.length<=1000000000000))=true then
  if(dJ l.length p9.1)=true then
   (fH l p9.1).bind λ_=>
   some (((l).set (p9.1).toNat (⟨p1.1.item,p1.1.aE,p1.1.free,(aH .sub .i64 p1.1.held n),(aH .add .i64 p1.1.out n),p1.1.all⟩:Cell)),0)
  else none
 else none
instance [Pg P](l:List Cell)(item:Int)(aE:Int)(n:Int)(r:(List Cell)×Int):bx P 158 (Er l item aE n=some r) [aq Cell.ts 6 l,I6 item,I6 aE,I6 n] (.cI [aq Cell.ts 6 r.1,I6 r.2]):=⟨λhR=>by
 have hP:=Pg.h (P:=P);unfold Er at hR;refine aa_ hP ?_;cbv;refine Gk hP ?_;cbv;obtain⟨p1,gM,hR⟩:=az hR;refine aJ gM ?_;cbv;refine aM.i hR ?_ ?_<;>intro c2 hR<;>cbv
 ·cases hR;exact al
 refine aM.i hR ?_ ?_<;>intro c3 hR<;>cbv
 ·cases hR;exact al
 refine aM.i hR ?_ ?_<;>intro c4 hR<;>cbv
 ·cases hR;exact al
 refine aba hP ?_;cbv;refine aR.cS (ty hP) (mo hP) rfl ?_;cbv;(iterate 16 (refine aS.z ?_;cbv));refine bZ.mk (aZ.cons rfl aZ.nil) ?_;cbv;(iterate 2 (refine aS.z ?_;cbv));refine aM.i hR ?_ ?_<;>intro c5 hR<;>cbv
 ·cases hR;exact al
 refine aM.i hR ?_ ?_<;>intro c6 hR<;>cbv
 ·cases hR;exact al
 refine aM.i hR ?_ ?_<;>intro c7 hR<;>cbv
 ·cases hR;exact al
 refine aM.i hR ?_ ?_<;>intro c8 hR<;>cbv
 ·cases hR;exact al
 obtain⟨p9,tw,hR⟩:=az hR;refine aJ tw ?_;cbv;refine aM.i hR ?_ ?_<;>intro De hR<;>cbv
 ·refine aM.i hR ?_ ?_<;>intro L5 hR<;>cbv
  ·cases hR;exact al
  obtain⟨Em,hR⟩:=bl hR;refine(cR hP l (of_decide_eq_true Em)).frame rfl (λx_ o_ bI=> ?_);obtain⟨pX,ot,rfl,rfl⟩:=bI;refine⟨[0],_,_,rfl,.sl (q:=0) rfl rfl rfl rfl,.cons rfl .aL .nil, ?_⟩;cbv;refine aM.t De ?_;cbv;obtain⟨pY,hR⟩:=bl hR;refine aV.i6 0 rfl (λ_ (Gm:pX<=9223372036854775807)=> ?_);refine(ef hP l pX p9.1 (l.length:Int) (⟨p1.1.item,p1.1.aE,p1.1.free,(aH .sub .i64 p1.1.held n),(aH .add .i64 p1.1.out n),p1.1.all⟩:Cell) ot rfl (of_decide_eq_true pY).1 (of_decide_eq_true pY).2.1 (of_decide_eq_true pY).2.2 Gm).own [2,3] [] (by rfl) (by rfl) al al (λx_ o_ bI=> ?_);obtain⟨v8,pZ,rfl,rfl⟩:=bI;refine⟨.dead (.dead (.arr (an _ _) .nil)), ?_⟩;cbv;obtain⟨I_,hR⟩:=bl hR;refine bg.mk I_ ?_;cbv;obtain⟨Rw,yF,hR⟩:=az hR;refine bF.mk _ (ec _) (cj rfl (bn yF) (eT _)) ?_;cbv;cases hR;exact .cA (.cons (.aD rfl (bL (ts:=Cell.ts) (l:=(bt l (p9.1).toNat (⟨p1.1.item,p1.1.aE,p1.1.free,(aH .sub .i64 p1.1.held n),(aH .add .i64 p1.1.out n),p1.1.all⟩:Cell))) (⟨p1.1.item,p1.1.aE,p1.1.free,(aH .sub .i64 p1.1.held n),(aH .add .i64 p1.1.out n),p1.1.all⟩:Cell) rfl (Nat.zero_add _) rfl) rfl rfl (bT ((bW _ _ _).symm))) (.cons (.int rfl) .nil))
 obtain⟨Ja,hR⟩:=bl hR;refine(cR hP l (of_decide_eq_true Ja)).frame rfl (λx_ o_ bI=> ?_);obtain⟨Rx,Jb,rfl,rfl⟩:=bI;refine⟨[0],_,_,rfl,.sl (q:=0) rfl rfl rfl rfl,.cons rfl .aL .nil, ?_⟩;cbv;exact go⟩
def Es (l:List Cell)(item:Int)(aE:Int)(n:Int):Option ((List Cell)×Int):=
 (wv l item aE).bind λp1=>
 if(ai .neq p1.2 0)=true then
  some (([]:List Cell),p1.2)
 else if(ai .lss n 1)=true then
  some (([]:List Cell),2)
 else if(ai .gtr n 1048576)=true then
  some (([]:List Cell),2)
 else if(ai .lss (aH .add .i64 p1.1.free n) 0)=true then
  some (([]:List Cell),13)
 else if(ai .lss p1.1.held 0)=true then
  some (([]:List Cell),13)
 else if(ai .lss (aH .sub .i64 p1.1.out n) 0)=true then
  some (([]:List Cell),13)
 else if(ai .gtr p1.1.all 1125899906842624)=true then
  some (([]:List Cell),5)
 else(lX l item aE).bind λp9=>
 if(!p9.2)=true then
  if(ai .geq ((l.map Cell.ts).length:Int) 4096)=true then
   some (([]:List Cell),3)
  else if(decide (l.length<=1000000000000))=true then
   if(decide (0<=p9.1/\p9.1<=(l.length:Int)/\l.length<=1000000))=true then
    if(dJ (l.length+1) p9.1)=true then
     (fH (bt l (p9.1).toNat (⟨p1.1.item,p1.1.aE,(aH .add .i64 p1.1.free n),p1.1.held,(aH .sub .i64 p1.1.out n),p1.1.all⟩:Cell)) p9.1).bind λ_=>
     some ((((bt l (p9.1).toNat (⟨p1.1.item,p1.1.aE,(aH .add .i64 p1.1.free n),p1.1.held,(aH .sub .i64 p1.1.out n),p1.1.all⟩:Cell))).set (p9.1).toNat (⟨p1.1.item,p1.1.aE,(aH .add .i64 p1.1.free n),p1.1.held,(aH .sub .i64 p1.1.out n),p1.1.all⟩:Cell)),0)
    else none
   else none
  else none
 else if(decide (l.length<=1000000000000))=true then
  if(dJ l.length p9.1)=true then
   (fH l p9.1).bind λ_=>
   some (((l).set (p9.1).toNat (⟨p1.1.item,p1.1.aE,(aH .add .i64 p1.1.free n),p1.1.held,(aH .sub .i64 p1.1.out n),p1.1.all⟩:Cell)),0)
  else none
 else none
instance [Pg P](l:List Cell)(item:Int)(aE:Int)(n:Int)(r:(List Cell)×Int):bx P 159 (Es l item aE n=some r) [aq Cell.ts 6 l,I6 item,I6 aE,I6 n] (.cI [aq Cell.ts 6 r.1,I6 r.2]):=⟨λhR=>by
 have hP:=Pg.h (P:=P);unfold Es at hR;refine abb hP ?_;cbv;refine Gk hP ?_;cbv;obtain⟨p1,gM,hR⟩:=az hR;refine aJ gM ?_;cbv;refine aM.i hR ?_ ?_<;>intro c2 hR<;>cbv
 ·cases hR;exact al
 refine aM.i hR ?_ ?_<;>intro c3 hR<;>cbv
 ·cases hR;exact al
 refine aM.i hR ?_ ?_<;>intro c4 hR<;>cbv
 ·cases hR;exact al
 refine S4 hP ?_;cbv;refine aR.cS (ty hP) (mo hP) rfl ?_;cbv;(iterate 16 (refine aS.z ?_;cbv));refine bZ.mk (aZ.cons rfl aZ.nil) ?_;cbv;(iterate 2 (refine aS.z ?_;cbv));refine aM.i hR ?_ ?_<;>intro c5 hR<;>cbv
 ·cases hR;exact al
 refine aM.i hR ?_ ?_<;>intro c6 hR<;>cbv
 ·cases hR;exact al
 refine aM.i hR ?_ ?_<;>intro c7 hR<;>cbv
 ·cases hR;exact al
 refine aM.i hR ?_ ?_<;>intro c8 hR<;>cbv
 ·cases hR;exact al
 obtain⟨p9,tw,hR⟩:=az hR;refine aJ tw ?_;cbv;refine aM.i hR ?_ ?_<;>intro De hR<;>cbv
 ·refine aM.i hR ?_ ?_<;>intro L5 hR<;>cbv
  ·cases hR;exact al
  obtain⟨Em,hR⟩:=bl hR;refine(cR hP l (of_decide_eq_true Em)).frame rfl (λx_ o_ bI=> ?_);obtain⟨pX,ot,rfl,rfl⟩:=bI;refine⟨[0],_,_,rfl,.sl (q:=0) rfl rfl rfl rfl,.cons rfl .aL .nil, ?_⟩;cbv;refine aM.t De ?_;cbv;obtain⟨pY,hR⟩:=bl hR;refine aV.i6 0 rfl (λ_ (Gm:pX<=9223372036854775807)=> ?_);refine(ef hP l pX p9.1 (l.length:Int) (⟨p1.1.item,p1.1.aE,(aH .add .i64 p1.1.free n),p1.1.held,(aH .sub .i64 p1.1.out n),p1.1.all⟩:Cell) ot rfl (of_decide_eq_true pY).1 (of_decide_eq_true pY).2.1 (of_decide_eq_true pY).2.2 Gm).own [2,3] [] (by rfl) (by rfl) al al (λx_ o_ bI=> ?_);obtain⟨v8,pZ,rfl,rfl⟩:=bI;refine⟨.dead (.dead (.arr (an _ _) .nil)), ?_⟩;cbv;obtain⟨I_,hR⟩:=bl hR;refine bg.mk I_ ?_;cbv;obtain⟨Rw,yF,hR⟩:=az hR;refine bF.mk _ (ec _) (cj rfl (bn yF) (eT _)) ?_;cbv;cases hR;exact .cA (.cons (.aD rfl (bL (ts:=Cell.ts) (l:=(bt l (p9.1).toNat (⟨p1.1.item,p1.1.aE,(aH .add .i64 p1.1.free n),p1.1.held,(aH .sub .i64 p1.1.out n),p1.1.all⟩:Cell))) (⟨p1.1.item,p1.1.aE,(aH .add .i64 p1.1.free n),p1.1.held,(aH .sub .i64 p1.1.out n),p1.1.all⟩:Cell) rfl (Nat.zero_add _) rfl) rfl rfl (bT ((bW _ _ _).symm))) (.cons (.int rfl) .nil))
 obtain⟨Ja,hR⟩:=bl hR;refine(cR hP l (of_decide_eq_true Ja)).frame rfl (λx_ o_ bI=> ?_);obtain⟨Rx,Jb,rfl,rfl⟩:=bI;refine⟨[0],_,_,rfl,.sl (q:=0) rfl rfl rfl rfl,.cons rfl .aL .nil, ?_⟩;cbv;exact go⟩
end Go.Proofs.aaa
end
