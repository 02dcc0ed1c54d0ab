/- Texts that the law leans on, part 24. No conditions. -/
import Derived.Test.YtnpliafeboadcaaGreatK11
section
namespace Go.Proofs.aaa
open Go.bA Go.IntWalk
variable{P:Program}
set_option maxHeartbeats 4000000
set_option maxRecDepth 20000
def g68 (l:List Cell):Option (Int):=
 if(ai .gtr ((l.map Cell.ts).length:Int) 4096)=true then
  some 9
 else(bh (λ(_:Unit)(i4:Int)(x6:Cell)=>
  if(ai .lss x6.item 1)=true then
   some (.inr ())
  else if(ai .gtr x6.item 1024)=true then
   some (.inr ())
  else if(ai .lss x6.aE 1)=true then
   some (.inr ())
  else if(ai .gtr x6.aE 1024)=true then
   some (.inr ())
  else if(ai .lss x6.free 0)=true then
   some (.inr ())
  else if(ai .lss x6.held 0)=true then
   some (.inr ())
  else if(ai .lss x6.out 0)=true then
   some (.inr ())
  else if(ai .gtr x6.all 1125899906842624)=true then
   some (.inr ())
  else if(ai .gtr x6.free 1125899906842624)=true then
   some (.inr ())
  else if(ai .gtr x6.held 1125899906842624)=true then
   some (.inr ())
  else if(ai .gtr x6.out 1125899906842624)=true then
   some (.inr ())
  else if(ai .neq x6.all (aH .add .i64 (aH .add .i64 x6.free x6.held) x6.out))=true then
   some (.inr ())
  else if(ai .gtr i4 0)=true then
   (fH l (aH .sub .i64 i4 1)).bind λx23=>
   if(ai .gtr x23.item x6.item)=true then
    some (.inr ())
   else if(ai .eql x23.item x6.item)=true then
    if(ai .geq x23.aE x6.aE)=true then
     some (.inr ())
    else some (.inl ())
   else some (.inl ())
  else some (.inl ())) l ():Option ((Unit)⊕(Unit))).bind λR27=>
 match R27 with
 | .inl _=>
  some 0
 | .inr _=>
  some 9
instance [Pg P](l:List Cell)(r:Int):bx P 68 (g68 l=some r) [aq Cell.ts 6 l] (I6 r):=⟨λhR=>by
 have hP:=Pg.h (P:=P);unfold g68 at hR;refine e68 hP ?_;cbv;refine aM.i hR ?_ ?_<;>intro c1 hR<;>cbv
 ·cases hR;exact al
 refine kC (ty hP) 115 (λN5 i4 s2=>[(0,aq Cell.ts 6 l),(8,aq Cell.ts 6 l),(9,I6 N5),(10,I6 i4)]) (λs2=>[]) (λr_ g_=>(AE.ret,sp 115 [(2,AI .i64 (.lit 9))],[])) (AE.exit 0) hR (λN5 Dg=>aaP) ?_ go go;intro N5 Dg i4 s2 g3 x6 y7 yC yD yE z8 hR J B hJ hB;cbv;refine aM.t (decide_eq_true yD) ?_;cbv;refine bF.mk _ yC (aY Cell.ts _ _ _ z8) ?_;cbv;refine aM.i hR ?_ ?_<;>intro De hR<;>cbv
 ·exact go
 refine aM.i hR ?_ ?_<;>intro L5 hR<;>cbv
 ·exact go
 refine aM.i hR ?_ ?_<;>intro OU hR<;>cbv
 ·exact go
 refine aM.i hR ?_ ?_<;>intro YA hR<;>cbv
 ·exact go
 refine aM.i hR ?_ ?_<;>intro Ry hR<;>cbv
 ·exact go
 refine aM.i hR ?_ ?_<;>intro S6 hR<;>cbv
 ·exact go
 refine aM.i hR ?_ ?_<;>intro Rt hR<;>cbv
 ·exact go
 refine aM.i hR ?_ ?_<;>intro YB hR<;>cbv
 ·exact go
 refine aM.i hR ?_ ?_<;>intro YC hR<;>cbv
 ·exact go
 refine aM.i hR ?_ ?_<;>intro L7 hR<;>cbv
 ·exact go
 refine aM.i hR ?_ ?_<;>intro S7 hR<;>cbv
 ·exact go
 refine aM.i hR ?_ ?_<;>intro YD hR<;>cbv
 ·exact go
 refine aR.of (ty hP) (mo hP) rfl ?_ (br.box br.nil);cbv;(iterate 3 (refine aS.z ?_;cbv));refine aM.i hR ?_ ?_<;>intro WT hR<;>cbv
 ·(iterate 3 (refine aS.z ?_;cbv));obtain⟨x23,abx,hR⟩:=az hR;apply aS.is
  ·intro J hJ;cbv;refine bF.mk _ (iC abx) (aY Cell.ts _ _ _ (bn abx)) ?_;cbv;exact hJ
  cbv
  (iterate 6 (refine aS.z ?_;cbv));refine aM.i hR ?_ ?_<;>intro YE hR<;>cbv
  ·exact go
  (iterate 3 (refine aS.z ?_;cbv));apply aS.is
  ·intro J hJ;cbv;refine bF.mk _ (iC abx) (aY Cell.ts _ _ _ (bn abx)) ?_;cbv;exact hJ
  cbv
  (iterate 6 (refine aS.z ?_;cbv));refine aM.i hR ?_ ?_<;>intro WV hR<;>cbv
  ·(iterate 3 (refine aS.z ?_;cbv));apply aS.is
   ·intro J hJ;cbv;refine bF.mk _ (iC abx) (aY Cell.ts _ _ _ (bn abx)) ?_;cbv;exact hJ
   exact go
  exact go
 exact go⟩
def acj (l:List Cell)(item:Int)(aE:Int):Option (Int):=
 (g68 l).bind λp1=>
 if(ai .eql p1 0)=true then
  if(ai .lss item 1)=true then
   some 2
  else if(ai .gtr item 1024)=true then
   some 2
  else if(ai .lss aE 1)=true then
   some 2
  else if(ai .gtr aE 1024)=true then
   some 2
  else some p1
 else some p1
instance [Pg P](l:List Cell)(item:Int)(aE:Int)(r:Int):bx P 145 (acj l item aE=some r) [aq Cell.ts 6 l,I6 item,I6 aE] (I6 r):=⟨λhR=>by
 have hP:=Pg.h (P:=P);unfold acj at hR;refine aeO hP ?_;cbv;exact go⟩
def g95 (l:List Cell)(item:Int)(aE:Int):Option (Cell×Int):=
 (acj l item aE).bind λp1=>
 if(ai .neq p1 0)=true then
  some ((⟨0,0,0,0,0,0⟩:Cell),p1)
 else(FP l item aE).bind λp3=>
 some (p3,0)
instance [Pg P](l:List Cell)(item:Int)(aE:Int)(r:Cell×Int):bx P 95 (g95 l item aE=some r) [aq Cell.ts 6 l,I6 item,I6 aE] (.cI [r.1.av,I6 r.2]):=⟨λhR=>by
 have hP:=Pg.h (P:=P);unfold g95 at hR;refine e95 hP ?_;cbv;exact go⟩
def acw (c:Cell)(kind:Int)(n:Int):Option (Cell×Bool):=
 if(ai .eql kind 0)=true then
  some ((⟨c.item,c.aE,(aH .add .i64 c.free n),c.held,c.out,(aH .add .i64 c.all n)⟩:Cell),true)
 else if(ai .eql kind 1)=true then
  some ((⟨c.item,c.aE,(aH .sub .i64 c.free n),(aH .add .i64 c.held n),c.out,c.all⟩:Cell),(ai .geq c.free n))
 else if(ai .eql kind 2)=true then
  some ((⟨c.item,c.aE,(aH .add .i64 c.free n),(aH .sub .i64 c.held n),c.out,c.all⟩:Cell),(ai .geq c.held n))
 else if(ai .eql kind 3)=true then
  some ((⟨c.item,c.aE,c.free,(aH .sub .i64 c.held n),(aH .add .i64 c.out n),c.all⟩:Cell),(ai .geq c.held n))
 else some ((⟨c.item,c.aE,(aH .add .i64 c.free n),c.held,(aH .sub .i64 c.out n),c.all⟩:Cell),(ai .geq c.out n))
instance [Pg P](c:Cell)(kind:Int)(n:Int)(r:Cell×Bool):bx P 199 (acw c kind n=some r) [c.av,I6 kind,I6 n] (.cI [r.1.av,B1 r.2]):=⟨λhR=>by
 have hP:=Pg.h (P:=P);unfold acw at hR;refine aeP hP ?_;cbv;exact go⟩
def acy (l:List Cell)(c:Cell):Option ((List Cell)):=
 (bh (λ(s1:(List Cell)×Bool)(_:Int)(x5:Cell)=>
  if(!s1.2)=true then
   if(ai .gtr x5.item c.item)=true then
    if(decide ((s1.1++[c]).length*48<=140737488355328))=true then
     if(ai .neq x5.item c.item)=true then
      if(decide (((s1.1++[c])++[x5]).length*48<=140737488355328))=true then
       some (.inl (((s1.1++[c])++[x5]),true))
      else none
     else if(ai .neq x5.aE c.aE)=true then
      if(decide (((s1.1++[c])++[x5]).length*48<=140737488355328))=true then
       some (.inl (((s1.1++[c])++[x5]),true))
      else none
     else some (.inl ((s1.1++[c]),true))
    else none
   else if(ai .eql x5.item c.item)=true then
    if(ai .geq x5.aE c.aE)=true then
     if(decide ((s1.1++[c]).length*48<=140737488355328))=true then
      if(ai .neq x5.aE c.aE)=true then
       if(decide (((s1.1++[c])++[x5]).length*48<=140737488355328))=true then
        some (.inl (((s1.1++[c])++[x5]),true))
       else none
      else some (.inl ((s1.1++[c]),true))
     else none
    else if(ai .neq x5.aE c.aE)=true then
     if(decide ((s1.1++[x5]).length*48<=140737488355328))=true then
      some (.inl ((s1.1++[x5]),s1.2))
     else none
    else some (.inl (s1.1,s1.2))
   else if(decide ((s1.1++[x5]).length*48<=140737488355328))=true then
    some (.inl ((s1.1++[x5]),s1.2))
   else none
  else if(ai .neq x5.item c.item)=true then
   if(decide ((s1.1++[x5]).length*48<=140737488355328))=true then
    some (.inl ((s1.1++[x5]),s1.2))
   else none
  else if(ai .neq x5.aE c.aE)=true then
   if(decide ((s1.1++[x5]).length*48<=140737488355328))=true then
    some (.inl ((s1.1++[x5]),s1.2))
   else none
  else some (.inl (s1.1,s1.2))) l ([],false):Option (((List Cell)×Bool)⊕(Empty))).bind λ_8=>
 match _8 with
 | .inl XC=>
  if(!XC.2)=true then
   if(decide ((XC.1++[c]).length*48<=140737488355328))=true then
    some (XC.1++[c])
   else none
  else some XC.1
 | .inr r_=>r_.elim
instance [Pg P](l:List Cell)(c:Cell)(r:(List Cell)):bx P 200 (acy l c=some r) [aq Cell.ts 6 l,c.av] (aq Cell.ts 6 r):=⟨λhR=>by
 have hP:=Pg.h (P:=P);unfold acy at hR;refine aeQ hP ?_;cbv;exact lp (ty hP) (γ:=(λs1=>({c_:Nat//s1.1.length<=c_}))) (γ':=(λ_=>Unit)) 66 (λN4 i3 s1 g2=>[(3,.ref 0 0),(5,.sl 1 6 (.lit 0) (.th λ_=>s1.1.length) (.th λ_=>g2.val)),(6,B1 s1.2),(9,aq Cell.ts 6 l),(10,I6 N4),(11,I6 i3)]) (λs1 g2=>[.box [I6 c.item,I6 c.aE,I6 c.free,I6 c.held,I6 c.out,I6 c.all],aL Cell.ts 6 s1.1 g2.val]) (λr_ _=>r_.elim) (AE.exit 0) ⟨0,Nat.le_refl 0⟩ hR (λN4 sI=>aaP) go go go⟩
def acz (kind:Int)(l:List Cell)(item:Int)(aE:Int)(n:Int):Option ((List Cell)×Int):=
 (acj l item aE).bind λp1=>
 if(ai .eql p1 0)=true then
  if(ai .lss n 1)=true then
   some (([]:List Cell),2)
  else if(ai .gtr n 1048576)=true then
   some (([]:List Cell),2)
  else(FP l item aE).bind λp5=>
  (acw p5 kind n).bind λp6=>
  if(!p6.2)=true then
   some (([]:List Cell),13)
  else if(ai .gtr p6.1.all 1125899906842624)=true then
   some (([]:List Cell),5)
  else(acy l p6.1).bind λp9=>
  if(ai .gtr ((p9.map Cell.ts).length:Int) 4096)=true then
   some (([]:List Cell),3)
  else some (p9,0)
 else some (([]:List Cell),p1)
instance [Pg P](kind:Int)(l:List Cell)(item:Int)(aE:Int)(n:Int)(r:(List Cell)×Int):bx P 176 (acz kind l item aE n=some r) [I6 kind,aq Cell.ts 6 l,I6 item,I6 aE,I6 n] (.cI [aq Cell.ts 6 r.1,I6 r.2]):=⟨λhR=>by
 have hP:=Pg.h (P:=P);unfold acz at hR;refine aeR hP ?_;cbv;exact go⟩
def ack (kind:Int)(l:List Cell)(lines:List aU):Option ((List Cell)×Int):=
 if(decide ((([]:List Cell)++l).length*48<=140737488355328))=true then
  (bh (λ(s3:(List Cell))(_:Int)(x7:aU)=>
   (acz kind s3 x7.item x7.aE x7.gF).bind λgO=>
   if(ai .neq gO.2 0)=true then
    some (.inr gO.2)
   else some (.inl gO.1)) lines (([]:List Cell)++l):Option (((List Cell))⊕(Int))).bind λTM=>
  match TM with
  | .inl gu=>
   some (gu,0)
  | .inr IM=>
   some (([]:List Cell),IM)
 else none
instance [Pg P](kind:Int)(l:List Cell)(lines:List aU)(r:(List Cell)×Int):bx P 144 (ack kind l lines=some r) [I6 kind,aq Cell.ts 6 l,aq aU.ts 4 lines] (.cI [aq Cell.ts 6 r.1,I6 r.2]):=⟨λhR=>by
 have hP:=Pg.h (P:=P);unfold ack at hR;refine aeS hP ?_;cbv;obtain⟨m1,hR⟩:=bl hR;refine nk (ty hP) (e:=68) rfl rfl rfl (by simp) (by decide) ([]:List Cell) l rfl rfl (by decide) rfl rfl rfl rfl (λ_=>rfl) (of_decide_eq_true m1) (λk2 hk2=> ?_);cbv;exact kC (ty hP) 40 (λN6 i5 s3=>[(0,I6 kind),(8,aq Cell.ts 6 s3),(16,aq aU.ts 4 lines),(17,I6 N6),(18,I6 i5)]) (λs3=>[]) (λr_ g_=>(AE.ret,sp 40 [(6,.c (.lit (.slice none 0 0))),(7,I6 r_)],[])) (AE.exit 0) hR (λN6 B7=>aaP) go go go⟩
def Mr (a:List Cell)(b:List Cell):Option (Bool):=
 if(ai .neq ((a.map Cell.ts).length:Int) ((b.map Cell.ts).length:Int))=true then
  some false
 else(bh (λ(_:Unit)(i4:Int)(x6:Cell)=>
  (fH b i4).bind λeu=>
  if(!((x6.item==eu.item)&&((x6.aE==eu.aE)&&((x6.free==eu.free)&&((x6.held==eu.held)&&((x6.out==eu.out)&&((x6.all==eu.all)&&true)))))))=true then
   some (.inr ())
  else some (.inl ())) a ():Option ((Unit)⊕(Unit))).bind λGF=>
 match GF with
 | .inl _=>
  some true
 | .inr _=>
  some false
instance [Pg P](a:List Cell)(b:List Cell)(r:Bool):bx P 36 (Mr a b=some r) [aq Cell.ts 6 a,aq Cell.ts 6 b] (B1 r):=⟨λhR=>by
 have hP:=Pg.h (P:=P);unfold Mr at hR;refine _W hP ?_;cbv;refine aM.i hR ?_ ?_<;>intro c1 hR<;>cbv
 ·cases hR;exact al
 refine kC (ty hP) 26 (λN5 i4 s2=>[(0,aq Cell.ts 6 a),(1,aq Cell.ts 6 b),(12,I6 N5),(13,I6 i4)]) (λs2=>[]) (λr_ g_=>(AE.ret,sp 26 [(4,AB (.lit false))],[])) (AE.exit 0) hR (λN5 Dg=>aaP) ?_ go go;intro N5 Dg i4 s2 g3 x6 y7 yC yD yE z8 hR J B hJ hB;cbv;refine aM.t (decide_eq_true yD) ?_;cbv;refine aR.of (ty hP) (mo hP) rfl ?_ br.nil;cbv;(iterate 2 (refine aS.z ?_;cbv));apply aS.is
 ·intro J hJ;cbv;refine bF.mk _ yC (aY Cell.ts _ _ _ z8) ?_;cbv;exact hJ
 cbv
 (iterate 3 (refine aS.z ?_;cbv));obtain⟨eu,lW,hR⟩:=az hR;apply aS.is
 ·intro J hJ;cbv;refine bF.mk _ (iC lW) (aY Cell.ts _ _ _ (bn lW)) ?_;cbv;exact hJ
 exact go⟩
end Go.Proofs.aaa
end
