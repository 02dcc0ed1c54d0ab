/- Texts that the law leans on, part 26. No conditions. -/
import Derived.Test.YtnpliafeboadcaaGreatK25
section
namespace Go.Proofs.aaa
open Go.bA Go.IntWalk
variable{P:Program}
set_option maxHeartbeats 4000000
set_option maxRecDepth 20000
def abW (b:aF)(order:Int):Option (Int):=
 (g69 b).bind λp1=>
 if(ai .eql p1 0)=true then
  (abK order).bind λp3=>
  if(!p3)=true then
   some 2
  else some p1
 else some p1
instance [Pg P](b:aF)(order:Int)(r:Int):bx P 160 (abW b order=some r) [b.av,I6 order] (I6 r):=⟨λhR=>by
 have hP:=Pg.h (P:=P);unfold abW at hR;refine ae0 hP ?_;cbv;exact go⟩
def abX (b:aF)(x:au):Option (aF×Int):=
 if(ai .geq ((b.ak.map au.ts).length:Int) 16384)=true then
  some ((⟨([]:List aQ),([]:List au)⟩:aF),3)
 else if(decide ((([]:List au)++b.ak).length*24<=140737488355328))=true then
  if(decide (((([]:List au)++b.ak)++[x]).length*24<=140737488355328))=true then
   (aaM ((([]:List au)++b.ak)++[x]) x.order).bind λp7=>
   if(!p7.2)=true then
    some ((⟨([]:List aQ),([]:List au)⟩:aF),5)
   else(ach p7.1).bind λp9=>
   (bh (λ(s10:Bool×(List aQ))(_:Int)(mQ:aQ)=>
    if(!s10.1)=true then
     if(ai .geq mQ.order x.order)=true then
      if(decide ((s10.2++[p7.1]).length*32<=140737488355328))=true then
       if(ai .neq mQ.order x.order)=true then
        if(decide (((s10.2++[p7.1])++[mQ]).length*32<=140737488355328))=true then
         some (.inl (true,((s10.2++[p7.1])++[mQ])))
        else none
       else some (.inl (true,(s10.2++[p7.1])))
      else none
     else if(ai .neq mQ.order x.order)=true then
      if(decide ((s10.2++[mQ]).length*32<=140737488355328))=true then
       some (.inl (s10.1,(s10.2++[mQ])))
      else none
     else some (.inl (s10.1,s10.2))
    else if(ai .neq mQ.order x.order)=true then
     if(decide ((s10.2++[mQ]).length*32<=140737488355328))=true then
      some (.inl (s10.1,(s10.2++[mQ])))
     else none
    else some (.inl (s10.1,s10.2))) b.aK (p9,[]):Option ((Bool×(List aQ))⊕(Empty))).bind λR31=>
   match R31 with
   | .inl s32=>
    if(!s32.1)=true then
     if(decide ((s32.2++[p7.1]).length*32<=140737488355328))=true then
      some ((⟨(s32.2++[p7.1]),((([]:List au)++b.ak)++[x])⟩:aF),0)
     else none
    else some ((⟨s32.2,((([]:List au)++b.ak)++[x])⟩:aF),0)
   | .inr r_=>r_.elim
  else none
 else none
instance [Pg P](b:aF)(x:au)(r:aF×Int):bx P 161 (abX b x=some r) [b.av,x.av] (.cI [r.1.av,I6 r.2]):=⟨λhR=>by
 have hP:=Pg.h (P:=P);unfold abX at hR;refine ae1 hP ?_;cbv;refine aM.i hR ?_ ?_<;>intro c1 hR<;>cbv
 ·cases hR;exact al
 obtain⟨m2,hR⟩:=bl hR;obtain⟨m4,hR⟩:=bl hR;refine aR.cut (γ:=({c_:Nat//((([]:List au)++b.ak)++[x]).length<=c_})) (n:=81) (λg6=>[(2,.ref 0 0),(3,.ref 1 0),(4,.ref 2 0),(5,AI .i64 (.lit 0)),(6,.ref 3 0)]) (λg6=>[.box [aq aQ.ts 4 b.aK,aq au.ts 4 b.ak],.box [I6 x.order,I8 x.sJ,I8 x.dst,I6 x.ax],.box [.c (.lit (.slice none 0 0)),.c (.lit (.slice none 0 0))],.box [.c (.lit (.slice none 0 0)),.sl 4 4 (.lit 0) (.th λ_=>((([]:List au)++b.ak)++[x]).length) (.th λ_=>g6.val)],aL au.ts 4 ((([]:List au)++b.ak)++[x]) g6.val]) (λB hB=>ord) (λg6=> ?_);cbv;obtain⟨p7,Cd,hR⟩:=az hR;refine jQ Cd ?_;cbv;refine aM.i hR ?_ ?_<;>intro c8 hR<;>cbv
 ·cases hR;exact al
 obtain⟨p9,tw,hR⟩:=az hR;refine aJ tw ?_;cbv;exact lp (ty hP) (γ:=(λs10=>({c_:Nat//s10.2.length<=c_}))) (γ':=(λ_=>Unit)) 81 (λN13 i12 s10 Sm=>[(3,.ref 0 0),(4,.ref 1 0),(6,.ref 2 0),(7,.ref 4 0),(9,B1 s10.1),(39,aq aQ.ts 4 b.aK),(40,I6 N13),(41,I6 i12)]) (λs10 Sm=>[.box [I6 x.order,I8 x.sJ,I8 x.dst,I6 x.ax],.box [.c (.lit (.slice none 0 0)),.c (.lit (.slice none 0 0))],.box [.sl 5 4 (.lit 0) (.th λ_=>s10.2.length) (.th λ_=>Sm.val),.sl 3 4 (.lit 0) (.th λ_=>((([]:List au)++b.ak)++[x]).length) (.th λ_=>g6.val)],aL au.ts 4 ((([]:List au)++b.ak)++[x]) g6.val,.box [I6 p7.1.order,I6 p7.1.bC,I6 p7.1.aT,I6 p7.1.aX],aL aQ.ts 4 s10.2 Sm.val]) (λr_ _=>r_.elim) (AE.exit 0) ⟨0,Nat.le_refl 0⟩ hR (λN13 aaY=>aaP) go go go⟩
def acA (b:aF)(order:Int)(ax:Int):Option (aF×Int):=
 (abW b order).bind λp1=>
 if(ai .neq p1 0)=true then
  some ((⟨([]:List aQ),([]:List au)⟩:aF),p1)
 else if(ai .lss ax 1)=true then
  some ((⟨([]:List aQ),([]:List au)⟩:aF),2)
 else if(ai .gtr ax 1152921504606846976)=true then
  some ((⟨([]:List aQ),([]:List au)⟩:aF),2)
 else(IL b order).bind λp5=>
 if(ai .gtr p5.bC 0)=true then
  some ((⟨([]:List aQ),([]:List au)⟩:aF),9)
 else(abX b (⟨order,1,2,ax⟩:au)).bind λp7=>
 some (p7.1,p7.2)
instance [Pg P](b:aF)(order:Int)(ax:Int)(r:aF×Int):bx P 109 (acA b order ax=some r) [b.av,I6 order,I6 ax] (.cI [r.1.av,I6 r.2]):=⟨λhR=>by
 have hP:=Pg.h (P:=P);unfold acA at hR;refine ae2 hP ?_;cbv;exact go⟩
def acm (b:aF)(order:Int)(dst:Int):Option (aF×Int×Int):=
 (abW b order).bind λp1=>
 (IL b order).bind λp2=>
 if(ai .eql p1 0)=true then
  if(ai .eql p2.bC 0)=true then
   some ((⟨([]:List aQ),([]:List au)⟩:aF),0,9)
  else(abX b (⟨order,2,dst,p2.bC⟩:au)).bind λp5=>
  if(ai .neq p5.2 0)=true then
   some ((⟨([]:List aQ),([]:List au)⟩:aF),0,p5.2)
  else some (p5.1,p2.bC,0)
 else some ((⟨([]:List aQ),([]:List au)⟩:aF),0,p1)
instance [Pg P](b:aF)(order:Int)(dst:Int)(r:aF×Int×Int):bx P 162 (acm b order dst=some r) [b.av,I6 order,I8 dst] (.cI [r.1.av,I6 r.2.1,I6 r.2.2]):=⟨λhR=>by
 have hP:=Pg.h (P:=P);unfold acm at hR;refine ae3 hP ?_;cbv;exact go⟩
def acB (b:aF)(order:Int):Option (aF×Int×Int):=
 (acm b order 1).bind λp1=>
 some (p1.1,p1.2.1,p1.2.2)
instance [Pg P](b:aF)(order:Int)(r:aF×Int×Int):bx P 110 (acB b order=some r) [b.av,I6 order] (.cI [r.1.av,I6 r.2.1,I6 r.2.2]):=⟨λhR=>by
 have hP:=Pg.h (P:=P);unfold acB at hR;refine ae4 hP ?_;cbv;exact go⟩
def acC (b:aF)(order:Int):Option (aF×Int×Int):=
 (acm b order 3).bind λp1=>
 some (p1.1,p1.2.1,p1.2.2)
instance [Pg P](b:aF)(order:Int)(r:aF×Int×Int):bx P 111 (acC b order=some r) [b.av,I6 order] (.cI [r.1.av,I6 r.2.1,I6 r.2.2]):=⟨λhR=>by
 have hP:=Pg.h (P:=P);unfold acC at hR;refine ae5 hP ?_;cbv;exact go⟩
def acD (b:aF)(order:Int)(ax:Int):Option (aF×Int):=
 (abW b order).bind λp1=>
 (IL b order).bind λp2=>
 if(ai .neq p1 0)=true then
  some ((⟨([]:List aQ),([]:List au)⟩:aF),p1)
 else if(ai .lss ax 1)=true then
  some ((⟨([]:List aQ),([]:List au)⟩:aF),2)
 else if(ai .gtr ax 1152921504606846976)=true then
  some ((⟨([]:List aQ),([]:List au)⟩:aF),2)
 else if(ai .lss (aH .sub .i64 p2.aT p2.aX) ax)=true then
  some ((⟨([]:List aQ),([]:List au)⟩:aF),13)
 else(abX b (⟨order,3,1,ax⟩:au)).bind λp7=>
 some (p7.1,p7.2)
instance [Pg P](b:aF)(order:Int)(ax:Int)(r:aF×Int):bx P 112 (acD b order ax=some r) [b.av,I6 order,I6 ax] (.cI [r.1.av,I6 r.2]):=⟨λhR=>by
 have hP:=Pg.h (P:=P);unfold acD at hR;refine ae6 hP ?_;cbv;exact go⟩
def Qt (b:aF):Option (aF):=
 if(decide ((([]:List aQ)++b.aK).length*32<=140737488355328))=true then
  if(decide ((([]:List au)++b.ak).length*24<=140737488355328))=true then
   some (⟨(([]:List aQ)++b.aK),(([]:List au)++b.ak)⟩:aF)
  else none
 else none
instance [Pg P](b:aF)(r:aF):bx P 37 (Qt b=some r) [b.av] (r.av):=⟨λhR=>by
 have hP:=Pg.h (P:=P);unfold Qt at hR;refine _X hP ?_;cbv;obtain⟨m1,hR⟩:=bl hR;obtain⟨m3,hR⟩:=bl hR;refine aR.cut (γ:=({c_:Nat//(([]:List aQ)++b.aK).length<=c_})×({c_:Nat//(([]:List au)++b.ak).length<=c_})) (n:=12) (λg5=>[(2,.ref 0 0)]) (λg5=>[.box [.sl 1 4 (.lit 0) (.th λ_=>(([]:List aQ)++b.aK).length) (.th λ_=>g5.1.val),.sl 2 4 (.lit 0) (.th λ_=>(([]:List au)++b.ak).length) (.th λ_=>g5.2.val)],aL aQ.ts 4 (([]:List aQ)++b.aK) g5.1.val,aL au.ts 4 (([]:List au)++b.ak) g5.2.val]) (λB hB=>ord) (λg5=> ?_);cbv;cases hR;exact al⟩
def Qu (a:aF)(b:aF):Option (Bool):=
 if(ai .neq ((a.aK.map aQ.ts).length:Int) ((b.aK.map aQ.ts).length:Int))=true then
  some false
 else if(ai .neq ((a.ak.map au.ts).length:Int) ((b.ak.map au.ts).length:Int))=true then
  some false
 else(bh (λ(_:Unit)(i5:Int)(x7:aQ)=>
  (fH b.aK i5).bind λGK=>
  if(!((x7.order==GK.order)&&((x7.bC==GK.bC)&&((x7.aT==GK.aT)&&((x7.aX==GK.aX)&&true)))))=true then
   some (.inr ())
  else some (.inl ())) a.aK ():Option ((Unit)⊕(Unit))).bind λTM=>
 match TM with
 | .inl _=>
  (bh (λ(_:Unit)(G4:Int)(we:au)=>
   (fH b.ak G4).bind λCx=>
   if(!((we.order==Cx.order)&&((we.sJ==Cx.sJ)&&((we.dst==Cx.dst)&&((we.ax==Cx.ax)&&true)))))=true then
    some (.inr ())
   else some (.inl ())) a.ak ():Option ((Unit)⊕(Unit))).bind λ_Y=>
  match _Y with
  | .inl _=>
   some true
  | .inr _=>
   some false
 | .inr _=>
  some false
instance [Pg P](a:aF)(b:aF)(r:Bool):bx P 47 (Qu a b=some r) [a.av,b.av] (B1 r):=⟨λhR=>by
 have hP:=Pg.h (P:=P);unfold Qu at hR;refine _Z hP ?_;cbv;refine aM.i hR ?_ ?_<;>intro c1 hR<;>cbv
 ·cases hR;exact al
 refine aM.i hR ?_ ?_<;>intro c2 hR<;>cbv
 ·cases hR;exact al
 refine kC (ty hP) 59 (λN6 i5 s3=>[(2,.ref 0 0),(3,.ref 1 0),(25,I6 N6),(26,I6 i5)]) (λs3=>[.box [aq aQ.ts 4 a.aK,aq au.ts 4 a.ak],.box [aq aQ.ts 4 b.aK,aq au.ts 4 b.ak]]) (λr_ g_=>(AE.ret,sp 59 [(4,AB (.lit false))],[])) (AE.exit 0) hR (λN6 B7=>aaP) ?_ ?_ go
 ·intro N6 B7 i5 s3 g4 x7 y8 Gp Gq Gr OY hR J B hJ hB;cbv;refine aM.t (decide_eq_true Gq) ?_;cbv;refine aR.of (ty hP) (mo hP) rfl ?_ (br.box (br.box br.nil));cbv;(iterate 3 (refine aS.z ?_;cbv));apply aS.is
  ·intro J hJ;cbv;refine bF.mk _ Gp (aY aQ.ts _ _ _ OY) ?_;cbv;exact hJ
  cbv
  (iterate 4 (refine aS.z ?_;cbv));obtain⟨GK,Cl,hR⟩:=az hR;apply aS.is
  ·intro J hJ;cbv;refine bF.mk _ (iC Cl) (aY aQ.ts _ _ _ (bn Cl)) ?_;cbv;exact hJ
  exact go
 intro N6 B7 gu uR hR;dsimp only at hR;cbv;refine kC (ty hP) 59 (λLo G4 F0=>[(2,.ref 0 0),(3,.ref 1 0),(43,I6 Lo),(44,I6 G4)]) (λF0=>[.box [aq aQ.ts 4 a.aK,aq au.ts 4 a.ak],.box [aq aQ.ts 4 b.aK,aq au.ts 4 b.ak]]) (λr_ g_=>(AE.ret,sp 59 [(4,AB (.lit false))],[])) (AE.exit 2) hR (λLo EP=>aaP) ?_ go go;intro Lo EP G4 F0 yJ we _Q Lp G6 JB GY hR J B hJ hB;cbv;refine aM.t (decide_eq_true G6) ?_;cbv;refine aR.of (ty hP) (mo hP) rfl ?_ (br.box (br.box br.nil));cbv;(iterate 3 (refine aS.z ?_;cbv));apply aS.is
 ·intro J hJ;cbv;refine bF.mk _ Lp (aY au.ts _ _ _ GY) ?_;cbv;exact hJ
 cbv
 (iterate 4 (refine aS.z ?_;cbv));obtain⟨Cx,JC,hR⟩:=az hR;apply aS.is
 ·intro J hJ;cbv;refine bF.mk _ (iC JC) (aY au.ts _ _ _ (bn JC)) ?_;cbv;exact hJ
 exact go⟩
end Go.Proofs.aaa
end
