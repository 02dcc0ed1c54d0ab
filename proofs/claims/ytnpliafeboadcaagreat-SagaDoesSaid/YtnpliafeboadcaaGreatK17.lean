/- Texts that the law leans on, part 17. No conditions. -/
import Derived.Test.YtnpliafeboadcaaGreatK11
section
namespace Go.Proofs.aaa
open Go.bA Go.IntWalk
variable{P:Program}
set_option maxHeartbeats 4000000
set_option maxRecDepth 20000
def O4 (l:List ah):Option (Int):=
 (bh (λ(s1:Int)(_:Int)(x5:ah)=>
  if(ai .leq x5.order s1)=true then
   some (.inr ())
  else if(ai .gtr x5.order 1024)=true then
   some (.inr ())
  else if(ai .eql x5.state 0)=true then
   some (.inr ())
  else if(ai .geq x5.state 7)=true then
   some (.inr ())
  else some (.inl x5.order)) l 0:Option ((Int)⊕(Unit))).bind λTM=>
 match TM with
 | .inl _=>
  some 0
 | .inr _=>
  some 2
instance [Pg P](l:List ah)(r:Int):bx P 65 (O4 l=some r) [aq ah.ts 2 l] (I6 r):=⟨λhR=>by
 have hP:=Pg.h (P:=P);unfold O4 at hR;refine W8 hP ?_;cbv;exact kC (ty hP) 34 (λN4 i3 s1=>[(3,I6 s1),(6,aq ah.ts 2 l),(7,I6 N4),(8,I6 i3)]) (λs1=>[]) (λr_ g_=>(AE.ret,sp 34 [(2,AI .i64 (.lit 2))],[])) (AE.exit 0) hR (λN4 sI=>aaP) go go go⟩
def g70 (l:List ah):Option (Int):=
 if(ai .gtr ((l.map ah.ts).length:Int) 1024)=true then
  some 2
 else(bh (λ(_:Unit)(i4:Int)(x6:ah)=>
  if(ai .lss x6.order 1)=true then
   some (.inr ())
  else if(ai .gtr x6.order 1024)=true then
   some (.inr ())
  else if(ai .lss x6.state 1)=true then
   some (.inr ())
  else if(ai .geq x6.state 7)=true then
   some (.inr ())
  else if(ai .gtr i4 0)=true then
   (fH l (aH .sub .i64 i4 1)).bind λSc=>
   if(ai .geq Sc.order x6.order)=true then
    some (.inr ())
   else some (.inl ())
  else some (.inl ())) l ():Option ((Unit)⊕(Unit))).bind λZC=>
 match ZC with
 | .inl _=>
  some 0
 | .inr _=>
  some 2
instance [Pg P](l:List ah)(r:Int):bx P 70 (g70 l=some r) [aq ah.ts 2 l] (I6 r):=⟨λhR=>by
 have hP:=Pg.h (P:=P);unfold g70 at hR;refine e70 hP ?_;cbv;refine aM.i hR ?_ ?_<;>intro c1 hR<;>cbv
 ·cases hR;exact al
 refine kC (ty hP) 49 (λN5 i4 s2=>[(0,aq ah.ts 2 l),(8,aq ah.ts 2 l),(9,I6 N5),(10,I6 i4)]) (λs2=>[]) (λr_ g_=>(AE.ret,sp 49 [(2,AI .i64 (.lit 2))],[])) (AE.exit 0) hR (λN5 Dg=>aaP) ?_ go go;intro N5 Dg i4 s2 g3 x6 y7 yC yD yE z8 hR J B hJ hB;cbv;refine aM.t (decide_eq_true yD) ?_;cbv;refine bF.mk _ yC (aY ah.ts _ _ _ z8) ?_;cbv;refine aR.of (ty hP) (mo hP) rfl ?_ (br.box br.nil);cbv;(iterate 4 (refine aS.z ?_;cbv));refine aM.i hR ?_ ?_<;>intro De hR<;>cbv
 ·exact go
 (iterate 5 (refine aS.z ?_;cbv));refine aM.i hR ?_ ?_<;>intro L5 hR<;>cbv
 ·exact go
 (iterate 5 (refine aS.z ?_;cbv));refine aM.i hR ?_ ?_<;>intro OU hR<;>cbv
 ·exact go
 (iterate 5 (refine aS.z ?_;cbv));refine aM.i hR ?_ ?_<;>intro YA hR<;>cbv
 ·exact go
 (iterate 3 (refine aS.z ?_;cbv));refine aM.i hR ?_ ?_<;>intro Ry hR<;>cbv
 ·(iterate 3 (refine aS.z ?_;cbv));obtain⟨Sc,abv,hR⟩:=az hR;apply aS.is
  ·intro J hJ;cbv;refine bF.mk _ (iC abv) (aY ah.ts _ _ _ (bn abv)) ?_;cbv;exact hJ
  exact go
 exact go⟩
def acr (m:Int):Option (Bool):=
 if(ai .geq m 1)=true then
  some (ai .lss m 7)
 else some false
instance [Pg P](m:Int)(r:Bool):bx P 191 (acr m=some r) [I8 m] (B1 r):=⟨λhR=>by
 have hP:=Pg.h (P:=P);unfold acr at hR;refine aeI hP ?_;cbv;exact go⟩
def acs (m:Int):Option (Bool):=
 if(ai .eql m 1)=true then
  some true
 else if(ai .eql m 2)=true then
  some true
 else some (ai .eql m 5)
instance [Pg P](m:Int)(r:Bool):bx P 193 (acs m=some r) [I8 m] (B1 r):=⟨λhR=>by
 have hP:=Pg.h (P:=P);unfold acs at hR;refine aeJ hP ?_;cbv;exact go⟩
def abw (s:Int)(m:Int):Option (Int):=
 if(ai .eql m 1)=true then
  if(ai .eql s 0)=true then
   some 1
  else if(ai .eql m 2)=true then
   if(ai .eql s 1)=true then
    some 2
   else if(ai .eql m 3)=true then
    if(ai .eql s 2)=true then
     some 3
    else if(ai .eql m 4)=true then
     if(ai .eql m 5)=true then
      if(ai .eql s 3)=true then
       some 5
      else if(ai .eql m 6)=true then
       if(ai .eql s 5)=true then
        some 6
       else some 0
      else some 0
     else if(ai .eql m 6)=true then
      if(ai .eql s 5)=true then
       some 6
      else some 0
     else some 0
    else if(ai .eql m 5)=true then
     if(ai .eql s 3)=true then
      some 5
     else if(ai .eql m 6)=true then
      if(ai .eql s 5)=true then
       some 6
      else some 0
     else some 0
    else if(ai .eql m 6)=true then
     if(ai .eql s 5)=true then
      some 6
     else some 0
    else some 0
   else if(ai .eql m 4)=true then
    if(ai .eql m 5)=true then
     if(ai .eql s 2)=true then
      some 5
     else if(ai .eql s 3)=true then
      some 5
     else if(ai .eql m 6)=true then
      if(ai .eql s 5)=true then
       some 6
      else some 0
     else some 0
    else if(ai .eql m 6)=true then
     if(ai .eql s 5)=true then
      some 6
     else some 0
    else some 0
   else if(ai .eql m 5)=true then
    if(ai .eql s 2)=true then
     some 5
    else if(ai .eql s 3)=true then
     some 5
    else if(ai .eql m 6)=true then
     if(ai .eql s 5)=true then
      some 6
     else some 0
    else some 0
   else if(ai .eql m 6)=true then
    if(ai .eql s 5)=true then
     some 6
    else some 0
   else some 0
  else if(ai .eql m 3)=true then
   if(ai .eql s 2)=true then
    some 3
   else if(ai .eql m 4)=true then
    if(ai .eql s 1)=true then
     some 4
    else if(ai .eql m 5)=true then
     if(ai .eql s 3)=true then
      some 5
     else if(ai .eql m 6)=true then
      if(ai .eql s 5)=true then
       some 6
      else some 0
     else some 0
    else if(ai .eql m 6)=true then
     if(ai .eql s 5)=true then
      some 6
     else some 0
    else some 0
   else if(ai .eql m 5)=true then
    if(ai .eql s 3)=true then
     some 5
    else if(ai .eql m 6)=true then
     if(ai .eql s 5)=true then
      some 6
     else some 0
    else some 0
   else if(ai .eql m 6)=true then
    if(ai .eql s 5)=true then
     some 6
    else some 0
   else some 0
  else if(ai .eql m 4)=true then
   if(ai .eql s 1)=true then
    some 4
   else if(ai .eql m 5)=true then
    if(ai .eql s 2)=true then
     some 5
    else if(ai .eql s 3)=true then
     some 5
    else if(ai .eql m 6)=true then
     if(ai .eql s 5)=true then
      some 6
     else some 0
    else some 0
   else if(ai .eql m 6)=true then
    if(ai .eql s 5)=true then
     some 6
    else some 0
   else some 0
  else if(ai .eql m 5)=true then
   if(ai .eql s 2)=true then
    some 5
   else if(ai .eql s 3)=true then
    some 5
   else if(ai .eql m 6)=true then
    if(ai .eql s 5)=true then
     some 6
    else some 0
   else some 0
  else if(ai .eql m 6)=true then
   if(ai .eql s 5)=true then
    some 6
   else some 0
  else some 0
 else if(ai .eql m 2)=true then
  if(ai .eql s 1)=true then
   some 2
  else if(ai .eql m 3)=true then
   if(ai .eql s 2)=true then
    some 3
   else if(ai .eql m 4)=true then
    if(ai .eql m 5)=true then
     if(ai .eql s 3)=true then
      some 5
     else if(ai .eql m 6)=true then
      if(ai .eql s 5)=true then
       some 6
      else some 0
     else some 0
    else if(ai .eql m 6)=true then
     if(ai .eql s 5)=true then
      some 6
     else some 0
    else some 0
   else if(ai .eql m 5)=true then
    if(ai .eql s 3)=true then
     some 5
    else if(ai .eql m 6)=true then
     if(ai .eql s 5)=true then
      some 6
     else some 0
    else some 0
   else if(ai .eql m 6)=true then
    if(ai .eql s 5)=true then
     some 6
    else some 0
   else some 0
  else if(ai .eql m 4)=true then
   if(ai .eql m 5)=true then
    if(ai .eql s 2)=true then
     some 5
    else if(ai .eql s 3)=true then
     some 5
    else if(ai .eql m 6)=true then
     if(ai .eql s 5)=true then
      some 6
     else some 0
    else some 0
   else if(ai .eql m 6)=true then
    if(ai .eql s 5)=true then
     some 6
    else some 0
   else some 0
  else if(ai .eql m 5)=true then
   if(ai .eql s 2)=true then
    some 5
   else if(ai .eql s 3)=true then
    some 5
   else if(ai .eql m 6)=true then
    if(ai .eql s 5)=true then
     some 6
    else some 0
   else some 0
  else if(ai .eql m 6)=true then
   if(ai .eql s 5)=true then
    some 6
   else some 0
  else some 0
 else if(ai .eql m 3)=true then
  if(ai .eql s 2)=true then
   some 3
  else if(ai .eql m 4)=true then
   if(ai .eql s 1)=true then
    some 4
   else if(ai .eql m 5)=true then
    if(ai .eql s 3)=true then
     some 5
    else if(ai .eql m 6)=true then
     if(ai .eql s 5)=true then
      some 6
     else some 0
    else some 0
   else if(ai .eql m 6)=true then
    if(ai .eql s 5)=true then
     some 6
    else some 0
   else some 0
  else if(ai .eql m 5)=true then
   if(ai .eql s 3)=true then
    some 5
   else if(ai .eql m 6)=true then
    if(ai .eql s 5)=true then
     some 6
    else some 0
   else some 0
  else if(ai .eql m 6)=true then
   if(ai .eql s 5)=true then
    some 6
   else some 0
  else some 0
 else if(ai .eql m 4)=true then
  if(ai .eql s 1)=true then
   some 4
  else if(ai .eql m 5)=true then
   if(ai .eql s 2)=true then
    some 5
   else if(ai .eql s 3)=true then
    some 5
   else if(ai .eql m 6)=true then
    if(ai .eql s 5)=true then
     some 6
    else some 0
   else some 0
  else if(ai .eql m 6)=true then
   if(ai .eql s 5)=true then
    some 6
   else some 0
  else some 0
 else if(ai .eql m 5)=true then
  if(ai .eql s 2)=true then
   some 5
  else if(ai .eql s 3)=true then
   some 5
  else if(ai .eql m 6)=true then
   if(ai .eql s 5)=true then
    some 6
   else some 0
  else some 0
 else if(ai .eql m 6)=true then
  if(ai .eql s 5)=true then
   some 6
  else some 0
 else some 0
instance [Pg P](s:Int)(m:Int)(r:Int):bx P 192 (abw s m=some r) [I8 s,I8 m] (I8 r):=⟨λhR=>by
 have hP:=Pg.h (P:=P);unfold abw at hR;refine aeK hP ?_;cbv;exact go⟩
def acu (l:List ah)(order:Int):Option (Int×Int):=
 (g70 l).bind λp1=>
 if(ai .neq p1 0)=true then
  some (0,2)
 else if(ai .lss order 1)=true then
  some (0,2)
 else if(ai .gtr order 1024)=true then
  some (0,2)
 else(bh (λ(_:Unit)(_:Int)(x9:ah)=>
  if(ai .eql x9.order order)=true then
   some (.inr x9.state)
  else some (.inl ())) l ():Option ((Unit)⊕(Int))).bind λZj=>
 match Zj with
 | .inl _=>
  some (0,0)
 | .inr Zk=>
  some (Zk,0)
instance [Pg P](l:List ah)(order:Int)(r:Int×Int):bx P 190 (acu l order=some r) [aq ah.ts 2 l,I6 order] (.cI [I8 r.1,I6 r.2]):=⟨λhR=>by
 have hP:=Pg.h (P:=P);unfold acu at hR;refine aeL hP ?_;cbv;obtain⟨p1,gM,hR⟩:=az hR;refine aJ gM ?_;cbv;refine aM.i hR ?_ ?_<;>intro c2 hR<;>cbv
 ·cases hR;exact al
 refine aM.i hR ?_ ?_<;>intro c3 hR<;>cbv
 ·cases hR;exact al
 refine aM.i hR ?_ ?_<;>intro c4 hR<;>cbv
 ·cases hR;exact al
 exact kC (ty hP) 34 (λN8 i7 s5=>[(1,I6 order),(21,aq ah.ts 2 l),(22,I6 N8),(23,I6 i7)]) (λs5=>[]) (λr_ g_=>(AE.ret,sp 34 [(4,I8 r_),(5,AI .i64 (.lit 0))],[])) (AE.exit 0) hR (λN8 hN8=>aaP) go go go⟩
def acv (l:List ah)(order:Int)(m:Int)(v:Int):Option ((List ah)×Int):=
 (acu l order).bind λp1=>
 if(ai .neq p1.2 0)=true then
  some (([]:List ah),p1.2)
 else(acr m).bind λp3=>
 if(!p3)=true then
  some (([]:List ah),15)
 else if(ai .geq v 2)=true then
  some (([]:List ah),15)
 else(abw p1.1 m).bind λp6=>
 if(ai .eql p6 0)=true then
  some (([]:List ah),9)
 else(acs m).bind λp8=>
 if p8=true then
  if(ai .eql v 1)=true then
   some (([]:List ah),10)
  else(bh (λ(_5:(List ah)×Bool)(_:Int)(Sc:ah)=>
   if(!_5.2)=true then
    if(ai .geq Sc.order order)=true then
     (abw p1.1 m).bind λmO=>
     if(decide ((_5.1++[(⟨order,mO⟩:ah)]).length*16<=140737488355328))=true then
      if(ai .neq Sc.order order)=true then
       if(decide (((_5.1++[(⟨order,mO⟩:ah)])++[Sc]).length*16<=140737488355328))=true then
        some (.inl (((_5.1++[(⟨order,mO⟩:ah)])++[Sc]),true))
       else none
      else some (.inl ((_5.1++[(⟨order,mO⟩:ah)]),true))
     else none
    else if(ai .neq Sc.order order)=true then
     if(decide ((_5.1++[Sc]).length*16<=140737488355328))=true then
      some (.inl ((_5.1++[Sc]),_5.2))
     else none
    else some (.inl (_5.1,_5.2))
   else if(ai .neq Sc.order order)=true then
    if(decide ((_5.1++[Sc]).length*16<=140737488355328))=true then
     some (.inl ((_5.1++[Sc]),_5.2))
    else none
   else some (.inl (_5.1,_5.2))) l ([],false):Option (((List ah)×Bool)⊕(Empty))).bind λR33=>
  match R33 with
  | .inl s34=>
   if(!s34.2)=true then
    (abw p1.1 m).bind λU3=>
    if(decide ((s34.1++[(⟨order,U3⟩:ah)]).length*16<=140737488355328))=true then
     some ((s34.1++[(⟨order,U3⟩:ah)]),0)
    else none
   else some (s34.1,0)
  | .inr r_=>r_.elim
 else(bh (λ(ek:(List ah)×Bool)(_:Int)(x44:ah)=>
  if(!ek.2)=true then
   if(ai .geq x44.order order)=true then
    (abw p1.1 m).bind λED=>
    if(decide ((ek.1++[(⟨order,ED⟩:ah)]).length*16<=140737488355328))=true then
     if(ai .neq x44.order order)=true then
      if(decide (((ek.1++[(⟨order,ED⟩:ah)])++[x44]).length*16<=140737488355328))=true then
       some (.inl (((ek.1++[(⟨order,ED⟩:ah)])++[x44]),true))
      else none
     else some (.inl ((ek.1++[(⟨order,ED⟩:ah)]),true))
    else none
   else if(ai .neq x44.order order)=true then
    if(decide ((ek.1++[x44]).length*16<=140737488355328))=true then
     some (.inl ((ek.1++[x44]),ek.2))
    else none
   else some (.inl (ek.1,ek.2))
  else if(ai .neq x44.order order)=true then
   if(decide ((ek.1++[x44]).length*16<=140737488355328))=true then
    some (.inl ((ek.1++[x44]),ek.2))
   else none
  else some (.inl (ek.1,ek.2))) l ([],false):Option (((List ah)×Bool)⊕(Empty))).bind λR62=>
 match R62 with
 | .inl s63=>
  if(!s63.2)=true then
   (abw p1.1 m).bind λp66=>
   if(decide ((s63.1++[(⟨order,p66⟩:ah)]).length*16<=140737488355328))=true then
    some ((s63.1++[(⟨order,p66⟩:ah)]),0)
   else none
  else some (s63.1,0)
 | .inr r_=>r_.elim
instance [Pg P](l:List ah)(order:Int)(m:Int)(v:Int)(r:(List ah)×Int):bx P 163 (acv l order m v=some r) [aq ah.ts 2 l,I6 order,I8 m,I8 v] (.cI [aq ah.ts 2 r.1,I6 r.2]):=⟨λhR=>by
 have hP:=Pg.h (P:=P);unfold acv at hR;refine aeM hP ?_;cbv;obtain⟨p1,gM,hR⟩:=az hR;refine aJ gM ?_;cbv;refine aM.i hR ?_ ?_<;>intro c2 hR<;>cbv
 ·cases hR;exact al
 obtain⟨p3,oV,hR⟩:=az hR;refine aJ oV ?_;cbv;refine aM.i hR ?_ ?_<;>intro c4 hR<;>cbv
 ·cases hR;exact al
 refine aM.i hR ?_ ?_<;>intro c5 hR<;>cbv
 ·cases hR;exact al
 obtain⟨p6,GL,hR⟩:=az hR;refine aJ GL ?_;cbv;refine aM.i hR ?_ ?_<;>intro c7 hR<;>cbv
 ·cases hR;exact al
 obtain⟨p8,U_,hR⟩:=az hR;refine aJ U_ ?_;cbv;refine aM.i hR ?_ ?_<;>intro c9 hR<;>cbv
 ·refine aM.i hR ?_ ?_<;>intro De hR<;>cbv
  ·cases hR;exact al
  exact lp (ty hP) (γ:=(λ_5=>({c_:Nat//_5.1.length<=c_}))) (γ':=(λ_=>Unit)) 88 (λVz Vx _5 Sn=>[(1,I6 order),(2,I8 m),(10,I8 p1.1),(12,.sl 0 2 (.lit 0) (.th λ_=>_5.1.length) (.th λ_=>Sn.val)),(13,B1 _5.2),(46,aq ah.ts 2 l),(47,I6 Vz),(48,I6 Vx)]) (λ_5 Sn=>[aL ah.ts 2 _5.1 Sn.val]) (λr_ _=>r_.elim) (AE.exit 1) ⟨0,Nat.le_refl 0⟩ hR (λVz QA=>aaP) go go go
 exact lp (ty hP) (γ:=(λek=>({c_:Nat//ek.1.length<=c_}))) (γ':=(λ_=>Unit)) 88 (λN43 i42 ek L2=>[(1,I6 order),(2,I8 m),(10,I8 p1.1),(12,.sl 0 2 (.lit 0) (.th λ_=>ek.1.length) (.th λ_=>L2.val)),(13,B1 ek.2),(46,aq ah.ts 2 l),(47,I6 N43),(48,I6 i42)]) (λek L2=>[aL ah.ts 2 ek.1 L2.val]) (λr_ _=>r_.elim) (AE.exit 1) ⟨0,Nat.le_refl 0⟩ hR (λN43 aeN=>aaP) go go go⟩
def O5 (a:List ah)(b:List ah):Option (Bool):=
 if(ai .neq ((a.map ah.ts).length:Int) ((b.map ah.ts).length:Int))=true then
  some false
 else(bh (λ(_:Unit)(i4:Int)(x6:ah)=>
  (fH b i4).bind λeu=>
  if(!((x6.order==eu.order)&&((x6.state==eu.state)&&true)))=true then
   some (.inr ())
  else some (.inl ())) a ():Option ((Unit)⊕(Unit))).bind λGF=>
 match GF with
 | .inl _=>
  some true
 | .inr _=>
  some false
instance [Pg P](a:List ah)(b:List ah)(r:Bool):bx P 48 (O5 a b=some r) [aq ah.ts 2 a,aq ah.ts 2 b] (B1 r):=⟨λhR=>by
 have hP:=Pg.h (P:=P);unfold O5 at hR;refine Zi hP ?_;cbv;refine aM.i hR ?_ ?_<;>intro c1 hR<;>cbv
 ·cases hR;exact al
 refine kC (ty hP) 26 (λN5 i4 s2=>[(0,aq ah.ts 2 a),(1,aq ah.ts 2 b),(12,I6 N5),(13,I6 i4)]) (λs2=>[]) (λr_ g_=>(AE.ret,sp 26 [(4,AB (.lit false))],[])) (AE.exit 0) hR (λN5 Dg=>aaP) ?_ go go;intro N5 Dg i4 s2 g3 x6 y7 yC yD yE z8 hR J B hJ hB;cbv;refine aM.t (decide_eq_true yD) ?_;cbv;refine aR.of (ty hP) (mo hP) rfl ?_ br.nil;cbv;(iterate 2 (refine aS.z ?_;cbv));apply aS.is
 ·intro J hJ;cbv;refine bF.mk _ yC (aY ah.ts _ _ _ z8) ?_;cbv;exact hJ
 cbv
 (iterate 3 (refine aS.z ?_;cbv));obtain⟨eu,lW,hR⟩:=az hR;apply aS.is
 ·intro J hJ;cbv;refine bF.mk _ (iC lW) (aY ah.ts _ _ _ (bn lW)) ?_;cbv;exact hJ
 exact go⟩
end Go.Proofs.aaa
end
