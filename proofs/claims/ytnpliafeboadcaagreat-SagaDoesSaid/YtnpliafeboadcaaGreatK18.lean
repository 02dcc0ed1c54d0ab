/- Texts that the law leans on, part 18. No conditions. -/
import Derived.Test.YtnpliafeboadcaaGreatK12
import Derived.Test.YtnpliafeboadcaaGreatK16
import Derived.Test.YtnpliafeboadcaaGreatK17
section
namespace Go.Proofs.aaa
open Go.bA Go.IntWalk
variable{P:Program}
set_option maxHeartbeats 4000000
set_option maxRecDepth 20000
def Ci (l:List aU):Option (Int×Int):=
 if(ai .eql ((l.map aU.ts).length:Int) 0)=true then
  some (0,2)
 else(bh (λ(_:Unit)(i4:Int)(x6:aU)=>
  (B0 x6.item 1024).bind λpJ=>
  if(!pJ)=true then
   some (.inr i4)
  else(B0 x6.aE 1024).bind λqb=>
  if(!qb)=true then
   some (.inr i4)
  else some (.inl ())) l ():Option ((Unit)⊕(Int))).bind λZj=>
 match Zj with
 | .inl _=>
  (q9 l).bind λGn=>
  if(ai .neq Gn.2 0)=true then
   some (0,Gn.2)
  else if(ai .lss Gn.1 1)=true then
   some (0,2)
  else if(ai .gtr Gn.1 1152921504606846976)=true then
   some (0,5)
  else some (Gn.1,0)
 | .inr Zk=>
  if(ai .geq Zk 0)=true then
   some (0,2)
  else(q9 l).bind λeI=>
  if(ai .neq eI.2 0)=true then
   some (0,eI.2)
  else if(ai .lss eI.1 1)=true then
   some (0,2)
  else if(ai .gtr eI.1 1152921504606846976)=true then
   some (0,5)
  else some (eI.1,0)
instance [Pg P](l:List aU)(r:Int×Int):bx P 122 (Ci l=some r) [aq aU.ts 4 l] (.cI [I6 r.1,I6 r.2]):=⟨λhR=>by
 have hP:=Pg.h (P:=P);unfold Ci at hR;refine TN hP ?_;cbv;refine aM.i hR ?_ ?_<;>intro c1 hR<;>cbv
 ·cases hR;exact al
 refine O6 hP ?_;cbv;refine O7 hP ?_;cbv;refine kC (ty hP) 19 (λN5 i4 s2=>[(0,aq aU.ts 4 l),(1,.fn (.func 166) [] []),(7,I6 N5),(8,I6 i4)]) (λs2=>[]) (λr_ g_=>(AE.ret,sp 19 [(4,I6 r_)],[])) (AE.exit 0) hR (λN5 Dg=>aaP) ?_ go go;intro N5 Dg i4 s2 g3 x6 y7 yC yD yE z8 hR J B hJ hB;cbv;refine aM.t (decide_eq_true yD) ?_;cbv;refine bF.mk _ yC (aY aU.ts _ _ _ z8) ?_;cbv;refine TO hP ?_;cbv;exact go⟩
def O8 (l:List Order):Option (Bool):=
 (bh (λ(s1:Int)(_:Int)(x5:Order)=>
  (Ci x5.lines).bind λp9=>
  if(ai .leq x5.id s1)=true then
   some (.inr ())
  else if(ai .gtr x5.id 1024)=true then
   some (.inr ())
  else if(ai .neq p9.2 0)=true then
   some (.inr ())
  else if(ai .neq p9.1 x5.aP)=true then
   some (.inr ())
  else if(ai .eql x5.status 0)=true then
   some (.inr ())
  else if(ai .geq x5.status 8)=true then
   some (.inr ())
  else some (.inl x5.id)) l 0:Option ((Int)⊕(Unit))).bind λL4=>
 match L4 with
 | .inl _=>
  some true
 | .inr _=>
  some false
instance [Pg P](l:List Order)(r:Bool):bx P 66 (O8 l=some r) [aq Order.ts 4 l] (B1 r):=⟨λhR=>by
 have hP:=Pg.h (P:=P);unfold O8 at hR;refine Zl hP ?_;cbv;exact kC (ty hP) 52 (λN4 i3 s1=>[(3,I6 s1),(8,aq Order.ts 4 l),(9,I6 N4),(10,I6 i3)]) (λs1=>[]) (λr_ g_=>(AE.ret,sp 52 [(2,AB (.lit false))],[])) (AE.exit 0) hR (λN4 sI=>aaP) go go go⟩
def uD (l:List Order)(id:Int):Option (Int×Bool):=
 (Gu Order.id l id).bind λp1=>
 some (p1.1,p1.2)
instance [Pg P](l:List Order)(id:Int)(r:Int×Bool):bx P 100 (uD l id=some r) [aq Order.ts 4 l,I6 id] (.cI [I6 r.1,B1 r.2]):=⟨λhR=>by
 have hP:=Pg.h (P:=P);unfold uD at hR;refine TP hP ?_;cbv;exact go⟩
def Ez (s:Int):Option (Int):=
 if(s==1)=true then
  some 1
 else if(s==4)=true then
  some 2
 else if(s==6)=true then
  some 3
 else some 0
instance [Pg P](s:Int)(r:Int):bx P 123 (Ez s=some r) [I8 s] (I8 r):=⟨λhR=>by
 have hP:=Pg.h (P:=P);unfold Ez at hR;refine TQ hP ?_;cbv;rcases Bool.eq_false_or_eq_true (s==1)with c1|c1
 ·replace hR:=wz c1 hR;exact go
 replace hR:=wA c1 hR;rcases Bool.eq_false_or_eq_true (s==4)with c2|c2
 ·replace hR:=wz c2 hR;exact go
 replace hR:=wA c2 hR;rcases Bool.eq_false_or_eq_true (s==6)with c3|c3
 ·replace hR:=wz c3 hR;exact go
 replace hR:=wA c3 hR;exact go⟩
def O9 (s:State):Option (Bool):=
 (bh (λ(s1:(List (Int×Int)))(_:Int)(x5:aC)=>
  (hnext x5).bind λp9=>
  (uD s.aa x5.order).bind λpJ=>
  if(ai .neq p9.2.2 0)=true then
   some (.inr ())
  else if(!p9.2.1)=true then
   some (.inr ())
  else if(!pJ.2)=true then
   some (.inr ())
  else(fH s.aa pJ.1).bind λmQ=>
  (Ez mQ.status).bind λkD=>
  if(ai .neq kD x5.kind)=true then
   some (.inr ())
  else ou (ck s1 x5.order) (λOa=>
   some (.inl (iI s1 x5.order (aH .add .i64 Oa 1)))) (
   some (.inl (iI s1 x5.order 1)))) s.aj []:Option (((List (Int×Int)))⊕(Unit))).bind λZm=>
 match Zm with
 | .inl KZ=>
  (bh (λ(_:Unit)(_:Int)(Jh:Order)=>
   (Ez Jh.status).bind λow=>
   ou (ck KZ Jh.id) (λTR=>
    if(!((ai .neq ow 0)==(ai .eql TR 1)))=true then
     some (.inr ())
    else if(ai .gtr TR 1)=true then
     some (.inr ())
    else some (.inl ())) (
    if(!((ai .neq ow 0)==false))=true then
     some (.inr ())
    else some (.inl ()))) s.aa ():Option ((Unit)⊕(Unit))).bind λZn=>
  match Zn with
  | .inl _=>
   some true
  | .inr _=>
   some false
 | .inr _=>
  some false
instance [Pg P](s:State)(r:Bool):bx P 67 (O9 s=some r) [s.av] (B1 r):=⟨λhR=>by
 have hP:=Pg.h (P:=P);unfold O9 at hR;refine Zo hP ?_;cbv;refine kC (ty hP) 88 (λN4 i3 s1=>[(1,.ref 0 0),(3,.mp 1),(15,aq aC.ts 4 s.aj),(16,I6 N4),(17,I6 i3)]) (λs1=>[.box [I6 s.limit,aq Cell.ts 6 s.cells,aq aQ.ts 4 s.af.aK,aq au.ts 4 s.af.ak,aq ah.ts 2 s.aA,aq Order.ts 4 s.aa,aq aC.ts 4 s.aj,aq Kept.ts 4 s.kept],mpT .i64 false (v7 .i64) s1]) (λr_ g_=>(AE.ret,sp 88 [(2,AB (.lit false))],[])) (AE.exit 0) hR (λN4 sI=>aaP) ?_ ?_ go
 ·intro N4 sI i3 s1 g2 x5 y6 B2 B3 B4 Df hR J B hJ hB;cbv;refine aM.t (decide_eq_true B3) ?_;cbv;refine bF.mk _ B2 (aY aC.ts _ _ _ Df) ?_;cbv;obtain⟨p9,tw,hR⟩:=az hR;refine aJ tw ?_;cbv;obtain⟨pJ,qW,hR⟩:=az hR;refine aJ qW ?_;cbv;refine aR.of (ty hP) (mo hP) rfl ?_ (br.box (br.jq (br.box br.nil)));cbv;(iterate 3 (refine aS.z ?_;cbv));refine aM.i hR ?_ ?_<;>intro L5 hR<;>cbv
  ·exact go
  (iterate 4 (refine aS.z ?_;cbv));refine aM.i hR ?_ ?_<;>intro OU hR<;>cbv
  ·exact go
  (iterate 4 (refine aS.z ?_;cbv));refine aM.i hR ?_ ?_<;>intro YA hR<;>cbv
  ·exact go
  (iterate 3 (refine aS.z ?_;cbv));obtain⟨mQ,Ji,hR⟩:=az hR;apply aS.is
  ·intro J hJ;cbv;refine bF.mk _ (iC Ji) (aY Order.ts _ _ _ (bn Ji)) ?_;cbv;exact hJ
  cbv
  (iterate 2 (refine aS.z ?_;cbv));obtain⟨kD,B9,hR⟩:=az hR;apply aS.is
  ·intro J hJ;cbv;refine aJ B9 ?_;cbv;exact hJ
  cbv
  (iterate 4 (refine aS.z ?_;cbv));refine aM.i hR ?_ ?_<;>intro Rt hR<;>cbv
  ·exact go
  rcases RJ:ck s1 x5.order with _|Oa
  ·replace hR:=Gs RJ hR;refine iz.Eu (ts:=(v7 .i64)) rfl RJ ?_;cbv;cases hR;exact hJ _ () _ _ rfl (mN [0,1] (.cons rfl (.aN (.cons (.int rfl) (.cons (.c .refl) (.cons (.c .refl) (.cons (.c .refl) (.cons (.c .refl) (.cons (.c .refl) (.cons (.c .refl) (.cons (.c .refl) .nil))))))))) (.cons rfl (.ov (ts:=(v7 .i64)) (l:=(iI s1 x5.order 1)) (p_ 1 rfl rfl)) .nil)))
  replace hR:=Gt RJ hR;refine iz.hit (ts:=(v7 .i64)) rfl RJ ?_;cbv;cases hR;exact hJ _ () _ _ rfl (mN [0,1] (.cons rfl (.aN (.cons (.int rfl) (.cons (.c .refl) (.cons (.c .refl) (.cons (.c .refl) (.cons (.c .refl) (.cons (.c .refl) (.cons (.c .refl) (.cons (.c .refl) .nil))))))))) (.cons rfl (.ov (ts:=(v7 .i64)) (l:=(iI s1 x5.order (aH .add .i64 Oa 1))) (p_ (aH .add .i64 Oa 1) rfl rfl)) .nil)))
 intro N4 sI KZ Zp hR;dsimp only at hR;cbv;refine kC (ty hP) 88 (λK1 O_ FQ=>[(3,.mp 0),(64,aq Order.ts 4 s.aa),(65,I6 K1),(66,I6 O_)]) (λFQ=>[mpT .i64 false (v7 .i64) KZ]) (λr_ g_=>(AE.ret,sp 88 [(2,AB (.lit false))],[])) (AE.exit 2) hR (λK1 EA=>aaP) ?_ go go;intro K1 EA O_ FQ Zq Jh Zr GG GH Jj Mi hR J B hJ hB;cbv;refine aM.t (decide_eq_true GH) ?_;cbv;refine bF.mk _ GG (aY Order.ts _ _ _ Mi) ?_;cbv;refine aR.of (ty hP) (mo hP) rfl ?_ (br.jq (br.box br.nil));cbv
 (iterate 2 (refine aS.z ?_;cbv));obtain⟨ow,yI,hR⟩:=az hR;apply aS.is
 ·intro J hJ;cbv;refine aJ yI ?_;cbv;exact hJ
 cbv
 (iterate 4 (refine aS.z ?_;cbv));rcases Ob:ck KZ Jh.id with _|TR
 ·replace hR:=Gs Ob hR;apply aS.is
  ·intro J hJ;cbv;refine iz.Eu (ts:=(v7 .i64)) rfl Ob ?_;cbv;exact hJ
  cbv
  (iterate 3 (refine aS.z ?_;cbv));refine aM.i hR ?_ ?_<;>intro Ta hR<;>cbv
  ·exact go
  (iterate 3 (refine aS.z ?_;cbv));apply aS.is
  ·intro J hJ;cbv;refine iz.Eu (ts:=(v7 .i64)) rfl Ob ?_;cbv;exact hJ
  exact go
 replace hR:=Gt Ob hR;apply aS.is
 ·intro J hJ;cbv;refine iz.hit (ts:=(v7 .i64)) rfl Ob ?_;cbv;exact hJ
 cbv
 (iterate 3 (refine aS.z ?_;cbv));refine aM.i hR ?_ ?_<;>intro S_ hR<;>cbv
 ·exact go
 (iterate 3 (refine aS.z ?_;cbv));apply aS.is
 ·intro J hJ;cbv;refine iz.hit (ts:=(v7 .i64)) rfl Ob ?_;cbv;exact hJ
 exact go⟩
def Pa (l:List Kept):Option (Bool):=
 (bh (λ(s1:ByteArray)(_:Int)(x5:Kept)=>
  if(ai .geq x5.cH.why 0)=true then
   if(ai .leq x5.cH.why 15)=true then
    if(ai .lss x5.cH.status 8)=true then
     if(dA .leq x5.mark s1)=true then
      some (.inr ())
     else if(ai .gtr ((x5.mark).size:Int) 64)=true then
      some (.inr ())
     else if(!(ai .geq x5.cH.ax 0))=true then
      some (.inr ())
     else some (.inl x5.mark)
    else if(dA .leq x5.mark s1)=true then
     some (.inr ())
    else if(ai .gtr ((x5.mark).size:Int) 64)=true then
     some (.inr ())
    else some (.inr ())
   else if(dA .leq x5.mark s1)=true then
    some (.inr ())
   else if(ai .gtr ((x5.mark).size:Int) 64)=true then
    some (.inr ())
   else some (.inr ())
  else if(dA .leq x5.mark s1)=true then
   some (.inr ())
  else if(ai .gtr ((x5.mark).size:Int) 64)=true then
   some (.inr ())
  else some (.inr ())) l ByteArray.empty:Option ((ByteArray)⊕(Unit))).bind λZs=>
 match Zs with
 | .inl _=>
  some (ai .leq ((l.map Kept.ts).length:Int) 4096)
 | .inr _=>
  some false
instance [Pg P](l:List Kept)(r:Bool):bx P 62 (Pa l=some r) [aq Kept.ts 4 l] (B1 r):=⟨λhR=>by
 have hP:=Pg.h (P:=P);unfold Pa at hR;refine Zt hP ?_;cbv;exact kC (ty hP) 54 (λN4 i3 s1=>[(0,aq Kept.ts 4 l),(3,AS (.th λ_=>s1)),(8,aq Kept.ts 4 l),(9,I6 N4),(10,I6 i3)]) (λs1=>[]) (λr_ g_=>(AE.ret,sp 54 [(2,AB (.lit false))],[])) (AE.exit 0) hR (λN4 sI=>aaP) go go go⟩
def K2 (s:State):Option (Int):=
 if(ai .lss s.limit 0)=true then
  some 9
 else if(ai .gtr s.limit 1024)=true then
  some 9
 else if(ai .gtr ((s.aa.map Order.ts).length:Int) s.limit)=true then
  some 9
 else(Pa s.kept).bind λp4=>
 if(!p4)=true then
  some 9
 else(N2 s.cells).bind λp6=>
 if(ai .neq p6 0)=true then
  some 9
 else(Jc s.af).bind λp8=>
 if(ai .neq p8 0)=true then
  some 9
 else(O4 s.aA).bind λpJ=>
 if(ai .neq pJ 0)=true then
  some 9
 else(O8 s.aa).bind λqb=>
 if(!qb)=true then
  some 9
 else(O9 s).bind λiq=>
 if(!iq)=true then
  some 9
 else some 0
instance [Pg P](s:State)(r:Int):bx P 22 (K2 s=some r) [s.av] (I6 r):=⟨λhR=>by
 have hP:=Pg.h (P:=P);unfold K2 at hR;refine Zu hP ?_;cbv;exact go⟩
def EC (limit:Int):Option (State×Int):=
 if(ai .lss limit 0)=true then
  some ((⟨0,([]:List Cell),(⟨([]:List aQ),([]:List au)⟩:aF),([]:List ah),([]:List Order),([]:List aC),([]:List Kept)⟩:State),2)
 else if(ai .gtr limit 1024)=true then
  some ((⟨0,([]:List Cell),(⟨([]:List aQ),([]:List au)⟩:aF),([]:List ah),([]:List Order),([]:List aC),([]:List Kept)⟩:State),2)
 else some ((⟨limit,([]:List Cell),(⟨([]:List aQ),([]:List au)⟩:aF),([]:List ah),([]:List Order),([]:List aC),([]:List Kept)⟩:State),0)
instance [Pg P](limit:Int)(r:State×Int):bx P 24 (EC limit=some r) [I6 limit] (.cI [r.1.av,I6 r.2]):=⟨λhR=>by
 have hP:=Pg.h (P:=P);unfold EC at hR;refine Zv hP ?_;cbv;exact go⟩
def yJ (s:State):Option (Int×Int):=
 (K2 s).bind λp1=>
 if(ai .neq p1 0)=true then
  some (0,p1)
 else(bh (λ(s3:Int)(_:Int)(x7:aC)=>
  (hleft x7).bind λgO=>
  some (.inl (aH .add .i64 s3 gO.1))) s.aj 0:Option ((Int)⊕(Empty))).bind λGF=>
 match GF with
 | .inl lu=>
  some (lu,0)
 | .inr r_=>r_.elim
instance [Pg P](s:State)(r:Int×Int):bx P 19 (yJ s=some r) [s.av] (.cI [I6 r.1,I6 r.2]):=⟨λhR=>by
 have hP:=Pg.h (P:=P);unfold yJ at hR;refine Zw hP ?_;cbv;obtain⟨p1,gM,hR⟩:=az hR;refine aJ gM ?_;cbv;refine aM.i hR ?_ ?_<;>intro c2 hR<;>cbv
 ·cases hR;exact al
 exact kC (ty hP) 32 (λN6 i5 s3=>[(5,I6 s3),(16,aq aC.ts 4 s.aj),(17,I6 N6),(18,I6 i5)]) (λs3=>[]) (λr_ _=>r_.elim) (AE.exit 0) hR (λN6 B7=>aaP) go go go⟩
def GI (x:aC):Option (Int):=
 if(ai .eql x.kind 2)=true then
  some 5
 else if(ai .eql x.kind 1)=true then
  if x.aO=true then
   some 2
  else if(ai .eql x.kind 3)=true then
   some 7
  else some 3
 else if(ai .eql x.kind 3)=true then
  if(!x.aO)=true then
   some 7
  else some 3
 else some 3
instance [Pg P](x:aC)(r:Int):bx P 103 (GI x=some r) [x.av] (I8 r):=⟨λhR=>by
 have hP:=Pg.h (P:=P);unfold GI at hR;refine TS hP ?_;cbv;exact go⟩
def nM (why:Int):Option (bz):=
 some (⟨why,0,0⟩:bz)
instance [Pg P](why:Int)(r:bz):bx P 43 (nM why=some r) [I6 why] (r.av):=⟨λhR=>by
 have hP:=Pg.h (P:=P);unfold nM at hR;refine Zx hP ?_;cbv;cases hR;exact al⟩
def Cj (o:Order):Option (bz):=
 some (⟨0,o.status,o.aP⟩:bz)
instance [Pg P](o:Order)(r:bz):bx P 132 (Cj o=some r) [o.av] (r.av):=⟨λhR=>by
 have hP:=Pg.h (P:=P);unfold Cj at hR;refine TT hP ?_;cbv;cases hR;exact al⟩
end Go.Proofs.aaa
end
