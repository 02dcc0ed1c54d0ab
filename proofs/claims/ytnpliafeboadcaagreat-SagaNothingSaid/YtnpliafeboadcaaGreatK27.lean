/- Texts that the law leans on, part 27. No conditions. -/
import Derived.Test.YtnpliafeboadcaaGreatK20
import Derived.Test.YtnpliafeboadcaaGreatK22
import Derived.Test.YtnpliafeboadcaaGreatK26
section
namespace Go.Proofs.aaa
open Go.bA Go.IntWalk
variable{P:Program}
set_option maxHeartbeats 4000000
set_option maxRecDepth 20000
def gV (s:State)(a:Act):Option (State×bz×Told×Int):=
 if a.mS=true then
  (uR s a.pick a.verdict).bind λp2=>
  if(ai .neq p2.2.2 0)=true then
   some (s,(⟨0,0,0⟩:bz),p2.2.1,p2.2.2)
  else some (p2.1,(⟨0,0,0⟩:bz),p2.2.1,p2.2.2)
 else(oF s a.ask).bind λp4=>
 if(ai .neq p4.2.2 0)=true then
  some (s,p4.2.1,(⟨0,0,0,0,false⟩:Told),p4.2.2)
 else some (p4.1,p4.2.1,(⟨0,0,0,0,false⟩:Told),p4.2.2)
instance [Pg P](s:State)(a:Act)(r:State×bz×Told×Int):bx P 26 (gV s a=some r) [s.av,a.av] (.cI [r.1.av,r.2.1.av,r.2.2.1.av,I6 r.2.2.2]):=⟨λhR=>by
 have hP:=Pg.h (P:=P);unfold gV at hR;refine _7 hP ?_;cbv;exact go⟩
def Mo (s:State):Option (Bool):=
 (bh (λ(_:Unit)(_:Int)(x5:Order)=>
  (IL s.af x5.id).bind λp9=>
  if(ai .eql x5.status 3)=true then
   if(ai .neq (aH .sub .i64 p9.aT p9.aX) x5.aP)=true then
    some (.inr ())
   else if(ai .neq p9.bC 0)=true then
    some (.inr ())
   else if(ai .gtr p9.aX p9.aT)=true then
    some (.inr ())
   else if(ai .lss (aH .sub .i64 p9.aT p9.aX) 0)=true then
    some (.inr ())
   else if(ai .gtr (aH .sub .i64 p9.aT p9.aX) x5.aP)=true then
    some (.inr ())
   else some (.inl ())
  else if(ai .eql x5.status 2)=true then
   if(ai .neq (aH .sub .i64 p9.aT p9.aX) 0)=true then
    some (.inr ())
   else if(ai .neq p9.bC 0)=true then
    some (.inr ())
   else if(ai .gtr p9.aX p9.aT)=true then
    some (.inr ())
   else if(ai .lss (aH .sub .i64 p9.aT p9.aX) 0)=true then
    some (.inr ())
   else if(ai .gtr (aH .sub .i64 p9.aT p9.aX) x5.aP)=true then
    some (.inr ())
   else some (.inl ())
  else if(ai .eql x5.status 5)=true then
   if(ai .neq (aH .sub .i64 p9.aT p9.aX) 0)=true then
    some (.inr ())
   else if(ai .neq p9.bC 0)=true then
    some (.inr ())
   else if(ai .gtr p9.aX p9.aT)=true then
    some (.inr ())
   else if(ai .lss (aH .sub .i64 p9.aT p9.aX) 0)=true then
    some (.inr ())
   else if(ai .gtr (aH .sub .i64 p9.aT p9.aX) x5.aP)=true then
    some (.inr ())
   else some (.inl ())
  else if(ai .eql x5.status 7)=true then
   if(ai .neq (aH .sub .i64 p9.aT p9.aX) 0)=true then
    some (.inr ())
   else if(ai .neq p9.bC 0)=true then
    some (.inr ())
   else if(ai .gtr p9.aX p9.aT)=true then
    some (.inr ())
   else if(ai .lss (aH .sub .i64 p9.aT p9.aX) 0)=true then
    some (.inr ())
   else if(ai .gtr (aH .sub .i64 p9.aT p9.aX) x5.aP)=true then
    some (.inr ())
   else some (.inl ())
  else if(ai .gtr p9.aX p9.aT)=true then
   some (.inr ())
  else if(ai .lss (aH .sub .i64 p9.aT p9.aX) 0)=true then
   some (.inr ())
  else if(ai .gtr (aH .sub .i64 p9.aT p9.aX) x5.aP)=true then
   some (.inr ())
  else some (.inl ())) s.aa ():Option ((Unit)⊕(Unit))).bind λ_8=>
 match _8 with
 | .inl _=>
  some true
 | .inr _=>
  some false
instance [Pg P](s:State)(r:Bool):bx P 28 (Mo s=some r) [s.av] (B1 r):=⟨λhR=>by
 have hP:=Pg.h (P:=P);unfold Mo at hR;refine _9 hP ?_;cbv;exact kC (ty hP) 64 (λN4 i3 s1=>[(1,.ref 0 0),(8,aq Order.ts 4 s.aa),(9,I6 N4),(10,I6 i3)]) (λs1=>[.box [I6 s.limit,aq Cell.ts 6 s.cells,aq aQ.ts 4 s.af.aK,aq au.ts 4 s.af.ak,aq ah.ts 2 s.aA,aq Order.ts 4 s.aa,aq aC.ts 4 s.aj,aq Kept.ts 4 s.kept]]) (λr_ g_=>(AE.ret,sp 64 [(2,AB (.lit false))],[])) (AE.exit 0) hR (λN4 sI=>dj.sp [0] rfl rfl rfl (.cons rfl (.ref (q:=0) rfl) (.cons rfl (.c .refl) (.cons rfl (.int ((aW Order.ts 4 s.aa).trans sI.symm)) (.cons rfl (.int rfl) .nil)))) (.cons rfl (.aN (.cons (.int rfl) (.cons (.c .refl) (.cons (.c .refl) (.cons (.c .refl) (.cons (.c .refl) (.cons (.c .refl) (.cons (.c .refl) (.cons (.c .refl) .nil))))))))) .nil)) go go go⟩
def Cw (s:State)(item:Int)(aE:Int):Option (Int):=
 (bh (λ(s1:Int)(_:Int)(x5:Order)=>
  (bh (λ(s9:Int)(_:Int)(L3:aU)=>
   if(ai .eql x5.status 3)=true then
    if(ai .eql L3.item item)=true then
     if(ai .eql L3.aE aE)=true then
      some (.inl (aH .add .i64 s9 L3.gF))
     else some (.inl s9)
    else some (.inl s9)
   else some (.inl s9)) x5.lines s1:Option ((Int)⊕(Empty))).bind λR20=>
  match R20 with
  | .inl s21=>
   some (.inl s21)
  | .inr r_=>r_.elim) s.aa 0:Option ((Int)⊕(Empty))).bind λVG=>
 match VG with
 | .inl FQ=>
  some FQ
 | .inr r_=>r_.elim
instance [Pg P](s:State)(item:Int)(aE:Int)(r:Int):bx P 31 (Cw s item aE=some r) [s.av,I6 item,I6 aE] (I6 r):=⟨λhR=>by
 have hP:=Pg.h (P:=P);unfold Cw at hR;refine e31 hP ?_;cbv;refine kC (ty hP) 48 (λN4 i3 s1=>[(1,I6 item),(2,I6 aE),(7,I6 s1),(13,aq Order.ts 4 s.aa),(14,I6 N4),(15,I6 i3)]) (λs1=>[]) (λr_ _=>r_.elim) (AE.exit 0) hR (λN4 sI=>dj.sp [] rfl rfl rfl (.cons rfl (.int rfl) (.cons rfl (.int rfl) (.cons rfl (.int rfl) (.cons rfl (.c .refl) (.cons rfl (.int ((aW Order.ts 4 s.aa).trans sI.symm)) (.cons rfl (.int rfl) .nil)))))) .nil) ?_ go go;intro N4 sI i3 s1 g2 x5 y6 B2 B3 B4 Df hR J B hJ hB;cbv;refine aM.t (decide_eq_true B3) ?_;cbv;refine bF.mk _ B2 (aY Order.ts _ _ _ Df) ?_;cbv;exact kC (ty hP) 48 (λXS XT s9=>[(1,I6 item),(2,I6 aE),(7,I6 s9),(9,.ref 0 0),(13,aq Order.ts 4 s.aa),(14,I6 N4),(15,I6 i3),(20,aq aU.ts 4 x5.lines),(21,I6 XS),(22,I6 XT)]) (λs9=>[.box [I6 x5.id,aq aU.ts 4 x5.lines,I6 x5.aP,I8 x5.status]]) (λr_ _=>r_.elim) (AE.exit 2) hR (λXS VH=>dj.sp [0] rfl rfl rfl (.cons rfl (.int rfl) (.cons rfl (.int rfl) (.cons rfl (.int rfl) (.cons rfl (.ref (q:=0) rfl) (.cons rfl (.c .refl) (.cons rfl (.int rfl) (.cons rfl (.int rfl) (.cons rfl (.c .refl) (.cons rfl (.int ((aW aU.ts 4 x5.lines).trans VH.symm)) (.cons rfl (.int rfl) .nil)))))))))) (.cons rfl (.aN (.cons (.int rfl) (.cons (.c .refl) (.cons (.int rfl) (.cons (.int rfl) .nil))))) .nil)) go go go⟩
end Go.Proofs.aaa
end
