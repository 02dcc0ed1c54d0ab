/- Texts that the law leans on, part 11. No conditions. -/
import Derived.Test.YtnpliafeboadcaaGreatK10
section
namespace Go.Proofs.aaa
open Go.bA Go.IntWalk
variable{P:Program}
set_option maxHeartbeats 4000000
set_option maxRecDepth 20000
def IL (b:aF)(order:Int):Option (aQ):=
 (bh (λ(_:Unit)(_:Int)(x5:aQ)=>
  if(ai .eql x5.order order)=true then
   some (.inr x5)
  else some (.inl ())) b.aK ():Option ((Unit)⊕(aQ))).bind λOR=>
 match OR with
 | .inl _=>
  some (⟨order,0,0,0⟩:aQ)
 | .inr OS=>
  some OS
instance [Pg P](b:aF)(order:Int)(r:aQ):bx P 30 (IL b order=some r) [b.av,I6 order] (r.av):=⟨λhR=>by
 have hP:=Pg.h (P:=P);unfold IL at hR;refine Yr hP ?_;cbv;exact kC (ty hP) 22 (λN4 i3 s1=>[(1,I6 order),(4,.ref 0 0),(8,aq aQ.ts 4 b.aK),(9,I6 N4),(10,I6 i3)]) (λs1=>[.box [AI .i64 (.lit 0),AI .i64 (.lit 0),AI .i64 (.lit 0),AI .i64 (.lit 0)]]) (λr_ g_=>(AE.ret,sp 22 [(4,.ref 0 0)],[.box [I6 r_.order,I6 r_.bC,I6 r_.aT,I6 r_.aX]])) (AE.exit 0) hR (λN4 sI=>aaP) go go go⟩
def FP (l:List Cell)(item:Int)(aE:Int):Option (Cell):=
 (bh (λ(_:Unit)(_:Int)(x5:Cell)=>
  if(ai .eql x5.item item)=true then
   if(ai .eql x5.aE aE)=true then
    some (.inr x5)
   else some (.inl ())
  else some (.inl ())) l ():Option ((Unit)⊕(Cell))).bind λYs=>
 match Ys with
 | .inl _=>
  some (⟨item,aE,0,0,0,0⟩:Cell)
 | .inr Yt=>
  some Yt
instance [Pg P](l:List Cell)(item:Int)(aE:Int)(r:Cell):bx P 32 (FP l item aE=some r) [aq Cell.ts 6 l,I6 item,I6 aE] (r.av):=⟨λhR=>by
 have hP:=Pg.h (P:=P);unfold FP at hR;refine Yu hP ?_;cbv;exact kC (ty hP) 30 (λN4 i3 s1=>[(1,I6 item),(2,I6 aE),(6,.ref 0 0),(9,aq Cell.ts 6 l),(10,I6 N4),(11,I6 i3)]) (λs1=>[.box [AI .i64 (.lit 0),AI .i64 (.lit 0),AI .i64 (.lit 0),AI .i64 (.lit 0),AI .i64 (.lit 0),AI .i64 (.lit 0)]]) (λr_ g_=>(AE.ret,sp 30 [(6,.ref 0 0)],[.box [I6 r_.item,I6 r_.aE,I6 r_.free,I6 r_.held,I6 r_.out,I6 r_.all]])) (AE.exit 0) hR (λN4 sI=>aaP) go go go⟩
def Gf (c:Cell):Option (Bool):=
 if(ai .lss c.free 0)=true then
  some false
 else if(ai .gtr c.free 1125899906842624)=true then
  some false
 else if(ai .lss c.held 0)=true then
  some false
 else if(ai .gtr c.held 1125899906842624)=true then
  some false
 else if(ai .lss c.out 0)=true then
  some false
 else if(ai .gtr c.out 1125899906842624)=true then
  some false
 else if(ai .lss c.all 0)=true then
  some false
 else if(ai .gtr c.all 1125899906842624)=true then
  some false
 else if(ai .geq c.item 1)=true then
  if(ai .leq c.item 1024)=true then
   if(ai .geq c.aE 1)=true then
    if(ai .leq c.aE 1024)=true then
     some (ai .eql (aH .add .i64 (aH .add .i64 c.free c.held) c.out) c.all)
    else some false
   else some false
  else some false
 else some false
instance [Pg P](c:Cell)(r:Bool):bx P 116 (Gf c=some r) [c.av] (B1 r):=⟨λhR=>by
 have hP:=Pg.h (P:=P);unfold Gf at hR;refine SK hP ?_;cbv;refine cu.rounds (ty hP) 5 ?_;cbv;refine aM.i hR ?_ ?_<;>intro c1 hR<;>cbv
 ·cases hR;exact al
 refine aM.i hR ?_ ?_<;>intro c2 hR<;>cbv
 ·cases hR;exact al
 refine aM.i hR ?_ ?_<;>intro c3 hR<;>cbv
 ·cases hR;exact al
 refine aM.i hR ?_ ?_<;>intro c4 hR<;>cbv
 ·cases hR;exact al
 refine aM.i hR ?_ ?_<;>intro c5 hR<;>cbv
 ·cases hR;exact al
 refine aM.i hR ?_ ?_<;>intro c6 hR<;>cbv
 ·cases hR;exact al
 refine aM.i hR ?_ ?_<;>intro c7 hR<;>cbv
 ·cases hR;exact al
 refine aM.i hR ?_ ?_<;>intro c8 hR<;>cbv
 ·cases hR;exact al
 refine LZ hP ?_;cbv;refine aM.i hR ?_ ?_<;>intro c9 hR<;>cbv
 ·refine aM.i hR ?_ ?_<;>intro De hR<;>cbv
  ·refine LZ hP ?_;cbv;exact go
  cases hR;exact al
 cases hR;exact al⟩
def wu (order:Int):Option (Bool):=
 if(ai .geq order 1)=true then
  some (ai .leq order 1024)
 else some false
instance [Pg P](order:Int)(r:Bool):bx P 118 (wu order=some r) [I6 order] (B1 r):=⟨λhR=>by
 have hP:=Pg.h (P:=P);unfold wu at hR;refine SL hP ?_;cbv;exact go⟩
def uz (n:Int):Option (Bool):=
 if(ai .geq n 1)=true then
  some (ai .leq n 1152921504606846976)
 else some false
instance [Pg P](n:Int)(r:Bool):bx P 119 (uz n=some r) [I6 n] (B1 r):=⟨λhR=>by
 have hP:=Pg.h (P:=P);unfold uz at hR;refine SM hP ?_;cbv;exact go⟩
def Eh (a:Int):Option (Bool):=
 if(ai .geq a 1)=true then
  some (ai .lss a 4)
 else some false
instance [Pg P](a:Int)(r:Bool):bx P 120 (Eh a=some r) [I8 a] (B1 r):=⟨λhR=>by
 have hP:=Pg.h (P:=P);unfold Eh at hR;refine SN hP ?_;cbv;exact go⟩
def abK (order:Int):Option (Bool):=
 if(ai .geq order 1)=true then
  some (ai .leq order 1024)
 else some false
instance [Pg P](order:Int)(r:Bool):bx P 124 (abK order=some r) [I6 order] (B1 r):=⟨λhR=>by
 have hP:=Pg.h (P:=P);unfold abK at hR;refine aeE hP ?_;cbv;exact go⟩
def ach (p:aQ):Option (Bool):=
 if(ai .eql p.bC 0)=true then
  if(ai .eql p.aT 0)=true then
   some (ai .eql p.aX 0)
  else some false
 else some false
instance [Pg P](p:aQ)(r:Bool):bx P 125 (ach p=some r) [p.av] (B1 r):=⟨λhR=>by
 have hP:=Pg.h (P:=P);unfold ach at hR;refine aeF hP ?_;cbv;exact go⟩
def abL (a:Int):Option (Bool):=
 if(ai .geq a 1)=true then
  some (ai .leq a 3)
 else some false
instance [Pg P](a:Int)(r:Bool):bx P 127 (abL a=some r) [I8 a] (B1 r):=⟨λhR=>by
 have hP:=Pg.h (P:=P);unfold abL at hR;refine aeG hP ?_;cbv;exact go⟩
def Ei (n:Int):Option (Bool):=
 if(ai .geq n 1)=true then
  some (ai .leq n 1024)
 else some false
instance [Pg P](n:Int)(r:Bool):bx P 164 (Ei n=some r) [I6 n] (B1 r):=⟨λhR=>by
 have hP:=Pg.h (P:=P);unfold Ei at hR;refine LZ hP ?_;cbv;exact go⟩
def B0 (n:Int)(fin:Int):Option (Bool):=
 if(ai .geq n 1)=true then
  some (ai .leq n fin)
 else some false
instance [Pg P](n:Int)(fin:Int)(r:Bool):bx P 130 (B0 n fin=some r) [I6 n,I6 fin] (B1 r):=⟨λhR=>by
 have hP:=Pg.h (P:=P);unfold B0 at hR;refine SO hP ?_;cbv;exact go⟩
def Ej (x:Int):Option (Bool):=
 some (ai .neq x x)
instance [Pg P](x:Int)(r:Bool):bx P 177 (Ej x=some r) [I6 x] (B1 r):=⟨λhR=>by
 have hP:=Pg.h (P:=P);unfold Ej at hR;refine L0 hP ?_;cbv;cases hR;exact al⟩
def Ek (x:Int)(y:Int):Option (Int):=
 (Ej x).bind λp1=>
 (Ej y).bind λp2=>
 if p1=true then
  if p2=true then
   some 0
  else some (-1)
 else if p2=true then
  some 1
 else if(ai .lss x y)=true then
  some (-1)
 else if(ai .gtr x y)=true then
  some 1
 else some 0
instance [Pg P](x:Int)(y:Int)(r:Int):bx P 149 (Ek x y=some r) [I6 x,I6 y] (I6 r):=⟨λhR=>by
 have hP:=Pg.h (P:=P);unfold Ek at hR;refine OT hP ?_;cbv;exact go⟩
def Gg (vals:List Int):Option (Int):=
 (bh (λ(_:Unit)(_:Int)(x5:Int)=>
  if(ai .neq x5 0)=true then
   some (.inr x5)
  else some (.inl ())) vals ():Option ((Unit)⊕(Int))).bind λOR=>
 match OR with
 | .inl _=>
  some 0
 | .inr OS=>
  some OS
instance [Pg P](vals:List Int)(r:Int):bx P 165 (Gg vals=some r) [aq (v7 .i64) 1 vals] (I6 r):=⟨λhR=>by
 have hP:=Pg.h (P:=P);unfold Gg at hR;refine SP hP ?_;cbv;refine kC (ty hP) 18 (λN4 i3 s1=>[(3,AI .i64 (.lit 0)),(6,aq (v7 .i64) 1 vals),(7,I6 N4),(8,I6 i3)]) (λs1=>[]) (λr_ g_=>(AE.ret,sp 18 [(2,I6 r_)],[])) (AE.exit 0) hR (λN4 sI=>aaP) ?_ go go;intro N4 sI i3 s1 g2 x5 y6 B2 B3 B4 Df hR J B hJ hB;cbv;refine aM.t (decide_eq_true B3) ?_;cbv;refine bF.mk _ B2 (aY (v7 .i64) _ _ _ Df) ?_;cbv;exact go⟩
def z7 (a:Cell)(b:Cell):Option (Int):=
 (Ek a.item b.item).bind λp1=>
 (Ek a.aE b.aE).bind λp2=>
 (Gg ([p1,p2]:List Int)).bind λp3=>
 some p3
instance [Pg P](a:Cell)(b:Cell)(r:Int):bx P 117 (z7 a b=some r) [a.av,b.av] (I6 r):=⟨λhR=>by
 have hP:=Pg.h (P:=P);unfold z7 at hR;refine SQ hP ?_;cbv;refine aR.cS (ty hP) (mo hP) rfl ?_;cbv;(iterate 8 (refine aS.z ?_;cbv));obtain⟨p1,gM,hR⟩:=az hR;refine aJ gM ?_;cbv;refine bZ.mk (aZ.cons rfl (aZ.cons rfl (aZ.cons rfl (aZ.cons rfl aZ.nil)))) ?_;cbv;obtain⟨p2,BC,hR⟩:=az hR;refine aJ BC ?_;cbv;obtain⟨p3,oV,hR⟩:=az hR;refine(@rt P 165 _ _ _ _ oV).freeze [2] (.cons (.B5 [[.int .i64 (.th λ_=>p1)],[.int .i64 (.th λ_=>p2)]] _ rfl rfl rfl (Nat.le_refl _) (.jP rfl (.cons (.cons (.int rfl) .nil) (.cons (.cons (.int rfl) .nil) .nil)))) .nil) rfl ?_;cbv;exact go⟩
def Gh (x:List Cell)(target:Cell):Option (Int×Bool):=
 (iB (λ(s1:Int×Int)=>
  if(ai .lss s1.1 s1.2)=true then
   (fH x (IntKind.i64.wrap (aH .shr .u64 (IntKind.u64.wrap (aH .add .i64 s1.1 s1.2)) 1))).bind λeu=>
   (z7 eu target).bind λgO=>
   if(ai .lss gO 0)=true then
    some (.inl ((aH .add .i64 (IntKind.i64.wrap (aH .shr .u64 (IntKind.u64.wrap (aH .add .i64 s1.1 s1.2)) 1)) 1),s1.2))
   else some (.inl (s1.1,(IntKind.i64.wrap (aH .shr .u64 (IntKind.u64.wrap (aH .add .i64 s1.1 s1.2)) 1))))
  else some (.inr s1.1)) 100 (0,((x.map Cell.ts).length:Int)):Option (Int)).bind λIM=>
 if(ai .lss IM ((x.map Cell.ts).length:Int))=true then
  (fH x IM).bind λzG=>
  (z7 zG target).bind λeI=>
  some (IM,(ai .eql eI 0))
 else some (IM,false)
instance [Pg P](x:List Cell)(target:Cell)(r:Int×Bool):bx P 198 (Gh x target=some r) [aq Cell.ts 6 x,target.av,.fn (.func 117) [] []] (.cI [I6 r.1,B1 r.2]):=⟨λhR=>by
 have hP:=Pg.h (P:=P);unfold Gh at hR;refine SR hP ?_;cbv;refine lq (ty hP) (γ:=(λs1=>Unit)) (γ':=(λ_=>Unit)) 49 (λs1 g2=>[(0,aq Cell.ts 6 x),(2,.fn (.func 117) [] []),(4,.ref 0 0),(8,AI .i64 (.th λ_=>((x.map Cell.ts).length:Int))),(9,I6 s1.1),(10,I6 s1.2)]) (λs1 g2=>[.box [I6 target.item,I6 target.aE,I6 target.free,I6 target.held,I6 target.out,I6 target.all]]) (λr_ g_=>(AE.exit 0,sp 49 [(0,aq Cell.ts 6 x),(2,.fn (.func 117) [] []),(4,.ref 0 0),(8,AI .i64 (.th λ_=>((x.map Cell.ts).length:Int))),(9,I6 r_)],[.box [I6 target.item,I6 target.aE,I6 target.free,I6 target.held,I6 target.out,I6 target.all]])) () hR (Gi [0]) ?_ ?_
 ·intro s1 g2 y6 hR J B hJ hB;cbv;refine aM.i hR ?_ ?_<;>intro c9 hR<;>cbv
  ·refine aR.cS (ty hP) (mo hP) rfl ?_;cbv;(iterate 3 (refine aS.z ?_;cbv));obtain⟨eu,lW,hR⟩:=az hR;apply aS.is
   ·intro J hJ;cbv;refine bF.mk _ (iC lW) (aY Cell.ts _ _ _ (bn lW)) ?_;cbv;exact hJ
   exact go
  exact go
 intro IM g15 hR;cbv;refine aR.cS (ty hP) (mo hP) rfl ?_;cbv;(iterate 5 (refine aS.z ?_;cbv));refine aM.i hR ?_ ?_<;>intro Rt hR<;>cbv
 ·(iterate 3 (refine aS.z ?_;cbv));obtain⟨zG,L1,hR⟩:=az hR;apply aS.is
  ·intro J hJ;cbv;refine bF.mk _ (iC L1) (aY Cell.ts _ _ _ (bn L1)) ?_;cbv;exact hJ
  exact go
 exact go⟩
def Ru (a:ByteArray)(b:ByteArray):Option (Int):=
 (pW a b).bind λp1=>
 some p1
instance [Pg P](a:ByteArray)(b:ByteArray)(r:Int):bx P 87 (Ru a b=some r) [AS (.th λ_=>a),AS (.th λ_=>b)] (I6 r):=⟨λhR=>by
 have hP:=Pg.h (P:=P);unfold Ru at hR;refine Yv hP ?_;cbv;exact go⟩
def Rv (a:ByteArray)(b:ByteArray):Option (Int):=
 (Ru a b).bind λp1=>
 some p1
instance [Pg P](a:ByteArray)(b:ByteArray)(r:Int):bx P 42 (Rv a b=some r) [AS (.th λ_=>a),AS (.th λ_=>b)] (I6 r):=⟨λhR=>by
 have hP:=Pg.h (P:=P);unfold Rv at hR;refine Yw hP ?_;cbv;exact go⟩
def L2 (k:Kept)(mark:ByteArray):Option (Int):=
 (Rv k.mark mark).bind λp1=>
 some p1
instance [Pg P](k:Kept)(mark:ByteArray)(r:Int):bx P 41 (L2 k mark=some r) [k.av,AS (.th λ_=>mark)] (I6 r):=⟨λhR=>by
 have hP:=Pg.h (P:=P);unfold L2 at hR;refine Yx hP ?_;cbv;exact go⟩
def Gj (x:List Kept)(target:ByteArray):Option (Int×Bool):=
 (iB (λ(s1:Int×Int)=>
  if(ai .lss s1.1 s1.2)=true then
   (fH x (IntKind.i64.wrap (aH .shr .u64 (IntKind.u64.wrap (aH .add .i64 s1.1 s1.2)) 1))).bind λeu=>
   (L2 eu target).bind λgO=>
   if(ai .lss gO 0)=true then
    some (.inl ((aH .add .i64 (IntKind.i64.wrap (aH .shr .u64 (IntKind.u64.wrap (aH .add .i64 s1.1 s1.2)) 1)) 1),s1.2))
   else some (.inl (s1.1,(IntKind.i64.wrap (aH .shr .u64 (IntKind.u64.wrap (aH .add .i64 s1.1 s1.2)) 1))))
  else some (.inr s1.1)) 100 (0,((x.map Kept.ts).length:Int)):Option (Int)).bind λIM=>
 if(ai .lss IM ((x.map Kept.ts).length:Int))=true then
  (fH x IM).bind λzG=>
  (L2 zG target).bind λeI=>
  some (IM,(ai .eql eI 0))
 else some (IM,false)
instance [Pg P](x:List Kept)(target:ByteArray)(r:Int×Bool):bx P 40 (Gj x target=some r) [aq Kept.ts 4 x,AS (.th λ_=>target),.fn (.func 41) [] []] (.cI [I6 r.1,B1 r.2]):=⟨λhR=>by
 have hP:=Pg.h (P:=P);unfold Gj at hR;refine Yy hP ?_;cbv;exact lq (ty hP) (γ:=(λs1=>Unit)) (γ':=(λ_=>Unit)) 49 (λs1 g2=>[(0,aq Kept.ts 4 x),(1,AS (.th λ_=>target)),(2,.fn (.func 41) [] []),(8,AI .i64 (.th λ_=>((x.map Kept.ts).length:Int))),(9,I6 s1.1),(10,I6 s1.2)]) (λs1 g2=>[]) (λr_ g_=>(AE.exit 0,sp 49 [(0,aq Kept.ts 4 x),(1,AS (.th λ_=>target)),(2,.fn (.func 41) [] []),(8,AI .i64 (.th λ_=>((x.map Kept.ts).length:Int))),(9,I6 r_)],[])) () hR (Gi []) go go⟩
end Go.Proofs.aaa
end
