/- Texts that the law leans on, part 15. No conditions. -/
import Derived.Test.YtnpliafeboadcaaGreatK13
section
namespace Go.Proofs.aaa
open Go.bA Go.IntWalk
variable{P:Program}
set_option maxHeartbeats 4000000
set_option maxRecDepth 20000
def Ev (l:List aQ)(order:Int):Option (Int×Bool):=
 (Gu aQ.order l order).bind λp1=>
 some (p1.1,p1.2)
instance [Pg P](l:List aQ)(order:Int)(r:Int×Bool):bx P 216 (Ev l order=some r) [aq aQ.ts 4 l,I6 order] (.cI [I6 r.1,B1 r.2]):=⟨λhR=>by
 have hP:=Pg.h (P:=P);unfold Ev at hR;refine Tn hP ?_;cbv;exact go⟩
def kQ (b:cV)(is:Bool)(why:Int):Option (cV):=
 if(ai .eql b.why 0)=true then
  if is=true then
   some (⟨b.af,why⟩:cV)
  else some b
 else some b
theorem dK (hP:P=Tryz.prog)(b:cV)(is:Bool)(why:Int)(r:cV)(hR:kQ b is why=some r)(cW:Nat)(_:b.af.aK.length<=cW)(dB:Nat)(_:b.af.ak.length<=dB):aV P 202 [.ref 0 0,AB (.th λ_=>is),I6 why] [.box [.sl 1 4 (.lit 0) (.th λ_=>b.af.aK.length) (.th λ_=>cW),.sl 2 4 (.lit 0) (.th λ_=>b.af.ak.length) (.th λ_=>dB),I6 b.why],aL aQ.ts 4 b.af.aK cW,aL au.ts 4 b.af.ak dB] (λy_ o_=>y_=dP/\o_=[.box [.sl 1 4 (.lit 0) (.th λ_=>b.af.aK.length) (.th λ_=>cW),.sl 2 4 (.lit 0) (.th λ_=>b.af.ak.length) (.th λ_=>dB),I6 r.why],aL aQ.ts 4 b.af.aK cW,aL au.ts 4 b.af.ak dB]):=by
 have:=Pg.mk hP;unfold kQ at hR;refine aV.can ?_;refine To hP ?_;cbv;refine aM.i hR ?_ ?_<;>intro c1 hR<;>cbv
 ·refine aM.i hR ?_ ?_<;>intro c2 hR<;>cbv<;>(cases hR;exact⟨_,_,⟨[0,1,2],rfl,rfl,al,al⟩,rfl,rfl⟩)
 cases hR;exact⟨_,_,⟨[0,1,2],rfl,rfl,al,al⟩,rfl,rfl⟩
def oW (b:cV)(order:Int):Option (aQ×cV):=
 (Ev b.af.aK order).bind λp1=>
 if p1.2=true then
  if(dJ b.af.aK.length p1.1)=true then
   (fH b.af.aK p1.1).bind λx4=>
   some (x4,b)
  else none
 else some ((⟨order,0,0,0⟩:aQ),b)
theorem fJ (hP:P=Tryz.prog)(b:cV)(order:Int)(r:aQ×cV)(hR:oW b order=some r)(cW:Nat)(_:b.af.aK.length<=cW)(dB:Nat)(_:b.af.ak.length<=dB):aV P 203 [.ref 0 0,I6 order] [.box [.sl 1 4 (.lit 0) (.th λ_=>b.af.aK.length) (.th λ_=>cW),.sl 2 4 (.lit 0) (.th λ_=>b.af.ak.length) (.th λ_=>dB),I6 b.why],aL aQ.ts 4 b.af.aK cW,aL au.ts 4 b.af.ak dB] (λy_ o_=>y_=r.1.av/\o_=[.box [.sl 1 4 (.lit 0) (.th λ_=>b.af.aK.length) (.th λ_=>cW),.sl 2 4 (.lit 0) (.th λ_=>b.af.ak.length) (.th λ_=>dB),I6 r.2.why],aL aQ.ts 4 b.af.aK cW,aL au.ts 4 b.af.ak dB]):=by
 have:=Pg.mk hP;unfold oW at hR;refine aV.can ?_;refine Tp hP ?_;cbv;obtain⟨p1,gM,hR⟩:=az hR;refine jQ gM ?_;cbv;refine aM.i hR ?_ ?_<;>intro c2 hR<;>cbv
 ·obtain⟨m3,hR⟩:=bl hR;refine bg.mk m3 ?_;cbv;obtain⟨x4,Y1,hR⟩:=az hR;refine bF.mk _ (ec _) (cj rfl (bn Y1) (eT _)) ?_;cbv;cases hR;exact⟨_,_,⟨[0,1,2],rfl,rfl,al,al⟩,rfl,rfl⟩
 cases hR;exact⟨_,_,⟨[0,1,2],rfl,rfl,al,al⟩,rfl,rfl⟩
def oX (b:cV)(x:au):Option (cV):=
 (kQ b (ai .geq (Int.ofNat b.af.ak.length) 16384) 3).bind λp1=>
 if(ai .neq p1.why 0)=true then
  some (⟨b.af,p1.why⟩:cV)
 else(oW (⟨b.af,p1.why⟩:cV) x.order).bind λp3=>
 (B6 p3.1 x).bind λp4=>
 (kQ (⟨b.af,p3.2.why⟩:cV) (!p4.1) 5).bind λp5=>
 (Ev b.af.aK x.order).bind λmT=>
 if mT.2=true then
  if(decide (0<=mT.1/\mT.1<(b.af.aK.length:Int)/\(aH .add .i64 mT.1 1)=mT.1+1/\b.af.aK.length<=1000000))=true then
   if(!((p4.2.order==x.order)&&((p4.2.bC==0)&&((p4.2.aT==0)&&((p4.2.aX==0)&&true)))))=true then
    if(decide (0<=mT.1/\mT.1<=((b.af.aK.eraseIdx (mT.1).toNat).length:Int)/\(b.af.aK.eraseIdx (mT.1).toNat).length<=1000000))=true then
     if(decide ((b.af.ak++[x]).length*24<=140737488355328))=true then
      some (⟨(⟨(bt (b.af.aK.eraseIdx (mT.1).toNat) (mT.1).toNat p4.2),(b.af.ak++[x])⟩:aF),p5.why⟩:cV)
     else none
    else none
   else if(decide ((b.af.ak++[x]).length*24<=140737488355328))=true then
    some (⟨(⟨(b.af.aK.eraseIdx (mT.1).toNat),(b.af.ak++[x])⟩:aF),p5.why⟩:cV)
   else none
  else none
 else if(!((p4.2.order==x.order)&&((p4.2.bC==0)&&((p4.2.aT==0)&&((p4.2.aX==0)&&true)))))=true then
  if(decide (0<=mT.1/\mT.1<=(b.af.aK.length:Int)/\b.af.aK.length<=1000000))=true then
   if(decide ((b.af.ak++[x]).length*24<=140737488355328))=true then
    some (⟨(⟨(bt b.af.aK (mT.1).toNat p4.2),(b.af.ak++[x])⟩:aF),p5.why⟩:cV)
   else none
  else none
 else if(decide ((b.af.ak++[x]).length*24<=140737488355328))=true then
  some (⟨(⟨b.af.aK,(b.af.ak++[x])⟩:aF),p5.why⟩:cV)
 else none
theorem gQ (hP:P=Tryz.prog)(b:cV)(x:au)(r:cV)(hR:oX b x=some r)(cW:Nat)(iJ:b.af.aK.length<=cW)(dB:Nat)(lg:b.af.ak.length<=dB):aV P 204 [.ref 0 0,x.av] [.box [.sl 1 4 (.lit 0) (.th λ_=>b.af.aK.length) (.th λ_=>cW),.sl 2 4 (.lit 0) (.th λ_=>b.af.ak.length) (.th λ_=>dB),I6 b.why],aL aQ.ts 4 b.af.aK cW,aL au.ts 4 b.af.ak dB] (λy_ o_=>∃Gv Gw:Nat,r.af.aK.length<=Gv/\r.af.ak.length<=Gw/\y_=dP/\o_=[.box [.sl 3 4 (.lit 0) (.th λ_=>r.af.aK.length) (.th λ_=>Gv),.sl 4 4 (.lit 0) (.th λ_=>r.af.ak.length) (.th λ_=>Gw),I6 r.why],.dead,.dead,aL aQ.ts 4 r.af.aK Gv,aL au.ts 4 r.af.ak Gw]):=by
 have:=Pg.mk hP;unfold oX at hR;refine aV.can ?_;refine Tq hP ?_;cbv;obtain⟨p1,gM,hR⟩:=az hR;refine(dK hP _ _ _ _ gM cW iJ dB lg).own [0,1,2] [] (by rfl) (by rfl) al al (λx_ o_ bI=> ?_);obtain⟨rfl,rfl⟩:=bI;refine⟨.box (.arr (an _ _) (.arr (an _ _) .nil)), ?_⟩;cbv;refine aM.i hR ?_ ?_<;>intro c2 hR<;>cbv
 ·cases hR;exact⟨_,_,⟨[0,1001,1002,1,2],rfl,rfl,al,al⟩,cW,dB,iJ,lg,rfl,rfl⟩
 obtain⟨p3,oV,hR⟩:=az hR;refine(fJ hP _ _ _ oV cW iJ dB lg).own [0,1,2] [] (by rfl) (by rfl) al al (λx_ o_ bI=> ?_);obtain⟨rfl,rfl⟩:=bI;refine⟨.box (.arr (an _ _) (.arr (an _ _) .nil)), ?_⟩;cbv;obtain⟨p4,Ew,hR⟩:=az hR;refine(uA hP _ _ _ Ew).own [4] [] (by rfl) (by rfl) al al (λx_ o_ bI=> ?_);obtain⟨rfl,rfl⟩:=bI;refine⟨.box .nil, ?_⟩;cbv;obtain⟨p5,Ma,hR⟩:=az hR;refine(dK hP _ _ _ _ Ma cW iJ dB lg).own [0,1,2] [] (by rfl) (by rfl) al al (λx_ o_ bI=> ?_);obtain⟨rfl,rfl⟩:=bI;refine⟨.box (.arr (an _ _) (.arr (an _ _) .nil)), ?_⟩;cbv;refine aR.cS (ty hP) (mo hP) rfl ?_;cbv;(iterate 7 (refine aS.z ?_;cbv));obtain⟨mT,Cb,hR⟩:=az hR;refine jQ Cb ?_;cbv;(iterate 5 (refine aS.z ?_;cbv));refine aM.i hR ?_ ?_<;>intro Et hR<;>cbv
 ·obtain⟨KX,hR⟩:=bl hR;refine aV.i6 0 rfl (λ_ (Y2:cW<=9223372036854775807)=> ?_);refine(Cc hP b.af.aK cW mT.1 (aH .add .i64 mT.1 1) (b.af.aK.length:Int) iJ rfl (of_decide_eq_true KX).1 (of_decide_eq_true KX).2.1 (of_decide_eq_true KX).2.2.1 (of_decide_eq_true KX).2.2.2 Y2).own [1] [] (by rfl) (by rfl) al al (λx_ o_ bI=> ?_);obtain⟨rfl,rfl⟩:=bI;refine⟨.arr (an _ _) .nil, ?_⟩;cbv;refine aM.i hR ?_ ?_<;>intro WX hR<;>cbv
  ·refine aR.cS (ty hP) (mo hP) rfl ?_;cbv;(iterate 8 (refine aS.z ?_;cbv));refine bZ.mk (aZ.cons rfl (aZ.cons rfl (aZ.cons rfl (aZ.cons rfl aZ.nil)))) ?_;cbv;obtain⟨Tr,hR⟩:=bl hR;refine aV.i6 0 rfl (λ_ (Y3:cW<=9223372036854775807)=> ?_);refine(uB hP (b.af.aK.eraseIdx (mT.1).toNat) cW mT.1 ((b.af.aK.eraseIdx (mT.1).toNat).length:Int) p4.2 (lY iJ) rfl (of_decide_eq_true Tr).1 (of_decide_eq_true Tr).2.1 (of_decide_eq_true Tr).2.2 Y3).own [1,5] [] (by rfl) (by rfl) (.cons (.sl (q:=0) rfl rfl (qY (of_decide_eq_true KX).1 (of_decide_eq_true KX).2.1) rfl) (.cons (.int rfl) (.cons (.sl (q:=1) rfl rfl rfl rfl) .nil))) al (λx_ o_ bI=> ?_);obtain⟨Y4,Ts,rfl,rfl⟩:=bI;refine⟨.dead (.dead (.arr (an _ _) .nil)), ?_⟩;cbv
   (iterate 3 (refine aS.z ?_;cbv));refine aR.cS (ty hP) (mo hP) rfl ?_;cbv;(iterate 7 (refine aS.z ?_;cbv));refine bZ.mk (aZ.cons rfl (aZ.cons rfl (aZ.cons rfl (aZ.cons rfl aZ.nil)))) ?_;cbv;obtain⟨Y5,hR⟩:=bl hR
   refine IP (ty hP) (e:=139) b.af.ak x (of_decide_eq_true Y5) λY6 Tt=> ?_;cbv
   (iterate 3 (refine aS.z ?_;cbv));cases hR;exact⟨_,_,⟨[0,1001,1002,6,8],rfl,rfl,al,al⟩,Y4,Y6,(lZ Ts),Tt,rfl,rfl⟩
  refine aR.cS (ty hP) (mo hP) rfl ?_;cbv;(iterate 7 (refine aS.z ?_;cbv));refine bZ.mk (aZ.cons rfl (aZ.cons rfl (aZ.cons rfl (aZ.cons rfl aZ.nil)))) ?_;cbv;obtain⟨Y7,hR⟩:=bl hR;refine IP (ty hP) (e:=139) b.af.ak x (of_decide_eq_true Y7) λTu Tv=> ?_;cbv
  (iterate 3 (refine aS.z ?_;cbv))
  cases hR;exact⟨_,[.box [.sl 3 4 (.lit 0) (.th λ_=>(⟨(⟨(b.af.aK.eraseIdx (mT.1).toNat),(b.af.ak++[x])⟩:aF),p5.why⟩:cV).af.aK.length) (.th λ_=>cW),.sl 4 4 (.lit 0) (.th λ_=>(⟨(⟨(b.af.aK.eraseIdx (mT.1).toNat),(b.af.ak++[x])⟩:aF),p5.why⟩:cV).af.ak.length) (.th λ_=>Tu),AI .i64 (.th λ_=>(⟨(⟨(b.af.aK.eraseIdx (mT.1).toNat),(b.af.ak++[x])⟩:aF),p5.why⟩:cV).why)],.dead,.dead,aL aQ.ts 4 (⟨(⟨(b.af.aK.eraseIdx (mT.1).toNat),(b.af.ak++[x])⟩:aF),p5.why⟩:cV).af.aK cW,aL au.ts 4 (⟨(⟨(b.af.aK.eraseIdx (mT.1).toNat),(b.af.ak++[x])⟩:aF),p5.why⟩:cV).af.ak Tu],⟨[0,1001,1002,1,6],rfl,rfl,al,(.cons rfl (.aN (.cons (.sl (q:=3) rfl rfl (qY (of_decide_eq_true KX).1 (of_decide_eq_true KX).2.1) rfl) (.cons (.sl (q:=4) rfl rfl rfl rfl) (.cons (.int rfl) .nil)))) (.kill (y:=.dead) rfl trivial (.kill (y:=.dead) rfl trivial (.cons rfl (.aD rfl rfl) (.cons rfl (.aD rfl rfl) .nil)))))⟩,cW,Tu,(lY iJ),Tv,rfl,rfl⟩
 refine aM.i hR ?_ ?_<;>intro YH hR<;>cbv
 ·refine aR.cS (ty hP) (mo hP) rfl ?_;cbv;(iterate 8 (refine aS.z ?_;cbv));refine bZ.mk (aZ.cons rfl (aZ.cons rfl (aZ.cons rfl (aZ.cons rfl aZ.nil)))) ?_;cbv;obtain⟨Tw,hR⟩:=bl hR;refine aV.i6 0 rfl (λ_ (q41:cW<=9223372036854775807)=> ?_);refine(uB hP b.af.aK cW mT.1 (b.af.aK.length:Int) p4.2 iJ rfl (of_decide_eq_true Tw).1 (of_decide_eq_true Tw).2.1 (of_decide_eq_true Tw).2.2 q41).own [1,5] [] (by rfl) (by rfl) al al (λx_ o_ bI=> ?_);obtain⟨O2,Mb,rfl,rfl⟩:=bI;refine⟨.dead (.dead (.arr (an _ _) .nil)), ?_⟩;cbv
  (iterate 3 (refine aS.z ?_;cbv));refine aR.cS (ty hP) (mo hP) rfl ?_;cbv;(iterate 7 (refine aS.z ?_;cbv));refine bZ.mk (aZ.cons rfl (aZ.cons rfl (aZ.cons rfl (aZ.cons rfl aZ.nil)))) ?_;cbv;obtain⟨Y8,hR⟩:=bl hR
  refine IP (ty hP) (e:=139) b.af.ak x (of_decide_eq_true Y8) λY9 Tx=> ?_;cbv
  (iterate 3 (refine aS.z ?_;cbv));cases hR;exact⟨_,_,⟨[0,1001,1002,6,8],rfl,rfl,al,al⟩,O2,Y9,(lZ Mb),Tx,rfl,rfl⟩
 refine aR.cS (ty hP) (mo hP) rfl ?_;cbv;(iterate 7 (refine aS.z ?_;cbv));refine bZ.mk (aZ.cons rfl (aZ.cons rfl (aZ.cons rfl (aZ.cons rfl aZ.nil)))) ?_;cbv;obtain⟨Y_,hR⟩:=bl hR;refine IP (ty hP) (e:=139) b.af.ak x (of_decide_eq_true Y_) λZa Ty=> ?_;cbv
 (iterate 3 (refine aS.z ?_;cbv));cases hR;exact⟨_,_,⟨[0,1001,1002,1,6],rfl,rfl,al,al⟩,cW,Za,iJ,Ty,rfl,rfl⟩
end Go.Proofs.aaa
end
