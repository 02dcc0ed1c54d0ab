/- Texts that the law leans on, part 14. No conditions. -/
import Derived.Test.YtnpliafeboadcaaGreatK13
section
namespace Go.Proofs.aaa
open Go.bA Go.IntWalk
variable{P:Program}
set_option maxHeartbeats 4000000
set_option maxRecDepth 20000
def Jc (b:aF):Option (Int):=
 if(ai .gtr ((b.aK.map aQ.ts).length:Int) 1024)=true then
  some 9
 else if(ai .gtr ((b.ak.map au.ts).length:Int) 16384)=true then
  some 9
 else(bh (λ(s3:(List (Int×aQ)))(_:Int)(x7:au)=>
  (wu x7.order).bind λgO=>
  if(!gO)=true then
   some (.inr ())
  else(uz x7.ax).bind λz9=>
  if(!z9)=true then
   some (.inr ())
  else(Eh x7.sJ).bind λkD=>
  if(!kD)=true then
   some (.inr ())
  else(Eh x7.dst).bind λxl=>
  if(!xl)=true then
   some (.inr ())
  else if(ai .eql x7.sJ x7.dst)=true then
   some (.inr ())
  else ou (ck s3 x7.order) (λRC=>
   (B6 (⟨x7.order,RC.bC,RC.aT,RC.aX⟩:aQ) x7).bind λv9=>
   if(!v9.1)=true then
    some (.inr ())
   else some (.inl (iI s3 x7.order v9.2))) (
   (B6 (⟨x7.order,0,0,0⟩:aQ) x7).bind λGn=>
   if(!Gn.1)=true then
    some (.inr ())
   else some (.inl (iI s3 x7.order Gn.2)))) b.ak []:Option (((List (Int×aQ)))⊕(Unit))).bind λTf=>
 match Tf with
 | .inl Tg=>
  (bh (λ(BD:(List (Int×aQ)))(OW:Int)(kZ:aQ)=>
   (wu kZ.order).bind λN3=>
   if(!N3)=true then
    some (.inr ())
   else if(!(!((kZ.order==kZ.order)&&((kZ.bC==0)&&((kZ.aT==0)&&((kZ.aX==0)&&true))))))=true then
    some (.inr ())
   else if(ai .gtr OW 0)=true then
    (fH b.aK (aH .sub .i64 OW 1)).bind λW4=>
    if(ai .geq W4.order kZ.order)=true then
     some (.inr ())
    else if(ai .lss kZ.bC 0)=true then
     some (.inr ())
    else if(ai .gtr kZ.aX kZ.aT)=true then
     some (.inr ())
    else ou (ck BD kZ.order) (λIN=>
     if(!((IN.order==kZ.order)&&((IN.bC==kZ.bC)&&((IN.aT==kZ.aT)&&((IN.aX==kZ.aX)&&true)))))=true then
      some (.inr ())
     else some (.inl (kg BD kZ.order))) (
     if(!((0==kZ.order)&&((0==kZ.bC)&&((0==kZ.aT)&&((0==kZ.aX)&&true)))))=true then
      some (.inr ())
     else some (.inl (kg BD kZ.order)))
   else if(ai .lss kZ.bC 0)=true then
    some (.inr ())
   else if(ai .gtr kZ.aX kZ.aT)=true then
    some (.inr ())
   else ou (ck BD kZ.order) (λOX=>
    if(!((OX.order==kZ.order)&&((OX.bC==kZ.bC)&&((OX.aT==kZ.aT)&&((OX.aX==kZ.aX)&&true)))))=true then
     some (.inr ())
    else some (.inl (kg BD kZ.order))) (
    if(!((0==kZ.order)&&((0==kZ.bC)&&((0==kZ.aT)&&((0==kZ.aX)&&true)))))=true then
     some (.inr ())
    else some (.inl (kg BD kZ.order)))) b.aK Tg:Option (((List (Int×aQ)))⊕(Unit))).bind λYU=>
  match YU with
  | .inl tC=>
   (anyM (λ(Ti:Int)(N7:aQ)=>
    if(!((N7.order==Ti)&&((N7.bC==0)&&((N7.aT==0)&&((N7.aX==0)&&true)))))=true then
     some (.inr ())
    else some (.inl ())) tC:Option (Unit⊕(Unit))).bind λW5=>
   match W5 with
   | .inl _=>
    some 0
   | .inr _=>
    some 9
  | .inr _=>
   some 9
 | .inr _=>
  some 9
instance [Pg P](b:aF)(r:Int):bx P 64 (Jc b=some r) [b.av] (I6 r):=⟨λhR=>by
 have hP:=Pg.h (P:=P);unfold Jc at hR;refine YV hP ?_;cbv;refine aM.i hR ?_ ?_<;>intro c1 hR<;>cbv
 ·cases hR;exact al
 refine aM.i hR ?_ ?_<;>intro c2 hR<;>cbv
 ·cases hR;exact al
 refine kC (ty hP) 146 (λN6 i5 s3=>[(1,.ref 0 0),(3,.mp 1),(24,aq au.ts 4 b.ak),(25,I6 N6),(26,I6 i5)]) (λs3=>[.box [aq aQ.ts 4 b.aK,aq au.ts 4 b.ak],mpT .i64 true aQ.ts s3]) (λr_ g_=>(AE.ret,sp 146 [(2,AI .i64 (.lit 9))],[])) (AE.exit 0) hR (λN6 B7=>aaP) ?_ ?_ go
 ·intro N6 B7 i5 s3 g4 x7 y8 Gp Gq Gr OY hR J B hJ hB;cbv;refine aM.t (decide_eq_true Gq) ?_;cbv;refine bF.mk _ Gp (aY au.ts _ _ _ OY) ?_;cbv;obtain⟨gO,qX,hR⟩:=az hR;refine aJ qX ?_;cbv;refine aM.i hR ?_ ?_<;>intro OU hR<;>cbv
  ·exact go
  obtain⟨z9,B8,hR⟩:=az hR;refine aJ B8 ?_;cbv;refine aM.i hR ?_ ?_<;>intro Ry hR<;>cbv
  ·exact go
  obtain⟨kD,B9,hR⟩:=az hR;refine aJ B9 ?_;cbv;refine aM.i hR ?_ ?_<;>intro Rt hR<;>cbv
  ·exact go
  obtain⟨xl,yG,hR⟩:=az hR;refine aJ yG ?_;cbv;refine aM.i hR ?_ ?_<;>intro YC hR<;>cbv
  ·exact go
  refine aM.i hR ?_ ?_<;>intro L7 hR<;>cbv
  ·exact go
  rcases RD:ck s3 x7.order with _|RC
  ·replace hR:=Gs RD hR;refine iz.Eu (ts:=aQ.ts) rfl RD ?_;cbv;obtain⟨Gn,Tj,hR⟩:=az hR;refine(uA hP _ _ _ Tj).own [3] [] (by rfl) (by rfl) al al (λx_ o_ bI=> ?_);obtain⟨rfl,rfl⟩:=bI;refine⟨.box .nil, ?_⟩;cbv;refine aM.i hR ?_ ?_<;>intro WV hR<;>cbv
   ·exact go
   cases hR;exact hJ _ () _ _ rfl (mN [0,1] (.cons rfl (.aN (.cons (.c .refl) (.cons (.c .refl) .nil))) (.cons rfl (.ov (ts:=aQ.ts) (l:=(iI s3 x7.order Gn.2)) (p_ Gn.2 rfl rfl)) .nil)))
  replace hR:=Gt RD hR;refine iz.hit (ts:=aQ.ts) rfl RD ?_;cbv;obtain⟨v9,B_,hR⟩:=az hR;refine(uA hP _ _ _ B_).own [3] [] (by rfl) (by rfl) al al (λx_ o_ bI=> ?_);obtain⟨rfl,rfl⟩:=bI;refine⟨.box .nil, ?_⟩;cbv;refine aM.i hR ?_ ?_<;>intro WU hR<;>cbv
  ·exact go
  cases hR;exact hJ _ () _ _ rfl (mN [0,1] (.cons rfl (.aN (.cons (.c .refl) (.cons (.c .refl) .nil))) (.cons rfl (.ov (ts:=aQ.ts) (l:=(iI s3 x7.order v9.2)) (p_ v9.2 rfl rfl)) .nil)))
 intro N6 B7 Tg IL hR;dsimp only at hR;cbv;refine kC (ty hP) 146 (λRE OW BD=>[(1,.ref 0 0),(3,.mp 1),(75,aq aQ.ts 4 b.aK),(76,I6 RE),(77,I6 OW)]) (λBD=>[.box [aq aQ.ts 4 b.aK,aq au.ts 4 b.ak],mpT .i64 true aQ.ts BD]) (λr_ g_=>(AE.ret,sp 146 [(2,AI .i64 (.lit 9))],[])) (AE.exit 2) hR (λRE L9=>aaP) ?_ ?_ go
 ·intro RE L9 OW BD FP kZ y36 OZ O0 RF Tk hR J B hJ hB;cbv;refine aM.t (decide_eq_true O0) ?_;cbv;refine bF.mk _ OZ (aY aQ.ts _ _ _ Tk) ?_;cbv;refine aR.of (ty hP) (mo hP) rfl ?_ (br.box (br.jq (br.box br.nil)));cbv
  (iterate 2 (refine aS.z ?_;cbv));obtain⟨N3,L_,hR⟩:=az hR;apply aS.is
  ·intro J hJ;cbv;refine aJ L_ ?_;cbv;exact hJ
  cbv
  (iterate 2 (refine aS.z ?_;cbv));refine aM.i hR ?_ ?_<;>intro WZ hR<;>cbv
  ·exact go
  (iterate 4 (refine aS.z ?_;cbv));refine aM.i hR ?_ ?_<;>intro YJ hR<;>cbv
  ·exact go
  (iterate 3 (refine aS.z ?_;cbv));refine aM.i hR ?_ ?_<;>intro Tb hR<;>cbv
  ·(iterate 4 (refine aS.z ?_;cbv));obtain⟨W4,O1,hR⟩:=az hR;apply aS.is
   ·intro J hJ;cbv;refine bF.mk _ (iC O1) (aY aQ.ts _ _ _ (bn O1)) ?_;cbv;exact hJ
   cbv
   (iterate 8 (refine aS.z ?_;cbv));refine aM.i hR ?_ ?_<;>intro YL hR<;>cbv
   ·exact go
   (iterate 5 (refine aS.z ?_;cbv));refine aM.i hR ?_ ?_<;>intro L8 hR<;>cbv
   ·exact go
   (iterate 7 (refine aS.z ?_;cbv));refine aM.i hR ?_ ?_<;>intro Tc hR<;>cbv
   ·exact go
   (iterate 3 (refine aS.z ?_;cbv));rcases RG:ck BD kZ.order with _|IN
   ·replace hR:=Gs RG hR;apply aS.is
    ·intro J hJ;cbv;refine iz.Eu (ts:=aQ.ts) rfl RG ?_;cbv;exact hJ
    cbv
    (iterate 3 (refine aS.z ?_;cbv));refine aM.i hR ?_ ?_<;>intro YN hR<;>cbv
    ·exact go
    cases hR;exact hJ _ () _ _ rfl (mN [0,1] (.cons rfl (.aN (.cons (.c .refl) (.cons (.c .refl) .nil))) (.cons rfl (.ov (ts:=aQ.ts) (l:=(kg BD kZ.order)) (qa rfl)) .nil)))
   replace hR:=Gt RG hR;apply aS.is
   ·intro J hJ;cbv;refine iz.hit (ts:=aQ.ts) rfl RG ?_;cbv;exact hJ
   cbv
   (iterate 3 (refine aS.z ?_;cbv));refine aM.i hR ?_ ?_<;>intro Td hR<;>cbv
   ·exact go
   cases hR;exact hJ _ () _ _ rfl (mN [0,1] (.cons rfl (.aN (.cons (.c .refl) (.cons (.c .refl) .nil))) (.cons rfl (.ov (ts:=aQ.ts) (l:=(kg BD kZ.order)) (qa rfl)) .nil)))
  (iterate 8 (refine aS.z ?_;cbv));refine aM.i hR ?_ ?_<;>intro W1 hR<;>cbv
  ·exact go
  (iterate 7 (refine aS.z ?_;cbv));refine aM.i hR ?_ ?_<;>intro Rz hR<;>cbv
  ·exact go
  (iterate 3 (refine aS.z ?_;cbv));rcases RH:ck BD kZ.order with _|OX
  ·replace hR:=Gs RH hR;apply aS.is
   ·intro J hJ;cbv;refine iz.Eu (ts:=aQ.ts) rfl RH ?_;cbv;exact hJ
   cbv
   (iterate 3 (refine aS.z ?_;cbv));refine aM.i hR ?_ ?_<;>intro RB hR<;>cbv
   ·exact go
   cases hR;exact hJ _ () _ _ rfl (mN [0,1] (.cons rfl (.aN (.cons (.c .refl) (.cons (.c .refl) .nil))) (.cons rfl (.ov (ts:=aQ.ts) (l:=(kg BD kZ.order)) (qa rfl)) .nil)))
  replace hR:=Gt RH hR;apply aS.is
  ·intro J hJ;cbv;refine iz.hit (ts:=aQ.ts) rfl RH ?_;cbv;exact hJ
  cbv
  (iterate 3 (refine aS.z ?_;cbv));refine aM.i hR ?_ ?_<;>intro W2 hR<;>cbv
  ·exact go
  cases hR;exact hJ _ () _ _ rfl (mN [0,1] (.cons rfl (.aN (.cons (.c .refl) (.cons (.c .refl) .nil))) (.cons rfl (.ov (ts:=aQ.ts) (l:=(kg BD kZ.order)) (qa rfl)) .nil)))
 intro RE L9 tC g61 hR;dsimp only at hR;cbv;obtain⟨W5,Tl,hR⟩:=az hR;refine Jd (ty hP) .i64 true aQ.ts tC (ρ:=Unit) (γ':=(λ_=>Unit)) _ (sp 146 [(136,.ref 0 0)]) (λYW=>[YW]) ((AE.exit 4,sp 146 [],[])) (λr_ g_=>(AE.ret,sp 146 [(2,AI .i64 (.lit 9))],[])) Tl (mN [2] (.cons rfl (.W6 (ts:=aQ.ts) (l:=tC) rfl (.inl rfl)) .nil)) ?_ ?_ ?_
 ·intro W7 J B YX Tm;cbv;refine zN.typed (ts:=aQ.ts) (l:=W7) rfl (λi64 Ti N7 YY=> ?_) (λYZ=> ?_)
  ·obtain⟨y67,hR,hJ,hB⟩:=Tm i64 Ti N7 YY;cbv;refine aM.i hR ?_ ?_<;>intro c70 hR<;>cbv
   ·exact go
   cases hR;exact hJ _ _ rfl (mN [0] (.cons rfl (.W6 (ts:=aQ.ts) (l:=(W7.eraseIdx i64)) (Ca rfl) (.inr rfl)) .nil))
  cbv;exact YX _ _ _ YZ rfl (Gi [])
 ·intro Y0;subst Y0;cbv;cases hR;exact al
 rintro r72 g73 rfl;cbv;cases hR;exact al⟩
end Go.Proofs.aaa
end
