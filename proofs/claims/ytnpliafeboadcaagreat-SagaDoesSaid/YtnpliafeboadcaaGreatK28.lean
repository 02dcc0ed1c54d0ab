/- Texts that the law leans on, part 28. No conditions. -/
import Derived.Test.YtnpliafeboadcaaGreatK27
section
namespace Go.Proofs.aaa
open Go.bA Go.IntWalk
variable{P:Program}
set_option maxHeartbeats 4000000
set_option maxRecDepth 20000
def M0 (s:State):Option (State):=
 if(decide ((([]:List Cell)++s.cells).length*48<=140737488355328))=true then
  (Qt s.af).bind λp3=>
  if(decide ((([]:List ah)++s.aA).length*16<=140737488355328))=true then
   (bh (λ(s6:(List Order))(_:Int)(eu:Order)=>
    if(decide ((([]:List aU)++eu.lines).length*32<=140737488355328))=true then
     if(decide ((s6++[(⟨eu.id,(([]:List aU)++eu.lines),eu.aP,eu.status⟩:Order)]).length*48<=140737488355328))=true then
      some (.inl (s6++[(⟨eu.id,(([]:List aU)++eu.lines),eu.aP,eu.status⟩:Order)]))
     else none
    else none) s.aa []:Option (((List Order))⊕(Empty))).bind λ_6=>
   match _6 with
   | .inl VD=>
    if(decide ((([]:List aC)++s.aj).length*32<=140737488355328))=true then
     if(decide ((([]:List Kept)++s.kept).length*40<=140737488355328))=true then
      some (⟨s.limit,(([]:List Cell)++s.cells),p3,(([]:List ah)++s.aA),VD,(([]:List aC)++s.aj),(([]:List Kept)++s.kept)⟩:State)
     else none
    else none
   | .inr r_=>r_.elim
  else none
 else none
instance [Pg P](s:State)(r:State):bx P 13 (M0 s=some r) [s.av] (r.av):=⟨λhR=>by
 have hP:=Pg.h (P:=P);unfold M0 at hR;refine XQ hP ?_;cbv;obtain⟨m1,hR⟩:=bl hR;refine nk (ty hP) (e:=68) rfl rfl rfl (by simp) (by decide) ([]:List Cell) s.cells rfl rfl (by decide) rfl rfl rfl rfl (λ_=>rfl) (of_decide_eq_true m1) (λk2 hk2=> ?_);cbv;obtain⟨p3,oV,hR⟩:=az hR;refine aJ oV ?_;cbv;obtain⟨m4,hR⟩:=bl hR;refine nk (ty hP) (e:=143) rfl rfl rfl (by simp) (by decide) ([]:List ah) s.aA rfl rfl (by decide) rfl rfl rfl rfl (λ_=>rfl) (of_decide_eq_true m4) (λk5 l7=> ?_);cbv;refine lp (ty hP) (γ:=(λs6=>({c_:Nat//s6.length<=c_}))) (γ':=(λ_=>Unit)) 52 (λN9 i8 s6 g7=>[(1,.ref 0 0),(2,.ref 1 0),(3,.ref 2 0),(23,aq Order.ts 4 s.aa),(24,I6 N9),(25,I6 i8)]) (λs6 g7=>[.box [I6 s.limit,aq Cell.ts 6 s.cells,aq aQ.ts 4 s.af.aK,aq au.ts 4 s.af.ak,aq ah.ts 2 s.aA,aq Order.ts 4 s.aa,aq aC.ts 4 s.aj,aq Kept.ts 4 s.kept],.box [AI .i64 (.lit 0),.c (.lit (.slice none 0 0)),.c (.lit (.slice none 0 0)),.c (.lit (.slice none 0 0)),.c (.lit (.slice none 0 0)),.c (.lit (.slice none 0 0)),.c (.lit (.slice none 0 0)),.c (.lit (.slice none 0 0))],.box [I6 s.limit,.sl 3 6 (.lit 0) (.th λ_=>(([]:List Cell)++s.cells).length) (.th λ_=>k2),aq aQ.ts 4 p3.aK,aq au.ts 4 p3.ak,.sl 4 2 (.lit 0) (.th λ_=>(([]:List ah)++s.aA).length) (.th λ_=>k5),.sl 5 4 (.lit 0) (.th λ_=>s6.length) (.th λ_=>g7.val),aq aC.ts 4 s.aj,aq Kept.ts 4 s.kept],aL Cell.ts 6 (([]:List Cell)++s.cells) k2,aL ah.ts 2 (([]:List ah)++s.aA) k5,aL Order.ts 4 s6 g7.val]) (λr_ _=>r_.elim) (AE.exit 0) ⟨0,Nat.le_refl 0⟩ hR (λN9 uQ=>aaP) ?_ ?_ ?_
 ·intro N9 uQ i8 s6 g7 eu UM Cr Cs Ct lW hR J B hJ hB;cbv;refine aM.t (decide_eq_true Cs) ?_;cbv;refine bF.mk _ Cr (aY Order.ts _ _ _ lW) ?_;cbv;obtain⟨pY,hR⟩:=bl hR;refine nk (ty hP) (e:=80) rfl rfl rfl (by simp) (by decide) ([]:List aU) eu.lines rfl rfl (by decide) rfl rfl rfl rfl (λ_=>rfl) (of_decide_eq_true pY) (λv8 pZ=> ?_);cbv;obtain⟨JA,hR⟩:=bl hR;refine fe.XR (s':=.sl 5 4 (.lit 0) (.th λ_=>s6.length) (.th λ_=>g7.val)) (x':=.sl 9 4 (.lit 0) (.lit 1) (.lit 1)) (cc:=[.box [I6 s.limit,aq Cell.ts 6 s.cells,aq aQ.ts 4 s.af.aK,aq au.ts 4 s.af.ak,aq ah.ts 2 s.aA,aq Order.ts 4 s.aa,aq aC.ts 4 s.aj,aq Kept.ts 4 s.kept],.box [AI .i64 (.lit 0),.c (.lit (.slice none 0 0)),.c (.lit (.slice none 0 0)),.c (.lit (.slice none 0 0)),.c (.lit (.slice none 0 0)),.c (.lit (.slice none 0 0)),.c (.lit (.slice none 0 0)),.c (.lit (.slice none 0 0))],.box [I6 s.limit,.sl 3 6 (.lit 0) (.th λ_=>(([]:List Cell)++s.cells).length) (.th λ_=>k2),aq aQ.ts 4 p3.aK,aq au.ts 4 p3.ak,.sl 4 2 (.lit 0) (.th λ_=>(([]:List ah)++s.aA).length) (.th λ_=>k5),.sl 5 4 (.lit 0) (.th λ_=>s6.length) (.th λ_=>g7.val),aq aC.ts 4 s.aj,aq Kept.ts 4 s.kept],aL Cell.ts 6 (([]:List Cell)++s.cells) k2,aL ah.ts 2 (([]:List ah)++s.aA) k5,aL Order.ts 4 s6 g7.val,.box [I6 eu.id,aq aU.ts 4 (([]:List aU)++eu.lines),I6 eu.aP,I8 eu.status],.dead,.dead,.arr 4 (.lit [[I6 eu.id,aq aU.ts 4 (([]:List aU)++eu.lines),I6 eu.aP,I8 eu.status]]) (.lit 4)]) [0,1,2,3,4,5,6,7,1008,9] rfl rfl (.cons (.sl (q:=5) rfl rfl rfl rfl) (.cons (.sl (q:=9) rfl rfl rfl rfl) .nil)) (.cons rfl (.aN (.cons (.pure rfl) (.cons (.pure rfl) (.cons (.pure rfl) (.cons (.pure rfl) (.cons (.pure rfl) (.cons (.pure rfl) (.cons (.pure rfl) (.cons (.pure rfl) .nil))))))))) (.cons rfl (.aN (.cons (.pure rfl) (.cons (.pure rfl) (.cons (.pure rfl) (.cons (.pure rfl) (.cons (.pure rfl) (.cons (.pure rfl) (.cons (.pure rfl) (.cons (.pure rfl) .nil))))))))) (.cons rfl (.aN (.cons (.pure rfl) (.cons (.sl (q:=3) rfl rfl rfl rfl) (.cons (.pure rfl) (.cons (.pure rfl) (.cons (.sl (q:=4) rfl rfl rfl rfl) (.cons (.sl (q:=5) rfl rfl rfl rfl) (.cons (.pure rfl) (.cons (.pure rfl) .nil))))))))) (.cons rfl (.aD rfl rfl) (.cons rfl (.aD rfl rfl) (.cons rfl (.aD rfl rfl) (.cons rfl (.aN (.cons (.pure rfl) (.cons (.aD rfl rfl rfl rfl rfl) (.cons (.pure rfl) (.cons (.pure rfl) .nil))))) (.cons rfl .dead (.kill (y:=.dead) rfl trivial (.cons rfl (.jx (.cons (.pure rfl) (.cons (.aD rfl rfl rfl rfl rfl) (.cons (.pure rfl) (.cons (.pure rfl) .nil)))) rfl) .nil)))))))))) ?_;refine IP (ty hP) (e:=72) s6 (⟨eu.id,(([]:List aU)++eu.lines),eu.aP,eu.status⟩:Order) (of_decide_eq_true JA) λwH EO=> ?_;cbv;cases hR;exact hJ _ ⟨wH,EO⟩ _ _ rfl (Gi [0,1,2,3,4,10])
 ·intro N9 uQ VD VE hR;dsimp only at hR;cbv;obtain⟨Og,hR⟩:=bl hR;refine nk (ty hP) (e:=116) rfl rfl rfl (by simp) (by decide) ([]:List aC) s.aj rfl rfl (by decide) rfl rfl rfl rfl (λ_=>rfl) (of_decide_eq_true Og) (λRI Jg=> ?_);cbv;obtain⟨VF,hR⟩:=bl hR;refine nk (ty hP) (e:=102) rfl rfl rfl (by simp) (by decide) ([]:List Kept) s.kept rfl rfl (by decide) rfl rfl rfl rfl (λ_=>rfl) (of_decide_eq_true VF) (λTI Mh=> ?_);cbv;cases hR;exact al
 exactλr_=>r_.elim⟩
theorem Si (hP:P=Tryz.prog)(s:State)(r:State)(hR:M0 s=some r):aV P 13 [s.av] [] (λy_ o_=>∃cW dB eL:Nat,r.aa.length<=cW/\r.aj.length<=dB/\r.kept.length<=eL/\y_=.agg [I6 r.limit,aq Cell.ts 6 r.cells,aq aQ.ts 4 r.af.aK,aq au.ts 4 r.af.ak,aq ah.ts 2 r.aA,.sl 0 4 (.lit 0) (.th λ_=>r.aa.length) (.th λ_=>cW),.sl 1 4 (.lit 0) (.th λ_=>r.aj.length) (.th λ_=>dB),.sl 2 4 (.lit 0) (.th λ_=>r.kept.length) (.th λ_=>eL)]/\o_=[aL Order.ts 4 r.aa cW,aL aC.ts 4 r.aj dB,aL Kept.ts 4 r.kept eL]):=by
 have:=Pg.mk hP;unfold M0 at hR;refine aV.can ?_;refine XQ hP ?_;cbv;obtain⟨m1,hR⟩:=bl hR;refine nk (ty hP) (e:=68) rfl rfl rfl (by simp) (by decide) ([]:List Cell) s.cells rfl rfl (by decide) rfl rfl rfl rfl (λ_=>rfl) (of_decide_eq_true m1) (λk2 hk2=> ?_);cbv;obtain⟨p3,oV,hR⟩:=az hR;refine aJ oV ?_;cbv;obtain⟨m4,hR⟩:=bl hR;refine nk (ty hP) (e:=143) rfl rfl rfl (by simp) (by decide) ([]:List ah) s.aA rfl rfl (by decide) rfl rfl rfl rfl (λ_=>rfl) (of_decide_eq_true m4) (λk5 l7=> ?_);cbv;refine lp (ty hP) (γ:=(λs6=>({c_:Nat//s6.length<=c_}))) (γ':=(λ_=>Unit)) 52 (λN9 i8 s6 g7=>[(1,.ref 0 0),(2,.ref 1 0),(3,.ref 2 0),(23,aq Order.ts 4 s.aa),(24,I6 N9),(25,I6 i8)]) (λs6 g7=>[.box [I6 s.limit,aq Cell.ts 6 s.cells,aq aQ.ts 4 s.af.aK,aq au.ts 4 s.af.ak,aq ah.ts 2 s.aA,aq Order.ts 4 s.aa,aq aC.ts 4 s.aj,aq Kept.ts 4 s.kept],.box [AI .i64 (.lit 0),.c (.lit (.slice none 0 0)),.c (.lit (.slice none 0 0)),.c (.lit (.slice none 0 0)),.c (.lit (.slice none 0 0)),.c (.lit (.slice none 0 0)),.c (.lit (.slice none 0 0)),.c (.lit (.slice none 0 0))],.box [I6 s.limit,.sl 3 6 (.lit 0) (.th λ_=>(([]:List Cell)++s.cells).length) (.th λ_=>k2),aq aQ.ts 4 p3.aK,aq au.ts 4 p3.ak,.sl 4 2 (.lit 0) (.th λ_=>(([]:List ah)++s.aA).length) (.th λ_=>k5),.sl 5 4 (.lit 0) (.th λ_=>s6.length) (.th λ_=>g7.val),aq aC.ts 4 s.aj,aq Kept.ts 4 s.kept],aL Cell.ts 6 (([]:List Cell)++s.cells) k2,aL ah.ts 2 (([]:List ah)++s.aA) k5,aL Order.ts 4 s6 g7.val]) (λr_ _=>r_.elim) (AE.exit 0) ⟨0,Nat.le_refl 0⟩ hR (λN9 uQ=>aaP) ?_ ?_ ?_
 ·intro N9 uQ i8 s6 g7 eu UM Cr Cs Ct lW hR J B hJ hB;cbv;refine aM.t (decide_eq_true Cs) ?_;cbv;refine bF.mk _ Cr (aY Order.ts _ _ _ lW) ?_;cbv;obtain⟨pY,hR⟩:=bl hR;refine nk (ty hP) (e:=80) rfl rfl rfl (by simp) (by decide) ([]:List aU) eu.lines rfl rfl (by decide) rfl rfl rfl rfl (λ_=>rfl) (of_decide_eq_true pY) (λv8 pZ=> ?_);cbv;obtain⟨JA,hR⟩:=bl hR;refine fe.XR (s':=.sl 5 4 (.lit 0) (.th λ_=>s6.length) (.th λ_=>g7.val)) (x':=.sl 9 4 (.lit 0) (.lit 1) (.lit 1)) (cc:=[.box [I6 s.limit,aq Cell.ts 6 s.cells,aq aQ.ts 4 s.af.aK,aq au.ts 4 s.af.ak,aq ah.ts 2 s.aA,aq Order.ts 4 s.aa,aq aC.ts 4 s.aj,aq Kept.ts 4 s.kept],.box [AI .i64 (.lit 0),.c (.lit (.slice none 0 0)),.c (.lit (.slice none 0 0)),.c (.lit (.slice none 0 0)),.c (.lit (.slice none 0 0)),.c (.lit (.slice none 0 0)),.c (.lit (.slice none 0 0)),.c (.lit (.slice none 0 0))],.box [I6 s.limit,.sl 3 6 (.lit 0) (.th λ_=>(([]:List Cell)++s.cells).length) (.th λ_=>k2),aq aQ.ts 4 p3.aK,aq au.ts 4 p3.ak,.sl 4 2 (.lit 0) (.th λ_=>(([]:List ah)++s.aA).length) (.th λ_=>k5),.sl 5 4 (.lit 0) (.th λ_=>s6.length) (.th λ_=>g7.val),aq aC.ts 4 s.aj,aq Kept.ts 4 s.kept],aL Cell.ts 6 (([]:List Cell)++s.cells) k2,aL ah.ts 2 (([]:List ah)++s.aA) k5,aL Order.ts 4 s6 g7.val,.box [I6 eu.id,aq aU.ts 4 (([]:List aU)++eu.lines),I6 eu.aP,I8 eu.status],.dead,.dead,.arr 4 (.lit [[I6 eu.id,aq aU.ts 4 (([]:List aU)++eu.lines),I6 eu.aP,I8 eu.status]]) (.lit 4)]) [0,1,2,3,4,5,6,7,1008,9] rfl rfl (.cons (.sl (q:=5) rfl rfl rfl rfl) (.cons (.sl (q:=9) rfl rfl rfl rfl) .nil)) (.cons rfl (.aN (.cons (.pure rfl) (.cons (.pure rfl) (.cons (.pure rfl) (.cons (.pure rfl) (.cons (.pure rfl) (.cons (.pure rfl) (.cons (.pure rfl) (.cons (.pure rfl) .nil))))))))) (.cons rfl (.aN (.cons (.pure rfl) (.cons (.pure rfl) (.cons (.pure rfl) (.cons (.pure rfl) (.cons (.pure rfl) (.cons (.pure rfl) (.cons (.pure rfl) (.cons (.pure rfl) .nil))))))))) (.cons rfl (.aN (.cons (.pure rfl) (.cons (.sl (q:=3) rfl rfl rfl rfl) (.cons (.pure rfl) (.cons (.pure rfl) (.cons (.sl (q:=4) rfl rfl rfl rfl) (.cons (.sl (q:=5) rfl rfl rfl rfl) (.cons (.pure rfl) (.cons (.pure rfl) .nil))))))))) (.cons rfl (.aD rfl rfl) (.cons rfl (.aD rfl rfl) (.cons rfl (.aD rfl rfl) (.cons rfl (.aN (.cons (.pure rfl) (.cons (.aD rfl rfl rfl rfl rfl) (.cons (.pure rfl) (.cons (.pure rfl) .nil))))) (.cons rfl .dead (.kill (y:=.dead) rfl trivial (.cons rfl (.jx (.cons (.pure rfl) (.cons (.aD rfl rfl rfl rfl rfl) (.cons (.pure rfl) (.cons (.pure rfl) .nil)))) rfl) .nil)))))))))) ?_;refine IP (ty hP) (e:=72) s6 (⟨eu.id,(([]:List aU)++eu.lines),eu.aP,eu.status⟩:Order) (of_decide_eq_true JA) λwH EO=> ?_;cbv;cases hR;exact hJ _ ⟨wH,EO⟩ _ _ rfl (Gi [0,1,2,3,4,10])
 ·intro N9 uQ VD VE hR;dsimp only at hR;cbv;obtain⟨Og,hR⟩:=bl hR;refine nk (ty hP) (e:=116) rfl rfl rfl (by simp) (by decide) ([]:List aC) s.aj rfl rfl (by decide) rfl rfl rfl rfl (λ_=>rfl) (of_decide_eq_true Og) (λRI Jg=> ?_);cbv;obtain⟨VF,hR⟩:=bl hR;refine nk (ty hP) (e:=102) rfl rfl rfl (by simp) (by decide) ([]:List Kept) s.kept rfl rfl (by decide) rfl rfl rfl rfl (λ_=>rfl) (of_decide_eq_true VF) (λTI Mh=> ?_);cbv;cases hR;exact⟨_,_,⟨[5,7,9],rfl,rfl,al,al⟩,VE.val,RI,TI,VE.property,Jg,Mh,rfl,rfl⟩
 exactλr_=>r_.elim
def Q3 (s:State)(id:Int)(dst:Int):Option (State):=
 (M0 s).bind λp1=>
 (bh (λ(s5:(List Order))(i7:Int)(_:Order)=>
  (fH s5 i7).bind λL3=>
  if(ai .eql L3.id id)=true then
   some (.inl ((s5).set (i7).toNat (⟨L3.id,L3.lines,L3.aP,dst⟩:Order)))
  else some (.inl s5)) p1.aa p1.aa:Option (((List Order))⊕(Empty))).bind λQW=>
 match QW with
 | .inl gu=>
  some (⟨p1.limit,p1.cells,p1.af,p1.aA,gu,p1.aj,p1.kept⟩:State)
 | .inr r_=>r_.elim
instance [Pg P](s:State)(id:Int)(dst:Int)(r:State):bx P 115 (Q3 s id dst=some r) [s.av,I6 id,I8 dst] (r.av):=⟨λhR=>by
 have hP:=Pg.h (P:=P);unfold Q3 at hR;refine aeg hP ?_;cbv;obtain⟨p1,gM,hR⟩:=az hR;refine((Si hP s _ gM).args (λw F μ vs hv=>gj.same (base:=0) (by exact(.cons (.pure rfl) .nil)) hv)).frame rfl (λx_ o_ bI=> ?_);obtain⟨k2,k3,k4,hk2,mP,hk4,rfl,rfl⟩:=bI;refine⟨[0,1,2],_,_,rfl,.eJ (.cons (.pure rfl) (.cons (.pure rfl) (.cons (.pure rfl) (.cons (.pure rfl) (.cons (.pure rfl) (.cons (.sl (q:=0) rfl rfl rfl rfl) (.cons (.sl (q:=1) rfl rfl rfl rfl) (.cons (.sl (q:=2) rfl rfl rfl rfl) .nil)))))))),(.cons rfl .aL (.cons rfl .aL (.cons rfl .aL .nil))), ?_⟩;cbv;refine lp (ty hP) (γ:=(λs5=>(PLift (s5.length<=k2/\p1.aa.length=s5.length)))) (γ':=(λ_=>Unit)) 32 (λN8 i7 s5 g6=>[(1,I6 id),(2,I8 dst),(6,.ref 0 0),(7,.ref 1 0),(13,.sl 2 4 (.lit 0) (.th λ_=>p1.aa.length) (.th λ_=>k2)),(14,I6 N8),(15,I6 i7)]) (λs5 g6=>[.box [AI .i64 (.lit 0),.c (.lit (.slice none 0 0)),.c (.lit (.slice none 0 0)),.c (.lit (.slice none 0 0)),.c (.lit (.slice none 0 0)),.c (.lit (.slice none 0 0)),.c (.lit (.slice none 0 0)),.c (.lit (.slice none 0 0))],.box [I6 p1.limit,aq Cell.ts 6 p1.cells,aq aQ.ts 4 p1.af.aK,aq au.ts 4 p1.af.ak,aq ah.ts 2 p1.aA,.sl 2 4 (.lit 0) (.th λ_=>p1.aa.length) (.th λ_=>k2),.sl 3 4 (.lit 0) (.th λ_=>p1.aj.length) (.th λ_=>k3),.sl 4 4 (.lit 0) (.th λ_=>p1.kept.length) (.th λ_=>k4)],aL Order.ts 4 s5 k2,aL aC.ts 4 p1.aj k3,aL Kept.ts 4 p1.kept k4]) (λr_ _=>r_.elim) (AE.exit 0) ⟨hk2,rfl⟩ hR (λN8 hN8=>aaP) ?_ ?_ go
 ·intro N8 hN8 i7 s5 g6 x9 y10 acE abY adG hx9 hR J B hJ hB;cbv;refine aM.t (decide_eq_true abY) ?_;cbv;refine bg.mk (Dj hN8 acE abY) ?_;cbv;obtain⟨L3,OV,hR⟩:=az hR;refine bF.mk _ (ec _) (cj rfl (bn OV) (eT _)) ?_;cbv;refine aM.i hR ?_ ?_<;>intro Ry hR<;>cbv
  ·refine bg.mk (Dj hN8 acE abY) ?_;cbv;refine bF.mk _ (ec _) (cj rfl (bn OV) (eT _)) ?_;cbv;cases hR;exact hJ _ ⟨(fA g6.down.1),(bT g6.down.2)⟩ _ _ rfl (Gi [0,1,2,3,4])
  cases hR;exact hJ _ ⟨g6.down.1,g6.down.2⟩ _ _ rfl (Gi [0,1,2,3,4])
 intro N8 hN8 gu uR hR;dsimp only at hR;cbv;cases hR;exact .eJ (.cons (.int rfl) (.cons (.c .refl) (.cons (.c .refl) (.cons (.c .refl) (.cons (.c .refl) (.cons (.aD rfl rfl rfl rfl uR.down.2) (.cons (.aD rfl rfl rfl rfl rfl) (.cons (.aD rfl rfl rfl rfl rfl) .nil))))))))⟩
theorem abN (hP:P=Tryz.prog)(s:State)(id:Int)(dst:Int)(r:State)(hR:Q3 s id dst=some r):aV P 115 [s.av,I6 id,I8 dst] [] (λy_ o_=>∃cW dB:Nat,r.aa.length<=cW/\r.aj.length<=dB/\y_=.agg [I6 r.limit,aq Cell.ts 6 r.cells,aq aQ.ts 4 r.af.aK,aq au.ts 4 r.af.ak,aq ah.ts 2 r.aA,.sl 0 4 (.lit 0) (.th λ_=>r.aa.length) (.th λ_=>cW),.sl 1 4 (.lit 0) (.th λ_=>r.aj.length) (.th λ_=>dB),aq Kept.ts 4 r.kept]/\o_=[aL Order.ts 4 r.aa cW,aL aC.ts 4 r.aj dB]):=by
 have:=Pg.mk hP;unfold Q3 at hR;refine aV.can ?_;refine aeg hP ?_;cbv;obtain⟨p1,gM,hR⟩:=az hR;refine((Si hP s _ gM).args (λw F μ vs hv=>gj.same (base:=0) (by exact(.cons (.pure rfl) .nil)) hv)).frame rfl (λx_ o_ bI=> ?_);obtain⟨k2,k3,k4,hk2,mP,hk4,rfl,rfl⟩:=bI;refine⟨[0,1,2],_,_,rfl,.eJ (.cons (.pure rfl) (.cons (.pure rfl) (.cons (.pure rfl) (.cons (.pure rfl) (.cons (.pure rfl) (.cons (.sl (q:=0) rfl rfl rfl rfl) (.cons (.sl (q:=1) rfl rfl rfl rfl) (.cons (.sl (q:=2) rfl rfl rfl rfl) .nil)))))))),(.cons rfl .aL (.cons rfl .aL (.cons rfl .aL .nil))), ?_⟩;cbv;refine lp (ty hP) (γ:=(λs5=>(PLift (s5.length<=k2/\p1.aa.length=s5.length)))) (γ':=(λ_=>Unit)) 32 (λN8 i7 s5 g6=>[(1,I6 id),(2,I8 dst),(6,.ref 0 0),(7,.ref 1 0),(13,.sl 2 4 (.lit 0) (.th λ_=>p1.aa.length) (.th λ_=>k2)),(14,I6 N8),(15,I6 i7)]) (λs5 g6=>[.box [AI .i64 (.lit 0),.c (.lit (.slice none 0 0)),.c (.lit (.slice none 0 0)),.c (.lit (.slice none 0 0)),.c (.lit (.slice none 0 0)),.c (.lit (.slice none 0 0)),.c (.lit (.slice none 0 0)),.c (.lit (.slice none 0 0))],.box [I6 p1.limit,aq Cell.ts 6 p1.cells,aq aQ.ts 4 p1.af.aK,aq au.ts 4 p1.af.ak,aq ah.ts 2 p1.aA,.sl 2 4 (.lit 0) (.th λ_=>p1.aa.length) (.th λ_=>k2),.sl 3 4 (.lit 0) (.th λ_=>p1.aj.length) (.th λ_=>k3),.sl 4 4 (.lit 0) (.th λ_=>p1.kept.length) (.th λ_=>k4)],aL Order.ts 4 s5 k2,aL aC.ts 4 p1.aj k3,aL Kept.ts 4 p1.kept k4]) (λr_ _=>r_.elim) (AE.exit 0) ⟨hk2,rfl⟩ hR (λN8 hN8=>aaP) ?_ ?_ go
 ·intro N8 hN8 i7 s5 g6 x9 y10 acE abY adG hx9 hR J B hJ hB;cbv;refine aM.t (decide_eq_true abY) ?_;cbv;refine bg.mk (Dj hN8 acE abY) ?_;cbv;obtain⟨L3,OV,hR⟩:=az hR;refine bF.mk _ (ec _) (cj rfl (bn OV) (eT _)) ?_;cbv;refine aM.i hR ?_ ?_<;>intro Ry hR<;>cbv
  ·refine bg.mk (Dj hN8 acE abY) ?_;cbv;refine bF.mk _ (ec _) (cj rfl (bn OV) (eT _)) ?_;cbv;cases hR;exact hJ _ ⟨(fA g6.down.1),(bT g6.down.2)⟩ _ _ rfl (Gi [0,1,2,3,4])
  cases hR;exact hJ _ ⟨g6.down.1,g6.down.2⟩ _ _ rfl (Gi [0,1,2,3,4])
 intro N8 hN8 gu uR hR;dsimp only at hR;cbv;cases hR;exact⟨.agg [AI .i64 (.th λ_=>(⟨p1.limit,p1.cells,p1.af,p1.aA,gu,p1.aj,p1.kept⟩:State).limit),aq Cell.ts 6 (⟨p1.limit,p1.cells,p1.af,p1.aA,gu,p1.aj,p1.kept⟩:State).cells,aq aQ.ts 4 (⟨p1.limit,p1.cells,p1.af,p1.aA,gu,p1.aj,p1.kept⟩:State).af.aK,aq au.ts 4 (⟨p1.limit,p1.cells,p1.af,p1.aA,gu,p1.aj,p1.kept⟩:State).af.ak,aq ah.ts 2 (⟨p1.limit,p1.cells,p1.af,p1.aA,gu,p1.aj,p1.kept⟩:State).aA,.sl 0 4 (.lit 0) (.th λ_=>(⟨p1.limit,p1.cells,p1.af,p1.aA,gu,p1.aj,p1.kept⟩:State).aa.length) (.th λ_=>k2),.sl 1 4 (.lit 0) (.th λ_=>(⟨p1.limit,p1.cells,p1.af,p1.aA,gu,p1.aj,p1.kept⟩:State).aj.length) (.th λ_=>k3),aq Kept.ts 4 (⟨p1.limit,p1.cells,p1.af,p1.aA,gu,p1.aj,p1.kept⟩:State).kept],_,⟨[2,3],rfl,rfl,.eJ (.cons (.int rfl) (.cons (.c .refl) (.cons (.c .refl) (.cons (.c .refl) (.cons (.c .refl) (.cons (.sl (q:=0) rfl rfl uR.down.2 rfl) (.cons (.sl (q:=1) rfl rfl rfl rfl) (.cons (.aD rfl rfl rfl rfl rfl) .nil)))))))),al⟩,k2,k3,uR.down.1,mP,rfl,rfl⟩
def ei (s:State)(k:Int):Option (State×Bool):=
 (fH s.aj k).bind λx1=>
 (hnext x1).bind λp2=>
 if p2.2.1=true then
  some (s,false)
 else if(ai .eql x1.kind 1)=true then
  if x1.aO=true then
   (Q3 s x1.order 2).bind λp6=>
   if(okB (0:Int) k ((s.aj.map aC.ts).length:Int) ((s.aj.map aC.ts).length:Int))=true then
    if(decide ((([]:List aC)++AM s.aj (0:Int) k).length*32<=140737488355328))=true then
     if(okB (aH .add .i64 k 1) ((s.aj.map aC.ts).length:Int) ((s.aj.map aC.ts).length:Int) ((s.aj.map aC.ts).length:Int))=true then
      if(decide (((([]:List aC)++AM s.aj (0:Int) k)++AM s.aj (aH .add .i64 k 1) ((s.aj.map aC.ts).length:Int)).length*32<=140737488355328))=true then
       some ((⟨p6.limit,p6.cells,p6.af,p6.aA,p6.aa,((([]:List aC)++AM s.aj (0:Int) k)++AM s.aj (aH .add .i64 k 1) ((s.aj.map aC.ts).length:Int)),p6.kept⟩:State),true)
      else none
     else none
    else none
   else none
  else(Q3 s x1.order 3).bind λz9=>
  if(okB (0:Int) k ((s.aj.map aC.ts).length:Int) ((s.aj.map aC.ts).length:Int))=true then
   if(decide ((([]:List aC)++AM s.aj (0:Int) k).length*32<=140737488355328))=true then
    if(okB (aH .add .i64 k 1) ((s.aj.map aC.ts).length:Int) ((s.aj.map aC.ts).length:Int) ((s.aj.map aC.ts).length:Int))=true then
     if(decide (((([]:List aC)++AM s.aj (0:Int) k)++AM s.aj (aH .add .i64 k 1) ((s.aj.map aC.ts).length:Int)).length*32<=140737488355328))=true then
      some ((⟨z9.limit,z9.cells,z9.af,z9.aA,z9.aa,((([]:List aC)++AM s.aj (0:Int) k)++AM s.aj (aH .add .i64 k 1) ((s.aj.map aC.ts).length:Int)),z9.kept⟩:State),true)
     else none
    else none
   else none
  else none
 else if(ai .eql x1.kind 3)=true then
  if x1.aO=true then
   (Q3 s x1.order 3).bind λv9=>
   if(okB (0:Int) k ((s.aj.map aC.ts).length:Int) ((s.aj.map aC.ts).length:Int))=true then
    if(decide ((([]:List aC)++AM s.aj (0:Int) k).length*32<=140737488355328))=true then
     if(okB (aH .add .i64 k 1) ((s.aj.map aC.ts).length:Int) ((s.aj.map aC.ts).length:Int) ((s.aj.map aC.ts).length:Int))=true then
      if(decide (((([]:List aC)++AM s.aj (0:Int) k)++AM s.aj (aH .add .i64 k 1) ((s.aj.map aC.ts).length:Int)).length*32<=140737488355328))=true then
       some ((⟨v9.limit,v9.cells,v9.af,v9.aA,v9.aa,((([]:List aC)++AM s.aj (0:Int) k)++AM s.aj (aH .add .i64 k 1) ((s.aj.map aC.ts).length:Int)),v9.kept⟩:State),true)
      else none
     else none
    else none
   else none
  else(Q3 s x1.order 7).bind λJe=>
  if(okB (0:Int) k ((s.aj.map aC.ts).length:Int) ((s.aj.map aC.ts).length:Int))=true then
   if(decide ((([]:List aC)++AM s.aj (0:Int) k).length*32<=140737488355328))=true then
    if(okB (aH .add .i64 k 1) ((s.aj.map aC.ts).length:Int) ((s.aj.map aC.ts).length:Int) ((s.aj.map aC.ts).length:Int))=true then
     if(decide (((([]:List aC)++AM s.aj (0:Int) k)++AM s.aj (aH .add .i64 k 1) ((s.aj.map aC.ts).length:Int)).length*32<=140737488355328))=true then
      some ((⟨Je.limit,Je.cells,Je.af,Je.aA,Je.aa,((([]:List aC)++AM s.aj (0:Int) k)++AM s.aj (aH .add .i64 k 1) ((s.aj.map aC.ts).length:Int)),Je.kept⟩:State),true)
     else none
    else none
   else none
  else none
 else(Q3 s x1.order 5).bind λU2=>
 if(okB (0:Int) k ((s.aj.map aC.ts).length:Int) ((s.aj.map aC.ts).length:Int))=true then
  if(decide ((([]:List aC)++AM s.aj (0:Int) k).length*32<=140737488355328))=true then
   if(okB (aH .add .i64 k 1) ((s.aj.map aC.ts).length:Int) ((s.aj.map aC.ts).length:Int) ((s.aj.map aC.ts).length:Int))=true then
    if(decide (((([]:List aC)++AM s.aj (0:Int) k)++AM s.aj (aH .add .i64 k 1) ((s.aj.map aC.ts).length:Int)).length*32<=140737488355328))=true then
     some ((⟨U2.limit,U2.cells,U2.af,U2.aA,U2.aa,((([]:List aC)++AM s.aj (0:Int) k)++AM s.aj (aH .add .i64 k 1) ((s.aj.map aC.ts).length:Int)),U2.kept⟩:State),true)
    else none
   else none
  else none
 else none
instance [Pg P](s:State)(k:Int)(r:State×Bool):bx P 59 (ei s k=some r) [s.av,I6 k] (.cI [r.1.av,B1 r.2]):=⟨λhR=>by
 have hP:=Pg.h (P:=P);unfold ei at hR;refine e59 hP ?_;cbv;obtain⟨x1,hx1,hR⟩:=az hR;refine bF.mk _ (iC hx1) (aY aC.ts _ _ _ (bn hx1)) ?_;cbv;obtain⟨p2,BC,hR⟩:=az hR;refine aJ BC ?_;cbv;refine aM.i hR ?_ ?_<;>intro c3 hR<;>cbv
 ·cases hR;exact al
 refine aM.i hR ?_ ?_<;>intro c4 hR<;>cbv
 ·refine aM.i hR ?_ ?_<;>intro c5 hR<;>cbv
  ·obtain⟨p6,GL,hR⟩:=az hR;refine aJ GL ?_;cbv;obtain⟨m7,hR⟩:=bl hR;refine bg.mk m7 ?_;cbv;obtain⟨m8,hR⟩:=bl hR;refine ep (ty hP) (e:=116) rfl rfl rfl (by simp) (by decide) ([]:List aC) s.aj (0:Int) k rfl rfl (by decide) rfl rfl rfl rfl (λ_=>rfl) (of_decide_eq_true m8) (λk9 ZF=> ?_);cbv;obtain⟨ZM,hR⟩:=bl hR;refine bg.mk ZM ?_;cbv;obtain⟨Z3,hR⟩:=bl hR;refine ep (ty hP) (e:=116) rfl rfl rfl (by simp) (by decide) (([]:List aC)++AM s.aj (0:Int) k) s.aj (aH .add .i64 k 1) ((s.aj.map aC.ts).length:Int) rfl rfl (by decide) rfl rfl rfl rfl (λ_=>rfl) (of_decide_eq_true Z3) (λBF O3=> ?_);cbv;cases hR;exact al
  refine aM.t c4 ?_;cbv;obtain⟨z9,B8,hR⟩:=az hR;refine aJ B8 ?_;cbv;obtain⟨pY,hR⟩:=bl hR;refine bg.mk pY ?_;cbv;obtain⟨Oc,hR⟩:=bl hR;refine ep (ty hP) (e:=116) rfl rfl rfl (by simp) (by decide) ([]:List aC) s.aj (0:Int) k rfl rfl (by decide) rfl rfl rfl rfl (λ_=>rfl) (of_decide_eq_true Oc) (λQ2 Q4=> ?_);cbv;obtain⟨I_,hR⟩:=bl hR;refine bg.mk I_ ?_;cbv;obtain⟨m18,hR⟩:=bl hR;refine ep (ty hP) (e:=116) rfl rfl rfl (by simp) (by decide) (([]:List aC)++AM s.aj (0:Int) k) s.aj (aH .add .i64 k 1) ((s.aj.map aC.ts).length:Int) rfl rfl (by decide) rfl rfl rfl rfl (λ_=>rfl) (of_decide_eq_true m18) (λk19 Zg=> ?_);cbv;cases hR;exact al
 refine aM.f c4 ?_;cbv;refine aM.i hR ?_ ?_<;>intro S7 hR<;>cbv
 ·refine aM.i hR ?_ ?_<;>intro YD hR<;>cbv
  ·obtain⟨v9,B_,hR⟩:=az hR;refine aJ B_ ?_;cbv;obtain⟨VF,hR⟩:=bl hR;refine bg.mk VF ?_;cbv;obtain⟨m24,hR⟩:=bl hR;refine ep (ty hP) (e:=116) rfl rfl rfl (by simp) (by decide) ([]:List aC) s.aj (0:Int) k rfl rfl (by decide) rfl rfl rfl rfl (λ_=>rfl) (of_decide_eq_true m24) (λk25 Zh=> ?_);cbv;obtain⟨XK,hR⟩:=bl hR;refine bg.mk XK ?_;cbv;obtain⟨m27,hR⟩:=bl hR;refine ep (ty hP) (e:=116) rfl rfl rfl (by simp) (by decide) (([]:List aC)++AM s.aj (0:Int) k) s.aj (aH .add .i64 k 1) ((s.aj.map aC.ts).length:Int) rfl rfl (by decide) rfl rfl rfl rfl (λ_=>rfl) (of_decide_eq_true m27) (λk28 agH=> ?_);cbv;cases hR;exact al
  refine aM.t S7 ?_;cbv;obtain⟨Je,Mf,hR⟩:=az hR;refine aJ Mf ?_;cbv;obtain⟨m30,hR⟩:=bl hR;refine bg.mk m30 ?_;cbv;obtain⟨Tr,hR⟩:=bl hR;refine ep (ty hP) (e:=116) rfl rfl rfl (by simp) (by decide) ([]:List aC) s.aj (0:Int) k rfl rfl (by decide) rfl rfl rfl rfl (λ_=>rfl) (of_decide_eq_true Tr) (λY4 Ts=> ?_);cbv;obtain⟨m33,hR⟩:=bl hR;refine bg.mk m33 ?_;cbv;obtain⟨Y5,hR⟩:=bl hR;refine ep (ty hP) (e:=116) rfl rfl rfl (by simp) (by decide) (([]:List aC)++AM s.aj (0:Int) k) s.aj (aH .add .i64 k 1) ((s.aj.map aC.ts).length:Int) rfl rfl (by decide) rfl rfl rfl rfl (λ_=>rfl) (of_decide_eq_true Y5) (λY6 Tt=> ?_);cbv;cases hR;exact al
 refine aM.f S7 ?_;cbv;obtain⟨U2,Va,hR⟩:=az hR;refine aJ Va ?_;cbv;obtain⟨m37,hR⟩:=bl hR;refine bg.mk m37 ?_;cbv;obtain⟨m38,hR⟩:=bl hR;refine ep (ty hP) (e:=116) rfl rfl rfl (by simp) (by decide) ([]:List aC) s.aj (0:Int) k rfl rfl (by decide) rfl rfl rfl rfl (λ_=>rfl) (of_decide_eq_true m38) (λk39 agL=> ?_);cbv;obtain⟨m40,hR⟩:=bl hR;refine bg.mk m40 ?_;cbv;obtain⟨m41,hR⟩:=bl hR;refine ep (ty hP) (e:=116) rfl rfl rfl (by simp) (by decide) (([]:List aC)++AM s.aj (0:Int) k) s.aj (aH .add .i64 k 1) ((s.aj.map aC.ts).length:Int) rfl rfl (by decide) rfl rfl rfl rfl (λ_=>rfl) (of_decide_eq_true m41) (λR6 Ve=> ?_);cbv;cases hR;exact al⟩
end Go.Proofs.aaa
end
