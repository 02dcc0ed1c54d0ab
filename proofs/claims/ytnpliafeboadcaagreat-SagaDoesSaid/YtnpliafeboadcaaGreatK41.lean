/- Texts that the law leans on, part 41. No conditions. -/
import Derived.Test.YtnpliafeboadcaaGreatK39
import Derived.Test.YtnpliafeboadcaaGreatK40
section
namespace Go.Proofs.aaa
open Go.bA Go.IntWalk
theorem xR (p:Int){n:Int}(hn:0<n):(0<=p.tmod n/\p.tmod n<n/\p %n=p.tmod n)\/(p.tmod n<0/\-n<p.tmod n/\p %n=p.tmod n+n):=by
 have h1:=Int.tmod_lt_of_pos p hn;have h2:=Int.lt_tmod_of_pos p hn;have h3:=Int.tmod_add_mul_tdiv p n;have h4:p %n=(p.tmod n) %n:=by
  conv=>lhs;rw[<-h3]
  exact Int.add_mul_emod_self_left ..
 by_cases h0:0<=p.tmod n
 ·exact .inl ⟨h0,h1,by rw[h4,Int.emod_eq_of_lt h0 h1]⟩
 ·refine .inr ⟨by omega,h2, ?_⟩;rw[h4,<-Int.add_emod_right,Int.emod_eq_of_lt (by omega) (by omega)]
theorem Bd (p:Int){n:Int}(hn:0<n)(h:n<=1000000):aH .rem .i64 (aH .add .i64 (aH .rem .i64 p n) n) n=p %n:=by
 have e:aH .add .i64 (aH .rem .i64 p n) n=p.tmod n+n:=by
  have:=xR p hn;simp only[aH,wrap64];omega
 rw[e];show(p.tmod n+n).tmod n=p %n;rcases xR p hn with⟨h0,h1,h2⟩|⟨h0,h1,h2⟩
 ·rw[Int.tmod_eq_emod_of_nonneg (by omega),Int.add_emod_right,Int.emod_eq_of_lt h0 h1,h2]
 ·rw[Int.tmod_eq_emod_of_nonneg (by omega),Int.emod_eq_of_lt (by omega) (by omega),h2]
theorem adr (p:Int){n:Int}(hn:0<n)(h:n<=1000000):(aH .rem .i64 p n<0->aH .add .i64 (aH .rem .i64 p n) n=p %n)/\(¬aH .rem .i64 p n<0->aH .rem .i64 p n=p %n):=by
 have e:aH .rem .i64 p n=p.tmod n:=rfl;rw[e];rcases xR p hn with⟨h0,h1,h2⟩|⟨h0,h1,h2⟩
 ·exact⟨λh=>by omega,λ_=>h2.symm⟩
 ·refine⟨λ_=> ?_,λh=>by omega⟩;rw[h2];simp only[aH,wrap64];omega
abbrev NG:Told:=⟨0,0,0,0,false⟩
def cM (x:aC)(d:Bool):aC:=⟨E9 x.order x.kind x.pos x.aO,wQ x.kind x.pos x.aO,wR x.kind x.pos x.aO d,wS x.kind x.pos x.aO d⟩
abbrev cK (x:aC):Int:=j_ x.kind x.pos x.aO
def eY (s d:State)(k:Nat)(x:aC)(w:Int):State×Told:=
 if cw (cM x (w==0)).kind (cM x (w==0)).pos (cM x (w==0)).aO=true then(⟨d.limit,d.cells,d.af,d.aA,s.aa,s.aj.set k (cM x (w==0)),s.kept⟩,⟨x.order,x.kind,cK x,w,false⟩)
 else(⟨d.limit,d.cells,d.af,d.aA,dF s.aa x.order (qz (cM x (w==0))),s.aj.eraseIdx k,s.kept⟩,⟨x.order,x.kind,cK x,w,true⟩)
def qC (s:State)(n:Int):Order:=(bq Order.id s.aa n).getD ⟨0,[],0,0⟩
def fF (s:State)(k:Nat)(x:aC)(v:Int):State×Told:=
 if lM (cK x)=true/\v=1 then eY s s k x 10
 else if(dw s (qC s x.order) (cK x)).2=0 then eY s (dw s (qC s x.order) (cK x)).1 k x 0 else eY s s k x (dw s (qC s x.order) (cK x)).2
noncomputable def ee (s:State)(pick v:Int):State×Told×Int:=
 if kW s≠0 then(IX,NG,kW s)else if v>=2 then(IX,NG,15)else
 match s.aj[(pick %s.aj.length).toNat]? with
 |none=>(IX,NG,11)
 |some x=>((fF s (pick %s.aj.length).toNat x v).1,(fF s (pick %s.aj.length).toNat x v).2,0)
theorem NH {x:aC}(h1:cF x.kind x.pos x.aO=0)(h2:cw x.kind x.pos x.aO=true)(d:Bool):
  cM x d=⟨x.order,x.kind,if d=true then(if x.aO=true then x.pos -1 else x.pos+1)else x.pos,if d=true then x.aO else x.aO||CQ (cK x)⟩:=by
 have e:qD x.kind x.pos x.aO=0:=by unfold qD;rw[if_neg (λh=>h h1),h2];rfl
 unfold cM E9 wQ wR wS;rw[if_pos e,if_pos e,if_pos e,if_pos e]
theorem rX {k a:Int}{u:Bool}(h:cF k a u=0):k=1\/k=2\/k=3:=(ke h).1
theorem DO {α:Type}(key:α->Int)(l:List α)(x:α):(iw key l x).length<=l.length+1:=by rw[AQ];split<;>omega
theorem E_ (l:List aQ)(p:aQ):(fu l p).length<=l.length+1:=by
 unfold fu;split
 ·have:=List.length_filter_le (λq=>decide (q.order≠p.order)) l;omega
 ·exact DO ..
theorem rY (b:aF)(x:au):(j6 b x).1.aK.length<=b.aK.length+1/\(j6 b x).1.ak.length<=b.ak.length+1:=by
 unfold j6
 repeat' split
 ·simp
 ·exact⟨E_ ..,by simp⟩
 ·simp
theorem Fa (b:aF)(o n:Int):(ju b o n).1.aK.length<=b.aK.length+1/\(ju b o n).1.ak.length<=b.ak.length+1:=by
 unfold ju
 repeat' split
 all_goals first|exact rY ..|simp
theorem Be (b:aF)(o n:Int):(ez b o n).1.aK.length<=b.aK.length+1/\(ez b o n).1.ak.length<=b.ak.length+1:=by
 unfold ez
 repeat' split
 all_goals first|exact rY ..|simp
theorem sY (b:aF)(o d:Int):(di b o d).1.aK.length<=b.aK.length+1/\(di b o d).1.ak.length<=b.ak.length+1:=by
 unfold di
 repeat' split
 all_goals first|exact rY ..|simp
theorem Fb {α:Type}{key:α->Int}{l:List α}{c x:α}(h:x∈iw key l c):x=c\/x∈l:=by
 unfold iw at h;split at h
 ·rcases List.mem_or_eq_of_mem_set h with h|h
  ·exact .inr h
  ·exact .inl h
 ·exact tY h
theorem bX.oK {s:State}(z:bX s)(l:List Cell)(h:l.length<=4096):bX (Go.Proofs.aaa.oK s l):=
 ⟨by show l.length*48<=_;omega,z.aK,z.i_,z.aA,z.aa,z.lines,z.aj,z.kept,z.eP,z.aad⟩
theorem bX.je {s:State}(z:bX s)(h:bO s.af)(b:aF)(hb:b.aK.length<=s.af.aK.length+1/\b.ak.length<=s.af.ak.length+1):bX (Go.Proofs.aaa.je s b):=by
 have h1:=h.qo;have h2:=h.rK;exact⟨z.cells,by show b.aK.length*32<=_;omega,by show b.ak.length*24<=_;omega,z.aA,z.aa,z.lines,z.aj,z.kept,z.eP,z.aad⟩
theorem bX.sent {s:State}(z:bX s)(h:bY s)(o:Order)(m:Int):bX (eB s o m).1:=by
 have h1:=j8 (Int.le_refl 0) (by decide) h.aA;have hp:=DO ah.order s.aA ⟨o.id,ig (cz s.aA o.id) m⟩;refine⟨z.cells,z.aK,z.i_, ?_,z.aa,z.lines,z.aj,z.kept,λx hx=> ?_,z.aad⟩
 ·show(dz s.aA o.id m 0).length*16<=_;unfold dz;split
  ·omega
  ·simp
 ·have hx:x∈dz s.aA o.id m 0:=hx;unfold dz at hx;split at hx
  ·rcases Fb hx with rfl|hx
   ·exact(sW _ _).1
   ·exact z.eP x hx
  ·cases hx
theorem bX.DP {s:State}(z:bX s)(h:s.cells.length<=4096)(o:Order)(k:Int):bX (jn s o k).1:=by
 have:=vE (k:=k) (lines:=o.lines) (l:=s.cells);exact z.oK _ (by omega)
theorem bX.step {s:State}(z:bX s)(h:bY s)(o:Order)(x:Int):bX (dw s o x).1:=by
 have hc:=(bX.wO h).2.2.2;have key:∀(c:Prop) [Decidable c](A B:State×Int),bX A.1->bX B.1->bX (if c then A else B).1:=λc _ A B h1 h2=>by
  by_cases h:c
  ·rw[if_pos h];exact h1
  ·rw[if_neg h];exact h2
 unfold dw;refine key _ _ _ (z.DP hc o 1) (key _ _ _ (z.DP hc o 2) (key _ _ _ (z.je h.af _ (Fa ..)) (key _ _ _ (key _ _ _ z (z.je h.af _ (sY ..))) (key _ _ _ (z.je h.af _ (sY ..)) (key _ _ _ (z.je h.af _ (Be ..)) (key _ _ _ (z.sent h o 1) (key _ _ _ (z.sent h o 4) (key _ _ _ (z.sent h o 5) (key _ _ _ (key _ _ _ z ((z.sent h o 2).DP hc o 3)) (key _ _ _ z ((z.sent h o 6).DP hc o 4)))))))))))
theorem kf {s d:State}{k:Nat}{x:aC}{o:Order}{w:Int}(h:bY s)(hx:s.aj[k]?=some x)(hf:bq Order.id s.aa x.order=some o)(h1:cF x.kind x.pos x.aO=0)(h2:cw x.kind x.pos x.aO=true)(F:State->Bool->State×Told×Int)(hF:∀a b,F a b=(⟨a.limit,a.cells,a.af,a.aA,a.aa,a.aj,s.kept⟩,⟨x.order,x.kind,cK x,w,b⟩,0)):
  (if dJ s.aj.length (k:Int)=true then(FT ⟨⟨d.limit,d.cells,d.af,d.aA,s.aa,s.aj.set k (cM x (w==0)),s.kept⟩⟩ (k:Int)).bind λp=>some (F p.2.state p.1)else none)=some ((eY s d k x w).1,(eY s d k x w).2,0):=by
 have hr:=(bR.1 h.aa).1;have NF:=bX.wO h;have hlt:=(List.getElem?_eq_some_iff.1 hx).1;have ha:=NH h1 h2 (w==0);have V9:(cM x (w==0)).order=x.order:=by rw[ha]
 have X6:(cM x (w==0)).kind=x.kind:=by rw[ha]
 obtain⟨y,hy⟩:∃y,cM x (w==0)=y:=⟨_,rfl⟩;unfold eY;rw[hy]at V9 X6⊢;rw[if_pos (gq hlt),HG ⟨d.limit,d.cells,d.af,d.aA,s.aa,s.aj.set k y,s.kept⟩ k y o (tN hx) hr (by show s.aa.length<=_;omega) (by show(s.aj.set k y).length<=_;rw[List.length_set];omega) (by show bq Order.id s.aa y.order=_;rw[V9];exact hf) (by rw[X6];exact rX h1),Option.bind_some];by_cases hn:cw y.kind y.pos y.aO=true
 ·rw[if_pos hn,if_pos hn,hF]
 ·rw[if_neg hn,if_neg hn,hF];dsimp only[settled];rw[V9,rT]
theorem S2 {s d:State}{k:Nat}{x:aC}{w:Int}(h:bY s)(z:bX d)(hx:s.aj[k]?=some x)(hd1:d.aa=s.aa)(V_:d.aj=s.aj)(hd3:d.kept=s.kept)(h1:cF x.kind x.pos x.aO=0)(h2:cw x.kind x.pos x.aO=true)(b:Bool)(hb:b=(w==0)):
    ((M0 d).bind λz9=>(Cv x b).bind λxl=>if dJ z9.aj.length (k:Int)=true then(fH z9.aj (k:Int)).bind λ_=>(ei (⟨z9.limit,z9.cells,z9.af,z9.aA,z9.aa,(z9.aj.set ((k:Int)).toNat xl.1),z9.kept⟩:State) (k:Int)).bind λKY=>
      some (KY.1,(⟨x.order,x.kind,cK x,w,KY.2⟩:Told),(0:Int))else none)=some ((eY s d k x w).1,(eY s d k x w).2,0):=by
  have NF:=bX.wO h;have hlt:=(List.getElem?_eq_some_iff.1 hx).1;have ha:=NH h1 h2 (w==0);have V9:(cM x (w==0)).order=x.order:=by rw[ha]
  have X6:(cM x (w==0)).kind=x.kind:=by rw[ha]
  have Cv:Cv x b=some (cM x (w==0),qD x.kind x.pos x.aO):=by rw[hb];rfl
  obtain⟨y,hy⟩:∃y,cM x (w==0)=y:=⟨_,rfl⟩;unfold eY;rw[hy]at V9 X6 Cv⊢;obtain⟨dl,dc,db,ds,dor,dsa,dk⟩:=d;simp only at hd1 V_ hd3;subst hd1;subst V_;subst hd3;rw[Np _ z,Option.bind_some,Cv,Option.bind_some];dsimp only;have z1:bX ⟨dl,dc,db,ds,s.aa,s.aj.set k y,s.kept⟩:=⟨z.cells,z.aK,z.i_,z.aA,z.aa,z.lines,by show(s.aj.set k y).length*32<=_;rw[List.length_set];exact z.aj,z.kept,z.eP,z.aad⟩;rw[if_pos (gq hlt),cT (by omega) (by rw[Int.toNat_natCast];exact hx),Option.bind_some,Int.toNat_natCast,acS _ k y z1 (tN hx) (by show(s.aj.set k y).length<=_;rw[List.length_set];omega) (by rw[X6];exact rX h1),Option.bind_some];by_cases hn:cw y.kind y.pos y.aO=true
  · rw[if_pos hn,if_pos hn]
  · rw[if_neg hn,if_neg hn]
    dsimp only[settled];rw[V9,rT]
end Go.Proofs.aaa
end
section
namespace Go.Proofs.aaa
open Go.bA Go.IntWalk
theorem vJ {s:State}{n:Int}{o:Order}(h:bq Order.id s.aa n=some o):qC s n=o:=by unfold qC;rw[h];rfl
theorem bY.jm {s:State}(h:bY s){k:Nat}{x:aC}(hx:s.aj[k]?=some x):∃o,bq Order.id s.aa x.order=some o/\gI o.status=x.kind/\cF x.kind x.pos x.aO=0/\cw x.kind x.pos x.aO=true:=h.nA.jm x (List.mem_of_getElem? hx)
theorem DQ {l:List aC}(pick:Int)(h:l.length≠0):∃(k:Nat)(x:aC),pick %(l.length:Int)=(k:Int)/\(pick %(l.length:Int)).toNat=k/\l[k]?=some x:=by
 have h0:=Int.emod_nonneg pick (show((l.length:Nat):Int)≠0 by omega);have h1:=Int.emod_lt_of_pos pick (show(0:Int)<(l.length:Int) by omega);exact⟨(pick %(l.length:Int)).toNat,_,by omega,rfl,List.getElem?_eq_getElem (by omega)⟩
theorem abT {s:State}(z:bX s)(h:bY s){k:Nat}{x:aC}(hx:s.aj[k]?=some x)(v:Int):
    ((Qv s x.order).bind λp8=>(hnext x).bind λp9=>(hasks p9.1).bind λpJ=>
      if pJ=true then
        if(ai .eql v 1)=true then
          (M0 s).bind λz9=>(Cv x false).bind λxl=>
          if(dJ z9.aj.length (k:Int))=true then
            (fH z9.aj (k:Int)).bind λ_=>(ei (⟨z9.limit,z9.cells,z9.af,z9.aA,z9.aa,((z9.aj).set ((k:Int)).toNat xl.1),z9.kept⟩:State) (k:Int)).bind λKY=>
            some (KY.1,(⟨x.order,x.kind,p9.1,10,KY.2⟩:Told),(0:Int))
          else none
        else
          (g57 s p8.1 p9.1).bind λmO=>
          if(ai .eql mO.2 0)=true then
            (M0 mO.1).bind λBE=>(Cv x (ai .eql mO.2 0)).bind λN_=>
            if(dJ BE.aj.length (k:Int))=true then
              (fH BE.aj (k:Int)).bind λ_=>(ei (⟨BE.limit,BE.cells,BE.af,BE.aA,BE.aa,((BE.aj).set ((k:Int)).toNat N_.1),BE.kept⟩:State) (k:Int)).bind λW9=>
              some (W9.1,(⟨x.order,x.kind,p9.1,mO.2,W9.2⟩:Told),0)
            else none
          else
            (M0 s).bind λE1=>(Cv x (ai .eql mO.2 0)).bind λJL=>
            if(dJ E1.aj.length (k:Int))=true then
              (fH E1.aj (k:Int)).bind λ_=>(ei (⟨E1.limit,E1.cells,E1.af,E1.aA,E1.aa,((E1.aj).set ((k:Int)).toNat JL.1),E1.kept⟩:State) (k:Int)).bind λtT=>
              some (tT.1,(⟨x.order,x.kind,p9.1,mO.2,tT.2⟩:Told),0)
            else none
      else
        (g57 s p8.1 p9.1).bind λN3=>
        if(ai .eql N3.2 0)=true then
          (M0 N3.1).bind λK6=>(Cv x (ai .eql N3.2 0)).bind λVZ=>
          if(dJ K6.aj.length (k:Int))=true then
            (fH K6.aj (k:Int)).bind λ_=>(ei (⟨K6.limit,K6.cells,K6.af,K6.aA,K6.aa,((K6.aj).set ((k:Int)).toNat VZ.1),K6.kept⟩:State) (k:Int)).bind λLi=>
            some (Li.1,(⟨x.order,x.kind,p9.1,N3.2,Li.2⟩:Told),0)
          else none
        else
          (M0 s).bind λs7=>(Cv x (ai .eql N3.2 0)).bind λJt=>
          if(dJ s7.aj.length (k:Int))=true then
            (fH s7.aj (k:Int)).bind λ_=>(ei (⟨s7.limit,s7.cells,s7.af,s7.aA,s7.aa,((s7.aj).set ((k:Int)).toNat Jt.1),s7.kept⟩:State) (k:Int)).bind λXf=>
            some (Xf.1,(⟨x.order,x.kind,p9.1,N3.2,Xf.2⟩:Told),0)
          else none)
    =some ((fF s k x v).1,(fF s k x v).2,0):=by
  obtain⟨o,ho,hk,hc,hn⟩:=h.jm hx;have NF:=bX.wO h;have hl:o.lines.length<=4611686018427387904:=by
    have:=(nx (l:=o.lines) (by rw[(h.order (b_ Order.id ho).1).2.1])).1;omega
  have hs:=CO s o (cK x);have zs:=z.step h o (cK x);rw[Nm s _ (by omega),Option.bind_some,ho];unfold hnext hasks fF;rw[vJ ho];simp only[Option.bind_some];have body:∀r:State×Int,r=dw s o (cK x)->(if(ai .eql r.2 0)=true then
          (M0 r.1).bind λK6=>(Cv x (ai .eql r.2 0)).bind λVZ=>
          if(dJ K6.aj.length (k:Int))=true then
            (fH K6.aj (k:Int)).bind λ_=>(ei (⟨K6.limit,K6.cells,K6.af,K6.aA,K6.aa,((K6.aj).set ((k:Int)).toNat VZ.1),K6.kept⟩:State) (k:Int)).bind λLi=>
            some (Li.1,(⟨x.order,x.kind,cK x,r.2,Li.2⟩:Told),(0:Int))
          else none
        else
          (M0 s).bind λs7=>(Cv x (ai .eql r.2 0)).bind λJt=>
          if(dJ s7.aj.length (k:Int))=true then
            (fH s7.aj (k:Int)).bind λ_=>(ei (⟨s7.limit,s7.cells,s7.af,s7.aA,s7.aa,((s7.aj).set ((k:Int)).toNat Jt.1),s7.kept⟩:State) (k:Int)).bind λXf=>
            some (Xf.1,(⟨x.order,x.kind,cK x,r.2,Xf.2⟩:Told),0)
          else none)=some ((if(dw s o (cK x)).2=0 then eY s (dw s o (cK x)).1 k x 0 else eY s s k x (dw s o (cK x)).2).1,(if(dw s o (cK x)).2=0 then eY s (dw s o (cK x)).1 k x 0 else eY s s k x (dw s o (cK x)).2).2,0):=by
    rintro⟨d,w⟩ hr;rw[<-hr]at hs zs⊢;dsimp only at hs zs⊢;by_cases hw:w=0
    · subst hw
      rw[if_pos (by rfl),if_pos rfl];exact S2 h zs hx hs.1 hs.2.1 hs.2.2.1 hc hn _ rfl
    · rw[if_neg (by simpa[ai]using hw),if_neg hw]
      exact S2 h z hx rfl rfl rfl hc hn _ rfl
  cases ha:lM (cK x)with
  | true=>
    rw[if_pos rfl];by_cases hv:v=1
    · rw[if_pos (by simpa[ai]using hv),if_pos ⟨rfl,hv⟩]
      exact S2 h z hx rfl rfl rfl hc hn _ rfl
    · rw[if_neg (by simpa[ai]using hv),if_neg (λh=>hv h.2),acU z h o _ hl,Option.bind_some]
      exact body _ rfl
  | false=>
    rw[if_neg (by decide),if_neg (λh=>by cases h.1),acU z h o _ hl,Option.bind_some];exact body _ rfl
theorem acV (s:State)(pick v:Int)(z:bX s):g18 s pick v=some (ee s pick v):=by
 have t:=z.typed;unfold g18 ee;rw[abe s t,Option.bind_some];by_cases h:bY s
 case neg=>rw[dX h,if_pos (by rfl),if_pos (by decide)]
 rw[lI h,if_neg (show¬ai .neq 0 0=true by decide),if_neg (show¬(0:Int)≠0 by decide)];have NF:=bX.wO h;by_cases hv:v>=2
 ·rw[if_pos (by simpa[ai]using hv),if_pos hv]
 rw[if_neg (by simpa[ai]using hv),if_neg hv,fK];by_cases h0:s.aj.length=0
 ·rw[if_pos (by simp[ai,h0])];have e:s.aj=[]:=List.eq_nil_of_length_eq_zero h0;rw[e];rfl
 rw[if_neg (by simp only[ai,beq_iff_eq];omega),if_pos (show(((s.aj.length:Int)) !=0)=true by rw[bne_iff_ne];omega)];obtain⟨k,x,hk,hk2,hx⟩:=DQ pick h0;rw[hk2,hx];dsimp only;obtain⟨r1,r2⟩:=adr pick (show(0:Int)<(s.aj.length:Int) by omega) (by omega);by_cases hneg:aH .rem .i64 pick (s.aj.length:Int)<0
 ·rw[if_pos (by simpa[ai]using hneg),r1 hneg,hk,cT (by omega) (by rw[Int.toNat_natCast];exact hx),Option.bind_some];exact abT z h hx v
 ·rw[if_neg (by simpa[ai]using hneg),r2 hneg,hk,cT (by omega) (by rw[Int.toNat_natCast];exact hx),Option.bind_some];exact abT z h hx v
theorem rZ (s:State)(pick v:Int)(z:bX s)(OQ:0<=v):uR s pick v=some (ee s pick v):=by
 have t:=z.typed;unfold uR ee;rw[zj s t,Option.bind_some];by_cases h:bY s
 case neg=>rw[dX h,if_pos (by rfl),if_pos (by decide)]
 rw[lI h,if_neg (show¬ai .neq 0 0=true by decide),if_neg (show¬(0:Int)≠0 by decide)];have NF:=bX.wO h;have b1:=h.af.qo;have b2:=h.af.rK;have b3:=j8 (Int.le_refl 0) (by decide) h.aA;by_cases hv:v>=2
 ·rw[if_pos (by simpa[ai]using hv),if_pos hv]
 rw[if_neg (by simpa[ai]using hv),if_neg hv,fK];by_cases h0:s.aj.length=0
 ·rw[if_pos (by simp[ai,h0])];have e:s.aj=[]:=List.eq_nil_of_length_eq_zero h0;rw[e];rfl
 rw[if_neg (by simp only[ai,beq_iff_eq];omega),if_pos (show(((s.aj.length:Int)) !=0)=true by rw[bne_iff_ne];omega)];obtain⟨k,x,hk,hk2,hx⟩:=DQ pick h0;obtain⟨o,ho,LY,hc,hn⟩:=h.jm hx;rw[hk2,hx,Bd pick (show(0:Int)<(s.aj.length:Int) by omega) (by omega),hk,cT (by omega) (by rw[Int.toNat_natCast];exact hx),Option.bind_some];rw[mA (show s.cells.length<=1000000000000 by omega),mA (show s.af.aK.length<=1000000000000 by omega),mA (show s.af.ak.length<=1000000000000 by omega),mA (show s.aA.length<=1000000000000 by omega)];unfold hnext hasks;simp only[Option.bind_some];rw[if_pos (decide_eq_true (by omega)),if_pos (decide_eq_true (by omega)),if_pos (decide_eq_true (by omega)),vF z h,Option.bind_some];dsimp only;unfold fF;rw[vJ ho];obtain⟨d,hd,V_⟩:=ND z h (cK x) ho;have fin:∀(w:Int)(a:State)(b:Bool),((⟨a.limit,a.cells,a.af,a.aA,a.aa,a.aj,s.kept⟩:State),(⟨x.order,x.kind,cK x,w,b⟩:Told),(0:Int))=(⟨a.limit,a.cells,a.af,a.aA,a.aa,a.aj,s.kept⟩,⟨x.order,x.kind,cK x,w,b⟩,0):=λ_ _ _=>rfl;obtain⟨w,hw⟩:∃w,(dw s o (cK x)).2=w:=⟨_,rfl⟩;rw[hw]at hd V_⊢;cases ha:lM (cK x)with
 |false=>
  rw[if_pos (by rfl),if_neg (λh=>by cases h.1),hd,Option.bind_some];dsimp only;by_cases c:w=0
  ·subst c;rw[if_neg (by decide),if_pos rfl,<-V_ rfl];exact kf h hx ho hc hn _ (fin 0)
  ·rw[if_pos (by simpa[ai]using c),if_neg c];exact kf h hx ho hc hn _ (fin w)
 |true=>
  rw[if_neg (by decide)];by_cases c2:v=1
  ·rw[if_neg (by simp[ai,c2]),if_pos ⟨rfl,c2⟩];exact kf h hx ho hc hn _ (fin 10)
  ·rw[if_pos (by simp[ai];omega),if_neg (λh=>c2 h.2),hd,Option.bind_some];dsimp only;by_cases c:w=0
   ·subst c;rw[if_neg (by decide),if_pos rfl,<-V_ rfl];exact kf h hx ho hc hn _ (fin 0)
   ·rw[if_pos (by simpa[ai]using c),if_neg c];exact kf h hx ho hc hn _ (fin w)
end Go.Proofs.aaa
end
