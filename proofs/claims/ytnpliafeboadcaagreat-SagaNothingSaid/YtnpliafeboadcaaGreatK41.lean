/- Texts that the law leans on, part 41. No conditions. -/
import Derived.Test.YtnpliafeboadcaaGreatK39
import Derived.Test.YtnpliafeboadcaaGreatK40
section
namespace Go.Proofs.aaa
open Go.bA Go.IntWalk
theorem xR (p:Int){n:Int}(hn:0<n):(0<=p.tmod n/\p.tmod n<n/\p %n=p.tmod n)\/(p.tmod n<0/\-n<p.tmod n/\p %n=p.tmod n+n):=by
 have h1:=Int.tmod_lt_of_pos p hn;have h2:=Int.lt_tmod_of_pos p hn;have h3:=Int.tmod_add_mul_tdiv p n;have h4:p %n=(p.tmod n) %n:=by
  conv=>lhs;rw[<-h3]
  exact Int.add_mul_emod_self_left ..
 by_cases h0:0<=p.tmod n
 ·exact .inl ⟨h0,h1,by rw[h4,Int.emod_eq_of_lt h0 h1]⟩
 ·refine .inr ⟨by omega,h2, ?_⟩;rw[h4,<-Int.add_emod_right,Int.emod_eq_of_lt (by omega) (by omega)]
theorem Bd (p:Int){n:Int}(hn:0<n)(h:n<=1000000):aH .rem .i64 (aH .add .i64 (aH .rem .i64 p n) n) n=p %n:=by
 have e:aH .add .i64 (aH .rem .i64 p n) n=p.tmod n+n:=by
  have:=xR p hn;simp only[aH,wrap64];omega
 rw[e];show(p.tmod n+n).tmod n=p %n;rcases xR p hn with⟨h0,h1,h2⟩|⟨h0,h1,h2⟩
 ·rw[Int.tmod_eq_emod_of_nonneg (by omega),Int.add_emod_right,Int.emod_eq_of_lt h0 h1,h2]
 ·rw[Int.tmod_eq_emod_of_nonneg (by omega),Int.emod_eq_of_lt (by omega) (by omega),h2]
abbrev NG:Told:=⟨0,0,0,0,false⟩
def cM (x:aC)(d:Bool):aC:=⟨E9 x.order x.kind x.pos x.aO,wQ x.kind x.pos x.aO,wR x.kind x.pos x.aO d,wS x.kind x.pos x.aO d⟩
abbrev cK (x:aC):Int:=j_ x.kind x.pos x.aO
def eY (s d:State)(k:Nat)(x:aC)(w:Int):State×Told:=
 if dc (cM x (w==0)).kind (cM x (w==0)).pos (cM x (w==0)).aO=true then(⟨d.limit,d.cells,d.af,d.aA,s.aa,s.aj.set k (cM x (w==0)),s.kept⟩,⟨x.order,x.kind,cK x,w,false⟩)
 else(⟨d.limit,d.cells,d.af,d.aA,dF s.aa x.order (qz (cM x (w==0))),s.aj.eraseIdx k,s.kept⟩,⟨x.order,x.kind,cK x,w,true⟩)
def qC (s:State)(n:Int):Order:=(bq Order.id s.aa n).getD ⟨0,[],0,0⟩
def fF (s:State)(k:Nat)(x:aC)(v:Int):State×Told:=
 if lM (cK x)=true/\v=1 then eY s s k x 10
 else if(dw s (qC s x.order) (cK x)).2=0 then eY s (dw s (qC s x.order) (cK x)).1 k x 0 else eY s s k x (dw s (qC s x.order) (cK x)).2
noncomputable def ee (s:State)(pick v:Int):State×Told×Int:=
 if kW s≠0 then(IX,NG,kW s)else if v>=2 then(IX,NG,15)else
 match s.aj[(pick %s.aj.length).toNat]? with
 |none=>(IX,NG,11)
 |some x=>((fF s (pick %s.aj.length).toNat x v).1,(fF s (pick %s.aj.length).toNat x v).2,0)
theorem NH {x:aC}(h1:cF x.kind x.pos x.aO=0)(h2:dc x.kind x.pos x.aO=true)(d:Bool):
  cM x d=⟨x.order,x.kind,if d=true then(if x.aO=true then x.pos -1 else x.pos+1)else x.pos,if d=true then x.aO else x.aO||CQ (cK x)⟩:=by
 have e:qD x.kind x.pos x.aO=0:=by unfold qD;rw[if_neg (λh=>h h1),h2];rfl
 unfold cM E9 wQ wR wS;rw[if_pos e,if_pos e,if_pos e,if_pos e]
theorem rX {k a:Int}{u:Bool}(h:cF k a u=0):k=1\/k=2\/k=3:=(ke h).1
theorem DO {α:Type}(key:α->Int)(l:List α)(x:α):(iw key l x).length<=l.length+1:=by rw[AQ];split<;>omega
theorem E_ (l:List aQ)(p:aQ):(fu l p).length<=l.length+1:=by
 unfold fu;split
 ·have:=List.length_filter_le (λq=>decide (q.order≠p.order)) l;omega
 ·exact DO ..
theorem rY (b:aF)(x:au):(j6 b x).1.aK.length<=b.aK.length+1/\(j6 b x).1.ak.length<=b.ak.length+1:=by
 unfold j6
 repeat' split
 ·simp
 ·exact⟨E_ ..,by simp⟩
 ·simp
theorem Fa (b:aF)(o n:Int):(ju b o n).1.aK.length<=b.aK.length+1/\(ju b o n).1.ak.length<=b.ak.length+1:=by
 unfold ju
 repeat' split
 all_goals first|exact rY ..|simp
theorem Be (b:aF)(o n:Int):(ez b o n).1.aK.length<=b.aK.length+1/\(ez b o n).1.ak.length<=b.ak.length+1:=by
 unfold ez
 repeat' split
 all_goals first|exact rY ..|simp
theorem sY (b:aF)(o d:Int):(di b o d).1.aK.length<=b.aK.length+1/\(di b o d).1.ak.length<=b.ak.length+1:=by
 unfold di
 repeat' split
 all_goals first|exact rY ..|simp
theorem Fb {α:Type}{key:α->Int}{l:List α}{c x:α}(h:x∈iw key l c):x=c\/x∈l:=by
 unfold iw at h;split at h
 ·rcases List.mem_or_eq_of_mem_set h with h|h
  ·exact .inr h
  ·exact .inl h
 ·exact tY h
theorem bX.oK {s:State}(z:bX s)(l:List Cell)(h:l.length<=4096):bX (Go.Proofs.aaa.oK s l):=
 ⟨by show l.length*48<=_;omega,z.aK,z.i_,z.aA,z.aa,z.lines,z.aj,z.kept,z.eP,z.aad⟩
theorem bX.je {s:State}(z:bX s)(h:bO s.af)(b:aF)(hb:b.aK.length<=s.af.aK.length+1/\b.ak.length<=s.af.ak.length+1):bX (Go.Proofs.aaa.je s b):=by
 have h1:=h.qo;have h2:=h.rK;exact⟨z.cells,by show b.aK.length*32<=_;omega,by show b.ak.length*24<=_;omega,z.aA,z.aa,z.lines,z.aj,z.kept,z.eP,z.aad⟩
theorem bX.sent {s:State}(z:bX s)(h:bY s)(o:Order)(m:Int):bX (eB s o m).1:=by
 have h1:=j8 (Int.le_refl 0) (by decide) h.aA;have hp:=DO ah.order s.aA ⟨o.id,ig (cz s.aA o.id) m⟩;refine⟨z.cells,z.aK,z.i_, ?_,z.aa,z.lines,z.aj,z.kept,λx hx=> ?_,z.aad⟩
 ·show(dz s.aA o.id m 0).length*16<=_;unfold dz;split
  ·omega
  ·simp
 ·have hx:x∈dz s.aA o.id m 0:=hx;unfold dz at hx;split at hx
  ·rcases Fb hx with rfl|hx
   ·exact(sW _ _).1
   ·exact z.eP x hx
  ·cases hx
theorem bX.DP {s:State}(z:bX s)(h:s.cells.length<=4096)(o:Order)(k:Int):bX (jn s o k).1:=by
 have:=vE (k:=k) (lines:=o.lines) (l:=s.cells);exact z.oK _ (by omega)
theorem bX.step {s:State}(z:bX s)(h:bY s)(o:Order)(x:Int):bX (dw s o x).1:=by
 have hc:=(bX.wO h).2.2.2;have key:∀(c:Prop) [Decidable c](A B:State×Int),bX A.1->bX B.1->bX (if c then A else B).1:=λc _ A B h1 h2=>by
  by_cases h:c
  ·rw[if_pos h];exact h1
  ·rw[if_neg h];exact h2
 unfold dw;refine key _ _ _ (z.DP hc o 1) (key _ _ _ (z.DP hc o 2) (key _ _ _ (z.je h.af _ (Fa ..)) (key _ _ _ (key _ _ _ z (z.je h.af _ (sY ..))) (key _ _ _ (z.je h.af _ (sY ..)) (key _ _ _ (z.je h.af _ (Be ..)) (key _ _ _ (z.sent h o 1) (key _ _ _ (z.sent h o 4) (key _ _ _ (z.sent h o 5) (key _ _ _ (key _ _ _ z ((z.sent h o 2).DP hc o 3)) (key _ _ _ z ((z.sent h o 6).DP hc o 4)))))))))))
theorem kf {s d:State}{k:Nat}{x:aC}{o:Order}{w:Int}(h:bY s)(hx:s.aj[k]?=some x)(hf:bq Order.id s.aa x.order=some o)(h1:cF x.kind x.pos x.aO=0)(h2:dc x.kind x.pos x.aO=true)(F:State->Bool->State×Told×Int)(hF:∀a b,F a b=(⟨a.limit,a.cells,a.af,a.aA,a.aa,a.aj,s.kept⟩,⟨x.order,x.kind,cK x,w,b⟩,0)):
  (if dJ s.aj.length (k:Int)=true then(FT ⟨⟨d.limit,d.cells,d.af,d.aA,s.aa,s.aj.set k (cM x (w==0)),s.kept⟩⟩ (k:Int)).bind λp=>some (F p.2.state p.1)else none)=some ((eY s d k x w).1,(eY s d k x w).2,0):=by
 have hr:=(bR.1 h.aa).1;have NF:=bX.wO h;have hlt:=(List.getElem?_eq_some_iff.1 hx).1;have ha:=NH h1 h2 (w==0);have V9:(cM x (w==0)).order=x.order:=by rw[ha]
 have X6:(cM x (w==0)).kind=x.kind:=by rw[ha]
 obtain⟨y,hy⟩:∃y,cM x (w==0)=y:=⟨_,rfl⟩;unfold eY;rw[hy]at V9 X6⊢;rw[if_pos (gq hlt),HG ⟨d.limit,d.cells,d.af,d.aA,s.aa,s.aj.set k y,s.kept⟩ k y o (tN hx) hr (by show s.aa.length<=_;omega) (by show(s.aj.set k y).length<=_;rw[List.length_set];omega) (by show bq Order.id s.aa y.order=_;rw[V9];exact hf) (by rw[X6];exact rX h1),Option.bind_some];by_cases hn:dc y.kind y.pos y.aO=true
 ·rw[if_pos hn,if_pos hn,hF]
 ·rw[if_neg hn,if_neg hn,hF];dsimp only[settled];rw[V9,rT]
end Go.Proofs.aaa
end
section
namespace Go.Proofs.aaa
open Go.bA Go.IntWalk
theorem vJ {s:State}{n:Int}{o:Order}(h:bq Order.id s.aa n=some o):qC s n=o:=by unfold qC;rw[h];rfl
theorem bY.jm {s:State}(h:bY s){k:Nat}{x:aC}(hx:s.aj[k]?=some x):∃o,bq Order.id s.aa x.order=some o/\gI o.status=x.kind/\cF x.kind x.pos x.aO=0/\dc x.kind x.pos x.aO=true:=h.nA.jm x (List.mem_of_getElem? hx)
theorem DQ {l:List aC}(pick:Int)(h:l.length≠0):∃(k:Nat)(x:aC),pick %(l.length:Int)=(k:Int)/\(pick %(l.length:Int)).toNat=k/\l[k]?=some x:=by
 have h0:=Int.emod_nonneg pick (show((l.length:Nat):Int)≠0 by omega);have h1:=Int.emod_lt_of_pos pick (show(0:Int)<(l.length:Int) by omega);exact⟨(pick %(l.length:Int)).toNat,_,by omega,rfl,List.getElem?_eq_getElem (by omega)⟩
theorem rZ (s:State)(pick v:Int)(z:bX s)(OQ:0<=v):uR s pick v=some (ee s pick v):=by
 have t:=z.typed;unfold uR ee;rw[zj s t,Option.bind_some];by_cases h:bY s
 case neg=>rw[dX h,if_pos (by rfl),if_pos (by decide)]
 rw[lI h,if_neg (show¬ai .neq 0 0=true by decide),if_neg (show¬(0:Int)≠0 by decide)];have NF:=bX.wO h;have b1:=h.af.qo;have b2:=h.af.rK;have b3:=j8 (Int.le_refl 0) (by decide) h.aA;by_cases hv:v>=2
 ·rw[if_pos (by simpa[ai]using hv),if_pos hv]
 rw[if_neg (by simpa[ai]using hv),if_neg hv,fK];by_cases h0:s.aj.length=0
 ·rw[if_pos (by simp[ai,h0])];have e:s.aj=[]:=List.eq_nil_of_length_eq_zero h0;rw[e];rfl
 rw[if_neg (by simp only[ai,beq_iff_eq];omega),if_pos (show(((s.aj.length:Int)) !=0)=true by rw[bne_iff_ne];omega)];obtain⟨k,x,hk,hk2,hx⟩:=DQ pick h0;obtain⟨o,ho,LY,hc,hn⟩:=h.jm hx;rw[hk2,hx,Bd pick (show(0:Int)<(s.aj.length:Int) by omega) (by omega),hk,cT (by omega) (by rw[Int.toNat_natCast];exact hx),Option.bind_some];rw[mA (show s.cells.length<=1000000000000 by omega),mA (show s.af.aK.length<=1000000000000 by omega),mA (show s.af.ak.length<=1000000000000 by omega),mA (show s.aA.length<=1000000000000 by omega)];unfold hnext hasks;simp only[Option.bind_some];rw[if_pos (decide_eq_true (by omega)),if_pos (decide_eq_true (by omega)),if_pos (decide_eq_true (by omega)),vF z h,Option.bind_some];dsimp only;unfold fF;rw[vJ ho];obtain⟨d,hd,V_⟩:=ND z h (cK x) ho;have fin:∀(w:Int)(a:State)(b:Bool),((⟨a.limit,a.cells,a.af,a.aA,a.aa,a.aj,s.kept⟩:State),(⟨x.order,x.kind,cK x,w,b⟩:Told),(0:Int))=(⟨a.limit,a.cells,a.af,a.aA,a.aa,a.aj,s.kept⟩,⟨x.order,x.kind,cK x,w,b⟩,0):=λ_ _ _=>rfl;obtain⟨w,hw⟩:∃w,(dw s o (cK x)).2=w:=⟨_,rfl⟩;rw[hw]at hd V_⊢;cases ha:lM (cK x)with
 |false=>
  rw[if_pos (by rfl),if_neg (λh=>by cases h.1),hd,Option.bind_some];dsimp only;by_cases c:w=0
  ·subst c;rw[if_neg (by decide),if_pos rfl,<-V_ rfl];exact kf h hx ho hc hn _ (fin 0)
  ·rw[if_pos (by simpa[ai]using c),if_neg c];exact kf h hx ho hc hn _ (fin w)
 |true=>
  rw[if_neg (by decide)];by_cases c2:v=1
  ·rw[if_neg (by simp[ai,c2]),if_pos ⟨rfl,c2⟩];exact kf h hx ho hc hn _ (fin 10)
  ·rw[if_pos (by simp[ai];omega),if_neg (λh=>c2 h.2),hd,Option.bind_some];dsimp only;by_cases c:w=0
   ·subst c;rw[if_neg (by decide),if_pos rfl,<-V_ rfl];exact kf h hx ho hc hn _ (fin 0)
   ·rw[if_pos (by simpa[ai]using c),if_neg c];exact kf h hx ho hc hn _ (fin w)
end Go.Proofs.aaa
end
