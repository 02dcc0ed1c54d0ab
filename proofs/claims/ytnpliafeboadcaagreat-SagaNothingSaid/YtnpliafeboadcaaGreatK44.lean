/- Texts that the law leans on, part 44. No conditions. -/
import Derived.Test.YtnpliafeboadcaaGreatK30
import Derived.Test.YtnpliafeboadcaaGreatK31
import Derived.Test.YtnpliafeboadcaaGreatK32
import Derived.Test.YtnpliafeboadcaaGreatK33
import Derived.Test.YtnpliafeboadcaaGreatK34
import Derived.Test.YtnpliafeboadcaaGreatK35
import Derived.Test.YtnpliafeboadcaaGreatK36
import Derived.Test.YtnpliafeboadcaaGreatK42
import Derived.Test.YtnpliafeboadcaaGreatK43
section
namespace Go.Proofs.aaa
open Go.bA Go.IntWalk
variable{P:Program}(hP:P=Tryz.prog)
theorem lP {f:FuncId}{xs:List AV}(h:gk P f xs (AB (.th λ_=>true)))(ha:gj 0 [] [] xs xs)(hp:eA xs=true):aV P f xs [] (λx _=>∃b,x=AB b/\b.den=true):=h.call ha hp ⟨_,rfl,rfl⟩
theorem sn {x:AV}(h:yU td 3 x):∃k,x=AI .i64 (.th λ_=>k):=by
 obtain⟨l,hf,rfl⟩:=lA h (d:=(td 3).get rfl) rfl;obtain⟨n,rfl,w⟩:=gT (d:=(td 3).get rfl) rfl rfl hf;exact⟨n,rfl⟩
theorem Rb {x:AV}(h:yU td 37 x):∃k,x=AI .u8 (.th λ_=>k)/\0<=k:=by
 obtain⟨l,hf,rfl⟩:=lA h (d:=(td 37).get rfl) rfl;obtain⟨n,rfl,w⟩:=gT (d:=(td 37).get rfl) rfl rfl hf;exact⟨n,rfl,(Lz w).1⟩
theorem oa {x:AV}(h:yU td 57 x):∃l:List Act,x=aq Act.ts 7 l/\(∀y∈l,y.wf)/\l.length<=4611686018427387904:=by
 obtain⟨l,hf,rfl⟩:=lA h (d:=(td 57).get rfl) rfl;obtain⟨r,rfl,u,v,_⟩:=nO (e:=61) (ed:=(td 61).get rfl) rfl (d:=(td 57).get rfl) rfl rfl hf;obtain⟨n,rfl,w⟩:=jT (λr hr=>Act.fit hr) r u;have hr:reachBytes=140737488351232:=rfl;have hb:1<=((td 61).get rfl).bytes:=by decide
 refine⟨n,rfl,w, ?_⟩;rw[List.length_map]at v;have:=Nat.le_mul_of_pos_right n.length hb;omega
theorem Ask.wf.lines {a:Ask}(h:a.wf):a.lines.length*32<=140737488355328:=by
 have:=h.2.2.2.2;have hr:reachBytes=140737488351232:=rfl;have e:((td 80).get rfl).bytes=32:=rfl;rw[e]at this;omega
theorem Ko (p q:Told):((p.order==q.order)&&((p.kind==q.kind)&&((p.step==q.step)&&((p.why==q.why)&&((p.over==q.over)&&true)))))=decide (p=q):=by
 rw[Bool.eq_iff_iff];obtain⟨a,b,c,d,e⟩:=p;obtain⟨a',b',c',d',e'⟩:=q;simp
theorem HZ (p q:bz):((p.why==q.why)&&((p.status==q.status)&&((p.ax==q.ax)&&true)))=decide (p=q):=by
 rw[Bool.eq_iff_iff];obtain⟨a,b,c⟩:=p;obtain⟨a',b',c'⟩:=q;simp
theorem so:bX IX:=⟨by decide,by decide,by decide,by decide,by decide,λx h=>(by cases h),by decide,by decide,λx h=>(by cases h),λx h=>(by cases h)⟩
theorem bX.eY {s d:State}(z:bX s)(zd:bX d)(h:bY s)(k:Nat)(x:aC)(w:Int)(_:x.kind=1\/x.kind=2\/x.kind=3):bX (eY s d k x w).1:=by
 unfold Go.Proofs.aaa.eY;have hs:=(bX.wO h).2.1;split
 ·exact⟨zd.cells,zd.aK,zd.i_,zd.aA,z.aa,z.lines,by show(s.aj.set _ _).length*32<=_;rw[List.length_set];exact z.aj,z.kept,zd.eP,z.aad⟩
 ·have z1:=z.dF x.order (qz (cM x (w==0))) (by unfold qz;(repeat' split)<;>decide) (s.aj.eraseIdx k) (Nat.le_trans (Nat.mul_le_mul_right _ (List.length_eraseIdx_le ..)) z.aj);exact⟨zd.cells,zd.aK,zd.i_,zd.aA,z1.aa,z1.lines,z1.aj,z.kept,zd.eP,z1.aad⟩
theorem bX.fF {s:State}(z:bX s)(h:bY s)(k:Nat)(x:aC)(v:Int)(hk:x.kind=1\/x.kind=2\/x.kind=3):bX (fF s k x v).1:=by
 unfold Go.Proofs.aaa.fF;split
 ·exact z.eY z h k x _ hk
 ·split
  ·exact z.eY (z.step h _ _) h k x _ hk
  ·exact z.eY z h k x _ hk
theorem bX.mS {s:State}(z:bX s)(pick v:Int):bX (ee s pick v).1:=by
 unfold ee;by_cases h:bY s
 case neg=>rw[if_pos (by rw[dX h];decide)];exact so
 rw[if_neg (by rw[lI h];decide)];split
 ·exact so
 ·split
  ·exact so
  ·rename_i x hx;obtain⟨o,ho,LY,hc,hn⟩:=h.jm hx;exact z.fF h _ x v (rX hc)
include hP
end Go.Proofs.aaa
end
section
namespace Go.Proofs.aaa
open Go.bA Go.IntWalk
variable{P:Program}(hP:P=Tryz.prog)
theorem H6 {s:State}(h:Inv s)(a:Act)(hw:a.wf):gV s a=some (Fj s a):=by
 obtain⟨hl,hv⟩:=NL hw;unfold gV Fj;by_cases hp:a.mS=true
 ·rw[if_pos hp,if_pos hp,rZ s _ _ h.sized hv,Option.bind_some];by_cases c:(ee s a.pick a.verdict).2.2≠0
  ·rw[if_pos (by simpa[ai]using c),if_pos c]
  ·rw[if_neg (by simpa[ai]using c),if_neg c]
 ·rw[if_neg hp,if_neg hp,HJ s _ h.sized hl,if_pos h.e0,Option.bind_some];rfl
abbrev wU (limit:Int):State:=⟨limit,[],⟨[],[]⟩,[],[],[],[]⟩
theorem vM (limit:Int):EC limit=some (if 0<=limit/\limit<=1024 then(wU limit,0)else(IX,2)):=by
 unfold EC;by_cases c:limit<0
 ·rw[if_pos (by simpa[ai]using c),if_neg (by omega)]
 rw[if_neg (by simpa[ai]using c)];by_cases d:limit>1024
 ·rw[if_pos (by simpa[ai]using d),if_neg (by omega)]
 rw[if_neg (by simpa[ai]using d),if_pos (by omega)]
include hP
end Go.Proofs.aaa
end
section
namespace Go.Proofs.aaa
open Go.bA Go.IntWalk
variable{P:Program}(hP:P=Tryz.prog)
abbrev wV:=Int×(List Cell)×(List aQ)×(List au)×(List ah)×(List Order)×(List aC)×(List Kept)
abbrev lQ (s:State):wV:=(s.limit,s.cells,s.af.aK,s.af.ak,s.aA,s.aa,s.aj,s.kept)
noncomputable def oB (s:State)(bp:List Act):State:=bp.foldl (λs a=>(Fj s a).1) s
theorem H7 (s:State)(l m:List Act):oB s (l++m)=oB (oB s l) m:=List.foldl_append ..
theorem kN:∀{bp:List Act}{s:State},Inv s->Inv (oB s bp)
 |[],_,h=>h
 |a::l,_,h=>kN (bp:=l) (CX h a)
theorem qG {s:State}(h:Inv s){bp:List Act}(hw:∀a∈bp,a.wf)(hl:bp.length<=4611686018427387904):bh (ρ:=Empty) (λ(s6:Int×(List Cell)×(List aQ)×(List au)×(List ah)×(List Order)×(List aC)×(List Kept))(_:Int)(eu:Act)=>
    (gV (⟨s6.1,s6.2.1,(⟨s6.2.2.1,s6.2.2.2.1⟩:aF),s6.2.2.2.2.1,s6.2.2.2.2.2.1,s6.2.2.2.2.2.2.1,s6.2.2.2.2.2.2.2⟩:State) eu).bind λiq=>
    some (.inl (iq.1.limit,iq.1.cells,iq.1.af.aK,iq.1.af.ak,iq.1.aA,iq.1.aa,iq.1.aj,iq.1.kept))) bp (s.limit,s.cells,s.af.aK,s.af.ak,s.aA,s.aa,s.aj,s.kept)=some (.inl (lQ (oB s bp))):=by
 rcases cP (step:=λ(s6:wV)(_:Int)(eu:Act)=>
    (gV (⟨s6.1,s6.2.1,(⟨s6.2.2.1,s6.2.2.2.1⟩:aF),s6.2.2.2.2.1,s6.2.2.2.2.2.1,s6.2.2.2.2.2.2.1,s6.2.2.2.2.2.2.2⟩:State) eu).bind λiq=>
    some (Sum.inl (iq.1.limit,iq.1.cells,iq.1.af.aK,iq.1.af.ak,iq.1.aA,iq.1.aa,iq.1.aj,iq.1.kept))) (s0:=lQ s) (λj t=>t=lQ (oB s (bp.take j))) (λ(_:Empty)=>False) hl rfl (λj x t hx ht=>by
   subst ht;refine .inl ⟨lQ (Fj (oB s (bp.take j)) x).1, ?_, ?_⟩
   ·show(gV (oB s (bp.take j)) x).bind _=_;rw[H6 (kN h) x (hw x (List.mem_of_getElem? hx))];rfl
   ·rw[take_one hx,H7];rfl)with⟨t,e,ht⟩|⟨r,_,hb⟩
 ·rw[List.take_length]at ht;subst ht;exact e
 ·exact hb.elim
theorem H8 (limit:Int)(bp:List Act)(hw:∀a∈bp,a.wf)(hl:bp.length<=4611686018427387904):Oo limit bp=some (if 0<=limit/\limit<=1024 then(oB (wU limit) bp,true)else(IX,false)):=by
 unfold Oo;rw[vM,Option.bind_some];by_cases c:0<=limit/\limit<=1024
 case neg=>rw[if_neg c,if_neg c];rfl
 rw[if_pos c,if_pos c];dsimp only;rw[if_neg (by decide),qG (gr c) hw hl];rfl
theorem nG {s:State}(h:Inv s){a:Ask}(hm:a.mark=ByteArray.empty)(hk:1<=a.kind/\a.kind<7):eU s a=dG s a:=by
 unfold eU;have hf:h_ s.kept a.mark=none:=by
  unfold h_;rw[List.find?_eq_none];intro x hx;have:=((nB h.ok.kept).2.2 x hx).2;rw[hm];simpa using this
 rw[if_neg (by omega),if_neg (by rw[hm];decide),hf];dsimp only;rw[if_pos hm]
theorem oc {s:State}(h:Inv s)(a:Ask)(hl:a.lines.length*32<=140737488355328):oF s a=some ((eU s a).1,(eU s a).2,0):=by
 rw[HJ s a h.sized hl,if_pos h.e0]
theorem H9 (limit:Int)(bp:List Act)(order item aE:Int)(hw:∀a∈bp,a.wf)(hl:bp.length<=4611686018427387904):Sn limit bp order item aE=some true:=by
 unfold Sn;rw[lO,Option.bind_some,if_neg (by decide),H8 limit bp hw hl,Option.bind_some];by_cases c:0<=limit/\limit<=1024
 case neg=>rw[if_neg c];rfl
 rw[if_pos c];dsimp only;rw[if_neg (by decide)];have h:=kN (bp:=bp) (gr c);obtain⟨s,hs⟩:∃s,oB (wU limit) bp=s:=⟨_,rfl⟩;rw[hs]at h⊢;have e1:eU s ⟨ByteArray.empty,5,order,[]⟩=ic s ⟨ByteArray.empty,5,order,[]⟩:=nG h rfl ⟨show(1:Int)<=5 by decide,show(5:Int)<7 by decide⟩;have e2:eU s ⟨ByteArray.empty,6,0,[⟨item,aE,0,0⟩]⟩=ga s ⟨ByteArray.empty,6,0,[⟨item,aE,0,0⟩]⟩:=nG h rfl ⟨show(1:Int)<=6 by decide,show(6:Int)<7 by decide⟩;rw[oc h _ (by show 0*32<=_;decide),oc h _ (by show 1*32<=_;decide),e1,e2,Option.bind_some,Option.bind_some];have e3:(ic s ⟨ByteArray.empty,5,order,[]⟩).1=s:=by unfold ic;split<;>rfl
 have e4:(ga s ⟨ByteArray.empty,6,0,[⟨item,aE,0,0⟩]⟩).1=s:=by unfold ga;dsimp only;split<;>rfl
 rw[if_neg (show¬ai .neq 0 0=true by decide),if_neg (show¬ai .neq 0 0=true by decide),e3,e4,vw s s h.sized,Option.bind_some,if_neg (by simp),Option.bind_some,if_neg (by simp),Nm s _ h.sized.typed.aa,Option.bind_some];have hfree:(if(ai .neq (ga s ⟨ByteArray.empty,6,0,[⟨item,aE,0,0⟩]⟩).2.why 0)=true then some true else(FP s.cells item aE).bind λxl=>if(ai .eql (ga s ⟨ByteArray.empty,6,0,[⟨item,aE,0,0⟩]⟩).2.ax xl.free)=true then some (ai .eql (ga s ⟨ByteArray.empty,6,0,[⟨item,aE,0,0⟩]⟩).2.status 0)else some false)=some true:=by
  rcases xT s.cells item aE with⟨c1,c2,c3,c4⟩|c1
  ·have ef:ga s ⟨ByteArray.empty,6,0,[⟨item,aE,0,0⟩]⟩=(s,⟨0,0,(cellOf s.cells item aE).free⟩):=by
    unfold ga;exact(if_neg (λe=>e c1)).trans (by rw[c4])
   rw[ef,if_neg (show¬ai .neq 0 0=true by decide),Hw _ _ _ c2 ⟨c3.2.2.1,c3.2.2.2⟩,Option.bind_some];simp[ai]
  ·have ef:ga s ⟨ByteArray.empty,6,0,[⟨item,aE,0,0⟩]⟩=(s,⟨(dM s.cells item aE).2,0,0⟩):=by
    unfold ga;exact if_pos (show(dM s.cells item aE).2≠0 by omega)
   rw[ef,if_pos (by simp[ai];omega)]
 unfold ic;dsimp only
 cases hf:bq Order.id s.aa order with
 |none=>
  dsimp only;rw[if_neg (by decide),if_neg (by decide)];exact hfree
 |some o=>
  dsimp only;rw[if_pos rfl,if_neg (by simp)];exact hfree
theorem H_ (s:State)(pick v:Int):ee s (pick %(s.aj.length:Int)) v=ee s pick v:=by
 unfold ee;rw[Int.emod_emod_of_dvd _ (Int.dvd_refl _)]
theorem Fk {x:aC}(h1:cF x.kind x.pos x.aO=0)(h2:dc x.kind x.pos x.aO=true)(hn:cK x=7\/cK x=8\/cK x=9):cM x false=x:=by
 obtain⟨xo,xk,xp,xu⟩:=x;simp only at h1 h2;replace hn:j_ xk xp xu=7\/j_ xk xp xu=8\/j_ xk xp xu=9:=hn;rcases iQ h1 h2 with⟨rfl,rfl,hp⟩|⟨hk,rfl,hp⟩|⟨rfl,rfl,hp⟩
 ·rcases hp with rfl|rfl|rfl|rfl|rfl<;>exact absurd hn (by decide)
 ·rcases hk with rfl|rfl<;>rcases hp with rfl|rfl|rfl|rfl<;>rfl
 ·rcases hp with rfl|rfl|rfl
  ·exact absurd hn (by decide)
  ·exact absurd hn (by decide)
  ·rfl
theorem Ia {α:Type}{l:List α}{k:Nat}{x:α}(h:l[k]?=some x):l.set k x=l:=by
 apply List.ext_getElem?;intro j;rw[List.getElem?_set];by_cases e:k=j
 ·subst e;rw[if_pos rfl,if_pos (List.getElem?_eq_some_iff.1 h).1,h]
 ·rw[if_neg e]
theorem CY {s:State}(h:Inv s)(pick v:Int)(hn:s.aj≠[]):
    (if(ai .neq (ee s pick v).2.2 0)=true then some true else
     if(ai .eql (ee s pick v).2.1.why 0)=true then some true else
     if(ai .eql (ee s pick v).2.1.step 7)=true then(sN (ee s pick v).1 s).bind λCh=>if Ch=true then some (!(ee s pick v).2.1.over)else some false else
     if(ai .eql (ee s pick v).2.1.step 8)=true then(sN (ee s pick v).1 s).bind λCh=>if Ch=true then some (!(ee s pick v).2.1.over)else some false else
     if(ai .eql (ee s pick v).2.1.step 9)=true then(sN (ee s pick v).1 s).bind λCh=>if Ch=true then some (!(ee s pick v).2.1.over)else some false else some true)=some true:=by
  have hsz:=bX.mS h.sized pick v;rcases gJ h pick (v:=v)with⟨-,e⟩|⟨-,e,-⟩|⟨-,k,x,o,-,hx,ho,e,hp⟩
  · rw[e,if_pos (by rfl)]
  · exact absurd e hn
  rw[e]at hsz⊢;rw[if_neg (show¬ai .neq (0:Int) 0=true by decide)];dsimp only at hsz⊢;obtain⟨t,ht⟩:∃t,(fF s k x v).1=t:=⟨_,rfl⟩;obtain⟨w,hw⟩:∃w,(fF s k x v).2=w:=⟨_,rfl⟩;rw[ht]at hsz;rw[ht,hw]at hp⊢;obtain⟨-,-,hstep,LC⟩:=hp.HV;by_cases h0:w.why=0
  · rw[if_pos (by simp[ai,h0])]
  rw[if_neg (by simpa[ai]using h0)];obtain⟨-,-,-,hc,NM⟩:=h.ok.jm hx;have key:cK x=7\/cK x=8\/cK x=9->((sN t s).bind λCh=>if Ch=true then some (!w.over)else some false)=some true:=λhn'=>by
    have hb:=Fk hc NM hn';have hw0:(w.why==0)=false:=by simpa using h0
    obtain⟨d,-,hd,hds⟩:=hp.zw;have:=hds h0;subst this;have et:t=d:=by
      rw[hd];unfold eY;rw[hw0,hb,if_pos NM,Ia hx]
    rw[hw0,hb,NM]at LC;rw[et,vw d d h.sized,LC];simp
  rw[hstep];by_cases s7:cK x=7
  · rw[if_pos (by simp[ai,s7])];exact key (.inl s7)
  rw[if_neg (by simpa[ai]using s7)];by_cases s8:cK x=8
  · rw[if_pos (by simp[ai,s8])];exact key (.inr (.inl s8))
  rw[if_neg (by simpa[ai]using s8)];by_cases s9:cK x=9
  · rw[if_pos (by simp[ai,s9])];exact key (.inr (.inr s9))
  rw[if_neg (by simpa[ai]using s9)]
theorem Ib (limit:Int)(bp:List Act)(pick v:Int)(hv:0<=v)(hw:∀a∈bp,a.wf)(hl:bp.length<=4611686018427387904):Sm limit bp pick v=some true:=by
 unfold Sm;rw[lO,Option.bind_some,if_neg (by decide),H8 limit bp hw hl,Option.bind_some];by_cases c:0<=limit/\limit<=1024
 case neg=>rw[if_neg c];rfl
 rw[if_pos c];dsimp only;rw[if_neg (by decide)];have h:=kN (bp:=bp) (gr c);obtain⟨s,hs⟩:∃s,oB (wU limit) bp=s:=⟨_,rfl⟩;rw[hs]at h⊢;have hf:=bX.wO h.ok;rw[fK];by_cases h0:s.aj.length=0
 ·rw[if_pos (by simp[ai,h0])]
 rw[if_neg (by simp only[ai,beq_iff_eq];omega),rZ s _ _ h.sized hv,Option.bind_some,if_pos (show(((s.aj.length:Int)) !=0)=true by rw[bne_iff_ne];omega),Bd pick (by omega) (by omega),rZ s _ _ h.sized hv,Option.bind_some,H_,vw _ _ (bX.mS h.sized pick v),Option.bind_some,Ko];simp only[decide_true,Bool.not_true,Bool.false_eq_true,if_false];rw[if_neg (by simp[ai])];exact CY h pick v (λe=>h0 (by rw[e];rfl))
include hP
theorem Bj:Oe P td 12 [3,57,3,3,3]:=by
 intro xs hx;obtain⟨x,ys,rfl,h1,h2⟩:=bN hx;obtain⟨y,zs,rfl,h3,h4⟩:=bN h2;obtain⟨u,us,rfl,h5,h6⟩:=bN h4;obtain⟨w,ws,rfl,h7,h8⟩:=bN h6;obtain⟨q,qs,rfl,h9,h10⟩:=bN h8;obtain rfl:=jG h10;obtain⟨limit,rfl⟩:=sn h1;obtain⟨bp,rfl,hw,hl⟩:=oa h3;obtain⟨order,rfl⟩:=sn h5;obtain⟨item,rfl⟩:=sn h7;obtain⟨aE,rfl⟩:=sn h9;exact lP (haveI:=Pg.mk hP;rt (H9 limit bp order item aE hw hl)) (.cons (.pure rfl) (.cons (.pure rfl) (.cons (.pure rfl) (.cons (.pure rfl) (.cons (.pure rfl) .nil))))) rfl
theorem Fl:Oe P td 11 [3,57,3,37]:=by
 intro xs hx;obtain⟨x,ys,rfl,h1,h2⟩:=bN hx;obtain⟨y,zs,rfl,h3,h4⟩:=bN h2;obtain⟨u,us,rfl,h5,h6⟩:=bN h4;obtain⟨w,ws,rfl,h7,h8⟩:=bN h6;obtain rfl:=jG h8;obtain⟨limit,rfl⟩:=sn h1;obtain⟨bp,rfl,hw,hl⟩:=oa h3;obtain⟨pick,rfl⟩:=sn h5;obtain⟨v,rfl,hv⟩:=Rb h7;exact lP (haveI:=Pg.mk hP;rt (Ib limit bp pick v hv hw hl)) (.cons (.pure rfl) (.cons (.pure rfl) (.cons (.pure rfl) (.cons (.pure rfl) .nil)))) rfl
end Go.Proofs.aaa
end
section
namespace Go.Proofs.aaa
open Go.bA Go.IntWalk
variable{P:Program}(hP:P=Tryz.prog)
theorem Bk {l:List Kept}(i:Nat){k:Kept}{m:ByteArray}:h_ (bt l i k) m=if k.mark=m then(h_ (l.take i) m).or (some k)else h_ l m:=by
 unfold h_ bt;rw[List.find?_append,List.find?_cons];by_cases h:k.mark=m
 ·rw[if_pos h,decide_eq_true h]
 ·rw[if_neg h,decide_eq_false h];dsimp only;rw[<-List.find?_append,List.take_append_drop]
theorem Fm {l:List Kept}{m:ByteArray}(h:h_ l m=none)(i:Nat):h_ (l.take i) m=none:=by
 unfold h_ at*;rw[List.find?_eq_none]at*;exactλx hx=>h x (List.mem_of_mem_take hx)
theorem Ic {s:State}(_:Inv s)(a:Ask):(eU s a).1.kept=s.kept\/h_ s.kept a.mark=none/\s.kept.length<4096/\(eU s a).1.kept=bt s.kept (lJ s.kept a.mark) ⟨a.mark,(eU s a).2⟩:=by
 have NK:=mz s a;unfold eU;split
 ·exact .inl rfl
 ·split
  ·exact .inl rfl
  ·split
   ·exact .inl rfl
   ·rename_i hf;split
    ·exact .inl NK
    ·split
     ·exact .inl rfl
     ·refine .inr ⟨hf,by omega, ?_⟩;show bt (dG s a).1.kept _ _=_;rw[NK]
def kY (s:State)(m:ByteArray)(r:bz):Prop:=(∃k,h_ s.kept m=some k/\k.cH=r)\/(4096<=s.kept.length/\h_ s.kept m=none/\r=⟨7,0,0⟩)
theorem Fo {s:State}(h:Inv s){m:ByteArray}{r:bz}(hm:kY s m r)(a:Act):kY (Fj s a).1 m r:=by
 have same:∀t:State,t.kept=s.kept->kY t m r:=λt e=>by unfold kY at*;rw[e];exact hm
 unfold Fj;split
 ·rcases gJ h a.pick (v:=a.verdict)with⟨-,e⟩|⟨-,-,e⟩|⟨-,k,x,o,-,-,-,e,hp⟩
  ·rw[e,if_pos (by decide)];exact hm
  ·rw[e,if_pos (by decide)];exact hm
  ·rw[e,if_neg (show¬(0:Int)≠0 by decide)];obtain⟨d,-,hd,-⟩:=hp.zw;refine same _ ?_;show(fF s k x a.verdict).1.kept=_;rw[hd];unfold eY;split<;>rfl
 ·rcases Ic h a.ask with e|⟨e1,e2,e3⟩
  ·exact same _ e
  ·unfold kY at hm⊢;show(∃k,h_ (eU s a.ask).1.kept m=some k/\k.cH=r)\/_;rcases hm with⟨k,hk,hr⟩|⟨h1,-,-⟩
   ·left;refine⟨k, ?_,hr⟩;rw[e3,Bk,if_neg (λe=>by have e:a.ask.mark=m:=e;rw[e,hk]at e1;cases e1)];exact hk
   ·omega
theorem vN {m:ByteArray}{r:bz}:∀{bp:List Act}{s:State},Inv s->kY s m r->kY (oB s bp) m r
 |[],_,_,hm=>hm
 |a::l,_,h,hm=>vN (bp:=l) (CX h a) (Fo h hm a)
theorem CZ {s:State}(_:Inv s)(a:Ask)(h1:a.mark≠ByteArray.empty)(h2:(a.mark.size:Int)<=64)(hk:1<=a.kind/\a.kind<7):kY (eU s a).1 a.mark (eU s a).2:=by
 have NK:=mz s a;unfold eU;rw[if_neg (by omega),if_neg (by omega)]
 cases hf:h_ s.kept a.mark with
 |some k=>exact .inl ⟨k,hf,rfl⟩
 |none=>
  dsimp only;rw[if_neg h1];by_cases c:s.kept.length>=4096
  ·rw[if_pos c];exact .inr ⟨c,hf,rfl⟩
  ·rw[if_neg c];refine .inl ⟨⟨a.mark,(dG s a).2⟩, ?_,rfl⟩;show h_ (bt (dG s a).1.kept _ _) _=_;rw[NK,Bk,if_pos rfl,Fm hf];rfl
theorem C0 {s:State}{a:Ask}{r:bz}(hm:kY s a.mark r)(h1:a.mark≠ByteArray.empty)(h2:(a.mark.size:Int)<=64)(hk:1<=a.kind/\a.kind<7):eU s a=(s,r):=by
 unfold eU;rw[if_neg (by omega),if_neg (by omega)];rcases hm with⟨k,hf,hr⟩|⟨hl,hf,hr⟩
 ·rw[hf];dsimp only;rw[hr]
 ·rw[hf];dsimp only;rw[if_neg h1,if_pos hl,hr]
theorem Kp (limit:Int)(before:List Act)(a:Ask)(dS:List Act)(other:Ask)(hb:∀a∈before,a.wf)(GM:before.length<=4611686018427387904)(ha:a.wf)(hc:∀a∈dS,a.wf)(hcl:dS.length<=4611686018427387904)(ho:other.wf):g7 limit before a dS other=some true:=by
 unfold g7;rw[lO,Option.bind_some,if_neg (by decide),vM,Option.bind_some];by_cases c:0<=limit/\limit<=1024
 case neg=>
  rw[if_neg c];dsimp only;rw[if_pos (by decide)];by_cases c0:limit<0
  ·rw[if_pos (by simpa[ai]using c0)]
  ·rw[if_neg (by simpa[ai]using c0)];simp[ai];omega
 rw[if_pos c];dsimp only;rw[if_neg (by decide),qG (gr c) hb GM,Option.bind_some];have h:=kN (bp:=before) (gr c);obtain⟨s,hs⟩:∃s,oB (wU limit) before=s:=⟨_,rfl⟩;rw[hs]at h⊢;dsimp only;have Gb:=ha.lines;have hA:=zx h a;show(oF s a).bind _=_;rw[oc h a Gb,Option.bind_some];dsimp only;rw[if_neg (by decide)];obtain⟨t,ht⟩:∃t,(eU s a).1=t:=⟨_,rfl⟩;obtain⟨r,hr⟩:∃r,(eU s a).2=r:=⟨_,rfl⟩;have hM:=CZ h a;rw[ht,hr]at hM hA⊢;have tail:∀(u:State),Inv u->kY u a.mark r->a.mark≠ByteArray.empty->(a.mark.size:Int)<=64->∀k,1<=k/\k<7->((oF u ⟨a.mark,k,other.order,other.lines⟩).bind λmU=>
   if(ai .eql mU.2.2 0)=true then if((mU.2.1.why==r.why)&&((mU.2.1.status==r.status)&&((mU.2.1.ax==r.ax)&&true)))=true then(sN mU.1 u).bind λzI=>some zI else some false else some false)=some true:=λu hu hm h1 h2 k hk=>by
  rw[oc hu ⟨a.mark,k,other.order,other.lines⟩ ho.lines,C0 (a:=⟨a.mark,k,other.order,other.lines⟩) hm h1 h2 hk,Option.bind_some];dsimp only;rw[if_pos (by rfl),HZ,if_pos (by simp),vw u u hu.sized,Option.bind_some];simp
 have rest:(if(dA .eql a.mark ByteArray.empty)=true then some true else if(ai .gtr ((a.mark).size:Int) 64)=true then some true else if(ai .lss a.kind 1)=true then some true else if(ai .geq a.kind 7)=true then some true else
   (bh (ρ:=Empty) (λ(lB:Int×(List Cell)×(List aQ)×(List au)×(List ah)×(List Order)×(List aC)×(List Kept))(i32:Int)(JD:Act)=>
    (gV (⟨lB.1,lB.2.1,(⟨lB.2.2.1,lB.2.2.2.1⟩:aF),lB.2.2.2.2.1,lB.2.2.2.2.2.1,lB.2.2.2.2.2.2.1,lB.2.2.2.2.2.2.2⟩:State) JD).bind λtT=>
    some (.inl (tT.1.limit,tT.1.cells,tT.1.af.aK,tT.1.af.ak,tT.1.aA,tT.1.aa,tT.1.aj,tT.1.kept))) dS (t.limit,t.cells,t.af.aK,t.af.ak,t.aA,t.aa,t.aj,t.kept)).bind λVV=>
   match VV with
   | .inl ek=>
    if(ai .lss other.kind 1)=true then
     (oF (⟨ek.1,ek.2.1,(⟨ek.2.2.1,ek.2.2.2.1⟩:aF),ek.2.2.2.2.1,ek.2.2.2.2.2.1,ek.2.2.2.2.2.2.1,ek.2.2.2.2.2.2.2⟩:State) (⟨a.mark,a.kind,other.order,other.lines⟩:Ask)).bind λmU=>
     if(ai .eql mU.2.2 0)=true then if((mU.2.1.why==r.why)&&((mU.2.1.status==r.status)&&((mU.2.1.ax==r.ax)&&true)))=true then(sN mU.1 (⟨ek.1,ek.2.1,(⟨ek.2.2.1,ek.2.2.2.1⟩:aF),ek.2.2.2.2.1,ek.2.2.2.2.2.1,ek.2.2.2.2.2.2.1,ek.2.2.2.2.2.2.2⟩:State)).bind λzI=>some zI else some false else some false
    else if(ai .geq other.kind 7)=true then
     (oF (⟨ek.1,ek.2.1,(⟨ek.2.2.1,ek.2.2.2.1⟩:aF),ek.2.2.2.2.1,ek.2.2.2.2.2.1,ek.2.2.2.2.2.2.1,ek.2.2.2.2.2.2.2⟩:State) (⟨a.mark,a.kind,other.order,other.lines⟩:Ask)).bind λmU=>
     if(ai .eql mU.2.2 0)=true then if((mU.2.1.why==r.why)&&((mU.2.1.status==r.status)&&((mU.2.1.ax==r.ax)&&true)))=true then(sN mU.1 (⟨ek.1,ek.2.1,(⟨ek.2.2.1,ek.2.2.2.1⟩:aF),ek.2.2.2.2.1,ek.2.2.2.2.2.1,ek.2.2.2.2.2.2.1,ek.2.2.2.2.2.2.2⟩:State)).bind λzI=>some zI else some false else some false
    else
     (oF (⟨ek.1,ek.2.1,(⟨ek.2.2.1,ek.2.2.2.1⟩:aF),ek.2.2.2.2.1,ek.2.2.2.2.2.1,ek.2.2.2.2.2.2.1,ek.2.2.2.2.2.2.2⟩:State) (⟨a.mark,other.kind,other.order,other.lines⟩:Ask)).bind λmU=>
     if(ai .eql mU.2.2 0)=true then if((mU.2.1.why==r.why)&&((mU.2.1.status==r.status)&&((mU.2.1.ax==r.ax)&&true)))=true then(sN mU.1 (⟨ek.1,ek.2.1,(⟨ek.2.2.1,ek.2.2.2.1⟩:aF),ek.2.2.2.2.1,ek.2.2.2.2.2.1,ek.2.2.2.2.2.2.1,ek.2.2.2.2.2.2.2⟩:State)).bind λzI=>some zI else some false else some false
   | .inr r_=>r_.elim)=some true:=by
  rw[vr];by_cases c1:a.mark=ByteArray.empty
  ·rw[if_pos (decide_eq_true c1)]
  rw[if_neg (by simpa using c1)];by_cases c2:(a.mark.size:Int)>64
  ·rw[if_pos (by simpa[ai]using c2)]
  rw[if_neg (by simpa[ai]using c2)];by_cases c3:a.kind<1
  ·rw[if_pos (by simpa[ai]using c3)]
  rw[if_neg (by simpa[ai]using c3)];by_cases c4:a.kind>=7
  ·rw[if_pos (by simpa[ai]using c4)]
  rw[if_neg (by simpa[ai]using c4),qG hA.inv hc hcl,Option.bind_some];dsimp only;have hm:=vN (bp:=dS) hA.inv (hM c1 (by omega) ⟨by omega,by omega⟩);have hu:=kN (bp:=dS) hA.inv;have tl:=tail (oB t dS) hu hm c1 (by omega);by_cases c5:other.kind<1
  ·rw[if_pos (by simpa[ai]using c5)];exact tl a.kind ⟨by omega,by omega⟩
  rw[if_neg (by simpa[ai]using c5)];by_cases c6:other.kind>=7
  ·rw[if_pos (by simpa[ai]using c6)];exact tl a.kind ⟨by omega,by omega⟩
  rw[if_neg (by simpa[ai]using c6)];exact tl other.kind ⟨by omega,by omega⟩
 by_cases c1:r.why≠0
 ·obtain⟨⟨k,hk⟩,hst,ham⟩:=hA.bad c1;rw[if_pos (by simpa[ai]using c1),Np t hA.inv.sized,Option.bind_some];have e:(⟨t.limit,t.cells,t.af,t.aA,t.aa,t.aj,s.kept⟩:State)=s:=by rw[hk]
  show((sN ⟨t.limit,t.cells,t.af,t.aA,t.aa,t.aj,s.kept⟩ s).bind _)=_;rw[e,vw s s h.sized,Option.bind_some,if_neg (by simp),if_neg (by simp[ai,hst]),if_neg (by simp[ai,ham])];exact rest
 ·rw[if_neg (by simpa[ai]using c1)];exact rest
include hP
theorem Fp:Oe P td 7 [3,57,36,57,36]:=by
 intro xs hx;obtain⟨x,ys,rfl,h1,h2⟩:=bN hx;obtain⟨y,zs,rfl,h3,h4⟩:=bN h2;obtain⟨u,us,rfl,h5,h6⟩:=bN h4;obtain⟨w,ws,rfl,h7,h8⟩:=bN h6;obtain⟨q,qs,rfl,h9,h10⟩:=bN h8;obtain rfl:=jG h10;obtain⟨limit,rfl⟩:=sn h1;obtain⟨before,rfl,hb,GM⟩:=oa h3;obtain⟨a,rfl,ha⟩:=Ask.Rc h5;obtain⟨dS,rfl,hc,hcl⟩:=oa h7;obtain⟨other,rfl,ho⟩:=Ask.Rc h9;exact lP (haveI:=Pg.mk hP;rt (Kp limit before a dS other hb GM ha hc hcl ho)) (.cons (.pure rfl) (.cons (.pure rfl) (.cons (.pure rfl) (.cons (.pure rfl) (.cons (.pure rfl) .nil))))) rfl
end Go.Proofs.aaa
end
section
namespace Go.Proofs.aaa
open Go.bA Go.IntWalk
variable{P:Program}(hP:P=Tryz.prog)
theorem Bl (x:aU)(i w:Int):dD [x] i w=if x.item=i/\x.aE=w then x.gF else 0:=by
 rw[rU];show _+0=_;rw[Int.add_zero]
theorem NN {s:State}(h:Inv s){a:Ask}(hk:a.kind=1)(hm:a.mark=ByteArray.empty)(hr:(eU s a).2.why=0):
  bq Order.id s.aa a.order=none/\∃p,dW a.lines=(p,0)/\(eU s a)=(⟨s.limit,s.cells,s.af,s.aA,bt s.aa (eO Order.id s.aa a.order) ⟨a.order,a.lines,p,1⟩,s.aj++[⟨a.order,1,0,false⟩],s.kept⟩,⟨0,1,p⟩)/\Inv (eU s a).1/\bq Order.id (eU s a).1.aa a.order=some ⟨a.order,a.lines,p,1⟩:=by
 have hrs:=(bR.1 h.ok.aa).1;have hi:=(zx h a).inv;rw[nG h hm (by omega)]at hr hi⊢;unfold dG at hr hi⊢;rw[if_pos hk]at hr hi⊢;unfold fS at hr hi⊢;by_cases c0:gH a.order
 case neg=>rw[if_neg c0]at hr;exact absurd hr (by show¬(2:Int)=0;decide)
 rw[if_pos c0]at hr hi⊢;by_cases c1:(dW a.lines).2≠0
 ·rw[if_pos c1]at hr;exact absurd hr c1
 rw[if_neg c1]at hr hi⊢
 cases hf:bq Order.id s.aa a.order with
 |some o=>rw[hf,if_pos (by rfl)]at hr;exact absurd hr (by show¬(12:Int)=0;decide)
 |none=>
  rw[hf,if_neg (by decide)]at hr hi;rw[if_neg (by decide)];by_cases c2:(s.aa.length:Int)>=s.limit
  ·rw[if_pos c2]at hr;exact absurd hr (by show¬(7:Int)=0;decide)
  rw[if_neg c2]at hi⊢;refine⟨rfl,(dW a.lines).1,by rw[Prod.ext_iff];exact⟨rfl,Decidable.not_not.1 c1⟩,rfl,hi, ?_⟩;show bq Order.id (bt _ _ _) _=_;have e:=A9 (key:=Order.id) (c:=(⟨a.order,a.lines,(dW a.lines).1,1⟩:Order)) (l:=s.aa) hf;rw[show bt s.aa (eO Order.id s.aa a.order) ⟨a.order,a.lines,(dW a.lines).1,1⟩=_ from e,lK hrs,if_pos rfl]
theorem Kq {α:Type}(l:List α)(x:α):(l++[x])[l.length]?=some x:=by rw[List.getElem?_append_right (Nat.le_refl _)];simp
theorem Fq {s:State}{x:aC}(h:Inv s){l:List aC}(hl:s.aj=l++[x]){o:Order}(ho:bq Order.id s.aa x.order=some o){v:Int}(hv:v<2)(pick:Int)(hp:pick=(s.aj.length:Int) -1):
  ee s pick v=((fF s l.length x v).1,(fF s l.length x v).2,0)/\vK s l.length x o v (fF s l.length x v).1 (fF s l.length x v).2:=by
 have hx:s.aj[l.length]?=some x:=by rw[hl];exact Kq l x
 refine⟨?_,DT h hx ho v⟩;have hlen:s.aj.length=l.length+1:=by rw[hl];simp
 have e:(pick %(s.aj.length:Int)).toNat=l.length:=by
  rw[hp,Int.emod_eq_of_lt (by omega) (by omega)];omega
 unfold ee;rw[if_neg (λe=>e h.e0),if_neg (by omega),e,hx]
theorem aam {s:State}(h:Inv s)(order item aE q:Int)(hk:Kn item aE)(D:Bool)(hD:D=decide (q<=(cellOf s.cells item aE).free)){X:Option (Int⊕(Unit⊕Unit))}{c1:Bool}(hc:D=true->c1=false):
    ((oF s ⟨ByteArray.empty,1,order,[⟨item,aE,q,1⟩]⟩).bind λow=>
      if(ai .neq ow.2.2 0)=true then some (.inr (.inl ()))else if(ai .neq ow.2.1.why 0)=true then X else
      (uR ow.1 (aH .sub .i64 ((ow.1.aj.map aC.ts).length:Int) 1) 0).bind λJL=>
      if(ai .neq JL.2.2 0)=true then some (.inr (.inl ()))else if(ai .neq JL.2.1.step 1)=true then some (.inr (.inl ()))else
      if(!((ai .eql JL.2.1.why 0)==D))=true then some (.inr (.inl ()))else
      if c1=true then if(ai .neq JL.2.1.why 13)=true then some (.inr (.inl ()))else X else X)=X:=by
  have hA:=zx h ⟨ByteArray.empty,1,order,[⟨item,aE,q,1⟩]⟩;rw[oc h ⟨ByteArray.empty,1,order,[⟨item,aE,q,1⟩]⟩ (by show 1*32<=_;decide),Option.bind_some];dsimp only;rw[if_neg (show¬ai .neq 0 0=true by decide)];by_cases c0:(eU s ⟨ByteArray.empty,1,order,[⟨item,aE,q,1⟩]⟩).2.why≠0
  · rw[if_pos (by simpa[ai]using c0)]
  rw[if_neg (by simpa[ai]using c0)];obtain⟨hf,p,hp,he,hi,ho⟩:=NN h (a:=⟨ByteArray.empty,1,order,[⟨item,aE,q,1⟩]⟩) rfl rfl (Decidable.not_not.1 c0);obtain⟨t,ht⟩:∃t,(eU s ⟨ByteArray.empty,1,order,[⟨item,aE,q,1⟩]⟩).1=t:=⟨_,rfl⟩;have F3:t.aj=s.aj++[⟨order,1,0,false⟩]:=by rw[<-ht,he]
  have hcl:t.cells=s.cells:=by rw[<-ht,he]
  rw[ht]at hi ho⊢;have NF:=bX.wO hi.ok;have hlen:t.aj.length=s.aj.length+1:=by rw[F3];simp
  have e1:aH .sub .i64 ((t.aj.map aC.ts).length:Int) 1=(t.aj.length:Int) -1:=by rw[fK];simp only[aH,wrap64];omega
  obtain⟨e2,hP⟩:=Fq (x:=⟨order,1,0,false⟩) hi F3 ho (v:=0) (by decide) _ e1;rw[rZ t _ 0 hi.sized (by decide),Option.bind_some,e2];dsimp only;obtain⟨w,hw⟩:∃w,(fF t s.aj.length ⟨order,1,0,false⟩ 0).2=w:=⟨_,rfl⟩;rw[hw]at hP⊢;rw[if_neg (show¬ai .neq 0 0=true by decide),if_neg (by rw[hP.HV.2.2.1];show¬ai .neq (j_ 1 0 false) 1=true;decide)];have hiff:(∀i w,Kn i w->dD [⟨item,aE,q,1⟩] i w<=(cellOf t.cells i w).free)↔q<=(cellOf s.cells item aE).free:=by
    rw[hcl];constructor
    · intro hall
      have:=hall item aE hk;rw[Bl,if_pos ⟨rfl,rfl⟩]at this;exact this
    · intro hq i w hw
      rw[Bl];split
      · rename_i e
        obtain⟨rfl,rfl⟩:=e;exact hq
      · have:=b8.1 (cZ h.ok.cells hw).1
        omega
  have Wb:w.why=0/\q<=(cellOf s.cells item aE).free\/w.why=13/\¬q<=(cellOf s.cells item aE).free:=by
    rcases hP.why with h0|⟨-,ha,-⟩|⟨Rd,-,-,-,hn⟩
    · exact .inl ⟨h0,hiff.1 (hP.res h0 rfl rfl rfl)⟩
    · exact absurd ha (show¬lM (j_ 1 0 false)=true by decide)
    · exact .inr ⟨Rd,λhq=>hn (hiff.2 hq)⟩
  rcases Wb with⟨h0,hq⟩|⟨Rd,hq⟩
  · rw[hD,decide_eq_true hq]at hc⊢
    rw[h0,if_neg (by decide),hc rfl,if_neg (by decide)]
  · rw[hD,decide_eq_false hq,Rd,if_neg (by decide)]
    split
    · rw[if_neg (by decide)]
    · rfl
theorem Kr (limit:Int)(bp:List Act)(item aE order:Int)(hw:∀a∈bp,a.wf)(hl:bp.length<=4611686018427387904):g8 limit bp item aE order=some true:=by
 unfold g8;rw[lO,Option.bind_some,if_neg (by decide),vM,Option.bind_some];by_cases c:0<=limit/\limit<=1024
 case neg=>
  rw[if_neg c];dsimp only;rw[if_pos (by decide)];by_cases c0:limit<0
  ·rw[if_pos (by simpa[ai]using c0)]
  ·rw[if_neg (by simpa[ai]using c0)];simp[ai];omega
 rw[if_pos c];dsimp only;rw[if_neg (by decide),qG (gr c) hw hl,Option.bind_some];have h:=kN (bp:=bp) (gr c);obtain⟨s,hs⟩:∃s,oB (wU limit) bp=s:=⟨_,rfl⟩;rw[hs]at h⊢;dsimp only;show(oF s _).bind _=_;have e2:eU s ⟨ByteArray.empty,6,0,[⟨item,aE,0,0⟩]⟩=ga s ⟨ByteArray.empty,6,0,[⟨item,aE,0,0⟩]⟩:=nG h rfl ⟨show(1:Int)<=6 by decide,show(6:Int)<7 by decide⟩;rw[oc h ⟨ByteArray.empty,6,0,[⟨item,aE,0,0⟩]⟩ (by show 1*32<=_;decide),e2,Option.bind_some];dsimp only;rw[if_neg (show¬ai .neq 0 0=true by decide)];by_cases hk:Kn item aE
 case neg=>
  have ev:dM s.cells item aE=(⟨0,0,0,0,0,0⟩,2):=by unfold dM;rw[if_neg (by rw[h.ok.cells];decide),if_neg hk]
  have ef:ga s ⟨ByteArray.empty,6,0,[⟨item,aE,0,0⟩]⟩=(s,⟨2,0,0⟩):=by
   unfold ga;dsimp only;rw[ev];rfl
  rw[ef];rfl
 have ev:dM s.cells item aE=(cellOf s.cells item aE,0):=by unfold dM;rw[if_neg (by rw[h.ok.cells];decide),if_pos hk]
 have ef:ga s ⟨ByteArray.empty,6,0,[⟨item,aE,0,0⟩]⟩=(s,⟨0,0,(cellOf s.cells item aE).free⟩):=by
  unfold ga;dsimp only;rw[ev];rfl
 have Xo:=b8.1 (cZ h.ok.cells hk).1;rw[ef,if_neg (show¬ai .neq 0 0=true by decide)];show((FP s.cells item aE).bind _)=_;rw[Hw _ _ _ h.ok.cells ⟨hk.2.2.1,hk.2.2.2⟩,Option.bind_some];dsimp only;rw[if_neg (by simp[ai])];have Wc:aH .add .i64 (cellOf s.cells item aE).free 0=(cellOf s.cells item aE).free:=by simp only[aH,wrap64];omega
 have Re:aH .add .i64 (cellOf s.cells item aE).free 1=(cellOf s.cells item aE).free+1:=by simp only[aH,wrap64];omega
 have i01:aH .add .i64 0 1=1:=by decide
 have zo:aH .add .i64 1 1=2:=by decide
 have r0:=aam h order item aE (cellOf s.cells item aE).free hk true (by simp) (X:=some (.inl 1)) (c1:=false) (λ_=>rfl);have r1:=aam h order item aE ((cellOf s.cells item aE).free+1) hk false (by symm;rw[decide_eq_false_iff_not];omega) (X:=some (.inl 2)) (c1:=true) (λh=>by cases h);rw[show(1000000:Nat)=999997+1+1+1 from rfl];rw[iB,if_pos (show ai .lss 0 2=true by decide)];simp only[Wc,i01];have k0:∀(p:Option (Int⊕(Unit⊕Unit)))(f:Int⊕(Unit⊕Unit)->Option (Unit⊕Unit))(z:Option (Unit⊕Unit)),p=some (.inl 1)->f (.inl 1)=z->p.bind f=z:=λp f z hp hf=>by rw[hp];exact hf
 have k1:∀(p:Option (Int⊕(Unit⊕Unit)))(f:Int⊕(Unit⊕Unit)->Option (Unit⊕Unit))(z:Option (Unit⊕Unit)),p=some (.inl 2)->f (.inl 2)=z->p.bind f=z:=λp f z hp hf=>by rw[hp];exact hf
 have fin:∀(o:Option (Unit⊕Unit)),o=some (.inr ())->(o.bind λVX=>match VX with| .inl _=>some false| .inr _=>some true)=some true:=λo ho=>by rw[ho];rfl
 refine fin _ (k0 _ _ _ r0 ?_);dsimp only;rw[iB,if_pos (show ai .lss 1 2=true by decide)];simp only[Re,zo];refine k1 _ _ _ r1 ?_;dsimp only;rw[iB,if_neg (show¬ai .lss 2 2=true by decide)];rfl
include hP
theorem Ie:Oe P td 8 [3,57,3,3,3]:=by
 intro xs hx;obtain⟨x,ys,rfl,h1,h2⟩:=bN hx;obtain⟨y,zs,rfl,h3,h4⟩:=bN h2;obtain⟨u,us,rfl,h5,h6⟩:=bN h4;obtain⟨w,ws,rfl,h7,h8⟩:=bN h6;obtain⟨q,qs,rfl,h9,h10⟩:=bN h8;obtain rfl:=jG h10;obtain⟨limit,rfl⟩:=sn h1;obtain⟨bp,rfl,hw,hl⟩:=oa h3;obtain⟨item,rfl⟩:=sn h5;obtain⟨aE,rfl⟩:=sn h7;obtain⟨order,rfl⟩:=sn h9;exact lP (haveI:=Pg.mk hP;rt (Kr limit bp item aE order hw hl)) (.cons (.pure rfl) (.cons (.pure rfl) (.cons (.pure rfl) (.cons (.pure rfl) (.cons (.pure rfl) .nil))))) rfl
end Go.Proofs.aaa
end
section
namespace Go.Proofs.aaa
open Go.bA Go.IntWalk
variable{P:Program}(hP:P=Tryz.prog)
theorem mE {α ρ:Type}{step:Unit->Int->α->Option (Unit⊕ρ)}{l:List α}(hl:l.length<=4611686018427387904)(h:∀(i:Int) x,x∈l->step () i x=some (.inl ())):bh step l ()=some (.inl ()):=by
 rcases cP (step:=step) (l:=l) (s0:=()) (λ_ _=>True) (λ_=>False) hl trivial (λj x s hx _=>.inl ⟨(),h j x (List.mem_of_getElem? hx),trivial⟩)with⟨u,e,-⟩|⟨r,-,hb⟩
 ·exact e
 ·exact hb.elim
theorem vP {α σ ρ:Type}{step:σ->Int->α->Option (σ⊕ρ)}{l:List α}{s0:σ}(f:Nat->σ)(hl:l.length<=4611686018427387904)(h0:f 0=s0)(h:∀(j:Nat) x,l[j]?=some x->step (f j) j x=some (.inl (f (j+1)))):bh step l s0=some (.inl (f l.length)):=by
 rcases cP (step:=step) (l:=l) (s0:=s0) (λj s=>s=f j) (λ_=>False) hl h0.symm (λj x s hx hs=>.inl ⟨f (j+1),by rw[hs];exact h j x hx,rfl⟩)with⟨u,e,hu⟩|⟨r,-,hb⟩
 ·rw[e,hu]
 ·exact hb.elim
theorem fh {α β:Type}{o:Option α}{a:α}{f:α->Option β}{r:Option β}(h:o=some a)(hf:f a=r):o.bind f=r:=by rw[h];exact hf
theorem NO {o:Order}{g:Option aC}{p:aQ}{sh:Int}{n:Nat}(h:cn o g p sh n)(hp:1<=o.aP/\o.aP<=1152921504606846976):
  0<=p.aX/\p.aX<=p.aT/\p.aT<=o.aP/\(o.status=3->p.aT -p.aX=o.aP/\p.bC=0)/\(o.status=2\/o.status=5\/o.status=7->p.aT -p.aX=0/\p.bC=0):=by
 cases g with
 |none=>unfold cn at h;omega
 |some x=>unfold cn fT gf at h;simp only at h;omega
theorem Inv.Rf {s:State}(h:Inv s){o:Order}(ho:o∈s.aa):0<=(aG s.af o.id).aX/\(aG s.af o.id).aX<=(aG s.af o.id).aT/\(aG s.af o.id).aT<=o.aP/\(o.status=3->(aG s.af o.id).aT -(aG s.af o.id).aX=o.aP/\(aG s.af o.id).bC=0)/\(o.status=2\/o.status=5\/o.status=7->(aG s.af o.id).aT -(aG s.af o.id).aX=0/\(aG s.af o.id).bC=0):=
 NO (h.ph o ho) (h.ok.jv ho).2
theorem DV {s:State}(h:Inv s):Mo s=some true:=by
 have ht:=h.sized.typed;unfold Mo;refine fh (mE ht.aa λi x hx=> ?_) rfl;rw[Hy _ _ ht.aK,Option.bind_some];have hp:=h.Rf hx;have hq:=(h.ok.jv hx).2;generalize aG s.af x.id=p at hp;obtain⟨a1,a2,a3,a4,a5⟩:=hp;have e:aH .sub .i64 p.aT p.aX=p.aT -p.aX:=by simp only[aH,wrap64];omega
 simp only[e,ai,beq_iff_eq,bne_iff_ne,decide_eq_true_eq,ne_eq]
 repeat' (first|rfl|(refine mg (λ_=> ?_) (λ_=> ?_))|(exfalso;omega))
def oL (a:Act)(r:bz)(i w:Int):Int:=if a.mS=false/\a.ask.kind=4/\r.why=0 then dD a.ask.lines i w else 0
def mM:List Act->List bz->Int->Int->Int
 |a::l,r::rs,i,w=>oL a r i w+mM l rs i w
 |_,_,_,_=>0
theorem sq (a:Act)(r:bz)(i w:Int):∀(l:List Act)(rs:List bz),l.length=rs.length->mM (l++[a]) (rs++[r]) i w=mM l rs i w+oL a r i w
 |[],[],_=>by show oL a r i w+0=0+oL a r i w;omega
 |b::l,q::rs,h=>by
  have:=sq a r i w l rs (by simpa using h);show oL b q i w+mM (l++[a]) (rs++[r]) i w=oL b q i w+mM l rs i w+oL a r i w;omega
def wr (n:Int):Int:=IntKind.i64.wrap n
theorem Ks (A q:Int):aH .add .i64 (wr A) q=wr (A+q):=by simp only[aH,wr,wrap64];omega
theorem vQ (l:List aU)(i w A:Int)(hl:l.length<=4611686018427387904):(bh (λ(lu:Int)(_:Int)(zG:aU)=>
  if(ai .eql zG.item i)=true then
   if(ai .eql zG.aE w)=true then
    some (.inl (aH .add .i64 lu zG.gF))
   else some (.inl lu)
  else some (.inl lu)) l (wr A):Option ((Int)⊕(Empty)))=some (.inl (wr (A+dD l i w))):=by
 rcases cP (step:=λ(lu:Int)(Ak:Int)(zG:aU)=>
  if(ai .eql zG.item i)=true then
   if(ai .eql zG.aE w)=true then
    some (.inl (aH .add .i64 lu zG.gF))
   else some (.inl lu)
  else some (.inl lu)) (l:=l) (s0:=wr A) (λj s=>s=wr (A+dD (l.take j) i w)) (λ(_:Empty)=>False) hl (by rw[List.take_zero];show _=wr (A+0);rw[Int.add_zero]) (λj x s hx hs=>by
     subst hs;refine .inl ?_;have e:dD (l.take (j+1)) i w=dD (l.take j) i w+if x.item=i/\x.aE=w then x.gF else 0:=by
      rw[take_one hx];unfold dD;rw[nC];congr 1;simp[dI]
     rw[e];simp only[ai,beq_iff_eq];by_cases c1:x.item=i
     ·by_cases c2:x.aE=w
      ·exact⟨_,by rw[if_pos c1,if_pos c2],by rw[Ks,if_pos ⟨c1,c2⟩,Int.add_assoc]⟩
      ·exact⟨_,by rw[if_pos c1,if_neg c2],by rw[if_neg (λe=>c2 e.2),Int.add_zero]⟩
     ·exact⟨_,by rw[if_neg c1],by rw[if_neg (λe=>c1 e.1),Int.add_zero]⟩)with⟨u,e,hu⟩|⟨r,-,hb⟩
 · rw[List.take_length]at hu;rw[<-hu];exact e
 · exact hb.elim
theorem Kt (bp:List Act)(rs:List bz)(i w:Int)(hw:∀a∈bp,a.wf)(hl:bp.length<=4611686018427387904)(he:bp.length=rs.length):Om bp rs i w=some (wr (mM bp rs i w)):=by
 unfold Om;refine fh (a:=.inl (wr (mM bp rs i w))) ?_ rfl;refine(vP (λj=>wr (mM (bp.take j) (rs.take j) i w)) hl (by rw[List.take_zero];rfl) λj x hx=> ?_).trans ?_
 ·obtain⟨r,hr⟩:∃r,rs[j]?=some r:=⟨rs[j]'(by have:=(List.getElem?_eq_some_iff.1 hx).1;omega),List.getElem?_eq_getElem _⟩
  have hj:=(List.getElem?_eq_some_iff.1 hx).1;rw[take_one hx,take_one hr,sq _ _ _ _ _ _ (by simp[he])];show(if x.mS=true then _ else _)=_;unfold oL
  cases hp:x.mS with
  |true=>rw[if_pos rfl,if_neg (λe=>by cases e.1),Int.add_zero]
  |false=>
   rw[if_neg (by decide)];by_cases c1:x.ask.kind=4
   ·rw[if_neg (by simp[ai,c1]),cT (by omega) (by rw[Int.toNat_natCast];exact hr),Option.bind_some];by_cases c2:r.why=0
    ·rw[if_neg (by simp[ai,c2]),if_pos ⟨rfl,c1,c2⟩];have h32:=(hw x (List.mem_of_getElem? hx)).1.lines;exact fh (vQ _ _ _ _ (by omega)) rfl
    ·rw[if_pos (by simpa[ai]using c2),if_neg (λe=>c2 e.2.2),Int.add_zero]
   ·rw[if_pos (by simpa[ai]using c1),if_neg (λe=>c1 e.2.1),Int.add_zero]
 ·rw[List.take_length,show rs.take bp.length=rs by rw[he,List.take_length]]
theorem NP {s:State}(h:Inv s)(a:Act)(hm:a.ask.mark=ByteArray.empty)(i w:Int)(hk:Kn i w):(cellOf (Fj s a).1.cells i w).all=(cellOf s.cells i w).all+oL a (Fj s a).2.1 i w:=by
 unfold oL Fj
 cases hp:a.mS with
 |true=>
  rw[if_pos rfl,if_neg (c:=true=false/\_) (λe=>by cases e.1),Int.add_zero];rcases gJ h a.pick (v:=a.verdict)with⟨-,e⟩|⟨-,-,e⟩|⟨-,k,x,o,-,-,-,e,hp⟩
  ·rw[e,if_pos (by decide)]
  ·rw[e,if_pos (by decide)]
  ·rw[e,if_neg (show¬(0:Int)≠0 by decide)];obtain⟨d,hd,ht,-⟩:=hp.zw;show(cellOf (fF s k x a.verdict).1.cells i w).all=_;rw[ht];have:(eY s d k x (fF s k x a.verdict).2.why).1.cells=d.cells:=by unfold eY;split<;>rfl
   rw[this];exact(hd.cell i w hk).2.2
 |false=>
  rw[if_neg (by decide)];show(cellOf (eU s a.ask).1.cells i w).all=_+if false=false/\a.ask.kind=4/\(eU s a.ask).2.why=0 then _ else 0;by_cases c:1<=a.ask.kind/\a.ask.kind<7
  ·rw[nG h hm c,(DU h a.ask).all i w hk]
   congr 1
   by_cases c2:a.ask.kind=4/\(dG s a.ask).2.why=0
   ·rw[if_pos c2,if_pos ⟨rfl,c2⟩]
   ·rw[if_neg c2,if_neg (λe=>c2 e.2)]
  ·have:eU s a.ask=(s,⟨15,0,0⟩):=by unfold eU;rw[if_pos (by omega)]
   rw[this,if_neg (λe=>by have:a.ask.kind=4:=e.2.1;omega),Int.add_zero]
theorem Rg (j:Nat){n:Nat}(h:j<n)(hn:n<=4611686018427387904):aH .add .i64 (j:Int) 1=((j+1:Nat):Int):=by simp only[aH,wrap64];omega
theorem zy {l:List Cell}(h:b7 l=true){c:Cell}(hc:c∈l):ew c=true/\Kn c.item c.aE/\cellOf l c.item c.aE=c:=by
 obtain⟨-,h2,h3⟩:=cE.1 h;have hf:=b8.1 (h2 c hc);refine⟨h2 c hc,⟨hf.1,hf.2.1,hf.2.2.1,hf.2.2.2.1⟩, ?_⟩;unfold cellOf;have:bq Cell.key l (c.item*2000+c.aE)=some c:=mC h3 hc;rw[this]
theorem Ku (limit:Int)(bp:List Act)(hw:∀a∈bp,a.wf)(hl:bp.length*24<=140737488355328):g5 limit bp=some true:=by
 unfold g5;rw[lO,Option.bind_some,if_neg (by decide),vM,Option.bind_some];by_cases c:0<=limit/\limit<=1024
 case neg=>
  rw[if_neg c];dsimp only;rw[if_pos (by decide)];by_cases c0:limit<0
  ·rw[if_pos (by simpa[ai]using c0)]
  ·rw[if_neg (by simpa[ai]using c0)];simp[ai];omega
 rw[if_pos c];dsimp only;rw[if_neg (by decide)];have round:∀(step:(List bz×wV)->Int->Act->Option ((List bz×wV)⊕Unit)),(∀(j:Nat)(x:Act)(rs:List bz)(t:State),bp[j]?=some x->Inv t->rs.length=j->(∀i w,Kn i w->(cellOf t.cells i w).all=mM (bp.take j) rs i w)->
   ∀D,D=Fj t ⟨x.mS,⟨ByteArray.empty,x.ask.kind,x.ask.order,x.ask.lines⟩,x.pick,x.verdict⟩->Inv D.1->(∀i w,Kn i w->(cellOf D.1.cells i w).all=mM (bp.take (j+1)) (rs++[D.2.1]) i w)->step (rs,lQ t) j x=some (.inl (rs++[D.2.1],lQ D.1)))->
   ∀K:(List bz×wV)⊕Unit->Option Bool,(∀u,K (.inl u)=some true)->(bh step bp ([],lQ (wU limit))).bind K=some true:=by
  intro step hs K hK;rcases cP (step:=step) (l:=bp) (s0:=([],lQ (wU limit))) (λj s=>∃t,s=(s.1,lQ t)/\Inv t/\s.1.length=j/\∀i w,Kn i w->(cellOf t.cells i w).all=mM (bp.take j) s.1 i w) (λ(_:Unit)=>False) (by omega)
   ⟨wU limit,rfl,gr c,rfl,λi w _=>rfl⟩ (λj x s hx ⟨t,hst,ht,hlen,hall⟩=>by
    obtain⟨rs,tt⟩:=s;obtain rfl:tt=lQ t:=congrArg Prod.snd hst;have hx':=hw x (List.mem_of_getElem? hx);obtain⟨D,hD⟩:∃D,D=Fj t ⟨x.mS,⟨ByteArray.empty,x.ask.kind,x.ask.order,x.ask.lines⟩,x.pick,x.verdict⟩:=⟨_,rfl⟩;have hi:Inv D.1:=by rw[hD];exact CX ht _
    have ha:∀i w,Kn i w->(cellOf D.1.cells i w).all=mM (bp.take (j+1)) (rs++[D.2.1]) i w:=λi w hk=>by
     have hj:=(List.getElem?_eq_some_iff.1 hx).1;have hlen':rs.length=j:=hlen;rw[take_one hx,sq _ _ _ _ _ _ (by rw[hlen',List.length_take];omega)];have:=NP ht ⟨x.mS,⟨ByteArray.empty,x.ask.kind,x.ask.order,x.ask.lines⟩,x.pick,x.verdict⟩ rfl i w hk;rw[hD,this,hall i w hk];rfl
    exact .inl ⟨(rs++[D.2.1],lQ D.1),hs j x rs t hx ht hlen hall D hD hi ha,D.1,rfl,hi,by have:rs.length=j:=hlen;simp[this],ha⟩)with⟨u,e,-⟩|⟨r,-,hb⟩
  ·rw[e];exact hK u
  ·exact hb.elim
 refine round _ (λj x rs t hx ht hlen hall D hD hi ha=> ?_) _ (λu=>rfl)
 ·have hj:=(List.getElem?_eq_some_iff.1 hx).1;have hx':=hw x (List.mem_of_getElem? hx);have hw':(⟨x.mS,⟨ByteArray.empty,x.ask.kind,x.ask.order,x.ask.lines⟩,x.pick,x.verdict⟩:Act).wf:=⟨⟨Nat.zero_le _,hx'.1.2⟩,hx'.2⟩;have ei:=Rg j hj (by omega);refine(if_pos ?_).trans ?_
  ·rw[ei,fK];simp[okB];omega
  refine fh (a:=D) ((H6 ht _ hw').trans (by rw[hD])) ?_;dsimp only;refine(if_pos (decide_eq_true (by simp;omega))).trans ?_;refine fh (a:=0) ((zj D.1 hi.sized.typed).trans (by rw[hi.e0])) ?_;refine(if_neg (by decide)).trans (fh (DV hi) ((if_neg (by decide)).trans ?_));refine fh (mE hi.sized.typed.cells λi cl hc=> ?_) rfl;obtain⟨f1,f2,f3⟩:=zy hi.ok.cells hc;have hf:=b8.1 f1;refine(if_neg (by simp[ai];omega)).trans ((if_neg (by simp[ai];omega)).trans ((if_neg (by simp[ai];omega)).trans ?_));have ep:AM bp 0 (aH .add .i64 (j:Int) 1)=bp.take (j+1):=by rw[ei];simp[AM]
  rw[ep,Kt _ _ _ _ (λa h=>hw a (List.mem_of_mem_take h)) (by rw[List.length_take];omega) (by rw[List.length_take,List.length_append,hlen,List.length_singleton];omega),Option.bind_some,<-ha _ _ f2,f3];refine if_neg ?_;have e1:aH .add .i64 (aH .add .i64 cl.free cl.held) cl.out=cl.free+cl.held+cl.out:=by simp only[aH,wrap64];omega
  have e2:wr cl.all=cl.all:=by simp only[wr,wrap64];omega
  rw[e1,e2];simp[ai];omega
theorem Fs {x:AV}(h:yU td 57 x):∃l:List Act,x=aq Act.ts 7 l/\(∀y∈l,y.wf)/\l.length*24<=140737488355328:=by
 obtain⟨l,hf,rfl⟩:=lA h (d:=(td 57).get rfl) rfl;obtain⟨r,rfl,u,v,_⟩:=nO (e:=61) (ed:=(td 61).get rfl) rfl (d:=(td 57).get rfl) rfl rfl hf;obtain⟨n,rfl,w⟩:=jT (λr hr=>Act.fit hr) r u;have hr:reachBytes=140737488351232:=rfl;have hb:24<=((td 61).get rfl).bytes:=by decide
 refine⟨n,rfl,w, ?_⟩;rw[List.length_map]at v;have:=Nat.mul_le_mul_left n.length hb;omega
include hP
theorem Ft:Oe P td 5 [3,57]:=by
 intro xs hx;obtain⟨x,ys,rfl,h1,h2⟩:=bN hx;obtain⟨y,zs,rfl,h3,h4⟩:=bN h2;obtain rfl:=jG h4;obtain⟨limit,rfl⟩:=sn h1;obtain⟨bp,rfl,hw,hl⟩:=Fs h3;exact lP (haveI:=Pg.mk hP;rt (Ku limit bp hw hl)) (.cons (.pure rfl) (.cons (.pure rfl) .nil)) rfl
end Go.Proofs.aaa
end
section
namespace Go.Proofs.aaa
open Go.bA Go.IntWalk
variable{P:Program}(hP:P=Tryz.prog)
abbrev fN (x:aC):Int:=jf x.kind x.pos x.aO
def fG (s:State):Int:=dI fN s.aj
theorem od {s:State}(h:Inv s){x:aC}(hx:x∈s.aj):1<=fN x/\fN x<=5:=by
 obtain⟨o,-,-,h1,h2⟩:=h.ok.nA.jm x hx;exact⟨(xU h1 h2).2.2,(zz h1).2⟩
theorem pH {α:Type}(f:α->Int)(b:Int):∀(l:List α),(∀x∈l,0<=f x/\f x<=b)->0<=dI f l/\dI f l<=b*l.length
 |[],_=>by simp[dI]
 |x::l,h=>by
  have h1:=h x List.mem_cons_self;have h2:=pH f b l λy hy=>h y (List.mem_cons_of_mem _ hy);rw[cQ,List.length_cons,show((l.length+1:Nat):Int)=(l.length:Int)+1 from rfl,Int.mul_add];omega
theorem Kv {s:State}(h:Inv s):0<=fG s/\fG s<=5120:=by
 have hf:=bX.wO h.ok;have:=pH fN 5 s.aj λx hx=>by have:=od h hx;omega
 unfold fG;omega
theorem zA {s:State}(h:Inv s):yJ s=some (fG s,0):=by
 have hf:=bX.wO h.ok;unfold yJ;rw[zj s h.sized.typed,h.e0,Option.bind_some,if_neg (by decide)];refine fh (a:=.inl (fG s)) ?_ rfl;rcases cP (step:=λ(s3:Int)(i5:Int)(x7:aC)=>(hleft x7).bind λgO=>some (Sum.inl (aH .add .i64 s3 gO.1))) (l:=s.aj) (s0:=(0:Int)) (λj n=>n=dI fN (s.aj.take j)) (λ(_:Empty)=>False) (by omega) rfl (λj x n hx hn=>by
   subst hn;have hm:=List.mem_of_getElem? hx;have hl:=od h hm;have hb:=pH fN 5 (s.aj.take j) λy hy=>by have:=od h (List.mem_of_mem_take hy);omega
   have hj:(s.aj.take j).length<=s.aj.length:=by rw[List.length_take];omega
   refine .inl ⟨dI fN (s.aj.take (j+1)), ?_,rfl⟩;rw[take_one hx,nC];have e:dI fN [x]=fN x:=by simp[dI]
   rw[e];show some (Sum.inl (aH .add .i64 _ (fN x)))=_
   congr 2
   simp only[aH,wrap64];omega)with⟨u,e,hu⟩|⟨r,-,hb⟩
 ·rw[List.take_length]at hu;rw[e,hu];rfl
 ·exact hb.elim
theorem Bm {α:Type}(f:α->Int):∀{l:List α}{k:Nat}{x:α}(y:α),l[k]?=some x->dI f (l.set k y)+f x=dI f l+f y
 |[],_,_,_,h=>by simp at h
 |a::l,0,x,y,h=>by
  have:a=x:=by simpa using h
  subst this;rw[List.set_cons_zero,cQ,cQ];omega
 |a::l,k+1,x,y,h=>by
  have:=Bm f (l:=l) y (by simpa using h);rw[List.set_cons_succ,cQ,cQ];omega
theorem pI {α:Type}(f:α->Int):∀{l:List α}{k:Nat}{x:α},l[k]?=some x->dI f (l.eraseIdx k)+f x=dI f l
 |[],_,_,h=>by simp at h
 |a::l,0,x,h=>by
  have:a=x:=by simpa using h
  subst this;rw[List.eraseIdx_cons_zero,cQ];omega
 |a::l,k+1,x,h=>by
  have:=pI f (l:=l) (k:=k) (x:=x) (by simpa using h);rw[List.eraseIdx_cons_succ,cQ,cQ];omega
theorem Ig {x:aC}(h1:cF x.kind x.pos x.aO=0)(h2:dc x.kind x.pos x.aO=true):fN (cM x true)+1=fN x/\(dc (cM x true).kind (cM x true).pos (cM x true).aO=false->fN (cM x true)=0):=by
 obtain⟨xo,xk,xp,xu⟩:=x;simp only at h1 h2;show jf (wQ xk xp xu) (wR xk xp xu true) (wS xk xp xu true)+1=jf xk xp xu/\(dc (wQ xk xp xu) (wR xk xp xu true) (wS xk xp xu true)=false->jf (wQ xk xp xu) (wR xk xp xu true) (wS xk xp xu true)=0);rcases iQ h1 h2 with⟨rfl,rfl,hp⟩|⟨hk,rfl,hp⟩|⟨rfl,rfl,hp⟩
 ·rcases hp with rfl|rfl|rfl|rfl|rfl<;>exact⟨by decide,by decide⟩
 ·rcases hk with rfl|rfl<;>rcases hp with rfl|rfl|rfl|rfl<;>exact⟨by decide,by decide⟩
 ·rcases hp with rfl|rfl|rfl<;>exact⟨by decide,by decide⟩
theorem Fu {s:State}(h:Inv s){k:Nat}{x:aC}(hx:s.aj[k]?=some x){o:Order}{t:State}{w:Told}(hp:vK s k x o 0 t w):fG t+1<=fG s/\(w.why≠0->w.step=1):=by
 obtain⟨o',-,-,hc,hn⟩:=h.ok.jm hx;obtain⟨d,-,ht,-⟩:=hp.zw;have hl:=od h (List.mem_of_getElem? hx);rcases hp.why with h0|⟨-,-,h1⟩|⟨Rd,hk,hpos,hu,-⟩
 ·refine⟨?_,λe=>absurd h0 e⟩;obtain⟨a1,a2⟩:=Ig hc hn;rw[ht,h0];unfold eY;by_cases c:dc (cM x ((0:Int)==0)).kind (cM x ((0:Int)==0)).pos (cM x ((0:Int)==0)).aO=true
  ·rw[if_pos c];have:=Bm fN (cM x true) hx;show dI fN (s.aj.set k (cM x true))+1<=dI fN s.aj;omega
  ·rw[if_neg c];have:=pI fN hx;have:=a2 (by simpa using c);show dI fN (s.aj.eraseIdx k)+1<=dI fN s.aj;omega
 ·cases h1
 ·refine⟨?_,λ_=> ?_⟩
  ·obtain⟨xo,xk,xp,xu⟩:=x;simp only at hk hpos hu;subst hk hpos hu;rw[ht,Rd];unfold eY;rw[if_neg (by show¬dc (cM ⟨xo,1,0,false⟩ false).kind (cM ⟨xo,1,0,false⟩ false).pos (cM ⟨xo,1,0,false⟩ false).aO=true;show¬dc (wQ 1 0 false) (wR 1 0 false false) (wS 1 0 false false)=true;decide)];have:=pI fN hx;show dI fN (s.aj.eraseIdx k)+1<=dI fN s.aj;omega
  ·rw[hp.HV.2.2.1];show j_ x.kind x.pos x.aO=1;rw[hk,hpos,hu];decide
theorem Fv {s:State}(h:Inv s)(hp:fG s<=0):s.aj=[]:=by
 cases hs:s.aj with
 |nil=>rfl
 |cons x l=>
  have h1:=od h (x:=x) (by rw[hs];exact List.mem_cons_self);have h2:=kK (f:=fN) (l:=l) λy hy=>by have:=od h (x:=y) (by rw[hs];exact List.mem_cons_of_mem _ hy);omega
  unfold fG at hp;rw[hs,cQ]at hp;omega
theorem xV {ρ:Type}{body:Int×wV->Option ((Int×wV)⊕(ρ⊕State))}(left:Int)(hl:left<=5120)
  (go:∀(i:Int) s,Inv s->0<=i->i<left->s.aj≠[]->∃t,body (i,lQ s)=some (.inl (i+1,lQ t))/\Inv t/\fG t+1<=fG s)
  (stop:∀(i:Int) s,Inv s->(¬i<left\/s.aj=[])->body (i,lQ s)=some (.inr (.inr s))):∀(n:Nat)(i:Int)(s:State),Inv s->0<=i->i<=left->fG s<=left -i->left -i<n->∃t,iB body n (i,lQ s)=some (.inr t)/\Inv t/\t.aj=[]
 |0,i,s,_,_,_,_,h=>by omega
 |n+1,i,s,h,h0,h1,h2,h3=>by
  rw[iB];by_cases c:i<left/\s.aj≠[]
  ·obtain⟨t,e,ht,hp⟩:=go i s h h0 c.1 c.2;rw[e,Option.bind_some];exact xV left hl go stop n (i+1) t ht (by omega) (by omega) (by omega) (by omega)
  ·rw[stop i s h (by by_cases c1:i<left;exact .inr (Decidable.not_not.1 λe=>c ⟨c1,e⟩);exact .inl c1),Option.bind_some];refine⟨s,rfl,h, ?_⟩;by_cases c1:i<left
   ·exact Decidable.not_not.1 λe=>c ⟨c1,e⟩
   ·exact Fv h (by omega)
theorem Kw {s:State}(h:Inv s)(i w:Int):Cw s i w=some (wr (dI (λo=>if o.status=3 then dD o.lines i w else 0) s.aa)):=by
 have ht:=h.sized.typed;unfold Cw;refine fh (a:=.inl (wr (dI (λo=>if o.status=3 then dD o.lines i w else 0) s.aa))) ?_ rfl;refine(vP (λj=>wr (dI (λo=>if o.status=3 then dD o.lines i w else 0) (s.aa.take j))) ht.aa (by rw[List.take_zero];rfl) λj x hx=> ?_).trans (by rw[List.take_length]);have hm:=List.mem_of_getElem? hx;rw[take_one hx,nC];have e:dI (λo:Order=>if o.status=3 then dD o.lines i w else 0) [x]=if x.status=3 then dD x.lines i w else 0:=by simp[dI]
 rw[e];have hlen:=ht.lines x hm;by_cases c:x.status=3
 ·rw[if_pos c];refine fh (a:=.inl (wr (dI (λo=>if o.status=3 then dD o.lines i w else 0) (s.aa.take j)+dD x.lines i w))) ?_ rfl;have:=vQ x.lines i w (dI (λo=>if o.status=3 then dD o.lines i w else 0) (s.aa.take j)) hlen;refine Eq.trans ?_ this
  congr 1
  funext s9 XT L3;exact if_pos (by simp[ai,c])
 ·rw[if_neg c,Int.add_zero];have idle:∀(N:Int)(step:Int->Int->aU->Option (Int⊕Empty))(K:Int⊕Empty->Option (Int⊕Empty)),(∀j' x',step N j' x'=some (.inl N))->K (.inl N)=some (.inl N)->(bh step x.lines N).bind K=some (.inl N):=λN step K h1 h2=>by
   rw[vP (λ_=>N) hlen rfl λj' x' _=>h1 _ x'];exact h2
  exact idle _ _ _ (λj' x'=>if_neg (by simp[ai,c])) rfl
theorem Ih {s:State}(h:Inv s)(hs:s.aj=[]){c:Cell}(hc:c∈s.cells):c.held=0/\c.out=dI (λo=>if o.status=3 then dD o.lines c.item c.aE else 0) s.aa:=by
 obtain⟨-,f2,f3⟩:=zy h.ok.cells hc;obtain⟨a,b⟩:=h.held _ _ f2;rw[f3]at a b;rw[a,b];unfold DR Kh;rw[hs];refine⟨E7 λo _=>by simp[CL,cN,one],iP λo _=> ?_⟩;rw[CL];by_cases e:o.status=3<;>simp[gh,one,e]
theorem NQ {s:State}(h:Inv s)(hs:s.aj=[]){o:Order}(ho:o∈s.aa):(o.status=2\/o.status=3\/o.status=5\/o.status=7)/\(aG s.af o.id).bC=0:=by
 have:=h.ph o ho;rw[hs,CL]at this;unfold cn at this;omega
theorem Kx (limit:Int)(bp:List Act)(kG:List Int)(hw:∀a∈bp,a.wf)(hl:bp.length<=4611686018427387904):g6 limit bp kG=some true:=by
 unfold g6;rw[lO,Option.bind_some,if_neg (by decide),vM,Option.bind_some];by_cases c:0<=limit/\limit<=1024
 case neg=>
  rw[if_neg c];dsimp only;rw[if_pos (by decide)];by_cases c0:limit<0
  ·rw[if_pos (by simpa[ai]using c0)]
  ·rw[if_neg (by simpa[ai]using c0)];simp[ai];omega
 rw[if_pos c];dsimp only;rw[if_neg (by decide),qG (gr c) hw hl,Option.bind_some];have h:=kN (bp:=bp) (gr c);obtain⟨s,hs⟩:∃s,oB (wU limit) bp=s:=⟨_,rfl⟩;rw[hs]at h⊢;dsimp only;have hp:=Kv h;refine fh (a:=(fG s,0)) (zA h) ?_;refine(if_neg (show¬ai .neq 0 0=true by decide)).trans ?_;have loop:∀(body:Int×wV->Option ((Int×wV)⊕(Unit⊕State)))(K:Unit⊕State->Option Bool),(∀(i:Int) s',Inv s'->0<=i->i<fG s->s'.aj≠[]->∃t,body (i,lQ s')=some (.inl (i+1,lQ t))/\Inv t/\fG t+1<=fG s')->
   (∀(i:Int) s',Inv s'->(¬i<fG s\/s'.aj=[])->body (i,lQ s')=some (.inr (.inr s')))->(∀t,Inv t->t.aj=[]->K (.inr t)=some true)->(iB body 1000000 (0,lQ s)).bind K=some true:=by
  intro body K h1 h2 h3;obtain⟨t,e,ht,hn⟩:=xV (fG s) hp.2 h1 h2 1000000 0 s h (Int.le_refl _) hp.1 (by omega) (by omega);rw[e];exact h3 t ht hn
 refine loop _ _ (λi s' h' h0 hi hne=> ?_) (λi s' h' u6=> ?_) (λt ht hn=> ?_)
 ·have hlen:s'.aj.length≠0:=λe=>hne (List.length_eq_zero_iff.1 e);have ei:aH .add .i64 i 1=i+1:=by simp only[aH,wrap64];omega
  have one:∀pick,∃t w,uR s' pick 0=some (t,w,0)/\Inv t/\fG t+1<=fG s'/\(w.why≠0->w.step=1):=λpick=>by
   rcases gJ h' pick (v:=0)with⟨hv,-⟩|⟨-,he,-⟩|⟨-,k,x,o,-,hx,-,e,hP⟩
   ·exact absurd hv (by decide)
   ·exact absurd he hne
   ·obtain⟨a1,a2⟩:=Fu h' hx hP;exact⟨_,_,(rZ s' pick 0 h'.sized (by decide)).trans (by rw[e]),hP.inv,a1,a2⟩
  have step:∀pick (X:Option ((Int×wV)⊕(Unit⊕State))),X=(yJ s').bind (λow=>(uR s' pick 0).bind λgL=>(yJ gL.1).bind λq_=>
    if(ai .neq gL.2.2 0)=true then some (.inr (.inl ()))else if(ai .geq q_.1 ow.1)=true then
     if(ai .eql gL.2.1.why 0)=true then some (.inr (.inl ()))else if(ai .neq gL.2.1.step 1)=true then some (.inr (.inl ()))else if(ai .gtr q_.1 ow.1)=true then some (.inr (.inl ()))
     else some (.inl ((aH .add .i64 i 1),gL.1.limit,gL.1.cells,gL.1.af.aK,gL.1.af.ak,gL.1.aA,gL.1.aa,gL.1.aj,gL.1.kept))
    else if(ai .neq gL.2.1.why 0)=true then if(ai .neq gL.2.1.step 1)=true then some (.inr (.inl ()))else if(ai .gtr q_.1 ow.1)=true then some (.inr (.inl ()))
     else some (.inl ((aH .add .i64 i 1),gL.1.limit,gL.1.cells,gL.1.af.aK,gL.1.af.ak,gL.1.aA,gL.1.aa,gL.1.aj,gL.1.kept))
    else some (.inl ((aH .add .i64 i 1),gL.1.limit,gL.1.cells,gL.1.af.aK,gL.1.af.ak,gL.1.aA,gL.1.aa,gL.1.aj,gL.1.kept)))->∃t,X=some (.inl (i+1,lQ t))/\Inv t/\fG t+1<=fG s':=λpick X hX=>by
   obtain⟨t,w,e,ht,hle,hst⟩:=one pick;refine⟨t, ?_,ht,hle⟩;rw[hX,zA h',Option.bind_some,e,Option.bind_some,zA ht,Option.bind_some,ei];refine(if_neg (show¬ai .neq 0 0=true by decide)).trans ((if_neg (by simp[ai];omega)).trans ?_);by_cases cw:w.why=0
   ·exact if_neg (by simp[ai,cw])
   ·exact(if_pos (by simpa[ai]using cw)).trans ((if_neg (by simp[ai,hst cw])).trans (if_neg (by simp[ai];omega)))
  have e1:ai .lss i (fG s)=true:=by simpa[ai]using hi
  have e2:ai .gtr ((s'.aj.map aC.ts).length:Int) 0=true:=by rw[fK];simp[ai];omega
  by_cases cp:i<(kG.length:Int)
  ·obtain⟨x,hx⟩:∃x,kG[i.toNat]?=some x:=⟨kG[i.toNat]'(by omega),List.getElem?_eq_getElem _⟩
   refine step x _ ((if_pos e1).trans ((if_pos e2).trans ((if_pos (by simpa[ai]using cp)).trans ?_)));exact fh (cT h0 hx) rfl
  ·exact step i _ ((if_pos e1).trans ((if_pos e2).trans (if_neg (by simpa[ai]using cp))))
 ·by_cases c1:i<fG s
  ·have hn:s'.aj=[]:=by rcases u6 with e|e;exact absurd c1 e;exact e
   refine(if_pos (by simpa[ai]using c1)).trans (if_neg ?_);show¬ai .gtr ((s'.aj.map aC.ts).length:Int) 0=true;rw[hn];decide
  ·exact if_neg (by simpa[ai]using c1)
 ·have bw:=ht.sized.typed;refine(if_neg (by rw[hn];decide)).trans ?_;refine fh (mE bw.aa λi x hx=> ?_) ?_
  ·obtain⟨hst,hop⟩:=NQ ht hn hx;rw[Hy _ _ bw.aK];simp only[Option.bind_some,ai,bne_iff_ne,ne_eq,hop]
   repeat' (first|rfl|(refine mg (λ_=> ?_) (λ_=> ?_))|(exfalso;omega))
  dsimp only;refine fh (mE bw.cells λi cl hc=> ?_) ?_
  ·obtain⟨r1,r2⟩:=Ih ht hn hc;have hf:=b8.1 (zy ht.ok.cells hc).1;refine(if_neg (by simp[ai,r1])).trans (fh (Kw ht _ _) (if_neg ?_));rw[<-r2];have e2:wr cl.out=cl.out:=by simp only[wr,wrap64];omega
   rw[e2];simp[ai]
  dsimp only;have e3:ee t 0 0=(IX,NG,11):=by
   rcases gJ ht 0 (v:=0)with⟨hv,-⟩|⟨-,-,e⟩|⟨-,k,x,o,-,hx,-⟩
   ·exact absurd hv (by decide)
   ·exact e
   ·rw[hn]at hx;simp at hx
  rw[rZ t 0 0 ht.sized (by decide),e3,Option.bind_some,if_pos (by rfl),DV ht];rfl
theorem Ky {x:AV}(h:yU td 70 x):∃l:List Int,x=aq (v7 .i64) 1 l:=by
 obtain⟨l,hf,rfl⟩:=lA h (d:=(td 70).get rfl) rfl;obtain⟨r,rfl,u,v,_⟩:=nO (e:=3) (ed:=(td 3).get rfl) rfl (d:=(td 70).get rfl) rfl rfl hf;obtain⟨n,rfl,w⟩:=jT (wf:=λ_:Int=>True) (ts:=v7 .i64) (λr hr=>by
  obtain⟨n,rfl,w⟩:=gT (d:=(td 3).get rfl) rfl rfl hr;exact⟨n,rfl,trivial⟩) r u
 exact⟨n,rfl⟩
include hP
theorem Bn:Oe P td 6 [3,57,70]:=by
 intro xs hx;obtain⟨x,ys,rfl,h1,h2⟩:=bN hx;obtain⟨y,zs,rfl,h3,h4⟩:=bN h2;obtain⟨u,us,rfl,h5,h6⟩:=bN h4;obtain rfl:=jG h6;obtain⟨limit,rfl⟩:=sn h1;obtain⟨bp,rfl,hw,hl⟩:=oa h3;obtain⟨kG,rfl⟩:=Ky h5;exact lP (haveI:=Pg.mk hP;rt (Kx limit bp kG hw hl)) (.cons (.pure rfl) (.cons (.pure rfl) (.cons (.pure rfl) .nil))) rfl
end Go.Proofs.aaa
end
section
namespace Go.Proofs.aaa
open Go.bA Go.IntWalk
variable{P:Program}(hP:P=Tryz.prog)
structure aaf (s t:State)(o:Order)(g:Option aC):Prop where
 inv:Inv t
 here:bq Order.id t.aa o.id=some o
 jm:dr t.aj o.id=g
 keys:∀m,(bq Cell.key t.cells m).isSome=(bq Cell.key s.cells m).isSome
 cell:∀i w,Kn i w->(cellOf t.cells i w).held=(cellOf s.cells i w).held+one (cN g)*dD o.lines i w/\(cellOf t.cells i w).out=(cellOf s.cells i w).out+one (gh o g)*dD o.lines i w/\(cellOf t.cells i w).all=(cellOf s.cells i w).all
theorem aaf.good {s t:State}{o:Order}{x:aC}(S:aaf s t o (some x)):x.order=o.id/\gI o.status=x.kind/\cF x.kind x.pos x.aO=0/\dc x.kind x.pos x.aO=true:=by
 obtain⟨hm,he⟩:=nZ S.jm;obtain⟨o',h1,h2,h3,h4⟩:=S.inv.ok.nA.jm x hm;rw[he,S.here]at h1;cases h1;exact⟨he,h2,h3,h4⟩
theorem aaq {s t:State}{o:Order}{x:aC}(S:aaf s t o (some x)){k:Nat}(hx:t.aj[k]?=some x){v:Int}{t':State}{w:Told}(P:vK t k x o v t' w):aaf s t' (eK o (cM x (w.why==0))) (aab (cM x (w.why==0))):=by
 obtain⟨HI,-,-,-⟩:=S.good;obtain⟨d,hA,ht,-⟩:=P.zw;have ho:bq Order.id t.aa x.order=some o:=by rw[HI];exact S.here
 have hA':qE t ⟨t.limit,d.cells,d.af,d.aA,d.aa,d.aj,d.kept⟩ o x (cM x (w.why==0)):=⟨hA.cells,hA.keys,hA.af,hA.aA,hA.others,hA.ph,hA.cell⟩;have T:=zq S.inv hx ho (w:=w.why) hA' rfl;have e1:t'.aa=(eY t ⟨t.limit,d.cells,d.af,d.aA,d.aa,d.aj,d.kept⟩ k x w.why).1.aa:=by rw[ht];unfold eY;split<;>rfl
 have e2:t'.aj=(eY t ⟨t.limit,d.cells,d.af,d.aA,d.aa,d.aj,d.kept⟩ k x w.why).1.aj:=by rw[ht];unfold eY;split<;>rfl
 have e3:t'.cells=d.cells:=by rw[ht];unfold eY;split<;>rfl
 have hl:(eK o (cM x (w.why==0))).lines=o.lines:=by rw[xS]
 refine⟨P.inv, ?_, ?_,λm=>by rw[e3,hA.keys,S.keys],λi v hk=> ?_⟩
 ·rw[e1,T.aa,xS,n_];show Option.map _ (bq Order.id t.aa o.id)=_;rw[S.here];simp
 ·rw[e2,T.aj,xS];exact if_pos rfl
 ·obtain⟨a1,a2,a3⟩:=S.cell i v hk;obtain⟨b1,b2,b3⟩:=hA.cell i v hk;rw[e3,b1,b2,b3,a1,a2,a3,hl];refine⟨?_, ?_,rfl⟩
  ·have:=dq (one (cN (aab (cM x (w.why==0))))) (one (cN (some x))) (dD o.lines i v);omega
  ·have:=dq (one (gh (eK o (cM x (w.why==0))) (aab (cM x (w.why==0))))) (one (gh o (some x))) (dD o.lines i v);omega
theorem aaF:∀{a b:Cell},a.item=b.item->a.aE=b.aE->a.held=b.held->a.out=b.out->a.all=b.all->a.free+a.held+a.out=a.all->b.free+b.held+b.out=b.all->a=b
 |⟨_,_,_,_,_,_⟩,⟨_,_,_,_,_,_⟩,h1,h2,h3,h4,h5,h6,h7=>by
  simp only at*;subst h1 h2 h3 h4 h5
  congr 1;omega
theorem aan {t u:State}(ht:b7 t.cells=true)(hu:b7 u.cells=true)(hk:∀m,(bq Cell.key t.cells m).isSome=(bq Cell.key u.cells m).isSome)
  (h:∀i w,Kn i w->(cellOf t.cells i w).held=(cellOf u.cells i w).held/\(cellOf t.cells i w).out=(cellOf u.cells i w).out/\(cellOf t.cells i w).all=(cellOf u.cells i w).all):t.cells=u.cells:=by
 refine aaD ht hu hk λi w hw=> ?_;obtain⟨a1,a2,a3⟩:=cZ ht hw;obtain⟨b1,b2,b3⟩:=cZ hu hw;obtain⟨c1,c2,c3⟩:=h i w hw;have f1:=b8.1 a1;have f2:=b8.1 b1;exact aaF (a2.trans b2.symm) (a3.trans b3.symm) c1 c2 c3 (by omega) (by omega)
theorem aat {s t:State}{o:Order}(h:Inv s)(S:aaf s t o none)(hs:o.status≠3):t.cells=s.cells:=by
 refine aan S.inv.ok.cells h.ok.cells S.keys λi w hk=> ?_;obtain⟨a1,a2,a3⟩:=S.cell i w hk;have e1:one (cN none)=0:=rfl;have e2:one (gh o none)=0:=by unfold one gh;rw[if_neg (by simpa using hs)]
 rw[a1,a2,a3,e1,e2,Int.zero_mul,Int.add_zero,Int.add_zero];exact⟨rfl,rfl,rfl⟩
theorem aaG {s t u:State}{o p:Order}(S:aaf s t o none)(U:aaf s u p none)(hl:o.lines=p.lines)(hs:o.status=3)(hp:p.status=3):u.cells=t.cells:=by
 refine aan U.inv.ok.cells S.inv.ok.cells (λm=>by rw[U.keys,S.keys]) λi w hk=> ?_;obtain⟨a1,a2,a3⟩:=S.cell i w hk;obtain⟨b1,b2,b3⟩:=U.cell i w hk;rw[a1,a2,a3,b1,b2,b3,hl];unfold gh;dsimp only;rw[hs,hp];exact⟨rfl,rfl,rfl⟩
theorem aau {s t:State}(h:Inv s){order p:Int}{lines:List aU}{sg:List aC}(hf:bq Order.id s.aa order=none)(hi:Inv t)(ho:bq Order.id t.aa order=some ⟨order,lines,p,1⟩)(hc:t.cells=s.cells)(hs:t.aj=sg)(hg:sg=s.aj++[⟨order,1,0,false⟩]):aaf s t ⟨order,lines,p,1⟩ (some ⟨order,1,0,false⟩):=by
 refine⟨hi,ho, ?_,λm=>by rw[hc],λi w _=> ?_⟩
 ·rw[hs,hg];show dr _ order=_;rw[A5 _ ⟨order,1,0,false⟩ (Kk h hf)];exact if_pos rfl
 ·have e1:one (cN (some ⟨order,1,0,false⟩))=0:=rfl;have e2:one (gh ⟨order,lines,p,1⟩ (some ⟨order,1,0,false⟩))=0:=rfl;rw[hc,e1,e2,Int.zero_mul,Int.add_zero,Int.add_zero];exact⟨rfl,rfl,rfl⟩
theorem aav {s t:State}{o:Order}{x:aC}(S:aaf s t o (some x))(hs:o.status=1):(kI t ⟨ByteArray.empty,2,o.id,[]⟩).2.why=0/\
  (x.pos=0/\aaf s (kI t ⟨ByteArray.empty,2,o.id,[]⟩).1 ⟨o.id,o.lines,o.aP,5⟩ none\/(1<=x.pos/\x.pos<=4)/\aaf s (kI t ⟨ByteArray.empty,2,o.id,[]⟩).1 ⟨o.id,o.lines,o.aP,4⟩ (some ⟨o.id,2,x.pos,true⟩)):=by
 obtain⟨HI,LY,hc,hn⟩:=S.good;have hi:=(Fi S.inv ⟨ByteArray.empty,2,o.id,[]⟩ rfl).inv;have X7:x.kind=1:=by rw[<-LY,hs];rfl
 have tP:=zm S.jm;have hap:=S.inv.ok.apart;unfold kI at hi⊢;dsimp only at hi⊢;rw[S.here]at hi⊢;dsimp only at hi⊢;rw[if_neg (by rw[hs];decide),S.jm]at hi⊢;dsimp only at hi⊢;obtain⟨xo,xk,xp,xu⟩:=x;simp only at HI X7 hc hn hi⊢;subst X7 HI;by_cases hnb:dc 2 xp true=true
 ·rw[if_pos hnb]at hi⊢;have hpos:1<=xp/\xp<=4:=by
   rcases iQ hc hn with⟨-,-,hp⟩|⟨-,-,hp⟩|⟨hk,-⟩
   ·refine⟨?_,by omega⟩;rcases hp with rfl|hp
    ·exact absurd hnb (by decide)
    ·omega
   ·omega
   ·omega
  refine⟨rfl,.inr ⟨hpos,hi, ?_, ?_,S.keys,λi w hk=> ?_⟩⟩
  ·show bq Order.id (dF _ _ _) _=_;rw[n_,S.here];simp
  ·show dr (t.aj.set _ _) _=_;rw[vD hap tP (y:=⟨o.id,2,xp,true⟩) rfl];exact if_pos rfl
  ·obtain⟨a1,a2,a3⟩:=S.cell i w hk;have e1:cN (some ⟨o.id,1,xp,xu⟩)=true:=decide_eq_true ⟨show¬(1:Int)=3 by decide,hpos.1⟩;have e2:cN (some ⟨o.id,2,xp,true⟩)=true:=decide_eq_true ⟨show¬(2:Int)=3 by decide,hpos.1⟩;have e3:gh o (some ⟨o.id,1,xp,xu⟩)=false:=rfl;have e4:gh ⟨o.id,o.lines,o.aP,4⟩ (some ⟨o.id,2,xp,true⟩)=false:=rfl;rw[e1]at a1;rw[e3]at a2;rw[e2,e4];exact⟨a1,a2,a3⟩
 ·rw[if_neg hnb]at hi⊢;have hpos:xp=0:=by
   rcases iQ hc hn with⟨-,-,hp⟩|⟨-,-,hp⟩|⟨hk,-⟩
   ·rcases hp with rfl|rfl|rfl|rfl|rfl
    ·rfl
    all_goals exact absurd rfl hnb
   ·rcases hp with rfl|rfl|rfl|rfl<;>exact absurd rfl hnb
   ·omega
  subst hpos;refine⟨rfl,.inl ⟨rfl,hi, ?_, ?_,S.keys,λi w hk=> ?_⟩⟩
  ·show bq Order.id (dF _ _ _) _=_;rw[n_,S.here];simp
  ·show dr (t.aj.eraseIdx _) _=_;rw[pF hap tP];exact if_pos rfl
  ·exact S.cell i w hk
theorem aaK {s t:State}{o:Order}(S:aaf s t o none)(hs:o.status=3):(sU t ⟨ByteArray.empty,3,o.id,[]⟩).2=⟨0,6,o.aP⟩/\aaf s (sU t ⟨ByteArray.empty,3,o.id,[]⟩).1 ⟨o.id,o.lines,o.aP,6⟩ (some ⟨o.id,3,0,false⟩):=by
 have hi:=(Km S.inv ⟨ByteArray.empty,3,o.id,[]⟩ rfl).inv;unfold sU at hi⊢;dsimp only at hi⊢;rw[S.here]at hi⊢;dsimp only at hi⊢;rw[if_neg (by rw[hs];decide)]at hi⊢;refine⟨rfl,hi, ?_, ?_,S.keys,λi w hk=> ?_⟩
 ·show bq Order.id (dF _ _ _) _=_;rw[n_,S.here];simp
 ·show dr (t.aj++[_]) _=_;rw[A5 _ ⟨o.id,3,0,false⟩ S.jm];exact if_pos rfl
 ·have e1:gh o none=true:=decide_eq_true hs;have e2:gh ⟨o.id,o.lines,o.aP,6⟩ (some ⟨o.id,3,0,false⟩)=true:=rfl;have:=S.cell i w hk;rw[e1]at this;rw[e2];exact this
def vO (s5:List Int)(i:Int):Int:=if i<(s5.length:Int)/\i<20/\s5[i.toNat]?=some 1 then 1 else 0
def za (l:List aC)(n:Int):Int:=match dr l n with|some _=>(vB l n:Int)|none=>-1
theorem aar {l:List aC}(ha:jd l)(n:Int)(hl:l.length<=4611686018427387904):bh (λ(s10:Int)(zo:Int)(mQ:aC)=>if(ai .eql mQ.order n)=true then some (.inl zo)else some (.inl s10)) l (-1)=some (.inl (za l n):Int⊕Empty):=by
 unfold za
 cases hs:dr l n with
 |none=>
  exact vP (λ_=>(-1:Int)) hl rfl λj x hx=>if_neg (by simp[ai,aap hs x (List.mem_of_getElem? hx)])
 |some y=>
  have tP:=zm hs;have hlt:=(List.getElem?_eq_some_iff.1 tP).1;have hy:=(nZ hs).2;refine(vP (λj=>if vB l n<j then(vB l n:Int)else-1) hl (if_neg (Nat.not_lt_zero _)) λj x hx=> ?_).trans (by rw[if_pos hlt]);by_cases c:x.order=n
  ·have hj:vB l n=j:=by rw[<-c];exact aay ha hx
   rw[if_pos (by simpa[ai]using c),if_pos (show vB l n<j+1 by omega),hj]
  ·have hj:vB l n≠j:=λe=>c (by rw[e,hx]at tP;cases tP;exact hy);rw[if_neg (by simpa[ai]using c)];by_cases c2:vB l n<j
   ·rw[if_pos c2,if_pos (by omega)]
   ·rw[if_neg c2,if_neg (by omega)]
def aah (Q:Int->Order->aC->Prop)(E:Order->Prop)(i:Int)(o:Order):Option aC->Prop
 |some x=>Q i o x
 |none=>E o
theorem aai {body:Int×wV->Option ((Int×wV)⊕(State⊕State))}{s:State}{order:Int}{s5:List Int}(Q:Int->Order->aC->Prop)(E:Order->Prop)
  (FW:∀(i:Int) t,Inv t->dr t.aj order=none->∃r,body (i,lQ t)=some (.inr r)/\(r=.inl t\/r=.inr t))
  (hb3:∀(i:Int) t t' w x,Inv t->0<=i->i<40->dr t.aj order=some x->ee t (vB t.aj order) (vO s5 i)=(t',w,0)->body (i,lQ t)=some (.inl (i+1,lQ t')))
  (hQ:∀i o x,Q i o x->0<=i/\i<40/\o.id=order) (hE:∀o,E o->o.id=order)
  (step:∀i o x (w:Int),Q i o x->cF x.kind x.pos x.aO=0->dc x.kind x.pos x.aO=true->(w=0\/w=10/\lM (cK x)=true/\vO s5 i=1\/w=13/\x.kind=1/\x.pos=0/\x.aO=false)->(lM (cK x)=true->vO s5 i=1->w=10)->
   aah Q E (i+1) (eK o (cM x (w==0))) (aab (cM x (w==0)))):
  ∀(n:Nat)(i:Int)(t:State)(o:Order)(g:Option aC),aaf s t o g->aah Q E i o g->41 -i<n->0<n->∃r t' o',iB body n (i,lQ t)=some r/\(r=.inl t'\/r=.inr t')/\aaf s t' o' none/\E o'/\o'.lines=o.lines/\o'.aP=o.aP
 |0,_,_,_,_,_,_,_,h=>absurd h (Nat.lt_irrefl _)
 |n+1,i,t,o,none,S,hE',_,_=>by
  obtain⟨r,e,hr⟩:=FW i t S.inv (by rw[<-hE o hE'];exact S.jm);rw[iB,e,Option.bind_some];exact⟨r,t,o,rfl,hr,S,hE',rfl,rfl⟩
 |n+1,i,t,o,some x,S,hq,hn,_=>by
  obtain⟨h0,h1,h2⟩:=hQ i o x hq;obtain⟨HI,LY,hc,NM⟩:=S.good;have tP:=zm S.jm;rw[h2]at tP;have hlt:=(List.getElem?_eq_some_iff.1 tP).1;have hv:vO s5 i<2:=by unfold vO;split<;>decide
  rcases gJ S.inv (vB t.aj order:Int) (v:=vO s5 i)with⟨mJ,-⟩|⟨-,he,-⟩|⟨-,k,x',o',hk,hx',ho',e,hP⟩
  ·omega
  ·have:=S.jm;rw[he]at this;cases this
  ·have hk':(vB t.aj order:Int) %(t.aj.length:Int)=(vB t.aj order:Int):=Int.emod_eq_of_lt (by omega) (by omega);have hkk:vB t.aj order=k:=by omega
   subst hkk;rw[tP]at hx';cases hx';rw[HI,S.here]at ho';cases ho';have S':=aaq S tP hP;have hst:=step i o x _ hq hc NM (hP.why.imp id (Or.imp id λh=>⟨h.1,h.2.1,h.2.2.1,h.2.2.2.1⟩)) hP.ref;obtain⟨r,t',o',e1,e2,e3,e4,e5,e6⟩:=aai Q E FW hb3 hQ hE step n (i+1) _ _ _ S' hst (by omega) (by omega);refine⟨r,t',o', ?_,e2,e3,e4,e5.trans (by rw[xS]),e6.trans (by rw[xS])⟩;rw[iB,hb3 i t _ _ x S.inv h0 h1 (by rw[<-h2];exact S.jm) e,Option.bind_some];exact e1
theorem aaj {s t:State}{o:Order}{g:Option aC}(order:Int)(s5:List Int)(Q:Int->Order->aC->Prop)(E:Order->Prop)
  (hQ:∀i o x,Q i o x->0<=i/\i<40/\o.id=order) (hE:∀o,E o->o.id=order)
  (step:∀i o x (w:Int),Q i o x->cF x.kind x.pos x.aO=0->dc x.kind x.pos x.aO=true->(w=0\/w=10/\lM (cK x)=true/\vO s5 i=1\/w=13/\x.kind=1/\x.pos=0/\x.aO=false)->(lM (cK x)=true->vO s5 i=1->w=10)->
   aah Q E (i+1) (eK o (cM x (w==0))) (aab (cM x (w==0))))
  (S:aaf s t o g) (h0:aah Q E 0 o g):∃t' o',v5 t order s5=some t'/\aaf s t' o' none/\E o'/\o'.lines=o.lines/\o'.aP=o.aP:=by
 have key:∀(body:Int×wV->Option ((Int×wV)⊕(State⊕State)))(K:State⊕State->Option State),(∀r,K (.inl r)=some r)->(∀r,K (.inr r)=some r)->
   (∀(i:Int) t,Inv t->dr t.aj order=none->∃r,body (i,lQ t)=some (.inr r)/\(r=.inl t\/r=.inr t))->
   (∀(i:Int) t t' w x,Inv t->0<=i->i<40->dr t.aj order=some x->ee t (vB t.aj order) (vO s5 i)=(t',w,0)->body (i,lQ t)=some (.inl (i+1,lQ t')))->
   ∃t' o',(iB body 1000000 (0,lQ t)).bind K=some t'/\aaf s t' o' none/\E o'/\o'.lines=o.lines/\o'.aP=o.aP:=by
  intro body K k1 k2 b1 b3;obtain⟨r,t',o',e1,e2,e3,e4⟩:=aai Q E b1 b3 hQ hE step 1000000 0 t o g S h0 (by omega) (by omega);refine⟨t',o', ?_,e3,e4⟩;rw[e1,Option.bind_some];rcases e2 with rfl|rfl
  ·exact k1 _
  ·exact k2 _
 unfold v5;refine key _ _ (λ_=>rfl) (λ_=>rfl) (λi t ht hn=> ?_) (λi t t' w x ht h0 h1 hs hp=> ?_)
 ·by_cases c:i<40
  ·refine⟨.inl t,(if_pos (by simpa[ai]using c)).trans (fh (aar ht.ok.apart order (by have:=bX.wO ht.ok;show t.aj.length<=_;omega)) ?_),.inl rfl⟩;have:za t.aj order=-1:=by unfold za;rw[hn]
   show(if ai .lss (za t.aj order) 0=true then _ else _)=_;rw[this];exact if_pos (by decide)
  ·exact⟨.inr t,if_neg (by simpa[ai]using c),.inr rfl⟩
 ·refine(if_pos (by simpa[ai]using h1)).trans (fh (aar ht.ok.apart order (by have:=bX.wO ht.ok;show t.aj.length<=_;omega)) ?_);have ea:za t.aj order=(vB t.aj order:Int):=by unfold za;rw[hs]
  show(if ai .lss (za t.aj order) 0=true then _ else _)=_;rw[ea];refine(if_neg (by simp[ai])).trans ?_;have ei:aH .add .i64 i 1=i+1:=by simp only[aH,wrap64];omega
  have one:∀v,0<=v->vO s5 i=v->((uR t (vB t.aj order:Int) v).bind λN_=>if(ai .neq N_.2.2 0)=true then some (.inr (.inl t))else some (.inl ((aH .add .i64 i 1),N_.1.limit,N_.1.cells,N_.1.af.aK,N_.1.af.ak,N_.1.aA,N_.1.aa,N_.1.aj,N_.1.kept)):Option ((Int×wV)⊕(State⊕State)))=some (.inl (i+1,lQ t')):=λv hv e=>by
   rw[rZ t _ v ht.sized hv,<-e,hp,Option.bind_some,ei];exact if_neg (show¬ai .neq 0 0=true by decide)
  by_cases c1:i<(s5.length:Int)
  ·refine(if_pos (by simpa[ai]using c1)).trans ?_;by_cases c2:i<20
   ·refine(if_pos (by simpa[ai]using c2)).trans ?_;obtain⟨y,hy⟩:∃y,s5[i.toNat]?=some y:=⟨s5[i.toNat]'(by omega),List.getElem?_eq_getElem _⟩
    refine fh (cT h0 hy) ?_;by_cases c3:y=1
    ·exact(if_pos (by simpa[ai]using c3)).trans (one 1 (by decide) (if_pos ⟨c1,c2,by rw[hy,c3]⟩))
    ·exact(if_neg (by simpa[ai]using c3)).trans (one 0 (by decide) (if_neg λe=>c3 (by rw[hy]at e;cases e.2.2;rfl)))
   ·exact(if_neg (by simpa[ai]using c2)).trans (one 0 (by decide) (if_neg λe=>c2 e.2.1))
  ·exact(if_neg (by simpa[ai]using c1)).trans (one 0 (by decide) (if_neg λe=>c1 e.1))
end Go.Proofs.aaa
end
section
namespace Go.Proofs.aaa
open Go.bA Go.IntWalk
variable{P:Program}(hP:P=Tryz.prog)
theorem aaN (i:Int)(h:0<=i):vO [] i=0:=if_neg λe=>by have:i<0:=e.1;omega
abbrev Q1 (order:Int)(i:Int)(o:Order)(x:aC):Prop:=(0<=i/\i<=4)/\o.id=order/\x=⟨order,1,i,false⟩
abbrev E1 (order:Int)(o:Order):Prop:=o.id=order/\(o.status=2\/o.status=3)
theorem aa4 (order:Int)(i:Int)(o:Order)(x:aC)(w:Int)(h:Q1 order i o x)(hw:w=0\/w=10/\lM (cK x)=true/\vO [] i=1\/w=13/\x.kind=1/\x.pos=0/\x.aO=false):
  aah (Q1 order) (E1 order) (i+1) (eK o (cM x (w==0))) (aab (cM x (w==0))):=by
 obtain⟨hi,ho,rfl⟩:=h;rcases hw with rfl|⟨-,-,e⟩|⟨rfl,-,hp,-⟩
 ·have:i=0\/i=1\/i=2\/i=3\/i=4:=by omega
  rcases this with rfl|rfl|rfl|rfl|rfl
  ·exact⟨by decide,ho,rfl⟩
  ·exact⟨by decide,ho,rfl⟩
  ·exact⟨by decide,ho,rfl⟩
  ·exact⟨by decide,ho,rfl⟩
  ·exact⟨ho,.inr rfl⟩
 ·rw[aaN i hi.1]at e;cases e
 ·simp only at hp;subst hp;exact⟨ho,.inl rfl⟩
abbrev Q2 (order:Int)(i:Int)(o:Order)(x:aC):Prop:=i=0/\o.id=order/\x=⟨order,3,0,false⟩
abbrev E2 (order:Int)(o:Order):Prop:=o.id=order/\o.status=3
theorem aa5 (order:Int)(i:Int)(o:Order)(x:aC)(w:Int)(h:Q2 order i o x)(hr:lM (cK x)=true->vO [1] i=1->w=10):aah (Q2 order) (E2 order) (i+1) (eK o (cM x (w==0))) (aab (cM x (w==0))):=by
 obtain⟨rfl,ho,rfl⟩:=h;have:=hr (show lM (j_ 3 0 false)=true by decide) (show vO [1] 0=1 by decide);subst this;exact⟨ho,rfl⟩
abbrev Q3 (order:Int)(i:Int)(o:Order)(x:aC):Prop:=(0<=i/\i<=2)/\o.id=order/\x=⟨order,3,i,false⟩
abbrev E3 (order:Int)(o:Order):Prop:=o.id=order/\o.status=7
theorem aa6 (order:Int)(i:Int)(o:Order)(x:aC)(w:Int)(h:Q3 order i o x)(hw:w=0\/w=10/\lM (cK x)=true/\vO [] i=1\/w=13/\x.kind=1/\x.pos=0/\x.aO=false):
  aah (Q3 order) (E3 order) (i+1) (eK o (cM x (w==0))) (aab (cM x (w==0))):=by
 obtain⟨hi,ho,rfl⟩:=h;rcases hw with rfl|⟨-,-,e⟩|⟨-,hk,-,-⟩
 ·have:i=0\/i=1\/i=2:=by omega
  rcases this with rfl|rfl|rfl
  ·exact⟨by decide,ho,rfl⟩
  ·exact⟨by decide,ho,rfl⟩
  ·exact⟨ho,rfl⟩
 ·rw[aaN i hi.1]at e;cases e
 ·exact absurd hk (show¬(3:Int)=1 by decide)
theorem aaf.order {s t:State}{o:Order}{g:Option aC}(S:aaf s t o g){n:Int}(h:o.id=n):Qv t n=some (o,true):=by
 have:=bX.wO S.inv.ok;rw[Nm t n (by omega),<-h,S.here]
theorem aaO (limit:Int)(bp:List Act)(order:Int)(lines:List aU)(refuse:Bool)(hw:∀a∈bp,a.wf)(hl:bp.length<=4611686018427387904)(hn:lines.length*32<=140737488355328):zp limit bp order lines refuse=some true:=by
 unfold zp;rw[lO,Option.bind_some,if_neg (by decide),H8 limit bp hw hl,Option.bind_some];by_cases c:0<=limit/\limit<=1024
 case neg=>rw[if_neg c];rfl
 rw[if_pos c];dsimp only;rw[if_neg (by decide)];have h:=kN (bp:=bp) (gr c);obtain⟨s,hs⟩:∃s,oB (wU limit) bp=s:=⟨_,rfl⟩;rw[hs]at h⊢;rw[oc h ⟨ByteArray.empty,1,order,lines⟩ hn,Option.bind_some];dsimp only;rw[if_neg (show¬ai .neq 0 0=true by decide)];by_cases c0:(eU s ⟨ByteArray.empty,1,order,lines⟩).2.why≠0
 ·rw[if_pos (by simpa[ai]using c0)];rfl
 rw[if_neg (by simpa[ai]using c0)];obtain⟨hf,p,hp,he,hi,ho⟩:=NN h (a:=⟨ByteArray.empty,1,order,lines⟩) rfl rfl (Decidable.not_not.1 c0);obtain⟨t,ht⟩:∃t,(eU s ⟨ByteArray.empty,1,order,lines⟩).1=t:=⟨_,rfl⟩;have S0:aaf s t ⟨order,lines,p,1⟩ (some ⟨order,1,0,false⟩):=aau h hf (by rw[<-ht];exact hi) (by rw[<-ht];exact ho) (by rw[<-ht,he]) rfl (by rw[<-ht,he]);rw[ht];obtain⟨t1,o1,g1,S1,⟨i1,st1⟩,l1,-⟩:=aaj order [] (Q1 order) (E1 order) (λi o x h=>⟨h.1.1,by have:=h.1.2;omega,h.2.1⟩) (λo h=>h.1) (λi o x w h _ _ hw _=>aa4 order i o x w h hw) S0 ⟨by decide,rfl,rfl⟩;rw[g1,Option.bind_some,S1.order i1,Option.bind_some];dsimp only;rw[if_neg (by decide)];by_cases c2:o1.status=2
 ·rw[if_pos (by simpa[ai]using c2)]
 rw[if_neg (by simpa[ai]using c2)];have st3:o1.status=3:=by omega
 obtain⟨b1,S2⟩:=aaK S1 st3;have ea:eU t1 ⟨ByteArray.empty,3,order,[]⟩=sU t1 ⟨ByteArray.empty,3,order,[]⟩:=nG S1.inv rfl ⟨show(1:Int)<=3 by decide,show(3:Int)<7 by decide⟩;rw[i1]at b1 S2;rw[oc S1.inv ⟨ByteArray.empty,3,order,[]⟩ (by show 0*32<=_;decide),ea,Option.bind_some];dsimp only;rw[if_neg (show¬ai .neq 0 0=true by decide),if_neg (by simp[ai,st3]),b1,if_neg (by simp)]
 cases refuse with
 |true=>
  rw[if_pos rfl];obtain⟨t2,o2,g2,S3,⟨i2,st2⟩,l2,-⟩:=aaj order [1] (Q2 order) (E2 order) (λi o x h=>⟨by have:=h.1;omega,by have:=h.1;omega,h.2.1⟩) (λo h=>h.1) (λi o x w h _ _ _ hr=>aa5 order i o x w h hr) S2 ⟨rfl,rfl,rfl⟩;rw[g2,Option.bind_some,S3.order i2,Option.bind_some];dsimp only;rw[if_pos (by simp[ai,st2])];have hc:=bX.wO S3.inv.ok;rw[Nd t2.cells t1.cells (by omega),aaG S1 S3 l2.symm st3 st2,Option.bind_some,if_pos (by simp),DV S3.inv];rfl
 |false=>
  rw[if_neg (by decide)];obtain⟨t2,o2,g2,S3,⟨i2,st2⟩,l2,-⟩:=aaj order [] (Q3 order) (E3 order) (λi o x h=>⟨h.1.1,by have:=h.1.2;omega,h.2.1⟩) (λo h=>h.1) (λi o x w h _ _ hw _=>aa6 order i o x w h hw) S2 ⟨by decide,rfl,rfl⟩;rw[g2,Option.bind_some,S3.order i2,Option.bind_some];dsimp only;rw[if_pos (by simp[ai,st2])];have hc:=bX.wO S3.inv.ok;rw[Nd t2.cells s.cells (by omega),aat h S3 (by rw[st2];decide),Option.bind_some,if_pos (by simp),DV S3.inv];rfl
theorem aaw {x:AV}(h:yU td 34 x):∃l:List aU,x=aq aU.ts 4 l/\l.length*32<=140737488355328:=by
 obtain⟨l,hf,rfl⟩:=lA h (d:=(td 34).get rfl) rfl;obtain⟨r,rfl,u,v,_⟩:=nO (e:=80) (ed:=(td 80).get rfl) rfl (d:=(td 34).get rfl) rfl rfl hf;obtain⟨n,rfl,w⟩:=jT (λr hr=>aU.fit hr) r u;have hr:reachBytes=140737488351232:=rfl;have e:((td 80).get rfl).bytes=32:=rfl;rw[List.length_map,e]at v;exact⟨n,rfl,by omega⟩
theorem abh {x:AV}(h:yU td 4 x):∃b,x=AB (.th λ_=>b):=by
 obtain⟨l,hf,rfl⟩:=lA h (d:=(td 4).get rfl) rfl;obtain⟨b,rfl⟩:=GU (d:=(td 4).get rfl) rfl rfl hf;exact⟨b,rfl⟩
include hP
theorem aas:Oe P td 10 [3,57,3,34,4]:=by
 intro xs hx;obtain⟨x,ys,rfl,h1,h2⟩:=bN hx;obtain⟨y,zs,rfl,h3,h4⟩:=bN h2;obtain⟨u,us,rfl,h5,h6⟩:=bN h4;obtain⟨w,ws,rfl,h7,h8⟩:=bN h6;obtain⟨q,qs,rfl,h9,h10⟩:=bN h8;obtain rfl:=jG h10;obtain⟨limit,rfl⟩:=sn h1;obtain⟨bp,rfl,hw,hl⟩:=oa h3;obtain⟨order,rfl⟩:=sn h5;obtain⟨lines,rfl,hn⟩:=aaw h7;obtain⟨refuse,rfl⟩:=abh h9;exact lP (haveI:=Pg.mk hP;rt (aaO limit bp order lines refuse hw hl hn)) (.cons (.pure rfl) (.cons (.pure rfl) (.cons (.pure rfl) (.cons (.pure rfl) (.cons (.pure rfl) .nil))))) rfl
end Go.Proofs.aaa
end
