/- Texts that the law leans on, part 44. No conditions. -/
import Derived.Test.YtnpliafeboadcaaGreatK35
import Derived.Test.YtnpliafeboadcaaGreatK36
import Derived.Test.YtnpliafeboadcaaGreatK42
import Derived.Test.YtnpliafeboadcaaGreatK43
section
namespace Go.Proofs.aaa
open Go.bA Go.IntWalk
variable{P:Program}(hP:P=Tryz.prog)
theorem lP {f:FuncId}{xs:List AV}(h:gk P f xs (AB (.th λ_=>true)))(ha:gj 0 [] [] xs xs)(hp:eA xs=true):aV P f xs [] (λx _=>∃b,x=AB b/\b.den=true):=h.call ha hp ⟨_,rfl,rfl⟩
theorem sn {x:AV}(h:yU td 3 x):∃k,x=AI .i64 (.th λ_=>k):=by
 obtain⟨l,hf,rfl⟩:=lA h (d:=(td 3).get rfl) rfl;obtain⟨n,rfl,w⟩:=gT (d:=(td 3).get rfl) rfl rfl hf;exact⟨n,rfl⟩
theorem Rb {x:AV}(h:yU td 37 x):∃k,x=AI .u8 (.th λ_=>k)/\0<=k:=by
 obtain⟨l,hf,rfl⟩:=lA h (d:=(td 37).get rfl) rfl;obtain⟨n,rfl,w⟩:=gT (d:=(td 37).get rfl) rfl rfl hf;exact⟨n,rfl,(Lz w).1⟩
theorem oa {x:AV}(h:yU td 57 x):∃l:List Act,x=aq Act.ts 7 l/\(∀y∈l,y.wf)/\l.length<=4611686018427387904:=by
 obtain⟨l,hf,rfl⟩:=lA h (d:=(td 57).get rfl) rfl;obtain⟨r,rfl,u,v,_⟩:=nO (e:=61) (ed:=(td 61).get rfl) rfl (d:=(td 57).get rfl) rfl rfl hf;obtain⟨n,rfl,w⟩:=jT (λr hr=>Act.fit hr) r u;have hr:reachBytes=140737488351232:=rfl;have hb:1<=((td 61).get rfl).bytes:=by decide
 refine⟨n,rfl,w, ?_⟩;rw[List.length_map]at v;have:=Nat.le_mul_of_pos_right n.length hb;omega
theorem Ask.wf.lines {a:Ask}(h:a.wf):a.lines.length*32<=140737488355328:=by
 have:=h.2.2.2.2;have hr:reachBytes=140737488351232:=rfl;have e:((td 80).get rfl).bytes=32:=rfl;rw[e]at this;omega
theorem Ko (p q:Told):((p.order==q.order)&&((p.kind==q.kind)&&((p.step==q.step)&&((p.why==q.why)&&((p.over==q.over)&&true)))))=decide (p=q):=by
 rw[Bool.eq_iff_iff];obtain⟨a,b,c,d,e⟩:=p;obtain⟨a',b',c',d',e'⟩:=q;simp
theorem HZ (p q:bz):((p.why==q.why)&&((p.status==q.status)&&((p.ax==q.ax)&&true)))=decide (p=q):=by
 rw[Bool.eq_iff_iff];obtain⟨a,b,c⟩:=p;obtain⟨a',b',c'⟩:=q;simp
theorem bX.ask {s:State}(z:bX s)(h:bY s)(a:Ask)(hl:a.lines.length*32<=140737488355328):bX (eU s a).1:=by
 have hk:=bX.wO h;have zd:=z.done a h hl;have NK:=mz s a;unfold eU;split
 ·exact z
 ·split
  ·exact z
  ·split
   ·exact z
   ·split
    ·exact zd
    ·split
     ·exact z
     ·exact zd.keep _ _ (by rw[NK];omega)
theorem so:bX IX:=⟨by decide,by decide,by decide,by decide,by decide,λx h=>(by cases h),by decide,by decide,λx h=>(by cases h),λx h=>(by cases h)⟩
theorem bX.eY {s d:State}(z:bX s)(zd:bX d)(h:bY s)(k:Nat)(x:aC)(w:Int)(_:x.kind=1\/x.kind=2\/x.kind=3):bX (eY s d k x w).1:=by
 unfold Go.Proofs.aaa.eY;have hs:=(bX.wO h).2.1;split
 ·exact⟨zd.cells,zd.aK,zd.i_,zd.aA,z.aa,z.lines,by show(s.aj.set _ _).length*32<=_;rw[List.length_set];exact z.aj,z.kept,zd.eP,z.aad⟩
 ·have z1:=z.dF x.order (qz (cM x (w==0))) (by unfold qz;(repeat' split)<;>decide) (s.aj.eraseIdx k) (Nat.le_trans (Nat.mul_le_mul_right _ (List.length_eraseIdx_le ..)) z.aj);exact⟨zd.cells,zd.aK,zd.i_,zd.aA,z1.aa,z1.lines,z1.aj,z.kept,zd.eP,z1.aad⟩
theorem bX.fF {s:State}(z:bX s)(h:bY s)(k:Nat)(x:aC)(v:Int)(hk:x.kind=1\/x.kind=2\/x.kind=3):bX (fF s k x v).1:=by
 unfold Go.Proofs.aaa.fF;split
 ·exact z.eY z h k x _ hk
 ·split
  ·exact z.eY (z.step h _ _) h k x _ hk
  ·exact z.eY z h k x _ hk
theorem bX.mS {s:State}(z:bX s)(pick v:Int):bX (ee s pick v).1:=by
 unfold ee;by_cases h:bY s
 case neg=>rw[if_pos (by rw[dX h];decide)];exact so
 rw[if_neg (by rw[lI h];decide)];split
 ·exact so
 ·split
  ·exact so
  ·rename_i x hx;obtain⟨o,ho,LY,hc,hn⟩:=h.jm hx;exact z.fF h _ x v (rX hc)
theorem adQ (s:State)(t:Typed s):∃r,VE s=some r:=by
 unfold VE;rw[abe s t,Option.bind_some];by_cases h:bY s
 case neg=>rw[dX h,if_pos (by rfl)];exact⟨_,rfl⟩
 rw[lI h,if_neg (by decide)];refine aaX (E4 t.aj λs i x=> ?_) (λr _=> ?_)
 ·unfold hleft;exact⟨_,rfl⟩
 ·cases r with
  |inl n=>exact⟨_,rfl⟩
  |inr e=>exact e.elim
theorem ads (s:State)(a:Ask)(pick v:Int)(hs:s.wf)(ha:a.wf)(hv:0<=v):g3 s a pick v=some true:=by
 have z:=hs.sized;have t:=z.typed;have hl:=ha.lines;have za:bX (if kW s=0 then((eU s a).1,(eU s a).2,(0:Int))else(IX,V6,kW s)).1:=by
  by_cases h:bY s
  ·rw[if_pos (lI h)];exact z.ask h a hl
  ·rw[if_neg (by rw[dX h];decide)];exact so
 have zp:=z.mS pick v;obtain⟨r20,h20⟩:=adQ s t;unfold g3;simp only[Np s z,HJ s a z hl,acT s a z hl,vw _ _ za,rZ s pick v z hv,acV s pick v z,vw _ _ zp,adp s t,h20,lO,zj s t,abe s t,vw s s z,Option.bind_some,HZ,Ko,decide_true,Bool.not_true,Bool.false_eq_true,if_false,if_true,ai,bne_self_eq_false,beq_self_eq_true]
include hP
theorem acW:Oe P td 3 [32,36,3,37]:=by
 intro xs hx;obtain⟨x,ys,rfl,h1,h2⟩:=bN hx;obtain⟨y,zs,rfl,h3,h4⟩:=bN h2;obtain⟨u,us,rfl,h5,h6⟩:=bN h4;obtain⟨w,ws,rfl,h7,h8⟩:=bN h6;obtain rfl:=jG h8;obtain⟨s,rfl,hs⟩:=State.Rc h1;obtain⟨a,rfl,ha⟩:=Ask.Rc h3;obtain⟨pick,rfl⟩:=sn h5;obtain⟨v,rfl,hv⟩:=Rb h7;exact lP (haveI:=Pg.mk hP;rt (ads s a pick v hs ha hv)) (.cons (.pure rfl) (.cons (.pure rfl) (.cons (.pure rfl) (.cons (.pure rfl) .nil)))) rfl
end Go.Proofs.aaa
end
section
namespace Go.Proofs.aaa
open Go.bA Go.IntWalk
variable{P:Program}(hP:P=Tryz.prog)
theorem H6 {s:State}(h:Inv s)(a:Act)(hw:a.wf):gV s a=some (Fj s a):=by
 obtain⟨hl,hv⟩:=NL hw;unfold gV Fj;by_cases hp:a.mS=true
 ·rw[if_pos hp,if_pos hp,rZ s _ _ h.sized hv,Option.bind_some];by_cases c:(ee s a.pick a.verdict).2.2≠0
  ·rw[if_pos (by simpa[ai]using c),if_pos c]
  ·rw[if_neg (by simpa[ai]using c),if_neg c]
 ·rw[if_neg hp,if_neg hp,HJ s _ h.sized hl,if_pos h.e0,Option.bind_some];rfl
theorem adR {s:State}(h:Inv s)(a:Act)(hw:a.wf):g27 s a=some (Fj s a):=by
 obtain⟨hl,hv⟩:=NL hw;unfold g27 Fj;by_cases hp:a.mS=true
 ·rw[if_pos hp,if_pos hp,acV s _ _ h.sized,Option.bind_some];by_cases c:(ee s a.pick a.verdict).2.2≠0
  ·rw[if_pos (by simpa[ai]using c),if_pos c]
  ·rw[if_neg (by simpa[ai]using c),if_neg c]
 ·rw[if_neg hp,if_neg hp,acT s _ h.sized hl,if_pos h.e0,Option.bind_some];rfl
abbrev wU (limit:Int):State:=⟨limit,[],⟨[],[]⟩,[],[],[],[]⟩
theorem vM (limit:Int):EC limit=some (if 0<=limit/\limit<=1024 then(wU limit,0)else(IX,2)):=by
 unfold EC;by_cases c:limit<0
 ·rw[if_pos (by simpa[ai]using c),if_neg (by omega)]
 rw[if_neg (by simpa[ai]using c)];by_cases d:limit>1024
 ·rw[if_pos (by simpa[ai]using d),if_neg (by omega)]
 rw[if_neg (by simpa[ai]using d),if_pos (by omega)]
theorem adt (limit:Int)(bp:List Act)(hw:∀a∈bp,a.wf)(hl:bp.length<=4611686018427387904):g4 limit bp=some true:=by
 unfold g4;rw[show Zq limit=EC limit from rfl,vM,Option.bind_some,Option.bind_some,lO,Option.bind_some,if_neg (by decide)];by_cases c:0<=limit/\limit<=1024
 case neg=>
  rw[if_neg c];dsimp only;rw[if_neg (by decide),vw _ _ so,Option.bind_some,if_neg (by simp)]
  cases bp with
  |nil=>rfl
  |cons a l=>
   rw[bh,if_pos (decide_eq_true hl),gY,if_pos (by decide)];rfl
 rw[if_pos c];dsimp only;have h0:=gr c;rw[if_neg (by decide),vw _ _ h0.sized,Option.bind_some,if_neg (by simp)];refine nw (cP (λj (t:Int×(List Cell)×(List aQ)×(List au)×(List ah)×(List Order)×(List aC)×(List Kept)×Int×(List Cell)×(List aQ)×(List au)×(List ah)×(List Order)×(List aC)×(List Kept))=>
   ∃s:State,Inv s/\t=(s.limit,s.cells,s.af.aK,s.af.ak,s.aA,s.aa,s.aj,s.kept,s.limit,s.cells,s.af.aK,s.af.ak,s.aA,s.aa,s.aj,s.kept)) (λr:Unit⊕Unit=>False) hl ⟨_,h0,rfl⟩ ?_) (λt _=>rfl) (λr hr=>hr.elim)
 rintro j x t hx ⟨s,hs,rfl⟩;have hwx:=hw x (List.mem_of_getElem? hx);have hd:=CX hs x;dsimp only;rw[if_neg (by decide),H6 hs x hwx,adR hs x hwx,Option.bind_some,Option.bind_some,vw _ _ hd.sized,Option.bind_some,HZ,Ko];simp only[decide_true,Bool.not_true,Bool.false_eq_true,if_false,ai,bne_self_eq_false];exact .inl ⟨_,rfl,_,hd,rfl⟩
include hP
theorem acX:Oe P td 4 [3,57]:=by
 intro xs hx;obtain⟨x,ys,rfl,h1,h2⟩:=bN hx;obtain⟨y,zs,rfl,h3,h4⟩:=bN h2;obtain rfl:=jG h4;obtain⟨limit,rfl⟩:=sn h1;obtain⟨bp,rfl,hw,hl⟩:=oa h3;exact lP (haveI:=Pg.mk hP;rt (adt limit bp hw hl)) (.cons (.pure rfl) (.cons (.pure rfl) .nil)) rfl
end Go.Proofs.aaa
end
