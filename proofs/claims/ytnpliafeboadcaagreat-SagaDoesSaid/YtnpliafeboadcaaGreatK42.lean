/- Texts that the law leans on, part 42. No conditions. -/
import Derived.Test.YtnpliafeboadcaaGreatK41
section
namespace Go.Proofs.aaa
open Go.bA Go.IntWalk
def eV (l:List au)(n:Int):Nat:=l.countP λx=>decide (x.order=n)
theorem Bf (l:List au)(x:au)(n:Int):eV (l++[x]) n=eV l n+if x.order=n then 1 else 0:=by
 unfold eV;rw[List.countP_append,List.countP_singleton];simp
def fT (aP k:Int)(p:aQ)(sh:Int)(n:Nat):Prop:=
 (k=0\/k=1)/\p.bC=0/\p.aT=0/\p.aX=0/\sh=0/\n=0
 \/k=2/\p.bC=aP/\p.aT=0/\p.aX=0/\sh=0/\n<=1
 \/k=3/\p.bC=aP/\p.aT=0/\p.aX=0/\sh=1/\n<=1
 \/k=4/\p.bC=0/\p.aT=aP/\p.aX=0/\sh=1/\n<=2
def gf (aP k:Int)(p:aQ)(sh:Int)(n:Nat):Prop:=
 k=1/\p.bC=0/\p.aT=p.aX/\(p.aT=0\/p.aT=aP)/\n<=3
 \/k=2/\(p.bC=aP/\p.aT=0/\p.aX=0/\n<=1\/p.bC=0/\p.aT=p.aX/\(p.aT=0\/p.aT=aP)/\n<=3)
 \/k=3/\sh=1/\(p.bC=aP/\p.aT=0/\p.aX=0/\n<=1\/p.bC=0/\p.aT=aP/\p.aX=aP/\n<=3)
 \/k=4/\p.bC=0/\p.aT=aP/\p.aX=0/\sh=1/\n<=2
def cn (o:Order)(g:Option aC)(p:aQ)(sh:Int)(n:Nat):Prop:=
 match g with
 |none=>(o.status=2\/o.status=5)/\p.bC=0/\p.aT=p.aX/\(p.aT=0\/p.aT=o.aP)/\n<=3
  \/o.status=3/\p.bC=0/\p.aT=o.aP/\p.aX=0/\sh=2/\n<=2
  \/o.status=7/\p.bC=0/\p.aT=o.aP/\p.aX=o.aP/\n<=3
 |some x=>x.kind=3/\o.status=6/\x.aO=false/\p.bC=0/\p.aT=o.aP/\p.aX=0/\n<=2/\(x.pos=0/\sh=2\/x.pos=1/\sh=5\/x.pos=2/\sh=6)
  \/(x.kind=1/\o.status=1/\x.aO=false)/\fT o.aP x.pos p sh n
  \/(x.kind=1/\o.status=1/\x.aO=true\/x.kind=2/\o.status=4/\x.aO=true)/\gf o.aP x.pos p sh n
theorem HP {o:Order}{g:Option aC}{p:aQ}{sh:Int}{n:Nat}(h:cn o g p sh n):n<=3:=by
 cases g with
 |none=>unfold cn at h;omega
 |some x=>unfold cn fT gf at h;simp only at h;omega
def cN (g:Option aC):Bool:=match g with|some x=>decide (x.kind≠3/\1<=x.pos)|none=>false
def gh (o:Order)(g:Option aC):Bool:=match g with|none=>decide (o.status=3)|some x=>decide (x.kind=3/\x.pos<=1)
abbrev one (b:Bool):Int:=if b=true then 1 else 0
def DR (s:State)(i w:Int):Int:=dI (λo=>one (cN (dr s.aj o.id))*dD o.lines i w) s.aa
def Kh (s:State)(i w:Int):Int:=dI (λo=>one (gh o (dr s.aj o.id))*dD o.lines i w) s.aa
structure Inv (s:State):Prop where
 ok:bY s
 aA:∀x∈s.aA,0<=x.state
 status:∀o∈s.aa,0<=o.status
 ph:∀o∈s.aa,cn o (dr s.aj o.id) (aG s.af o.id) (cz s.aA o.id) (eV s.af.ak o.id)
 none:∀n,bq Order.id s.aa n=none->aG s.af n=⟨n,0,0,0⟩/\cz s.aA n=0/\eV s.af.ak n=0
 held:∀i w,Kn i w->(cellOf s.cells i w).held=DR s i w/\(cellOf s.cells i w).out=Kh s i w
 kept:∀k∈s.kept,k.cH.why≠0->k.cH.status=0/\k.cH.ax=0
theorem DS:∀(m:Nat){l:List au},(∀x∈l,1<=x.order/\x.order<=(m:Int))->(∀n,eV l n<=3)->l.length<=3*m
 |0,[],_,_=>Nat.le_refl _
 |0,x::l,h,_=>by have:=h x List.mem_cons_self;omega
 |m+1,l,h,hc=>by
  have h1:=DS m (l:=l.filter λx=>decide (x.order≠((m+1:Nat):Int))) (λx hx=>by
   obtain⟨h2,h3⟩:=List.mem_filter.1 hx;have:=h x h2;rw[decide_eq_true_eq]at h3;omega) (λn=>Nat.le_trans (by
   unfold eV;rw[List.countP_filter];exact List.countP_mono_left λx _ hx=>by simp at hx;simpa using hx.1) (hc n))
  have h2:=hc ((m+1:Nat):Int);have h3:l.length=(l.filter λx=>decide (x.order≠((m+1:Nat):Int))).length+eV l ((m+1:Nat):Int):=by
   unfold eV;rw[<-List.countP_eq_length_filter,List.length_eq_countP_add_countP (λx=>decide (x.order≠((m+1:Nat):Int)))]
   congr 1
   exact List.countP_congr λx _=>by simp
  omega
theorem Inv.cnt {s:State}(h:Inv s)(n:Int):eV s.af.ak n<=3:=by
 cases hf:bq Order.id s.aa n with
 |none=>rw[(h.none n hf).2.2];omega
 |some o=>obtain⟨hm,rfl⟩:=b_ Order.id hf;exact HP (h.ph o hm)
theorem Inv.room {s:State}(h:Inv s):s.af.ak.length<=3072:=by
 have:=DS 1024 (l:=s.af.ak) (λx hx=>by
  have:=dH.1 (h.ok.af.i_ x hx);exact⟨this.1,this.2.1⟩) h.cnt
 omega
theorem Inv.sized {s:State}(h:Inv s):bX s:=by
 have hf:=bX.wO h.ok;have b1:=h.ok.af.qo;have b2:=h.ok.af.rK;have b3:=j8 (Int.le_refl 0) (by decide) h.ok.aA;exact⟨by omega,by omega,by omega,by omega,by omega,λx hx=>by
  have:=(nx (l:=x.lines) (by rw[(h.ok.order hx).2.1])).1;omega,by omega,by omega,h.aA,h.status⟩
theorem bY.jv {s:State}(h:bY s){o:Order}(ho:o∈s.aa):(∀x∈o.lines,jv x)/\1<=o.aP/\o.aP<=1152921504606846976:=by
 have hp:=(h.order ho).2.1;obtain⟨-,-,h3,h4,h5⟩:=nx (l:=o.lines) (by rw[hp]);rw[hp]at h4 h5;exact⟨h3,h4,h5⟩
theorem Inv.HQ {s:State}(h:Inv s){o:Order}(ho:o∈s.aa)(i w:Int)(hk:Kn i w):(cN (dr s.aj o.id)=true->dD o.lines i w<=(cellOf s.cells i w).held)/\(gh o (dr s.aj o.id)=true->dD o.lines i w<=(cellOf s.cells i w).out):=by
 have hq:=λ(p:Order)(hp:p∈s.aa)=>Ba (h.ok.jv hp).1 i w;have hn:∀(b:Bool)(q:Int),0<=q->0<=one b*q:=λb q hq=>by cases b<;>simp[one,hq]
 obtain⟨h1,h2⟩:=h.held i w hk;refine⟨λhb=> ?_,λhb=> ?_⟩
 ·rw[h1];unfold DR;have:=tZ (f:=λp:Order=>one (cN (dr s.aj p.id))*dD p.lines i w) (λp hp=>hn _ _ (hq p hp)) ho;simp only[hb]at this;simpa[one]using this
 ·rw[h2];unfold Kh;have:=tZ (f:=λp:Order=>one (gh p (dr s.aj p.id))*dD p.lines i w) (λp hp=>hn _ _ (hq p hp)) ho;simp only[hb]at this;simpa[one]using this
end Go.Proofs.aaa
end
section
namespace Go.Proofs.aaa
open Go.bA Go.IntWalk
def aab (y:aC):Option aC:=if cw y.kind y.pos y.aO=true then some y else none
def eK (o:Order)(y:aC):Order:=if cw y.kind y.pos y.aO=true then o else⟨o.id,o.lines,o.aP,qz y⟩
structure qE (s d:State)(o:Order)(x y:aC):Prop where
 cells:b7 d.cells=true
 keys:∀m,(bq Cell.key d.cells m).isSome=(bq Cell.key s.cells m).isSome
 af:bO d.af
 aA:fR 0 d.aA=true/\∀y∈d.aA,0<=y.state
 others:∀n,n≠o.id->aG d.af n=aG s.af n/\cz d.aA n=cz s.aA n/\eV d.af.ak n=eV s.af.ak n
 ph:cn (eK o y) (aab y) (aG d.af o.id) (cz d.aA o.id) (eV d.af.ak o.id)
 cell:∀i w,Kn i w->(cellOf d.cells i w).held=(cellOf s.cells i w).held+(one (cN (aab y)) -one (cN (some x)))*dD o.lines i w/\(cellOf d.cells i w).out=(cellOf s.cells i w).out+(one (gh (eK o y) (aab y)) -one (gh o (some x)))*dD o.lines i w/\(cellOf d.cells i w).all=(cellOf s.cells i w).all
theorem si {b b':aF}{n:Int}{x:au}{q:aQ}(hx:x.order=n)(hp:b'.ak=b.ak++[x])(hq:∀k,aG b' k=if k=x.order then q else aG b k):(∀k,k≠n->aG b' k=aG b k/\eV b'.ak k=eV b.ak k)/\aG b' n=q/\eV b'.ak n=eV b.ak n+1:=by
 refine⟨λk hk=>⟨by rw[hq,if_neg (by omega)],by rw[hp,Bf,if_neg (by omega)];rfl⟩,by rw[hq,if_pos hx.symm],by rw[hp,Bf,if_pos hx]⟩
theorem Bg {s:State}(h:bY s){k:Int}(hk:1<=k/\k<=4){o:Order}(ho:o∈s.aa)(hh:∀i w,Kn i w->dD o.lines i w<=iD k (cellOf s.cells i w)):
  (bV k s.cells o.lines).2=0/\b7 (bV k s.cells o.lines).1=true/\(∀m,(bq Cell.key (bV k s.cells o.lines).1 m).isSome=(bq Cell.key s.cells m).isSome)/\∀i w,Kn i w->cellOf (bV k s.cells o.lines).1 i w=oJ k (cellOf s.cells i w) (dD o.lines i w):=by
 have h0:=vH hk h.cells (h.jv ho).1 hh;obtain⟨h1,h2,h3,h4⟩:=nE (by omega) h.cells h0;exact⟨h0,h1,h4 hk.1,h3⟩
theorem iQ {k a:Int}{u:Bool}(h1:cF k a u=0)(h2:cw k a u=true):
  (k=1/\u=false/\(a=0\/a=1\/a=2\/a=3\/a=4))\/((k=1\/k=2)/\u=true/\(a=1\/a=2\/a=3\/a=4))\/(k=3/\u=false/\(a=0\/a=1\/a=2)):=by
 obtain⟨h3,h4⟩:=ke h1;rcases h3 with rfl|rfl|rfl<;>rcases h4 with rfl|rfl|rfl|rfl|rfl|rfl<;>cases u<;>revert h1 h2<;>decide
theorem sj (b:aF)(n:Int):(aG b n).order=n:=kH b n
theorem Fc {s:State}(h:Inv s){n a:Int}(hn:gH n)(ha:A1 a)(hp:(aG s.af n).bC=0):
  (ju s.af n a).2=0/\bO (ju s.af n a).1/\(∀k,k≠n->aG (ju s.af n a).1 k=aG s.af k/\eV (ju s.af n a).1.ak k=eV s.af.ak k)
  /\aG (ju s.af n a).1 n=⟨n,a,(aG s.af n).aT,(aG s.af n).aX⟩/\eV (ju s.af n a).1.ak n=eV s.af.ak n+1:=by
 have hc:=h.ok.af.cnt n;have hr:=h.room;have hop:=h.ok.af.bC n;have e:dV (aG s.af n) ⟨n,1,2,a⟩=⟨n,a,(aG s.af n).aT,(aG s.af n).aX⟩:=by simp[dV,sj,hp]
 obtain⟨p1,p2,p3,p4⟩:=abI (x:=⟨n,1,2,a⟩) h.ok.af (by rw[dH];simp;omega) (by omega) (by show wg (dV (aG s.af n) _)=true;rw[e];unfold wg;rw[decide_eq_true_eq];simp only;omega) (by show 0<=(dV (aG s.af n) _).bC/\_;rw[e];simp only;omega);unfold ju;rw[if_pos hn,if_pos ha,if_neg (by omega)];have e':dV (aG s.af (au.mk n 1 2 a).order) ⟨n,1,2,a⟩=⟨n,a,(aG s.af n).aT,(aG s.af n).aX⟩:=e;rw[e']at p4;obtain⟨q1,q2,q3⟩:=si (n:=n) rfl p3 p4;exact⟨p1,p2,q1,q2,q3⟩
theorem s4 {s:State}(h:Inv s){n dst:Int}(hn:gH n)(hd:dst=1\/dst=3)(hp:1<=(aG s.af n).bC)(h3:dst=3->(aG s.af n).aT=0):
  (di s.af n dst).2.2=0/\bO (di s.af n dst).1/\(∀k,k≠n->aG (di s.af n dst).1 k=aG s.af k/\eV (di s.af n dst).1.ak k=eV s.af.ak k)
  /\aG (di s.af n dst).1 n=⟨n,0,(aG s.af n).aT+(if dst=3 then(aG s.af n).bC else 0),(aG s.af n).aX⟩/\eV (di s.af n dst).1.ak n=eV s.af.ak n+1:=by
 have hc:=h.ok.af.cnt n;have hr:=h.room;have hop:=h.ok.af.bC n;have hf:=sR h.ok.af hn hd (by omega);have hdd:¬dst=2:=by omega
 have e:dV (aG s.af n) ⟨n,2,dst,(aG s.af n).bC⟩=⟨n,0,(aG s.af n).aT+(if dst=3 then(aG s.af n).bC else 0),(aG s.af n).aX⟩:=by simp[dV,sj,hdd]
 have hcap:(aG s.af n).aT+(if dst=3 then(aG s.af n).bC else 0)<=1152921504606846976/\(aG s.af n).aT<=(aG s.af n).aT+(if dst=3 then(aG s.af n).bC else 0):=by
  split
  ·rename_i hd3;have:=h3 hd3;omega
  ·omega
 obtain⟨p1,p2,p3,p4⟩:=abI (x:=⟨n,2,dst,(aG s.af n).bC⟩) h.ok.af hf (by omega) (by show wg (dV (aG s.af n) _)=true;rw[e];unfold wg;rw[decide_eq_true_eq];simp only;omega) (by show 0<=(dV (aG s.af n) _).bC/\_;rw[e];simp only;omega);unfold di;rw[if_pos hn,if_neg (by omega),if_neg (λh=>h p1)];have e':dV (aG s.af (au.mk n 2 dst (aG s.af n).bC).order) ⟨n,2,dst,(aG s.af n).bC⟩=⟨n,0,(aG s.af n).aT+(if dst=3 then(aG s.af n).bC else 0),(aG s.af n).aX⟩:=e;rw[e']at p4;obtain⟨q1,q2,q3⟩:=si (n:=n) rfl p3 p4;exact⟨rfl,p2,q1,q2,q3⟩
theorem aag {s:State}(h:Inv s){n:Int}(hn:gH n)(hp:1<=(aG s.af n).aT -(aG s.af n).aX):
  (ez s.af n ((aG s.af n).aT -(aG s.af n).aX)).2=0/\bO (ez s.af n ((aG s.af n).aT -(aG s.af n).aX)).1/\(∀k,k≠n->aG (ez s.af n ((aG s.af n).aT -(aG s.af n).aX)).1 k=aG s.af k/\eV (ez s.af n ((aG s.af n).aT -(aG s.af n).aX)).1.ak k=eV s.af.ak k)
  /\aG (ez s.af n ((aG s.af n).aT -(aG s.af n).aX)).1 n=⟨n,(aG s.af n).bC,(aG s.af n).aT,(aG s.af n).aT⟩/\eV (ez s.af n ((aG s.af n).aT -(aG s.af n).aX)).1.ak n=eV s.af.ak n+1:=by
 have hc:=h.ok.af.cnt n;have hr:=h.room;have hop:=h.ok.af.bC n;obtain⟨a,ha⟩:∃a,(aG s.af n).aT -(aG s.af n).aX=a:=⟨_,rfl⟩;rw[ha];have e:dV (aG s.af n) ⟨n,3,1,a⟩=⟨n,(aG s.af n).bC,(aG s.af n).aT,(aG s.af n).aT⟩:=by simp[dV,sj];omega
 obtain⟨p1,p2,p3,p4⟩:=abI (x:=⟨n,3,1,a⟩) h.ok.af (by rw[dH];simp;omega) (by omega) (by show wg (dV (aG s.af n) _)=true;rw[e];unfold wg;rw[decide_eq_true_eq];simp only;omega) (by show 0<=(dV (aG s.af n) _).bC/\_;rw[e];simp only;omega);unfold ez;rw[if_pos hn,if_pos ⟨by omega,by omega⟩,if_neg (by omega)];have e':dV (aG s.af (au.mk n 3 1 a).order) ⟨n,3,1,a⟩=⟨n,(aG s.af n).bC,(aG s.af n).aT,(aG s.af n).aT⟩:=e;rw[e']at p4;obtain⟨q1,q2,q3⟩:=si (n:=n) rfl p3 p4;exact⟨p1,p2,q1,q2,q3⟩
end Go.Proofs.aaa
end
section
namespace Go.Proofs.aaa
open Go.bA Go.IntWalk
theorem zero_mul' (q a:Int)(h:a=0):a*q=0:=by rw[h,Int.zero_mul]
theorem kM {s:State}(h:Inv s){o:Order}{x y:aC}{k:Int}(hk:1<=k/\k<=4)(ho:o∈s.aa)(hh:∀i w,Kn i w->dD o.lines i w<=iD k (cellOf s.cells i w))
  (lV:∀c q,(oJ k c q).held=c.held+(one (cN (aab y)) -one (cN (some x)))*q/\(oJ k c q).out=c.out+(one (gh (eK o y) (aab y)) -one (gh o (some x)))*q)
  (l:List ah) (hl:fR 0 l=true) (La:∀y∈l,0<=y.state) (RQ:∀n,n≠o.id->cz l n=cz s.aA n)
  (fU:cn (eK o y) (aab y) (aG s.af o.id) (cz l o.id) (eV s.af.ak o.id)):
  (bV k s.cells o.lines).2=0/\qE s (oK (A8 s l) (bV k s.cells o.lines).1) o x y:=by
 obtain⟨h1,h2,h3,h4⟩:=Bg h.ok hk ho hh;refine⟨h1,h2,h3,h.ok.af,⟨hl,La⟩,λn hn=>⟨rfl,RQ n hn,rfl⟩,fU,λi w hw=> ?_⟩;have h5:=h4 i w hw;have h6:=lV (cellOf s.cells i w) (dD o.lines i w);show(cellOf (bV k s.cells o.lines).1 i w).held=_/\(cellOf (bV k s.cells o.lines).1 i w).out=_/\(cellOf (bV k s.cells o.lines).1 i w).all=_;rw[h5];exact⟨h6.1,h6.2,DM hk _ _⟩
theorem fM {s:State}(h:Inv s){o:Order}{x y:aC}{b:aF}(hb:bO b)(M_:∀n,n≠o.id->aG b n=aG s.af n/\eV b.ak n=eV s.af.ak n)
  (hd:one (cN (aab y)) -one (cN (some x))=0/\one (gh (eK o y) (aab y)) -one (gh o (some x))=0)
  (fU:cn (eK o y) (aab y) (aG b o.id) (cz s.aA o.id) (eV b.ak o.id)):qE s (je s b) o x y:=
 ⟨h.ok.cells,λ_=>rfl,hb,⟨h.ok.aA,h.aA⟩,λn hn=>⟨(M_ n hn).1,rfl,(M_ n hn).2⟩,fU,λi w _=>⟨by rw[zero_mul' _ _ hd.1,Int.add_zero],by rw[zero_mul' _ _ hd.2,Int.add_zero],rfl⟩⟩
theorem nF {s:State}(h:Inv s){o:Order}{x y:aC}{l:List ah}(hl:fR 0 l=true)(La:∀y∈l,0<=y.state)(RQ:∀n,n≠o.id->cz l n=cz s.aA n)
  (hd:one (cN (aab y)) -one (cN (some x))=0/\one (gh (eK o y) (aab y)) -one (gh o (some x))=0)
  (fU:cn (eK o y) (aab y) (aG s.af o.id) (cz l o.id) (eV s.af.ak o.id)):qE s (A8 s l) o x y:=
 ⟨h.ok.cells,λ_=>rfl,h.ok.af,⟨hl,La⟩,λn hn=>⟨rfl,RQ n hn,rfl⟩,fU,λi w _=>⟨by rw[zero_mul' _ _ hd.1,Int.add_zero],by rw[zero_mul' _ _ hd.2,Int.add_zero],rfl⟩⟩
theorem lN {s:State}(h:Inv s){n m a b:Int}(hn:gH n)(hm:1<=m/\m<7)(ha:cz s.aA n=a)(hb:ig a m=b)(hb0:b≠0):
  fE s.aA n m 0=0/\fR 0 (dz s.aA n m 0)=true/\(∀x∈dz s.aA n m 0,0<=x.state)/\cz (dz s.aA n m 0) n=b/\∀k,k≠n->cz (dz s.aA n m 0) k=cz s.aA k:=by
 obtain⟨h1,h2,h3,h4⟩:=Kg h.ok.aA h.aA hn hm (by rw[ha,hb];exact hb0);exact⟨h1,h2,h3,by rw[h4,if_pos rfl,ha,hb],λk hk=>by rw[h4,if_neg hk]⟩
theorem sk {s:State}(h:bY s){k:Nat}{x:aC}(hx:s.aj[k]?=some x):dr s.aj x.order=some x:=aak h.apart (List.mem_of_getElem? hx)
theorem Ki {s:State}(h:Inv s){k:Nat}{x:aC}(hx:s.aj[k]?=some x){o:Order}(ho:bq Order.id s.aa x.order=some o):
  ((dw s o (cK x)).2=0/\qE s (dw s o (cK x)).1 o x (cM x true))\/(x.kind=1/\x.pos=0/\x.aO=false/\(dw s o (cK x)).2=13/\¬∀i w,Kn i w->dD o.lines i w<=(cellOf s.cells i w).free):=by
 obtain⟨hm,he⟩:=b_ Order.id ho;obtain⟨o',ho',-,hc,hn⟩:=h.ok.jm hx;have hg:=sk h.ok hx;have fU:=h.ph o hm;have Sq:=h.HQ hm;rw[he,hg]at fU Sq;rw[<-he]at fU;have hid:=(h.ok.order hm).1;obtain⟨hlq,gM,BC⟩:=h.ok.jv hm;have V8:=h.ok.af.bC o.id;have aaH:=h.ok.af.cnt o.id;obtain⟨xo,xk,xp,xu⟩:=x;simp only at he hc hn;have aaI:∀(y:aC)(g:Option aC),aab y=g->∀(o2:Order),eK o y=o2->aab y=g/\eK o y=o2:=λy g a o2 b=>⟨a,b⟩;rcases iQ hc hn with⟨rfl,rfl,hp⟩|⟨hk,rfl,hp⟩|⟨rfl,rfl,hp⟩
 ·rcases hp with rfl|rfl|rfl|rfl|rfl
  ·--reserve
   have ey:cM ⟨xo,1,0,false⟩ true=⟨xo,1,1,false⟩:=rfl;have es:dw s o (cK ⟨xo,1,0,false⟩)=jn s o 1:=rfl;rw[es,ey];by_cases hall:∀i w,Kn i w->dD o.lines i w<=(cellOf s.cells i w).free
   ·left;have:=kM h (x:=⟨xo,1,0,false⟩) (y:=⟨xo,1,1,false⟩) (k:=1) (by omega) hm (λi w hw=>hall i w hw) (λc q=>⟨by show c.held+q=c.held+(1 -0)*q;omega,by show c.out=c.out+(0 -0)*q;omega⟩) s.aA h.ok.aA h.aA (λ_ _=>rfl) (by
     show cn o (some ⟨xo,1,1,false⟩) _ _ _;unfold cn fT gf at fU⊢;simp only[Int.reduceEq,Bool.false_eq_true,and_false,false_and,or_false,false_or,and_true,true_and,eq_self]at fU⊢;omega)
    exact this
   ·right;refine⟨rfl,rfl,rfl, ?_,hall⟩;unfold jn;rw[rW (k:=1) (by omega) h.ok.cells hlq hall]
  ·--authorise
   left;have ey:cM ⟨xo,1,1,false⟩ true=⟨xo,1,2,false⟩:=rfl;have es:dw s o (cK ⟨xo,1,1,false⟩)=(je s (ju s.af o.id o.aP).1,(ju s.af o.id o.aP).2):=rfl;rw[es,ey];unfold cn fT gf at fU;simp only[Int.reduceEq,Bool.false_eq_true,and_false,false_and,or_false,false_or,and_true,true_and,eq_self]at fU;obtain⟨a1,a2,a3,a4,a5⟩:=Fc h hid ⟨gM,BC⟩ (by omega);refine⟨a1,fM h a2 a3 ⟨rfl,rfl⟩ ?_⟩;show cn o (some ⟨xo,1,2,false⟩) _ _ _;rw[a4,a5];unfold cn fT gf;simp only[Int.reduceEq,Bool.false_eq_true,and_false,false_and,or_false,false_or,and_true,true_and,eq_self,reduceCtorEq];omega
  ·--book
   left;have ey:cM ⟨xo,1,2,false⟩ true=⟨xo,1,3,false⟩:=rfl;have es:dw s o (cK ⟨xo,1,2,false⟩)=eB s o 1:=rfl;rw[es,ey];unfold cn fT gf at fU;simp only[Int.reduceEq,Bool.false_eq_true,and_false,false_and,or_false,false_or,and_true,true_and,eq_self]at fU;obtain⟨a1,a2,a3,a4,a5⟩:=lN (m:=1) (a:=0) (b:=1) h hid (by omega) (by omega) rfl (by decide);refine⟨a1,nF h a2 a3 a5 ⟨rfl,rfl⟩ ?_⟩;show cn o (some ⟨xo,1,3,false⟩) _ _ _;rw[a4];unfold cn fT gf;simp only[Int.reduceEq,Bool.false_eq_true,and_false,false_and,or_false,false_or,and_true,true_and,eq_self];omega
  ·--capture
   left;have ey:cM ⟨xo,1,3,false⟩ true=⟨xo,1,4,false⟩:=rfl;have es:dw s o (cK ⟨xo,1,3,false⟩)=(je s (di s.af o.id 3).1,(di s.af o.id 3).2.2):=rfl;rw[es,ey];unfold cn fT gf at fU;simp only[Int.reduceEq,Bool.false_eq_true,and_false,false_and,or_false,false_or,and_true,true_and,eq_self]at fU;obtain⟨a1,a2,a3,a4,a5⟩:=s4 h hid (.inr rfl) (by omega) (λ_=>by omega);refine⟨a1,fM h a2 a3 ⟨rfl,rfl⟩ ?_⟩;show cn o (some ⟨xo,1,4,false⟩) _ _ _;rw[a4,a5,if_pos rfl];unfold cn fT gf;simp only[Int.reduceEq,Bool.false_eq_true,and_false,false_and,or_false,false_or,and_true,true_and,eq_self,reduceCtorEq];omega
  ·--send
   left;have ey:cM ⟨xo,1,4,false⟩ true=⟨xo,1,5,false⟩:=rfl;have es:dw s o (cK ⟨xo,1,4,false⟩)=if(eB s o 2).2≠0 then(s,(eB s o 2).2)else jn (eB s o 2).1 o 3:=rfl;rw[es,ey];unfold cn fT gf at fU;simp only[Int.reduceEq,Bool.false_eq_true,and_false,false_and,or_false,false_or,and_true,true_and,eq_self]at fU;obtain⟨a1,a2,a3,a4,a5⟩:=lN (m:=2) (a:=1) (b:=2) h hid (by omega) (by omega) rfl (by decide);rw[if_neg (show¬(eB s o 2).2≠0 fromλe=>e a1)];exact kM h (x:=⟨xo,1,4,false⟩) (y:=⟨xo,1,5,false⟩) (k:=3) (by omega) hm (λi w hw=>(Sq i w hw).1 rfl) (λc q=>⟨by show c.held -q=c.held+(0 -1)*q;omega,by show c.out+q=c.out+(1 -0)*q;omega⟩) _ a2 a3 a5 (by
    show cn ⟨o.id,o.lines,o.aP,3⟩ none _ _ _;rw[a4];unfold cn;simp only[Int.reduceEq,false_and,or_false,false_or,true_and,eq_self];omega)
 ·rcases hp with rfl|rfl|rfl|rfl
  ·--release
   left;have es:dw s o (cK ⟨xo,xk,1,true⟩)=jn s o 2:=by rcases hk with rfl|rfl<;>rfl
   have ey:cM ⟨xo,xk,1,true⟩ true=⟨xo,xk,0,true⟩:=by rcases hk with rfl|rfl<;>rfl
   rw[es,ey];have:=kM h (x:=⟨xo,xk,1,true⟩) (y:=⟨xo,xk,0,true⟩) (k:=2) (by omega) hm (λi w hw=>(Sq i w hw).1 (by rcases hk with rfl|rfl<;>rfl)) (λc q=>by
    rcases hk with rfl|rfl
    ·exact⟨by show c.held -q=c.held+(0 -1)*q;omega,by show c.out=c.out+(0 -0)*q;omega⟩
    ·exact⟨by show c.held -q=c.held+(0 -1)*q;omega,by show c.out=c.out+(0 -0)*q;omega⟩) s.aA h.ok.aA h.aA (λ_ _=>rfl) (by
    rcases hk with rfl|rfl
    ·show cn ⟨o.id,o.lines,o.aP,2⟩ none _ _ _;unfold cn fT gf at fU;unfold cn;simp only[Int.reduceEq,Bool.true_eq_false,and_false,false_and,or_false,false_or,and_true,true_and,eq_self]at fU⊢;omega
    ·show cn ⟨o.id,o.lines,o.aP,5⟩ none _ _ _;unfold cn fT gf at fU;unfold cn;simp only[Int.reduceEq,Bool.true_eq_false,and_false,false_and,or_false,false_or,and_true,true_and,eq_self]at fU⊢;omega)
   exact this
  ·--void
   left;have es:dw s o (cK ⟨xo,xk,2,true⟩)=if(aG s.af o.id).bC=0 then(s,0)else(je s (di s.af o.id 1).1,(di s.af o.id 1).2.2):=by rcases hk with rfl|rfl<;>rfl
   have ey:cM ⟨xo,xk,2,true⟩ true=⟨xo,xk,1,true⟩:=by rcases hk with rfl|rfl<;>rfl
   have e:cn (eK o ⟨xo,xk,1,true⟩) (aab ⟨xo,xk,1,true⟩)=cn o (some ⟨xo,xk,1,true⟩):=by rcases hk with rfl|rfl<;>rfl
   have hd:one (cN (aab ⟨xo,xk,1,true⟩)) -one (cN (some ⟨xo,xk,2,true⟩))=0/\one (gh (eK o ⟨xo,xk,1,true⟩) (aab ⟨xo,xk,1,true⟩)) -one (gh o (some ⟨xo,xk,2,true⟩))=0:=by rcases hk with rfl|rfl<;>exact⟨rfl,rfl⟩
   rw[es,ey];unfold cn fT gf at fU;simp only[Int.reduceEq,Bool.true_eq_false,and_false,false_and,or_false,false_or,and_true,true_and,eq_self]at fU;by_cases h0:(aG s.af o.id).bC=0
   ·rw[if_pos h0];refine⟨rfl,fM h (b:=s.af) h.ok.af (λ_ _=>⟨rfl,rfl⟩) hd ?_⟩;rw[e];unfold cn fT gf;simp only[Int.reduceEq,Bool.true_eq_false,and_false,false_and,or_false,false_or,and_true,true_and,eq_self];omega
   ·rw[if_neg h0];obtain⟨a1,a2,a3,a4,a5⟩:=s4 h hid (.inl rfl) (by omega) (λh=>by omega);refine⟨a1,fM h a2 a3 hd ?_⟩;rw[e,a4,a5,if_neg (by decide)];unfold cn fT gf;simp only[Int.reduceEq,Bool.true_eq_false,and_false,false_and,or_false,false_or,and_true,true_and,eq_self,reduceCtorEq];omega
  ·--unbook
   left;have es:dw s o (cK ⟨xo,xk,3,true⟩)=eB s o 4:=by rcases hk with rfl|rfl<;>rfl
   have ey:cM ⟨xo,xk,3,true⟩ true=⟨xo,xk,2,true⟩:=by rcases hk with rfl|rfl<;>rfl
   have e:cn (eK o ⟨xo,xk,2,true⟩) (aab ⟨xo,xk,2,true⟩)=cn o (some ⟨xo,xk,2,true⟩):=by rcases hk with rfl|rfl<;>rfl
   have hd:one (cN (aab ⟨xo,xk,2,true⟩)) -one (cN (some ⟨xo,xk,3,true⟩))=0/\one (gh (eK o ⟨xo,xk,2,true⟩) (aab ⟨xo,xk,2,true⟩)) -one (gh o (some ⟨xo,xk,3,true⟩))=0:=by rcases hk with rfl|rfl<;>exact⟨rfl,rfl⟩
   rw[es,ey];unfold cn fT gf at fU;simp only[Int.reduceEq,Bool.true_eq_false,and_false,false_and,or_false,false_or,and_true,true_and,eq_self]at fU;obtain⟨a1,a2,a3,a4,a5⟩:=lN (m:=4) (a:=1) (b:=4) h hid (by omega) (by omega) rfl (by decide);refine⟨a1,nF h a2 a3 a5 hd ?_⟩;rw[e,a4];unfold cn fT gf;simp only[Int.reduceEq,Bool.true_eq_false,and_false,false_and,or_false,false_or,and_true,true_and,eq_self];omega
  ·--refund
   left;have es:dw s o (cK ⟨xo,xk,4,true⟩)=(je s (ez s.af o.id ((aG s.af o.id).aT -(aG s.af o.id).aX)).1,(ez s.af o.id ((aG s.af o.id).aT -(aG s.af o.id).aX)).2):=by rcases hk with rfl|rfl<;>rfl
   have ey:cM ⟨xo,xk,4,true⟩ true=⟨xo,xk,3,true⟩:=by rcases hk with rfl|rfl<;>rfl
   have e:cn (eK o ⟨xo,xk,3,true⟩) (aab ⟨xo,xk,3,true⟩)=cn o (some ⟨xo,xk,3,true⟩):=by rcases hk with rfl|rfl<;>rfl
   have hd:one (cN (aab ⟨xo,xk,3,true⟩)) -one (cN (some ⟨xo,xk,4,true⟩))=0/\one (gh (eK o ⟨xo,xk,3,true⟩) (aab ⟨xo,xk,3,true⟩)) -one (gh o (some ⟨xo,xk,4,true⟩))=0:=by rcases hk with rfl|rfl<;>exact⟨rfl,rfl⟩
   rw[es,ey];unfold cn fT gf at fU;simp only[Int.reduceEq,Bool.true_eq_false,and_false,false_and,or_false,false_or,and_true,true_and,eq_self]at fU;obtain⟨a1,a2,a3,a4,a5⟩:=aag h hid (by omega);refine⟨a1,fM h a2 a3 hd ?_⟩;rw[e,a4,a5];unfold cn fT gf;simp only[Int.reduceEq,Bool.true_eq_false,and_false,false_and,or_false,false_or,and_true,true_and,eq_self,reduceCtorEq];omega
 ·left;rcases hp with rfl|rfl|rfl
  ·--label
   have ey:cM ⟨xo,3,0,false⟩ true=⟨xo,3,1,false⟩:=rfl;have es:dw s o (cK ⟨xo,3,0,false⟩)=eB s o 5:=rfl;rw[es,ey];unfold cn fT gf at fU;simp only[Int.reduceEq,Bool.false_eq_true,and_false,false_and,or_false,and_true,true_and,eq_self]at fU;obtain⟨a1,a2,a3,a4,a5⟩:=lN (m:=5) (a:=2) (b:=5) h hid (by omega) (by omega) rfl (by decide);refine⟨a1,nF h a2 a3 a5 ⟨rfl,rfl⟩ ?_⟩;show cn o (some ⟨xo,3,1,false⟩) _ _ _;rw[a4];unfold cn fT gf;simp only[Int.reduceEq,Bool.false_eq_true,and_false,false_and,or_false,false_or,and_true,true_and,eq_self];omega
  ·--receive
   have ey:cM ⟨xo,3,1,false⟩ true=⟨xo,3,2,false⟩:=rfl;have es:dw s o (cK ⟨xo,3,1,false⟩)=if(eB s o 6).2≠0 then(s,(eB s o 6).2)else jn (eB s o 6).1 o 4:=rfl;rw[es,ey];unfold cn fT gf at fU;simp only[Int.reduceEq,Bool.false_eq_true,and_false,false_and,or_false,false_or,and_true,true_and,eq_self]at fU;obtain⟨a1,a2,a3,a4,a5⟩:=lN (m:=6) (a:=5) (b:=6) h hid (by omega) (by omega) rfl (by decide);rw[if_neg (show¬(eB s o 6).2≠0 fromλe=>e a1)];exact kM h (x:=⟨xo,3,1,false⟩) (y:=⟨xo,3,2,false⟩) (k:=4) (by omega) hm (λi w hw=>(Sq i w hw).2 rfl) (λc q=>⟨by show c.held=c.held+(0 -0)*q;omega,by show c.out -q=c.out+(0 -1)*q;omega⟩) _ a2 a3 a5 (by
    show cn o (some ⟨xo,3,2,false⟩) _ _ _;rw[a4];unfold cn fT gf;simp only[Int.reduceEq,Bool.false_eq_true,and_false,false_and,or_false,false_or,and_true,true_and,eq_self];omega)
  ·--refund
   have ey:cM ⟨xo,3,2,false⟩ true=⟨xo,3,3,false⟩:=rfl;have es:dw s o (cK ⟨xo,3,2,false⟩)=(je s (ez s.af o.id ((aG s.af o.id).aT -(aG s.af o.id).aX)).1,(ez s.af o.id ((aG s.af o.id).aT -(aG s.af o.id).aX)).2):=rfl;rw[es,ey];unfold cn fT gf at fU;simp only[Int.reduceEq,Bool.false_eq_true,and_false,false_and,or_false,false_or,and_true,true_and,eq_self]at fU;obtain⟨a1,a2,a3,a4,a5⟩:=aag h hid (by omega);refine⟨a1,fM h a2 a3 ⟨rfl,rfl⟩ ?_⟩;show cn ⟨o.id,o.lines,o.aP,7⟩ none _ _ _;rw[a4,a5];unfold cn;simp only[Int.reduceEq,false_and,or_false,false_or,true_and,eq_self];omega
end Go.Proofs.aaa
end
section
namespace Go.Proofs.aaa
open Go.bA Go.IntWalk
structure HR (s t:State)(o:Order)(st:Int)(g:Option aC):Prop where
 limit:t.limit=s.limit
 kept:t.kept=s.kept
 aa:t.aa=dF s.aa o.id st
 apart:jd t.aj
 aj:∀n,dr t.aj n=if n=o.id then g else dr s.aj n
 range:1<=st/\st<8
 jm:∀y,g=some y->y.order=o.id/\gI st=y.kind/\cF y.kind y.pos y.aO=0/\cw y.kind y.pos y.aO=true
 done:g=none->gI st=0
 cells:b7 t.cells=true
 af:bO t.af
 aA:fR 0 t.aA=true/\∀y∈t.aA,0<=y.state
 others:∀n,n≠o.id->aG t.af n=aG s.af n/\cz t.aA n=cz s.aA n/\eV t.af.ak n=eV s.af.ak n
 ph:cn ⟨o.id,o.lines,o.aP,st⟩ g (aG t.af o.id) (cz t.aA o.id) (eV t.af.ak o.id)
 cell:∀i w,Kn i w->(cellOf t.cells i w).held=(cellOf s.cells i w).held+(one (cN g) -one (cN (dr s.aj o.id)))*dD o.lines i w/\(cellOf t.cells i w).out=(cellOf s.cells i w).out+(one (gh ⟨o.id,o.lines,o.aP,st⟩ g) -one (gh o (dr s.aj o.id)))*dD o.lines i w
theorem dq (A B q:Int):A*q=B*q+(A -B)*q:=by rw[<-Int.add_mul];congr 1;omega
theorem HS {α β:Type}(f:β->Int)(φ:α->β)(l:List α):dI f (l.map φ)=dI (λx=>f (φ x)) l:=by unfold dI;rw[List.map_map];rfl
theorem Bh {l:List Order}(hr:bU Order.id l){a b:Order}(ha:a∈l)(hb:b∈l)(h:a.id=b.id):a=b:=by
 have h1:=mC hr ha;have h2:=mC hr hb;rw[h,h2]at h1;cases h1;rfl
theorem qF {s t:State}(h:Inv s){o:Order}(hm:o∈s.aa){st:Int}{g:Option aC}(T:HR s t o st g):Inv t:=by
 have hr:=(bR.1 h.ok.aa).1;have hP:=h.ok.nA;have hmem:∀p∈t.aa,(p=⟨o.id,o.lines,o.aP,st⟩)\/(p∈s.aa/\p.id≠o.id):=λp hp=>by
  rw[T.aa]at hp;unfold dF at hp;obtain⟨q,hq,rfl⟩:=List.mem_map.1 hp;by_cases e:q.id=o.id
  ·left;rw[if_pos e,Bh hr hq hm e]
  ·right;rw[if_neg e];exact⟨hq,e⟩
 have NI:jc t.aa=true:=bR.2 ⟨by rw[T.aa];exact jD hr _ _,λp hp=>by
  obtain⟨h1,h2⟩:=(bR.1 h.ok.aa).2 o hm;rcases hmem p hp with rfl|⟨hp,-⟩
  ·refine⟨h1, ?_⟩;unfold fo at h2⊢;rw[decide_eq_true_eq]at h2⊢;have:=T.range;exact⟨h2.1,h2.2.1,by show st≠0;omega,by show st<8;omega⟩
  ·exact(bR.1 h.ok.aa).2 p hp⟩
 have Kj:∀n,bq Order.id t.aa n=(bq Order.id s.aa n).map λq=>if n=o.id then⟨q.id,q.lines,q.aP,st⟩else q:=λn=>by rw[T.aa,n_]
 have hfo:=mC hr hm;have HT:zn t:=by
  refine⟨T.apart,λz hz=> ?_,λp hp=> ?_⟩
  ·have Q8:=aak T.apart hz;rw[T.aj]at Q8;by_cases e:z.order=o.id
   ·rw[if_pos e]at Q8;obtain⟨h1,h2,h3,h4⟩:=T.jm z Q8;refine⟨⟨o.id,o.lines,o.aP,st⟩, ?_,h2,h3,h4⟩;rw[Kj,e,hfo,Option.map_some,if_pos rfl]
   ·rw[if_neg e]at Q8;obtain⟨q,h1,h2⟩:=hP.jm z (nZ Q8).1;exact⟨q,by rw[Kj,h1,Option.map_some,if_neg e],h2⟩
  ·rw[T.aj];rcases hmem p hp with rfl|⟨hp,e⟩
   ·rw[if_pos rfl];show gI st=0↔g=none;constructor
    ·intro h0
     cases hg:g with
     |none=>rfl
     |some y=>
      obtain⟨-,h2,h3,-⟩:=T.jm y hg;have:=rX h3;omega
    ·exact T.done
   ·rw[if_neg e];exact hP.order p hp
 have hsum:∀(F G:Order->Option aC->Int)(D:Int),(∀p∈s.aa,p.id≠o.id->F p (dr s.aj p.id)=G p (dr s.aj p.id))->F ⟨o.id,o.lines,o.aP,st⟩ g=G o (dr s.aj o.id)+D->dI (λp=>F p (dr t.aj p.id)) t.aa=dI (λp=>G p (dr s.aj p.id)) s.aa+D:=λF G D h1 h2=>by
  rw[T.aa];unfold dF;rw[HS,HL hr hm (g:=λp=>G p (dr s.aj p.id)) (λp hp hne=>by
   rw[if_neg hne,T.aj,if_neg hne];exact h1 p hp hne)]
  rw[if_pos rfl,T.aj,if_pos rfl,h2];omega
 refine⟨⟨by rw[T.limit];exact h.ok.limit,by rw[T.limit,T.aa,rS];exact h.ok.wO,by rw[T.kept];exact h.ok.kept,T.cells,T.af,T.aA.1,NI,(ny.2 HT).2⟩,T.aA.2,λp hp=> ?_,λp hp=> ?_,λn hn=> ?_,λi w hw=> ?_,by rw[T.kept];exact h.kept⟩
 ·rcases hmem p hp with rfl|⟨hp,-⟩
  ·have:=T.range;show 0<=st;omega
  ·exact h.status p hp
 ·rcases hmem p hp with rfl|⟨hp,e⟩
  ·show cn _ (dr t.aj o.id) (aG t.af o.id) (cz t.aA o.id) (eV t.af.ak o.id);rw[T.aj,if_pos rfl];exact T.ph
  ·obtain⟨a,b,c⟩:=T.others p.id e;rw[T.aj,if_neg e,a,b,c];exact h.ph p hp
 ·have hne:n≠o.id:=λe=>by rw[Kj,e,hfo]at hn;cases hn
  obtain⟨a,b,c⟩:=T.others n hne;rw[a,b,c];refine h.none n ?_;rw[Kj]at hn
  cases hf:bq Order.id s.aa n with
  |none=>rfl
  |some q=>rw[hf]at hn;cases hn
 ·obtain⟨a,b⟩:=T.cell i w hw;obtain⟨c,d⟩:=h.held i w hw;rw[a,b,c,d];constructor
  ·symm;exact hsum (λp g=>one (cN g)*dD p.lines i w) (λp g=>one (cN g)*dD p.lines i w) _ (λ_ _ _=>rfl) (dq _ _ _)
  ·symm;exact hsum (λp g=>one (gh p g)*dD p.lines i w) (λp g=>one (gh p g)*dD p.lines i w) _ (λ_ _ _=>rfl) (dq _ _ _)
end Go.Proofs.aaa
end
section
namespace Go.Proofs.aaa
open Go.bA Go.IntWalk
theorem CS {l:List Order}(hr:bU Order.id l){o:Order}(ho:o∈l):dF l o.id o.status=l:=by
 unfold dF;have:l.map (λq=>if q.id=o.id then(⟨q.id,q.lines,q.aP,o.status⟩:Order)else q)=l.map id:=List.map_congr_left λq hq=>by
  by_cases e:q.id=o.id
  ·rw[if_pos e,Bh hr hq ho e];rfl
  ·rw[if_neg e];rfl
 rw[this,List.map_id]
theorem Fe {x:aC}(h1:cF x.kind x.pos x.aO=0)(h2:cw x.kind x.pos x.aO=true)(b:Bool):cF (cM x b).kind (cM x b).pos (cM x b).aO=0/\(cM x b).order=x.order/\(cM x b).kind=x.kind:=by
 obtain⟨xo,xk,xp,xu⟩:=x;simp only at h1 h2;rcases iQ h1 h2 with⟨rfl,rfl,hp⟩|⟨hk,rfl,hp⟩|⟨rfl,rfl,hp⟩
 ·rcases hp with rfl|rfl|rfl|rfl|rfl<;>cases b<;>exact⟨rfl,rfl,rfl⟩
 ·rcases hk with rfl|rfl<;>rcases hp with rfl|rfl|rfl|rfl<;>cases b<;>exact⟨rfl,rfl,rfl⟩
 ·rcases hp with rfl|rfl|rfl<;>cases b<;>exact⟨rfl,rfl,rfl⟩
theorem HU {s:State}(h:Inv s){k:Nat}{x:aC}(hx:s.aj[k]?=some x){o:Order}(ho:bq Order.id s.aa x.order=some o):qE s s o x (cM x false):=by
 obtain⟨hm,he⟩:=b_ Order.id ho;obtain⟨o',ho',-,hc,hn⟩:=h.ok.jm hx;have hg:=sk h.ok hx;have fU:=h.ph o hm;rw[he,hg]at fU;rw[<-he]at fU;have mk:one (cN (aab (cM x false))) -one (cN (some x))=0/\one (gh (eK o (cM x false)) (aab (cM x false))) -one (gh o (some x))=0->cn (eK o (cM x false)) (aab (cM x false)) (aG s.af o.id) (cz s.aA o.id) (eV s.af.ak o.id)->qE s s o x (cM x false):=λa b=>fM h (b:=s.af) h.ok.af (λ_ _=>⟨rfl,rfl⟩) a b;obtain⟨xo,xk,xp,xu⟩:=x;simp only at hc hn;rcases iQ hc hn with⟨rfl,rfl,hp⟩|⟨hk,rfl,hp⟩|⟨rfl,rfl,hp⟩
 ·rcases hp with rfl|rfl|rfl|rfl|rfl
  ·refine mk ⟨rfl,rfl⟩ ?_;show cn ⟨o.id,o.lines,o.aP,2⟩ none _ _ _;unfold cn fT gf at fU;unfold cn;simp only[Int.reduceEq,Bool.false_eq_true,and_false,false_and,or_false,false_or,and_true,true_and,eq_self]at fU⊢;omega
  ·refine mk ⟨rfl,rfl⟩ ?_;show cn o (some ⟨xo,1,1,true⟩) _ _ _;unfold cn fT gf at fU⊢;simp only[Int.reduceEq,Bool.false_eq_true,Bool.true_eq_false,and_false,false_and,or_false,false_or,and_true,true_and,eq_self]at fU⊢;omega
  ·refine mk ⟨rfl,rfl⟩ ?_;show cn o (some ⟨xo,1,2,true⟩) _ _ _;unfold cn fT gf at fU⊢;simp only[Int.reduceEq,Bool.false_eq_true,Bool.true_eq_false,and_false,false_and,or_false,false_or,and_true,true_and,eq_self]at fU⊢;omega
  ·refine mk ⟨rfl,rfl⟩ ?_;show cn o (some ⟨xo,1,3,true⟩) _ _ _;unfold cn fT gf at fU⊢;simp only[Int.reduceEq,Bool.false_eq_true,Bool.true_eq_false,and_false,false_and,or_false,false_or,and_true,true_and,eq_self]at fU⊢;omega
  ·refine mk ⟨rfl,rfl⟩ ?_;show cn o (some ⟨xo,1,4,true⟩) _ _ _;unfold cn fT gf at fU⊢;simp only[Int.reduceEq,Bool.false_eq_true,Bool.true_eq_false,and_false,false_and,or_false,false_or,and_true,true_and,eq_self]at fU⊢;omega
 ·have e:cM ⟨xo,xk,xp,true⟩ false=⟨xo,xk,xp,true⟩:=by rcases hk with rfl|rfl<;>rcases hp with rfl|rfl|rfl|rfl<;>rfl
  rw[e]at mk⊢;have e2:aab ⟨xo,xk,xp,true⟩=some ⟨xo,xk,xp,true⟩/\eK o ⟨xo,xk,xp,true⟩=o:=by rcases hk with rfl|rfl<;>rcases hp with rfl|rfl|rfl|rfl<;>exact⟨rfl,rfl⟩
  rw[e2.1,e2.2]at mk;exact mk ⟨Int.sub_self _,Int.sub_self _⟩ fU
 ·rcases hp with rfl|rfl|rfl
  ·refine mk ⟨rfl,rfl⟩ ?_;show cn ⟨o.id,o.lines,o.aP,3⟩ none _ _ _;unfold cn fT gf at fU;unfold cn;simp only[Int.reduceEq,Bool.false_eq_true,and_false,false_and,or_false,false_or,and_true,true_and,eq_self]at fU⊢;omega
  ·exact mk ⟨rfl,rfl⟩ fU
  ·exact mk ⟨rfl,rfl⟩ fU
def Oz (o:Order)(y:aC):Int:=if cw y.kind y.pos y.aO=true then o.status else qz y
theorem xS (o:Order)(y:aC):eK o y=⟨o.id,o.lines,o.aP,Oz o y⟩:=by
 unfold eK Oz;split<;>rfl
theorem CT (y:aC):1<=qz y/\qz y<8/\gI (qz y)=0:=by
 unfold qz;repeat' split
 all_goals exact⟨by decide,by decide,rfl⟩
theorem zq {s d:State}(h:Inv s){k:Nat}{x:aC}(hx:s.aj[k]?=some x){o:Order}(ho:bq Order.id s.aa x.order=some o){w:Int}(A:qE s d o x (cM x (w==0)))(hl:d.limit=s.limit):
  HR s (eY s d k x w).1 o (Oz o (cM x (w==0))) (aab (cM x (w==0))):=by
 obtain⟨hm,he⟩:=b_ Order.id ho;obtain⟨o',ho',LY,hc,hn⟩:=h.ok.jm hx;rw[ho]at ho';cases ho';have hr:=(bR.1 h.ok.aa).1;have hg:=sk h.ok hx;have hap:=h.ok.apart;obtain⟨c1,c2,c3⟩:=Fe hc hn (w==0);obtain⟨y,hy⟩:∃y,cM x (w==0)=y:=⟨_,rfl⟩;have fU:=A.ph;have hcell:=A.cell;rw[hy]at c1 c2 c3 fU hcell⊢;rw[xS]at fU;simp only[xS]at hcell;have ost:=(h.ok.order hm).2.2;have aaJ:=h.status o hm;have er:=CT y;have zu:∀i w,Kn i w->(cellOf d.cells i w).held=(cellOf s.cells i w).held+(one (cN (aab y)) -one (cN (dr s.aj o.id)))*dD o.lines i w/\(cellOf d.cells i w).out=(cellOf s.cells i w).out+(one (gh ⟨o.id,o.lines,o.aP,Oz o y⟩ (aab y)) -one (gh o (dr s.aj o.id)))*dD o.lines i w:=λi w hw=>by
  rw[he,hg];exact⟨(hcell i w hw).1,(hcell i w hw).2.1⟩
 unfold eY;rw[hy];by_cases hnb:cw y.kind y.pos y.aO=true
 ·rw[if_pos hnb];have e1:aab y=some y:=if_pos hnb;have e2:Oz o y=o.status:=if_pos hnb;rw[e1,e2]at fU zu⊢;refine⟨hl,rfl,(CS hr hm).symm,xJ hap hx c2,λn=>by rw[he];exact vD hap hx c2 n,⟨by omega,by omega⟩,λz hz=> ?_,λhz=>(by cases hz),A.cells,A.af,A.aA,A.others,fU,zu⟩;cases hz;exact⟨by rw[c2,he],by rw[LY,c3],c1,hnb⟩
 ·rw[if_neg hnb];have e1:aab y=none:=if_neg hnb;have e2:Oz o y=qz y:=if_neg hnb;rw[e1,e2]at fU zu⊢;exact⟨hl,rfl,by rw[he],sS hap k,λn=>by rw[he];exact pF hap hx n,⟨by omega,by omega⟩,λz hz=>(by cases hz),λ_=>er.2.2,A.cells,A.af,A.aA,A.others,fU,zu⟩
structure vK (s:State)(k:Nat)(x:aC)(o:Order)(v:Int)(t:State)(told:Told):Prop where
 inv:Inv t
 HV:told.order=x.order/\told.kind=x.kind/\told.step=cK x/\told.over= !cw (cM x (told.why==0)).kind (cM x (told.why==0)).pos (cM x (told.why==0)).aO
 zw:∃d,qE s d o x (cM x (told.why==0))/\t=(eY s d k x told.why).1/\(told.why≠0->d=s)
 why:told.why=0\/told.why=10/\lM (cK x)=true/\v=1\/told.why=13/\x.kind=1/\x.pos=0/\x.aO=false/\¬∀i w,Kn i w->dD o.lines i w<=(cellOf s.cells i w).free
 res:told.why=0->x.kind=1->x.pos=0->x.aO=false->∀i w,Kn i w->dD o.lines i w<=(cellOf s.cells i w).free
 ref:lM (cK x)=true->v=1->told.why=10
theorem CU (s d:State)(k:Nat)(x:aC)(w:Int):(eY s d k x w).2=⟨x.order,x.kind,cK x,w, !cw (cM x (w==0)).kind (cM x (w==0)).pos (cM x (w==0)).aO⟩:=by
 unfold eY;by_cases h:cw (cM x (w==0)).kind (cM x (w==0)).pos (cM x (w==0)).aO=true
 ·rw[if_pos h,h];rfl
 ·rw[if_neg h];simp only[Bool.not_eq_true]at h;rw[h];rfl
theorem DT {s:State}(h:Inv s){k:Nat}{x:aC}(hx:s.aj[k]?=some x){o:Order}(ho:bq Order.id s.aa x.order=some o)(v:Int):vK s k x o v (fF s k x v).1 (fF s k x v).2:=by
 obtain⟨hm,he⟩:=b_ Order.id ho;have hno:=HU h hx ho;have mk:∀(d:State)(w:Int),qE s d o x (cM x (w==0))->d.limit=s.limit->(w≠0->d=s)->(w=0\/w=10/\lM (cK x)=true/\v=1\/w=13/\x.kind=1/\x.pos=0/\x.aO=false/\¬∀i w,Kn i w->dD o.lines i w<=(cellOf s.cells i w).free)->
   (w=0->x.kind=1->x.pos=0->x.aO=false->∀i w,Kn i w->dD o.lines i w<=(cellOf s.cells i w).free)->(lM (cK x)=true->v=1->w=10)->vK s k x o v (eY s d k x w).1 (eY s d k x w).2:=λd w A hl hd hw hres Wa=>by
  rw[show(eY s d k x w).2=_ from CU s d k x w];exact⟨qF h hm (zq h hx ho A hl),⟨rfl,rfl,rfl,rfl⟩,⟨d,A,rfl,hd⟩,hw,hres,Wa⟩
 unfold fF;rw[vJ ho];by_cases ha:lM (cK x)=true/\v=1
 ·rw[if_pos ha];exact mk s 10 hno rfl (λ_=>rfl) (.inr (.inl ⟨rfl,ha⟩)) (λh=>by cases h) (λ_ _=>rfl)
 ·rw[if_neg ha];rcases Ki h hx ho with⟨h1,h2⟩|⟨h1,h2,h3,h4,h5⟩
  ·rw[if_pos h1];refine mk _ 0 h2 (CO s o _).2.2.2 (λh=>absurd rfl h) (.inl rfl) (λ_ k1 k2 k3=> ?_) (λa b=>absurd ⟨a,b⟩ ha);refine Classical.byContradiction λhall=> ?_;have LW:cK x=1:=by
    obtain⟨xo,xk,xp,xu⟩:=x;simp only at k1 k2 k3;subst k1;subst k2;subst k3;rfl
   rw[LW]at h1;have:(bV 1 s.cells o.lines).2=0:=h1;rw[rW (k:=1) (by omega) h.ok.cells (h.ok.jv hm).1 hall]at this;exact absurd this (by decide)
  ·rw[h4,if_neg (by decide)];exact mk s 13 hno rfl (λ_=>rfl) (.inr (.inr ⟨rfl,h1,h2,h3,h5⟩)) (λh=>by cases h) (λa b=>absurd ⟨a,b⟩ ha)
end Go.Proofs.aaa
end
section
namespace Go.Proofs.aaa
open Go.bA Go.IntWalk
theorem Kk {s:State}(h:Inv s){n:Int}(hf:bq Order.id s.aa n=none):dr s.aj n=none:=by
 refine zl λy hy e=> ?_;obtain⟨o,ho,-⟩:=h.ok.nA.jm y hy;rw[e,hf]at ho;cases ho
theorem Kl {s:State}(h:Inv s){o:Order}(hf:bq Order.id s.aa o.id=none)(hid:gH o.id)(hp:dW o.lines=(o.aP,0))(hst:o.status=1)(hroom:(s.aa.length:Int)<s.limit):
  Inv ⟨s.limit,s.cells,s.af,s.aA,bt s.aa (eO Order.id s.aa o.id) o,s.aj++[⟨o.id,1,0,false⟩],s.kept⟩:=by
 have hr:=(bR.1 h.ok.aa).1;have hg:=Kk h hf;have hP:=h.ok.nA;obtain⟨n1,n2,n3⟩:=h.none _ hf;have Q9:=A9 (key:=Order.id) (c:=o) hf;have F3:∀n,dr (s.aj++[⟨o.id,1,0,false⟩]) n=if n=o.id then some ⟨o.id,1,0,false⟩else dr s.aj n:=λn=>A5 _ ⟨o.id,1,0,false⟩ hg n;have hap:jd (s.aj++[⟨o.id,1,0,false⟩]):=xK h.ok.apart _ hg;have hmem:∀p∈bt s.aa (eO Order.id s.aa o.id) o,p=o\/p∈s.aa/\p.id≠o.id:=λp hp=>by
  rcases tY hp with rfl|hp
  ·exact .inl rfl
  ·exact .inr ⟨hp,λe=>by have:=mC hr hp;rw[e,hf]at this;cases this⟩
 have NI:jc (bt s.aa (eO Order.id s.aa o.id) o)=true:=bR.2 ⟨by rw[Q9];exact kJ hr,λp wT=>by
  rcases hmem p wT with rfl|⟨wT,-⟩
  ·refine⟨by omega, ?_⟩;unfold fo;rw[decide_eq_true_eq];exact⟨hid.2,hp,by omega,by omega⟩
  ·exact(bR.1 h.ok.aa).2 p wT⟩
 have hfn:∀n,bq Order.id (bt s.aa (eO Order.id s.aa o.id) o) n=if o.id=n then some o else bq Order.id s.aa n:=λn=>by rw[Q9,lK hr]
 have HT:zn ⟨s.limit,s.cells,s.af,s.aA,bt s.aa (eO Order.id s.aa o.id) o,s.aj++[⟨o.id,1,0,false⟩],s.kept⟩:=by
  refine⟨hap,λz hz=> ?_,λp wT=> ?_⟩
  ·rcases List.mem_append.1 hz with hz|hz
   ·obtain⟨q,h1,h2⟩:=hP.jm z hz;refine⟨q, ?_,h2⟩;show bq Order.id (bt _ _ _) _=_;rw[hfn,if_neg (λe=>by rw[<-e,hf]at h1;cases h1)];exact h1
   ·rw[List.mem_singleton]at hz;subst hz;refine⟨o, ?_,by rw[hst];rfl,rfl,rfl⟩;show bq Order.id (bt _ _ _) _=_;rw[hfn,if_pos rfl]
  ·show gI p.status=0↔dr (s.aj++[_]) p.id=none;rw[F3];rcases hmem p wT with rfl|⟨wT,e⟩
   ·rw[if_pos rfl,hst];exact⟨λh=>absurd h (by decide),λh=>by cases h⟩
   ·rw[if_neg e];exact hP.order p wT
 refine⟨⟨h.ok.limit,by show((bt s.aa _ o).length:Int)<=s.limit;rw[bW];omega,h.ok.kept,h.ok.cells,h.ok.af,h.ok.aA,NI,(ny.2 HT).2⟩,h.aA,λp wT=> ?_,λp wT=> ?_,λn hn=> ?_,λi w hw=> ?_,h.kept⟩
 ·rcases hmem p wT with rfl|⟨wT,-⟩
  ·rw[hst];decide
  ·exact h.status p wT
 ·show cn p (dr (s.aj++[_]) p.id) (aG s.af p.id) (cz s.aA p.id) (eV s.af.ak p.id);rw[F3];rcases hmem p wT with rfl|⟨wT,e⟩
  ·rw[if_pos rfl,n1,n2,n3];unfold cn fT;simp[hst]
  ·rw[if_neg e];exact h.ph p wT
 ·refine h.none n ?_;have hn:bq Order.id (bt s.aa (eO Order.id s.aa o.id) o) n=none:=hn;rw[hfn]at hn;split at hn
  ·cases hn
  ·exact hn
 ·obtain⟨c,d⟩:=h.held i w hw;show(cellOf s.cells i w).held=_/\(cellOf s.cells i w).out=_;rw[c,d];unfold DR Kh;dsimp only;rw[A_,A_,F3,if_pos rfl];have hne:∀p∈s.aa,p.id≠o.id:=λp wT=>rQ Order.id hf p wT;constructor
  ·have:one (cN (some (⟨o.id,1,0,false⟩:aC)))=0:=rfl;rw[this,Int.zero_mul,Int.add_zero];exact iP λp wT=>by rw[F3,if_neg (hne p wT)]
  ·have:one (gh o (some (⟨o.id,1,0,false⟩:aC)))=0:=rfl;rw[this,Int.zero_mul,Int.add_zero];exact iP λp wT=>by rw[F3,if_neg (hne p wT)]
theorem Ff {s:State}(h:Inv s)(l:List Cell)(hl:b7 l=true)(hc:∀i w,Kn i w->(cellOf l i w).held=(cellOf s.cells i w).held/\(cellOf l i w).out=(cellOf s.cells i w).out):Inv (oK s l):=
 ⟨⟨h.ok.limit,h.ok.wO,h.ok.kept,hl,h.ok.af,h.ok.aA,h.ok.aa,h.ok.aj⟩,h.aA,h.status,h.ph,h.none,λi w hw=>by
  obtain⟨a,b⟩:=hc i w hw;show(cellOf l i w).held=_/\(cellOf l i w).out=_;rw[a,b];exact h.held i w hw,h.kept⟩
structure gb (s:State)(a:Ask)(t:State)(r:bz):Prop where
 inv:Inv t
 why:0<=r.why/\r.why<=15/\r.status<8/\0<=r.ax
 bad:r.why≠0->t=s/\r.status=0/\r.ax=0
 all:∀i w,Kn i w->(cellOf t.cells i w).all=(cellOf s.cells i w).all+if a.kind=4/\r.why=0 then dD a.lines i w else 0
theorem ff {s:State}(h:Inv s)(a:Ask){w:Int}(hw:1<=w/\w<=15):gb s a s ⟨w,0,0⟩:=
 ⟨h,⟨by show 0<=w;omega,hw.2,by show(0:Int)<8;decide,Int.le_refl _⟩,λ_=>⟨rfl,rfl,rfl⟩,λi w' _=>by rw[if_neg (λe=>by have:w=0:=e.2;omega)];omega⟩
theorem Fg (l:List aU):0<=(dW l).2/\(dW l).2<=15:=by
 unfold dW tF Q_
 repeat' split
 all_goals simp at*
theorem CV (l:List Cell)(i w:Int):0<=dN l i w/\dN l i w<=15:=by
 unfold dN;repeat' split
 all_goals omega
theorem Fh (k:Int)(l:List Cell)(i w n:Int):0<=(cm k l i w n).2/\(cm k l i w n).2<=15:=by
 have:=CV l i w;unfold cm;repeat' split
 all_goals (simp only;omega)
theorem vL (k:Int):∀(lines:List aU)(l:List Cell),0<=(bV k l lines).2/\(bV k l lines).2<=15
 |[],l=>⟨Int.le_refl _,by show(0:Int)<=15;decide⟩
 |x::r,l=>by
  unfold bV;split
  ·exact Fh ..
  ·exact vL k r _
theorem Bi {s:State}(h:Inv s)(a:Ask)(hk:a.kind=1):gb s a (fS s a).1 (fS s a).2:=by
 unfold fS;by_cases c0:gH a.order
 case neg=>rw[if_neg c0];exact ff h a (by omega)
 rw[if_pos c0];have hpw:=Fg a.lines;by_cases c1:(dW a.lines).2≠0
 ·rw[if_pos c1];exact ff h a (by omega)
 rw[if_neg c1];have hp:=nx (Decidable.not_not.1 c1)
 cases hf:bq Order.id s.aa a.order with
 |some o=>rw[if_pos (by rfl)];exact ff h a (by omega)
 |none=>
  rw[if_neg (by decide)];by_cases c2:(s.aa.length:Int)>=s.limit
  ·rw[if_pos c2];exact ff h a (by omega)
  rw[if_neg c2];refine⟨Kl h (o:=⟨a.order,a.lines,(dW a.lines).1,1⟩) hf c0 (by rw[Prod.ext_iff];exact⟨rfl,Decidable.not_not.1 c1⟩) rfl (by omega),⟨Int.le_refl _,by show(0:Int)<=15;decide,by show(1:Int)<8;decide,by show 0<=(dW a.lines).1;omega⟩,λe=>absurd rfl e,λi w _=> ?_⟩;show(cellOf s.cells i w).all=_;rw[if_neg (λe=>by omega),Int.add_zero]
set_option maxHeartbeats 600000 in
theorem Fi {s:State}(h:Inv s)(a:Ask)(hk:a.kind=2):gb s a (kI s a).1 (kI s a).2:=by
 unfold kI
 cases hf:bq Order.id s.aa a.order with
 |none=>exact ff h a (by omega)
 |some o=>
  dsimp only;by_cases c1:o.status≠1
  ·rw[if_pos c1];exact ff h a (by omega)
  rw[if_neg c1];have hst:=Decidable.not_not.1 c1;obtain⟨hm,he⟩:=b_ Order.id hf;obtain⟨x,hx⟩:=xN h.ok hf (by rw[hst];decide);have tP:=zm hx;obtain⟨Oy,HI⟩:=nZ hx;obtain⟨o',ho',LY,hc,hn⟩:=h.ok.nA.jm x Oy;rw[HI,hf]at ho';cases ho';have X7:x.kind=1:=by rw[<-LY,hst];rfl
  have fU:=h.ph o hm;have SH:=(h.ok.jv hm).2;have hap:=h.ok.apart;rw[he,hx]at fU;rw[hx];dsimp only;have NJ:dr s.aj o.id=some x:=by rw[he,hx]
  obtain⟨xo,xk,xp,xu⟩:=x;simp only at HI X7 hc hn;subst X7;by_cases hnb:cw 2 xp true=true
  ·rw[if_pos hnb];have hpos:1<=xp/\xp<=4:=by
    rcases iQ hc hn with⟨-,-,hp⟩|⟨-,-,hp⟩|⟨hk,-⟩
    ·refine⟨?_,by omega⟩;rcases hp with rfl|hp
     ·exact absurd hnb (by decide)
     ·omega
    ·omega
    ·omega
   have HW:cF 2 xp true=0:=by
    have:xp=1\/xp=2\/xp=3\/xp=4:=by omega
    rcases this with rfl|rfl|rfl|rfl<;>rfl
   refine⟨qF h hm (st:=4) (g:=some ⟨a.order,2,xp,true⟩) ⟨rfl,rfl,by rw[he],xJ hap tP (by show a.order=xo;omega),λn=> ?_,⟨by decide,by decide⟩,λy hy=> ?_,(λe=>by cases e),h.ok.cells,h.ok.af,⟨h.ok.aA,h.aA⟩,λ_ _=>⟨rfl,rfl,rfl⟩, ?_,λi w _=> ?_⟩,⟨Int.le_refl _,by show(0:Int)<=15;decide,by show(4:Int)<8;decide,by show 0<=o.aP;omega⟩,λe=>absurd rfl e,λi w _=> ?_⟩
   ·show dr (s.aj.set _ _) n=_;rw[vD hap tP (by show a.order=xo;omega),he,show(aC.mk xo 1 xp xu).order=a.order from HI]
   ·cases hy;exact⟨he.symm,rfl,HW,hnb⟩
   ·rw[he];have Ew:xp=1\/xp=2\/xp=3\/xp=4:=by omega
    clear hnb HW hc hn tP Oy hx NJ;unfold cn fT gf at fU⊢;rcases Ew with rfl|rfl|rfl|rfl<;>cases xu<;>simp only[Int.reduceEq,Bool.false_eq_true,Bool.true_eq_false,and_false,false_and,or_false,false_or,and_true,true_and,eq_self]at fU⊢<;>omega
   ·rw[NJ];have e1:cN (some ⟨xo,1,xp,xu⟩)=true:=decide_eq_true ⟨show¬(1:Int)=3 by decide,hpos.1⟩;have e2:cN (some ⟨a.order,2,xp,true⟩)=true:=decide_eq_true ⟨show¬(2:Int)=3 by decide,hpos.1⟩;have e3:gh o (some ⟨xo,1,xp,xu⟩)=false:=rfl;have e4:gh ⟨o.id,o.lines,o.aP,4⟩ (some ⟨a.order,2,xp,true⟩)=false:=rfl;rw[e1,e2,e3,e4,Int.sub_self,Int.sub_self,Int.zero_mul,Int.add_zero,Int.add_zero];exact⟨rfl,rfl⟩
   ·show(cellOf s.cells i w).all=_;rw[if_neg (λe=>by omega),Int.add_zero]
  ·rw[if_neg hnb];have hpos:xp=0:=by
    rcases iQ hc hn with⟨-,-,hp⟩|⟨-,-,hp⟩|⟨hk,-⟩
    ·rcases hp with rfl|rfl|rfl|rfl|rfl
     ·rfl
     all_goals exact absurd rfl hnb
    ·rcases hp with rfl|rfl|rfl|rfl<;>exact absurd rfl hnb
    ·omega
   subst hpos;refine⟨qF h hm (st:=5) (g:=none) ⟨rfl,rfl,by rw[he],sS hap _,λn=> ?_,⟨by decide,by decide⟩,(λy hy=>by cases hy),λ_=>rfl,h.ok.cells,h.ok.af,⟨h.ok.aA,h.aA⟩,λ_ _=>⟨rfl,rfl,rfl⟩, ?_,λi w _=> ?_⟩,⟨Int.le_refl _,by show(0:Int)<=15;decide,by show(5:Int)<8;decide,by show 0<=o.aP;omega⟩,λe=>absurd rfl e,λi w _=> ?_⟩
   ·show dr (s.aj.eraseIdx _) n=_;rw[pF hap tP,he,show(aC.mk xo 1 0 xu).order=a.order from HI]
   ·rw[he];unfold cn fT gf at fU;unfold cn;cases xu<;>simp only[Int.reduceEq,Bool.false_eq_true,Bool.true_eq_false,and_false,false_and,or_false,false_or,and_true,true_and,eq_self]at fU⊢<;>omega
   ·rw[NJ];have e1:cN (some ⟨xo,1,0,xu⟩)=false:=rfl;have e2:cN none=false:=rfl;have e3:gh o (some ⟨xo,1,0,xu⟩)=false:=rfl;have e4:gh ⟨o.id,o.lines,o.aP,5⟩ none=false:=rfl;rw[e1,e2,e3,e4,Int.sub_self,Int.zero_mul,Int.add_zero,Int.add_zero];exact⟨rfl,rfl⟩
   ·show(cellOf s.cells i w).all=_;rw[if_neg (λe=>by omega),Int.add_zero]
theorem Km {s:State}(h:Inv s)(a:Ask)(hk:a.kind=3):gb s a (sU s a).1 (sU s a).2:=by
 unfold sU
 cases hf:bq Order.id s.aa a.order with
 |none=>exact ff h a (by omega)
 |some o=>
  dsimp only;by_cases c1:o.status≠3
  ·rw[if_pos c1];exact ff h a (by omega)
  rw[if_neg c1];have hst:=Decidable.not_not.1 c1;obtain⟨hm,he⟩:=b_ Order.id hf;have F3:dr s.aj o.id=none:=(h.ok.nA.order o hm).1 (by rw[hst];rfl);have Ra:dr s.aj a.order=none:=by rw[<-he];exact F3
  have fU:=h.ph o hm;have SH:=(h.ok.jv hm).2;rw[F3]at fU;refine⟨qF h hm (st:=6) (g:=some ⟨a.order,3,0,false⟩) ⟨rfl,rfl,by rw[he],xK h.ok.apart _ Ra,λn=> ?_,⟨by decide,by decide⟩,λy hy=> ?_,(λe=>by cases e),h.ok.cells,h.ok.af,⟨h.ok.aA,h.aA⟩,λ_ _=>⟨rfl,rfl,rfl⟩, ?_,λi w _=> ?_⟩,⟨Int.le_refl _,by show(0:Int)<=15;decide,by show(6:Int)<8;decide,by show 0<=o.aP;omega⟩,λe=>absurd rfl e,λi w _=> ?_⟩
  ·show dr (s.aj++[_]) n=_;rw[A5 _ ⟨a.order,3,0,false⟩ Ra,he]
  ·cases hy;exact⟨he.symm,rfl,rfl,rfl⟩
  ·unfold cn at fU⊢;simp only[hst,Int.reduceEq,Bool.false_eq_true,and_false,false_and,or_false,false_or,and_true,true_and,eq_self]at fU⊢;omega
  ·rw[F3];have e1:gh o none=true:=decide_eq_true hst;rw[e1];have e2:gh ⟨o.id,o.lines,o.aP,6⟩ (some ⟨a.order,3,0,false⟩)=true:=rfl;have e3:cN (some ⟨a.order,3,0,false⟩)=false:=rfl;have e4:cN none=false:=rfl;rw[e2,e3,e4,Int.sub_self,Int.sub_self,Int.zero_mul,Int.add_zero,Int.add_zero];exact⟨rfl,rfl⟩
  ·show(cellOf s.cells i w).all=_;rw[if_neg (λe=>by omega),Int.add_zero]
theorem CW {s:State}(h:Inv s)(a:Ask)(hk:a.kind=4):gb s a (ia s a).1 (ia s a).2:=by
 unfold ia;by_cases c0:a.lines.length=0
 ·rw[if_pos c0];exact ff h a (by omega)
 rw[if_neg c0];by_cases c1:¬∀x∈a.lines,x.unit=0
 ·rw[if_pos c1];exact ff h a (by omega)
 rw[if_neg c1];by_cases c2:(a.lines.length:Int)>16
 ·rw[if_pos c2];exact ff h a (by omega)
 rw[if_neg c2];have hw:=vL 0 a.lines s.cells;by_cases c3:(bV 0 s.cells a.lines).2≠0
 ·rw[if_pos c3];exact ff h a (by omega)
 rw[if_neg c3];obtain⟨d1,d2,d3,-⟩:=nE (k:=0) (by omega) h.ok.cells (Decidable.not_not.1 c3);refine⟨Ff h _ d1 (λi w hw=>by rw[d3 i w hw];exact⟨rfl,rfl⟩),⟨Int.le_refl _,by show(0:Int)<=15;decide,by show(0:Int)<8;decide,Int.le_refl _⟩,λe=>absurd rfl e,λi w hw=> ?_⟩;show(cellOf (bV 0 s.cells a.lines).1 i w).all=_;rw[d3 i w hw,if_pos ⟨hk,rfl⟩];rfl
theorem xT (l:List Cell)(i w:Int):(dM l i w).2=0/\b7 l=true/\Kn i w/\(dM l i w).1=cellOf l i w\/1<=(dM l i w).2/\(dM l i w).2<=15:=by
 unfold dM;by_cases c:b7 l=false
 ·rw[if_pos c];right;simp
 ·rw[if_neg c];by_cases d:Kn i w
  ·rw[if_pos d];exact .inl ⟨rfl,by simpa using c,d,rfl⟩
  ·rw[if_neg d];right;simp
theorem DU {s:State}(h:Inv s)(a:Ask):gb s a (dG s a).1 (dG s a).2:=by
 unfold dG;by_cases k1:a.kind=1
 ·rw[if_pos k1];exact Bi h a k1
 rw[if_neg k1];by_cases k2:a.kind=2
 ·rw[if_pos k2];exact Fi h a k2
 rw[if_neg k2];by_cases k3:a.kind=3
 ·rw[if_pos k3];exact Km h a k3
 rw[if_neg k3];by_cases k4:a.kind=4
 ·rw[if_pos k4];exact CW h a k4
 rw[if_neg k4];by_cases k5:a.kind=5
 ·rw[if_pos k5];unfold eg
  cases hf:bq Order.id s.aa a.order with
  |none=>exact ff h a (by omega)
  |some o=>
   have hm:=(b_ Order.id hf).1;have:=(h.ok.jv hm).2;exact⟨h,⟨Int.le_refl _,by show(0:Int)<=15;decide,(h.ok.order hm).2.2.2,by show 0<=o.aP;omega⟩,λe=>absurd rfl e,λi w _=>by rw[if_neg (λe=>k4 e.1),Int.add_zero]⟩
 rw[if_neg k5];unfold ga;split
 ·rename_i x hx;rcases xT s.cells x.item x.aE with⟨c1,c2,c3,c4⟩|c1
  ·rw[if_neg (λe=>e c1),c4];have:=b8.1 (cZ c2 c3).1;exact⟨h,⟨Int.le_refl _,by show(0:Int)<=15;decide,by show(0:Int)<8;decide,by show 0<=(cellOf s.cells x.item x.aE).free;omega⟩,λe=>absurd rfl e,λi w _=>by rw[if_neg (λe=>k4 e.1),Int.add_zero]⟩
  ·rw[if_pos (by omega)];exact ff h a c1
 ·exact ff h a (by omega)
end Go.Proofs.aaa
end
section
namespace Go.Proofs.aaa
open Go.bA Go.IntWalk
theorem HX {l:List Kept}(hr:vA l){m:ByteArray}(hf:h_ l m=none)(r:bz):vA (bt l (lJ l m) ⟨m,r⟩):=by
 have hne:∀x∈l,x.mark≠m:=λx hx=>by
  have:=List.find?_eq_none.1 hf x hx;simpa using this
 have hlo:∀x∈l.take (lJ l m),dA .lss x.mark m=true:=λx hx=>by
  obtain⟨i,hi,rfl⟩:=List.mem_take_iff_getElem.1 hx;exact(fL hr m i _ (List.getElem?_eq_getElem (by omega))).2 (by omega)
 have hhi:∀x∈l.drop (lJ l m),dA .lss m x.mark=true:=λx hx=>by
  obtain⟨i,hi,rfl⟩:=List.mem_drop_iff_getElem.1 hx;have h1:=(fL hr m (lJ l m+i) _ (List.getElem?_eq_getElem (by omega)));have h2:¬dA .lss l[lJ l m+i].mark m=true:=λe=>by have:=h1.1 e;omega
  have h3:=hne _ (List.getElem_mem (show lJ l m+i<l.length by omega));rcases lH l[lJ l m+i].mark m with⟨a,-⟩|⟨a,-⟩|⟨a,-⟩
  ·exact absurd a h2
  ·exact absurd a h3
  ·exact a
 unfold bt;refine List.pairwise_append.2 ⟨hr.take,List.pairwise_cons.2 ⟨λy hy=>hhi y hy,hr.drop⟩,λx hx y hy=> ?_⟩;rcases List.mem_cons.1 hy with rfl|hy
 ·exact hlo x hx
 ·exact vt _ _ _ (hlo x hx) (hhi y hy)
theorem HY {s:State}(h:Inv s){m:ByteArray}{r:bz}(hf:h_ s.kept m=none)(hm:m≠ByteArray.empty)(hs:m.size<=64)(hl:s.kept.length<4096)(hr:0<=r.why/\r.why<=15/\r.status<8/\0<=r.ax)(hb:r.why≠0->r.status=0/\r.ax=0):Inv (qA s m r):=by
 obtain⟨k1,k2,k3⟩:=nB h.ok.kept;refine⟨⟨h.ok.limit,h.ok.wO,E5 (by show(bt _ _ _).length<=4096;rw[bW];omega) (HX k2 hf r) (λx hx=> ?_),h.ok.cells,h.ok.af,h.ok.aA,h.ok.aa,h.ok.aj⟩,h.aA,h.status,h.ph,h.none,h.held,λx hx=> ?_⟩
 ·rcases tY hx with rfl|hx
  ·refine⟨?_,hm⟩;unfold gZ;rw[decide_eq_true_eq];exact⟨by omega,hr⟩
  ·exact k3 x hx
 ·rcases tY hx with rfl|hx
  ·exact hb
  ·exact h.kept x hx
structure LB (s:State)(a:Ask)(t:State)(r:bz):Prop where
 inv:Inv t
 bad:r.why≠0->(∃k,t=⟨s.limit,s.cells,s.af,s.aA,s.aa,s.aj,k⟩)/\r.status=0/\r.ax=0
theorem zx {s:State}(h:Inv s)(a:Ask):LB s a (eU s a).1 (eU s a).2:=by
 have hd:=DU h a;have same:∀r:bz,(r.why≠0->r.status=0/\r.ax=0)->LB s a s r:=λr hr=>⟨h,λe=>⟨⟨s.kept,rfl⟩,hr e⟩⟩;unfold eU;by_cases c0:a.kind<1\/a.kind>=7
 ·rw[if_pos c0];exact same _ λ_=>⟨rfl,rfl⟩
 rw[if_neg c0];by_cases c1:(a.mark.size:Int)>64
 ·rw[if_pos c1];exact same _ λ_=>⟨rfl,rfl⟩
 rw[if_neg c1]
 cases hf:h_ s.kept a.mark with
 |some k=>exact same _ (h.kept k (List.mem_of_find?_eq_some hf))
 |none=>
  dsimp only;by_cases c2:a.mark=ByteArray.empty
  ·rw[if_pos c2];exact⟨hd.inv,λe=>by obtain⟨a1,a2,a3⟩:=hd.bad e;exact⟨⟨s.kept,a1⟩,a2,a3⟩⟩
  rw[if_neg c2];by_cases c3:s.kept.length>=4096
  ·rw[if_pos c3];exact same _ λ_=>⟨rfl,rfl⟩
  rw[if_neg c3];have NK:=mz s a;refine⟨HY hd.inv (by rw[NK];exact hf) c2 (by omega) (by rw[NK];omega) hd.why (λe=>(hd.bad e).2),λe=> ?_⟩;obtain⟨a1,a2,a3⟩:=hd.bad e;exact⟨⟨bt (dG s a).1.kept (lJ (dG s a).1.kept a.mark) ⟨a.mark,(dG s a).2⟩,by
   show qA _ _ _=_;unfold qA;rw[a1]⟩,a2,a3⟩
theorem Inv.e0 {s:State}(h:Inv s):kW s=0:=lI h.ok
theorem gJ {s:State}(h:Inv s)(pick:Int){v:Int}:(v>=2/\ee s pick v=(IX,NG,15))\/(v<2/\s.aj=[]/\ee s pick v=(IX,NG,11))\/
  (v<2/\∃k x o,pick %(s.aj.length:Int)=((k:Nat):Int)/\s.aj[k]?=some x/\bq Order.id s.aa x.order=some o/\ee s pick v=((fF s k x v).1,(fF s k x v).2,0)/\vK s k x o v (fF s k x v).1 (fF s k x v).2):=by
 unfold ee;rw[if_neg (λe=>e h.e0)];by_cases hv:v>=2
 ·rw[if_pos hv];exact .inl ⟨hv,rfl⟩
 rw[if_neg hv];by_cases h0:s.aj.length=0
 ·have e:s.aj=[]:=List.eq_nil_of_length_eq_zero h0;rw[e];exact .inr (.inl ⟨by omega,rfl,rfl⟩)
 obtain⟨k,x,hk,hk2,hx⟩:=DQ pick h0;obtain⟨o,ho,-⟩:=h.ok.jm hx;rw[hk2,hx];exact .inr (.inr ⟨by omega,k,x,o,hk,hx,ho,rfl,DT h hx ho v⟩)
noncomputable def Fj (s:State)(a:Act):State×bz×Told×Int:=
 if a.mS=true then(if(ee s a.pick a.verdict).2.2≠0 then(s,V6,(ee s a.pick a.verdict).2.1,(ee s a.pick a.verdict).2.2)else((ee s a.pick a.verdict).1,V6,(ee s a.pick a.verdict).2.1,(ee s a.pick a.verdict).2.2))
 else((eU s a.ask).1,(eU s a.ask).2,NG,0)
theorem CX {s:State}(h:Inv s)(a:Act):Inv (Fj s a).1:=by
 unfold Fj;split
 ·rcases gJ h a.pick (v:=a.verdict)with⟨-,e⟩|⟨-,-,e⟩|⟨-,k,x,o,-,-,-,e,hp⟩
  ·rw[e,if_pos (by decide)];exact h
  ·rw[e,if_pos (by decide)];exact h
  ·rw[e,if_neg (show¬(0:Int)≠0 by decide)];exact hp.inv
 ·exact(zx h a.ask).inv
theorem NL {a:Act}(h:a.wf):a.ask.lines.length*32<=140737488355328/\0<=a.verdict:=by
 refine⟨?_,(Lz h.2.2).1⟩;have:=h.1.2.2.2.2;have hr:reachBytes=140737488351232:=rfl;have e:((td 80).get rfl).bytes=32:=rfl;rw[e]at this;omega
theorem gr {limit:Int}(h:0<=limit/\limit<=1024):Inv ⟨limit,[],⟨[],[]⟩,[],[],[],[]⟩:=by
 have hb:bO ⟨[],[]⟩:=⟨Nat.zero_le _,Nat.zero_le _,λx hx=>(by cases hx),.nil,λx hx=>(by cases hx),λx hx=>(by cases hx)⟩;exact⟨⟨h,h.1,(rfl:kV []=true),(rfl:b7 []=true),hb,rfl,rfl,rfl⟩,λx hx=>(by cases hx),λx hx=>(by cases hx),λx hx=>(by cases hx),λn _=>⟨rfl,rfl,rfl⟩,λi w _=>⟨rfl,rfl⟩,λx hx=>(by cases hx)⟩
end Go.Proofs.aaa
end
