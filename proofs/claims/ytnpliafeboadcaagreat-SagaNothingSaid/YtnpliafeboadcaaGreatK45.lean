/- Texts that the law leans on, part 45. No conditions. -/
import Derived.Test.YtnpliafeboadcaaGreatK37
import Derived.Test.YtnpliafeboadcaaGreatK44
section
namespace Go.Proofs.aaa
open Go.bA Go.IntWalk
variable{P:Program}(hP:P=Tryz.prog)
theorem abi {x:aC}(d:Bool)(h1:cF x.kind x.pos x.aO=0)(h2:dc x.kind x.pos x.aO=true)(hk:x.kind=1):
  (cM x d).kind=1/\((cM x d).aO=false->(cM x d).pos<=x.pos+1/\x.aO=false)/\((cM x d).aO=true->qz (cM x d)=2)/\((cM x d).aO=false->(cM x d).pos<=4->dc (cM x d).kind (cM x d).pos (cM x d).aO=true):=by
 obtain⟨xo,xk,xp,xu⟩:=x;simp only at h1 h2 hk;subst hk;show wQ 1 xp xu=1/\(wS 1 xp xu d=false->wR 1 xp xu d<=xp+1/\xu=false)/\(wS 1 xp xu d=true->(if wQ 1 xp xu=2 then 5 else if wQ 1 xp xu=1 then(if wS 1 xp xu d=true then 2 else 3)else(if wS 1 xp xu d=true then 3 else 7):Int)=2)/\(wS 1 xp xu d=false->wR 1 xp xu d<=4->dc (wQ 1 xp xu) (wR 1 xp xu d) (wS 1 xp xu d)=true);rcases iQ h1 h2 with⟨-,rfl,hp⟩|⟨-,rfl,hp⟩|⟨hk,-⟩
 ·clear h1 h2;rcases hp with rfl|rfl|rfl|rfl|rfl<;>cases d<;>decide
 ·clear h1 h2;rcases hp with rfl|rfl|rfl|rfl<;>cases d<;>decide
 ·omega
structure aaQ (s:State)(order:Int)(L:List aC)(i:Int)(t:State)(o:Order)(x:aC):Prop where
 sent:aaf s t o (some x)
 id:o.id=order
 status:o.status=1
 kind:x.kind=1
 pos:x.aO=false->x.pos<=i
 last:t.aj=L++[x]
theorem aaL {s:State}{order:Int}{L:List aC}{i:Int}{t:State}{o:Order}{x:aC}(H:aaQ s order L i t o x)(hi:i<=3){v:Int}(hv:v<2):
  ∃t' w o' g,ee t ((t.aj.length:Int) -1) v=(t',w,0)/\o'.lines=o.lines/\o'.id=order/\aaf s t' o' g/\((g=none/\o'.status=2/\t'.aj.length<t.aj.length)\/∃y,aaQ s order L (i+1) t' o' y/\t'.aj.length=t.aj.length):=by
 obtain⟨HI,LY,hc,hn⟩:=H.sent.good;obtain⟨e,hP⟩:=Fq H.sent.inv H.last (o:=o) (by rw[HI];exact H.sent.here) hv _ rfl;have tP:t.aj[L.length]?=some x:=by rw[H.last];exact Kq L x
 have S':=aaq H.sent tP hP;obtain⟨a1,a2,a3,a4⟩:=abi ((fF t L.length x v).2.why==0) hc hn H.kind;obtain⟨d,-,ht,-⟩:=hP.zw;refine⟨_,_,_,_,e,by rw[xS],by rw[xS];exact H.id,S', ?_⟩;by_cases c:dc (cM x ((fF t L.length x v).2.why==0)).kind (cM x ((fF t L.length x v).2.why==0)).pos (cM x ((fF t L.length x v).2.why==0)).aO=true
 ·right;have es:(fF t L.length x v).1.aj=L++[cM x ((fF t L.length x v).2.why==0)]:=by
   rw[ht];unfold eY;rw[if_pos c,H.last];simp
  have eg:aab (cM x ((fF t L.length x v).2.why==0))=some (cM x ((fF t L.length x v).2.why==0)):=if_pos c;have eo:eK o (cM x ((fF t L.length x v).2.why==0))=o:=if_pos c;rw[eg,eo]at S';rw[eo];exact⟨_,⟨S',H.id,H.status,a1,λhu=>by have:=(a2 hu).1;have:=H.pos (a2 hu).2;omega,es⟩,by rw[es,H.last];simp⟩
 ·left;have hu:(cM x ((fF t L.length x v).2.why==0)).aO=true:=by
   cases hu:(cM x ((fF t L.length x v).2.why==0)).aO with
   |true=>rfl
   |false=>exact absurd (a4 hu (by have:=(a2 hu).1;have:=H.pos (a2 hu).2;omega)) c
  refine⟨if_neg c, ?_, ?_⟩
  ·show(eK o _).status=2;unfold eK;rw[if_neg c];exact a3 hu
  ·rw[ht];unfold eY;rw[if_neg c,H.last];show((L++[x]).eraseIdx L.length).length<(L++[x]).length;rw[List.length_eraseIdx_of_lt (by simp)];simp
def vC (s5:List Int)(i:Int):Int:=if i<(s5.length:Int)/\s5[i.toNat]?=some 1 then 1 else 0
theorem aa7 (s5:List Int)(i:Int):0<=vC s5 i/\vC s5 i<2:=by unfold vC;split<;>decide
theorem aao {body:Int×wV->Option ((Int×wV)⊕State)}{s:State}{order cancel:Int}{L:List aC}{s5:List Int}
  (stop:∀(i:Int) t,(¬i<cancel\/¬i<4)->body (i,lQ t)=some (.inr t))
  (go:∀(i:Int) t t' w,Inv t->0<=i->i<cancel->i<4->ee t ((t.aj.length:Int) -1) (vC s5 i)=(t',w,0)->body (i,lQ t)=if(t'.aj.length:Int)<t.aj.length then some (.inr t')else some (.inl (i+1,lQ t'))):
  ∀(n:Nat)(i:Int)(t:State)(o:Order)(x:aC),aaQ s order L i t o x->0<=i->i<=4->4 -i<n->∃r o' g,iB body n (i,lQ t)=some r/\o'.lines=o.lines/\o'.id=order/\aaf s r o' g/\(g=none/\o'.status=2\/∃y,g=some y/\o'.status=1)
 |0,_,_,_,_,_,_,_,h=>by omega
 |n+1,i,t,o,x,H,h0,h4,hn=>by
  rw[iB];by_cases c:i<cancel/\i<4
  ·obtain⟨t',w,o',g,e,hl,hid,S,u6⟩:=aaL H (by omega) (aa7 s5 i).2;rw[go i t t' w H.sent.inv h0 c.1 c.2 e];rcases u6 with⟨hg,hst,hlt⟩|⟨y,H',hlen⟩
   ·rw[if_pos (by omega),Option.bind_some];exact⟨t',o',g,rfl,hl,hid,S,.inl ⟨hg,hst⟩⟩
   ·rw[if_neg (by omega),Option.bind_some];obtain⟨r,o2,g2,b1,b2,b3,b4,b5⟩:=aao stop go n (i+1) t' o' y H' (by omega) (by omega) (by omega);exact⟨r,o2,g2,b1,b2.trans hl,b3,b4,b5⟩
  ·rw[stop i t (by by_cases c1:i<cancel;exact .inr λe=>c ⟨c1,e⟩;exact .inl c1),Option.bind_some];exact⟨t,o,_,rfl,rfl,H.id,H.sent,.inr ⟨x,rfl,H.status⟩⟩
abbrev Q4 (order:Int)(i:Int)(o:Order)(x:aC):Prop:=o.id=order/\x.kind=2/\x.aO=true/\(1<=x.pos/\x.pos<=4)/\0<=i/\(i<=20\/i+x.pos<=24)
abbrev E4 (order:Int)(o:Order):Prop:=o.id=order/\(o.status=2\/o.status=5)
theorem aa8 (order:Int)(s5:List Int)(i:Int)(o:Order)(x:aC)(w:Int)(h:Q4 order i o x)(hw:w=0\/w=10/\lM (cK x)=true/\vO s5 i=1\/w=13/\x.kind=1/\x.pos=0/\x.aO=false):
  aah (Q4 order) (E4 order) (i+1) (eK o (cM x (w==0))) (aab (cM x (w==0))):=by
 obtain⟨xo,xk,xp,xu⟩:=x;obtain⟨ho,hk,hu,hp,h0,u6⟩:=h;simp only at hk hu hp u6 hw;subst hk hu;rcases hw with rfl|⟨rfl,-,e⟩|⟨-,hk,-,-⟩
 ·have:xp=1\/xp=2\/xp=3\/xp=4:=by omega
  rcases this with rfl|rfl|rfl|rfl
  ·exact⟨ho,.inr rfl⟩
  ·exact⟨ho,rfl,rfl,by show(1:Int)<=1/\(1:Int)<=4;decide,by omega,by show i+1<=20\/i+1+1<=24;omega⟩
  ·exact⟨ho,rfl,rfl,by show(1:Int)<=2/\(2:Int)<=4;decide,by omega,by show i+1<=20\/i+1+2<=24;omega⟩
  ·exact⟨ho,rfl,rfl,by show(1:Int)<=3/\(3:Int)<=4;decide,by omega,by show i+1<=20\/i+1+3<=24;omega⟩
 ·have hi:i<20:=by
   unfold vO at e;split at e
   ·rename_i h;exact h.2.1
   ·cases e
  have:xp=1\/xp=2\/xp=3\/xp=4:=by omega
  rcases this with rfl|rfl|rfl|rfl
  ·exact⟨ho,rfl,rfl,by show(1:Int)<=1/\(1:Int)<=4;decide,by omega,.inl (by omega)⟩
  ·exact⟨ho,rfl,rfl,by show(1:Int)<=2/\(2:Int)<=4;decide,by omega,.inl (by omega)⟩
  ·exact⟨ho,rfl,rfl,by show(1:Int)<=3/\(3:Int)<=4;decide,by omega,.inl (by omega)⟩
  ·exact⟨ho,rfl,rfl,by show(1:Int)<=4/\(4:Int)<=4;decide,by omega,.inl (by omega)⟩
 ·exact absurd hk (by decide)
theorem aaR (limit:Int)(bp:List Act)(order:Int)(lines:List aU)(s5:List Int)(cancel:Int)(hw:∀a∈bp,a.wf)(hl:bp.length<=4611686018427387904)(hn:lines.length*32<=140737488355328):g9 limit bp order lines s5 cancel=some true:=by
 unfold g9;rw[lO,Option.bind_some,if_neg (by decide),H8 limit bp hw hl,Option.bind_some];by_cases c:0<=limit/\limit<=1024
 case neg=>rw[if_neg c];rfl
 rw[if_pos c];dsimp only;rw[if_neg (by decide)];have h:=kN (bp:=bp) (gr c);obtain⟨s,hs⟩:∃s,oB (wU limit) bp=s:=⟨_,rfl⟩;rw[hs]at h⊢;rw[oc h ⟨ByteArray.empty,1,order,lines⟩ hn,Option.bind_some];dsimp only;rw[if_neg (show¬ai .neq 0 0=true by decide)];by_cases c0:(eU s ⟨ByteArray.empty,1,order,lines⟩).2.why≠0
 ·rw[if_pos (by simpa[ai]using c0)];have ea:eU s ⟨ByteArray.empty,1,order,lines⟩=dG s ⟨ByteArray.empty,1,order,lines⟩:=nG h rfl ⟨show(1:Int)<=1 by decide,show(1:Int)<7 by decide⟩;rw[ea]at c0⊢;rw[((DU h ⟨ByteArray.empty,1,order,lines⟩).bad c0).1,vw s s h.sized,decide_eq_true rfl];rfl
 rw[if_neg (by simpa[ai]using c0)];obtain⟨hf,p,hp,he,hi,ho⟩:=NN h (a:=⟨ByteArray.empty,1,order,lines⟩) rfl rfl (Decidable.not_not.1 c0);obtain⟨t,ht⟩:∃t,(eU s ⟨ByteArray.empty,1,order,lines⟩).1=t:=⟨_,rfl⟩;have S0:aaf s t ⟨order,lines,p,1⟩ (some ⟨order,1,0,false⟩):=aau h hf (by rw[<-ht];exact hi) (by rw[<-ht];exact ho) (by rw[<-ht,he]) rfl (by rw[<-ht,he]);have H0:aaQ s order s.aj 0 t ⟨order,lines,p,1⟩ ⟨order,1,0,false⟩:=⟨S0,rfl,rfl,rfl,λ_=>Int.le_refl _,by rw[<-ht,he]⟩;rw[ht];have fin:∀(u:State) o g,aaf s u o g->aah (Q4 order) (E4 order) 0 o g->((v5 u order s5).bind λU3=>(Qv U3 order).bind λtT=>
   if(!tT.2)=true then some false else if(ai .neq tT.1.status 5)=true then if(ai .neq tT.1.status 2)=true then some false
    else(Mr U3.cells s.cells).bind λp42=>if p42=true then(Mo U3).bind λkR=>some kR else some false
   else(Mr U3.cells s.cells).bind λVZ=>if VZ=true then(Mo U3).bind λOj=>some Oj else some false)=some true:=λu o g S hq=>by
  obtain⟨t2,o2,g2,S3,⟨i2,st2⟩,-,-⟩:=aaj order s5 (Q4 order) (E4 order) (λi o x h=>⟨h.2.2.2.2.1,by have:=h.2.2.2;omega,h.1⟩) (λo h=>h.1) (λi o x w h _ _ hw _=>aa8 order s5 i o x w h hw) S hq;have hc:=bX.wO S3.inv.ok;rw[g2,Option.bind_some,S3.order i2,Option.bind_some];dsimp only;rw[if_neg (by decide),aat h S3 (by omega)];have eg:=Nd s.cells s.cells (by have:=bX.wO h.ok;omega);rw[decide_eq_true rfl]at eg;by_cases c5:o2.status=5
  ·rw[if_neg (by simp[ai,c5]),eg,Option.bind_some,if_pos rfl,DV S3.inv];rfl
  ·rw[if_pos (by simpa[ai]using c5),if_neg (by simp[ai];omega),eg,Option.bind_some,if_pos rfl,DV S3.inv];rfl
 have rest:∀(body:Int×wV->Option ((Int×wV)⊕State))(K:State->Option Bool),
   (∀(i:Int) t,(¬i<cancel\/¬i<4)->body (i,lQ t)=some (.inr t))->
   (∀(i:Int) t t' w,Inv t->0<=i->i<cancel->i<4->ee t ((t.aj.length:Int) -1) (vC s5 i)=(t',w,0)->body (i,lQ t)=if(t'.aj.length:Int)<t.aj.length then some (.inr t')else some (.inl (i+1,lQ t')))->
   (∀r o g,o.id=order->aaf s r o g->(g=none/\o.status=2\/∃y,g=some y/\o.status=1)->K r=some true)->(iB body 1000000 (0,lQ t)).bind K=some true:=by
  intro body K b1 b2 hK;obtain⟨r,o',g,e,-,hid,S,u6⟩:=aao b1 b2 1000000 0 t _ _ H0 (by decide) (by decide) (by decide);rw[e];exact hK r o' g hid S u6
 refine rest _ _ (λi t u6=> ?_) (λi t t' w ht h0 h1 h4 e=> ?_) (λr o g hid S u6=> ?_)
 ·by_cases c1:i<cancel
  ·exact(if_pos (by simpa[ai]using c1)).trans (if_neg (by simp[ai];omega))
  ·exact if_neg (by simpa[ai]using c1)
 ·refine(if_pos (by simpa[ai]using h1)).trans ((if_pos (by simpa[ai]using h4)).trans ?_);have hf:=bX.wO ht.ok;have ei:aH .add .i64 i 1=i+1:=by simp only[aH,wrap64];omega
  have el:aH .sub .i64 ((t.aj.map aC.ts).length:Int) 1=(t.aj.length:Int) -1:=by rw[fK];simp only[aH,wrap64];omega
  have one:∀v,0<=v->vC s5 i=v->((uR t (aH .sub .i64 ((t.aj.map aC.ts).length:Int) 1) v).bind λv9=>if(ai .neq v9.2.2 0)=true then some (.inr v9.1)else if(ai .lss ((v9.1.aj.map aC.ts).length:Int) ((t.aj.map aC.ts).length:Int))=true then some (.inr v9.1)
    else some (.inl ((aH .add .i64 i 1),v9.1.limit,v9.1.cells,v9.1.af.aK,v9.1.af.ak,v9.1.aA,v9.1.aa,v9.1.aj,v9.1.kept)):Option ((Int×wV)⊕State))=if(t'.aj.length:Int)<t.aj.length then some (.inr t')else some (.inl (i+1,lQ t')):=λv hv ev=>by
   rw[el,rZ t _ v ht.sized hv,<-ev,e,Option.bind_some,ei];refine(if_neg (show¬ai .neq 0 0=true by decide)).trans ?_;dsimp only;rw[fK,fK];simp only[ai,decide_eq_true_eq]
  by_cases c1:i<(s5.length:Int)
  ·refine(if_pos (by simpa[ai]using c1)).trans ?_;obtain⟨y,hy⟩:∃y,s5[i.toNat]?=some y:=⟨s5[i.toNat]'(by omega),List.getElem?_eq_getElem _⟩
   refine fh (cT h0 hy) ?_;by_cases c3:y=1
   ·exact(if_pos (by simpa[ai]using c3)).trans (one 1 (by decide) (if_pos ⟨c1,by rw[hy,c3]⟩))
   ·exact(if_neg (by simpa[ai]using c3)).trans (one 0 (by decide) (if_neg λe=>c3 (by rw[hy]at e;cases e.2;rfl)))
  ·exact(if_neg (by simpa[ai]using c1)).trans (one 0 (by decide) (if_neg λe=>c1 e.1))
 ·have ea:eU r ⟨ByteArray.empty,2,order,[]⟩=kI r ⟨ByteArray.empty,2,order,[]⟩:=nG S.inv rfl ⟨show(1:Int)<=2 by decide,show(2:Int)<7 by decide⟩;show(oF r _).bind _=_;rw[oc S.inv ⟨ByteArray.empty,2,order,[]⟩ (by show 0*32<=_;decide),ea,Option.bind_some];dsimp only;rw[if_pos (show ai .eql 0 0=true by decide)];rcases u6 with⟨rfl,hst⟩|⟨y,rfl,hst⟩
  ·have ec:kI r ⟨ByteArray.empty,2,order,[]⟩=(r,⟨9,0,0⟩):=by
    unfold kI;dsimp only;rw[<-hid,S.here];dsimp only;rw[if_pos (by rw[hst];decide)]
   rw[ec,if_neg (show¬ai .eql 9 0=true by decide)];exact fin r o none S ⟨hid,.inl hst⟩
  ·obtain⟨hwy,u6⟩:=aav S hst;rw[hid]at hwy u6;rw[hwy,if_pos (by decide)];rcases u6 with⟨-,S'⟩|⟨hpos,S'⟩
   ·exact fin _ _ _ S' ⟨rfl,.inr rfl⟩
   ·exact fin _ _ _ S' ⟨rfl,rfl,rfl,hpos,Int.le_refl _,.inl (by decide)⟩
theorem aaS {x:AV}(h:yU td 83 x):∃l:List Int,x=aq (v7 .u8) 1 l:=by
 obtain⟨l,hf,rfl⟩:=lA h (d:=(td 83).get rfl) rfl;obtain⟨r,rfl,u,v,_⟩:=nO (e:=37) (ed:=(td 37).get rfl) rfl (d:=(td 83).get rfl) rfl rfl hf;obtain⟨n,rfl,w⟩:=jT (wf:=λ_:Int=>True) (ts:=v7 .u8) (λr hr=>by
  obtain⟨n,rfl,w⟩:=gT (d:=(td 37).get rfl) rfl rfl hr;exact⟨n,rfl,trivial⟩) r u
 exact⟨n,rfl⟩
include hP
theorem aax:Oe P td 9 [3,57,3,34,83,3]:=by
 intro xs hx;obtain⟨x,ys,rfl,h1,h2⟩:=bN hx;obtain⟨y,zs,rfl,h3,h4⟩:=bN h2;obtain⟨u,us,rfl,h5,h6⟩:=bN h4;obtain⟨w,ws,rfl,h7,h8⟩:=bN h6;obtain⟨q,qs,rfl,h9,h10⟩:=bN h8;obtain⟨z,zs,rfl,h11,h12⟩:=bN h10;obtain rfl:=jG h12;obtain⟨limit,rfl⟩:=sn h1;obtain⟨bp,rfl,hw,hl⟩:=oa h3;obtain⟨order,rfl⟩:=sn h5;obtain⟨lines,rfl,hn⟩:=aaw h7;obtain⟨s5,rfl⟩:=aaS h9;obtain⟨cancel,rfl⟩:=sn h11;exact lP (haveI:=Pg.mk hP;rt (aaR limit bp order lines s5 cancel hw hl hn)) (.cons (.pure rfl) (.cons (.pure rfl) (.cons (.pure rfl) (.cons (.pure rfl) (.cons (.pure rfl) (.cons (.pure rfl) .nil)))))) rfl
end Go.Proofs.aaa
end
