/- Texts that the law leans on, part 10. No conditions. -/
import Derived.Test.YtnpliafeboadcaaGreatK9
import Derived.Lib.Bytealg
section
namespace Go.Proofs.aaa
open Go.bA Go.IntWalk
variable{P:Program}
def fH {α:Type}(l:List α)(i:Int):Option α:=if 0<=i then l[i.toNat]? else none
theorem iC {α:Type}{l:List α}{i:Int}{x:α}(h:fH l i=some x):0<=i:=by
 unfold fH at h;split at h
 ·assumption
 ·cases h
theorem bn {α:Type}{l:List α}{i:Int}{x:α}(h:fH l i=some x):l[i.toNat]?=some x:=by
 unfold fH at h;split at h
 ·exact h
 ·cases h
theorem az {α β:Type}{a:Option α}{k:α->Option β}{r:β}(h:a.bind k=some r):∃x,a=some x/\k x=some r:=by
 cases a with
 |none=>cases h
 |some x=>exact⟨x,rfl,h⟩
theorem wz {β:Type}{c:Bool}{A B:Option β}{r:Option β}(h:c=true)(hR:(if c=true then A else B)=r):A=r:=by rw[if_pos h]at hR;exact hR
theorem wA {β:Type}{c:Bool}{A B:Option β}{r:Option β}(h:c=false)(hR:(if c=true then A else B)=r):B=r:=by rw[h]at hR;exact hR
theorem bl {β:Type}{c:Bool}{A:Option β}{r:β}(hR:(if c=true then A else none)=some r):c=true/\A=some r:=by
 split at hR
 ·exact⟨by assumption,hR⟩
 ·cases hR
def gY {α σ ρ:Type}(step:σ->Int->α->Option (σ⊕ρ)):List α->Int->σ->Option (σ⊕ρ)
 |[],_,s=>some (.inl s)
 |x::l,i,s=>(step s i x).bind λy=>match y with| .inl s'=>gY step l (i+1) s'| .inr r=>some (.inr r)
def bh {α σ ρ:Type}(step:σ->Int->α->Option (σ⊕ρ))(l:List α)(s:σ):Option (σ⊕ρ):=
 if decide (l.length<=4611686018427387904)=true then gY step l 0 s else none
theorem Ro {α:Type}{l:List α}{i:Nat}{x:α}(h:l[i]?=some x):l.drop i=x::l.drop (i+1):=by
 obtain⟨h1,rfl⟩:=List.getElem?_eq_some_iff.1 h;exact List.drop_eq_getElem_cons h1
theorem FL {i N:Int}(h0:0<=i)(h:i<N)(hN:N<=4611686018427387904):aH .add .i64 i 1=i+1:=by simp only[aH,wrap64];omega
theorem Dj {len:Nat}{i N:Int}(hN:N=(len:Int))(h0:0<=i)(h:i<N):dJ len i=true:=by simp[dJ];omega
theorem rangeLoop {α σ ρ:Type}{γ:σ->Type}{γ':ρ->Type}{m:Nat}{c:Code}{env:List AV}{ob:List AO}{Q:AE->List AV->List AO->Prop}(bw:cg P td)(l:List α)(N:Int)(hN:N=(l.length:Int))
  (step:σ->Int->α->Option (σ⊕ρ)) (E:Int->(s:σ)->γ s->List AV) (O:(s:σ)->γ s->List AO) (Xn:(s:σ)->γ s->AE×List AV×List AO) (Xr:(r:ρ)->γ' r->AE×List AV×List AO) (s0:σ) (g0:γ s0) {R:σ⊕ρ} (hR:bh step l s0=some R)
  (hr:dj m env ob (E 0 s0 g0) (O s0 g0))
  (round:∀(i:Int)(s:σ)(g:γ s)(x:α)(y:σ⊕ρ),0<=i->i<N->N<=4611686018427387904->l[i.toNat]?=some x->step s i x=some y->∀(J:List AV->List AO->Prop)(B:AE->List AV->List AO->Prop),
   (∀s' g' e o,y=.inl s'->dj m e o (E (i+1) s' g') (O s' g')->J e o)->(∀r g' x' e o,y=.inr r->x'=(Xr r g').1->dj m e o (Xr r g').2.1 (Xr r g').2.2->B x' e o)->aw P td m c (E i s g) (O s g) (nj J B))
  (last:∀(s:σ)(g:γ s)(J:List AV->List AO->Prop)(B:AE->List AV->List AO->Prop),(∀g' x' e o,x'=(Xn s g').1->dj m e o (Xn s g').2.1 (Xn s g').2.2->B x' e o)->aw P td m c (E N s g) (O s g) (nj J B))
  (kn:∀s g,R=.inl s->Q (Xn s g).1 (Xn s g).2.1 (Xn s g).2.2) (kr:∀r g,R=.inr r->Q (Xr r g).1 (Xr r g).2.1 (Xr r g).2.2):cu P m (.loop c) env ob Q:=by
 obtain⟨h1,h2⟩:=bl hR;have OD:0<=N:=by omega
 have Rj:N<=4611686018427387904:=by have:=of_decide_eq_true h1;omega
 refine cu.cut (λx e o=>(∃s g,R=.inl s/\x=(Xn s g).1/\e=(Xn s g).2.1/\o=(Xn s g).2.2)\/(∃r g,R=.inr r/\x=(Xr r g).1/\e=(Xr r g).2.1/\o=(Xr r g).2.2)) ?_ ?_
 ·refine cu.inv bw (λn e o=>∃i s g,0<=i/\i<=N/\n=(N -i).toNat/\gY step (l.drop i.toNat) i s=some R/\e=E i s g/\o=O s g) N.toNat _ _ hr ⟨0,s0,g0,by omega,OD,by simp,h2,rfl,rfl⟩ ?_;rintro n e o ⟨i,s,g,i0,i1,rfl,hs,rfl,rfl⟩ J hJ;by_cases hlt:i<N
  ·have hx:l[i.toNat]?=some (l[i.toNat]'(by omega)):=List.getElem?_eq_getElem (by omega)
   rw[Ro hx]at hs;obtain⟨y,hy,hk⟩:=az hs;refine round i s g _ y i0 hlt Rj hx hy J _ (λs' g' e o he Bw=> ?_) (λr g' x' e o he hx' Bw=> ?_)
   ·subst he;exact hJ (N -(i+1)).toNat _ _ _ _ (by omega) Bw ⟨i+1,s',g',by omega,by omega,rfl,by rw[show(i+1).toNat=i.toNat+1 by omega];exact hk,rfl,rfl⟩
   ·subst he;exact⟨_,_,Bw,.inr ⟨r,g',(Option.some.inj hk).symm,hx',rfl,rfl⟩⟩
  ·obtain rfl:i=N:=by omega
   rw[List.drop_of_length_le (by omega)]at hs;exact last s g J _ λg' x' e o hx' Bw=>⟨_,_,Bw,.inl ⟨s,g',(Option.some.inj hs).symm,hx',rfl,rfl⟩⟩
 ·rintro x e o (⟨s,g,h,rfl,rfl,rfl⟩|⟨r,g,h,rfl,rfl,rfl⟩)
  ·exact kn s g h
  ·exact kr r g h
def iB {σ ρ:Type}(body:σ->Option (σ⊕ρ)):Nat->σ->Option ρ
 |0,_=>none
 |n+1,s=>(body s).bind λy=>match y with| .inl s'=>iB body n s'| .inr r=>some r
theorem KC {σ ρ:Type}{γ:σ->Type}{γ':ρ->Type}{m:Nat}{c:Code}{env:List AV}{ob:List AO}{Q:AE->List AV->List AO->Prop}(bw:cg P td)
  (body:σ->Option (σ⊕ρ)) (n:Nat) (E:(s:σ)->γ s->List AV) (O:(s:σ)->γ s->List AO) (Xr:(r:ρ)->γ' r->AE×List AV×List AO) (s0:σ) (g0:γ s0) {R:ρ} (hR:iB body n s0=some R)
  (hr:dj m env ob (E s0 g0) (O s0 g0))
  (round:∀(s:σ)(g:γ s)(y:σ⊕ρ),body s=some y->∀(J:List AV->List AO->Prop)(B:AE->List AV->List AO->Prop),
   (∀s' g' e o,y=.inl s'->dj m e o (E s' g') (O s' g')->J e o)->(∀r g' x' e o,y=.inr r->x'=(Xr r g').1->dj m e o (Xr r g').2.1 (Xr r g').2.2->B x' e o)->aw P td m c (E s g) (O s g) (nj J B))
  (kr:∀g,Q (Xr R g).1 (Xr R g).2.1 (Xr R g).2.2):cu P m (.loop c) env ob Q:=by
 refine cu.cut (λx e o=>∃g,x=(Xr R g).1/\e=(Xr R g).2.1/\o=(Xr R g).2.2) ?_ ?_
 ·refine cu.inv bw (λn e o=>∃s g,iB body n s=some R/\e=E s g/\o=O s g) n _ _ hr ⟨s0,g0,hR,rfl,rfl⟩ ?_;rintro n e o ⟨s,g,hs,rfl,rfl⟩ J hJ
  cases n with
  |zero=>cases hs
  |succ n=>
   obtain⟨y,hy,hk⟩:=az hs;refine round s g y hy J _ (λs' g' e o he Bw=> ?_) (λr g' x' e o he hx' Bw=> ?_)
   ·subst he;exact hJ n _ _ _ _ (Nat.lt_succ_self n) Bw ⟨s',g',hk,rfl,rfl⟩
   ·subst he;obtain rfl:=Option.some.inj hk;exact⟨_,_,Bw,g',hx',rfl,rfl⟩
 ·rintro x e o ⟨g,rfl,rfl,rfl⟩;exact kr g
abbrev v7 (k:IntKind)(n:Int):List T:=[.int k (.th λ_=>n)]
theorem fA {α:Type}{l:List α}{j c:Nat}{x:α}(h:l.length<=c):(l.set j x).length<=c:=by rw[List.length_set];exact h
theorem bL {α:Type}{ts:α->List T}{l:List α}{rs:List (List AV)}{i j:Nat}{e:List AV}(x:α)(h:rs=ay ts l)(hi:i=j)(he:e=(ts x).map AV.c):rs.set i e=ay ts (l.set j x):=by
 subst h;subst hi;subst he;exact vR ts l i x
end Go.Proofs.aaa
end
section
namespace Go.Proofs.aaa
open Go.bA Go.IntWalk
variable{P:Program}
theorem JJ {c:Bool}(h:c=false):(!c)=true:=by rw[h];rfl
theorem JI {c:Bool}(h:c=true):(!c)=false:=by rw[h];rfl
theorem Ex {a b:Int}(h:ai .eql a b=true):ai .neq a b=false:=by simp[ai]at*;exact h
theorem Cu {a b:Int}(h:ai .eql a b=false):ai .neq a b=true:=by simp[ai]at*;exact h
theorem NR {a b:Int}(h:ai .neq a b=true):ai .eql a b=false:=by simp[ai]at*;exact h
theorem NS {a b:Int}(h:ai .neq a b=false):ai .eql a b=true:=by simp[ai]at*;exact h
theorem aZ.nil {o o':List AO}:aZ [] o o':=λp h=>by cases h
theorem aZ.cons {p:Nat}{ps:List Nat}{o o':List AO}(h:nth o p=nth o' p)(k:aZ ps o o'):aZ (p::ps) o o':=λq hq=>by
 rcases List.mem_cons.1 hq with rfl|hq
 ·exact h
 ·exact k q hq
theorem cj {α:Type}{ts:α->List T}{rs:List (List AV)}{l:List α}{x:α}{i j:Nat}(h:rs=ay ts l)(hx:l[j]?=some x)(hij:i=j):rs[i]?=some ((ts x).map AV.c):=by
 subst h;subst hij;exact sr ts l i x hx
theorem ec (k:Nat):0<=Int.ofNat k:=Int.natCast_nonneg k
theorem eT (n:Int):(Int.ofNat (0+n.toNat)).toNat=n.toNat:=by show 0+n.toNat=n.toNat;omega
theorem bT {α:Type}{l:List α}{n j:Nat}{x:α}(h:n=l.length):n=(l.set j x).length:=h.trans List.length_set.symm
theorem tN {α:Type}{l:List α}{j:Nat}{x y:α}(h:l[j]?=some y):(l.set j x)[j]?=some x:=List.getElem?_set_self (List.getElem?_eq_some_iff.1 h).1
theorem _root_.Go.bA.RV.ki {base:Nat}{π:List Nat}{o:List AO}{f:Fn}{a b a' b':List AV}(h1:gj base π o a a')(h2:gj base π o b b'):RV base π o (.fn f a b) (.fn f a' b'):=.fn h1.len h2.len h1.get h2.get
theorem _root_.Go.bA.Fz.AN {α:Type}{ts:α->List T}{l:List α}{o:List AO}{n k:Nat}{i len cap:Th Nat}{es:Th (List (List AV))}{sz:Th Nat}(h:nth o n=some (.arr k es sz))(he:es.den=ay ts l)(hi:i.den=0)(hl:len.den=l.length):Fz o (.sl n k i len cap) (aq ts k l):=by
 refine .Lc (l.map ts) _ h (he.trans (de ts l)) (by rw[hi,hl];simp) ?_;show T.dO k (l.map ts)=_;rw[hi,hl,List.drop_zero,List.take_of_length_le (by simp)]
inductive Bx (base:Nat)(π:List Nat)(o:List AO):List (List AV)->List (List AV)->Prop
 |nil:Bx base π o [] []
 |cons {x y:List AV} {xs ys:List (List AV)}:gj base π o x y->Bx base π o xs ys->Bx base π o (x::xs) (y::ys)
theorem Bx.len {base:Nat}{π:List Nat}{o:List AO}{xs ys:List (List AV)}(h:Bx base π o xs ys):xs.length=ys.length:=by induction h with|nil=>rfl|cons _ _ ih=>simp[ih]
theorem Bx.get {base:Nat}{π:List Nat}{o:List AO}{xs ys:List (List AV)}(h:Bx base π o xs ys):∀(i:Nat) x y,xs[i]?=some x->ys[i]?=some y->gj base π o x y:=by
 induction h with
 |nil=>intro i x y h;simp at h
 |cons h1 _ ih=>
  intro i x y hx hy
  cases i with
  |zero=>simp at hx hy;subst hx;subst hy;exact h1
  |succ i=>exact ih i x y (by simpa using hx) (by simpa using hy)
theorem _root_.Go.bA.RO.tD {base:Nat}{π:List Nat}{o:List AO}{k:Nat}{xs ys:List (List AV)}{sz sz':Th Nat}(h:Bx base π o xs ys)(hs:sz.den=sz'.den):RO base π o (.arr k (.lit xs) sz) (.arr k (.lit ys) sz'):=
 .arr h.len (λi e e' h1 h2=>⟨(h.get i e e' h1 h2).len,(h.get i e e' h1 h2).get⟩) hs
inductive gD (o:List AO):List AV->List AV->Prop
 |nil:gD o [] []
 |pure {x y:AV} {xs ys:List AV}:i9 x=true->RV 0 [] [] x y->gD o xs ys->gD o (x::xs) (y::ys)
 |own {x y:AV} {xs ys:List AV}:Fz o x y->gD o xs ys->gD o (x::xs) (y::ys)
theorem gD.mid {o:List AO}{xs ys:List AV}(h:gD o xs ys):∃zs,Mz o xs zs/\gj 0 [] [] zs ys:=by
 induction h with
 |nil=>exact⟨[],.nil,.nil⟩
 |pure h1 h2 _ ih=>
  obtain⟨zs,a,b⟩:=ih;exact⟨_,.cons (.pure h1) a,.cons h2 b⟩
 |own h1 _ ih=>
  obtain⟨zs,a,b⟩:=ih;exact⟨_,.cons h1 a,.cons (.pure h1.Jl) b⟩
theorem _root_.Go.bA.gk.Hs {f:FuncId}{args args':List AV}{y:AV}{K:AV->List AO->Prop}{ob:List AO}(h:gk P f args' y)(ha:gD ob args args')(hf:oG y=true)(hk:K y ob):aV P f args ob K:=by
 obtain⟨zs,a,b⟩:=ha.mid;exact(h.args b).EH a hf hk
theorem _root_.Go.bA.gk.freeze {f:FuncId}{args args':List AV}{y:AV}{K:AV->List AO->Prop}{ob:List AO}(h:gk P f args' y)(fr:List Nat)(ha:gj 0 [] (nq fr 0 ob) args args')(hp:eA args'=true)(hk:K (G8 [] (bS ob) y) (IU [] fr ob [])):aV P f args ob K:=by
 have h1:aV P f args' [] (λx o=>x=y/\o=[]):=h.call (by
  clear ha
  induction args' with
  |nil=>exact .nil
  |cons a l ih=>
   simp only[eA]at hp;split at hp
   ·rename_i h2;exact .cons (.pure h2) (D1 hp)
   ·cases hp) hp ⟨rfl,rfl⟩
 exact h1.own [] fr rfl rfl ha .nil (λx o ho=>by obtain⟨rfl,rfl⟩:=ho;exact⟨.nil,hk⟩)
where D1:∀{l:List AV},eA l=true->gj 0 [] [] l l
 |[],_=>.nil
 |a::l,h=>by
  simp only[eA]at h;split at h
  ·rename_i h2;exact .cons (.pure h2) (D1 h)
  ·cases h
end Go.Proofs.aaa
end
section
namespace Go.Proofs.aaa
open Go.bA Go.IntWalk
variable{P:Program}
theorem OB.NT {w:World}{F:Nat->Prop}{μ:Mu}{b k:Nat}{es es':Th (List (List AV))}{sz sz':Th Nat}(hl:es.den.length=es'.den.length)(hr:∀(i:Nat) e e',es.den[i]?=some e->es'.den[i]?=some e'->gj 0 [] [] e e')(hs:sz.den=sz'.den)(h:OB w F μ b (.arr k es sz)):OB w F μ b (.arr k es' sz'):=by
 cases h with
 |arr ct e h1 h2 h3 h4 h5 h6=>
  refine .arr ct e h1 (h2.trans hs) (by rw[<-hl,<-hs];exact h3) (λr hr'=> ?_) h5 (λi j r x v hi hj hv=> ?_)
  ·obtain⟨i,hi⟩:=List.mem_iff_getElem?.1 hr';have hlt:i<es.den.length:=by rw[hl];exact(List.getElem?_eq_some_iff.1 hi).1
   rw[<-(hr i _ r (List.getElem?_eq_getElem hlt) hi).len];exact h4 _ (List.getElem_mem hlt)
  ·have hlt:i<es.den.length:=by rw[hl];exact(List.getElem?_eq_some_iff.1 hi).1
   have hq:=hr i _ r (List.getElem?_eq_getElem hlt) hi;have hjl:j<(es.den[i]'hlt).length:=by rw[hq.len];exact(List.getElem?_eq_some_iff.1 hj).1
   obtain⟨a,b⟩:=h6 i j _ _ v (List.getElem?_eq_getElem hlt) (List.getElem?_eq_getElem hjl) hv;exact⟨(hq.get j _ x (List.getElem?_eq_getElem hjl) hj).same a,b⟩
theorem zE {α:Type}(ts:α->List T)(l m:List α):ay ts (l++m)=ay ts l++ay ts m:=List.map_append
theorem Rp (bw:cg P td){t xt e:Nat}{d ed:TD}(hd:td t=some d)(hsh:d.sh=.slice e)(ir:td e=some ed)(hz:ed.zero≠[])(hby:1<=ed.bytes){α:Type}{ts:α->List T}(l m:List α){ob:List AO}{o k:Nat}{i len cap:Th Nat}{es:Th (List (List AV))}{sz:Th Nat}
  (hn:nth ob o=some (.arr k es sz)) (hk:k=ed.size) (pQ:k≠0) (hi:i.den=0) (hl:len.den=l.length) (hsz:sz.den=cap.den*k) (he:es.den=ay ts l) (hw:∀x,(ts x).length=k) {x:AV} {news:List (List AV)} (hsrc:bA.Src P xt ob x news k)
  (hnl:news.length=m.length) (hnr:∀(i:Nat) e e',news[i]?=some e->(ay ts m)[i]?=some e'->gj 0 [] [] e e') (hlen:(l++m).length*ed.bytes<=140737488355328) {K:AV->List AO->Prop}
  (hK:∀c:Nat,(l++m).length<=c->K (.sl (bS ob) k (.lit 0) (.th λ_=>(l++m).length) (.th λ_=>c)) (e_ (eM ob o .dead) [aL ts k (l++m) c])):fe P td t xt (.sl o k i len cap) x ob K:=by
 have hlen':(l.length+m.length)*ed.bytes<=140737488355328:=by rw[<-List.length_append];exact hlen
 have Yd:l.length+m.length<=140737488355328:=Nat.le_trans (Nat.le_mul_of_pos_right _ hby) hlen';have h:=cU (P:=P) bw hd hsh ir hz hn hk pQ hi (by rw[hl,he,aae];exact Nat.le_refl _) hsz (by rw[he];exact cr ts hw l) hsrc
  (by rw[hl,hnl];exact hlen') (by rw[hl,hnl];omega)
  (K:=λy o'=>∃c,(l++m).length<=c/\y=.sl (bS ob) k (.lit 0) (.th λ_=>(l++m).length) (.th λ_=>c)/\o'=e_ (eM ob o .dead) [.arr k (.th λ_=>ay ts l++news) (.th λ_=>c*k)])
  (.th λ_=>(l++m).length) (.th λ_=>ay ts l++news) (by rw[hl,hnl];exact List.length_append) (by
   show ay ts l++news=_;rw[he,hl,<-aae ts l,List.take_length])
  (λc hc=>⟨c,hc,rfl,rfl⟩)
 refine⟨λty w F μ vs vx hvs FV hs=> ?_⟩;obtain⟨v,y,cc,bu,w',h1,h2,h3,h4,c,h5,rfl,rfl⟩:=h.run ty w F μ vs vx hvs FV hs;refine⟨v,_,e_ (eM ob o .dead) [aL ts k (l++m) c],bu,w',h1,h2, ?_,h4,hK c h5⟩;have hln:(e_ (eM ob o .dead) [AO.arr k (.th λ_=>ay ts l++news) (.th λ_=>c*k)])[bS ob]?=some (.arr k (.th λ_=>ay ts l++news) (.th λ_=>c*k)):=by
  rw[dg,cJ,bQ,List.getElem?_append_right (by simp)];simp
 have h6:=h3.yN (o:=bS ob) (y:=aL ts k (l++m) c) (by rw[cq];exact hln) (λhg=>by
  simp only[gone,Th.aB]at hg⊢;refine⟨?_,hg.2⟩;obtain⟨h7,h8⟩:=List.append_eq_nil_iff.1 hg.1;have h9:m=[]:=List.eq_nil_of_length_eq_zero (by rw[<-hnl,h8];rfl);have h10:l=[]:=by simpa using h7
  subst h9;subst h10;rfl) (λb hb=>OB.NT (by simp[hnl]) (λi e e' h7 h8=>by
   simp only[Th.aB]at h7 h8;rw[zE]at h8;rcases Nat.lt_or_ge i (ay ts l).length with hi'|hi'
   ·rw[List.getElem?_append_left hi']at h7 h8;rw[h7]at h8;cases h8;have:∀l:List AV,eA l=true->gj 0 [] [] l l:=λl h=>gk.freeze.D1 h;exact this _ (an ts l e (List.mem_of_getElem? h7))
   ·rw[List.getElem?_append_right hi']at h7 h8;exact hnr _ e e' h7 h8) rfl hb)
 have h11:(e_ (eM ob o .dead) [AO.arr k (.th λ_=>ay ts l++news) (.th λ_=>c*k)]).set (bS ob) (aL ts k (l++m) c)=e_ (eM ob o .dead) [aL ts k (l++m) c]:=by
  rw[dg,dg,cJ,bQ,List.set_append_right _ _ (by simp)];simp
 rw[h11]at h6;exact h6
theorem LK (bw:cg P td){t e:Nat}{d ed:TD}(hd:td t=some d)(hsh:d.sh=.slice e)(ir:td e=some ed)(hz:ed.zero≠[])(hby:1<=ed.bytes){α:Type}{ts:α->List T}(l:List α)(x:α){ob:List AO}{o k:Nat}{i len cap:Th Nat}{es:Th (List (List AV))}{sz:Th Nat}
  (hn:nth ob o=some (.arr k es sz)) (hk:k=ed.size) (pQ:k≠0) (hi:i.den=0) (hl:len.den=l.length) (hsz:sz.den=cap.den*k) (he:es.den=ay ts l) (hw:∀x,(ts x).length=k) {o2:Nat} {row:List AV} {Lx AL:Th Nat}
  (hn2:nth ob o2=some (.arr k (.lit [row]) Lx)) (hrow:row.length=k) (hx:gj 0 [] [] row ((ts x).map AV.c)) (hlen:(l++[x]).length*ed.bytes<=140737488355328) {K:AV->List AO->Prop}
  (hK:∀c:Nat,(l++[x]).length<=c->K (.sl (bS ob) k (.lit 0) (.th λ_=>(l++[x]).length) (.th λ_=>c)) (e_ (eM ob o .dead) [aL ts k (l++[x]) c])):fe P td t t (.sl o k i len cap) (.sl o2 k (.lit 0) (.lit 1) AL) ob K:=by
 refine Rp bw hd hsh ir hz hby l [x] hn hk pQ hi hl hsz he hw (bA.Src.sl (a_ bw hd hsh) (es:=.lit [row]) hn2 (by intro r hr;simp at hr;rw[hr];exact hrow) (by simp)) (by simp) (λi e e' h1 h2=> ?_) hlen hK
 cases i with
 |zero=>simp at h1 h2;subst h1;subst h2;simpa using hx
 |succ i=>simp at h1
theorem Iz {α:Type}{ts:α->List T}{m:List α}{i:Nat}{e e':List AV}(h1:(ay ts m)[i]?=some e)(h2:(ay ts m)[i]?=some e'):gj 0 [] [] e e':=by
 rw[h1]at h2;cases h2;exact gk.freeze.D1 (an ts m e (List.mem_of_getElem? h1))
theorem nk (bw:cg P td){t e:Nat}{d ed:TD}(hd:td t=some d)(hsh:d.sh=.slice e)(ir:td e=some ed)(hz:ed.zero≠[])(hby:1<=ed.bytes){α:Type}{ts:α->List T}(l m:List α){ob:List AO}{o k:Nat}{i len cap:Th Nat}{es:Th (List (List AV))}{sz:Th Nat}
  (hn:nth ob o=some (.arr k es sz)) (hk:k=ed.size) (pQ:k≠0) (hi:i.den=0) (hl:len.den=l.length) (hsz:sz.den=cap.den*k) (he:es.den=ay ts l) (hw:∀x,(ts x).length=k) (hlen:(l++m).length*ed.bytes<=140737488355328) {K:AV->List AO->Prop}
  (hK:∀c:Nat,(l++m).length<=c->K (.sl (bS ob) k (.lit 0) (.th λ_=>(l++m).length) (.th λ_=>c)) (e_ (eM ob o .dead) [aL ts k (l++m) c])):fe P td t t (.sl o k i len cap) (aq ts k m) ob K:=
 Rp bw hd hsh ir hz hby l m hn hk pQ hi hl hsz he hw (bA.Src.dO (a_ bw hd hsh) (rows:=m.map ts) (.inr ⟨_,rfl,rfl⟩) (by intro e he;obtain⟨x,_,rfl⟩:=List.mem_map.1 he;exact hw x)) (by simp) (λi e e' h1 h2=>by
  rw[<-de]at h1;exact Iz h1 h2) hlen hK
theorem ab7 (bw:cg P td){t e:Nat}{d ed:TD}(hd:td t=some d)(hsh:d.sh=.slice e)(ir:td e=some ed)(hz:ed.zero≠[])(hby:1<=ed.bytes){α:Type}{ts:α->List T}(l m:List α){ob:List AO}{o k:Nat}{i len cap:Th Nat}{es:Th (List (List AV))}{sz:Th Nat}
  (hn:nth ob o=some (.arr k es sz)) (hk:k=ed.size) (pQ:k≠0) (hi:i.den=0) (hl:len.den=l.length) (hsz:sz.den=cap.den*k) (he:es.den=ay ts l) (hw:∀x,(ts x).length=k) {o2:Nat} {i2 rK AL:Th Nat} {es2:Th (List (List AV))} {Lx:Th Nat} (hn2:nth ob o2=some (.arr k es2 Lx)) (LD:es2.den=ay ts m) (hi2:i2.den=0) (La:rK.den=m.length)
  (hlen:(l++m).length*ed.bytes<=140737488355328) {K:AV->List AO->Prop}
  (hK:∀c:Nat,(l++m).length<=c->K (.sl (bS ob) k (.lit 0) (.th λ_=>(l++m).length) (.th λ_=>c)) (e_ (eM ob o .dead) [aL ts k (l++m) c])):fe P td t t (.sl o k i len cap) (.sl o2 k i2 rK AL) ob K:=by
 have h2:((es2.den.drop i2.den).take rK.den)=ay ts m:=by rw[LD,hi2,La,List.drop_zero,<-aae ts m,List.take_length]
 have hsrc:=bA.Src.sl (P:=P) (xt:=t) (a_ bw hd hsh) (i:=i2) (len:=rK) (cap:=AL) hn2 (by rw[LD];exact cr ts hw m) (by rw[LD,hi2,La,aae];omega);rw[h2]at hsrc;exact Rp bw hd hsh ir hz hby l m hn hk pQ hi hl hsz he hw hsrc (by simp) (λi e e' h1 h2=>Iz h1 h2) hlen hK
end Go.Proofs.aaa
end
section
namespace Go.Proofs.aaa
open Go.bA Go.IntWalk
variable{P:Program}
def ck {α:Type}:List (Int×α)->Int->Option α
 |[],_=>none
 |(k,v)::l,n=>if k=n then some v else ck l n
def iI {α:Type}:List (Int×α)->Int->α->List (Int×α)
 |[],n,v=>[(n,v)]
 |(k,u)::l,n,v=>if k=n then(k,v)::l else(k,u)::iI l n v
def kg {α:Type}:List (Int×α)->Int->List (Int×α)
 |[],_=>[]
 |(k,u)::l,n=>if k=n then l else(k,u)::kg l n
abbrev fk {α:Type}(ts:α->List T)(l:List (Int×α)):List (Int×List T):=l.map λp=>(p.1,ts p.2)
abbrev mpT {α:Type}(kk:IntKind)(ag:Bool)(ts:α->List T)(l:List (Int×α)):AO:=.jq kk ag (.th λ_=>fk ts l)
theorem sx {α:Type}(ts:α->List T):∀(l:List (Int×α))(n:Int),mH (fk ts l) n=(ck l n).map ts
 |[],_=>rfl
 |(k,v)::l,n=>by
  simp only[fk,List.map_cons,mH,ck];split
  ·rfl
  ·exact sx ts l n
theorem yg {α:Type}(ts:α->List T):∀(l:List (Int×α))(n:Int)(v:α),tq (fk ts l) n (ts v)=fk ts (iI l n v)
 |[],_,_=>rfl
 |(k,u)::l,n,v=>by
  simp only[fk,List.map_cons,tq,iI];split
  ·rfl
  ·simp only[List.map_cons];exact congrArg _ (yg ts l n v)
theorem yh {α:Type}(ts:α->List T):∀(l:List (Int×α))(n:Int),tu (fk ts l) n=fk ts (kg l n)
 |[],_=>rfl
 |(k,u)::l,n=>by
  simp only[fk,List.map_cons,tu,kg];split
  ·rfl
  ·simp only[List.map_cons];exact congrArg _ (yh ts l n)
theorem p_ {α:Type}{ts:α->List T}{es:List (Int×List T)}{l:List (Int×α)}{n:Int}{vs:List T}(v:α)(h:es=fk ts l)(hv:vs=ts v):tq es n vs=fk ts (iI l n v):=by subst h;subst hv;exact yg ts l n v
theorem qa {α:Type}{ts:α->List T}{es:List (Int×List T)}{l:List (Int×α)}{n:Int}(h:es=fk ts l):tu es n=fk ts (kg l n):=by subst h;exact yh ts l n
theorem _root_.Go.bA.iz.hit {α:Type}{ts:α->List T}{l:List (Int×α)}{es:Unit->List (Int×List T)}{n:Unit->Int}{A:List T->Prop}{B:Unit->Prop}{v:α}(he:es ()=fk ts l)(h:ck l (n ())=some v)(hA:A (ts v)):iz es n A B:=by
 have h1:mH (es ()) (n ())=some (ts v):=by rw[he,sx,h];rfl
 exact .mk (λus hu=>by rw[h1]at hu;cases hu;exact hA) (λhn=>by rw[h1]at hn;cases hn)
theorem _root_.Go.bA.iz.Eu {α:Type}{ts:α->List T}{l:List (Int×α)}{es:Unit->List (Int×List T)}{n:Unit->Int}{A:List T->Prop}{B:Unit->Prop}(he:es ()=fk ts l)(h:ck l (n ())=none)(hB:B ()):iz es n A B:=by
 have h1:mH (es ()) (n ())=none:=by rw[he,sx,h];rfl
 exact .mk (λus hu=>by rw[h1]at hu;cases hu) (λ_=>hB)
def ou {α β:Type}(o:Option α)(A:α->β)(B:β):β:=match o with|some v=>A v|none=>B
theorem Gt {α β:Type}{o:Option α}{A:α->β}{B:β}{r:β}{v:α}(h:o=some v)(hR:ou o A B=r):A v=r:=by subst h;exact hR
theorem Gs {α β:Type}{o:Option α}{A:α->β}{B:β}{r:β}(h:o=none)(hR:ou o A B=r):B=r:=by subst h;exact hR
theorem _root_.Go.bA.RO.ov {base:Nat}{π:List Nat}{o:List AO}{kk:IntKind}{ag:Bool}{α:Type}{ts:α->List T}{l:List (Int×α)}{es:Th (List (Int×List T))}(h:es.den=fk ts l):RO base π o (.jq kk ag es) (mpT kk ag ts l):=.jq h
theorem _root_.Go.bA.RO.z_ {base:Nat}{π:List Nat}{o:List AO}{kk:IntKind}{ag:Bool}{α:Type}{ts:α->List T}:RO base π o (.map []) (mpT kk ag ts ([]:List (Int×α))):=.MD rfl
theorem _root_.Go.bA.RO.W6 {base:Nat}{π:List Nat}{o:List AO}{kk:IntKind}{ag:Bool}{α:Type}{ts:α->List T}{l:List (Int×α)}{left:Th (List (Int×List T))}{cur:Th (Option (Int×List T))}(h:left.den=fk ts l)(hc:(none:Option (Int×List T))=cur.den\/(none:Option (Int×List T))=none):RO base π o (.mV kk ag left cur) (.mV kk ag (.th λ_=>fk ts l) (.lit none)):=.mV h hc
def anyM {α ρ:Type} [DecidableEq ρ](step:Int->α->Option (Unit⊕ρ)):List (Int×α)->Option (Unit⊕ρ)
 |[]=>some (.inl ())
 |(n,v)::l=>(step n v).bind λy=>(anyM step l).bind λz=>match y,z with
  | .inl _,z=>some z
  | .inr r,.inl _=>some (.inr r)
  | .inr r,.inr r'=>if r=r' then some (.inr r)else none
theorem anyM_nil {α ρ:Type} [DecidableEq ρ]{step:Int->α->Option (Unit⊕ρ)}{R:Unit⊕ρ}(h:anyM step []=some R):R=.inl ():=(Option.some.inj h).symm
theorem By {α ρ:Type} [DecidableEq ρ]{step:Int->α->Option (Unit⊕ρ)}:∀{l:List (Int×α)}{R:Unit⊕ρ},anyM step l=some R->∀(i:Nat) n v,l[i]?=some (n,v)->
  ∃y,step n v=some y/\(∀r,y=.inr r->R=.inr r)/\(y=.inl ()->anyM step (l.eraseIdx i)=some R)
 |[],R,h,i,n,v,hi=>by simp at hi
 |(k,u)::l,R,h,i,n,v,hi=>by
  obtain⟨y,hy,h1⟩:=az h;obtain⟨z,hz,h2⟩:=az h1
  cases i with
  |zero=>
   simp at hi;obtain⟨rfl,rfl⟩:=hi;refine⟨y,hy,λr hr=> ?_,λhl=> ?_⟩
   ·subst hr
    cases z with
    |inl z=>exact(Option.some.inj h2).symm
    |inr r'=>
     simp only at h2;split at h2
     ·exact(Option.some.inj h2).symm
     ·cases h2
   ·subst hl;simp only[List.eraseIdx_zero,List.tail_cons];rw[hz];exact h2
  |succ i=>
   obtain⟨x,g1,g2,g3⟩:=By hz i n v (by simpa using hi);refine⟨x,g1,λr hr=> ?_,λhl=> ?_⟩
   ·have hzr:=g2 r hr;subst hzr
    cases y with
    |inl y=>exact(Option.some.inj h2).symm
    |inr r'=>
     simp only at h2;split at h2
     ·rename_i e;rw[<-e];exact(Option.some.inj h2).symm
     ·cases h2
   ·simp only[List.eraseIdx_cons_succ,anyM];rw[hy,g3 hl];exact h2
theorem Jd {α ρ:Type} [DecidableEq ρ]{γ':ρ->Type}{m:Nat}{c:Code}{env:List AV}{ob:List AO}{Q:AE->List AV->List AO->Prop}(bw:cg P td)(kk:IntKind)(ag:Bool)(ts:α->List T)(l0:List (Int×α))
  (step:Int->α->Option (Unit⊕ρ)) (E:List AV) (O:AO->List AO) (Xn:AE×List AV×List AO) (Xr:(r:ρ)->γ' r->AE×List AV×List AO) {R:Unit⊕ρ} (hR:anyM step l0=some R)
  (hr:dj m env ob E (O (.mV kk ag (.th λ_=>fk ts l0) (.lit none))))
  (rnd:∀(l:List (Int×α))(J:List AV->List AO->Prop)(B:AE->List AV->List AO->Prop),
   (∀(x':AE) e o,l=[]->x'=Xn.1->dj m e o Xn.2.1 Xn.2.2->B x' e o)->
   (∀(i:Nat)(n:Int)(v:α),l[i]?=some (n,v)->∃y,step n v=some y/\(∀e o,y=.inl ()->dj m e o E (O (.mV kk ag (.th λ_=>fk ts (l.eraseIdx i)) (.lit none)))->J e o)/\(∀r g' x' e o,y=.inr r->x'=(Xr r g').1->dj m e o (Xr r g').2.1 (Xr r g').2.2->B x' e o))->
   aw P td m c E (O (.mV kk ag (.th λ_=>fk ts l) (.lit none))) (nj J B))
  (kn:R=.inl ()->Q Xn.1 Xn.2.1 Xn.2.2) (kr:∀r g,R=.inr r->Q (Xr r g).1 (Xr r g).2.1 (Xr r g).2.2):cu P m (.loop c) env ob Q:=by
 refine cu.cut (λx e o=>(R=.inl ()/\x=Xn.1/\e=Xn.2.1/\o=Xn.2.2)\/(∃r g,R=.inr r/\x=(Xr r g).1/\e=(Xr r g).2.1/\o=(Xr r g).2.2)) ?_ ?_
 ·refine cu.inv bw (λn e o=>∃l:List (Int×α),n=l.length/\anyM step l=some R/\e=E/\o=O (.mV kk ag (.th λ_=>fk ts l) (.lit none))) l0.length _ _ hr ⟨l0,rfl,hR,rfl,rfl⟩ ?_;rintro n e o ⟨l,rfl,hs,rfl,rfl⟩ J hJ;refine rnd l J _ (λx' e o hl hx' Bw=> ?_) (λi n v hi=> ?_)
  ·subst hl;exact⟨_,_,Bw,.inl ⟨anyM_nil hs,hx',rfl,rfl⟩⟩
  ·obtain⟨y,h1,h2,h3⟩:=By hs i n v hi;refine⟨y,h1,λe o he Bw=> ?_,λr g' x' e o he hx' Bw=> ?_⟩
   ·have hlt:=(List.getElem?_eq_some_iff.1 hi).1;exact hJ (l.eraseIdx i).length _ _ _ _ (by rw[List.length_eraseIdx_of_lt hlt];omega) Bw ⟨_,rfl,h3 he,rfl,rfl⟩
   ·exact⟨_,_,Bw,.inr ⟨r,g',h2 r he,hx',rfl,rfl⟩⟩
 ·rintro x e o (⟨h,rfl,rfl,rfl⟩|⟨r,g,h,rfl,rfl,rfl⟩)
  ·exact kn h
  ·exact kr r g h
theorem _root_.Go.bA.zN.typed {α:Type}{ts:α->List T}{l:List (Int×α)}{left:Unit->List (Int×List T)}{A:Nat->Int->List T->Prop}{B:Unit->Prop}(he:left ()=fk ts l)(hA:∀(i:Nat) n v,l[i]?=some (n,v)->A i n (ts v))(hB:l=[]->B ()):zN left A B:=by
 refine .mk (λi n us h=> ?_) (λh=>hB (by rw[he]at h;simpa using h));rw[he,List.getElem?_map]at h
 cases hl:l[i]? with
 |none=>rw[hl]at h;cases h
 |some p=>
  rw[hl]at h;cases h;exact hA i p.1 p.2 hl
theorem sy {α β:Type}(f:α->β):∀(l:List α)(i:Nat),(l.map f).eraseIdx i=(l.eraseIdx i).map f
 |[],_=>rfl
 |_::_,0=>rfl
 |a::l,i+1=>by simp only[List.map_cons,List.eraseIdx_cons_succ];rw[sy f l i]
theorem Ca {α:Type}{ts:α->List T}{es:List (Int×List T)}{l:List (Int×α)}{i:Nat}(h:es=fk ts l):es.eraseIdx i=fk ts (l.eraseIdx i):=by
 subst h;exact sy _ l i
theorem _root_.Go.bA.fe.XR {δ:Nat->Option TD}{t xt:TypeId}{s x s' x':AV}{ob cc:List AO}{K:AV->List AO->Prop}(π:List Nat)(hk:keeps (bS ob) (bS ob) 0 π=true)(hd:bA.distinct π=true)(he:gj 0 π ob [s,x] [s',x'])(ho:kS 0 π ob π cc)(h:fe P δ t xt s' x' cc K):fe P δ t xt s x ob K:=by
 refine⟨λty w F μ vs vx hvs FV hs=> ?_⟩;obtain⟨bu,h1,h2,h3⟩:=(dj.of (m:=bS ob) (e:=[s,x]) (e':=[s',x']) π hk hd he ho).run w F μ #[vs,vx] (by rw[bQ,hs.len];exact Nat.le_refl _) ⟨rfl,λi y v hy hv=>by
  match i with
  |0=>simp at hy hv;subst hy;subst hv;exact hvs
  |1=>simp at hy hv;subst hy;subst hv;exact FV
  |i+2=>simp at hy⟩ hs
 obtain⟨v,y,ob1,jw,w1,g1,g2,g3,g4,g5⟩:=h.run ty w F bu vs vx (h1.2 0 s' vs rfl rfl) (h1.2 1 x' vx rfl rfl) h2;exact⟨v,y,ob1,jw,w1,g1,g2,g3,(h3.Db (by rw[bQ,hs.len])).trans g4,g5⟩
end Go.Proofs.aaa
end
section
namespace Go.Proofs.aaa
open Go.bA Go.IntWalk
variable{P:Program}(hP:P=Tryz.prog)
theorem _root_.Go.bA.aV.i6 {f:FuncId}{args:List AV}{ob:List AO}{K:AV->List AO->Prop}(j:Nat){o k:Nat}{i len cap:Th Nat}(hj:args[j]?=some (.sl o k i len cap))(h:len.den<=cap.den->cap.den<=9223372036854775807->aV P f args ob K):aV P f args ob K:=by
 refine⟨λw F μ bD hv hs=> ?_⟩;have hlt:j<bD.toList.length:=by rw[hv.1];exact(List.getElem?_eq_some_iff.1 hj).1
 obtain⟨a,_,h1,h2,_⟩:=(hv.2 j _ _ hj (List.getElem?_eq_getElem hlt)).FO;exact(h h1 h2).run w F μ bD hv hs
abbrev D2 {α:Type}(ts:α->List T)(k:Nat)(l:List α)(i c:Nat):AV->List AO->Prop:=λy o=>y=.sl 0 k (.lit 0) (.th λ_=>l.length -1) (.th λ_=>c)/\o=[aL ts k (l.eraseIdx i) c]
theorem Bz {β:Type}(R:List β)(i:Nat)(z:List β)(h:i<R.length):(R.take i++R.drop (i+1)++z).take (R.length -1)=R.eraseIdx i:=by
 rw[List.take_append_of_le_length (by simp;omega),List.take_of_length_le (by simp;omega),List.eraseIdx_eq_take_drop_succ]
theorem aaE {α:Type}(ts:α->List T)(l:List α)(i:Nat):(ay ts l).eraseIdx i=ay ts (l.eraseIdx i):=sy _ l i
include hP
set_option maxHeartbeats 4000000 in
theorem Ab (l:List aC)(c:Nat)(I J N:Int)(hc:l.length<=c)(hN:N=(l.length:Int))(h0:0<=I)(hi:I<N)(hJ:J=I+1)(hb:l.length<=1000000)(Fw:c<=9223372036854775807):
    aV P 104 [.sl 0 4 (.lit 0) (.th λ_=>N.toNat) (.th λ_=>c),AI .i64 (.th λ_=>I),AI .i64 (.th λ_=>J)] [aL aC.ts 4 l c] (D2 aC.ts 4 l I.toNat c):=by
  have OC:N.toNat=l.length:=by omega
  refine aV.can ?_;refine We hP ?_;cbv;refine bg.mk (by simp[okB];omega) ?_;cbv;refine aM.f (by simp[ai];omega) ?_;cbv;refine aR.cS (ty hP) (mo hP) rfl ?_;cbv;have WK:J.toNat=I.toNat+1:=by omega
  have h10:bP 0 0 (Int.ofNat c)=0:=by unfold bP;split<;>rfl
  have Rq:bP 0 J (Int.ofNat c)=if c=l.length/\J=N then 0 else J.toNat:=by
    unfold bP;by_cases h:(Int.ofNat c)=J
    · rw[decide_eq_true h,if_pos ⟨by simp at h;omega,by simp at h;omega⟩]
    · rw[decide_eq_false h,if_neg (λh2=>h (by simp;omega))];simp
  iterate 2
    (apply aS.is
     · intro J hJ
       cbv;exact hJ
     cbv)
  apply aS.is
  · intro J hJ
    cbv;refine bg.mk (by simp[okB];omega) ?_;cbv;exact hJ
  cbv
  iterate 2
    (apply aS.is
     · intro J hJ
       cbv;exact hJ
     cbv)
  apply aS.is
  · intro J hJ
    cbv;refine bg.mk (by simp[okB];omega) ?_;cbv;exact hJ
  cbv;have hw:∀r∈ay aC.ts l,r.length=4:=cr _ aC.wh l;have IA:(((ay aC.ts l).drop (bP 0 J (Int.ofNat c))).take (Int.ofNat N.toNat -J).toNat)=(ay aC.ts l).drop (I.toNat+1):=by
    rw[Rq];split
    · rename_i h
      rw[show(Int.ofNat N.toNat -J).toNat=0 by simp;omega,List.take_zero,List.drop_of_length_le (by simp;omega)]
    · rw[WK,List.take_of_length_le (by simp;omega)]
  have NU:bP 0 J (Int.ofNat c)+(Int.ofNat N.toNat -J).toNat<=l.length:=by rw[Rq];split<;>simp<;>omega
  have hsrc:bA.Src P 29 [aL aC.ts 4 l c] (.sl 0 4 (.th λ_=>bP 0 J (Int.ofNat c)) (.th λ_=>(Int.ofNat N.toNat -J).toNat) (.th λ_=>(Int.ofNat c -J).toNat)) ((ay aC.ts l).drop (I.toNat+1)) 4:=by
    have h:=bA.Src.sl (P:=P) (xt:=29) (a_ (ty hP) (d:=(td 29).get rfl) (e:=116) rfl rfl) (ob:=[aL aC.ts 4 l c]) (o:=0) (k:=4) (i:=.th λ_=>bP 0 J (Int.ofNat c)) (len:=.th λ_=>(Int.ofNat N.toNat -J).toNat) (cap:=.th λ_=>(Int.ofNat c -J).toNat) rfl hw (by rw[Th.aB,Th.aB,Th.aB,aae];exact NU);rw[Th.aB,Th.aB,Th.aB,IA]at h;exact h
  refine sO (ty hP) (e:=116) rfl rfl rfl (es:=.th λ_=>ay aC.ts l) (k:=4) rfl rfl ?_ ?_ ?_ hw hsrc ?_ ?_
    (.th λ_=>l.length -1) (.th λ_=>(ay aC.ts l).take I.toNat++(ay aC.ts l).drop (I.toNat+1)++(ay aC.ts l).drop (l.length -1)) ?_ ?_ ?_
  · exact h10
  · show(I -0).toNat<=(ay aC.ts l).length;simp;omega
  · show c*4=(Int.ofNat c -0).toNat*4;simp
  · show(I -0).toNat+((ay aC.ts l).drop (I.toNat+1)).length<=(Int.ofNat c -0).toNat;simp;omega
  · show c*4≠0;omega
  · show l.length -1=(I -0).toNat+((ay aC.ts l).drop (I.toNat+1)).length;simp;omega
  · show _=(ay aC.ts l).take (I -0).toNat++_++(ay aC.ts l).drop ((I -0).toNat+((ay aC.ts l).drop (I.toNat+1)).length)
    rw[show(I -0).toNat=I.toNat by simp,show I.toNat+((ay aC.ts l).drop (I.toNat+1)).length=l.length -1 by simp;omega]
    rfl
  cbv;apply aS.is
  · intro J hJ
    cbv;exact hJ
  cbv;refine bg.mk (by simp[okB];omega) ?_;cbv;have Rr:bP 0 (Int.ofNat (l.length -1)) (Int.ofNat c -0)=l.length -1:=by
    unfold bP;rw[decide_eq_false (by simp;omega)];simp
  refine bg.mk ?_ ?_
  · show Nat.ble ((bP 0 (Int.ofNat (l.length -1)) (Int.ofNat (Int.ofNat c -0).toNat)+(Int.ofNat N.toNat -Int.ofNat (l.length -1)).toNat)*4) (c*4)=true
    rw[show Int.ofNat (Int.ofNat c -0).toNat=Int.ofNat c -0 by simp,Rr];simp;omega
  cbv;have NV:((dQ (bG ((td 116).get rfl)) ((ay aC.ts l).take I.toNat++(ay aC.ts l).drop (I.toNat+1)++(ay aC.ts l).drop (l.length -1)) (bP 0 (Int.ofNat (l.length -1)) (Int.ofNat (Int.ofNat c -0).toNat)) (Int.ofNat N.toNat -Int.ofNat (l.length -1)).toNat).take (l.length -1))=ay aC.ts (l.eraseIdx I.toNat):=by
    rw[show Int.ofNat (Int.ofNat c -0).toNat=Int.ofNat c -0 by simp,Rr,<-aaE];unfold dQ;rw[List.append_assoc,List.take_append_of_le_length (by simp;omega),List.take_take,Nat.min_self,<-aae aC.ts l];exact Bz _ _ _ (by rw[aae];omega)
  refine⟨_,[aL aC.ts 4 (l.eraseIdx I.toNat) c],⟨[0],rfl,rfl,.sl (q:=0) rfl rfl rfl (by simp),.cons rfl (.l9 (l.length -1) NV.symm (an _ _) rfl) .nil⟩,rfl,rfl⟩
set_option maxHeartbeats 4000000 in
theorem Cc (l:List aQ)(c:Nat)(I J N:Int)(hc:l.length<=c)(hN:N=(l.length:Int))(h0:0<=I)(hi:I<N)(hJ:J=I+1)(hb:l.length<=1000000)(Fw:c<=9223372036854775807):
    aV P 217 [.sl 0 4 (.lit 0) (.th λ_=>N.toNat) (.th λ_=>c),AI .i64 (.th λ_=>I),AI .i64 (.th λ_=>J)] [aL aQ.ts 4 l c] (D2 aQ.ts 4 l I.toNat c):=by
  have OC:N.toNat=l.length:=by omega
  refine aV.can ?_;refine Ws hP ?_;cbv;refine bg.mk (by simp[okB];omega) ?_;cbv;refine aM.f (by simp[ai];omega) ?_;cbv;refine aR.cS (ty hP) (mo hP) rfl ?_;cbv;have WK:J.toNat=I.toNat+1:=by omega
  have h10:bP 0 0 (Int.ofNat c)=0:=by unfold bP;split<;>rfl
  have Rq:bP 0 J (Int.ofNat c)=if c=l.length/\J=N then 0 else J.toNat:=by
    unfold bP;by_cases h:(Int.ofNat c)=J
    · rw[decide_eq_true h,if_pos ⟨by simp at h;omega,by simp at h;omega⟩]
    · rw[decide_eq_false h,if_neg (λh2=>h (by simp;omega))];simp
  iterate 2
    (apply aS.is
     · intro J hJ
       cbv;exact hJ
     cbv)
  apply aS.is
  · intro J hJ
    cbv;refine bg.mk (by simp[okB];omega) ?_;cbv;exact hJ
  cbv
  iterate 2
    (apply aS.is
     · intro J hJ
       cbv;exact hJ
     cbv)
  apply aS.is
  · intro J hJ
    cbv;refine bg.mk (by simp[okB];omega) ?_;cbv;exact hJ
  cbv;have hw:∀r∈ay aQ.ts l,r.length=4:=cr _ aQ.wh l;have IA:(((ay aQ.ts l).drop (bP 0 J (Int.ofNat c))).take (Int.ofNat N.toNat -J).toNat)=(ay aQ.ts l).drop (I.toNat+1):=by
    rw[Rq];split
    · rename_i h
      rw[show(Int.ofNat N.toNat -J).toNat=0 by simp;omega,List.take_zero,List.drop_of_length_le (by simp;omega)]
    · rw[WK,List.take_of_length_le (by simp;omega)]
  have NU:bP 0 J (Int.ofNat c)+(Int.ofNat N.toNat -J).toNat<=l.length:=by rw[Rq];split<;>simp<;>omega
  have hsrc:bA.Src P 23 [aL aQ.ts 4 l c] (.sl 0 4 (.th λ_=>bP 0 J (Int.ofNat c)) (.th λ_=>(Int.ofNat N.toNat -J).toNat) (.th λ_=>(Int.ofNat c -J).toNat)) ((ay aQ.ts l).drop (I.toNat+1)) 4:=by
    have h:=bA.Src.sl (P:=P) (xt:=23) (a_ (ty hP) (d:=(td 23).get rfl) (e:=74) rfl rfl) (ob:=[aL aQ.ts 4 l c]) (o:=0) (k:=4) (i:=.th λ_=>bP 0 J (Int.ofNat c)) (len:=.th λ_=>(Int.ofNat N.toNat -J).toNat) (cap:=.th λ_=>(Int.ofNat c -J).toNat) rfl hw (by rw[Th.aB,Th.aB,Th.aB,aae];exact NU);rw[Th.aB,Th.aB,Th.aB,IA]at h;exact h
  refine sO (ty hP) (e:=74) rfl rfl rfl (es:=.th λ_=>ay aQ.ts l) (k:=4) rfl rfl ?_ ?_ ?_ hw hsrc ?_ ?_
    (.th λ_=>l.length -1) (.th λ_=>(ay aQ.ts l).take I.toNat++(ay aQ.ts l).drop (I.toNat+1)++(ay aQ.ts l).drop (l.length -1)) ?_ ?_ ?_
  · exact h10
  · show(I -0).toNat<=(ay aQ.ts l).length;simp;omega
  · show c*4=(Int.ofNat c -0).toNat*4;simp
  · show(I -0).toNat+((ay aQ.ts l).drop (I.toNat+1)).length<=(Int.ofNat c -0).toNat;simp;omega
  · show c*4≠0;omega
  · show l.length -1=(I -0).toNat+((ay aQ.ts l).drop (I.toNat+1)).length;simp;omega
  · show _=(ay aQ.ts l).take (I -0).toNat++_++(ay aQ.ts l).drop ((I -0).toNat+((ay aQ.ts l).drop (I.toNat+1)).length)
    rw[show(I -0).toNat=I.toNat by simp,show I.toNat+((ay aQ.ts l).drop (I.toNat+1)).length=l.length -1 by simp;omega]
    rfl
  cbv;apply aS.is
  · intro J hJ
    cbv;exact hJ
  cbv;refine bg.mk (by simp[okB];omega) ?_;cbv;have Rr:bP 0 (Int.ofNat (l.length -1)) (Int.ofNat c -0)=l.length -1:=by
    unfold bP;rw[decide_eq_false (by simp;omega)];simp
  refine bg.mk ?_ ?_
  · show Nat.ble ((bP 0 (Int.ofNat (l.length -1)) (Int.ofNat (Int.ofNat c -0).toNat)+(Int.ofNat N.toNat -Int.ofNat (l.length -1)).toNat)*4) (c*4)=true
    rw[show Int.ofNat (Int.ofNat c -0).toNat=Int.ofNat c -0 by simp,Rr];simp;omega
  cbv;have NV:((dQ (bG ((td 74).get rfl)) ((ay aQ.ts l).take I.toNat++(ay aQ.ts l).drop (I.toNat+1)++(ay aQ.ts l).drop (l.length -1)) (bP 0 (Int.ofNat (l.length -1)) (Int.ofNat (Int.ofNat c -0).toNat)) (Int.ofNat N.toNat -Int.ofNat (l.length -1)).toNat).take (l.length -1))=ay aQ.ts (l.eraseIdx I.toNat):=by
    rw[show Int.ofNat (Int.ofNat c -0).toNat=Int.ofNat c -0 by simp,Rr,<-aaE];unfold dQ;rw[List.append_assoc,List.take_append_of_le_length (by simp;omega),List.take_take,Nat.min_self,<-aae aQ.ts l];exact Bz _ _ _ (by rw[aae];omega)
  refine⟨_,[aL aQ.ts 4 (l.eraseIdx I.toNat) c],⟨[0],rfl,rfl,.sl (q:=0) rfl rfl rfl (by simp),.cons rfl (.l9 (l.length -1) NV.symm (an _ _) rfl) .nil⟩,rfl,rfl⟩
end Go.Proofs.aaa
end
section
namespace Go.Proofs.aaa
open Go.bA Go.IntWalk
variable{P:Program}(hP:P=Tryz.prog)
def hcl {α:Type}(l:List α):Option (List α):=if decide (l.length<=1000000000000)=true then some l else none
theorem lR {α:Type}{ts:α->List T}{f k:Nat}{l:List α}(h:aV P f [aq ts k l] [] (fV ts k l)):gk P f [aq ts k l] (aq ts k l):=
 h.mono λx o hx=>by obtain⟨c,_,rfl,rfl⟩:=hx;exact .aL rfl rfl rfl rfl
theorem nH {α:Type}{l r:List α}(h:hcl l=some r):l.length<=1000000000000/\r=l:=by
 obtain⟨h1,h2⟩:=bl h;exact⟨of_decide_eq_true h1,(Option.some.inj h2).symm⟩
def Gu {α:Type}(key:α->Int)(l:List α)(n:Int):Option (Int×Bool):=if decide (l.length<=1000000000000/\bU key l)=true then some ((eO key l n:Nat),(bq key l n).isSome)else none
include hP
theorem KD (l r:List Cell)(h:hcl l=some r):gk P 73 [aq Cell.ts 6 l] (aq Cell.ts 6 r):=by
 obtain⟨h1,rfl⟩:=nH h;exact lR (cR hP r h1)
theorem KE (l r:List aQ)(h:hcl l=some r):gk P 74 [aq aQ.ts 4 l] (aq aQ.ts 4 r):=by
 obtain⟨h1,rfl⟩:=nH h;exact lR (gR hP r h1)
theorem KF (l r:List au)(h:hcl l=some r):gk P 75 [aq au.ts 4 l] (aq au.ts 4 r):=by
 obtain⟨h1,rfl⟩:=nH h;exact lR (eN hP r h1)
theorem KG (l r:List ah)(h:hcl l=some r):gk P 76 [aq ah.ts 2 l] (aq ah.ts 2 r):=by
 obtain⟨h1,rfl⟩:=nH h;exact lR (kO hP r h1)
theorem KH (l r:List aU)(h:hcl l=some r):gk P 80 [aq aU.ts 4 l] (aq aU.ts 4 r):=by
 obtain⟨h1,rfl⟩:=nH h;exact lR (wW hP r h1)
theorem IB (l:List Order)(n:Int)(r:Int×Bool)(h:Gu Order.id l n=some r):gk P 147 [aq Order.ts 4 l,AI .i64 (.th λ_=>n),.fn (.func 148) [] []] (.cI [AI .i64 (.th λ_=>r.1),AB (.th λ_=>r.2)]):=by
 obtain⟨h1,h2⟩:=bl h;obtain⟨h3,h4⟩:=of_decide_eq_true h1;obtain rfl:=Option.some.inj h2;exact Bo hP l n (eO Order.id l n) l.length (bq Order.id l n).isSome rfl h3 (by omega) (by have:=nt Order.id l n;omega) (λa x ha hx=>by
  have:=jZ Order.id h4 n a.toNat x hx;rw[this];omega) (by rw[Int.toNat_natCast];exact mj Order.id h4 n)
theorem IC (l:List aQ)(n:Int)(r:Int×Bool)(h:Gu aQ.order l n=some r):gk P 228 [aq aQ.ts 4 l,AI .i64 (.th λ_=>n),.fn (.func 229) [] []] (.cI [AI .i64 (.th λ_=>r.1),AB (.th λ_=>r.2)]):=by
 obtain⟨h1,h2⟩:=bl h;obtain⟨h3,h4⟩:=of_decide_eq_true h1;obtain rfl:=Option.some.inj h2;exact Fx hP l n (eO aQ.order l n) l.length (bq aQ.order l n).isSome rfl h3 (by omega) (by have:=nt aQ.order l n;omega) (λa x ha hx=>by
  have:=jZ aQ.order h4 n a.toNat x hx;rw[this];omega) (by rw[Int.toNat_natCast];exact mj aQ.order h4 n)
def hnext (s:aC):Option (Int×Bool×Int):=some (j_ s.kind s.pos s.aO,cw s.kind s.pos s.aO,cF s.kind s.pos s.aO)
def Cv (s:aC)(d:Bool):Option (aC×Int):=some (⟨E9 s.order s.kind s.pos s.aO,wQ s.kind s.pos s.aO,wR s.kind s.pos s.aO d,wS s.kind s.pos s.aO d⟩,qD s.kind s.pos s.aO)
def hleft (s:aC):Option (Int×Int):=some (jf s.kind s.pos s.aO,cF s.kind s.pos s.aO)
def hasks (s:Int):Option Bool:=some (lM s)
def q9 (l:List aU):Option (Int×Int):=some (rR l,tF l)
def jA (l:List ah)(n m v:Int):Option (List ah×Int):=if decide (l.length<=1000000000000/\∀x∈l,0<=x.state)=true then some (dz l n m v,fE l n m v)else none
def pW (a b:ByteArray):Option Int:=some (Lib.compareBytes a.data.toList b.data.toList)
theorem KI (s:aC)(r:Int×Bool×Int)(h:hnext s=some r):gk P 50 [s.av] (.cI [AI .u8 (.th λ_=>r.1),AB (.th λ_=>r.2.1),AI .i64 (.th λ_=>r.2.2)]):=by
 obtain rfl:=Option.some.inj h;exact Br hP s.order s.kind s.pos s.aO
theorem ac3 (s:aC)(r:Int×Bool×Int)(h:hnext s=some r):gk P 55 [s.av] (.cI [AI .u8 (.th λ_=>r.1),AB (.th λ_=>r.2.1),AI .i64 (.th λ_=>r.2.2)]):=by
 obtain rfl:=Option.some.inj h;exact abn hP s.order s.kind s.pos s.aO
theorem KJ (s:aC)(d:Bool)(r:aC×Int)(h:Cv s d=some r):gk P 53 [s.av,AB (.th λ_=>d)] (.cI [r.1.av,AI .i64 (.th λ_=>r.2)]):=by
 obtain rfl:=Option.some.inj h;exact DY hP s.order s.kind s.pos s.aO d
theorem ac4 (s:aC)(d:Bool)(r:aC×Int)(h:Cv s d=some r):gk P 58 [s.av,AB (.th λ_=>d)] (.cI [r.1.av,AI .i64 (.th λ_=>r.2)]):=by
 obtain rfl:=Option.some.inj h;exact aco hP s.order s.kind s.pos s.aO d
theorem KK (s:aC)(r:Int×Int)(h:hleft s=some r):gk P 60 [s.av] (.cI [AI .i64 (.th λ_=>r.1),AI .i64 (.th λ_=>r.2)]):=by
 obtain rfl:=Option.some.inj h;exact It hP s.order s.kind s.pos s.aO
theorem ac5 (s:aC)(r:Int×Int)(h:hleft s=some r):gk P 61 [s.av] (.cI [AI .i64 (.th λ_=>r.1),AI .i64 (.th λ_=>r.2)]):=by
 obtain rfl:=Option.some.inj h;exact acf hP s.order s.kind s.pos s.aO
theorem KL (s:Int)(r:Bool)(h:hasks s=some r):gk P 51 [AI .u8 (.th λ_=>s)] (AB (.th λ_=>r)):=by
 obtain rfl:=Option.some.inj h;exact Iy hP s
theorem ac6 (s:Int)(r:Bool)(h:hasks s=some r):gk P 56 [AI .u8 (.th λ_=>s)] (AB (.th λ_=>r)):=by
 obtain rfl:=Option.some.inj h;exact acg hP s
theorem ID (l:List aU)(r:Int×Int)(h:q9 l=some r):gk P 167 [aq aU.ts 4 l] (.cI [AI .i64 (.th λ_=>r.1),AI .i64 (.th λ_=>r.2)]):=by
 obtain rfl:=Option.some.inj h;exact FK hP l
theorem acp (l:List aU)(r:Int×Int)(h:q9 l=some r):gk P 128 [aq aU.ts 4 l] (.cI [AI .i64 (.th λ_=>r.1),AI .i64 (.th λ_=>r.2)]):=by
 obtain rfl:=Option.some.inj h;exact abr hP l
theorem IE (l:List ah)(n m v:Int)(r:List ah×Int)(h:jA l n m v=some r):gk P 187 [aq ah.ts 2 l,AI .i64 (.th λ_=>n),AI .u8 (.th λ_=>m),AI .u8 (.th λ_=>v)] (.cI [aq ah.ts 2 r.1,AI .i64 (.th λ_=>r.2)]):=by
 obtain⟨h1,h2⟩:=bl h;obtain⟨h3,h4⟩:=of_decide_eq_true h1;obtain rfl:=Option.some.inj h2;exact C5 hP l n m v h3 h4
theorem IF (a b:ByteArray)(r:Int)(h:pW a b=some r):gk P 141 [AS (.th λ_=>a),AS (.th λ_=>b)] (AI .i64 (.th λ_=>r)):=by
 obtain rfl:=Option.some.inj h;subst hP;refine aV.extern (vs:=[.string a,.string b]) rfl (v:=.int .i64 (Lib.compareBytes a.data.toList b.data.toList)) rfl (λw=> ?_) (.int rfl);rw[run_callFunc_extern Tryz.func141 (by kernel_rfl) (by kernel_rfl) (by kernel_rfl) (e:=Extern.BytealgCompare.compare) (by kernel_rfl),Lib.run_compareString]
 rfl
end Go.Proofs.aaa
end
section
namespace Go.Proofs.aaa
open Go.bA Go.IntWalk
variable{P:Program}
theorem Mz.get {o:List AO}{xs ys:List AV}(h:Mz o xs ys):xs.length=ys.length/\∀(i:Nat) x y,xs[i]?=some x->ys[i]?=some y->Fz o x y:=by
 induction h with
 |nil=>exact⟨rfl,λi x y h=>by simp at h⟩
 |cons h1 _ ih=>
  refine⟨by simp[ih.1],λi x y hx hy=> ?_⟩
  cases i with
  |zero=>simp at hx hy;subst hx;subst hy;exact h1
  |succ i=>exact ih.2 i x y (by simpa using hx) (by simpa using hy)
theorem _root_.Go.bA.Fz.aeC {o:List AO}{xs ys:List AV}(h:Mz o xs ys):Fz o (.agg xs) (.agg ys):=.agg (Mz.get h).1 (Mz.get h).2
theorem lZ {α:Type}{l:List α}{i c:Nat}{x:α}(h:l.length+1<=c):(bt l i x).length<=c:=by rw[bW];exact h
theorem lY {α:Type}{l:List α}{i c:Nat}(h:l.length<=c):(l.eraseIdx i).length<=c:=Nat.le_trans (List.length_eraseIdx_le ..) h
theorem qY {α:Type}{l:List α}{I:Int}(h0:0<=I)(h:I<(l.length:Int)):l.length -1=(l.eraseIdx I.toNat).length:=by rw[List.length_eraseIdx_of_lt (by omega)]
def AM {α:Type}(l:List α)(lo hi:Int):List α:=(l.drop lo.toNat).take (hi -lo).toNat
theorem E0 {α:Type}(ts:α->List T)(l:List α)(lo hi:Int):sC (l.map ts) lo hi=(AM l lo hi).map ts:=by
 unfold sC AM;rw[List.map_take,List.map_drop]
theorem hM {α:Type}{l:List α}{lo hi:Int}{c:Nat}(H:0<=lo/\lo<=hi/\hi<=(l.length:Int))(hc:l.length<=c):okB lo hi (Int.ofNat c) (Int.ofNat c)=true:=by simp[okB];omega
theorem acq {α:Type}{ts:α->List T}{l:List α}{lo hi:Int}{c:Nat}(H:0<=lo/\lo<=hi/\hi<=(l.length:Int))(hc:l.length<=c):
  (((ay ts l).drop (bP 0 lo (Int.ofNat c))).take (hi -lo).toNat)=ay ts (AM l lo hi)/\bP 0 lo (Int.ofNat c)+(hi -lo).toNat<=l.length:=by
 unfold bP AM ay;rw[List.map_take,List.map_drop];by_cases h:(Int.ofNat c)=lo
 ·have h2:lo=c:=by simp at h;omega
  rw[decide_eq_true h,show(hi -lo).toNat=0 by omega];exact⟨by simp,by simp⟩
 ·rw[decide_eq_false h];simp only[Nat.zero_add];exact⟨trivial,by omega⟩
theorem ac7 (x:Int):bP 0 0 x=0:=by unfold bP;split<;>rfl
theorem abt (bw:cg P td){t e:Nat}{d ed:TD}(hd:td t=some d)(hsh:d.sh=.slice e)(ir:td e=some ed)(hz:ed.zero≠[])(hby:1<=ed.bytes){α:Type}{ts:α->List T}(l m:List α)(lo hi:Int){ob:List AO}{o k:Nat}{i len cap:Th Nat}{es:Th (List (List AV))}{sz:Th Nat}
  (hn:nth ob o=some (.arr k es sz)) (hk:k=ed.size) (pQ:k≠0) (hi0:i.den=0) (hl:len.den=l.length) (hsz:sz.den=cap.den*k) (he:es.den=ay ts l) (hw:∀x,(ts x).length=k) {o2 c:Nat} {i2 rK AL:Th Nat} {es2:Th (List (List AV))} {Lx:Th Nat} (hn2:nth ob o2=some (.arr k es2 Lx)) (LD:es2.den=ay ts m)
  (H:0<=lo/\lo<=hi/\hi<=(m.length:Int)) (hc:m.length<=c) (hi2:i2.den=bP 0 lo (Int.ofNat c)) (La:rK.den=(hi -lo).toNat)
  (hlen:(l++AM m lo hi).length*ed.bytes<=140737488355328) {K:AV->List AO->Prop}
  (hK:∀c:Nat,(l++AM m lo hi).length<=c->K (.sl (bS ob) k (.lit 0) (.th λ_=>(l++AM m lo hi).length) (.th λ_=>c)) (e_ (eM ob o .dead) [aL ts k (l++AM m lo hi) c])):fe P td t t (.sl o k i len cap) (.sl o2 k i2 rK AL) ob K:=by
 obtain⟨h1,h2⟩:=acq (ts:=ts) H hc;have hsrc:=bA.Src.sl (P:=P) (xt:=t) (a_ bw hd hsh) (i:=i2) (len:=rK) (cap:=AL) hn2 (by rw[LD];exact cr ts hw m) (by rw[LD,hi2,La,aae];exact h2);rw[LD,hi2,La,h1]at hsrc;exact Rp bw hd hsh ir hz hby l _ hn hk pQ hi0 hl hsz he hw hsrc (by simp) (λi e e' h1 h2=>Iz h1 h2) hlen hK
theorem ep (bw:cg P td){t e:Nat}{d ed:TD}(hd:td t=some d)(hsh:d.sh=.slice e)(ir:td e=some ed)(hz:ed.zero≠[])(hby:1<=ed.bytes){α:Type}{ts:α->List T}(l m:List α)(lo hi:Int){ob:List AO}{o k:Nat}{i len cap:Th Nat}{es:Th (List (List AV))}{sz:Th Nat}
  (hn:nth ob o=some (.arr k es sz)) (hk:k=ed.size) (pQ:k≠0) (hi0:i.den=0) (hl:len.den=l.length) (hsz:sz.den=cap.den*k) (he:es.den=ay ts l) (hw:∀x,(ts x).length=k) (hlen:(l++AM m lo hi).length*ed.bytes<=140737488355328) {K:AV->List AO->Prop}
  (hK:∀c:Nat,(l++AM m lo hi).length<=c->K (.sl (bS ob) k (.lit 0) (.th λ_=>(l++AM m lo hi).length) (.th λ_=>c)) (e_ (eM ob o .dead) [aL ts k (l++AM m lo hi) c])):fe P td t t (.sl o k i len cap) (.c (.bJ k λ_=>.dO k (sC (m.map ts) lo hi))) ob K:=
 Rp bw hd hsh ir hz hby l (AM m lo hi) hn hk pQ hi0 hl hsz he hw (bA.Src.dO (a_ bw hd hsh) (rows:=sC (m.map ts) lo hi) (.inr ⟨_,rfl,rfl⟩) (by
  rw[E0];intro e he;obtain⟨x,_,rfl⟩:=List.mem_map.1 he;exact hw x)) (by rw[E0];simp) (λi e e' h1 h2=>by
  rw[E0,<-de]at h1;exact Iz h1 h2) hlen hK
theorem abu (bw:cg P td){t e:Nat}{d ed:TD}(hd:td t=some d)(hsh:d.sh=.slice e)(ir:td e=some ed)(hz:ed.zero≠[])(hby:1<=ed.bytes){α:Type}{ts:α->List T}(l:List α)(hi:Int)(x:α){ob:List AO}{o k c:Nat}{i len cap:Th Nat}{es:Th (List (List AV))}{sz:Th Nat}
  (hn:nth ob o=some (.arr k es sz)) (hk:k=ed.size) (pQ:k≠0) (hi0:i.den=0) (H:0<=(0:Int)/\0<=hi/\hi<=(l.length:Int)) (hl:len.den=(hi -0).toNat) (hsz:sz.den=c*k) (hcp:cap.den=(Int.ofNat c -0).toNat) (he:es.den=ay ts l) (hw:∀x,(ts x).length=k) {o2:Nat} {row:List AV} {Lx AL:Th Nat}
  (hoo:o≠o2) (hn2:nth ob o2=some (.arr k (.lit [row]) Lx)) (hrow:row.length=k) (hx:gj 0 [] [] row ((ts x).map AV.c)) (hlen:(l.take hi.toNat++[x]).length*ed.bytes<=140737488355328) {K:AV->List AO->Prop}
  (hK:∀c:Nat,(l.take hi.toNat++[x]).length<=c->K (.sl (bS ob) k (.lit 0) (.th λ_=>(l.take hi.toNat++[x]).length) (.th λ_=>c)) (e_ (eM ob o .dead) [aL ts k (l.take hi.toNat++[x]) c])):fe P td t t (.sl o k i len cap) (.sl o2 k (.lit 0) (.lit 1) AL) ob K:=by
 --the list,cut:what lies behind it is not looked at
 have aeD:∀w F μ,St w F μ ob->St w F μ (eM ob o (.arr k (.th λ_=>ay ts (l.take hi.toNat)) sz)):=λw F μ hs=>by
  rw[cJ];refine hs.yN hn (λhg=> ?_) (λb hb=> ?_)
  ·simp only[gone,Th.aB]at hg⊢;refine⟨?_,hg.2⟩;rw[he]at hg;have:l=[]:=by simpa using hg.1
   subst this;simp
  ·cases hb with
   |arr ct e h1 h2 h3 h4 h5 h6=>
    refine .arr ct e h1 h2 ?_ (λr hr=>cr ts hw _ r hr) h5 (λi j r x v hi' hj hv=> ?_)
    ·refine Nat.le_trans (Nat.mul_le_mul_right k ?_) h3;show(ay ts (l.take hi.toNat)).length<=es.den.length;rw[he,aae,aae];simp;omega
    ·refine h6 i j r x v ?_ hj hv;rw[he];have hi2:(ay ts (l.take hi.toNat))[i]?=some r:=hi';rw[ay,List.map_take]at hi2;have:=List.getElem?_eq_some_iff.1 hi2;obtain⟨h7,h8⟩:=this;rw[List.getElem_take]at h8;exact List.getElem?_eq_some_iff.2 ⟨by simp at h7;simp;omega,h8⟩
 have h:=LK (P:=P) bw hd hsh ir hz hby (l.take hi.toNat) x (ob:=eM ob o (.arr k (.th λ_=>ay ts (l.take hi.toNat)) sz)) (o:=o) (i:=i) (len:=len) (cap:=cap) (es:=.th λ_=>ay ts (l.take hi.toNat)) (sz:=sz) (o2:=o2) (row:=row) (Lx:=Lx) (AL:=AL)
  (by
    have hlt:o<ob.length:=by rw[cq]at hn;exact(List.getElem?_eq_some_iff.1 hn).1
    rw[cq,cJ,List.getElem?_set_self hlt]) hk pQ hi0 (by rw[hl];simp;omega) (by rw[hsz,hcp];simp) rfl hw (by rw[cq,cJ,List.getElem?_set_ne hoo,<-cq];exact hn2) hrow hx hlen (K:=K) (λc hc=>by
    have:=hK c hc;simp only[cJ,bQ,List.length_set,List.set_set]at this⊢;exact this)
 exact⟨λty w F μ vs vx hvs FV hs=>h.run ty w F μ vs vx hvs FV (aeD w F μ hs)⟩
end Go.Proofs.aaa
end
section
namespace Go.Proofs.aaa
open Go.bA Go.IntWalk
variable{P:Program}
abbrev I6 (n:Int):AV:=AI .i64 (.th λ_=>n)
abbrev I8 (n:Int):AV:=AI .u8 (.th λ_=>n)
abbrev B1 (b:Bool):AV:=AB (.th λ_=>b)
theorem FM {π:List Nat}{o:List AO}{p q off:Nat}(h:nth π q=some p):RV 0 π o (.ref p off) (.ref q off):=by
 have:=RV.ref (base:=0) (o:=o) (off:=off) h;rwa[Nat.zero_add]at this
theorem t_ {π:List Nat}{o:List AO}{p q k:Nat}{i len cap i' len' cap':Th Nat}(h:nth π q=some p)(h1:i.den=i'.den)(h2:len.den=len'.den)(h3:cap.den=cap'.den):RV 0 π o (.sl p k i len cap) (.sl q k i' len' cap'):=by
 have:=RV.sl (base:=0) (o:=o) (k:=k) h h1 h2 h3;rwa[Nat.zero_add]at this
theorem FN {π:List Nat}{o:List AO}{p q k:Nat}{i len cap:Th Nat}(h:nth π q=some p)(h1:nth o p=none)(h2:len.den=0)(h3:cap.den=0):RV 0 π o (.c (.lit (.slice none 0 0))) (.sl q k i len cap):=by
 have:=RV.o6 (base:=0) (k:=k) (i:=i) h h1 h2 h3;rwa[Nat.zero_add]at this
theorem OE {π:List Nat}{o:List AO}{p q:Nat}(h:nth π q=some p):RV 0 π o (.mp p) (.mp q):=by
 have:=RV.mp (base:=0) (o:=o) h;rwa[Nat.zero_add]at this
theorem al {p:Prop}(h:p:=by repeat' (first|refine gj.cons ?_ ?_|exact RV.int rfl|exact RV.c .refl|refine wM.cons rfl ?_ ?_|exact RV.pure rfl|exact gj.nil|refine kS.cons rfl ?_ ?_|exact FM rfl|refine RO.aN ?_|exact t_ rfl rfl rfl rfl|exact RO.aD rfl rfl|exact RV.bool rfl|exact wM.nil|exact kS.nil|refine RV.eJ ?_|refine RV.cA ?_|exact RV.vS|exact RV.str rfl|exact RV.aD rfl rfl rfl rfl rfl|exact RV.int (FL (by assumption) (by assumption) (by assumption))|exact gD.nil|refine gD.own (.AN rfl rfl rfl rfl) ?_|refine gD.pure rfl ?_ ?_|refine kS.kill (y:=.dead) rfl trivial ?_|refine kS.kill rfl ⟨rfl,rfl⟩ ?_|exact RV.int ((aW _ _ _).trans (Eq.symm (by assumption)))|exact RO.aL|refine RV.ki ?_ ?_|exact RO.dead|exact FN rfl rfl rfl rfl|exact OE rfl|exact RV.int (Eq.symm (by assumption))|exact t_ rfl rfl (bT rfl) rfl|exact t_ rfl rfl ((bW _ _ _).symm) rfl|refine RO.jx ?_ rfl|exact RO.jq rfl|exact RV.aD rfl rfl rfl rfl (by assumption)|exact t_ rfl rfl (by assumption) rfl|exact RO.z_|exact RO.ov rfl|exact RO.aD (bL _ rfl (Nat.zero_add _) rfl) rfl|exact RV.aD rfl rfl rfl rfl ((bW _ _ _).symm)|exact RV.aD rfl (bL _ rfl (Nat.zero_add _) rfl) rfl rfl (bT rfl))):p:=h
def NW (f:AV->AV->List (Nat×Nat)):List AV->List AV->List (Nat×Nat)
 |x::xs,y::ys=>f x y++NW f xs ys
 |_,_=>[]
def NX:Nat->AV->AV->List (Nat×Nat)
 |0,_,_=>[]
 |n+1,x,y=>match x,y with
  | .ref p _,.ref q _=>[(q,p)]
  | .sl p _ _ _ _,.sl q _ _ _ _=>[(q,p)]
  | .eZ p _ _ _,.eZ q _ _ _=>[(q,p)]
  | .mp p,.mp q=>[(q,p)]
  | .agg xs,.agg ys=>NW (NX n) xs ys
  | .cI xs,.cI ys=>NW (NX n) xs ys
  | .fn _ a b,.fn _ a' b'=>NW (NX n) a a'++NW (NX n) b b'
  |_,_=>[]
def Ye:List (List AV)->List (List AV)->List (Nat×Nat)
 |x::xs,y::ys=>NW (NX 4) x y++Ye xs ys
 |_,_=>[]
def piO (x y:AO):List (Nat×Nat):=match x,y with
 | .box xs,.box ys=>NW (NX 4) xs ys
 | .arr _ (.lit r) _,.arr _ (.lit r') _=>Ye r r'
 |_,_=>[]
def Su (e:List AV):List (Nat×AV)->List (Nat×Nat)
 |[]=>[]
 |(i,y)::l=>(match nth e i with|some x=>NX 4 x y|none=>[])++Su e l
def Sv (o o':List AO):List (Nat×Nat)->List (Nat×Nat)
 |[]=>[]
 |(q,p)::l=>(match nth o p with|some x=>(match nth o' q with|some y=>piO x y|none=>[])|none=>[])++Sv o o' l
def Sw:Nat->Nat->List (Nat×Nat)
 |0,_=>[]
 |k+1,q=>(q,q)::Sw k (q+1)
def LL:List (Nat×Nat)->Nat->Nat
 |[],n=>1000+n
 |(q,p)::l,n=>match q==n with|true=>p|false=>LL l n
def Yf (a:List (Nat×Nat)):Nat->Nat->List Nat
 |0,_=>[]
 |k+1,q=>LL a q::Yf a k (q+1)
def WL (m:Nat)(e:List AV)(o o':List AO)(l:List (Nat×AV)):List Nat:=Yf ((Sw m 0++Su e l)++(Sv o o' (Sw m 0++Su e l)++Sv o o' (Sv o o' (Sw m 0++Su e l)))) (bS o') 0
theorem KM {m:Nat}{e:List AV}{o o':List AO}{n:Nat}{l:List (Nat×AV)}{π:List Nat}(_:WL m e o o' l=π)(hk:keeps (bS o) m 0 π=true)(hd:bA.distinct π=true)(hn:bS e=n)(he:wM 0 π o e l)(ho:kS 0 π o π o'):dj m e o (bA.sp n l) o':=dj.sp π hk hd hn he ho
theorem aaP {m:Nat}{e:List AV}{o o':List AO}{n:Nat}{l:List (Nat×AV)}{π:List Nat}(_:WL m e o o' l=π:=by cbv)(hk:keeps (bS o) m 0 π=true:=by rfl)(hd:bA.distinct π=true:=by rfl)(hn:bS e=n:=by rfl)(he:wM 0 π o e l:=by exact al)(ho:kS 0 π o π o':=by exact al):dj m e o (bA.sp n l) o':=dj.sp π hk hd hn he ho
theorem _root_.Go.bA.aM.i {β:Type}{c:Bool}{X Y:Option β}{r:Option β}{f:Unit->Bool}{A B:Unit->Prop}(hR:(if c=true then X else Y)=r)(h1:c=true->X=r->A ())(h2:c=false->Y=r->B ())(h:f ()=c:=by rfl):aM f A B:=
 .mk (λe=>h1 (h▸e) (wz (h▸e) hR)) (λe=>h2 (h▸e) (wA (h▸e) hR))
theorem _root_.Go.bA.aS.z {δ:Nat->Option TD}{op:Op}{env:List AV}{ob:List AO}{K:AV->Prop}{x:AV}(k:K x)(h:∀J:AV->List AO->Prop,J x ob->zO P δ op env ob J:=by intro J hJ;cbv;exact hJ):aS P δ op env ob K:=.is x h k
theorem Gi {m:Nat}{e:List AV}{o o':List AO}{n:Nat}{l:List (Nat×AV)}(π:List Nat)(hk:keeps (bS o) m 0 π=true:=by rfl)(hd:bA.distinct π=true:=by rfl)(hn:bS e=n:=by rfl)(he:wM 0 π o e l:=by exact al)(ho:kS 0 π o π o':=by exact al):dj m e o (bA.sp n l) o':=dj.sp π hk hd hn he ho
theorem mN {m:Nat}{e:List AV}{o o':List AO}{n:Nat}{l:List (Nat×AV)}(π:List Nat)(ho:kS 0 π o π o')(hk:keeps (bS o) m 0 π=true:=by rfl)(hd:bA.distinct π=true:=by rfl)(hn:bS e=n:=by rfl)(he:wM 0 π o e l:=by exact al):dj m e o (bA.sp n l) o':=dj.sp π hk hd hn he ho
theorem IP (bw:cg P td){t e:Nat}{d ed:TD}{α:Type}{ts:α->List T}(l:List α)(x:α){ob:List AO}{o k:Nat}{i len cap:Th Nat}{es:Th (List (List AV))}{sz:Th Nat}{o2:Nat}{row:List AV}{Lx AL:Th Nat}{K:AV->List AO->Prop}
  (hlen:(l++[x]).length*ed.bytes<=140737488355328) (hK:∀c:Nat,(l++[x]).length<=c->K (.sl (bS ob) k (.lit 0) (.th λ_=>(l++[x]).length) (.th λ_=>c)) (e_ (eM ob o .dead) [aL ts k (l++[x]) c]))
  (hd:td t=some d:=by rfl) (hsh:d.sh=.slice e:=by rfl) (ir:td e=some ed:=by rfl) (hz:ed.zero≠[]:=by simp) (hby:1<=ed.bytes:=by decide)
  (hn:nth ob o=some (.arr k es sz):=by rfl) (hk:k=ed.size:=by rfl) (pQ:k≠0:=by decide) (hi:i.den=0:=by rfl) (hl:len.den=l.length:=by rfl) (hsz:sz.den=cap.den*k:=by rfl) (he:es.den=ay ts l:=by rfl) (hw:∀x,(ts x).length=k:=by intro _;rfl)
  (hn2:nth ob o2=some (.arr k (.lit [row]) Lx):=by rfl) (hrow:row.length=k:=by rfl) (hx:gj 0 [] [] row ((ts x).map AV.c):=by exact al):fe P td t t (.sl o k i len cap) (.sl o2 k (.lit 0) (.lit 1) AL) ob K:=
 LK bw hd hsh ir hz hby l x hn hk pQ hi hl hsz he hw hn2 hrow hx hlen hK
inductive Wk:List AV->List AV->Prop
 |nil:Wk [] []
 |same {x:AV} {xs ys:List AV}:Wk xs ys->Wk (x::xs) (x::ys)
 |bB {x:AV} {xs ys:List AV}:Wk xs ys->Wk (x::xs) (.bB::ys)
theorem Wk.len {xs ys:List AV}(h:Wk xs ys):xs.length=ys.length:=by induction h<;>simp[*]
theorem Wk.get {xs ys:List AV}(h:Wk xs ys):∀(i:Nat) y,ys[i]?=some y->y=.bB\/xs[i]?=some y:=by
 induction h with
 |nil=>intro i y h;simp at h
 |same _ ih=>
  intro i y h
  cases i with
  |zero=>right;simpa using h
  |succ i=>simpa using ih i y (by simpa using h)
 |bB _ ih=>
  intro i y h
  cases i with
  |zero=>left;simpa using h.symm
  |succ i=>simpa using ih i y (by simpa using h)
theorem dj.wk {m:Nat}{e e':List AV}{o:List AO}(h:Wk e e'):dj m e o e' o:=⟨λw F μ tmps hm hf hs=>⟨μ,⟨hf.1.trans h.len,λi y v hy hv=>by
 rcases h.get i y hy with rfl|h1
 ·exact .bB
 ·exact hf.2 i y v h1 hv⟩,hs,(Ext.refl w μ).IG hm⟩⟩
theorem wk {e e':List AV}(h:Wk e e':=by repeat' (first|exact Wk.nil|refine Wk.same ?_|refine Wk.bB ?_)):Wk e e':=h
theorem lp {α σ ρ β:Type}{γ:σ->Type}{γ':ρ->Type}{m:Nat}{c:Code}{env:List AV}{ob:List AO}{Q:AE->List AV->List AO->Prop}{l:List α}{step:σ->Int->α->Option (σ⊕ρ)}{s0:σ}{K:σ⊕ρ->Option β}{r:Option β}(bw:cg P td)(n:Nat)
  (E:Int->Int->(s:σ)->γ s->List (Nat×AV)) (O:(s:σ)->γ s->List AO) (Xr:(r:ρ)->γ' r->AE×List AV×List AO) (d:AE) (g0:γ s0) (hR:(bh step l s0).bind K=r)
  (hr:∀N:Int,N=(l.length:Int)->dj m env ob (sp n (E N 0 s0 g0)) (O s0 g0))
  (round:∀(N:Int),N=(l.length:Int)->∀(i:Int)(s:σ)(g:γ s)(x:α)(y:σ⊕ρ),0<=i->i<N->N<=4611686018427387904->l[i.toNat]?=some x->step s i x=some y->∀(J:List AV->List AO->Prop)(B:AE->List AV->List AO->Prop),
   (∀s' g' e o,y=.inl s'->dj m e o (sp n (E N (i+1) s' g')) (O s' g')->J e o)->(∀r g' x' e o,y=.inr r->x'=(Xr r g').1->dj m e o (Xr r g').2.1 (Xr r g').2.2->B x' e o)->aw P td m c (sp n (E N i s g)) (O s g) (nj J B))
  (kn:∀(N:Int),N=(l.length:Int)->∀s g,K (.inl s)=r->Q d (sp n (E N N s g)) (O s g)) (kr:∀r' g,K (.inr r')=r->Q (Xr r' g).1 (Xr r' g).2.1 (Xr r' g).2.2)
  (hn:∃q,r=some q:=by exact⟨_,rfl⟩)
  (last:∀(N:Int)(s:σ)(g:γ s)(J:List AV->List AO->Prop)(B:AE->List AV->List AO->Prop),(∀x' e o,x'=d->dj m e o (sp n (E N N s g)) (O s g)->B x' e o)->aw P td m c (sp n (E N N s g)) (O s g) (nj J B):=by intro N s g J B hB;cbv;refine aM.f (decide_eq_false (Int.lt_irrefl _)) ?_;cbv;exact hB _ _ _ rfl (dj.wk wk)):cu P m (.loop c) env ob Q:=by
 obtain⟨q,rfl⟩:=hn;obtain⟨R,h1,h2⟩:=az hR;exact rangeLoop bw l _ rfl step (λi s g=>sp n (E (l.length:Int) i s g)) O (λs g=>(d,sp n (E (l.length:Int) (l.length:Int) s g),O s g)) Xr s0 g0 h1 (hr _ rfl) (round _ rfl) (λs g J B hB=>last _ s g J B λx' e o hx Bw=>hB g x' e o hx Bw) (λs g h=>kn _ rfl s g (by rw[h]at h2;exact h2)) (λr' g h=>kr r' g (by rw[h]at h2;exact h2))
theorem kC {α σ ρ β:Type}{m:Nat}{c:Code}{env:List AV}{ob:List AO}{Q:AE->List AV->List AO->Prop}{l:List α}{step:σ->Int->α->Option (σ⊕ρ)}{s0:σ}{K:σ⊕ρ->Option β}{r:Option β}(bw:cg P td)(n:Nat)
  (E:Int->Int->(s:σ)->List (Nat×AV)) (O:(s:σ)->List AO) (Xr:(r:ρ)->Unit->AE×List AV×List AO) (d:AE) (hR:(bh step l s0).bind K=r)
  (hr:∀N:Int,N=(l.length:Int)->dj m env ob (sp n (E N 0 s0)) (O s0))
  (round:∀(N:Int),N=(l.length:Int)->∀(i:Int)(s:σ)(_:Unit)(x:α)(y:σ⊕ρ),0<=i->i<N->N<=4611686018427387904->l[i.toNat]?=some x->step s i x=some y->∀(J:List AV->List AO->Prop)(B:AE->List AV->List AO->Prop),
   (∀s' (_:Unit) e o,y=.inl s'->dj m e o (sp n (E N (i+1) s')) (O s')->J e o)->(∀r g' x' e o,y=.inr r->x'=(Xr r g').1->dj m e o (Xr r g').2.1 (Xr r g').2.2->B x' e o)->aw P td m c (sp n (E N i s)) (O s) (nj J B))
  (kn:∀(N:Int),N=(l.length:Int)->∀s (_:Unit),K (.inl s)=r->Q d (sp n (E N N s)) (O s)) (kr:∀r' g,K (.inr r')=r->Q (Xr r' g).1 (Xr r' g).2.1 (Xr r' g).2.2)
  (hn:∃q,r=some q:=by exact⟨_,rfl⟩)
  (last:∀(N:Int)(s:σ)(J:List AV->List AO->Prop)(B:AE->List AV->List AO->Prop),(∀x' e o,x'=d->dj m e o (sp n (E N N s)) (O s)->B x' e o)->aw P td m c (sp n (E N N s)) (O s) (nj J B):=by intro N s J B hB;cbv;refine aM.f (decide_eq_false (Int.lt_irrefl _)) ?_;cbv;exact hB _ _ _ rfl (dj.wk wk)):cu P m (.loop c) env ob Q:=
 lp (γ:=λ_=>Unit) (γ':=λ_=>Unit) bw n (λN i s _=>E N i s) (λs _=>O s) Xr d () hR hr round kn kr hn (λN s _ J B hB=>last N s J B hB)
theorem lq {σ ρ β:Type}{γ:σ->Type}{γ':ρ->Type}{m f:Nat}{c:Code}{env:List AV}{ob:List AO}{Q:AE->List AV->List AO->Prop}{body:σ->Option (σ⊕ρ)}{s0:σ}{K:ρ->Option β}{r:Option β}(bw:cg P td)(n:Nat)
  (E:(s:σ)->γ s->List (Nat×AV)) (O:(s:σ)->γ s->List AO) (Xr:(r:ρ)->γ' r->AE×List AV×List AO) (g0:γ s0) (hR:(iB body f s0).bind K=r)
  (hr:dj m env ob (sp n (E s0 g0)) (O s0 g0))
  (round:∀(s:σ)(g:γ s)(y:σ⊕ρ),body s=some y->∀(J:List AV->List AO->Prop)(B:AE->List AV->List AO->Prop),
   (∀s' g' e o,y=.inl s'->dj m e o (sp n (E s' g')) (O s' g')->J e o)->(∀r g' x' e o,y=.inr r->x'=(Xr r g').1->dj m e o (Xr r g').2.1 (Xr r g').2.2->B x' e o)->aw P td m c (sp n (E s g)) (O s g) (nj J B))
  (kr:∀r' g,K r'=r->Q (Xr r' g).1 (Xr r' g).2.1 (Xr r' g).2.2) (hn:∃q,r=some q:=by exact⟨_,rfl⟩):cu P m (.loop c) env ob Q:=by
 obtain⟨q,rfl⟩:=hn;obtain⟨R,h1,h2⟩:=az hR;exact KC bw body f (λs g=>sp n (E s g)) O Xr s0 g0 h1 hr round (λg=>kr R g h2)
class Pg (P:Program):Prop where
 h:P=Tryz.prog
class bx (P:Program)(f:Nat)(h:Prop)(args:outParam (List AV))(y:outParam AV):Prop where
 ret:h->gk P f args y
theorem rt {f:Nat}{h:Prop}{args:List AV}{y:AV} [c:bx P f h args y](x:h):gk P f args y:=c.ret x
theorem aJ {h:Prop}(x:h){f:FuncId}{args args':List AV}{y:AV}{K:AV->List AO->Prop}{ob:List AO} [c:bx P f h args' y](hk:K y ob)(ha:gj 0 [] [] args args':=by exact al)(hp:eA args'=true:=by rfl):aV P f args ob K:=(c.ret x).call ha hp hk
theorem al2 {p:Prop}(h:p:=by
 repeat' (first
  |exact gD.nil|refine gD.own (.AN rfl rfl rfl rfl) ?_|refine gD.pure rfl ?_ ?_
  |exact RV.int rfl|exact RV.bool rfl|exact RV.pure rfl|exact RV.c .refl|exact RV.str rfl|exact al)):p:=h
theorem jQ {h:Prop}(x:h){f:FuncId}{args args':List AV}{y:AV}{K:AV->List AO->Prop}{ob:List AO} [c:bx P f h args' y](hk:K y ob)(ha:gD ob args args':=by exact al2)(hf:oG y=true:=by rfl):aV P f args ob K:=(c.ret x).Hs ha hf hk
theorem agr {ps:List Nat}{o o':List AO}(h:aZ ps o o':=by repeat' (first|exact aZ.nil|refine aZ.cons rfl ?_)):aZ ps o o':=h
theorem Yg (bw:cg P td){t e:Nat}{d ed:TD}(hd:td t=some d)(hsh:d.sh=.slice e)(ir:td e=some ed){α:Type}{ts:α->List T}{l:List α}{x:α}{ob:List AO}{o k:Nat}{i len cap:Th Nat}{es:Th (List (List AV))}{sz:Th Nat}{o2:Nat}{row:List AV}{Lx AL:Th Nat}{K:AV->List AO->Prop}
  (hlen:(l++[x]).length*ed.bytes<=140737488355328) (hz:ed.zero≠[]) (hby:1<=ed.bytes) (hn:nth ob o=some (.arr k es sz)) (hk:k=ed.size) (pQ:k≠0) (hi:i.den=0) (hl:len.den=l.length) (hsz:sz.den=cap.den*k) (he:es.den=ay ts l) (hw:∀x,(ts x).length=k)
  (hn2:nth ob o2=some (.arr k (.lit [row]) Lx)) (hrow:row.length=k) (hx:gj 0 [] [] row ((ts x).map AV.c)) (hK:∀c:Nat,(l++[x]).length<=c->K (.sl (bS ob) k (.lit 0) (.th λ_=>(l++[x]).length) (.th λ_=>c)) (e_ (eM ob o .dead) [aL ts k (l++[x]) c])):fe P td t t (.sl o k i len cap) (.sl o2 k (.lit 0) (.lit 1) AL) ob K:=
 LK bw hd hsh ir hz hby l x hn hk pQ hi hl hsz he hw hn2 hrow hx hlen hK
theorem bL0 (bw:cg P td){t e:Nat}{d ed:TD}(hd:td t=some d)(hsh:d.sh=.slice e)(ir:td e=some ed){α:Type}{ts:α->List T}{l m:List α}{ob:List AO}{o k:Nat}{i len cap:Th Nat}{es:Th (List (List AV))}{sz:Th Nat}{K:AV->List AO->Prop}
  (hlen:(l++m).length*ed.bytes<=140737488355328) (hz:ed.zero≠[]) (hby:1<=ed.bytes) (hn:nth ob o=some (.arr k es sz)) (hk:k=ed.size) (pQ:k≠0) (hi:i.den=0) (hl:len.den=l.length) (hsz:sz.den=cap.den*k) (he:es.den=ay ts l) (hw:∀x,(ts x).length=k)
  (hK:∀c:Nat,(l++m).length<=c->K (.sl (bS ob) k (.lit 0) (.th λ_=>(l++m).length) (.th λ_=>c)) (e_ (eM ob o .dead) [aL ts k (l++m) c])):fe P td t t (.sl o k i len cap) (aq ts k m) ob K:=
 nk bw hd hsh ir hz hby l m hn hk pQ hi hl hsz he hw hlen hK
theorem _root_.Go.bA.aM.j {β:Type}{c:Bool}{X Y:Option β}{r:Option β}{f:Unit->Bool}{A B:Unit->Prop}(hR:(if c=true then X else Y)=r)(h1:c=true->X=r->A ())(h2:c=false->Y=r->B ())(h:f ()=c):aM f A B:=.i hR h1 h2 h
theorem NY {h:Prop}(x:h){f:FuncId}{args args':List AV}{y:AV}{K:AV->List AO->Prop}{ob:List AO} [c:bx P f h args' y](hp:eA args'=true)(_:eA args=true)(ha:gj 0 [] [] args args')(hk:K y ob):aV P f args ob K:=(c.ret x).call ha hp hk
theorem NZ {h:Prop}(x:h){f:FuncId}{args args':List AV}{y:AV}{K:AV->List AO->Prop}{ob:List AO} [c:bx P f h args' y](hf:oG y=true)(ha:gD ob args args')(hk:K y ob):aV P f args ob K:=(c.ret x).Hs ha hf hk
theorem _root_.Go.bA.RV.id {base:Nat}{π:List Nat}{o:List AO}{x y:AV}(h:RV base π o x y):RV base π o x y:=h
theorem WM {β:Type}{c:Bool}{X Y:Option β}{r:Option β}{G:Prop}(hR:(if c=true then X else Y)=r)(h1:c=true->X=r->G)(h2:c=false->Y=r->G):G:=by
 cases c
 ·exact h2 rfl (by simpa using hR)
 ·exact h1 rfl (by simpa using hR)
theorem go {p:Prop}(h:p:=by
 repeat' (first
  |(refine RV.id ?_;cases hR;(repeat' (first|refine gj.cons ?_ ?_|exact RV.int rfl|exact RV.c .refl|refine wM.cons rfl ?_ ?_|exact RV.pure rfl|exact gj.nil|refine kS.cons rfl ?_ ?_|exact FM rfl|refine RO.aN ?_|exact t_ rfl rfl rfl rfl|exact RO.aD rfl rfl|exact RV.bool rfl|exact wM.nil|exact kS.nil|refine RV.eJ ?_|refine RV.cA ?_|exact RV.vS|exact RV.str rfl|exact RV.aD rfl rfl rfl rfl rfl|exact RV.int (FL (by assumption) (by assumption) (by assumption))|exact gD.nil|refine gD.own (.AN rfl rfl rfl rfl) ?_|refine gD.pure rfl ?_ ?_|refine kS.kill (y:=.dead) rfl trivial ?_|refine kS.kill rfl ⟨rfl,rfl⟩ ?_|exact RV.int ((aW _ _ _).trans (Eq.symm (by assumption)))|exact RO.aL|refine RV.ki ?_ ?_|exact RO.dead|exact FN rfl rfl rfl rfl|exact OE rfl|exact RV.int (Eq.symm (by assumption))|exact t_ rfl rfl (bT rfl) rfl|exact t_ rfl rfl ((bW _ _ _).symm) rfl|refine RO.jx ?_ rfl|exact RO.jq rfl|exact RV.aD rfl rfl rfl rfl (by assumption)|exact t_ rfl rfl (by assumption) rfl|exact RO.z_|exact RO.ov rfl|exact RO.aD (bL _ rfl (Nat.zero_add _) rfl) rfl|exact RV.aD rfl rfl rfl rfl ((bW _ _ _).symm)|exact RV.aD rfl (bL _ rfl (Nat.zero_add _) rfl) rfl rfl (bT rfl)));done)
  |(refine aS.z ?_;cbv)
  |(apply aS.is;focus (intro J hJ;cbv;repeat(first|exact hJ|(refine bg.mk (by assumption) ?_;cbv)|(refine aM.t (by assumption) ?_;cbv)|(refine aM.f (by assumption) ?_;cbv)|(refine aM.t (JJ (by assumption)) ?_;cbv)|(refine aM.f (JI (by assumption)) ?_;cbv)|(refine aM.t (Cu (by assumption)) ?_;cbv)|(refine aM.f (Ex (by assumption)) ?_;cbv)|(refine aM.t (NS (by assumption)) ?_;cbv)|(refine aM.f (NR (by assumption)) ?_;cbv)|(refine bF.mk _ (ec _) (cj rfl (bn (by assumption)) (eT _)) ?_;cbv)|(refine bF.mk _ (by assumption) (aY _ _ _ _ (by assumption)) ?_;cbv)));cbv)
  |((with_reducible refine aM.t (by assumption) ?_);cbv)|((with_reducible refine aM.f (by assumption) ?_);cbv)
  |((with_reducible refine aM.t (Cu (by assumption)) ?_);cbv)|((with_reducible refine aM.f (Ex (by assumption)) ?_);cbv)|((with_reducible refine aM.t (JJ (by assumption)) ?_);cbv)|((with_reducible refine aM.f (JI (by assumption)) ?_);cbv)|((with_reducible refine aM.t (NS (by assumption)) ?_);cbv)|((with_reducible refine aM.f (NR (by assumption)) ?_);cbv)
  |(refine aM.j hR ?_ ?_ (by with_reducible rfl)<;>clear hR<;>intro c hR<;>cbv)
  |(refine aM.j hR ?_ ?_ rfl<;>clear hR<;>intro c hR<;>cbv)
  |(replace hR:=az hR;obtain⟨x,hx,hR⟩:=hR;first|((first|refine NY hx rfl rfl ?_ ?_|refine NZ hx rfl ?_ ?_);(focus ((repeat' (first|refine gj.cons ?_ ?_|exact RV.int rfl|exact RV.c .refl|refine wM.cons rfl ?_ ?_|exact RV.pure rfl|exact gj.nil|refine kS.cons rfl ?_ ?_|exact FM rfl|refine RO.aN ?_|exact t_ rfl rfl rfl rfl|exact RO.aD rfl rfl|exact RV.bool rfl|exact wM.nil|exact kS.nil|refine RV.eJ ?_|refine RV.cA ?_|exact RV.vS|exact RV.str rfl|exact RV.aD rfl rfl rfl rfl rfl|exact RV.int (FL (by assumption) (by assumption) (by assumption))|exact gD.nil|refine gD.own (.AN rfl rfl rfl rfl) ?_|refine gD.pure rfl ?_ ?_|refine kS.kill (y:=.dead) rfl trivial ?_|refine kS.kill rfl ⟨rfl,rfl⟩ ?_|exact RV.int ((aW _ _ _).trans (Eq.symm (by assumption)))|exact RO.aL|refine RV.ki ?_ ?_|exact RO.dead|exact FN rfl rfl rfl rfl|exact OE rfl|exact RV.int (Eq.symm (by assumption))|exact t_ rfl rfl (bT rfl) rfl|exact t_ rfl rfl ((bW _ _ _).symm) rfl|refine RO.jx ?_ rfl|exact RO.jq rfl|exact RV.aD rfl rfl rfl rfl (by assumption)|exact t_ rfl rfl (by assumption) rfl|exact RO.z_|exact RO.ov rfl|exact RO.aD (bL _ rfl (Nat.zero_add _) rfl) rfl|exact RV.aD rfl rfl rfl rfl ((bW _ _ _).symm)|exact RV.aD rfl (bL _ rfl (Nat.zero_add _) rfl) rfl rfl (bT rfl)));done));cbv)|(refine bF.mk _ (ec _) (cj rfl (bn hx) (eT _)) ?_;cbv)|(refine bF.mk _ (iC hx) (aY _ _ _ _ (bn hx)) ?_;cbv))
  |(refine bZ.mk ?_ ?_;exact agr;cbv)
  |(refine aM.t (by assumption) ?_;cbv)|(refine aM.f (by assumption) ?_;cbv)
  |(replace hR:=bl hR;obtain⟨m,hR⟩:=hR;first|(refine bg.mk m ?_;cbv)|(refine Yg (ty hP) rfl rfl rfl (of_decide_eq_true m) (by simp) (by decide) rfl rfl (by decide) rfl rfl rfl rfl (λ_=>rfl) rfl rfl ?_ (λk hk=> ?_);(focus ((repeat' (first|refine gj.cons ?_ ?_|exact RV.int rfl|exact RV.c .refl|refine wM.cons rfl ?_ ?_|exact RV.pure rfl|exact gj.nil|refine kS.cons rfl ?_ ?_|exact FM rfl|refine RO.aN ?_|exact t_ rfl rfl rfl rfl|exact RO.aD rfl rfl|exact RV.bool rfl|exact wM.nil|exact kS.nil|refine RV.eJ ?_|refine RV.cA ?_|exact RV.vS|exact RV.str rfl|exact RV.aD rfl rfl rfl rfl rfl|exact RV.int (FL (by assumption) (by assumption) (by assumption))|exact gD.nil|refine gD.own (.AN rfl rfl rfl rfl) ?_|refine gD.pure rfl ?_ ?_|refine kS.kill (y:=.dead) rfl trivial ?_|refine kS.kill rfl ⟨rfl,rfl⟩ ?_|exact RV.int ((aW _ _ _).trans (Eq.symm (by assumption)))|exact RO.aL|refine RV.ki ?_ ?_|exact RO.dead|exact FN rfl rfl rfl rfl|exact OE rfl|exact RV.int (Eq.symm (by assumption))|exact t_ rfl rfl (bT rfl) rfl|exact t_ rfl rfl ((bW _ _ _).symm) rfl|refine RO.jx ?_ rfl|exact RO.jq rfl|exact RV.aD rfl rfl rfl rfl (by assumption)|exact t_ rfl rfl (by assumption) rfl|exact RO.z_|exact RO.ov rfl|exact RO.aD (bL _ rfl (Nat.zero_add _) rfl) rfl|exact RV.aD rfl rfl rfl rfl ((bW _ _ _).symm)|exact RV.aD rfl (bL _ rfl (Nat.zero_add _) rfl) rfl rfl (bT rfl)));done));cbv)|(refine bL0 (ty hP) rfl rfl rfl (of_decide_eq_true m) (by simp) (by decide) rfl rfl (by decide) rfl rfl rfl rfl (λ_=>rfl) (λk hk=> ?_);cbv))
  |(refine bF.mk _ (by assumption) (aY _ _ _ _ (by assumption)) ?_;cbv)
  |(refine aR.cS (ty hP) (mo hP) rfl ?_;cbv)
  |(refine EE.mk ?_ ?_<;>cbv)
  |(refine aM.t (decide_eq_true (by assumption)) ?_;cbv)|(refine aM.f (decide_eq_false (Int.lt_irrefl _)) ?_;cbv)
  |(refine aM.t (Cu (by assumption)) ?_;cbv)|(refine aM.f (Ex (by assumption)) ?_;cbv)|(refine aM.t (JJ (by assumption)) ?_;cbv)|(refine aM.f (JI (by assumption)) ?_;cbv)|(refine aM.t (NS (by assumption)) ?_;cbv)|(refine aM.f (NR (by assumption)) ?_;cbv)
  |((cases hR;first|(refine hJ _ () _ _ rfl (KM (by cbv) rfl rfl rfl ?_ ?_))|(refine hB _ () _ _ _ rfl rfl (KM (by cbv) rfl rfl rfl ?_ ?_))|(refine hJ _ ⟨_,by assumption⟩ _ _ rfl (KM (by cbv) rfl rfl rfl ?_ ?_))|(refine hJ _ (by assumption) _ _ rfl (KM (by cbv) rfl rfl rfl ?_ ?_))|refine RV.id ?_)<;>(repeat' (first|refine gj.cons ?_ ?_|exact RV.int rfl|exact RV.c .refl|refine wM.cons rfl ?_ ?_|exact RV.pure rfl|exact gj.nil|refine kS.cons rfl ?_ ?_|exact FM rfl|refine RO.aN ?_|exact t_ rfl rfl rfl rfl|exact RO.aD rfl rfl|exact RV.bool rfl|exact wM.nil|exact kS.nil|refine RV.eJ ?_|refine RV.cA ?_|exact RV.vS|exact RV.str rfl|exact RV.aD rfl rfl rfl rfl rfl|exact RV.int (FL (by assumption) (by assumption) (by assumption))|exact gD.nil|refine gD.own (.AN rfl rfl rfl rfl) ?_|refine gD.pure rfl ?_ ?_|refine kS.kill (y:=.dead) rfl trivial ?_|refine kS.kill rfl ⟨rfl,rfl⟩ ?_|exact RV.int ((aW _ _ _).trans (Eq.symm (by assumption)))|exact RO.aL|refine RV.ki ?_ ?_|exact RO.dead|exact FN rfl rfl rfl rfl|exact OE rfl|exact RV.int (Eq.symm (by assumption))|exact t_ rfl rfl (bT rfl) rfl|exact t_ rfl rfl ((bW _ _ _).symm) rfl|refine RO.jx ?_ rfl|exact RO.jq rfl|exact RV.aD rfl rfl rfl rfl (by assumption)|exact t_ rfl rfl (by assumption) rfl|exact RO.z_|exact RO.ov rfl|exact RO.aD (bL _ rfl (Nat.zero_add _) rfl) rfl|exact RV.aD rfl rfl rfl rfl ((bW _ _ _).symm)|exact RV.aD rfl (bL _ rfl (Nat.zero_add _) rfl) rfl rfl (bT rfl)))<;>done)
  |(refine bg.mk (Dj (by assumption) (by assumption) (by assumption)) ?_;cbv)
  |(refine Yg (ty hP) rfl rfl rfl (of_decide_eq_true (by assumption)) (by simp) (by decide) rfl rfl (by decide) rfl rfl rfl rfl (λ_=>rfl) rfl rfl ?_ (λk hk=> ?_);focus ((repeat' (first|refine gj.cons ?_ ?_|exact RV.int rfl|exact RV.c .refl|refine wM.cons rfl ?_ ?_|exact RV.pure rfl|exact gj.nil|refine kS.cons rfl ?_ ?_|exact FM rfl|refine RO.aN ?_|exact t_ rfl rfl rfl rfl|exact RO.aD rfl rfl|exact RV.bool rfl|exact wM.nil|exact kS.nil|refine RV.eJ ?_|refine RV.cA ?_|exact RV.vS|exact RV.str rfl|exact RV.aD rfl rfl rfl rfl rfl|exact RV.int (FL (by assumption) (by assumption) (by assumption))|exact gD.nil|refine gD.own (.AN rfl rfl rfl rfl) ?_|refine gD.pure rfl ?_ ?_|refine kS.kill (y:=.dead) rfl trivial ?_|refine kS.kill rfl ⟨rfl,rfl⟩ ?_|exact RV.int ((aW _ _ _).trans (Eq.symm (by assumption)))|exact RO.aL|refine RV.ki ?_ ?_|exact RO.dead|exact FN rfl rfl rfl rfl|exact OE rfl|exact RV.int (Eq.symm (by assumption))|exact t_ rfl rfl (bT rfl) rfl|exact t_ rfl rfl ((bW _ _ _).symm) rfl|refine RO.jx ?_ rfl|exact RO.jq rfl|exact RV.aD rfl rfl rfl rfl (by assumption)|exact t_ rfl rfl (by assumption) rfl|exact RO.z_|exact RO.ov rfl|exact RO.aD (bL _ rfl (Nat.zero_add _) rfl) rfl|exact RV.aD rfl rfl rfl rfl ((bW _ _ _).symm)|exact RV.aD rfl (bL _ rfl (Nat.zero_add _) rfl) rfl rfl (bT rfl)));done);cbv)
  |(refine bg.mk (by assumption) ?_;cbv)
  |(refine WM hR ?_ ?_<;>clear hR<;>intro c hR)
  |(replace hR:=bl hR;obtain⟨m,hR⟩:=hR)
  |(intro N hN i s g x y h0 hi hm hx hR J B hJ hB;cbv)|(intro s g y hR J B hJ hB;cbv)|(intro N hN s g hR;dsimp only at hR;cbv)|exactλr_=>Empty.elim r_|(intro r g hR;(try dsimp only at hR);cbv))):p:=h
end Go.Proofs.aaa
end
section
namespace Go.Proofs.aaa
open Go.bA Go.IntWalk
variable{P:Program} [Pg P]
instance(l r:List Cell):bx P 73 (hcl l=some r) [aq Cell.ts 6 l] (aq Cell.ts 6 r):=⟨KD Pg.h l r⟩
instance(l r:List aQ):bx P 74 (hcl l=some r) [aq aQ.ts 4 l] (aq aQ.ts 4 r):=⟨KE Pg.h l r⟩
instance(l r:List au):bx P 75 (hcl l=some r) [aq au.ts 4 l] (aq au.ts 4 r):=⟨KF Pg.h l r⟩
instance(l r:List ah):bx P 76 (hcl l=some r) [aq ah.ts 2 l] (aq ah.ts 2 r):=⟨KG Pg.h l r⟩
instance(l r:List aU):bx P 80 (hcl l=some r) [aq aU.ts 4 l] (aq aU.ts 4 r):=⟨KH Pg.h l r⟩
instance(l:List Order)(n:Int)(r:Int×Bool):bx P 147 (Gu Order.id l n=some r) [aq Order.ts 4 l,AI .i64 (.th λ_=>n),.fn (.func 148) [] []] (.cI [AI .i64 (.th λ_=>r.1),AB (.th λ_=>r.2)]):=⟨IB Pg.h l n r⟩
instance(l:List aQ)(n:Int)(r:Int×Bool):bx P 228 (Gu aQ.order l n=some r) [aq aQ.ts 4 l,AI .i64 (.th λ_=>n),.fn (.func 229) [] []] (.cI [AI .i64 (.th λ_=>r.1),AB (.th λ_=>r.2)]):=⟨IC Pg.h l n r⟩
instance(s:aC)(r:Int×Bool×Int):bx P 50 (hnext s=some r) [s.av] (.cI [AI .u8 (.th λ_=>r.1),AB (.th λ_=>r.2.1),AI .i64 (.th λ_=>r.2.2)]):=⟨KI Pg.h s r⟩
instance(s:aC)(r:Int×Bool×Int):bx P 55 (hnext s=some r) [s.av] (.cI [AI .u8 (.th λ_=>r.1),AB (.th λ_=>r.2.1),AI .i64 (.th λ_=>r.2.2)]):=⟨ac3 Pg.h s r⟩
instance(s:aC)(d:Bool)(r:aC×Int):bx P 53 (Cv s d=some r) [s.av,AB (.th λ_=>d)] (.cI [r.1.av,AI .i64 (.th λ_=>r.2)]):=⟨KJ Pg.h s d r⟩
instance(s:aC)(d:Bool)(r:aC×Int):bx P 58 (Cv s d=some r) [s.av,AB (.th λ_=>d)] (.cI [r.1.av,AI .i64 (.th λ_=>r.2)]):=⟨ac4 Pg.h s d r⟩
instance(s:aC)(r:Int×Int):bx P 60 (hleft s=some r) [s.av] (.cI [AI .i64 (.th λ_=>r.1),AI .i64 (.th λ_=>r.2)]):=⟨KK Pg.h s r⟩
instance(s:aC)(r:Int×Int):bx P 61 (hleft s=some r) [s.av] (.cI [AI .i64 (.th λ_=>r.1),AI .i64 (.th λ_=>r.2)]):=⟨ac5 Pg.h s r⟩
instance(s:Int)(r:Bool):bx P 51 (hasks s=some r) [AI .u8 (.th λ_=>s)] (AB (.th λ_=>r)):=⟨KL Pg.h s r⟩
instance(s:Int)(r:Bool):bx P 56 (hasks s=some r) [AI .u8 (.th λ_=>s)] (AB (.th λ_=>r)):=⟨ac6 Pg.h s r⟩
instance(l:List aU)(r:Int×Int):bx P 167 (q9 l=some r) [aq aU.ts 4 l] (.cI [AI .i64 (.th λ_=>r.1),AI .i64 (.th λ_=>r.2)]):=⟨ID Pg.h l r⟩
instance(l:List aU)(r:Int×Int):bx P 128 (q9 l=some r) [aq aU.ts 4 l] (.cI [AI .i64 (.th λ_=>r.1),AI .i64 (.th λ_=>r.2)]):=⟨acp Pg.h l r⟩
instance(l:List ah)(n m v:Int)(r:List ah×Int):bx P 187 (jA l n m v=some r) [aq ah.ts 2 l,AI .i64 (.th λ_=>n),AI .u8 (.th λ_=>m),AI .u8 (.th λ_=>v)] (.cI [aq ah.ts 2 r.1,AI .i64 (.th λ_=>r.2)]):=⟨IE Pg.h l n m v r⟩
instance(a b:ByteArray)(r:Int):bx P 141 (pW a b=some r) [AS (.th λ_=>a),AS (.th λ_=>b)] (AI .i64 (.th λ_=>r)):=⟨IF Pg.h a b r⟩
end Go.Proofs.aaa
end
section
namespace Go.bA
variable [Gl]{P:Program}{δ:Nat->Option TD}{ops:Array Oper}
theorem aR.cut {γ:Type}{m id n:Nat}{env:List AV}{ob:List AO}{Q:List AV->List AO->Prop}(E:γ->List (Nat×AV))(O:γ->List AO)(h:∀B:List AV->List AO->Prop,(∀g e o,dj m e o (bA.sp n (E g)) (O g)->B e o)->aR P δ m id ops env ob B)
  (hk:∀g,Q (bA.sp n (E g)) (O g)):aR P δ m id ops env ob Q:=by
 refine⟨λw F μ a hm hf hs=>Code.wp_mono (λx a' w' hx=> ?_) ((h (λe o=>∃g,dj m e o (bA.sp n (E g)) (O g)) (λg e o hr=>⟨g,hr⟩)).run w F μ a hm hf hs)⟩
 cases x with
 |normal=>
  obtain⟨e,o,bu,⟨g,g1⟩,g2,g3,g4,g5⟩:=hx;obtain⟨ru,r1,r2,r3⟩:=g1.run w' F bu a'.tmps g4.len g2 g3;exact⟨_,_,ru,hk g,r1,r2,g4.trans r3,g5⟩
 |exit i=>
  obtain⟨e,o,bu,g1,_⟩:=hx;exact g1.elim
 |ret=>
  obtain⟨e,o,bu,g1,_⟩:=hx;exact g1.elim
 |_=>exact hx
end Go.bA
namespace Go.Proofs.aaa
open Go.bA Go.IntWalk
theorem bE0 {P:Program}(bw:cg P td){t e:Nat}{d ed:TD}(hd:td t=some d)(hsh:d.sh=.slice e)(ir:td e=some ed){α:Type}{ts:α->List T}{m:List α}{ob:List AO}{o k:Nat}{i len cap:Th Nat}{es:Th (List (List AV))}{sz:Th Nat}{K:AV->List AO->Prop}
  (hlen:(([]:List α)++m).length*ed.bytes<=140737488355328) (hz:ed.zero≠[]) (hby:1<=ed.bytes) (hn:nth ob o=some (.arr k es sz)) (hk:k=ed.size) (pQ:k≠0) (hi:i.den=0) (hl:len.den=0) (hsz:sz.den=cap.den*k) (he:es.den=[]) (hw:∀x,(ts x).length=k)
  (hK:∀c:Nat,(([]:List α)++m).length<=c->K (.sl (bS ob) k (.lit 0) (.th λ_=>(([]:List α)++m).length) (.th λ_=>c)) (e_ (eM ob o .dead) [aL ts k (([]:List α)++m) c])):fe P td t t (.sl o k i len cap) (aq ts k m) ob K:=
 bL0 bw hd hsh ir (l:=[]) hlen hz hby hn hk pQ hi hl hsz he hw hK
theorem ord {p:Prop}(h:p:=by
  refine aR.cS (ty hP) (mo hP) rfl ?_;cbv
  repeat' (first
    |(refine aS.z ?_;cbv)
    |(refine bZ.mk ?_ ?_;exact agr;cbv)
    |(refine EE.mk ?_ ?_<;>cbv)
    |(refine hB ⟨_,by assumption⟩ _ _ ?_;exact aaP)
    |(refine hB ⟨⟨_,by assumption⟩,⟨_,by assumption⟩⟩ _ _ ?_;exact aaP)
    |(refine hB () _ _ ?_;exact aaP)
    | (show fe _ _ _ _ _ (.sl _ _ _ _ _) _ _
       refine Yg (ty hP) rfl rfl rfl (of_decide_eq_true (by assumption)) (by simp) (by decide) rfl rfl (by decide) rfl rfl rfl rfl (λ_=>rfl) rfl rfl ?_ (λk hk=> ?_);exact al;cbv)
    | (show fe _ _ _ _ _ _ _ _
       refine bE0 (ty hP) rfl rfl rfl (of_decide_eq_true (by assumption)) (by simp) (by decide) rfl rfl (by decide) rfl rfl rfl rfl (λ_=>rfl) (λk hk=> ?_);cbv))):p:=h
end Go.Proofs.aaa
end
