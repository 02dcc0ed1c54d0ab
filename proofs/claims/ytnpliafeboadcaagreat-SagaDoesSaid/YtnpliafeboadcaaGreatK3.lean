/- Texts that the law leans on, part 3. No conditions. -/
import Derived.Test.YtnpliafeboadcaaGreatK2
import Derived.Deep.Quiet
import Derived.Handed
import Derived.LaidLaws
import Derived.Stop.Joined
import Derived.Lib.AppendZerosOnto
import Derived.Lib.Overlaps
section
namespace Go.bA
variable [Gl]
structure aS (P:Program)(δ:Nat->Option TD)(op:Op)(env:List AV)(ob:List AO)(K:AV->Prop):Prop where
 mk::
 out:∃x x',(∀J:AV->List AO->Prop,J x ob->zO P δ op env ob J)/\(∀w F μ v,VR w F μ x v->VR w F μ x' v)/\K x'
theorem aS.is {P:Program}{δ:Nat->Option TD}{op:Op}{env:List AV}{ob:List AO}{K:AV->Prop}(x:AV)(h:∀J:AV->List AO->Prop,J x ob->zO P δ op env ob J)(k:K x):aS P δ op env ob K:=⟨x,x,h,λ_ _ _ _ h=>h,k⟩
def cB:List Nat->Nat->Bool
 |[],_=>false
 |a::l,n=>match a==n with|true=>true|false=>cB l n
def tmpsOf:List Operand->List Nat
 |[]=>[]
 | .tmp t::l=>t::tmpsOf l
 |_::l=>tmpsOf l
def looks (all:List Oper)(o:Oper):List Nat:=match o.guard with
 |none=>tmpsOf o.op.operands.toList
 |some (g,_)=>match nth all g with
  |some p=>match p.dst with|some d=>d::tmpsOf o.op.operands.toList|none=>tmpsOf o.op.operands.toList
  |none=>tmpsOf o.op.operands.toList
def fC (ls:List Nat):Nat->List AV->List AV
 |_,[]=>[]
 |i,x::l=>(match cB ls i with|true=>x|false=>.bB)::fC ls (i+1) l
def guards (all:List Oper)(d:Nat):List Oper->Bool
 |[]=>false
 |o::l=>match o.guard with
  |some (g,_)=>match nth all g with
   |some p=>match p.dst with
    |some e=>match e==d with|true=>true|false=>guards all d l
    |none=>guards all d l
   |none=>guards all d l
  |none=>guards all d l
def Aj:GV->Option Bool
 | .go=>some true
 | .skip=>some false
 | .by _ (.lit c) want=>some (c==want)
 |_=>none
def dq (P:Program)(δ:Nat->Option TD)(ob:List AO)(all:List Oper):List Oper->List AV->(List AV->Prop)->Prop
 |[],env,K=>K env
 |o::rest,env,K=>match Aj (ji all (fC (looks all o) 0 env) o.guard)with
  |some true=>aS P δ o.op (fC (looks all o) 0 env) ob λx=>match x,o.dst with
   | .c (.bool (.th f)),some d=>match guards all d all with
    |true=>D6 (.th f) (λ_=>dq P δ ob all rest (fO env (some d) (AB (.lit true))) K) (λ_=>dq P δ ob all rest (fO env (some d) (AB (.lit false))) K)
    |false=>dq P δ ob all rest (fO env (some d) x) K
   |x,d=>dq P δ ob all rest (fO env d x) K
  |some false=>dq P δ ob all rest (fO env o.dst dP) K
  |none=>False
def l_ (ops:List Oper):Bool:=
 (List.range ops.length).all λi=>match ops[i]? with
  |none=>true
  |some oi=>oi.after.toList.all (λe=> !Region.binds .any e||decide (e.on<i))&&
   (List.range ops.length).all λj=>j==i||match ops[j]? with
    |none=>true
    |some oj=>match oj.dst with
     |none=>true
     |some t=>oi.dst !=some t&&(!cB (looks ops oi) t||oi.after.toList.any (λe=>Region.binds .any e&&e.on==j)||oj.after.toList.any (λe=>Region.binds .any e&&e.on==i))
omit [Gl]in
theorem rA (ls:List Nat):∀(env:List AV)(i k:Nat),(fC ls k env)[i]?=(env[i]?).map λx=>match cB ls (k+i)with|true=>x|false=>.bB
 |[],i,k=>by simp[fC]
 |x::l,0,k=>by simp[fC]
 |x::l,i+1,k=>by
  simp only[fC,List.getElem?_cons_succ];rw[rA ls l i (k+1),show k+1+i=k+(i+1) by omega]
omit [Gl]in
theorem rB (ls:List Nat):∀(env:List AV)(k:Nat),(fC ls k env).length=env.length
 |[],k=>rfl
 |x::l,k=>by simp[fC,rB ls l (k+1)]
def br (ob:List AO):Prop:=∀x∈ob,gone x->x=.dead
omit [Gl]in
theorem br.nil:br []:=λx h=>by cases h
omit [Gl]in
theorem br.box {cs:List AV}{ob:List AO}(h:br ob):br (.box cs::ob):=λx hx g=>by
 rcases List.mem_cons.1 hx with rfl|hx
 ·exact g.elim
 ·exact h x hx g
omit [Gl]in
theorem br.jq {kk:IntKind}{ag:Bool}{es:Th (List (Int×List T))}{ob:List AO}(h:br ob):br (.jq kk ag es::ob):=λx hx g=>by
 rcases List.mem_cons.1 hx with rfl|hx
 ·exact g.elim
 ·exact h x hx g
theorem Jq {w w':World}{F:Nat->Prop}{μ bu:Mu}{ob:List AO}(GW:br ob)(h:St w F μ ob)(h':St w' F bu ob)(hx:Ext w μ w' bu):bu=μ:=by
 refine List.ext_getElem? λo=> ?_;rcases Nat.lt_or_ge o μ.length with hl|hl
 ·cases ho:μ[o]? with
  |none=>rw[List.getElem?_eq_none_iff]at ho;omega
  |some x=>
   cases x with
   |none=>rw[hx.dead o ho]
   |some b=>
    rcases hx.keep o b ho with h1|h1
    ·rw[h1]
    ·obtain⟨x,g1,g2⟩:=h.live o b ho;obtain⟨y,k1,k2⟩:=h'.dead o h1;rw[k1]at g1;cases g1;rw[GW _ (List.mem_of_getElem? k1) k2]at g2;cases g2
 ·have:bu.length=μ.length:=by rw[h.len,h'.len]
  rw[List.getElem?_eq_none (by omega),List.getElem?_eq_none hl]
section
variable{P:Program}{δ:Nat->Option TD}{ops:Array Oper}{F:Nat->Prop}{μ:Mu}{ob:List AO}
def jz (P:Program)(ops:Array Oper)(F:Nat->Prop)(μ:Mu)(ob:List AO)(o:Oper)(x:AV)(env:List AV):Prop:=
 ∀(w:World)(a:Act),St w F μ ob->FR w F μ (fC (looks ops.toList o) 0 env) a.tmps->
  (Region.wanted o (yielded ops a.tmps)=true/\∀next Q',(∀v w',VR w' F μ x v->St w' F μ ob->Ext w μ w' μ->next (a.put o.dst v) w')->o.wp P a w next Q')\/
  (Region.wanted o (yielded ops a.tmps)=false/\x=dP)
inductive xy (P:Program)(ops:Array Oper)(F:Nat->Prop)(μ:Mu)(ob:List AO):List Oper->List AV->List AV->List AV->Prop
 |nil {env:List AV}:xy P ops F μ ob [] env [] env
 |cons {o:Oper} {rest:List Oper} {env:List AV} {x:AV} {xs fin:List AV}:jz P ops F μ ob o x env->xy P ops F μ ob rest (fO env o.dst x) xs fin->xy P ops F μ ob (o::rest) env (x::xs) fin
omit [Gl]in
theorem iK {w:World}{env:List AV}{a:Act}{o:Oper}{c:Bool}(hf:FR w F μ env a.tmps)(hg:Aj (ji ops.toList env o.guard)=some c):Region.wanted o (yielded ops a.tmps)=c:=by
 have hw:=qd (ops:=ops) hf o;unfold Aj at hg;split at hg
 ·rename_i h;rw[h]at hw;cases hg;exact hw
 ·rename_i h;rw[h]at hw;cases hg;exact hw
 ·rename_i d c' want h;rw[h]at hw;cases hg;exact hw.1
 ·cases hg
theorem EI (GW:br ob)(bw:cg P δ){o:Oper}{env:List AV}{x0 x:AV}(hg:Aj (ji ops.toList (fC (looks ops.toList o) 0 env) o.guard)=some true)(h:∀J:AV->List AO->Prop,J x0 ob->zO P δ o.op (fC (looks ops.toList o) 0 env) ob J)(hx:∀w F μ v,VR w F μ x0 v->VR w F μ x v):jz P ops F μ ob o x env:=by
 intro w a hs hf;refine .inl ⟨iK hf hg,λnext Q' hn=> ?_⟩;refine rq bw hf hs (h (λx' o'=>x'=x0/\o'=ob) ⟨rfl,rfl⟩) λv x' w' bu cc h1 h2 h3 h4=> ?_;obtain⟨rfl,rfl⟩:=h4;have:=Jq GW hs h2 h3;subst this;exact hn v w' (hx _ _ _ _ h1) h2 h3
theorem jz.lit {o:Oper}{env:List AV}{b:Th Bool}{c:Bool}(h:jz P ops F μ ob o (AB b) env)(hb:b.den=c):jz P ops F μ ob o (AB (.lit c)) env:=by
 intro w a hs hf;rcases h w a hs hf with⟨h1,h2⟩|⟨h1,h2⟩
 ·refine .inl ⟨h1,λnext Q' hn=>h2 next Q' λv w' g1 g2 g3=>hn v w' ?_ g2 g3⟩
  cases g1 with
  |c g1=>cases g1;rw[hb];exact VR.b (.lit c)
 ·cases h2
theorem uO (GW:br ob)(bw:cg P δ):∀(rest:List Oper)(env:List AV)(K:List AV->Prop),dq P δ ob ops.toList rest env K->∃xs fin,xy P ops F μ ob rest env xs fin/\K fin
 |[],env,K,h=>⟨[],env,.nil,h⟩
 |o::rest,env,K,h=>by
  simp only[dq]at h;split at h
  ·rename_i hg;obtain⟨x0,x,h1,hx,h2⟩:=h.out;have hy:jz P ops F μ ob o x env:=EI GW bw hg h1 hx;have next:∀y,jz P ops F μ ob o y env->dq P δ ob ops.toList rest (fO env o.dst y) K->∃xs fin,xy P ops F μ ob (o::rest) env xs fin/\K fin:=by
    intro y hy h;obtain⟨xs,fin,g1,g2⟩:=uO GW bw rest _ K h;exact⟨y::xs,fin,.cons hy g1,g2⟩
   split at h2
   ·rename_i f d hd;split at h2
    ·obtain⟨k1,k2⟩:=ko h2
     cases hb:(Th.th f).den with
     |true=>exact next _ (hy.lit hb) (by rw[hd];exact k1 hb)
     |false=>exact next _ (hy.lit hb) (by rw[hd];exact k2 hb)
    ·exact next _ hy (by rw[hd];exact h2)
   ·exact next _ hy h2
  ·rename_i hg;obtain⟨xs,fin,g1,g2⟩:=uO GW bw rest _ K h;refine⟨dP::xs,fin,.cons (λw a hs hf=>.inr ⟨?_,rfl⟩) g1,g2⟩;exact iK hf hg
  ·exact h.elim
def MG (ops:Array Oper)(xs env:List AV)(L:Nat->Prop)(t:Nat)(x:AV):Prop:=
 (∃j o,L j/\ops[j]?=some o/\o.dst=some t/\xs[j]?=some x)\/((∀j o,L j->ops[j]?=some o->o.dst≠some t)/\env[t]?=some x)
theorem xz {iu Jr:List AV}:∀{rest:List Oper}{env xs fin:List AV},xy P ops F μ ob rest env xs fin->∀(k:Nat),(∀j,rest[j]?=ops[k+j]?)->(∀j,xs[j]?=Jr[k+j]?)->(∀t x,env[t]?=some x->MG ops Jr iu (·<k) t x)->
  (∀i o x,k<=i->ops[i]?=some o->Jr[i]?=some x->∃e,e.length=env.length/\jz P ops F μ ob o x e/\∀t y,e[t]?=some y->MG ops Jr iu (·<i) t y)/\(∀t y,fin[t]?=some y->MG ops Jr iu (·<ops.size) t y)/\fin.length=env.length/\xs.length=rest.length
 |_,env,_,_,.nil,k,h1,h2,h3=>by
  have hk:ops.size<=k:=by
   have:=h1 0;simp at this;omega
  refine⟨λi o x hi ho _=> ?_,λt y hy=> ?_,rfl,rfl⟩
  ·have:=(Array.getElem?_eq_some_iff.1 ho).1;omega
  ·rcases h3 t y hy with⟨j,o,a1,a2,a3⟩|⟨a1,a2⟩
   ·exact .inl ⟨j,o,(Array.getElem?_eq_some_iff.1 a2).1,a2,a3⟩
   ·exact .inr ⟨λj o hj=>a1 j o (by omega),a2⟩
 |_,env,_,_,.cons (o:=o) (x:=x0) hy hc,k,h1,h2,h3=>by
  have ho:ops[k]?=some o:=by have:=h1 0;simpa using this.symm
  have hx:Jr[k]?=some x0:=by have:=h2 0;simpa using this.symm
  have hput:∀t x,(fO env o.dst x0)[t]?=some x->MG ops Jr iu (·<k+1) t x:=by
   intro t x ht;have old:o.dst≠some t->env[t]?=some x->MG ops Jr iu (·<k+1) t x:=by
    intro hne he;rcases h3 t x he with⟨j,o',a1,a2⟩|⟨a1,a2⟩
    ·exact .inl ⟨j,o',by omega,a2⟩
    ·refine .inr ⟨λj o' hj wE=> ?_,a2⟩;rcases Nat.lt_or_ge j k with h|h
     ·exact a1 j o' h wE
     ·have:j=k:=by omega
      subst this;rw[ho]at wE;cases wE;exact hne
   cases hd:o.dst with
   |none=>rw[hd]at ht;exact old (by rw[hd];simp) ht
   |some d=>
    rw[hd]at ht;simp only[fO,cJ]at ht;by_cases e:d=t
    ·subst e;have hlt:d<env.length:=by
      have:=(List.getElem?_eq_some_iff.1 ht).1;simpa using this
     rw[List.getElem?_set_self hlt]at ht;cases ht;exact .inl ⟨k,o,by omega,ho,hd,hx⟩
    ·rw[List.getElem?_set_ne e]at ht;exact old (by rw[hd];simpa using e) ht
  obtain⟨g1,g2,g3,g4⟩:=xz hc (k+1) (λj=>by have:=h1 (j+1);simpa[Nat.add_assoc,Nat.add_comm 1 j]using this) (λj=>by have:=h2 (j+1);simpa[Nat.add_assoc,Nat.add_comm 1 j]using this) hput;have hlen:(fO env o.dst x0).length=env.length:=by cases o.dst<;>simp[fO,cJ]
  refine⟨λi oi x hi sL Pu=> ?_,g2,by rw[g3,hlen],by simp[g4]⟩;rcases Nat.lt_or_ge k i with h|h
  ·obtain⟨e,k1,k2,k3⟩:=g1 i oi x h sL Pu;exact⟨e,by rw[k1,hlen],k2,k3⟩
  ·have:i=k:=by omega
   subst this;rw[ho]at sL;cases sL;rw[hx]at Pu;cases Pu;exact⟨env,rfl,hy,h3⟩
structure Inv (ops:Array Oper)(F:Nat->Prop)(μ:Mu)(ob:List AO)(xs env:List AV)(ds:List Deferred)(w0:World)(listed:Array Bool)(a:Act)(w:World):Prop where
 size:listed.size=ops.size
 tmps:a.tmps.size=env.length
 ds:a.defers=ds
 st:St w F μ ob
 ext:Ext w0 μ w μ
 shut:∀i oi,ops[i]?=some oi->listed.getD i false=true->∀e∈oi.after,Region.binds .any e=true->listed.getD e.on false=true
 cur:∀t x v,MG ops xs env (λj=>listed.getD j false=true) t x->a.tmps[t]?=some v->VR w F μ x v
omit [Gl]in
theorem eG (h:l_ ops.toList=true){i:Nat}{oi:Oper}(hi:ops[i]?=some oi):(∀e∈oi.after,Region.binds .any e=true->e.on<i)/\
  ∀j oj,ops[j]?=some oj->j≠i->∀t,oj.dst=some t->oi.dst≠some t/\(cB (looks ops.toList oi) t=true->(∃e∈oi.after,Region.binds .any e=true/\e.on=j)\/∃e∈oj.after,Region.binds .any e=true/\e.on=i):=by
 have hlt:=(Array.getElem?_eq_some_iff.1 hi).1;have h1:=List.all_eq_true.1 h i (by simpa using hlt);have hi':ops.toList[i]?=some oi:=by simpa using hi
 simp only[hi',Bool.and_eq_true]at h1;obtain⟨h1,h2⟩:=h1;refine⟨λe he hb=> ?_,λj oj hj hne t ht=> ?_⟩
 ·have:=List.all_eq_true.1 h1 e (by simpa using he);simpa[hb]using this
 ·have hjl:=(Array.getElem?_eq_some_iff.1 hj).1;have h3:=List.all_eq_true.1 h2 j (by simpa using hjl);have hj':ops.toList[j]?=some oj:=by simpa using hj
  simp only[hj',ht,Bool.or_eq_true,beq_iff_eq,hne,false_or,Bool.and_eq_true,bne_iff_ne,ne_eq]at h3;refine⟨h3.1,λhm=> ?_⟩;rcases h3.2 with(h4|h4)|h4
  ·rw[hm]at h4;cases h4
  ·obtain⟨e,he,hb⟩:=List.any_eq_true.1 h4;simp only[Bool.and_eq_true,beq_iff_eq]at hb;exact .inl ⟨e,by simpa using he,hb.1,hb.2⟩
  ·obtain⟨e,he,hb⟩:=List.any_eq_true.1 h4;simp only[Bool.and_eq_true,beq_iff_eq]at hb;exact .inr ⟨e,by simpa using he,hb.1,hb.2⟩
omit [Gl]in
theorem iL {listed:Array Bool}{i j:Nat}(h:(listed.setIfInBounds i true).getD j false=true):j=i\/listed.getD j false=true:=by
 by_cases e:i=j
 ·exact .inl e.symm
 ·rw[getD_set_ne false e]at h;exact .inr h
theorem MH {xs env:List AV}{ds:List Deferred}{w0:World}{Q:Exit->Act->World->Prop}(hB:l_ ops.toList=true)(Xq:xs.length=ops.size)
  (hY:∀i o x,ops[i]?=some o->xs[i]?=some x->∃e,e.length=env.length/\jz P ops F μ ob o x e/\∀t y,e[t]?=some y->MG ops xs env (·<i) t y)
  (hQ:∀a w,Inv ops F μ ob xs env ds w0 (Array.replicate ops.size true) a w->Q .normal a w):∀(fuel:Nat)(listed:Array Bool)(a:Act)(w:World),Inv ops F μ ob xs env ds w0 listed a w->(listed.toList.filter (λb=> !b)).length<=fuel->wpAny P .any ops Q fuel listed a w:=by
 have done:∀(listed:Array Bool)(a:Act)(w:World),Inv ops F μ ob xs env ds w0 listed a w->Region.ready .any ops listed=[]->Q .normal a w:=by
  intro listed a w hI hr;have all:∀i,i<ops.size->listed.getD i false=true:=by
   intro i
   induction i using Nat.strongRecOn with
   |_ i ih=>
    intro hi;have ho:=Array.getElem?_eq_getElem hi
    cases hl:listed.getD i false with
    |true=>rfl
    |false=>
     exfalso;have:i∈Region.ready .any ops listed:=by
      refine mem_ready.2 ⟨?_,_,ho,λe he hb=> ?_⟩
      ·have hs:i<listed.size:=by rw[hI.size];exact hi
       simp[hs]at hl⊢;exact hl
      ·have h1:=(eG hB ho).1 e he hb;exact ih e.on h1 (by omega)
     rw[hr]at this;cases this
  have e:listed=Array.replicate ops.size true:=by
   refine Array.ext (by simp[hI.size]) λi h1 h2=> ?_;have:=all i (by rw[<-hI.size];exact h1);simp[h1]at this;simp[this]
  rw[e]at hI;exact hQ a w hI
 intro fuel
 induction fuel with
 |zero=>
  intro listed a w hI hf;have hr:Region.ready .any ops listed=[]:=by
   cases hr:Region.ready .any ops listed with
   |nil=>rfl
   |cons i l=>
    exfalso;have:i∈Region.ready .any ops listed:=by rw[hr];simp
    obtain⟨h1,o,ho,_⟩:=mem_ready.1 this;have hlt:i<listed.size:=by rw[hI.size];exact(Array.getElem?_eq_some_iff.1 ho).1
    have hm:false∈listed.toList.filter (λb=> !b):=by
     simp[hlt]at h1;simp only[List.mem_filter,Bool.not_false,and_true];rw[<-h1];simp
    have:=List.length_pos_of_mem hm;omega
  exact⟨hr,done listed a w hI hr⟩
 |succ fuel ih=>
  intro listed a w hI hf;refine⟨done listed a w hI,λi hi=> ?_⟩;obtain⟨hun,oi,sL,xA⟩:=mem_ready.1 hi;have hlt:i<ops.size:=(Array.getElem?_eq_some_iff.1 sL).1;have FX:i<listed.size:=by rw[hI.size];exact hlt
  have oy:listed.getD i false=false:=by simp[FX]at hun⊢;exact hun
  obtain⟨Un,MI⟩:=eG hB sL;have hx:xs[i]?=some xs[i]:=List.getElem?_eq_getElem (by omega);obtain⟨e,e1,e2,e3⟩:=hY i oi _ sL hx
  --the frame,where the operation looks
  have hfr:FR w F μ (fC (looks ops.toList oi) 0 e) a.tmps:=by
   refine⟨by rw[rB,e1];exact hI.tmps,λt y v hy hv=> ?_⟩;rw[rA,Nat.zero_add]at hy
   cases het:e[t]? with
   |none=>rw[het]at hy;cases hy
   |some y0=>
    rw[het]at hy;simp only[Option.map_some,Option.some.injEq]at hy
    cases hm:cB (looks ops.toList oi) t with
    |false=>rw[hm]at hy;subst hy;exact .bB
    |true=>
     rw[hm]at hy;simp only at hy;subst hy;refine hI.cur t y0 v ?_ hv;rcases e3 t y0 het with⟨j,oj,h1,h2,h3,h4⟩|⟨h1,h2⟩
     ·refine .inl ⟨j,oj, ?_,h2,h3,h4⟩;rcases(MI j oj h2 (by omega) t h3).2 hm with⟨e',g1,g2,g3⟩|⟨e',g1,g2,g3⟩
      ·rw[<-g3];exact xA e' g1 g2
      ·have:=(eG hB h2).1 e' g1 g2;omega
     ·refine .inr ⟨λj oj hj wE hd=> ?_,h2⟩;have hne:j≠i:=λe=>by
       subst e;have hj':listed.getD j false=true:=hj;rw[oy]at hj';cases hj'
      rcases Nat.lt_or_ge j i with hji|hji
      ·exact h1 j oj hji wE hd
      ·rcases(MI j oj wE hne t hd).2 hm with⟨e',g1,g2,g3⟩|⟨e',g1,g2,g3⟩
       ·have:=Un e' g1 g2;omega
       ·have:=hI.shut j oj wE hj e' g1 g2;rw[g3,oy]at this;cases this
  have uP:((listed.setIfInBounds i true).toList.filter (λb=> !b)).length<=fuel:=by
   have hfl:listed.toList[i]?=some false:=by
    simp[FX]at oy;rw[Array.getElem?_toList,Array.getElem?_eq_getElem FX,oy]
   have key:∀(l:List Bool)(i:Nat),l[i]?=some false->((l.set i true).filter (λb=> !b)).length+1=(l.filter (λb=> !b)).length:=by
    intro l
    induction l with
    |nil=>intro i h;simp at h
    |cons b l ih=>
     intro i h
     cases i with
     |zero=>simp at h;subst h;simp
     |succ i=>
      have:=ih i (by simpa using h);cases b<;>simp[List.set]at this⊢<;>omega
   have:=key listed.toList i hfl;rw[Array.toList_setIfInBounds];omega
  have step:∀v w',VR w' F μ xs[i] v->St w' F μ ob->Ext w μ w' μ->wpAny P .any ops Q fuel (listed.setIfInBounds i true) (a.put oi.dst v) w':=by
   intro v w' hv hs' hx';refine ih _ _ _ ⟨by simp[hI.size], ?_,by rw[put_defers];exact hI.ds,hs',hI.ext.trans hx', ?_, ?_⟩ uP
   ·rw[<-hI.tmps];cases oi.dst<;>simp[Act.put]
   ·intro j oj wE hj e he hb;rcases iL hj with rfl|hj
    ·rw[sL]at wE;cases wE;exact getD_set_true (xA e he hb)
    ·exact getD_set_true (hI.shut j oj wE hj e he hb)
   ·intro t x u hc hu;by_cases hd:oi.dst=some t
    ·--its own slot
     have Pu:x=xs[i]:=by
      rcases hc with⟨j,oj,h1,h2,h3,h4⟩|⟨h1,_⟩
      ·by_cases e:j=i
       ·subst e;rw[hx]at h4;cases h4;rfl
       ·exact((MI j oj h2 e t h3).1 hd).elim
      ·refine(h1 i oi ?_ sL hd).elim;simp[FX]
     subst Pu;rw[hd]at hu;simp only[Act.put]at hu;have hlt':t<a.tmps.size:=by
      have:=(Array.getElem?_eq_some_iff.1 hu).1;simpa using this
     rw[Array.getElem?_setIfInBounds_self_of_lt hlt']at hu;cases hu;exact hv
    ·have eR:a.tmps[t]?=some u:=by
      cases Uo:oi.dst with
      |none=>rw[Uo]at hu;exact hu
      |some d=>
       rw[Uo]at hu;have hne:d≠t:=λe=>hd (by rw[Uo,e]);simp only[Act.put]at hu;rwa[Array.getElem?_setIfInBounds_ne hne]at hu
     refine(hI.cur t x u ?_ eR).ext hx';rcases hc with⟨j,oj,h1,h2,h3,h4⟩|⟨h1,h2⟩
     ·rcases iL h1 with rfl|h1
      ·rw[sL]at h2;cases h2;exact(hd h3).elim
      ·exact .inl ⟨j,oj,h1,h2,h3,h4⟩
     ·exact .inr ⟨λj oj hj wE=>h1 j oj (getD_set_true hj) wE,h2⟩
  unfold wpOp;simp only[sL];rcases e2 w a hI.st hfr with⟨h1,h2⟩|⟨h1,h2⟩
  ·rw[if_pos h1];exact .inl (h2 _ _ step)
  ·rw[if_neg (by rw[h1];simp)];exact step undef w (by rw[h2];exact VR.unit) hI.st (.refl w μ)
theorem aR.of (bw:cg P δ)(hm:P.follows .mixedOrders=true){m id:Nat}{env:List AV}{Q:List AV->List AO->Prop}(hB:l_ ops.toList=true)(h:dq P δ ob ops.toList ops.toList env (λe=>Q e ob))(GW:br ob:=by exact .nil):aR P δ m id ops env ob Q:=by
 refine⟨λw F μ a hm' hf hs=> ?_⟩;obtain⟨xs,fin,hc,hk⟩:=uO (F:=F) (μ:=μ) GW bw ops.toList env _ h;obtain⟨g1,g2,g3,g4⟩:=xz (Jr:=xs) (iu:=env) hc 0 (by simp) (by simp) (λt x ht=>.inr ⟨λj o hj=>by omega,ht⟩);have Xq:xs.length=ops.size:=by simpa using g4
 have hx1:Ext w μ {w with drawn:=w.drawn+1} μ:=Ext.drewN w μ _;refine wp_region_any hm (MH (xs:=xs) (env:=env) (F:=F) (μ:=μ) (ob:=ob) (ds:=a.defers) (w0:=w) hB Xq (λi o x ho hx=>g1 i o x (Nat.zero_le _) ho hx) ?_ _ _ _ _ ?_ (by simp))
 ·intro a' w' hI;refine⟨fin,ob,μ,hk,⟨by rw[g3];exact hI.tmps,λt x v hx hv=> ?_⟩,hI.st,hI.ext.IG hm',hI.ds⟩;refine hI.cur t x v ?_ hv;rcases g2 t x hx with⟨j,o,h1,h2⟩|⟨h1,h2⟩
  ·exact .inl ⟨j,o,by simp[h1],h2⟩
  ·exact .inr ⟨λj o hj ho=>h1 j o (Array.getElem?_eq_some_iff.1 ho).1 ho,h2⟩
 ·refine⟨by simp,hf.1,rfl,hs.same hx1 (λ_ _=>rfl),hx1,λi oi _ hl=> ?_,λt x v hc hv=> ?_⟩
  ·rw[Array.getD_eq_getD_getElem?,Array.getElem?_replicate]at hl;split at hl<;>simp at hl
  ·rcases hc with⟨j,o,h1,_⟩|⟨_,h2⟩
   ·replace h1:(Array.replicate ops.size false).getD j false=true:=h1;rw[Array.getD_eq_getD_getElem?,Array.getElem?_replicate]at h1;split at h1<;>simp at h1
   ·exact(hf.2 t x v h2 hv).ext hx1
end
end Go.bA
end
section
namespace Go.bA
variable [Gl]
def nq (kp:List Nat):Nat->List AO->List AO
 |_,[]=>[]
 |i,x::l=>(match cB kp i with|true=>x|false=>.dead)::nq kp (i+1) l
omit [Gl]in
theorem rC (kp:List Nat):∀(l:List AO)(i j:Nat),(nq kp i l)[j]?=(l[j]?).map λx=>match cB kp (i+j)with|true=>x|false=>.dead
 |[],i,j=>by simp[nq]
 |x::l,i,0=>by simp[nq]
 |x::l,i,j+1=>by
  simp only[nq,List.getElem?_cons_succ];rw[rC kp l (i+1) j,show i+1+j=i+(j+1) by omega]
omit [Gl]in
theorem xB (kp:List Nat):∀(l:List AO)(i:Nat),(nq kp i l).length=l.length
 |[],i=>rfl
 |x::l,i=>by simp[nq,xB kp l (i+1)]
def fq (kp:List Nat):Nat->Mu->Mu
 |_,[]=>[]
 |i,x::l=>(match cB kp i with|true=>x|false=>none)::fq kp (i+1) l
omit [Gl]in
theorem jU (kp:List Nat):∀(l:Mu)(i j:Nat),(fq kp i l)[j]?=(l[j]?).map λx=>match cB kp (i+j)with|true=>x|false=>none
 |[],i,j=>by simp[fq]
 |x::l,i,0=>by simp[fq]
 |x::l,i,j+1=>by
  simp only[fq,List.getElem?_cons_succ];rw[jU kp l (i+1) j,show i+1+j=i+(j+1) by omega]
omit [Gl]in
theorem uS (kp:List Nat):∀(l:Mu)(i:Nat),(fq kp i l).length=l.length
 |[],i=>rfl
 |x::l,i=>by simp[fq,uS kp l (i+1)]
def Av (F:Nat->Prop)(μ:Mu)(kp:List Nat)(b:Nat):Prop:=F b\/∃o:Nat,cB kp o=false/\μ[o]?=some (some b)
section
variable{w:World}{F:Nat->Prop}{μ:Mu}{ob:List AO}{kp:List Nat}
omit [Gl]in
theorem eW {q b:Nat}(h:(fq kp 0 μ)[q]?=some (some b)):cB kp q=true/\μ[q]?=some (some b):=by
 rw[jU,Nat.zero_add]at h
 cases hm:μ[q]? with
 |none=>rw[hm]at h;cases h
 |some x=>
  rw[hm]at h
  cases hk:cB kp q with
  |true=>rw[hk]at h;simp at h;exact⟨rfl,by rw[h]⟩
  |false=>rw[hk]at h;simp at h
omit [Gl]in
theorem nr {q:Nat}{x:Option Nat}(hk:cB kp q=true)(h:μ[q]?=some x):(fq kp 0 μ)[q]?=some x:=by
 rw[jU,Nat.zero_add,h,hk];rfl
omit [Gl]in
theorem Aw {q:Nat}{x:Option Nat}(hk:cB kp q=false)(h:μ[q]?=some x):(fq kp 0 μ)[q]?=some none:=by
 rw[jU,Nat.zero_add,h,hk];rfl
omit [Gl]in
theorem jV (b:Nat):own (Av F μ kp) (fq kp 0 μ) b↔own F μ b:=by
 constructor
 ·rintro(h|h|⟨o,h1,h2⟩)
  ·obtain⟨q,hq⟩:=mem_of h;exact .inl (List.mem_of_getElem? (eW hq).2)
  ·exact .inr h
  ·exact .inl (List.mem_of_getElem? h2)
 ·rintro(h|h)
  ·obtain⟨q,hq⟩:=mem_of h
   cases hk:cB kp q with
   |true=>exact .inl (List.mem_of_getElem? (nr hk hq))
   |false=>exact .inr (.inr ⟨q,hk,hq⟩)
  ·exact .inr (.inl h)
omit [Gl]in
theorem VR.jP {x:AV}{v:Value}(h:VR w F μ x v):VR w (Av F μ kp) (fq kp 0 μ) x v:=by
 have get:∀{o:Nat}{z:Option Nat},μ[o]?=some z->(fq kp 0 μ)[o]?=some z\/(fq kp 0 μ)[o]?=some none:=by
  intro o z h
  cases hk:cB kp o with
  |true=>exact .inl (nr hk h)
  |false=>exact .inr (Aw hk h)
 have JE:∀{o:Nat},μ[o]?=some none->(fq kp 0 μ)[o]?=some none:=λh=>by rcases get h with h|h<;>exact h
 induction h with
 |c h=>exact .c (h.mono (Nat.le_refl _) (λ_ _ _=>rfl) (λb _ hn ho=>hn ((jV b).1 ho)))
 |ref h=>rcases get h with h|h;exact .ref h;exact .oo h
 |oo h=>exact .oo (JE h)
 |eZ h=>rcases get h with h|h;exact .eZ h;exact .iY h
 |iY h=>exact .iY (JE h)
 |sl h h1 h2=>rcases get h with h|h;exact .sl h h1 h2;exact .wj h h1 h2 (λh=>by cases h)
 |wj h h1 h2 h3=>exact .wj (JE h) h1 h2 h3
 |mp h=>rcases get h with h|h;exact .mp h;exact .D3 h rfl
 |D3 h h1=>exact .D3 (JE h) h1
 |fn h1 h2 _ _ i1 i2=>exact .fn h1 h2 i1 i2
 |oN _ ih=>exact .oN ih
 |agg h1 _ h3 ih=>exact .agg h1 ih h3
 |cI h1 _ ih=>exact .cI h1 ih
 |bB=>exact .bB
omit [Gl]in
theorem OB.jP {b:Nat}{x:AO}(h:OB w F μ b x):OB w (Av F μ kp) (fq kp 0 μ) b x:=by
 cases h with
 |box ct e h1 h2 h3=>exact .box ct e h1 h2 λi x v a b=>⟨(h3 i x v a b).1.jP,(h3 i x v a b).2⟩
 |arr ct e h1 h2 h3 h4 h6 h5=>exact .arr ct e h1 h2 h3 h4 h6 λi j e x v a b c=>⟨(h5 i j e x v a b c).1.jP,(h5 i j e x v a b c).2⟩
 |map es cl h1 h2 h3=>exact .map es cl h1 h2 λi x v a b=>⟨(h3 i x v a b).1.jP,(h3 i x v a b).2.jP⟩
 |tJ h1=>exact .tJ h1
 |jq bM clock h1 h2 h3 h4=>exact .jq bM clock h1 (h2.imp λt v h=>h.mono (Nat.le_refl _) (λ_ _ _=>rfl) (λb _ hn ho=>hn ((jV b).1 ho))) h3 h4
 |mV bm since last seen bM clock a1 a2 a3 a4 a5 a6 a7 a8 a9 Pq=>
  refine .mV bm since last seen bM clock a1 a2 (λh=>a3 ((jV _).1 h)) a4 a5 a6 a7 a8 (a9.imp λt v h=>h.mono (Nat.le_refl _) (λ_ _ _=>rfl) (λb _ hn ho=>hn ((jV b).1 ho))) (λp hp=> ?_);obtain⟨e,b1,b2,b3,b4,b5⟩:=Pq p hp;exact⟨e,b1,b2,b3,b4,b5.imp λt v h=>h.mono (Nat.le_refl _) (λ_ _ _=>rfl) (λb _ hn ho=>hn ((jV b).1 ho))⟩
theorem St.jP (hs:St w F μ ob):St w (Av F μ kp) (fq kp 0 μ) (nq kp 0 ob)where
 len:=by rw[uS,xB,hs.len]
 inj o o' b h1 h2:=hs.inj o o' b (eW h1).2 (eW h2).2
 lt o b h:=hs.lt o b (eW h).2
 dead o h:=by
  rw[jU,Nat.zero_add]at h
  cases hm:μ[o]? with
  |none=>rw[hm]at h;cases h
  |some x=>
   have hlt:o<ob.length:=by rw[<-hs.len];exact(List.getElem?_eq_some_iff.1 hm).1
   rw[rC,Nat.zero_add]
   cases hk:cB kp o with
   |false=>exact⟨.dead,by rw[List.getElem?_eq_getElem hlt];rfl,trivial⟩
   |true=>
    rw[hm,hk]at h;simp at h;subst h;obtain⟨y,g1,g2⟩:=hs.dead o hm;exact⟨y,by rw[g1];rfl,g2⟩
 frame b hb:=by
  rcases hb with hb|⟨o,h1,h2⟩
  ·refine⟨(hs.frame b hb).1,λhm=> ?_⟩;obtain⟨q,hq⟩:=mem_of hm;exact(hs.frame b hb).2 (List.mem_of_getElem? (eW hq).2)
  ·refine⟨hs.lt o b h2,λhm=> ?_⟩;obtain⟨q,hq⟩:=mem_of hm;obtain⟨g1,g2⟩:=eW hq;have:=hs.inj o q b h2 g2;subst this;rw[h1]at g1;cases g1
 live o b h:=by
  obtain⟨g1,g2⟩:=eW h;obtain⟨x,k1,k2⟩:=hs.live o b g2;exact⟨x,by rw[rC,Nat.zero_add,k1,g1];rfl,k2.jP⟩
 gl:=hs.gl.sub λb _ h=>(jV b).1 h
end
def zJ (cC:List Nat)(n q:Nat):Nat:=match nth cC q with|some p=>p|none=>n+(q -bS cC)
mutual
def G8 (cC:List Nat)(n:Nat):AV->AV
 | .ref o off=>.ref (zJ cC n o) off
 | .eZ o k i off=>.eZ (zJ cC n o) k i off
 | .sl o k i len cap=>.sl (zJ cC n o) k i len cap
 | .mp o=>.mp (zJ cC n o)
 | .fn f a b=>.fn f (F2 cC n a) (F2 cC n b)
 | .oN t x=>.oN t (G8 cC n x)
 | .agg cs=>.agg (F2 cC n cs)
 | .cI cs=>.cI (F2 cC n cs)
 | .c t=>.c t
 | .bB=>.bB
def F2 (cC:List Nat)(n:Nat):List AV->List AV
 |[]=>[]
 |x::l=>G8 cC n x::F2 cC n l
end
def Lq (cC:List Nat)(n:Nat):List (AV×AV)->List (AV×AV)
 |[]=>[]
 |x::l=>(G8 cC n x.1,G8 cC n x.2)::Lq cC n l
def Oq (cC:List Nat)(n:Nat):AO->AO
 | .box cs=>.box (F2 cC n cs)
 | .arr k es sz=>.arr k es sz
 | .map es=>.map (Lq cC n es)
 | .tJ s p=>.tJ s p
 | .jq kk ag es=>.jq kk ag es
 | .mV kk ag l c=>.mV kk ag l c
 | .dead=>.dead
omit [Gl]in
theorem nQ (cC:List Nat)(n:Nat):∀(l:List AV)(i:Nat),(F2 cC n l)[i]?=(l[i]?).map (G8 cC n)
 |[],i=>by simp[F2]
 |x::l,0=>by simp[F2]
 |x::l,i+1=>by simp[F2,nQ cC n l i]
omit [Gl]in
theorem nR (cC:List Nat)(n:Nat):∀(l:List AV),(F2 cC n l).length=l.length
 |[]=>rfl
 |x::l=>by simp[F2,nR cC n l]
omit [Gl]in
theorem Dt (cC:List Nat)(n:Nat):∀(l:List (AV×AV))(i:Nat),(Lq cC n l)[i]?=(l[i]?).map λx=>(G8 cC n x.1,G8 cC n x.2)
 |[],i=>by simp[Lq]
 |x::l,0=>by simp[Lq]
 |x::l,i+1=>by simp[Lq,Dt cC n l i]
omit [Gl]in
theorem Du (cC:List Nat)(n:Nat):∀(l:List (AV×AV)),(Lq cC n l).length=l.length
 |[]=>rfl
 |x::l=>by simp[Lq,Du cC n l]
def fD:List Nat->Nat->Nat->Option Nat
 |[],_,_=>none
 |a::l,p,i=>match a==p with|true=>some i|false=>fD l p (i+1)
omit [Gl]in
theorem iM:∀{l:List Nat}{p i q:Nat},fD l p i=some q->i<=q/\l[q -i]?=some p
 |[],_,_,_,h=>by simp[fD]at h
 |a::l,p,i,q,h=>by
  simp only[fD]at h;split at h
  ·rename_i ha;cases h;exact⟨Nat.le_refl _,by simpa using ha⟩
  ·obtain⟨h1,h2⟩:=iM h;exact⟨by omega,by rw[show q -i=(q -(i+1))+1 by omega,List.getElem?_cons_succ];exact h2⟩
omit [Gl]in
theorem mb:∀{l:List Nat}{p i:Nat},fD l p i=none->∀q:Nat,l[q]?≠some p
 |[],_,_,_,q=>by simp
 |a::l,p,i,h,q=>by
  simp only[fD]at h;split at h
  ·cases h
  ·rename_i ha
   cases q with
   |zero=>simpa using ha
   |succ q=>simpa using mb h q
def wI (cC fr:List Nat)(n:Nat)(o:List AO):Nat->List AO->List AO
 |_,[]=>[]
 |i,x::l=>(match fD cC i 0 with
  |some q=>match nth o q with|some y=>Oq cC n y|none=>.dead
  |none=>match cB fr i with|true=>.dead|false=>x)::wI cC fr n o (i+1) l
def IU (cC fr:List Nat)(ob o:List AO):List AO:=e_ (wI cC fr (bS ob) o 0 ob) (pL (Oq cC (bS ob)) (sA o (bS cC)))
omit [Gl]in
theorem qf (cC fr:List Nat)(n:Nat)(o:List AO):∀(l:List AO)(i j:Nat),(wI cC fr n o i l)[j]?=(l[j]?).map λx=>match fD cC (i+j) 0 with
   |some q=>match nth o q with|some y=>Oq cC n y|none=>.dead
   |none=>match cB fr (i+j)with|true=>.dead|false=>x
 |[],i,j=>by simp[wI]
 |x::l,i,0=>by simp[wI]
 |x::l,i,j+1=>by
  simp only[wI,List.getElem?_cons_succ];rw[qf cC fr n o l (i+1) j,show i+1+j=i+(j+1) by omega]
omit [Gl]in
theorem jW (cC fr:List Nat)(n:Nat)(o:List AO):∀(l:List AO)(i:Nat),(wI cC fr n o i l).length=l.length
 |[],i=>rfl
 |x::l,i=>by simp[wI,jW cC fr n o l (i+1)]
def jk (cC fr:List Nat)(jw:Mu):Nat->Mu->Mu
 |_,[]=>[]
 |i,x::l=>(match fD cC i 0 with
  |some q=>(match jw[q]? with|some y=>y|none=>none)
  |none=>match cB fr i with|true=>none|false=>x)::jk cC fr jw (i+1) l
omit [Gl]in
theorem jX (cC fr:List Nat)(jw:Mu):∀(l:Mu)(i j:Nat),(jk cC fr jw i l)[j]?=(l[j]?).map λx=>match fD cC (i+j) 0 with
   |some q=>(match jw[q]? with|some y=>y|none=>none)
   |none=>match cB fr (i+j)with|true=>none|false=>x
 |[],i,j=>by simp[jk]
 |x::l,i,0=>by simp[jk]
 |x::l,i,j+1=>by
  simp only[jk,List.getElem?_cons_succ];rw[jX cC fr jw l (i+1) j,show i+1+j=i+(j+1) by omega]
omit [Gl]in
theorem gB (cC fr:List Nat)(jw:Mu):∀(l:Mu)(i:Nat),(jk cC fr jw i l).length=l.length
 |[],i=>rfl
 |x::l,i=>by simp[jk,gB cC fr jw l (i+1)]
def gw (o:List AO):Prop:=∀x∈o,match x with| .arr _ es _=>∀e∈es.den,eA e=true|_=>True
omit [Gl]in
theorem gw.nil:gw []:=λx h=>by cases h
omit [Gl]in
theorem gw.box {cs:List AV}{ob:List AO}(h:gw ob):gw (.box cs::ob):=λx hx=>by
 rcases List.mem_cons.1 hx with rfl|hx
 ·trivial
 ·exact h x hx
omit [Gl]in
theorem gw.dead {ob:List AO}(h:gw ob):gw (.dead::ob):=λx hx=>by
 rcases List.mem_cons.1 hx with rfl|hx
 ·trivial
 ·exact h x hx
omit [Gl]in
theorem gw.arr {k:Nat}{es:Th (List (List AV))}{sz:Th Nat}{ob:List AO}(he:∀e∈es.den,eA e=true)(h:gw ob):gw (.arr k es sz::ob):=λx hx=>by
 rcases List.mem_cons.1 hx with rfl|hx
 ·exact he
 ·exact h x hx
section
variable{w:World}{F F1:Nat->Prop}{μ jw:Mu}{cC:List Nat}{n:Nat}
omit [Gl]in
theorem VR.mv (ht:∀t v,VT w (own F1 jw) t v->VT w (own F μ) t v)(hm:∀(q:Nat) z,jw[q]?=some z->μ[zJ cC n q]?=some z){x:AV}{v:Value}(h:VR w F1 jw x v):VR w F μ (G8 cC n x) v:=by
 induction h with
 |c h=>exact .c (ht _ _ h)
 |ref h=>exact .ref (hm _ _ h)
 |oo h=>exact .oo (hm _ _ h)
 |eZ h=>exact .eZ (hm _ _ h)
 |iY h=>exact .iY (hm _ _ h)
 |sl h h1 h2=>exact .sl (hm _ _ h) h1 h2
 |wj h h1 h2 h3=>exact .wj (hm _ _ h) h1 h2 h3
 |mp h=>exact .mp (hm _ _ h)
 |D3 h h1=>exact .D3 (hm _ _ h) h1
 |fn h1 h2 _ _ i1 i2=>
  refine .fn (by rw[h1,nR]) (by rw[h2,nR]) (λi x v hx hv=> ?_) (λi x v hx hv=> ?_)
  ·rw[nQ]at hx;obtain⟨y,hy,rfl⟩:=Option.map_eq_some_iff.1 hx;exact i1 i y v hy hv
  ·rw[nQ]at hx;obtain⟨y,hy,rfl⟩:=Option.map_eq_some_iff.1 hx;exact i2 i y v hy hv
 |oN _ ih=>exact .oN ih
 |agg h1 _ h3 ih=>
  refine .agg (by rw[h1,nR]) (λi x v hx hv=> ?_) h3;rw[nQ]at hx;obtain⟨y,hy,rfl⟩:=Option.map_eq_some_iff.1 hx;exact ih i y v hy hv
 |cI h1 _ ih=>
  refine .cI (by rw[h1,nR]) (λi x v hx hv=> ?_);rw[nQ]at hx;obtain⟨y,hy,rfl⟩:=Option.map_eq_some_iff.1 hx;exact ih i y v hy hv
 |bB=>exact .bB
omit [Gl]in
theorem OB.mv (ht:∀t v,VT w (own F1 jw) t v->VT w (own F μ) t v)(ho:∀c,¬own F1 jw c->c<w.heap.size->¬own F μ c)(hm:∀(q:Nat) z,jw[q]?=some z->μ[zJ cC n q]?=some z){x:AO}{b:Nat}(hp:match x with| .arr _ es _=>∀e∈es.den,eA e=true|_=>True)(h:OB w F1 jw b x):OB w F μ b (Oq cC n x):=by
 cases h with
 |box ct e h1 h2 h3=>
  refine .box ct e h1 (by rw[h2,nR]) λi x v hx hv=> ?_;rw[nQ]at hx;obtain⟨y,hy,rfl⟩:=Option.map_eq_some_iff.1 hx;exact⟨(h3 i y v hy hv).1.mv ht hm,(h3 i y v hy hv).2⟩
 |arr ct e h1 h2 h3 h4 h6 h5=>
  exact .arr ct e h1 h2 h3 h4 h6 λi j e x v a b c=>⟨(h5 i j e x v a b c).1.pure ht (fQ (hp e (List.mem_of_getElem? a)) j x b),(h5 i j e x v a b c).2⟩
 |map es cl h1 h2 h3=>
  refine .map es cl h1 (by rw[h2,Du]) λi x v hx hv=> ?_;rw[Dt]at hx;obtain⟨y,hy,rfl⟩:=Option.map_eq_some_iff.1 hx;exact⟨(h3 i y v hy hv).1.mv ht hm,(h3 i y v hy hv).2.mv ht hm⟩
 |tJ h1=>exact .tJ h1
 |jq bM clock h1 h2 h3 h4=>exact .jq bM clock h1 (h2.imp ht) h3 h4
 |mV bm since last seen bM clock a1 a2 a3 a4 a5 a6 a7 a8 a9 Pq=>
  refine .mV bm since last seen bM clock a1 a2 (ho _ a3 a2) a4 a5 a6 a7 a8 (a9.imp ht) (λp hp=> ?_);obtain⟨e,b1,b2,b3,b4,b5⟩:=Pq p hp;exact⟨e,b1,b2,b3,b4,b5.imp ht⟩
end
omit [Gl]in
theorem cD {l:List Nat}{n:Nat}:cB l n=true↔n∈l:=by
 induction l with
 |nil=>simp[cB]
 |cons a l ih=>
  simp only[cB];split
  ·rename_i h;have:a=n:=by simpa using h
   simp[this]
  ·rename_i h;have:¬a=n:=by simpa using h
   rw[ih];simp;omega
def Dv (n:Nat):List Nat->Bool
 |[]=>true
 |p::l=>match Nat.blt p n with|true=>Dv n l|false=>false
omit [Gl]in
theorem rD {n:Nat}:∀{l:List Nat},Dv n l=true->∀(q p:Nat),l[q]?=some p->p<n
 |[],_,q,p,h=>by simp at h
 |a::l,hl,q,p,h=>by
  simp only[Dv]at hl;split at hl
  ·rename_i ha
   cases q with
   |zero=>simp at h;subst h;exact Nat.le_of_ble_eq_true ha
   |succ q=>exact rD hl q p (by simpa using h)
  ·cases hl
section
variable{P:Program}{δ:Nat->Option TD}
theorem aV.own {f:FuncId}{args G9:List AV}{ob XU:List AO}{K0 K:AV->List AO->Prop}(h:aV P f G9 XU K0)(cC fr:List Nat)(hd:distinct cC=true)(hlt:Dv (bS ob) cC=true)
    (ha:gj 0 cC (nq (cC++fr) 0 ob) args G9) (ho:kS 0 cC (nq (cC++fr) 0 ob) cC XU) (hk:∀x o,K0 x o->gw o/\K (G8 cC (bS ob) x) (IU cC fr ob o)):aV P f args ob K:=by
  refine⟨λw F μ bD hv hs=> ?_⟩;have Ot:=hs.jP (kp:=cC++fr);generalize hF1:Av F μ (cC++fr)=F1 at Ot;generalize hμ2:fq (cC++fr) 0 μ=D4 at Ot;have hown:∀b,bA.own F1 D4 b↔bA.own F μ b:=λb=>by rw[<-hF1,<-hμ2];exact jV b
  have h0:St w F1 [] []:=
    {len:=rfl,inj:=λo o' b h=>by simp at h,lt:=λo b h=>by simp at h,dead:=λo h=>by simp at h,frame:=λb h=>⟨(Ot.frame b h).1,by simp⟩,live:=λo b h=>by simp at h,gl:=Ot.gl.sub λb _ h=>h.elim (λh=>by simp at h) .inr}
  obtain⟨g1,g2,g3⟩:=St.rename (π:=cC) h0 (Nat.le_refl _) (λb=>⟨λh=>.inr h,λh=>by
    rcases h with h|h
    · simp at h
    · exact h⟩) Ot ho hd (λ_ q b h=>by simp at h)
  simp only[List.nil_append]at g1 g3;have OQ:ua w F1 (dL D4 cC) G9 bD.toList:=by
    refine⟨by rw[hv.1,ha.len],λi y v hy hu=> ?_⟩;have hl:=(List.getElem?_eq_some_iff.1 hy).1;have hx:=hv.2 i _ v (List.getElem?_eq_getElem (ha.len▸hl)) hu;refine g3 _ y v (ha.get i _ y (List.getElem?_eq_getElem (ha.len▸hl)) hy) ?_;rw[<-hF1,<-hμ2];exact hx.jP
  have hr:=h.run w F1 (dL D4 cC) bD OQ g1;have QJ:(dL D4 cC).length=cC.length:=by simp[dL]
  have hnl:bS ob=μ.length:=by rw[bQ,hs.len]
  have post:∀e w',(∃v x cc bu,e=Ending.returned v/\VR w' F1 bu x v/\St w' F1 bu cc/\Ext w (dL D4 cC) w' bu/\K0 x cc)->∃v x cc bu,e=Ending.returned v/\VR w' F bu x v/\St w' F bu cc/\Ext w μ w' bu/\K x cc:=by
    intro e w' ⟨v,x,o,jw,k1,k2,k3,k4,k5⟩;obtain⟨hp,hK⟩:=hk x o k5;have G_:cC.length<=jw.length:=by rw[<-QJ];exact k4.len
    let bu:Mu:=jk cC fr jw 0 μ++jw.drop cC.length
    have QK:∀(q p:Nat),cC[q]?=some p->cB (cC++fr) p=true:=λq p h=>cD.2 (List.mem_append.2 (.inl (List.mem_of_getElem? h)))
    --where each comes from
    have get:∀(i:Nat) z,bu[i]?=some z->(i<μ.length/\((∃q:Nat,cC[q]?=some i/\jw[q]?=some z)\/(fD cC i 0=none/\cB fr i=true/\z=none)\/(fD cC i 0=none/\cB fr i=false/\μ[i]?=some z)))\/
        (∃q:Nat,cC.length<=q/\i=μ.length+(q -cC.length)/\jw[q]?=some z):=by
      intro i z h;have FU:(jk cC fr jw 0 μ).length=μ.length:=gB _ _ _ _ _;rcases Nat.lt_or_ge i μ.length with hi|hi
      · left
        refine⟨hi, ?_⟩;simp only[bu]at h;rw[List.getElem?_append_left (by rw[FU];exact hi),jX,Nat.zero_add,List.getElem?_eq_getElem hi,Option.map_some]at h
        cases hf:fD cC i 0 with
        | some q=>
          rw[hf]at h;obtain⟨_,hq⟩:=iM hf;rw[Nat.sub_zero]at hq;have Dd:=(List.getElem?_eq_some_iff.1 hq).1;left;refine⟨q,hq, ?_⟩;have LX:jw[q]?=some jw[q]:=List.getElem?_eq_getElem (by omega);simp only[LX]at h;rw[LX];exact h
        | none=>
          rw[hf]at h
          cases hm:cB fr i with
          |true=>rw[hm]at h;simp at h;exact .inr (.inl ⟨rfl,rfl,h.symm⟩)
          |false=>rw[hm]at h;simp at h;exact .inr (.inr ⟨rfl,rfl,by rw[List.getElem?_eq_getElem hi,h]⟩)
      · right
        simp only[bu]at h;rw[List.getElem?_append_right (by rw[FU];exact hi),FU,List.getElem?_drop]at h;exact⟨cC.length+(i -μ.length),by omega,by omega,h⟩
    have put:∀(q:Nat) z,jw[q]?=some z->bu[zJ cC (bS ob) q]?=some z:=by
      intro q z hq;have FU:(jk cC fr jw 0 μ).length=μ.length:=gB _ _ _ _ _;unfold zJ;rw[cq]
      cases JF:cC[q]? with
      | some p=>
        have yA:p<μ.length:=by rw[<-hnl];exact rD hlt q p JF
        simp only[bu];rw[List.getElem?_append_left (by rw[FU];exact yA),jX,Nat.zero_add,List.getElem?_eq_getElem yA,Option.map_some]
        cases hf:fD cC p 0 with
        |none=>exact(mb hf q JF).elim
        | some q'=>
          obtain⟨_,QL⟩:=iM hf;rw[Nat.sub_zero]at QL;have:=jy hd q q' p JF QL;subst this;simp[hq]
      | none=>
        rw[List.getElem?_eq_none_iff]at JF;simp only[bu,bQ,hs.len.symm];rw[List.getElem?_append_right (by rw[FU];omega),FU,List.getElem?_drop,show cC.length+(μ.length+(q -cC.length) -μ.length)=q by omega];exact hq
    have kept:∀(i:Nat) z,fD cC i 0=none->cB fr i=false->μ[i]?=some z->bu[i]?=some z:=by
      intro i z hf hm hz;have FU:(jk cC fr jw 0 μ).length=μ.length:=gB _ _ _ _ _;have Cp:=(List.getElem?_eq_some_iff.1 hz).1;simp only[bu];rw[List.getElem?_append_left (by rw[FU];exact Cp),jX,Nat.zero_add,hz,Option.map_some,hf,hm]
    have He:∀(i:Nat),fD cC i 0=none->cB fr i=true->i<μ.length->bu[i]?=some none:=by
      intro i hf hm Cp;have FU:(jk cC fr jw 0 μ).length=μ.length:=gB _ _ _ _ _;simp only[bu];rw[List.getElem?_append_left (by rw[FU];exact Cp),jX,Nat.zero_add,List.getElem?_eq_getElem Cp,Option.map_some,hf,hm]
    have aside:∀(i:Nat),fD cC i 0=none->cB fr i=false->cB (cC++fr) i=false:=by
      intro i hf hm
      cases hc:cB (cC++fr) i with
      |false=>rfl
      | true=>
        rcases List.mem_append.1 (cD.1 hc)with hc|hc
        · obtain⟨q,hq⟩:=List.mem_iff_getElem?.1 hc
          exact(mb hf q hq).elim
        · rw[cD.2 hc]at hm;cases hm
    have Cy:∀(i b:Nat),fD cC i 0=none->cB fr i=false->μ[i]?=some (some b)->F1 b:=by
      intro i b hf hm hb;rw[<-hF1];exact .inr ⟨i,aside i hf hm,hb⟩
    have Dw:∀b,b<w'.heap.size->¬bA.own F1 jw b->¬bA.own F bu b:=by
      intro b _ hn ho;apply hn;rcases ho with ho|ho
      · obtain⟨i,hi⟩:=mem_of ho
        rcases get i _ hi with⟨_,⟨q,_,h2⟩|⟨_,_,h2⟩|⟨h1,h2,h3⟩⟩|⟨q,_,_,h2⟩
        · exact .inl (List.mem_of_getElem? h2)
        · cases h2
        · exact .inr (Cy i b h1 h2 h3)
        · exact .inl (List.mem_of_getElem? h2)
      · exact .inr (by rw[<-hF1];exact .inl ho)
    have ht:∀t v,VT w' (bA.own F1 jw) t v->VT w' (bA.own F bu) t v:=λt v ht=>ht.mono (Nat.le_refl _) (λ_ _ _=>rfl) Dw;have Lr:∀b,some b∈dL D4 cC->some b∈μ:=by
      intro b hb;obtain⟨i,hi⟩:=mem_of (g2 b hb);rw[<-hμ2]at hi;exact List.mem_of_getElem? (eW hi).2
    have Ls:∀(q i:Nat) z,cC[q]?=some i->μ[i]?=some z->(dL D4 cC)[q]?=some z:=by
      intro q i z h1 h2;refine rz h1 ?_;rw[<-hμ2];exact nr (QK q i h1) h2
    have he:Ext w μ w' bu:=
      { os:=k4.os,tape:=k4.tape,output:=k4.output,size:=k4.size
        ct:=λb hb hn=>k4.ct b hb (λh=>hn (Lr b h))
        len:=by simp[bu,gB]
        keep:=λi b hi=>by
          have Cp:=(List.getElem?_eq_some_iff.1 hi).1
          cases hf:fD cC i 0 with
          | some q=>
            obtain⟨_,hq⟩:=iM hf;rw[Nat.sub_zero]at hq;have lV:zJ cC (bS ob) q=i:=by unfold zJ;rw[cq,hq]
            rcases k4.keep q b (Ls q i _ hq hi)with h|h
            · exact .inl (by have:=put q _ h;rwa[lV]at this)
            · exact .inr (by have:=put q _ h;rwa[lV]at this)
          | none=>
            cases hm:cB fr i with
            |true=>exact .inr (He i hf hm Cp)
            |false=>exact .inl (kept i _ hf hm hi)
        dead:=λi hi=>by
          have Cp:=(List.getElem?_eq_some_iff.1 hi).1
          cases hf:fD cC i 0 with
          | some q=>
            obtain⟨_,hq⟩:=iM hf;rw[Nat.sub_zero]at hq;have lV:zJ cC (bS ob) q=i:=by unfold zJ;rw[cq,hq]
            have:=put q _ (k4.dead q (Ls q i _ hq hi));rwa[lV]at this
          | none=>
            cases hm:cB fr i with
            |true=>exact He i hf hm Cp
            |false=>exact kept i _ hf hm hi
        own:=λb hb=>by
          obtain⟨i,hi⟩:=mem_of hb;have new:some b∈jw->some b∈μ\/w.heap.size<=b:=λh=>by
            rcases k4.own b h with h|h
            · exact .inl (Lr b h)
            · exact .inr h
          rcases get i _ hi with⟨_,⟨q,_,h2⟩|⟨_,_,h2⟩|⟨h1,h2,h3⟩⟩|⟨q,_,_,h2⟩
          · exact new (List.mem_of_getElem? h2)
          · cases h2
          · exact .inl (List.mem_of_getElem? h3)
          · exact new (List.mem_of_getElem? h2)}
    --the objects
    have JG:∀(q:Nat) y,o[q]?=some y->(IU cC fr ob o)[zJ cC (bS ob) q]?=some (Oq cC (bS ob) y):=by
      intro q y hq;unfold zJ IU;rw[cq,dg,dR,jM]
      cases JF:cC[q]? with
      | some p=>
        have yA:p<ob.length:=by rw[<-bQ];exact rD hlt q p JF
        show(wI cC fr (bS ob) o 0 ob++_)[p]?=_;rw[List.getElem?_append_left (by rw[jW];exact yA),qf,Nat.zero_add,List.getElem?_eq_getElem yA,Option.map_some]
        cases hf:fD cC p 0 with
        |none=>exact(mb hf q JF).elim
        | some q'=>
          obtain⟨_,QL⟩:=iM hf;rw[Nat.sub_zero]at QL;have:=jy hd q q' p JF QL;subst this;simp[cq,hq]
      | none=>
        rw[List.getElem?_eq_none_iff]at JF;show(wI cC fr (bS ob) o 0 ob++_)[bS ob+(q -bS cC)]?=_;rw[bQ,bQ,List.getElem?_append_right (by rw[jW];omega),jW,List.getElem?_map,List.getElem?_drop,show cC.length+(ob.length+(q -cC.length) -ob.length)=q by omega,hq]
        rfl
    have Lt:∀(i:Nat) y,fD cC i 0=none->cB fr i=false->ob[i]?=some y->(IU cC fr ob o)[i]?=some y:=by
      intro i y hf hm hy;unfold IU;rw[dg,List.getElem?_append_left (by rw[jW];exact(List.getElem?_eq_some_iff.1 hy).1),qf,Nat.zero_add,hy,Option.map_some,hf,hm]
    have JH:∀(i:Nat),fD cC i 0=none->cB fr i=true->i<ob.length->(IU cC fr ob o)[i]?=some .dead:=by
      intro i hf hm Cp;unfold IU;rw[dg,List.getElem?_append_left (by rw[jW];exact Cp),qf,Nat.zero_add,List.getElem?_eq_getElem Cp,Option.map_some,hf,hm]
    have Lu:∀(q i:Nat),cC[q]?=some i->zJ cC (bS ob) q=i:=λq i h=>by unfold zJ;rw[cq,h]
    have Lv:∀(q i:Nat),cC.length<=q->i=μ.length+(q -cC.length)->zJ cC (bS ob) q=i:=λq i h1 h2=>by
      unfold zJ;rw[cq,List.getElem?_eq_none_iff.2 h1];show bS ob+(q -bS cC)=i;rw[hnl,bQ,h2]
    refine⟨v,G8 cC (bS ob) x,IU cC fr ob o,bu,k1,k2.mv ht put,⟨?_, ?_, ?_, ?_, ?_, ?_,⟨λb hb=>⟨(k3.gl.lt b hb).1,Dw b (k3.gl.lt b hb).1 (k3.gl.lt b hb).2⟩,k3.gl.ok⟩⟩,he,hK⟩
    · simp only[bu,IU,dg,dR,jM,List.length_append,gB,jW,List.length_drop,List.length_map,bQ,hs.len,k3.len]
    · intro i i' b h1 h2
      have fb:∀(i q:Nat),fD cC i 0=none->cB fr i=false->μ[i]?=some (some b)->jw[q]?=some (some b)->False:=λi q h1 h2 h3 h4=>(k3.frame b (Cy i b h1 h2 h3)).2 (List.mem_of_getElem? h4);rcases get i _ h1 with⟨_,⟨q,a1,a2⟩|⟨_,_,a2⟩|⟨a1,a2,a3⟩⟩|⟨q,a0,a1,a2⟩<;>rcases get i' _ h2 with⟨_,⟨q',b1,b2⟩|⟨_,_,b2⟩|⟨b1,b2,b3⟩⟩|⟨q',b0,b1,b2⟩
      all_goals first
        |(cases a2;done)
        |(cases b2;done)
        |exact(fb _ _ a1 a2 a3 b2).elim
        |exact(fb _ _ b1 b2 b3 a2).elim
        |exact hs.inj _ _ b a3 b3
        | (have hqq:=k3.inj q q' b a2 b2
           subst hqq;first
             |(rw[a1]at b1;exact Option.some.inj b1)
             |(have:=(List.getElem?_eq_some_iff.1 a1).1;omega)
             |(have:=(List.getElem?_eq_some_iff.1 b1).1;omega)
             |omega)
    · intro i b h1
      rcases get i _ h1 with⟨_,⟨q,a1,a2⟩|⟨_,_,a2⟩|⟨a1,a2,a3⟩⟩|⟨q,a0,a1,a2⟩
      · exact k3.lt q b a2
      · cases a2
      · exact Nat.lt_of_lt_of_le (hs.lt i b a3) k4.size
      · exact k3.lt q b a2
    · intro i h1
      have gn:∀y,gone y->gone (Oq cC (bS ob) y):=λy h=>by cases y<;>exact h
      rcases get i _ h1 with⟨Cp,⟨q,a1,a2⟩|⟨a1,a2,_⟩|⟨a1,a2,a3⟩⟩|⟨q,a0,a1,a2⟩
      · obtain⟨y,y1,y2⟩:=k3.dead q a2
        have:=JG q y y1;rw[Lu q i a1]at this;exact⟨_,this,gn y y2⟩
      · exact⟨.dead,JH i a1 a2 (by rw[<-hs.len];exact Cp),trivial⟩
      · obtain⟨y,y1,y2⟩:=hs.dead i a3
        exact⟨y,Lt i y a1 a2 y1,y2⟩
      · obtain⟨y,y1,y2⟩:=k3.dead q a2
        have:=JG q y y1;rw[Lv q i a0 a1]at this;exact⟨_,this,gn y y2⟩
    · intro b hb
      have FW:F1 b:=by rw[<-hF1];exact .inl hb
      refine⟨(k3.frame b FW).1,λhm=> ?_⟩;obtain⟨i,hi⟩:=mem_of hm;rcases get i _ hi with⟨_,⟨q,a1,a2⟩|⟨_,_,a2⟩|⟨a1,a2,a3⟩⟩|⟨q,a0,a1,a2⟩
      · exact(k3.frame b FW).2 (List.mem_of_getElem? a2)
      · cases a2
      · exact(hs.frame b hb).2 (List.mem_of_getElem? a3)
      · exact(k3.frame b FW).2 (List.mem_of_getElem? a2)
    · intro i b h1
      rcases get i _ h1 with⟨_,⟨q,a1,a2⟩|⟨_,_,a2⟩|⟨a1,a2,a3⟩⟩|⟨q,a0,a1,a2⟩
      · obtain⟨y,y1,y2⟩:=k3.live q b a2
        have:=JG q y y1;rw[Lu q i a1]at this;exact⟨_,this,y2.mv ht (λc hn hl=>Dw c hl hn) put (hp y (List.mem_of_getElem? y1))⟩
      · cases a2
      · obtain⟨y,y1,y2⟩:=hs.live i b a3
        refine⟨y,Lt i y a1 a2 y1,y2.ext he (k4.ct b (hs.lt i b a3) λh=> ?_)⟩;exact(Ot.frame b (Cy i b a1 a2 a3)).2 (g2 b h)
      · obtain⟨y,y1,y2⟩:=k3.live q b a2
        have:=JG q y y1;rw[Lv q i a0 a1]at this;exact⟨_,this,y2.mv ht (λc hn hl=>Dw c hl hn) put (hp y (List.mem_of_getElem? y1))⟩
  unfold jK at hr⊢;split at hr
  · obtain⟨h1,h2,h3,h4⟩:=hr
    exact⟨h1,h2,h3,h4.mono post⟩
  · exact post _ _ hr
  · exact hr.elim
def Can (m:Nat)(x:AV)(o:List AO)(y:AV)(o':List AO):Prop:=∃π,keeps (bS o) m 0 π=true/\distinct π=true/\RV 0 π o x y/\kS 0 π o π o'
theorem aV.can {f:FuncId}{args:List AV}{ob:List AO}{K:AV->List AO->Prop}(h:aV P f args ob (λx o=>∃y o',Can (bS ob) x o y o'/\K y o')):aV P f args ob K:=by
 refine⟨λw F μ bD hv hs=> ?_⟩;have post:∀e w',(∃v x cc bu,e=Ending.returned v/\VR w' F bu x v/\St w' F bu cc/\Ext w μ w' bu/\∃y o',Can (bS ob) x cc y o'/\K y o')->∃v x cc bu,e=Ending.returned v/\VR w' F bu x v/\St w' F bu cc/\Ext w μ w' bu/\K x cc:=by
  intro e w' ⟨v,x,o,bu,g1,g2,g3,g4,y,o',⟨π,k1,k2,k3,k4⟩,k5⟩;have VI:=(dj.of (m:=bS ob) (e:=[x]) (e':=[y]) π k1 k2 (.cons k3 .nil) k4).run w' F bu #[v] (by rw[bQ,<-hs.len];exact g4.len) ⟨rfl,λi z u h1 h2=>by
   cases i with
   |zero=>simp at h1 h2;subst h1;subst h2;exact g2
   |succ i=>simp at h1⟩ g3
  obtain⟨ru,r1,r2,r3⟩:=VI;refine⟨v,y,o',ru,g1,r1.2 0 y v rfl rfl,r2, ?_,k5⟩;have hm:bS ob=μ.length:=by rw[bQ,hs.len]
  rw[hm]at r3;exact((g4.IG (Nat.le_refl _)).trans r3).Db rfl
 have hr:=h.run w F μ bD hv hs;unfold jK at hr⊢;split at hr
 ·obtain⟨h1,h2,h3,h4⟩:=hr;exact⟨h1,h2,h3,h4.mono post⟩
 ·exact post _ _ hr
 ·exact hr.elim
end
end Go.bA
end
section
namespace Go.bA
variable [Gl]
def kj:AV->List Nat
 | .ref o _=>[o]
 | .eZ o _ _ _=>[o]
 | .mp o=>[o]
 |_=>[]
def uT (o:Op)(env:List AV):List Nat:=
 match o with
 | .load _ x| .nilCheck x| .fieldAddr _ x _=>kj (dU env x)
 | .indexAddr _ x _=>kj (dU env x)
 | .binOp _ _ x y _=>e_ (kj (dU env x)) (kj (dU env y))
 | .lookup _ m _ _=>kj (dU env m)
 | .call c=>match c.args.toList with|[x]=>kj (dU env x)|_=>[]
 |_=>[]
def aZ (ps:List Nat)(ob cc:List AO):Prop:=∀p∈ps,nth ob p=nth cc p
section
variable{P:Program}{δ:Nat->Option TD}{ob cc:List AO}{J J':AV->List AO->Prop}
omit [Gl]in
theorem Dx {b:Th Bool}{A B A' B':Unit->Prop}(h1:A ()->A' ())(h2:B ()->B' ())(h:D6 b A B):D6 b A' B':=by
 unfold D6 at*;split at h
 ·exact h1 h
 ·exact h2 h
 ·exact⟨λe=>h1 (h.1 e),λe=>h2 (h.2 e)⟩
omit [Gl]in
theorem fm {b:Th Bool}{A A':Unit->Prop}(h1:A ()->A' ())(h:jr b A):jr b A':=by
 unfold jr at*;split at h
 ·exact h1 h
 ·exact h
 ·cases h with|mk e a=>exact⟨e,h1 a⟩
omit [Gl]in
theorem qg {α:Type}{es:Th (List α)}{n:Th Int}{A A':α->Prop}(h1:∀a,A a->A' a)(h:wo es n A):wo es n A':=by
 unfold wo at*;split at h
 ·split at h
  ·split at h
   ·exact h1 _ h
   ·exact h
  ·exact h
 ·cases h with|mk e a b c=>exact⟨e,a,b,h1 _ c⟩
variable(hJ:∀x,J x ob->J' x cc)
include hJ
omit [Gl]in
theorem Ax {d:TD}{x:AV}(ha:aZ (kj x) ob cc)(h:wZ d x ob J):wZ d x cc J':=by
 unfold wZ at*;split at h
 ·rename_i o off;rw[<-ha o (by simp[kj])];split at h
  ·split at h
   ·rename_i e;(try simp only[e]);exact hJ _ h
   ·exact h.elim
  ·exact h.elim
 ·rename_i o k i off;rw[<-ha o (by simp[kj])];split at h
  ·split at h
   ·rename_i hk;(try simp only[hk]);refine qg (λe h=> ?_) h;split at h
    ·rename_i e2;(try simp only[e2]);exact hJ _ h
    ·exact h.elim
   ·exact h.elim
  ·exact h.elim
 ·split at h
  ·rename_i e;(try simp only[e]);exact hJ _ h
  ·exact h.elim
 ·exact h.elim
omit hJ in
omit [Gl]in
theorem kF {o:Nat}(h:nth ob o=nth cc o):alive ob o=alive cc o:=by unfold alive;rw[h]
omit [Gl]in
theorem rE {s f:Nat}{x:AV}(ha:aZ (kj x) ob cc)(h:iF δ s f x ob J):iF δ s f x cc J':=by
 unfold iF at*;split at h
 ·split at h
  ·exact h.elim
  ·rename_i hz;(try simp only[hz]);split at h
   ·rename_i o a;rw[<-kF (ha o (by simp[kj]))];split at h
    ·rename_i e;(try simp only[e]);exact hJ _ h
    ·exact h.elim
   ·exact hJ _ h
   ·exact hJ _ h
   ·exact h.elim
 ·exact h.elim
omit [Gl]in
theorem rF {t:Nat}{x i:AV}(ha:aZ (kj x) ob cc)(h:iG δ t x i ob J):iG δ t x i cc J':=by
 unfold iG at*;split at h
 ·rename_i d k n hd;try simp only[]
  split at h
  ·rename_i e hsh;try simp only[]
   split at h
   ·rename_i ed ir;try simp only[]
    split at h
    ·split at h
     ·rename_i e2;(try simp only[e2]);exact fm (λh=>hJ _ h) h
     ·exact h.elim
    ·split at h
     ·rename_i e2;(try simp only[e2]);exact qg (λ_ h=>hJ _ h) h
     ·exact h.elim
    ·split at h
     ·rename_i e2;(try simp only[e2]);exact qg (λ_ h=>hJ _ h) h
     ·exact h.elim
    ·exact h.elim
   ·exact h.elim
  ·rename_i len e hsh;try simp only[]
   split at h
   ·rename_i ed ir;try simp only[]
    split at h
    ·rename_i o off n';try simp only[]
     rw[<-kF (ha o (by simp[kj]))];split at h
     ·rename_i e1 e2;(try simp only[e1,e2]);exact hJ _ h
     ·exact h.elim
    ·exact h.elim
   ·exact h.elim
  ·exact h.elim
 ·exact h.elim
omit [Gl]in
theorem yV {t:Nat}{x i:AV}(h:qM δ t x i ob J):qM δ t x i cc J':=by
 unfold qM at*;split at h
 ·try simp only[]
  split at h
  ·rename_i hsh;try simp only[]
   split at h
   ·exact fm (λh=>hJ _ h) h
   ·exact h.elim
  ·rename_i hsh;try simp only[]
   split at h
   ·rename_i ir;try simp only[]
    split at h
    ·split at h
     ·rename_i e2;(try simp only[e2]);exact qg (λ_ h=>hJ _ h) h
     ·exact h.elim
    ·exact h.elim
   ·exact h.elim
  ·exact h.elim
 ·exact h.elim
omit [Gl]in
theorem Cz {t:Nat}{x:AV}(ha:aZ (kj x) ob cc)(h:D7 δ t x ob J):D7 δ t x cc J':=by
 unfold D7 at*;split at h
 ·try simp only[]
  split at h
  ·rename_i hsh;try simp only[]
   split at h
   ·exact hJ _ h
   ·exact h.elim
  ·rename_i hsh;try simp only[]
   split at h
   ·exact hJ _ h
   ·exact hJ _ h
   ·exact hJ _ h
   ·exact hJ _ h
   ·exact hJ _ h
   ·exact h.elim
  ·rename_i hsh;try simp only[]
   exact hJ _ h
  ·rename_i hsh;try simp only[]
   split at h
   ·exact hJ _ h
   ·rename_i o;try simp only[]
    rw[<-ha o (by simp[kj])];split at h
    ·exact hJ _ h
    ·exact hJ _ h
    ·exact h.elim
   ·exact h.elim
  ·exact h.elim
 ·exact h.elim
omit [Gl]in
theorem CA {t:Nat}{x:AV}(h:D9 δ t x ob J):D9 δ t x cc J':=by
 unfold D9 at*;split at h
 ·try simp only[]
  split at h
  ·rename_i hsh;try simp only[]
   exact hJ _ h
  ·exact h.elim
 ·exact h.elim
omit [Gl]in
theorem xC {t:Nat}{neg yc:Bool}{x y:AV}(ha:aZ (kj x) ob cc)(h:LO δ t neg yc x y ob J):LO δ t neg yc x y cc J':=by
 unfold LO at*;split at h
 ·try simp only[]
  split at h
  ·rename_i hsh;try simp only[]
   split at h
   ·rename_i e;(try simp only[e]);exact hJ _ h
   ·exact h.elim
  ·rename_i hsh;try simp only[]
   split at h
   ·rename_i heq;try simp only[heq]
    split at h
    ·rename_i e;(try simp only[e]);exact hJ _ h
    ·exact h.elim
   ·exact h.elim
  ·rename_i hsh;try simp only[]
   split at h
   ·try simp only[]
    split at h
    ·rename_i e;(try simp only[e]);exact hJ _ h
    ·rename_i e;(try simp only[e]);exact⟨λb hb=>hJ _ (h.all b hb)⟩
    ·exact h.elim
   ·exact h.elim
  ·rename_i hsh;try simp only[]
   split at h
   ·try simp only[]
    have hn:qN ob x=qN cc x:=by
     unfold qN;split
     ·rfl
     ·rfl
     ·rename_i o off;rw[kF (ha o (by simp[kj]))]
     ·rfl
     ·rfl
    rw[<-hn];split at h
    ·exact hJ _ h
    ·exact h.elim
   ·exact h.elim
  ·rename_i hsh;try simp only[]
   split at h
   ·try simp only[]
    split at h
    ·rename_i e;(try simp only[e]);exact hJ _ h
    ·exact h.elim
   ·exact h.elim
  ·rename_i hsh;try simp only[]
   split at h
   ·try simp only[]
    split at h
    ·rename_i e;(try simp only[e]);exact hJ _ h
    ·exact h.elim
   ·exact h.elim
  ·exact h.elim
 ·exact h.elim
omit [Gl]in
theorem CB {op:BinOp}{t:Nat}{yc:Bool}{x y:AV}(ha:aZ (kj x) ob cc)(h:D8 δ op t yc x y ob J):D8 δ op t yc x y cc J':=by
 unfold D8 at*;split at h
 ·try simp only[]
  split at h
  ·exact fm (λh=>hJ _ h) h
  ·exact fm (λh=>hJ _ h) h
  iterate 6
   ·split at h
    ·rename_i e;(try simp only[e]);exact hJ _ h
    ·exact h.elim
  iterate 2
   ·split at h
    ·rename_i e;(try simp only[e]);exact fm (λh=>hJ _ h) h
    ·exact h.elim
  ·split at h
   ·rename_i e;(try simp only[e]);exact hJ _ h
   ·exact h.elim
 ·try simp only[]
  split at h
  iterate 6
   ·exact hJ _ h
  ·exact fm (λh=>hJ _ h) h
  ·exact h.elim
 ·try simp only[]
  split at h
  ·exact xC hJ ha h
  ·exact xC hJ ha h
  ·exact h.elim
omit hJ in
omit [Gl]in
theorem rG {sh:Sh}{k:AV}{A A':Option (Nat×AV)->Prop}(h1:∀r,A r->A' r):∀(es:List (AV×AV))(i:Nat),mI sh k es i A->mI sh k es i A'
 |[],i,h=>by
  simp only[mI]at h⊢;split at h
  ·rename_i e;(try simp only[e]);exact h1 _ h
  ·exact h.elim
 |(k',v)::es,i,h=>by
  simp only[mI]at h⊢;split at h
  ·rename_i e;(try simp only[e]);exact Dx (h1 _) (rG h1 es (i+1)) h
  ·exact h.elim
omit [Gl]in
theorem nT {ok:Bool}{z:AV}:∀r,LQ ok z ob J r->LQ ok z cc J' r
 |some (_,v),h=>by cases ok<;>exact hJ _ h
 |none,h=>by cases ok<;>exact hJ _ h
omit [Gl]in
theorem wJ {t:Nat}{m k:AV}{ok:Bool}(ha:aZ (kj m) ob cc)(h:nJ δ t m k ok ob J):nJ δ t m k ok cc J':=by
 unfold nJ at*;split at h
 ·try simp only[]
  split at h
  ·rename_i e;(try simp only[e]);split at h
   ·rename_i o;try simp only[]
    rw[<-ha o (by simp[kj])];split at h
    ·exact rG (nT hJ) _ _ h
    ·try simp only[]
     split at h
     ·try simp only[]
      split at h
      ·rename_i e1 e2;(try simp only[e1,e2])
       cases h with
       |mk h1 h2=>exact⟨λts ht=>nT hJ _ (h1 ts ht),λhn=>nT hJ _ (h2 hn)⟩
      ·exact h.elim
     ·exact h.elim
    ·exact h.elim
   ·exact rG (nT hJ) _ _ h
   ·exact h.elim
  ·exact h.elim
 ·exact h.elim
omit [Gl]in
theorem yW {t:Nat}{x:AV}{lo hi mx:Option AV}(h:qP δ t x lo hi mx ob J):qP δ t x lo hi mx cc J':=by
 unfold qP at*;split at h
 ·try simp only[]
  split at h
  ·rename_i hsh;try simp only[]
   split at h
   ·try simp only[]
    split at h
    ·rename_i e1 e2;(try simp only[e1,e2]);exact fm (λh=>hJ _ h) h
    ·exact h.elim
   ·exact h.elim
  ·rename_i hsh;try simp only[]
   split at h
   ·rename_i ir;try simp only[]
    split at h
    ·split at h
     ·rename_i e1 e2 e3 e4 e5;(try simp only[e1,e2,e3,e4,e5]);exact fm (λh=>hJ _ h) h
     ·exact h.elim
    ·split at h
     ·rename_i e1 e2 e3 e4 e5;(try simp only[e1,e2,e3,e4,e5]);exact fm (λh=>hJ _ h) h
     ·exact h.elim
    ·split at h
     ·rename_i e1 e2 e3 e4 e5;(try simp only[e1,e2,e3,e4,e5]);exact fm (λh=>hJ _ h) h
     ·exact h.elim
    ·exact h.elim
   ·exact h.elim
  ·exact h.elim
 ·exact h.elim
omit [Gl]in
theorem yX {s f:Nat}{x:AV}(h:qL δ s f x ob J):qL δ s f x cc J':=by
 unfold qL at*;split at h
 ·split at h
  ·split at h
   ·rename_i e;(try simp only[e]);exact hJ _ h
   ·exact h.elim
  ·exact h.elim
 ·exact h.elim
omit [Gl]in
theorem yY {t:Nat}{ps:List (Nat×AV)}(h:qO δ t ps ob J):qO δ t ps cc J':=by
 unfold qO at*;split at h
 ·try simp only[]
  split at h
  ·rename_i hsh;try simp only[]
   split at h
   ·rename_i e;(try simp only[e]);split at h
    ·rename_i e;(try simp only[e]);exact hJ _ h
    ·exact h.elim
   ·exact h.elim
  ·rename_i hsh;try simp only[]
   split at h
   ·rename_i e;(try simp only[e]);split at h
    ·rename_i e;(try simp only[e]);exact hJ _ h
    ·exact h.elim
   ·exact h.elim
  ·exact h.elim
 ·exact h.elim
omit [Gl]in
theorem ER {op:UnOp}{x:AV}(h:N1 op x ob J):N1 op x cc J':=by
 unfold N1 at*;split at h
 ·exact hJ _ h
 ·exact hJ _ h
 ·exact hJ _ h
 ·exact h.elim
omit [Gl]in
theorem Ay {d:Nat}{x:AV}(h:w8 δ d x ob J):w8 δ d x cc J':=by
 unfold w8 at*;split at h
 ·try simp only[]
  split at h
  ·rename_i e;(try simp only[e]);exact hJ _ h
  ·rename_i e;(try simp only[e]);exact hJ _ h
  ·exact h.elim
 ·exact h.elim
omit [Gl]in
theorem yZ {x:AV}(ha:aZ (kj x) ob cc)(h:qQ x ob J):qQ x cc J':=by
 unfold qQ at*;split at h
 ·rename_i o off;try simp only[]
  rw[<-kF (ha o (by simp[kj]))];split at h
  ·rename_i e;(try simp only[e]);exact hJ _ h
  ·exact h.elim
 ·exact hJ _ h
 ·exact hJ _ h
 ·exact hJ _ h
 ·exact hJ _ h
 ·exact h.elim
theorem ES {o:Op}{env:List AV}(hq:fB o=true)(ha:aZ (uT o env) ob cc)(h:zO P δ o env ob J):zO P δ o env cc J':=by
 unfold zO at*;split at h;all_goals try(cases hq;done)
 ·exact hJ _ h
 ·exact hJ _ h
 ·split at h
  ·rename_i e;(try simp only[e]);exact Dx (hJ _) (hJ _) h
  ·exact h.elim
 ·split at h
  ·rename_i e;(try simp only[e]);exact yY hJ h
  ·exact h.elim
 ·split at h
  ·rename_i e;(try simp only[e]);exact Ax hJ ha h
  ·exact h.elim
 ·exact yZ hJ ha h
 ·exact CB hJ (λp hp=>ha p (by simp only[uT,dg];exact List.mem_append_left _ hp)) h
 ·exact ER hJ h
 ·split at h
  ·rename_i e;(try simp only[e]);exact Ay hJ h
  ·exact h.elim
 ·split at h
  ·try simp only[]
   split at h
   ·exact h.elim
   ·rename_i e;(try simp only[e]);exact hJ _ h
  ·exact h.elim
 ·exact hJ _ h
 ·exact yW hJ h
 ·exact rE hJ ha h
 ·exact yX hJ h
 ·exact rF hJ ha h
 ·exact yV hJ h
 ·split at h
  ·rename_i e;(try simp only[e]);exact wJ hJ ha h
  ·exact h.elim
 ·rename_i t i;revert h;cases dU env t<;>intro h
  case cI vs=>
   dsimp only at h⊢
   cases hn:nth vs i with
   |some v=>rw[hn]at h;exact hJ _ h
   |none=>rw[hn]at h;exact h.elim
  all_goals exact(show False from h).elim
 ·rename_i c;obtain⟨callee,args,ats⟩:=c;simp only[fB]at hq;simp only at h⊢;split at hq
  ·simp only[jL]at h⊢;split at h
   ·rename_i t x tP hargs
    (try simp only[tP,hargs])
    refine Cz hJ (λp hp=>ha p ?_) h;simp only[uT];have:∃y,args.toList=[y]/\dU env y=x:=by
     simp only[sB,dR]at hargs
     cases hl:args.toList with
     |nil=>rw[hl]at hargs;cases hargs
     |cons y l=>
      rw[hl]at hargs
      cases l with
      |nil=>simp at hargs;exact⟨y,rfl,hargs⟩
      |cons z l=>simp at hargs
    obtain⟨y,hy,rfl⟩:=this;rw[hy];exact hp
   ·exact h.elim
  ·simp only[jL]at h⊢;split at h
   ·rename_i t x tP hargs
    (try simp only[tP,hargs])
    exact CA hJ h
   ·exact h.elim
  ·cases hq
 ·exact h.elim
end
end Go.bA
end
section
namespace Go.bA
variable [Gl]
def qh (acc:List (List Nat)):List Edge->List Nat
 |[]=>[]
 |e::es=>match Region.binds .any e with
  |true=>e.on::e_ (match nth acc e.on with|some l=>l|none=>[]) (qh acc es)
  |false=>qh acc es
def d_:List Oper->List (List Nat)->List (List Nat)
 |[],acc=>acc
 |o::l,acc=>d_ l (e_ acc [qh acc o.after.toList])
def rH (zK:List (List Nat))(i:Nat):List Nat:=match nth zK i with|some l=>l|none=>[]
def cX:Nat->List Oper->List Nat
 |_,[]=>[]
 |i,o::l=>match fB o.op with|true=>cX (i+1) l|false=>i::cX (i+1) l
def y3:List Nat->List Nat->Bool
 |[],_=>true
 |a::l,k=>match cB k a with|true=>y3 l k|false=>false
def ET:List Nat->List Nat->List Nat
 |[],_=>[]
 |a::l,k=>match cB k a with|true=>a::ET l k|false=>ET l k
def qi:Nat->List Oper->List (Nat×Oper)
 |_,[]=>[]
 |i,o::l=>(i,o)::qi (i+1) l
abbrev y4:=List (Nat×List Nat)
def jB:y4->Nat->Bool
 |[],_=>false
 |(a,_)::l,n=>match a==n with|true=>true|false=>jB l n
def qj (zK:List (List Nat))(mc done:List Nat)(i:Nat):Bool:=y3 (ET (rH zK i) mc) done
def y5 (all:List Oper)(o:Oper)(x:AV)(C:AV->Prop):Prop:=
 match x,o.dst with
 | .c (.bool (.th f)),some d=>match guards all d all with
  |true=>D6 (.th f) (λ_=>C (AB (.lit true))) (λ_=>C (AB (.lit false)))
  |false=>C (AB (.th f))
 |x,_=>C x
structure bZ (ps:List Nat)(ob cc:List AO)(B:Unit->Prop):Prop where
 mk::
 a:aZ ps ob cc
 b:B ()
def M1 (ps:List Nat)(ob cc:List AO)(B:Unit->Prop):Prop:=match ps with|[]=>B ()|p::ps=>bZ (p::ps) ob cc B
structure EE (A B:Unit->Prop):Prop where
 mk::
 l:A ()
 r:B ()
section
variable(P:Program)(δ:Nat->Option TD)(all:List Oper)(zK:List (List Nat))(mc:List Nat)
def M3 (done:List Nat)(ob:List AO):List (Nat×Oper)->y4->List AV->(y4->List AV->Prop)->Prop
 |[],D,env,K=>K D env
 |(i,o)::rest,D,env,K=>match jB D i||cB mc i|| !(qj zK mc done i)with
  |true=>M3 done ob rest D env K
  |false=>match Aj (ji all (fC (looks all o) 0 env) o.guard)with
   |some true=>aS P δ o.op (fC (looks all o) 0 env) ob λx=>y5 all o x λx=>M3 done ob rest ((i,uT o.op (fC (looks all o) 0 env))::D) (fO env o.dst x) K
   |some false=>M3 done ob rest ((i,[])::D) (fO env o.dst dP) K
   |none=>False
def pe (e:Nat):y4->List Nat
 |[]=>[]
 |(q,t)::D=>match cB (rH zK e) q with|true=>pe e D|false=>e_ t (pe e D)
def Az (done:List Nat):List Nat->List Nat
 |[]=>[]
 |e::es=>match cB done e|| !(qj zK mc done e)with|true=>Az done es|false=>e::Az done es
def Dy (rec:List Nat->y4->List AV->List AO->Prop)(done:List Nat)(D:y4)(env:List AV)(ob:List AO)(e:Nat):Prop:=
 match nth all e with
 |some o=>match Aj (ji all (fC (looks all o) 0 env) o.guard)with
  |some true=>zO P δ o.op (fC (looks all o) 0 env) ob λx cc=>y5 all o x λx=>M1 (pe zK e D) ob cc λ_=>rec (e::done) D (fO env o.dst x) cc
  |some false=>rec (e::done) D (fO env o.dst dP) ob
  |none=>False
 |none=>False
def uU (f:Nat->Prop):List Nat->Prop
 |[]=>False
 |[e]=>f e
 |e::e'::es=>EE (λ_=>f e) (λ_=>uU f (e'::es))
def QM (rec:List Nat->y4->List AV->List AO->Prop)(done:List Nat)(D:y4)(env:List AV)(ob:List AO)(Q:List AV->List AO->Prop):Prop:=
 match y3 mc done with
 |true=>Q env ob
 |false=>uU (Dy P δ all zK rec done D env ob) (Az zK mc done mc)
def dx:Nat->List Nat->y4->List AV->List AO->(List AV->List AO->Prop)->Prop
 |0,_,_,_,_,_=>False
 |n+1,done,D,env,ob,Q=>M3 P δ all zK mc done ob (qi 0 all) D env λD env=>QM P δ all zK mc (λdone D env ob=>dx n done D env ob Q) done D env ob Q
end
omit [Gl]in
theorem qk {l k:List Nat}:y3 l k=true↔∀x∈l,x∈k:=by
 induction l with
 |nil=>simp[y3]
 |cons a l ih=>
  simp only[y3]
  cases h:cB k a with
  |true=>simp[ih,cD.1 h]
  |false=>
   simp;intro h';rw[cD.2 h']at h;cases h
omit [Gl]in
theorem uV {l k:List Nat}{x:Nat}:x∈ET l k↔x∈l/\x∈k:=by
 induction l with
 |nil=>simp[ET]
 |cons a l ih=>
  simp only[ET]
  cases h:cB k a with
  |true=>
   have:=cD.1 h;simp only[List.mem_cons,ih];constructor
   ·rintro(rfl|⟨h1,h2⟩)
    ·exact⟨.inl rfl,this⟩
    ·exact⟨.inr h1,h2⟩
   ·rintro⟨rfl|h1,h2⟩
    ·exact .inl rfl
    ·exact .inr ⟨h1,h2⟩
  |false=>
   rw[ih];constructor
   ·rintro⟨h1,h2⟩;exact⟨List.mem_cons_of_mem _ h1,h2⟩
   ·rintro⟨h1,h2⟩;rcases List.mem_cons.1 h1 with rfl|h1
    ·rw[cD.2 h2]at h;cases h
    ·exact⟨h1,h2⟩
omit [Gl]in
theorem gp {zK:List (List Nat)}{mc done:List Nat}{i:Nat}:qj zK mc done i=true↔∀x∈rH zK i,x∈mc->x∈done:=by
 unfold qj;rw[qk];exact⟨λh x h1 h2=>h x (uV.2 ⟨h1,h2⟩),λh x hx=>h x (uV.1 hx).1 (uV.1 hx).2⟩
omit [Gl]in
theorem eE {D:y4}{q n:Nat}{t:List Nat}:jB ((q,t)::D) n=true↔q=n\/jB D n=true:=by
 simp only[jB];split
 ·rename_i h;simp[show q=n by simpa using h]
 ·rename_i h;simp[show¬q=n by simpa using h]
omit [Gl]in
theorem uW {D:y4}{n:Nat}:jB D n=true↔∃t,(n,t)∈D:=by
 induction D with
 |nil=>simp[jB]
 |cons a D ih=>
  obtain⟨q,t⟩:=a;rw[eE,ih];constructor
  ·rintro(rfl|⟨t',h⟩)
   ·exact⟨t,List.mem_cons_self⟩
   ·exact⟨t',List.mem_cons_of_mem _ h⟩
  ·rintro⟨t',h⟩;rcases List.mem_cons.1 h with h|h
   ·cases h;exact .inl rfl
   ·exact .inr ⟨t',h⟩
omit [Gl]in
theorem AA:∀(l:List Oper)(k j:Nat),(qi k l)[j]?=(l[j]?).map λo=>(k+j,o)
 |[],k,j=>by simp[qi]
 |o::l,k,0=>by simp[qi]
 |o::l,k,j+1=>by simp[qi,AA l (k+1) j];cases l[j]?<;>simp<;>omega
omit [Gl]in
theorem rI:∀(l:List Oper)(k i:Nat),i∈cX k l↔∃j o,l[j]?=some o/\i=k+j/\fB o.op=false
 |[],k,i=>by simp[cX]
 |o::l,k,i=>by
  have ih:=rI l (k+1) i;simp only[cX];have key:(∃j o',(o::l)[j]?=some o'/\i=k+j/\fB o'.op=false)↔(i=k/\fB o.op=false)\/∃j o',l[j]?=some o'/\i=k+1+j/\fB o'.op=false:=by
   constructor
   ·rintro⟨j,o',h1,h2,h3⟩
    cases j with
    |zero=>simp at h1;subst h1;exact .inl ⟨by omega,h3⟩
    |succ j=>exact .inr ⟨j,o',by simpa using h1,by omega,h3⟩
   ·rintro(⟨h1,h2⟩|⟨j,o',h1,h2,h3⟩)
    ·exact⟨0,o,rfl,by omega,h2⟩
    ·exact⟨j+1,o',by simpa using h1,by omega,h3⟩
  rw[key,<-ih]
  cases h:fB o.op with
  |true=>simp
  |false=>simp
omit [Gl]in
theorem me (ops:List Oper):∀(l:List Oper)(acc:List (List Nat))(pre:List Oper),ops=pre++l->acc.length=pre.length->(∀(i:Nat) o,pre[i]?=some o->acc[i]?=some (qh (acc.take i) o.after.toList))->
  (d_ l acc).length=ops.length/\∀(i:Nat) o,ops[i]?=some o->(d_ l acc)[i]?=some (qh ((d_ l acc).take i) o.after.toList)
 |[],acc,pre,h,hl,hp=>by
  simp only[List.append_nil]at h;subst h;exact⟨hl,hp⟩
 |o::l,acc,pre,h,hl,hp=>by
  simp only[d_,dg];refine me ops l (acc++[qh acc o.after.toList]) (pre++[o]) (by rw[h];simp) (by simp[hl]) λi o' ho=> ?_;rcases Nat.lt_or_ge i pre.length with hi|hi
  ·rw[List.getElem?_append_left hi]at ho;rw[List.getElem?_append_left (by omega),List.take_append_of_le_length (by omega)];exact hp i o' ho
  ·rw[List.getElem?_append_right hi]at ho;have:i=pre.length:=by
    have:=(List.getElem?_eq_some_iff.1 ho).1;simp at this;omega
   subst this;simp at ho;subst ho;rw[List.getElem?_append_right (by omega),hl,Nat.sub_self,<-hl,List.take_append_of_le_length (Nat.le_refl _),List.take_length]
   rfl
omit [Gl]in
theorem lC {acc:List (List Nat)}:∀{es:List Edge}{j:Nat},j∈qh acc es↔∃e∈es,Region.binds .any e=true/\(j=e.on\/∃l,acc[e.on]?=some l/\j∈l)
 |[],j=>by simp[qh]
 |e::es,j=>by
  simp only[qh]
  cases h:Region.binds .any e with
  |true=>
   simp only[dg,List.mem_cons,List.mem_append,lC (es:=es),cq];constructor
   ·rintro(rfl|h1|⟨e',h1,h2⟩)
    ·exact⟨e,.inl rfl,h,.inl rfl⟩
    ·refine⟨e,.inl rfl,h,.inr ?_⟩
     cases ha:acc[e.on]? with
     |none=>rw[ha]at h1;simp at h1
     |some l=>rw[ha]at h1;exact⟨l,rfl,h1⟩
    ·exact⟨e',.inr h1,h2⟩
   ·rintro⟨e',rfl|h1,h2,h3⟩
    ·rcases h3 with rfl|⟨l,h4,h5⟩
     ·exact .inl rfl
     ·right;left;rw[h4];exact h5
    ·exact .inr (.inr ⟨e',h1,h2,h3⟩)
  |false=>
   rw[lC (es:=es)];constructor
   ·rintro⟨e',h1,h2⟩;exact⟨e',List.mem_cons_of_mem _ h1,h2⟩
   ·rintro⟨e',h1,h2,h3⟩;rcases List.mem_cons.1 h1 with rfl|h1
    ·rw[h]at h2;cases h2
    ·exact⟨e',h1,h2,h3⟩
section
variable{P:Program}{δ:Nat->Option TD}{ops:Array Oper}{F:Nat->Prop}
omit [Gl]in
theorem pg {i:Nat}{oi:Oper}(hi:ops[i]?=some oi){e:Edge}(he:e∈oi.after)(hb:Region.binds .any e=true):e.on∈rH (d_ ops.toList []) i:=by
 obtain⟨_,h2⟩:=me ops.toList ops.toList [] [] rfl rfl (λi o h=>by simp at h);have:=h2 i oi (by simpa using hi);unfold rH;rw[cq,this];exact lC.2 ⟨e,by simpa using he,hb,.inl rfl⟩
omit [Gl]in
theorem EU {i:Nat}{oi:Oper}(hi:ops[i]?=some oi){e:Edge}(he:e∈oi.after)(hb:Region.binds .any e=true)(hlt:e.on<i){j:Nat}(hj:j∈rH (d_ ops.toList []) e.on):j∈rH (d_ ops.toList []) i:=by
 obtain⟨_,h2⟩:=me ops.toList ops.toList [] [] rfl rfl (λi o h=>by simp at h);have:=h2 i oi (by simpa using hi);unfold rH at hj⊢;rw[cq]at hj⊢;rw[this]
 cases ha:(d_ ops.toList [])[e.on]? with
 |none=>rw[ha]at hj;cases hj
 |some l=>
  rw[ha]at hj;exact lC.2 ⟨e,by simpa using he,hb,.inr ⟨l,by rw[List.getElem?_take,if_pos hlt];exact ha,hj⟩⟩
def Hf (ops:Array Oper)(listed:Array Bool):Prop:=∀i oi,ops[i]?=some oi->listed.getD i false=true->∀e∈oi.after,Region.binds .any e=true->listed.getD e.on false=true
omit [Gl]in
theorem pn {listed:Array Bool}(hs:Hf ops listed):∀(i:Nat)(oi:Oper),ops[i]?=some oi->(∀e∈oi.after,Region.binds .any e=true->listed.getD e.on false=true)->∀j∈rH (d_ ops.toList []) i,listed.getD j false=true:=by
 intro i
 induction i using Nat.strongRecOn with
 |_ i ih=>
  intro oi hi hd j hj;obtain⟨h1,h2⟩:=me ops.toList ops.toList [] [] rfl rfl (λi o h=>by simp at h);have h3:=h2 i oi (by simpa using hi);unfold rH at hj;rw[cq,h3]at hj;obtain⟨e,he,hb,rfl|⟨l,hl,hj⟩⟩:=lC.1 hj
  ·exact hd e (by simpa using he) hb
  ·rw[List.getElem?_take]at hl;split at hl
   ·rename_i hlt;have hle:=hd e (by simpa using he) hb;have hlt':e.on<ops.size:=by
     have:=(Array.getElem?_eq_some_iff.1 hi).1;omega
    refine ih e.on hlt _ (Array.getElem?_eq_getElem hlt') (hs e.on _ (Array.getElem?_eq_getElem hlt') hle) j ?_;unfold rH;rw[cq,hl];exact hj
   ·cases hl
def YQ (P:Program)(δ:Nat->Option TD)(ops:Array Oper)(o:Oper)(x:AV)(e:List AV)(t:List Nat)(ob:List AO):Prop:=
 (Aj (ji ops.toList (fC (looks ops.toList o) 0 e) o.guard)=some true/\fB o.op=true/\t=uT o.op (fC (looks ops.toList o) 0 e)/\
  ∃x0,(∀J:AV->List AO->Prop,J x0 ob->zO P δ o.op (fC (looks ops.toList o) 0 e) ob J)/\(∀w F μ v,VR w F μ x0 v->VR w F μ x v))\/
 (Aj (ji ops.toList (fC (looks ops.toList o) 0 e) o.guard)=some false/\x=dP)
structure oz (P:Program)(δ:Nat->Option TD)(ops:Array Oper)(F:Nat->Prop)(iu:List AV)(ds:List Deferred)(w0:World)(jE:Mu)(done:List Nat)(D:y4)(dt:Nat->Option AV)(env:List AV)(ob:List AO)(μ:Mu)(listed:Array Bool)(a:Act)(w:World):Prop where
 size:listed.size=ops.size
 tmps:a.tmps.size=iu.length
 wK:env.length=iu.length
 ds:a.defers=ds
 st:St w F μ ob
 ext:Ext w0 jE w μ
 shut:Hf ops listed
 oA:∀e,cB (cX 0 ops.toList) e=true->(listed.getD e false=true↔e∈done)
 oH:∀e∈done,cB (cX 0 ops.toList) e=true
 jC:∀i oi,ops[i]?=some oi->cB (cX 0 ops.toList) i=false->listed.getD i false=true->jB D i=true
 uX:∀q,jB D q=true->cB (cX 0 ops.toList) q=false/\qj (d_ ops.toList []) (cX 0 ops.toList) done q=true
 closed:∀q oq,jB D q=true->ops[q]?=some oq->∀e∈oq.after,Region.binds .any e=true->cB (cX 0 ops.toList) e.on=false->jB D e.on=true
 ql:∀t v j oj x,a.tmps[t]?=some v->ops[j]?=some oj->oj.dst=some t->listed.getD j false=true->dt j=some x->VR w F μ x v
 qm:∀t v,a.tmps[t]?=some v->(∀j oj,ops[j]?=some oj->oj.dst=some t->listed.getD j false=false)->∀x,iu[t]?=some x->VR w F μ x v
 wL:∀t x,env[t]?=some x->(∃j oj,ops[j]?=some oj/\oj.dst=some t/\(jB D j=true\/j∈done)/\dt j=some x)\/((∀j oj,ops[j]?=some oj->oj.dst=some t->jB D j=false/\j∉done)/\iu[t]?=some x)
 M4:∀q,jB D q=true->∃x,dt q=some x
 M5:∀q∈done,∃x,dt q=some x
 AD:∀q t,(q,t)∈D->listed.getD q false=false->∃oq x e,ops[q]?=some oq/\dt q=some x/\e.length=iu.length/\YQ P δ ops oq x e t ob/\
  ∀s y,e[s]?=some y->cB (looks ops.toList oq) s=true->(∃j oj,ops[j]?=some oj/\oj.dst=some s/\(∃e'∈oq.after,Region.binds .any e'=true/\e'.on=j)/\dt j=some y)\/
   ((∀j oj,ops[j]?=some oj->oj.dst=some s->j=q\/∃e'∈oj.after,Region.binds .any e'=true/\e'.on=q)/\iu[s]?=some y)
variable{iu:List AV}{ds:List Deferred}{w0:World}{jE:Mu}{done:List Nat}{D:y4}{dt:Nat->Option AV}{env:List AV}{ob:List AO}{μ:Mu}{listed:Array Bool}{a:Act}{w:World}
def Ou (dt:Nat->Option AV)(i:Nat)(x:AV):Nat->Option AV:=λj=>if j=i then some x else dt j
omit [Gl]in
theorem lD {i:Nat}{x:AV}:Ou dt i x i=some x:=by simp[Ou]
omit [Gl]in
theorem iN {i j:Nat}{x:AV}(h:j≠i):Ou dt i x j=dt j:=by simp[Ou,h]
omit [Gl]in
theorem AF {env:List AV}{d:Option Nat}{x y:AV}{t:Nat}(h:(fO env d x)[t]?=some y):(d=some t/\y=x)\/(d≠some t/\env[t]?=some y):=by
 cases d with
 |none=>exact .inr ⟨by simp,h⟩
 |some d=>
  simp only[fO,cJ]at h;by_cases e:d=t
  ·subst e;have hl:d<env.length:=by
    have:=(List.getElem?_eq_some_iff.1 h).1;simpa using this
   rw[List.getElem?_set_self hl]at h;exact .inl ⟨rfl,(Option.some.inj h).symm⟩
  ·rw[List.getElem?_set_ne e]at h;exact .inr ⟨by simpa using e,h⟩
omit [Gl]in
theorem AG {env:List AV}{d:Option Nat}{x:AV}:(fO env d x).length=env.length:=by cases d<;>simp[fO,cJ]
omit [Gl]in
theorem Hg {i:Nat}{oi:Oper}(hi:ops[i]?=some oi){e:Edge}(he:e∈oi.after)(hb:Region.binds .any e=true)(hlt:e.on<i){mc:List Nat}(h:qj (d_ ops.toList []) mc done i=true):qj (d_ ops.toList []) mc done e.on=true:=
 gp.2 λx h1 h2=>gp.1 h x (EU hi he hb hlt h1) h2
theorem oz.det (hB:l_ ops.toList=true)(I:oz P δ ops F iu ds w0 jE done D dt env ob μ listed a w){i:Nat}{o:Oper}(hi:ops[i]?=some o)(h1:jB D i=false)(h2:cB (cX 0 ops.toList) i=false)(h3:qj (d_ ops.toList []) (cX 0 ops.toList) done i=true)
  (hp:∀j oj,j<i->ops[j]?=some oj->cB (cX 0 ops.toList) j=false->qj (d_ ops.toList []) (cX 0 ops.toList) done j=true->jB D j=true) {x:AV} {t:List Nat} (hy:YQ P δ ops o x env t ob):
  oz P δ ops F iu ds w0 jE done ((i,t)::D) (Ou dt i x) (fO env o.dst x) ob μ listed a w:=by
 have hnl:listed.getD i false=false:=by
  cases hl:listed.getD i false with
  |false=>rfl
  |true=>rw[I.jC i o hi h2 hl]at h1;cases h1
 have hD:∀j,jB D j=true->j≠i:=λj h e=>by subst e;rw[h1]at h;cases h
 have hE:∀j,j∈done->j≠i:=λj h e=>by subst e;rw[I.oH j h]at h2;cases h2
 obtain⟨XV,XW⟩:=eG hB hi;refine{size:=I.size,tmps:=I.tmps,wK:=by rw[AG];exact I.wK,ds:=I.ds,st:=I.st,ext:=I.ext,shut:=I.shut,oA:=I.oA,oH:=I.oH,jC:=λj oj hj h4 h5=>eE.2 (.inr (I.jC j oj hj h4 h5)),uX:= ?_,closed:= ?_,ql:= ?_,qm:=I.qm,wL:= ?_,M4:= ?_,M5:=λq hq=>by rw[iN (hE q hq)];exact I.M5 q hq,AD:= ?_}
 ·intro q hq;rcases eE.1 hq with rfl|hq
  ·exact⟨h2,h3⟩
  ·exact I.uX q hq
 ·intro q oq hq hoq e he hb XX;rcases eE.1 hq with rfl|hq
  ·rw[hi]at hoq;cases hoq;have hlt:=XV e he hb;have hlt':e.on<ops.size:=by have:=(Array.getElem?_eq_some_iff.1 hi).1;omega
   exact eE.2 (.inr (hp e.on _ hlt (Array.getElem?_eq_getElem hlt') XX (Hg hi he hb hlt h3)))
  ·exact eE.2 (.inr (I.closed q oq hq hoq e he hb XX))
 ·intro s v j oj y hv hj hd hl hdt;have hne:j≠i:=λe=>by subst e;rw[hnl]at hl;cases hl
  rw[iN hne]at hdt;exact I.ql s v j oj y hv hj hd hl hdt
 ·intro s y hs;rcases AF hs with⟨g1,g2⟩|⟨g1,g2⟩
  ·subst g2;exact .inl ⟨i,o,hi,g1,.inl (eE.2 (.inl rfl)),lD⟩
  ·rcases I.wL s y g2 with⟨j,oj,a1,a2,a3,a4⟩|⟨a1,a2⟩
   ·have hne:j≠i:=by rcases a3 with a3|a3;exact hD j a3;exact hE j a3
    exact .inl ⟨j,oj,a1,a2,a3.imp (λh=>eE.2 (.inr h)) id,by rw[iN hne];exact a4⟩
   ·refine .inr ⟨λj oj hj hd=> ?_,a2⟩;obtain⟨b1,b2⟩:=a1 j oj hj hd;refine⟨?_,b2⟩
    cases hm:jB ((i,t)::D) j with
    |false=>rfl
    |true=>
     rcases eE.1 hm with rfl|hm
     ·rw[hi]at hj;cases hj;exact(g1 hd).elim
     ·rw[b1]at hm;cases hm
 ·intro q hq;rcases eE.1 hq with rfl|hq
  ·exact⟨x,lD⟩
  ·rw[iN (hD q hq)];exact I.M4 q hq
 ·intro q s hq hl;rcases List.mem_cons.1 hq with hq|hq
  ·cases hq;refine⟨o,x,env,hi,lD,I.wK,hy,λs y hs hm=> ?_⟩;rcases I.wL s y hs with⟨j,oj,a1,a2,a3,a4⟩|⟨a1,a2⟩
   ·have hne:j≠i:=by rcases a3 with a3|a3;exact hD j a3;exact hE j a3
    rcases(XW j oj a1 hne s a2).2 hm with⟨e,b1,b2,b3⟩|⟨e,b1,b2,b3⟩
    ·exact .inl ⟨j,oj,a1,a2,⟨e,b1,b2,b3⟩,by rw[iN hne];exact a4⟩
    ·exfalso;rcases a3 with a3|a3
     ·have:=I.closed j oj a3 a1 e b1 b2 (by rw[b3];exact h2);rw[b3,h1]at this;cases this
     ·have:=I.shut j oj a1 ((I.oA j (I.oH j a3)).2 a3) e b1 b2;rw[b3,hnl]at this;cases this
   ·refine .inr ⟨λj oj hj hd=> ?_,a2⟩;by_cases hne:j=i
    ·exact .inl hne
    ·right;rcases(XW j oj hj hne s hd).2 hm with⟨e,b1,b2,b3⟩|⟨e,b1,b2,b3⟩
     ·exfalso;obtain⟨c1,c2⟩:=a1 j oj hj hd;have hlt:=XV e b1 b2
      cases hme:cB (cX 0 ops.toList) j with
      |true=>exact c2 (gp.1 h3 j (by rw[<-b3];exact pg hi b1 b2) (cD.1 hme))
      |false=>
       have:=hp j oj (by omega) hj hme (by rw[<-b3];exact Hg hi b1 b2 hlt h3);rw[c1]at this;cases this
     ·exact⟨e,b1,b2,b3⟩
  ·obtain⟨oq,x',e,c1,c2,c3,c4,c5⟩:=I.AD q s hq hl;have QN:jB D q=true:=uW.2 ⟨s,hq⟩;refine⟨oq,x',e,c1,by rw[iN (hD q QN)];exact c2,c3,c4,λs' y hs hm=> ?_⟩;rcases c5 s' y hs hm with⟨j,oj,b1,b2,⟨e',b3,b4,b5⟩,b6⟩|h
   ·have hne:j≠i:=λe0=>by
     subst e0;have:=I.closed q oq QN c1 e' b3 b4 (by rw[b5];exact h2);rw[b5,h1]at this;cases this
    exact .inl ⟨j,oj,b1,b2,⟨e',b3,b4,b5⟩,by rw[iN hne];exact b6⟩
   ·exact .inr h
omit [Gl]in
theorem uY {all:List Oper}{o:Oper}{x:AV}{C:AV->Prop}(h:y5 all o x C):∃x',C x'/\∀(w:World)(F:Nat->Prop)(μ:Mu) v,VR w F μ x v->VR w F μ x' v:=by
 unfold y5 at h;split at h
 ·rename_i f d hd;split at h
  ·obtain⟨k1,k2⟩:=ko h
   cases hb:(Th.th f).den with
   |true=>exact⟨_,k1 hb,λw F μ v hv=>by cases hv with|c hv=>cases hv;rw[hb];exact VR.b (.lit true)⟩
   |false=>exact⟨_,k2 hb,λw F μ v hv=>by cases hv with|c hv=>cases hv;rw[hb];exact VR.b (.lit false)⟩
  ·exact⟨_,h,λ_ _ _ _ hv=>hv⟩
 ·exact⟨_,h,λ_ _ _ _ hv=>hv⟩
def Dz (ops:Array Oper)(done:List Nat)(D:y4):Prop:=∀j oj,ops[j]?=some oj->cB (cX 0 ops.toList) j=false->qj (d_ ops.toList []) (cX 0 ops.toList) done j=true->jB D j=true
omit [Gl]in
theorem Hh {i:Nat}{o:Oper}(hi:ops[i]?=some o)(h:cB (cX 0 ops.toList) i=false):fB o.op=true:=by
 cases hq:fB o.op with
 |true=>rfl
 |false=>
  have:=(rI ops.toList 0 i).2 ⟨i,o,by simpa using hi,by omega,hq⟩;rw[cD.2 this]at h;cases h
theorem pass (hB:l_ ops.toList=true){K:y4->List AV->Prop}:∀(rest:List (Nat×Oper))(k:Nat)(D:y4)(dt:Nat->Option AV)(env:List AV),rest=(qi 0 ops.toList).drop k->oz P δ ops F iu ds w0 jE done D dt env ob μ listed a w->
  (∀j oj,j<k->ops[j]?=some oj->cB (cX 0 ops.toList) j=false->qj (d_ ops.toList []) (cX 0 ops.toList) done j=true->jB D j=true)->
  M3 P δ ops.toList (d_ ops.toList []) (cX 0 ops.toList) done ob rest D env K->∃D' Ov env',oz P δ ops F iu ds w0 jE done D' Ov env' ob μ listed a w/\Dz ops done D'/\K D' env'
 |[],k,D,dt,env,hr,I,hp,h=>by
  refine⟨D,dt,env,I,λj oj hj h1 h2=>hp j oj ?_ hj h1 h2,h⟩;have hl:((qi 0 ops.toList).drop k).length=0:=by rw[<-hr];rfl
  have hlen:∀(l:List Oper)(m:Nat),(qi m l).length=l.length:=λl=>by
   induction l with
   |nil=>intro m;rfl
   |cons o l ih=>intro m;simp[qi,ih]
  rw[List.length_drop,hlen]at hl;have:=(Array.getElem?_eq_some_iff.1 hj).1;simp at hl;omega
 |(i,o)::rest,k,D,dt,env,hr,I,hp,h=>by
  have h0:(qi 0 ops.toList)[k]?=some (i,o):=by
   have:=congrArg (λl=>l[0]?) hr;simp only[List.getElem?_cons_zero,List.getElem?_drop,Nat.add_zero]at this;exact this.symm
  rw[AA]at h0;obtain⟨o',ho',he⟩:=Option.map_eq_some_iff.1 h0;simp only[Nat.zero_add,Prod.mk.injEq]at he;obtain⟨rfl,rfl⟩:=he;have hi:ops[k]?=some o':=by simpa using ho'
  have hr':rest=(qi 0 ops.toList).drop (k+1):=by
   rw[<-List.drop_drop,<-hr];rfl
  simp only[M3]at h;split at h
  ·rename_i hc;refine pass hB rest (k+1) D dt env hr' I (λj oj hj wE h1 h2=> ?_) h;rcases Nat.lt_or_ge j k with hlt|hge
   ·exact hp j oj hlt wE h1 h2
   ·have:j=k:=by omega
    subst this;rw[h1,h2]at hc;simpa using hc
  ·rename_i hc;simp only[Bool.or_eq_false_iff,Bool.not_eq_false']at hc;obtain⟨⟨g1,g2⟩,g3⟩:=hc;have next:∀(x:AV)(t:List Nat),YQ P δ ops o' x env t ob->M3 P δ ops.toList (d_ ops.toList []) (cX 0 ops.toList) done ob rest ((k,t)::D) (fO env o'.dst x) K->∃D' Ov env',oz P δ ops F iu ds w0 jE done D' Ov env' ob μ listed a w/\Dz ops done D'/\K D' env':=by
    intro x t hy h;refine pass hB rest (k+1) _ _ _ hr' (I.det hB hi g1 g2 g3 hp hy) (λj oj hj wE h1 h2=> ?_) h;rcases Nat.lt_or_ge j k with hlt|hge
    ·exact eE.2 (.inr (hp j oj hlt wE h1 h2))
    ·exact eE.2 (.inl (by omega))
   split at h
   ·rename_i hg;obtain⟨x0,x1,k1,k2,k3⟩:=h.out;obtain⟨x2,k4,k5⟩:=uY k3;exact next x2 _ (.inl ⟨hg,Hh hi g2,rfl,x0,k1,λw F μ v hv=>k5 _ _ _ _ (k2 _ _ _ _ hv)⟩) k4
   ·rename_i hg;exact next dP [] (.inr ⟨hg,rfl⟩) h
   ·exact h.elim
theorem FR.AH (I:oz P δ ops F iu ds w0 jE done D dt env ob μ listed a w){i:Nat}{oi:Oper}(hi:ops[i]?=some oi){e:List AV}(hel:e.length=iu.length)(hl:listed.getD i false=false)
  (xA:∀e'∈oi.after,Region.binds .any e'=true->listed.getD e'.on false=true)
  (hs:∀s y,e[s]?=some y->cB (looks ops.toList oi) s=true->(∃j oj,ops[j]?=some oj/\oj.dst=some s/\(∃e'∈oi.after,Region.binds .any e'=true/\e'.on=j)/\dt j=some y)\/
   ((∀j oj,ops[j]?=some oj->oj.dst=some s->j=i\/∃e'∈oj.after,Region.binds .any e'=true/\e'.on=i)/\iu[s]?=some y)):FR w F μ (fC (looks ops.toList oi) 0 e) a.tmps:=by
 refine⟨by rw[rB,hel];exact I.tmps,λs y v hy hv=> ?_⟩;rw[rA,Nat.zero_add]at hy
 cases tM:e[s]? with
 |none=>rw[tM]at hy;cases hy
 |some y0=>
  rw[tM]at hy;simp only[Option.map_some,Option.some.injEq]at hy
  cases hm:cB (looks ops.toList oi) s with
  |false=>rw[hm]at hy;subst hy;exact .bB
  |true=>
   rw[hm]at hy;simp only at hy;subst hy;rcases hs s y0 tM hm with⟨j,oj,b1,b2,⟨e',b3,b4,b5⟩,b6⟩|⟨b1,b2⟩
   ·exact I.ql s v j oj y0 hv b1 b2 (by rw[<-b5];exact xA e' b3 b4) b6
   ·refine I.qm s v hv (λj oj hj hd=> ?_) y0 b2
    cases M6:listed.getD j false with
    |false=>rfl
    |true=>
     rcases b1 j oj hj hd with rfl|⟨e',c1,c2,c3⟩
     ·rw[hl]at M6;cases M6
     ·have:=I.shut j oj hj M6 e' c1 c2;rw[c3,hl]at this;cases this
omit [Gl]in
theorem EV {listed:Array Bool}{i fuel:Nat}(FX:i<listed.size)(oy:listed.getD i false=false)(hf:(listed.toList.filter (λb=> !b)).length<=fuel+1):((listed.setIfInBounds i true).toList.filter (λb=> !b)).length<=fuel:=by
 have hfl:listed.toList[i]?=some false:=by
  simp[FX]at oy;rw[Array.getElem?_toList,Array.getElem?_eq_getElem FX,oy]
 have key:∀(l:List Bool)(i:Nat),l[i]?=some false->((l.set i true).filter (λb=> !b)).length+1=(l.filter (λb=> !b)).length:=by
  intro l
  induction l with
  |nil=>intro i h;simp at h
  |cons b l ih=>
   intro i h
   cases i with
   |zero=>simp at h;subst h;simp
   |succ i=>
    have:=ih i (by simpa using h);cases b<;>simp[List.set]at this⊢<;>omega
 have:=key listed.toList i hfl;rw[Array.toList_setIfInBounds];omega
omit [Gl]in
theorem tU {a:Act}{d:Option Nat}{v u:Value}{t:Nat}(h:(a.put d v).tmps[t]?=some u):(d=some t/\u=v)\/(d≠some t/\a.tmps[t]?=some u):=by
 cases d with
 |none=>exact .inr ⟨by simp,h⟩
 |some d=>
  simp only[Act.put]at h;by_cases e:d=t
  ·subst e;have hl:d<a.tmps.size:=by
    have:=(Array.getElem?_eq_some_iff.1 h).1;simpa using this
   rw[Array.getElem?_setIfInBounds_self_of_lt hl]at h;exact .inl ⟨rfl,(Option.some.inj h).symm⟩
  ·rw[Array.getElem?_setIfInBounds_ne e]at h;exact .inr ⟨by simpa using e,h⟩
omit [Gl]in
theorem AJ {a:Act}{d:Option Nat}{v:Value}:(a.put d v).tmps.size=a.tmps.size:=by cases d<;>simp[Act.put]
omit [Gl]in
theorem Hf.set (hs:Hf ops listed){i:Nat}{oi:Oper}(hi:ops[i]?=some oi)(xA:∀e∈oi.after,Region.binds .any e=true->listed.getD e.on false=true):Hf ops (listed.setIfInBounds i true):=by
 intro j oj wE hj e he hb;rcases iL hj with rfl|hj
 ·rw[hi]at wE;cases wE;exact getD_set_true (xA e he hb)
 ·exact getD_set_true (hs j oj wE hj e he hb)
theorem oz.quiet (hB:l_ ops.toList=true)(I:oz P δ ops F iu ds w0 jE done D dt env ob μ listed a w){i:Nat}{o:Oper}(hi:ops[i]?=some o)(xA:∀e∈o.after,Region.binds .any e=true->listed.getD e.on false=true)
  (h2:cB (cX 0 ops.toList) i=false) (hD:jB D i=true) {x:AV} (hx:dt i=some x) {v:Value} (hv:VR w F μ x v):oz P δ ops F iu ds w0 jE done D dt env ob μ (listed.setIfInBounds i true) (a.put o.dst v) w:=by
 have hlt:i<listed.size:=by rw[I.size];exact(Array.getElem?_eq_some_iff.1 hi).1
 refine{size:=by simp[I.size],tmps:=by rw[AJ];exact I.tmps,wK:=I.wK,ds:=by rw[put_defers];exact I.ds,st:=I.st,ext:=I.ext,shut:=I.shut.set hi xA,oA:= ?_,oH:=I.oH,jC:= ?_,uX:=I.uX,closed:=I.closed,ql:= ?_,qm:= ?_,wL:=I.wL,M4:=I.M4,M5:=I.M5,AD:= ?_}
 ·intro e he;have hne:i≠e:=λh=>by subst h;rw[h2]at he;cases he
  rw[getD_set_ne false hne];exact I.oA e he
 ·intro j oj hj h4 h5;rcases iL h5 with rfl|h5
  ·exact hD
  ·exact I.jC j oj hj h4 h5
 ·intro t u j oj y hu hj hd hl hdt;rcases tU hu with⟨g1,rfl⟩|⟨g1,g2⟩
  ·by_cases e:j=i
   ·subst e;rw[hx]at hdt;cases hdt;exact hv
   ·exact(((eG hB hi).2 j oj hj e t hd).1 g1).elim
  ·rcases iL hl with rfl|hl
   ·rw[hi]at hj;cases hj;exact(g1 hd).elim
   ·exact I.ql t u j oj y g2 hj hd hl hdt
 ·intro t u hu hn y hy;have DA:(listed.setIfInBounds i true).getD i false=true:=by simp[hlt]
  rcases tU hu with⟨g1,rfl⟩|⟨g1,g2⟩
  ·have:=hn i o hi g1;rw[DA]at this;cases this
  ·refine I.qm t u g2 (λj oj hj hd=> ?_) y hy
   cases hl:listed.getD j false with
   |false=>rfl
   |true=>
    have:=hn j oj hj hd;rw[getD_set_true hl]at this;cases this
 ·intro q t hq hl;refine I.AD q t hq ?_
  cases hl':listed.getD q false with
  |false=>rfl
  |true=>rw[getD_set_true hl']at hl;cases hl
theorem oz.cS (hB:l_ ops.toList=true)(I:oz P δ ops F iu ds w0 jE done D dt env ob μ listed a w){i:Nat}{o:Oper}(hi:ops[i]?=some o)(xA:∀e∈o.after,Region.binds .any e=true->listed.getD e.on false=true)
  (h2:cB (cX 0 ops.toList) i=true) (hn:listed.getD i false=false) {x:AV} {v:Value} {w':World} {bu:Mu} {cc:List AO} (hv:VR w' F bu x v) (hs:St w' F bu cc) (hx:Ext w μ w' bu) (ha:aZ (pe (d_ ops.toList []) i D) ob cc):
  oz P δ ops F iu ds w0 jE (i::done) D (Ou dt i x) (fO env o.dst x) cc bu (listed.setIfInBounds i true) (a.put o.dst v) w':=by
 have hlt:i<listed.size:=by rw[I.size];exact(Array.getElem?_eq_some_iff.1 hi).1
 have M7:∀j,jB D j=true->j≠i:=λj h e=>by
  subst e;have:=(I.uX j h).1;rw[h2]at this;cases this
 have BB:i∉done:=λh=>by rw[(I.oA i h2).2 h]at hn;cases hn
 have QO:∀j,j∈done->j≠i:=λj h e=>by subst e;exact BB h
 have DA:(listed.setIfInBounds i true).getD i false=true:=by simp[hlt]
 refine{size:=by simp[I.size],tmps:=by rw[AJ];exact I.tmps,wK:=by rw[AG];exact I.wK,ds:=by rw[put_defers];exact I.ds,st:=hs,ext:=I.ext.trans hx,shut:=I.shut.set hi xA,oA:= ?_,oH:= ?_,jC:= ?_,uX:= ?_,closed:=I.closed,ql:= ?_,qm:= ?_,wL:= ?_,M4:=λq hq=>by rw[iN (M7 q hq)];exact I.M4 q hq,M5:= ?_,AD:= ?_}
 ·intro e he;by_cases h:i=e
  ·subst h;simp[DA]
  ·rw[getD_set_ne false h,I.oA e he];simp only[List.mem_cons];exact⟨.inr,λh'=>by rcases h' with h'|h';exact(h h'.symm).elim;exact h'⟩
 ·intro e he;rcases List.mem_cons.1 he with rfl|he
  ·exact h2
  ·exact I.oH e he
 ·intro j oj hj h4 h5;rcases iL h5 with rfl|h5
  ·rw[h2]at h4;cases h4
  ·exact I.jC j oj hj h4 h5
 ·intro q hq;obtain⟨g1,g2⟩:=I.uX q hq;exact⟨g1,gp.2 λy h3 h4=>List.mem_cons_of_mem _ (gp.1 g2 y h3 h4)⟩
 ·intro t u j oj y hu hj hd hl hdt;rcases tU hu with⟨g1,rfl⟩|⟨g1,g2⟩
  ·by_cases e:j=i
   ·subst e;rw[lD]at hdt;cases hdt;exact hv
   ·exact(((eG hB hi).2 j oj hj e t hd).1 g1).elim
  ·rcases iL hl with rfl|La
   ·rw[hi]at hj;cases hj;exact(g1 hd).elim
   ·by_cases e:j=i
    ·subst e;rw[hn]at La;cases La
    ·rw[iN e]at hdt;exact(I.ql t u j oj y g2 hj hd La hdt).ext hx
 ·intro t u hu hno y hy;rcases tU hu with⟨g1,rfl⟩|⟨g1,g2⟩
  ·have:=hno i o hi g1;rw[DA]at this;cases this
  ·refine(I.qm t u g2 (λj oj hj hd=> ?_) y hy).ext hx
   cases hl:listed.getD j false with
   |false=>rfl
   |true=>
    have:=hno j oj hj hd;rw[getD_set_true hl]at this;cases this
 ·intro t y ht;rcases AF ht with⟨g1,g2⟩|⟨g1,g2⟩
  ·subst g2;exact .inl ⟨i,o,hi,g1,.inr List.mem_cons_self,lD⟩
  ·rcases I.wL t y g2 with⟨j,oj,a1,a2,a3,a4⟩|⟨a1,a2⟩
   ·have hne:j≠i:=by rcases a3 with a3|a3;exact M7 j a3;exact QO j a3
    exact .inl ⟨j,oj,a1,a2,a3.imp id (List.mem_cons_of_mem _),by rw[iN hne];exact a4⟩
   ·refine .inr ⟨λj oj hj hd=> ?_,a2⟩;obtain⟨b1,b2⟩:=a1 j oj hj hd;refine⟨b1,λhm=> ?_⟩;rcases List.mem_cons.1 hm with rfl|hm
    ·rw[hi]at hj;cases hj;exact g1 hd
    ·exact b2 hm
 ·intro q hq;rcases List.mem_cons.1 hq with rfl|hq
  ·exact⟨x,lD⟩
  ·rw[iN (QO q hq)];exact I.M5 q hq
 ·intro q t hq hl;have yT:listed.getD q false=false:=by
   cases hl':listed.getD q false with
   |false=>rfl
   |true=>rw[getD_set_true hl']at hl;cases hl
  have QN:jB D q=true:=uW.2 ⟨t,hq⟩;obtain⟨oq,x',e,c1,c2,c3,c4,c5⟩:=I.AD q t hq yT;refine⟨oq,x',e,c1,by rw[iN (M7 q QN)];exact c2,c3, ?_,λs y hs hm=> ?_⟩
  ·rcases c4 with⟨d1,d2,d3,x0,d4,d5⟩|h
   ·refine .inl ⟨d1,d2,d3,x0,λJ hJ=> ?_,d5⟩;refine ES (J:=λx' _=>J x' cc) (λ_ h=>h) d2 (λp hp=>ha p ?_) (d4 (λx' _=>J x' cc) hJ);have:cB (rH (d_ ops.toList []) i) q=false:=by
     cases hm:cB (rH (d_ ops.toList []) i) q with
     |false=>rfl
     |true=>
      have:=pn I.shut i o hi xA q (cD.1 hm);rw[yT]at this;cases this
    have key:∀(D:y4),(q,t)∈D->∀p∈t,p∈pe (d_ ops.toList []) i D:=by
     intro D
     induction D with
     |nil=>intro h;cases h
     |cons z D ih=>
      obtain⟨q',t'⟩:=z;intro h p hp;simp only[pe];rcases List.mem_cons.1 h with h|h
      ·cases h;rw[this];simp only[dg];exact List.mem_append_left _ hp
      ·split
       ·exact ih h p hp
       ·simp only[dg];exact List.mem_append_right _ (ih h p hp)
    exact key D hq p (by rw[d3];exact hp)
   ·exact .inr h
  ·rcases c5 s y hs hm with⟨j,oj,b1,b2,⟨e',b3,b4,b5⟩,b6⟩|h
   ·have hne:j≠i:=λe0=>by
     subst e0;have hr:=gp.1 (I.uX q QN).2 j (by rw[<-b5];exact pg c1 b3 b4) (cD.1 h2);exact BB hr
    exact .inl ⟨j,oj,b1,b2,⟨e',b3,b4,b5⟩,by rw[iN hne];exact b6⟩
   ·exact .inr h
omit [Gl]in
theorem qn {f:Nat->Prop}:∀{l:List Nat},uU f l->∀e∈l,f e
 |[],h,_,_=>h.elim
 |[e],h,e',he=>by rw[List.mem_singleton.1 he];exact h
 |e::e'::es,h,q,hq=>by
  rcases List.mem_cons.1 hq with rfl|hq
  ·exact h.l
  ·exact qn h.r q hq
omit [Gl]in
theorem rJ {zK:List (List Nat)}{mc done:List Nat}:∀{l:List Nat}{e:Nat},e∈l->cB done e=false->qj zK mc done e=true->e∈Az zK mc done l
 |[],_,h,_,_=>by cases h
 |a::l,e,h,h1,h2=>by
  simp only[Az];rcases List.mem_cons.1 h with rfl|h
  ·rw[h1,h2];exact List.mem_cons_self
  ·split
   ·exact rJ h h1 h2
   ·exact List.mem_cons_of_mem _ (rJ h h1 h2)
omit [Gl]in
theorem Hi {ps:List Nat}{ob cc:List AO}{B:Unit->Prop}(h:M1 ps ob cc B):aZ ps ob cc/\B ():=by
 unfold M1 at h;split at h
 ·exact⟨λp hp=>(by cases hp),h⟩
 ·exact⟨h.a,h.b⟩
theorem M8 (bw:cg P δ)(hB:l_ ops.toList=true){Q:List AV->List AO->Prop}{R:Exit->Act->World->Prop}
  (hR:∀(env:List AV)(ob:List AO)(μ:Mu)(a:Act)(w:World),Q env ob->FR w F μ env a.tmps->St w F μ ob->Ext w0 jE w μ->a.defers=ds->R .normal a w):
  ∀(fuel:Nat)(listed:Array Bool)(a:Act)(w:World)(n:Nat)(done:List Nat)(D:y4)(dt:Nat->Option AV)(env:List AV)(ob:List AO)(μ:Mu),oz P δ ops F iu ds w0 jE done D dt env ob μ listed a w->Dz ops done D->
   QM P δ ops.toList (d_ ops.toList []) (cX 0 ops.toList) (λdone D env ob=>dx P δ ops.toList (d_ ops.toList []) (cX 0 ops.toList) n done D env ob Q) done D env ob Q->
   (listed.toList.filter (λb=> !b)).length<=fuel->wpAny P .any ops R fuel listed a w:=by
 have fin:∀(listed:Array Bool)(a:Act)(w:World)(n:Nat)(done:List Nat)(D:y4)(dt:Nat->Option AV)(env:List AV)(ob:List AO)(μ:Mu),oz P δ ops F iu ds w0 jE done D dt env ob μ listed a w->Dz ops done D->
   QM P δ ops.toList (d_ ops.toList []) (cX 0 ops.toList) (λdone D env ob=>dx P δ ops.toList (d_ ops.toList []) (cX 0 ops.toList) n done D env ob Q) done D env ob Q->Region.ready .any ops listed=[]->R .normal a w:=by
  intro listed a w n done D dt env ob μ I hC h hr;have all:∀i,i<ops.size->listed.getD i false=true:=by
   intro i
   induction i using Nat.strongRecOn with
   |_ i ih=>
    intro hi;have ho:=Array.getElem?_eq_getElem hi
    cases hl:listed.getD i false with
    |true=>rfl
    |false=>
     exfalso;have:i∈Region.ready .any ops listed:=by
      refine mem_ready.2 ⟨?_,_,ho,λe he hb=> ?_⟩
      ·have hs:i<listed.size:=by rw[I.size];exact hi
       simp[hs]at hl⊢;exact hl
      ·have h1:=(eG hB ho).1 e he hb;exact ih e.on h1 (by omega)
     rw[hr]at this;cases this
  have Lw:∀e,cB (cX 0 ops.toList) e=true->e<ops.size:=by
   intro e he;obtain⟨j,o,h1,h2,_⟩:=(rI ops.toList 0 e).1 (cD.1 he);have:=(List.getElem?_eq_some_iff.1 h1).1;simp at this;omega
  have hall:y3 (cX 0 ops.toList) done=true:=qk.2 λe he=>(I.oA e (cD.2 he)).1 (all e (Lw e (cD.2 he)));unfold QM at h;rw[hall]at h;refine hR env ob μ a w h ⟨by rw[I.tmps,I.wK],λt x v hx hv=> ?_⟩ I.st I.ext I.ds;rcases I.wL t x hx with⟨j,oj,a1,a2,a3,a4⟩|⟨a1,a2⟩
  ·exact I.ql t v j oj x hv a1 a2 (all j (Array.getElem?_eq_some_iff.1 a1).1) a4
  ·refine I.qm t v hv (λj oj hj hd=> ?_) x a2;obtain⟨b1,b2⟩:=a1 j oj hj hd;exfalso
   cases he:cB (cX 0 ops.toList) j with
   |true=>exact b2 ((I.oA j he).1 (all j (Lw j he)))
   |false=>
    have:=hC j oj hj he (gp.2 λe _ h2=>qk.1 hall e h2);rw[b1]at this;cases this
 intro fuel
 induction fuel with
 |zero=>
  intro listed a w n done D dt env ob μ I hC h hf;have hr:Region.ready .any ops listed=[]:=by
   cases hr:Region.ready .any ops listed with
   |nil=>rfl
   |cons i l=>
    exfalso;have:i∈Region.ready .any ops listed:=by rw[hr];simp
    obtain⟨h1,o,ho,_⟩:=mem_ready.1 this;have hlt:i<listed.size:=by rw[I.size];exact(Array.getElem?_eq_some_iff.1 ho).1
    have hm:false∈listed.toList.filter (λb=> !b):=by
     simp[hlt]at h1;simp only[List.mem_filter,Bool.not_false,and_true];rw[<-h1];simp
    have:=List.length_pos_of_mem hm;omega
  exact⟨hr,fin listed a w n done D dt env ob μ I hC h hr⟩
 |succ fuel ih=>
  intro listed a w n done D dt env ob μ I hC h hf;refine⟨fin listed a w n done D dt env ob μ I hC h,λi hi=> ?_⟩;obtain⟨hun,oi,sL,xA⟩:=mem_ready.1 hi;have FX:i<listed.size:=by rw[I.size];exact(Array.getElem?_eq_some_iff.1 sL).1
  have oy:listed.getD i false=false:=by simp[FX]at hun⊢;exact hun
  have uP:=EV FX oy hf;unfold wpOp;simp only[sL]
  cases hme:cB (cX 0 ops.toList) i with
  |false=>
   have hrd:qj (d_ ops.toList []) (cX 0 ops.toList) done i=true:=gp.2 λx h1 h2=>(I.oA x (cD.2 h2)).1 (pn I.shut i oi sL xA x h1);have hD:=hC i oi sL hme hrd;obtain⟨t,ht⟩:=uW.1 hD;obtain⟨oq,x,e,c1,c2,c3,c4,c5⟩:=I.AD i t ht oy;rw[sL]at c1;cases c1;have hfr:=FR.AH I sL c3 oy xA c5;rcases c4 with⟨d1,d2,d3,x0,d4,d5⟩|⟨d1,d2⟩
   ·rw[if_pos (iK hfr d1)];obtain⟨v,x',r1,r2,r3,_⟩:=uH bw hfr I.st d2 (d4 (λx' o'=>x'=x0/\o'=ob) ⟨rfl,rfl⟩);subst r3;left;unfold Oper.wp;rw[r1 w (.refl w)];exact ih _ _ _ n done D dt env ob μ (I.quiet hB sL xA hme hD c2 (d5 _ _ _ _ r2)) hC h uP
   ·have hg:=iK hfr d1;rw[if_neg (by rw[hg];simp)];exact ih _ _ _ n done D dt env ob μ (I.quiet hB sL xA hme hD c2 (by rw[d2];exact VR.unit)) hC h uP
  |true=>
   have BB:cB done i=false:=by
    cases hm:cB done i with
    |false=>rfl
    |true=>rw[(I.oA i hme).2 (cD.1 hm)]at oy;cases oy
   have hrd:qj (d_ ops.toList []) (cX 0 ops.toList) done i=true:=gp.2 λx h1 h2=>(I.oA x (cD.2 h2)).1 (pn I.shut i oi sL xA x h1);have Jm:y3 (cX 0 ops.toList) done=false:=by
    cases hs:y3 (cX 0 ops.toList) done with
    |false=>rfl
    |true=>
     have:=qk.1 hs i (cD.1 hme);rw[cD.2 this]at BB;cases BB
   unfold QM at h;rw[Jm]at h;have hb:=qn h i (rJ (cD.1 hme) BB hrd);unfold Dy at hb;have hfr:FR w F μ (fC (looks ops.toList oi) 0 env) a.tmps:=by
    refine FR.AH I sL I.wK oy xA λs y hs hm=> ?_;rcases I.wL s y hs with⟨j,oj,a1,a2,a3,a4⟩|⟨a1,a2⟩
    ·have hne:j≠i:=λe0=>by
      subst e0;rcases a3 with a3|a3
      ·have:=(I.uX j a3).1;rw[hme]at this;cases this
      ·rw[cD.2 a3]at BB;cases BB
     rcases((eG hB sL).2 j oj a1 hne s a2).2 hm with⟨e,b1,b2,b3⟩|⟨e,b1,b2,b3⟩
     ·exact .inl ⟨j,oj,a1,a2,⟨e,b1,b2,b3⟩,a4⟩
     ·exfalso;rcases a3 with a3|a3
      ·have:=gp.1 (I.uX j a3).2 i (by rw[<-b3];exact pg a1 b1 b2) (cD.1 hme);rw[cD.2 this]at BB;cases BB
      ·have:=I.shut j oj a1 ((I.oA j (I.oH j a3)).2 a3) e b1 b2;rw[b3,oy]at this;cases this
    ·refine .inr ⟨λj oj hj hd=> ?_,a2⟩;by_cases hne:j=i
     ·exact .inl hne
     ·right;obtain⟨c1,c2⟩:=a1 j oj hj hd;rcases((eG hB sL).2 j oj hj hne s hd).2 hm with⟨e,b1,b2,b3⟩|h'
      ·exfalso;have M6:=xA e b1 b2;rw[b3]at M6
       cases XY:cB (cX 0 ops.toList) j with
       |true=>exact c2 ((I.oA j XY).1 M6)
       |false=>
        have:=I.jC j oj hj XY M6;rw[c1]at this;cases this
      ·exact h'
   have hno:nth ops.toList i=some oi:=by rw[cq];simpa using sL
   rw[hno]at hb;simp only at hb;have step:∀(x:AV)(v:Value)(w':World)(bu:Mu)(cc:List AO),VR w' F bu x v->St w' F bu cc->Ext w μ w' bu->aZ (pe (d_ ops.toList []) i D) ob cc->
     dx P δ ops.toList (d_ ops.toList []) (cX 0 ops.toList) n (i::done) D (fO env oi.dst x) cc Q->wpAny P .any ops R fuel (listed.setIfInBounds i true) (a.put oi.dst v) w':=by
    intro x v w' bu cc k1 k2 k3 k4 k5
    cases n with
    |zero=>exact k5.elim
    |succ n=>
     obtain⟨D',Ov,env',I',VJ,h'⟩:=pass hB (qi 0 ops.toList) 0 D _ _ rfl (I.cS hB sL xA hme oy k1 k2 k3 k4) (λj oj hj=>by omega) k5;exact ih _ _ _ n _ D' Ov env' cc bu I' VJ h' uP
   split at hb
   ·rename_i hg;rw[if_pos (iK hfr hg)];left;refine rq bw hfr I.st hb λv x w' bu cc k1 k2 k3 k4=> ?_;obtain⟨x',k5,k6⟩:=uY k4;obtain⟨k7,k8⟩:=Hi k5;exact step x' v w' bu cc (k6 _ _ _ _ k1) k2 k3 k7 k8
   ·rename_i hg;have hgs:=iK hfr hg;rw[if_neg (by rw[hgs];simp)];exact step dP undef w μ ob VR.unit I.st (.refl w μ) (λp _=>rfl) hb
   ·exact hb.elim
theorem aR.cS (bw:cg P δ)(hm:P.follows .mixedOrders=true){m id:Nat}{env:List AV}{ob:List AO}{Q:List AV->List AO->Prop}(hB:l_ ops.toList=true)
  (h:dx P δ ops.toList (d_ ops.toList []) (cX 0 ops.toList) (bS (cX 0 ops.toList)+1) [] [] env ob Q):aR P δ m id ops env ob Q:=by
 refine⟨λw F μ a hm' hf hs=> ?_⟩;have hx1:Ext w μ {w with drawn:=w.drawn+1} μ:=Ext.drewN w μ _;have Sj:∀i,(Array.replicate ops.size false).getD i false=false:=λi=>by
  rw[Array.getD_eq_getD_getElem?,Array.getElem?_replicate];split<;>simp
 have I0:oz P δ ops F env a.defers w μ [] [] (λ_=>none) env ob μ (Array.replicate ops.size false) a {w with drawn:=w.drawn+1}:=
  {size:=by simp,tmps:=hf.1,wK:=rfl,ds:=rfl,st:=hs.same hx1 (λ_ _=>rfl),ext:=hx1,shut:=λi oi _ hl=>(by rw[Sj]at hl;cases hl),oA:=λe _=>(by rw[Sj];simp),oH:=λe he=>(by cases he)
   jC:=λi oi _ _ hl=>(by rw[Sj]at hl;cases hl),uX:=λq hq=>(by cases hq),closed:=λq oq hq=>(by cases hq),ql:=λt v j oj x _ _ _ hl=>(by rw[Sj]at hl;cases hl)
   qm:=λt v hv _ x hx=>(hf.2 t x v hx hv).ext hx1,wL:=λt x hx=>.inr ⟨λj oj _ _=>⟨rfl,by simp⟩,hx⟩,M4:=λq hq=>(by cases hq),M5:=λq hq=>(by cases hq),AD:=λq t hq=>(by cases hq)}
 obtain⟨D',Ov,env',I',VJ,h'⟩:=pass hB (qi 0 ops.toList) 0 [] _ env rfl I0 (λj oj hj=>by omega) h;refine wp_region_any hm (M8 bw hB (Q:=Q) (λenv ob bu a' w' hq hfr hst VK hds=> ?_) _ _ _ _ _ _ _ _ _ _ _ I' VJ h' (by simp));exact⟨env,ob,bu,hq,hfr,hst,VK.IG hm',hds⟩
end
end Go.bA
end
section
namespace Go.bA
variable [Gl]
def DB:List (Nat×AV)->Nat->AV
 |[],_=>.bB
 |(j,x)::l,i=>match j==i with|true=>x|false=>DB l i
def M9:Nat->Nat->List (Nat×AV)->List AV
 |0,_,_=>[]
 |n+1,i,l=>DB l i::M9 n (i+1) l
def sp (n:Nat)(l:List (Nat×AV)):List AV:=M9 n 0 l
omit [Gl]in
theorem DC:∀(n i:Nat)(l:List (Nat×AV)),(M9 n i l).length=n
 |0,_,_=>rfl
 |n+1,i,l=>by simp[M9,DC n (i+1) l]
omit [Gl]in
theorem DD:∀(n i:Nat)(l:List (Nat×AV))(j:Nat),j<n->(M9 n i l)[j]?=some (DB l (i+j))
 |0,_,_,_,h=>by omega
 |n+1,i,l,0,_=>by simp[M9]
 |n+1,i,l,j+1,h=>by
  simp only[M9,List.getElem?_cons_succ];rw[DD n (i+1) l j (by omega),show i+1+j=i+(j+1) by omega]
inductive wM (base:Nat)(π:List Nat)(o:List AO)(e:List AV):List (Nat×AV)->Prop
 |nil:wM base π o e []
 |cons {i:Nat} {x y:AV} {l:List (Nat×AV)}:nth e i=some y->RV base π o y x->wM base π o e l->wM base π o e ((i,x)::l)
omit [Gl]in
theorem Hj {base:Nat}{π:List Nat}{o:List AO}:∀(e e':List AV),e.length=e'.length->(∀(j:Nat) x y,e[j]?=some x->e'[j]?=some y->RV base π o x y)->gj base π o e e'
 |[],[],_,_=>.nil
 |[],_::_,h,_=>by simp at h
 |_::_,[],h,_=>by simp at h
 |x::e,y::e',h,hr=>.cons (hr 0 x y rfl rfl) (Hj e e' (by simpa using h) λj a b h1 h2=>hr (j+1) a b (by simpa using h1) (by simpa using h2))
omit [Gl]in
theorem wM.rvs {base:Nat}{π:List Nat}{o:List AO}{e:List AV}{l:List (Nat×AV)}(h:wM base π o e l){n:Nat}(hn:bS e=n):gj base π o e (sp n l):=by
 refine Hj e (sp n l) (by rw[sp,DC,<-hn,bQ]) λj x y hx hy=> ?_;have hj:j<n:=by rw[<-hn,bQ];exact(List.getElem?_eq_some_iff.1 hx).1
 rw[sp,DD n 0 l j hj,Nat.zero_add]at hy;cases hy;clear hj hn
 induction h with
 |nil=>exact .bB
 |cons h1 h2 _ ih=>
  simp only[DB];split
  ·rename_i hij;have VL:=beq_iff_eq.1 hij;subst VL;rw[cq,hx]at h1;cases h1;exact h2
  ·exact ih
theorem dj.sp {m:Nat}{e:List AV}{o o':List AO}{n:Nat}{l:List (Nat×AV)}(π:List Nat)(hk:keeps (bS o) m 0 π=true)(hd:distinct π=true)(hn:bS e=n)(he:wM 0 π o e l)(ho:kS 0 π o π o'):dj m e o (bA.sp n l) o':=
 dj.of π hk hd (he.rvs hn) ho
theorem cu.cut {P:Program}{m:Nat}{c:Code}{env:List AV}{ob:List AO}{Q:AE->List AV->List AO->Prop}(R:AE->List AV->List AO->Prop)(h:cu P m c env ob (λx e o=>∃e' o',dj m e o e' o'/\R x e' o'))(hk:∀x e o,R x e o->Q x e o):cu P m c env ob Q:=by
 refine⟨λw F μ a hm hf hs=>Code.wp_mono (λx a' w' hx=> ?_) (h.run w F μ a hm hf hs)⟩
 cases x with
 |normal=>
  obtain⟨e,o,bu,⟨E,O,g1,QS⟩,g2,g3,g4,g5⟩:=hx;obtain⟨ru,r1,r2,r3⟩:=g1.run w' F bu a'.tmps g4.len g2 g3;exact⟨E,O,ru,hk _ _ _ QS,r1,r2,g4.trans r3,g5⟩
 |exit i=>
  obtain⟨e,o,bu,⟨E,O,g1,QS⟩,g2,g3,g4,g5⟩:=hx;obtain⟨ru,r1,r2,r3⟩:=g1.run w' F bu a'.tmps g4.len g2 g3;exact⟨E,O,ru,hk _ _ _ QS,r1,r2,g4.trans r3,g5⟩
 |ret=>
  obtain⟨e,o,bu,⟨E,O,g1,QS⟩,g2,g3,g4,g5⟩:=hx;obtain⟨ru,r1,r2,r3⟩:=g1.run w' F bu a'.tmps g4.len g2 g3;exact⟨E,O,ru,hk _ _ _ QS,r1,r2,g4.trans r3,g5⟩
 |_=>exact hx
end Go.bA
end
section
namespace Go.bA
open Go.RowKit Go.ChangeShapes Go.WideShapes Go.ChangeAt
variable [Gl]
def EW:T->Option Value
 | .int k n=>some (.int k n.den)
 | .bool b=>some (.bool b.den)
 | .str s=>some (.string s.den)
 | .lit v=>match plain v with|true=>some v|false=>none
 |_=>none
mutual
def Hl:AV->Option Value
 | .c t=>EW t
 | .cI vs=>match Ho vs with|some l=>some (.tuple l.toArray)|none=>none
 |_=>none
def Ho:List AV->Option (List Value)
 |[]=>some []
 |x::xs=>match Hl x with|some v=>(match Ho xs with|some l=>some (v::l)|none=>none)|none=>none
end
omit [Gl]in
theorem CC {w:World}{O:Nat->Prop}{t:T}{v:Value}(h:EW t=some v):VT w O t v:=by
 cases t<;>simp only[EW]at h<;>try cases h
 ·exact .int
 ·exact .bool
 ·exact .str
 ·rename_i u;split at h
  ·rename_i hp;cases h;exact .lit hp
  ·cases h
omit [Gl]in
theorem EX {w:World}{O:Nat->Prop}{t:T}{v u:Value}(h:EW t=some v)(hv:VT w O t u):u=v:=by
 cases hv<;>simp only[EW]at h
 ·split at h
  ·cases h;rfl
  ·cases h
 all_goals (cases h;try rfl)
omit [Gl]in
mutual
theorem uZ {w:World}{F:Nat->Prop}{μ:Mu}:∀{x:AV}{v:Value},Hl x=some v->VR w F μ x v
 | .c t,v,h=>.c (CC h)
 | .cI vs,v,h=>by
  simp only[Hl]at h;split at h
  ·rename_i l hl;cases h;obtain⟨h1,h2⟩:=aaT (w:=w) (F:=F) (μ:=μ) hl;exact .cI (by simp[h1]) (λi x v hx hv=>h2 i x v hx (by simpa using hv))
  ·cases h
 | .ref _ _,v,h| .eZ _ _ _ _,v,h| .sl _ _ _ _ _,v,h| .mp _,v,h| .fn _ _ _,v,h| .oN _ _,v,h| .agg _,v,h| .bB,v,h=>by simp[Hl]at h
theorem aaT {w:World}{F:Nat->Prop}{μ:Mu}:∀{xs:List AV}{l:List Value},Ho xs=some l->l.length=xs.length/\∀(i:Nat) x v,xs[i]?=some x->l[i]?=some v->VR w F μ x v
 |[],l,h=>by simp[Ho]at h;subst h;exact⟨rfl,λi x v hx=>by simp at hx⟩
 |x::xs,l,h=>by
  simp only[Ho]at h;split at h
  ·rename_i v hv;split at h
   ·rename_i l' hl;cases h;obtain⟨h1,h2⟩:=aaT (w:=w) (F:=F) (μ:=μ) hl;refine⟨by simp[h1],λi y u hy hu=> ?_⟩
    cases i with
    |zero=>simp at hy hu;subst hy;subst hu;exact uZ hv
    |succ i=>exact h2 i y u (by simpa using hy) (by simpa using hu)
   ·cases h
  ·cases h
end
def AK:List AV->Option (List Value)
 |[]=>some []
 | .c t::xs=>match EW t with|some v=>(match AK xs with|some l=>some (v::l)|none=>none)|none=>none
 |_::_=>none
omit [Gl]in
theorem aaU {w:World}{F:Nat->Prop}{μ:Mu}:∀{xs:List AV}{l vs:List Value},AK xs=some l->ua w F μ xs vs->vs=l
 |[],l,vs,h,hv=>by
  simp[AK]at h;subst h;have:=hv.1;simpa using this
 |x::xs,l,vs,h,hv=>by
  cases x<;>simp only[AK]at h<;>try cases h
  rename_i t;split at h
  ·rename_i v zQ;split at h
   ·rename_i l' hl;cases h
    cases vs with
    |nil=>have:=hv.1;simp at this
    |cons u us=>
     have h0:=hv.2 0 (.c t) u rfl rfl;have hr:ua w F μ xs us:=⟨by have:=hv.1;simpa using this,λi y z hy hz=>hv.2 (i+1) y z (by simpa using hy) (by simpa using hz)⟩;rw[aaU hl hr]
     cases h0 with
     |c h0=>rw[EX zQ h0]
   ·cases h
  ·cases h
section
variable{P:Program}{δ:Nat->Option TD}{H:Type}{enc:TypeId×Value->H}
theorem aV.extern {f:FuncId}{args:List AV}{vs:List Value}(ha:AK args=some vs){ob:List AO}{K:AV->List AO->Prop}{y:AV}{v:Value}(hy:Hl y=some v)
  (h:∀w,(callFunc f vs.toArray).run P w=.ok (.value v) w) (hk:K y ob):aV P f args ob K:=by
 refine⟨λw F μ bD hv hs=> ?_⟩;have hvs:bD=vs.toArray:=by
  have:=aaU ha hv;rw[<-this]
 unfold jK;rw[hvs,h w];exact⟨v,y,ob,μ,rfl,uZ hy,hs,Ext.refl _ _,hk⟩
end
end Go.bA
end
section
namespace Go.bA
variable [Gl]
section
variable{P:Program}{δ:Nat->Option TD}
theorem sO (bw:cg P δ){t xt e:Nat}{d ed:TD}(hd:δ t=some d)(hsh:d.sh=.slice e)(ir:δ e=some ed){ob:List AO}{o k:Nat}{i len cap:Th Nat}{es:Th (List (List AV))}{sz:Th Nat}
  (hn:nth ob o=some (.arr k es sz)) (hk:k=ed.size) (hi:i.den=0) (hlen:len.den<=es.den.length) (hsz:sz.den=cap.den*k) (hwide:∀r∈es.den,r.length=k) {x:AV} {news:List (List AV)} (hsrc:Src P xt ob x news k)
  (hroom:len.den+news.length<=cap.den) (hpos:sz.den≠0) {K:AV->List AO->Prop} (L:Th Nat) (E:Th (List (List AV))) (hL:L.den=len.den+news.length) (hE:E.den=es.den.take len.den++news++es.den.drop (len.den+news.length))
  (hK:K (.sl o k (.lit 0) L cap) (eM ob o (.arr k E sz))):fe P δ t xt (.sl o k i len cap) x ob K:=by
 refine⟨λty w F μ vs vx hvs FV hs=> ?_⟩;obtain⟨nv,Jm,GO⟩:=hsrc.reads w F μ vx FV hs;have hu:=a_ bw hd hsh;obtain⟨ie,q1,q3,_⟩:=fP bw ir;have hks:ie.size=k:=by rw[q3,hk]
 have wD:_root_.Go.Src P ie.size xt vx news.length nv w:=by rw[hks];exact Jm
 have o5:nv.length=news.length*k:=Jm.newsLen;have hone:∀u∈nv,u.oneCell'=true:=Jm.one;obtain⟨b,hb,jN⟩:=hs.box hn (λg=>hpos g.2);obtain⟨iA,hlc,Pn⟩:=hvs.I3 hb
 cases jN with
 |arr ct pK g1 g2 g3 g4 g6 g5=>
  have Po:=hs.lt o b hb;have hfit:len.den*k+nv.length<=ct.toList.length:=by
   have:ct.toList.length=cap.den*k:=by simpa[g2]using hsz
   rw[this,o5,<-Nat.add_mul];exact Nat.mul_le_mul_right _ hroom
  have hr:(Builtin.append_ #[t,xt] ty #[.slice (some ⟨b,0,none⟩) len.den cap.den,vx]).run P w=.ok (.slice (some ⟨b,0,none⟩) (len.den+news.length) cap.den) (w.setRow b (ct.toList.take (len.den*k)++nv++ct.toList.drop (len.den*k+nv.length)).toArray):=by
   have hst:=run_storeCells_at P b (len.den*k) pK nv 0 ct w g1 (by simpa using hfit) hone;simp only[Nat.add_zero,<-hks]at hst⊢;rcases wD.kind with⟨e',hk'⟩|hk'<;>simp[Builtin.append_,run_underlying hu,run_underlying hk',sizeOf,typeInfo,q1,wD.len,hroom,wD.cells,Addr.add_lit,hst]
  have zH:(es.den.take len.den).length=len.den:=by simp;omega
  have MB:E.den.length=max es.den.length (len.den+news.length):=by rw[hE];simp;omega
  have Hp:∀r∈news,r.length=k:=hsrc.wide;obtain⟨r1,r2⟩:=hs.set hb (w.setRow b (ct.toList.take (len.den*k)++nv++ct.toList.drop (len.den*k+nv.length)).toArray) (.arr k E sz) (by simp) (λb' hb'=>setRow_other w b b' _ hb') rfl rfl rfl (λhe=>by
   refine .arr _ pK (setRow_heap w b ct _ pK _ g1) ?_ ?_ ?_ ?_ ?_
   ·simp only[List.size_toArray,List.length_append,List.length_take,List.length_drop,Array.length_toList]at hfit⊢;omega
   ·rw[MB];rcases Nat.le_total es.den.length (len.den+news.length)with h|h
    ·rw[Nat.max_eq_right h,hsz];exact Nat.mul_le_mul_right _ hroom
    ·rw[Nat.max_eq_left h];exact g3
   ·intro r hr;rw[hE]at hr;rcases List.mem_append.1 hr with hr|hr
    ·rcases List.mem_append.1 hr with hr|hr
     ·exact hwide r (List.mem_of_mem_take hr)
     ·exact Hp r hr
    ·exact hwide r (List.mem_of_mem_drop hr)
   ·intro j u eR;rw[List.getElem?_toArray]at eR;have hm:=List.mem_of_getElem? eR;simp only[List.mem_append]at hm;rcases hm with(hm|hm)|hm
    ·obtain⟨q,hq⟩:=List.mem_iff_getElem?.1 (List.mem_of_mem_take hm);exact g6 q u (by simpa using hq)
    ·exact hone u hm
    ·obtain⟨q,hq⟩:=List.mem_iff_getElem?.1 (List.mem_of_mem_drop hm);exact g6 q u (by simpa using hq)
   ·intro r m e' y u h1 h2 h3;have VM:e'.length=k:=by
     have:e'∈E.den:=List.mem_of_getElem? h1;rw[hE]at this;rcases List.mem_append.1 this with hr|hr
     ·rcases List.mem_append.1 hr with hr|hr
      ·exact hwide _ (List.mem_of_mem_take hr)
      ·exact Hp _ hr
     ·exact hwide _ (List.mem_of_mem_drop hr)
    have hmk:m<k:=by rw[<-VM];exact(List.getElem?_eq_some_iff.1 h2).1
    rw[List.getElem?_toArray,b9 ct.toList _ _ hfit,o5,<-Nat.add_mul]at h3;rw[hE]at h1;rcases Nat.lt_or_ge r len.den with Co|Co
    ·have l1:r*k+m<len.den*k:=by
      have:(r+1)*k<=len.den*k:=Nat.mul_le_mul_right _ Co;rw[Nat.add_mul,Nat.one_mul]at this;omega
     rw[if_pos l1]at h3;rw[List.append_assoc,List.getElem?_append_left (by rw[zH];exact Co),List.getElem?_take,if_pos Co]at h1;have:=g5 r m e' y u h1 h2 (by simpa using h3);exact⟨this.1.ext he,this.2⟩
    ·have l0:len.den*k<=r*k:=Nat.mul_le_mul_right _ Co;rw[if_neg (by omega)]at h3;rcases Nat.lt_or_ge r (len.den+news.length)with Hq|Hq
     ·have l1:r*k+m<(len.den+news.length)*k:=by
       have:(r+1)*k<=(len.den+news.length)*k:=Nat.mul_le_mul_right _ Hq;rw[Nat.add_mul,Nat.one_mul]at this;omega
      rw[if_pos l1]at h3;rw[List.getElem?_append_left (by rw[List.length_append,zH];exact Hq),List.getElem?_append_right (by rw[zH];exact Co),zH]at h1;have hf:=iZ k news Hp (r -len.den) m e' y h1 h2;have e9:(r -len.den)*k+m=r*k+m -len.den*k:=by rw[Nat.sub_mul];omega
      rw[e9]at hf;have:=GO _ y u hf h3;exact⟨this.1.ext he,this.2⟩
     ·have l1:(len.den+news.length)*k<=r*k:=Nat.mul_le_mul_right _ Hq;rw[if_neg (by omega)]at h3;rw[List.getElem?_append_right (by rw[List.length_append,zH];exact Hq),List.length_append,zH,List.getElem?_drop,show len.den+news.length+(r -(len.den+news.length))=r by omega]at h1;have:=g5 r m e' y u h1 h2 (by simpa using h3);exact⟨this.1.ext he,this.2⟩)
  have Dp:=hK;rw[cJ]at Dp;refine⟨_,_,_,_,_,by rw[iA,hi,Nat.zero_mul];exact hr, ?_,r1,r2,Dp⟩;have:=VR.sl (w:=w.setRow b (ct.toList.take (len.den*k)++nv++ct.toList.drop (len.den*k+nv.length)).toArray) (F:=F) (k:=k) (i:=.lit 0) (len:=L) (cap:=cap) hb (by rw[hL];exact hroom) Pn;rw[hL]at this;simpa using this
theorem EY (bw:cg P δ){t xt e:Nat}{ed:TD}(ir:δ e=some ed)(hz:ed.zero≠[]){ob:List AO}{o k:Nat}{i len cap:Th Nat}{es:Th (List (List AV))}{sz:Th Nat}
  (hn:nth ob o=some (.arr k es sz)) (hk:k=ed.size) (pQ:k≠0) (hi:i.den=0) (hlen:len.den<=es.den.length) (hsz:cap.den*k<=sz.den) (hwide:∀r∈es.den,r.length=k) {news:List (List AV)} (Hp:∀r∈news,r.length=k)
  (h63:len.den+news.length<=9223372036854775807) {K:AV->List AO->Prop} (L:Th Nat) (E:Th (List (List AV))) (hL:L.den=len.den+news.length) (hE:E.den=es.den.take len.den++news)
  (hK:∀c:Nat,L.den<=c->K (.sl (bS ob) k (.lit 0) L (.th λ_=>c)) (e_ ob [.arr k E (.th λ_=>c*k)]))
  {ty:TypeId} {w:World} {F:Nat->Prop} {μ:Mu} {vs vx:Value} (hvs:VR w F μ (.sl o k i len cap) vs) (hs:St w F μ ob) {nv:List Value} (o5:nv.length=news.length*k) (hone:∀u∈nv,u.oneCell'=true)
  (GO:∀(j:Nat) y u,news.flatten[j]?=some y->nv[j]?=some u->VR w F μ y u/\u.oneCell'=true)
  (hrun:∀(ie:TypeInfo)(z:Value)(a:Option Addr)(pre:List Value),P.info? e=some ie->ie.zero=some z->ie.size=k->ie.bytes=ed.bytes->z.cells.size=k->(Builtin.firstCells ie.size len.den (.slice a len.den cap.den)).run P w.drew=.ok pre.toArray w.drew->len.den<=cap.den->
   (Builtin.append_ #[t,xt] ty #[.slice a len.den cap.den,vx]).run P w=.ok (.slice (some ⟨w.heap.size,0,none⟩) (len.den+news.length) (grownCap w (len.den+news.length) cap.den e))
    (w.drew.alloc (.cells ((pre++nv).toArray++Builtin.zeroCells z.cells (grownCap w (len.den+news.length) cap.den e -(len.den+news.length))) e))):
  ∃v y cc bu w',(Builtin.append_ #[t,xt] ty #[vs,vx]).run P w=.ok v w'/\VR w' F bu y v/\St w' F bu cc/\Ext w μ w' bu/\K y cc:=by
 obtain⟨ie,z,q1,q2,q3,q4,q5,_⟩:=iH bw ir hz;obtain⟨Uc,Lb,Xk,q6⟩:=fP bw ir;rw[q1]at Lb;cases Lb;have hks:ie.size=k:=by rw[q3,hk]
 have hnl:news.flatten.length=news.length*k:=eF k news Hp;have v_:∀r∈es.den.take len.den,r.length=k:=λr hr=>hwide r (List.mem_of_mem_take hr);have GP:(es.den.take len.den).length=len.den:=by simp;omega
 have hel:(es.den.take len.den).flatten.length=len.den*k:=by rw[eF k _ v_,GP]
 have MB:E.den.length=len.den+news.length:=by rw[hE,List.length_append,GP]
 have Le:∀r∈E.den,r.length=k:=by
  intro r hr;rw[hE]at hr;rcases List.mem_append.1 hr with h|h
  ·exact v_ r h
  ·exact Hp r h
 have Od:z.cells.size=k:=by rw[q4,hk]
 have xq:∀u∈z.cells,u.oneCell'=true:=by
  obtain⟨z',z1,z2,z3,z4⟩:=gE bw ir hz;have II:z'=z:=by
   have h1:=z1 w;simp[zeroValue,typeInfo,q1,q2]at h1;exact h1.symm
  subst II;intro u eR;obtain⟨j,hj,rfl⟩:=List.getElem_of_mem (Array.mem_toList_iff.2 eR);have hj':j<(bG ed).length:=by rw[<-z2];simpa using hj
  exact(z4 w F μ j _ _ (List.getElem?_eq_getElem hj') (by simp at hj;simp[hj])).2
 have RT:∀n,∀u∈(Builtin.zeroCells z.cells n).toList,u.oneCell'=true:=by
  intro n u eR;simp only[Builtin.zeroCells,Array.toList_map,List.mem_map,Array.toList_range,List.mem_range]at eR;obtain⟨j,hj,rfl⟩:=eR;have hm:j %z.cells.size<z.cells.size:=Nat.mod_lt _ (by omega);rw[getElem!_pos z.cells _ hm];exact xq _ (Array.getElem_mem hm)
 obtain⟨a,iA,hlc,Pn,_⟩:=hvs.FO
 --what is read of the old one
 have olds:∃pre:List Value,pre.length=len.den*k/\(∀(j:Nat) y u,(es.den.take len.den).flatten[j]?=some y->pre[j]?=some u->VR w F μ y u)/\(∀u∈pre,u.oneCell'=true)/\
   (Builtin.firstCells ie.size len.den vs).run P w.drew=.ok pre.toArray w.drew:=by
  by_cases hg:gone (.arr k es sz)
  ·obtain⟨g0,gz⟩:=hg;have yT:len.den=0:=by rw[g0]at hlen;simpa using hlen
   refine⟨[],by simp[yT],λj y u h1 h2=>by simp at h2,λu h=>by simp at h, ?_⟩;rw[iA,yT]
   cases a with
   |none=>rfl
   |some a=>exact run_firstCells_some w.drew ie.size 0 _ 0 _ [] (by simp) (λj u h=>by simp at h)
  ·obtain⟨b,hb,jN⟩:=hs.box hn hg;obtain⟨VN,_,_⟩:=hvs.I3 hb
   cases jN with
   |arr ct pK g1 g2 g3 g4 g6 g5=>
    have Uj:len.den*k<=ct.size:=by rw[g2];exact Nat.le_trans (Nat.mul_le_mul_right _ hlc) hsz
    have yA:(ct.toList.take (len.den*k)).length=len.den*k:=by simp;omega
    refine⟨ct.toList.take (len.den*k),yA, ?_, ?_, ?_⟩
    ·intro j y u hy eR;obtain⟨r,m,e',h1,h2,h3⟩:=jS k _ v_ j y hy;rw[List.getElem?_take]at h1;split at h1
     ·rw[List.getElem?_take]at eR;split at eR
      ·exact(g5 r m e' y u h1 h2 (by rw[<-h3];simpa using eR)).1
      ·cases eR
     ·cases h1
    ·intro u eR;obtain⟨j,hj⟩:=List.mem_iff_getElem?.1 (List.mem_of_mem_take eR);exact g6 j u (by simpa using hj)
    ·rw[VN,hi,Nat.zero_mul];exact run_firstCells_some w.drew ie.size len.den ⟨b,0,none⟩ len.den cap.den (ct.toList.take (len.den*k)) (by rw[yA,hks]) (λj u eR=>by
      rw[List.getElem?_take]at eR;split at eR
      ·rw[Addr.add_lit,Nat.zero_add,cell_of_row w.drew b j ct pK (0,0) g1];simpa using eR
      ·cases eR)
 obtain⟨pre,p1,p2,p3,holds⟩:=olds;rw[iA]at holds;have hr:=hrun ie z a pre q1 q2 hks q6 Od holds hlc;have hge:=grownCap_ge w (len.den+news.length) cap.den e;have hle:=grownCap_le_maxLen w (len.den+news.length) cap.den e (by simp only[maxLen];omega);simp only[maxLen]at hle;generalize hc:grownCap w (len.den+news.length) cap.den e=c at hr hge hle;have Ui:St w.drew F μ ob:=hs.same (Ext.drewN w _ _) (λ_ _=>rfl);obtain⟨s2,x2⟩:=Ui.alloc (.cells ((pre++nv).toArray++Builtin.zeroCells z.cells (c -(len.den+news.length))) e) (.arr k E (.th λ_=>c*k)) (λw' bu hx hh=>by
  have he:Ext w μ w' bu:=(Ext.drewN w _ _).trans hx;refine .arr _ e hh ?_ ?_ Le (λi u hu=> ?_) λr m e' y u h1 h2 h3=> ?_
  ·simp only[Array.size_append,List.size_toArray,List.length_append,p1,o5,size_zeroCells,Od,Th.aB,<-Nat.add_mul]
   congr 1;omega
  ·rw[MB];exact Nat.mul_le_mul_right _ hge
  ·have hm:=List.mem_of_getElem? (show((pre++nv).toArray++Builtin.zeroCells z.cells (c -(len.den+news.length))).toList[i]?=some u by rw[Array.getElem?_toList];exact hu);simp only[Array.toList_append,List.mem_append]at hm;rcases hm with(hm|hm)|hm
   ·exact p3 u hm
   ·exact hone u hm
   ·exact RT _ u hm
  ·have hf:E.den.flatten[r*k+m]?=some y:=iZ k E.den Le r m e' y h1 h2;rw[hE,List.flatten_append]at hf;have Ow:(pre++(nv++(Builtin.zeroCells z.cells (c -(len.den+news.length))).toList))[r*k+m]?=some u:=by
    rw[<-h3,<-Array.getElem?_toList];simp
   rcases Nat.lt_or_ge (r*k+m) (len.den*k)with hlt|hge
   ·rw[List.getElem?_append_left (by rw[hel];exact hlt)]at hf;rw[List.getElem?_append_left (by rw[p1];exact hlt)]at Ow;exact⟨(p2 _ y u hf Ow).ext he,p3 u (List.mem_of_getElem? Ow)⟩
   ·rw[List.getElem?_append_right (by rw[hel];exact hge),hel]at hf;rw[List.getElem?_append_right (by rw[p1];exact hge),p1]at Ow;have MC:r*k+m -len.den*k<nv.length:=by
     rw[o5,<-hnl];exact(List.getElem?_eq_some_iff.1 hf).1
    rw[List.getElem?_append_left MC]at Ow;have:=GO _ y u hf Ow;exact⟨this.1.ext he,this.2⟩)
 have Dp:=hK c (by rw[hL];exact hge);rw[bQ,dg]at Dp;refine⟨_,_,_,_,_,by rw[iA];exact hr, ?_,s2,(Ext.drewN w _ _).trans x2,Dp⟩;have hm:(μ++[some w.drew.heap.size])[ob.length]?=some (some w.heap.size):=by
  rw[<-hs.len,List.getElem?_append_right (by simp)];simp
 have:=VR.sl (w:=w.drew.alloc (.cells ((pre++nv).toArray++Builtin.zeroCells z.cells (c -(len.den+news.length))) e)) (F:=F) (k:=k) (i:=.lit 0) (len:=L) (cap:=.th λ_=>c) hm (by rw[hL];exact hge) hle;rw[hL]at this;simpa using this
theorem gW (bw:cg P δ){t xt e:Nat}{d ed dn:TD}(hd:δ t=some d)(hsh:d.sh=.slice e)(ir:δ e=some ed)(hz:ed.zero≠[]){kn q:IntKind}(hdn:δ xt=some dn)(hkn:dn.sh=.int kn){ob:List AO}{o k:Nat}{i len cap:Th Nat}{es:Th (List (List AV))}{sz:Th Nat}
  (hn:nth ob o=some (.arr k es sz)) (hk:k=ed.size) (pQ:k≠0) (hi:i.den=0) (hlen:len.den<=es.den.length) (hsz:cap.den*k<=sz.den) (hwide:∀r∈es.den,r.length=k) {n:Th Int} (hn0:0<n.den)
  (hroom:cap.den<len.den+n.den.toNat) (hbytes:(len.den+n.den.toNat)*ed.bytes<=140737488355328) (h63:len.den+n.den.toNat<=9223372036854775807) {K:AV->List AO->Prop} (L:Th Nat) (E:Th (List (List AV))) (hL:L.den=len.den+n.den.toNat) (hE:E.den=es.den.take len.den++List.replicate n.den.toNat (bG ed))
  (hK:∀c:Nat,L.den<=c->K (.sl (bS ob) k (.lit 0) L (.th λ_=>c)) (e_ ob [.arr k E (.th λ_=>c*k)])):fe P δ t xt (.sl o k i len cap) (AI q n) ob K:=by
 refine⟨λty w F μ vs vx hvs FV hs=> ?_⟩;have hu:=a_ bw hd hsh;obtain⟨un,hun,QT⟩:=fI bw hdn;rw[hkn]at QT;obtain rfl:=pV QT;obtain⟨z,_,⟨ie,p1,p2,p3,p6⟩,p4,p5,p7,p8⟩:=jR w bw ir hz;have hzl:z.cells.size=k:=by rw[p4,hk]
 have hrl:(List.replicate n.den.toNat (bG ed)).length=n.den.toNat:=by simp
 have QU:(Builtin.zeroCells z.cells n.den.toNat).toList.length=n.den.toNat*k:=by rw[Array.length_toList,size_zeroCells,hzl]
 rw[FV.iE];refine EY bw ir hz hn hk pQ hi hlen hsz hwide (news:=List.replicate n.den.toNat (bG ed)) (λr hr=>by rw[(List.mem_replicate.1 hr).2,hk];exact p5) (by rw[hrl];exact h63) L E (by rw[hrl];exact hL) hE hK hvs hs (nv:=(Builtin.zeroCells z.cells n.den.toNat).toList) (by rw[hrl];exact QU) ?_ ?_ (λUc z' a pre q1 q2 q3 q6 Od hold hlc=> ?_)
 ·intro u eR;simp only[Builtin.zeroCells,Array.toList_map,List.mem_map,Array.toList_range,List.mem_range]at eR;obtain⟨j,hj,rfl⟩:=eR;have hm:j %z.cells.size<z.cells.size:=Nat.mod_lt _ (by omega);rw[getElem!_pos z.cells _ hm];exact p8 _ (Array.getElem_mem hm)
 ·intro j y u h1 h2;refine p7 w F μ n.den.toNat j y u h1 ?_;rw[Array.getElem?_toList]at h2;rw[<-h2];simp only[Builtin.zeroCells,p4]
 ·rw[p1]at q1;cases q1;rw[p2]at q2;cases q2;rw[hrl];have h:=Lib.run_append_grow_zeros (P:=P) w t xt ty e ie z q kn hu hun p1 p2 a len.den cap.den pre hold n.den.toNat (by omega) (by rw[p3,<-hk];omega) (by omega) (by omega) (by
   rw[p6];have:n.den.toNat*ed.bytes<=(len.den+n.den.toNat)*ed.bytes:=Nat.mul_le_mul_right _ (by omega);omega) (growslice_fits (by omega) (by rw[p6];exact hbytes))
  have Sk:((n.den.toNat:Nat):Int)=n.den:=by omega
  rw[Sk]at h;rw[h]
  congr 3
  apply Array.ext';simp
inductive CD (P:Program)(xt:TypeId)(ob:List AO)(d k:Nat):AV->List (List AV)->Prop
 |all {y:AV} {rows:List (List AV)}:Src P xt ob y rows k->rows.length<=d->CD P xt ob d k y rows
 |cut {o:Nat} {i len cap:Th Nat} {rows:List (List AV)}:Src P xt ob (.sl o k i (.th λ_=>d) cap) rows k->rows.length=d->d<=len.den->CD P xt ob d k (.sl o k i len cap) rows
theorem CD.wide {xt:TypeId}{ob:List AO}{d k:Nat}{y:AV}{rows:List (List AV)}(h:CD P xt ob d k y rows):∀e∈rows,e.length=k:=by
 cases h with
 |all h _=>exact h.wide
 |cut h _ _=>exact h.wide
theorem CD.reads {xt:TypeId}{ob:List AO}{d k:Nat}{y:AV}{rows:List (List AV)}(h:CD P xt ob d k y rows){w:World}{F:Nat->Prop}{μ:Mu}{v:Value}(hv:VR w F μ y v)(hs:St w F μ ob):
  ∃(nv:List Value)(n:Nat),(∀w':World,(Builtin.lenOf v).run P w'=.ok n w')/\Nat.min n d=rows.length/\(Builtin.firstCells k rows.length v).run P w=.ok nv.toArray w/\nv.length=rows.length*k/\(∀u∈nv,u.oneCell'=true)/\
   ∀(j:Nat) y u,rows.flatten[j]?=some y->nv[j]?=some u->VR w F μ y u/\u.oneCell'=true:=by
 cases h with
 |all h hd=>
  obtain⟨nv,a,b⟩:=h.reads w F μ v hv hs;exact⟨nv,_,a.len,Nat.min_eq_left hd,a.cells,a.newsLen,a.one,b⟩
 | @cut o i len cap _ h hl hd=>
  have key:∃a,v=.slice a len.den cap.den/\VR w F μ (.sl o k i (.th λ_=>d) cap) (.slice a d cap.den):=by
   cases hv with
   |sl h1 h2 h3=>exact⟨_,rfl,.sl h1 (Nat.le_trans hd h2) h3⟩
   |wj h1 h2 h3 h4=>exact⟨_,rfl,.wj h1 (Nat.le_trans hd h2) h3 h4⟩
  obtain⟨a,rfl,mJ⟩:=key;obtain⟨nv,g1,g2⟩:=h.reads w F μ _ mJ hs;refine⟨nv,len.den,λw'=>rfl,by rw[hl];exact Nat.min_eq_right hd, ?_,g1.newsLen,g1.one,g2⟩;have:=g1.cells;cases a<;>exact this
theorem cY (bw:cg P δ){t xt e:Nat}{d ed:TD}(hd:δ t=some d)(hsh:d.sh=.slice e)(ir:δ e=some ed){ob:List AO}{o k:Nat}{i len cap:Th Nat}{es:Th (List (List AV))}{sz:Th Nat}
  (hn:nth ob o=some (.arr k es sz)) (hk:k=ed.size) (hwide:∀r∈es.den,r.length=k) {y:AV} {news:List (List AV)} (hsrc:CD P xt ob len.den k y news)
  (Hr:i.den+news.length<=es.den.length) {K:AV->List AO->Prop} (N:Th Int) (E:Th (List (List AV))) (hN:N.den=(news.length:Int)) (hE:E.den=es.den.take i.den++news++es.den.drop (i.den+news.length))
  (hK:K (AI .i64 N) (eM ob o (.arr k E sz))):KO P δ t xt (.sl o k i len cap) y ob K:=by
 refine⟨λty w F μ vx vy FV hvy hs=> ?_⟩;obtain⟨nv,n,g1,g2,g3,o5,hone,GO⟩:=hsrc.reads hvy hs;have hu:=a_ bw hd hsh;obtain⟨ie,q1,q3,_⟩:=fP bw ir;have hks:ie.size=k:=by rw[q3,hk]
 have hres:∀{w:World}{μ:Mu},VR w F μ (AI .i64 N) (goInt news.length):=λ{w μ}=>by
  have:=VR.i (w:=w) (F:=F) (μ:=μ) .i64 N;rw[hN]at this;exact this
 rw[cJ]at hK;by_cases h0:news.length=0
 ·obtain rfl:news=[]:=List.eq_nil_of_length_eq_zero h0;obtain rfl:nv=[]:=List.eq_nil_of_length_eq_zero (by simpa using o5);have Sl:E.den=es.den:=by rw[hE];simp
  have hsame:St w F μ (ob.set o (.arr k E sz)):=hs.yN hn (λg=>⟨by rw[Sl];exact g.1,g.2⟩) (λb y2=>by
   cases y2 with
   |arr ct pK g1 g2 g3 g4 g6 g5=>exact .arr ct pK g1 g2 (by rw[Sl];exact g3) (by rw[Sl];exact g4) g6 (by rw[Sl];exact g5))
  obtain⟨a,iA,_⟩:=FV.FO;refine⟨_,_,_,_,w, ?_,hres,hsame,.refl w μ,hK⟩;rw[iA];have VO:min n len.den=0:=g2;cases a<;>simp[Builtin.copy_,run_underlying hu,sizeOf,typeInfo,q1,hks,g1,VO]<;>(simp only[List.length_nil]at g3;rw[g3];simp[storeCells])
 ·have GW:¬gone (.arr k es sz):=λg=>by
   have:=g.1;rw[this]at Hr;simp only[List.length_nil]at Hr;omega
  obtain⟨b,hb,jN⟩:=hs.box hn GW;obtain⟨iA,hlc,Pn⟩:=FV.I3 hb
  cases jN with
  |arr ct pK b1 b2 b3 b4 b6 b5=>
   have hfit:i.den*k+nv.length<=ct.toList.length:=by
    have M_:ct.toList.length=sz.den:=by simpa using b2
    rw[M_,o5,<-Nat.add_mul];exact Nat.le_trans (Nat.mul_le_mul_right _ Hr) b3
   have hr:(Builtin.copy_ #[t,xt] ty #[.slice (some ⟨b,i.den*k,none⟩) len.den cap.den,vy]).run P w=.ok (goInt news.length) (w.setRow b (ct.toList.take (i.den*k)++nv++ct.toList.drop (i.den*k+nv.length)).toArray):=by
    have hst:=run_storeCells_at P b (i.den*k) pK nv 0 ct w b1 (by simpa using hfit) hone;simp only[Nat.add_zero]at hst;have VO:min n len.den=news.length:=g2;simp[Builtin.copy_,run_underlying hu,sizeOf,typeInfo,q1,hks,g1,VO,g3,hst]
   have zH:(es.den.take i.den).length=i.den:=by simp;omega
   have Hp:∀r∈news,r.length=k:=hsrc.wide;have MB:E.den.length=es.den.length:=by rw[hE];simp;omega
   have Le:∀r∈E.den,r.length=k:=by
    intro r hr;rw[hE]at hr;rcases List.mem_append.1 hr with hr|hr
    ·rcases List.mem_append.1 hr with hr|hr
     ·exact hwide r (List.mem_of_mem_take hr)
     ·exact Hp r hr
    ·exact hwide r (List.mem_of_mem_drop hr)
   obtain⟨r1,r2⟩:=hs.set hb (w.setRow b (ct.toList.take (i.den*k)++nv++ct.toList.drop (i.den*k+nv.length)).toArray) (.arr k E sz) (by simp) (λb' hb'=>setRow_other w b b' _ hb') rfl rfl rfl (λhe=>by
    refine .arr _ pK (setRow_heap w b ct _ pK _ b1) ?_ (by rw[MB];exact b3) Le ?_ ?_
    ·simp only[List.size_toArray,List.length_append,List.length_take,List.length_drop,Array.length_toList]at hfit⊢;omega
    ·intro j u eR;rw[List.getElem?_toArray]at eR;have hm:=List.mem_of_getElem? eR;simp only[List.mem_append]at hm;rcases hm with(hm|hm)|hm
     ·obtain⟨q,hq⟩:=List.mem_iff_getElem?.1 (List.mem_of_mem_take hm);exact b6 q u (by simpa using hq)
     ·exact hone u hm
     ·obtain⟨q,hq⟩:=List.mem_iff_getElem?.1 (List.mem_of_mem_drop hm);exact b6 q u (by simpa using hq)
    ·intro r m e' y u h1 h2 h3;have VM:e'.length=k:=Le _ (List.mem_of_getElem? h1);have hmk:m<k:=by rw[<-VM];exact(List.getElem?_eq_some_iff.1 h2).1
     rw[List.getElem?_toArray,b9 ct.toList _ _ hfit,o5,<-Nat.add_mul]at h3;rw[hE]at h1;rcases Nat.lt_or_ge r i.den with Co|Co
     ·have l1:r*k+m<i.den*k:=by
       have:(r+1)*k<=i.den*k:=Nat.mul_le_mul_right _ Co;rw[Nat.add_mul,Nat.one_mul]at this;omega
      rw[if_pos l1]at h3;rw[List.append_assoc,List.getElem?_append_left (by rw[zH];exact Co),List.getElem?_take,if_pos Co]at h1;have:=b5 r m e' y u h1 h2 (by simpa using h3);exact⟨this.1.ext he,this.2⟩
     ·have l0:i.den*k<=r*k:=Nat.mul_le_mul_right _ Co;rw[if_neg (by omega)]at h3;rcases Nat.lt_or_ge r (i.den+news.length)with Hq|Hq
      ·have l1:r*k+m<(i.den+news.length)*k:=by
        have:(r+1)*k<=(i.den+news.length)*k:=Nat.mul_le_mul_right _ Hq;rw[Nat.add_mul,Nat.one_mul]at this;omega
       rw[if_pos l1]at h3;rw[List.getElem?_append_left (by rw[List.length_append,zH];exact Hq),List.getElem?_append_right (by rw[zH];exact Co),zH]at h1;have hf:=iZ k news Hp (r -i.den) m e' y h1 h2;have e9:(r -i.den)*k+m=r*k+m -i.den*k:=by rw[Nat.sub_mul];omega
       rw[e9]at hf;have:=GO _ y u hf h3;exact⟨this.1.ext he,this.2⟩
      ·have l1:(i.den+news.length)*k<=r*k:=Nat.mul_le_mul_right _ Hq;rw[if_neg (by omega)]at h3;rw[List.getElem?_append_right (by rw[List.length_append,zH];exact Hq),List.length_append,zH,List.getElem?_drop,show i.den+news.length+(r -(i.den+news.length))=r by omega]at h1;have:=b5 r m e' y u h1 h2 (by simpa using h3);exact⟨this.1.ext he,this.2⟩)
   exact⟨_,_,_,_,_,by rw[iA];exact hr,hres,r1,r2,hK⟩
end
end Go.bA
end
section
namespace Go.bA
variable [Gl]
section
variable{P:Program}{δ:Nat->Option TD}
theorem gX (bw:cg P δ){f:FuncId}{tS tR e:TypeId}{d ed:TD}(hd:δ tS=some d)(hsh:d.sh=.slice e)(ir:δ e=some ed)
  (hc:∀(args:Array Value)(w:World)(v:Value),(Extern.SlicesOverlaps.overlaps #[tS,tS] #[tR] args).run P w=.ok v w->(callFunc f args).run P w=.ok (.value v) w)
  {ob:List AO} {o1 o2 k1 k2:Nat} {i1 qo QV i2 rK AL:Th Nat} {es1 es2:Th (List (List AV))} {XZ Lx:Th Nat} (LW:nth ob o1=some (.arr k1 es1 XZ)) (hn2:nth ob o2=some (.arr k2 es2 Lx)) (hne:o1≠o2) (h1:XZ.den≠0) (h2:Lx.den≠0)
  {K:AV->List AO->Prop} (hK:K (AB (.lit false)) ob):aV P f [.sl o1 k1 i1 qo QV,.sl o2 k2 i2 rK AL] ob K:=by
 refine⟨λw F μ bD hv hs=> ?_⟩;have hu:=a_ bw hd hsh;obtain⟨ie,q1,q3,_⟩:=fP bw ir;obtain⟨b1,FW,ho1⟩:=hs.box LW (λg=>h1 g.2);obtain⟨b2,M_,BG⟩:=hs.box hn2 (λg=>h2 g.2);have hl:bD.size=2:=by simpa using hv.1
 obtain⟨v1,v2,rfl⟩:∃v1 v2,bD= #[v1,v2]:=⟨bD[0],bD[1],by apply Array.ext<;>simp[hl];intro i h1;rcases i with _|_|i<;>simp_all;omega⟩;have e1:=(hv.2 0 _ v1 rfl rfl).I3 FW;have e2:=(hv.2 1 _ v2 rfl rfl).I3 M_;have hbb:b1≠b2:=λh=>hne (hs.inj o1 o2 b1 FW (h▸M_))
 cases ho1 with
 |arr VP VQ g1 g2 _ _ _ _=>
 cases BG with
 |arr VS VU k1' k2' _ _ _ _=>
 have hr:=Lib.run_overlaps_apart (P:=P) w tS tR e hu ie.size (λw'=>by simp[sizeOf,typeInfo,q1]) ⟨b1,i1.den*k1,none⟩ ⟨b2,i2.den*k2,none⟩ qo.den QV.den rK.den AL.den hbb VQ VU VP.size VS.size
  (by simp[World.shape?,g1]) (by simp[World.shape?,k1']) (by rw[k2'];exact h2) (by simp[World.frozen?,g1]) (by simp[World.frozen?,g1])
 have:=hc _ w _ hr;unfold jK;rw[e1.1,e2.1,this];exact⟨_,_,_,_,rfl,VR.b (.lit false),hs,.refl w μ,hK⟩
theorem aV.obj {f:FuncId}{args:List AV}{ob cc:List AO}{K:AV->List AO->Prop}(h:aV P f args cc K)(ho:∀w F μ,St w F μ ob->St w F μ cc):aV P f args ob K:=
 ⟨λw F μ bD hv hs=>h.run w F μ bD hv (ho w F μ hs)⟩
theorem St.bB {w:World}{F:Nat->Prop}{μ:Mu}{ob:List AO}(hs:St w F μ ob){o k c:Nat}{es es':Th (List (List AV))}{sz:Th Nat}(hn:nth ob o=some (.arr k es sz))(hc:sz.den=c*k)(hk:k≠0)(hl:es.den.length<=c)(he:es'.den=es.den++List.replicate (c -es.den.length) (List.replicate k .bB)):
  St w F μ (eM ob o (.arr k es' sz)):=by
 rw[cJ];have hel:es'.den.length=c:=by rw[he];simp;omega
 refine hs.yN hn (λg=>⟨?_,g.2⟩) (λb y=> ?_)
 ·have:c=0:=by
   have:=g.2;rw[hc]at this;rcases Nat.mul_eq_zero.1 this with h|h
   ·exact h
   ·exact(hk h).elim
  exact List.eq_nil_of_length_eq_zero (by rw[hel,this])
 ·cases y with
  |arr ct e a1 a2 a3 a4 a6 a5=>
   refine .arr ct e a1 a2 (by rw[hel,hc];exact Nat.le_refl _) (λr hr=> ?_) a6 (λi j e' x v h1 h2 h3=> ?_)
   ·rw[he]at hr;rcases List.mem_append.1 hr with hr|hr
    ·exact a4 r hr
    ·rw[(List.mem_replicate.1 hr).2];simp
   ·rw[he]at h1;rcases Nat.lt_or_ge i es.den.length with hi|hi
    ·rw[List.getElem?_append_left hi]at h1;exact a5 i j e' x v h1 h2 h3
    ·rw[List.getElem?_append_right hi,List.getElem?_replicate]at h1;split at h1
     ·cases h1;rw[List.getElem?_replicate]at h2;split at h2
      ·cases h2;exact⟨.bB,a6 _ v h3⟩
      ·cases h2
     ·cases h1
end
end Go.bA
end
