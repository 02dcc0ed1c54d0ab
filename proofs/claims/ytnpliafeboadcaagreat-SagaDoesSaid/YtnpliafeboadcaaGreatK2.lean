/- Texts that the law leans on, part 2. No conditions. -/
import Derived.Test.YtnpliafeboadcaaGreatK1
import Derived.Laws.Slices
import Derived.Laws.MakeOwn
import Derived.Laws.RangeString
import Derived.Scope
import Derived.Deep.Quiet
import Derived.Deep.AppendSrc
import Derived.Deep.Upon
import Derived.LoopN
import Derived.Deep.LoopGhost
import Derived.WalkKit
import Derived.ProofKit
import Derived.OpenShut
import Derived.ShutString
import Derived.ChangeOld
import Derived.Below
import Derived.SizedLaws
section
namespace Go.bA
variable [Gl]
section
variable{P:Program}{δ:Nat->Option TD}{w:World}{F:Nat->Prop}{μ:Mu}{ob:List AO}{K:AV->List AO->Prop}
omit [Gl]in
theorem Ac {α:Type}:∀(l:List α)(n:Nat),abm l n=l.take n
 |_,0=>by simp[abm]
 |[],n+1=>by simp[abm]
 |a::l,n+1=>by simp[abm,Ac l n]
def ox (w:World)(F:Nat->Prop)(μ:Mu):Option AV->Option Value->Prop
 |none,none=>True
 |some x,some v=>VR w F μ x v
 |_,_=>False
omit [Gl]in
theorem uE {o:Option AV}{v:Option Value}{d n:Th Int}(h:ox w F μ o v)(hb:tj o d=some n):(o=none/\v=none/\n=d)\/∃k,v=some (.int k n.den)/\o.isSome=true:=by
 cases o with
 |none=>cases v<;>simp[ox]at h;simp[tj]at hb;exact .inl ⟨rfl,rfl,hb.symm⟩
 |some x=>
  cases v with
  |none=>simp[ox]at h
  |some v=>
   simp only[ox]at h;unfold tj at hb;split at hb
   ·rename_i e;cases e
   ·rename_i k m e;cases e;cases hb;exact .inr ⟨k,by rw[h.iE],rfl⟩
   ·cases hb
omit [Gl]in
theorem tO {l h m c:Int}(hh:okB l h m c=true):0<=l/\l<=h/\h<=m/\m<=c:=by simp[okB]at hh;omega
omit [Gl]in
theorem jj {Xi:Bool}{len cap:Nat}{lo hi mx:Option AV}{Mt Mv yK:Option Value}{l h m:Th Int}{dl dh dm:Th Int}(b1:ox w F μ lo Mt)(b2:ox w F μ hi Mv)(b3:ox w F μ mx yK)
    (e1:tj lo dl=some l) (e2:tj hi dh=some h) (e3:tj mx dm=some m) (d1:dl.den=0) (d2:dh.den=len) (d3:dm.den=cap) (hx:(hi.isNone&&mx.isSome)=false)
    (o1:0<=l.den) (o2:l.den<=h.den) (o3:h.den<=m.den) (o4:m.den<=cap) (w':World):(Instr.sliceBounds Xi len cap Mt Mv yK).run P w'=.ok (l.den.toNat,h.den.toNat,m.den.toNat) w':=by
  rcases uE b1 e1 with⟨_,rfl,rfl⟩|⟨k1,rfl,_⟩<;>rcases uE b2 e2 with⟨hh,rfl,rfl⟩|⟨k2,rfl,hh⟩<;>rcases uE b3 e3 with⟨hm,rfl,rfl⟩|⟨k3,rfl,hm⟩;all_goals first
    |(exfalso;rw[hh]at hx;cases mx<;>simp at hm hx;done)
    |skip
  all_goals
    have p0:0<=h.den:=by omega
    have p1:0<=m.den:=by omega
    have p2:h.den<=(cap:Int):=by omega
    have p3:l.den<=(cap:Int):=by omega
    have p4:h.den<=((m.den.toNat:Nat):Int):=by omega
    have p5:l.den<=((h.den.toNat:Nat):Int):=by omega
    have p7:∀n:Int,(n.toNat:Int)=max n 0:=λn=>by omega
    try simp only[Instr.sliceBounds,Sem.run_bind,run_sliceBound w' _ _ _ _ p0 p2,run_sliceBound w' _ _ _ _ p0 p4,run_sliceBound w' _ _ _ _ o1 p5,run_sliceBound w' _ _ _ _ p1 o4,Sem.run_pure,Result.andThen_ok]
  all_goals first
    |rfl
    | (refine congrArg (λx=>Result.ok x w') ?_
       refine Prod.ext ?_ (Prod.ext ?_ ?_)<;>simp only<;>omega)
    | (have p6:l.den<=(len:Int):=by omega
       simp only[run_sliceBound w' _ _ _ _ o1 p6,Result.andThen_ok];refine congrArg (λx=>Result.ok x w') ?_;refine Prod.ext ?_ (Prod.ext ?_ ?_)<;>simp only<;>omega)
omit [Gl]in
theorem yL {O:Nat->Prop}{k:Nat}{es:List (List T)}{p:Option Addr}{cap:Nat}(h:VT w O (.dO k es) (.slice p es.length cap)){l hh m s:Nat}(hs:s=k)(h1:l<=hh)(h2:hh<=es.length)(h3:hh<=m)(h4:m<=cap):
  VT w O (.dO k ((es.drop l).take (hh -l))) (sliced p l hh m s):=by
 subst hs;unfold sliced;generalize hv:Value.slice p es.length cap=v at h;have hlen:((es.drop l).take (hh -l)).length=hh -l:=by simp;omega
 cases h with
 | @dO _ _ b off _ c a1 a2 a3 a4 a5 a6=>
  cases hv;by_cases he:hh -l=0
  ·have:(es.drop l).take (hh -l)=[]:=by rw[he];simp
   rw[this,he];exact .oO (λh=>by split at h<;>simp at h)
  ·have hne:¬m=l:=by omega
   rw[if_neg hne];simp only[Option.map_some,Addr.add_lit];have Ph:VT w O (.dO s ((es.drop l).take (hh -l))) (.slice (some ⟨b,off+l*s,none⟩) ((es.drop l).take (hh -l)).length (m -l)):= ?_
   ·rw[hlen]at Ph;exact Ph
   refine .dO (λi j=>c (l+i) j) a1 a2 (by rw[hlen];omega) (λe he=>a4 e (List.mem_of_mem_drop (List.mem_of_mem_take he))) (λi j e x hi hj=> ?_) (λi j e x hi hj=> ?_)
   ·rw[List.getElem?_take]at hi;split at hi
    ·rw[List.getElem?_drop]at hi;have e9:off+l*s+(i*s+j)=off+((l+i)*s+j):=by rw[Nat.add_mul];omega
     rw[e9];exact a5 (l+i) j e x hi hj
    ·cases hi
   ·rw[List.getElem?_take]at hi;split at hi
    ·rw[List.getElem?_drop]at hi;exact a6 (l+i) j e x hi hj
    ·cases hi
 |oO h0=>
  cases hv;simp at h2;subst h2;have:l=0:=by omega
  subst this;simp only[List.drop_nil,List.take_nil,Nat.sub_self,Nat.sub_zero];exact .oO (λh=>by
   split at h
   ·have:=h0 h;omega
   ·cases p with
    |none=>have:=h0 rfl;omega
    |some a=>simp at h)
omit [Gl]in
theorem ri {O:Nat->Prop}{k:Nat}{es:Th (List (List T))}{l h:Th Int}{v:Value}(hv:VT w O (.dO k (sC es.den l.den h.den)) v):VT w O (uh k es l h) v:=by
 cases es<;>cases l<;>cases h
 case lit.lit.lit=>simp only[uh,Ac,jM];exact hv
 all_goals exact .bJ rfl hv
omit [Gl]in
theorem rj {O:Nat->Prop}{k:Nat}{es:Th (List (List T))}{l h m:Th Int}{mx:Option AV}{v:Value}(h0:mx.isSome=true->m.den=0->∃a,v=.slice a 0 0)(hv:VT w O (uh k es l h) v):VT w O (uj k es l h m mx) v:=by
 unfold uj;split
 ·split
  ·rename_i hd;obtain⟨a,rfl⟩:=h0 rfl (by simpa using hd);exact .emp
  ·exact hv
 ·exact hv
omit [Gl]in
theorem sK {p:Option Addr}{l h m:Int}{s:Nat}(o1:0<=l)(o2:l<=h)(o3:h<=m)(hm:m=0):∃a,sliced p l.toNat h.toNat m.toNat s=.slice a 0 0:=by
 obtain rfl:l=0:=by omega
 obtain rfl:h=0:=by omega
 subst hm;exact⟨_,rfl⟩
omit [Gl]in
theorem yM (bw:cg P δ){t:Nat}{x:AV}{v:Value}{lo hi mx:Option AV}{Mt Mv yK:Option Value}(hv:VR w F μ x v)(b1:ox w F μ lo Mt)(b2:ox w F μ hi Mv)(b3:ox w F μ mx yK)(h:qP δ t x lo hi mx ob K):
  fy P (Instr.sliceAt t v Mt Mv yK) w F μ ob K:=by
 unfold qP at h;split at h
 ·rename_i d hd;split at h
  ·rename_i hsh;have hu:=pR bw hd hsh;split at h
   ·rename_i s;split at h
    ·rename_i l h' e1 e2;obtain⟨hm,hK⟩:=eC h;clear h;simp only[oP]at hm;obtain⟨o1,o2,o3,o4⟩:=tO hm;have IJ:yK=none:=by cases yK<;>simp[ox]at b3;rfl
     subst IJ;refine .q (v:=.string (s.den.extract l.den.toNat h'.den.toNat)) (λw' _=> ?_) (VR.s' (by simp)) hK;rw[hv.sE,run_sliceAt_string w' t _ _ _ _ hu];have hb:=jj (P:=P) (Xi:=false) (len:=s.den.size) (cap:=s.den.size) (mx:=none) (yK:=none) (m:=m1 (λs:ByteArray=>(s.size:Int)) s) (dm:=m1 (λs:ByteArray=>(s.size:Int)) s) b1 b2 (by trivial) e1 e2 rfl rfl (by simp) (by simp) (by simp) o1 o2 (by simpa using o3) (by simp) w';simp[Instr.slice,run_underlying hu,hb]
    ·exact h.elim
   ·exact h.elim
  ·rename_i e hsh;have hu:=a_ bw hd hsh;have RP:P.elem t=e:=by simp[Program.elem,hu]
   have eR:P.underlying t=some (.slice (P.elem t)):=by rw[RP];exact hu
   split at h
   ·rename_i ed ir;obtain⟨ie,q1,q2,_⟩:=fP bw ir;have run:∀{a:Option Addr}{len cap:Nat}{l h m dl dh dm:Th Int},tj lo dl=some l->tj hi dh=some h->tj mx dm=some m->dl.den=0->dh.den=len->(hi.isNone&&mx.isSome)=false->(mx=none->m.den=cap)->(yK=none->dm.den=cap\/mx.isSome=true)->dm.den<=cap->
      0<=l.den->l.den<=h.den->h.den<=m.den->m.den<=cap->∀w',(Instr.sliceAt t (.slice a len cap) Mt Mv yK).run P w'=.ok (sliced a l.den.toNat h.den.toNat m.den.toNat ed.size) w':=by
     intro a len cap l h m dl dh dm e1 e2 e3 d1 d2 hx I9 _ _ o1 o2 o3 o4 w';rw[run_sliceAt_slice w' t _ _ _ _ eR,run_slice_any w' t a len cap eR];have hb:(Instr.sliceBounds true len cap Mt Mv yK).run P w'=.ok (l.den.toNat,h.den.toNat,m.den.toNat) w':=by
      cases K_:mx with
      |none=>
       subst K_;have IJ:yK=none:=by cases yK<;>simp[ox]at b3;rfl
       subst IJ;exact jj (P:=P) (dm:=m) (m:=m) (mx:=none) (yK:=none) b1 b2 (by trivial) e1 e2 rfl d1 d2 (I9 rfl) (by simp) o1 o2 o3 o4 w'
      |some y=>
       subst K_
       cases yK with
       |none=>simp[ox]at b3
       |some vy=>
        have ZO:tj (some y) (.lit (cap:Int))=some m:=by
         unfold tj at e3⊢;split at e3<;>simp_all
        exact jj (P:=P) (dm:=.lit (cap:Int)) (m:=m) b1 b2 b3 e1 e2 ZO d1 d2 rfl hx o1 o2 o3 o4 w'
     rw[hb];simp[RP,cO q1,q2]
    split at h
    ·rename_i o k i len cap;split at h
     ·rename_i l h' m hk e1 e2 e3 hx;have hk':k=ed.size:=by simpa using hk
      obtain⟨hm,hK⟩:=eC h;clear h;simp only[BJ,BI]at hm;obtain⟨o1,o2,o3,o4⟩:=tO hm;obtain⟨a,iA,FU,La,RQ⟩:=hv.FO;have ZP:m.den<=(cap.den:Int):=o4;have hmn:mx=none->m.den=cap.den:=λe=>by rw[e]at e3;simp[tj]at e3;rw[<-e3];simp
      have hr:=run (a:=a) (len:=len.den) (cap:=cap.den) e1 e2 e3 rfl (by simp) hx hmn (λe=>by
       cases mx with
       |none=>left;simp
       |some y=>exact .inr rfl) (by simp) o1 o2 o3 ZP
      refine .q (λw' _=>by rw[iA];exact hr w') ?_ hK;unfold sliced;have hoff:(m3 bP i l m).den=if m.den=l.den then i.den else i.den+l.den.toNat:=by
       simp only[oP,bP];by_cases e:m.den=l.den<;>simp[e]
      have e5:(m2 (λl h=>(h -l).toNat) l h').den=h'.den.toNat -l.den.toNat:=by simp;omega
      have e6:(m2 (λl m=>(m -l).toNat) l m).den=m.den.toNat -l.den.toNat:=by simp;omega
      have hml:(m.den.toNat=l.den.toNat)↔m.den=l.den:=by omega
      have hlen:(m2 (λl h=>(h -l).toNat) l h').den<=(m2 (λl m=>(m -l).toNat) l m).den:=by rw[e5,e6];omega
      have hcap:(m2 (λl m=>(m -l).toNat) l m).den<=9223372036854775807:=by rw[e6];omega
      rw[<-e5,<-e6];rw[iA]at hv;generalize Xj:Value.slice a len.den cap.den=gv at hv
      cases hv with
      | @sl _ _ _ _ _ b hb _ _=>
       cases Xj;have hval:(if m.den.toNat=l.den.toNat then some (⟨b,i.den*k,none⟩:Addr)else(some (⟨b,i.den*k,none⟩:Addr)).map (·.add (l.den.toNat*ed.size)))=some ⟨b,(m3 bP i l m).den*k,none⟩:=by
        rw[hoff];by_cases e:m.den=l.den
        ·rw[if_pos (hml.2 e),if_pos e]
        ·rw[if_neg (λh=>e (hml.1 h)),if_neg e,hk'];simp[Addr.add_lit,Nat.add_mul]
       rw[hval];exact .sl hb hlen hcap
      | @wj _ _ _ _ _ a' hb _ _ h0=>
       cases Xj;refine .wj hb hlen hcap (λe=> ?_);rw[e6];split at e
       ·omega
       ·cases a with
        |none=>have:=h0 rfl;omega
        |some a=>simp at e
     ·exact h.elim
    ·rename_i k es;split at h
     ·rename_i l h' m hk e1 e2 e3 hx;have hk':k=ed.size:=by simpa using hk
      obtain⟨hm,hK⟩:=eC h;clear h;simp only[BJ,Th.bH]at hm;obtain⟨o1,o2,o3,o4⟩:=tO hm
      cases hv with
      |c hv=>
       obtain⟨k2,p,cap,r1,r2,_,r3,r4,_⟩:=gi (.inl ⟨_,_,rfl⟩) hv;simp only[T.rows]at r1 r4;have ZQ:Int.ofNat (bS es)=(es.length:Int):=by rw[bQ];rfl
       rw[ZQ]at e2 e3 o4
       cases K_:mx with
       |none=>
        subst K_;have IJ:yK=none:=by cases yK<;>simp[ox]at b3;rfl
        subst IJ;simp[tj]at e3;subst e3;have hr:=run (a:=p) (len:=es.length) (cap:=cap) (m:=.lit (cap:Int)) (dm:=.lit (cap:Int)) e1 e2 rfl rfl rfl hx (λ_=>rfl) (λ_=>.inl rfl) (by simp) o1 o2 (by simp at o3⊢;omega) (by simp);refine .q (λw' _=>by rw[r1];exact hr w') ?_ hK;have hsub:=yL (l:=l.den.toNat) (hh:=h'.den.toNat) (m:=cap) (s:=ed.size) (by rw[<-r1];exact hv) hk'.symm (by omega) (by simp at o3;omega) (by simp at o3;omega) (Nat.le_refl _);have e8:(h'.den -l.den).toNat=h'.den.toNat -l.den.toNat:=by omega
        simp only[Th.bH,Int.toNat_natCast];exact .c (rj (by simp) (ri (by unfold sC;rw[Th.bH,e8];exact hsub)))
       |some y=>
        subst K_;have hr:=run (a:=p) (len:=es.length) (cap:=cap) e1 e2 e3 rfl rfl hx (λe=>by cases e) (λ_=>.inr rfl) (by simp;omega) o1 o2 o3 (by omega);refine .q (λw' _=>by rw[r1];exact hr w') ?_ hK;have hsub:=yL (l:=l.den.toNat) (hh:=h'.den.toNat) (m:=m.den.toNat) (s:=ed.size) (by rw[<-r1];exact hv) hk'.symm (by omega) (by omega) (by omega) (by omega);have e8:(h'.den -l.den).toNat=h'.den.toNat -l.den.toNat:=by omega
        exact .c (rj (λ_ hm=>sK o1 o2 o3 hm) (ri (by unfold sC;rw[Th.bH,e8];exact hsub)))
     ·exact h.elim
    ·rename_i k f;split at h
     ·rename_i l h' m hk e1 e2 e3 hx;have hk':k=ed.size:=by simpa using hk
      obtain⟨hm,hK⟩:=eC h;clear h;simp only[BJ,Th.aB]at hm;obtain⟨o1,o2,o3,o4⟩:=tO hm
      cases hv with
      |c hv=>
       obtain⟨k2,p,cap,r1,_,r2,r3,r4,_⟩:=gi (.inr ⟨_,_,rfl⟩) hv;have hvs:VT w (own F μ) (.dO k (T.bJ k f).rows) v:=by
        cases hv with
        |bJ hf h=>simp only[T.rows,hf];exact h
        |zM hf=>simp only[T.rows,hf];exact .oO λ_=>rfl
       have e8:(h'.den -l.den).toNat=h'.den.toNat -l.den.toNat:=by omega
       have fin:∀{mm:Nat}{mx:Option AV}{m:Th Int},(mx.isSome=true->m.den=mm)->h'.den.toNat<=mm->mm<=cap->VR w F μ (.c (uj k (.th λ_=>(T.bJ k f).rows) l h' m mx)) (sliced p l.den.toNat h'.den.toNat mm ed.size):=by
        intro mm mx m h0 h1 h2;have hsub:=yL (l:=l.den.toNat) (hh:=h'.den.toNat) (m:=mm) (s:=ed.size) (by rw[<-r1];exact hvs) hk'.symm (by omega) (by omega) h1 h2;exact .c (rj (λhx hm=>by
         have h3:=h0 hx;rw[hm]at h3;have:=sK (p:=p) (s:=ed.size) (m:=0) o1 o2 (by omega) rfl;have e:mm=0:=by omega
         rw[e];exact this) (ri (by unfold sC;rw[Th.aB,e8];exact hsub)))
       cases K_:mx with
       |none=>
        subst K_;have IJ:yK=none:=by cases yK<;>simp[ox]at b3;rfl
        subst IJ;simp[tj]at e3;subst e3;simp at o3 o4;have hr:=run (a:=p) (len:=(T.bJ k f).rows.length) (cap:=cap) (m:=.lit (cap:Int)) (dm:=.lit (cap:Int)) e1 e2 rfl rfl rfl hx (λ_=>rfl) (λ_=>.inl rfl) (by simp) o1 o2 (by simp;omega) (by simp);refine .q (λw' _=>by rw[r1];exact hr w') ?_ hK;simp only[Th.bH,Int.toNat_natCast];exact fin (by simp) (by omega) (Nat.le_refl _)
       |some y=>
        subst K_;have hr:=run (a:=p) (len:=(T.bJ k f).rows.length) (cap:=cap) e1 e2 e3 rfl rfl hx (λe=>by cases e) (λ_=>.inr rfl) (by simp;omega) o1 o2 o3 (by omega);refine .q (λw' _=>by rw[r1];exact hr w') (fin (λ_=>by omega) (by omega) (by omega)) hK
     ·exact h.elim
    ·exact h.elim
   ·exact h.elim
  ·exact h.elim
 ·exact h.elim
omit [Gl]in
theorem uF (bw:cg P δ){t:Nat}{x:AV}{v:Value}(hv:VR w F μ x v)(h:D9 δ t x ob K)(ty:TypeId):fy P (Builtin.cap_ #[t] ty #[v]) w F μ ob K:=by
 unfold D9 at h;split at h
 ·rename_i d hd;split at h
  ·rename_i e o k i len cap hsh;have hu:=a_ bw hd hsh;have RP:P.elem t=e:=by simp[Program.elem,hu]
   obtain⟨a,iA,_⟩:=hv.FO;refine .q (v:=.int .i64 (m1 Int.ofNat cap).den) (λw' hw=> ?_) (VR.i _ _) h;rw[iA,run_cap_slice w' t ty a len.den cap.den (by rw[RP];exact hu)];simp[goInt]
  ·exact h.elim
 ·exact h.elim
omit [Gl]in
theorem jR (w0:World)(bw:cg P δ){t:Nat}{d:TD}(hd:δ t=some d)(hz:d.zero≠[]):∃z,(∀w,(zeroValue t).run P w=.ok z w)/\(∃i,P.info? t=some i/\i.zero=some z/\i.size=d.size/\i.bytes=d.bytes)/\z.cells.size=d.size/\(bG d).length=d.size/\
  (∀(w:World)(F:Nat->Prop)(μ:Mu)(n j:Nat) x u,(List.replicate n (bG d)).flatten[j]?=some x->((Array.range (n*d.size)).map (z.cells[· %z.cells.size]!))[j]?=some u->VR w F μ x u/\u.oneCell'=true)/\(∀u∈z.cells,u.oneCell'=true):=by
 obtain⟨z,z1,z2,z3,z4⟩:=gE bw hd hz;obtain⟨ie,z',q1,q2,q3,q4,q5,_⟩:=iH bw hd hz;obtain⟨Uc,Lb,Xk,q6⟩:=fP bw hd;rw[q1]at Lb;cases Lb;have II:z=z':=by
  have h1:=z1 w0;simp[zeroValue,typeInfo,q1,q2]at h1;exact h1.symm
 subst II;have one:∀u∈z.cells,u.oneCell'=true:=by
  intro u eR;obtain⟨j,hj,rfl⟩:=List.getElem_of_mem (Array.mem_toList_iff.2 eR);have hj':j<(bG d).length:=by rw[<-z2];simpa using hj
  exact(z4 w0 (λ_=>False) [] j _ _ (List.getElem?_eq_getElem hj') (by simp at hj;simp[hj])).2
 refine⟨z,z1,⟨ie,q1,q2,q3,q6⟩,q4,z3,λw F μ n j x u hx hu=> ?_,one⟩;have hfl:(List.replicate n (bG d)).flatten.length=n*d.size:=by
  rw[eF d.size _ (λe he=>by rw[(List.mem_replicate.1 he).2];exact z3)];simp
 have hj:j<n*d.size:=by rw[<-hfl];exact(List.getElem?_eq_some_iff.1 hx).1
 rw[uy d.size _ z3 n j hj]at hx;simp[hj]at hu;have Cm:0<d.size:=by
  rcases Nat.eq_zero_or_pos d.size with h|h
  ·rw[h]at hj;simp at hj
  ·exact h
 have hm:j %z.cells.size<z.cells.size:=Nat.mod_lt _ (by omega);rw[getElem!_pos z.cells _ hm]at hu;exact z4 w F μ (j %d.size) x u hx (by rw[<-q4,Array.getElem?_eq_getElem hm,hu])
theorem rm (bw:cg P δ)(hs:St w F μ ob){t:Nat}{x y:AV}{vx vy:Value}(hx:VR w F μ x vx)(hy:VR w F μ y vy)(h:oQ δ t x y ob K):gb P (Instr.makeSlice t vx vy) w F μ K:=by
 unfold oQ at h;split at h
 ·rename_i d kn n kc c hd;rw[hx.iE,hy.iE];split at h
  ·rename_i e hsh;have hu:=a_ bw hd hsh;split at h
   ·rename_i ed ir;split at h
    ·exact h.elim
    ·rename_i z0 zs hz;obtain⟨hm,hK⟩:=eC h;clear h;simp only[yj,Bool.and_eq_true,decide_eq_true_eq]at hm;obtain⟨⟨⟨h0,h1⟩,h2⟩,h3⟩:=hm;obtain⟨z,_,⟨ie,q1,q2,q3,q6⟩,q4,q5,q7,q8⟩:=jR w bw ir (by rw[hz];simp);have hr:=run_make (P:=P) w t e ie z hu q1 q2 kn kc n.den c.den h0 h1 (by rw[q6];exact h2) h3;have hrl:∀r∈List.replicate c.den.toNat (bG ed),r.length=ed.size:=λr hr=>by rw[(List.mem_replicate.1 hr).2];exact q5
     refine gb.lf hs (o:=.cells (madeCells z.cells (c.den.toNat*ie.size)) e) hr ?_ ?_ hK
     ·intro w' bu he hh;refine .arr (madeCells z.cells (c.den.toNat*ie.size)) e hh (by simp[size_madeCells,q3]) (by simp) (by simpa using hrl) (λi v hv=> ?_) (λi j e' x v Ga Ec hv=> ?_)
      ·simp only[madeCells,Array.getElem?_map,Option.map_eq_some_iff]at hv;obtain⟨q,hq,rfl⟩:=hv;have Dd:=(Array.getElem?_eq_some_iff.1 hq).1;have:0<z.cells.size:=by
        rcases Nat.eq_zero_or_pos z.cells.size with h|h
        ·rw[q3,<-q4,h]at Dd;simp at Dd
        ·exact h
       have Pj:q %z.cells.size<z.cells.size:=Nat.mod_lt _ this;rw[getElem!_pos z.cells _ Pj];exact q8 _ (Array.getElem_mem Pj)
      ·simp only[BI]at Ga;exact q7 w' F bu c.den.toNat (i*ed.size+j) x v (iZ ed.size _ hrl i j e' x Ga Ec) (by rw[q3]at hv;exact hv)
     ·intro w' bu _ hm;have e1:n.den.toNat=(m1 Int.toNat n).den:=by simp
      have e2:c.den.toNat=(m1 Int.toNat c).den:=by simp
      rw[bQ,e1,e2];have:=VR.sl (w:=w') (F:=F) (k:=ed.size) (i:=.lit 0) (len:=m1 Int.toNat n) (cap:=m1 Int.toNat c) hm (by simp;omega) (by simp;omega);simpa using this
   ·exact h.elim
  ·exact h.elim
 ·exact h.elim
omit [Gl]in
theorem iS (z:List AV)(es:List (List AV))(i n j:Nat):(dQ z es i n)[j]?=if i<=j/\j<i+n/\j<es.length then some z else es[j]?:=by
 unfold dQ;by_cases hi:i<=es.length
 ·have h0:(es.take i).length=i:=by simp;omega
  rw[List.append_assoc];by_cases h1:j<i
  ·rw[List.getElem?_append_left (by omega),List.getElem?_take,if_pos h1,if_neg (by omega)]
  ·rw[List.getElem?_append_right (by omega),h0];by_cases h2:j -i<min n (es.length -i)
   ·rw[List.getElem?_append_left (by simpa using h2),List.getElem?_replicate,if_pos h2,if_pos (by omega)]
   ·rw[List.getElem?_append_right (by simpa using h2),List.length_replicate,List.getElem?_drop];by_cases h3:i<=j/\j<i+n/\j<es.length
    ·exfalso;omega
    ·rw[if_neg h3];by_cases h4:i+n<=es.length
     ·congr 1;omega
     ·rw[List.getElem?_eq_none (by omega),List.getElem?_eq_none (by omega)]
 ·have e1:es.take i=es:=List.take_of_length_le (by omega);have e2:es.length -i=0:=by omega
  rw[e1,e2,List.drop_eq_nil_of_le (by omega)];simp;omega
omit [Gl]in
theorem nh {t:TypeId}{a:Option Addr}{c:Nat}(ht:∃u,P.underlying t=some u)(ty:TypeId):(Builtin.clear_ #[t] ty #[.slice a 0 c]).run P w=.ok (.tuple #[]) w:=by
 obtain⟨u,hu⟩:=ht;cases a<;>simp[Builtin.clear_,run_underlying hu]
theorem Ad (hs:St w F μ ob){x:AV}{v:Value}(hv:VR w F μ x v)(h:F8 x ob K)(ty:TypeId):gb P (Instr.next v true ty) w F μ K:=by
 unfold F8 at h;split at h
 ·rename_i o;split at h
  ·rename_i s pos hn;obtain⟨b,hb,jN⟩:=hs.box hn (λg=>g)
   cases jN with
   |tJ h1=>
   cases hv with
   |oo h0=>rw[h0]at hb;cases hb
   |ref h0=>
    rw[h0]at hb;cases hb;obtain⟨ht,hf⟩:=ko h;simp only[yj,F7,decide_eq_true_eq,decide_eq_false_iff_not]at ht hf;have GM:=hs.lt o b h0;by_cases hp:pos.den<s.den.size
    ·have hk:=ht hp;obtain⟨g1,g2⟩:=hs.set h0 {w with heap:=w.heap.setIfInBounds b (.stringIter s.den (nK s.den pos.den))} (.tJ s (m2 nK s pos)) (by simp)
      (λb' hne=>by simp only[Array.setIfInBounds];split<;>simp[Ne.symm hne]) rfl rfl rfl
      (λ_=>.tJ (by rw[yj];simp[Array.setIfInBounds,GM]))
     refine⟨.tuple #[.bool true,goInt pos.den,.int .i32 (pN s.den pos.den)],_,_,μ,_, ?_, ?_,g1,g2,by rw[cJ]at hk;exact hk⟩
     ·simp only[Instr.next,getObj,setObj,Sem.run_bind,Sem.run,h1,Result.andThen,hp,if_true,pN,nK]
      rfl
     ·refine .cI rfl (λi x v hx hv=> ?_)
      match i with
      |0=>simp at hx hv;subst hx;subst hv;exact .c (.bool (b:=.lit true))
      |1=>simp at hx hv;subst hx;subst hv;exact .c (by have:=VT.int (w:={w with heap:=w.heap.setIfInBounds b (.stringIter s.den (nK s.den pos.den))}) (O:=bA.own F μ) (k:=.i64) (n:=m1 Int.ofNat pos);rw[BI]at this;exact this)
      |2=>simp at hx hv;subst hx;subst hv;exact .c (by have:=VT.int (w:={w with heap:=w.heap.setIfInBounds b (.stringIter s.den (nK s.den pos.den))}) (O:=bA.own F μ) (k:=.i32) (n:=m2 pN s pos);rw[yj]at this;exact this)
      |n+3=>simp at hx
    ·refine gb.here hs (v:=.tuple #[.bool false]) ?_ (.cI rfl λi x v hx hv=> ?_) (hf hp)
     ·simp[Instr.next,getObj,Sem.run,h1,hp]
     ·match i with
      |0=>simp at hx hv;subst hx;subst hv;exact .c (.bool (b:=.lit false))
      |n+1=>simp at hx
  ·exact h.elim
 ·exact h.elim
theorem St.yN (hs:St w F μ ob){o:Nat}{x y:AO}(hn:nth ob o=some x)(hg:gone x->gone y)(ho:∀b,OB w F μ b x->OB w F μ b y):St w F μ (ob.set o y):=by
 rw[cq]at hn;have hl:=(List.getElem?_eq_some_iff.1 hn).1;refine⟨by simp[hs.len],hs.inj,hs.lt,λq hq=> ?_,hs.frame,λq b hq=> ?_,hs.gl⟩
 ·obtain⟨z,y1,y2⟩:=hs.dead q hq;by_cases e:o=q
  ·subst e;rw[hn]at y1;cases y1;exact⟨y,by rw[List.getElem?_set_self hl],hg y2⟩
  ·exact⟨z,by rw[List.getElem?_set_ne e];exact y1,y2⟩
 ·obtain⟨z,y1,y2⟩:=hs.live q b hq;by_cases e:o=q
  ·subst e;rw[hn]at y1;cases y1;exact⟨y,by rw[List.getElem?_set_self hl],ho b y2⟩
  ·exact⟨z,by rw[List.getElem?_set_ne e];exact y1,y2⟩
theorem yO (bw:cg P δ)(hs:St w F μ ob){t:Nat}{x:AV}{v:Value}(hv:VR w F μ x v)(h:BN δ t x ob K)(ty:TypeId):gb P (Builtin.clear_ #[t] ty #[v]) w F μ K:=by
 have unit:∀{w:World}{μ:Mu},VR w F μ dP (.tuple #[]):=.cI rfl (λi x v h=>by simp at h);unfold BN at h;split at h
 ·rename_i d hd;split at h
  ·rename_i e hsh;have hu:=a_ bw hd hsh;split at h
   ·rename_i ed ir;split at h
    ·rw[hv.qU];exact .here hs (nh (P:=P) ⟨_,hu⟩ ty) unit h
    ·exact h.elim
    ·rename_i o k i len cap z0 zs hz;split at h
     ·rename_i k' es sz hn hk;have hk':k=ed.size:=by simpa using hk
      split at h
      ·exact h.elim
      ·rename_i hkk;have hkk':k'=k:=by simpa using hkk
       subst hkk';obtain⟨hm,hK⟩:=eC h;clear h;simp only[oP,Nat.ble_eq]at hm;obtain⟨a,iA,hlc,_,h0a⟩:=hv.FO;obtain⟨z,z1,⟨ie,q1,q2,q3,q6⟩,q4,q5,q7,q8⟩:=jR w bw ir (by rw[hz];simp);rw[cJ]at hK;by_cases h0:len.den=0
       ·--nothing
        have he:(m3 (dQ (bG ed)) es i len).den=es.den:=by
         rw[oP,h0];apply List.ext_getElem?;intro j;rw[iS,if_neg (by omega)]
        have hsame:St w F μ (ob.set o (.arr k' (m3 (dQ (bG ed)) es i len) sz)):=hs.yN hn (λg=>⟨by rw[he];exact g.1,g.2⟩) (λb y2=>by
         cases y2 with
         |arr ct pK g1 g2 g3 g4 g6 g5=>exact .arr ct pK g1 g2 (by rw[he];exact g3) (by rw[he];exact g4) g6 (by rw[he];exact g5))
        rw[iA,h0];exact .here hsame (nh (P:=P) ⟨_,hu⟩ ty) unit hK
       ·have pQ:0<k':=by
         rcases Nat.eq_zero_or_pos k' with Xl|Xl
         ·exfalso;obtain⟨i',u',w1,w2,w3,_,w5,w6,w7⟩:=(bw _ ed ir).ok;have h5:=q4;have:=(iH bw ir (by rw[hz];simp));obtain⟨_,_,_,_,_,_,hzl,_⟩:=this;rw[hz]at hzl;simp at hzl;omega
         ·exact Xl
        have ZR:0<sz.den:=by
         have:0<(i.den+len.den)*k':=Nat.mul_pos (by omega) pQ;omega
        obtain⟨b,hb,jN⟩:=hs.box hn (λg=>by have:=g.2;omega);obtain⟨Ud,_,_⟩:=hv.I3 hb
        cases jN with
        |arr ct pK g1 g2 g3 g4 g6 g5=>
         have hzl:(Builtin.zeroCells z.cells len.den).toList.length=len.den*k':=by
          simp only[Array.length_toList,size_zeroCells,q4,hk']
         have hfit:i.den*k'+(Builtin.zeroCells z.cells len.den).toList.length<=ct.size:=by
          rw[hzl,g2,<-Nat.add_mul];exact hm
         have xq:∀u∈(Builtin.zeroCells z.cells len.den).toList,u.oneCell'=true:=by
          intro u eR;simp only[Builtin.zeroCells,Array.toList_map,List.mem_map,Array.toList_range,List.mem_range]at eR;obtain⟨j,hj,rfl⟩:=eR;have Pj:j %z.cells.size<z.cells.size:=Nat.mod_lt _ (by omega);rw[getElem!_pos z.cells _ Pj];exact q8 _ (Array.getElem_mem Pj)
         have hst:=run_storeCells_at P b (i.den*k') pK (Builtin.zeroCells z.cells len.den).toList 0 ct w g1 (by simpa using hfit) xq;simp only[Nat.add_zero]at hst;obtain⟨n,hn'⟩:∃n,len.den=n+1:=⟨len.den -1,by omega⟩;have hrun:(Builtin.clear_ #[t] ty #[v]).run P w=.ok (.tuple #[]) (w.setRow b (ct.toList.take (i.den*k')++(Builtin.zeroCells z.cells len.den).toList++ct.toList.drop (i.den*k'+(Builtin.zeroCells z.cells len.den).toList.length)).toArray):=by
          rw[Ud];rw[hn']at hst⊢;simp only[Builtin.clear_];simp[run_underlying hu,z1,hst]
         obtain⟨r1,r2⟩:=hs.set hb (w.setRow b (ct.toList.take (i.den*k')++(Builtin.zeroCells z.cells len.den).toList++ct.toList.drop (i.den*k'+(Builtin.zeroCells z.cells len.den).toList.length)).toArray) (.arr k' (m3 (dQ (bG ed)) es i len) sz) (by simp)
          (λb' hb'=>setRow_other w b b' _ hb') rfl rfl rfl (λhe=>by
           have Ae:∀(j:Nat) u,(ct.toList.take (i.den*k')++(Builtin.zeroCells z.cells len.den).toList++ct.toList.drop (i.den*k'+(Builtin.zeroCells z.cells len.den).toList.length)).toArray[j]?=some u->
             (i.den*k'<=j/\j<(i.den+len.den)*k'/\(Builtin.zeroCells z.cells len.den).toList[j -i.den*k']?=some u)\/((j<i.den*k'\/(i.den+len.den)*k'<=j)/\ct[j]?=some u):=by
            intro j u eR;rw[List.getElem?_toArray,b9 ct.toList _ _ (by simpa using hfit),hzl]at eR;rw[Nat.add_mul];split at eR
            ·exact .inr ⟨.inl (by assumption),by simpa using eR⟩
            ·split at eR
             ·exact .inl ⟨by omega,by omega,eR⟩
             ·exact .inr ⟨.inr (by omega),by simpa using eR⟩
           have hcl:(m3 (dQ (bG ed)) es i len).den.length=es.den.length:=by
            rw[oP];have h1:∀j,(dQ (bG ed) es.den i.den len.den)[j]?.isSome=es.den[j]?.isSome:=λj=>by
             rw[iS];split
             ·rename_i hc;rw[List.getElem?_eq_getElem hc.2.2];rfl
             ·rfl
            rcases Nat.lt_trichotomy (dQ (bG ed) es.den i.den len.den).length es.den.length with hl|hl|hl
            ·have:=h1 (dQ (bG ed) es.den i.den len.den).length;rw[List.getElem?_eq_none (Nat.le_refl _),List.getElem?_eq_getElem hl]at this;cases this
            ·exact hl
            ·have:=h1 es.den.length;rw[List.getElem?_eq_none (Nat.le_refl es.den.length),List.getElem?_eq_getElem hl]at this;cases this
           refine .arr _ pK (setRow_heap w b ct _ pK _ g1) ?_ ?_ ?_ ?_ ?_
           ·simp only[List.size_toArray,List.length_append,hzl,List.length_take,List.length_drop,Array.length_toList];rw[hzl]at hfit;omega
           ·rw[hcl];exact g3
           ·intro e hem;obtain⟨j,hj⟩:=List.mem_iff_getElem?.1 hem;rw[oP,iS]at hj;split at hj
            ·cases hj;rw[hk'];exact q5
            ·exact g4 e (List.mem_of_getElem? hj)
           ·intro j u eR;rcases Ae j u eR with⟨_,_,h3⟩|⟨_,h3⟩
            ·exact xq u (List.mem_of_getElem? h3)
            ·exact g6 j u h3
           ·intro r j e x u hr hj eR;rw[oP,iS]at hr;have hel:e.length=k':=by
             split at hr
             ·cases hr;rw[hk'];exact q5
             ·exact g4 e (List.mem_of_getElem? hr)
            have WN:j<k':=by rw[<-hel];exact(List.getElem?_eq_some_iff.1 hj).1
            split at hr
            ·rename_i hc;cases hr;have l1:i.den*k'<=r*k':=Nat.mul_le_mul_right _ hc.1;have l2:(r+1)*k'<=(i.den+len.den)*k':=Nat.mul_le_mul_right _ hc.2.1;rw[Nat.add_mul,Nat.one_mul]at l2;rcases Ae _ u eR with⟨_,_,h3⟩|⟨h2,h3⟩
             ·have hpos:r*k'+j -i.den*k'=(r -i.den)*k'+j:=by rw[Nat.sub_mul];omega
              rw[hpos,Array.getElem?_toList]at h3;have hrl:∀e∈List.replicate len.den (bG ed),e.length=k':=λe he=>by rw[(List.mem_replicate.1 he).2,hk'];exact q5
              refine(q7 _ F μ len.den ((r -i.den)*k'+j) x u (iZ k' _ hrl (r -i.den) j (bG ed) x (by rw[List.getElem?_replicate,if_pos (by omega)]) hj) ?_);rw[<-h3];congr 1;simp only[Builtin.zeroCells,q4]
             ·omega
            ·rename_i hc;have hrl:r<es.den.length:=(List.getElem?_eq_some_iff.1 hr).1;have hout:r<i.den\/i.den+len.den<=r:=by omega
             rcases Ae _ u eR with⟨h1,h2,_⟩|⟨_,h3⟩
             ·exfalso;rcases hout with ho|ho
              ·have:(r+1)*k'<=i.den*k':=Nat.mul_le_mul_right _ ho;rw[Nat.add_mul,Nat.one_mul]at this;omega
              ·have:(i.den+len.den)*k'<=r*k':=Nat.mul_le_mul_right _ ho;omega
             ·have:=g5 r j e x u hr hj h3;exact⟨this.1.ext he,this.2⟩)
         exact⟨_,_,_,_,_,hrun,unit,r1,r2,hK⟩
     ·exact h.elim
    ·exact h.elim
   ·exact h.elim
  ·rename_i hsh;have hu:∃u,P.underlying t=some u:=by obtain⟨u,hu,_⟩:=fI bw hd;exact⟨u,hu⟩
   obtain⟨u,hu⟩:=hu;split at h
   ·rename_i o;split at h
    ·rename_i es tM;obtain⟨b,hb,jN⟩:=hs.box tM (by simp);have iA:=hv.I4 hb
     cases jN with
     |map bM clock g1 g2 g3=>
      have hlt:b<w.heap.size:=(Array.getElem?_eq_some_iff.1 g1).1;obtain⟨r1,r2⟩:=hs.set hb {w with heap:=w.heap.setIfInBounds b (.map #[] clock)} (.map []) (by simp) (λb' hb'=>by simp[Array.getElem?_setIfInBounds_ne (Ne.symm hb')]) rfl rfl rfl (λ_=>
       .map #[] clock (by simp[hlt]) rfl λi x v hx _=>by simp at hx)
      rw[cJ]at h;refine⟨.tuple #[],_,dP,μ,_, ?_,unit,r1,r2,h⟩;rw[iA];simp[Builtin.clear_,run_underlying hu,getObj,setObj,Sem.run,g1]
    ·exact h.elim
   ·rw[hv.qU];exact .here hs (by simp[Builtin.clear_,run_underlying hu]) unit h
   ·exact h.elim
  ·exact h.elim
 ·exact h.elim
end
end Go.bA
end
section
namespace Go.bA
variable [Gl]
section
variable{P:Program}{δ:Nat->Option TD}{w:World}{F:Nat->Prop}{μ:Mu}{ob:List AO}{K:AV->List AO->Prop}
theorem wB (bw:cg P δ)(hs:St w F μ ob){t:Nat}{m k:AV}{vm vk:Value}{ats:Array TypeId}(tP:ats[0]?=some t)(hm:VR w F μ m vm)(hk:VR w F μ k vk)(h:yo δ t m k ob K)(ty:TypeId):
  gb P (Builtin.delete_ ats ty #[vm,vk]) w F μ K:=by
 have unit:∀{w:World}{μ:Mu},VR w F μ dP (.tuple #[]):=.cI rfl (λi x v h=>by simp at h);unfold yo at h;split at h
 ·rename_i sh ed o hks;obtain⟨kt,et,kd,h1,h2,h3,h4⟩:=nc bw hks;split at h
  ·rename_i kk ag es tM;split at h
   ·rename_i q KN n;split at h
    ·rename_i hq hkk;have hq:=beq_iff_eq.1 hq;have hkk:=beq_iff_eq.1 hkk;subst hq;subst hkk;obtain rfl:=pV h3;have iA:=hk.iE;subst iA;obtain⟨b,hb,jN⟩:=hs.box tM (λg=>g);have lV:=hm.I4 hb
     cases jN with
     |jq bM clock g1 g2 g3 g4=>
      have ng:(getObj b).run P w=.ok (.map bM clock) w:=by simp[getObj,Sem.run,g1]
      have qV:∀o',(setObj b o').run P w=.ok () {w with heap:=w.heap.setIfInBounds b o'}:=λo'=>by simp[setObj,Sem.run,g1]
      have hlt:b<w.heap.size:=(Array.getElem?_eq_some_iff.1 g1).1;have IK:∀c,(Instr.checkKey c 10000 kt (.int q n.den)).run P w=.ok () w:=λc=>dZ h2 (.inl ⟨q,rfl⟩) c (.int q n.den);have fin:∀(fX:Array MapEntry),iy w (own F μ) q ag (tu es.den n.den) fX.toList->(∀e∈fX.toList,e.born<clock)->(fX.toList.map (·.born)).Nodup->
        (Builtin.delete_ ats ty #[vm,.int q n.den]).run P w=.ok (.tuple #[]) {w with heap:=w.heap.setIfInBounds b (.map fX clock)}->gb P (Builtin.delete_ ats ty #[vm,.int q n.den]) w F μ K:=by
       intro fX e1 e2 e3 hrun;obtain⟨r1,r2⟩:=hs.set hb {w with heap:=w.heap.setIfInBounds b (.map fX clock)} (.jq q ag (.th λ_=>tu es.den n.den)) (by simp) (λb' hb'=>by simp[Array.getElem?_setIfInBounds_ne (Ne.symm hb')]) rfl rfl rfl (λhe=>
        .jq fX clock (by simp[hlt]) (e1.imp λt v h=>h.ext he) e2 e3)
       exact⟨_,_,dP,_,_,hrun,unit,r1,r2,by rw[cJ]at h;exact h⟩
      rcases kz es.den bM.toList 0 n.den g2 with⟨a1,a2,a3,a4⟩|⟨j,us,e,a1,a2,a3,a4,a5,a6,a7⟩
      ·refine fin bM (by rw[a4];exact g2) g3 g4 ?_;rw[lV];simp[Builtin.delete_,tP,Sem.run_bind,run_underlying h1,Result.andThen_ok,ng,IK,Instr.findKey,run_underlying h2,a2,Sem.run_pure,qV]
      ·rw[Nat.zero_add]at a2;have hjl:j<bM.size:=by have:=(List.getElem?_eq_some_iff.1 a3).1;simpa using this
       have I9:(bM.eraseIdxIfInBounds j).toList=bM.toList.eraseIdx j:=by
        rw[Array.eraseIdxIfInBounds_eq,dif_pos hjl];simp
       refine fin (bM.eraseIdxIfInBounds j) (by rw[I9,a7];exact g2.erase j) (λx hx=> ?_) ?_ ?_
       ·rw[I9]at hx;exact g3 x (List.mem_of_mem_eraseIdx hx)
       ·rw[I9];exact g4.sublist ((List.eraseIdx_sublist _ _).map _)
       ·rw[lV];simp[Builtin.delete_,tP,Sem.run_bind,run_underlying h1,Result.andThen_ok,ng,IK,Instr.findKey,run_underlying h2,a2,Sem.run_pure,qV]
    ·exact h.elim
   ·exact h.elim
  ·exact h.elim
 ·exact h.elim
theorem yP (hs:St w F μ ob){x:AV}{v:Value}(hv:VR w F μ x v)(h:BP x ob K)(ty:TypeId):gb P (Instr.next v false ty) w F μ K:=by
 unfold BP at h;split at h
 ·rename_i o;split at h
  ·rename_i kk ag left cur hn;obtain⟨b,hb,jN⟩:=hs.box hn (λg=>g)
   cases jN with
   |mV bm since last seen bM clock h1 h2 h3 h4 h5 h6 h7 h8 h9 h10=>
   cases hv with
   |oo h0=>rw[h0]at hb;cases hb
   |ref h0=>
    rw[h0]at hb;cases hb
    cases h with
    |mk hA hB=>
    rcases run_next_at (P:=P) w ty b bm since last seen bM clock h1 h4 h5 h6 with⟨r1,r2⟩|⟨e,r1,w1,r2,r3⟩
    ·have Mw:left.den=[]:=by
      have:=h9.1;rw[<-zZ,Array.length_toList,r1]at this;exact List.length_eq_zero_iff.1 this.symm
     refine gb.here hs (v:=.tuple #[.bool false]) r2 (.cI rfl λi x v hx hv=> ?_) (hB Mw)
     match i with
     |0=>simp at hx hv;subst hx;subst hv;exact .c (.bool (b:=.lit false))
     |n+1=>simp at hx
    ·rw[zZ]at r1;obtain⟨j,hj⟩:=List.mem_iff_getElem?.1 r1;have hjl:j<left.den.length:=by rw[<-h9.1];exact(List.getElem?_eq_some_iff.1 hj).1
     obtain⟨k,ts,hp⟩:∃k ts,left.den[j]?=some (k,ts):=⟨_,_,List.getElem?_eq_getElem hjl⟩;obtain⟨q1,q2⟩:=h9.2 j (k,ts) e hp hj;have hk:=hA j k ts hp;have hmem:e∈bM.toList:=by unfold jJ at r1;exact(List.mem_filter.1 r1).1
     have hw1:w1.heap=w.heap/\w1.os=w.os/\w1.tape=w.tape/\w1.output=w.output:=by rcases r2 with rfl|rfl<;>exact⟨rfl,rfl,rfl,rfl⟩
     have ZS:b≠bm:=λe=>h3 (.inl (e▸List.mem_of_getElem? h0));have GM:=hs.lt o b h0;obtain⟨g1,g2⟩:=hs.set h0 (Go.ChangeMaps.setBlock w1 b (.mapIter (some bm) since (seen.push e.born) clock)) (.mV kk ag (.th λ_=>left.den.eraseIdx j) (.lit (some (k,ts))))
      (by simp[Go.ChangeMaps.setBlock,hw1.1]) (λb' hne=>by simp[Go.ChangeMaps.setBlock,hw1.1,Array.getElem?_setIfInBounds_ne (Ne.symm hne)]) hw1.2.1 hw1.2.2.1 hw1.2.2.2
      (λhe=>.mV bm since clock (seen.push e.born) bM clock (by simp[Go.ChangeMaps.setBlock,hw1.1,GM]) (by simpa[Go.ChangeMaps.setBlock,hw1.1]using h2) h3
       (by simp[Go.ChangeMaps.setBlock,hw1.1,Array.getElem?_setIfInBounds_ne ZS,h4]) h5 h7 h7 h8 (by rw[BY h8 hj];exact(h9.erase j).imp λt v h=>h.ext he)
       (λp hp=>by cases hp;exact⟨e,hmem,by simp,rfl,q1,q2.imp λt v h=>h.ext he⟩))
     rw[cJ]at hk;refine⟨_,_,_,_,_,r3, ?_,g1,g2,hk⟩;refine .cI rfl λi x v hx hv=> ?_
     match i with
     |0=>simp at hx hv;subst hx;subst hv;exact .c (.bool (b:=.lit true))
     |1=>simp at hx hv;subst hx;subst hv;rw[q1];exact .c (.int (n:=.th λ_=>k))
     |2=>simp at hx hv;subst hx;subst hv;exact m6 (q2.imp λt v h=>h.ext g2)
     |n+3=>simp at hx
  ·exact h.elim
 ·exact h.elim
theorem yQ (hs:St w F μ ob){x:AV}{v:Value}(hv:VR w F μ x v)(h:BQ x ob K):gb P (Instr.entry v) w F μ K:=by
 unfold BQ at h;split at h
 ·rename_i o;split at h
  ·rename_i kk ag left n ts hn;obtain⟨b,hb,jN⟩:=hs.box hn (λg=>g)
   cases jN with
   |mV bm since last seen bM clock h1 h2 h3 h4 h5 h6 h7 h8 h9 h10=>
   cases hv with
   |oo h0=>rw[h0]at hb;cases hb
   |ref h0=>
    rw[h0]at hb;cases hb;obtain⟨e,a1,a2,a3,a4,a5⟩:=h10 (n,ts) rfl;obtain⟨ys,rfl⟩:=Array.back?_eq_some_iff.1 a2;subst a3;refine gb.here hs (run_entry_at w b bm since ys bM last e h1 h4 a1 h8) (.cI rfl λi x v hx hv=> ?_) h
    match i with
    |0=>simp at hx hv;subst hx;subst hv;rw[a4];exact .c (.int (n:=.th λ_=>n))
    |1=>simp at hx hv;subst hx;subst hv;exact m6 a5
    |n+2=>simp at hx
  ·exact h.elim
 ·exact h.elim
theorem wC (hs:St w F μ ob){t kt et:Nat}(hu:P.underlying t=some (.map kt et)){o:Nat}{v:Value}{kk:IntKind}{ag:Bool}{es:Th (List (Int×List T))}(hn:nth ob o=some (.jq kk ag es))(hv:VR w F μ (.mp o) v)
  (h:K (.ref (bS ob) 0) (e_ (eM ob o .dead) [.mV kk ag es (.lit none)])):gb P (Instr.range t v) w F μ K:=by
 obtain⟨b,hb,jN⟩:=hs.box hn (λg=>g);have lV:=hv.I4 hb
 cases jN with
 |jq bM clock g1 g2 g3 g4=>
  have GM:=hs.lt o b hb;obtain⟨s1,x1⟩:=hs.kill o;have hno:¬own F (μ.set o none) b:=by
   rintro(hm|hf)
   ·obtain⟨q,hq⟩:=mem_of hm;by_cases e:o=q
    ·subst e;rw[List.getElem?_set]at hq;simp at hq
    ·rw[List.getElem?_set_ne e]at hq;exact e (hs.inj o q b hb hq)
   ·exact(hs.frame b hf).2 (List.mem_of_getElem? hb)
  obtain⟨s2,x2⟩:=s1.alloc (.mapIter (some b) clock #[] clock) (.mV kk ag es (.lit none)) (λw' bu he hh=>
   .mV b clock clock #[] bM clock hh (Nat.lt_of_lt_of_le GM he.size) (λho=>by
    rcases ho with ho|ho
    ·rcases he.own b ho with h|h
     ·exact hno (.inl h)
     ·omega
    ·exact hno (.inr ho)) ((he.ct b GM (λhm=>hno (.inl hm))).trans g1) g3 (Nat.le_refl _) (Nat.le_refl _) g4
    (by
     have:jJ bM #[]=bM.toList:=by unfold jJ;exact List.filter_eq_self.2 λx _=>by simp
     rw[this];exact(g2.imp λt v h=>h.ext x1).imp λt v h=>h.ext he) (λp hp=>by cases hp))
  rw[dg,cJ,bQ]at h;refine⟨.pointer (some ⟨w.heap.size,0,none⟩),_,_,_,_, ?_, ?_,s2,x1.trans x2,h⟩
  ·rw[lV];have ng:(getObj b).run P w=.ok (.map bM clock) w:=by simp[getObj,Sem.run,g1]
   simp only[Instr.range,Sem.run_bind,run_underlying hu,Result.andThen_ok,ng,Sem.run_pure];simp[newObj,Sem.run]
  ·refine .ref ?_;have:(μ.set o none).length=ob.length:=by simp[hs.len]
   rw[<-this,List.getElem?_append_right (Nat.le_refl _)];simp
end
end Go.bA
end
section
namespace Go.bA
variable [Gl]
section
variable{P:Program}{δ:Nat->Option TD}{w:World}{F:Nat->Prop}{μ:Mu}{ob:List AO}{K:AV->List AO->Prop}
variable{o:Oper}{a:Act}{env:List AV}{next:Act->World->Prop}{Q:Exit->Act->World->Prop}
omit [Gl]in
theorem VR.unit:VR w F μ dP undef:=.cI rfl (λi x v h=>by simp at h)
omit [Gl]in
theorem tQ {d:TD}(h:F6 d=true):d.zero≠[]:=by
 unfold F6 at h;split at h
 ·cases h
 ·assumption
abbrev xw (w:World)(F:Nat->Prop)(μ:Mu)(K:AV->List AO->Prop)(o:Oper)(a:Act)(next:Act->World->Prop):Prop:=
 ∀v x w' bu cc,VR w' F bu x v->St w' F bu cc->Ext w μ w' bu->K x cc->next (a.put o.dst v) w'
theorem cL {s:Sem Value}(he:execOp a.eval o=(do pure (Next.value (<-s))))(hd:gb P s w F μ K)(hn:xw w F μ K o a next):o.wp P a w next Q:=by
 obtain⟨v,w',x,bu,cc,hr,h1,h2,h3,h4⟩:=hd;unfold Oper.wp;rw[he];simp only[Sem.run_bind,hr,Result.andThen_ok,Sem.run_pure,Oper.upon_value];exact hn v x w' bu cc h1 h2 h3 h4
theorem ni {s:Sem Unit}(he:execOp a.eval o=(do s;pure .skip))(hd:zT P s w F μ K)(hn:xw w F μ K o a next):o.wp P a w next Q:=by
 obtain⟨w',bu,cc,hr,h2,h3,h4⟩:=hd;unfold Oper.wp;rw[he];simp only[Sem.run_bind,hr,Result.andThen_ok,Sem.run_pure,Oper.upon_skip];exact hn undef dP w' bu cc .unit h2 h3 h4
theorem yR (hs:St w F μ ob){x:AV}{v:Value}(hv:VR w F μ x v)(h:qQ x ob K):K x ob/\((∃b,v=.pointer (some b))\/(∃f c d,v=.func (.func f) c d)\/∃t u,v=.iface t u):=by
 unfold qQ at h;split at h
 ·split at h
  ·rename_i Gb;obtain⟨b,hb⟩:=hs.alive Gb;exact⟨h,.inl ⟨_,hv.BR hb⟩⟩
  ·exact h.elim
 ·obtain⟨a,ha⟩:=hv.KS;exact⟨h,.inl ⟨_,ha⟩⟩
 ·cases hv with|c hv=>obtain⟨b,off,r1⟩:=qR hv;exact⟨h,.inl ⟨_,r1⟩⟩
 ·cases hv;exact⟨h,.inr (.inl ⟨_,_,_,rfl⟩)⟩
 ·cases hv;exact⟨h,.inr (.inr ⟨_,_,rfl⟩)⟩
 ·exact h.elim
omit [Gl]in
theorem kE (hf:FR w F μ env a.tmps)(xs:List Operand):ua w F μ (sB env xs) (xs.map a.eval):=by
 refine⟨by simp[sB,dR],λi x v hx hv=> ?_⟩;simp only[sB,dR,List.getElem?_map]at hx hv
 cases ho:xs[i]? with
 |none=>rw[ho]at hx;cases hx
 |some y=>
  rw[ho]at hx hv;simp at hx hv;subst hx;subst hv;exact bf hf y
omit [Gl]in
theorem ua.append {xs ys:List AV}{us vs:List Value}(h1:ua w F μ xs us)(h2:ua w F μ ys vs):ua w F μ (xs++ys) (us++vs):=by
 refine⟨by simp[h1.1,h2.1],λi x v hx hv=> ?_⟩;rcases Nat.lt_or_ge i xs.length with hlt|hge
 ·rw[List.getElem?_append_left hlt]at hx;rw[List.getElem?_append_left (by rw[h1.1];exact hlt)]at hv;exact h1.2 i x v hx hv
 ·rw[List.getElem?_append_right hge]at hx;rw[List.getElem?_append_right (by rw[h1.1];exact hge),h1.1]at hv;exact h2.2 _ x v hx hv
theorem aV.wp {f:FuncId}{args:List AV}{bD:Array Value}(h:aV P f args ob K)(hv:ua w F μ args bD.toList)(hs:St w F μ ob)(hn:xw w F μ K o a next)
  (he:(execOp a.eval o).run P w=(callFunc f bD).run P w):o.wp P a w next Q:=by
 have hx:=h.run w F μ bD hv hs;unfold Oper.wp;rw[he];unfold jK at hx;split at hx
 ·rename_i g as w' hr;obtain⟨rfl,rfl,rfl,hc⟩:=hx;rw[hr,Oper.upon_enter];refine hc.mono λe w' ⟨v,x,cc,bu,he,h1,h2,h3,h4⟩=> ?_;subst he;exact hn v x w' bu cc h1 h2 h3 h4
 ·rename_i v w' hr;obtain⟨v',x,cc,bu,he,h1,h2,h3,h4⟩:=hx;cases he;rw[hr,Oper.upon_value];exact hn v x w' bu cc h1 h2 h3 h4
 ·exact hx.elim
theorem yS (hs:St w F μ ob){f:AV}{fv:Value}(ZT:VR w F μ f fv){args:List AV}{bD:Array Value}(hv:ua w F μ args bD.toList)(h:BO P f args ob K)(hn:xw w F μ K o a next)
  (he:execOp a.eval o=(do let d<-Deferred.ofValue fv bD;invoke d.target d.args)):o.wp P a w next Q:=by
 unfold BO at h;split at h
 ·rename_i g first captured
  cases ZT with
  |fn h1 h2 h3 h4=>
   rename_i vf vc;refine aV.wp (bD:=vf++bD++vc) h ?_ hs hn ?_
   ·rw[dg,dg];have e:(vf++bD++vc).toList=(vf.toList++bD.toList)++vc.toList:=by simp
    rw[e];exact((ua.append ⟨by simp[h1],λi x v hx hv=>h3 i x v hx (by simpa using hv)⟩ hv).append ⟨by simp[h2],λi x v hx hv=>h4 i x v hx (by simpa using hv)⟩)
   ·rw[he];simp[Deferred.ofValue,invoke]
 ·exact h.elim
theorem uG (bw:cg P δ)(hs:St w F μ ob){b:Builtin}{ats:List TypeId}{args:List AV}{bD:Array Value}(hv:ua w F μ args bD.toList)(h:jL P δ b ats args ob K)(hn:xw w F μ K o a next)
  {ty:TypeId} {cs:Array Bool} (he:execOp a.eval o=builtin b ats.toArray ty cs bD):o.wp P a w next Q:=by
 unfold jL at h;split at h
 ·split at h
  ·rename_i t x;obtain⟨v,zQ⟩:=List.length_eq_one_iff.1 hv.1;obtain rfl:bD= #[v]:=Array.ext' zQ;have hx:=hv.2 0 x v rfl rfl;exact cL (s:=Builtin.len_ #[t] ty #[v]) (by rw[he];rfl) ((uu bw hs hx h ty).done hs) hn
  ·exact h.elim
 ·split at h
  ·rename_i t x;obtain⟨v,zQ⟩:=List.length_eq_one_iff.1 hv.1;obtain rfl:bD= #[v]:=Array.ext' zQ;have hx:=hv.2 0 x v rfl rfl;exact cL (s:=Builtin.cap_ #[t] ty #[v]) (by rw[he];rfl) ((uF bw hx h ty).done hs) hn
  ·exact h.elim
 ·split at h
  ·rename_i t xt s x;have hl:bD.size=2:=by simpa using hv.1
   obtain⟨v1,v2,rfl⟩:∃v1 v2,bD= #[v1,v2]:=⟨bD[0],bD[1],by apply Array.ext<;>simp[hl];intro i h1;rcases i with _|_|i<;>simp_all;omega⟩;have h1:=hv.2 0 s v1 rfl rfl;have h2:=hv.2 1 x v2 rfl rfl;obtain⟨v,y,cc,bu,w',r1,r2,r3,r4,r5⟩:=h.run ty w F μ v1 v2 h1 h2 hs;exact cL (s:=Builtin.copy_ #[t,xt] ty #[v1,v2]) (by rw[he];rfl) ⟨v,w',y,bu,cc,r1,r2,r3,r4,r5⟩ hn
  ·exact h.elim
 ·split at h
  ·rename_i t x;obtain⟨v,zQ⟩:=List.length_eq_one_iff.1 hv.1;obtain rfl:bD= #[v]:=Array.ext' zQ;have hx:=hv.2 0 x v rfl rfl;exact cL (s:=Builtin.clear_ #[t] ty #[v]) (by rw[he];rfl) (yO bw hs hx h ty) hn
  ·exact h.elim
 ·split at h
  ·rename_i t rest m k;have hl:bD.size=2:=by simpa using hv.1
   obtain⟨v1,v2,rfl⟩:∃v1 v2,bD= #[v1,v2]:=⟨bD[0],bD[1],by apply Array.ext<;>simp[hl];intro i h1;rcases i with _|_|i<;>simp_all;omega⟩;have h1:=hv.2 0 m v1 rfl rfl;have h2:=hv.2 1 k v2 rfl rfl;exact cL (s:=Builtin.delete_ (t::rest).toArray ty #[v1,v2]) (by rw[he];rfl) (wB bw hs (by simp) h1 h2 h ty) hn
  ·exact h.elim
 ·split at h
  ·rename_i t xt s x;have hl:bD.size=2:=by simpa using hv.1
   obtain⟨v1,v2,rfl⟩:∃v1 v2,bD= #[v1,v2]:=⟨bD[0],bD[1],by apply Array.ext<;>simp[hl];intro i h1;rcases i with _|_|i<;>simp_all;omega⟩;have h1:=hv.2 0 s v1 rfl rfl;have h2:=hv.2 1 x v2 rfl rfl;obtain⟨v,y,cc,bu,w',r1,r2,r3,r4,r5⟩:=h.run ty w F μ v1 v2 h1 h2 hs;exact cL (s:=Builtin.append_ #[t,xt] ty #[v1,v2]) (by rw[he];rfl) ⟨v,w',y,bu,cc,r1,r2,r3,r4,r5⟩ hn
  ·exact h.elim
 ·exact h.elim
def fB:Op->Bool
 | .move _| .assign _| .pick _ _ _| .build _ _| .load _ _| .nilCheck _| .binOp _ _ _ _ _| .unOp _ _ _| .convert _ _ _| .makeInterface _ _| .makeFunc _ _ _| .fieldAddr _ _ _| .field _ _ _
 | .indexAddr _ _ _| .index _ _ _| .lookup _ _ _ _| .extract _ _| .slice _ _ _ _ _=>true
 | .call c=>match c.callee with| .builtin .len=>true| .builtin .cap=>true|_=>false
 |_=>false
def Pk (P:Program)(a:Act)(o:Oper)(w:World)(F:Nat->Prop)(μ:Mu)(ob:List AO)(K:AV->List AO->Prop):Prop:=
 ∃v x,(∀w',F4 w w'->(execOp a.eval o).run P w'=.ok (.value v) w')/\VR w F μ x v/\K x ob
omit [Gl]in
theorem Pk.of {s:Sem Value}(he:execOp a.eval o=(do pure (Next.value (<-s))))(h:fy P s w F μ ob K):Pk P a o w F μ ob K:=by
 obtain⟨v,x,h1,h2,h3⟩:=h;exact⟨v,x,λw' hw=>by rw[he];simp only[Sem.run_bind,h1 w' hw,Result.andThen_ok,Sem.run_pure],h2,h3⟩
omit [Gl]in
theorem Pk.val {v:Value}{x:AV}(he:execOp a.eval o=pure (Next.value v))(hv:VR w F μ x v)(hk:K x ob):Pk P a o w F μ ob K:=
 ⟨v,x,λw' _=>by rw[he];rfl,hv,hk⟩
set_option maxHeartbeats 4000000 in
theorem uH (bw:cg P δ)(hf:FR w F μ env a.tmps)(hs:St w F μ ob)(hq:fB o.op=true)(h:zO P δ o.op env ob K):Pk P a o w F μ ob K:=by
 obtain⟨dst,op,ty,pos,after,guard⟩:=o;simp only at h hq;unfold zO at h;split at h;all_goals try(cases hq;done)
 ·exact .val rfl (bf hf _) h
 ·exact .val rfl (bf hf _) h
 ·rename_i c x y;split at h
  ·rename_i b hb;have hc:=bf hf c;rw[hb]at hc;have hce:=hc.bE;obtain⟨h1,h2⟩:=ko h
   cases hbd:b.den with
   |true=>exact .of (s:=pure (a.eval x)) (by simp only[execOp,hce,asBool,hbd];rfl) (.q (λ_ _=>rfl) (bf hf x) (h1 hbd))
   |false=>exact .of (s:=pure (a.eval y)) (by simp only[execOp,hce,asBool,hbd];rfl) (.q (λ_ _=>rfl) (bf hf y) (h2 hbd))
  ·exact h.elim
 ·rename_i t ps;split at h
  ·rename_i hz;refine .of (s:=Instr.build t (ps.map λ(i,x)=>(i,a.eval x))) rfl (yB bw hs (ps:=parts env ps.toList) ?_ h (λd hd=> ?_))
   ·have:=sG hf ps.toList;simpa using this
   ·unfold Rs at hz;rw[hd]at hz;exact tQ hz
  ·exact h.elim
 ·rename_i t x;split at h
  ·rename_i d hd;exact .of rfl (zR bw hd hs (bf hf x) h)
  ·exact h.elim
 ·rename_i x;obtain⟨hk,hv⟩:=yR hs (bf hf x) h;have hx:=bf hf x;rcases hv with⟨b,hb⟩|⟨f,c,d,hb⟩|⟨t,u,hb⟩<;>exact .val (v:=a.eval x) (by simp only[execOp,hb]) hx hk
 ·rename_i op t x y yt;exact .of rfl (BV bw hs (bf hf x) (bf hf y) h)
 ·rename_i op t x;exact .of rfl (Ef hs (bf hf x) h)
 ·rename_i src dst x;split at h
  ·rename_i d hd;obtain⟨u,hu,_⟩:=fI bw hd;exact .of rfl (zY bw hs ⟨u,hu⟩ (bf hf x) h)
  ·exact h.elim
 ·rename_i t x;split at h
  ·rename_i d hd;obtain⟨u,hu,hsh⟩:=fI bw hd;split at h
   ·exact h.elim
   ·rename_i hni;refine .of (s:=Instr.makeInterface t (a.eval x)) rfl (.q (v:=.iface t (a.eval x)) (λ_ _=> ?_) (.oN (bf hf x)) h);cases u<;>first|(simp[Instr.makeInterface,run_underlying hu];done)|(exact absurd hsh.symm hni)
  ·exact h.elim
 ·rename_i fn first captured
  have h1:=kE hf first.toList;have h2:=kE hf captured.toList;refine .of (s:=Instr.makeFunc fn (first.map a.eval) (captured.map a.eval)) rfl (.q (v:=.func fn (first.map a.eval) (captured.map a.eval)) (λ_ _=>rfl)
   (.fn (by rw[<-h1.1];simp) (by rw[<-h2.1];simp) (λi x v hx hv=>h1.2 i x v hx (by simpa using hv)) (λi x v hx hv=>h2.2 i x v hx (by simpa using hv))) h)
 ·rename_i t x lo hi mx;have bd:∀o:Option Operand,ox w F μ (o.map (dU env)) (o.map a.eval):=λo=>by
   cases o with
   |none=>trivial
   |some y=>exact bf hf y
  exact .of rfl (yM bw (bf hf x) (bd lo) (bd hi) (bd mx) h)
 ·rename_i s x f;exact .of rfl (qS bw hs (bf hf x) h)
 ·rename_i s x f;exact .of rfl (yu bw hs (bf hf x) h)
 ·rename_i t x i;exact .of rfl (qT bw hs (bf hf x) (bf hf i) h)
 ·rename_i t x i;exact .of rfl (yx bw hs (bf hf x) (bf hf i) h)
 ·rename_i t m k ok;split at h
  ·rename_i hz;exact .of rfl (wq bw hs (bf hf m) (bf hf k) h (λsh ed he=>by unfold OH at hz;rw[he]at hz;exact tQ hz))
  ·exact h.elim
 ·rename_i x i;split at h
  ·rename_i vs hvs;split at h
   ·rename_i y hy;have hx:=bf hf x;rw[hvs]at hx;generalize SI:a.eval x=xv at hx
    cases hx with
    |cI h1 h2=>
     rename_i us;rw[cq]at hy;have hlt:i<us.size:=by rw[h1];exact(List.getElem?_eq_some_iff.1 hy).1
     refine .of (s:=Instr.extract (a.eval x) i) rfl (.q (v:=us[i]) (λ_ _=> ?_) (h2 i y _ hy (Array.getElem?_eq_getElem hlt)) h);rw[SI];simp[Instr.extract,hlt]
   ·exact h.elim
  ·exact h.elim
 ·rename_i c;obtain⟨callee,args,ats⟩:=c;simp only[fB]at hq;simp only at h;have hv:=kE hf args.toList;split at hq
  ·rename_i b;simp only[jL]at h;split at h
   ·rename_i t x tP hargs;have Mx:ats= #[t]:=Array.ext' tP;subst Mx;rw[hargs]at hv;obtain⟨v,zQ⟩:=List.length_eq_one_iff.1 hv.1;have hx:=hv.2 0 x v rfl (by rw[zQ];rfl);have hmap:args.map a.eval= #[v]:=Array.ext' (by simpa using zQ);refine .of (s:=Builtin.len_ #[t] ty #[v]) ?_ (uu bw hs hx h ty);simp only[execOp,resolve,hmap];rfl
   ·exact h.elim
  ·rename_i b;simp only[jL]at h;split at h
   ·rename_i t x tP hargs;have Mx:ats= #[t]:=Array.ext' tP;subst Mx;rw[hargs]at hv;obtain⟨v,zQ⟩:=List.length_eq_one_iff.1 hv.1;have hx:=hv.2 0 x v rfl (by rw[zQ];rfl);have hmap:args.map a.eval= #[v]:=Array.ext' (by simpa using zQ);refine .of (s:=Builtin.cap_ #[t] ty #[v]) ?_ (uF bw hx h ty);simp only[execOp,resolve,hmap];rfl
   ·exact h.elim
  ·cases hq
 ·exact h.elim
set_option maxHeartbeats 4000000 in
theorem rq (bw:cg P δ)(hf:FR w F μ env a.tmps)(hs:St w F μ ob)(h:zO P δ o.op env ob K)(hn:xw w F μ K o a next):o.wp P a w next Q:=by
 cases hq:fB o.op with
 |true=>
  obtain⟨v,x,h1,h2,h3⟩:=uH bw hf hs hq h;unfold Oper.wp;rw[h1 w (.refl w)];exact hn v x w μ ob h2 hs (.refl w μ) h3
 |false=>
 obtain⟨dst,op,ty,pos,after,guard⟩:=o;simp only at h hq;unfold zO at h;split at h;all_goals try(cases hq;done)
 ·rename_i t;split at h
  ·rename_i d hd;split at h
   ·rename_i hz;exact cL rfl (zS bw hs hd (tQ hz) h) hn
   ·exact h.elim
  ·exact h.elim
 ·rename_i t x;split at h
  ·rename_i cs hcs;exact cL rfl (Eb hs (bf hf x) hcs t h) hn
  ·exact h.elim
 ·rename_i t len ps;split at h
  ·rename_i hz;refine cL (s:=Instr.buildSlice t len (ps.map λ(i,x)=>(i,a.eval x))) rfl (pU bw hs (ps:=parts env ps.toList) ?_ h (λd e ed hd hsh ir=> ?_)) hn
   ·have:=sG hf ps.toList;simpa using this
   ·unfold OG at hz;simp only[hd,hsh]at hz;unfold Rs at hz;rw[ir]at hz;exact tQ hz
  ·exact h.elim
 ·rename_i t m k v;exact ni rfl (oE bw hs (bf hf m) (bf hf k) (bf hf v) h) hn
 ·rename_i t m k v;exact ni rfl (oE bw hs (bf hf m) (bf hf k) (bf hf v) h) hn
 ·rename_i t x v;split at h
  ·rename_i d hd;exact ni rfl (yq bw hd hs (bf hf x) (bf hf v) h) hn
  ·exact h.elim
 ·rename_i t n c;exact cL rfl (rm bw hs (bf hf n) (bf hf c) h) hn
 ·rename_i t;refine cL (s:=Instr.makeMap t none) rfl (gb.lf hs (o:=.map #[] 0) (v:=.map (some w.heap.size)) (by simp[Instr.makeMap]) (λw' bu _ hh=>.map #[] 0 hh rfl (λi x v h=>by simp at h)) (λw' bu _ hm=>by rw[bQ];exact .mp hm) h) hn
 ·rename_i t x;split at h
  ·rename_i d hd;split at h
   ·rename_i hsh;split at h
    ·rename_i s hx;obtain⟨u,hu,Pm⟩:=fI bw hd;rw[hsh]at Pm;cases u<;>simp[cz]at Pm;have hv:=bf hf x;rw[hx]at hv
     cases hv with
     |c hv=>
      generalize OI:a.eval x=ae at hv;cases hv;refine cL (s:=Instr.range t (.string s.den)) (by simp only[execOp,OI]) (gb.lf hs (o:=.stringIter s.den 0) (v:=.pointer (some ⟨w.heap.size,0,none⟩)) (run_range_string w t _ hu) (λw' bu _ hh=>.tJ hh) (λw' bu _ hm=>by rw[bQ];exact .ref hm) h) hn
    ·exact h.elim
   ·rename_i k e hsh;split at h
    ·rename_i o hx;split at h
     ·rename_i kk ag es tM;have hv:=bf hf x;rw[hx]at hv;exact cL (s:=Instr.range t (a.eval x)) rfl (wC hs (yw bw hd hsh) tM hv h) hn
     ·exact h.elim
    ·exact h.elim
   ·exact h.elim
  ·exact h.elim
 ·rename_i it isStr;split at h
  ·exact cL rfl (Ad hs (bf hf it) h ty) hn
  ·exact cL rfl (yP hs (bf hf it) h ty) hn
 ·rename_i it;exact cL (s:=Instr.entry (a.eval it)) rfl (yQ hs (bf hf it) h) hn
 ·rename_i c;obtain⟨callee,args,ats⟩:=c;simp only at h;have hv:=kE hf args.toList;split at h
  ·rename_i b;exact uG bw hs (bD:=args.map a.eval) (by simpa using hv) h hn (ty:=ty) (cs:=args.map λ| .const _=>true|_=>false) (by simp[execOp,resolve,invoke];rfl)
  ·rename_i f;refine yS hs (bf hf f) (bD:=args.map a.eval) (by simpa using hv) h hn rfl
  ·exact h.elim
 ·exact h.elim
end
end Go.bA
end
section
namespace Go.bA
variable [Gl]
section
variable{P:Program}{δ:Nat->Option TD}
omit [Gl]in
theorem qd {w:World}{F:Nat->Prop}{μ:Mu}{env:List AV}{a:Act}{ops:Array Oper}(hf:FR w F μ env a.tmps)(o:Oper):
  match ji ops.toList env o.guard with
  | .go=>Region.wanted o (yielded ops a.tmps)=true
  | .skip=>Region.wanted o (yielded ops a.tmps)=false
  | .by d b want=>Region.wanted o (yielded ops a.tmps)=(b.den==want)/\(∀v,a.tmps[d]?=some v->v=.bool b.den)
  | .bad=>True:=by
 obtain⟨dst,op,ty,pos,after,guard⟩:=o
 cases guard with
 |none=>simp[ji,Region.wanted]
 |some g=>
  obtain⟨j,want⟩:=g;simp only[ji,cq]
  cases hj:ops.toList[j]? with
  |none=>trivial
  |some oj=>
   have hj':ops[j]?=some oj:=by simpa using hj
   simp only
   cases hd:oj.dst with
   |none=>trivial
   |some d=>
    simp only;unfold BK
    cases hn:nth env d with
    |none=>trivial
    |some x=>
     rw[cq]at hn;have hlt:d<a.tmps.size:=by rw[hf.1];exact(List.getElem?_eq_some_iff.1 hn).1
     have hv:=hf.2 d x a.tmps[d] hn (Array.getElem?_eq_getElem hlt);have hy:∀u,a.tmps[d]=u->yielded ops a.tmps j=match some u with|some (.bool b)=>some b|_=>none:=by
      intro u hu;simp only[yielded,hj',hd,Option.bind_some,Array.getElem?_eq_getElem hlt,hu]
      rfl
     cases x with
     |c t=>
      cases t with
      |bool b=>
       refine⟨by simp[Region.wanted,hy _ hv.bE],λv mJ=> ?_⟩;rw[Array.getElem?_eq_getElem hlt]at mJ;cases mJ;exact hv.bE
      |_=>trivial
     |cI vs=>
      cases vs with
      |nil=>
       generalize hu:a.tmps[d]=u at hv
       cases hv with
       |cI h1 h2=>simp[Region.wanted,hy _ hu]
      |cons v vs=>trivial
     |_=>trivial
omit [Gl]in
theorem FR.GN {w:World}{F:Nat->Prop}{μ:Mu}{env:List AV}{tmps:Array Value}(hf:FR w F μ env tmps){d:Nat}{b:Bool}(h:∀v,tmps[d]?=some v->v=.bool b):FR w F μ (eM env d (AB (.lit b))) tmps:=by
 rw[cJ];refine⟨by simp[hf.1],λi x v hx hv=> ?_⟩;by_cases e:d=i
 ·subst e;rw[List.getElem?_set_self (by rw[<-hf.1];exact(Array.getElem?_eq_some_iff.1 hv).1)]at hx;cases hx;rw[h v hv];exact VR.b (.lit b)
 ·rw[List.getElem?_set_ne e]at hx;exact hf.2 i x v hx hv
omit [Gl]in
theorem put_defers (a:Act)(d:Option Tmp)(v:Value):(a.put d v).defers=a.defers:=by cases d<;>rfl
theorem oZ (bw:cg P δ){ops:Array Oper}{Q:Exit->Act->World->Prop}:∀(rest:List Oper){env:List AV}{ob:List AO}{K:List AV->List AO->Prop}{a:Act}{w:World}{F:Nat->Prop}{μ:Mu},
  FR w F μ env a.tmps->St w F μ ob->tv P δ ops.toList rest env ob K->
  (∀(a':Act)(w':World)(bu:Mu) env' cc,FR w' F bu env' a'.tmps->St w' F bu cc->Ext w μ w' bu->a'.defers=a.defers->K env' cc->Q .normal a' w')->wpList P ops Q rest a w
 |[],env,ob,K,a,w,F,μ,hf,hs,h,hk=>by
  simp only[tv]at h;exact hk a w μ env ob hf hs (.refl w μ) rfl h
 |o::rest,env,ob,K,a,w,F,μ,hf,hs,h,hk=>by
  have hg:=qd (ops:=ops) hf o;have run:∀{env:List AV},FR w F μ env a.tmps->Region.wanted o (yielded ops a.tmps)=true->(zO P δ o.op env ob λv cc=>tv P δ ops.toList rest (fO env o.dst v) cc K)->wpList P ops Q (o::rest) a w:=by
   intro env hf hw h;unfold wpList;rw[if_pos hw];refine .inl (rq bw hf hs h λv x w' bu cc h1 h2 h3 h4=> ?_);exact oZ bw rest ((hf.ext h3).put h1 o.dst) h2 h4 λa' w'' ru env' My g1 g2 g3 g4 g5=>hk a' w'' ru env' My g1 g2 (h3.trans g3) (by rw[g4,put_defers]) g5
  have skip:∀{env:List AV},FR w F μ env a.tmps->Region.wanted o (yielded ops a.tmps)=false->tv P δ ops.toList rest (fO env o.dst dP) ob K->wpList P ops Q (o::rest) a w:=by
   intro env hf hw h;unfold wpList;rw[if_neg (by rw[hw];simp)];exact oZ bw rest (hf.put VR.unit o.dst) hs h λa' w'' ru env' My g1 g2 g3 g4 g5=>hk a' w'' ru env' My g1 g2 g3 (by rw[g4,put_defers]) g5
  simp only[tv]at h;generalize ji ops.toList env o.guard=gv at h hg
  cases gv with
  |go=>exact run hf hg h
  |skip=>exact skip hf hg h
  |bad=>exact h.elim
  |«by» d b want=>
   obtain⟨hg,hd⟩:=hg
   cases want with
   |true=>
    obtain⟨h1,h2⟩:=ko h
    cases hb:b.den with
    |true=>exact run (hf.GN (b:=true) λv hv=>by rw[hd v hv,hb]) (by rw[hg,hb];rfl) (h1 hb)
    |false=>exact skip (hf.GN (b:=false) λv hv=>by rw[hd v hv,hb]) (by rw[hg,hb];rfl) (h2 hb)
   |false=>
    obtain⟨h1,h2⟩:=ko h
    cases hb:b.den with
    |true=>exact skip (hf.GN (b:=true) λv hv=>by rw[hd v hv,hb]) (by rw[hg,hb];rfl) (h1 hb)
    |false=>exact run (hf.GN (b:=false) λv hv=>by rw[hd v hv,hb]) (by rw[hg,hb];rfl) (h2 hb)
theorem QC.mono {m:Nat}{w0:World}{F:Nat->Prop}{jE:Mu}{ds:List Deferred}{Q Q':AE->List AV->List AO->Prop}(hq:∀e v o,Q e v o->Q' e v o){e:Exit}{a:Act}{w:World}(h:QC m w0 F jE ds Q e a w):QC m w0 F jE ds Q' e a w:=by
 cases e with
 |normal=>obtain⟨e,o,μ,h1,h2⟩:=h;exact⟨e,o,μ,hq _ _ _ h1,h2⟩
 |exit i=>obtain⟨e,o,μ,h1,h2⟩:=h;exact⟨e,o,μ,hq _ _ _ h1,h2⟩
 |ret=>obtain⟨e,o,μ,h1,h2⟩:=h;exact⟨e,o,μ,hq _ _ _ h1,h2⟩
 |_=>exact h.elim
theorem QC.ext {m:Nat}{w0 w1:World}{F:Nat->Prop}{jE jw:Mu}{ds:List Deferred}{Q:AE->List AV->List AO->Prop}(hx:pO m w0 jE w1 jw){e:Exit}{a:Act}{w:World}(h:QC m w1 F jw ds Q e a w):QC m w0 F jE ds Q e a w:=by
 cases e with
 |normal=>obtain⟨e,o,μ,h1,h2,h3,h4,h5⟩:=h;exact⟨e,o,μ,h1,h2,h3,hx.trans h4,h5⟩
 |exit i=>obtain⟨e,o,μ,h1,h2,h3,h4,h5⟩:=h;exact⟨e,o,μ,h1,h2,h3,hx.trans h4,h5⟩
 |ret=>obtain⟨e,o,μ,h1,h2,h3,h4,h5⟩:=h;exact⟨e,o,μ,h1,h2,h3,hx.trans h4,h5⟩
 |_=>exact h.elim
theorem gS (bw:cg P δ){m:Nat}:∀(c:Code){env:List AV}{ob:List AO}{Q:AE->List AV->List AO->Prop},aw P δ m c env ob Q->cu P m c env ob Q
 | .skip,env,ob,Q,h=>⟨λw F μ a hm hf hs=>wp_skip ⟨env,ob,μ,h,hf,hs,(Ext.refl w μ).IG hm,rfl⟩⟩
 | .region id ops draw,env,ob,Q,h=>by
  simp only[aw]at h
  cases draw with
  |false=>
   refine⟨λw F μ a hm hf hs=>wp_region_list (oZ bw ops.toList hf hs h λa' w' bu env' cc g1 g2 g3 g4 g5=>⟨env',cc,bu,g5,g1,g2,g3.IG hm,g4⟩)⟩
  |true=>
   refine⟨λw F μ a hm hf hs=>Code.wp_mono (λe a w hq=>QC.mono (λe v o hq=> ?_) hq) (h.run w F μ a hm hf hs)⟩;cases e<;>first|exact hq|exact hq.elim
 | .seq x y,env,ob,Q,h=>by
  simp only[aw]at h;have hx:=gS bw x h;refine⟨λw F μ a hm hf hs=>wp_seq (Code.wp_mono (λe a' w' hq=> ?_) (hx.run w F μ a hm hf hs))⟩
  cases e with
  |normal=>
   obtain⟨e,o,bu,h1,h2,h3,h4,h5⟩:=hq;have hy:=(gS bw y h1).run w' F bu a' h4.len h2 h3;exact Code.wp_mono (λe Xm w'' hq=>by rw[h5]at hq;exact hq.ext h4) hy
  |exit i=>obtain⟨e,o,bu,h1,h2⟩:=hq;exact⟨e,o,bu,h1,h2⟩
  |ret=>obtain⟨e,o,bu,h1,h2⟩:=hq;exact⟨e,o,bu,h1,h2⟩
  |goto l=>exact hq.elim
  |panic c=>exact hq.elim
  |outgrown=>exact hq.elim
 | .cond c x y,env,ob,Q,h=>by
  simp only[aw]at h;split at h
  ·rename_i t ht;refine⟨λw F μ a hm hf hs=> ?_⟩;have hc:=bf hf c;rw[ht]at hc;obtain⟨h1,h2⟩:=ko h;have qV:∀b,t.den=b->FR w F μ (LR env c b) a.tmps:=by
    intro b hb
    cases c with
    |tmp d=>
     refine hf.GN λv hv=> ?_;have h3:=hc.bE;have h4:a.eval (.tmp d)=a.tmps.getD d undef:=rfl;rw[h4,Array.getD_eq_getD_getElem?,hv]at h3;rw[<-hb];exact h3
    |_=>exact hf
   exact wp_cond_split hc.bE (λhb=>(gS bw x (h1 hb)).run w F μ a hm (qV true hb) hs) (λhb=>(gS bw y (h2 hb)).run w F μ a hm (qV false hb) hs)
  ·exact h.elim
 | .block id x,env,ob,Q,h=>by
  simp only[aw]at h;have hx:=gS bw x h;refine⟨λw F μ a hm hf hs=>wp_block (Code.wp_mono (λe a' w' hq=> ?_) (hx.run w F μ a hm hf hs))⟩
  cases e with
  |normal=>exact hq
  |exit i=>
   obtain⟨e,o,bu,h1,h2⟩:=hq;have RR:(match i==id with|true=>Q .normal e o|false=>Q (.exit i) e o):=h1;simp only[Exit.inBlock]
   cases hi:i==id with
   |true=>
    rw[hi]at RR;rw[if_pos (by simpa using hi)];exact⟨e,o,bu,RR,h2⟩
   |false=>
    rw[hi]at RR;rw[if_neg (by simpa using hi)];exact⟨e,o,bu,RR,h2⟩
  |ret=>exact hq
  |goto l=>exact hq.elim
  |panic c=>exact hq.elim
  |outgrown=>exact hq.elim
 | .loop x,env,ob,Q,h=>h
 | .ret,env,ob,Q,h=>⟨λw F μ a hm hf hs=>wp_ret ⟨env,ob,μ,h,hf,hs,(Ext.refl w μ).IG hm,rfl⟩⟩
 | .exit i,env,ob,Q,h=>⟨λw F μ a hm hf hs=>wp_exit ⟨env,ob,μ,h,hf,hs,(Ext.refl w μ).IG hm,rfl⟩⟩
 | .label l,env,ob,Q,h=>⟨λw F μ a hm hf hs=>wp_label ⟨env,ob,μ,h,hf,hs,(Ext.refl w μ).IG hm,rfl⟩⟩
 | .scope x,env,ob,Q,h=>by
  simp only[aw]at h;have hx:=gS bw x h;refine⟨λw F μ a hm hf hs=>wp_scope_straight (Code.wp_mono (λe a' w' hq=> ?_) (hx.run w F μ a hm hf hs))⟩;cases e<;>exact hq
 | .rangeFunc f p x y,env,ob,Q,h=>h.elim
 | .goto l,env,ob,Q,h=>h.elim
 | .refuse s,env,ob,Q,h=>h.elim
def RS (tmps:Array Value):ResultVar->Sem Value
 | .tmp t=>pure (tmps.getD t undef)
 | .cell a t=>do loadVar t (<-asAddr (tmps.getD a undef))
theorem Cn (bw:cg P δ){w:World}{F:Nat->Prop}{μ:Mu}{env:List AV}{ob:List AO}{tmps:Array Value}(hf:FR w F μ env tmps)(hs:St w F μ ob){r:ResultVar}{x:AV}(h:LS δ env ob r=some x):
  ∃v,(RS tmps r).run P w=.ok v w/\VR w F μ x v:=by
 unfold LS at h;split at h
 ·rename_i t;split at h
  ·rename_i y hy;cases h;have:=oT hf t;unfold BK at this;rw[hy]at this;exact⟨_,rfl,this⟩
  ·cases h
 ·rename_i t ty;split at h
  ·rename_i d o off hd hg;split at h
   ·rename_i cs hcs;obtain⟨b,hb,jN⟩:=hs.box hcs (by simp);have hv:=oT hf t;rw[hg]at hv;obtain⟨v,h1,h2⟩:=ku bw hd (Reads.box jN) h;refine⟨v, ?_,h2⟩;rw[Nat.zero_add]at h1;simp[RS,hv.BR hb,asAddr,h1 w (.refl w)]
   ·cases h
  ·cases h
theorem uI (bw:cg P δ){w:World}{F:Nat->Prop}{μ:Mu}{env:List AV}{ob:List AO}{tmps:Array Value}(hf:FR w F μ env tmps)(hs:St w F μ ob):∀(rs:List ResultVar)(xs:List AV),D_ δ env ob rs=some xs->
  ∃vs,(rs.mapM (RS tmps)).run P w=.ok vs w/\ua w F μ xs vs
 |[],xs,h=>by simp[D_]at h;subst h;exact⟨[],rfl,rfl,λi x v h=>by simp at h⟩
 |r::rs,xs,h=>by
  simp only[D_]at h;split at h
  ·rename_i x xs' h1 h2;cases h;obtain⟨v,g1,g2⟩:=Cn bw hf hs h1;obtain⟨vs,g3,g4,g5⟩:=uI bw hf hs rs xs' h2;refine⟨v::vs, ?_,by simp[g4],λi y u hy hu=> ?_⟩
   ·simp only[List.mapM_cons,Sem.run_bind];simp only[g1,Result.andThen_ok,g3,Sem.run_pure]
   ·cases i with
    |zero=>simp at hy hu;subst hy;subst hu;exact g2
    |succ i=>exact g5 i y u (by simpa using hy) (by simpa using hu)
  ·cases h
theorem uJ (bw:cg P δ){w:World}{F:Nat->Prop}{μ:Mu}{env:List AV}{ob:List AO}{tmps:Array Value}(hf:FR w F μ env tmps)(hs:St w F μ ob){fn:Func}{K:AV->List AO->Prop}(h:LU δ fn.results.toList env ob K):
  ∃v x,(results fn tmps).run P w=.ok v w/\VR w F μ x v/\K x ob:=by
 have main:∀xs,D_ δ env ob fn.results.toList=some xs->∃vs,ua w F μ xs vs/\(results fn tmps).run P w=.ok (if h:vs.toArray.size=1 then vs.toArray[0]else .tuple vs.toArray) w:=by
  intro xs hx;obtain⟨vs,g1,g2⟩:=uI bw hf hs fn.results.toList xs hx;refine⟨vs,g2, ?_⟩;have hr:results fn tmps=(do let vs<-fn.results.mapM (RS tmps);pure (if h:vs.size=1 then vs[0]else .tuple vs)):=by
   unfold results
   congr 2
  rw[hr,Array.mapM_eq_mapM_toList];simp only[Sem.run_bind,Sem.run_map,g1,Result.andThen_ok,Sem.run_pure]
 unfold LU at h;split at h
 ·rename_i x hx;obtain⟨vs,g1,g2⟩:=main _ hx;obtain⟨v,rfl⟩:=List.length_eq_one_iff.1 g1.1;exact⟨v,x,by simpa using g2,g1.2 0 x v rfl rfl,h⟩
 ·rename_i xs hne hx;obtain⟨vs,g1,g2⟩:=main _ hx;refine⟨.tuple vs.toArray,.cI xs, ?_,.cI (by simp[g1.1]) λi x v hx hv=>g1.2 i x v hx (by simpa using hv),h⟩;have LW:¬vs.toArray.size=1:=by
   intro he;have:xs.length=1:=by rw[<-g1.1];simpa using he
   obtain⟨x,rfl⟩:=List.length_eq_one_iff.1 this;exact hne x rfl
  rw[g2,dif_neg LW]
 ·exact h.elim
omit [Gl]in
theorem EG (n:Nat):um n=List.replicate n dP:=by induction n<;>simp[um,List.replicate_succ, *]
theorem Af (bw:cg P δ){f:FuncId}{fn:Func}{c:Code}(hf:P.funcs[f]?=some fn)(hb:fn.body=some c)(hname:(fn.name== "runtime.NumGoroutine")=false){args:List AV}{ob:List AO}{K:AV->List AO->Prop}
  (h:KP P δ c fn.results.toList fn.ntmps args ob K):aV P f args ob K:=by
 refine⟨λw F μ bD hv hs=> ?_⟩;have Xo:(callFunc f bD).run P w=.ok (.enter f bD) w:=by
  have hn:¬fn.name= "runtime.NumGoroutine":=by simpa using hname
  simp[callFunc,hf,hn,hb]
 unfold jK;rw[Xo];refine⟨rfl,rfl,rfl,calls_of_wp hf hb ?_⟩;have hfr:FR w F μ (e_ args (um (fn.ntmps -bS args))) (bD++Array.replicate (fn.ntmps -bD.size) undef):=by
  have hl:bD.size=args.length:=by have:=hv.1;simpa using this
  rw[dg,EG,bQ];refine⟨by simp[hl],λi x v hx mJ=> ?_⟩;rcases Nat.lt_or_ge i args.length with hlt|hge
  ·rw[List.getElem?_append_left hlt]at hx;rw[Array.getElem?_append_left (by omega)]at mJ;exact hv.2 i x v hx (by simpa using mJ)
  ·rw[List.getElem?_append_right hge,List.getElem?_replicate]at hx;rw[Array.getElem?_append_right (by omega),Array.getElem?_replicate]at mJ;split at hx
   ·split at mJ
    ·cases hx;cases mJ;exact VR.unit
    ·cases mJ
   ·cases hx
 have hm:bS ob=μ.length:=by rw[bQ,hs.len]
 have hw:=(gS bw c h).run w F μ {tmps:=bD++Array.replicate (fn.ntmps -bD.size) undef,defers:=[]} (Nat.le_of_eq hm) hfr hs;refine Code.wp_mono (λe a w' hq=> ?_) hw
 cases e with
 |normal=>
  obtain⟨env,cc,bu,h1,h2,h3,h4,h5⟩:=hq;obtain⟨v,x,g1,g2,g3⟩:=uJ bw h2 h3 h1;exact⟨h5,v,g1,v,x,cc,bu,rfl,g2,h3,h4.Db hm,g3⟩
 |ret=>
  obtain⟨env,cc,bu,h1,h2,h3,h4,h5⟩:=hq;obtain⟨v,x,g1,g2,g3⟩:=uJ bw h2 h3 h1;exact⟨h5,v,g1,v,x,cc,bu,rfl,g2,h3,h4.Db hm,g3⟩
 |exit i=>obtain⟨env,cc,bu,h1,_⟩:=hq;exact h1.elim
 |goto l=>exact hq.elim
 |panic c=>exact hq.elim
 |outgrown=>exact hq.elim
theorem aV.mono {f:FuncId}{args:List AV}{ob:List AO}{K K':AV->List AO->Prop}(h:aV P f args ob K)(hk:∀x o,K x o->K' x o):aV P f args ob K':=by
 refine⟨λw F μ bD hv hs=> ?_⟩;have:=h.run w F μ bD hv hs;unfold jK at this⊢;split at this
 ·obtain⟨h1,h2,h3,h4⟩:=this;exact⟨h1,h2,h3,h4.mono λe w' ⟨v,x,cc,bu,g1,g2,g3,g4,g5⟩=>⟨v,x,cc,bu,g1,g2,g3,g4,hk _ _ g5⟩⟩
 ·obtain⟨v,x,cc,bu,g1,g2,g3,g4,g5⟩:=this;exact⟨v,x,cc,bu,g1,g2,g3,g4,hk _ _ g5⟩
 ·exact this.elim
end
end Go.bA
end
section
namespace Go.bA
variable [Gl]
mutual
def i9:AV->Bool
 | .c _=>true
 | .agg cs=>eA cs
 | .cI vs=>eA vs
 | .fn _ a b=>match eA a with|true=>eA b|false=>false
 | .oN _ x=>i9 x
 |_=>false
def eA:List AV->Bool
 |[]=>true
 |x::xs=>match i9 x with|true=>eA xs|false=>false
end
omit [Gl]in
theorem fQ:∀{xs:List AV},eA xs=true->∀(i:Nat) x,xs[i]?=some x->i9 x=true
 |[],_,i,x,h=>by simp at h
 |y::ys,h,i,x,hx=>by
  simp only[eA]at h;split at h
  ·rename_i hy
   cases i with
   |zero=>simp at hx;subst hx;exact hy
   |succ i=>exact fQ h i x (by simpa using hx)
  ·cases h
omit [Gl]in
theorem uK:∀{xs:List AV},(∀(i:Nat) x,xs[i]?=some x->i9 x=true)->eA xs=true
 |[],_=>rfl
 |y::ys,h=>by
  simp only[eA,h 0 y rfl];exact uK λi x hx=>h (i+1) x (by simpa using hx)
omit [Gl]in
theorem VR.pure {w w':World}{F F':Nat->Prop}{μ bu:Mu}(ht:∀t v,VT w (own F μ) t v->VT w' (own F' bu) t v){x:AV}{v:Value}(h:VR w F μ x v):i9 x=true->VR w' F' bu x v:=by
 induction h with
 |c h=>intro _;exact .c (ht _ _ h)
 |fn h1 h2 _ _ i1 i2=>
  intro hp;simp only[i9]at hp;split at hp
  ·rename_i ha;exact .fn h1 h2 (λi x v hx hv=>i1 i x v hx hv (fQ ha i x hx)) (λi x v hx hv=>i2 i x v hx hv (fQ hp i x hx))
  ·cases hp
 |oN _ ih=>intro hp;exact .oN (ih (by simpa[i9]using hp))
 |agg h1 _ h3 ih=>intro hp;simp only[i9]at hp;exact .agg h1 (λi x v hx hv=>ih i x v hx hv (fQ hp i x hx)) h3
 |cI h1 _ ih=>intro hp;simp only[i9]at hp;exact .cI h1 (λi x v hx hv=>ih i x v hx hv (fQ hp i x hx))
 |_=>intro hp;simp[i9]at hp
inductive Fz (o:List AO):AV->AV->Prop where
 |pure {x:AV}:i9 x=true->Fz o x x
 |sl {n k:Nat} {i len cap:Th Nat} {es:Th (List (List AV))} {sz:Th Nat} (rows:List (List T)) (r:List (List T)):nth o n=some (.arr k es sz)->es.den=rows.map (λe=>e.map AV.c)->i.den+len.den<=rows.length->
  r=(rows.drop i.den).take len.den->Fz o (.sl n k i len cap) (.c (.dO k r))
 |Lc {n k:Nat} {i len cap:Th Nat} {es:Th (List (List AV))} {sz:Th Nat} (rows:List (List T)) (f:Unit->T):nth o n=some (.arr k es sz)->es.den=rows.map (λe=>e.map AV.c)->i.den+len.den<=rows.length->
  f ()=.dO k ((rows.drop i.den).take len.den)->Fz o (.sl n k i len cap) (.c (.bJ k f))
 |agg {cs ds:List AV}:cs.length=ds.length->(∀(i:Nat) x y,cs[i]?=some x->ds[i]?=some y->Fz o x y)->Fz o (.agg cs) (.agg ds)
 |cI {cs ds:List AV}:cs.length=ds.length->(∀(i:Nat) x y,cs[i]?=some x->ds[i]?=some y->Fz o x y)->Fz o (.cI cs) (.cI ds)
omit [Gl]in
theorem Fz.Jl {o:List AO}{x y:AV}(h:Fz o x y):i9 y=true:=by
 induction h with
 |pure h=>exact h
 |sl=>rfl
 |Lc=>rfl
 |agg h1 _ ih=>
  simp only[i9];refine uK λi y hy=> ?_;have hlt:=(List.getElem?_eq_some_iff.1 hy).1;exact ih i _ y (List.getElem?_eq_getElem (h1▸hlt)) hy
 |cI h1 _ ih=>
  simp only[i9];refine uK λi y hy=> ?_;have hlt:=(List.getElem?_eq_some_iff.1 hy).1;exact ih i _ y (List.getElem?_eq_getElem (h1▸hlt)) hy
section
variable{P:Program}{δ:Nat->Option TD}
theorem l8 {w:World}{F:Nat->Prop}{μ:Mu}{ob:List AO}(hs:St w F μ ob){O:Nat->Prop}{n k:Nat}(hO:∀b,b<w.heap.size->O b->own F μ b)(Ue:∀b,μ[n]?=some (some b)->¬O b){i len cap:Th Nat}{es:Th (List (List AV))}{sz:Th Nat}{rows:List (List T)}
  (hn:nth ob n=some (.arr k es sz)) (he:es.den=rows.map (λe=>e.map AV.c)) (hl:i.den+len.den<=rows.length) {v:Value} (hv:VR w F μ (.sl n k i len cap) v):VT w O (.dO k ((rows.drop i.den).take len.den)) v:=by
 by_cases hg:gone (.arr k es sz)
 ·have hr:rows=[]:=by
   have:=hg.1;rw[he]at this;simpa using this
  subst hr;obtain⟨a,iA,_,_,h0⟩:=hv.FO;simp at hl;subst iA;simp only[hl,List.drop_nil,List.take_nil];exact .oO h0
 obtain⟨b,hb,jN⟩:=hs.box hn hg;obtain⟨iA,hcap,_⟩:=hv.I3 hb;subst iA;have hlt:=hs.lt n b hb;have Ue:¬O b:=Ue b hb
 cases jN with
 |arr ct ty g1 g2 g3 g4 g6 g5=>
  have hlen:((rows.drop i.den).take len.den).length=len.den:=by simp;omega
  have hrow:∀(j:Nat) e,((rows.drop i.den).take len.den)[j]?=some e->rows[i.den+j]?=some e:=by
   intro j e h;rw[List.getElem?_take]at h;split at h
   ·rwa[List.getElem?_drop]at h
   ·cases h
  have hk:∀(j:Nat) e,rows[j]?=some e->e.length=k:=by
   intro j e h;have:(e.map AV.c).length=k:=g4 _ (by rw[he];exact List.mem_map.2 ⟨e,List.mem_of_getElem? h,rfl⟩);simpa using this
  have hcell:∀(j m:Nat) e x,((rows.drop i.den).take len.den)[j]?=some e->e[m]?=some x->∃u,w.cell? ⟨b,i.den*k+(j*k+m),none⟩=some u/\VT w (own F μ) x u:=by
   intro j m e x h1 h2;have h3:=hrow j e h1;have h4:es.den[i.den+j]?=some (e.map AV.c):=by rw[he,List.getElem?_map,h3];rfl
   have h5:(e.map AV.c)[m]?=some (.c x):=by rw[List.getElem?_map,h2];rfl
   have hmk:m<k:=by rw[<-hk _ e h3];exact(List.getElem?_eq_some_iff.1 h2).1
   have hij:i.den+j<es.den.length:=(List.getElem?_eq_some_iff.1 h4).1;have hpos:(i.den+j)*k+m<ct.size:=by
    rw[g2];have:(i.den+j+1)*k<=es.den.length*k:=Nat.mul_le_mul_right _ hij;rw[Nat.add_mul]at this;omega
   have:=g5 (i.den+j) m _ (.c x) ct[(i.den+j)*k+m] h4 h5 (Array.getElem?_eq_getElem hpos);refine⟨ct[(i.den+j)*k+m], ?_, ?_⟩
   ·rw[cell_of_row w b _ ct ty (0,0) g1,show i.den*k+(j*k+m)=(i.den+j)*k+m by rw[Nat.add_mul];omega,Array.getElem?_eq_getElem hpos]
   ·cases this.1 with|c h=>exact h
  have:=VT.dO (w:=w) (O:=O) (k:=k) (es:=(rows.drop i.den).take len.den) (b:=b) (off:=i.den*k) (cap:=cap.den) (λj m=>(w.cell? ⟨b,i.den*k+(j*k+m),none⟩).getD undef) hlt Ue (by rw[hlen];exact hcap)
   (λe hm=>by obtain⟨j,hj,rfl⟩:=List.getElem_of_mem hm;exact hk _ _ (hrow j _ (List.getElem?_eq_getElem hj)))
   (λj m e x h1 h2=>by obtain⟨u,hu,_⟩:=hcell j m e x h1 h2;rw[hu];rfl)
   (λj m e x h1 h2=>by
    obtain⟨u,hu,hv⟩:=hcell j m e x h1 h2;rw[hu];exact hv.mono (Nat.le_refl _) (λ_ _ _=>rfl) (λb hb hn Uf=>hn (hO b hb Uf)))
  rw[hlen]at this;exact this
theorem Fz.sound {w:World}{F:Nat->Prop}{μ:Mu}{ob:List AO}(hs:St w F μ ob){F':Nat->Prop}{bu:Mu}(hO:∀b,b<w.heap.size->own F' bu b->F b){x y:AV}(h:Fz ob x y):∀{v},VR w F μ x v->VR w F' bu y v:=by
 induction h with
 |pure h=>
  intro v hv;exact hv.pure (λt v ht=>ht.mono (Nat.le_refl _) (λ_ _ _=>rfl) (λb hb hn Uf=>hn (.inr (hO b hb Uf)))) h
 |sl rows r h1 h2 h3 h4=>intro v hv;rw[h4];exact .c (l8 hs (λb hb h=>.inr (hO b hb h)) (λb hb h=>(hs.frame b (hO b (hs.lt _ b hb) h)).2 (List.mem_of_getElem? hb)) h1 h2 h3 hv)
 |Lc rows f h1 h2 h3 h4=>intro v hv;exact .c (.bJ h4 (l8 hs (λb hb h=>.inr (hO b hb h)) (λb hb h=>(hs.frame b (hO b (hs.lt _ b hb) h)).2 (List.mem_of_getElem? hb)) h1 h2 h3 hv))
 |agg h1 _ ih=>
  intro v hv
  cases hv with
  |agg a1 a2 a3=>
   refine .agg (by rw[a1,h1]) (λi y v hy hv=> ?_) a3;have hlt:=(List.getElem?_eq_some_iff.1 hy).1;exact ih i _ y (List.getElem?_eq_getElem (h1▸hlt)) hy (a2 i _ v (List.getElem?_eq_getElem (h1▸hlt)) hv)
 |cI h1 _ ih=>
  intro v hv
  cases hv with
  |cI a1 a2=>
   refine .cI (by rw[a1,h1]) (λi y v hy hv=> ?_);have hlt:=(List.getElem?_eq_some_iff.1 hy).1;exact ih i _ y (List.getElem?_eq_getElem (h1▸hlt)) hy (a2 i _ v (List.getElem?_eq_getElem (h1▸hlt)) hv)
theorem St.bare {w:World}{F:Nat->Prop}{μ:Mu}{ob:List AO}(hs:St w F μ ob):St w (own F μ) [] []where
 len:=rfl
 inj o o' b h:=by simp at h
 lt o b h:=by simp at h
 dead o h:=by simp at h
 frame b h:=by
  refine⟨?_,by simp⟩;rcases h with h|h
  ·obtain⟨o,ho⟩:=mem_of h;exact hs.lt o b ho
  ·exact(hs.frame b h).1
 live o b h:=by simp at h
 gl:=hs.gl.sub λb _ h=>by
  rcases h with h|h
  ·simp at h
  ·exact h
theorem St.behind {w w':World}{F:Nat->Prop}{μ jw:Mu}{ob:List AO}(hs:St w F μ ob)(hx:Ext w [] w' jw):St w' F μ ob/\Ext w μ w' μ:=by
 have he:Ext w μ w' μ:=
  {os:=hx.os,tape:=hx.tape,output:=hx.output,size:=hx.size,ct:=λb hb _=>hx.ct b hb (by simp),len:=Nat.le_refl _
   keep:=λ_ _ h=>.inl h,dead:=λ_ h=>h,own:=λ_ h=>.inl h}
 exact⟨hs.same he λb hb=>hx.ct b (by obtain⟨o,ho⟩:=mem_of hb;exact hs.lt o b ho) (by simp),he⟩
inductive Mz (o:List AO):List AV->List AV->Prop where
 |nil:Mz o [] []
 |cons {x y:AV} {xs ys:List AV}:Fz o x y->Mz o xs ys->Mz o (x::xs) (y::ys)
theorem Mz.sound {w:World}{F:Nat->Prop}{μ:Mu}{ob:List AO}(hs:St w F μ ob){F':Nat->Prop}{bu:Mu}(hO:∀b,b<w.heap.size->own F' bu b->F b){xs ys:List AV}(h:Mz ob xs ys):∀{vs},ua w F μ xs vs->ua w F' bu ys vs:=by
 induction h with
 |nil=>intro vs hv;exact⟨hv.1,λi x v hx=>by simp at hx⟩
 |cons h1 _ ih=>
  intro vs hv
  cases vs with
  |nil=>have:=hv.1;simp at this
  |cons v vs=>
   have Xp:=ih (vs:=vs) ⟨by have:=hv.1;simpa using this,λi x v hx hu=>hv.2 (i+1) x v (by simpa using hx) (by simpa using hu)⟩;refine⟨by simp[Xp.1],λi y u hy hu=> ?_⟩
   cases i with
   |zero=>simp at hy hu;subst hy;subst hu;exact h1.sound hs hO (hv.2 0 _ _ rfl rfl)
   |succ i=>exact Xp.2 i y u (by simpa using hy) (by simpa using hu)
def Ld:T->Bool
 | .int _ _| .bool _| .str _| .lit _=>true
 |_=>false
mutual
def oG:AV->Bool
 | .c t=>Ld t
 | .agg cs=>Ag cs
 | .cI vs=>Ag vs
 |_=>false
def Ag:List AV->Bool
 |[]=>true
 |x::xs=>match oG x with|true=>Ag xs|false=>false
end
omit [Gl]in
theorem ry:∀{xs:List AV},Ag xs=true->∀(i:Nat) x,xs[i]?=some x->oG x=true
 |[],_,i,x,h=>by simp at h
 |y::ys,h,i,x,hx=>by
  simp only[Ag]at h;split at h
  ·rename_i hy
   cases i with
   |zero=>simp at hx;subst hx;exact hy
   |succ i=>exact ry h i x (by simpa using hx)
  ·cases h
omit [Gl]in
theorem VT.flat {w w':World}{O O':Nat->Prop}{t:T}{v:Value}(h:VT w O t v)(hf:Ld t=true):VT w' O' t v:=by
 cases h<;>first|exact .int|exact .bool|exact .str|exact .lit ‹_›|cases hf
omit [Gl]in
theorem VR.flat {w w':World}{F F':Nat->Prop}{μ bu:Mu}{x:AV}{v:Value}(h:VR w F μ x v):oG x=true->VR w' F' bu x v:=by
 induction h with
 |c h=>intro hp;exact .c (h.flat hp)
 |agg h1 _ h3 ih=>intro hp;simp only[oG]at hp;exact .agg h1 (λi x v hx hv=>ih i x v hx hv (ry hp i x hx)) h3
 |cI h1 _ ih=>intro hp;simp only[oG]at hp;exact .cI h1 (λi x v hx hv=>ih i x v hx hv (ry hp i x hx))
 |_=>intro hp;simp[oG]at hp
end
end Go.bA
end
section
namespace Go.bA
variable [Gl]
section
variable{P:Program}{δ:Nat->Option TD}
structure Src (P:Program)(xt:TypeId)(ob:List AO)(x:AV)(rows:List (List AV))(k:Nat):Prop where
 wide:∀e∈rows,e.length=k
 reads:∀(w:World)(F:Nat->Prop)(μ:Mu)(v:Value),VR w F μ x v->St w F μ ob->∃news:List Value,_root_.Go.Src P k xt v rows.length news w/\
  ∀(j:Nat) y u,rows.flatten[j]?=some y->news[j]?=some u->VR w F μ y u/\u.oneCell'=true
omit [Gl]in
theorem qe {α:Type}(k:Nat):∀(l:List (List α)),(∀e∈l,e.length=k)->l.flatten.length=l.length*k
 |[],_=>by simp
 |e::l,h=>by
  rw[List.flatten_cons,List.length_append,h e List.mem_cons_self,qe k l (λx hx=>h x (List.mem_cons_of_mem _ hx)),List.length_cons,Nat.add_mul];omega
omit [Gl]in
theorem Src.Ah {xt e':TypeId}(hk:P.underlying xt=some (.slice e')){w:World}{F:Nat->Prop}{μ:Mu}{ad:Addr}{c k:Nat}{rows:List (List AV)}(hw:∀e∈rows,e.length=k)
  (h:∀(j:Nat) y,rows.flatten[j]?=some y->∃u,w.cell? (ad.add j)=some u/\VR w F μ y u/\u.oneCell'=true):
  ∃news:List Value,_root_.Go.Src P k xt (.slice (some ad) rows.length c) rows.length news w/\∀(j:Nat) y u,rows.flatten[j]?=some y->news[j]?=some u->VR w F μ y u/\u.oneCell'=true:=by
 have hl:=qe k rows hw;have Ae:∀j,j<rows.length*k->∃y,rows.flatten[j]?=some y:=λj hj=>⟨_,List.getElem?_eq_getElem (by rw[hl];exact hj)⟩
 let nv:List Value:=(List.range (rows.length*k)).map λj=>(w.cell? (ad.add j)).getD undef
 have GO:∀(j:Nat) y u,rows.flatten[j]?=some y->nv[j]?=some u->w.cell? (ad.add j)=some u/\VR w F μ y u/\u.oneCell'=true:=by
  intro j y u hy hu;obtain⟨u',h1,h2,h3⟩:=h j y hy;have hj:j<rows.length*k:=by rw[<-hl];exact(List.getElem?_eq_some_iff.1 hy).1
  simp[nv,hj,h1]at hu;subst hu;exact⟨h1,h2,h3⟩
 have hlt:∀(j:Nat) u,nv[j]?=some u->j<rows.length*k:=λj u hu=>by
  have:=(List.getElem?_eq_some_iff.1 hu).1;simpa[nv]using this
 refine⟨nv,_root_.Go.Src.ofSlice w hk ad rows.length c nv (by simp[nv]) (λj u hu=> ?_) (λu hu=> ?_),λj y u hy hu=>(GO j y u hy hu).2⟩
 ·obtain⟨y,hy⟩:=Ae j (hlt j u hu);exact(GO j y u hy hu).1
 ·obtain⟨j,hj⟩:=List.mem_iff_getElem?.1 hu;obtain⟨y,hy⟩:=Ae j (hlt j u hj);exact(GO j y u hy hj).2.2
omit [Gl]in
theorem jS {α:Type}(k:Nat):∀(es:List (List α)),(∀e∈es,e.length=k)->∀(j:Nat) y,es.flatten[j]?=some y->∃(i m:Nat)(e:List α),es[i]?=some e/\e[m]?=some y/\j=i*k+m
 |[],_,j,y,h=>by simp at h
 |e::es,hk,j,y,h=>by
  have h0:=hk e List.mem_cons_self;rw[List.flatten_cons]at h;rcases Nat.lt_or_ge j e.length with hlt|hge
  ·rw[List.getElem?_append_left hlt]at h;exact⟨0,j,e,rfl,h,by omega⟩
  ·rw[List.getElem?_append_right hge]at h;obtain⟨i,m,e',h1,h2,h3⟩:=jS k es (λx hx=>hk x (List.mem_cons_of_mem _ hx)) _ y h;exact⟨i+1,m,e',by simpa using h1,h2,by rw[Nat.add_mul];omega⟩
theorem Src.sl {xt e':TypeId}(hk:P.underlying xt=some (.slice e')){ob:List AO}{o k:Nat}{i len cap:Th Nat}{es:Th (List (List AV))}{sz:Th Nat}(hn:nth ob o=some (.arr k es sz))(hw:∀e∈es.den,e.length=k)(hl:i.den+len.den<=es.den.length):
  Src P xt ob (.sl o k i len cap) ((es.den.drop i.den).take len.den) k where
 wide e he:=hw e (List.mem_of_mem_drop (List.mem_of_mem_take he))
 reads w F μ v hv hs:=by
  have hlr:((es.den.drop i.den).take len.den).length=len.den:=by simp;omega
  by_cases hg:gone (.arr k es sz)
  ·obtain⟨a,iA,_⟩:=hv.FO;have h0:es.den=[]:=hg.1;rw[h0]at hl;simp at hl;rw[iA,h0,hl.2];simp only[List.drop_nil,List.take_nil]
   cases a with
   |none=>exact⟨[],_root_.Go.Src.ofNil w hk _,λj y u h=>by simp at h⟩
   |some a=>exact⟨[],_root_.Go.Src.ofSlice w hk a 0 _ [] (by simp) (λj u h=>by simp at h) (λu h=>by cases h),λj y u h=>by simp at h⟩
  obtain⟨b,hb,jN⟩:=hs.box hn hg;obtain⟨iA,_,_⟩:=hv.I3 hb;have key:=Src.Ah (P:=P) (w:=w) (F:=F) (μ:=μ) (ad:=⟨b,i.den*k,none⟩) (c:=cap.den) (rows:=(es.den.drop i.den).take len.den) hk (λe he=>hw e (List.mem_of_mem_drop (List.mem_of_mem_take he))) λj y hy=> ?_
  ·rw[hlr]at key;rw[iA,hlr];exact key
  obtain⟨r,m,e,h1,h2,h3⟩:=jS k _ (λe he=>hw e (List.mem_of_mem_drop (List.mem_of_mem_take he))) j y hy;rw[List.getElem?_take]at h1;split at h1
  ·rw[List.getElem?_drop]at h1;obtain⟨u,tL,zF,Ug⟩:=Reads.arr jN h1 m y h2;refine⟨u, ?_,zF,Ug⟩;rw[Addr.add_lit,h3,show i.den*k+(r*k+m)=(i.den+r)*k+m by rw[Nat.add_mul];omega];exact tL
  ·cases h1
theorem Src.dO {xt e':TypeId}(hk:P.underlying xt=some (.slice e')){ob:List AO}{x:T}{k:Nat}{rows:List (List T)}(hx:x=.dO k rows\/∃f,x=.bJ k f/\(T.bJ k f).rows=rows)(hw:∀e∈rows,e.length=k):Src P xt ob (.c x) (rows.map (λe=>e.map AV.c)) k where
 wide e he:=by obtain⟨e',h1,rfl⟩:=List.mem_map.1 he;simp[hw e' h1]
 reads w F μ v hv hs:=by
  cases hv with
  |c hv=>
   have hr:x.rows=rows:=by
    rcases hx with rfl|⟨f,rfl,hf⟩
    ·rfl
    ·exact hf
   obtain⟨k2,p,cap,r1,r6,SE,r8,_,r7⟩:=gi (by rcases hx with rfl|⟨f,rfl,hf⟩;exact .inl ⟨_,_,rfl⟩;exact .inr ⟨_,_,rfl⟩) hv;have hk2:k2=k:=by
    rcases hx with rfl|⟨f,rfl,hf⟩
    ·exact(r6 k rows rfl).symm
    ·exact(SE k f rfl).symm
   subst hk2;rw[hr]at r1 r7 r8;subst r1
   cases p with
   |none=>
    rw[(r8 rfl).1];exact⟨[],_root_.Go.Src.ofNil w hk _,λj y u h=>by simp at h⟩
   |some ad=>
    have hml:(rows.map (λe=>e.map AV.c)).length=rows.length:=by simp
    rw[<-hml];refine Src.Ah hk (λe he=>by obtain⟨e',h1,rfl⟩:=List.mem_map.1 he;simp[hw e' h1]) λj y hy=> ?_;obtain⟨r,m,e,h1,h2,h3⟩:=jS k2 _ (λe he=>by obtain⟨e',g1,rfl⟩:=List.mem_map.1 he;simp[hw e' g1]) j y hy;rw[List.getElem?_map]at h1
    cases Uh:rows[r]? with
    |none=>rw[Uh]at h1;cases h1
    |some e'=>
     rw[Uh]at h1;simp at h1;subst h1;obtain⟨b,off,rb,r9⟩:=r7 r e' Uh;cases rb;obtain⟨u,tL,zF,Ug⟩:=Reads.gx r9 m y (by rw[dR];exact h2);exact⟨u,by rw[Addr.add_lit,h3,<-Nat.add_assoc];exact tL,zF,Ug⟩
theorem St.MA {w:World}{F:Nat->Prop}{μ:Mu}{ob:List AO}(hs:St w F μ ob){x:AO}(hx:gone x):St w F (μ++[none]) (ob++[x])/\Ext w μ w (μ++[none]):=by
 have get:∀(q:Nat)(c:Option Nat),(μ++[none])[q]?=some c->μ[q]?=some c\/(q=μ.length/\c=none):=by
  intro q c h;rcases Nat.lt_or_ge q μ.length with h1|h1
  ·rw[List.getElem?_append_left h1]at h;exact .inl h
  ·rw[List.getElem?_append_right h1]at h;have:q=μ.length:=by
    have:=(List.getElem?_eq_some_iff.1 h).1;simp at this;omega
   subst this;simp at h;exact .inr ⟨rfl,h.symm⟩
 have get':∀(q c:Nat),(μ++[none])[q]?=some (some c)->μ[q]?=some (some c):=λq c h=>by
  rcases get q _ h with h|⟨_,h⟩
  ·exact h
  ·cases h
 have he:Ext w μ w (μ++[none]):=
  {os:=rfl,tape:=rfl,output:=rfl,size:=Nat.le_refl _,ct:=λc hc hn=>rfl,len:=by simp
   keep:=λq c hq=>.inl (by rw[List.getElem?_append_left (List.getElem?_eq_some_iff.1 hq).1];exact hq)
   dead:=λq hq=>by rw[List.getElem?_append_left (List.getElem?_eq_some_iff.1 hq).1];exact hq
   own:=λc hc=>by
    obtain⟨q,hq⟩:=mem_of hc;exact .inl (List.mem_of_getElem? (get' q c hq))}
 refine⟨⟨by simp[hs.len], ?_, ?_, ?_, ?_, ?_,hs.gl.ext he⟩,he⟩
 ·intro q q' c h1 h2;exact hs.inj q q' c (get' q c h1) (get' q' c h2)
 ·intro q c h;exact hs.lt q c (get' q c h)
 ·intro q h;rcases get q _ h with h|⟨h,_⟩
  ·obtain⟨y,g1,g2⟩:=hs.dead q h;exact⟨y,by rw[List.getElem?_append_left (List.getElem?_eq_some_iff.1 g1).1];exact g1,g2⟩
  ·subst h;exact⟨x,by rw[hs.len,List.getElem?_append_right (Nat.le_refl _)];simp,hx⟩
 ·intro c hc;refine⟨(hs.frame c hc).1,λhm=> ?_⟩;obtain⟨q,hq⟩:=mem_of hm;exact(hs.frame c hc).2 (List.mem_of_getElem? (get' q c hq))
 ·intro q c h;obtain⟨y,g1,g2⟩:=hs.live q c (get' q c h);exact⟨y,by rw[List.getElem?_append_left (List.getElem?_eq_some_iff.1 g1).1];exact g1,g2.ext he rfl⟩
theorem St.move {w w':World}{F:Nat->Prop}{μ:Mu}{ob:List AO}(hs:St w F μ ob){o b b':Nat}(ho:μ[o]?=some (some b))(hb':b'=b\/b'=w.heap.size)(hlt:b'<w'.heap.size)(hsz:w.heap.size<=w'.heap.size)
  (uc:∀c,c<w.heap.size->c≠b->w'.heap[c]?=w.heap[c]?) (hos:w'.os=w.os) (ZU:w'.tape=w.tape) (hout:w'.output=w.output) {x:AO}
  (hx:Ext w μ w' (μ.set o none++[some b'])->OB w' F (μ.set o none++[some b']) b' x):
  St w' F (μ.set o none++[some b']) (ob.set o .dead++[x])/\Ext w μ w' (μ.set o none++[some b']):=by
 have hol:o<μ.length:=(List.getElem?_eq_some_iff.1 ho).1;have GM:=hs.lt o b ho;have get:∀(q c:Nat),(μ.set o none++[some b'])[q]?=some (some c)->(q≠o/\q<μ.length/\μ[q]?=some (some c))\/(q=μ.length/\c=b'):=by
  intro q c h;rcases Nat.lt_or_ge q μ.length with h1|h1
  ·rw[List.getElem?_append_left (by simpa using h1)]at h;by_cases e:o=q
   ·subst e;rw[List.getElem?_set_self h1]at h;cases h
   ·rw[List.getElem?_set_ne e]at h;exact .inl ⟨Ne.symm e,h1,h⟩
  ·rw[List.getElem?_append_right (by simpa using h1)]at h;have:q=μ.length:=by
    have:=(List.getElem?_eq_some_iff.1 h).1;simp at this;omega
   subst this;simp at h;exact .inr ⟨rfl,h.symm⟩
 have he:Ext w μ w' (μ.set o none++[some b']):=
  {os:=hos,tape:=ZU,output:=hout,size:=hsz
   ct:=λc hc hn=>uc c hc (λe=>hn (e▸List.mem_of_getElem? ho))
   len:=by simp
   keep:=λq c hq=>by
    have Dd:=(List.getElem?_eq_some_iff.1 hq).1;rw[List.getElem?_append_left (by simpa using Dd)];by_cases e:o=q
    ·subst e;rw[List.getElem?_set_self Dd];exact .inr rfl
    ·rw[List.getElem?_set_ne e];exact .inl hq
   dead:=λq hq=>by
    have Dd:=(List.getElem?_eq_some_iff.1 hq).1;rw[List.getElem?_append_left (by simpa using Dd)];by_cases e:o=q
    ·subst e;rw[ho]at hq;cases hq
    ·rw[List.getElem?_set_ne e];exact hq
   own:=λc hc=>by
    obtain⟨q,hq⟩:=mem_of hc;rcases get q c hq with⟨_,_,h⟩|⟨_,h⟩
    ·exact .inl (List.mem_of_getElem? h)
    ·rcases hb' with e|e
     ·exact .inl (by rw[h,e];exact List.mem_of_getElem? ho)
     ·exact .inr (by omega)}
 refine⟨⟨by simp[hs.len], ?_, ?_, ?_, ?_, ?_,hs.gl.ext he⟩,he⟩
 ·intro q q' c h1 h2;rcases get q c h1 with⟨a1,a2,a3⟩|⟨a1,a2⟩<;>rcases get q' c h2 with⟨b1,b2,b3⟩|⟨b1,b2⟩
  ·exact hs.inj q q' c a3 b3
  ·exfalso;rcases hb' with e|e
   ·exact a1 (hs.inj q o b (by rw[b2,e]at a3;exact a3) ho)
   ·have:=hs.lt q c a3;omega
  ·exfalso;rcases hb' with e|e
   ·exact b1 (hs.inj q' o b (by rw[a2,e]at b3;exact b3) ho)
   ·have:=hs.lt q' c b3;omega
  ·omega
 ·intro q c h;rcases get q c h with⟨_,_,h⟩|⟨_,h⟩
  ·exact Nat.lt_of_lt_of_le (hs.lt q c h) hsz
  ·rw[h];exact hlt
 ·intro q h;rcases Nat.lt_or_ge q μ.length with h1|h1
  ·rw[List.getElem?_append_left (by simpa using h1)]at h;rw[List.getElem?_append_left (by simp[<-hs.len];exact h1)];by_cases e:o=q
   ·subst e;exact⟨.dead,by rw[List.getElem?_set_self (by rw[<-hs.len];exact h1)],trivial⟩
   ·rw[List.getElem?_set_ne e]at h⊢;exact hs.dead q h
  ·rw[List.getElem?_append_right (by simpa using h1)]at h;have:q=μ.length:=by
    have:=(List.getElem?_eq_some_iff.1 h).1;simp at this;omega
   subst this;simp at h
 ·intro c hc;refine⟨Nat.lt_of_lt_of_le (hs.frame c hc).1 hsz,λhm=> ?_⟩;obtain⟨q,hq⟩:=mem_of hm;rcases get q c hq with⟨_,_,h⟩|⟨_,h⟩
  ·exact(hs.frame c hc).2 (List.mem_of_getElem? h)
  ·rcases hb' with e|e
   ·exact(hs.frame c hc).2 (by rw[h,e];exact List.mem_of_getElem? ho)
   ·have:=(hs.frame c hc).1;omega
 ·intro q c h;rcases get q c h with⟨a1,a2,a3⟩|⟨a1,a2⟩
  ·obtain⟨y,h1,h2⟩:=hs.live q c a3;refine⟨y,by rw[List.getElem?_append_left (by simp[<-hs.len];exact a2),List.getElem?_set_ne (Ne.symm a1)];exact h1, ?_⟩;exact h2.ext he (uc c (hs.lt q c a3) (λe=>a1 (hs.inj q o b (e▸a3) ho)))
  ·subst a1;subst a2;exact⟨x,by rw[hs.len,List.getElem?_append_right (by simp)];simp,hx he⟩
theorem cU (bw:cg P δ){t xt e:Nat}{d ed:TD}(hd:δ t=some d)(hsh:d.sh=.slice e)(ir:δ e=some ed)(hz:ed.zero≠[]){ob:List AO}{o k:Nat}{i len cap:Th Nat}{es:Th (List (List AV))}{sz:Th Nat}
  (hn:nth ob o=some (.arr k es sz)) (hk:k=ed.size) (pQ:k≠0) (hi:i.den=0) (hlen:len.den<=es.den.length) (hsz:sz.den=cap.den*k) (hwide:∀r∈es.den,r.length=k) {x:AV} {news:List (List AV)} (hsrc:Src P xt ob x news k)
  (hbytes:(len.den+news.length)*ed.bytes<=140737488355328) (h63:len.den+news.length<=9223372036854775807) {K:AV->List AO->Prop} (L:Th Nat) (E:Th (List (List AV))) (hL:L.den=len.den+news.length) (hE:E.den=es.den.take len.den++news)
  (hK:∀c:Nat,L.den<=c->K (.sl (bS ob) k (.lit 0) L (.th λ_=>c)) (e_ (eM ob o .dead) [.arr k E (.th λ_=>c*k)])):fe P δ t xt (.sl o k i len cap) x ob K:=by
 refine⟨λty w F μ vs vx hvs FV hs=> ?_⟩;obtain⟨nv,Jm,GO⟩:=hsrc.reads w F μ vx FV hs;have hu:=a_ bw hd hsh;obtain⟨ie,z,q1,q2,q3,q4,q5,_⟩:=iH bw ir hz;obtain⟨Uc,Lb,Xk,q6⟩:=fP bw ir;rw[q1]at Lb;cases Lb;have hks:ie.size=k:=by rw[q3,hk]
 have wD:_root_.Go.Src P ie.size xt vx news.length nv w:=by rw[hks];exact Jm
 have o5:nv.length=news.length*k:=Jm.newsLen;have hone:∀u∈nv,u.oneCell'=true:=Jm.one;have hnl:news.flatten.length=news.length*k:=eF k news hsrc.wide;have v_:∀r∈es.den.take len.den,r.length=k:=λr hr=>hwide r (List.mem_of_mem_take hr);have GP:(es.den.take len.den).length=len.den:=by simp;omega
 have hel:(es.den.take len.den).flatten.length=len.den*k:=by rw[eF k _ v_,GP]
 have MB:E.den.length=len.den+news.length:=by rw[hE,List.length_append,GP]
 have Le:∀r∈E.den,r.length=k:=by
  intro r hr;rw[hE]at hr;rcases List.mem_append.1 hr with h|h
  ·exact v_ r h
  ·exact hsrc.wide r h
 have Od:z.cells.size=k:=by rw[q4,hk]
 have xq:∀u∈z.cells,u.oneCell'=true:=by
  obtain⟨z',z1,z2,z3,z4⟩:=gE bw ir hz;have II:z'=z:=by
   have h1:=z1 w;simp[zeroValue,typeInfo,q1,q2]at h1;exact h1.symm
  subst II;intro u eR;obtain⟨j,hj,rfl⟩:=List.getElem_of_mem (Array.mem_toList_iff.2 eR);have hj':j<(bG ed).length:=by rw[<-z2];simpa using hj
  exact(z4 w F μ j _ _ (List.getElem?_eq_getElem hj') (by simp at hj;simp[hj])).2
 --a row that is made anew,or written on
 have build:∀(w':World)(bu:Mu)(b':Nat)(pre rest:List Value)(c:Nat)(pK:TypeId),Ext w μ w' bu->w'.heap[b']?=some (.cells (pre++nv++rest).toArray pK (0,0))->pre.length=len.den*k->
   (∀(j:Nat) y u,(es.den.take len.den).flatten[j]?=some y->pre[j]?=some u->VR w F μ y u)->(∀u∈pre,u.oneCell'=true)->(∀u∈rest,u.oneCell'=true)->
   (len.den+news.length)*k+rest.length=c*k->len.den+news.length<=c->OB w' F bu b' (.arr k E (.th λ_=>c*k)):=by
  intro w' bu b' pre rest c pK he hh zH hpre gM Co hr hc;refine .arr _ pK hh ?_ ?_ Le (λi u hu=> ?_) λr m e' y u h1 h2 h3=> ?_
  ·simp only[List.size_toArray,List.length_append,zH,o5,Th.aB];rw[<-hr,Nat.add_mul]
  ·rw[MB];exact Nat.mul_le_mul_right _ hc
  ·have hm:=List.mem_of_getElem? (by simpa using hu);simp only[List.mem_append]at hm;rcases hm with hm|hm|hm
   ·exact gM u hm
   ·exact hone u hm
   ·exact Co u hm
  ·have hf:E.den.flatten[r*k+m]?=some y:=iZ k E.den Le r m e' y h1 h2;rw[hE,List.flatten_append]at hf;rw[List.getElem?_toArray,List.append_assoc]at h3;rcases Nat.lt_or_ge (r*k+m) (len.den*k)with hlt|hge
   ·rw[List.getElem?_append_left (by rw[hel];exact hlt)]at hf;rw[List.getElem?_append_left (by rw[zH];exact hlt)]at h3;exact⟨(hpre _ y u hf h3).ext he,gM u (List.mem_of_getElem? h3)⟩
   ·rw[List.getElem?_append_right (by rw[hel];exact hge),hel]at hf;rw[List.getElem?_append_right (by rw[zH];exact hge),zH]at h3;have MC:r*k+m -len.den*k<nv.length:=by
     rw[o5,<-hnl];exact(List.getElem?_eq_some_iff.1 hf).1
    rw[List.getElem?_append_left MC]at h3;have:=GO _ y u hf h3;exact⟨this.1.ext he,this.2⟩
 have RT:∀n,∀u∈(Builtin.zeroCells z.cells n).toList,u.oneCell'=true:=by
  intro n u eR;simp only[Builtin.zeroCells,Array.toList_map,List.mem_map,Array.toList_range,List.mem_range]at eR;obtain⟨j,hj,rfl⟩:=eR;have hm:j %z.cells.size<z.cells.size:=Nat.mod_lt _ (by omega);rw[getElem!_pos z.cells _ hm];exact xq _ (Array.getElem_mem hm)
 by_cases hg:gone (.arr k es sz)
 ·--nothing is there
  obtain⟨g0,gz⟩:=hg;have hcap:cap.den=0:=by
   rw[gz]at hsz;rcases Nat.eq_zero_or_pos cap.den with h|h
   ·exact h
   ·have:=Nat.mul_pos h (Nat.pos_of_ne_zero pQ);omega
  obtain⟨a,iA,hlc,_,_⟩:=hvs.FO;have yT:len.den=0:=by omega
  rw[hcap,yT]at iA;obtain⟨s1,x1⟩:=hs.kill o;by_cases hn0:news.length=0
  ·obtain rfl:news=[]:=List.eq_nil_of_length_eq_zero hn0;obtain rfl:nv=[]:=List.eq_nil_of_length_eq_zero (by simpa using o5);have hr:=run_append_nothing (P:=P) w t xt ty e ie hu q1 a 0 0 (Nat.le_refl _) vx wD;have ZV:E.den=[]:=by rw[hE,g0];simp
   obtain⟨s2,x2⟩:=s1.MA (x:=.arr k E (.th λ_=>0*k)) ⟨ZV,by simp⟩;have Dp:=hK 0 (by rw[hL,yT];simp);rw[bQ,dg,cJ]at Dp;refine⟨_,_,_,_,w,by rw[iA];exact hr, ?_,s2,x1.trans x2,Dp⟩;have hm:(μ.set o none++[none])[ob.length]?=some none:=by
    rw[<-hs.len,List.getElem?_append_right (by simp)];simp
   have:=VR.wj (w:=w) (F:=F) (k:=k) (i:=.lit 0) (len:=L) (cap:=.th λ_=>0) (a:=a) hm (by rw[hL,yT];simp) (by simp) (by simp);rw[hL,yT]at this;simpa using this
  ·have hr:=run_append_grow_src (P:=P) w t xt ty e ie z hu q1 q2 a 0 0 [] (by cases a;rfl;exact run_firstCells_some w.drew ie.size 0 _ 0 0 [] (by simp) (λj u h=>by simp at h)) vx news.length nv wD (by omega) (by omega) (growslice_fits (by omega) (by rw[q6];rw[yT]at hbytes;exact hbytes));simp only[Nat.zero_add,List.nil_append]at hr;have hge:=grownCap_ge w news.length 0 e;have hle:=grownCap_le_maxLen w news.length 0 e (by simp only[maxLen];omega);simp only[maxLen]at hle;have hnew:w.drew.heap.size=w.heap.size:=rfl;have Ui:St w.drew F (μ.set o none) (ob.set o .dead):=s1.same (Ext.drewN w _ _) (λ_ _=>rfl);obtain⟨s2,x2⟩:=Ui.alloc (.cells (nv.toArray++Builtin.zeroCells z.cells (grownCap w news.length 0 e -news.length)) e) (.arr k E (.th λ_=>grownCap w news.length 0 e*k)) (λw' bu hx hh=>by
    refine build w' bu _ [] (Builtin.zeroCells z.cells (grownCap w news.length 0 e -news.length)).toList (grownCap w news.length 0 e) e (x1.trans ((Ext.drewN w _ _).trans hx)) ?_ (by simp[yT]) (λj y u h=>by rw[yT]at h;simp at h) (λu h=>by cases h) (RT _) ?_ (by omega)
    ·rw[hh];congr 2;apply Array.ext';simp
    ·simp only[Array.length_toList,size_zeroCells,Od,yT,Nat.zero_add,<-Nat.add_mul];congr 1;omega)
   have Dp:=hK (grownCap w news.length 0 e) (by rw[hL,yT];omega);rw[bQ,dg,cJ]at Dp;refine⟨_,_,_,_,_,by rw[iA];exact hr, ?_,s2,x1.trans ((Ext.drewN w _ _).trans x2),Dp⟩;have hm:(μ.set o none++[some w.drew.heap.size])[ob.length]?=some (some w.heap.size):=by
    rw[<-hs.len,List.getElem?_append_right (by simp)];simp
   have:=VR.sl (w:=w.drew.alloc (.cells (nv.toArray++Builtin.zeroCells z.cells (grownCap w news.length 0 e -news.length)) e)) (F:=F) (k:=k) (i:=.lit 0) (len:=L) (cap:=.th λ_=>grownCap w news.length 0 e) hm (by rw[hL,yT];simpa using hge) (by simp;omega);rw[hL,yT]at this;simpa using this
 obtain⟨b,hb,jN⟩:=hs.box hn hg;obtain⟨iA,hlc,Pn⟩:=hvs.I3 hb
 cases jN with
 |arr ct pK g1 g2 g3 g4 g6 g5=>
  have Po:=hs.lt o b hb;have Uj:len.den*k<=ct.size:=by rw[g2,hsz];exact Nat.mul_le_mul_right _ hlc
  have yA:(ct.toList.take (len.den*k)).length=len.den*k:=by simp;omega
  have ZW:∀(j:Nat) y u,(es.den.take len.den).flatten[j]?=some y->(ct.toList.take (len.den*k))[j]?=some u->VR w F μ y u:=by
   intro j y u hy eR;obtain⟨r,m,e',h1,h2,h3⟩:=jS k _ v_ j y hy;rw[List.getElem?_take]at h1;split at h1
   ·rw[List.getElem?_take]at eR;split at eR
    ·exact(g5 r m e' y u h1 h2 (by rw[<-h3];simpa using eR)).1
    ·cases eR
   ·cases h1
  have FW:∀u∈ct.toList,u.oneCell'=true:=λu eR=>by
   obtain⟨j,hj⟩:=List.mem_iff_getElem?.1 eR;exact g6 j u (by simpa using hj)
  have fin:∀(w':World)(b' c:Nat)(rest:List Value)(pK:TypeId),(b'=b\/b'=w.heap.size)->b'<w'.heap.size->w.heap.size<=w'.heap.size->(∀q,q<w.heap.size->q≠b->w'.heap[q]?=w.heap[q]?)->w'.os=w.os->w'.tape=w.tape->w'.output=w.output->
    w'.heap[b']?=some (.cells (ct.toList.take (len.den*k)++nv++rest).toArray pK (0,0))->(∀u∈rest,u.oneCell'=true)->(len.den+news.length)*k+rest.length=c*k->len.den+news.length<=c->c<=9223372036854775807->
    (Builtin.append_ #[t,xt] ty #[vs,vx]).run P w=.ok (.slice (some ⟨b',0,none⟩) (len.den+news.length) c) w'->
    ∃v y cc bu w',(Builtin.append_ #[t,xt] ty #[vs,vx]).run P w=.ok v w'/\VR w' F bu y v/\St w' F bu cc/\Ext w μ w' bu/\K y cc:=by
   intro w' b' c rest pK h1 h2 h3 h4 h5 h6 h7 h8 ZX h9 h10 h11 h12;obtain⟨r1,r2⟩:=hs.move hb h1 h2 h3 h4 h5 h6 h7 (x:=.arr k E (.th λ_=>c*k)) (λhe=>build w' _ b' _ rest c pK he h8 yA ZW (λu eR=>FW u (List.mem_of_mem_take eR)) ZX h9 h10);have Dp:=hK c (by rw[hL];exact h10);rw[bQ,dg,cJ]at Dp;refine⟨_,_,_,_,w',h12, ?_,r1,r2,Dp⟩;have hm:(μ.set o none++[some b'])[ob.length]?=some (some b'):=by
    rw[<-hs.len,List.getElem?_append_right (by simp)];simp
   have:=VR.sl (w:=w') (F:=F) (k:=k) (i:=.lit 0) (len:=L) (cap:=.th λ_=>c) hm (by rw[hL];exact h10) h11;rw[hL]at this;simpa using this
  by_cases hroom:len.den+news.length<=cap.den
  ·--in place
   have hfit:len.den*k+nv.length<=ct.size:=by rw[o5,<-Nat.add_mul,g2,hsz];exact Nat.mul_le_mul_right _ hroom
   have hr:(Builtin.append_ #[t,xt] ty #[.slice (some ⟨b,0,none⟩) len.den cap.den,vx]).run P w=.ok (.slice (some ⟨b,0,none⟩) (len.den+news.length) cap.den) (w.setRow b (ct.toList.take (len.den*k)++nv++ct.toList.drop (len.den*k+nv.length)).toArray):=by
    have hst:=run_storeCells_at P b (len.den*k) pK nv 0 ct w g1 (by simpa using hfit) hone;simp only[Nat.add_zero,<-hks]at hst⊢;rcases wD.kind with⟨e',hk'⟩|hk'<;>simp[Builtin.append_,run_underlying hu,run_underlying hk',sizeOf,typeInfo,q1,wD.len,hroom,wD.cells,Addr.add_lit,hst]
   refine fin (w.setRow b (ct.toList.take (len.den*k)++nv++ct.toList.drop (len.den*k+nv.length)).toArray) b cap.den (ct.toList.drop (len.den*k+nv.length)) pK (.inl rfl) (by simpa using Po) (by simp) (λq _ hq=>setRow_other w b q _ hq) rfl rfl rfl ?_ (λu eR=>FW u (List.mem_of_mem_drop eR)) ?_ hroom Pn ?_
   ·rw[setRow_heap w b ct _ pK _ g1]
   ·have:(len.den+news.length)*k<=cap.den*k:=Nat.mul_le_mul_right _ hroom;simp only[List.length_drop,Array.length_toList,g2,hsz,o5];rw[Nat.add_mul]at this⊢;omega
   ·rw[iA,hi,Nat.zero_mul];exact hr
  ·have holds:(Builtin.firstCells ie.size len.den (.slice (some ⟨b,0,none⟩) len.den cap.den)).run P w.drew=.ok (ct.toList.take (len.den*k)).toArray w.drew:=
    run_firstCells_some w.drew ie.size len.den ⟨b,0,none⟩ len.den cap.den (ct.toList.take (len.den*k)) (by rw[yA,hks]) (λj u eR=>by
     rw[List.getElem?_take]at eR;split at eR
     ·rw[Addr.add_lit,Nat.zero_add,cell_of_row w.drew b j ct pK (0,0) g1];simpa using eR
     ·cases eR)
   have hr:=run_append_grow_src (P:=P) w t xt ty e ie z hu q1 q2 (some ⟨b,0,none⟩) len.den cap.den (ct.toList.take (len.den*k)) holds vx news.length nv wD (by omega) (by omega) (growslice_fits (by omega) (by rw[q6];exact hbytes));have hge:=grownCap_ge w (len.den+news.length) cap.den e;have hle:=grownCap_le_maxLen w (len.den+news.length) cap.den e (by simp only[maxLen];omega);simp only[maxLen]at hle;refine fin (w.drew.alloc (.cells ((ct.toList.take (len.den*k)++nv).toArray++Builtin.zeroCells z.cells (grownCap w (len.den+news.length) cap.den e -(len.den+news.length))) e)) w.heap.size (grownCap w (len.den+news.length) cap.den e) (Builtin.zeroCells z.cells (grownCap w (len.den+news.length) cap.den e -(len.den+news.length))).toList e (.inr rfl) (by simp) (by simp) (λq hq _=>Go.RowKit.Below.heap_alloc w.drew _ q hq) rfl rfl rfl ?_ (RT _) ?_ hge (by omega) ?_
   ·rw[show w.heap.size=w.drew.heap.size from rfl,heap_alloc_new]
    congr 2
    apply Array.ext';simp
   ·simp only[Array.length_toList,size_zeroCells,Od,<-Nat.add_mul]
    congr 1;omega
   ·rw[iA,hi,Nat.zero_mul];exact hr
end
end Go.bA
end
section
namespace Go.bA
variable [Gl]
mutual
inductive TE:T->T->Prop
 |refl {t:T}:TE t t
 |int {k:IntKind} {n n':Th Int}:n.den=n'.den->TE (.int k n) (.int k n')
 |bool {n n':Th Bool}:n.den=n'.den->TE (.bool n) (.bool n')
 |str {n n':Th ByteArray}:n.den=n'.den->TE (.str n) (.str n')
 |dO {k:Nat} {es es':List (List T)}:lz es es'->TE (.dO k es) (.dO k es')
 |bJ {k:Nat} {f f':Unit->T} {es es':List (List T)}:f ()=.dO k es->f' ()=.dO k es'->lz es es'->TE (.bJ k f) (.bJ k f')
 |Pp {k:Nat} {f f':Unit->T}:f ()=f' ()->TE (.bJ k f) (.bJ k f')
 |jP {k:Nat} {es es':List (List T)} {f:Unit->T}:f ()=.dO k es'->lz es es'->TE (.dO k es) (.bJ k f)
 |Lf {k:Nat} {f:Unit->T}:f ()=.lit (.slice none 0 0)->TE (.lit (.slice none 0 0)) (.bJ k f)
 |Lg {k:Nat} {f:Unit->T}:f ()=.dO k []->TE (.lit (.slice none 0 0)) (.bJ k f)
 |Uk {k:Nat}:TE (.lit (.slice none 0 0)) (.dO k [])
 |Ul {k:Nat} {f:Unit->T}:f ()=.dO k []->TE (.emp k) (.bJ k f)
 |gx {cs cs':List T}:Dq cs cs'->TE (.gx cs) (.gx cs')
inductive Dq:List T->List T->Prop
 |nil:Dq [] []
 |cons {x x':T} {l l':List T}:TE x x'->Dq l l'->Dq (x::l) (x'::l')
inductive lz:List (List T)->List (List T)->Prop
 |nil:lz [] []
 |cons {x x':List T} {l l':List (List T)}:Dq x x'->lz l l'->lz (x::l) (x'::l')
end
omit [Gl]in
theorem Dq.len:∀{l l':List T},Dq l l'->l.length=l'.length
 |_,_,.nil=>rfl
 |_,_,.cons _ h=>by simp[h.len]
omit [Gl]in
theorem lz.len:∀{l l':List (List T)},lz l l'->l.length=l'.length
 |_,_,.nil=>rfl
 |_,_,.cons _ h=>by simp[h.len]
omit [Gl]in
theorem Dq.get:∀{l l':List T},Dq l l'->∀(i:Nat) x x',l[i]?=some x->l'[i]?=some x'->TE x x'
 |_,_,.nil,i,x,x',h,_=>by simp at h
 |_,_,.cons h hs,0,x,x',h1,h2=>by simp at h1 h2;subst h1;subst h2;exact h
 |_,_,.cons h hs,i+1,x,x',h1,h2=>hs.get i x x' (by simpa using h1) (by simpa using h2)
omit [Gl]in
theorem lz.get:∀{l l':List (List T)},lz l l'->∀(i:Nat) x x',l[i]?=some x->l'[i]?=some x'->Dq x x'
 |_,_,.nil,i,x,x',h,_=>by simp at h
 |_,_,.cons h hs,0,x,x',h1,h2=>by simp at h1 h2;subst h1;subst h2;exact h
 |_,_,.cons h hs,i+1,x,x',h1,h2=>hs.get i x x' (by simpa using h1) (by simpa using h2)
omit [Gl]in
theorem Dq.refl:∀(l:List T),Dq l l
 |[]=>.nil
 |_::l=>.cons .refl (Dq.refl l)
omit [Gl]in
theorem lz.refl:∀(l:List (List T)),lz l l
 |[]=>.nil
 |x::l=>.cons (Dq.refl x) (lz.refl l)
omit [Gl]in
theorem lz.of {l l':List (List T)}(h:l=l'):lz l l':=h▸lz.refl l
omit [Gl]in
theorem VT.te {w:World}{O:Nat->Prop}{t:T}{v:Value}(h:VT w O t v):∀{t'},TE t t'->VT w O t' v:=by
 induction h with
 |lit hp=>intro t' h;cases h with
  |refl=>exact .lit hp
  |Lf h=>exact .zM h
  |Lg h=>exact .bJ h (.oO λ_=>rfl)
  |Uk=>exact .oO λ_=>rfl
 |emp=>intro t' h;cases h with
  |refl=>exact .emp
  |Ul h=>exact .bJ h (.oO λ_=>rfl)
 |int=>intro t' h;cases h with
  |refl=>exact .int
  |int h=>rw[h];exact .int
 |bool=>intro t' h;cases h with
  |refl=>exact .bool
  |bool h=>rw[h];exact .bool
 |str=>intro t' h;cases h with
  |refl=>exact .str
  |str h=>rw[h];exact .str
 | @dO k es b off cap c h1 h2 h3 h4 h5 h6 ih=>
  have key:∀es',lz es es'->VT w O (.dO k es') (.slice (some ⟨b,off,none⟩) es.length cap):=by
   intro es' hs;rw[hs.len];have back:∀(i j:Nat) e' x',es'[i]?=some e'->e'[j]?=some x'->∃e x,es[i]?=some e/\e[j]?=some x/\TE x x':=by
    intro i j e' x' h7 h8;have hi:i<es.length:=by rw[hs.len];exact(List.getElem?_eq_some_iff.1 h7).1
    have he:=hs.get i _ e' (List.getElem?_eq_getElem hi) h7;have hj:j<es[i].length:=by rw[he.len];exact(List.getElem?_eq_some_iff.1 h8).1
    exact⟨_,_,List.getElem?_eq_getElem hi,List.getElem?_eq_getElem hj,he.get j _ x' (List.getElem?_eq_getElem hj) h8⟩
   refine .dO c h1 h2 (by rw[<-hs.len];exact h3) (λe' he'=> ?_) (λi j e' x' h7 h8=> ?_) (λi j e' x' h7 h8=> ?_)
   ·obtain⟨i,hi⟩:=List.mem_iff_getElem?.1 he';have Cp:i<es.length:=by rw[hs.len];exact(List.getElem?_eq_some_iff.1 hi).1
    rw[<-(hs.get i _ e' (List.getElem?_eq_getElem Cp) hi).len];exact h4 _ (List.getElem_mem _)
   ·obtain⟨e,x,g1,g2,_⟩:=back i j e' x' h7 h8;exact h5 i j e x g1 g2
   ·obtain⟨e,x,g1,g2,g3⟩:=back i j e' x' h7 h8;exact ih i j e x g1 g2 g3
  intro t' h
  cases h with
  |refl=>exact key es (lz.refl es)
  |dO hs=>exact key _ hs
  |jP hf hs=>exact .bJ hf (key _ hs)
 | @oO k a cap h0=>
  intro t' h
  cases h with
  |refl=>exact .oO h0
  |dO hs=>cases hs;exact .oO h0
  |jP hf hs=>cases hs;exact .bJ hf (.oO h0)
 |bJ h1 h2 ih=>
  intro t' h
  cases h with
  |refl=>exact .bJ h1 h2
  |Pp h=>exact .bJ (h▸h1) h2
  |bJ g1 g2 hs=>
   rw[h1]at g1;cases g1;exact .bJ g2 (ih (.dO hs))
 |zM h1=>
  intro t' h
  cases h with
  |refl=>exact .zM h1
  |Pp h=>exact .zM (h▸h1)
  |bJ g1 g2 hs=>rw[h1]at g1;cases g1
 | @gx cs0 b off c h1 h2 h3 h4 ih=>
  intro t' h
  cases h with
  |refl=>exact .gx c h1 h2 h3 h4
  | @gx _ cs' hs=>
   have back:∀(j:Nat) x',cs'[j]?=some x'->∃x,cs0[j]?=some x/\TE x x':=λj x' h8=>by
    have hj:=(List.getElem?_eq_some_iff.1 h8).1;rw[<-hs.len]at hj;exact⟨_,List.getElem?_eq_getElem hj,hs.get j _ x' (List.getElem?_eq_getElem hj) h8⟩
   refine .gx c h1 h2 (λj x' hx=> ?_) (λj x' hx=> ?_)
   ·obtain⟨x,g1,_⟩:=back j x' hx;exact h3 j x g1
   ·obtain⟨x,g1,g2⟩:=back j x' hx;exact ih j x g1 g2
inductive RV (base:Nat)(π:List Nat)(o:List AO):AV->AV->Prop where
 |bB {x:AV}:RV base π o x .bB
 |pure {x:AV}:i9 x=true->RV base π o x x
 |c {t t':T}:TE t t'->RV base π o (.c t) (.c t')
 |ref {p q off:Nat}:nth π q=some p->RV base π o (.ref p off) (.ref (base+q) off)
 |eZ {p q k off:Nat} {i i':Th Nat}:nth π q=some p->i.den=i'.den->RV base π o (.eZ p k i off) (.eZ (base+q) k i' off)
 |sl {p q k:Nat} {i len cap i' len' cap':Th Nat}:nth π q=some p->i.den=i'.den->len.den=len'.den->cap.den=cap'.den->RV base π o (.sl p k i len cap) (.sl (base+q) k i' len' cap')
 |mp {p q:Nat}:nth π q=some p->RV base π o (.mp p) (.mp (base+q))
 |o6 {p q k:Nat} {i len cap:Th Nat}:nth π q=some p->nth o p=none->len.den=0->cap.den=0->RV base π o (.c (.lit (.slice none 0 0))) (.sl (base+q) k i len cap)
 |fz {n k:Nat} {i len cap:Th Nat} {es:Th (List (List AV))} {sz:Th Nat} (rows:List (List T)) (r:List (List T)):nth o n=some (.arr k es sz)->π.contains n=false->es.den=rows.map (λe=>e.map AV.c)->i.den+len.den<=rows.length->
  lz ((rows.drop i.den).take len.den) r->RV base π o (.sl n k i len cap) (.c (.dO k r))
 |B5 {n k:Nat} {i len cap:Th Nat} {es:Th (List (List AV))} {sz:Th Nat} (rows:List (List T)) (f:Unit->T):nth o n=some (.arr k es sz)->π.contains n=false->es.den=rows.map (λe=>e.map AV.c)->i.den+len.den<=rows.length->
  TE (.dO k ((rows.drop i.den).take len.den)) (.bJ k f)->RV base π o (.sl n k i len cap) (.c (.bJ k f))
 |fn {f:Fn} {a b a' b':List AV}:a.length=a'.length->b.length=b'.length->(∀(i:Nat) x y,a[i]?=some x->a'[i]?=some y->RV base π o x y)->(∀(i:Nat) x y,b[i]?=some x->b'[i]?=some y->RV base π o x y)->RV base π o (.fn f a b) (.fn f a' b')
 |oN {t:TypeId} {x y:AV}:RV base π o x y->RV base π o (.oN t x) (.oN t y)
 |agg {cs ds:List AV}:cs.length=ds.length->(∀(i:Nat) x y,cs[i]?=some x->ds[i]?=some y->RV base π o x y)->RV base π o (.agg cs) (.agg ds)
 |cI {cs ds:List AV}:cs.length=ds.length->(∀(i:Nat) x y,cs[i]?=some x->ds[i]?=some y->RV base π o x y)->RV base π o (.cI cs) (.cI ds)
omit [Gl]in
theorem RV.int {base:Nat}{π:List Nat}{o:List AO}{k:IntKind}{n n':Th Int}(h:n.den=n'.den):RV base π o (AI k n) (AI k n'):=.c (.int h)
omit [Gl]in
theorem RV.bool {base:Nat}{π:List Nat}{o:List AO}{n n':Th Bool}(h:n.den=n'.den):RV base π o (AB n) (AB n'):=.c (.bool h)
omit [Gl]in
theorem RV.str {base:Nat}{π:List Nat}{o:List AO}{n n':Th ByteArray}(h:n.den=n'.den):RV base π o (AS n) (AS n'):=.c (.str h)
inductive RO (base:Nat)(π:List Nat)(o:List AO):AO->AO->Prop where
 |box {cs ds:List AV}:cs.length=ds.length->(∀(i:Nat) x y,cs[i]?=some x->ds[i]?=some y->RV base π o x y)->RO base π o (.box cs) (.box ds)
 |arr {k:Nat} {es es':Th (List (List AV))} {sz sz':Th Nat}:es.den.length=es'.den.length->(∀(i:Nat) e e',es.den[i]?=some e->es'.den[i]?=some e'->e.length=e'.length/\∀(j:Nat) x y,e[j]?=some x->e'[j]?=some y->RV base π o x y)->sz.den=sz'.den->RO base π o (.arr k es sz) (.arr k es' sz')
 |l9 {k:Nat} {es es':Th (List (List AV))} {sz sz':Th Nat} (n:Nat):es'.den=es.den.take n->(∀e∈es'.den,eA e=true)->sz.den=sz'.den->RO base π o (.arr k es sz) (.arr k es' sz')
 |map {es es':List (AV×AV)}:es.length=es'.length->(∀(i:Nat) x y,es[i]?=some x->es'[i]?=some y->RV base π o x.1 y.1/\RV base π o x.2 y.2)->RO base π o (.map es) (.map es')
 |tJ {s s':Th ByteArray} {p p':Th Nat}:s.den=s'.den->p.den=p'.den->RO base π o (.tJ s p) (.tJ s' p')
 |jq {kk:IntKind} {ag:Bool} {es es':Th (List (Int×List T))}:es.den=es'.den->RO base π o (.jq kk ag es) (.jq kk ag es')
 |MD {kk:IntKind} {ag:Bool} {es':Th (List (Int×List T))}:es'.den=[]->RO base π o (.map []) (.jq kk ag es')
 |mV {kk:IntKind} {ag:Bool} {l l':Th (List (Int×List T))} {c c':Th (Option (Int×List T))}:l.den=l'.den->(c'.den=c.den\/c'.den=none)->RO base π o (.mV kk ag l c) (.mV kk ag l' c')
 |dead:RO base π o .dead .dead
omit [Gl]in
theorem RO.fY {base:Nat}{π:List Nat}{o:List AO}{k:Nat}{es es':Th (List (List AV))}{sz sz':Th Nat}(h:es.den=es'.den)(hp:∀e∈es.den,eA e=true)(hs:sz.den=sz'.den):RO base π o (.arr k es sz) (.arr k es' sz'):=by
 refine .arr (by rw[h]) (λi e e' h1 h2=> ?_) hs;rw[<-h,h1]at h2;cases h2;refine⟨rfl,λj x y h3 h4=> ?_⟩;rw[h3]at h4;cases h4;exact .pure (fQ (hp e (List.mem_of_getElem? h1)) j x h3)
inductive gj (base:Nat)(π:List Nat)(o:List AO):List AV->List AV->Prop where
 |nil:gj base π o [] []
 |cons {x y:AV} {xs ys:List AV}:RV base π o x y->gj base π o xs ys->gj base π o (x::xs) (y::ys)
omit [Gl]in
theorem gj.len {base:Nat}{π:List Nat}{o:List AO}{xs ys:List AV}(h:gj base π o xs ys):xs.length=ys.length:=by induction h<;>simp[*]
omit [Gl]in
theorem gj.get {base:Nat}{π:List Nat}{o:List AO}{xs ys:List AV}(h:gj base π o xs ys):∀(i:Nat) x y,xs[i]?=some x->ys[i]?=some y->RV base π o x y:=by
 induction h with
 |nil=>intro i x y h;simp at h
 |cons h _ ih=>
  intro i x y h1 h2
  cases i with
  |zero=>simp at h1 h2;subst h1;subst h2;exact h
  |succ i=>exact ih i x y (by simpa using h1) (by simpa using h2)
omit [Gl]in
theorem RV.eJ {base:Nat}{π:List Nat}{o:List AO}{xs ys:List AV}(h:gj base π o xs ys):RV base π o (.agg xs) (.agg ys):=.agg h.len h.get
omit [Gl]in
theorem RV.cA {base:Nat}{π:List Nat}{o:List AO}{xs ys:List AV}(h:gj base π o xs ys):RV base π o (.cI xs) (.cI ys):=.cI h.len h.get
omit [Gl]in
theorem RO.aN {base:Nat}{π:List Nat}{o:List AO}{xs ys:List AV}(h:gj base π o xs ys):RO base π o (.box xs) (.box ys):=.box h.len h.get
inductive kS (base:Nat)(GQ:List Nat)(o:List AO):List Nat->List AO->Prop where
 |nil:kS base GQ o [] []
 |cons {p:Nat} {π:List Nat} {x y:AO} {ys:List AO}:nth o p=some x->RO base GQ o x y->kS base GQ o π ys->kS base GQ o (p::π) (y::ys)
 |kill {p:Nat} {π:List Nat} {y:AO} {ys:List AO}:nth o p=none->gone y->kS base GQ o π ys->kS base GQ o (p::π) (y::ys)
omit [Gl]in
theorem kS.len {base:Nat}{GQ:List Nat}{o:List AO}{π:List Nat}{ys:List AO}(h:kS base GQ o π ys):π.length=ys.length:=by induction h<;>simp[*]
omit [Gl]in
theorem kS.get {base:Nat}{GQ:List Nat}{o:List AO}{π:List Nat}{ys:List AO}(h:kS base GQ o π ys):∀(q p:Nat),π[q]?=some p->(∃x y,o[p]?=some x/\ys[q]?=some y/\RO base GQ o x y)\/(o[p]?=none/\∃y,ys[q]?=some y/\gone y):=by
 induction h with
 |nil=>intro q p h;simp at h
 |cons h1 h2 _ ih=>
  intro q p h
  cases q with
  |zero=>simp at h;subst h;exact .inl ⟨_,_,by rw[<-cq];exact h1,rfl,h2⟩
  |succ q=>exact ih q p (by simpa using h)
 |kill h1 h2 _ ih=>
  intro q p h
  cases q with
  |zero=>simp at h;subst h;exact .inr ⟨by rw[<-cq];exact h1,_,rfl,h2⟩
  |succ q=>exact ih q p (by simpa using h)
section
variable{w:World}{F F':Nat->Prop}{μ bu:Mu}{o:List AO}{base:Nat}{π:List Nat}
theorem RV.sound (hs:St w F μ o)(hsub:∀b,own F' bu b->own F μ b)(hpos:∀q p:Nat,π[q]?=some p->∀z,μ[p]?=some z->bu[base+q]?=some z)(hnone:∀q p:Nat,π[q]?=some p->μ[p]?=none->bu[base+q]?=some none)(hfree:∀n:Nat,π.contains n=false->∀b,μ[n]?=some (some b)->¬own F' bu b)
  {x y:AV} (h:RV base π o x y):∀{v},VR w F μ x v->VR w F' bu y v:=by
 have ht:∀t v,VT w (own F μ) t v->VT w (own F' bu) t v:=λt v ht=>ht.mono (Nat.le_refl _) (λ_ _ _=>rfl) (λb _ hn hO=>hn (hsub b hO))
 induction h with
 |bB=>intro v _;exact .bB
 |pure h=>intro v hv;exact hv.pure ht h
 |c h=>intro v hv;cases hv with|c hv=>exact .c ((ht _ _ hv).te h)
 |ref h=>
  intro v hv;rw[cq]at h
  cases hv with
  |ref h1=>exact .ref (hpos _ _ h _ h1)
  |oo h1=>exact .oo (hpos _ _ h _ h1)
 |eZ h hi=>
  intro v hv;rw[cq]at h
  cases hv with
  |eZ h1=>rw[hi];exact .eZ (hpos _ _ h _ h1)
  |iY h1=>exact .iY (hpos _ _ h _ h1)
 |sl h hi hl hc=>
  intro v hv;rw[cq]at h
  cases hv with
  |sl h1 h2 h3=>rw[hi,hl,hc];exact .sl (hpos _ _ h _ h1) (by rw[<-hl,<-hc];exact h2) (by rw[<-hc];exact h3)
  |wj h1 h2 h3 h4=>rw[hl,hc];exact .wj (hpos _ _ h _ h1) (by rw[<-hl,<-hc];exact h2) (by rw[<-hc];exact h3) (by rw[<-hc];exact h4)
 |mp h=>
  intro v hv;rw[cq]at h
  cases hv with
  |mp h1=>exact .mp (hpos _ _ h _ h1)
  |D3 h1 h2=>exact .D3 (hpos _ _ h _ h1) h2
 | @o6 p q k i len cap h1 h2 h3 h4=>
  intro v hv;rw[cq]at h1 h2;have hm:μ[p]?=none:=by rw[List.getElem?_eq_none_iff]at h2⊢;rw[hs.len];exact h2
  have iA:v=.slice none 0 0:=by cases hv with|c hv=>cases hv;rfl
  rw[iA];have:=VR.wj (w:=w) (F:=F') (k:=k) (i:=i) (len:=len) (cap:=cap) (a:=none) (hnone _ _ h1 hm) (by rw[h3];exact Nat.zero_le _) (by rw[h4];exact Nat.zero_le _) (λ_=>h4);rw[h3,h4]at this;exact this
 |fz rows r h1 h2 h3 h4 h5=>intro v hv;exact .c ((l8 hs (λb _ h=>hsub b h) (hfree _ h2) h1 h3 h4 hv).te (.dO h5))
 |B5 rows f h1 h2 h3 h4 h5=>intro v hv;exact .c ((l8 hs (λb _ h=>hsub b h) (hfree _ h2) h1 h3 h4 hv).te h5)
 |fn l1 l2 _ _ i1 i2=>
  intro v hv
  cases hv with
  |fn a1 a2 a3 a4=>
   refine .fn (by rw[a1,l1]) (by rw[a2,l2]) (λi y v hy hv=> ?_) (λi y v hy hv=> ?_)
   ·have hlt:=(List.getElem?_eq_some_iff.1 hy).1;exact i1 i _ y (List.getElem?_eq_getElem (l1▸hlt)) hy (a3 i _ v (List.getElem?_eq_getElem (l1▸hlt)) hv)
   ·have hlt:=(List.getElem?_eq_some_iff.1 hy).1;exact i2 i _ y (List.getElem?_eq_getElem (l2▸hlt)) hy (a4 i _ v (List.getElem?_eq_getElem (l2▸hlt)) hv)
 |oN _ ih=>intro v hv;cases hv with|oN h=>exact .oN (ih h)
 |agg h1 _ ih=>
  intro v hv
  cases hv with
  |agg a1 a2 a3=>
   refine .agg (by rw[a1,h1]) (λi y v hy hv=> ?_) a3;have hlt:=(List.getElem?_eq_some_iff.1 hy).1;exact ih i _ y (List.getElem?_eq_getElem (h1▸hlt)) hy (a2 i _ v (List.getElem?_eq_getElem (h1▸hlt)) hv)
 |cI h1 _ ih=>
  intro v hv
  cases hv with
  |cI a1 a2=>
   refine .cI (by rw[a1,h1]) (λi y v hy hv=> ?_);have hlt:=(List.getElem?_eq_some_iff.1 hy).1;exact ih i _ y (List.getElem?_eq_getElem (h1▸hlt)) hy (a2 i _ v (List.getElem?_eq_getElem (h1▸hlt)) hv)
omit [Gl]in
theorem RO.sound (IQ:∀x y v,RV base π o x y->VR w F μ x v->VR w F' bu y v)(hsub:∀b,own F' bu b->own F μ b){b:Nat}{x y:AO}(h:RO base π o x y)(hb:OB w F μ b x):OB w F' bu b y:=by
 cases h with
 |box h1 h2=>
  cases hb with
  |box ct e a1 a2 a3=>
   refine .box ct e a1 (by rw[a2,h1]) λi y v hy hv=> ?_;have hlt:=(List.getElem?_eq_some_iff.1 hy).1;have:=a3 i _ v (List.getElem?_eq_getElem (h1▸hlt)) hv;exact⟨IQ _ _ _ (h2 i _ y (List.getElem?_eq_getElem (h1▸hlt)) hy) this.1,this.2⟩
 | @arr k es es' sz sz' h1 h2 h3=>
  cases hb with
  |arr ct e a1 a2 a3 a4 a6 a5=>
   refine .arr ct e a1 (by rw[a2,h3]) (by rw[<-h1,<-h3];exact a3) (λe' he'=> ?_) a6 λi j e' y v h4 h5 h6=> ?_
   ·obtain⟨i,hi,rfl⟩:=List.getElem_of_mem he';have:=h2 i _ _ (List.getElem?_eq_getElem (h1▸hi)) (List.getElem?_eq_getElem hi);rw[<-this.1];exact a4 _ (List.getElem_mem _)
   ·have hi:=(List.getElem?_eq_some_iff.1 h4).1;have h7:=h2 i _ _ (List.getElem?_eq_getElem (h1▸hi)) h4;have hj:=(List.getElem?_eq_some_iff.1 h5).1;have h8:=a5 i j _ _ v (List.getElem?_eq_getElem (h1▸hi)) (List.getElem?_eq_getElem (h7.1▸hj)) h6;exact⟨IQ _ _ _ (h7.2 j _ y (List.getElem?_eq_getElem (h7.1▸hj)) h5) h8.1,h8.2⟩
 |l9 n h1 h2 h3=>
  cases hb with
  |arr ct e a1 a2 a3 a4 a6 a5=>
   refine .arr ct e a1 (by rw[a2,h3]) ?_ (λe' he'=>a4 e' (by rw[h1]at he';exact List.mem_of_mem_take he')) a6 λi j e' y v h4 h5 h6=> ?_
   ·rw[<-h3,h1];exact Nat.le_trans (Nat.mul_le_mul_right _ (by simp;omega)) a3
   ·have hp:=fQ (h2 e' (List.mem_of_getElem? h4)) j y h5;rw[h1,List.getElem?_take]at h4;split at h4
    ·have h8:=a5 i j e' y v h4 h5 h6;exact⟨IQ _ _ _ (.pure hp) h8.1,h8.2⟩
    ·cases h4
 |map h1 h2=>
  cases hb with
  |map bM clock a1 a2 a3=>
   refine .map bM clock a1 (by rw[a2,h1]) λi y v hy hv=> ?_;have hlt:=(List.getElem?_eq_some_iff.1 hy).1;have:=a3 i _ v (List.getElem?_eq_getElem (h1▸hlt)) hv;have h3:=h2 i _ y (List.getElem?_eq_getElem (h1▸hlt)) hy;exact⟨IQ _ _ _ h3.1 this.1,IQ _ _ _ h3.2 this.2⟩
 |tJ h1 h2=>
  cases hb with
  |tJ a1=>exact .tJ (by rw[<-h1,<-h2];exact a1)
 |jq h1=>
  have RU:∀t v,VT w (own F μ) t v->VT w (own F' bu) t v:=λt v h=>by
   have:=IQ (.c t) (.c t) v (.c .refl) (.c h);cases this with|c h=>exact h
  cases hb with
  |jq bM clock a1 a2 a3 a4=>exact .jq bM clock a1 (by rw[<-h1];exact a2.imp RU) a3 a4
 |MD h1=>
  cases hb with
  |map bM clock a1 a2 a3=>
   have:bM= #[]:=Array.eq_empty_of_size_eq_zero a2;subst this;exact .jq #[] clock a1 (by rw[h1];exact⟨rfl,λi p v h=>by simp at h⟩) (λe h=>by simp at h) (by simp)
 |mV h1 h2=>
  have RU:∀t v,VT w (own F μ) t v->VT w (own F' bu) t v:=λt v h=>by
   have:=IQ (.c t) (.c t) v (.c .refl) (.c h);cases this with|c h=>exact h
  cases hb with
  |mV bm since last seen bM clock a1 a2 a3 a4 a5 a6 a7 a8 a9 Pq=>
   refine .mV bm since last seen bM clock a1 a2 (λh=>a3 (hsub _ h)) a4 a5 a6 a7 a8 (by rw[<-h1];exact a9.imp RU) (λp hp=> ?_);rcases h2 with h2|h2
   ·obtain⟨e,b1,b2,b3,b4,b5⟩:=Pq p (h2.symm.trans hp);exact⟨e,b1,b2,b3,b4,b5.imp RU⟩
   ·rw[h2]at hp;cases hp
 |dead=>cases hb
end
def dL (μ:Mu)(π:List Nat):Mu:=π.map λp=>match μ[p]? with|some x=>x|none=>none
omit [Gl]in
theorem rz {μ:Mu}{π:List Nat}{q p:Nat}(hq:π[q]?=some p){z:Option Nat}(hz:μ[p]?=some z):(dL μ π)[q]?=some z:=by
 unfold dL;rw[List.getElem?_map,hq,Option.map_some,hz]
omit [Gl]in
theorem uL {μ:Mu}{π:List Nat}{q:Nat}{x:Option Nat}(hq:(dL μ π)[q]?=some x):∃p,π[q]?=some p/\(μ[p]?=some x\/(μ[p]?=none/\x=none)):=by
 have hlt:q<π.length:=by
  have:=(List.getElem?_eq_some_iff.1 hq).1;simpa[dL]using this
 refine⟨_,List.getElem?_eq_getElem hlt, ?_⟩;unfold dL at hq;rw[List.getElem?_map,List.getElem?_eq_getElem hlt,Option.map_some]at hq
 cases hm:μ[π[q]]? with
 |none=>rw[hm]at hq;simp at hq;exact .inr ⟨rfl,hq.symm⟩
 |some z=>rw[hm]at hq;simp at hq;exact .inl (by rw[hq])
omit [Gl]in
theorem o7 {μ:Mu}{π:List Nat}{q b:Nat}(hq:(dL μ π)[q]?=some (some b)):∃p,π[q]?=some p/\μ[p]?=some (some b):=by
 obtain⟨p,h1,h2|⟨_,h2⟩⟩:=uL hq
 ·exact⟨p,h1,h2⟩
 ·cases h2
def distinct:List Nat->Bool
 |[]=>true
 |p::l=>match l.contains p with|true=>false|false=>distinct l
omit [Gl]in
theorem jy:∀{l:List Nat},distinct l=true->∀(i j p:Nat),l[i]?=some p->l[j]?=some p->i=j
 |[],_,i,j,p,h,_=>by simp at h
 |a::l,h,i,j,p,h1,h2=>by
  simp only[distinct]at h;split at h
  ·cases h
  ·rename_i hc;have hn:a∉l:=by simpa using hc
   cases i with
   |zero=>
    cases j with
    |zero=>rfl
    |succ j=>simp at h1 h2;subst h1;exact(hn (List.mem_of_getElem? h2)).elim
   |succ i=>
    cases j with
    |zero=>simp at h1 h2;subst h2;exact(hn (List.mem_of_getElem? h1)).elim
    |succ j=>rw[jy h i j p (by simpa using h1) (by simpa using h2)]
theorem St.rename {w0 w:World}{F F1:Nat->Prop}{jE μ:Mu}{ob o o':List AO}(h0:St w0 F jE ob)(hsz:w0.heap.size<=w.heap.size)(hF:∀b,F1 b↔own F jE b)(hs:St w F1 μ o){π:List Nat}(hr:kS (bS ob) π o π o')(hn:distinct π=true)
  (hold:(∀b,some b∈dL μ π->some b∈μ)->∀(q b:Nat),jE[q]?=some (some b)->∃x,ob[q]?=some x/\OB w F (jE++dL μ π) b x):
  St w F (jE++dL μ π) (ob++o')/\(∀b,some b∈dL μ π->some b∈μ)/\∀x y v,RV (bS ob) π o x y->VR w F1 μ x v->VR w F (jE++dL μ π) y v:=by
 have hsel:∀b,some b∈dL μ π->some b∈μ:=by
  intro b hb;obtain⟨q,hq⟩:=List.mem_iff_getElem?.1 hb;obtain⟨p,_,hp⟩:=o7 hq;exact List.mem_of_getElem? hp
 have hl:bS ob=jE.length:=by rw[bQ,h0.len]
 have hsub:∀b,own F (jE++dL μ π) b->own F1 μ b:=by
  rintro b (h|h)
  ·rcases List.mem_append.1 h with h|h
   ·exact .inr ((hF b).2 (.inl h))
   ·exact .inl (hsel b h)
  ·exact .inr ((hF b).2 (.inr h))
 have hpos:∀q p:Nat,π[q]?=some p->∀z,μ[p]?=some z->(jE++dL μ π)[bS ob+q]?=some z:=by
  intro q p hq z hz;rw[hl,List.getElem?_append_right (by omega),Nat.add_sub_cancel_left];exact rz hq hz
 have hnone:∀q p:Nat,π[q]?=some p->μ[p]?=none->(jE++dL μ π)[bS ob+q]?=some none:=by
  intro q p hq hz;rw[hl,List.getElem?_append_right (by omega),Nat.add_sub_cancel_left];unfold dL;rw[List.getElem?_map,hq,Option.map_some,hz]
 have hfree:∀n:Nat,π.contains n=false->∀b,μ[n]?=some (some b)->¬own F (jE++dL μ π) b:=by
  rintro n hc b hb (h|h)
  ·rcases List.mem_append.1 h with h|h
   ·exact(hs.frame b ((hF b).2 (.inl h))).2 (List.mem_of_getElem? hb)
   ·obtain⟨q,hq⟩:=List.mem_iff_getElem?.1 h;obtain⟨p,gM,BC⟩:=o7 hq;have:=hs.inj p n b BC hb;subst this;have hm:=List.mem_of_getElem? gM;simp[hm]at hc
  ·exact(hs.frame b ((hF b).2 (.inr h))).2 (List.mem_of_getElem? hb)
 have IQ:∀x y v,RV (bS ob) π o x y->VR w F1 μ x v->VR w F (jE++dL μ π) y v:=λx y v h hv=>h.sound hs hsub hpos hnone hfree hv;have split:∀(q:Nat)(b:Nat),(jE++dL μ π)[q]?=some (some b)->(q<jE.length/\jE[q]?=some (some b))\/(jE.length<=q/\∃p,π[q -jE.length]?=some p/\μ[p]?=some (some b)):=by
  intro q x h;rcases Nat.lt_or_ge q jE.length with h1|h1
  ·rw[List.getElem?_append_left h1]at h;exact .inl ⟨h1,h⟩
  ·rw[List.getElem?_append_right h1]at h;exact .inr ⟨h1,o7 h⟩
 refine⟨⟨?_, ?_, ?_, ?_, ?_, ?_,hs.gl.sub λb _ h=>hsub b h⟩,hsel,IQ⟩
 ·simp[dL,h0.len,hr.len]
 ·intro q q' b h1 h2;rcases split q _ h1 with⟨a1,a2⟩|⟨a1,p,a2,a3⟩<;>rcases split q' _ h2 with⟨b1,b2⟩|⟨b1,p',b2,b3⟩
  ·exact h0.inj q q' b a2 b2
  ·exact((hs.frame b ((hF b).2 (.inl (List.mem_of_getElem? a2)))).2 (List.mem_of_getElem? b3)).elim
  ·exact((hs.frame b ((hF b).2 (.inl (List.mem_of_getElem? b2)))).2 (List.mem_of_getElem? a3)).elim
  ·have:=hs.inj p p' b a3 b3;subst this;have:=jy hn _ _ p a2 b2;omega
 ·intro q b h;rcases split q _ h with⟨a1,a2⟩|⟨a1,p,a2,a3⟩
  ·exact Nat.lt_of_lt_of_le (h0.lt q b a2) hsz
  ·exact hs.lt p b a3
 ·intro q h;rcases Nat.lt_or_ge q jE.length with a1|a1
  ·rw[List.getElem?_append_left a1]at h;obtain⟨x,g1,g2⟩:=h0.dead q h;exact⟨x,by rw[List.getElem?_append_left (by rw[<-h0.len];exact a1)];exact g1,g2⟩
  ·rw[List.getElem?_append_right a1]at h;obtain⟨p,a2,a3⟩:=uL h;rcases hr.get _ p a2 with⟨x,y,g1,g2,g3⟩|⟨g1,g2⟩
   ·rcases a3 with a3|⟨a3,_⟩
    ·obtain⟨x',k1,k2⟩:=hs.dead p a3;rw[g1]at k1;cases k1;refine⟨y,by rw[List.getElem?_append_right (by rw[<-h0.len];exact a1),<-h0.len];exact g2, ?_⟩
     cases g3 with
     |box=>exact k2.elim
     |map=>exact k2.elim
     |tJ=>exact k2.elim
     |l9 n e1 _ e3=>exact⟨by rw[e1,k2.1];simp,by rw[<-e3];exact k2.2⟩
     |jq=>exact k2.elim
     |MD=>exact k2.elim
     |mV=>exact k2.elim
     |dead=>trivial
     |arr e1 _ e3=>exact⟨List.eq_nil_of_length_eq_zero (by rw[<-e1,k2.1];rfl),by rw[<-e3];exact k2.2⟩
    ·have:=(List.getElem?_eq_some_iff.1 g1).1;rw[List.getElem?_eq_none_iff,hs.len]at a3;omega
   ·obtain⟨y,g2,g3⟩:=g2;exact⟨y,by rw[List.getElem?_append_right (by rw[<-h0.len];exact a1),<-h0.len];exact g2,g3⟩
 ·intro b hb;refine⟨Nat.lt_of_lt_of_le (h0.frame b hb).1 hsz,λh=> ?_⟩;rcases List.mem_append.1 h with h|h
  ·exact(h0.frame b hb).2 h
  ·exact(hs.frame b ((hF b).2 (.inr hb))).2 (hsel b h)
 ·intro q b h;rcases split q _ h with⟨a1,a2⟩|⟨a1,p,a2,a3⟩
  ·obtain⟨x,g1,g2⟩:=hold hsel q b a2;exact⟨x,by rw[List.getElem?_append_left (by rw[<-h0.len];exact a1)];exact g1,g2⟩
  ·obtain⟨x,g1,g2⟩:=hs.live p b a3;rcases hr.get _ p a2 with⟨x',y,k1,k2,k3⟩|⟨k1,_⟩
   ·rw[g1]at k1;cases k1;exact⟨y,by rw[List.getElem?_append_right (by rw[<-h0.len];exact a1),<-h0.len];exact k2,k3.sound IQ hsub g2⟩
   ·rw[g1]at k1;cases k1
def keeps (n:Nat):Nat->Nat->List Nat->Bool
 |0,_,_=>true
 |_+1,_,[]=>false
 |m+1,i,p::π=>match p==i||Nat.ble n p with|true=>keeps n m (i+1) π|false=>false
omit [Gl]in
theorem o8 {n:Nat}:∀{m i:Nat}{π:List Nat},keeps n m i π=true->∀q,q<m->∃p,π[q]?=some p/\(p=i+q\/n<=p)
 |0,_,_,_,q,h=>by omega
 |m+1,i,[],h,_,_=>by simp[keeps]at h
 |m+1,i,p::π,h,q,hq=>by
  simp only[keeps]at h;split at h
  ·rename_i hp;simp only[Bool.or_eq_true,beq_iff_eq,Nat.ble_eq]at hp
   cases q with
   |zero=>exact⟨p,rfl,by simpa using hp⟩
   |succ q=>
    obtain⟨p',h1,h2⟩:=o8 h q (by omega);exact⟨p',by rw[List.getElem?_cons_succ];exact h1,by omega⟩
  ·cases h
structure dj (m:Nat)(e:List AV)(o:List AO)(e':List AV)(o':List AO):Prop where
 run:∀(w:World)(F:Nat->Prop)(μ:Mu)(tmps:Array Value),m<=μ.length->FR w F μ e tmps->St w F μ o->∃bu,FR w F bu e' tmps/\St w F bu o'/\pO m w μ w bu
theorem dj.of {m:Nat}{e e':List AV}{o o':List AO}(π:List Nat)(hk:keeps (bS o) m 0 π=true)(hd:distinct π=true)(he:gj 0 π o e e')(ho:kS 0 π o π o'):dj m e o e' o':=by
  refine⟨λw F μ tmps hm hf hs=> ?_⟩;have h0:St w F [] []:=
    {len:=rfl,inj:=λo o' b h=>by simp at h,lt:=λo b h=>by simp at h,dead:=λo h=>by simp at h,frame:=λb h=>⟨(hs.frame b h).1,by simp⟩,live:=λo b h=>by simp at h,gl:=hs.gl.sub λb _ h=>h.elim (λh=>by simp at h) .inr}
  obtain⟨h1,h2,h3⟩:=St.rename (π:=π) h0 (Nat.le_refl _) (λb=>⟨λh=>.inr h,λh=>by
    rcases h with h|h
    · simp at h
    · exact h⟩) hs ho hd (λ_ q b h=>by simp at h)
  simp only[List.nil_append]at h1 h3;refine⟨dL μ π,⟨by rw[hf.1,he.len],λi y v hy hv=> ?_⟩,h1, ?_⟩
  · have hlt:=(List.getElem?_eq_some_iff.1 hy).1
    exact h3 _ y v (he.get i _ y (List.getElem?_eq_getElem (he.len▸hlt)) hy) (hf.2 i _ v (List.getElem?_eq_getElem (he.len▸hlt)) hv)
  · have hsame:∀(q:Nat),q<m->(∀z,μ[q]?=some z->(dL μ π)[q]?=some z)\/(dL μ π)[q]?=some none:=by
      intro q hq;obtain⟨p,h4,h5⟩:=o8 hk q hq;rw[Nat.zero_add]at h5;rcases h5 with h5|h5
      · subst h5;exact .inl λz hz=>rz h4 hz
      · right
        have:μ[p]?=none:=by rw[List.getElem?_eq_none_iff,hs.len,<-bQ];exact h5
        unfold dL;rw[List.getElem?_map,h4,Option.map_some,this]
    exact { os:=rfl,tape:=rfl,output:=rfl,size:=Nat.le_refl _,ct:=λ_ _ _=>rfl
            len:=by
              rcases Nat.eq_zero_or_pos m with h|h
              · omega
              · obtain⟨p,h4,_⟩:=o8 hk (m -1) (by omega)
                have:=(List.getElem?_eq_some_iff.1 h4).1;simp[dL];omega
            keep:=λq b hq h=>by
              rcases hsame q hq with h4|h4
              · exact .inl (h4 _ h)
              · exact .inr h4
            dead:=λq hq h=>by
              rcases hsame q hq with h4|h4
              · exact h4 _ h
              · exact h4
            own:=λb h=>.inl (h2 b h)}
section
variable{P:Program}{δ:Nat->Option TD}
theorem aV.frame {f:FuncId}{args:List AV}{K0 K:AV->List AO->Prop}{ob:List AO}(h:aV P f args [] K0)(hp:eA args=true)(hk:∀x o,K0 x o->∃π y o',distinct π=true/\RV (bS ob) π o x y/\kS (bS ob) π o π o'/\K y (e_ ob o')):aV P f args ob K:=by
 refine⟨λw F μ bD hv hs=> ?_⟩;have mJ:ua w (own F μ) [] args bD.toList:=⟨hv.1,λi x v hx hu=>(hv.2 i x v hx hu).pure (λt v ht=>ht.mono (Nat.le_refl _) (λ_ _ _=>rfl) (λb _ hn ho=>hn (by
  rcases ho with ho|ho
  ·simp at ho
  ·exact ho))) (fQ hp i x hx)⟩
 have hr:=h.run w (own F μ) [] bD mJ hs.bare;have post:∀e w',(∃v x cc bu,e=Ending.returned v/\VR w' (own F μ) bu x v/\St w' (own F μ) bu cc/\Ext w [] w' bu/\K0 x cc)->∃v x cc bu,e=Ending.returned v/\VR w' F bu x v/\St w' F bu cc/\Ext w μ w' bu/\K x cc:=by
  intro e w' ⟨v,x,o,bu,g1,g2,g3,g4,g5⟩;obtain⟨π,y,o',k1,k2,k3,k4⟩:=hk x o g5;have hx:(∀b,some b∈dL bu π->some b∈bu)->Ext w μ w' (μ++dL bu π):=λhsel=>
   {os:=g4.os,tape:=g4.tape,output:=g4.output,size:=g4.size,ct:=λb hb _=>g4.ct b hb (by simp),len:=by simp
    keep:=λq b hq=>.inl (by rw[List.getElem?_append_left (List.getElem?_eq_some_iff.1 hq).1];exact hq)
    dead:=λq hq=>by rw[List.getElem?_append_left (List.getElem?_eq_some_iff.1 hq).1];exact hq
    own:=λb hb=>by
     rcases List.mem_append.1 hb with h|h
     ·exact .inl h
     ·rcases g4.own b (hsel b h)with h|h
      ·simp at h
      ·exact .inr h}
  obtain⟨r1,r2,r3⟩:=St.rename hs g4.size (λb=>Iff.rfl) g3 k3 k1 (λhsel q b hq=>by
   obtain⟨z,z1,z2⟩:=hs.live q b hq;exact⟨z,z1,z2.ext (hx hsel) (g4.ct b (hs.lt q b hq) (by simp))⟩)
  rw[dg]at k4;exact⟨v,y,ob++o',μ++dL bu π,g1,r3 x y v k2 g2,r1,hx r2,k4⟩
 unfold jK at hr⊢;split at hr
 ·obtain⟨h1,h2,h3,h4⟩:=hr;exact⟨h1,h2,h3,h4.mono post⟩
 ·exact post _ _ hr
 ·exact hr.elim
theorem aV.args {f:FuncId}{args args':List AV}{K:AV->List AO->Prop}{ob:List AO}(h:aV P f args' ob K)(ha:∀w F μ vs,ua w F μ args vs->ua w F μ args' vs):aV P f args ob K:=
 ⟨λw F μ bD hv hs=>h.run w F μ bD (ha _ _ _ _ hv) hs⟩
end
end Go.bA
end
section
namespace Go.bA
variable [Gl]
section
variable{P:Program}{δ:Nat->Option TD}
def nj (J:List AV->List AO->Prop)(Q:AE->List AV->List AO->Prop):AE->List AV->List AO->Prop:=λx e o=>match x with
 | .normal=>J e o
 |x=>Q x e o
def GR (P:Program)(δ:Nat->Option TD)(m:Nat)(c:Code)(Q:AE->List AV->List AO->Prop):Nat->List AV->List AO->Prop
 |0,_,_=>False
 |n+1,env,ob=>aw P δ m c env ob (nj (GR P δ m c Q n) Q)
theorem xx (bw:cg P δ){m:Nat}{c:Code}{Q:AE->List AV->List AO->Prop}{w0:World}{F:Nat->Prop}{jE:Mu}{ds:List Deferred}:∀(n:Nat){env:List AV}{ob:List AO}{w:World}{μ:Mu}{a:Act},
  GR P δ m c Q n env ob->pO m w0 jE w μ->a.defers=ds->FR w F μ env a.tmps->St w F μ ob->Code.rounds P c (QC m w0 F jE ds Q) n a w
 |0,_,_,_,_,_,h,_,_,_,_=>h.elim
 |n+1,env,ob,w,μ,a,h,hx,hd,hf,hs=>by
  rw[rounds_succ];refine Code.wp_mono (λe a' w' hq=> ?_) ((gS bw c h).run w F μ a hx.len hf hs)
  cases e with
  |normal=>
   obtain⟨e,o,bu,h1,h2,h3,h4,h5⟩:=hq;exact xx bw n h1 (hx.trans h4) (h5.trans hd) h2 h3
  |exit i=>rw[hd]at hq;exact QC.ext hx hq
  |ret=>rw[hd]at hq;exact QC.ext hx hq
  |goto l=>exact hq.elim
  |panic c=>exact hq.elim
  |outgrown=>exact hq.elim
theorem cu.rounds (bw:cg P δ)(n:Nat){m:Nat}{c:Code}{env:List AV}{ob:List AO}{Q:AE->List AV->List AO->Prop}(h:GR P δ m c Q n env ob):cu P m (.loop c) env ob Q:=
 ⟨λw _ μ _ hm hf hs=>wp_loop_rounds n (xx bw n h ((Ext.refl w μ).IG hm) rfl hf hs)⟩
theorem cu.inv (bw:cg P δ){m:Nat}{c:Code}{env:List AV}{ob:List AO}{Q:AE->List AV->List AO->Prop}(I:Nat->List AV->List AO->Prop)(n₀:Nat)(e₀:List AV)(ME:List AO)(hr:dj m env ob e₀ ME)(h0:I n₀ e₀ ME)
  (round:∀n e o,I n e o->∀J:List AV->List AO->Prop,(∀(k:Nat) e1 o1 e2 o2,k<n->dj m e1 o1 e2 o2->I k e2 o2->J e1 o1)->aw P δ m c e o (nj J Q)):cu P m (.loop c) env ob Q:=by
 refine⟨λw F μ a hm hf hs=> ?_⟩;obtain⟨jw,Pr,Um,hx1⟩:=hr.run w F μ a.tmps hm hf hs;refine wp_loop_ghost (λn a' w'=>∃e o bu,I n e o/\FR w' F bu e a'.tmps/\St w' F bu o/\pO m w μ w' bu/\a'.defers=a.defers) n₀ ⟨e₀,ME,jw,h0,Pr,Um,hx1,rfl⟩ ?_;rintro n a' w' ⟨e,o,bu,hI,hf',hs',hx',hd'⟩;have:=round n e o hI (λe1 o1=>∃k e2 o2,k<n/\dj m e1 o1 e2 o2/\I k e2 o2) (λk e1 o1 e2 o2 h1 h2 h3=>⟨k,e2,o2,h1,h2,h3⟩);refine Code.wp_mono (λx Xm w'' hq=> ?_) ((gS bw c this).run w' F bu a' hx'.len hf' hs')
 cases x with
 |normal=>
  obtain⟨e1,o1,ru,⟨k,e2,o2,h1,h2,h3⟩,h4,h5,h6,h7⟩:=hq;obtain⟨ZY,ZZ,Z0,K9⟩:=h2.run w'' F ru Xm.tmps h6.len h4 h5;exact⟨k,h1,e2,o2,ZY,h3,ZZ,Z0,(hx'.trans h6).trans K9,by rw[h7,hd']⟩
 |exit i=>rw[hd']at hq;exact QC.ext hx' hq
 |ret=>rw[hd']at hq;exact QC.ext hx' hq
 |goto l=>exact hq.elim
 |panic c=>exact hq.elim
 |outgrown=>exact hq.elim
end
end Go.bA
end
section
namespace Go.bA
variable [Gl]
open Go.RowKit Go.ChangeShapes Go.WideShapes Go.ChangeAt
mutual
inductive Fit (δ:Nat->Option TD):Nat->List T->Prop
 |bool {t:Nat} {d:TD} (b:Bool):δ t=some d->d.sh=.bool->Fit δ t [.bool (.th λ_=>b)]
 |int {t:Nat} {d:TD} {k:IntKind} (n:Int):δ t=some d->d.sh=.int k->(Lit.int k n).wf=true->Fit δ t [.int k (.th λ_=>n)]
 |str {t:Nat} {d:TD} (s:ByteArray):δ t=some d->d.sh=.str->s.size<=reachBytes->Fit δ t [.str (.th λ_=>s)]
 |sl {t:Nat} {d ed:TD} {e:Nat} (rows:List (List T)):δ t=some d->d.sh=.slice e->δ e=some ed->(∀r∈rows,Fit δ e r)->rows.length*ed.bytes<=reachBytes->rows.length<=maxLen->Fit δ t [.bJ ed.size (λ_=>.dO ed.size rows)]
 |GS {t:Nat} {d:TD} {e:Nat}:δ t=some d->d.sh=.ptr e->Fit δ t [.lit (.pointer none)]
 |ptr {t:Nat} {d:TD} {e:Nat} (cs:List T):δ t=some d->d.sh=.ptr e->Fit δ e cs->Fit δ t [.gx cs]
 |struct {t:Nat} {d:TD} {fs:List (Nat×Nat)} {cs:List T}:δ t=some d->d.sh=.struct fs->Ai δ fs 0 cs->Fit δ t cs
 |array {t:Nat} {d:TD} {n e:Nat} {cs:List T}:δ t=some d->d.sh=.array n e->Jn δ e n cs->Fit δ t cs
inductive Ai (δ:Nat->Option TD):List (Nat×Nat)->Nat->List T->Prop
 |nil {o:Nat}:Ai δ [] o []
 |cons {o t:Nat} {fs:List (Nat×Nat)} {e:TD} {a b:List T}:δ t=some e->Fit δ t a->Ai δ fs (o+e.size) b->Ai δ ((o,t)::fs) o (a++b)
inductive Jn (δ:Nat->Option TD):Nat->Nat->List T->Prop
 |nil {e:Nat}:Jn δ e 0 []
 |cons {n e:Nat} {a b:List T}:Fit δ e a->Jn δ e n b->Jn δ e (n+1) (a++b)
end
def abo (δ:Nat->Option TD):List (Nat×Nat)->Nat->Nat->Bool
 |[],o,n=>o==n
 |(a,t)::fs,o,n=>match δ t with|some e=>a==o&&abo δ fs (o+e.size) n|none=>false
def ady (δ:Nat->Option TD)(e:Nat):Bool:=match δ e with|some d=>Nat.ble 1 d.size|none=>false
def abV (δ:Nat->Option TD)(ts:List Nat):Bool:=ts.all λt=>match δ t with
 |some d=>match d.sh with
  | .int _| .bool| .str=>true
  | .ptr e| .slice e=>ts.contains e&&ady δ e
  | .array n e=>ts.contains e&&ady δ e&&(match δ e with|some ed=>d.size==n*ed.size|none=>false)
  | .struct fs=>fs.all (λf=>ts.contains f.2)&&abo δ fs 0 d.size
  |_=>false
 |none=>false
def VTs (w:World)(l:List T)(cs:List Value):Prop:=l.length=cs.length/\∀(i:Nat) x v,l[i]?=some x->cs[i]?=some v->VT w (λ_=>False) x v
omit [Gl]in
theorem VTs.one {w:World}{x:T}{v:Value}(h:VT w (λ_=>False) x v):VTs w [x] [v]:=⟨rfl,λi y u h1 h2=>by
 cases i with
 |zero=>simp at h1 h2;subst h1;subst h2;exact h
 |succ i=>simp at h1⟩
omit [Gl]in
theorem VTs.append {w:World}{a b:List T}{cs ds:List Value}(h:VTs w a cs)(k:VTs w b ds):VTs w (a++b) (cs++ds):=by
 refine⟨by simp[h.1,k.1],λi x v h1 h2=> ?_⟩;rcases Nat.lt_or_ge i a.length with hl|hl
 ·rw[List.getElem?_append_left hl]at h1;rw[List.getElem?_append_left (by rw[<-h.1];exact hl)]at h2;exact h.2 i x v h1 h2
 ·rw[List.getElem?_append_right hl]at h1;rw[List.getElem?_append_right (by rw[<-h.1];exact hl),<-h.1]at h2;exact k.2 _ x v h1 h2
section
variable{P:Program}{δ:Nat->Option TD}{H:Type}{enc:TypeId×Value->H}{w:World}
omit [Gl]in
theorem acG {p:Nat->List T->Prop}:∀(n:Nat),(∀i,i<n->∃r,p i r)->∃rows:List (List T),rows.length=n/\∀(i:Nat) r,rows[i]?=some r->p i r
 |0,_=>⟨[],rfl,λi r h=>by simp at h⟩
 |n+1,h=>by
  obtain⟨rows,h1,h2⟩:=acG n λi hi=>h i (by omega);obtain⟨r,hr⟩:=h n (by omega);refine⟨rows++[r],by simp[h1],λi x hx=> ?_⟩;rcases Nat.lt_or_ge i n with hl|hl
  ·rw[List.getElem?_append_left (by omega)]at hx;exact h2 i x hx
  ·rw[List.getElem?_append_right (by omega)]at hx;have:i=n:=by
    have:=(List.getElem?_eq_some_iff.1 hx).1;simp at this;omega
   subst this;simp[h1]at hx;subst hx;exact hr
omit [Gl]in
theorem abk {e:TypeId}:∀{ds:List (DataW H)}{i:Nat}{d:DataW H},ds[i]?=some d->∀n∈d.weights P e,n∈DataW.weightsAll P e ds
 |[],i,d,h,_,_=>by simp at h
 |d0::ds,0,d,h,n,hn=>by
  simp at h;subst h;simp only[DataW.weightsAll,List.mem_append];exact .inl hn
 |d0::ds,i+1,d,h,n,hn=>by
  simp only[DataW.weightsAll,List.mem_append];exact .inr (abk (by simpa using h) n hn)
omit [Gl]in
theorem aaV (bw:cg P δ){ts:List Nat}(hk:abV δ ts=true):∀(n:Nat)(t:Nat)(cs:List Value)(x:DataW H×List MemPlace),t∈ts->DataW.trod enc P w 0 (λ_=>true) true n t cs=some x->(∀m∈x.1.weights P t,m<=reachBytes)->∃l,Fit δ t l/\VTs w l cs
 |0,t,cs,x,_,h,_=>by simp[DataW.trod]at h
 |n+1,t,cs,x,ht,h,hwt=>by
  have hkt:=List.all_eq_true.1 hk t ht;split at hkt
  ·rename_i d hd;have cells:∀e ed,δ e=some ed->P.cellsOf e=ed.size:=by
    intro e ed ir;obtain⟨i,h1,h3,_⟩:=fP bw ir;simp[Program.cellsOf,h1,h3]
   have ac2:∀(a:Addr)(m:Nat)(cs':List Value),1<=m->w.cells? 0 a m=some cs'->a.spot=none/\a.block<w.heap.size/\cs'.length=m/\∀i,i<m->w.cell? ⟨a.block,a.off+i,none⟩=cs'[i]?:=by
    intro a m cs' hm hc;obtain⟨_,g2,g3⟩:=World.cells?_some hc;have h0:=g3 0 (by omega);have hb:=World.cells?_block hc (by omega);have hs:a.spot=none:=by
     obtain⟨b,off,sp⟩:=a;rw[List.getElem?_eq_getElem (by omega)]at h0
     cases sp with
     |none=>rfl
     |some s=>
      simp only[Addr.add,if_true,World.cell?]at h0;split at h0
      ·simp at h0
      ·cases h0
    refine⟨hs,hb,g2,λi hi=> ?_⟩;rw[<-g3 i hi];obtain⟨b,off,sp⟩:=a;simp only at hs;subst hs;rw[Addr.add_lit]
   split at hkt
   ·rename_i k hs;obtain⟨u,h1,h2⟩:=fI bw hd;rw[hs]at h2;cases u<;>simp[cz]at h2;subst h2;obtain⟨m,rfl,_,hw⟩:=DataW.trod_int h1 h;exact⟨_,.int m hd hs hw,.one (.int (n:=.th λ_=>m))⟩
   ·rename_i hs;obtain⟨u,h1,h2⟩:=fI bw hd;rw[hs]at h2;cases u<;>simp[cz]at h2;obtain⟨m,rfl,_⟩:=DataW.trod_bool h1 h;exact⟨_,.bool m hd hs,.one (.bool (b:=.th λ_=>m))⟩
   ·rename_i hs;obtain⟨u,h1,h2⟩:=fI bw hd;rw[hs]at h2;cases u<;>simp[cz]at h2;obtain⟨m,rfl,hx,hw⟩:=DataW.trod_string h1 h;subst hx;exact⟨_,.str m hd hs (by have:=hwt m.data.toList.length (by simp only[DataW.weights,List.mem_singleton]);rwa[Array.length_toList]at this),.one (.str (s:=.th λ_=>m))⟩
   ·rename_i e hs;simp only[Bool.and_eq_true,ady]at hkt;obtain⟨hke,hkp⟩:=hkt;split at hkp
    ·rename_i ed ir;have h1:=I7 bw hd hs;have hpos:1<=ed.size:=Nat.le_of_ble_eq_true hkp;rcases DataW.trod_pointer h1 h with⟨rfl,_⟩|⟨a,cs',y,m,hm,rfl,hx,hc,hr⟩
     ·exact⟨_,.GS hd hs,.one (.lit rfl)⟩
     ·cases hm;subst hx;obtain⟨l,hl,hv⟩:=aaV bw hk n e cs' y (by simpa using hke) hr (λm hm=>hwt m (by simpa[DataW.weights,h1]using hm));rw[cells e ed ir]at hc;obtain⟨g1,g2,g3,g4⟩:=ac2 a _ cs' hpos hc;refine⟨_,.ptr l hd hs hl,.one ?_⟩;obtain⟨b,off,sp⟩:=a;simp only at g1;subst g1;refine .gx (λj=>(cs'[j]?).getD undef) g2 (λh=>h) (λj x hx=> ?_) (λj x hx=> ?_)
      ·have hj:j<cs'.length:=by rw[<-hv.1];exact(List.getElem?_eq_some_iff.1 hx).1
       simp only at g4;rw[g4 j (by omega),List.getElem?_eq_getElem hj];rfl
      ·have hj:j<cs'.length:=by rw[<-hv.1];exact(List.getElem?_eq_some_iff.1 hx).1
       exact hv.2 j x _ hx (by rw[List.getElem?_eq_getElem hj];rfl)
    ·cases hkp
   ·rename_i e hs;simp only[Bool.and_eq_true,ady]at hkt;obtain⟨hke,hkp⟩:=hkt;split at hkp
    ·rename_i ed ir;have h1:=a_ bw hd hs;have hpos:1<=ed.size:=Nat.le_of_ble_eq_true hkp;rcases DataW.trod_slice h1 h with⟨rfl,_⟩|⟨a,len,cap,elems,rest,m,hm,rfl,rfl,_,hlc,Pn,hel,hr,_⟩
     ·exact⟨_,.sl [] hd hs ir (λr h=>by cases h) (by simp) (by simp),.one (.bJ rfl (.oO λ_=>rfl))⟩
     ·cases hm;have each:∀i,i<len->∃l:List T,Fit δ e l/\∃cs',w.cells? 0 (a.add (i*ed.size)) ed.size=some cs'/\VTs w l cs':=by
       intro i hi;have h3:=hr i hi;rw[cells e ed ir,List.getElem?_eq_getElem (by omega)]at h3
       cases hc:w.cells? 0 (a.add (i*ed.size)) ed.size with
       |none=>rw[hc]at h3;cases h3
       |some cs'=>
        rw[hc]at h3;obtain⟨l,hl,hv⟩:=aaV bw hk n e cs' _ (by simpa using hke) h3 (λm hm=>hwt m (by
         simp only[DataW.weights,h1,List.mem_cons,List.mem_append];exact .inr (.inl (abk (i:=i) (d:=(elems[i]'(by omega)).1) (by rw[List.getElem?_map,List.getElem?_eq_getElem (by omega)];rfl) m hm))))
        exact⟨l,hl,cs',rfl,hv⟩
      obtain⟨rows,hl,hrows⟩:=acG len each;have hfit:∀r∈rows,Fit δ e r:=λr hm=>by
       obtain⟨i,hi⟩:=List.mem_iff_getElem?.1 hm;exact(hrows i r hi).1
      have hbytes:rows.length*ed.bytes<=reachBytes:=by
       obtain⟨ie,i1,_,i3⟩:=fP bw ir;have hb:P.bytesOf e=ed.bytes:=by simp[Program.bytesOf,i1,i3]
       have:=hwt ((elems.length+rest.length)*P.bytesOf e) (by simp[DataW.weights,h1]);rw[hb,Nat.add_mul]at this;rw[hl,<-hel];omega
      refine⟨_,.sl rows hd hs ir hfit hbytes (by omega),.one (.bJ rfl ?_)⟩;rcases Nat.eq_zero_or_pos len with h0|h0
      ·subst h0;obtain rfl:rows=[]:=List.length_eq_zero_iff.1 hl;exact .oO (λh=>by cases h)
      ·obtain⟨l0,_,cs0,hc0,_⟩:=each 0 h0;rw[Nat.zero_mul]at hc0;have ha0:a.add 0=a:=by simp[Addr.add]
       rw[ha0]at hc0;obtain⟨g1,g2,_,_⟩:=ac2 a _ cs0 hpos hc0;obtain⟨b,off,sp⟩:=a;simp only at g1 g2;subst g1;have hrow:∀(i:Nat) r,rows[i]?=some r->r.length=ed.size/\∀(j:Nat) x,r[j]?=some x->∃v,w.cell? ⟨b,off+(i*ed.size+j),none⟩=some v/\VT w (λ_=>False) x v:=by
        intro i r hi;obtain⟨_,cs',hc,hv⟩:=hrows i r hi;obtain⟨_,_,k3,k4⟩:=ac2 _ _ cs' hpos hc;refine⟨by rw[hv.1,k3],λj x hx=> ?_⟩;have hj:j<cs'.length:=by rw[<-hv.1];exact(List.getElem?_eq_some_iff.1 hx).1
        refine⟨cs'[j], ?_,hv.2 j x _ hx (List.getElem?_eq_getElem hj)⟩;have:=k4 j (by omega);rw[Addr.add_lit]at this;rw[<-Nat.add_assoc,this,List.getElem?_eq_getElem hj]
       rw[show Value.slice (some ⟨b,off,none⟩) len cap=Value.slice (some ⟨b,off,none⟩) rows.length cap by rw[hl]];refine .dO (λi j=>(w.cell? ⟨b,off+(i*ed.size+j),none⟩).getD undef) g2 (λh=>h) (by omega) (λr hm=> ?_) (λi j r x hi hx=> ?_) (λi j r x hi hx=> ?_)
       ·obtain⟨i,hi⟩:=List.mem_iff_getElem?.1 hm;exact(hrow i r hi).1
       ·obtain⟨v,hv,_⟩:=(hrow i r hi).2 j x hx;rw[hv];rfl
       ·obtain⟨v,hv,RU⟩:=(hrow i r hi).2 j x hx;rw[hv];exact RU
    ·cases hkp
   ·rename_i m e hs;simp only[Bool.and_eq_true]at hkt;obtain⟨⟨hke,_⟩,hsz⟩:=hkt;split at hsz
    ·rename_i ed ir;have h1:=nL bw hd hs;obtain⟨xs,n',hn',SF,hcl,Xq,hxs⟩:=DataW.trod_array h1 h;cases hn';subst SF;rw[cells e ed ir]at hxs;have hcs:cs.length=m*ed.size:=by rw[hcl,cells t d hd];simpa using hsz
     have go:∀(q:Nat),q<=m->∃l,Jn δ e q l/\VTs w l (cs.drop ((m -q)*ed.size)):=by
      intro q
      induction q with
      |zero=>intro _;exact⟨[],.nil,by simp[hcs],λi x v h=>by simp at h⟩
      |succ q ih=>
       intro hq;obtain⟨b,FW,M_⟩:=ih (by omega);have h3:=hxs (m -(q+1)) (by omega);rw[List.getElem?_eq_getElem (by omega)]at h3;obtain⟨a,X_,ha2⟩:=aaV bw hk n e _ _ (by simpa using hke) h3 (λk hk=>hwt k (by
        simp only[DataW.weights,h1];exact abk (i:=m -(q+1)) (d:=(xs[m -(q+1)]'(by omega)).1) (by rw[List.getElem?_map,List.getElem?_eq_getElem (by omega)];rfl) k hk))
       refine⟨a++b,.cons X_ FW, ?_⟩;have:cs.drop ((m -(q+1))*ed.size)=(cs.drop ((m -(q+1))*ed.size)).take ed.size++cs.drop ((m -q)*ed.size):=by
        rw[show(m -q)*ed.size=(m -(q+1))*ed.size+ed.size by
         rw[show m -q=(m -(q+1))+1 by omega,Nat.add_mul,Nat.one_mul],<-List.drop_drop,List.take_append_drop]
       rw[this];exact ha2.append M_
     obtain⟨l,hl,hv⟩:=go m (Nat.le_refl _);exact⟨l,.array hd hs hl,by simpa using hv⟩
    ·cases hsz
   ·rename_i fs hs;simp only[Bool.and_eq_true]at hkt;obtain⟨hke,adV⟩:=hkt;obtain⟨fs',h1,h2⟩:=oU bw hd hs;obtain⟨xs,n',hn',SF,hcl,Xq,hxs⟩:=DataW.trod_struct h1 h;cases hn';subst SF;have each:∀f∈fs,∃x,DataW.trod enc P w 0 (λ_=>true) true n f.2 ((cs.drop f.1).take (P.cellsOf f.2))=some x/\∀m∈x.1.weights P f.2,m<=reachBytes:=by
     intro f hf;rw[<-h2]at hf;obtain⟨g,hg,rfl⟩:=List.mem_map.1 hf;obtain⟨i,hi⟩:=List.mem_iff_getElem?.1 hg;have h3:=hxs i g (by simpa using hi);have hlt:i<xs.length:=by
      have:=(List.getElem?_eq_some_iff.1 hi).1;rw[Xq];simpa using this
     refine⟨_,h3.trans (List.getElem?_eq_getElem hlt),λm hm=>hwt m ?_⟩;simp only[DataW.weights,h1];exact DataW.weights_mem_each (j:=i) (d:=(xs[i]).1) (by rw[List.getElem?_map,hi];rfl) (by rw[List.getElem?_map,List.getElem?_eq_getElem hlt];rfl) m hm
    have go:∀(fs:List (Nat×Nat))(o:Nat),abo δ fs o d.size=true->(∀f∈fs,f.2∈ts)->(∀f∈fs,∃x,DataW.trod enc P w 0 (λ_=>true) true n f.2 ((cs.drop f.1).take (P.cellsOf f.2))=some x/\∀m∈x.1.weights P f.2,m<=reachBytes)->∃l,Ai δ fs o l/\VTs w l (cs.drop o):=by
     intro fs
     induction fs with
     |nil=>
      intro o hc _ _;simp only[abo,beq_iff_eq]at hc;exact⟨[],.nil,by rw[hc];simp[hcl,cells t d hd],λi x v h=>by simp at h⟩
     |cons f fs ih=>
      intro o hc hm he;obtain⟨a,ft⟩:=f;simp only[abo]at hc;split at hc
      ·rename_i ed ir;simp only[Bool.and_eq_true,beq_iff_eq]at hc;obtain⟨rfl,hc⟩:=hc;obtain⟨x,hx,hxw⟩:=he _ List.mem_cons_self;obtain⟨l,FU,La⟩:=aaV bw hk n ft _ x (hm _ List.mem_cons_self) hx hxw;obtain⟨b,FW,M_⟩:=ih _ hc (λf hf=>hm f (List.mem_cons_of_mem _ hf)) (λf hf=>he f (List.mem_cons_of_mem _ hf));refine⟨l++b,.cons ir FU FW, ?_⟩;have:cs.drop a=(cs.drop a).take ed.size++cs.drop (a+ed.size):=by
        rw[<-List.drop_drop,List.take_append_drop]
       rw[this];rw[cells ft ed ir]at La;exact La.append M_
      ·cases hc
    obtain⟨l,hl,hv⟩:=go fs 0 adV (λf hf=>by
     have:=List.all_eq_true.1 hke f hf;simpa using this) each
    exact⟨l,.struct hd hs hl,by simpa using hv⟩
   ·cases hkt
  ·cases hkt
def Lh (agg:Bool)(l:List T):AV:=match agg with
 |true=>.agg (l.map AV.c)
 |false=>match l with|[c]=>.c c|_=>.bB
def yU (δ:Nat->Option TD)(t:Nat)(x:AV):Prop:=∃d l,δ t=some d/\Fit δ t l/\x=Lh d.agg l
inductive uM (δ:Nat->Option TD):List Nat->List AV->Prop
 |nil:uM δ [] []
 |cons {t:Nat} {x:AV} {ts:List Nat} {xs:List AV}:yU δ t x->uM δ ts xs->uM δ (t::ts) (x::xs)
omit [Gl]in
theorem ac8 {r:Reach}{base:Nat}{t:TypeId}{cs:Array Value}(h:Cell.okWide P w r base t (.agg cs)):False:=by
 unfold Cell.okWide at h;split at h<;>try(rename_i h1;cases h1)
 all_goals simp_all [Cell.ok]
omit [Gl]in
theorem acI (bw:cg P δ){ts:List Nat}(hk:abV δ ts=true){t:Nat}(ht:t∈ts){base:Nat}{v:Value}{d:DataW H}{p:List MemPlace}(hval:Value.okWide P w .any base t v)(h:DataW.Trod enc P w 0 (λ_=>true) true t v d p)(hwt:∀m∈d.weights P t,m<=reachBytes):
  ∃x,yU δ t x/\VR w (λ_=>False) [] x v:=by
 obtain⟨n,hn⟩:=h;obtain⟨l,hl,hv⟩:=aaV bw hk n t _ _ ht hn hwt;have ho:∀t v,VT w (λ_=>False) t v->VT w (own (λ_=>False) []) t v:=λt v h=>h.mono (Nat.le_refl _) (λ_ _ _=>rfl) (λb _ hn hO=>hn (by
  rcases hO with h|h
  ·simp at h
  ·exact h))
 have hkt:=List.all_eq_true.1 hk t ht;split at hkt
 ·rename_i d' hd;obtain⟨i,u,g1,g2,g3,g4,g5,g6,g7⟩:=(bw t d' hd).ok;refine⟨Lh d'.agg l,⟨d',l,hd,hl,rfl⟩, ?_⟩
  cases ha:d'.agg with
  |true=>
   have:∃cs,v=.agg cs:=by
    rw[g5]at ha;unfold Value.okWide at hval;rw[g2]at hval;cases u<;>simp[w9]at ha
    ·obtain⟨cs,h,_⟩:=hval;exact⟨cs,h⟩
    ·obtain⟨cs,h,_⟩:=hval;exact⟨cs,h⟩
   obtain⟨cs,rfl⟩:=this;simp only[Value.cells]at hv;refine .agg (by simp[hv.1]) (λi x v hx mJ=> ?_) (λi v mJ=> ?_)
   ·rw[List.getElem?_map]at hx
    cases hli:l[i]? with
    |none=>rw[hli]at hx;cases hx
    |some y=>
     rw[hli]at hx;simp at hx;subst hx;exact .c (ho _ _ (hv.2 i y v hli (by simpa using mJ)))
   ·have hlt:i<l.length:=by
     have:=(Array.getElem?_eq_some_iff.1 mJ).1;rw[hv.1];simpa using this
    exact(hv.2 i _ v (List.getElem?_eq_getElem hlt) (by simpa using mJ)).one
  |false=>
   have hc:Cell.okWide P w .any base t v:=by
    rw[g5]at ha;unfold Value.okWide at hval;rw[g2]at hval;cases u<;>simp[w9]at ha<;>exact hval
   have hvc:v.cells.toList=[v]:=by
    cases v<;>first|rfl|exact(ac8 hc).elim
   rw[hvc]at hv;have FU:=hv.1;obtain⟨c,rfl⟩:=List.length_eq_one_iff.1 FU;exact .c (ho _ _ (hv.2 0 c v rfl rfl))
 ·cases hkt
omit [Gl]in
theorem acH (bw:cg P δ){ts:List Nat}(hk:abV δ ts=true){base:Nat}:∀(ps:List Nat)(vs:List Value)(ds:List (DataW H))(p:List MemPlace),(∀t∈ps,t∈ts)->(∀(j:Nat) t v,ps[j]?=some t->vs[j]?=some v->Value.okWide P w .any base t v)->
  DataW.TrodAll enc P w 0 (λ_=>true) true ps vs ds p->(∀m∈DataW.weightsEach P ps ds,m<=reachBytes)->ds.length=ps.length/\∃xs,uM δ ps xs/\ua w (λ_=>False) [] xs vs
 |[],vs,ds,p,_,_,h,_=>by
  obtain⟨rfl,rfl,_⟩:=trodAll_nil h;exact⟨rfl,[],.nil,rfl,λi x v h=>by simp at h⟩
 |t::ps,vs,ds,p,hts,hval,h,hwt=>by
  obtain⟨v,vs,d,ds,p,q,rfl,rfl,rfl,h1,h2⟩:=trodAll_cons h;obtain⟨g0,xs,g1,g2⟩:=acH bw hk ps vs ds q (λt ht=>hts t (List.mem_cons_of_mem _ ht)) (λj t v h1 h2=>hval (j+1) t v (by simpa using h1) (by simpa using h2)) h2 (λm hm=>hwt m (by simp only[DataW.weightsEach,List.mem_append];exact .inr hm));obtain⟨x,k1,k2⟩:=acI bw hk (hts t List.mem_cons_self) (hval 0 t v rfl rfl) h1 (λm hm=>hwt m (by simp only[DataW.weightsEach,List.mem_append];exact .inl hm));refine⟨by simp[g0],x::xs,.cons k1 g1,by simp[g2.1],λi y u hy hu=> ?_⟩
  cases i with
  |zero=>simp at hy hu;subst hy;subst hu;exact k2
  |succ i=>exact g2.2 i y u (by simpa using hy) (by simpa using hu)
omit [Gl]in
theorem abJ (laid:laidOutB P=true){W W':World}(hb:Below W.heap.size W W'):∀(ps:List Nat)(vs:List Value)(ds:List (DataW H))(p:List MemPlace),ps.all (λt=>P.readableRec t&&decide (t<P.types.size))=true->
  DataW.TrodAll enc P W 0 (λ_=>true) true ps vs ds p->DataW.TrodAll enc P W' 0 (λb=>decide (b<W.heap.size)) true ps vs ds p
 |[],vs,ds,p,_,h=>by
  obtain⟨rfl,rfl,rfl⟩:=trodAll_nil h;exact trodAll_mk0
 |t::ps,vs,ds,p,hr,h=>by
  obtain⟨v,vs,d,ds,p,q,rfl,rfl,rfl,h1,h2⟩:=trodAll_cons h;simp only[List.all_cons,Bool.and_eq_true,decide_eq_true_eq]at hr;have hlt:∀x∈p,x.block<W.heap.size:=by obtain⟨m,hm⟩:=h1;exact DataW.trod_lt m _ _ _ hm
  exact trodAll_cons_mk (Below.trod laid hr.1.1 hr.1.2 h1 hb hlt) (abJ laid hb ps vs ds q hr.2 h2)
def Oe (P:Program)(δ:Nat->Option TD)(f:FuncId)(ps:List Nat):Prop:=∀xs,uM δ ps xs->aV P f xs [] (λx _=>∃b,x=AB b/\b.den=true)
theorem ac0 {f:FuncId}{fn:Func}{c:Code}(hf:P.funcs[f]?=some fn)(hb:fn.body=some c)(hname:(fn.name== "runtime.NumGoroutine")=false){xs:List AV}(h:aV P f xs [] (λx _=>∃b,x=AB b/\b.den=true)){W:World}{args:Array Value}(hv:ua W (λ_=>False) [] xs args.toList)(hg:LN W (λ_=>False)):
  Calls P f args W λe W'=>e=.returned (.bool true)/\Below W.heap.size W W':=by
 have hs:St W (λ_=>False) [] []:=
  {len:=rfl,inj:=λo o' b h=>by simp at h,lt:=λo b h=>by simp at h,dead:=λo h=>by simp at h,frame:=λb h=>h.elim,live:=λo b h=>by simp at h,gl:=hg.sub λb _ h=>h.elim (λh=>by simp at h) id}
 have hr:=h.run W (λ_=>False) [] args hv hs;have Xo:(callFunc f args).run P W=.ok (.enter f args) W:=by
  have hn:¬fn.name= "runtime.NumGoroutine":=by simpa using hname
  simp[callFunc,hf,hn,hb]
 unfold jK at hr;rw[Xo]at hr;obtain⟨_,_,_,hr⟩:=hr;refine hr.mono λe W' ⟨v,x,cc,bu,h1,h2,h3,h4,b,h5,h6⟩=> ?_;subst h5
 cases h2 with
 |c h2=>
  cases h2;exact⟨by rw[h1,h6],⟨h4.os,h4.tape,h4.output,h4.size,λk hk=>h4.ct k hk (by simp)⟩⟩
theorem nI {C:Checked}{os:Os}{f:FuncId}{fn:Func}{c:Code}{s:ChangeSpec}{conds:List PathCond}{tb:TypeId}{ts:List Nat}(bw:cg C.prog δ)(hk:abV δ ts=true)
  (hown:ownKnob C.prog.godebug=none) (started:os.Started) (noInit:C.prog.inits.idxOf? f=none) (hfn:C.prog.funcs[f]?=some fn) (hb:fn.body=some c) (hname:(fn.name== "runtime.NumGoroutine")=false)
  (witness:∃(w:World)(tape:Tape)(i:Input),w.os=os/\(w.forCall tape i).Shaped C.prog/\i.vars=[]/\Input.okWide C.prog (w.forCall tape i) .any w.heap.size f i/\
   s.pre6 enc C.prog fn conds false (w.forCall tape i).memory i.args/\({}:Assume).holds C.prog (lone (Frame.enter C.prog f i.args .normal) [] (w.forCall tape i)))
  (hvars:s.vars=[]) (hres:fn.resultTypes= #[tb]) (htb:C.prog.underlying tb=some .bool) (laid:laidOutB C.prog=true) (hpar:fn.params.toList.all (λt=>ts.contains t)=true)
  (hread:fn.params.toList.all (λt=>C.prog.readableRec t&&decide (t<C.prog.types.size))=true) (hspec:∀ds:List (DataW H),ds.length=fn.params.toList.length->s.fn H ds={results:=[.lit (.bool true)],args:=ds})
  (walk:Oe C.prog δ f fn.params.toList) (Kc:∀W:World,LN W (λ_=>False)):ReturnsInHanded {} C os f .any (s.pre6 enc C.prog fn conds false) (s.post enc C.prog fn false true false false):=by
 refine returnsInHanded_of_change_sized hown started noInit hfn witness ?_;intro W base args ds gs before hval hW _ hsz _;have hW':=hW;obtain⟨p,q,hA,hV,rfl,hfz,BB⟩:=hW;rw[hvars]at hV;obtain⟨rfl,rfl⟩:=trodVars_none hV;obtain⟨hl,xs,hx1,Zz⟩:=acH bw hk fn.params.toList args.toList ds p (λt ht=>by
  have:=List.all_eq_true.1 hpar t ht;simpa using this) (λj t v h1 h2=>hval j t v (by simpa using h1) (by simpa using h2)) hA (λm hm=>by
  have:=List.all_eq_true.1 hsz m (by simpa[ChangeSpec.plain,DataSpec.varTypes,hvars]using hm);simpa using this)
 refine(ac0 hfn hb hname (walk xs hx1) Zz (Kc W)).mono λe W' ⟨he,adD⟩=> ?_;subst he;have hsp:=hspec ds hl;have hr:DataW.TrodAll enc C.prog W' W.heap.size (λ_=>false) false fn.resultTypes.toList ((Value.bool true).resultList fn.resultTypes.size) (s.fn H (ds++[])).results []:=by
  rw[List.append_nil,hsp,hres];exact trodAll_mk1 (shut_bool htb _)
 have ha:DataW.TrodAll enc C.prog W' 0 (λb=>decide (b<W.heap.size)) true fn.params.toList args.toList (s.fn H (ds++[])).args p:=by
  rw[List.append_nil,hsp];exact abJ laid adD _ _ _ _ hread hA
 refine⟨_,rfl,ds,[],_,[],p,[],hW',hr,ha, ?_,adD.frame _,λh=>by cases h⟩;rw[hvars,List.append_nil,hsp]
 rfl
end
end Go.bA
end
section
namespace Go.bA
variable [Gl]
omit [Gl]in
theorem aM.t {f:Unit->Bool}{A B:Unit->Prop}(h:f ()=true)(ha:A ()):aM f A B:=.mk (λ_=>ha) (λh'=>by rw[h]at h';cases h')
omit [Gl]in
theorem aM.f {f:Unit->Bool}{A B:Unit->Prop}(h:f ()=false)(hb:B ()):aM f A B:=.mk (λh'=>by rw[h]at h';cases h') (λ_=>hb)
omit [Gl]in
theorem RV.MF {base base':Nat}{o:List AO}{x y:AV}(h:RV base [] o x y):RV base' [] o x y:=by
 induction h with
 |bB=>exact .bB
 |pure h=>exact .pure h
 |c h=>exact .c h
 |ref h=>cases h
 |eZ h _=>cases h
 |sl h _ _ _=>cases h
 |mp h=>cases h
 |o6 h _ _ _=>cases h
 |fz rows r h1 h2 h3 h4 h5=>exact .fz rows r h1 h2 h3 h4 h5
 |B5 rows f h1 h2 h3 h4 h5=>exact .B5 rows f h1 h2 h3 h4 h5
 |fn l1 l2 _ _ i1 i2=>exact .fn l1 l2 i1 i2
 |oN _ ih=>exact .oN ih
 |agg h1 _ ih=>exact .agg h1 ih
 |cI h1 _ ih=>exact .cI h1 ih
omit [Gl]in
theorem RV.same {base:Nat}{x y:AV}(h:RV base [] [] x y){w:World}{F:Nat->Prop}{μ:Mu}:∀{v},VR w F μ x v->VR w F μ y v:=by
 generalize ho:([]:List AO)=o at h;generalize Jo:([]:List Nat)=π at h
 induction h with
 |bB=>intro v _;exact .bB
 |pure h=>intro v hv;exact hv
 |c h=>intro v hv;cases hv with|c hv=>exact .c (hv.te h)
 |ref h=>subst Jo;cases h
 |eZ h _=>subst Jo;cases h
 |sl h _ _ _=>subst Jo;cases h
 |mp h=>subst Jo;cases h
 |o6 h _ _ _=>subst Jo;cases h
 |fz rows r h1 h2 h3 h4 h5=>subst ho;cases h1
 |B5 rows f h1 h2 h3 h4 h5=>subst ho;cases h1
 |fn l1 l2 _ _ i1 i2=>
  intro v hv
  cases hv with
  |fn a1 a2 a3 a4=>
   refine .fn (by rw[a1,l1]) (by rw[a2,l2]) (λi y v hy hv=> ?_) (λi y v hy hv=> ?_)
   ·have hlt:=(List.getElem?_eq_some_iff.1 hy).1;exact i1 i _ y (List.getElem?_eq_getElem (l1▸hlt)) hy (a3 i _ v (List.getElem?_eq_getElem (l1▸hlt)) hv)
   ·have hlt:=(List.getElem?_eq_some_iff.1 hy).1;exact i2 i _ y (List.getElem?_eq_getElem (l2▸hlt)) hy (a4 i _ v (List.getElem?_eq_getElem (l2▸hlt)) hv)
 |oN _ ih=>intro v hv;cases hv with|oN h=>exact .oN (ih h)
 |agg h1 _ ih=>
  intro v hv
  cases hv with
  |agg a1 a2 a3=>
   refine .agg (by rw[a1,h1]) (λi y v hy hv=> ?_) a3;have hlt:=(List.getElem?_eq_some_iff.1 hy).1;exact ih i _ y (List.getElem?_eq_getElem (h1▸hlt)) hy (a2 i _ v (List.getElem?_eq_getElem (h1▸hlt)) hv)
 |cI h1 _ ih=>
  intro v hv
  cases hv with
  |cI a1 a2=>
   refine .cI (by rw[a1,h1]) (λi y v hy hv=> ?_);have hlt:=(List.getElem?_eq_some_iff.1 hy).1;exact ih i _ y (List.getElem?_eq_getElem (h1▸hlt)) hy (a2 i _ v (List.getElem?_eq_getElem (h1▸hlt)) hv)
omit [Gl]in
theorem gj.same {base:Nat}{xs ys:List AV}(h:gj base [] [] xs ys){w:World}{F:Nat->Prop}{μ:Mu}{vs:List Value}(hv:ua w F μ xs vs):ua w F μ ys vs:=by
 refine⟨by rw[hv.1,h.len],λi y v hy hu=> ?_⟩;have hlt:=(List.getElem?_eq_some_iff.1 hy).1;exact(h.get i _ y (List.getElem?_eq_getElem (h.len▸hlt)) hy).same (hv.2 i _ v (List.getElem?_eq_getElem (h.len▸hlt)) hu)
section
variable{P:Program}{δ:Nat->Option TD}
def gk (P:Program)(f:FuncId)(args:List AV)(y:AV):Prop:=aV P f args [] (λx o=>RV 0 [] o x y)
theorem gk.call {f:FuncId}{args args':List AV}{y:AV}{K:AV->List AO->Prop}{ob:List AO}(h:gk P f args' y)(ha:gj 0 [] [] args args')(hp:eA args'=true)(hk:K y ob):aV P f args ob K:=by
 refine aV.args (aV.frame h hp λx o hr=>⟨[],y,[],rfl,hr.MF,.nil, ?_⟩) (λw F μ vs hv=>ha.same hv);rw[dg,List.append_nil];exact hk
theorem gk.args {f:FuncId}{args args':List AV}{y:AV}(h:gk P f args' y)(ha:gj 0 [] [] args args'):gk P f args y:=aV.args h λ_ _ _ _ hv=>ha.same hv
theorem aV.Pt {f:FuncId}{args:List AV}{ob:List AO}{K0 K:AV->List AO->Prop}(h:aV P f args ob K0)(hk:∀x o,K0 x o->∃x',(∀w F μ v,VR w F μ x v->VR w F μ x' v)/\K x' o):aV P f args ob K:=by
 refine⟨λw F μ bD hv hs=> ?_⟩;have post:∀e w',(∃v x cc bu,e=Ending.returned v/\VR w' F bu x v/\St w' F bu cc/\Ext w μ w' bu/\K0 x cc)->∃v x cc bu,e=Ending.returned v/\VR w' F bu x v/\St w' F bu cc/\Ext w μ w' bu/\K x cc:=by
  intro e w' ⟨v,x,cc,bu,g1,g2,g3,g4,g5⟩;obtain⟨x',k1,k2⟩:=hk x cc g5;exact⟨v,x',cc,bu,g1,k1 _ _ _ _ g2,g3,g4,k2⟩
 have hr:=h.run w F μ bD hv hs;unfold jK at hr⊢;split at hr
 ·obtain⟨h1,h2,h3,h4⟩:=hr;exact⟨h1,h2,h3,h4.mono post⟩
 ·exact post _ _ hr
 ·exact hr.elim
theorem gk.as {f:FuncId}{args args':List AV}{y:AV}{K:AV->List AO->Prop}{ob:List AO}(h:gk P f args' y)(y':AV)(hy:RV 0 [] [] y y')(ha:gj 0 [] [] args args')(hp:eA args'=true)(hk:K y' ob):aV P f args ob K:=
 (h.call (K:=λx o=>x=y/\o=ob) ha hp ⟨rfl,rfl⟩).Pt λx o hx=>⟨y',λw F μ v hv=>hy.same (by rw[<-hx.1];exact hv),by rw[hx.2];exact hk⟩
theorem gk.EH {f:FuncId}{args args':List AV}{y:AV}{K:AV->List AO->Prop}{ob:List AO}(h:gk P f args' y)(ha:Mz ob args args')(hf:oG y=true)(hk:K y ob):aV P f args ob K:=by
 refine⟨λw F μ bD hv hs=> ?_⟩;have hs0:St w F [] []:=
  {len:=rfl,inj:=λo o' b h=>by simp at h,lt:=λo b h=>by simp at h,dead:=λo h=>by simp at h,frame:=λb h=>⟨(hs.frame b h).1,by simp⟩,live:=λo b h=>by simp at h,gl:=hs.gl.sub λb _ h=>h.elim (λh=>by simp at h) .inr}
 have mJ:ua w F [] args' bD.toList:=ha.sound hs (λb _ h=>by
  rcases h with h|h
  ·simp at h
  ·exact h) hv
 have hr:=h.run w F [] bD mJ hs0;have post:∀e w',(∃v x cc bu,e=Ending.returned v/\VR w' F bu x v/\St w' F bu cc/\Ext w [] w' bu/\RV 0 [] cc x y)->∃v x cc bu,e=Ending.returned v/\VR w' F bu x v/\St w' F bu cc/\Ext w μ w' bu/\K x cc:=by
  intro e w' ⟨v,x,cc,bu,g1,g2,g3,g4,g5⟩;obtain⟨q1,q2⟩:=hs.behind g4;have hy:VR w' F [] y v:=g5.sound g3 (λb h=>by
   rcases h with h|h
   ·simp at h
   ·exact .inr h) (λq p h=>by simp at h) (λq p h=>by simp at h) (λn _ b hb h=>by
   rcases h with h|h
   ·simp at h
   ·exact(g3.frame b h).2 (List.mem_of_getElem? hb)) g2
  exact⟨v,y,ob,μ,g1,hy.flat hf,q1,q2,hk⟩
 unfold jK at hr⊢;split at hr
 ·obtain⟨h1,h2,h3,h4⟩:=hr;exact⟨h1,h2,h3,h4.mono post⟩
 ·exact post _ _ hr
 ·exact hr.elim
end
end Go.bA
end
section
namespace Go.bA
variable [Gl]
section
variable{δ:Nat->Option TD}{t:Nat}{d:TD}{l:List T}
omit [Gl]in
theorem gT {k:IntKind}(hd:δ t=some d)(hs:d.sh=.int k)(h:Fit δ t l):∃n,l=[.int k (.th λ_=>n)]/\(Lit.int k n).wf=true:=by
 cases h with
 |bool b h1 h2=>rw[hd]at h1;cases h1;rw[hs]at h2;cases h2
 |int n h1 h2 h3=>rw[hd]at h1;cases h1;rw[hs]at h2;cases h2;exact⟨n,rfl,h3⟩
 |str n h1 h2 h3=>rw[hd]at h1;cases h1;rw[hs]at h2;cases h2
 |sl rows h1 h2 h3 h4 h5 h6=>rw[hd]at h1;cases h1;rw[hs]at h2;cases h2
 |GS h1 h2=>rw[hd]at h1;cases h1;rw[hs]at h2;cases h2
 |ptr cs h1 h2 h3=>rw[hd]at h1;cases h1;rw[hs]at h2;cases h2
 |struct h1 h2 h3=>rw[hd]at h1;cases h1;rw[hs]at h2;cases h2
 |array h1 h2 h3=>rw[hd]at h1;cases h1;rw[hs]at h2;cases h2
omit [Gl]in
theorem GU (hd:δ t=some d)(hs:d.sh=.bool)(h:Fit δ t l):∃b,l=[.bool (.th λ_=>b)]:=by
 cases h with
 |bool b h1 h2=>exact⟨b,rfl⟩
 |int n h1 h2 h3=>rw[hd]at h1;cases h1;rw[hs]at h2;cases h2
 |str n h1 h2 h3=>rw[hd]at h1;cases h1;rw[hs]at h2;cases h2
 |sl rows h1 h2 h3 h4 h5 h6=>rw[hd]at h1;cases h1;rw[hs]at h2;cases h2
 |GS h1 h2=>rw[hd]at h1;cases h1;rw[hs]at h2;cases h2
 |ptr cs h1 h2 h3=>rw[hd]at h1;cases h1;rw[hs]at h2;cases h2
 |struct h1 h2 h3=>rw[hd]at h1;cases h1;rw[hs]at h2;cases h2
 |array h1 h2 h3=>rw[hd]at h1;cases h1;rw[hs]at h2;cases h2
omit [Gl]in
theorem Jp (hd:δ t=some d)(hs:d.sh=.str)(h:Fit δ t l):∃s:ByteArray,l=[.str (.th λ_=>s)]/\s.size<=reachBytes:=by
 cases h with
 |bool b h1 h2=>rw[hd]at h1;cases h1;rw[hs]at h2;cases h2
 |int n h1 h2 h3=>rw[hd]at h1;cases h1;rw[hs]at h2;cases h2
 |str n h1 h2 h3=>exact⟨n,rfl,h3⟩
 |sl rows h1 h2 h3 h4 h5 h6=>rw[hd]at h1;cases h1;rw[hs]at h2;cases h2
 |GS h1 h2=>rw[hd]at h1;cases h1;rw[hs]at h2;cases h2
 |ptr cs h1 h2 h3=>rw[hd]at h1;cases h1;rw[hs]at h2;cases h2
 |struct h1 h2 h3=>rw[hd]at h1;cases h1;rw[hs]at h2;cases h2
 |array h1 h2 h3=>rw[hd]at h1;cases h1;rw[hs]at h2;cases h2
omit [Gl]in
theorem nO {e:Nat}{ed:TD}(he:δ e=some ed)(hd:δ t=some d)(hs:d.sh=.slice e)(h:Fit δ t l):∃rows:List (List T),l=[.bJ ed.size (λ_=>.dO ed.size rows)]/\(∀r∈rows,Fit δ e r)/\rows.length*ed.bytes<=reachBytes/\rows.length<=maxLen:=by
 cases h with
 |bool b h1 h2=>rw[hd]at h1;cases h1;rw[hs]at h2;cases h2
 |int n h1 h2 h3=>rw[hd]at h1;cases h1;rw[hs]at h2;cases h2
 |str n h1 h2 h3=>rw[hd]at h1;cases h1;rw[hs]at h2;cases h2
 |sl rows h1 h2 h3 h4 h5 h6=>rw[hd]at h1;cases h1;rw[hs]at h2;cases h2;rw[he]at h3;cases h3;exact⟨rows,rfl,h4,h5,h6⟩
 |GS h1 h2=>rw[hd]at h1;cases h1;rw[hs]at h2;cases h2
 |ptr cs h1 h2 h3=>rw[hd]at h1;cases h1;rw[hs]at h2;cases h2
 |struct h1 h2 h3=>rw[hd]at h1;cases h1;rw[hs]at h2;cases h2
 |array h1 h2 h3=>rw[hd]at h1;cases h1;rw[hs]at h2;cases h2
omit [Gl]in
theorem o9 {fs:List (Nat×Nat)}(hd:δ t=some d)(hs:d.sh=.struct fs)(h:Fit δ t l):Ai δ fs 0 l:=by
 cases h with
 |bool b h1 h2=>rw[hd]at h1;cases h1;rw[hs]at h2;cases h2
 |int n h1 h2 h3=>rw[hd]at h1;cases h1;rw[hs]at h2;cases h2
 |str n h1 h2 h3=>rw[hd]at h1;cases h1;rw[hs]at h2;cases h2
 |sl rows h1 h2 h3 h4 h5 h6=>rw[hd]at h1;cases h1;rw[hs]at h2;cases h2
 |GS h1 h2=>rw[hd]at h1;cases h1;rw[hs]at h2;cases h2
 |ptr cs h1 h2 h3=>rw[hd]at h1;cases h1;rw[hs]at h2;cases h2
 |struct h1 h2 h3=>rw[hd]at h1;cases h1;rw[hs]at h2;cases h2;exact h3
 |array h1 h2 h3=>rw[hd]at h1;cases h1;rw[hs]at h2;cases h2
omit [Gl]in
theorem eD {o o':Nat}{fs:List (Nat×Nat)}(h:Ai δ ((o,t)::fs) o' l):∃a b e,l=a++b/\δ t=some e/\Fit δ t a/\Ai δ fs (o'+e.size) b:=by
 cases h with
 |cons h1 h2 h3=>exact⟨_,_,_,rfl,h1,h2,h3⟩
omit [Gl]in
theorem uN {o:Nat}(h:Ai δ [] o l):l=[]:=by cases h;rfl
omit [Gl]in
theorem bN {x:List AV}{ts:List Nat}(h:uM δ (t::ts) x):∃y ys,x=y::ys/\yU δ t y/\uM δ ts ys:=by
 cases h with|cons h1 h2=>exact⟨_,_,rfl,h1,h2⟩
omit [Gl]in
theorem jG {x:List AV}(h:uM δ [] x):x=[]:=by cases h;rfl
omit [Gl]in
theorem lA {x:AV}(h:yU δ t x)(hd:δ t=some d):∃l,Fit δ t l/\x=Lh d.agg l:=by
 obtain⟨d',l,h1,h2,rfl⟩:=h;rw[hd]at h1;cases h1;exact⟨l,h2,rfl⟩
omit [Gl]in
theorem jT {α:Type}{p:List T->Prop}{ts:α->List T}{wf:α->Prop}(h:∀r,p r->∃a,r=ts a/\wf a):∀(rows:List (List T)),(∀r∈rows,p r)->∃l:List α,rows=l.map ts/\∀a∈l,wf a
 |[],_=>⟨[],rfl,λa h=>by cases h⟩
 |r::rows,hr=>by
  obtain⟨a,rfl,ha⟩:=h r (hr r List.mem_cons_self);obtain⟨l,rfl,hl⟩:=jT h rows λr h=>hr r (List.mem_cons_of_mem _ h);exact⟨a::l,rfl,λb hb=>by
   rcases List.mem_cons.1 hb with rfl|hb
   ·exact ha
   ·exact hl b hb⟩
end
end Go.bA
end
