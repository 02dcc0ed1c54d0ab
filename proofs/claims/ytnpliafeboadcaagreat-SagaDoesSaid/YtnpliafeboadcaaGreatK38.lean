/- Texts that the law leans on, part 38. No conditions. -/
import Derived.Test.YtnpliafeboadcaaGreatK21
import Derived.Test.YtnpliafeboadcaaGreatK31
import Derived.Test.YtnpliafeboadcaaGreatK37
import Derived.Lib.Strings
import Derived.Lib.Bytealg
section
namespace Go.Proofs.aaa
open Go.bA Go.IntWalk
abbrev BH:aF:=⟨[],[]⟩
def fu (l:List aQ)(p:aQ):List aQ:=if jt p=true then l.filter (λq=>decide (q.order≠p.order))else iw aQ.order l p
def j6 (b:aF)(x:au):aF×Int:=
 if b.ak.length>=16384 then(BH,3)else if wg (dV (aG b x.order) x)=true then(⟨fu b.aK (dV (aG b x.order) x),b.ak++[x]⟩,0)else(BH,5)
theorem kH (b:aF)(n:Int):(aG b n).order=n:=by
 unfold aG
 cases h:bq aQ.order b.aK n with
 |none=>rfl
 |some p=>exact(b_ aQ.order h).2
theorem bO.zg {b:aF}(h:bO b)(n:Int):f_ b.ak n=some (aG b n):=by
 by_cases hx:∃x∈b.ak,x.order=n
 ·obtain⟨x,hx,rfl⟩:=hx;exact h.rest x hx
 ·have hz:=zf n b.ak ⟨n,0,0,0⟩ (λx hx' he=>hx ⟨x,hx',he⟩);rw[f_,hz];unfold aG
  cases hf:bq aQ.order b.aK n with
  |none=>rfl
  |some p=>
   obtain⟨hp,rfl⟩:=b_ aQ.order hf;have:=(h.aK p hp).2.2.2.2.2;rw[f_,hz]at this;exact this
theorem bO.cnt {b:aF}(h:bO b)(n:Int):IW (aG b n):=(qt n h.i_ (by unfold IW;simp) (h.zg n)).1
theorem bO.bC {b:aF}(h:bO b)(n:Int):0<=(aG b n).bC/\(aG b n).aX<=(aG b n).aT:=by
 unfold aG
 cases hf:bq aQ.order b.aK n with
 |none=>exact⟨Int.le_refl _,Int.le_refl _⟩
 |some p=>
  have:=h.aK p (b_ aQ.order hf).1;exact⟨this.2.2.2.1,this.2.2.2.2.1⟩
theorem bO.aaB {b:aF}(h:bO b)(x:au):f_ (b.ak++[x]) x.order=if wg (dV (aG b x.order) x)=true then some (dV (aG b x.order) x)else none:=by
 rw[f_,j5,show fZ x.order _ b.ak=_ from h.zg x.order,Option.bind_some,fZ,if_pos rfl];rfl
theorem bO.Gu {b:aF}(h:bO b)(n:Int):Gu aQ.order b.aK n=some (((eO aQ.order b.aK n:Nat):Int),(bq aQ.order b.aK n).isSome):=by
 unfold Go.Proofs.aaa.Gu;rw[if_pos];rw[decide_eq_true_eq];exact⟨by have:=h.qo;omega,h.rising⟩
theorem DE {b:aF}(h:bO b)(n:Int):Ev b.aK n=some (((eO aQ.order b.aK n:Nat):Int),(bq aQ.order b.aK n).isSome):=by
 unfold Ev;rw[h.Gu];rfl
theorem qu {b:aF}(h:bO b)(w n:Int):oW ⟨b,w⟩ n=some (aG b n,⟨b,w⟩):=by
 unfold oW;simp only[DE h,Option.bind_some];unfold aG
 cases hf:bq aQ.order b.aK n with
 |none=>rfl
 |some p=>
  have hg:=fj aQ.order h.rising hf;have hlt:=(List.getElem?_eq_some_iff.1 hg).1;rw[if_pos (by rfl),if_pos (by simp[dJ];omega),cT (x:=p) (by omega) (by rw[Int.toNat_natCast];exact hg)]
  rfl
theorem qv (b:aF)(w:Int)(is:Bool)(why:Int):kQ ⟨b,w⟩ is why=some ⟨b,if w=0/\is=true then why else w⟩:=by
 simp only[kQ,ai,beq_iff_eq];by_cases h:w=0
 ·cases is<;>simp[h]
 ·simp[h]
theorem filter_none {α:Type}(key:α->Int)(l:List α)(n:Int)(h:bq key l n=none):l.filter (λq=>decide (key q≠n))=l:=by
 rw[List.filter_eq_self];intro x hx;have:=rQ key h x hx;simpa using this
theorem qw {α:Type}{key:α->Int}:∀{l:List α},bU key l->∀{n:Int}{p:α},bq key l n=some p->l.eraseIdx (eO key l n)=l.filter (λq=>decide (key q≠n))
 |[],_,n,p,h=>by cases h
 |x::l,hs,n,p,h=>by
  obtain⟨h1,h2⟩:=List.pairwise_cons.1 hs;rw[dY]at h;by_cases he:key x=n
  ·have hlb:eO key (x::l) n=0:=qp key (λy hy=>by
    rcases List.mem_cons.1 hy with rfl|hy
    ·omega
    ·have:=h1 y hy;omega)
   rw[hlb,List.eraseIdx_cons_zero,List.filter_cons_of_neg (by simp[he])];refine(List.filter_eq_self.2 λy hy=> ?_).symm;have:=h1 y hy;simp;omega
  ·rw[if_neg he]at h;have hp:=b_ key h;have hlt:key x<n:=by have:=h1 p hp.1;omega
   have hlb:eO key (x::l) n=eO key l n+1:=by simp[eO,hlt]
   rw[hlb,List.eraseIdx_cons_succ,List.filter_cons_of_pos (by simp[he]),qw h2 h]
theorem aaC {α:Type}(l:List α)(i:Nat)(x:α)(h:i<l.length):bt (l.eraseIdx i) i x=l.set i x:=by
 unfold bt;rw[List.eraseIdx_eq_take_drop_succ,List.take_append_of_le_length (by simp;omega),List.take_take,Nat.min_self,List.drop_append_of_le_length (by simp;omega),List.set_eq_take_append_cons_drop,if_pos h];simp
theorem vj {a:Int}(h0:0<=a)(h:a<=4611686018427387904):aH .add .i64 a 1=a+1:=by simp only[aH,wrap64];omega
theorem zero_eq (p:aQ)(n:Int)(h:p.order=n):((p.order==n)&&((p.bC==0)&&((p.aT==0)&&((p.aX==0)&&true))))=jt p:=by
 rw[Bool.eq_iff_iff];unfold jt;simp[h]
theorem CG (p:aQ)(x:au):(dV p x).order=p.order:=rfl
abbrev vl (B:cV):aF×Int:=if B.why≠0 then(BH,B.why)else(B.af,0)
theorem ja (b:aF)(w:Int)(x:au)(h:w≠0):oX ⟨b,w⟩ x=some ⟨b,w⟩:=by
 unfold oX;simp only[qv,Option.bind_some,ai,bne_iff_ne];simp[h]
theorem zh {b:aF}(h:bO b)(x:au)(hx:eH x=true):∃B,oX ⟨b,0⟩ x=some B/\vl B=j6 b x:=by
 have hc:=h.cnt x.order;have h1:=h.qo;have h2:=h.rK;have hl:=nt aQ.order b.aK x.order;unfold oX j6;simp only[qv,qu h,zb _ _ hc hx,DE h,Option.bind_some,true_and];by_cases l2:b.ak.length>=16384
 ·rw[if_pos l2];have e0:(ai .geq (Int.ofNat b.ak.length) 16384=true)=True:=by simp[ai];omega
  simp only[e0,if_true];exact⟨_,if_pos (by simp[ai]),rfl⟩
 rw[if_neg l2];have e0:(ai .geq (Int.ofNat b.ak.length) 16384=true)=False:=by simp[ai];omega
 simp only[e0,if_false,true_and];rw[if_neg (by simp[ai])];have hcap:decide ((b.ak++[x]).length*24<=140737488355328)=true:=decide_eq_true (by simp;omega);have hz:=zero_eq (dV (aG b x.order) x) x.order (kH b x.order);simp only[hcap,if_true,hz];have fin:∀l,l=fu b.aK (dV (aG b x.order) x)->vl ⟨⟨l,b.ak++[x]⟩,if(!wg (dV (aG b x.order) x))=true then 5 else 0⟩=if wg (dV (aG b x.order) x)=true then(⟨fu b.aK (dV (aG b x.order) x),b.ak++[x]⟩,0)else(BH,5):=by
  rintro l rfl;cases wg (dV (aG b x.order) x)<;>simp[vl]
 have ho:(dV (aG b x.order) x).order=x.order:=kH b x.order
 cases hf:bq aQ.order b.aK x.order with
 |none=>
  rw[if_neg (by simp)];cases hn:jt (dV (aG b x.order) x)with
  |true=>
   rw[if_neg (by simp)];refine⟨_,rfl,fin _ ?_⟩;unfold fu;rw[if_pos hn,ho,filter_none _ _ _ hf]
  |false=>
   rw[if_pos (by simp),if_pos (by rw[decide_eq_true_eq];omega)];refine⟨_,rfl,fin _ ?_⟩;unfold fu iw;rw[if_neg (by simp[hn]),ho,hf,if_neg (by simp),Int.toNat_natCast]
 |some p=>
  have hlt:=(List.getElem?_eq_some_iff.1 (fj aQ.order h.rising hf)).1;rw[if_pos (by rfl),if_pos (by rw[decide_eq_true_eq,vj (by omega) (by omega)];omega)];rw[Int.toNat_natCast];cases hn:jt (dV (aG b x.order) x)with
  |true=>
   rw[if_neg (by simp)];refine⟨_,rfl,fin _ ?_⟩;unfold fu;rw[if_pos hn,ho,qw h.rising hf]
  |false=>
   rw[if_pos (by simp),if_pos (by rw[decide_eq_true_eq,List.length_eraseIdx_of_lt hlt];omega)];refine⟨_,rfl,fin _ ?_⟩;unfold fu iw;rw[if_neg (by simp[hn]),ho,hf,if_pos (by rfl),aaC _ _ _ hlt]
end Go.Proofs.aaa
end
section
namespace Go.Proofs.aaa
open Go.bA Go.IntWalk
theorem abC {α:Type}(key:α->Int)(c:α){step:(Bool×List α)->Int->α->Option ((Bool×List α)⊕Empty)}{l:List α}(b0:Bool)(hl:l.length<=1000000)
  (h:∀(j:Int) x s,0<=j->l[j.toNat]?=some x->s.2.length<=2000002->step s j x=some (.inl ((U key c (s.2,s.1) x).2,(U key c (s.2,s.1) x).1))):bh step l (b0,[])=some (.inl ((l.foldl (U key c) ([],b0)).2,(l.foldl (U key c) ([],b0)).1)):=by
 rw[rL (λs _ x=>.inl ((U key c (s.2,s.1) x).2,(U key c (s.2,s.1) x).1)) (λj s=>0<=j/\(s.2.length:Int)<=2*j) (by omega) ⟨by omega,by simp⟩]
 ·congr 1
  suffices∀(l:List α) i (s:List α×Bool),oI (ρ:=Empty) (λ(s:Bool×List α) _ x=>Sum.inl ((U key c (s.2,s.1) x).2,(U key c (s.2,s.1) x).1)) l i (s.2,s.1)=.inl ((l.foldl (U key c) s).2,(l.foldl (U key c) s).1) from this l 0 ([],b0)
  intro l
  induction l with
  |nil=>intro i s;rfl
  |cons x l ih=>intro i s;rw[oI];exact ih (i+1) (U key c (s.1,s.2) x)
 ·intro j x s hj hx hI;have hlt:=(List.getElem?_eq_some_iff.1 hx).1;refine⟨h j x s hj hx (by have:=hI.2;omega),λs' hs'=> ?_⟩;cases hs';refine⟨by omega, ?_⟩;have:=hI.2;unfold U;split<;>split<;>simp<;>omega
theorem S1 {α:Type}(key:α->Int)(c:α):∀(l acc:List α),l.foldl (U key c) (acc,true)=(acc++l.filter (λq=>decide (key q≠key c)),true)
 |[],acc=>by simp
 |x::l,acc=>by
  rw[List.foldl_cons];by_cases h:key x=key c
  ·rw[show U key c (acc,true) x=(acc,true) by simp[U,h],S1 key c l acc,List.filter_cons_of_neg (by simp[h])]
  ·rw[show U key c (acc,true) x=(acc++[x],true) by simp[U,h],S1 key c l _,List.filter_cons_of_pos (by simp[h])];simp
theorem abD {b:aF}(h:bO b)(x:au)(hx:eH x=true):abX b x=some (j6 b x):=by
 have h1:=h.qo;have h2:=h.rK;unfold abX j6;rw[fK];by_cases l2:b.ak.length>=16384
 ·rw[if_pos (by simp[ai];omega),if_pos l2]
 rw[if_neg (by simp[ai];omega),if_neg l2];simp only[List.nil_append];rw[if_pos (decide_eq_true (by omega)),if_pos (decide_eq_true (by simp;omega))];rw[abA _ _ (by simp;omega) (λy hy=>by rcases List.mem_append.1 hy with hy|hy;exact h.i_ y hy;rw[List.mem_singleton]at hy;rw[hy];exact hx),h.aaB];cases hb:wg (dV (aG b x.order) x)with
 |false=>simp
 |true=>
  have ho:(dV (aG b x.order) x).order=x.order:=kH b x.order;simp only[if_true,Option.bind_some,Bool.not_true,Bool.false_eq_true,if_false,abB];generalize hp:dV (aG b x.order) x=p at ho⊢;rw[abC aQ.order p (jt p) (by omega),Option.bind_some]
  ·dsimp only;unfold fu;have hle:=E2 aQ.order p b.aK ([],jt p)
   cases hn:jt p with
   |true=>
    rw[S1];simp
   |false=>
    have hd:=S0 aQ.order p h.rising;rw[hn]at hle
    cases hq:(b.aK.foldl (U aQ.order p) ([],false)).2 with
    |true=>simp only[hq]at hd⊢;simp[<-hd]
    |false=>
     simp only[hq]at hd⊢;simp at hd hle⊢;exact⟨by omega,hd⟩
  ·intro j y s hj hy hlen;obtain⟨put,acc⟩:=s;simp only at hlen;unfold U;have c1:∀z:List aQ,z.length<=3000000->decide (z.length*32<=140737488355328)=true:=λz hz=>decide_eq_true (by omega);have c2:=c1 (acc++[p]) (by simp;omega);have c3:=c1 ((acc++[p])++[y]) (by simp;omega);have c4:=c1 (acc++[y]) (by simp;omega);simp only[c2,c3,c4,if_true,ai,ho,bne_iff_ne,decide_eq_true_eq]
   cases put with
   |true=>
    by_cases h5:y.order=x.order
    ·simp[h5]
    ·simp[h5]
   |false=>
    by_cases h5:y.order=x.order
    ·simp[h5]
    ·by_cases h6:y.order>=x.order
     ·simp[h5,h6]
     ·simp[h5,h6]
end Go.Proofs.aaa
end
section
namespace Go.Proofs.aaa
open Go.bA Go.IntWalk
abbrev gH (n:Int):Prop:=1<=n/\n<=1024
abbrev A1 (n:Int):Prop:=1<=n/\n<=1152921504606846976
def ju (b:aF)(order n:Int):aF×Int:=
 if gH order then if A1 n then if(aG b order).bC>0 then(BH,9)else j6 b ⟨order,1,2,n⟩else(BH,2)else(BH,2)
def di (b:aF)(order dst:Int):aF×Int×Int:=
 if gH order then if(aG b order).bC=0 then(BH,0,9)else if(j6 b ⟨order,2,dst,(aG b order).bC⟩).2≠0 then(BH,0,(j6 b ⟨order,2,dst,(aG b order).bC⟩).2)else((j6 b ⟨order,2,dst,(aG b order).bC⟩).1,(aG b order).bC,0)else(BH,0,2)
def ez (b:aF)(order n:Int):aF×Int:=
 if gH order then if A1 n then if(aG b order).aT -(aG b order).aX<n then(BH,13)else j6 b ⟨order,3,1,n⟩else(BH,2)else(BH,2)
theorem vn {B:cV}{v:aF×Int}(h:vl B=v):(if ai .neq B.why 0=true then some (BH,B.why)else some (B.af,0))=some v:=by
 subst h;by_cases hw:B.why=0<;>simp[vl,ai,hw]
theorem A2 {B:cV}{v:aF×Int}(n:Int)(h:vl B=v):(if ai .neq B.why 0=true then some (BH,(0:Int),B.why)else some (B.af,n,(0:Int)))=some (if v.2≠0 then(BH,0,v.2)else(v.1,n,0)):=by
 subst h;by_cases hw:B.why=0<;>simp[vl,ai,hw]
theorem abE {b:aF}(h:bO b)(n:Int):abW b n=some (if gH n then 0 else 2):=by
 have h1:=h.qo;have h2:=h.rK;unfold abW;rw[acL b (by omega) (by omega),jH h,Option.bind_some,if_pos (by rfl),aaA,Option.bind_some];by_cases ho:gH n<;>simp[ho]
theorem adf {b:aF}(h:bO b)(order n:Int):acA b order n=some (ju b order n):=by
 have h1:=h.qo;unfold acA ju;rw[abE h,Option.bind_some];by_cases ho:gH order
 ·rw[if_pos ho,if_pos ho,if_neg (by simp[ai])];by_cases hn:A1 n
  ·rw[if_pos hn,if_neg (by simp[ai];omega),if_neg (by simp[ai];omega),Hy b _ (by omega),Option.bind_some];by_cases hp:(aG b order).bC>0
   ·rw[if_pos hp,if_pos (by simpa[ai]using hp)]
   ·rw[if_neg hp,if_neg (by simpa[ai]using hp),abD h _ (by rw[dH];simp;omega)];rfl
  ·rw[if_neg hn];by_cases h3:n<1
   ·rw[if_pos (by simpa[ai]using h3)]
   ·rw[if_neg (by simpa[ai]using h3),if_pos (by simp[ai];omega)]
 ·rw[if_neg ho,if_neg ho,if_pos (by simp[ai])]
theorem J1 {b:aF}(h:bO b)(order n:Int):Gx b order n=some (ju b order n):=by
 have h1:=h.qo;have h2:=h.rK;unfold Gx ju;rw[vh b (by omega) (by omega),jH h,Option.bind_some,if_pos (decide_eq_true (by omega)),if_pos (decide_eq_true (by omega)),if_pos (by rfl),nW,Option.bind_some];simp only[ze,qv,qu h,Option.bind_some];by_cases ho:gH order
 ·rw[if_neg (by simp[ho]),if_pos ho];by_cases hn:A1 n
  ·rw[if_pos hn];by_cases hp:(aG b order).bC>0
   ·simp only[hn,hp,ai,decide_true,Bool.not_true,Bool.false_eq_true,and_false,if_false,and_true,if_true];rw[ja _ _ _ (by decide),Option.bind_some];rfl
   ·simp only[hn,hp,ai,decide_true,decide_false,Bool.not_true,Bool.false_eq_true,and_false,if_false,and_true];obtain⟨B,hB,hv⟩:=zh h ⟨order,1,2,n⟩ (by rw[dH];simp;omega);rw[hB,Option.bind_some];exact vn hv
  ·rw[if_neg hn];simp only[hn,decide_false,Bool.not_false,and_true,if_true];rw[if_neg (by simp),ja _ _ _ (by decide),Option.bind_some];rfl
 ·rw[if_pos (by simp only[ho];rfl),if_neg ho];rw[ja _ _ _ (by simp),Option.bind_some];simp[ai]
theorem J2 {b:aF}(h:bO b)(order:Int):Cg b order=some (if gH order then(aG b order,0)else(⟨0,0,0,0⟩,2)):=by
 have h1:=h.qo;have h2:=h.rK;unfold Cg;rw[vh b (by omega) (by omega),jH h,Option.bind_some,if_pos (decide_eq_true (by omega)),if_pos (decide_eq_true (by omega)),if_pos (by rfl),nW,Option.bind_some];by_cases ho:gH order
 ·rw[if_neg (by simp[ho]),if_pos ho,qu h];rfl
 ·rw[if_pos (by simp only[ho];rfl),if_neg ho]
theorem sR {b:aF}(h:bO b){order dst:Int}(ho:gH order)(hd:dst=1\/dst=3)(hp:(aG b order).bC≠0):eH ⟨order,2,dst,(aG b order).bC⟩=true:=by
 have h1:=(h.bC order).1;have h2:=h.cnt order;rw[dH];refine⟨ho.1,ho.2, ?_,h2.2.1, ?_⟩
 ·show 1<=(aG b order).bC;omega
 ·simp;omega
theorem ab_ {b:aF}(h:bO b)(order dst:Int)(hd:dst=1\/dst=3):acm b order dst=some (di b order dst):=by
 have h1:=h.qo;unfold acm di;rw[abE h,Option.bind_some,Hy b _ (by omega),Option.bind_some];by_cases ho:gH order
 ·rw[if_pos ho,if_pos ho,if_pos (by rfl)];by_cases hp:(aG b order).bC=0
  ·rw[if_pos hp,if_pos (by simpa[ai]using hp)]
  ·rw[if_neg hp,if_neg (by simpa[ai]using hp),abD h _ (sR h ho hd hp),Option.bind_some];by_cases hv:(j6 b ⟨order,2,dst,(aG b order).bC⟩).2=0<;>simp[ai,hv]
 ·rw[if_neg ho,if_neg ho,if_neg (by simp[ai])]
theorem DF {b:aF}(h:bO b)(order dst:Int)(hd:dst=1\/dst=3):Ey b order dst=some (di b order dst):=by
 have h1:=h.qo;have h2:=h.rK;unfold Ey di;rw[vh b (by omega) (by omega),jH h,Option.bind_some,if_pos (decide_eq_true (by omega)),if_pos (decide_eq_true (by omega)),if_pos (by rfl),nW,Option.bind_some];simp only[qv,qu h,Option.bind_some];by_cases ho:gH order
 ·rw[if_neg (by simp[ho]),if_pos ho];by_cases hp:(aG b order).bC=0
  ·rw[if_pos hp,if_pos (by simp[ai,hp]),ja _ _ _ (by decide),Option.bind_some];rfl
  ·rw[if_neg hp,if_neg (by simp[ai,hp])];obtain⟨B,hB,hv⟩:=zh h _ (sR h ho hd hp);rw[hB,Option.bind_some];exact(A2 _ hv).trans (by split<;>rfl)
 ·rw[if_pos (by simp only[ho];rfl),if_neg ho,if_neg (by simp)];rw[ja _ _ _ (by decide),Option.bind_some];rfl
theorem adg {b:aF}(h:bO b)(order:Int):acB b order=some (di b order 1):=by unfold acB;rw[ab_ h _ _ (.inl rfl)];rfl
theorem adh {b:aF}(h:bO b)(order:Int):acC b order=some (di b order 3):=by unfold acC;rw[ab_ h _ _ (.inr rfl)];rfl
theorem J3 {b:aF}(h:bO b)(order:Int):GB b order=some (di b order 1):=by unfold GB;rw[DF h _ _ (.inl rfl)];rfl
theorem J4 {b:aF}(h:bO b)(order:Int):GC b order=some (di b order 3):=by unfold GC;rw[DF h _ _ (.inr rfl)];rfl
theorem Hz {b:aF}(h:bO b)(n:Int):aH .sub .i64 (aG b n).aT (aG b n).aX=(aG b n).aT -(aG b n).aX:=by
 have h2:=h.cnt n;simp only[aH,wrap64];omega
theorem adi {b:aF}(h:bO b)(order n:Int):acD b order n=some (ez b order n):=by
 have h1:=h.qo;unfold acD ez;rw[abE h,Option.bind_some,Hy b _ (by omega),Option.bind_some,Hz h];by_cases ho:gH order
 ·rw[if_pos ho,if_pos ho,if_neg (by simp[ai])];by_cases hn:A1 n
  ·rw[if_pos hn,if_neg (by simp[ai];omega),if_neg (by simp[ai];omega)];by_cases hp:(aG b order).aT -(aG b order).aX<n
   ·rw[if_pos hp,if_pos (by simpa[ai]using hp)]
   ·rw[if_neg hp,if_neg (by simpa[ai]using hp),abD h _ (by rw[dH];simp;omega)];rfl
  ·rw[if_neg hn];by_cases h3:n<1
   ·rw[if_pos (by simpa[ai]using h3)]
   ·rw[if_neg (by simpa[ai]using h3),if_pos (by simp[ai];omega)]
 ·rw[if_neg ho,if_neg ho,if_pos (by simp[ai])]
theorem J5 {b:aF}(h:bO b)(order n:Int):GD b order n=some (ez b order n):=by
 have h1:=h.qo;have h2:=h.rK;unfold GD ez;rw[vh b (by omega) (by omega),jH h,Option.bind_some,if_pos (decide_eq_true (by omega)),if_pos (decide_eq_true (by omega)),if_pos (by rfl),nW,Option.bind_some];simp only[ze,qv,qu h,Option.bind_some,Hz h];by_cases ho:gH order
 ·rw[if_neg (by simp[ho]),if_pos ho];by_cases hn:A1 n
  ·rw[if_pos hn];by_cases hp:(aG b order).aT -(aG b order).aX<n
   ·simp only[hn,hp,ai,decide_true,Bool.not_true,Bool.false_eq_true,and_false,if_false,and_true,if_true];rw[ja _ _ _ (by decide),Option.bind_some];rfl
   ·simp only[hn,hp,ai,decide_true,decide_false,Bool.not_true,Bool.false_eq_true,and_false,if_false,and_true];obtain⟨B,hB,hv⟩:=zh h ⟨order,3,1,n⟩ (by rw[dH];simp;omega);rw[hB,Option.bind_some];exact vn hv
  ·rw[if_neg hn];simp only[hn,decide_false,Bool.not_false,and_true,if_true];rw[if_neg (by simp),ja _ _ _ (by decide),Option.bind_some];rfl
 ·rw[if_pos (by simp only[ho];rfl),if_neg ho];rw[ja _ _ _ (by simp),Option.bind_some];simp[ai]
end Go.Proofs.aaa
end
section
namespace Go.Proofs.aaa
open Go.bA Go.IntWalk
theorem xH:∀(l:List ah)(i last:Int),gY (ρ:=Unit) (λ(s1:Int)(_:Int)(x5:ah)=>
  if(ai .leq x5.order s1)=true then some (.inr ())else if(ai .gtr x5.order 1024)=true then some (.inr ())else if(ai .eql x5.state 0)=true then some (.inr ())else if(ai .geq x5.state 7)=true then some (.inr ())else some (.inl x5.order)) l i last
  =some (if fR last l=true then .inl ((l.getLast?.map ah.order).getD last)else .inr ())
 |[],_,_=>rfl
 |x::l,i,last=>by
  rw[gY,fR];by_cases h1:x.order<=last
  ·rw[if_pos (by simpa[ai]using h1),if_neg (by simp;omega)];rfl
  rw[if_neg (by simpa[ai]using h1)];by_cases h2:x.order>1024
  ·rw[if_pos (by simpa[ai]using h2),if_neg (by simp;omega)];rfl
  rw[if_neg (by simpa[ai]using h2)];by_cases h3:x.state=0
  ·rw[if_pos (by simpa[ai]using h3),if_neg (by simp[h3])];rfl
  rw[if_neg (by simpa[ai]using h3)];by_cases h4:x.state>=7
  ·rw[if_pos (by simpa[ai]using h4),if_neg (by simp;omega)];rfl
  rw[if_neg (by simpa[ai]using h4),Option.bind_some];dsimp only;rw[xH l (i+1) x.order,decide_eq_true (by omega:last<x.order),decide_eq_true (by omega:x.order<=1024),decide_eq_true h3,decide_eq_true (by omega:x.state<7)];simp only[Bool.true_and]
  cases l with
  |nil=>rfl
  |cons y l=>simp[List.getLast?_cons_cons];rw[List.getLast?_cons];simp
theorem Ng (l:List ah)(hl:l.length<=4611686018427387904):O4 l=some (Nh l):=by
 unfold O4;rw[bh,if_pos (decide_eq_true hl),xH,Option.bind_some];unfold Nh;cases fR 0 l<;>rfl
theorem acM (l:List ah)(hl:l.length<=4611686018427387904)(hw:∀x∈l,0<=x.state):g70 l=some (Nh l):=by
 unfold g70 Nh;rw[fK];by_cases l1:(l.length:Int)>1024
 ·rw[if_pos (by simpa[ai]using l1),if_neg];intro h;have:=j8 (Int.le_refl 0) (by decide) h;omega
 rw[if_neg (by simpa[ai]using l1)];rw[pz (λi (x:ah)=>decide (1<=x.order/\x.order<=1024/\1<=x.state/\x.state<7)&&(decide (i<=0)||match l[(i -1).toNat]? with|some d=>decide (d.order<x.order)|none=>false)) () hl,Option.bind_some]
 ·have hk:allI (λi (x:ah)=>decide (1<=x.order/\x.order<=1024/\1<=x.state/\x.state<7)&&(decide (i<=0)||match l[(i -1).toNat]? with|some d=>decide (d.order<x.order)|none=>false)) l 0=true↔fR 0 l=true:=by
   rw[jY];constructor
   ·intro h;have hr:bU ah.order l:=kT _ λj x y hx hy=>by
     have:=h (j+1) y hy;rw[Bool.and_eq_true]at this;have h3:=this.2;rw[decide_eq_false (by omega),show((0:Int)+((j+1:Nat):Int) -1).toNat=j by omega,hx]at h3;simpa using h3
    have hf:∀x∈l,1<=x.order/\x.order<=1024/\1<=x.state/\x.state<7:=λx hx=>by
     obtain⟨j,hj⟩:=List.mem_iff_getElem?.1 hx;have:=h j x hj;rw[Bool.and_eq_true,decide_eq_true_eq]at this;exact this.1
    clear h
    suffices∀(l:List ah)(last:Int),bU ah.order l->(∀x∈l,last<x.order)->(∀x∈l,1<=x.order/\x.order<=1024/\1<=x.state/\x.state<7)->fR last l=true from this l 0 hr (λx hx=>by have:=hf x hx;omega) hf
    intro l
    induction l with
    |nil=>intros;rfl
    |cons x l ih=>
     intro last hr hl hf;obtain⟨r1,r2⟩:=List.pairwise_cons.1 hr;have h1:=hf x List.mem_cons_self;have h2:=hl x List.mem_cons_self;rw[fR,ih x.order r2 r1 (λy hy=>hf y (List.mem_cons_of_mem _ hy)),decide_eq_true h2,decide_eq_true h1.2.1,decide_eq_true (by omega:x.state≠0),decide_eq_true h1.2.2.2];rfl
   ·intro h j x hx;obtain⟨hr,hf⟩:=kL h;have hm:=List.mem_of_getElem? hx;have h1:=hf x hm;have h2:=hw x hm;rw[decide_eq_true (by omega),Bool.true_and,Bool.or_eq_true]
    cases j with
    |zero=>left;simp
    |succ j=>
     right;have hlt:=(List.getElem?_eq_some_iff.1 hx).1;have hy:=List.getElem?_eq_getElem (show j<l.length by omega);rw[show((0:Int)+((j+1:Nat):Int) -1).toNat=j by omega,hy];have:=u7 hr hy hx;simpa using this
  by_cases h:fR 0 l=true
  ·rw[if_pos (hk.2 h),if_pos h]
  ·rw[if_neg (λh'=>h (hk.1 h')),if_neg h]
 ·intro j x h0 hx;have hj:j<=4611686018427387904:=by have:=(List.getElem?_eq_some_iff.1 hx).1;omega
  simp only[ai,decide_eq_true_eq];by_cases c:1<=x.order/\x.order<=1024/\1<=x.state/\x.state<7
  ·rw[if_neg (by omega),if_neg (by omega),if_neg (by omega),if_neg (by omega),decide_eq_true c];by_cases hj0:0<j
   ·rw[if_pos (by omega)];obtain⟨y,⟨hy,ha⟩|JS⟩:=AP h0 hx hj0
    ·rw[ha,hy,Option.bind_some];by_cases c3:y.order>=x.order
     ·rw[if_pos c3,if_neg (by simp;omega)]
     ·rw[if_neg c3,if_pos (by simp;omega)]
    ·omega
   ·rw[if_neg (by omega),if_pos (by simp;omega)]
  ·simp only[decide_eq_false c,Bool.false_and,Bool.false_eq_true,if_false]
   repeat' (refine mg (λ_=> ?_) (λ_=> ?_))
   all_goals first|rfl|(exfalso;omega)
theorem adj (m:Int):acr m=some (decide (1<=m/\m<7)):=by
 simp only[acr,ai,decide_eq_true_eq,ge_iff_le];refine mg (λh=> ?_) (λh=> ?_)<;>simp[h]
theorem adk (m:Int):acs m=some (ya m):=by
 simp only[acs,ai,beq_iff_eq,ya]
 repeat' (refine mg (λ_=> ?_) (λ_=> ?_))
 all_goals (rw[Option.some.injEq,Bool.eq_iff_iff];simp;try omega)
theorem adl (s m:Int):abw s m=some (ig s m):=by
 simp only[abw,ai,beq_iff_eq,ig]
 repeat' (refine mg (λ_=> ?_) (λ_=> ?_))
 all_goals (first|(exfalso;omega)|(rw[Option.some.injEq];(repeat' split)<;>omega))
end Go.Proofs.aaa
end
section
namespace Go.Proofs.aaa
open Go.bA Go.IntWalk
theorem adm (l:List ah)(n:Int)(hl:l.length<=4611686018427387904)(hw:∀x∈l,0<=x.state):acu l n=some (Bs l n,sX l n):=by
 unfold acu Bs sX;rw[acM l hl hw,Option.bind_some];unfold Nh;by_cases h1:fR 0 l=true
 ·rw[if_pos h1,if_neg (by simp[ai])];by_cases h2:n<1
  ·rw[if_pos (by simpa[ai]using h2),if_neg (by omega),if_neg (by omega)]
  rw[if_neg (by simpa[ai]using h2)];by_cases h3:n>1024
  ·rw[if_pos (by simpa[ai]using h3),if_neg (by omega),if_neg (by omega)]
  rw[if_neg (by simpa[ai]using h3),if_pos ⟨h1,by omega,by omega⟩,if_pos ⟨h1,by omega,by omega⟩];rw[nu (λp=>p.order==n) ah.state hl]
  ·unfold cz bq;cases l.find? (λp=>p.order==n)<;>rfl
  ·intro j x _ _;simp only[ai];by_cases h:x.order=n<;>simp[h]
 ·rw[if_neg h1,if_pos (by simp[ai]),if_neg (λh=>h1 h.1),if_neg (λh=>h1 h.1)]
theorem adn (l:List ah)(n:Int)(c:ah)(hc:c.order=n)(k:Option Int)(hk:k=some c.state)(hl:l.length<=1024)(hs:bU ah.order l):
  ((bh (λ(_5:(List ah)×Bool)(_:Int)(Sc:ah)=>
       if(!_5.2)=true then
        if(ai .geq Sc.order n)=true then
         k.bind λmO=>
         if(decide ((_5.1++[(⟨n,mO⟩:ah)]).length*16<=140737488355328))=true then
          if(ai .neq Sc.order n)=true then
           if(decide (((_5.1++[(⟨n,mO⟩:ah)])++[Sc]).length*16<=140737488355328))=true then
            some (.inl (((_5.1++[(⟨n,mO⟩:ah)])++[Sc]),true))
           else none
          else
           some (.inl ((_5.1++[(⟨n,mO⟩:ah)]),true))
         else none
        else
         if(ai .neq Sc.order n)=true then
          if(decide ((_5.1++[Sc]).length*16<=140737488355328))=true then
           some (.inl ((_5.1++[Sc]),_5.2))
          else none
         else
          some (.inl (_5.1,_5.2))
       else
        if(ai .neq Sc.order n)=true then
         if(decide ((_5.1++[Sc]).length*16<=140737488355328))=true then
          some (.inl ((_5.1++[Sc]),_5.2))
         else none
        else
         some (.inl (_5.1,_5.2))) l ([],false):Option (((List ah)×Bool)⊕(Empty))).bind λR33=>
      match R33 with
      | .inl s34=>
       if(!s34.2)=true then
        k.bind λU3=>
        if(decide ((s34.1++[(⟨n,U3⟩:ah)]).length*16<=140737488355328))=true then
         some ((s34.1++[(⟨n,U3⟩:ah)]),(0:Int))
        else none
       else
        some (s34.1,0)
      | .inr r_=>r_.elim)=some (iw ah.order l c,0):=by
 subst hk;have mF:(⟨n,c.state⟩:ah)=c:=by rw[<-hc]
 simp only[Option.bind_some,mF];rw[S3 ah.order c (by omega),Option.bind_some]
 ·dsimp only;have hd:=S0 ah.order c hs;have hle:=E2 ah.order c l ([],false)
  cases hp:(l.foldl (U ah.order c) ([],false)).2 with
  |true=>simp only[hp]at hd⊢;simp[<-hd]
  |false=>
   simp only[hp]at hd⊢;simp at hd hle⊢;exact⟨by omega,hd⟩
 ·intro j y s hj hy hlen;obtain⟨acc,put⟩:=s;simp only at hlen;unfold U;have c1:∀z:List ah,z.length<=3000000->decide (z.length*16<=140737488355328)=true:=λz hz=>decide_eq_true (by omega);have c2:=c1 (acc++[c]) (by simp;omega);have c3:=c1 ((acc++[c])++[y]) (by simp;omega);have c4:=c1 (acc++[y]) (by simp;omega);simp only[c2,c3,c4,if_true,ai,hc,bne_iff_ne,decide_eq_true_eq]
  cases put with
  |true=>
   by_cases h5:y.order=n
   ·simp[h5]
   ·simp[h5]
  |false=>
   by_cases h5:y.order=n
   ·simp[h5]
   ·by_cases h6:y.order>=n
    ·simp[h5,h6]
    ·simp[h5,h6]
theorem ado (l:List ah)(n m v:Int)(hl:l.length<=4611686018427387904)(hw:∀x∈l,0<=x.state):acv l n m v=some (dz l n m v,fE l n m v):=by
 unfold acv;rw[adm l n hl hw,Option.bind_some];by_cases h0:fR 0 l=true/\1<=n/\n<=1024
 ·have e1:sX l n=0:=if_pos h0;have e2:Bs l n=cz l n:=if_pos h0;have hlen:l.length<=1024:=by have:=j8 (Int.le_refl 0) (by decide) h0.1;omega
  have hr:=(kL h0.1).1;have hs7:cz l n<7:=by
   unfold cz;split
   ·rename_i x hx;exact((kL h0.1).2 x (b_ _ hx).1).2.2.2
   ·decide
  rw[if_neg (by simp[ai,e1]),adj,Option.bind_some,e2];unfold dz fE;rw[if_neg (show¬sX l n≠0 by omega)];by_cases h1:1<=m/\m<7
  ·rw[if_neg (by simp[h1])];by_cases h2:v>=2
   ·rw[if_pos (by simpa[ai]using h2),if_pos h2,if_neg (by decide)]
   rw[if_neg (by simpa[ai]using h2),if_neg h2,adl,Option.bind_some];unfold iX;rw[if_neg (show¬(cz l n>=7\/m<=0\/m>=7) by omega)];by_cases h3:ig (cz l n) m=0
   ·rw[if_pos (by simpa[ai]using h3),if_pos h3];rfl
   rw[if_neg (by simpa[ai]using h3),if_neg h3,if_neg (show¬((0:Int)≠0) by decide),adk,Option.bind_some];have hlp:=adn l n ⟨n,ig (cz l n) m⟩ rfl (some (ig (cz l n) m)) rfl hlen hr
   cases h4:ya m with
   |true=>
    rw[if_pos rfl];by_cases h5:v=1
    ·have e:(if true=true/\v=1 then(10:Int)else 0)=10:=if_pos ⟨rfl,h5⟩;rw[if_pos (by simpa[ai]using h5),e];rfl
    ·have e:(if true=true/\v=1 then(10:Int)else 0)=0:=if_neg (λh=>h5 h.2);rw[if_neg (by simpa[ai]using h5),e,if_pos rfl];exact hlp
   |false=>
    have e:(if false=true/\v=1 then(10:Int)else 0)=0:=if_neg (λh=>by cases h.1);rw[e,if_pos (rfl:(0:Int)=0),if_neg (by decide)];exact hlp
  ·rw[if_pos (by simp;omega)];by_cases h2:v>=2
   ·rw[if_pos h2,if_neg (by decide)]
   rw[if_neg h2];unfold iX;rw[if_pos (show(cz l n>=7\/m<=0\/m>=7) by omega)];rfl
 ·have e1:sX l n=2:=if_neg h0;rw[if_pos (by simp[ai,e1])];unfold dz fE;rw[e1];rfl
theorem CH (l:List ah)(n m v:Int)(hl:l.length<=1000000000000)(hw:∀x∈l,0<=x.state):jA l n m v=some (dz l n m v,fE l n m v):=by
 unfold jA;rw[if_pos (decide_eq_true ⟨hl,hw⟩)]
end Go.Proofs.aaa
end
section
namespace Go.Proofs.aaa
open Go.bA Go.IntWalk
section
variable{α κ:Type}(lt:κ->κ->Bool)(key:α->κ)(rP:α->Bool)
def vo:κ->List α->Bool
 |_,[]=>true
 |last,x::l=>lt last (key x)&&rP x&&vo (key x) l
theorem qx (tr:∀a b c,lt a b=true->lt b c=true->lt a c=true):∀{l:List α}{last:κ},vo lt key rP last l=true↔(l.Pairwise λx y=>lt (key x) (key y)=true)/\∀x∈l,lt last (key x)=true/\rP x=true
 |[],_=>by simp[vo]
 |x::l,last=>by
  rw[vo,Bool.and_eq_true,Bool.and_eq_true,qx tr,List.pairwise_cons];constructor
  ·rintro⟨⟨h1,h2⟩,h3,h4⟩;refine⟨⟨λy hy=>(h4 y hy).1,h3⟩,λy hy=> ?_⟩;rcases List.mem_cons.1 hy with rfl|hy
   ·exact⟨h1,h2⟩
   ·exact⟨tr _ _ _ h1 (h4 y hy).1,(h4 y hy).2⟩
  ·rintro⟨⟨h1,h2⟩,h3⟩;have:=h3 x List.mem_cons_self;exact⟨⟨this.1,this.2⟩,h2,λy hy=>⟨h1 y hy,(h3 y (List.mem_cons_of_mem _ hy)).2⟩⟩
theorem vp {step:κ->Int->α->Option (κ⊕Unit)}:∀(l:List α)(i:Int)(last:κ),(∀s i x,x∈l->step s i x=some (if lt s (key x)=true/\rP x=true then .inl (key x)else .inr ()))->
  ∃s,gY step l i last=some (if vo lt key rP last l=true then .inl s else .inr ())
 |[],_,last,_=>⟨last,rfl⟩
 |x::l,i,last,h=>by
  obtain⟨s,hs⟩:=vp l (i+1) (key x) (λs i y hy=>h s i y (List.mem_cons_of_mem _ hy));refine⟨s, ?_⟩;rw[gY,h _ _ _ List.mem_cons_self,vo];by_cases h1:lt last (key x)=true/\rP x=true
  ·rw[if_pos h1,Option.bind_some,h1.1,h1.2];exact hs
  ·rw[if_neg h1,if_neg]
   ·rfl
   ·intro h2;rw[Bool.and_eq_true,Bool.and_eq_true]at h2;exact h1 h2.1
theorem vq {step:κ->Int->α->Option (κ⊕Unit)}{l:List α}{last:κ}(hl:l.length<=4611686018427387904)(h:∀s i x,x∈l->step s i x=some (if lt s (key x)=true/\rP x=true then .inl (key x)else .inr ())):
  ∃s,bh step l last=some (if vo lt key rP last l=true then .inl s else .inr ()):=by
 rw[bh,if_pos (decide_eq_true hl)];exact vp lt key rP l 0 last h
def abd (l:List α)(i:Int)(x:α):Bool:=rP x&&(decide (i<=0)||match l[(i -1).toNat]? with|some d=>lt (key d) (key x)|none=>false)
theorem Q1 (tr:∀a b c,lt a b=true->lt b c=true->lt a c=true):∀{l:List α},(∀(j:Nat) x y,l[j]?=some x->l[j+1]?=some y->lt (key x) (key y)=true)->l.Pairwise λx y=>lt (key x) (key y)=true
 |[],_=>.nil
 |[x],_=>List.pairwise_singleton _ _
 |x::y::l,h=>by
  have ih:=Q1 tr (l:=y::l) λj a b ha hb=>h (j+1) a b (by simpa using ha) (by simpa using hb);refine List.pairwise_cons.2 ⟨λz hz=> ?_,ih⟩;have hxy:=h 0 x y rfl rfl;rcases List.mem_cons.1 hz with rfl|hz
  ·exact hxy
  ·exact tr _ _ _ hxy ((List.pairwise_cons.1 ih).1 z hz)
theorem acN (tr:∀a b c,lt a b=true->lt b c=true->lt a c=true){l:List α}:allI (abd lt key rP l) l 0=true↔(l.Pairwise λx y=>lt (key x) (key y)=true)/\∀x∈l,rP x=true:=by
 rw[jY];constructor
 ·intro h;refine⟨Q1 lt key tr λj x y hx hy=> ?_,λx hx=> ?_⟩
  ·have:=h (j+1) y hy;unfold abd at this;rw[Bool.and_eq_true]at this;have h3:=this.2;rw[decide_eq_false (by omega),show((0:Int)+((j+1:Nat):Int) -1).toNat=j by omega,hx]at h3;simpa using h3
  ·obtain⟨j,hj⟩:=List.mem_iff_getElem?.1 hx;have:=h j x hj;unfold abd at this;rw[Bool.and_eq_true]at this;exact this.1
 ·rintro⟨h1,h2⟩ j x hx;unfold abd;rw[h2 x (List.mem_of_getElem? hx),Bool.true_and,Bool.or_eq_true]
  cases j with
  |zero=>left;simp
  |succ j=>
   right;obtain⟨hlt,rfl⟩:=List.getElem?_eq_some_iff.1 hx;have hy:=List.getElem?_eq_getElem (show j<l.length by omega);rw[show((0:Int)+((j+1:Nat):Int) -1).toNat=j by omega,hy];exact List.pairwise_iff_getElem.1 h1 j (j+1) (by omega) hlt (by omega)
theorem acd (tr:∀a b c,lt a b=true->lt b c=true->lt a c=true){acO:α->Bool}{last:κ}{l:List α}(hf:∀x∈l,(lt last (key x)=true/\rP x=true)↔acO x=true):vo lt key rP last l=allI (abd lt key acO l) l 0:=by
 rw[Bool.eq_iff_iff,qx lt key rP tr,acN lt key acO tr];constructor
 ·rintro⟨h1,h2⟩;exact⟨h1,λx hx=>(hf x hx).1 (h2 x hx)⟩
 ·rintro⟨h1,h2⟩;exact⟨h1,λx hx=>(hf x hx).2 (h2 x hx)⟩
end
theorem Ni (a b:UInt8):a<b\/a=b\/b<a:=by
 rcases Nat.lt_trichotomy a.toNat b.toNat with h|h|h
 ·exact .inl (UInt8.lt_iff_toNat_lt.2 h)
 ·exact .inr (.inl (UInt8.toNat_inj.1 h))
 ·exact .inr (.inr (UInt8.lt_iff_toNat_lt.2 h))
theorem Q6 {a b c:UInt8}(h1:a<b)(h2:b<c):a<c:=by
 rw[UInt8.lt_iff_toNat_lt]at*;omega
theorem zi {a b:UInt8}(h1:a<b)(h2:b<a):False:=by
 rw[UInt8.lt_iff_toNat_lt]at*;omega
theorem tW (a:UInt8):¬a<a:=λh=>zi h h
theorem qy (a b:UInt8)(x y:List UInt8):Op.bytesLess (a::x) (b::y)=true↔a<b\/a=b/\Op.bytesLess x y=true:=by
 rw[Op.bytesLess];simp
theorem Ly:∀{a b c:List UInt8},Op.bytesLess a b=true->Op.bytesLess b c=true->Op.bytesLess a c=true
 |_,_,[],_,h=>by simp[Op.bytesLess]at h
 |_,[],_::_,h,_=>by simp[Op.bytesLess]at h
 |[],_::_,_::_,_,_=>by simp[Op.bytesLess]
 |a::x,b::y,c::z,h1,h2=>by
  rw[qy]at*;rcases h1 with h1|⟨rfl,h1⟩
  ·rcases h2 with h2|⟨rfl,h2⟩
   ·exact .inl (Q6 h1 h2)
   ·exact .inl h1
  ·rcases h2 with h2|⟨rfl,h2⟩
   ·exact .inl h2
   ·exact .inr ⟨rfl,Ly h1 h2⟩
theorem HA:∀(a b:List UInt8),(Op.bytesLess a b=true/\Lib.compareBytes a b=-1/\a≠b/\Op.bytesLess b a=false)\/(a=b/\Lib.compareBytes a b=0/\Op.bytesLess a b=false)\/(Op.bytesLess b a=true/\Lib.compareBytes a b=1/\a≠b/\Op.bytesLess a b=false)
 |[],[]=>by simp[Op.bytesLess,Lib.compareBytes]
 |[],_::_=>by simp[Op.bytesLess,Lib.compareBytes]
 |_::_,[]=>by simp[Op.bytesLess,Lib.compareBytes]
 |a::x,b::y=>by
  rcases Ni a b with h|rfl|h
  ·refine .inl ⟨(qy ..).2 (.inl h),by simp[Lib.compareBytes,h],λe=>by cases e;exact tW _ h, ?_⟩;rw[<-Bool.not_eq_true,qy];rintro(h2|⟨rfl,-⟩)
   ·exact zi h h2
   ·exact tW _ h
  ·have e:Lib.compareBytes (a::x) (a::y)=Lib.compareBytes x y:=by simp[Lib.compareBytes]
   have e1:∀u v,Op.bytesLess (a::u) (a::v)=Op.bytesLess u v:=λu v=>by simp[Op.bytesLess]
   rw[e,e1,e1];rcases HA x y with⟨h1,h2,h3,h4⟩|⟨rfl,h2⟩|⟨h1,h2,h3,h4⟩
   ·exact .inl ⟨h1,h2,λe=>h3 (by cases e;rfl),h4⟩
   ·exact .inr (.inl ⟨rfl,h2⟩)
   ·exact .inr (.inr ⟨h1,h2,λe=>h3 (by cases e;rfl),h4⟩)
  ·refine .inr (.inr ⟨(qy ..).2 (.inl h),by simp only[Lib.compareBytes];rw[if_neg (λh2=>zi h h2),if_pos h],λe=>by cases e;exact tW _ h, ?_⟩);rw[<-Bool.not_eq_true,qy];rintro(h2|⟨rfl,-⟩)
   ·exact zi h h2
   ·exact tW _ h
theorem CI {a b:ByteArray}(h:a.data.toList=b.data.toList):a=b:=by
 cases a;cases b;congr 1;exact Array.toList_inj.1 h
theorem vr (a b:ByteArray):dA .eql a b=decide (a=b):=by
 unfold dA;rw[Lib.toList_data,Lib.toList_data,Bool.eq_iff_iff];simp only[beq_iff_eq,decide_eq_true_eq];exact⟨CI,λh=>by rw[h]⟩
theorem acP (a b:ByteArray):dA .geq a b= !dA .lss a b:=rfl
theorem HB (a b:ByteArray):dA .neq a b= !dA .eql a b:=rfl
theorem HC (a b:ByteArray):dA .leq a b=(dA .lss a b||dA .eql a b):=rfl
theorem vt (a b c:ByteArray):dA .lss a b=true->dA .lss b c=true->dA .lss a c=true:=λh1 h2=>Ly h1 h2
theorem lH (a b:ByteArray):(dA .lss a b=true/\pW a b=some (-1)/\a≠b/\dA .lss b a=false)\/(a=b/\pW a b=some 0/\dA .lss a b=false/\dA .lss b a=false)\/(dA .lss b a=true/\pW a b=some 1/\a≠b/\dA .lss a b=false):=by
 unfold dA pW;rw[Lib.toList_data,Lib.toList_data];rcases HA a.data.toList b.data.toList with⟨h1,h2,h3,h4⟩|⟨h1,h2,h3⟩|⟨h1,h2,h3,h4⟩
 ·exact .inl ⟨h1,by rw[h2],λe=>h3 (by rw[e]),h4⟩
 ·have:=CI h1;subst this;exact .inr (.inl ⟨rfl,by rw[h2],h3,h3⟩)
 ·exact .inr (.inr ⟨h1,by rw[h2],λe=>h3 (by rw[e]),h4⟩)
theorem J6 (a b:ByteArray):dA .leq a b= !dA .lss b a:=by
 rw[HC,vr];rcases lH a b with⟨h1,-,h3,h4⟩|⟨rfl,-,h3,h4⟩|⟨h1,-,h3,h4⟩
 ·rw[h1,h4];rfl
 ·rw[h3];simp
 ·rw[h4,h1,decide_eq_false h3];rfl
theorem xI (a:ByteArray):dA .lss ByteArray.empty a=decide (a≠ByteArray.empty):=by
 unfold dA;rw[Lib.toList_data,Lib.toList_data,Bool.eq_iff_iff,decide_eq_true_eq];have e:ByteArray.empty.data.toList=[]:=rfl;rw[e]
 cases h:a.data.toList with
 |nil=>simp only[Op.bytesLess,Bool.false_eq_true,false_iff];intro h2;exact h2 (CI h)
 |cons x l=>simp only[Op.bytesLess,true_iff];rintro rfl;cases h
end Go.Proofs.aaa
end
section
namespace Go.Proofs.aaa
open Go.bA Go.IntWalk
def jb (x:aU):Bool:=decide (1<=x.item/\x.item<=1024/\1<=x.aE/\x.aE<=1024)
def dW (l:List aU):Int×Int:=
 if l.length=0 then(0,2)else if(∀x∈l,jb x=true)then(if tF l≠0 then(0,tF l)else if rR l<1 then(0,2)else if rR l>1152921504606846976 then(0,5)else(rR l,0))else(0,2)
theorem CJ (l:List aU):((q9 l).bind λAa=>
   if(ai .neq Aa.2 0)=true then some ((0:Int),Aa.2)else if(ai .lss Aa.1 1)=true then some (0,2)else if(ai .gtr Aa.1 1152921504606846976)=true then some (0,5)else some (Aa.1,0))
  =some (if tF l≠0 then(0,tF l)else if rR l<1 then(0,2)else if rR l>1152921504606846976 then(0,5)else(rR l,0)):=by
 unfold q9;rw[Option.bind_some];simp only[ai,bne_iff_ne,decide_eq_true_eq]
 repeat' split
 all_goals first|rfl|(exfalso;omega)|simp_all
theorem HD {α:Type}{p:α->Bool}{l:List α}:allI (λ_ x=>p x) l 0=true↔∀x∈l,p x=true:=by
 rw[jY];constructor
 ·intro h x hx;obtain⟨j,hj⟩:=List.mem_iff_getElem?.1 hx;exact h j x hj
 ·intro h j x hx;exact h x (List.mem_of_getElem? hx)
theorem acQ (l:List aU)(hl:l.length<=4611686018427387904):g71 l=some (dW l):=by
 unfold g71 dW;rw[fK];by_cases h0:l.length=0
 ·rw[if_pos (by simp[ai,h0]),if_pos h0]
 rw[if_neg (by simp only[ai,beq_iff_eq];omega),if_neg h0];rw[pz (λ_ x=>jb x) () hl,Option.bind_some]
 ·by_cases h:∀x∈l,jb x=true
  ·rw[if_pos h,if_pos (HD.2 h)];exact CJ l
  ·rw[if_neg h,if_neg (λh'=>h (HD.1 h'))]
 ·intro j x _ _;simp only[ai,decide_eq_true_eq,jb];by_cases c:1<=x.item/\x.item<=1024/\1<=x.aE/\x.aE<=1024
  ·rw[if_neg (by omega),if_neg (by omega),if_neg (by omega),if_neg (by omega),if_pos c]
  ·simp only[c,if_false]
   repeat' (refine mg (λ_=> ?_) (λ_=> ?_))
   all_goals first|rfl|(exfalso;omega)
theorem DG (n m:Int):B0 n m=some (decide (1<=n/\n<=m)):=by
 simp only[B0,ai,decide_eq_true_eq,ge_iff_le];refine mg (λh=> ?_) (λh=> ?_)<;>simp[h]
theorem DH (l:List aU)(hl:l.length<=4611686018427387904):Ci l=some (dW l):=by
 unfold Ci dW;rw[fK];by_cases h0:l.length=0
 ·rw[if_pos (by simp[ai,h0]),if_pos h0]
 rw[if_neg (by simp only[ai,beq_iff_eq];omega),if_neg h0];refine nw (cP (λj (_:Unit)=>∀x∈l.take j,jb x=true) (λ(r:Int)=>0<=r/\¬∀x∈l,jb x=true) hl (by simp) ?_) (λs hs=> ?_) (λr hr=> ?_)
 ·intro j x s hx hi;have hm:=List.mem_of_getElem? hx;simp only[DG,Option.bind_some];by_cases c1:1<=x.item/\x.item<=1024
  ·rw[if_neg (by simp[c1])];by_cases c2:1<=x.aE/\x.aE<=1024
   ·rw[if_neg (by simp[c2])];refine .inl ⟨(),rfl,λy hy=> ?_⟩;rw[take_one hx]at hy;rcases List.mem_append.1 hy with hy|hy
    ·exact hi y hy
    ·rw[List.mem_singleton]at hy;subst hy;unfold jb;rw[decide_eq_true_eq];omega
   ·rw[if_pos (by simp only[c2];rfl)];refine .inr ⟨j,rfl,by omega,λh=> ?_⟩;have:=h x hm;unfold jb at this;rw[decide_eq_true_eq]at this;omega
  ·rw[if_pos (by simp only[c1];rfl)];refine .inr ⟨j,rfl,by omega,λh=> ?_⟩;have:=h x hm;unfold jb at this;rw[decide_eq_true_eq]at this;omega
 ·rw[List.take_length]at hs;rw[if_pos hs];exact CJ l
 ·dsimp only;rw[if_neg hr.2,if_pos (by simpa[ai]using hr.1)]
def fo (x:Order):Bool:=decide (x.id<=1024/\dW x.lines=(x.aP,0)/\x.status≠0/\x.status<8)
abbrev J7 (a b:Int):Bool:=decide (a<b)
theorem Nj (a b c:Int):J7 a b=true->J7 b c=true->J7 a c=true:=by simp only[decide_eq_true_eq];omega
abbrev jc (l:List Order):Bool:=vo J7 Order.id fo 0 l
theorem Nk (l:List Order)(hl:l.length<=4611686018427387904)(FX:∀x∈l,x.lines.length<=4611686018427387904):O8 l=some (jc l):=by
 unfold O8;obtain⟨s,hs⟩:=vq (step:=λ(s1:Int)(i3:Int)(x5:Order)=>
  (Ci x5.lines).bind λp9=>
  if(ai .leq x5.id s1)=true then some (.inr ())else if(ai .gtr x5.id 1024)=true then some (.inr ())else if(ai .neq p9.2 0)=true then some (.inr ())else
    if(ai .neq p9.1 x5.aP)=true then some (.inr ())else if(ai .eql x5.status 0)=true then some (.inr ())else if(ai .geq x5.status 8)=true then some (.inr ())else some (.inl x5.id)) J7 Order.id fo (last:=0) hl (λs i x hx=>by
   rw[DH _ (FX x hx),Option.bind_some];simp only[ai,bne_iff_ne,beq_iff_eq,decide_eq_true_eq,J7,fo,Prod.ext_iff]
   repeat' split
   all_goals first|rfl|(exfalso;omega)|simp_all)
 rw[hs,Option.bind_some];unfold jc;cases vo J7 Order.id fo 0 l<;>rfl
def gZ (x:Kept):Bool:=decide (x.mark.size<=64/\0<=x.cH.why/\x.cH.why<=15/\x.cH.status<8/\0<=x.cH.ax)
abbrev kV (l:List Kept):Bool:=decide (l.length<=4096)&&vo (dA .lss) Kept.mark gZ ByteArray.empty l
theorem Nl (l:List Kept)(hl:l.length<=4611686018427387904):Pa l=some (kV l):=by
 unfold Pa;rw[fK];obtain⟨s,hs⟩:=vq (l:=l) (step:=λ(s1:ByteArray)(i3:Int)(x5:Kept)=>
  if(ai .geq x5.cH.why 0)=true then
   if(ai .leq x5.cH.why 15)=true then
    if(ai .lss x5.cH.status 8)=true then
     if(dA .leq x5.mark s1)=true then some (.inr ())else if(ai .gtr ((x5.mark).size:Int) 64)=true then some (.inr ())else if(!(ai .geq x5.cH.ax 0))=true then some (.inr ())else some (.inl x5.mark)
    else if(dA .leq x5.mark s1)=true then some (.inr ())else if(ai .gtr ((x5.mark).size:Int) 64)=true then some (.inr ())else some (.inr ())
   else if(dA .leq x5.mark s1)=true then some (.inr ())else if(ai .gtr ((x5.mark).size:Int) 64)=true then some (.inr ())else some (.inr ())
  else if(dA .leq x5.mark s1)=true then some (.inr ())else if(ai .gtr ((x5.mark).size:Int) 64)=true then some (.inr ())else some (.inr ())) (dA .lss) Kept.mark gZ (last:=ByteArray.empty) hl (λs i x hx=>by
   simp only[ai,J6,decide_eq_true_eq,gZ,Bool.not_eq_true',decide_eq_false_iff_not];cases hc:dA .lss s x.mark
   ·simp only[Bool.false_eq_true,false_and,if_false]
    repeat' (refine mg (λ_=> ?_) (λ_=> ?_))
    all_goals first|rfl|(exfalso;simp_all;done)
   ·simp only[true_and]
    repeat' (refine mg (λ_=> ?_) (λ_=> ?_))
    all_goals first|(exfalso;simp_all;done)|(rw[if_pos (by omega)];done)|(rw[if_neg (by omega)];done))
 rw[hs,Option.bind_some];unfold kV;cases vo (dA .lss) Kept.mark gZ ByteArray.empty l
 ·simp
 ·simp[ai];omega
end Go.Proofs.aaa
end
section
namespace Go.Proofs.aaa
open Go.bA Go.IntWalk
def gI (st:Int):Int:=if st=1 then 1 else if st=4 then 2 else if st=6 then 3 else 0
theorem DI (s:Int):Ez s=some (gI s):=by
 simp only[Ez,beq_iff_eq,gI]
 repeat' split
 all_goals first|rfl|(exfalso;omega)
theorem ace (s:Int):abM s=some (gI s):=by
 simp only[abM,ai,beq_iff_eq,gI]
 repeat' split
 all_goals first|rfl|(exfalso;omega)
theorem bR {l:List Order}:jc l=true↔bU Order.id l/\∀x∈l,0<x.id/\fo x=true:=by
 unfold jc;rw[qx J7 Order.id fo Nj];simp only[J7,decide_eq_true_eq]
def vu (os:List Order)(x:aC):Bool:=decide (cF x.kind x.pos x.aO=0)&&cw x.kind x.pos x.aO&&(match bq Order.id os x.order with|some o=>decide (gI o.status=x.kind)|none=>false)
abbrev eX (l:List aC)(n:Int):Nat:=l.countP λx=>decide (x.order=n)
def mu (l:List aC)(o:Order):Bool:=if gI o.status=0 then decide (eX l o.id=0)else decide (eX l o.id=1)
def hU (s:State):Bool:=(s.aj.all λx=>vu s.aa x)&&(s.aa.all λo=>mu s.aj o)
theorem HE {α:Type}{p:α->Bool}{l:List α}:allI (λ_ x=>p x) l 0=l.all p:=by
 rw[Bool.eq_iff_iff,HD,List.all_eq_true]
theorem abR {α:Type}{step:Int->Int->α->Option (Int⊕Empty)}{l:List α}(p:α->Bool)(hl:l.length<=4611686018427387904)(h:∀s i x,0<=s->s<=4611686018427387904->step s i x=some (.inl (if p x=true then s+1 else s))):bh step l 0=some (.inl ((l.countP p:Nat):Int)):=by
 rcases cP (step:=step) (s0:=0) (λj s=>s=(((l.take j).countP p:Nat):Int)) (λ_=>False) hl (by simp) (λj x s hx hi=>by
  have hle:(l.take j).countP p<=4611686018427387904:=Nat.le_trans List.countP_le_length (by rw[List.length_take];omega);refine .inl ⟨_,h s j x (by omega) (by omega), ?_⟩;rw[take_one hx,List.countP_append,List.countP_singleton];subst hi;split<;>simp)with⟨s',e,hi⟩|⟨r,-,hb⟩
 ·rw[e,hi,List.take_length]
 ·exact hb.elim
theorem Nm (s:State)(n:Int)(hl:s.aa.length<=4611686018427387904):Qv s n=some (match bq Order.id s.aa n with|some o=>(o,true)|none=>(⟨0,[],0,0⟩,false)):=by
 unfold Qv;rw[nu (λp=>p.id==n) id hl]
 ·unfold bq;cases s.aa.find? (λp=>p.id==n)<;>rfl
 ·intro j x _ _;simp only[ai];by_cases h:x.id=n<;>simp[h]
theorem adJ (s:State)(ho:s.aa.length<=4611686018427387904)(hs:s.aj.length<=4611686018427387904):g72 s=some (hU s):=by
 unfold g72 hU;rw[pz (λ_ x=>vu s.aa x) () hs,Option.bind_some,HE]
 ·cases h1:s.aj.all λx=>vu s.aa x with
  |false=>rfl
  |true=>
   rw[if_pos rfl];dsimp only;rw[pz (λ_ x=>mu s.aj x) () ho,Option.bind_some,HE]
   ·cases h2:s.aa.all λx=>mu s.aj x<;>rfl
   ·intro j x _ _;rw[abR (λy=>decide (y.order=x.id)) hs,Option.bind_some]
    ·simp only[ace,Option.bind_some,ai,beq_iff_eq,bne_iff_ne,mu];by_cases hk:gI x.status=0
     ·simp only[hk,if_true];by_cases hc:eX s.aj x.id=0
      ·simp[hc]
      ·simp[hc]
     ·simp only[hk,if_false];by_cases hc:eX s.aj x.id=1
      ·simp[hc]
      ·have tG:((eX s.aj x.id:Nat):Int)≠1:=by omega
       simp[hk,hc,tG]
    ·intro n i y h0 h1;have e:aH .add .i64 n 1=n+1:=vj h0 h1;simp only[ai,e];by_cases hy:y.order=x.id<;>simp[hy]
 ·intro j x _ _;simp only[hnext,Nm s _ ho,ace,Option.bind_some,ai,bne_iff_ne,vu];by_cases h1:cF x.kind x.pos x.aO=0
  ·by_cases h2:cw x.kind x.pos x.aO=true
   ·obtain⟨q,h3⟩:∃q,bq Order.id s.aa x.order=q:=⟨_,rfl⟩;simp only[h3]
    cases q with
    |none=>simp[h1,h2]
    |some o=>by_cases h4:gI o.status=x.kind<;>simp[h1,h2,h4]
   ·simp[h1,h2]
  ·simp[h1]
end Go.Proofs.aaa
end
section
namespace Go.Proofs.aaa
open Go.bA Go.IntWalk
theorem mw (l:List Order)(n:Int)(hl:l.length<=1000000000000)(hr:bU Order.id l):uD l n=some (((eO Order.id l n:Nat):Int),(bq Order.id l n).isSome):=by
 unfold uD Gu;rw[if_pos (decide_eq_true ⟨hl,hr⟩)];rfl
theorem Nn (s:State)(ho:s.aa.length<=1000000000000)(hr:bU Order.id s.aa)(hs:s.aj.length<=4611686018427387904):O9 s=some (hU s):=by
 unfold O9;refine nw (cP (λj (m:List (Int×Int))=>(∀x∈s.aj.take j,vu s.aa x=true)/\jl m/\∀n,ck m n=if eX (s.aj.take j) n=0 then none else some ((eX (s.aj.take j) n:Nat):Int)) (λ_=>hU s=false) hs ⟨by simp,by simp[jl],by intro n;simp[ck]⟩ ?_) (λm hm=> ?_) (λ_ hb=>by rw[hb])
 ·rintro j x m hx ⟨i1,i2,i3⟩;refine vg (vu s.aa x=true) (iI m x.order ((eX (s.aj.take j) x.order:Nat)+1)) () ?_ (λhB=>⟨λy hy=> ?_,(vb m _ _ i2).1,λn=> ?_⟩) (λh=> ?_)
  ·have hle:eX (s.aj.take j) x.order<=4611686018427387904:=Nat.le_trans List.countP_le_length (by rw[List.length_take];omega);have tail:(ou (ck m x.order) (λOa=>some (.inl (iI m x.order (aH .add .i64 Oa 1)))) (some (.inl (iI m x.order 1))):Option (List (Int×Int)⊕Unit))=some (.inl (iI m x.order ((eX (s.aj.take j) x.order:Nat)+1))):=by
    rw[i3 x.order];by_cases h0:eX (s.aj.take j) x.order=0
    ·rw[if_pos h0,h0];rfl
    ·rw[if_neg h0];simp only[ou];rw[vj (by omega) (by omega)]
   simp only[hnext,mw _ _ ho hr,DI,Option.bind_some,ai,bne_iff_ne,vu,tail];by_cases h1:cF x.kind x.pos x.aO=0
   ·by_cases h2:cw x.kind x.pos x.aO=true
    ·obtain⟨q,h3⟩:∃q,bq Order.id s.aa x.order=q:=⟨_,rfl⟩;simp only[h3]
     cases q with
     |none=>simp[h1,h2]
     |some o=>
      have hg:=fj Order.id hr h3;rw[cT (x:=o) (by omega) (by rw[Int.toNat_natCast];exact hg)];by_cases h4:gI o.status=x.kind<;>simp[h1,h2,h4]
    ·simp[h1,h2]
   ·simp[h1]
  ·rw[take_one hx]at hy;rcases List.mem_append.1 hy with hy|hy
   ·exact i1 y hy
   ·rw[List.mem_singleton]at hy;subst hy;exact hB
  ·rw[va,take_one hx,i3];have e:eX (s.aj.take j++[x]) n=eX (s.aj.take j) n+if x.order=n then 1 else 0:=by
    rw[eX,List.countP_append,List.countP_singleton];simp
   rw[e];by_cases hn:n=x.order
   ·subst hn;simp
   ·rw[if_neg hn,if_neg (show¬x.order=n fromλh=>hn h.symm),Nat.add_zero]
  ·unfold hU;rw[Bool.and_eq_false_iff];left;rw[<-Bool.not_eq_true,List.all_eq_true];exactλh'=>h (h' x (List.mem_of_getElem? hx))
 ·obtain⟨i1,i2,i3⟩:=hm;rw[List.take_length]at i1 i3;dsimp only;have e:hU s=s.aa.all λo=>mu s.aj o:=by
   unfold hU;rw[List.all_eq_true.2 i1,Bool.true_and]
  rw[e,pz (λ_ x=>mu s.aj x) () (by omega),Option.bind_some,HE]
  ·cases s.aa.all λx=>mu s.aj x<;>rfl
  ·intro j x _ _;rw[DI,Option.bind_some,i3 x.id];unfold mu;by_cases h0:eX s.aj x.id=0
   ·rw[if_pos h0];by_cases hk:gI x.status=0<;>simp[ou,ai,hk,h0]
   ·rw[if_neg h0];simp only[ou,ai];by_cases h1:eX s.aj x.id=1
    ·by_cases hk:gI x.status=0<;>simp[hk,h1]
    ·have h2:((eX s.aj x.id:Nat):Int)>1:=by omega
     have h3:((eX s.aj x.id:Nat):Int)≠1:=by omega
     by_cases hk:gI x.status=0
     ·have:decide (((eX s.aj x.id:Nat):Int)>1)=true:=decide_eq_true h2;simp[hk,h3,h0,this]
     ·simp[hk,h1];intro _;omega
structure Typed (s:State):Prop where
 cells:s.cells.length<=4611686018427387904
 aK:s.af.aK.length<=4611686018427387904
 i_:s.af.ak.length<=4611686018427387904
 aA:s.aA.length<=4611686018427387904
 aa:s.aa.length<=4611686018427387904
 lines:∀x∈s.aa,x.lines.length<=4611686018427387904
 aj:s.aj.length<=4611686018427387904
 kept:s.kept.length<=4611686018427387904
 eP:∀x∈s.aA,0<=x.state
 aad:∀x∈s.aa,0<=x.status
structure bY (s:State):Prop where
 limit:0<=s.limit/\s.limit<=1024
 wO:(s.aa.length:Int)<=s.limit
 kept:kV s.kept=true
 cells:b7 s.cells=true
 af:bO s.af
 aA:fR 0 s.aA=true
 aa:jc s.aa=true
 aj:hU s=true
open Classical in
noncomputable def kW (s:State):Int:=if bY s then 0 else 9
theorem lI {s:State}(h:bY s):kW s=0:=by unfold kW;rw[if_pos h]
theorem dX {s:State}(h:¬bY s):kW s=9:=by unfold kW;rw[if_neg h]
theorem zj (s:State)(t:Typed s):K2 s=some (kW s):=by
 unfold K2;rw[fK];by_cases c1:s.limit<0
 ·rw[if_pos (by simpa[ai]using c1),dX (λh=>by have:=h.limit;omega)]
 rw[if_neg (by simpa[ai]using c1)];by_cases c2:s.limit>1024
 ·rw[if_pos (by simpa[ai]using c2),dX (λh=>by have:=h.limit;omega)]
 rw[if_neg (by simpa[ai]using c2)];by_cases c3:(s.aa.length:Int)>s.limit
 ·rw[if_pos (by simpa[ai]using c3),dX (λh=>by have:=h.wO;omega)]
 rw[if_neg (by simpa[ai]using c3),Nl _ t.kept,Option.bind_some];by_cases c4:kV s.kept=true
 case neg=>rw[if_pos (by rw[Bool.not_eq_true'];simpa only[Bool.not_eq_true]using c4),dX (λh=>c4 h.kept)]
 rw[if_neg (by simp only[c4];decide),Hu _ t.cells,Option.bind_some];by_cases c5:b7 s.cells=true
 case neg=>rw[if_pos (by simp[ai,pE,c5]),dX (λh=>c5 h.cells)]
 rw[if_neg (by simp[ai,pE,c5]),vh _ t.aK t.i_,Option.bind_some];by_cases c6:bO s.af
 case neg=>rw[iO c6,if_pos (by rfl),dX (λh=>c6 h.af)]
 rw[jH c6,if_neg (by decide),Ng _ t.aA,Option.bind_some];by_cases c7:fR 0 s.aA=true
 case neg=>rw[if_pos (by simp[ai,Nh,c7]),dX (λh=>c7 h.aA)]
 rw[if_neg (by simp[ai,Nh,c7]),Nk _ t.aa t.lines,Option.bind_some];by_cases c8:jc s.aa=true
 case neg=>rw[if_pos (by rw[Bool.not_eq_true'];simpa only[Bool.not_eq_true]using c8),dX (λh=>c8 h.aa)]
 rw[if_neg (by simp only[c8];decide),Nn _ (by omega) (bR.1 c8).1 t.aj,Option.bind_some];by_cases c9:hU s=true
 ·rw[if_neg (by simp only[c9];decide),lI ⟨by omega,by omega,c4,c5,c6,c7,c8,c9⟩]
 ·rw[if_pos (by rw[Bool.not_eq_true'];simpa only[Bool.not_eq_true]using c9),dX (λh=>c9 h.aj)]
end Go.Proofs.aaa
end
section
namespace Go.Proofs.aaa
open Go.bA Go.IntWalk
def g8 (x:Order):Bool:=decide (1<=x.id/\x.id<=1024/\dW x.lines=(x.aP,0)/\1<=x.status/\x.status<8)
def eo (x:Kept):Bool:=decide (x.mark≠ByteArray.empty/\x.mark.size<=64/\0<=x.cH.why/\x.cH.why<=15/\x.cH.status<8/\0<=x.cH.ax)
theorem abZ {l:List Order}(h:∀x∈l,0<=x.status):jc l=allI (abd J7 Order.id g8 l) l 0:=
 acd J7 Order.id fo Nj λx hx=>by
  have:=h x hx;simp only[J7,fo,g8,decide_eq_true_eq];constructor
  ·rintro⟨h1,h2,h3,h4,h5⟩;exact⟨by omega,h2,h3,by omega,h5⟩
  ·rintro⟨h1,h2,h3,h4,h5⟩;exact⟨by omega,h2,h3,by omega,h5⟩
theorem acR (l:List Kept):vo (dA .lss) Kept.mark gZ ByteArray.empty l=allI (abd (dA .lss) Kept.mark eo l) l 0:=
 acd (dA .lss) Kept.mark gZ vt λx hx=>by
  rw[xI];simp only[gZ,eo,decide_eq_true_eq]
theorem abe (s:State)(t:Typed s):Zp s=some (kW s):=by
 unfold Zp;rw[fK,fK];by_cases c1:s.limit<0
 ·rw[if_pos (by simpa[ai]using c1),dX (λh=>by have:=h.limit;omega)]
 rw[if_neg (by simpa[ai]using c1)];by_cases c2:s.limit>1024
 ·rw[if_pos (by simpa[ai]using c2),dX (λh=>by have:=h.limit;omega)]
 rw[if_neg (by simpa[ai]using c2)];by_cases c3:(s.aa.length:Int)>s.limit
 ·rw[if_pos (by simpa[ai]using c3),dX (λh=>by have:=h.wO;omega)]
 rw[if_neg (by simpa[ai]using c3)];by_cases c4:(s.kept.length:Int)>4096
 ·rw[if_pos (by simpa[ai]using c4),dX (λh=>by
   have:=h.kept;unfold kV at this;rw[Bool.and_eq_true,decide_eq_true_eq]at this;omega)]
 rw[if_neg (by simpa[ai]using c4),acJ _ t.cells,Option.bind_some];by_cases c5:b7 s.cells=true
 case neg=>rw[if_pos (by simp[ai,pE,c5]),dX (λh=>c5 h.cells)]
 rw[if_neg (by simp[ai,pE,c5]),acL _ t.aK t.i_,Option.bind_some];by_cases c6:bO s.af
 case neg=>rw[iO c6,if_pos (by rfl),dX (λh=>c6 h.af)]
 rw[jH c6,if_neg (by decide),acM _ t.aA t.eP,Option.bind_some];by_cases c7:fR 0 s.aA=true
 case neg=>rw[if_pos (by simp[ai,Nh,c7]),dX (λh=>c7 h.aA)]
 rw[if_neg (by simp[ai,Nh,c7]),pz (abd J7 Order.id g8 s.aa) () t.aa,Option.bind_some,<-abZ t.aad]
 ·by_cases c8:jc s.aa=true
  case neg=>rw[if_neg c8,dX (λh=>c8 h.aa)]
  rw[if_pos c8];dsimp only;rw[pz (abd (dA .lss) Kept.mark eo s.kept) () t.kept,Option.bind_some,<-acR]
  ·by_cases c9:vo (dA .lss) Kept.mark gZ ByteArray.empty s.kept=true
   case neg=>
    rw[if_neg c9,dX (λh=>c9 (by
     have:=h.kept;unfold kV at this;rw[Bool.and_eq_true]at this;exact this.2))]
   rw[if_pos c9];dsimp only;rw[adJ _ t.aa t.aj,Option.bind_some];have hk:kV s.kept=true:=by unfold kV;rw[c9,decide_eq_true (by omega)];rfl
   by_cases c0:hU s=true
   ·rw[if_neg (by simp only[c0];decide),lI ⟨by omega,by omega,hk,c5,c6,c7,c8,c0⟩]
   ·rw[if_pos (by rw[Bool.not_eq_true'];simpa only[Bool.not_eq_true]using c0),dX (λh=>c0 h.aj)]
  ·intro j x h0 hx;have hj:j<=4611686018427387904:=by have:=(List.getElem?_eq_some_iff.1 hx).1;have:=t.kept;omega
   simp only[ai,decide_eq_true_eq,abd,vr];by_cases c:eo x=true
   ·have c':=c;unfold eo at c';rw[decide_eq_true_eq]at c';obtain⟨k1,k2,k3,k4,k5,k6⟩:=c';rw[if_neg k1,if_neg (by omega),if_neg (by omega),if_neg (by omega),if_neg (by omega),if_neg (by omega)];simp only[c,Bool.true_and];by_cases hj0:0<j
    ·rw[if_pos (by omega)];obtain⟨y,⟨hy,ha⟩|JS⟩:=AP h0 hx hj0
     ·rw[ha,hy,Option.bind_some,acP]
      cases hc:dA .lss y.mark x.mark with
      |true=>simp[hc]
      |false=>
       have:¬j<=0:=by omega
       simp[hc,this]
     ·omega
    ·have:j<=0:=by omega
     rw[if_neg (by omega)];simp[this]
   ·have hn:¬_:=λh=>c (by unfold eo;rw[decide_eq_true_eq];exact h);simp only[Bool.not_eq_true]at c;simp only[c,Bool.false_and,Bool.false_eq_true,if_false]
    repeat' (refine mg (λ_=> ?_) (λ_=> ?_))
    all_goals first|rfl|(exfalso;exact hn ⟨by assumption,by omega,by omega,by omega,by omega,by omega⟩)
 ·intro j x h0 hx;have hm:=List.mem_of_getElem? hx;have hj:j<=4611686018427387904:=by have:=(List.getElem?_eq_some_iff.1 hx).1;have:=t.aa;omega
  rw[acQ _ (t.lines x hm),Option.bind_some];simp only[ai,decide_eq_true_eq,bne_iff_ne,abd,g8,Prod.ext_iff];by_cases c:1<=x.id/\x.id<=1024/\((dW x.lines).1=x.aP/\(dW x.lines).2=0)/\1<=x.status/\x.status<8
  ·rw[if_neg (by omega),if_neg (by omega),decide_eq_true c];by_cases hj0:0<j
   ·rw[if_pos (by omega)];obtain⟨y,⟨hy,ha⟩|JS⟩:=AP h0 hx hj0
    ·rw[ha,hy,Option.bind_some];by_cases c3:y.id>=x.id
     ·rw[if_pos c3,if_neg (by simp[J7];omega)]
     ·rw[if_neg c3,if_neg (by omega),if_neg (by omega),if_neg (by omega),if_neg (by omega),if_pos (by simp[J7];omega)]
    ·omega
   ·rw[if_neg (by omega),if_neg (by omega),if_neg (by omega),if_neg (by omega),if_neg (by omega),if_pos (by simp;omega)]
  ·simp only[decide_eq_false c,Bool.false_and,Bool.false_eq_true,if_false];by_cases hj0:0<j
   ·obtain⟨y,⟨hy,ha⟩|JS⟩:=AP h0 hx hj0
    ·rw[ha];simp only[Option.bind_some]
     repeat' (refine mg (λ_=> ?_) (λ_=> ?_))
     all_goals first|rfl|(exfalso;omega)
    ·omega
   ·repeat' (refine mg (λ_=> ?_) (λ_=> ?_))
    all_goals first|rfl|(exfalso;omega)
end Go.Proofs.aaa
end
section
namespace Go.Proofs.aaa
open Go.bA Go.IntWalk
theorem adp (s:State)(t:Typed s):yJ s=VE s:=by
 unfold yJ VE;rw[zj s t,abe s t];rfl
structure bX (s:State):Prop where
 cells:s.cells.length*48<=140737488355328
 aK:s.af.aK.length*32<=140737488355328
 i_:s.af.ak.length*24<=140737488355328
 aA:s.aA.length*16<=140737488355328
 aa:s.aa.length*48<=140737488355328
 lines:∀x∈s.aa,x.lines.length*32<=140737488355328
 aj:s.aj.length*32<=140737488355328
 kept:s.kept.length*40<=140737488355328
 eP:∀x∈s.aA,0<=x.state
 aad:∀x∈s.aa,0<=x.status
theorem bX.typed {s:State}(h:bX s):Typed s where
 cells:=by have:=h.cells;omega
 aK:=by have:=h.aK;omega
 i_:=by have:=h.i_;omega
 aA:=by have:=h.aA;omega
 aa:=by have:=h.aa;omega
 lines:=λx hx=>by have:=h.lines x hx;omega
 aj:=by have:=h.aj;omega
 kept:=by have:=h.kept;omega
 eP:=h.eP
 aad:=h.aad
theorem Lz {n:Int}(h:(Lit.int .u8 n).wf=true):0<=n/\n<=255:=by
 simp only[Lit.wf,Bool.and_eq_true,decide_eq_true_eq]at h;have h1:IntKind.u8.min=0:=rfl;have h2:IntKind.u8.max=255:=rfl;rw[h1,h2]at h;exact h
theorem State.wf.sized {s:State}(h:s.wf):bX s:=by
 obtain⟨-,-,h1,⟨-,h2,-,h3⟩,h4,h5,h6,h7,-,h8,-,h9⟩:=h;have hr:reachBytes=140737488351232:=rfl;have e1:((td 68).get rfl).bytes=48:=rfl;have e2:((td 74).get rfl).bytes=32:=rfl;have e3:((td 139).get rfl).bytes=24:=rfl;have e4:((td 143).get rfl).bytes=16:=rfl;have e5:((td 72).get rfl).bytes=48:=rfl;have e6:((td 116).get rfl).bytes=32:=rfl;have e7:((td 102).get rfl).bytes=40:=rfl;have e8:((td 80).get rfl).bytes=32:=rfl;rw[e1]at h1;rw[e2]at h2;rw[e3]at h3;rw[e4]at h5;rw[e5]at h7;rw[e6]at h8;rw[e7]at h9;refine⟨by omega,by omega,by omega,by omega,by omega,λx hx=> ?_,by omega,by omega,λx hx=>(Lz (h4 x hx).2).1,λx hx=>(Lz (h6 x hx).2.2.2.2).1⟩;have:=(h6 x hx).2.2.1;rw[e8]at this;omega
theorem No (b:aF)(h1:b.aK.length*32<=140737488355328)(h2:b.ak.length*24<=140737488355328):Qt b=some b:=by
 unfold Qt;simp only[List.nil_append];rw[if_pos (decide_eq_true h1),if_pos (decide_eq_true h2)]
theorem Np (s:State)(h:bX s):M0 s=some s:=by
 unfold M0;simp only[List.nil_append];rw[if_pos (decide_eq_true h.cells),No _ h.aK h.i_,Option.bind_some,if_pos (decide_eq_true h.aA)];refine nw (cP (λj (o:List Order)=>o=s.aa.take j) (λ_=>False) h.typed.aa rfl ?_) (λo ho=> ?_) (λ_ hb=>hb.elim)
 ·intro j x o hx ho;have hj:=(List.getElem?_eq_some_iff.1 hx).1;have hc:=h.aa;refine .inl ⟨o++[x], ?_,by rw[ho,take_one hx]⟩;rw[if_pos (decide_eq_true (h.lines x (List.mem_of_getElem? hx))),if_pos (decide_eq_true (by rw[ho,List.length_append,List.length_take];simp;omega))]
 ·rw[List.take_length]at ho;subst ho;dsimp only;rw[if_pos (decide_eq_true h.aj),if_pos (decide_eq_true h.kept)]
end Go.Proofs.aaa
end
section
namespace Go.Proofs.aaa
open Go.bA Go.IntWalk
theorem J8 (p q:aC):((p.order==q.order)&&((p.kind==q.kind)&&((p.pos==q.pos)&&((p.aO==q.aO)&&true))))=decide (p=q):=by
 rw[Bool.eq_iff_iff];obtain⟨a,b,c,d⟩:=p;obtain⟨a',b',c',d'⟩:=q;simp
theorem CK (p q:au):((p.order==q.order)&&((p.sJ==q.sJ)&&((p.dst==q.dst)&&((p.ax==q.ax)&&true))))=decide (p=q):=by
 rw[Bool.eq_iff_iff];obtain⟨a,b,c,d⟩:=p;obtain⟨a',b',c',d'⟩:=q;simp
theorem J9 (p q:aU):((p.item==q.item)&&((p.aE==q.aE)&&((p.gF==q.gF)&&((p.unit==q.unit)&&true))))=decide (p=q):=by
 rw[Bool.eq_iff_iff];obtain⟨a,b,c,d⟩:=p;obtain⟨a',b',c',d'⟩:=q;simp
theorem J_ (p q:ah):((p.order==q.order)&&((p.state==q.state)&&true))=decide (p=q):=by
 rw[Bool.eq_iff_iff];obtain⟨a,b⟩:=p;obtain⟨a',b'⟩:=q;simp
theorem jI {α β:Type} [DecidableEq α]{a b:List α}(hl:a.length=b.length)(ha:a.length<=4611686018427387904){e:α->α->Bool}(he:∀x y,e x y=decide (x=y)){K:Unit⊕Unit->Option β}:
  ((bh (λ(_:Unit)(i:Int)(x:α)=>(fH b i).bind λy=>if(!e x y)=true then some (.inr ())else some (.inl ())) a ():Option (Unit⊕Unit))).bind K=if a=b then K (.inl ())else K (.inr ()):=by
 rw[rO (a:=a) (b:=b) hl ha (λi x y _ _ _ h=>by rw[h,Option.bind_some,he];by_cases hxy:x=y<;>simp[hxy]),Option.bind_some];split<;>rfl
theorem Nq (a b:List ah)(ha:a.length<=4611686018427387904):O5 a b=some (decide (a=b)):=by
 unfold O5;rw[fK,fK];by_cases hl:a.length=b.length
 ·rw[if_neg (by simp[ai,hl]),jI hl ha J_];by_cases h:a=b<;>simp[h]
 ·rw[if_pos (by simp[ai];omega),decide_eq_false (λh=>hl (by rw[h]))]
theorem Nr (a b:List aU)(ha:a.length<=4611686018427387904):Qw a b=some (decide (a=b)):=by
 unfold Qw;rw[fK,fK];by_cases hl:a.length=b.length
 ·rw[if_neg (by simp[ai,hl]),jI hl ha J9];by_cases h:a=b<;>simp[h]
 ·rw[if_pos (by simp[ai];omega),decide_eq_false (λh=>hl (by rw[h]))]
theorem Ns (a b:aF)(h1:a.aK.length<=4611686018427387904)(h2:a.ak.length<=4611686018427387904):Qu a b=some (decide (a=b)):=by
 unfold Qu;rw[fK,fK,fK,fK];obtain⟨a1,a2⟩:=a;obtain⟨b1,b2⟩:=b;simp only at h1 h2⊢;by_cases hl:a1.length=b1.length
 ·rw[if_neg (by simp[ai,hl])];by_cases hm:a2.length=b2.length
  ·rw[if_neg (by simp[ai,hm]),jI hl h1 CF];by_cases h:a1=b1
   ·rw[if_pos h];dsimp only;rw[jI hm h2 CK];by_cases h':a2=b2<;>simp[h,h']
   ·rw[if_neg h];simp[h]
  ·rw[if_pos (by simp[ai];omega)];simp;intro _ h;exact hm (by rw[h])
 ·rw[if_pos (by simp[ai];omega)];simp;intro h;exact absurd (by rw[h]) hl
end Go.Proofs.aaa
end
section
namespace Go.Proofs.aaa
open Go.bA Go.IntWalk
theorem Nt (a b:ByteArray):(a==b)=decide (a=b):=by
 obtain⟨a⟩:=a;obtain⟨b⟩:=b;have e:((⟨a⟩:ByteArray)==⟨b⟩)=(a==b):=by first|rfl|(simp only[BEq.beq,instBEqByteArray.beq];done)|(cases h:(a==b)<;>simp_all)
 rw[e,Bool.eq_iff_iff,beq_iff_eq,decide_eq_true_eq,ByteArray.mk.injEq]
theorem Ka (p q:Kept):((p.mark==q.mark)&&(((p.cH.why==q.cH.why)&&((p.cH.status==q.cH.status)&&((p.cH.ax==q.cH.ax)&&true)))&&true))=decide (p=q):=by
 rw[Bool.eq_iff_iff];obtain⟨a,b,c,d⟩:=p;obtain⟨a',b',c',d'⟩:=q;simp[Nt]
theorem vw (a b:State)(h:bX a):sN a b=some (decide (a=b)):=by
 have t:=h.typed;unfold sN;rw[fK,fK,fK,fK,fK,fK];obtain⟨a0,a1,a2,a3,a4,a5,a6⟩:=a;obtain⟨b0,b1,b2,b3,b4,b5,b6⟩:=b;simp only[Nd _ _ t.cells,Ns _ _ t.aK t.i_,Nq _ _ t.aA,Option.bind_some];by_cases c0:a0=b0
 case neg=>rw[if_pos (by simpa[ai]using c0)];simp[c0]
 rw[if_neg (by simpa[ai]using c0)];by_cases c1:a1=b1
 case neg=>simp[c1]
 by_cases c2:a2=b2
 case neg=>simp[c1,c2]
 by_cases c3:a3=b3
 case neg=>simp[c1,c2,c3]
 rw[if_neg (by simp[c1]),if_neg (by simp[c2]),if_neg (by simp[c3])];by_cases l4:a4.length=b4.length
 case neg=>rw[if_pos (by simp[ai];omega)];simp;intro _ _ _ _ h;exact absurd (by rw[h]) l4
 rw[if_neg (by simp[ai,l4])];by_cases l5:a5.length=b5.length
 case neg=>rw[if_pos (by simp[ai];omega)];simp;intro _ _ _ _ _ h;exact absurd (by rw[h]) l5
 rw[if_neg (by simp[ai,l5])];by_cases l6:a6.length=b6.length
 case neg=>rw[if_pos (by simp[ai];omega)];simp;intro _ _ _ _ _ _ h;exact absurd (by rw[h]) l6
 rw[if_neg (by simp[ai,l6])];rw[rO (a:=a4) (b:=b4) l4 t.aa (λi x y _ hx _ hy=>by
  rw[hy,Option.bind_some];have hm:=t.lines x (List.mem_of_getElem? hx);simp only[ai,bne_iff_ne,Nr _ _ hm,Option.bind_some];obtain⟨p,q,r,u⟩:=x;obtain⟨p',q',r',u'⟩:=y;simp only[Order.mk.injEq];by_cases e1:p=p'
  case neg=>simp[e1]
  by_cases e2:q=q'
  case neg=>by_cases e3:r=r'<;>by_cases e4:u=u'<;>simp[e1,e2,e3,e4]
  by_cases e3:r=r'<;>by_cases e4:u=u'<;>simp[e1,e2,e3,e4]),Option.bind_some]
 by_cases c4:a4=b4
 case neg=>rw[if_neg c4];simp[c4]
 rw[if_pos c4];dsimp only;rw[jI l5 t.aj J8];by_cases c5:a5=b5
 case neg=>rw[if_neg c5];simp[c5]
 rw[if_pos c5];dsimp only;rw[jI l6 t.kept Ka];by_cases c6:a6=b6
 case neg=>rw[if_neg c6];simp[c6]
 rw[if_pos c6];simp[c0,c1,c2,c3,c4,c5,c6]
end Go.Proofs.aaa
end
section
namespace Go.Proofs.aaa
open Go.bA Go.IntWalk
theorem vz {α:Type}{l:List α}(p:α->Bool)(L:Nat)(hs:∀(a:Nat) x,l[a]?=some x->(p x=true↔a<L))(hl:l.length<=1000000000000)(cmp:α->Option Int)
  (hc:∀x∈l,∃q,cmp x=some q/\(q<0↔p x=true)) {body:Int×Int->Option ((Int×Int)⊕Int)}
  (hb:∀s,body s=if(ai .lss s.1 s.2)=true then
   (fH l (IntKind.i64.wrap (aH .shr .u64 (IntKind.u64.wrap (aH .add .i64 s.1 s.2)) 1))).bind λeu=>(cmp eu).bind λgO=>
   if(ai .lss gO 0)=true then some (.inl ((aH .add .i64 (IntKind.i64.wrap (aH .shr .u64 (IntKind.u64.wrap (aH .add .i64 s.1 s.2)) 1)) 1),s.2))
   else some (.inl (s.1,(IntKind.i64.wrap (aH .shr .u64 (IntKind.u64.wrap (aH .add .i64 s.1 s.2)) 1))))else some (.inr s.1)):
  ∀(k:Nat)(lo hi:Int),0<=lo->lo<=(L:Int)->(L:Int)<=hi->hi<=l.length->hi -lo<(2:Int)^k->iB body (k+1) (lo,hi)=some (L:Int)
 |k,lo,hi,h0,h1,h2,h3,h4=>by
  simp only[iB,hb];by_cases hlt:lo<hi
  ·have hh:=half lo hi h0 hlt (by omega);have hm:((lo+hi)/2).toNat<l.length:=by omega
   have hx:=List.getElem?_eq_getElem hm;obtain⟨q,hq,LX⟩:=hc _ (List.getElem_mem hm);have hsp:=hs _ _ hx;simp only[ai,hlt,decide_true,if_true,hh,cT (show 0<=(lo+hi)/2 by omega) hx,Option.bind,hq]
   cases k with
   |zero=>simp at h4;omega
   |succ k=>
    have V3:(2:Int)^(k+1)=2*2^k:=by rw[Int.pow_succ];omega
    by_cases JT:q<0
    ·have:=hsp.1 (LX.1 JT);simp only[JT,decide_true,if_true];rw[show aH .add .i64 ((lo+hi)/2) 1=(lo+hi)/2+1 by simp only[aH,wrap64];omega];exact vz p L hs hl cmp hc hb k _ _ (by omega) (by omega) h2 h3 (by omega)
    ·have:¬((lo+hi)/2).toNat<L:=λh=>JT (LX.2 (hsp.2 h));simp only[JT,decide_false,Bool.false_eq_true,if_false];exact vz p L hs hl cmp hc hb k _ _ h0 h1 (by omega) (by omega) (by omega)
  ·obtain rfl:lo=(L:Int):=by omega
   simp[ai,hlt]
abbrev vA (l:List Kept):Prop:=l.Pairwise λx y=>dA .lss x.mark y.mark=true
abbrev lJ (l:List Kept)(t:ByteArray):Nat:=l.countP λx=>dA .lss x.mark t
def h_ (l:List Kept)(t:ByteArray):Option Kept:=l.find? λx=>decide (x.mark=t)
theorem fL:∀{l:List Kept},vA l->∀(t:ByteArray)(a:Nat)(x:Kept),l[a]?=some x->(dA .lss x.mark t=true↔a<lJ l t)
 |[],_,t,a,x,h=>by simp at h
 |y::l,hr,t,a,x,h=>by
  obtain⟨h1,h2⟩:=List.pairwise_cons.1 hr;by_cases hy:dA .lss y.mark t=true
  ·have e:lJ (y::l) t=lJ l t+1:=List.countP_cons_of_pos hy;rw[e]
   cases a with
   |zero=>cases h;simp[hy]
   |succ a=>rw[fL h2 t a x (by simpa using h)];omega
  ·have e:lJ (y::l) t=0:=by
    rw[lJ,List.countP_eq_zero];intro z hz X5;rcases List.mem_cons.1 hz with rfl|hz
    ·exact hy X5
    ·exact hy (vt _ _ _ (h1 z hz) X5)
   rw[e];constructor
   ·intro hx;have Oy:=List.mem_of_getElem? h;rcases List.mem_cons.1 Oy with rfl|hz
    ·exact absurd hx hy
    ·exact absurd (vt _ _ _ (h1 x hz) hx) hy
   ·intro h;omega
theorem zk (a:ByteArray):¬dA .lss a a=true:=by
 rcases lH a a with⟨h,-,h2,-⟩|⟨-,-,h,-⟩|⟨h,-,h2,-⟩
 ·exact absurd rfl h2
 ·rw[h];decide
 ·exact absurd rfl h2
theorem DJ {l:List Kept}(hr:vA l)(t:ByteArray):(∀x,l[lJ l t]?=some x->x.mark=t->h_ l t=some x)/\(∀x,h_ l t=some x->l[lJ l t]?=some x/\x.mark=t):=by
 have inj:∀{a b:Nat}{x y:Kept},l[a]?=some x->l[b]?=some y->x.mark=y.mark->a=b:=λ{a b x y} ha hb h=>by
  have h1:=fL hr y.mark a x ha;have h2:=fL hr y.mark b y hb;have h3:=fL hr x.mark b y hb;have h4:=fL hr x.mark a x ha;rcases Nat.lt_trichotomy a b with hab|hab|hab
  ·obtain⟨la,rfl⟩:=List.getElem?_eq_some_iff.1 ha;obtain⟨lb,rfl⟩:=List.getElem?_eq_some_iff.1 hb;have:=List.pairwise_iff_getElem.1 hr a b la lb hab;rw[h]at this;exact absurd this (zk _)
  ·exact hab
  ·obtain⟨la,rfl⟩:=List.getElem?_eq_some_iff.1 ha;obtain⟨lb,rfl⟩:=List.getElem?_eq_some_iff.1 hb;have:=List.pairwise_iff_getElem.1 hr b a lb la hab;rw[h]at this;exact absurd this (zk _)
 have DK:∀x,h_ l t=some x->l[lJ l t]?=some x/\x.mark=t:=λx hx=>by
  have hm:=List.mem_of_find?_eq_some hx;have ht:x.mark=t:=by simpa using List.find?_some hx
  obtain⟨a,ha⟩:=List.mem_iff_getElem?.1 hm;have hsp:=fL hr t a x ha;have h1:¬a<lJ l t:=λh=>by have:=hsp.2 h;rw[ht]at this;exact zk _ this
  by_cases h2:a=lJ l t
  ·rw[<-h2];exact⟨ha,ht⟩
  ·have hlt:lJ l t<a:=by omega
   have hla:=(List.getElem?_eq_some_iff.1 ha).1;have hy:=List.getElem?_eq_getElem (show lJ l t<l.length by omega);have h3:=(fL hr t _ _ hy);have h4:=List.pairwise_iff_getElem.1 hr (lJ l t) a (by omega) hla hlt;have h5:l[a]=x:=(List.getElem?_eq_some_iff.1 ha).2;rw[h5,ht]at h4;exact absurd (h3.1 h4) (Nat.lt_irrefl _)
 refine⟨λx hx ht=> ?_,DK⟩
 cases hf:h_ l t with
 |some y=>have:=(DK y hf).1;rw[hx]at this;exact this.symm
 |none=>
  unfold h_ at hf;rw[List.find?_eq_none]at hf;have:=hf x (List.mem_of_getElem? hx);simp[ht]at this
end Go.Proofs.aaa
end
section
namespace Go.Proofs.aaa
open Go.bA Go.IntWalk
theorem HF (k:Kept)(t:ByteArray):L2 k t=pW k.mark t:=by
 unfold L2 Rv Ru
 cases h:pW k.mark t with
 |none=>rfl
 |some v=>rfl
theorem Nu (l:List Kept)(t:ByteArray)(hr:vA l)(hl:l.length<=1000000000000):Gj l t=some (((lJ l t:Nat):Int),(h_ l t).isSome):=by
 unfold Gj;have hlb:lJ l t<=l.length:=List.countP_le_length;rw[vz (λx=>dA .lss x.mark t) (lJ l t) (fL hr t) hl (λx=>L2 x t) (λx hx=>by
  rw[HF];rcases lH x.mark t with⟨h1,h2,h3,h4⟩|⟨h1,h2,h3,h4⟩|⟨h1,h2,h3,h4⟩
  ·exact⟨_,h2,by simp[h1]⟩
  ·exact⟨_,h2,by simp[h3]⟩
  ·exact⟨_,h2,by simp[h4]⟩) (λs=>rfl) 99 0 ((l.map Kept.ts).length:Int) (by omega) (by omega) (by simp;omega) (by simp) (by simp;omega),Option.bind_some]
 obtain⟨hA,hB⟩:=DJ hr t;rw[fK];by_cases hlt:lJ l t<l.length
 ·have hx:=List.getElem?_eq_getElem hlt;rw[if_pos (by simp[ai];omega),cT (by omega) (by rw[Int.toNat_natCast];exact hx),Option.bind_some,HF];rcases lH (l[lJ l t]).mark t with⟨h1,h2,h3,h4⟩|⟨h1,h2,h3,h4⟩|⟨h1,h2,h3,h4⟩
  ·exact absurd ((fL hr t _ _ hx).1 h1) (Nat.lt_irrefl _)
  ·rw[h2,Option.bind_some,hA _ hx h1];rfl
  ·rw[h2,Option.bind_some]
   cases hf:h_ l t with
   |none=>rfl
   |some y=>have:=hB y hf;rw[hx]at this;exact absurd (by have h5:=this.1;cases h5;exact this.2) h3
 ·rw[if_neg (by simp[ai];omega)]
  cases hf:h_ l t with
  |none=>rfl
  |some y=>have:=(List.getElem?_eq_some_iff.1 (hB y hf).1).1;omega
end Go.Proofs.aaa
end
section
namespace Go.Proofs.aaa
open Go.bA Go.IntWalk
def dF (l:List Order)(id dst:Int):List Order:=l.map λo=>if o.id=id then⟨o.id,o.lines,o.aP,dst⟩else o
theorem nX:∀{l:List Order},bU Order.id l->∀{n:Int}{o:Order}(dst:Int),bq Order.id l n=some o->l.set (eO Order.id l n) ⟨o.id,o.lines,o.aP,dst⟩=dF l n dst
 |[],_,n,o,dst,h=>by cases h
 |x::l,hs,n,o,dst,h=>by
  obtain⟨h1,h2⟩:=List.pairwise_cons.1 hs;rw[dY]at h;unfold dF;by_cases he:x.id=n
  ·rw[if_pos he]at h;cases h;have hlb:eO Order.id (x::l) n=0:=qp Order.id (λy hy=>by
    rcases List.mem_cons.1 hy with rfl|hy
    ·omega
    ·have:=h1 y hy;omega)
   rw[hlb,List.map_cons,if_pos he,List.set_cons_zero]
   congr 1
   have e:l.map (λo=>if o.id=n then(⟨o.id,o.lines,o.aP,dst⟩:Order)else o)=l.map id:=List.map_congr_left λy hy=>by
    have:=h1 y hy;rw[if_neg (by omega)];rfl
   rw[e,List.map_id]
  ·rw[if_neg he]at h;have hp:=b_ Order.id h;have hlt:x.id<n:=by have:=h1 o hp.1;omega
   have hlb:eO Order.id (x::l) n=eO Order.id l n+1:=by simp[eO,hlt]
   rw[hlb,List.set_cons_succ,List.map_cons,if_neg he,nX h2 dst h];rfl
theorem abF (s:State)(h:bX s)(id dst:Int):Q3 s id dst=some ⟨s.limit,s.cells,s.af,s.aA,dF s.aa id dst,s.aj,s.kept⟩:=by
 unfold Q3;rw[Np s h,Option.bind_some];refine nw (cP (λj (o:List Order)=>o=dF (s.aa.take j) id dst++s.aa.drop j) (λ_=>False) h.typed.aa (by simp[dF]) ?_) (λo ho=> ?_) (λ_ hb=>hb.elim)
 ·intro j x o hx ho;have hj:=(List.getElem?_eq_some_iff.1 hx).1;have hlen:(dF (s.aa.take j) id dst).length=j:=by unfold dF;rw[List.length_map,List.length_take];omega
  have hd:s.aa.drop j=x::s.aa.drop (j+1):=Ro hx;have hg:o[j]?=some x:=by rw[ho,List.getElem?_append_right (by omega),hlen,Nat.sub_self,hd];rfl
  rw[cT (by omega) (by rw[Int.toNat_natCast];exact hg),Option.bind_some];have e1:dF (s.aa.take (j+1)) id dst++s.aa.drop (j+1)=dF (s.aa.take j) id dst++(if x.id=id then⟨x.id,x.lines,x.aP,dst⟩else x)::s.aa.drop (j+1):=by
   rw[take_one hx];unfold dF;simp
  by_cases he:x.id=id
  ·rw[if_pos (by simpa[ai]using he)];refine .inl ⟨_,rfl, ?_⟩;rw[e1,if_pos he,ho,Int.toNat_natCast,hd,List.set_append_right _ _ (by omega),hlen,Nat.sub_self,List.set_cons_zero]
  ·rw[if_neg (by simpa[ai]using he)];refine .inl ⟨_,rfl, ?_⟩;rw[e1,if_neg he,ho,hd]
 ·rw[List.take_length,List.drop_length,List.append_nil]at ho;subst ho;rfl
end Go.Proofs.aaa
end
section
namespace Go.Proofs.aaa
open Go.bA Go.IntWalk
theorem A3:∀{a b:List Int},a.Nodup->(∀x∈a,x∈b)->a.length<=b.length
 |[],_,_,_=>Nat.zero_le _
 |x::a,b,hn,hs=>by
  obtain⟨h1,h2⟩:=List.nodup_cons.1 hn;have hx:=hs x List.mem_cons_self;have:=A3 (b:=b.erase x) h2 λy hy=>by
   have hne:y≠x:=λe=>h1 (e▸hy);exact(List.mem_erase_of_ne hne).2 (hs y (List.mem_cons_of_mem _ hy))
  have hl:=List.length_erase_of_mem hx;have hp:0<b.length:=List.length_pos_of_mem hx;rw[List.length_cons];omega
theorem j7:∀{l:List aC},(∀x∈l,eX l x.order<=1)->(l.map aC.order).Nodup
 |[],_=>.nil
 |x::l,h=>by
  have hx:=h x List.mem_cons_self;have e:eX (x::l) x.order=eX l x.order+1:=List.countP_cons_of_pos (by simp);have h0:eX l x.order=0:=by omega
  rw[List.map_cons,List.nodup_cons];refine⟨λhm=> ?_,j7 λy hy=> ?_⟩
  ·obtain⟨y,hy,he⟩:=List.mem_map.1 hm;have:=(List.countP_eq_zero.1 h0) y hy;simp[he]at this
  ·have h3:=h y (List.mem_cons_of_mem _ hy);have:eX l y.order<=eX (x::l) y.order:=by
    show l.countP _<=(x::l).countP _;rw[List.countP_cons];omega
   omega
theorem nY {os:List Order}{x:aC}(h:vu os x=true):∃o,bq Order.id os x.order=some o/\gI o.status=x.kind/\cF x.kind x.pos x.aO=0/\cw x.kind x.pos x.aO=true:=by
 unfold vu at h;rw[Bool.and_eq_true,Bool.and_eq_true,decide_eq_true_eq]at h;obtain⟨⟨h1,h2⟩,h3⟩:=h;obtain⟨q,hq⟩:∃q,bq Order.id os x.order=q:=⟨_,rfl⟩;rw[hq]at h3
 cases q with
 |none=>cases h3
 |some o=>exact⟨o,hq,by simpa using h3,h1,h2⟩
theorem bY.A4 {s:State}(h:bY s):s.aj.length<=s.aa.length:=by
 have hs:=h.aj;unfold hU at hs;rw[Bool.and_eq_true,List.all_eq_true,List.all_eq_true]at hs;obtain⟨h1,h2⟩:=hs;have:=A3 (a:=s.aj.map aC.order) (b:=s.aa.map Order.id) (j7 λx hx=>by
  obtain⟨o,ho,hk,-,-⟩:=nY (h1 x hx);obtain⟨hm,he⟩:=(b_ Order.id ho);have:=h2 o hm;unfold mu at this;rw[he]at this;split at this<;>(rw[decide_eq_true_eq]at this;omega)) (λn hn=>by
  obtain⟨x,hx,rfl⟩:=List.mem_map.1 hn;obtain⟨o,ho,-⟩:=nY (h1 x hx);exact List.mem_map.2 ⟨o,b_ Order.id ho⟩)
 simpa using this
end Go.Proofs.aaa
end
section
namespace Go.Proofs.aaa
open Go.bA Go.IntWalk
def qz (x:aC):Int:=if x.kind=2 then 5 else if x.kind=1 then(if x.aO=true then 2 else 3)else(if x.aO=true then 3 else 7)
abbrev settled (s:State)(k:Nat)(x:aC):State:=⟨s.limit,s.cells,s.af,s.aA,dF s.aa x.order (qz x),s.aj.eraseIdx k,s.kept⟩
theorem Kb (x:aC)(h:x.kind=1\/x.kind=2\/x.kind=3):GI x=some (qz x):=by
 obtain⟨o,k,p,u⟩:=x;simp only at h;unfold GI qz;rcases h with rfl|rfl|rfl<;>cases u<;>rfl
theorem gq {n:Nat}{k:Nat}(h:k<n):dJ n (k:Int)=true:=by simp[dJ];omega
theorem HG (s:State)(k:Nat)(x:aC)(o:Order)(hx:s.aj[k]?=some x)(hr:bU Order.id s.aa)(ho:s.aa.length<=1000000000000)(hs:s.aj.length<=1000000)(hf:bq Order.id s.aa x.order=some o)(hk:x.kind=1\/x.kind=2\/x.kind=3):
  FT ⟨s⟩ k=some (if cw x.kind x.pos x.aO=true then(false,⟨s⟩)else(true,⟨settled s k x⟩)):=by
 have hlt:=(List.getElem?_eq_some_iff.1 hx).1;have hg:=fj Order.id hr hf;have Kc:=(List.getElem?_eq_some_iff.1 hg).1;unfold FT;rw[if_pos (gq hlt),cT (x:=x) (by omega) (by rw[Int.toNat_natCast];exact hx),Option.bind_some];simp only[hnext,Option.bind_some];by_cases hn:cw x.kind x.pos x.aO=true
 ·rw[if_pos hn,if_pos hn]
 rw[if_neg hn,if_neg hn,mw _ _ ho hr,Option.bind_some,Kb x hk,Option.bind_some];dsimp only;rw[if_pos (gq Kc),cT (x:=o) (by omega) (by rw[Int.toNat_natCast];exact hg),Option.bind_some,if_pos (decide_eq_true ⟨by omega,by omega,vj (by omega) (by omega),hs⟩),Int.toNat_natCast,Int.toNat_natCast,nX hr _ hf]
end Go.Proofs.aaa
end
section
namespace Go.Proofs.aaa
open Go.bA Go.IntWalk
theorem ab0 {α:Type}{l:List α}{k:Nat}(h:k<l.length):((([]:List α)++AM l (0:Int) (k:Int))++AM l ((k:Int)+1) (l.length:Int))=l.eraseIdx k:=by
 unfold AM;rw[List.eraseIdx_eq_take_drop_succ,List.nil_append];have e1:((k:Int) -0).toNat=k:=by omega
 have e2:((k:Int)+1).toNat=k+1:=by omega
 have e3:((l.length:Int) -((k:Int)+1)).toNat=(l.drop (k+1)).length:=by rw[List.length_drop];omega
 rw[e1,e2,e3,List.take_length];rfl
theorem acS (s:State)(k:Nat)(x:aC)(z:bX s)(hx:s.aj[k]?=some x)(hs:s.aj.length<=1000000)(hk:x.kind=1\/x.kind=2\/x.kind=3):
  ei s k=some (if cw x.kind x.pos x.aO=true then(s,false)else(settled s k x,true)):=by
 have hlt:=(List.getElem?_eq_some_iff.1 hx).1;unfold ei;rw[cT (x:=x) (by omega) (by rw[Int.toNat_natCast];exact hx),Option.bind_some];simp only[hnext,Option.bind_some];by_cases hn:cw x.kind x.pos x.aO=true
 ·rw[if_pos hn,if_pos hn]
 rw[if_neg hn,if_neg hn];have e1:okB (0:Int) (k:Int) ((s.aj.map aC.ts).length:Int) ((s.aj.map aC.ts).length:Int)=true:=by rw[fK];simp[okB];omega
 have e2:aH .add .i64 (k:Int) 1=(k:Int)+1:=vj (by omega) (by omega);have e3:okB ((k:Int)+1) ((s.aj.map aC.ts).length:Int) ((s.aj.map aC.ts).length:Int) ((s.aj.map aC.ts).length:Int)=true:=by rw[fK];simp[okB];omega
 have e4:decide ((([]:List aC)++AM s.aj (0:Int) (k:Int)).length*32<=140737488355328)=true:=decide_eq_true (by
  have:(AM s.aj (0:Int) (k:Int)).length<=s.aj.length:=by unfold AM;rw[List.length_take,List.length_drop];omega
  rw[List.nil_append];omega)
 have e5:((([]:List aC)++AM s.aj (0:Int) (k:Int))++AM s.aj ((k:Int)+1) ((s.aj.map aC.ts).length:Int))=s.aj.eraseIdx k:=by rw[fK];exact ab0 hlt
 have e6:decide ((s.aj.eraseIdx k).length*32<=140737488355328)=true:=decide_eq_true (by rw[List.length_eraseIdx_of_lt hlt];omega);simp only[abF s z,Option.bind_some,e1,e2,e3,e4,e5,e6,if_true];rcases hk with h|h|h<;>cases hu:x.aO<;>simp[h,hu,ai,settled,qz]
end Go.Proofs.aaa
end
section
namespace Go.Proofs.aaa
open Go.bA Go.IntWalk
theorem abp {α:Type}{l:List α}(p:α->Bool)(L:Nat)(hL:L<=l.length)(hs:∀(a:Nat) x,l[a]?=some x->(p x=true↔a<L))(hl:l.length<=1000000000000){body:Int->Option (Int⊕Int)}
  (hb:∀(k:Nat) x,l[k]?=some x->body (k:Int)=some (if p x=true then .inl ((k:Int)+1)else .inr (k:Int))) (he:body (l.length:Int)=some (.inr (l.length:Int))):
  ∀(m k:Nat),k<=L->L -k<m->iB body m (k:Int)=some (L:Int)
 |0,k,_,h=>by omega
 |m+1,k,hk,hm=>by
  rw[iB];by_cases hkl:k<l.length
  ·have hx:=List.getElem?_eq_getElem hkl;rw[hb k _ hx,Option.bind_some];have hsp:=hs k _ hx;by_cases hp:p l[k]=true
   ·have:=hsp.1 hp;rw[if_pos hp];exact abp p L hL hs hl hb he m (k+1) (by omega) (by omega)
   ·have:¬k<L:=λh=>hp (hsp.2 h);rw[if_neg hp];have:k=L:=by omega
    rw[this]
  ·have h1:k=l.length:=by omega
   have h2:k=L:=by omega
   rw[h1,he,Option.bind_some,<-h1,h2]
def fS (s:State)(a:Ask):State×bz:=
 if gH a.order then
  if(dW a.lines).2≠0 then(s,⟨(dW a.lines).2,0,0⟩)else
  if(bq Order.id s.aa a.order).isSome=true then(s,⟨12,0,0⟩)else
  if(s.aa.length:Int)>=s.limit then(s,⟨7,0,0⟩)else
  (⟨s.limit,s.cells,s.af,s.aA,bt s.aa (eO Order.id s.aa a.order) ⟨a.order,a.lines,(dW a.lines).1,1⟩,s.aj++[⟨a.order,1,0,false⟩],s.kept⟩,⟨0,1,(dW a.lines).1⟩)
 else(s,⟨2,0,0⟩)
theorem abf (s:State)(w:Int):g94 s w=some (s,⟨w,0,0⟩):=rfl
theorem kX (w:Int):nM w=some ⟨w,0,0⟩:=rfl
theorem nx {l:List aU}(h:(dW l).2=0):l.length<=16/\l≠[]/\(∀x∈l,(1<=x.item/\x.item<=1024/\1<=x.aE/\x.aE<=1024)/\1<=x.gF/\x.gF<=1048576)/\1<=(dW l).1/\(dW l).1<=1152921504606846976:=by
 unfold dW at h⊢;by_cases h0:l.length=0
 ·rw[if_pos h0]at h;exact absurd h (by decide)
 rw[if_neg h0]at h⊢;by_cases h1:∀x∈l,jb x=true
 case neg=>rw[if_neg h1]at h;exact absurd h (by decide)
 rw[if_pos h1]at h⊢;by_cases h2:tF l≠0
 ·rw[if_pos h2]at h;exact absurd h h2
 rw[if_neg h2]at h⊢;by_cases h3:rR l<1
 ·rw[if_pos h3]at h;exact absurd h (by decide)
 rw[if_neg h3]at h⊢;by_cases h4:rR l>1152921504606846976
 ·rw[if_pos h4]at h;exact absurd h (by decide)
 rw[if_neg h4];have h2:=Decidable.not_not.1 h2;unfold tF at h2;by_cases h5:l.length>16
 ·rw[if_pos h5]at h2;exact absurd h2 (by decide)
 rw[if_neg h5]at h2;by_cases h6:∃x∈l,x.bad
 ·rw[if_pos h6]at h2;exact absurd h2 (by decide)
 refine⟨by omega,λe=>h0 (by rw[e];rfl),λx hx=> ?_,by omega,by omega⟩;have a:=h1 x hx;unfold jb at a;rw[decide_eq_true_eq]at a;have b:¬x.bad:=λe=>h6 ⟨x,hx,e⟩;exact⟨a,by unfold aU.bad at b;omega,by unfold aU.bad at b;omega⟩
theorem Nv (s:State)(a:Ask)(h:bY s)(hl:a.lines.length*32<=140737488355328):Mj ⟨s⟩ a=some ((fS s a).2,⟨(fS s a).1⟩):=by
 have hr:=(bR.1 h.aa).1;have hf:=h.wO;have aaz:=h.limit;have G_:=h.A4;have hlb:=nt Order.id s.aa a.order;unfold Mj fS;rw[DG,Option.bind_some];by_cases c1:gH a.order
 case neg=>rw[if_neg c1,if_pos (by simp only[c1];rfl),kX];rfl
 rw[if_pos c1,if_neg (by simp[c1]),DH _ (by omega),Option.bind_some];dsimp only;rw[mw _ _ (by omega) hr,Option.bind_some];by_cases c2:(dW a.lines).2≠0
 ·rw[if_pos (by simpa[ai]using c2),if_pos c2,kX];rfl
 rw[if_neg (by simpa[ai]using c2),if_neg c2];by_cases c3:(bq Order.id s.aa a.order).isSome=true
 ·rw[if_pos c3,if_pos c3,kX];rfl
 rw[if_neg c3,if_neg c3];by_cases c4:(s.aa.length:Int)>=s.limit
 ·rw[if_pos (by simpa[ai]using c4),if_pos c4,kX];rfl
 rw[if_neg (by simpa[ai]using c4),if_neg c4];have hp:=(nx (Decidable.not_not.1 c2)).1;have hc:hcl a.lines=some a.lines:=by unfold hcl;rw[if_pos (decide_eq_true (by omega))]
 rw[hc,Option.bind_some,if_pos (decide_eq_true ⟨by omega,by omega,by omega⟩),if_pos (decide_eq_true (by simp;omega)),Int.toNat_natCast]
 rfl
end Go.Proofs.aaa
end
section
namespace Go.Proofs.aaa
open Go.bA Go.IntWalk
abbrev jd (l:List aC):Prop:=(l.map aC.order).Nodup
def dr (l:List aC)(n:Int):Option aC:=l.find? λx=>decide (x.order=n)
def vB (l:List aC)(n:Int):Nat:=l.findIdx λx=>decide (x.order=n)
theorem iW (x:aC)(l:List aC)(n:Int):dr (x::l) n=if x.order=n then some x else dr l n:=by
 unfold dr;rw[List.find?_cons];by_cases h:x.order=n<;>simp[h]
theorem nZ {l:List aC}{n:Int}{x:aC}(h:dr l n=some x):x∈l/\x.order=n:=⟨List.mem_of_find?_eq_some h,by simpa using List.find?_some h⟩
theorem aap {l:List aC}{n:Int}(h:dr l n=none):∀x∈l,x.order≠n:=λx hx=>by
 have:=List.find?_eq_none.1 h x hx;simpa using this
theorem zl {l:List aC}{n:Int}(h:∀x∈l,x.order≠n):dr l n=none:=List.find?_eq_none.2 λx hx=>by simpa using h x hx
theorem aak:∀{l:List aC},jd l->∀{x:aC},x∈l->dr l x.order=some x
 |[],_,x,h=>by cases h
 |y::l,hn,x,h=>by
  obtain⟨h1,h2⟩:=List.nodup_cons.1 hn;rw[iW];rcases List.mem_cons.1 h with rfl|h
  ·rw[if_pos rfl]
  ·rw[if_neg (λe=>h1 (by rw[e];exact List.mem_map_of_mem h)),aak h2 h]
theorem zm {l:List aC}{n:Int}{x:aC}(h:dr l n=some x):l[vB l n]?=some x:=by
 induction l with
 |nil=>cases h
 |cons y l ih=>
  rw[iW]at h;unfold vB;rw[List.findIdx_cons];by_cases e:y.order=n
  ·rw[if_pos e]at h;cases h;rw[decide_eq_true e];rfl
  ·rw[if_neg e]at h;have:=ih h;unfold vB at this;rw[decide_eq_false e];simpa using this
theorem xJ:∀{l:List aC},jd l->∀{k:Nat}{x y:aC},l[k]?=some x->y.order=x.order->jd (l.set k y):=λ{l} hn {k x y} hx hy=>by
 unfold jd at*;rw[List.map_set,hy];have:(l.map aC.order).set k x.order=l.map aC.order:=by
  apply List.ext_getElem?;intro j;rw[List.getElem?_set];by_cases hj:k=j
  ·subst hj;have hlt:=(List.getElem?_eq_some_iff.1 hx).1;rw[if_pos rfl,if_pos (by simpa using hlt),List.getElem?_map,hx];rfl
  ·rw[if_neg hj]
 rw[this];exact hn
theorem vD:∀{l:List aC},jd l->∀{k:Nat}{x y:aC},l[k]?=some x->y.order=x.order->∀n,dr (l.set k y) n=if n=x.order then some y else dr l n
 |[],_,k,x,y,h,_,n=>by cases h
 |z::l,hn,k,x,y,h,hy,n=>by
  obtain⟨h1,h2⟩:=List.nodup_cons.1 hn
  cases k with
  |zero=>
   cases h;rw[List.set_cons_zero,iW,iW,hy];by_cases e:n=z.order
   ·rw[if_pos e,if_pos e.symm]
   ·rw[if_neg e,if_neg (λh=>e h.symm),if_neg (λh=>e h.symm)]
  |succ k=>
   have h':l[k]?=some x:=by simpa using h
   have hne:¬z.order=x.order:=λe=>h1 (by rw[e];exact List.mem_map_of_mem (List.mem_of_getElem? h'));rw[List.set_cons_succ,iW,iW,vD h2 h' hy];by_cases e:z.order=n
   ·rw[if_pos e,if_pos e,if_neg (λh=>hne (by omega))]
   ·rw[if_neg e,if_neg e]
theorem pF:∀{l:List aC},jd l->∀{k:Nat}{x:aC},l[k]?=some x->∀n,dr (l.eraseIdx k) n=if n=x.order then none else dr l n
 |[],_,k,x,h,n=>by cases h
 |z::l,hn,k,x,h,n=>by
  obtain⟨h1,h2⟩:=List.nodup_cons.1 hn
  cases k with
  |zero=>
   cases h;rw[List.eraseIdx_cons_zero,iW];by_cases e:n=z.order
   ·rw[if_pos e];exact zl λy hy=>λe2=>h1 (by rw[<-e,<-e2];exact List.mem_map_of_mem hy)
   ·rw[if_neg e,if_neg (λh=>e h.symm)]
  |succ k=>
   have h':l[k]?=some x:=by simpa using h
   have hne:¬z.order=x.order:=λe=>h1 (by rw[e];exact List.mem_map_of_mem (List.mem_of_getElem? h'));rw[List.eraseIdx_cons_succ,iW,iW,pF h2 h'];by_cases e:z.order=n
   ·rw[if_pos e,if_pos e,if_neg (λh=>hne (by omega))]
   ·rw[if_neg e,if_neg e]
theorem sS {l:List aC}(hn:jd l)(k:Nat):jd (l.eraseIdx k):=(List.eraseIdx_sublist l k).map aC.order|>.nodup hn
theorem A5 (l:List aC)(x:aC)(h:dr l x.order=none)(n:Int):dr (l++[x]) n=if n=x.order then some x else dr l n:=by
 unfold dr at*;rw[List.find?_append];by_cases e:n=x.order
 ·subst e;rw[h,if_pos rfl];simp
 ·rw[if_neg e];have:¬x.order=n:=λh=>e h.symm;simp[this]
theorem xK {l:List aC}(hn:jd l)(x:aC)(h:dr l x.order=none):jd (l++[x]):=by
 unfold jd;rw[List.map_append,List.map_singleton,List.nodup_append];refine⟨hn,by simp,λa ha b hb=> ?_⟩;rw[List.mem_singleton]at hb;obtain⟨y,hy,rfl⟩:=List.mem_map.1 ha;rw[hb];exact aap h y hy
theorem xL {l:List aC}(hn:jd l)(n:Int):(eX l n=0↔dr l n=none)/\(eX l n=1↔(dr l n).isSome=true):=by
 induction l with
 |nil=>simp[eX,dr]
 |cons x l ih=>
  obtain⟨h1,h2⟩:=List.nodup_cons.1 hn;have ih:=ih h2;rw[iW];unfold eX at ih⊢;rw[List.countP_cons];by_cases e:x.order=n
  ·have:dr l n=none:=zl λy hy e2=>h1 (by rw[e,<-e2];exact List.mem_map_of_mem hy);have h0:=ih.1.2 this;simp[e,h0]
  ·simp[e,ih]
theorem bY.apart {s:State}(h:bY s):jd s.aj:=by
 have hs:=h.aj;unfold hU at hs;rw[Bool.and_eq_true,List.all_eq_true,List.all_eq_true]at hs;obtain⟨h1,h2⟩:=hs;refine j7 λx hx=> ?_;obtain⟨o,ho,hk,-,-⟩:=nY (h1 x hx);obtain⟨hm,he⟩:=(b_ Order.id ho);have:=h2 o hm;unfold mu at this;rw[he]at this;split at this<;>(rw[decide_eq_true_eq]at this;omega)
structure zn (s:State):Prop where
 apart:jd s.aj
 jm:∀x∈s.aj,∃o,bq Order.id s.aa x.order=some o/\gI o.status=x.kind/\cF x.kind x.pos x.aO=0/\cw x.kind x.pos x.aO=true
 order:∀o∈s.aa,(gI o.status=0↔dr s.aj o.id=none)
theorem ny {s:State}:(jd s.aj/\hU s=true)↔zn s:=by
 unfold hU;rw[Bool.and_eq_true,List.all_eq_true,List.all_eq_true];constructor
 ·rintro⟨ha,h1,h2⟩;refine⟨ha,λx hx=>nY (h1 x hx),λo ho=> ?_⟩;have:=h2 o ho;unfold mu at this;have hN:=xL ha o.id;by_cases hk:gI o.status=0
  ·rw[if_pos hk,decide_eq_true_eq]at this;exact⟨λ_=>hN.1.1 this,λ_=>hk⟩
  ·rw[if_neg hk,decide_eq_true_eq]at this;have:=hN.2.1 this;exact⟨λh=>absurd h hk,λh=>by rw[h]at this;cases this⟩
 ·rintro⟨ha,h1,h2⟩;refine⟨ha,λx hx=> ?_,λo ho=> ?_⟩
  ·obtain⟨o,h3,h4,h5,h6⟩:=h1 x hx;unfold vu;rw[h3,h5,h6];simp[h4]
  ·unfold mu;have hN:=xL ha o.id;by_cases hk:gI o.status=0
   ·rw[if_pos hk,decide_eq_true_eq];exact hN.1.2 ((h2 o ho).1 hk)
   ·rw[if_neg hk,decide_eq_true_eq];refine hN.2.2 ?_
    cases hs:dr s.aj o.id with
    |some x=>rfl
    |none=>exact absurd ((h2 o ho).2 hs) hk
theorem bY.nA {s:State}(h:bY s):zn s:=ny.1 ⟨h.apart,h.aj⟩
end Go.Proofs.aaa
end
