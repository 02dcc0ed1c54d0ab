/- Texts that the law leans on, part 9. No conditions. -/
import Derived.Test.YtnpliafeboadcaaGreatK8
import Derived.Laws.Externs
section
namespace Go.Proofs.aaa
open Go.bA Go.IntWalk Go.DZ
variable{P:Program}(hP:P=Tryz.prog)
def Ss (n:Int):Int:=if OA n then n else 0
def Q_ (n:Int):Int:=if OA n then 0 else 5
abbrev Iv (v e:Int):AV:=.cI [AI .i64 (.th λ_=>v),AI .i64 (.th λ_=>e)]
include hP
theorem vX {a b c:Th Int}(ha:0<=a.den)(hb:0<=b.den)(h0:0<=c.den)(h1:c.den<=1){ob:List AO}{K:AV->List AO->Prop}
  (hk:K (.cI [AI .u64 (.th λ_=>(a.den+b.den+c.den) %18446744073709551616),AI .u64 (.th λ_=>(a.den+b.den+c.den)/18446744073709551616)]) ob):aV P 234 [AI .u64 a,AI .u64 b,AI .u64 c] ob K:=by
 subst hP;refine aV.extern (vs:=[.int .u64 a.den,.int .u64 b.den,.int .u64 c.den]) (v:=.tuple #[.int .u64 ((a.den+b.den+c.den) %18446744073709551616),.int .u64 ((a.den+b.den+c.den)/18446744073709551616)]) (by rfl) (by rfl) (λw=> ?_) hk;rw[run_callFunc_extern Tryz.func234 (by kernel_rfl) (by kernel_rfl) (by kernel_rfl) (e:=add64Entry) (by kernel_rfl),run_add64 _ _ _ ha hb h0 h1]
 rfl
omit hP
def gC (l:List Int):List (List T):=l.map λn=>[T.int .i64 (.th λ_=>n)]
theorem vY (l:List Int):(gC l).length=l.length:=by simp[gC]
theorem C7 (l:List Int)(i:Nat)(n:Int)(h:l[i]?=some n):(gC l)[i]?=some [T.int .i64 (.th λ_=>n)]:=by simp[gC,h]
abbrev C8 (l:List Int):AV:=.c (.bJ 1 λ_=>.dO 1 (gC l))
abbrev D0 (l:List Int):Prop:=∀n∈l,-9223372036854775808<=n/\n<=9223372036854775807
theorem Rn {l:List Int}(hl:D0 l){i R:Int}(hR:R=(l.length:Int))(i0:0<=i)(i1:i<R):∃n,l[i.toNat]?=some n/\OA n:=by
 have h:i.toNat<l.length:=by omega
 exact⟨l[i.toNat],List.getElem?_eq_getElem h,hl _ (List.getElem_mem h)⟩
theorem FD {l:List Int}{i n:Int}(i0:0<=i)(h:l[i.toNat]?=some n):(l.take (i+1).toNat).sum=(l.take i.toNat).sum+n:=by
 rw[show(i+1).toNat=i.toNat+1 by omega];exact wY l _ n h
theorem LI (n:Int):n.fdiv (2^min (Int.toNat 63) IntKind.i64.bits)=n/9223372036854775808:=Int.fdiv_eq_ediv_of_nonneg n (by decide)
include hP
set_option maxHeartbeats 4000000 in
theorem KA (l:List Int)(hl:D0 l)(hlen:l.length<=9223372036854775806):
    gk P 212 [C8 l] (.cI [AI .i64 (.th λ_=>(l.sum+9223372036854775808) %18446744073709551616 -9223372036854775808),AB (.th λ_=>decide (OA l.sum))]):=by
  obtain⟨R,hR,hR0,hR1⟩:∃R:Int,R=(l.length:Int)/\0<=R/\R<=9223372036854775806:=⟨_,rfl,by omega,by omega⟩;have hr:((T.bJ 1 λ_=>T.dO 1 (gC l)).rows.length:Int)=R:=by simp[T.rows,gC,hR]
  have ht:l.take R.toNat=l:=List.take_of_length_le (by omega);refine Wr hP ?_;cbv
  let E:Int->List AV:=λi=>sp 27 [(4,.ref 0 0),(7,C8 l),(8,AI .i64 (.th λ_=>R)),(9,AI .i64 (.th λ_=>i))]
  let O:Int->List AO:=λi=>[.box [AI .u64 (.th λ_=>(l.take i.toNat).sum/18446744073709551616 %18446744073709551616),AI .u64 (.th λ_=>(l.take i.toNat).sum %18446744073709551616)]]
  refine cu.cut (λx e o=>x=.exit 0/\e=E R/\o=O R) ?loop ?rest
  case loop=>
    refine cu.inv (ty hP) (λn e o=>∃i,0<=i/\i<=R/\n=(R -i).toNat/\e=E i/\o=O i) R.toNat (E 0) (O 0)
      (dj.sp [0] rfl rfl rfl (.cons rfl (.ref (q:=0) rfl) (.cons rfl (.pure rfl) (.cons rfl (.int hr) (.cons rfl (.int rfl) .nil)))) (.cons rfl (.aN (.cons (.int rfl) (.cons (.int rfl) .nil))) .nil))
      ⟨0,by omega,by omega,by simp,rfl,rfl⟩ ?_
    rintro n e o ⟨i,i0,i1,rfl,rfl,rfl⟩ J hJ;cbv;refine aM.mk (λh1=> ?_) (λh1=> ?_)<;>cbv
    · have h1:i<R:=by simpa[ai]using h1
      obtain⟨n,hn,Hp⟩:=Rn hl hR i0 h1;have hst:=FB (l.take i.toNat).sum n Hp;rw[<-FD i0 hn]at hst;refine bF.mk _ i0 (C7 l _ n hn) ?_;cbv;refine Wz hP ?_;cbv;have hm:0<=(l.take i.toNat).sum %18446744073709551616/\(l.take i.toNat).sum %18446744073709551616<18446744073709551616:=by omega
      have hm2:0<=(l.take i.toNat).sum/18446744073709551616 %18446744073709551616/\(l.take i.toNat).sum/18446744073709551616 %18446744073709551616<18446744073709551616:=by omega
      refine vX hP (by exact hm.1) (by simp only[Th.aB,s_];omega) (by decide) (by decide) ?_;cbv;refine vX hP (by exact hm2.1) (by simp only[Th.aB,s_];omega) (by simp only[Th.aB,Th.bH,s_];omega) (by simp only[Th.aB,Th.bH,s_];omega) ?_;cbv;refine hJ (R -(i+1)).toNat _ _ (E (i+1)) (O (i+1)) (by omega) (dj.sp [0] rfl rfl rfl (.cons rfl (.ref (q:=0) rfl) (.cons rfl (.pure rfl) (.cons rfl (.pure rfl) (.cons rfl (.int ?_) .nil)))) (.cons rfl (.aN (.cons (.int ?_) (.cons (.int ?_) .nil))) .nil)) ⟨i+1,by omega,by omega,rfl,rfl,rfl⟩
      · simp only[Th.aB,aH,wrap64];omega
      · simp only[Th.aB,Th.bH,s_,aH]
        rw[<-hst.2,LI]
      · simp only[Th.aB,Th.bH,s_]
        rw[<-hst.1]
    · have h1:¬i<R:=by simpa[ai]using h1
      obtain rfl:i=R:=by omega
      exact⟨_,_,dj.sp [0] rfl rfl rfl (.cons rfl (.ref (q:=0) rfl) (.cons rfl (.pure rfl) (.cons rfl (.pure rfl) (.cons rfl (.int rfl) .nil)))) (.cons rfl (.aN (.cons (.int rfl) (.cons (.int rfl) .nil))) .nil),rfl,rfl,rfl⟩
  case rest=>
    rintro x e o ⟨rfl,rfl,rfl⟩;cbv;refine aR.of (ty hP) (mo hP) rfl ?_ (.box .nil);cbv
    iterate 13 (apply aS.is;·intro J hJ;cbv;exact hJ
                cbv)
    have hS:=FC l hl (by omega);have hw:=Iu l.sum hS;refine .cA (.cons (.int ?_) (.cons (.bool ?_) .nil))
    · simp only[Th.aB,wrap64,ht]
      exact hw.1
    · simp only[Th.aB,wrap64,s_,ai,aH,ht]
      rw[LI,Bool.eq_iff_iff,beq_iff_eq,decide_eq_true_eq];exact hw.2
omit hP
def Iw (l:List Int):Int:=if l.length>4096 then 0 else Ss l.sum
def Ix (l:List Int):Int:=if l.length>4096 then 3 else Q_ l.sum
theorem C9 (l:List Int):((T.bJ 1 λ_=>T.dO 1 (gC l)).rows.length:Int)=(l.length:Int):=by simp[T.rows,gC]
theorem acZ (n:Int):n.fdiv (2^min (Int.toNat 32) IntKind.i64.bits)=n/4294967296:=Int.fdiv_eq_ediv_of_nonneg n (by decide)
theorem adA (n:Int):n*2^min (Int.toNat 32) IntKind.i64.bits=n*4294967296:=rfl
include hP
set_option maxHeartbeats 4000000 in
theorem KB (l:List Int)(hl:D0 l)(hlen:l.length<=9223372036854775806):gk P 194 [C8 l] (Iv (Iw l) (Ix l)):=by
 obtain⟨R,hR,WH⟩:∃R:Int,R=((T.bJ 1 λ_=>T.dO 1 (gC l)).rows.length:Int)/\(4096<R↔l.length>4096):=⟨_,rfl,by rw[C9];omega⟩;have hs:=KA hP l hl hlen;refine Wl hP ?_;cbv;refine aM.mk (λh=> ?_) (λh=> ?_)<;>cbv
 ·refine .cA (.cons (.int ?_) (.cons (.int ?_) .nil))
  ·have:l.length>4096:=WH.1 (by rw[hR];simpa[ai]using h);simp only[Th.bH,Th.aB,Iw,if_pos this]
  ·have:l.length>4096:=WH.1 (by rw[hR];simpa[ai]using h);simp only[Th.bH,Th.aB,Ix,if_pos this]
 ·have hn:¬l.length>4096:=λh'=>by
   have:=WH.2 h';rw[hR]at this;simp[ai]at h;omega
  refine hs.call (.cons (.pure rfl) .nil) rfl ?_;cbv;refine aM.mk (λh=> ?_) (λh=> ?_)<;>cbv
  ·have h2:¬OA l.sum:=λh'=>by simp at h;omega
   refine .cA (.cons (.int ?_) (.cons (.int ?_) .nil))
   ·simp only[Th.bH,Th.aB,Iw,Ss,if_neg hn,if_neg h2]
   ·simp only[Th.bH,Th.aB,Ix,Q_,if_neg hn,if_neg h2]
  ·have h2:OA l.sum:=by simp at h;omega
   refine .cA (.cons (.int ?_) (.cons (.int ?_) .nil))
   ·simp only[Th.aB,Iw,Ss,if_neg hn,if_pos h2];omega
   ·simp only[Th.bH,Th.aB,Ix,Q_,if_neg hn,if_pos h2]
set_option maxHeartbeats 4000000 in
theorem adw (l:List Int)(hl:D0 l)(hlen:l.length<=4096):
    gk P 195 [C8 l] (.cI [AI .i64 (.th λ_=>Ss l.sum),AB (.th λ_=>decide (OA l.sum))]):=by
  obtain⟨R,hR,hR0,hR1⟩:∃R:Int,R=(l.length:Int)/\0<=R/\R<=4096:=⟨_,rfl,by omega,by omega⟩;have hr:((T.bJ 1 λ_=>T.dO 1 (gC l)).rows.length:Int)=R:=by simp[T.rows,gC,hR]
  have ht:l.take R.toNat=l:=List.take_of_length_le (by omega);have hb:∀i:Int,0<=i->i<=R->-8796093022208<=hS (l.take i.toNat)/\hS (l.take i.toNat)<=8796093018112/\0<=lS (l.take i.toNat)/\lS (l.take i.toNat)<=17592186040320:=λi i0 i1=>by
    have h:=abq (l.take i.toNat) λn hn=>hl n (List.mem_of_mem_take hn);have:((l.take i.toNat).length:Int)=i:=by rw[List.length_take];omega
    rw[this]at h;omega
  refine afM hP ?_;cbv
  let E:Int->List AV:=λi=>sp 46 [(4,AI .i64 (.th λ_=>hS (l.take i.toNat))),(5,AI .i64 (.th λ_=>lS (l.take i.toNat))),(9,C8 l),(10,AI .i64 (.th λ_=>R)),(11,AI .i64 (.th λ_=>i))]
  refine cu.cut (λx e o=>x=.exit 0/\e=E R/\o=[]) ?loop ?rest
  case loop=>
    refine cu.inv (ty hP) (λn e o=>∃i,0<=i/\i<=R/\n=(R -i).toNat/\e=E i/\o=[]) R.toNat (E 0) []
      (dj.sp [] rfl rfl rfl (.cons rfl (.int rfl) (.cons rfl (.int rfl) (.cons rfl (.pure rfl) (.cons rfl (.int hr) (.cons rfl (.int rfl) .nil))))) .nil)
      ⟨0,by omega,by omega,by simp,rfl,rfl⟩ ?_
    rintro n e o ⟨i,i0,i1,rfl,rfl,rfl⟩ J hJ;cbv;refine aM.mk (λh1=> ?_) (λh1=> ?_)<;>cbv
    · have h1:i<R:=by simpa[ai]using h1
      obtain⟨n,hn,Hp⟩:=Rn hl hR i0 h1;have h2:=hb i i0 i1;have e1:(i+1).toNat=i.toNat+1:=by omega
      have hst:hS (l.take (i+1).toNat)=hS (l.take i.toNat)+n/4294967296/\lS (l.take (i+1).toNat)=lS (l.take i.toNat)+n %4294967296:=by
        rw[e1,List.take_add_one,hn];exact⟨adu _ n,adv _ n⟩
      refine bF.mk _ i0 (C7 l _ n hn) ?_;cbv;refine hJ (R -(i+1)).toNat _ _ (E (i+1)) [] (by omega) (dj.sp [] rfl rfl rfl (.cons rfl (.int ?_) (.cons rfl (.int ?_) (.cons rfl (.pure rfl) (.cons rfl (.pure rfl) (.cons rfl (.int ?_) .nil))))) .nil) ⟨i+1,by omega,by omega,rfl,rfl,rfl⟩
      · simp only[Th.aB,aH,wrap64,acZ];omega
      · simp only[Th.aB,aH,wrap64,acZ,adA];omega
      · simp only[Th.aB,aH,wrap64];omega
    · have h1:¬i<R:=by simpa[ai]using h1
      obtain rfl:i=R:=by omega
      exact⟨_,_,dj.sp [] rfl rfl rfl (.cons rfl (.int rfl) (.cons rfl (.int rfl) (.cons rfl (.pure rfl) (.cons rfl (.pure rfl) (.cons rfl (.int rfl) .nil))))) .nil,rfl,rfl,rfl⟩
  case rest=>
    rintro x e o ⟨rfl,rfl,rfl⟩;have h2:=hb R hR0 (by omega);rw[ht]at h2;have h3:=acY l;cbv;rw[ht];generalize hS l=H at*;generalize lS l=L at*;generalize l.sum=S at*
    repeat' (refine aM.mk (λh=> ?_) (λh=> ?_)<;>cbv)
    all_goals
      refine .cA (.cons (.int ?_) (.cons (.bool ?_) .nil))<;>
      (simp only[Th.aB,Th.bH,ai,aH,wrap64,acZ,adA,decide_eq_true_eq,decide_eq_false_iff_not,Ss,OA]at*
       first
       |(split<;>omega)
       |(symm;rw[decide_eq_true_eq];omega)
       |(symm;rw[decide_eq_false_iff_not];omega))
theorem ab1 (l:List Int)(hl:D0 l)(hlen:l.length<=9223372036854775806):gk P 168 [C8 l] (Iv (Iw l) (Ix l)):=by
 obtain⟨R,hR,WH⟩:∃R:Int,R=((T.bJ 1 λ_=>T.dO 1 (gC l)).rows.length:Int)/\(4096<R↔l.length>4096):=⟨_,rfl,by rw[C9];omega⟩;refine afL hP ?_;cbv;refine aM.mk (λh=> ?_) (λh=> ?_)<;>cbv
 ·refine .cA (.cons (.int ?_) (.cons (.int ?_) .nil))
  ·have:l.length>4096:=WH.1 (by rw[hR];simpa[ai]using h);simp only[Th.bH,Th.aB,Iw,if_pos this]
  ·have:l.length>4096:=WH.1 (by rw[hR];simpa[ai]using h);simp only[Th.bH,Th.aB,Ix,if_pos this]
 ·have hn:¬l.length>4096:=λh'=>by
   have:=WH.2 h';rw[hR]at this;simp[ai]at h;omega
  refine(adw hP l hl (by omega)).call (.cons (.pure rfl) .nil) rfl ?_;cbv;refine aM.mk (λh=> ?_) (λh=> ?_)<;>cbv
  ·have h2:¬OA l.sum:=λh'=>by simp at h;omega
   refine .cA (.cons (.int ?_) (.cons (.int ?_) .nil))
   ·simp only[Th.bH,Th.aB,Iw,Ss,if_neg hn,if_neg h2]
   ·simp only[Th.bH,Th.aB,Ix,Q_,if_neg hn,if_neg h2]
  ·have h2:OA l.sum:=by simp at h;omega
   refine .cA (.cons (.int ?_) (.cons (.int ?_) .nil))
   ·simp only[Th.aB,Iw,Ss,if_neg hn,if_pos h2]
   ·simp only[Th.bH,Th.aB,Ix,Q_,if_neg hn,if_pos h2]
omit hP
abbrev Ln:=aU
def aU.pr (x:aU):Int:=x.gF*x.unit
abbrev aU.bad (x:aU):Prop:=x.gF<1\/x.gF>1048576\/x.unit<0\/x.unit>1099511627776
def Bu (l:List Ln):List (List T):=l.map aU.ts
abbrev LJ (l:List Ln):AV:=.c (.bJ 4 λ_=>.dO 4 (Bu l))
theorem FE (l:List Ln)(i:Nat)(x:Ln)(h:l[i]?=some x):(Bu l)[i]?=some x.ts:=by simp[Bu,h]
def prods (l:List Ln):List Int:=l.map aU.pr
def tF (l:List Ln):Int:=if l.length>16 then 3 else if∃x∈l,x.bad then 2 else Q_ (prods l).sum
def rR (l:List Ln):Int:=if l.length>16 then 0 else if∃x∈l,x.bad then 0 else Ss (prods l).sum
def jg (l:List Int):List (List AV):=l.map λn=>[AI .i64 (.th λ_=>n)]
theorem vZ (l:List Int):∀e∈jg l,eA e=true:=by
 intro e he;simp only[jg,List.mem_map]at he;obtain⟨n,_,rfl⟩:=he
 rfl
theorem ab2 (l:List Int):∀e∈jg l,e.length=1:=by
 intro e he;simp only[jg,List.mem_map]at he;obtain⟨n,_,rfl⟩:=he
 rfl
theorem FF (l:List Int):(jg l).length=l.length:=by simp[jg]
theorem ye (l:List Int)(i:Nat)(n:Int):(jg l).set i [AI .i64 (.th λ_=>n)]=jg (l.set i n):=by simp[jg,List.map_set]
theorem yf (l:List Int)(i:Nat)(n:Int)(h:l[i]?=some n):(jg l)[i]?=some [AI .i64 (.th λ_=>n)]:=by simp[jg,h]
theorem ab3 (l:List Int)(n:Int):jg (l++[n])=jg l++[[AI .i64 (.th λ_=>n)]]:=by simp[jg]
theorem Bv (l:List Int):jg l=(gC l).map (λe=>e.map AV.c):=by simp[jg,gC,List.map_map,Function.comp_def]
abbrev WI (l:List Int)(c:Nat):AO:=.arr 1 (.th λ_=>jg l) (.th λ_=>c*1)
def jh (l:List Int)(i:Nat):List Int:=l.take i++List.replicate (l.length -i) 0
theorem C_ (l:List Int):jh l 0=List.replicate l.length 0:=by simp[jh]
theorem FG (l:List Int):jh l l.length=l:=by simp[jh]
theorem FH (l:List Int)(i:Nat)(h:i<=l.length):(jh l i).length=l.length:=by simp[jh];omega
theorem FI (l:List Int)(i:Nat)(n:Int)(h:l[i]?=some n):(jh l i).set i n=jh l (i+1):=by
 have hi:=(List.getElem?_eq_some_iff.1 h).1;unfold jh;rw[List.set_append_right _ _ (by rw[List.length_take];omega),List.take_add_one,h];rw[List.length_take,show i -min i l.length=0 by omega];obtain⟨k,hk⟩:∃k,l.length -i=k+1:=⟨l.length -i -1,by omega⟩;rw[hk,show l.length -(i+1)=k by omega,List.replicate_succ,List.set_cons_zero];simp
theorem FJ (l:List Int)(i:Nat)(h:i<l.length):(jh l i)[i]?=some 0:=by
 unfold jh;rw[List.getElem?_append_right (by simp;omega)];rw[List.length_take,show i -min i l.length=0 by omega,List.getElem?_replicate,if_pos (by omega)]
include hP
set_option maxHeartbeats 4000000 in
theorem FK (l:List Ln):gk P 167 [LJ l] (Iv (rR l) (tF l)):=by
 obtain⟨R,hR,hR0⟩:∃R:Int,R=(l.length:Int)/\0<=R:=⟨_,rfl,by omega⟩;have hr:((T.bJ 4 λ_=>T.dO 4 (Bu l)).rows.length:Int)=R:=by simp[T.rows,Bu,hR]
 have hRn:R.toNat=l.length:=by omega
 refine Wj hP ?_;cbv;refine aM.mk (λh=> ?_) (λh=> ?_)<;>cbv
 ·have JS:l.length>16:=by
   have h:16<R:=by rw[<-hr];simpa[ai]using h
   omega
  exact .cA (.cons (.int (by simp only[Th.bH,Th.aB,rR,if_pos JS])) (.cons (.int (by simp only[Th.bH,Th.aB,tF,if_pos JS])) .nil))
 have h16:R<=16:=by
  have h:¬16<R:=by rw[<-hr];simpa[ai]using h
  omega
 have zD:¬l.length>16:=by omega
 have yA:(prods l).length=l.length:=by simp[prods]
 refine bg.mk (by simp only[hr];simp;omega) ?_;cbv
 let E:Int->List AV:=λi=>sp 51 [(4,.sl 0 1 (.lit 0) (.th λ_=>R.toNat) (.th λ_=>R.toNat)),(13,LJ l),(14,AI .i64 (.th λ_=>R)),(15,AI .i64 (.th λ_=>i))]
 let O:Int->List AO:=λi=>[WI (jh (prods l) i.toNat) R.toNat]
 let EB:List AV:=sp 51 [(2,AI .i64 (.lit 0)),(3,AI .i64 (.lit 2))]
 refine cu.cut (λx e o=>(x=.exit 0/\(∀x∈l,¬x.bad)/\e=E R/\o=O R)\/(x=.ret/\(∃x∈l,x.bad)/\e=EB/\o=[])) ?loop ?rest
 case loop=>
  refine cu.inv (ty hP) (λn e o=>∃i,0<=i/\i<=R/\(∀x∈l.take i.toNat,¬x.bad)/\n=(R -i).toNat/\e=E i/\o=O i) R.toNat (E 0) (O 0)
   (dj.sp [0] rfl rfl rfl (.cons rfl (.sl (q:=0) rfl rfl ?_ ?_) (.cons rfl (.pure rfl) (.cons rfl (.int hr) (.cons rfl (.int rfl) .nil)))) (.cons rfl ?_ .nil))
   ⟨0,by omega,by omega,by simp,by simp,rfl,rfl⟩ ?_
  ·simp only[Th.aB];rw[hr]
  ·simp only[Th.aB];rw[hr]
  ·dsimp only;rw[hr,show R.toNat=(prods l).length by omega];refine .arr (by simp only[Th.aB];rw[List.length_replicate,FF,FH _ _ (by simp)]) (λi e e' h1 h2=> ?_) rfl;simp only[Th.aB]at h1 h2;rw[List.getElem?_replicate]at h1;split at h1
   ·rename_i hi;cases h1;rw[yf _ i 0 (by rw[show Int.toNat 0=0 from rfl,C_,List.getElem?_replicate,if_pos hi])]at h2;cases h2;refine⟨rfl,λj x y h3 h4=> ?_⟩
    cases j with
    |zero=>cases h3;cases h4;exact .int rfl
    |succ j=>cases h4
   ·cases h1
  rintro n e o ⟨i,i0,i1,i2,rfl,rfl,rfl⟩ J hJ;cbv;refine aM.mk (λh1=> ?_) (λh1=> ?_)<;>cbv
  ·have h1:i<R:=by simpa[ai]using h1
   have hi:i.toNat<l.length:=by omega
   obtain⟨x,hx⟩:∃x,l[i.toNat]?=some x:=⟨l[i.toNat],List.getElem?_eq_getElem hi⟩;have Oy:x∈l:=List.mem_of_getElem? hx;refine bF.mk _ i0 (FE l _ x hx) ?_;cbv
   repeat' (refine aM.mk (λh=> ?_) (λh=> ?_)<;>cbv)
   all_goals first
    |exact⟨_,_,dj.sp [] rfl rfl rfl (.cons rfl (.pure rfl) (.cons rfl (.pure rfl) .nil)) .nil,.inr ⟨rfl,⟨x,Oy,by simp only[ai,decide_eq_true_eq,gt_iff_lt]at*;omega⟩,rfl,rfl⟩⟩
    |skip
   rename_i c1 c2 c3;have hok:¬x.bad:=by simp only[ai,decide_eq_false_iff_not,gt_iff_lt]at*;omega
   have hgp:(prods l)[i.toNat]?=some x.pr:=by simp[prods,hx]
   have hw:aH .mul .i64 x.gF x.unit=x.pr:=by
    have b1:0<=x.gF*x.unit:=Int.mul_nonneg (by omega) (by omega);have b2:x.gF*x.unit<=1048576*1099511627776:=Int.mul_le_mul (by omega) (by omega) (by omega) (by omega);simp only[aH,wrap64];show _=x.gF*x.unit;omega
   have WJ:dJ R.toNat i=true:=by unfold dJ;simp only[Bool.and_eq_true,decide_eq_true_eq];omega
   refine bg.mk WJ ?_;cbv;refine bF.mk [AI .i64 (.th λ_=>0)] ?_ ?_ ?_
   ·exact Int.natCast_nonneg _
   ·show(jg (jh (prods l) i.toNat))[((0+i.toNat:Nat):Int).toNat]?=_;rw[Int.toNat_natCast,Nat.zero_add];exact yf _ _ _ (FJ _ _ (by omega))
   cbv;refine hJ (R -(i+1)).toNat _ _ (E (i+1)) (O (i+1)) (by omega) (dj.sp [0] rfl rfl rfl (.cons rfl (.sl (q:=0) rfl rfl rfl rfl) (.cons rfl (.pure rfl) (.cons rfl (.pure rfl) (.cons rfl (.int ?_) .nil)))) (.cons rfl (.fY ?_ ?_ rfl) .nil)) ⟨i+1,by omega,by omega, ?_,rfl,rfl,rfl⟩
   ·simp only[Th.aB,aH,wrap64];omega
   ·have he:(jg (jh (prods l) i.toNat)).set (0+i.toNat) [AI .i64 (.th λ_=>aH .mul .i64 x.gF x.unit)]=jg (jh (prods l) (i+1).toNat):=by
     rw[ye,hw,Nat.zero_add,FI _ _ _ hgp,show(i+1).toNat=i.toNat+1 by omega]
    exact he
   ·intro e he;have he':e∈(jg (jh (prods l) i.toNat)).set (0+i.toNat) [AI .i64 (.th λ_=>aH .mul .i64 x.gF x.unit)]:=he;rw[ye]at he';exact vZ _ e he'
   ·rw[show(i+1).toNat=i.toNat+1 by omega,List.take_add_one,hx];intro y hy;rcases List.mem_append.1 hy with hy|hy
    ·exact i2 y hy
    ·simp at hy;subst hy;exact hok
  ·have h1:¬i<R:=by simpa[ai]using h1
   obtain rfl:i=R:=by omega
   have hall:∀x∈l,¬x.bad:=by rwa[hRn,List.take_length]at i2
   exact⟨_,_,dj.sp [0] rfl rfl rfl (.cons rfl (.sl (q:=0) rfl rfl rfl rfl) (.cons rfl (.pure rfl) (.cons rfl (.pure rfl) (.cons rfl (.pure rfl) .nil)))) (.cons rfl (.fY rfl (vZ _) rfl) .nil),.inl ⟨rfl,hall,rfl,rfl⟩⟩
 case rest=>
  rintro x e o (⟨rfl,hall,rfl,rfl⟩|⟨rfl,tI,rfl,rfl⟩)
  ·cbv;have h64:D0 (prods l):=by
    intro n hn;simp only[prods,List.mem_map]at hn;obtain⟨y,hy,rfl⟩:=hn;have:=hall y hy;have b1:0<=y.gF*y.unit:=Int.mul_nonneg (by omega) (by omega);have b2:y.gF*y.unit<=1048576*1099511627776:=Int.mul_le_mul (by omega) (by omega) (by omega) (by omega);unfold aU.pr;omega
   have hs:=KB hP (prods l) h64 (by omega);refine hs.EH (.cons (.Lc (gC (prods l)) _ rfl ?_ ?_ ?_) .nil) rfl ?_
   ·show jg (jh (prods l) R.toNat)=_;rw[show R.toNat=(prods l).length by omega,FG,Bv]
   ·show 0+R.toNat<=_;rw[vY];omega
   ·show T.dO 1 (gC (prods l))=.dO 1 (((gC (prods l)).drop 0).take R.toNat);rw[List.drop_zero,List.take_of_length_le (by rw[vY];omega)]
   cbv;have h1:¬∃x∈l,x.bad:=λ⟨x,hx,hb⟩=>hall x hx hb;refine .cA (.cons (.int ?_) (.cons (.int ?_) .nil))
   ·simp only[Th.aB,rR,Iw,if_neg zD,if_neg h1,if_neg (show¬(prods l).length>4096 by omega)]
   ·simp only[Th.aB,tF,Ix,if_neg zD,if_neg h1,if_neg (show¬(prods l).length>4096 by omega)]
  ·cbv;refine .cA (.cons (.int ?_) (.cons (.int ?_) .nil))
   ·simp only[Th.bH,Th.aB,rR,if_neg zD,if_pos tI]
   ·simp only[Th.bH,Th.aB,tF,if_neg zD,if_pos tI]
omit hP in
theorem ab4 (l:List Ln)(i:Nat)(x:Ln)(h:l[i]?=some x):prods (l.take (i+1))=prods (l.take i)++[x.pr]:=by
 rw[List.take_add_one,h];simp[prods]
set_option maxHeartbeats 4000000 in
theorem abr (l:List Ln):gk P 128 [LJ l] (Iv (rR l) (tF l)):=by
 obtain⟨R,hR,hR0⟩:∃R:Int,R=(l.length:Int)/\0<=R:=⟨_,rfl,by omega⟩;have hr:((T.bJ 4 λ_=>T.dO 4 (Bu l)).rows.length:Int)=R:=by simp[T.rows,Bu,hR]
 have hRn:R.toNat=l.length:=by omega
 refine afK hP ?_;cbv;refine aM.mk (λh=> ?_) (λh=> ?_)<;>cbv
 ·have JS:l.length>16:=by
   have h:16<R:=by rw[<-hr];simpa[ai]using h
   omega
  exact .cA (.cons (.int (by simp only[Th.bH,Th.aB,rR,if_pos JS])) (.cons (.int (by simp only[Th.bH,Th.aB,tF,if_pos JS])) .nil))
 have h16:R<=16:=by
  have h:¬16<R:=by rw[<-hr];simpa[ai]using h
  omega
 have zD:¬l.length>16:=by omega
 have yA:∀i,(prods (l.take i)).length=min i l.length:=by simp[prods]
 let E:Int->Nat->List AV:=λi c=>sp 47 [(4,.sl 0 1 (.lit 0) (.th λ_=>i.toNat) (.th λ_=>c)),(10,LJ l),(11,AI .i64 (.th λ_=>R)),(12,AI .i64 (.th λ_=>i))]
 let O:Int->Nat->List AO:=λi c=>[WI (prods (l.take i.toNat)) c]
 let EB:List AV:=sp 47 [(2,AI .i64 (.lit 0)),(3,AI .i64 (.lit 2))]
 refine cu.cut (λx e o=>(∃c,R.toNat<=c/\x=.exit 0/\(∀x∈l,¬x.bad)/\e=E R c/\o=O R c)\/(x=.ret/\(∃x∈l,x.bad)/\e=EB/\o=[])) ?loop ?rest
 case loop=>
  refine cu.inv (ty hP) (λn e o=>∃i c,0<=i/\i<=R/\i.toNat<=c/\(∀x∈l.take i.toNat,¬x.bad)/\n=(R -i).toNat/\e=E i c/\o=O i c) R.toNat (E 0 0) (O 0 0)
   (dj.sp [1000] rfl rfl rfl (.cons rfl (.o6 (q:=0) rfl rfl rfl rfl) (.cons rfl (.pure rfl) (.cons rfl (.int hr) (.cons rfl (.int rfl) .nil)))) (.kill rfl ⟨by simp[jg,prods],by simp⟩ .nil))
   ⟨0,0,by omega,by omega,by omega,by simp,by simp,rfl,rfl⟩ ?_
  rintro n e o ⟨i,c,i0,i1,ic,i2,rfl,rfl,rfl⟩ J hJ;cbv;refine aM.mk (λh1=> ?_) (λh1=> ?_)<;>cbv
  ·have h1:i<R:=by simpa[ai]using h1
   have hi:i.toNat<l.length:=by omega
   obtain⟨x,hx⟩:∃x,l[i.toNat]?=some x:=⟨l[i.toNat],List.getElem?_eq_getElem hi⟩;have Oy:x∈l:=List.mem_of_getElem? hx;refine bF.mk _ i0 (FE l _ x hx) ?_;cbv
   repeat' (refine aM.mk (λh=> ?_) (λh=> ?_)<;>cbv)
   all_goals first
    |exact⟨_,_,dj.sp [] rfl rfl rfl (.cons rfl (.pure rfl) (.cons rfl (.pure rfl) .nil)) .nil,.inr ⟨rfl,⟨x,Oy,by simp only[ai,decide_eq_true_eq,gt_iff_lt]at*;omega⟩,rfl,rfl⟩⟩
    |skip
   rename_i c1 c2 c3;have hok:¬x.bad:=by simp only[ai,decide_eq_false_iff_not,gt_iff_lt]at*;omega
   have hw:aH .mul .i64 x.gF x.unit=x.pr:=by
    have b1:0<=x.gF*x.unit:=Int.mul_nonneg (by omega) (by omega);have b2:x.gF*x.unit<=1048576*1099511627776:=Int.mul_le_mul (by omega) (by omega) (by omega) (by omega);simp only[aH,wrap64];show _=x.gF*x.unit;omega
   refine cU (ty hP) (e:=2) rfl rfl rfl (by simp) rfl rfl (by decide) rfl ?_ rfl ?_ (Src.sl (a_ (ty hP) (e:=2) rfl rfl) (es:=.lit [[AI .i64 (.th λ_=>aH .mul .i64 x.gF x.unit)]]) (sz:=.lit 1) rfl (by simp) (by simp)) ?_ ?_ (.th λ_=>(i+1).toNat) (.th λ_=>jg (prods (l.take (i+1).toNat))) ?_ ?_ (λc' hc=> ?_)
   ·show i.toNat<=(jg _).length;rw[FF,yA];omega
   ·exact ab2 _
   ·show(i.toNat+1)*8<=_;omega
   ·show i.toNat+1<=_;omega
   ·show(i+1).toNat=i.toNat+1;omega
   ·simp only[Th.aB,Th.bH];rw[show(i+1).toNat=i.toNat+1 by omega,ab4 l _ x hx,ab3,List.take_of_length_le (l:=jg _) (by rw[FF,yA];omega),hw]
    rfl
   ·cbv;refine hJ (R -(i+1)).toNat _ _ (E (i+1) c') (O (i+1) c') (by omega) (dj.sp [3] rfl rfl rfl (.cons rfl (.sl (q:=0) rfl rfl rfl rfl) (.cons rfl (.pure rfl) (.cons rfl (.pure rfl) (.cons rfl (.int ?_) .nil)))) (.cons rfl (.fY rfl (vZ _) rfl) .nil)) ⟨i+1,c',by omega,by omega,hc, ?_,rfl,rfl,rfl⟩
    ·simp only[Th.aB,aH,wrap64];omega
    ·rw[show(i+1).toNat=i.toNat+1 by omega,List.take_add_one,hx];intro y hy;rcases List.mem_append.1 hy with hy|hy
     ·exact i2 y hy
     ·simp at hy;subst hy;exact hok
  ·have h1:¬i<R:=by simpa[ai]using h1
   obtain rfl:i=R:=by omega
   have hall:∀x∈l,¬x.bad:=by rwa[hRn,List.take_length]at i2
   exact⟨_,_,dj.sp [0] rfl rfl rfl (.cons rfl (.sl (q:=0) rfl rfl rfl rfl) (.cons rfl (.pure rfl) (.cons rfl (.pure rfl) (.cons rfl (.pure rfl) .nil)))) (.cons rfl (.fY rfl (vZ _) rfl) .nil),.inl ⟨c,ic,rfl,hall,rfl,rfl⟩⟩
 case rest=>
  rintro x e o (⟨c,hc,rfl,hall,rfl,rfl⟩|⟨rfl,tI,rfl,rfl⟩)
  ·cbv;have h64:D0 (prods l):=by
    intro n hn;simp only[prods,List.mem_map]at hn;obtain⟨y,hy,rfl⟩:=hn;have:=hall y hy;have b1:0<=y.gF*y.unit:=Int.mul_nonneg (by omega) (by omega);have b2:y.gF*y.unit<=1048576*1099511627776:=Int.mul_le_mul (by omega) (by omega) (by omega) (by omega);unfold aU.pr;omega
   have La:(prods l).length=l.length:=by simp[prods]
   have hs:=ab1 hP (prods l) h64 (by omega);refine hs.EH (.cons (.Lc (gC (prods l)) _ rfl ?_ ?_ ?_) .nil) rfl ?_
   ·show jg (prods (l.take R.toNat))=_;rw[hRn,List.take_length,Bv]
   ·show 0+R.toNat<=_;rw[vY];omega
   ·show T.dO 1 (gC (prods l))=.dO 1 (((gC (prods l)).drop 0).take R.toNat);rw[List.drop_zero,List.take_of_length_le (by rw[vY];omega)]
   cbv;have h1:¬∃x∈l,x.bad:=λ⟨x,hx,hb⟩=>hall x hx hb;refine .cA (.cons (.int ?_) (.cons (.int ?_) .nil))
   ·simp only[Th.aB,rR,Iw,if_neg zD,if_neg h1,if_neg (show¬(prods l).length>4096 by omega)]
   ·simp only[Th.aB,tF,Ix,if_neg zD,if_neg h1,if_neg (show¬(prods l).length>4096 by omega)]
  ·cbv;refine .cA (.cons (.int ?_) (.cons (.int ?_) .nil))
   ·simp only[Th.bH,Th.aB,rR,if_neg zD,if_pos tI]
   ·simp only[Th.bH,Th.aB,tF,if_neg zD,if_pos tI]
end Go.Proofs.aaa
end
section
namespace Go.Proofs.aaa
open Go.bA Go.IntWalk
variable{P:Program}(hP:P=Tryz.prog)
theorem abU (s:Int):CQ s=true/\(s=1\/s=2\/s=3\/s=4\/s=5\/s=10)\/CQ s=false/\¬(s=1\/s=2\/s=3\/s=4\/s=5\/s=10):=by
 simp only[CQ,idx,Bq]
 repeat' split
 all_goals simp_all
 all_goals omega
def lM (s:Int):Bool:=decide (0<s)&&(decide (s<12)&& !decide (0<=idx [1,6,11] s))
theorem ab5 (s:Int):lM s=true/\(s=2\/s=3\/s=4\/s=5\/s=7\/s=8\/s=9\/s=10)\/lM s=false/\¬(s=2\/s=3\/s=4\/s=5\/s=7\/s=8\/s=9\/s=10):=by
 simp only[lM,idx,Bq]
 repeat' split
 all_goals simp_all
 all_goals omega
include hP
theorem vO (k:Int):gk P 106 [AI .u8 (.th λ_=>k)] (.c (.bJ 1 λ_=>mG k)):=by
 refine afH hP ?_;cbv;refine .mk (λh=> ?_) (λh=> ?_)<;>cbv
 ·exact .B5 (oM [1,2,3,4,5]) _ rfl rfl rfl (by decide) (.jP (es':=ij [1,2,3,4,5]) (by simp[ai]at h;simp[mG,jo,h]) (iR [1,2,3,4,5]))
 refine .mk (λh=> ?_) (λh=> ?_)<;>cbv
 ·exact .B5 (oM [1,2,3,4,5]) _ rfl rfl rfl (by decide) (.jP (es':=ij [1,2,3,4,5]) (by simp[ai]at h;simp[mG,jo,h]) (iR [1,2,3,4,5]))
 refine .mk (λh=> ?_) (λh=> ?_)<;>cbv
 ·exact .B5 (oM [10,11,9]) _ rfl rfl rfl (by decide) (.jP (es':=ij [10,11,9]) (by simp[ai]at h;simp[mG,jo,h]) (iR [10,11,9]))
 exact .c (.Lf (by simp_all [mG,jo,ai]))
set_option maxHeartbeats 1000000 in
theorem acn (s:Int):gk P 107 [AI .u8 (.th λ_=>s)] (.cI [AI .u8 (.th λ_=>Im s),AB (.th λ_=>Io s)]):=by
 refine afI hP ?_;cbv
 repeat' (refine aM.mk (λh=> ?_) (λh=> ?_)<;>cbv)
 all_goals
  refine .cA (.cons (.int ?_) (.cons (.bool ?_) .nil));all_goals simp_all [Im,Io,ai]
set_option maxHeartbeats 1000000 in
theorem ab6 (s:Int):gk P 114 [AI .u8 (.th λ_=>s)] (AB (.th λ_=>CQ s)):=by
 have hc:=abU s;refine afJ hP ?_;cbv
 repeat' (refine aM.mk (λh=> ?_) (λh=> ?_)<;>cbv)
 all_goals
  refine .bool ?_;simp[ai]at*;rcases hc with⟨h1,h2⟩|⟨h1,h2⟩<;>simp[h1]<;>omega
set_option maxHeartbeats 1000000 in
theorem acg (s:Int):gk P 56 [AI .u8 (.th λ_=>s)] (AB (.th λ_=>lM s)):=by
 have hc:=ab5 s;refine e56 hP ?_;cbv
 repeat' (refine aM.mk (λh=> ?_) (λh=> ?_)<;>cbv)
 all_goals
  refine .bool ?_;simp[ai]at*;rcases hc with⟨h1,h2⟩|⟨h1,h2⟩<;>simp[h1]<;>omega
set_option maxHeartbeats 1000000 in
theorem Iy (s:Int):gk P 51 [AI .u8 (.th λ_=>s)] (AB (.th λ_=>lM s)):=by
 refine e51 hP ?_;cbv;refine aM.mk (λh=> ?_) (λh=> ?_)<;>cbv;refine aM.mk (λh1=> ?_) (λh1=> ?_)<;>cbv
 ·refine((qK hP [1,6,11] s (by decide)).args (args:=[.c (.bJ 1 λ_=>.dO 1 (oM [1,6,11])),AI .u8 (.th λ_=>s)]) (.cons (.c (.bJ rfl rfl (iR _))) (.cons (.pure rfl) .nil))).EH (.cons (.Lc (oM [1,6,11]) _ rfl rfl (by decide) rfl) (.cons (.pure rfl) .nil)) rfl ?_;cbv;refine .bool ?_;simp[ai]at*;simp[lM,h,h1]
 ·refine .bool ?_;simp[ai]at*;simp[lM];omega
 ·refine .bool ?_;simp[ai]at*;simp[lM];omega
set_option maxHeartbeats 2000000 in
theorem abj (o k a:Int)(u:Bool):gk P 105 [jm o k a u] (AI .i64 (.th λ_=>cF k a u)):=by
 have hn:=qJ k;refine gk.args (args':=[DX o k a u]) ?_ (.cons (Ya ..) .nil);cases u;all_goals
  refine afG hP ?_;cbv;refine(vO hP k).call (gj.cons (.pure rfl) .nil) rfl ?_;cbv
  repeat' (refine aM.mk (λh=> ?_) (λh=> ?_)<;>cbv)
  all_goals
   refine .int ?_;simp only[Th.bH,Th.aB,cF,ai,su]at*;simp at*;first|omega|(split<;>omega)|(split<;>simp_all<;>omega)
end Go.Proofs.aaa
end
section
namespace Go.Proofs.aaa
open Go.bA Go.IntWalk
variable{P:Program}(hP:P=Tryz.prog)
include hP
set_option maxHeartbeats 1000000 in
theorem abn (o k a:Int)(u:Bool):gk P 55 [jm o k a u] (.cI [AI .u8 (.th λ_=>j_ k a u),AB (.th λ_=>cw k a u),AI .i64 (.th λ_=>cF k a u)]):=by
 have hn:=qJ k;refine gk.args (args':=[DX o k a u]) ?_ (.cons (Ya ..) .nil);cases u<;>(
  refine e55 hP ?_;cbv;refine(abj hP o k a _).call (.cons (Yb ..) .nil) rfl ?_;cbv;refine aM.mk (λh=> ?_) (λh=> ?_)<;>cbv)
 case false.refine_1|true.refine_1=>
  simp[ai]at h;refine .cA (.cons (.int ?_) (.cons (.bool ?_) (.cons (.int rfl) .nil)));all_goals simp[j_,cw,h]
 all_goals
  simp[ai]at h;have hc:=h;simp[cF]at hc;refine(vO hP k).call (.cons (.pure rfl) .nil) rfl ?_;cbv
 ·refine aM.mk (λh2=> ?_) (λh2=> ?_)<;>cbv
  ·simp[ai,su]at h2;subst h2;refine .cA (.cons (.int ?_) (.cons (.bool ?_) (.cons (.int ?_) .nil)));all_goals simp[j_,cw,h]
  ·simp[ai,su]at h2;have h3:a<nS k:=by omega
   refine bF.mk [T.int .u8 (.th λ_=>(lk k).getD a.toNat 0)] ?_ ?_ ?_
   ·simp;omega
   ·simp only[vV,Th.aB];exact xZ _ _ (by omega) (by rw[Il];omega)
   ·cbv;refine .cA (.cons (.int ?_) (.cons (.bool ?_) (.cons (.int ?_) .nil)));all_goals simp[j_,cw,h,h3]
 ·refine aM.mk (λh2=> ?_) (λh2=> ?_)<;>cbv
  ·simp[ai]at h2;subst h2;refine .cA (.cons (.int ?_) (.cons (.bool ?_) (.cons (.int ?_) .nil)));all_goals simp[j_,cw,h]
  ·simp[ai]at h2;have h3:0<a:=by omega
   have hw:IntKind.i64.wrap (a -1)=a -1:=i64_in _ (by split at hc<;>omega);refine bF.mk [T.int .u8 (.th λ_=>(lk k).getD (a -1).toNat 0)] ?_ ?_ ?_
   ·simp only[aH,hw,Th.aB];omega
   ·simp only[aH,hw,vV,Th.aB];exact xZ _ _ (by omega) (by rw[Il];split at hc<;>omega)
   ·cbv;refine(acn hP _).call (.cons (.pure rfl) .nil) rfl ?_;cbv;refine .cA (.cons (.int ?_) (.cons (.bool ?_) (.cons (.int ?_) .nil)));all_goals simp[j_,cw,h,h3]
set_option maxHeartbeats 2000000 in
theorem aco (o k a:Int)(u d:Bool):gk P 58 [jm o k a u,AB (.th λ_=>d)] (WG o k a u d):=by
 have hr:=C6 k a u;refine gk.args (args':=[DX o k a u,AB (.lit d)]) ?_ (.cons (Ya ..) (.cons (.bool rfl) .nil));cases u<;>cases d<;>(
  refine e58 hP ?_;cbv;refine(abn hP o k a _).call (.cons (Yb ..) .nil) rfl ?_;cbv
  repeat' (first|(refine aM.mk (λh=> ?_) (λh=> ?_)<;>cbv)|(refine(ab6 hP _).call (.cons (.pure rfl) .nil) rfl ?_;cbv)))
 all_goals
  simp[ai]at*;refine .cA (.cons (.eJ (.cons (.int ?_) (.cons (.int ?_) (.cons (.int ?_) (.cons (.bool ?_) .nil))))) (.cons (.int ?_) .nil));all_goals simp_all [E9,wQ,wR,wS,qD,aH]
 all_goals exact i64_in _ (by omega)
set_option maxHeartbeats 1000000 in
theorem acf (o k a:Int)(u:Bool):gk P 61 [jm o k a u] (.cI [AI .i64 (.th λ_=>jf k a u),AI .i64 (.th λ_=>cF k a u)]):=by
  have hn:=qJ k;refine gk.args (args':=[DX o k a u]) ?_ (.cons (Ya ..) .nil);cases u<;>(
    refine e61 hP ?_;cbv;refine(abj hP o k a _).call (.cons (Yb ..) .nil) rfl ?_;cbv;refine aM.mk (λh=> ?_) (λh=> ?_)<;>cbv)
  case false.refine_1|true.refine_1=>
    simp[ai]at h;refine .cA (.cons (.int ?_) (.cons (.int rfl) .nil));simp[jf,h]
  all_goals simp[ai]at h
  · have hc:=h
    simp[cF]at hc;refine aR.of (ty hP) (mo hP) rfl ?_ (br.box .nil);cbv
    repeat (apply aS.is;·intro J hJ;cbv;exact hJ
            cbv)
    apply aS.is
    · intro J hJ
      cbv;exact(vO hP _).call (.cons (.pure rfl) .nil) rfl hJ
    cbv
    repeat (apply aS.is;·intro J hJ;cbv;exact hJ
            cbv)
    refine .cA (.cons (.int ?_) (.cons (.int ?_) .nil))
    · simp[jf,h,aH,su]
      exact i64_in _ (by omega)
    · simp[h]
  · refine .cA (.cons (.int ?_) (.cons (.int ?_) .nil))
    all_goals simp[jf,h]
end Go.Proofs.aaa
end
