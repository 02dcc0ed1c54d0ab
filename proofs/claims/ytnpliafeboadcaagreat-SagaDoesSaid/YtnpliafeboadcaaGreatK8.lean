/- Texts that the law leans on, part 8. No conditions. -/
import Derived.Test.YtnpliafeboadcaaGreatK7
import Derived.IntWalk
section
namespace Go.Proofs.aaa
open Go.bA Go.IntWalk
variable{P:Program}(hP:P=Tryz.prog)
theorem half (i j:Int)(h0:0<=i)(h1:i<j)(h2:j<=1000000000000):IntKind.i64.wrap (aH .shr .u64 (IntKind.u64.wrap (aH .add .i64 i j)) 1)=(i+j)/2:=by
 have e1:aH .add .i64 i j=i+j:=by simp only[aH,wrap64];omega
 rw[e1,s_];have e2:aH .shr .u64 ((i+j) %18446744073709551616) 1=(i+j)/2:=by
  show((i+j) %18446744073709551616).fdiv (2^min (Int.toNat 1) IntKind.u64.bits)=_;rw[Int.fdiv_eq_ediv_of_nonneg _ (by decide)];show((i+j) %18446744073709551616)/2=_;omega
 rw[e2,wrap64];omega
include hP
set_option maxHeartbeats 4000000 in
theorem Bo (l:List Order)(n r N:Int)(b:Bool)(hN:N=(l.length:Int))(hl:l.length<=1000000000000)(r0:0<=r)(r1:r<=N)(hr:∀(a:Int) x,0<=a->l[a.toNat]?=some x->(x.id<n↔a<r))(hb:b=true↔∃x,l[r.toNat]?=some x/\x.id=n):
  gk P 147 [aq Order.ts 4 l,AI .i64 (.th λ_=>n),.fn (.func 148) [] []] (.cI [AI .i64 (.th λ_=>r),AB (.th λ_=>b)]):=by
 have WD:l.length=N.toNat:=by omega
 have Rj:N<=1000000000000:=by omega
 have OD:0<=N:=by omega
 have Rk:¬r<N->b=false:=by
  intro h
  cases b with
  |false=>rfl
  |true=>
   obtain⟨x,hx,_⟩:=hb.1 rfl;have:=(List.getElem?_eq_some_iff.1 hx).1;omega
 have hlen:((T.bJ 4 λ_=>T.dO 4 (l.map Order.ts)).rows.length:Int)=N:=by rw[aW,hN]
 clear hN;refine Wh hP ?_;cbv
 let E:Int->Int->List AV:=λi j=>sp 49 [(0,aq Order.ts 4 l),(1,AI .i64 (.th λ_=>n)),(2,.fn (.func 148) [] []),(8,AI .i64 (.th λ_=>N)),(9,AI .i64 (.th λ_=>i)),(10,AI .i64 (.th λ_=>j))]
 refine cu.cut (λx e o=>x=.exit 0/\e=E r r/\o=[]) ?loop ?rest
 case loop=>
  refine cu.inv (ty hP) (λm e o=>∃i j,0<=i/\i<=r/\r<=j/\j<=N/\m=(j -i).toNat/\e=E i j/\o=[]) (N -0).toNat (E 0 N) []
   (dj.sp [] rfl rfl rfl (.cons rfl (.pure rfl) (.cons rfl (.pure rfl) (.cons rfl (.pure rfl) (.cons rfl (.int hlen) (.cons rfl (.int rfl) (.cons rfl (.int hlen) .nil)))))) .nil)
   ⟨0,N,by omega,r0,r1,by omega,rfl,rfl,rfl⟩ ?_
  rintro m e o ⟨i,j,i0,i1,i2,i3,rfl,rfl,rfl⟩ J hJ;clear hlen;cbv;refine aM.mk (λh=> ?_) (λh=> ?_)<;>cbv
  ·have h:i<j:=by simpa[ai]using h
   have hh:=half i j i0 h (by omega);obtain⟨H,hH⟩:∃H,H=(i+j)/2:=⟨_,rfl⟩;have X9:i<=H/\H<j:=by omega
   obtain⟨x,hx⟩:∃x,l[H.toNat]?=some x:=⟨l[H.toNat]'(by omega),List.getElem?_eq_getElem (by omega)⟩
   refine bF.mk _ (by simp only[Th.aB,hh];omega) (by simp only[Th.aB,hh];rw[<-hH];exact aY Order.ts l _ x hx) ?_;cbv;refine(qI hP x n).call (.cons (.pure rfl) (.cons (.pure rfl) .nil)) rfl ?_;cbv;have hc:=hr H x (by omega) hx;refine aM.mk (λh2=> ?_) (λh2=> ?_)<;>cbv
   ·have h2:x.id<n:=og.1 (by simpa[ai]using h2);have h3:=hc.1 h2;refine hJ (j -(H+1)).toNat _ _ (E (H+1) j) [] (by omega) (dj.sp [] rfl rfl rfl (.cons rfl (.pure rfl) (.cons rfl (.pure rfl) (.cons rfl (.pure rfl) (.cons rfl (.pure rfl) (.cons rfl (.int ?_) (.cons rfl (.pure rfl) .nil)))))) .nil) ⟨H+1,j,by omega,by omega,by omega,by omega,rfl,rfl,rfl⟩;simp only[Th.aB,hh];simp only[aH,wrap64];omega
   ·have h2:¬x.id<n:=λh3=>by
     have:=og.2 h3;simp[ai]at h2;omega
    have h3:¬H<r:=λh3=>h2 (hc.2 h3);refine hJ (H -i).toNat _ _ (E i H) [] (by omega) (dj.sp [] rfl rfl rfl (.cons rfl (.pure rfl) (.cons rfl (.pure rfl) (.cons rfl (.pure rfl) (.cons rfl (.pure rfl) (.cons rfl (.pure rfl) (.cons rfl (.int ?_) .nil)))))) .nil) ⟨i,H,by omega,by omega,by omega,by omega,rfl,rfl,rfl⟩;simp only[Th.aB,hh,hH]
  ·have h:¬i<j:=by simpa[ai]using h
   obtain rfl:i=r:=by omega
   obtain rfl:j=i:=by omega
   exact⟨_,_,dj.sp [] rfl rfl rfl (.cons rfl (.pure rfl) (.cons rfl (.pure rfl) (.cons rfl (.pure rfl) (.cons rfl (.pure rfl) (.cons rfl (.pure rfl) (.cons rfl (.pure rfl) .nil)))))) .nil,rfl,rfl,rfl⟩
 case rest=>
  rintro x e o ⟨rfl,rfl,rfl⟩;clear hlen;cbv;refine aM.mk (λh=> ?_) (λh=> ?_)<;>cbv
  ·have h:r<N:=by simpa[ai]using h
   obtain⟨x,hx⟩:∃x,l[r.toNat]?=some x:=⟨l[r.toNat]'(by omega),List.getElem?_eq_getElem (by omega)⟩
   refine bF.mk _ r0 (aY Order.ts l _ x hx) ?_;cbv;refine(qI hP x n).call (.cons (.pure rfl) (.cons (.pure rfl) .nil)) rfl ?_;cbv;refine .cA (.cons (.pure rfl) (.cons (.bool ?_) .nil));simp only[Th.aB];rw[Bool.eq_iff_iff,hb];constructor
   ·intro h2;exact⟨x,hx,oh.1 (by simpa[ai]using h2)⟩
   ·rintro⟨y,hy,Rl⟩;rw[hx]at hy;cases hy;simpa[ai]using oh.2 Rl
  ·have h:¬r<N:=by simpa[ai]using h
   refine .cA (.cons (.pure rfl) (.cons (.bool ?_) .nil));simp only[Th.aB,Th.bH];exact(Rk h).symm
end Go.Proofs.aaa
end
section
namespace Go.Proofs.aaa
open Go.bA Go.IntWalk
variable{P:Program}(hP:P=Tryz.prog)
include hP
set_option maxHeartbeats 4000000 in
theorem C1 (l:List ah)(n r N:Int)(b:Bool)(hN:N=(l.length:Int))(hl:l.length<=1000000000000)(r0:0<=r)(r1:r<=N)(hr:∀(a:Int) x,0<=a->l[a.toNat]?=some x->(x.order<n↔a<r))(hb:b=true↔∃x,l[r.toNat]?=some x/\x.order=n):
  gk P 222 [aq ah.ts 2 l,AI .i64 (.th λ_=>n),.fn (.func 223) [] []] (.cI [AI .i64 (.th λ_=>r),AB (.th λ_=>b)]):=by
 have WD:l.length=N.toNat:=by omega
 have Rj:N<=1000000000000:=by omega
 have OD:0<=N:=by omega
 have Rk:¬r<N->b=false:=by
  intro h
  cases b with
  |false=>rfl
  |true=>
   obtain⟨x,hx,_⟩:=hb.1 rfl;have:=(List.getElem?_eq_some_iff.1 hx).1;omega
 have hlen:((T.bJ 2 λ_=>T.dO 2 (l.map ah.ts)).rows.length:Int)=N:=by rw[aW,hN]
 clear hN;refine Wx hP ?_;cbv
 let E:Int->Int->List AV:=λi j=>sp 49 [(0,aq ah.ts 2 l),(1,AI .i64 (.th λ_=>n)),(2,.fn (.func 223) [] []),(8,AI .i64 (.th λ_=>N)),(9,AI .i64 (.th λ_=>i)),(10,AI .i64 (.th λ_=>j))]
 refine cu.cut (λx e o=>x=.exit 0/\e=E r r/\o=[]) ?loop ?rest
 case loop=>
  refine cu.inv (ty hP) (λm e o=>∃i j,0<=i/\i<=r/\r<=j/\j<=N/\m=(j -i).toNat/\e=E i j/\o=[]) (N -0).toNat (E 0 N) []
   (dj.sp [] rfl rfl rfl (.cons rfl (.pure rfl) (.cons rfl (.pure rfl) (.cons rfl (.pure rfl) (.cons rfl (.int hlen) (.cons rfl (.int rfl) (.cons rfl (.int hlen) .nil)))))) .nil)
   ⟨0,N,by omega,r0,r1,by omega,rfl,rfl,rfl⟩ ?_
  rintro m e o ⟨i,j,i0,i1,i2,i3,rfl,rfl,rfl⟩ J hJ;clear hlen;cbv;refine aM.mk (λh=> ?_) (λh=> ?_)<;>cbv
  ·have h:i<j:=by simpa[ai]using h
   have hh:=half i j i0 h (by omega);obtain⟨H,hH⟩:∃H,H=(i+j)/2:=⟨_,rfl⟩;have X9:i<=H/\H<j:=by omega
   obtain⟨x,hx⟩:∃x,l[H.toNat]?=some x:=⟨l[H.toNat]'(by omega),List.getElem?_eq_getElem (by omega)⟩
   refine bF.mk _ (by simp only[Th.aB,hh];omega) (by simp only[Th.aB,hh];rw[<-hH];exact aY ah.ts l _ x hx) ?_;cbv;refine(ta hP x n).call (.cons (.pure rfl) (.cons (.pure rfl) .nil)) rfl ?_;cbv;have hc:=hr H x (by omega) hx;refine aM.mk (λh2=> ?_) (λh2=> ?_)<;>cbv
   ·have h2:x.order<n:=og.1 (by simpa[ai]using h2);have h3:=hc.1 h2;refine hJ (j -(H+1)).toNat _ _ (E (H+1) j) [] (by omega) (dj.sp [] rfl rfl rfl (.cons rfl (.pure rfl) (.cons rfl (.pure rfl) (.cons rfl (.pure rfl) (.cons rfl (.pure rfl) (.cons rfl (.int ?_) (.cons rfl (.pure rfl) .nil)))))) .nil) ⟨H+1,j,by omega,by omega,by omega,by omega,rfl,rfl,rfl⟩;simp only[Th.aB,hh];simp only[aH,wrap64];omega
   ·have h2:¬x.order<n:=λh3=>by
     have:=og.2 h3;simp[ai]at h2;omega
    have h3:¬H<r:=λh3=>h2 (hc.2 h3);refine hJ (H -i).toNat _ _ (E i H) [] (by omega) (dj.sp [] rfl rfl rfl (.cons rfl (.pure rfl) (.cons rfl (.pure rfl) (.cons rfl (.pure rfl) (.cons rfl (.pure rfl) (.cons rfl (.pure rfl) (.cons rfl (.int ?_) .nil)))))) .nil) ⟨i,H,by omega,by omega,by omega,by omega,rfl,rfl,rfl⟩;simp only[Th.aB,hh,hH]
  ·have h:¬i<j:=by simpa[ai]using h
   obtain rfl:i=r:=by omega
   obtain rfl:j=i:=by omega
   exact⟨_,_,dj.sp [] rfl rfl rfl (.cons rfl (.pure rfl) (.cons rfl (.pure rfl) (.cons rfl (.pure rfl) (.cons rfl (.pure rfl) (.cons rfl (.pure rfl) (.cons rfl (.pure rfl) .nil)))))) .nil,rfl,rfl,rfl⟩
 case rest=>
  rintro x e o ⟨rfl,rfl,rfl⟩;clear hlen;cbv;refine aM.mk (λh=> ?_) (λh=> ?_)<;>cbv
  ·have h:r<N:=by simpa[ai]using h
   obtain⟨x,hx⟩:∃x,l[r.toNat]?=some x:=⟨l[r.toNat]'(by omega),List.getElem?_eq_getElem (by omega)⟩
   refine bF.mk _ r0 (aY ah.ts l _ x hx) ?_;cbv;refine(ta hP x n).call (.cons (.pure rfl) (.cons (.pure rfl) .nil)) rfl ?_;cbv;refine .cA (.cons (.pure rfl) (.cons (.bool ?_) .nil));simp only[Th.aB];rw[Bool.eq_iff_iff,hb];constructor
   ·intro h2;exact⟨x,hx,oh.1 (by simpa[ai]using h2)⟩
   ·rintro⟨y,hy,Rl⟩;rw[hx]at hy;cases hy;simpa[ai]using oh.2 Rl
  ·have h:¬r<N:=by simpa[ai]using h
   refine .cA (.cons (.pure rfl) (.cons (.bool ?_) .nil));simp only[Th.aB,Th.bH];exact(Rk h).symm
set_option maxHeartbeats 4000000 in
theorem Fx (l:List aQ)(n r N:Int)(b:Bool)(hN:N=(l.length:Int))(hl:l.length<=1000000000000)(r0:0<=r)(r1:r<=N)(hr:∀(a:Int) x,0<=a->l[a.toNat]?=some x->(x.order<n↔a<r))(hb:b=true↔∃x,l[r.toNat]?=some x/\x.order=n):
  gk P 228 [aq aQ.ts 4 l,AI .i64 (.th λ_=>n),.fn (.func 229) [] []] (.cI [AI .i64 (.th λ_=>r),AB (.th λ_=>b)]):=by
 have WD:l.length=N.toNat:=by omega
 have Rj:N<=1000000000000:=by omega
 have OD:0<=N:=by omega
 have Rk:¬r<N->b=false:=by
  intro h
  cases b with
  |false=>rfl
  |true=>
   obtain⟨x,hx,_⟩:=hb.1 rfl;have:=(List.getElem?_eq_some_iff.1 hx).1;omega
 have hlen:((T.bJ 4 λ_=>T.dO 4 (l.map aQ.ts)).rows.length:Int)=N:=by rw[aW,hN]
 clear hN;refine WA hP ?_;cbv
 let E:Int->Int->List AV:=λi j=>sp 49 [(0,aq aQ.ts 4 l),(1,AI .i64 (.th λ_=>n)),(2,.fn (.func 229) [] []),(8,AI .i64 (.th λ_=>N)),(9,AI .i64 (.th λ_=>i)),(10,AI .i64 (.th λ_=>j))]
 refine cu.cut (λx e o=>x=.exit 0/\e=E r r/\o=[]) ?loop ?rest
 case loop=>
  refine cu.inv (ty hP) (λm e o=>∃i j,0<=i/\i<=r/\r<=j/\j<=N/\m=(j -i).toNat/\e=E i j/\o=[]) (N -0).toNat (E 0 N) []
   (dj.sp [] rfl rfl rfl (.cons rfl (.pure rfl) (.cons rfl (.pure rfl) (.cons rfl (.pure rfl) (.cons rfl (.int hlen) (.cons rfl (.int rfl) (.cons rfl (.int hlen) .nil)))))) .nil)
   ⟨0,N,by omega,r0,r1,by omega,rfl,rfl,rfl⟩ ?_
  rintro m e o ⟨i,j,i0,i1,i2,i3,rfl,rfl,rfl⟩ J hJ;clear hlen;cbv;refine aM.mk (λh=> ?_) (λh=> ?_)<;>cbv
  ·have h:i<j:=by simpa[ai]using h
   have hh:=half i j i0 h (by omega);obtain⟨H,hH⟩:∃H,H=(i+j)/2:=⟨_,rfl⟩;have X9:i<=H/\H<j:=by omega
   obtain⟨x,hx⟩:∃x,l[H.toNat]?=some x:=⟨l[H.toNat]'(by omega),List.getElem?_eq_getElem (by omega)⟩
   refine bF.mk _ (by simp only[Th.aB,hh];omega) (by simp only[Th.aB,hh];rw[<-hH];exact aY aQ.ts l _ x hx) ?_;cbv;refine(vU hP x n).call (.cons (.pure rfl) (.cons (.pure rfl) .nil)) rfl ?_;cbv;have hc:=hr H x (by omega) hx;refine aM.mk (λh2=> ?_) (λh2=> ?_)<;>cbv
   ·have h2:x.order<n:=og.1 (by simpa[ai]using h2);have h3:=hc.1 h2;refine hJ (j -(H+1)).toNat _ _ (E (H+1) j) [] (by omega) (dj.sp [] rfl rfl rfl (.cons rfl (.pure rfl) (.cons rfl (.pure rfl) (.cons rfl (.pure rfl) (.cons rfl (.pure rfl) (.cons rfl (.int ?_) (.cons rfl (.pure rfl) .nil)))))) .nil) ⟨H+1,j,by omega,by omega,by omega,by omega,rfl,rfl,rfl⟩;simp only[Th.aB,hh];simp only[aH,wrap64];omega
   ·have h2:¬x.order<n:=λh3=>by
     have:=og.2 h3;simp[ai]at h2;omega
    have h3:¬H<r:=λh3=>h2 (hc.2 h3);refine hJ (H -i).toNat _ _ (E i H) [] (by omega) (dj.sp [] rfl rfl rfl (.cons rfl (.pure rfl) (.cons rfl (.pure rfl) (.cons rfl (.pure rfl) (.cons rfl (.pure rfl) (.cons rfl (.pure rfl) (.cons rfl (.int ?_) .nil)))))) .nil) ⟨i,H,by omega,by omega,by omega,by omega,rfl,rfl,rfl⟩;simp only[Th.aB,hh,hH]
  ·have h:¬i<j:=by simpa[ai]using h
   obtain rfl:i=r:=by omega
   obtain rfl:j=i:=by omega
   exact⟨_,_,dj.sp [] rfl rfl rfl (.cons rfl (.pure rfl) (.cons rfl (.pure rfl) (.cons rfl (.pure rfl) (.cons rfl (.pure rfl) (.cons rfl (.pure rfl) (.cons rfl (.pure rfl) .nil)))))) .nil,rfl,rfl,rfl⟩
 case rest=>
  rintro x e o ⟨rfl,rfl,rfl⟩;clear hlen;cbv;refine aM.mk (λh=> ?_) (λh=> ?_)<;>cbv
  ·have h:r<N:=by simpa[ai]using h
   obtain⟨x,hx⟩:∃x,l[r.toNat]?=some x:=⟨l[r.toNat]'(by omega),List.getElem?_eq_getElem (by omega)⟩
   refine bF.mk _ r0 (aY aQ.ts l _ x hx) ?_;cbv;refine(vU hP x n).call (.cons (.pure rfl) (.cons (.pure rfl) .nil)) rfl ?_;cbv;refine .cA (.cons (.pure rfl) (.cons (.bool ?_) .nil));simp only[Th.aB];rw[Bool.eq_iff_iff,hb];constructor
   ·intro h2;exact⟨x,hx,oh.1 (by simpa[ai]using h2)⟩
   ·rintro⟨y,hy,Rl⟩;rw[hx]at hy;cases hy;simpa[ai]using oh.2 Rl
  ·have h:¬r<N:=by simpa[ai]using h
   refine .cA (.cons (.pure rfl) (.cons (.bool ?_) .nil));simp only[Th.aB,Th.bH];exact(Rk h).symm
end Go.Proofs.aaa
end
section
namespace Go.Proofs.aaa
open Go.bA Go.IntWalk
variable{P:Program}(hP:P=Tryz.prog)
theorem Ik {α:Type}{l:List α}{i:Nat}{x:α}(h:l[i]?=some x):l.drop i=x::l.drop (i+1):=by
 obtain⟨h1,rfl⟩:=List.getElem?_eq_some_iff.1 h;exact List.drop_eq_getElem_cons h1
def fR:Int->List ah->Bool
 |_,[]=>true
 |last,x::l=>decide (last<x.order)&&decide (x.order<=1024)&&decide (x.state≠0)&&decide (x.state<7)&&fR x.order l
abbrev Nh (l:List ah):Int:=if fR 0 l=true then 0 else 2
include hP
set_option maxHeartbeats 4000000 in
theorem Bp (l:List ah)(hl:l.length<=1000000000000):gk P 65 [aq ah.ts 2 l] (AI .i64 (.th λ_=>Nh l)):=by
  obtain⟨N,hN⟩:∃N:Int,N=(l.length:Int):=⟨_,rfl⟩;have WD:l.length=N.toNat:=by omega
  have Rj:N<=1000000000000:=by omega
  have OD:0<=N:=by omega
  have hlen:((T.bJ 2 λ_=>T.dO 2 (l.map ah.ts)).rows.length:Int)=N:=by rw[aW,hN]
  clear hN;refine W8 hP ?_;cbv
  let E:Int->Int->List AV:=λi last=>sp 34 [(3,AI .i64 (.th λ_=>last)),(6,aq ah.ts 2 l),(7,AI .i64 (.th λ_=>N)),(8,AI .i64 (.th λ_=>i))]
  let EB:List AV:=sp 34 [(2,AI .i64 (.lit 2))]
  refine cu.cut (λx e o=>(x=.exit 0/\fR 0 l=true/\∃last,e=E N last/\o=[])\/(x=.ret/\fR 0 l=false/\e=EB/\o=[])) ?loop ?rest
  case loop=>
    refine cu.inv (ty hP) (λm e o=>∃i last,0<=i/\i<=N/\fR 0 l=fR last (l.drop i.toNat)/\m=(N -i).toNat/\e=E i last/\o=[]) N.toNat (E 0 0) []
      (dj.sp [] rfl rfl rfl (.cons rfl (.int rfl) (.cons rfl (.pure rfl) (.cons rfl (.int hlen) (.cons rfl (.int rfl) .nil)))) .nil)
      ⟨0,0,by omega,OD,rfl,by simp,rfl,rfl⟩ ?_
    clear hlen;rintro m e o ⟨i,last,i0,i1,hok,rfl,rfl,rfl⟩ J hJ;cbv;refine aM.mk (λh=> ?_) (λh=> ?_)<;>cbv
    · have h:i<N:=by simpa[ai]using h
      obtain⟨x,hx⟩:∃x,l[i.toNat]?=some x:=⟨l[i.toNat]'(by omega),List.getElem?_eq_getElem (by omega)⟩
      have hd:=Ik hx;have Rm:fR 0 l=(decide (last<x.order)&&decide (x.order<=1024)&&decide (x.state≠0)&&decide (x.state<7)&&fR x.order (l.drop (i.toNat+1))):=hok.trans (by rw[hd];rfl);clear hok hd;refine bF.mk _ i0 (aY ah.ts l _ x hx) ?_;cbv
      repeat' (refine aM.mk (λh=> ?_) (λh=> ?_)<;>cbv)
      all_goals first
        | (refine⟨_,_,dj.sp [] rfl rfl rfl (.cons rfl (.pure rfl) .nil) .nil,.inr ⟨rfl, ?_,rfl,rfl⟩⟩
           refine Rm.trans ?_;simp only[ai,decide_eq_true_eq,decide_eq_false_iff_not,beq_iff_eq,beq_eq_false_iff_ne]at*;simp;omega)
        |skip
      rename_i c1 c2 c3;simp only[ai,decide_eq_false_iff_not,beq_eq_false_iff_ne]at c1 c2 c3 h;refine hJ (N -(i+1)).toNat _ _ (E (i+1) x.order) [] (by omega) (dj.sp [] rfl rfl rfl (.cons rfl (.pure rfl) (.cons rfl (.pure rfl) (.cons rfl (.pure rfl) (.cons rfl (.int ?_) .nil)))) .nil) ⟨i+1,x.order,by omega,by omega, ?_,rfl,rfl,rfl⟩
      · simp only[Th.aB,aH,wrap64];omega
      · rw[show(i+1).toNat=i.toNat+1 by omega]
        refine Rm.trans ?_;rw[decide_eq_true (by omega),decide_eq_true (by omega),decide_eq_true (by omega),decide_eq_true (by omega)];rfl
    · have h:¬i<N:=by simpa[ai]using h
      obtain rfl:i=N:=by omega
      have Mw:l.drop i.toNat=[]:=List.drop_of_length_le (by omega);exact⟨_,_,dj.sp [] rfl rfl rfl (.cons rfl (.pure rfl) (.cons rfl (.pure rfl) (.cons rfl (.pure rfl) (.cons rfl (.pure rfl) .nil)))) .nil,.inl ⟨rfl,hok.trans (by rw[Mw];rfl),last,rfl,rfl⟩⟩
  case rest=>
    clear hlen;rintro x e o (⟨rfl,hok,last,rfl,rfl⟩|⟨rfl,hok,rfl,rfl⟩)
    · cbv
      exact .int (by simp only[Th.aB,Th.bH,if_pos hok])
    · cbv
      exact .int (by simp only[Th.aB,Th.bH,hok];rfl)
end Go.Proofs.aaa
end
section
namespace Go.Proofs.aaa
section
variable{α:Type}(key:α->Int)
abbrev bU (l:List α):Prop:=l.Pairwise λx y=>key x<key y
def eO (l:List α)(n:Int):Nat:=l.countP λx=>decide (key x<n)
def bq (l:List α)(n:Int):Option α:=l.find? λx=>key x==n
theorem nt (l:List α)(n:Int):eO key l n<=l.length:=List.countP_le_length
theorem qp {l:List α}{n:Int}(h:∀x∈l,¬key x<n):eO key l n=0:=by
 unfold eO;rw[List.countP_eq_zero];intro x hx;simpa using h x hx
theorem jZ:∀{l:List α},bU key l->∀(n:Int)(a:Nat)(x:α),l[a]?=some x->(key x<n↔a<eO key l n)
 |[],_,n,a,x,h=>by simp at h
 |y::l,hs,n,a,x,h=>by
  obtain⟨h1,h2⟩:=List.pairwise_cons.1 hs;by_cases hy:key y<n
  ·have hl:eO key (y::l) n=eO key l n+1:=by simp[eO,hy]
   rw[hl]
   cases a with
   |zero=>simp at h;subst h;exact⟨λ_=>by omega,λ_=>hy⟩
   |succ a=>
    have:=jZ h2 n a x (by simpa using h);rw[this];omega
  ·have h0:eO key (y::l) n=0:=qp key (λz hz=>by
    rcases List.mem_cons.1 hz with rfl|hz
    ·exact hy
    ·have:=h1 z hz;omega)
   rw[h0];have hm:=List.mem_of_getElem? h;rcases List.mem_cons.1 hm with rfl|hm
   ·exact⟨λh=>absurd h hy,λh=>by omega⟩
   ·have:=h1 x hm;exact⟨λh=>by omega,λh=>by omega⟩
theorem b_ {l:List α}{n:Int}{x:α}(h:bq key l n=some x):x∈l/\key x=n:=by
 unfold bq at h;exact⟨List.mem_of_find?_eq_some h,by simpa using List.find?_some h⟩
theorem rQ {l:List α}{n:Int}(h:bq key l n=none):∀x∈l,key x≠n:=by
 unfold bq at h;intro x hx;have:=List.find?_eq_none.1 h x hx;simpa using this
theorem C2 {l:List α}(hs:bU key l){a b:Nat}{x y:α}(ha:l[a]?=some x)(hb:l[b]?=some y)(h:key x=key y):a=b:=by
 obtain⟨X_,rfl⟩:=List.getElem?_eq_some_iff.1 ha;obtain⟨FW,rfl⟩:=List.getElem?_eq_some_iff.1 hb;rcases Nat.lt_trichotomy a b with hlt|he|hlt
 ·have:=List.pairwise_iff_getElem.1 hs a b X_ FW hlt;omega
 ·exact he
 ·have:=List.pairwise_iff_getElem.1 hs b a FW X_ hlt;omega
theorem mj {l:List α}(hs:bU key l)(n:Int):(bq key l n).isSome=true↔∃x,l[eO key l n]?=some x/\key x=n:=by
 constructor
 ·intro h;obtain⟨x,hx⟩:=Option.isSome_iff_exists.1 h;obtain⟨h1,h2⟩:=b_ key hx;obtain⟨a,ha⟩:=List.mem_iff_getElem?.1 h1;have Gb:=(List.getElem?_eq_some_iff.1 ha).1;have h3:=jZ key hs n a x ha;have h4:¬a<eO key l n:=λh=>by have:=h3.2 h;omega
  by_cases h5:eO key l n=a
  ·exact⟨x,by rw[h5];exact ha,h2⟩
  ·exfalso;have hl:eO key l n<l.length:=by omega
   have h6:=jZ key hs n (eO key l n) _ (List.getElem?_eq_getElem hl);have h7:¬key l[eO key l n]<n:=λh=>by have:=h6.1 h;omega
   have h8:=List.pairwise_iff_getElem.1 hs (eO key l n) a hl Gb (by omega);have h9:l[a]=x:=(List.getElem?_eq_some_iff.1 ha).2;rw[h9]at h8;omega
 ·rintro⟨x,hx,h⟩
  cases hf:bq key l n with
  |some y=>rfl
  |none=>exact absurd h (rQ key hf x (List.mem_of_getElem? hx))
theorem fj {l:List α}(hs:bU key l){n:Int}{x:α}(h:bq key l n=some x):l[eO key l n]?=some x:=by
 obtain⟨y,hy,h2⟩:=(mj key hs n).1 (by rw[h];rfl);obtain⟨h3,h4⟩:=b_ key h;obtain⟨a,ha⟩:=List.mem_iff_getElem?.1 h3;have:=C2 key hs hy ha (by omega);subst this;exact ha
end
end Go.Proofs.aaa
end
section
namespace Go.Proofs.aaa
open Go.bA Go.IntWalk
variable{P:Program}(hP:P=Tryz.prog)
abbrev jm (o k a:Int)(u:Bool):AV:=.agg [AI .i64 (.th λ_=>o),AI .u8 (.th λ_=>k),AI .i64 (.th λ_=>a),AB (.th λ_=>u)]
def jo (k:Int):Option (List Int):=if k=1\/k=2 then some [1,2,3,4,5]else if k=3 then some [10,11,9]else none
def ij (l:List Int):List (List T):=l.map λn=>[T.int .u8 (.th λ_=>n)]
def oM (l:List Int):List (List T):=l.map λn=>[T.int .u8 (.lit n)]
theorem iR:∀l,lz (oM l) (ij l)
 |[]=>.nil
 |_::l=>.cons (.cons (.int rfl) .nil) (iR l)
def mG (k:Int):T:=match jo k with|some l=>.dO 1 (ij l)|none=>.lit (.slice none 0 0)
def nS (k:Int):Int:=((jo k).getD []).length
theorem su (k:Int):((T.bJ 1 λ_=>mG k).rows.length:Int)=nS k:=by
 simp only[T.rows,mG,nS];cases jo k<;>simp[ij]
def cF (k a:Int)(u:Bool):Int:=if nS k=0\/a<0\/a>(if u=true then(if k=3 then 0 else nS k -1)else nS k)\/(k=2/\u=false)then 2 else 0
include hP
theorem xW (k:Int):gk P 97 [AI .u8 (.th λ_=>k)] (.c (.bJ 1 λ_=>mG k)):=by
 refine X8 hP ?_;cbv;refine .mk (λh=> ?_) (λh=> ?_)
 ·cbv;exact .B5 (oM [1,2,3,4,5]) _ rfl rfl rfl (by decide) (.jP (es':=ij [1,2,3,4,5]) (by simp at h;simp[mG,jo,h]) (iR [1,2,3,4,5]))
 cbv;refine .mk (λh=> ?_) (λh=> ?_)
 ·cbv;exact .B5 (oM [1,2,3,4,5]) _ rfl rfl rfl (by decide) (.jP (es':=ij [1,2,3,4,5]) (by simp at h;simp[mG,jo,h]) (iR [1,2,3,4,5]))
 cbv;refine .mk (λh=> ?_) (λh=> ?_)
 ·cbv;exact .B5 (oM [10,11,9]) _ rfl rfl rfl (by decide) (.jP (es':=ij [10,11,9]) (by simp at h;simp[mG,jo,h]) (iR [10,11,9]))
 cbv;exact .c (.Lf (by simp_all [mG,jo]))
omit hP in
theorem qJ (k:Int):(k=1\/k=2)/\nS k=5\/k=3/\nS k=3\/(k≠1/\k≠2/\k≠3)/\nS k=0:=by
 by_cases h1:k=1\/k=2
 ·simp[nS,jo,h1]
 ·by_cases h2:k=3
  ·simp[nS,jo,h2]
  ·simp[nS,jo,h1,h2];omega
set_option maxHeartbeats 1000000 in
theorem xX (o k a:Int)(u:Bool):gk P 96 [jm o k a u] (AI .i64 (.th λ_=>cF k a u)):=by
 have hn:=qJ k;have hw:IntKind.i64.wrap (nS k -1)=nS k -1:=i64_in _ (by omega);refine gk.args (args':=[.agg [AI .i64 (.th λ_=>o),AI .u8 (.th λ_=>k),AI .i64 (.th λ_=>a),AB (.lit u)]]) ?_ (.cons (.eJ (.cons (.pure rfl) (.cons (.pure rfl) (.cons (.pure rfl) (.cons (.bool rfl) .nil))))) .nil);cases u;all_goals
  refine e96 hP ?_;cbv;refine(xW hP k).call (gj.cons (.pure rfl) .nil) rfl ?_;cbv
  repeat' (refine aM.mk (λh=> ?_) (λh=> ?_)<;>cbv)
  all_goals
   refine .int ?_;simp only[Th.bH,Th.aB,cF,ai,aH,su]at*;simp[hw]at*;first|omega|(split<;>omega)|(split<;>simp_all<;>omega)
omit hP in
theorem xY (l:List Int):(ij l).length=l.length:=by simp[ij]
omit hP in
theorem sv (l:List Int)(i:Nat)(n:Int)(h:l[i]?=some n):(ij l)[i]?=some [T.int .u8 (.th λ_=>n)]:=by simp[ij,h]
def Bq:List Int->Int->Nat->Int
 |[],_,_=>-1
 |a::l,s,k=>if a=s then(k:Int)else Bq l s (k+1)
def idx (l:List Int)(s:Int):Int:=Bq l s 0
omit hP in
theorem zC:∀(l:List Int)(s:Int)(k i:Nat),l[i]?=some s->(∀j,j<i->l[j]?≠some s)->Bq l s k=(k+i:Nat)
 |[],s,k,i,h,_=>by simp at h
 |a::l,s,k,i,h,hn=>by
  cases i with
  |zero=>simp at h;simp[Bq,h]
  |succ i=>
   have ha:a≠s:=λe=>hn 0 (by omega) (by simp[e]);simp only[Bq,if_neg ha];rw[zC l s (k+1) i (by simpa using h) (λj hj=>by have:=hn (j+1) (by omega);simpa using this)];omega
omit hP in
theorem sw:∀(l:List Int)(s:Int)(k:Nat),(∀j,j<l.length->l[j]?≠some s)->Bq l s k=-1
 |[],s,k,_=>rfl
 |a::l,s,k,hn=>by
  have ha:a≠s:=λe=>hn 0 (by simp) (by simp[e]);simp only[Bq,if_neg ha];exact sw l s (k+1) (λj hj=>by have:=hn (j+1) (by simp;omega);simpa using this)
set_option maxHeartbeats 1000000 in
theorem Fy (l:List Int)(s:Int)(hl:l.length<=9223372036854775807):gk P 146 [.c (.bJ 1 λ_=>.dO 1 (ij l)),AI .u8 (.th λ_=>s)] (AI .i64 (.th λ_=>idx l s)):=by
 refine Wg hP ?_;cbv
 let E:Nat->List AV:=λi=>[.c (.bJ 1 λ_=>.dO 1 (ij l)),AI .u8 (.th λ_=>s),.bB,.bB,AI .i64 (.lit 0),.bB,.bB,AI .i64 (.th λ_=>(l.length:Int)),AI .i64 (.th λ_=>(i:Int)),.bB,.bB,.bB,.bB,.bB,.bB,.bB,.bB,.bB,.bB]
 refine cu.inv (ty hP) (λn e o=>∃i,i<=l.length/\n=l.length -i/\(∀j,j<i->l[j]?≠some s)/\e=E i/\o=[]) l.length (E 0) [] (dj.of [] rfl rfl ?_ .nil) ⟨0,by omega,by omega,λj h=>by omega,rfl,rfl⟩ ?_
 ·repeat' (first|exact gj.nil|refine gj.cons ?_ ?_)
  all_goals first|exact .bB|exact .pure rfl|exact .int rfl|(refine .int ?_;simp[T.rows,xY])
 ·rintro n e o ⟨i,hi,hn,hne,rfl,rfl⟩ J hJ;cbv;refine aM.mk (λh=> ?_) (λh=> ?_)<;>cbv
  ·simp[ai]at h;have hlt:i<l.length:=by omega
   refine bF.mk [T.int .u8 (.th λ_=>l[i])] (by simp) ?_ ?_
   ·simp[T.rows];exact sv l i _ (List.getElem?_eq_getElem hlt)
   ·cbv;refine aM.mk (λh=> ?_) (λh=> ?_)<;>cbv
    ·refine .int ?_;simp[ai]at h;simp[idx,zC l s 0 i (by rw[List.getElem?_eq_getElem hlt,h]) hne]
    ·simp[ai]at h;refine hJ (l.length -(i+1)) _ _ (E (i+1)) [] (by omega) (dj.of [] rfl rfl ?_ .nil) ⟨i+1,by omega,by omega,λj hj=> ?_,rfl,rfl⟩
     ·repeat' (first|exact gj.nil|refine gj.cons ?_ ?_)
      all_goals first|exact .bB|exact .pure rfl|exact .int rfl|(refine .int ?_;simp[aH];first|exact i64_in ((i:Int)+1) (by omega)|(trace_state;done))
     ·rcases Nat.lt_or_ge j i with h1|h1
      ·exact hne j h1
      ·have:j=i:=by omega
       subst this;rw[List.getElem?_eq_getElem hlt];simp;exactλe=>h e.symm
  ·simp[ai]at h;refine .int ?_;simp[idx,sw l s 0 (λj hj=>hne j (by omega))]
end Go.Proofs.aaa
end
section
namespace Go.Proofs.aaa
open Go.bA Go.IntWalk
variable{P:Program}(hP:P=Tryz.prog)
def lk (k:Int):List Int:=(jo k).getD []
theorem vV (k:Int):(T.bJ 1 λ_=>mG k).rows=ij (lk k):=by
 simp only[T.rows,mG,lk];cases jo k<;>simp[ij]
theorem xZ (l:List Int)(n:Int)(h0:0<=n)(h:n<l.length):(ij l)[n.toNat]?=some [T.int .u8 (.th λ_=>l.getD n.toNat 0)]:=
 sv l _ _ (by rw[List.getD_eq_getElem?_getD,List.getElem?_eq_getElem (by omega)];rfl)
theorem Il (k:Int):((lk k).length:Int)=nS k:=rfl
def Im (s:Int):Int:=if s=1 then 6 else if s=2 then 7 else if s=3 then 8 else if s=4 then 9 else 0
def Io (s:Int):Bool:=decide (s=1)||decide (s=2)||decide (s=3)||decide (s=4)
def CQ (s:Int):Bool:=decide (0<=idx [1,2,3,4,5,10] s)
def j_ (k a:Int)(u:Bool):Int:=if cF k a u≠0 then 0 else if u=true then(if a>0 then Im ((lk k).getD (a -1).toNat 0)else 0)else if a<nS k then(lk k).getD a.toNat 0 else 0
def cw (k a:Int)(u:Bool):Bool:=if cF k a u≠0 then false else if u=true then(if a>0 then Io ((lk k).getD (a -1).toNat 0)else false)else decide (a<nS k)
include hP
set_option maxHeartbeats 1000000 in
theorem Ip (s:Int):gk P 98 [AI .u8 (.th λ_=>s)] (.cI [AI .u8 (.th λ_=>Im s),AB (.th λ_=>Io s)]):=by
 refine e98 hP ?_;cbv
 repeat' (refine aM.mk (λh=> ?_) (λh=> ?_)<;>cbv)
 all_goals
  refine .cA (.cons (.int ?_) (.cons (.bool ?_) .nil));all_goals simp_all [Im,Io]
theorem qK (l:List Int)(s:Int)(hl:l.length<=9223372036854775807):gk P 99 [.c (.bJ 1 λ_=>.dO 1 (ij l)),AI .u8 (.th λ_=>s)] (AB (.th λ_=>decide (0<=idx l s))):=by
 refine e99 hP ?_;cbv;refine(Fy hP l s hl).call (.cons (.pure rfl) (.cons (.pure rfl) .nil)) rfl ?_;cbv;refine .bool ?_;simp[ai]
theorem FA (s:Int):gk P 102 [AI .u8 (.th λ_=>s)] (AB (.th λ_=>CQ s)):=by
 refine Wd hP ?_;cbv;refine X8 hP ?_;cbv;refine cU (ty hP) (e:=47) rfl rfl rfl (by simp) rfl rfl (by decide) rfl (by decide) rfl (by simp) (Src.sl (a_ (ty hP) (e:=47) rfl rfl) (es:=.lit [[AI .u8 (.lit 10)]]) (sz:=.lit 1) rfl (by simp) (by decide)) (by decide) (by decide) (.lit 6) (.lit [[AI .u8 (.lit 1)],[AI .u8 (.lit 2)],[AI .u8 (.lit 3)],[AI .u8 (.lit 4)],[AI .u8 (.lit 5)],[AI .u8 (.lit 10)]]) rfl rfl (λc hc=> ?_);cbv;refine((qK hP [1,2,3,4,5,10] s (by decide)).args (args:=[.c (.bJ 1 λ_=>.dO 1 (oM [1,2,3,4,5,10])),AI .u8 (.th λ_=>s)]) (.cons (.c (.bJ rfl rfl (iR _))) (.cons (.pure rfl) .nil))).EH (.cons (.Lc (oM [1,2,3,4,5,10]) _ rfl rfl (by decide) rfl) (.cons (.pure rfl) .nil)) rfl ?_;cbv;exact .bool rfl
abbrev DX (o k a:Int)(u:Bool):AV:=.agg [AI .i64 (.th λ_=>o),AI .u8 (.th λ_=>k),AI .i64 (.th λ_=>a),AB (.lit u)]
omit hP in
theorem Ya (o k a:Int)(u:Bool):RV 0 [] [] (jm o k a u) (DX o k a u):=.eJ (.cons (.pure rfl) (.cons (.pure rfl) (.cons (.pure rfl) (.cons (.bool rfl) .nil))))
omit hP in
theorem Yb (o k a:Int)(u:Bool):RV 0 [] [] (DX o k a u) (jm o k a u):=.eJ (.cons (.pure rfl) (.cons (.pure rfl) (.cons (.pure rfl) (.cons (.bool rfl) .nil))))
set_option maxHeartbeats 1000000 in
theorem Br (o k a:Int)(u:Bool):gk P 50 [jm o k a u] (.cI [AI .u8 (.th λ_=>j_ k a u),AB (.th λ_=>cw k a u),AI .i64 (.th λ_=>cF k a u)]):=by
 have hn:=qJ k;refine gk.args (args':=[DX o k a u]) ?_ (.cons (Ya ..) .nil);cases u<;>(
  refine e50 hP ?_;cbv;refine(xX hP o k a _).call (.cons (Yb ..) .nil) rfl ?_;cbv;refine aM.mk (λh=> ?_) (λh=> ?_)<;>cbv)
 case false.refine_1|true.refine_1=>
  simp[ai]at h;refine .cA (.cons (.int ?_) (.cons (.bool ?_) (.cons (.int rfl) .nil)));all_goals simp[j_,cw,h]
 all_goals
  simp[ai]at h;have hc:=h;simp[cF]at hc;refine(xW hP k).call (.cons (.pure rfl) .nil) rfl ?_;cbv
 ·refine aM.mk (λh2=> ?_) (λh2=> ?_)<;>cbv
  ·simp[ai,su]at h2;refine bF.mk [T.int .u8 (.th λ_=>(lk k).getD a.toNat 0)] ?_ ?_ ?_
   ·simp;omega
   ·simp only[vV,Th.aB];exact xZ _ _ (by omega) (by rw[Il];omega)
   ·cbv;refine .cA (.cons (.int ?_) (.cons (.bool ?_) (.cons (.int ?_) .nil)));all_goals simp[j_,cw,h,h2]
  ·simp[ai,su]at h2;refine .cA (.cons (.int ?_) (.cons (.bool ?_) (.cons (.int ?_) .nil)));all_goals simp[j_,cw,h,h2]
   all_goals omega
 ·refine aM.mk (λh2=> ?_) (λh2=> ?_)<;>cbv
  ·simp[ai]at h2;have hw:IntKind.i64.wrap (a -1)=a -1:=i64_in _ (by split at hc<;>omega);refine bF.mk [T.int .u8 (.th λ_=>(lk k).getD (a -1).toNat 0)] ?_ ?_ ?_
   ·simp only[aH,hw,Th.aB];omega
   ·simp only[aH,hw,vV,Th.aB];exact xZ _ _ (by omega) (by rw[Il];split at hc<;>omega)
   ·cbv;refine(Ip hP _).call (.cons (.pure rfl) .nil) rfl ?_;cbv;refine .cA (.cons (.int ?_) (.cons (.bool ?_) (.cons (.int ?_) .nil)));all_goals simp[j_,cw,h,h2]
  ·simp[ai]at h2;refine .cA (.cons (.int ?_) (.cons (.bool ?_) (.cons (.int ?_) .nil)));all_goals simp[j_,cw,h]
   all_goals omega
end Go.Proofs.aaa
end
section
namespace Go.Proofs.aaa
open Go.bA Go.IntWalk
variable{P:Program}(hP:P=Tryz.prog)
theorem kL:∀{l:List ah}{last:Int},fR last l=true->bU ah.order l/\∀x∈l,last<x.order/\x.order<=1024/\x.state≠0/\x.state<7
 |[],_,_=>⟨.nil,λx h=>by cases h⟩
 |y::l,last,h=>by
  simp only[fR,Bool.and_eq_true,decide_eq_true_eq]at h;obtain⟨⟨⟨⟨h1,h2⟩,h3⟩,h4⟩,h5⟩:=h;obtain⟨h6,h7⟩:=kL h5;refine⟨List.pairwise_cons.2 ⟨λz hz=>(h7 z hz).1,h6⟩,λx hx=> ?_⟩;rcases List.mem_cons.1 hx with rfl|hx
  ·exact⟨h1,h2,h3,h4⟩
  ·obtain⟨a,b⟩:=h7 x hx;exact⟨by omega,b⟩
def cz (l:List ah)(n:Int):Int:=match bq ah.order l n with|some x=>x.state|none=>0
def sX (l:List ah)(n:Int):Int:=if fR 0 l=true/\1<=n/\n<=1024 then 0 else 2
def Bs (l:List ah)(n:Int):Int:=if fR 0 l=true/\1<=n/\n<=1024 then cz l n else 0
include hP
theorem tc (m:Int):gk P 219 [AI .u8 (.th λ_=>m)] (AB (.th λ_=>decide (m>0)&&decide (m<7))):=by
 refine Wu hP ?_;cbv;refine aM.mk (λh=> ?_) (λh=> ?_)<;>cbv
 ·exact .bool (by simp only[ai,gt_iff_lt]at h⊢;simp[h])
 ·exact .bool (by simp only[ai,gt_iff_lt]at h⊢;simp[h])
theorem tf (l:List ah)(n:Int)(hl:l.length<=1000000000000)(hs:bU ah.order l):gk P 210 [aq ah.ts 2 l,AI .i64 (.th λ_=>n)] (.cI [AI .i64 (.th λ_=>(eO ah.order l n:Int)),AB (.th λ_=>(bq ah.order l n).isSome)]):=by
 have h1:=C1 hP l n (eO ah.order l n) l.length (bq ah.order l n).isSome rfl hl (by omega) (by have:=nt ah.order l n;omega) (λa x ha hx=>by
  have:=jZ ah.order hs n a.toNat x hx;rw[this];omega) (by rw[Int.toNat_natCast];exact mj ah.order hs n)
 refine Wp hP ?_;cbv;refine h1.call (.cons (.pure rfl) (.cons (.pure rfl) (.cons (.pure rfl) .nil))) rfl ?_;cbv;exact .cA (.cons (.pure rfl) (.cons (.pure rfl) .nil))
theorem Iq (l:List ah)(n:Int)(hl:l.length<=1000000000000):gk P 207 [aq ah.ts 2 l,AI .i64 (.th λ_=>n)] (.cI [AI .u8 (.th λ_=>Bs l n),AI .i64 (.th λ_=>sX l n)]):=by
 have HW:=Bp hP l hl;have yA:=λhs=>tf hP l n hl hs;have hr:fR 0 l=true->bU ah.order l:=λh=>(kL h).1;obtain⟨e,he⟩:∃e,Nh l=e:=⟨_,rfl⟩;have IY:e=0↔fR 0 l=true:=by
  rw[<-he];unfold Nh;by_cases h:fR 0 l=true
  ·simp[h]
  ·simp[h]
 rw[he]at HW;clear he;have bad:¬(fR 0 l=true/\1<=n/\n<=1024)->Bs l n=0/\sX l n=2:=λh=>⟨if_neg h,if_neg h⟩;have good:(fR 0 l=true/\1<=n/\n<=1024)->Bs l n=cz l n/\sX l n=0:=λh=>⟨if_pos h,if_pos h⟩;refine Wn hP ?_;cbv;refine HW.call (.cons (.pure rfl) .nil) rfl ?_;cbv;refine aM.mk (λh=> ?_) (λh=> ?_)<;>cbv
 ·have hb:=bad (λh2=>by have:=IY.2 h2.1;simp[ai]at h;omega);exact .cA (.cons (.int (by simp only[Th.aB,Th.bH,hb.1])) (.cons (.int (by simp only[Th.aB,Th.bH,hb.2])) .nil))
 have h0:e=0:=by simpa[ai]using h
 refine aM.mk (λh1=> ?_) (λh1=> ?_)<;>cbv
 ·have hb:=bad (λh2=>by simp[ai]at h1;omega);exact .cA (.cons (.int (by simp only[Th.aB,Th.bH,hb.1])) (.cons (.int (by simp only[Th.aB,Th.bH,hb.2])) .nil))
 refine aM.mk (λh2=> ?_) (λh2=> ?_)<;>cbv
 ·have hb:=bad (λh3=>by simp[ai]at h2;omega);exact .cA (.cons (.int (by simp only[Th.aB,Th.bH,hb.1])) (.cons (.int (by simp only[Th.aB,Th.bH,hb.2])) .nil))
 have hg:=good ⟨IY.1 h0,by simp[ai]at h1;omega,by simp[ai]at h2;omega⟩;have hs:=hr (IY.1 h0);refine(yA hs).call (.cons (.pure rfl) (.cons (.pure rfl) .nil)) rfl ?_;cbv;refine aM.mk (λh3=> ?_) (λh3=> ?_)<;>cbv
 ·obtain⟨x,hx⟩:=Option.isSome_iff_exists.1 h3;have Ae:=fj ah.order hs hx;refine bF.mk _ (Int.natCast_nonneg _) (show(l.map ah.ts)[eO ah.order l n]?=_ from aY ah.ts l _ x Ae) ?_;cbv;have hv:cz l n=x.state:=by unfold cz;rw[hx]
  exact .cA (.cons (.int (by simp only[Th.aB,hg.1,hv])) (.cons (.int (by simp only[Th.aB,Th.bH,hg.2])) .nil))
 ·have hv:cz l n=0:=by
   unfold cz;have:bq ah.order l n=none:=by simpa using h3
   rw[this]
  exact .cA (.cons (.int (by simp only[Th.aB,Th.bH,hg.1,hv])) (.cons (.int (by simp only[Th.aB,Th.bH,hg.2])) .nil))
end Go.Proofs.aaa
end
section
namespace Go.Proofs.aaa
open Go.bA Go.IntWalk
variable{P:Program}(hP:P=Tryz.prog)
def ig (s m:Int):Int:=if m=1/\s=0 then 1 else if m=2/\s=1 then 2 else if m=3/\s=2 then 3 else if m=4/\s=1 then 4 else if m=5/\(s=2\/s=3)then 5 else if m=6/\s=5 then 6 else 0
def iX (s m:Int):Int:=if s>=7\/m<=0\/m>=7 then 15 else if ig s m=0 then 9 else 0
def om (s m:Int):Int:=if s>=7\/m<=0\/m>=7 then 0 else ig s m
def ya (m:Int):Bool:=decide (m=1\/m=2\/m=5)
include hP
set_option maxHeartbeats 4000000 in
theorem C3 (s m:Int)(hs:0<=s):gk P 208 [AI .u8 (.th λ_=>s),AI .u8 (.th λ_=>m)] (.cI [AI .u8 (.th λ_=>om s m),AI .i64 (.th λ_=>iX s m)]):=by
 by_cases tI:s>=7\/m<=0\/m>=7
 ·have h1:om s m=0/\iX s m=15:=⟨if_pos tI,if_pos tI⟩;have hk:=tc hP m;refine Ri hP ?_;cbv;refine aM.mk (λh=> ?_) (λh=> ?_)<;>cbv
  ·exact .cA (.cons (.int (by simp only[Th.aB,Th.bH,h1.1])) (.cons (.int (by simp only[Th.aB,Th.bH,h1.2])) .nil))
  ·refine hk.call (.cons (.pure rfl) .nil) rfl ?_;cbv;refine aM.t (by simp only[ai,decide_eq_false_iff_not]at h;simp;omega) ?_;cbv;exact .cA (.cons (.int (by simp only[Th.aB,Th.bH,h1.1])) (.cons (.int (by simp only[Th.aB,Th.bH,h1.2])) .nil))
 ·have hm:m=1\/m=2\/m=3\/m=4\/m=5\/m=6:=by omega
  have hs':s=0\/s=1\/s=2\/s=3\/s=4\/s=5\/s=6:=by omega
  clear tI;have hk:=tc hP m;rcases hm with rfl|rfl|rfl|rfl|rfl|rfl<;>rcases hs' with rfl|rfl|rfl|rfl|rfl|rfl|rfl
  all_goals
   refine Ri hP ?_;cbv;refine aM.f (by decide) ?_;cbv;refine hk.call (.cons (.pure rfl) .nil) rfl ?_;cbv;refine aM.f (by decide) ?_;cbv;refine Wv hP ?_;cbv;apply bF.mk
   ·decide
   ·rfl
   cbv;apply bF.mk
   ·decide
   ·rfl
   cbv;exact .cA (.cons (.int (by decide)) (.cons (.int (by decide)) .nil))
end Go.Proofs.aaa
end
section
namespace Go.Proofs.aaa
open Go.bA Go.IntWalk
variable{P:Program}(hP:P=Tryz.prog)
theorem Ir (m:Int):decide (0<=idx [1,2,5] m)=ya m:=by
 unfold ya;rw[Bool.eq_iff_iff,decide_eq_true_eq,decide_eq_true_eq];simp only[idx,Bq]
 repeat' split
 all_goals omega
include hP
set_option maxHeartbeats 1000000 in
theorem Bt (l:List Int)(s:Int)(hl:l.length<=9223372036854775807):gk P 232 [.c (.bJ 1 λ_=>.dO 1 (ij l)),AI .u8 (.th λ_=>s)] (AI .i64 (.th λ_=>idx l s)):=by
 refine WC hP ?_;cbv
 let E:Nat->List AV:=λi=>[.c (.bJ 1 λ_=>.dO 1 (ij l)),AI .u8 (.th λ_=>s),.bB,.bB,AI .i64 (.lit 0),.bB,.bB,AI .i64 (.th λ_=>(l.length:Int)),AI .i64 (.th λ_=>(i:Int)),.bB,.bB,.bB,.bB,.bB,.bB,.bB,.bB,.bB,.bB]
 refine cu.inv (ty hP) (λn e o=>∃i,i<=l.length/\n=l.length -i/\(∀j,j<i->l[j]?≠some s)/\e=E i/\o=[]) l.length (E 0) [] (dj.of [] rfl rfl ?_ .nil) ⟨0,by omega,by omega,λj h=>by omega,rfl,rfl⟩ ?_
 ·repeat' (first|exact gj.nil|refine gj.cons ?_ ?_)
  all_goals first|exact .bB|exact .pure rfl|exact .int rfl|(refine .int ?_;simp[T.rows,xY])
 ·rintro n e o ⟨i,hi,hn,hne,rfl,rfl⟩ J hJ;cbv;refine aM.mk (λh=> ?_) (λh=> ?_)<;>cbv
  ·simp[ai]at h;have hlt:i<l.length:=by omega
   refine bF.mk [T.int .u8 (.th λ_=>l[i])] (by simp) ?_ ?_
   ·simp[T.rows];exact sv l i _ (List.getElem?_eq_getElem hlt)
   ·cbv;refine aM.mk (λh=> ?_) (λh=> ?_)<;>cbv
    ·refine .int ?_;simp[ai]at h;simp[idx,zC l s 0 i (by rw[List.getElem?_eq_getElem hlt,h]) hne]
    ·simp[ai]at h;refine hJ (l.length -(i+1)) _ _ (E (i+1)) [] (by omega) (dj.of [] rfl rfl ?_ .nil) ⟨i+1,by omega,by omega,λj hj=> ?_,rfl,rfl⟩
     ·repeat' (first|exact gj.nil|refine gj.cons ?_ ?_)
      all_goals first|exact .bB|exact .pure rfl|exact .int rfl|(refine .int ?_;simp[aH];first|exact i64_in ((i:Int)+1) (by omega)|(trace_state;done))
     ·rcases Nat.lt_or_ge j i with h1|h1
      ·exact hne j h1
      ·have:j=i:=by omega
       subst this;rw[List.getElem?_eq_getElem hlt];simp;exactλe=>h e.symm
  ·simp[ai]at h;refine .int ?_;simp[idx,sw l s 0 (λj hj=>hne j (by omega))]
theorem vW (l:List Int)(s:Int)(hl:l.length<=9223372036854775807):gk P 221 [.c (.bJ 1 λ_=>.dO 1 (ij l)),AI .u8 (.th λ_=>s)] (AB (.th λ_=>decide (0<=idx l s))):=by
 refine Ww hP ?_;cbv;refine(Bt hP l s hl).call (.cons (.pure rfl) (.cons (.pure rfl) .nil)) rfl ?_;cbv;refine .bool ?_;simp[ai]
theorem C4 (m:Int):gk P 209 [AI .u8 (.th λ_=>m)] (AB (.th λ_=>ya m)):=by
 refine Wo hP ?_;cbv;refine((vW hP [1,2,5] m (by decide)).args (args:=[.c (.bJ 1 λ_=>.dO 1 (oM [1,2,5])),AI .u8 (.th λ_=>m)]) (.cons (.c (.bJ rfl rfl (iR _))) (.cons (.pure rfl) .nil))).EH (.cons (.Lc (oM [1,2,5]) _ rfl rfl (by decide) rfl) (.cons (.pure rfl) .nil)) rfl ?_;cbv;refine .bool ?_;simp only[Th.aB];exact Ir m
end Go.Proofs.aaa
end
section
namespace Go.Proofs.aaa
open Go.bA Go.IntWalk
variable{P:Program}(hP:P=Tryz.prog)
theorem dY {α:Type}(key:α->Int)(x:α)(l:List α)(n:Int):bq key (x::l) n=if key x=n then some x else bq key l n:=by
 unfold bq;by_cases h:key x=n
 ·simp[h]
 ·simp[h]
include hP
end Go.Proofs.aaa
end
section
namespace Go.Proofs.aaa
open Go.bA Go.IntWalk
variable{P:Program}(hP:P=Tryz.prog)
def iw {α:Type}(key:α->Int)(l:List α)(x:α):List α:=if(bq key l (key x)).isSome=true then l.set (eO key l (key x)) x else bt l (eO key l (key x)) x
theorem AR {α:Type}(l:List α)(i:Nat)(x y:α)(h:i<=l.length):(bt l i x).set i y=bt l i y:=by
 unfold bt;rw[List.set_append_right _ _ (by simp;omega)];simp[Nat.min_eq_left h]
def fE (l:List ah)(n m v:Int):Int:=
 if sX l n≠0 then sX l n else if v>=2 then 15 else if iX (cz l n) m≠0 then iX (cz l n) m else if ya m=true/\v=1 then 10 else 0
def dz (l:List ah)(n m v:Int):List ah:=if fE l n m v=0 then iw ah.order l ⟨n,ig (cz l n) m⟩else []
theorem j8:∀{l:List ah}{last:Int},0<=last->last<=1024->fR last l=true->(l.length:Int)<=1024 -last
 |[],last,_,h,_=>by simp;omega
 |y::l,last,h0,h1,h=>by
  simp only[fR,Bool.and_eq_true,decide_eq_true_eq]at h;obtain⟨⟨⟨⟨h2,h3⟩,h4⟩,h5⟩,h6⟩:=h;have:=j8 (by omega) h3 h6;simp only[List.length_cons];omega
theorem wX (s m:Int):iX s m=15/\om s m=0\/iX s m=9/\om s m=0\/iX s m=0/\om s m=ig s m:=by
 unfold iX om;split
 ·exact .inl ⟨rfl,rfl⟩
 ·split
  ·rename_i h;exact .inr (.inl ⟨rfl,h⟩)
  ·exact .inr (.inr ⟨rfl,rfl⟩)
include hP
set_option maxHeartbeats 4000000 in
theorem C5 (l:List ah)(n m v:Int)(hl:l.length<=1000000000000)(hw:∀x∈l,0<=x.state):
  gk P 187 [aq ah.ts 2 l,AI .i64 (.th λ_=>n),AI .u8 (.th λ_=>m),AI .u8 (.th λ_=>v)] (.cI [aq ah.ts 2 (dz l n m v),AI .i64 (.th λ_=>fE l n m v)]):=by
 have Yc:=Iq hP l n (by omega);have WE:=C4 hP m;obtain⟨E,hE⟩:∃E,fE l n m v=E:=⟨_,rfl⟩;obtain⟨L,hL⟩:∃L,dz l n m v=L:=⟨_,rfl⟩;have tI:E≠0->L=[]:=λh=>by rw[<-hL,dz,hE,if_neg h]
 have LH:E=0->L=iw ah.order l ⟨n,ig (cz l n) m⟩:=λh=>by rw[<-hL,dz,hE,if_pos h]
 rw[hE,hL];clear hL;by_cases h0:fR 0 l=true/\1<=n/\n<=1024
 ·have a1:sX l n=0:=if_pos h0;have a2:Bs l n=cz l n:=if_pos h0;rw[fE,if_neg (by omega)]at hE;obtain⟨b1,b2,b3⟩:=h0;obtain⟨s,hs⟩:∃s,cz l n=s:=⟨_,rfl⟩;have hs0:0<=s:=hs▸(by
   unfold cz;split
   ·rename_i x hx;exact hw x (b_ _ hx).1
   ·exact Int.le_refl _)
  rw[hs]at hE LH a2;have NM:=C3 hP s m hs0;refine Rh hP ?_;cbv;refine Yc.as (.cI [AI .u8 (.th λ_=>s),AI .i64 (.lit 0)]) (.cA (.cons (.int a2) (.cons (.int a1) .nil))) (.cons (.pure rfl) (.cons (.pure rfl) .nil)) rfl ?_;cbv;refine aM.mk (λh2=> ?_) (λh2=> ?_)<;>cbv
  ·have e1:E=15:=by rw[<-hE,if_pos (by simpa[ai]using h2)]
   obtain rfl:=tI (by omega);exact .cA (.cons .vS (.cons (.int e1.symm) .nil))
  have h2:¬v>=2:=by simpa[ai]using h2
  rw[if_neg h2]at hE;rcases wX s m with⟨n1,n2⟩|⟨n1,n2⟩|⟨n1,n2⟩
  ·refine NM.as (.cI [AI .u8 (.th λ_=>0),AI .i64 (.lit 15)]) (.cA (.cons (.int n2) (.cons (.int n1) .nil))) (.cons (.pure rfl) (.cons (.pure rfl) .nil)) rfl ?_;cbv;rw[n1,if_pos (by decide)]at hE;obtain rfl:=tI (by rw[<-hE];decide);exact .cA (.cons .vS (.cons (.int hE) .nil))
  ·refine NM.as (.cI [AI .u8 (.th λ_=>0),AI .i64 (.lit 9)]) (.cA (.cons (.int n2) (.cons (.int n1) .nil))) (.cons (.pure rfl) (.cons (.pure rfl) .nil)) rfl ?_;cbv;rw[n1,if_pos (by decide)]at hE;obtain rfl:=tI (by rw[<-hE];decide);exact .cA (.cons .vS (.cons (.int hE) .nil))
  ·refine NM.as (.cI [AI .u8 (.th λ_=>ig s m),AI .i64 (.lit 0)]) (.cA (.cons (.int n2) (.cons (.int n1) .nil))) (.cons (.pure rfl) (.cons (.pure rfl) .nil)) rfl ?_;cbv;rw[n1,if_neg (by decide)]at hE;have hlen:l.length<=1024:=by have:=j8 (by omega) (by omega) b1;omega
   by_cases hc:ya m=true/\v=1
   ·rw[if_pos hc]at hE;obtain rfl:=tI (by rw[<-hE];decide);refine WE.as (AB (.lit true)) (.bool hc.1) (.cons (.pure rfl) .nil) rfl ?_;cbv;refine aM.t (by simp[ai,hc.2]) ?_;cbv;exact .cA (.cons .vS (.cons (.int hE) .nil))
   rw[if_neg hc]at hE;obtain rfl:=LH hE.symm;have hr:=(kL b1).1;have hlb:=nt ah.order l n;rcases Bool.eq_false_or_eq_true (ya m)with h3|h3
   case' inl=>
    refine WE.as (AB (.lit true)) (.bool h3) (.cons (.pure rfl) .nil) rfl ?_;cbv;refine aM.f (by have:v≠1:=λh=>hc ⟨h3,h⟩;simp[ai,this]) ?_;cbv
   case' inr=>
    refine WE.as (AB (.lit false)) (.bool h3) (.cons (.pure rfl) .nil) rfl ?_;cbv
   all_goals
    refine(kO hP l (by omega)).frame rfl ?_;rintro _ _ ⟨c,F_,rfl,rfl⟩;refine⟨[0],_,_,rfl,.sl (q:=0) rfl rfl rfl rfl,.cons rfl .aL .nil, ?_⟩;cbv;refine aV.room 0 rfl (λ(pP:c<=9223372036854775807)=> ?_);refine(tf hP l n (by omega) hr).EH (.cons (.aL rfl rfl rfl) (.cons (.pure rfl) .nil)) rfl ?_;cbv;refine aM.mk (λh5=> ?_) (λh5=> ?_)<;>cbv
    ·have h5:(bq ah.order l n).isSome=false:=by simpa using h5
     have hput:iw ah.order l ⟨n,ig s m⟩=bt l (eO ah.order l n) ⟨n,ig s m⟩:=if_neg (by rw[h5];decide);refine(tH hP l c (eO ah.order l n) l.length ⟨0,0⟩ F_ rfl (by omega) (by omega) (by omega) pP).own [0,1] [] (by rfl) (by rfl) ?_ ?_ ?_
     ·refine .cons ?_ (.cons (.pure rfl) (.cons ?_ .nil))
      ·exact .sl (q:=0) rfl rfl rfl rfl
      ·exact .sl (q:=1) rfl rfl rfl rfl
     ·refine .cons rfl .aL (.cons rfl (.jx (.cons (.int rfl) (.cons (.int rfl) .nil)) rfl) .nil)
     ·rintro _ _ ⟨c',tG,rfl,rfl⟩;refine⟨.dead (.dead (.arr (an _ _) .nil)), ?_⟩;cbv;have hlt:eO ah.order l n<(bt l (eO ah.order l n) ⟨0,0⟩).length:=by rw[bW];omega
      rw[show((eO ah.order l n:Nat):Int).toNat=eO ah.order l n from Int.toNat_natCast _];refine bg.mk (qq (by omega)) ?_;cbv;refine bF.mk _ (by simp) (get_at (sr ah.ts _ _ _ (List.getElem?_eq_getElem hlt)) (by simp)) ?_;cbv;refine .cA (.cons (.aD rfl ?_ rfl rfl ?_) (.cons (.int hE) .nil))
      ·rw[hput,<-AR l _ ⟨0,0⟩ ⟨n,ig s m⟩ hlb,<-vR];exact congrArg (λi=>List.set _ i _) (by simp)
      ·rw[hput,bW];rfl
    ·have h5:(bq ah.order l n).isSome=true:=by simpa using h5
     obtain⟨x,x1,x2⟩:=(mj ah.order hr n).1 h5;have hput:iw ah.order l ⟨n,ig s m⟩=l.set (eO ah.order l n) ⟨n,ig s m⟩:=if_pos h5;have hlt:eO ah.order l n<l.length:=(List.getElem?_eq_some_iff.1 x1).1;refine bg.mk (qq (by omega)) ?_;cbv;refine bF.mk _ (by simp) (get_at (sr ah.ts _ _ _ x1) (by simp)) ?_;cbv;refine .cA (.cons (.aD rfl ?_ rfl rfl ?_) (.cons (.int hE) .nil))
     ·rw[hput,<-vR];exact congrArg (λi=>List.set _ i _) (by simp)
     ·rw[hput,List.length_set];rfl
 ·have a1:sX l n=2:=if_neg h0;have a2:Bs l n=0:=if_neg h0;rw[fE,if_pos (by omega)]at hE;refine Rh hP ?_;cbv;refine Yc.as (.cI [AI .u8 (.th λ_=>0),AI .i64 (.lit 2)]) (.cA (.cons (.int a2) (.cons (.int a1) .nil))) (.cons (.pure rfl) (.cons (.pure rfl) .nil)) rfl ?_;cbv;obtain rfl:=tI (by omega);exact .cA (.cons .vS (.cons (.int (a1.symm.trans hE)) .nil))
end Go.Proofs.aaa
end
section
namespace Go.Proofs.aaa
open Go.bA Go.IntWalk
variable{P:Program}(hP:P=Tryz.prog)
def qD (k a:Int)(u:Bool):Int:=if cF k a u≠0 then cF k a u else if cw k a u=false then 9 else 0
def E9 (o k a:Int)(u:Bool):Int:=if qD k a u=0 then o else 0
def wQ (k a:Int)(u:Bool):Int:=if qD k a u=0 then k else 0
def wR (k a:Int)(u d:Bool):Int:=if qD k a u=0 then(if d=true then(if u=true then a -1 else a+1)else a)else 0
def wS (k a:Int)(u d:Bool):Bool:=if qD k a u=0 then(if d=true then u else u||CQ (j_ k a u))else false
abbrev WG (o k a:Int)(u d:Bool):AV:=.cI [.agg [AI .i64 (.th λ_=>E9 o k a u),AI .u8 (.th λ_=>wQ k a u),AI .i64 (.th λ_=>wR k a u d),AB (.th λ_=>wS k a u d)],AI .i64 (.th λ_=>qD k a u)]
theorem C6 (k a:Int)(u:Bool)(h:qD k a u=0):0<=a/\a<=5:=by
 have hn:=qJ k;unfold qD at h;split at h
 ·omega
 ·rename_i h1;simp[cF]at h1;cases u<;>simp at h1<;>(try split at h1)<;>omega
include hP
set_option maxHeartbeats 2000000 in
theorem DY (o k a:Int)(u d:Bool):gk P 53 [jm o k a u,AB (.th λ_=>d)] (WG o k a u d):=by
 have hr:=C6 k a u;refine gk.args (args':=[DX o k a u,AB (.lit d)]) ?_ (.cons (Ya ..) (.cons (.bool rfl) .nil));cases u<;>cases d<;>(
  refine e53 hP ?_;cbv;refine(Br hP o k a _).call (.cons (Yb ..) .nil) rfl ?_;cbv;refine aM.mk (λh=> ?_) (λh=> ?_)<;>cbv
  rotate_left
  refine aM.mk (λh2=> ?_) (λh2=> ?_)<;>cbv
  rotate_left
  try(refine(FA hP _).call (.cons (.pure rfl) .nil) rfl ?_;cbv))
 all_goals
  simp[ai]at*;refine .cA (.cons (.eJ (.cons (.int ?_) (.cons (.int ?_) (.cons (.int ?_) (.cons (.bool ?_) .nil))))) (.cons (.int ?_) .nil));all_goals simp_all [E9,wQ,wR,wS,qD,aH]
 all_goals exact i64_in _ (by omega)
def jf (k a:Int)(u:Bool):Int:=if cF k a u≠0 then 0 else if u=true then a else nS k -a
def yb (a:Int)(u:Bool):Int:=if u=true then a -1 else a+1
omit hP in
theorem ke {k a:Int}{u:Bool}(h:cF k a u=0):(k=1\/k=2\/k=3)/\(a=0\/a=1\/a=2\/a=3\/a=4\/a=5):=by
 have hn:=qJ k;simp[cF]at h;cases u<;>simp at h<;>(try split at h)<;>constructor<;>omega
omit hP in
theorem xU {k a:Int}{u:Bool}(h:cF k a u=0)(hb:cw k a u=true):cF k (yb a u) u=0/\jf k (yb a u) u+1=jf k a u/\1<=jf k a u:=by
 obtain⟨h1,h2⟩:=ke h;rcases h1 with rfl|rfl|rfl<;>rcases h2 with rfl|rfl|rfl|rfl|rfl|rfl<;>cases u<;>revert h hb<;>decide
omit hP in
theorem Is {k a:Int}{u:Bool}(h:cF k a u=0)(hb:cw k a u=false):jf k a u=0:=by
 obtain⟨h1,h2⟩:=ke h;rcases h1 with rfl|rfl|rfl<;>rcases h2 with rfl|rfl|rfl|rfl|rfl|rfl<;>cases u<;>revert h hb<;>decide
omit hP in
theorem zz {k a:Int}{u:Bool}(h:cF k a u=0):0<=jf k a u/\jf k a u<=5:=by
 obtain⟨h1,h2⟩:=ke h;rcases h1 with rfl|rfl|rfl<;>rcases h2 with rfl|rfl|rfl|rfl|rfl|rfl<;>cases u<;>revert h<;>decide
set_option maxHeartbeats 2000000 in
theorem It (o k a:Int)(u:Bool):gk P 60 [jm o k a u] (.cI [AI .i64 (.th λ_=>jf k a u),AI .i64 (.th λ_=>cF k a u)]):=by
 refine e60 hP ?_;cbv;refine(xX hP o k a _).call (.cons (.pure rfl) .nil) rfl ?_;cbv;refine aM.mk (λh=> ?_) (λh=> ?_)<;>cbv
 ·simp[ai]at h;refine .cA (.cons (.int ?_) (.cons (.int rfl) .nil));simp[jf,h]
 ·simp[ai]at h
  let E:Int->List AV:=λn=>[.bB,.ref 0 0,.bB,.bB,.bB,AI .i64 (.th λ_=>n),.bB,.bB,.bB,.bB,.bB,.bB,.bB,.bB,.bB,.bB,.bB,.bB,.bB,.bB,.bB,.bB,.bB,.bB]
  let B:Int->AO:=λa=>.box [AI .i64 (.th λ_=>o),AI .u8 (.th λ_=>k),AI .i64 (.th λ_=>a),AB (.th λ_=>u)]
  refine cu.inv (ty hP) (λN e ob=>∃a' n,cF k a' u=0/\0<=n/\n+jf k a' u=jf k a u/\N=(jf k a' u).toNat/\e=E n/\ob=[B a']) _ (E 0) [B a] (dj.of [0] rfl rfl ?_ (.cons rfl (.aN ?_) .nil)) ⟨a,0,h,by omega,by omega,rfl,rfl,rfl⟩ ?_
  ·repeat' (first|exact gj.nil|refine gj.cons ?_ ?_)
   all_goals first|exact .bB|exact .pure rfl|exact .int rfl|exact .ref (q:=0) rfl
  ·repeat' (first|exact gj.nil|refine gj.cons ?_ ?_)
   all_goals exact .pure rfl
  ·rintro N e ob ⟨a',n,hc,hn,hl,rfl,rfl,rfl⟩ J hJ;have hle:=zz h;have hle':=zz hc;cbv;refine(DY hP o k a' u true).call (.cons (.pure rfl) (.cons (.bool rfl) .nil)) rfl ?_;cbv;refine aM.mk (λh2=> ?_) (λh2=> ?_)<;>cbv
   ·simp[ai,qD,hc]at h2;refine .cA (.cons (.int ?_) (.cons (.int ?_) .nil))
    ·have:=Is hc h2;simp;omega
    ·simp[h]
   ·simp[ai,qD,hc]at h2;obtain⟨g1,g2,g3⟩:=xU hc h2;refine hJ (jf k (yb a' u) u).toNat _ _ (E (n+1)) [B (yb a' u)] (by omega) (dj.of [0] rfl rfl ?_ (.cons rfl (.aN ?_) .nil)) ⟨yb a' u,n+1,g1,by omega,by omega,rfl,rfl,rfl⟩
    ·repeat' (first|exact gj.nil|refine gj.cons ?_ ?_)
     all_goals first|exact .bB|exact .ref (q:=0) rfl|(refine .int ?_;exact i64_in _ (by omega))
    ·refine .cons (.int ?_) (.cons (.int ?_) (.cons (.int ?_) (.cons (.bool ?_) .nil)));all_goals simp[E9,wQ,wR,wS,qD,hc,h2,yb]
end Go.Proofs.aaa
end
section
namespace Go.DZ
theorem FB (S n:Int)(hn:-9223372036854775808<=n/\n<=9223372036854775807):
 (S %18446744073709551616+n %18446744073709551616+0) %18446744073709551616=(S+n) %18446744073709551616/\
 ((S/18446744073709551616) %18446744073709551616+(n/9223372036854775808) %18446744073709551616+(S %18446744073709551616+n %18446744073709551616+0)/18446744073709551616) %18446744073709551616=((S+n)/18446744073709551616) %18446744073709551616:=by
 constructor
 ·omega
 ·have h1:(S+n)/18446744073709551616=S/18446744073709551616+(n/9223372036854775808)+(S %18446744073709551616+n %18446744073709551616+0)/18446744073709551616:=by omega
  rw[h1];omega
theorem Iu (S:Int)(hS:-85070591730234615865843651857942052864<=S/\S<=85070591730234615865843651857942052863):
 (S %18446744073709551616+9223372036854775808) %18446744073709551616 -9223372036854775808=(S+9223372036854775808) %18446744073709551616 -9223372036854775808/\
 ((S/18446744073709551616) %18446744073709551616=(((S %18446744073709551616+9223372036854775808) %18446744073709551616 -9223372036854775808)/9223372036854775808) %18446744073709551616↔(-9223372036854775808<=S/\S<=9223372036854775807)):=by
 obtain⟨H,hH⟩:∃H,S/18446744073709551616=H:=⟨_,rfl⟩;obtain⟨L,hL⟩:∃L,S %18446744073709551616=L:=⟨_,rfl⟩;have h0:S=18446744073709551616*H+L/\0<=L/\L<18446744073709551616/\-4611686018427387904<=H/\H<4611686018427387904:=by omega
 rw[hH,hL];constructor
 ·omega
 ·have hm:H %18446744073709551616=if H<0 then H+18446744073709551616 else H:=by split<;>omega
  have hl:(((L+9223372036854775808) %18446744073709551616 -9223372036854775808)/9223372036854775808) %18446744073709551616=if L<9223372036854775808 then 0 else 18446744073709551615:=by
   split
   ·have:(L+9223372036854775808) %18446744073709551616 -9223372036854775808=L:=by omega
    rw[this];omega
   ·have:(L+9223372036854775808) %18446744073709551616 -9223372036854775808=L -18446744073709551616:=by omega
    rw[this];have:(L -18446744073709551616)/9223372036854775808=-1:=by omega
    rw[this];rfl
  rw[hm,hl];clear hm hl hH hL hS;split<;>split<;>omega
theorem yd:∀(l:List Int),(∀n∈l,-9223372036854775808<=n/\n<=9223372036854775807)->-9223372036854775808*(l.length:Int)<=l.sum/\l.sum<=9223372036854775807*(l.length:Int)
 |[],_=>by simp
 |n::l,h=>by
  have h1:=yd l λm hm=>h m (List.mem_cons_of_mem _ hm);have h2:=h n List.mem_cons_self;simp only[List.sum_cons,List.length_cons,Int.natCast_add,Int.natCast_one];omega
theorem FC (l:List Int)(h:∀n∈l,-9223372036854775808<=n/\n<=9223372036854775807)(hl:l.length<=9223372036854775807):
  -85070591730234615865843651857942052864<=l.sum/\l.sum<=85070591730234615865843651857942052863:=by
 have:=yd l h;have h2:(l.length:Int)<=9223372036854775807:=by omega
 omega
theorem wY (l:List Int)(i:Nat)(n:Int)(h:l[i]?=some n):(l.take (i+1)).sum=(l.take i).sum+n:=by
 rw[List.take_add_one,h];simp
end Go.DZ
end
section
namespace Go.DZ
def fl (T S w:Int):Int:=T*w/S
def hS (l:List Int):Int:=(l.map (·/4294967296)).sum
def lS (l:List Int):Int:=(l.map (· %4294967296)).sum
theorem acY:∀(l:List Int),l.sum=4294967296*hS l+lS l
 |[]=>rfl
 |n::l=>by
  have:=acY l;simp only[hS,lS,List.map_cons,List.sum_cons]at*;omega
theorem abq:∀(l:List Int),(∀n∈l,-9223372036854775808<=n/\n<=9223372036854775807)->-2147483648*(l.length:Int)<=hS l/\hS l<=2147483647*(l.length:Int)/\0<=lS l/\lS l<=4294967295*(l.length:Int)
 |[],_=>by simp[hS,lS]
 |n::l,h=>by
  have h1:=abq l λm hm=>h m (List.mem_cons_of_mem _ hm);have h2:=h n List.mem_cons_self;simp only[hS,lS,List.map_cons,List.sum_cons,List.length_cons,Int.natCast_add,Int.natCast_one]at*;omega
theorem adu (l:List Int)(n:Int):hS (l++[n])=hS l+n/4294967296:=by simp[hS]
theorem adv (l:List Int)(n:Int):lS (l++[n])=lS l+n %4294967296:=by simp[lS]
end Go.DZ
end
