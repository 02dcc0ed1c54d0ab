/- Texts that the law leans on, part 7. No conditions. -/
import Derived.Test.YtnpliafeboadcaaGreatK6
import Derived.IntWalk
import Derived.Laws.Externs
section
namespace Go.Proofs.aaa
open Go.bA Go.IntWalk
variable{P:Program}
theorem ty (hP:P=Tryz.prog):cg P td:=hP▸sZ
theorem mo (hP:P=Tryz.prog):P.follows .mixedOrders=true:=hP▸(by kernel_rfl:Tryz.prog.follows .mixedOrders=true)
theorem wrap64 (n:Int):IntKind.i64.wrap n=(n+9223372036854775808) %18446744073709551616 -9223372036854775808:=IntKind.wrap_i64 n
theorem s_ (n:Int):IntKind.u64.wrap n=n %18446744073709551616:=IntKind.wrap_u64 n
abbrev OA (n:Int):Prop:=-9223372036854775808<=n/\n<=9223372036854775807
section
variable{α:Type}(ts:α->List T)
abbrev ay (l:List α):List (List AV):=l.map λx=>(ts x).map AV.c
abbrev aq (k:Nat)(l:List α):AV:=.c (.bJ k λ_=>.dO k (l.map ts))
abbrev aL (k:Nat)(l:List α)(c:Nat):AO:=.arr k (.th λ_=>ay ts l) (.th λ_=>c*k)
theorem LG:∀l:List T,eA (l.map AV.c)=true
 |[]=>rfl
 |_::l=>by simpa[eA,i9]using LG l
theorem an (l:List α):∀e∈ay ts l,eA e=true:=by
 intro e he;obtain⟨x,_,rfl⟩:=List.mem_map.1 he;exact LG _
theorem cr {k:Nat}(hk:∀x,(ts x).length=k)(l:List α):∀e∈ay ts l,e.length=k:=by
 intro e he;obtain⟨x,_,rfl⟩:=List.mem_map.1 he;simp[hk]
theorem aae (l:List α):(ay ts l).length=l.length:=by simp
theorem de (l:List α):ay ts l=(l.map ts).map (λe=>e.map AV.c):=by simp[List.map_map,Function.comp_def]
theorem sr (l:List α)(i:Nat)(x:α)(h:l[i]?=some x):(ay ts l)[i]?=some ((ts x).map AV.c):=by simp[h]
theorem aY (l:List α)(i:Nat)(x:α)(h:l[i]?=some x):(l.map ts)[i]?=some (ts x):=by simp[h]
theorem aW (k:Nat)(l:List α):((T.bJ k λ_=>T.dO k (l.map ts)).rows.length:Int)=(l.length:Int):=by simp[T.rows]
end
end Go.Proofs.aaa
end
section
namespace Go.Proofs.aaa
open Go.bA Go.IntWalk
theorem qq {len i:Nat}(h:i<len):dJ len (i:Int)=true:=by simp[dJ];omega
theorem get_at {β:Type}{l:List β}{i j:Nat}{x:β}(h:l[j]?=some x)(hij:i=j):l[i]?=some x:=hij▸h
theorem vR {α:Type}(ts:α->List T)(l:List α)(i:Nat)(x:α):(ay ts l).set i ((ts x).map AV.c)=ay ts (l.set i x):=by
 simp[ay,List.map_set]
section
variable{α:Type}{ts:α->List T}{l:List α}{o:List AO}{n k c:Nat}{i len cap:Th Nat}
theorem _root_.Go.bA.Fz.aL (h:nth o n=some (aL ts k l c))(hi:i.den=0)(hl:len.den=l.length):Fz o (.sl n k i len cap) (aq ts k l):=by
 refine .Lc (l.map ts) _ h (de ts l) (by rw[hi,hl];simp) ?_;show T.dO k (l.map ts)=_;rw[hi,hl,List.drop_zero,List.take_of_length_le (by simp)]
theorem _root_.Go.bA.RV.aL {base:Nat}{π:List Nat}(h:nth o n=some (aL ts k l c))(Jo:π.contains n=false)(hi:i.den=0)(hl:len.den=l.length):RV base π o (.sl n k i len cap) (aq ts k l):=by
 refine .B5 (l.map ts) _ h Jo (de ts l) (by rw[hi,hl];simp) (.jP rfl (.of ?_));rw[hi,hl,List.drop_zero,List.take_of_length_le (by simp)]
theorem _root_.Go.bA.RV.aD {base:Nat}{π:List Nat}{es:Th (List (List AV))}{sz:Th Nat}(h:nth o n=some (.arr k es sz))(he:es.den=ay ts l)(Jo:π.contains n=false)(hi:i.den=0)(hl:len.den=l.length):RV base π o (.sl n k i len cap) (aq ts k l):=by
 refine .B5 (l.map ts) _ h Jo (he.trans (de ts l)) (by rw[hi,hl];simp) (.jP rfl (.of ?_));rw[hi,hl,List.drop_zero,List.take_of_length_le (by simp)]
theorem _root_.Go.bA.RO.aD {base:Nat}{π:List Nat}{es:Th (List (List AV))}{sz:Th Nat}(he:es.den=ay ts l)(hs:sz.den=c*k):RO base π o (.arr k es sz) (aL ts k l c):=.fY he (λe h=>an ts l e (he▸h)) hs
theorem _root_.Go.bA.RO.aL {base:Nat}{π:List Nat}:RO base π o (aL ts k l c) (Go.Proofs.aaa.aL ts k l c):=.fY rfl (an _ _) rfl
end
theorem _root_.Go.bA.RO.jx {base:Nat}{π:List Nat}{o:List AO}{k:Nat}{xs ys:List AV}{sz sz':Th Nat}(h:gj base π o xs ys)(hs:sz.den=sz'.den):RO base π o (.arr k (.lit [xs]) sz) (.arr k (.lit [ys]) sz'):=by
 refine .arr rfl (λi e e' h1 h2=> ?_) hs
 cases i with
 |succ i=>simp at h1
 |zero=>
  simp at h1 h2;subst h1;subst h2;exact⟨h.len,h.get⟩
theorem _root_.Go.bA.RV.vS {α:Type}{ts:α->List T}{base:Nat}{π:List Nat}{o:List AO}{k:Nat}:RV base π o (.c (.lit (.slice none 0 0))) (aq ts k []):=.c (.Lg rfl)
theorem _root_.Go.bA.aV.room {P:Program}{f:FuncId}{args:List AV}{ob:List AO}{K:AV->List AO->Prop}(j:Nat){o k:Nat}{i len cap:Th Nat}(hj:args[j]?=some (.sl o k i len cap))(h:cap.den<=9223372036854775807->aV P f args ob K):aV P f args ob K:=by
 refine⟨λw F μ bD hv hs=> ?_⟩;have hlt:j<bD.toList.length:=by rw[hv.1];exact(List.getElem?_eq_some_iff.1 hj).1
 obtain⟨a,_,_,h2,_⟩:=(hv.2 j _ _ hj (List.getElem?_eq_getElem hlt)).FO;exact(h h2).run w F μ bD hv hs
end Go.Proofs.aaa
end
section
namespace Go.Proofs.aaa
open Go.bA Go.IntWalk
variable{P:Program}(hP:P=Tryz.prog)
abbrev fV {α:Type}(ts:α->List T)(k:Nat)(l:List α):AV->List AO->Prop:=λy o=>∃c,l.length<=c/\y=.sl 0 k (.lit 0) (.th λ_=>l.length) (.th λ_=>c)/\o=[aL ts k l c]
include hP
theorem cR (l:List Cell)(hb:l.length<=1000000000000):aV P 73 [aq Cell.ts 6 l] [] (fV Cell.ts 6 l):=by
 refine aV.can ?_;refine e73 hP ?_;cbv;refine⟨λb hb0=> ?_⟩;cases b
 ·cbv;refine cU (ty hP) (e:=68) rfl rfl rfl (by simp) rfl rfl (by decide) rfl (by decide) rfl (by simp) (Src.dO (a_ (ty hP) (e:=68) rfl rfl) (rows:=l.map Cell.ts) (.inr ⟨_,rfl,rfl⟩) (by intro e he;obtain⟨x,_,rfl⟩:=List.mem_map.1 he;rfl)) ?_ ?_ (.th λ_=>l.length) (.th λ_=>ay Cell.ts l) ?_ ?_ (λc hc=> ?_)
  ·show(0+((l.map Cell.ts).map _).length)*48<=_;simp;omega
  ·show 0+((l.map Cell.ts).map _).length<=_;simp;omega
  ·show l.length=0+((l.map Cell.ts).map _).length;simp
  ·show ay Cell.ts l=_;rw[de];rfl
  ·cbv;exact⟨_,[aL Cell.ts 6 l c],⟨[1],rfl,rfl,.sl (q:=0) rfl rfl rfl rfl,.cons rfl (.fY rfl (an _ _) rfl) .nil⟩,c,hc,rfl,rfl⟩
 ·have h0:l.length=0:=by simpa[T.rows]using hb0 rfl
  obtain rfl:=List.eq_nil_of_length_eq_zero h0;cbv;exact⟨_,[aL Cell.ts 6 [] 0],⟨[1000],rfl,rfl,.o6 (q:=0) rfl rfl rfl rfl,.kill rfl ⟨rfl,by simp⟩ .nil⟩,0,Nat.le_refl _,rfl,rfl⟩
end Go.Proofs.aaa
end
section
namespace Go.Proofs.aaa
open Go.bA Go.IntWalk
variable{P:Program}(hP:P=Tryz.prog)
include hP
theorem gR (l:List aQ)(hb:l.length<=1000000000000):aV P 74 [aq aQ.ts 4 l] [] (fV aQ.ts 4 l):=by
 refine aV.can ?_;refine e74 hP ?_;cbv;refine⟨λb hb0=> ?_⟩;cases b
 ·cbv;refine cU (ty hP) (e:=74) rfl rfl rfl (by simp) rfl rfl (by decide) rfl (by decide) rfl (by simp) (Src.dO (a_ (ty hP) (e:=74) rfl rfl) (rows:=l.map aQ.ts) (.inr ⟨_,rfl,rfl⟩) (by intro e he;obtain⟨x,_,rfl⟩:=List.mem_map.1 he;rfl)) ?_ ?_ (.th λ_=>l.length) (.th λ_=>ay aQ.ts l) ?_ ?_ (λc hc=> ?_)
  ·show(0+((l.map aQ.ts).map _).length)*32<=_;simp;omega
  ·show 0+((l.map aQ.ts).map _).length<=_;simp;omega
  ·show l.length=0+((l.map aQ.ts).map _).length;simp
  ·show ay aQ.ts l=_;rw[de];rfl
  ·cbv;exact⟨_,[aL aQ.ts 4 l c],⟨[1],rfl,rfl,.sl (q:=0) rfl rfl rfl rfl,.cons rfl (.fY rfl (an _ _) rfl) .nil⟩,c,hc,rfl,rfl⟩
 ·have h0:l.length=0:=by simpa[T.rows]using hb0 rfl
  obtain rfl:=List.eq_nil_of_length_eq_zero h0;cbv;exact⟨_,[aL aQ.ts 4 [] 0],⟨[1000],rfl,rfl,.o6 (q:=0) rfl rfl rfl rfl,.kill rfl ⟨rfl,by simp⟩ .nil⟩,0,Nat.le_refl _,rfl,rfl⟩
theorem eN (l:List au)(hb:l.length<=1000000000000):aV P 75 [aq au.ts 4 l] [] (fV au.ts 4 l):=by
 refine aV.can ?_;refine e75 hP ?_;cbv;refine⟨λb hb0=> ?_⟩;cases b
 ·cbv;refine cU (ty hP) (e:=139) rfl rfl rfl (by simp) rfl rfl (by decide) rfl (by decide) rfl (by simp) (Src.dO (a_ (ty hP) (e:=139) rfl rfl) (rows:=l.map au.ts) (.inr ⟨_,rfl,rfl⟩) (by intro e he;obtain⟨x,_,rfl⟩:=List.mem_map.1 he;rfl)) ?_ ?_ (.th λ_=>l.length) (.th λ_=>ay au.ts l) ?_ ?_ (λc hc=> ?_)
  ·show(0+((l.map au.ts).map _).length)*24<=_;simp;omega
  ·show 0+((l.map au.ts).map _).length<=_;simp;omega
  ·show l.length=0+((l.map au.ts).map _).length;simp
  ·show ay au.ts l=_;rw[de];rfl
  ·cbv;exact⟨_,[aL au.ts 4 l c],⟨[1],rfl,rfl,.sl (q:=0) rfl rfl rfl rfl,.cons rfl (.fY rfl (an _ _) rfl) .nil⟩,c,hc,rfl,rfl⟩
 ·have h0:l.length=0:=by simpa[T.rows]using hb0 rfl
  obtain rfl:=List.eq_nil_of_length_eq_zero h0;cbv;exact⟨_,[aL au.ts 4 [] 0],⟨[1000],rfl,rfl,.o6 (q:=0) rfl rfl rfl rfl,.kill rfl ⟨rfl,by simp⟩ .nil⟩,0,Nat.le_refl _,rfl,rfl⟩
theorem kO (l:List ah)(hb:l.length<=1000000000000):aV P 76 [aq ah.ts 2 l] [] (fV ah.ts 2 l):=by
 refine aV.can ?_;refine e76 hP ?_;cbv;refine⟨λb hb0=> ?_⟩;cases b
 ·cbv;refine cU (ty hP) (e:=143) rfl rfl rfl (by simp) rfl rfl (by decide) rfl (by decide) rfl (by simp) (Src.dO (a_ (ty hP) (e:=143) rfl rfl) (rows:=l.map ah.ts) (.inr ⟨_,rfl,rfl⟩) (by intro e he;obtain⟨x,_,rfl⟩:=List.mem_map.1 he;rfl)) ?_ ?_ (.th λ_=>l.length) (.th λ_=>ay ah.ts l) ?_ ?_ (λc hc=> ?_)
  ·show(0+((l.map ah.ts).map _).length)*16<=_;simp;omega
  ·show 0+((l.map ah.ts).map _).length<=_;simp;omega
  ·show l.length=0+((l.map ah.ts).map _).length;simp
  ·show ay ah.ts l=_;rw[de];rfl
  ·cbv;exact⟨_,[aL ah.ts 2 l c],⟨[1],rfl,rfl,.sl (q:=0) rfl rfl rfl rfl,.cons rfl (.fY rfl (an _ _) rfl) .nil⟩,c,hc,rfl,rfl⟩
 ·have h0:l.length=0:=by simpa[T.rows]using hb0 rfl
  obtain rfl:=List.eq_nil_of_length_eq_zero h0;cbv;exact⟨_,[aL ah.ts 2 [] 0],⟨[1000],rfl,rfl,.o6 (q:=0) rfl rfl rfl rfl,.kill rfl ⟨rfl,by simp⟩ .nil⟩,0,Nat.le_refl _,rfl,rfl⟩
theorem iT (l:List aC)(hb:l.length<=1000000000000):aV P 77 [aq aC.ts 4 l] [] (fV aC.ts 4 l):=by
 refine aV.can ?_;refine e77 hP ?_;cbv;refine⟨λb hb0=> ?_⟩;cases b
 ·cbv;refine cU (ty hP) (e:=116) rfl rfl rfl (by simp) rfl rfl (by decide) rfl (by decide) rfl (by simp) (Src.dO (a_ (ty hP) (e:=116) rfl rfl) (rows:=l.map aC.ts) (.inr ⟨_,rfl,rfl⟩) (by intro e he;obtain⟨x,_,rfl⟩:=List.mem_map.1 he;rfl)) ?_ ?_ (.th λ_=>l.length) (.th λ_=>ay aC.ts l) ?_ ?_ (λc hc=> ?_)
  ·show(0+((l.map aC.ts).map _).length)*32<=_;simp;omega
  ·show 0+((l.map aC.ts).map _).length<=_;simp;omega
  ·show l.length=0+((l.map aC.ts).map _).length;simp
  ·show ay aC.ts l=_;rw[de];rfl
  ·cbv;exact⟨_,[aL aC.ts 4 l c],⟨[1],rfl,rfl,.sl (q:=0) rfl rfl rfl rfl,.cons rfl (.fY rfl (an _ _) rfl) .nil⟩,c,hc,rfl,rfl⟩
 ·have h0:l.length=0:=by simpa[T.rows]using hb0 rfl
  obtain rfl:=List.eq_nil_of_length_eq_zero h0;cbv;exact⟨_,[aL aC.ts 4 [] 0],⟨[1000],rfl,rfl,.o6 (q:=0) rfl rfl rfl rfl,.kill rfl ⟨rfl,by simp⟩ .nil⟩,0,Nat.le_refl _,rfl,rfl⟩
theorem iU (l:List Kept)(hb:l.length<=1000000000000):aV P 78 [aq Kept.ts 4 l] [] (fV Kept.ts 4 l):=by
 refine aV.can ?_;refine e78 hP ?_;cbv;refine⟨λb hb0=> ?_⟩;cases b
 ·cbv;refine cU (ty hP) (e:=102) rfl rfl rfl (by simp) rfl rfl (by decide) rfl (by decide) rfl (by simp) (Src.dO (a_ (ty hP) (e:=102) rfl rfl) (rows:=l.map Kept.ts) (.inr ⟨_,rfl,rfl⟩) (by intro e he;obtain⟨x,_,rfl⟩:=List.mem_map.1 he;rfl)) ?_ ?_ (.th λ_=>l.length) (.th λ_=>ay Kept.ts l) ?_ ?_ (λc hc=> ?_)
  ·show(0+((l.map Kept.ts).map _).length)*40<=_;simp;omega
  ·show 0+((l.map Kept.ts).map _).length<=_;simp;omega
  ·show l.length=0+((l.map Kept.ts).map _).length;simp
  ·show ay Kept.ts l=_;rw[de];rfl
  ·cbv;exact⟨_,[aL Kept.ts 4 l c],⟨[1],rfl,rfl,.sl (q:=0) rfl rfl rfl rfl,.cons rfl (.fY rfl (an _ _) rfl) .nil⟩,c,hc,rfl,rfl⟩
 ·have h0:l.length=0:=by simpa[T.rows]using hb0 rfl
  obtain rfl:=List.eq_nil_of_length_eq_zero h0;cbv;exact⟨_,[aL Kept.ts 4 [] 0],⟨[1000],rfl,rfl,.o6 (q:=0) rfl rfl rfl rfl,.kill rfl ⟨rfl,by simp⟩ .nil⟩,0,Nat.le_refl _,rfl,rfl⟩
theorem gU (l:List Order)(hb:l.length<=1000000000000):aV P 79 [aq Order.ts 4 l] [] (fV Order.ts 4 l):=by
 refine aV.can ?_;refine e79 hP ?_;cbv;refine⟨λb hb0=> ?_⟩;cases b
 ·cbv;refine cU (ty hP) (e:=72) rfl rfl rfl (by simp) rfl rfl (by decide) rfl (by decide) rfl (by simp) (Src.dO (a_ (ty hP) (e:=72) rfl rfl) (rows:=l.map Order.ts) (.inr ⟨_,rfl,rfl⟩) (by intro e he;obtain⟨x,_,rfl⟩:=List.mem_map.1 he;rfl)) ?_ ?_ (.th λ_=>l.length) (.th λ_=>ay Order.ts l) ?_ ?_ (λc hc=> ?_)
  ·show(0+((l.map Order.ts).map _).length)*48<=_;simp;omega
  ·show 0+((l.map Order.ts).map _).length<=_;simp;omega
  ·show l.length=0+((l.map Order.ts).map _).length;simp
  ·show ay Order.ts l=_;rw[de];rfl
  ·cbv;exact⟨_,[aL Order.ts 4 l c],⟨[1],rfl,rfl,.sl (q:=0) rfl rfl rfl rfl,.cons rfl (.fY rfl (an _ _) rfl) .nil⟩,c,hc,rfl,rfl⟩
 ·have h0:l.length=0:=by simpa[T.rows]using hb0 rfl
  obtain rfl:=List.eq_nil_of_length_eq_zero h0;cbv;exact⟨_,[aL Order.ts 4 [] 0],⟨[1000],rfl,rfl,.o6 (q:=0) rfl rfl rfl rfl,.kill rfl ⟨rfl,by simp⟩ .nil⟩,0,Nat.le_refl _,rfl,rfl⟩
theorem wW (l:List aU)(hb:l.length<=1000000000000):aV P 80 [aq aU.ts 4 l] [] (fV aU.ts 4 l):=by
 refine aV.can ?_;refine e80 hP ?_;cbv;refine⟨λb hb0=> ?_⟩;cases b
 ·cbv;refine cU (ty hP) (e:=80) rfl rfl rfl (by simp) rfl rfl (by decide) rfl (by decide) rfl (by simp) (Src.dO (a_ (ty hP) (e:=80) rfl rfl) (rows:=l.map aU.ts) (.inr ⟨_,rfl,rfl⟩) (by intro e he;obtain⟨x,_,rfl⟩:=List.mem_map.1 he;rfl)) ?_ ?_ (.th λ_=>l.length) (.th λ_=>ay aU.ts l) ?_ ?_ (λc hc=> ?_)
  ·show(0+((l.map aU.ts).map _).length)*32<=_;simp;omega
  ·show 0+((l.map aU.ts).map _).length<=_;simp;omega
  ·show l.length=0+((l.map aU.ts).map _).length;simp
  ·show ay aU.ts l=_;rw[de];rfl
  ·cbv;exact⟨_,[aL aU.ts 4 l c],⟨[1],rfl,rfl,.sl (q:=0) rfl rfl rfl rfl,.cons rfl (.fY rfl (an _ _) rfl) .nil⟩,c,hc,rfl,rfl⟩
 ·have h0:l.length=0:=by simpa[T.rows]using hb0 rfl
  obtain rfl:=List.eq_nil_of_length_eq_zero h0;cbv;exact⟨_,[aL aU.ts 4 [] 0],⟨[1000],rfl,rfl,.o6 (q:=0) rfl rfl rfl rfl,.kill rfl ⟨rfl,by simp⟩ .nil⟩,0,Nat.le_refl _,rfl,rfl⟩
end Go.Proofs.aaa
end
section
namespace Go.Proofs.aaa
open Go.bA Go.IntWalk
variable{P:Program}(hP:P=Tryz.prog)
def bt {α:Type}(l:List α)(i:Nat)(x:α):List α:=l.take i++x::l.drop i
theorem bW {α:Type}(l:List α)(i:Nat)(x:α):(bt l i x).length=l.length+1:=by simp[bt];omega
abbrev bk (k n:Nat):List (List AV):=List.replicate n (List.replicate k .bB)
abbrev qH {α:Type}(ts:α->List T)(k:Nat)(l:List α)(i:Nat)(x:α):AV->List AO->Prop:=λy o=>∃c',l.length+1<=c'/\y=.sl 2 k (.lit 0) (.th λ_=>l.length+1) (.th λ_=>c')/\o=[.dead,.dead,aL ts k (bt l i x) c']
theorem Ii {β:Type}(A:List β)(n:Nat)(z x:β)(i:Nat)(h:i=A.length):(A++List.replicate (n+1) z).take i++[x]++(A++List.replicate (n+1) z).drop (i+1)=A++[x]++List.replicate n z:=by
 subst h;rw[List.take_left,List.drop_append,List.drop_of_length_le (by omega)];simp[List.replicate_succ]
theorem Ij {β:Type}(A B:List β)(z:β)(i n:Nat)(h:i=A.length)(hn:n=B.length):(A++List.replicate n z).take i++B++(A++List.replicate n z).drop (i+B.length)=A++B:=by
 subst h;subst hn;rw[List.take_left,List.drop_of_length_le (by simp)];simp
theorem ej {α:Type}(ts:α->List T)(l:List α)(i:Nat)(x:α):ay ts (bt l i x)=ay ts (l.take i)++[(ts x).map AV.c]++ay ts (l.drop i):=by simp[bt]
theorem vT {β:Type}(M J:List β)(i n:Nat)(hi:i<M.length)(hn:n=(M.drop i).length)(x:β):
  (((M++J).take (i+1)++M.drop i++(M++J).drop (i+1+n)).take i++[x]++((M++J).take (i+1)++M.drop i++(M++J).drop (i+1+n)).drop (i+1))=M.take i++[x]++M.drop i++J.drop 1:=by
 subst hn;have e1:(M++J).take (i+1)=M.take (i+1):=List.take_append_of_le_length (by omega);have e2:(M++J).drop (i+1+(M.drop i).length)=J.drop 1:=by
  rw[List.drop_append,List.drop_of_length_le (by simp;omega),List.nil_append]
  congr 1;simp;omega
 rw[e1,e2];have hl:(M.take (i+1)).length=i+1:=by simp;omega
 rw[List.append_assoc (M.take (i+1)),List.take_append_of_le_length (by omega),List.take_take,Nat.min_eq_left (by omega),List.drop_left' hl];simp only[List.append_assoc]
include hP
theorem gG (l:List Kept)(c:Nat)(I N:Int)(x:Kept)(hc:l.length<=c)(hN:N=(l.length:Int))(h0:0<=I)(hi:I<=N)(hb:l.length<=1000000)(Fw:c<=9223372036854775807):
    aV P 44 [.sl 0 4 (.lit 0) (.th λ_=>N.toNat) (.th λ_=>c),AI .i64 (.th λ_=>I),.sl 1 4 (.lit 0) (.lit 1) (.lit 1)] [aL Kept.ts 4 l c,.arr 4 (.lit [x.cs]) (.lit 4)] (qH Kept.ts 4 l I.toNat x):=by
  have OC:N.toNat=l.length:=by omega
  refine aV.can ?_;refine aV.obj (cc:=[.arr 4 (.th λ_=>ay Kept.ts l++bk 4 (c -l.length)) (.th λ_=>c*4),.arr 4 (.lit [x.cs]) (.lit 4)]) ?_ (λw F μ hs=>hs.bB (o:=0) (c:=c) rfl rfl (by decide) (by show(ay Kept.ts l).length<=c;simpa using hc) (by show _=ay Kept.ts l++bk 4 (c -(ay Kept.ts l).length);simp));have hwide:∀r∈ay Kept.ts l++bk 4 (c -l.length),r.length=4:=by
    intro r hr;rcases List.mem_append.1 hr with hr|hr
    · exact cr _ Kept.wh l r hr
    · rw[(List.mem_replicate.1 hr).2];rfl
  have dy:aH .add .i64 I (Int.ofNat 1)=I+1:=by simp[aH,wrap64];omega
  have hrows:((ay Kept.ts l++bk 4 (c -l.length)).drop I.toNat).take (l.length -I.toNat)=ay Kept.ts (l.drop I.toNat):=by
    rw[List.drop_append_of_le_length (by simp;omega),List.take_append_of_le_length (by simp),List.take_of_length_le (by simp)];exact(List.map_drop ..).symm
  have hT:(Int.ofNat N.toNat -I).toNat=l.length -I.toNat:=by simp;omega
  have DW:∀n,∀r∈List.replicate n (bG ((td 102).get rfl)),r.length=4:=λn r hr=>by rw[(List.mem_replicate.1 hr).2];rfl
  have v_:∀r∈ay Kept.ts (l.take I.toNat),r.length=4:=cr _ Kept.wh _;refine e44 hP ?_;cbv;refine bg.mk (by simp[okB];omega) ?_;cbv;refine aM.mk (λh=> ?_) (λh=> ?_)<;>cbv
  · have hI:I=N:=by simp[ai]at h;omega
    refine cU (ty hP) (e:=102) rfl rfl rfl (by simp) rfl rfl (by decide) rfl ?_ rfl ?_ (Src.sl (a_ (ty hP) (e:=102) rfl rfl) (es:=.lit [x.cs]) (sz:=.lit 4) rfl (by simp) (by simp)) ?_ ?_ (.th λ_=>l.length+1) (.th λ_=>ay Kept.ts (bt l I.toNat x)) ?_ ?_ (λc' tG=> ?_)
    · show N.toNat<=(ay Kept.ts l++bk 4 (c -l.length)).length
      simp;omega
    · exact hwide
    · show(N.toNat+1)*40<=_;omega
    · show N.toNat+1<=_;omega
    · show l.length+1=N.toNat+1;omega
    · show ay Kept.ts (bt l I.toNat x)=(ay Kept.ts l++bk 4 (c -l.length)).take N.toNat++[x.cs]
      rw[List.take_append_of_le_length (by simp;omega),List.take_of_length_le (by simp;omega),bt,List.take_of_length_le (by omega),List.drop_of_length_le (by omega)];simp
    · cbv
      exact⟨_,[.dead,.dead,aL Kept.ts 4 (bt l I.toNat x) c'],⟨[1000,1001,2],rfl,rfl,.sl (q:=2) rfl rfl rfl rfl,.kill rfl trivial (.kill rfl trivial (.cons rfl (.fY rfl (an _ _) rfl) .nil))⟩,c',tG,rfl,rfl⟩
  have hI:I<N:=by simp[ai]at h;omega
  refine aM.mk (λh2=> ?_) (λh2=> ?_)<;>cbv
  · have pP:c=l.length:=by simp[ai,aH,wrap64]at h2;omega
    refine bg.mk (by simp[okB];omega) ?_;cbv;refine gW (ty hP) (e:=102) rfl rfl rfl (by simp) (kn:=.i64) rfl rfl rfl rfl (by decide) (by show bP 0 0 _=0;unfold bP;split<;>rfl) ?_ ?_ ?_ ?_ ?_ ?_ ?_ (.th λ_=>l.length+1) (.th λ_=>ay Kept.ts (l.take I.toNat)++List.replicate (l.length+1 -I.toNat) (bG ((td 102).get rfl))) ?_ ?_ (λc' tG=> ?_)
    · simp only[Th.aB,Int.sub_zero];simp;omega
    · simp
    · exact hwide
    · simp[aH,wrap64];omega
    · simp[aH,wrap64];omega
    · show _*40<=_
      simp[aH,wrap64];omega
    · simp[aH,wrap64];omega
    · simp[aH,wrap64];omega
    · simp only[Th.aB,Int.sub_zero]
      have e1:(aH .sub .i64 (aH .add .i64 (Int.ofNat N.toNat) (Int.ofNat 1)) I).toNat=l.length+1 -I.toNat:=by simp[aH,wrap64];omega
      have e2:(ay Kept.ts l++bk 4 (c -l.length)).take I.toNat=ay Kept.ts (l.take I.toNat):=by
        rw[List.take_append_of_le_length (by simp;omega)];exact(List.map_take ..).symm
      exact(congr (congrArg HAppend.hAppend e2.symm) (by rw[e1];rfl))
    · have Kz:l.length+1<=c':=tG
      cbv;refine bg.mk (by simp[okB];omega) ?_;cbv;have ho:bP 0 I (Int.ofNat c')=I.toNat:=by
        unfold bP;rw[decide_eq_false (by simp;omega)];simp
      refine cY (ty hP) (e:=102) rfl rfl rfl rfl rfl ?_ (.all (Src.sl (a_ (ty hP) (e:=102) rfl rfl) (es:=.lit [x.cs]) (sz:=.lit 4) rfl (by simp) (by simp)) ?_) ?_ (.lit 1) (.th λ_=>ay Kept.ts (l.take I.toNat)++[x.cs]++List.replicate (l.length -I.toNat) (bG ((td 102).get rfl))) rfl ?_ ?_
      · intro r hr
        rcases List.mem_append.1 hr with hr|hr
        · exact v_ r hr
        · exact DW _ r hr
      · simp only[Th.aB];simp;omega
      · simp only[Th.aB,ho];simp;omega
      · simp only[Th.aB,ho]
        have:=Ii (ay Kept.ts (l.take I.toNat)) (l.length -I.toNat) (bG ((td 102).get rfl)) x.cs I.toNat (by simp;omega);rw[show l.length -I.toNat+1=l.length+1 -I.toNat by omega]at this;exact this.symm
      · cbv
        refine aR.cS (ty hP) (mo hP) rfl ?_;cbv
        iterate 4
          (apply aS.is
           · intro J hJ
             cbv;exact hJ
           cbv)
        apply aS.is
        · intro J hJ
          cbv;refine bg.mk (by simp[okB,aH,wrap64];omega) ?_;cbv;exact hJ
        cbv
        iterate 2
          (apply aS.is
           · intro J hJ
             cbv;exact hJ
           cbv)
        apply aS.is
        · intro J hJ
          cbv;refine bg.mk (by simp[okB];omega) ?_;cbv;exact hJ
        cbv;have BG:bP 0 (I+1) (Int.ofNat c')=(I+1).toNat:=by
          unfold bP;rw[decide_eq_false (by simp;omega)];simp
        have fW:(bP 0 I (Int.ofNat c)=I.toNat):=by
          unfold bP;rw[decide_eq_false (by simp;omega)];simp
        refine cY (ty hP) (e:=102) rfl rfl rfl rfl rfl ?_ (.all (Src.sl (a_ (ty hP) (e:=102) rfl rfl) (es:=.th λ_=>ay Kept.ts l++bk 4 (c -l.length)) (sz:=.th λ_=>c*4) rfl hwide ?_) ?_) ?_ (.th λ_=>((l.length -I.toNat:Nat):Int)) (.th λ_=>ay Kept.ts (bt l I.toNat x)) ?_ ?_ ?_
        · intro r hr
          rcases List.mem_append.1 hr with hr|hr
          · rcases List.mem_append.1 hr with hr|hr
            · exact v_ r hr
            · rw[List.mem_singleton.1 hr];rfl
          · exact DW _ r hr
        · simp only[Th.aB,fW,hT];simp;omega
        · simp only[Th.aB,fW,hT,hrows,dy];simp;omega
        · simp only[Th.aB,fW,hT,hrows,dy,BG];simp;omega
        · simp only[Th.aB,fW,hT,hrows];simp
        · simp only[Th.aB,fW,hT,hrows,dy,BG]
          have:=Ij (ay Kept.ts (l.take I.toNat)++[x.cs]) (ay Kept.ts (l.drop I.toNat)) (bG ((td 102).get rfl)) (I+1).toNat (l.length -I.toNat) (by simp;omega) (by simp);exact(ej Kept.ts l I.toNat x).trans this.symm
        · cbv
          exact⟨_,[.dead,.dead,aL Kept.ts 4 (bt l I.toNat x) c'],⟨[1000,1001,2],rfl,rfl,.sl (q:=2) rfl rfl rfl rfl,.kill rfl trivial (.kill rfl trivial (.cons rfl (.fY rfl (an _ _) rfl) .nil))⟩,c',tG,rfl,rfl⟩
  have pP:l.length+1<=c:=by simp[ai,aH,wrap64]at h2;omega
  have bK:aH .add .i64 (Int.ofNat N.toNat) (Int.ofNat 1)=N+1:=by simp[aH,wrap64];omega
  have fW:bP 0 I (Int.ofNat c)=I.toNat:=by
    unfold bP;rw[decide_eq_false (by simp;omega)];simp
  have h10:∀x:Int,bP 0 0 x=0:=λx=>by unfold bP;split<;>rfl
  refine bg.mk (by simp only[bK];simp[okB];omega) ?_;cbv;refine bg.mk (by simp only[bK,dy];simp[okB];omega) ?_;cbv;refine gX (ty hP) (tS:=30) (tR:=4) (e:=102) rfl rfl rfl (λargs w v h=>by subst hP;rw[run_callFunc_extern Tryz.func88 (by kernel_rfl) (by kernel_rfl) (by kernel_rfl) (e:=Extern.SlicesOverlaps.overlaps #[30,30] #[4]) (by kernel_rfl),h];rfl) rfl rfl (by decide) (by decide) (by simp;omega) ?_;cbv;refine aR.cS (ty hP) (mo hP) rfl ?_;cbv
  iterate 4
    (apply aS.is
     · intro J hJ
       cbv;exact hJ
     cbv)
  apply aS.is
  · intro J hJ
    cbv;refine bg.mk (by simp only[bK,dy];simp[okB];omega) ?_;cbv;exact hJ
  cbv
  iterate 2
    (apply aS.is
     · intro J hJ
       cbv;exact hJ
     cbv)
  apply aS.is
  · intro J hJ
    cbv;refine bg.mk (by simp only[bK];simp[okB];omega) ?_;cbv;exact hJ
  cbv;have mF:(Int.ofNat (Int.ofNat c -0).toNat)=Int.ofNat c:=by simp
  have Cm:bP 0 (I+1) (Int.ofNat c)=I.toNat+1:=by
    unfold bP;rw[decide_eq_false (by simp;omega)];simp;omega
  have oe:(Int.ofNat (N+1 -0).toNat -(I+1)).toNat=l.length -I.toNat:=by simp;omega
  have G_:(Int.ofNat (N+1 -0).toNat -I).toNat=l.length+1 -I.toNat:=by simp;omega
  have Sr:(bk 4 (c -l.length)).length=c -l.length:=by simp
  have hel:(ay Kept.ts l++bk 4 (c -l.length)).length=c:=by simp;omega
  refine cY (ty hP) (e:=102) rfl rfl rfl rfl rfl ?_ (.cut (Src.sl (a_ (ty hP) (e:=102) rfl rfl) (es:=.th λ_=>ay Kept.ts l++bk 4 (c -l.length)) (sz:=.th λ_=>c*4) rfl hwide ?_) ?_ ?_) ?_ (.th λ_=>((l.length -I.toNat:Nat):Int))
    (.th λ_=>(ay Kept.ts l++bk 4 (c -l.length)).take (I.toNat+1)++(ay Kept.ts l).drop I.toNat++(ay Kept.ts l++bk 4 (c -l.length)).drop (I.toNat+1+(l.length -I.toNat))) ?_ ?_ ?_
  · exact hwide
  · simp only[Th.aB,mF,h10,fW,bK,dy,oe,hel];omega
  · simp only[Th.aB,mF,h10,fW,bK,dy,oe,hrows];simp
  · simp only[Th.aB,bK,dy,oe,G_];omega
  · simp only[Th.aB,mF,h10,fW,bK,dy,oe,hrows,Cm,hel];simp;omega
  · simp only[Th.aB,mF,h10,fW,bK,dy,oe,hrows];simp
  · simp only[Th.aB,mF,h10,fW,bK,dy,oe,hrows,Cm]
    show(ay Kept.ts l++bk 4 (c -l.length)).take (I.toNat+1)++(ay Kept.ts l).drop I.toNat++(ay Kept.ts l++bk 4 (c -l.length)).drop (I.toNat+1+(l.length -I.toNat))=
      (ay Kept.ts l++bk 4 (c -l.length)).take (I.toNat+1)++ay Kept.ts (l.drop I.toNat)++(ay Kept.ts l++bk 4 (c -l.length)).drop (I.toNat+1+(ay Kept.ts (l.drop I.toNat)).length)
    rw[show(ay Kept.ts (l.drop I.toNat)).length=l.length -I.toNat by simp];rw[show ay Kept.ts (l.drop I.toNat)=(ay Kept.ts l).drop I.toNat from List.map_drop ..]
  cbv;refine bg.mk (by simp only[bK];simp[okB];omega) ?_;cbv;refine cY (ty hP) (e:=102) rfl rfl rfl rfl rfl ?_ (.all (Src.sl (a_ (ty hP) (e:=102) rfl rfl) (es:=.lit [x.cs]) (sz:=.lit 4) rfl (by simp) (by simp)) ?_) ?_ (.lit 1) (.th λ_=>ay Kept.ts (bt l I.toNat x)++(bk 4 (c -l.length)).drop 1) rfl ?_ ?_
  · intro r hr
    have hr':r∈(ay Kept.ts l++bk 4 (c -l.length)).take (I.toNat+1)++(ay Kept.ts l).drop I.toNat++(ay Kept.ts l++bk 4 (c -l.length)).drop (I.toNat+1+(l.length -I.toNat)):=hr;rcases List.mem_append.1 hr' with hr|hr
    · rcases List.mem_append.1 hr with hr|hr
      · exact hwide r (List.mem_of_mem_take hr)
      · exact cr _ Kept.wh _ r (List.mem_of_mem_drop hr)
    · exact hwide r (List.mem_of_mem_drop hr)
  · simp only[Th.aB,bK];simp;omega
  · simp only[Th.aB,mF,h10,fW];simp;omega
  · simp only[Th.aB,mF,h10,fW]
    have:=vT (ay Kept.ts l) (bk 4 (c -l.length)) I.toNat (l.length -I.toNat) (by simp;omega) (by simp) x.cs;refine Eq.trans ?_ this.symm;show ay Kept.ts (bt l I.toNat x)++_=_;rw[ej,show ay Kept.ts (l.drop I.toNat)=(ay Kept.ts l).drop I.toNat from List.map_drop ..,show ay Kept.ts (l.take I.toNat)=(ay Kept.ts l).take I.toNat from List.map_take ..]
    rfl
  · cbv
    exact⟨_,[.dead,.dead,aL Kept.ts 4 (bt l I.toNat x) c],⟨[1000,1001,0],rfl,rfl,.sl (q:=2) rfl (by simp only[Th.aB,Th.bH,h10]) (by simp only[Th.aB,bK];simp;omega) (by simp),.kill rfl trivial (.kill rfl trivial (.cons rfl (.l9 (l.length+1) (by
      show ay Kept.ts (bt l I.toNat x)=(ay Kept.ts (bt l I.toNat x)++_).take (l.length+1);rw[List.take_left' (by rw[aae,bW])]) (an _ _) rfl) .nil))⟩,c,pP,rfl,rfl⟩
end Go.Proofs.aaa
end
section
namespace Go.Proofs.aaa
open Go.bA Go.IntWalk
variable{P:Program}(hP:P=Tryz.prog)
include hP
theorem qc (l:List Order)(c:Nat)(I N:Int)(x:Order)(hc:l.length<=c)(hN:N=(l.length:Int))(h0:0<=I)(hi:I<=N)(hb:l.length<=1000000)(Fw:c<=9223372036854775807):
    aV P 131 [.sl 0 4 (.lit 0) (.th λ_=>N.toNat) (.th λ_=>c),AI .i64 (.th λ_=>I),.sl 1 4 (.lit 0) (.lit 1) (.lit 1)] [aL Order.ts 4 l c,.arr 4 (.lit [x.cs]) (.lit 4)] (qH Order.ts 4 l I.toNat x):=by
  have OC:N.toNat=l.length:=by omega
  refine aV.can ?_;refine aV.obj (cc:=[.arr 4 (.th λ_=>ay Order.ts l++bk 4 (c -l.length)) (.th λ_=>c*4),.arr 4 (.lit [x.cs]) (.lit 4)]) ?_ (λw F μ hs=>hs.bB (o:=0) (c:=c) rfl rfl (by decide) (by show(ay Order.ts l).length<=c;simpa using hc) (by show _=ay Order.ts l++bk 4 (c -(ay Order.ts l).length);simp));have hwide:∀r∈ay Order.ts l++bk 4 (c -l.length),r.length=4:=by
    intro r hr;rcases List.mem_append.1 hr with hr|hr
    · exact cr _ Order.wh l r hr
    · rw[(List.mem_replicate.1 hr).2];rfl
  have dy:aH .add .i64 I (Int.ofNat 1)=I+1:=by simp[aH,wrap64];omega
  have hrows:((ay Order.ts l++bk 4 (c -l.length)).drop I.toNat).take (l.length -I.toNat)=ay Order.ts (l.drop I.toNat):=by
    rw[List.drop_append_of_le_length (by simp;omega),List.take_append_of_le_length (by simp),List.take_of_length_le (by simp)];exact(List.map_drop ..).symm
  have hT:(Int.ofNat N.toNat -I).toNat=l.length -I.toNat:=by simp;omega
  have DW:∀n,∀r∈List.replicate n (bG ((td 72).get rfl)),r.length=4:=λn r hr=>by rw[(List.mem_replicate.1 hr).2];rfl
  have v_:∀r∈ay Order.ts (l.take I.toNat),r.length=4:=cr _ Order.wh _;refine Wf hP ?_;cbv;refine bg.mk (by simp[okB];omega) ?_;cbv;refine aM.mk (λh=> ?_) (λh=> ?_)<;>cbv
  · have hI:I=N:=by simp[ai]at h;omega
    refine cU (ty hP) (e:=72) rfl rfl rfl (by simp) rfl rfl (by decide) rfl ?_ rfl ?_ (Src.sl (a_ (ty hP) (e:=72) rfl rfl) (es:=.lit [x.cs]) (sz:=.lit 4) rfl (by simp) (by simp)) ?_ ?_ (.th λ_=>l.length+1) (.th λ_=>ay Order.ts (bt l I.toNat x)) ?_ ?_ (λc' tG=> ?_)
    · show N.toNat<=(ay Order.ts l++bk 4 (c -l.length)).length
      simp;omega
    · exact hwide
    · show(N.toNat+1)*48<=_;omega
    · show N.toNat+1<=_;omega
    · show l.length+1=N.toNat+1;omega
    · show ay Order.ts (bt l I.toNat x)=(ay Order.ts l++bk 4 (c -l.length)).take N.toNat++[x.cs]
      rw[List.take_append_of_le_length (by simp;omega),List.take_of_length_le (by simp;omega),bt,List.take_of_length_le (by omega),List.drop_of_length_le (by omega)];simp
    · cbv
      exact⟨_,[.dead,.dead,aL Order.ts 4 (bt l I.toNat x) c'],⟨[1000,1001,2],rfl,rfl,.sl (q:=2) rfl rfl rfl rfl,.kill rfl trivial (.kill rfl trivial (.cons rfl (.fY rfl (an _ _) rfl) .nil))⟩,c',tG,rfl,rfl⟩
  have hI:I<N:=by simp[ai]at h;omega
  refine aM.mk (λh2=> ?_) (λh2=> ?_)<;>cbv
  · have pP:c=l.length:=by simp[ai,aH,wrap64]at h2;omega
    refine bg.mk (by simp[okB];omega) ?_;cbv;refine gW (ty hP) (e:=72) rfl rfl rfl (by simp) (kn:=.i64) rfl rfl rfl rfl (by decide) (by show bP 0 0 _=0;unfold bP;split<;>rfl) ?_ ?_ ?_ ?_ ?_ ?_ ?_ (.th λ_=>l.length+1) (.th λ_=>ay Order.ts (l.take I.toNat)++List.replicate (l.length+1 -I.toNat) (bG ((td 72).get rfl))) ?_ ?_ (λc' tG=> ?_)
    · simp only[Th.aB,Int.sub_zero];simp;omega
    · simp
    · exact hwide
    · simp[aH,wrap64];omega
    · simp[aH,wrap64];omega
    · show _*48<=_
      simp[aH,wrap64];omega
    · simp[aH,wrap64];omega
    · simp[aH,wrap64];omega
    · simp only[Th.aB,Int.sub_zero]
      have e1:(aH .sub .i64 (aH .add .i64 (Int.ofNat N.toNat) (Int.ofNat 1)) I).toNat=l.length+1 -I.toNat:=by simp[aH,wrap64];omega
      have e2:(ay Order.ts l++bk 4 (c -l.length)).take I.toNat=ay Order.ts (l.take I.toNat):=by
        rw[List.take_append_of_le_length (by simp;omega)];exact(List.map_take ..).symm
      exact(congr (congrArg HAppend.hAppend e2.symm) (by rw[e1];rfl))
    · have Kz:l.length+1<=c':=tG
      cbv;refine bg.mk (by simp[okB];omega) ?_;cbv;have ho:bP 0 I (Int.ofNat c')=I.toNat:=by
        unfold bP;rw[decide_eq_false (by simp;omega)];simp
      refine cY (ty hP) (e:=72) rfl rfl rfl rfl rfl ?_ (.all (Src.sl (a_ (ty hP) (e:=72) rfl rfl) (es:=.lit [x.cs]) (sz:=.lit 4) rfl (by simp) (by simp)) ?_) ?_ (.lit 1) (.th λ_=>ay Order.ts (l.take I.toNat)++[x.cs]++List.replicate (l.length -I.toNat) (bG ((td 72).get rfl))) rfl ?_ ?_
      · intro r hr
        rcases List.mem_append.1 hr with hr|hr
        · exact v_ r hr
        · exact DW _ r hr
      · simp only[Th.aB];simp;omega
      · simp only[Th.aB,ho];simp;omega
      · simp only[Th.aB,ho]
        have:=Ii (ay Order.ts (l.take I.toNat)) (l.length -I.toNat) (bG ((td 72).get rfl)) x.cs I.toNat (by simp;omega);rw[show l.length -I.toNat+1=l.length+1 -I.toNat by omega]at this;exact this.symm
      · cbv
        refine aR.cS (ty hP) (mo hP) rfl ?_;cbv
        iterate 4
          (apply aS.is
           · intro J hJ
             cbv;exact hJ
           cbv)
        apply aS.is
        · intro J hJ
          cbv;refine bg.mk (by simp[okB,aH,wrap64];omega) ?_;cbv;exact hJ
        cbv
        iterate 2
          (apply aS.is
           · intro J hJ
             cbv;exact hJ
           cbv)
        apply aS.is
        · intro J hJ
          cbv;refine bg.mk (by simp[okB];omega) ?_;cbv;exact hJ
        cbv;have BG:bP 0 (I+1) (Int.ofNat c')=(I+1).toNat:=by
          unfold bP;rw[decide_eq_false (by simp;omega)];simp
        have fW:(bP 0 I (Int.ofNat c)=I.toNat):=by
          unfold bP;rw[decide_eq_false (by simp;omega)];simp
        refine cY (ty hP) (e:=72) rfl rfl rfl rfl rfl ?_ (.all (Src.sl (a_ (ty hP) (e:=72) rfl rfl) (es:=.th λ_=>ay Order.ts l++bk 4 (c -l.length)) (sz:=.th λ_=>c*4) rfl hwide ?_) ?_) ?_ (.th λ_=>((l.length -I.toNat:Nat):Int)) (.th λ_=>ay Order.ts (bt l I.toNat x)) ?_ ?_ ?_
        · intro r hr
          rcases List.mem_append.1 hr with hr|hr
          · rcases List.mem_append.1 hr with hr|hr
            · exact v_ r hr
            · rw[List.mem_singleton.1 hr];rfl
          · exact DW _ r hr
        · simp only[Th.aB,fW,hT];simp;omega
        · simp only[Th.aB,fW,hT,hrows,dy];simp;omega
        · simp only[Th.aB,fW,hT,hrows,dy,BG];simp;omega
        · simp only[Th.aB,fW,hT,hrows];simp
        · simp only[Th.aB,fW,hT,hrows,dy,BG]
          have:=Ij (ay Order.ts (l.take I.toNat)++[x.cs]) (ay Order.ts (l.drop I.toNat)) (bG ((td 72).get rfl)) (I+1).toNat (l.length -I.toNat) (by simp;omega) (by simp);exact(ej Order.ts l I.toNat x).trans this.symm
        · cbv
          exact⟨_,[.dead,.dead,aL Order.ts 4 (bt l I.toNat x) c'],⟨[1000,1001,2],rfl,rfl,.sl (q:=2) rfl rfl rfl rfl,.kill rfl trivial (.kill rfl trivial (.cons rfl (.fY rfl (an _ _) rfl) .nil))⟩,c',tG,rfl,rfl⟩
  have pP:l.length+1<=c:=by simp[ai,aH,wrap64]at h2;omega
  have bK:aH .add .i64 (Int.ofNat N.toNat) (Int.ofNat 1)=N+1:=by simp[aH,wrap64];omega
  have fW:bP 0 I (Int.ofNat c)=I.toNat:=by
    unfold bP;rw[decide_eq_false (by simp;omega)];simp
  have h10:∀x:Int,bP 0 0 x=0:=λx=>by unfold bP;split<;>rfl
  refine bg.mk (by simp only[bK];simp[okB];omega) ?_;cbv;refine bg.mk (by simp only[bK,dy];simp[okB];omega) ?_;cbv;refine gX (ty hP) (tS:=28) (tR:=4) (e:=72) rfl rfl rfl (λargs w v h=>by subst hP;rw[run_callFunc_extern Tryz.func169 (by kernel_rfl) (by kernel_rfl) (by kernel_rfl) (e:=Extern.SlicesOverlaps.overlaps #[28,28] #[4]) (by kernel_rfl),h];rfl) rfl rfl (by decide) (by decide) (by simp;omega) ?_;cbv;refine aR.cS (ty hP) (mo hP) rfl ?_;cbv
  iterate 4
    (apply aS.is
     · intro J hJ
       cbv;exact hJ
     cbv)
  apply aS.is
  · intro J hJ
    cbv;refine bg.mk (by simp only[bK,dy];simp[okB];omega) ?_;cbv;exact hJ
  cbv
  iterate 2
    (apply aS.is
     · intro J hJ
       cbv;exact hJ
     cbv)
  apply aS.is
  · intro J hJ
    cbv;refine bg.mk (by simp only[bK];simp[okB];omega) ?_;cbv;exact hJ
  cbv;have mF:(Int.ofNat (Int.ofNat c -0).toNat)=Int.ofNat c:=by simp
  have Cm:bP 0 (I+1) (Int.ofNat c)=I.toNat+1:=by
    unfold bP;rw[decide_eq_false (by simp;omega)];simp;omega
  have oe:(Int.ofNat (N+1 -0).toNat -(I+1)).toNat=l.length -I.toNat:=by simp;omega
  have G_:(Int.ofNat (N+1 -0).toNat -I).toNat=l.length+1 -I.toNat:=by simp;omega
  have Sr:(bk 4 (c -l.length)).length=c -l.length:=by simp
  have hel:(ay Order.ts l++bk 4 (c -l.length)).length=c:=by simp;omega
  refine cY (ty hP) (e:=72) rfl rfl rfl rfl rfl ?_ (.cut (Src.sl (a_ (ty hP) (e:=72) rfl rfl) (es:=.th λ_=>ay Order.ts l++bk 4 (c -l.length)) (sz:=.th λ_=>c*4) rfl hwide ?_) ?_ ?_) ?_ (.th λ_=>((l.length -I.toNat:Nat):Int))
    (.th λ_=>(ay Order.ts l++bk 4 (c -l.length)).take (I.toNat+1)++(ay Order.ts l).drop I.toNat++(ay Order.ts l++bk 4 (c -l.length)).drop (I.toNat+1+(l.length -I.toNat))) ?_ ?_ ?_
  · exact hwide
  · simp only[Th.aB,mF,h10,fW,bK,dy,oe,hel];omega
  · simp only[Th.aB,mF,h10,fW,bK,dy,oe,hrows];simp
  · simp only[Th.aB,bK,dy,oe,G_];omega
  · simp only[Th.aB,mF,h10,fW,bK,dy,oe,hrows,Cm,hel];simp;omega
  · simp only[Th.aB,mF,h10,fW,bK,dy,oe,hrows];simp
  · simp only[Th.aB,mF,h10,fW,bK,dy,oe,hrows,Cm]
    show(ay Order.ts l++bk 4 (c -l.length)).take (I.toNat+1)++(ay Order.ts l).drop I.toNat++(ay Order.ts l++bk 4 (c -l.length)).drop (I.toNat+1+(l.length -I.toNat))=
      (ay Order.ts l++bk 4 (c -l.length)).take (I.toNat+1)++ay Order.ts (l.drop I.toNat)++(ay Order.ts l++bk 4 (c -l.length)).drop (I.toNat+1+(ay Order.ts (l.drop I.toNat)).length)
    rw[show(ay Order.ts (l.drop I.toNat)).length=l.length -I.toNat by simp];rw[show ay Order.ts (l.drop I.toNat)=(ay Order.ts l).drop I.toNat from List.map_drop ..]
  cbv;refine bg.mk (by simp only[bK];simp[okB];omega) ?_;cbv;refine cY (ty hP) (e:=72) rfl rfl rfl rfl rfl ?_ (.all (Src.sl (a_ (ty hP) (e:=72) rfl rfl) (es:=.lit [x.cs]) (sz:=.lit 4) rfl (by simp) (by simp)) ?_) ?_ (.lit 1) (.th λ_=>ay Order.ts (bt l I.toNat x)++(bk 4 (c -l.length)).drop 1) rfl ?_ ?_
  · intro r hr
    have hr':r∈(ay Order.ts l++bk 4 (c -l.length)).take (I.toNat+1)++(ay Order.ts l).drop I.toNat++(ay Order.ts l++bk 4 (c -l.length)).drop (I.toNat+1+(l.length -I.toNat)):=hr;rcases List.mem_append.1 hr' with hr|hr
    · rcases List.mem_append.1 hr with hr|hr
      · exact hwide r (List.mem_of_mem_take hr)
      · exact cr _ Order.wh _ r (List.mem_of_mem_drop hr)
    · exact hwide r (List.mem_of_mem_drop hr)
  · simp only[Th.aB,bK];simp;omega
  · simp only[Th.aB,mF,h10,fW];simp;omega
  · simp only[Th.aB,mF,h10,fW]
    have:=vT (ay Order.ts l) (bk 4 (c -l.length)) I.toNat (l.length -I.toNat) (by simp;omega) (by simp) x.cs;refine Eq.trans ?_ this.symm;show ay Order.ts (bt l I.toNat x)++_=_;rw[ej,show ay Order.ts (l.drop I.toNat)=(ay Order.ts l).drop I.toNat from List.map_drop ..,show ay Order.ts (l.take I.toNat)=(ay Order.ts l).take I.toNat from List.map_take ..]
    rfl
  · cbv
    exact⟨_,[.dead,.dead,aL Order.ts 4 (bt l I.toNat x) c],⟨[1000,1001,0],rfl,rfl,.sl (q:=2) rfl (by simp only[Th.aB,Th.bH,h10]) (by simp only[Th.aB,bK];simp;omega) (by simp),.kill rfl trivial (.kill rfl trivial (.cons rfl (.l9 (l.length+1) (by
      show ay Order.ts (bt l I.toNat x)=(ay Order.ts (bt l I.toNat x)++_).take (l.length+1);rw[List.take_left' (by rw[aae,bW])]) (an _ _) rfl) .nil))⟩,c,pP,rfl,rfl⟩
theorem ef (l:List Cell)(c:Nat)(I N:Int)(x:Cell)(hc:l.length<=c)(hN:N=(l.length:Int))(h0:0<=I)(hi:I<=N)(hb:l.length<=1000000)(Fw:c<=9223372036854775807):
    aV P 197 [.sl 0 6 (.lit 0) (.th λ_=>N.toNat) (.th λ_=>c),AI .i64 (.th λ_=>I),.sl 1 6 (.lit 0) (.lit 1) (.lit 1)] [aL Cell.ts 6 l c,.arr 6 (.lit [x.cs]) (.lit 6)] (qH Cell.ts 6 l I.toNat x):=by
  have OC:N.toNat=l.length:=by omega
  refine aV.can ?_;refine aV.obj (cc:=[.arr 6 (.th λ_=>ay Cell.ts l++bk 6 (c -l.length)) (.th λ_=>c*6),.arr 6 (.lit [x.cs]) (.lit 6)]) ?_ (λw F μ hs=>hs.bB (o:=0) (c:=c) rfl rfl (by decide) (by show(ay Cell.ts l).length<=c;simpa using hc) (by show _=ay Cell.ts l++bk 6 (c -(ay Cell.ts l).length);simp));have hwide:∀r∈ay Cell.ts l++bk 6 (c -l.length),r.length=6:=by
    intro r hr;rcases List.mem_append.1 hr with hr|hr
    · exact cr _ Cell.wh l r hr
    · rw[(List.mem_replicate.1 hr).2];rfl
  have dy:aH .add .i64 I (Int.ofNat 1)=I+1:=by simp[aH,wrap64];omega
  have hrows:((ay Cell.ts l++bk 6 (c -l.length)).drop I.toNat).take (l.length -I.toNat)=ay Cell.ts (l.drop I.toNat):=by
    rw[List.drop_append_of_le_length (by simp;omega),List.take_append_of_le_length (by simp),List.take_of_length_le (by simp)];exact(List.map_drop ..).symm
  have hT:(Int.ofNat N.toNat -I).toNat=l.length -I.toNat:=by simp;omega
  have DW:∀n,∀r∈List.replicate n (bG ((td 68).get rfl)),r.length=6:=λn r hr=>by rw[(List.mem_replicate.1 hr).2];rfl
  have v_:∀r∈ay Cell.ts (l.take I.toNat),r.length=6:=cr _ Cell.wh _;refine Wm hP ?_;cbv;refine bg.mk (by simp[okB];omega) ?_;cbv;refine aM.mk (λh=> ?_) (λh=> ?_)<;>cbv
  · have hI:I=N:=by simp[ai]at h;omega
    refine cU (ty hP) (e:=68) rfl rfl rfl (by simp) rfl rfl (by decide) rfl ?_ rfl ?_ (Src.sl (a_ (ty hP) (e:=68) rfl rfl) (es:=.lit [x.cs]) (sz:=.lit 6) rfl (by simp) (by simp)) ?_ ?_ (.th λ_=>l.length+1) (.th λ_=>ay Cell.ts (bt l I.toNat x)) ?_ ?_ (λc' tG=> ?_)
    · show N.toNat<=(ay Cell.ts l++bk 6 (c -l.length)).length
      simp;omega
    · exact hwide
    · show(N.toNat+1)*48<=_;omega
    · show N.toNat+1<=_;omega
    · show l.length+1=N.toNat+1;omega
    · show ay Cell.ts (bt l I.toNat x)=(ay Cell.ts l++bk 6 (c -l.length)).take N.toNat++[x.cs]
      rw[List.take_append_of_le_length (by simp;omega),List.take_of_length_le (by simp;omega),bt,List.take_of_length_le (by omega),List.drop_of_length_le (by omega)];simp
    · cbv
      exact⟨_,[.dead,.dead,aL Cell.ts 6 (bt l I.toNat x) c'],⟨[1000,1001,2],rfl,rfl,.sl (q:=2) rfl rfl rfl rfl,.kill rfl trivial (.kill rfl trivial (.cons rfl (.fY rfl (an _ _) rfl) .nil))⟩,c',tG,rfl,rfl⟩
  have hI:I<N:=by simp[ai]at h;omega
  refine aM.mk (λh2=> ?_) (λh2=> ?_)<;>cbv
  · have pP:c=l.length:=by simp[ai,aH,wrap64]at h2;omega
    refine bg.mk (by simp[okB];omega) ?_;cbv;refine gW (ty hP) (e:=68) rfl rfl rfl (by simp) (kn:=.i64) rfl rfl rfl rfl (by decide) (by show bP 0 0 _=0;unfold bP;split<;>rfl) ?_ ?_ ?_ ?_ ?_ ?_ ?_ (.th λ_=>l.length+1) (.th λ_=>ay Cell.ts (l.take I.toNat)++List.replicate (l.length+1 -I.toNat) (bG ((td 68).get rfl))) ?_ ?_ (λc' tG=> ?_)
    · simp only[Th.aB,Int.sub_zero];simp;omega
    · simp
    · exact hwide
    · simp[aH,wrap64];omega
    · simp[aH,wrap64];omega
    · show _*48<=_
      simp[aH,wrap64];omega
    · simp[aH,wrap64];omega
    · simp[aH,wrap64];omega
    · simp only[Th.aB,Int.sub_zero]
      have e1:(aH .sub .i64 (aH .add .i64 (Int.ofNat N.toNat) (Int.ofNat 1)) I).toNat=l.length+1 -I.toNat:=by simp[aH,wrap64];omega
      have e2:(ay Cell.ts l++bk 6 (c -l.length)).take I.toNat=ay Cell.ts (l.take I.toNat):=by
        rw[List.take_append_of_le_length (by simp;omega)];exact(List.map_take ..).symm
      exact(congr (congrArg HAppend.hAppend e2.symm) (by rw[e1];rfl))
    · have Kz:l.length+1<=c':=tG
      cbv;refine bg.mk (by simp[okB];omega) ?_;cbv;have ho:bP 0 I (Int.ofNat c')=I.toNat:=by
        unfold bP;rw[decide_eq_false (by simp;omega)];simp
      refine cY (ty hP) (e:=68) rfl rfl rfl rfl rfl ?_ (.all (Src.sl (a_ (ty hP) (e:=68) rfl rfl) (es:=.lit [x.cs]) (sz:=.lit 6) rfl (by simp) (by simp)) ?_) ?_ (.lit 1) (.th λ_=>ay Cell.ts (l.take I.toNat)++[x.cs]++List.replicate (l.length -I.toNat) (bG ((td 68).get rfl))) rfl ?_ ?_
      · intro r hr
        rcases List.mem_append.1 hr with hr|hr
        · exact v_ r hr
        · exact DW _ r hr
      · simp only[Th.aB];simp;omega
      · simp only[Th.aB,ho];simp;omega
      · simp only[Th.aB,ho]
        have:=Ii (ay Cell.ts (l.take I.toNat)) (l.length -I.toNat) (bG ((td 68).get rfl)) x.cs I.toNat (by simp;omega);rw[show l.length -I.toNat+1=l.length+1 -I.toNat by omega]at this;exact this.symm
      · cbv
        refine aR.cS (ty hP) (mo hP) rfl ?_;cbv
        iterate 4
          (apply aS.is
           · intro J hJ
             cbv;exact hJ
           cbv)
        apply aS.is
        · intro J hJ
          cbv;refine bg.mk (by simp[okB,aH,wrap64];omega) ?_;cbv;exact hJ
        cbv
        iterate 2
          (apply aS.is
           · intro J hJ
             cbv;exact hJ
           cbv)
        apply aS.is
        · intro J hJ
          cbv;refine bg.mk (by simp[okB];omega) ?_;cbv;exact hJ
        cbv;have BG:bP 0 (I+1) (Int.ofNat c')=(I+1).toNat:=by
          unfold bP;rw[decide_eq_false (by simp;omega)];simp
        have fW:(bP 0 I (Int.ofNat c)=I.toNat):=by
          unfold bP;rw[decide_eq_false (by simp;omega)];simp
        refine cY (ty hP) (e:=68) rfl rfl rfl rfl rfl ?_ (.all (Src.sl (a_ (ty hP) (e:=68) rfl rfl) (es:=.th λ_=>ay Cell.ts l++bk 6 (c -l.length)) (sz:=.th λ_=>c*6) rfl hwide ?_) ?_) ?_ (.th λ_=>((l.length -I.toNat:Nat):Int)) (.th λ_=>ay Cell.ts (bt l I.toNat x)) ?_ ?_ ?_
        · intro r hr
          rcases List.mem_append.1 hr with hr|hr
          · rcases List.mem_append.1 hr with hr|hr
            · exact v_ r hr
            · rw[List.mem_singleton.1 hr];rfl
          · exact DW _ r hr
        · simp only[Th.aB,fW,hT];simp;omega
        · simp only[Th.aB,fW,hT,hrows,dy];simp;omega
        · simp only[Th.aB,fW,hT,hrows,dy,BG];simp;omega
        · simp only[Th.aB,fW,hT,hrows];simp
        · simp only[Th.aB,fW,hT,hrows,dy,BG]
          have:=Ij (ay Cell.ts (l.take I.toNat)++[x.cs]) (ay Cell.ts (l.drop I.toNat)) (bG ((td 68).get rfl)) (I+1).toNat (l.length -I.toNat) (by simp;omega) (by simp);exact(ej Cell.ts l I.toNat x).trans this.symm
        · cbv
          exact⟨_,[.dead,.dead,aL Cell.ts 6 (bt l I.toNat x) c'],⟨[1000,1001,2],rfl,rfl,.sl (q:=2) rfl rfl rfl rfl,.kill rfl trivial (.kill rfl trivial (.cons rfl (.fY rfl (an _ _) rfl) .nil))⟩,c',tG,rfl,rfl⟩
  have pP:l.length+1<=c:=by simp[ai,aH,wrap64]at h2;omega
  have bK:aH .add .i64 (Int.ofNat N.toNat) (Int.ofNat 1)=N+1:=by simp[aH,wrap64];omega
  have fW:bP 0 I (Int.ofNat c)=I.toNat:=by
    unfold bP;rw[decide_eq_false (by simp;omega)];simp
  have h10:∀x:Int,bP 0 0 x=0:=λx=>by unfold bP;split<;>rfl
  refine bg.mk (by simp only[bK];simp[okB];omega) ?_;cbv;refine bg.mk (by simp only[bK,dy];simp[okB];omega) ?_;cbv;refine gX (ty hP) (tS:=22) (tR:=4) (e:=68) rfl rfl rfl (λargs w v h=>by subst hP;rw[run_callFunc_extern Tryz.func214 (by kernel_rfl) (by kernel_rfl) (by kernel_rfl) (e:=Extern.SlicesOverlaps.overlaps #[22,22] #[4]) (by kernel_rfl),h];rfl) rfl rfl (by decide) (by decide) (by simp;omega) ?_;cbv;refine aR.cS (ty hP) (mo hP) rfl ?_;cbv
  iterate 4
    (apply aS.is
     · intro J hJ
       cbv;exact hJ
     cbv)
  apply aS.is
  · intro J hJ
    cbv;refine bg.mk (by simp only[bK,dy];simp[okB];omega) ?_;cbv;exact hJ
  cbv
  iterate 2
    (apply aS.is
     · intro J hJ
       cbv;exact hJ
     cbv)
  apply aS.is
  · intro J hJ
    cbv;refine bg.mk (by simp only[bK];simp[okB];omega) ?_;cbv;exact hJ
  cbv;have mF:(Int.ofNat (Int.ofNat c -0).toNat)=Int.ofNat c:=by simp
  have Cm:bP 0 (I+1) (Int.ofNat c)=I.toNat+1:=by
    unfold bP;rw[decide_eq_false (by simp;omega)];simp;omega
  have oe:(Int.ofNat (N+1 -0).toNat -(I+1)).toNat=l.length -I.toNat:=by simp;omega
  have G_:(Int.ofNat (N+1 -0).toNat -I).toNat=l.length+1 -I.toNat:=by simp;omega
  have Sr:(bk 6 (c -l.length)).length=c -l.length:=by simp
  have hel:(ay Cell.ts l++bk 6 (c -l.length)).length=c:=by simp;omega
  refine cY (ty hP) (e:=68) rfl rfl rfl rfl rfl ?_ (.cut (Src.sl (a_ (ty hP) (e:=68) rfl rfl) (es:=.th λ_=>ay Cell.ts l++bk 6 (c -l.length)) (sz:=.th λ_=>c*6) rfl hwide ?_) ?_ ?_) ?_ (.th λ_=>((l.length -I.toNat:Nat):Int))
    (.th λ_=>(ay Cell.ts l++bk 6 (c -l.length)).take (I.toNat+1)++(ay Cell.ts l).drop I.toNat++(ay Cell.ts l++bk 6 (c -l.length)).drop (I.toNat+1+(l.length -I.toNat))) ?_ ?_ ?_
  · exact hwide
  · simp only[Th.aB,mF,h10,fW,bK,dy,oe,hel];omega
  · simp only[Th.aB,mF,h10,fW,bK,dy,oe,hrows];simp
  · simp only[Th.aB,bK,dy,oe,G_];omega
  · simp only[Th.aB,mF,h10,fW,bK,dy,oe,hrows,Cm,hel];simp;omega
  · simp only[Th.aB,mF,h10,fW,bK,dy,oe,hrows];simp
  · simp only[Th.aB,mF,h10,fW,bK,dy,oe,hrows,Cm]
    show(ay Cell.ts l++bk 6 (c -l.length)).take (I.toNat+1)++(ay Cell.ts l).drop I.toNat++(ay Cell.ts l++bk 6 (c -l.length)).drop (I.toNat+1+(l.length -I.toNat))=
      (ay Cell.ts l++bk 6 (c -l.length)).take (I.toNat+1)++ay Cell.ts (l.drop I.toNat)++(ay Cell.ts l++bk 6 (c -l.length)).drop (I.toNat+1+(ay Cell.ts (l.drop I.toNat)).length)
    rw[show(ay Cell.ts (l.drop I.toNat)).length=l.length -I.toNat by simp];rw[show ay Cell.ts (l.drop I.toNat)=(ay Cell.ts l).drop I.toNat from List.map_drop ..]
  cbv;refine bg.mk (by simp only[bK];simp[okB];omega) ?_;cbv;refine cY (ty hP) (e:=68) rfl rfl rfl rfl rfl ?_ (.all (Src.sl (a_ (ty hP) (e:=68) rfl rfl) (es:=.lit [x.cs]) (sz:=.lit 6) rfl (by simp) (by simp)) ?_) ?_ (.lit 1) (.th λ_=>ay Cell.ts (bt l I.toNat x)++(bk 6 (c -l.length)).drop 1) rfl ?_ ?_
  · intro r hr
    have hr':r∈(ay Cell.ts l++bk 6 (c -l.length)).take (I.toNat+1)++(ay Cell.ts l).drop I.toNat++(ay Cell.ts l++bk 6 (c -l.length)).drop (I.toNat+1+(l.length -I.toNat)):=hr;rcases List.mem_append.1 hr' with hr|hr
    · rcases List.mem_append.1 hr with hr|hr
      · exact hwide r (List.mem_of_mem_take hr)
      · exact cr _ Cell.wh _ r (List.mem_of_mem_drop hr)
    · exact hwide r (List.mem_of_mem_drop hr)
  · simp only[Th.aB,bK];simp;omega
  · simp only[Th.aB,mF,h10,fW];simp;omega
  · simp only[Th.aB,mF,h10,fW]
    have:=vT (ay Cell.ts l) (bk 6 (c -l.length)) I.toNat (l.length -I.toNat) (by simp;omega) (by simp) x.cs;refine Eq.trans ?_ this.symm;show ay Cell.ts (bt l I.toNat x)++_=_;rw[ej,show ay Cell.ts (l.drop I.toNat)=(ay Cell.ts l).drop I.toNat from List.map_drop ..,show ay Cell.ts (l.take I.toNat)=(ay Cell.ts l).take I.toNat from List.map_take ..]
    rfl
  · cbv
    exact⟨_,[.dead,.dead,aL Cell.ts 6 (bt l I.toNat x) c],⟨[1000,1001,0],rfl,rfl,.sl (q:=2) rfl (by simp only[Th.aB,Th.bH,h10]) (by simp only[Th.aB,bK];simp;omega) (by simp),.kill rfl trivial (.kill rfl trivial (.cons rfl (.l9 (l.length+1) (by
      show ay Cell.ts (bt l I.toNat x)=(ay Cell.ts (bt l I.toNat x)++_).take (l.length+1);rw[List.take_left' (by rw[aae,bW])]) (an _ _) rfl) .nil))⟩,c,pP,rfl,rfl⟩
theorem tH (l:List ah)(c:Nat)(I N:Int)(x:ah)(hc:l.length<=c)(hN:N=(l.length:Int))(h0:0<=I)(hi:I<=N)(hb:l.length<=1000000)(Fw:c<=9223372036854775807):
    aV P 211 [.sl 0 2 (.lit 0) (.th λ_=>N.toNat) (.th λ_=>c),AI .i64 (.th λ_=>I),.sl 1 2 (.lit 0) (.lit 1) (.lit 1)] [aL ah.ts 2 l c,.arr 2 (.lit [x.cs]) (.lit 2)] (qH ah.ts 2 l I.toNat x):=by
  have OC:N.toNat=l.length:=by omega
  refine aV.can ?_;refine aV.obj (cc:=[.arr 2 (.th λ_=>ay ah.ts l++bk 2 (c -l.length)) (.th λ_=>c*2),.arr 2 (.lit [x.cs]) (.lit 2)]) ?_ (λw F μ hs=>hs.bB (o:=0) (c:=c) rfl rfl (by decide) (by show(ay ah.ts l).length<=c;simpa using hc) (by show _=ay ah.ts l++bk 2 (c -(ay ah.ts l).length);simp));have hwide:∀r∈ay ah.ts l++bk 2 (c -l.length),r.length=2:=by
    intro r hr;rcases List.mem_append.1 hr with hr|hr
    · exact cr _ ah.wh l r hr
    · rw[(List.mem_replicate.1 hr).2];rfl
  have dy:aH .add .i64 I (Int.ofNat 1)=I+1:=by simp[aH,wrap64];omega
  have hrows:((ay ah.ts l++bk 2 (c -l.length)).drop I.toNat).take (l.length -I.toNat)=ay ah.ts (l.drop I.toNat):=by
    rw[List.drop_append_of_le_length (by simp;omega),List.take_append_of_le_length (by simp),List.take_of_length_le (by simp)];exact(List.map_drop ..).symm
  have hT:(Int.ofNat N.toNat -I).toNat=l.length -I.toNat:=by simp;omega
  have DW:∀n,∀r∈List.replicate n (bG ((td 143).get rfl)),r.length=2:=λn r hr=>by rw[(List.mem_replicate.1 hr).2];rfl
  have v_:∀r∈ay ah.ts (l.take I.toNat),r.length=2:=cr _ ah.wh _;refine Wq hP ?_;cbv;refine bg.mk (by simp[okB];omega) ?_;cbv;refine aM.mk (λh=> ?_) (λh=> ?_)<;>cbv
  · have hI:I=N:=by simp[ai]at h;omega
    refine cU (ty hP) (e:=143) rfl rfl rfl (by simp) rfl rfl (by decide) rfl ?_ rfl ?_ (Src.sl (a_ (ty hP) (e:=143) rfl rfl) (es:=.lit [x.cs]) (sz:=.lit 2) rfl (by simp) (by simp)) ?_ ?_ (.th λ_=>l.length+1) (.th λ_=>ay ah.ts (bt l I.toNat x)) ?_ ?_ (λc' tG=> ?_)
    · show N.toNat<=(ay ah.ts l++bk 2 (c -l.length)).length
      simp;omega
    · exact hwide
    · show(N.toNat+1)*16<=_;omega
    · show N.toNat+1<=_;omega
    · show l.length+1=N.toNat+1;omega
    · show ay ah.ts (bt l I.toNat x)=(ay ah.ts l++bk 2 (c -l.length)).take N.toNat++[x.cs]
      rw[List.take_append_of_le_length (by simp;omega),List.take_of_length_le (by simp;omega),bt,List.take_of_length_le (by omega),List.drop_of_length_le (by omega)];simp
    · cbv
      exact⟨_,[.dead,.dead,aL ah.ts 2 (bt l I.toNat x) c'],⟨[1000,1001,2],rfl,rfl,.sl (q:=2) rfl rfl rfl rfl,.kill rfl trivial (.kill rfl trivial (.cons rfl (.fY rfl (an _ _) rfl) .nil))⟩,c',tG,rfl,rfl⟩
  have hI:I<N:=by simp[ai]at h;omega
  refine aM.mk (λh2=> ?_) (λh2=> ?_)<;>cbv
  · have pP:c=l.length:=by simp[ai,aH,wrap64]at h2;omega
    refine bg.mk (by simp[okB];omega) ?_;cbv;refine gW (ty hP) (e:=143) rfl rfl rfl (by simp) (kn:=.i64) rfl rfl rfl rfl (by decide) (by show bP 0 0 _=0;unfold bP;split<;>rfl) ?_ ?_ ?_ ?_ ?_ ?_ ?_ (.th λ_=>l.length+1) (.th λ_=>ay ah.ts (l.take I.toNat)++List.replicate (l.length+1 -I.toNat) (bG ((td 143).get rfl))) ?_ ?_ (λc' tG=> ?_)
    · simp only[Th.aB,Int.sub_zero];simp;omega
    · simp
    · exact hwide
    · simp[aH,wrap64];omega
    · simp[aH,wrap64];omega
    · show _*16<=_
      simp[aH,wrap64];omega
    · simp[aH,wrap64];omega
    · simp[aH,wrap64];omega
    · simp only[Th.aB,Int.sub_zero]
      have e1:(aH .sub .i64 (aH .add .i64 (Int.ofNat N.toNat) (Int.ofNat 1)) I).toNat=l.length+1 -I.toNat:=by simp[aH,wrap64];omega
      have e2:(ay ah.ts l++bk 2 (c -l.length)).take I.toNat=ay ah.ts (l.take I.toNat):=by
        rw[List.take_append_of_le_length (by simp;omega)];exact(List.map_take ..).symm
      exact(congr (congrArg HAppend.hAppend e2.symm) (by rw[e1];rfl))
    · have Kz:l.length+1<=c':=tG
      cbv;refine bg.mk (by simp[okB];omega) ?_;cbv;have ho:bP 0 I (Int.ofNat c')=I.toNat:=by
        unfold bP;rw[decide_eq_false (by simp;omega)];simp
      refine cY (ty hP) (e:=143) rfl rfl rfl rfl rfl ?_ (.all (Src.sl (a_ (ty hP) (e:=143) rfl rfl) (es:=.lit [x.cs]) (sz:=.lit 2) rfl (by simp) (by simp)) ?_) ?_ (.lit 1) (.th λ_=>ay ah.ts (l.take I.toNat)++[x.cs]++List.replicate (l.length -I.toNat) (bG ((td 143).get rfl))) rfl ?_ ?_
      · intro r hr
        rcases List.mem_append.1 hr with hr|hr
        · exact v_ r hr
        · exact DW _ r hr
      · simp only[Th.aB];simp;omega
      · simp only[Th.aB,ho];simp;omega
      · simp only[Th.aB,ho]
        have:=Ii (ay ah.ts (l.take I.toNat)) (l.length -I.toNat) (bG ((td 143).get rfl)) x.cs I.toNat (by simp;omega);rw[show l.length -I.toNat+1=l.length+1 -I.toNat by omega]at this;exact this.symm
      · cbv
        refine aR.cS (ty hP) (mo hP) rfl ?_;cbv
        iterate 4
          (apply aS.is
           · intro J hJ
             cbv;exact hJ
           cbv)
        apply aS.is
        · intro J hJ
          cbv;refine bg.mk (by simp[okB,aH,wrap64];omega) ?_;cbv;exact hJ
        cbv
        iterate 2
          (apply aS.is
           · intro J hJ
             cbv;exact hJ
           cbv)
        apply aS.is
        · intro J hJ
          cbv;refine bg.mk (by simp[okB];omega) ?_;cbv;exact hJ
        cbv;have BG:bP 0 (I+1) (Int.ofNat c')=(I+1).toNat:=by
          unfold bP;rw[decide_eq_false (by simp;omega)];simp
        have fW:(bP 0 I (Int.ofNat c)=I.toNat):=by
          unfold bP;rw[decide_eq_false (by simp;omega)];simp
        refine cY (ty hP) (e:=143) rfl rfl rfl rfl rfl ?_ (.all (Src.sl (a_ (ty hP) (e:=143) rfl rfl) (es:=.th λ_=>ay ah.ts l++bk 2 (c -l.length)) (sz:=.th λ_=>c*2) rfl hwide ?_) ?_) ?_ (.th λ_=>((l.length -I.toNat:Nat):Int)) (.th λ_=>ay ah.ts (bt l I.toNat x)) ?_ ?_ ?_
        · intro r hr
          rcases List.mem_append.1 hr with hr|hr
          · rcases List.mem_append.1 hr with hr|hr
            · exact v_ r hr
            · rw[List.mem_singleton.1 hr];rfl
          · exact DW _ r hr
        · simp only[Th.aB,fW,hT];simp;omega
        · simp only[Th.aB,fW,hT,hrows,dy];simp;omega
        · simp only[Th.aB,fW,hT,hrows,dy,BG];simp;omega
        · simp only[Th.aB,fW,hT,hrows];simp
        · simp only[Th.aB,fW,hT,hrows,dy,BG]
          have:=Ij (ay ah.ts (l.take I.toNat)++[x.cs]) (ay ah.ts (l.drop I.toNat)) (bG ((td 143).get rfl)) (I+1).toNat (l.length -I.toNat) (by simp;omega) (by simp);exact(ej ah.ts l I.toNat x).trans this.symm
        · cbv
          exact⟨_,[.dead,.dead,aL ah.ts 2 (bt l I.toNat x) c'],⟨[1000,1001,2],rfl,rfl,.sl (q:=2) rfl rfl rfl rfl,.kill rfl trivial (.kill rfl trivial (.cons rfl (.fY rfl (an _ _) rfl) .nil))⟩,c',tG,rfl,rfl⟩
  have pP:l.length+1<=c:=by simp[ai,aH,wrap64]at h2;omega
  have bK:aH .add .i64 (Int.ofNat N.toNat) (Int.ofNat 1)=N+1:=by simp[aH,wrap64];omega
  have fW:bP 0 I (Int.ofNat c)=I.toNat:=by
    unfold bP;rw[decide_eq_false (by simp;omega)];simp
  have h10:∀x:Int,bP 0 0 x=0:=λx=>by unfold bP;split<;>rfl
  refine bg.mk (by simp only[bK];simp[okB];omega) ?_;cbv;refine bg.mk (by simp only[bK,dy];simp[okB];omega) ?_;cbv;refine gX (ty hP) (tS:=27) (tR:=4) (e:=143) rfl rfl rfl (λargs w v h=>by subst hP;rw[run_callFunc_extern Tryz.func224 (by kernel_rfl) (by kernel_rfl) (by kernel_rfl) (e:=Extern.SlicesOverlaps.overlaps #[27,27] #[4]) (by kernel_rfl),h];rfl) rfl rfl (by decide) (by decide) (by simp;omega) ?_;cbv;refine aR.cS (ty hP) (mo hP) rfl ?_;cbv
  iterate 4
    (apply aS.is
     · intro J hJ
       cbv;exact hJ
     cbv)
  apply aS.is
  · intro J hJ
    cbv;refine bg.mk (by simp only[bK,dy];simp[okB];omega) ?_;cbv;exact hJ
  cbv
  iterate 2
    (apply aS.is
     · intro J hJ
       cbv;exact hJ
     cbv)
  apply aS.is
  · intro J hJ
    cbv;refine bg.mk (by simp only[bK];simp[okB];omega) ?_;cbv;exact hJ
  cbv;have mF:(Int.ofNat (Int.ofNat c -0).toNat)=Int.ofNat c:=by simp
  have Cm:bP 0 (I+1) (Int.ofNat c)=I.toNat+1:=by
    unfold bP;rw[decide_eq_false (by simp;omega)];simp;omega
  have oe:(Int.ofNat (N+1 -0).toNat -(I+1)).toNat=l.length -I.toNat:=by simp;omega
  have G_:(Int.ofNat (N+1 -0).toNat -I).toNat=l.length+1 -I.toNat:=by simp;omega
  have Sr:(bk 2 (c -l.length)).length=c -l.length:=by simp
  have hel:(ay ah.ts l++bk 2 (c -l.length)).length=c:=by simp;omega
  refine cY (ty hP) (e:=143) rfl rfl rfl rfl rfl ?_ (.cut (Src.sl (a_ (ty hP) (e:=143) rfl rfl) (es:=.th λ_=>ay ah.ts l++bk 2 (c -l.length)) (sz:=.th λ_=>c*2) rfl hwide ?_) ?_ ?_) ?_ (.th λ_=>((l.length -I.toNat:Nat):Int))
    (.th λ_=>(ay ah.ts l++bk 2 (c -l.length)).take (I.toNat+1)++(ay ah.ts l).drop I.toNat++(ay ah.ts l++bk 2 (c -l.length)).drop (I.toNat+1+(l.length -I.toNat))) ?_ ?_ ?_
  · exact hwide
  · simp only[Th.aB,mF,h10,fW,bK,dy,oe,hel];omega
  · simp only[Th.aB,mF,h10,fW,bK,dy,oe,hrows];simp
  · simp only[Th.aB,bK,dy,oe,G_];omega
  · simp only[Th.aB,mF,h10,fW,bK,dy,oe,hrows,Cm,hel];simp;omega
  · simp only[Th.aB,mF,h10,fW,bK,dy,oe,hrows];simp
  · simp only[Th.aB,mF,h10,fW,bK,dy,oe,hrows,Cm]
    show(ay ah.ts l++bk 2 (c -l.length)).take (I.toNat+1)++(ay ah.ts l).drop I.toNat++(ay ah.ts l++bk 2 (c -l.length)).drop (I.toNat+1+(l.length -I.toNat))=
      (ay ah.ts l++bk 2 (c -l.length)).take (I.toNat+1)++ay ah.ts (l.drop I.toNat)++(ay ah.ts l++bk 2 (c -l.length)).drop (I.toNat+1+(ay ah.ts (l.drop I.toNat)).length)
    rw[show(ay ah.ts (l.drop I.toNat)).length=l.length -I.toNat by simp];rw[show ay ah.ts (l.drop I.toNat)=(ay ah.ts l).drop I.toNat from List.map_drop ..]
  cbv;refine bg.mk (by simp only[bK];simp[okB];omega) ?_;cbv;refine cY (ty hP) (e:=143) rfl rfl rfl rfl rfl ?_ (.all (Src.sl (a_ (ty hP) (e:=143) rfl rfl) (es:=.lit [x.cs]) (sz:=.lit 2) rfl (by simp) (by simp)) ?_) ?_ (.lit 1) (.th λ_=>ay ah.ts (bt l I.toNat x)++(bk 2 (c -l.length)).drop 1) rfl ?_ ?_
  · intro r hr
    have hr':r∈(ay ah.ts l++bk 2 (c -l.length)).take (I.toNat+1)++(ay ah.ts l).drop I.toNat++(ay ah.ts l++bk 2 (c -l.length)).drop (I.toNat+1+(l.length -I.toNat)):=hr;rcases List.mem_append.1 hr' with hr|hr
    · rcases List.mem_append.1 hr with hr|hr
      · exact hwide r (List.mem_of_mem_take hr)
      · exact cr _ ah.wh _ r (List.mem_of_mem_drop hr)
    · exact hwide r (List.mem_of_mem_drop hr)
  · simp only[Th.aB,bK];simp;omega
  · simp only[Th.aB,mF,h10,fW];simp;omega
  · simp only[Th.aB,mF,h10,fW]
    have:=vT (ay ah.ts l) (bk 2 (c -l.length)) I.toNat (l.length -I.toNat) (by simp;omega) (by simp) x.cs;refine Eq.trans ?_ this.symm;show ay ah.ts (bt l I.toNat x)++_=_;rw[ej,show ay ah.ts (l.drop I.toNat)=(ay ah.ts l).drop I.toNat from List.map_drop ..,show ay ah.ts (l.take I.toNat)=(ay ah.ts l).take I.toNat from List.map_take ..]
    rfl
  · cbv
    exact⟨_,[.dead,.dead,aL ah.ts 2 (bt l I.toNat x) c],⟨[1000,1001,0],rfl,rfl,.sl (q:=2) rfl (by simp only[Th.aB,Th.bH,h10]) (by simp only[Th.aB,bK];simp;omega) (by simp),.kill rfl trivial (.kill rfl trivial (.cons rfl (.l9 (l.length+1) (by
      show ay ah.ts (bt l I.toNat x)=(ay ah.ts (bt l I.toNat x)++_).take (l.length+1);rw[List.take_left' (by rw[aae,bW])]) (an _ _) rfl) .nil))⟩,c,pP,rfl,rfl⟩
theorem uB (l:List aQ)(c:Nat)(I N:Int)(x:aQ)(hc:l.length<=c)(hN:N=(l.length:Int))(h0:0<=I)(hi:I<=N)(hb:l.length<=1000000)(Fw:c<=9223372036854775807):
    aV P 218 [.sl 0 4 (.lit 0) (.th λ_=>N.toNat) (.th λ_=>c),AI .i64 (.th λ_=>I),.sl 1 4 (.lit 0) (.lit 1) (.lit 1)] [aL aQ.ts 4 l c,.arr 4 (.lit [x.cs]) (.lit 4)] (qH aQ.ts 4 l I.toNat x):=by
  have OC:N.toNat=l.length:=by omega
  refine aV.can ?_;refine aV.obj (cc:=[.arr 4 (.th λ_=>ay aQ.ts l++bk 4 (c -l.length)) (.th λ_=>c*4),.arr 4 (.lit [x.cs]) (.lit 4)]) ?_ (λw F μ hs=>hs.bB (o:=0) (c:=c) rfl rfl (by decide) (by show(ay aQ.ts l).length<=c;simpa using hc) (by show _=ay aQ.ts l++bk 4 (c -(ay aQ.ts l).length);simp));have hwide:∀r∈ay aQ.ts l++bk 4 (c -l.length),r.length=4:=by
    intro r hr;rcases List.mem_append.1 hr with hr|hr
    · exact cr _ aQ.wh l r hr
    · rw[(List.mem_replicate.1 hr).2];rfl
  have dy:aH .add .i64 I (Int.ofNat 1)=I+1:=by simp[aH,wrap64];omega
  have hrows:((ay aQ.ts l++bk 4 (c -l.length)).drop I.toNat).take (l.length -I.toNat)=ay aQ.ts (l.drop I.toNat):=by
    rw[List.drop_append_of_le_length (by simp;omega),List.take_append_of_le_length (by simp),List.take_of_length_le (by simp)];exact(List.map_drop ..).symm
  have hT:(Int.ofNat N.toNat -I).toNat=l.length -I.toNat:=by simp;omega
  have DW:∀n,∀r∈List.replicate n (bG ((td 74).get rfl)),r.length=4:=λn r hr=>by rw[(List.mem_replicate.1 hr).2];rfl
  have v_:∀r∈ay aQ.ts (l.take I.toNat),r.length=4:=cr _ aQ.wh _;refine Wt hP ?_;cbv;refine bg.mk (by simp[okB];omega) ?_;cbv;refine aM.mk (λh=> ?_) (λh=> ?_)<;>cbv
  · have hI:I=N:=by simp[ai]at h;omega
    refine cU (ty hP) (e:=74) rfl rfl rfl (by simp) rfl rfl (by decide) rfl ?_ rfl ?_ (Src.sl (a_ (ty hP) (e:=74) rfl rfl) (es:=.lit [x.cs]) (sz:=.lit 4) rfl (by simp) (by simp)) ?_ ?_ (.th λ_=>l.length+1) (.th λ_=>ay aQ.ts (bt l I.toNat x)) ?_ ?_ (λc' tG=> ?_)
    · show N.toNat<=(ay aQ.ts l++bk 4 (c -l.length)).length
      simp;omega
    · exact hwide
    · show(N.toNat+1)*32<=_;omega
    · show N.toNat+1<=_;omega
    · show l.length+1=N.toNat+1;omega
    · show ay aQ.ts (bt l I.toNat x)=(ay aQ.ts l++bk 4 (c -l.length)).take N.toNat++[x.cs]
      rw[List.take_append_of_le_length (by simp;omega),List.take_of_length_le (by simp;omega),bt,List.take_of_length_le (by omega),List.drop_of_length_le (by omega)];simp
    · cbv
      exact⟨_,[.dead,.dead,aL aQ.ts 4 (bt l I.toNat x) c'],⟨[1000,1001,2],rfl,rfl,.sl (q:=2) rfl rfl rfl rfl,.kill rfl trivial (.kill rfl trivial (.cons rfl (.fY rfl (an _ _) rfl) .nil))⟩,c',tG,rfl,rfl⟩
  have hI:I<N:=by simp[ai]at h;omega
  refine aM.mk (λh2=> ?_) (λh2=> ?_)<;>cbv
  · have pP:c=l.length:=by simp[ai,aH,wrap64]at h2;omega
    refine bg.mk (by simp[okB];omega) ?_;cbv;refine gW (ty hP) (e:=74) rfl rfl rfl (by simp) (kn:=.i64) rfl rfl rfl rfl (by decide) (by show bP 0 0 _=0;unfold bP;split<;>rfl) ?_ ?_ ?_ ?_ ?_ ?_ ?_ (.th λ_=>l.length+1) (.th λ_=>ay aQ.ts (l.take I.toNat)++List.replicate (l.length+1 -I.toNat) (bG ((td 74).get rfl))) ?_ ?_ (λc' tG=> ?_)
    · simp only[Th.aB,Int.sub_zero];simp;omega
    · simp
    · exact hwide
    · simp[aH,wrap64];omega
    · simp[aH,wrap64];omega
    · show _*32<=_
      simp[aH,wrap64];omega
    · simp[aH,wrap64];omega
    · simp[aH,wrap64];omega
    · simp only[Th.aB,Int.sub_zero]
      have e1:(aH .sub .i64 (aH .add .i64 (Int.ofNat N.toNat) (Int.ofNat 1)) I).toNat=l.length+1 -I.toNat:=by simp[aH,wrap64];omega
      have e2:(ay aQ.ts l++bk 4 (c -l.length)).take I.toNat=ay aQ.ts (l.take I.toNat):=by
        rw[List.take_append_of_le_length (by simp;omega)];exact(List.map_take ..).symm
      exact(congr (congrArg HAppend.hAppend e2.symm) (by rw[e1];rfl))
    · have Kz:l.length+1<=c':=tG
      cbv;refine bg.mk (by simp[okB];omega) ?_;cbv;have ho:bP 0 I (Int.ofNat c')=I.toNat:=by
        unfold bP;rw[decide_eq_false (by simp;omega)];simp
      refine cY (ty hP) (e:=74) rfl rfl rfl rfl rfl ?_ (.all (Src.sl (a_ (ty hP) (e:=74) rfl rfl) (es:=.lit [x.cs]) (sz:=.lit 4) rfl (by simp) (by simp)) ?_) ?_ (.lit 1) (.th λ_=>ay aQ.ts (l.take I.toNat)++[x.cs]++List.replicate (l.length -I.toNat) (bG ((td 74).get rfl))) rfl ?_ ?_
      · intro r hr
        rcases List.mem_append.1 hr with hr|hr
        · exact v_ r hr
        · exact DW _ r hr
      · simp only[Th.aB];simp;omega
      · simp only[Th.aB,ho];simp;omega
      · simp only[Th.aB,ho]
        have:=Ii (ay aQ.ts (l.take I.toNat)) (l.length -I.toNat) (bG ((td 74).get rfl)) x.cs I.toNat (by simp;omega);rw[show l.length -I.toNat+1=l.length+1 -I.toNat by omega]at this;exact this.symm
      · cbv
        refine aR.cS (ty hP) (mo hP) rfl ?_;cbv
        iterate 4
          (apply aS.is
           · intro J hJ
             cbv;exact hJ
           cbv)
        apply aS.is
        · intro J hJ
          cbv;refine bg.mk (by simp[okB,aH,wrap64];omega) ?_;cbv;exact hJ
        cbv
        iterate 2
          (apply aS.is
           · intro J hJ
             cbv;exact hJ
           cbv)
        apply aS.is
        · intro J hJ
          cbv;refine bg.mk (by simp[okB];omega) ?_;cbv;exact hJ
        cbv;have BG:bP 0 (I+1) (Int.ofNat c')=(I+1).toNat:=by
          unfold bP;rw[decide_eq_false (by simp;omega)];simp
        have fW:(bP 0 I (Int.ofNat c)=I.toNat):=by
          unfold bP;rw[decide_eq_false (by simp;omega)];simp
        refine cY (ty hP) (e:=74) rfl rfl rfl rfl rfl ?_ (.all (Src.sl (a_ (ty hP) (e:=74) rfl rfl) (es:=.th λ_=>ay aQ.ts l++bk 4 (c -l.length)) (sz:=.th λ_=>c*4) rfl hwide ?_) ?_) ?_ (.th λ_=>((l.length -I.toNat:Nat):Int)) (.th λ_=>ay aQ.ts (bt l I.toNat x)) ?_ ?_ ?_
        · intro r hr
          rcases List.mem_append.1 hr with hr|hr
          · rcases List.mem_append.1 hr with hr|hr
            · exact v_ r hr
            · rw[List.mem_singleton.1 hr];rfl
          · exact DW _ r hr
        · simp only[Th.aB,fW,hT];simp;omega
        · simp only[Th.aB,fW,hT,hrows,dy];simp;omega
        · simp only[Th.aB,fW,hT,hrows,dy,BG];simp;omega
        · simp only[Th.aB,fW,hT,hrows];simp
        · simp only[Th.aB,fW,hT,hrows,dy,BG]
          have:=Ij (ay aQ.ts (l.take I.toNat)++[x.cs]) (ay aQ.ts (l.drop I.toNat)) (bG ((td 74).get rfl)) (I+1).toNat (l.length -I.toNat) (by simp;omega) (by simp);exact(ej aQ.ts l I.toNat x).trans this.symm
        · cbv
          exact⟨_,[.dead,.dead,aL aQ.ts 4 (bt l I.toNat x) c'],⟨[1000,1001,2],rfl,rfl,.sl (q:=2) rfl rfl rfl rfl,.kill rfl trivial (.kill rfl trivial (.cons rfl (.fY rfl (an _ _) rfl) .nil))⟩,c',tG,rfl,rfl⟩
  have pP:l.length+1<=c:=by simp[ai,aH,wrap64]at h2;omega
  have bK:aH .add .i64 (Int.ofNat N.toNat) (Int.ofNat 1)=N+1:=by simp[aH,wrap64];omega
  have fW:bP 0 I (Int.ofNat c)=I.toNat:=by
    unfold bP;rw[decide_eq_false (by simp;omega)];simp
  have h10:∀x:Int,bP 0 0 x=0:=λx=>by unfold bP;split<;>rfl
  refine bg.mk (by simp only[bK];simp[okB];omega) ?_;cbv;refine bg.mk (by simp only[bK,dy];simp[okB];omega) ?_;cbv;refine gX (ty hP) (tS:=23) (tR:=4) (e:=74) rfl rfl rfl (λargs w v h=>by subst hP;rw[run_callFunc_extern Tryz.func230 (by kernel_rfl) (by kernel_rfl) (by kernel_rfl) (e:=Extern.SlicesOverlaps.overlaps #[23,23] #[4]) (by kernel_rfl),h];rfl) rfl rfl (by decide) (by decide) (by simp;omega) ?_;cbv;refine aR.cS (ty hP) (mo hP) rfl ?_;cbv
  iterate 4
    (apply aS.is
     · intro J hJ
       cbv;exact hJ
     cbv)
  apply aS.is
  · intro J hJ
    cbv;refine bg.mk (by simp only[bK,dy];simp[okB];omega) ?_;cbv;exact hJ
  cbv
  iterate 2
    (apply aS.is
     · intro J hJ
       cbv;exact hJ
     cbv)
  apply aS.is
  · intro J hJ
    cbv;refine bg.mk (by simp only[bK];simp[okB];omega) ?_;cbv;exact hJ
  cbv;have mF:(Int.ofNat (Int.ofNat c -0).toNat)=Int.ofNat c:=by simp
  have Cm:bP 0 (I+1) (Int.ofNat c)=I.toNat+1:=by
    unfold bP;rw[decide_eq_false (by simp;omega)];simp;omega
  have oe:(Int.ofNat (N+1 -0).toNat -(I+1)).toNat=l.length -I.toNat:=by simp;omega
  have G_:(Int.ofNat (N+1 -0).toNat -I).toNat=l.length+1 -I.toNat:=by simp;omega
  have Sr:(bk 4 (c -l.length)).length=c -l.length:=by simp
  have hel:(ay aQ.ts l++bk 4 (c -l.length)).length=c:=by simp;omega
  refine cY (ty hP) (e:=74) rfl rfl rfl rfl rfl ?_ (.cut (Src.sl (a_ (ty hP) (e:=74) rfl rfl) (es:=.th λ_=>ay aQ.ts l++bk 4 (c -l.length)) (sz:=.th λ_=>c*4) rfl hwide ?_) ?_ ?_) ?_ (.th λ_=>((l.length -I.toNat:Nat):Int))
    (.th λ_=>(ay aQ.ts l++bk 4 (c -l.length)).take (I.toNat+1)++(ay aQ.ts l).drop I.toNat++(ay aQ.ts l++bk 4 (c -l.length)).drop (I.toNat+1+(l.length -I.toNat))) ?_ ?_ ?_
  · exact hwide
  · simp only[Th.aB,mF,h10,fW,bK,dy,oe,hel];omega
  · simp only[Th.aB,mF,h10,fW,bK,dy,oe,hrows];simp
  · simp only[Th.aB,bK,dy,oe,G_];omega
  · simp only[Th.aB,mF,h10,fW,bK,dy,oe,hrows,Cm,hel];simp;omega
  · simp only[Th.aB,mF,h10,fW,bK,dy,oe,hrows];simp
  · simp only[Th.aB,mF,h10,fW,bK,dy,oe,hrows,Cm]
    show(ay aQ.ts l++bk 4 (c -l.length)).take (I.toNat+1)++(ay aQ.ts l).drop I.toNat++(ay aQ.ts l++bk 4 (c -l.length)).drop (I.toNat+1+(l.length -I.toNat))=
      (ay aQ.ts l++bk 4 (c -l.length)).take (I.toNat+1)++ay aQ.ts (l.drop I.toNat)++(ay aQ.ts l++bk 4 (c -l.length)).drop (I.toNat+1+(ay aQ.ts (l.drop I.toNat)).length)
    rw[show(ay aQ.ts (l.drop I.toNat)).length=l.length -I.toNat by simp];rw[show ay aQ.ts (l.drop I.toNat)=(ay aQ.ts l).drop I.toNat from List.map_drop ..]
  cbv;refine bg.mk (by simp only[bK];simp[okB];omega) ?_;cbv;refine cY (ty hP) (e:=74) rfl rfl rfl rfl rfl ?_ (.all (Src.sl (a_ (ty hP) (e:=74) rfl rfl) (es:=.lit [x.cs]) (sz:=.lit 4) rfl (by simp) (by simp)) ?_) ?_ (.lit 1) (.th λ_=>ay aQ.ts (bt l I.toNat x)++(bk 4 (c -l.length)).drop 1) rfl ?_ ?_
  · intro r hr
    have hr':r∈(ay aQ.ts l++bk 4 (c -l.length)).take (I.toNat+1)++(ay aQ.ts l).drop I.toNat++(ay aQ.ts l++bk 4 (c -l.length)).drop (I.toNat+1+(l.length -I.toNat)):=hr;rcases List.mem_append.1 hr' with hr|hr
    · rcases List.mem_append.1 hr with hr|hr
      · exact hwide r (List.mem_of_mem_take hr)
      · exact cr _ aQ.wh _ r (List.mem_of_mem_drop hr)
    · exact hwide r (List.mem_of_mem_drop hr)
  · simp only[Th.aB,bK];simp;omega
  · simp only[Th.aB,mF,h10,fW];simp;omega
  · simp only[Th.aB,mF,h10,fW]
    have:=vT (ay aQ.ts l) (bk 4 (c -l.length)) I.toNat (l.length -I.toNat) (by simp;omega) (by simp) x.cs;refine Eq.trans ?_ this.symm;show ay aQ.ts (bt l I.toNat x)++_=_;rw[ej,show ay aQ.ts (l.drop I.toNat)=(ay aQ.ts l).drop I.toNat from List.map_drop ..,show ay aQ.ts (l.take I.toNat)=(ay aQ.ts l).take I.toNat from List.map_take ..]
    rfl
  · cbv
    exact⟨_,[.dead,.dead,aL aQ.ts 4 (bt l I.toNat x) c],⟨[1000,1001,0],rfl,rfl,.sl (q:=2) rfl (by simp only[Th.aB,Th.bH,h10]) (by simp only[Th.aB,bK];simp;omega) (by simp),.kill rfl trivial (.kill rfl trivial (.cons rfl (.l9 (l.length+1) (by
      show ay aQ.ts (bt l I.toNat x)=(ay aQ.ts (bt l I.toNat x)++_).take (l.length+1);rw[List.take_left' (by rw[aae,bW])]) (an _ _) rfl) .nil))⟩,c,pP,rfl,rfl⟩
end Go.Proofs.aaa
end
section
namespace Go.Proofs.aaa
open Go.bA Go.IntWalk
variable{P:Program}(hP:P=Tryz.prog)
def lE (a b:Int):Int:=if a<b then-1 else if a>b then 1 else 0
theorem og {a b:Int}:lE a b<0↔a<b:=by unfold lE;repeat' split<;>omega
theorem oh {a b:Int}:lE a b=0↔a=b:=by unfold lE;repeat' split<;>omega
include hP
theorem zB (a b:Int):gk P 149 [AI .i64 (.th λ_=>a),AI .i64 (.th λ_=>b)] (AI .i64 (.th λ_=>lE a b)):=by
 refine OT hP ?_;cbv;refine L0 hP ?_;cbv;refine L0 hP ?_;cbv;refine aM.f (by simp[ai]) ?_;cbv;refine aM.f (by simp[ai]) ?_;cbv;refine aM.mk (λh=> ?_) (λh=> ?_)<;>cbv
 ·have h:a<b:=by simpa[ai]using h
  exact .int (by simp[lE,h])
 refine aM.mk (λh2=> ?_) (λh2=> ?_)<;>cbv
 ·have h:¬a<b:=by simpa[ai]using h
  have h2:a>b:=by simpa[ai]using h2
  exact .int (by simp[lE,h,h2])
 ·have h:¬a<b:=by simpa[ai]using h
  have h2:¬a>b:=by simpa[ai]using h2
  exact .int (by simp[lE,h,h2])
theorem qI (x:Order)(n:Int):gk P 148 [x.av,AI .i64 (.th λ_=>n)] (AI .i64 (.th λ_=>lE x.id n)):=by
 refine Wi hP ?_;cbv;refine(zB hP _ _).call (.cons (.pure rfl) (.cons (.pure rfl) .nil)) rfl ?_;cbv;exact .int rfl
theorem ta (x:ah)(n:Int):gk P 223 [x.av,AI .i64 (.th λ_=>n)] (AI .i64 (.th λ_=>lE x.order n)):=by
 refine Wy hP ?_;cbv;refine(zB hP _ _).call (.cons (.pure rfl) (.cons (.pure rfl) .nil)) rfl ?_;cbv;exact .int rfl
theorem vU (x:aQ)(n:Int):gk P 229 [x.av,AI .i64 (.th λ_=>n)] (AI .i64 (.th λ_=>lE x.order n)):=by
 refine WB hP ?_;cbv;refine(zB hP _ _).call (.cons (.pure rfl) (.cons (.pure rfl) .nil)) rfl ?_;cbv;exact .int rfl
end Go.Proofs.aaa
end
