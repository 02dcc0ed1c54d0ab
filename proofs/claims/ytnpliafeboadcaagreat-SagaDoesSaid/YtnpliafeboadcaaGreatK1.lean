/- Texts that the law leans on, part 1. No conditions. -/
import Derived.WalkKit
import Derived.Laws.CopyRow
import Derived.Deep.Draws
import Derived.Laws.Rows
import Derived.Laws.StructEq
import Derived.Maps.RangeRun
section
namespace Go.bA
open Go.RowKit
inductive Th (α:Type)where
 |lit (a:α)
 |th (f:Unit->α)
def Th.den {α:Type}:Th α->α
 | .lit a=>a
 | .th f=>f ()
@[simp]theorem Th.bH {α:Type}(a:α):(Th.lit a).den=a:=rfl
@[simp]theorem Th.aB {α:Type}(f:Unit->α):(Th.th f).den=f ():=rfl
def plain:Value->Bool
 | .float _ _| .complex _ _ _| .pointer none| .slice none 0 0| .map none| .nilFunc| .nilIface=>true
 |_=>false
inductive T where
 |int (k:IntKind) (n:Th Int)
 |bool (b:Th Bool)
 |str (s:Th ByteArray)
 |lit (v:Value)
 |dO (k:Nat) (es:List (List T))
 |bJ (k:Nat) (f:Unit->T)
 |gx (cs:List T)
 |emp (k:Nat)
def T.rows:T->List (List T)
 | .dO _ es=>es
 | .bJ _ f=>match f ()with| .dO _ es=>es|_=>[]
 |_=>[]
instance:Inhabited T:=⟨.lit .nilFunc⟩
inductive AV where
 |c (t:T)
 |ref (o off:Nat)
 |eZ (o k:Nat) (i:Th Nat) (off:Nat)
 |sl (o k:Nat) (i len cap:Th Nat)
 |mp (o:Nat)
 |fn (f:Fn) (first captured:List AV)
 |oN (t:TypeId) (x:AV)
 |agg (cs:List AV)
 |cI (vs:List AV)
 |bB
instance:Inhabited AV:=⟨.bB⟩
inductive AO where
 |box (cs:List AV)
 |arr (k:Nat) (es:Th (List (List AV))) (sz:Th Nat)
 |map (es:List (AV×AV))
 |tJ (s:Th ByteArray) (pos:Th Nat)
 |jq (kk:IntKind) (ag:Bool) (es:Th (List (Int×List T)))
 |mV (kk:IntKind) (ag:Bool) (left:Th (List (Int×List T))) (cur:Th (Option (Int×List T)))
 |dead
abbrev Mu:=List (Option Nat)
inductive VT (w:World)(O:Nat->Prop):T->Value->Prop where
 |lit {v:Value}:plain v=true->VT w O (.lit v) v
 |int {k:IntKind} {n:Th Int}:VT w O (.int k n) (.int k n.den)
 |bool {b:Th Bool}:VT w O (.bool b) (.bool b.den)
 |str {s:Th ByteArray}:VT w O (.str s) (.string s.den)
 |dO {k:Nat} {es:List (List T)} {b off cap:Nat} (c:Nat->Nat->Value):b<w.heap.size->¬O b->es.length<=cap->(∀e∈es,e.length=k)->
  (∀(i j:Nat) e x,es[i]?=some e->e[j]?=some x->w.cell? ⟨b,off+(i*k+j),none⟩=some (c i j))->
  (∀(i j:Nat) e x,es[i]?=some e->e[j]?=some x->VT w O x (c i j))->VT w O (.dO k es) (.slice (some ⟨b,off,none⟩) es.length cap)
 |oO {k:Nat} {a:Option Addr} {cap:Nat}:(a=none->cap=0)->VT w O (.dO k []) (.slice a 0 cap)
 |bJ {k:Nat} {f:Unit->T} {es:List (List T)} {v:Value}:f ()=.dO k es->VT w O (.dO k es) v->VT w O (.bJ k f) v
 |emp {k:Nat} {a:Option Addr}:VT w O (.emp k) (.slice a 0 0)
 |zM {k:Nat} {f:Unit->T}:f ()=.lit (.slice none 0 0)->VT w O (.bJ k f) (.slice none 0 0)
 |gx {cs:List T} {b off:Nat} (c:Nat->Value):b<w.heap.size->¬O b->
  (∀(j:Nat) x,cs[j]?=some x->w.cell? ⟨b,off+j,none⟩=some (c j))->
  (∀(j:Nat) x,cs[j]?=some x->VT w O x (c j))->VT w O (.gx cs) (.pointer (some ⟨b,off,none⟩))
def own (F:Nat->Prop)(μ:Mu)(b:Nat):Prop:=some b∈μ\/F b
inductive VR (w:World)(F:Nat->Prop)(μ:Mu):AV->Value->Prop where
 |c {t v}:VT w (own F μ) t v->VR w F μ (.c t) v
 |ref {o off b}:μ[o]?=some (some b)->VR w F μ (.ref o off) (.pointer (some ⟨b,off,none⟩))
 |oo {o off} {a:Addr}:μ[o]?=some none->VR w F μ (.ref o off) (.pointer (some a))
 |eZ {o k i off b}:μ[o]?=some (some b)->VR w F μ (.eZ o k i off) (.pointer (some ⟨b,i.den*k+off,none⟩))
 |iY {o k i off} {a:Addr}:μ[o]?=some none->VR w F μ (.eZ o k i off) (.pointer (some a))
 |sl {o k i len cap b}:μ[o]?=some (some b)->len.den<=cap.den->cap.den<=9223372036854775807->VR w F μ (.sl o k i len cap) (.slice (some ⟨b,i.den*k,none⟩) len.den cap.den)
 |wj {o k i len cap} {a:Option Addr}:μ[o]?=some none->len.den<=cap.den->cap.den<=9223372036854775807->(a=none->cap.den=0)->VR w F μ (.sl o k i len cap) (.slice a len.den cap.den)
 |mp {o b}:μ[o]?=some (some b)->VR w F μ (.mp o) (.map (some b))
 |D3 {o v}:μ[o]?=some none->v.oneCell'=true->VR w F μ (.mp o) v
 |fn {f:Fn} {first captured:List AV} {vf vc:Array Value}:vf.size=first.length->vc.size=captured.length->
  (∀(i:Nat) x v,first[i]?=some x->vf[i]?=some v->VR w F μ x v)->(∀(i:Nat) x v,captured[i]?=some x->vc[i]?=some v->VR w F μ x v)->
  VR w F μ (.fn f first captured) (.func f vf vc)
 |oN {t x v}:VR w F μ x v->VR w F μ (.oN t x) (.iface t v)
 |agg {cs:List AV} {vs:Array Value}:vs.size=cs.length->(∀(i:Nat) x v,cs[i]?=some x->vs[i]?=some v->VR w F μ x v)->(∀(i:Nat) v,vs[i]?=some v->v.oneCell'=true)->VR w F μ (.agg cs) (.agg vs)
 |cI {cs:List AV} {vs:Array Value}:vs.size=cs.length->(∀(i:Nat) x v,cs[i]?=some x->vs[i]?=some v->VR w F μ x v)->VR w F μ (.cI cs) (.tuple vs)
 |bB {v}:VR w F μ .bB v
def wm (w:World)(O:Nat->Prop)(ag:Bool)(ts:List T)(v:Value):Prop:=
 match ag with
 |true=>∃cs:Array Value,v=.agg cs/\cs.size=ts.length/\∀(i:Nat) x u,ts[i]?=some x->cs[i]?=some u->VT w O x u
 |false=>∃t,ts=[t]/\VT w O t v
theorem wm.imp {w w':World}{O O':Nat->Prop}{ag:Bool}{ts:List T}{v:Value}(hv:∀t v,VT w O t v->VT w' O' t v)(h:wm w O ag ts v):wm w' O' ag ts v:=by
 cases ag with
 |true=>obtain⟨cs,h1,h2,h3⟩:=h;exact⟨cs,h1,h2,λi x u a b=>hv _ _ (h3 i x u a b)⟩
 |false=>obtain⟨t,h1,h2⟩:=h;exact⟨t,h1,hv _ _ h2⟩
def jJ (es:Array MapEntry)(seen:Array Nat):List MapEntry:=es.toList.filter λe=> !seen.contains e.born
def iy (w:World)(O:Nat->Prop)(kk:IntKind)(ag:Bool)(L:List (Int×List T))(es:List MapEntry):Prop:=
 es.length=L.length/\∀(i:Nat) p v,L[i]?=some p->es[i]?=some v->v.key=.int kk p.1/\wm w O ag p.2 v.val
theorem iy.imp {w w':World}{O O':Nat->Prop}{kk:IntKind}{ag:Bool}{L:List (Int×List T)}{es:List MapEntry}(hv:∀t v,VT w O t v->VT w' O' t v)(h:iy w O kk ag L es):iy w' O' kk ag L es:=
 ⟨h.1,λi p v a b=>⟨(h.2 i p v a b).1,(h.2 i p v a b).2.imp hv⟩⟩
inductive OB (w:World)(F:Nat->Prop)(μ:Mu)(b:Nat):AO->Prop where
 |box {cs:List AV} (ct:Array Value) (e:TypeId):w.heap[b]?=some (.cells ct e (0,0))->ct.size=cs.length->
  (∀(i:Nat) x v,cs[i]?=some x->ct[i]?=some v->VR w F μ x v/\v.oneCell'=true)->OB w F μ b (.box cs)
 |arr {k:Nat} {es:Th (List (List AV))} {sz:Th Nat} (ct:Array Value) (e:TypeId):w.heap[b]?=some (.cells ct e (0,0))->ct.size=sz.den->es.den.length*k<=sz.den->(∀e∈es.den,e.length=k)->(∀(i:Nat) v,ct[i]?=some v->v.oneCell'=true)->
  (∀(i j:Nat) e x v,es.den[i]?=some e->e[j]?=some x->ct[i*k+j]?=some v->VR w F μ x v/\v.oneCell'=true)->OB w F μ b (.arr k es sz)
 |map {es:List (AV×AV)} (bM:Array MapEntry) (clock:Nat):w.heap[b]?=some (.map bM clock)->bM.size=es.length->
  (∀(i:Nat) x v,es[i]?=some x->bM[i]?=some v->VR w F μ x.1 v.key/\VR w F μ x.2 v.val)->OB w F μ b (.map es)
 |tJ {s:Th ByteArray} {pos:Th Nat}:w.heap[b]?=some (.stringIter s.den pos.den)->OB w F μ b (.tJ s pos)
 |jq {kk:IntKind} {ag:Bool} {es:Th (List (Int×List T))} (bM:Array MapEntry) (clock:Nat):w.heap[b]?=some (.map bM clock)->iy w (own F μ) kk ag es.den bM.toList->
  (∀e∈bM.toList,e.born<clock)->(bM.toList.map (·.born)).Nodup->OB w F μ b (.jq kk ag es)
 |mV {kk:IntKind} {ag:Bool} {left:Th (List (Int×List T))} {cur:Th (Option (Int×List T))} (bm since last:Nat) (seen:Array Nat) (bM:Array MapEntry) (clock:Nat):w.heap[b]?=some (.mapIter (some bm) since seen last)->bm<w.heap.size->¬own F μ bm->w.heap[bm]?=some (.map bM clock)->
  (∀e∈bM.toList,e.born<since)->since<=last->since<=clock->(bM.toList.map (·.born)).Nodup->iy w (own F μ) kk ag left.den (jJ bM seen)->
  (∀p,cur.den=some p->∃e∈bM.toList,seen.back?=some e.born/\last=clock/\e.key=.int kk p.1/\wm w (own F μ) ag p.2 e.val)->OB w F μ b (.mV kk ag left cur)
@[simp]def gone:AO->Prop
 | .dead=>True
 | .arr _ es sz=>es.den=[]/\sz.den=0
 |_=>False
class Gl where
 n:Nat
 ok:World->Prop
 LM:∀{w w':World},ok w->(∀b,b<n->w'.heap[b]?=w.heap[b]?)->ok w'
variable [Gl]
structure LN (w:World)(O:Nat->Prop):Prop where
 lt:∀b,b<Gl.n->b<w.heap.size/\¬O b
 ok:Gl.ok w
structure St (w:World)(F:Nat->Prop)(μ:Mu)(tg:List AO):Prop where
 len:μ.length=tg.length
 inj:∀o o' b:Nat,μ[o]?=some (some b)->μ[o']?=some (some b)->o=o'
 lt:∀o b:Nat,μ[o]?=some (some b)->b<w.heap.size
 dead:∀o:Nat,μ[o]?=some none->∃x,tg[o]?=some x/\gone x
 frame:∀b,F b->b<w.heap.size/\some b∉μ
 live:∀o b:Nat,μ[o]?=some (some b)->∃x,tg[o]?=some x/\OB w F μ b x
 gl:LN w (own F μ)
structure Ext (w:World)(μ:Mu)(w':World)(bu:Mu):Prop where
 os:w'.os=w.os
 tape:w'.tape=w.tape
 output:w'.output=w.output
 size:w.heap.size<=w'.heap.size
 ct:∀b,b<w.heap.size->some b∉μ->w'.heap[b]?=w.heap[b]?
 len:μ.length<=bu.length
 keep:∀o b:Nat,μ[o]?=some (some b)->bu[o]?=some (some b)\/bu[o]?=some none
 dead:∀o:Nat,μ[o]?=some none->bu[o]?=some none
 own:∀b,some b∈bu->some b∈μ\/w.heap.size<=b
omit [Gl]in
theorem Ext.refl (w:World)(μ:Mu):Ext w μ w μ:=
 ⟨rfl,rfl,rfl,Nat.le_refl _,λ_ _ _=>rfl,Nat.le_refl _,λ_ _ h=>.inl h,λ_ h=>h,λ_ h=>.inl h⟩
omit [Gl]in
theorem Ext.trans {w μ w1 jw w2 D4}(h:Ext w μ w1 jw)(k:Ext w1 jw w2 D4):Ext w μ w2 D4 where
 os:=k.os.trans h.os
 tape:=k.tape.trans h.tape
 output:=k.output.trans h.output
 size:=Nat.le_trans h.size k.size
 ct b hb hn:=(k.ct b (Nat.lt_of_lt_of_le hb h.size) (λhm=>by
  rcases h.own b hm with h1|h1
  ·exact hn h1
  ·omega)).trans (h.ct b hb hn)
 len:=Nat.le_trans h.len k.len
 keep o b ho:=by
  rcases h.keep o b ho with h1|h1
  ·exact k.keep o b h1
  ·exact .inr (k.dead o h1)
 dead o ho:=k.dead o (h.dead o ho)
 own b hb:=by
  rcases k.own b hb with h1|h1
  ·exact h.own b h1
  ·have:=h.size;exact .inr (by omega)
omit [Gl]in
theorem D5 {v:Value}(h:plain v=true):v.oneCell'=true:=by
 cases v<;>simp_all [plain,Value.oneCell']
omit [Gl]in
theorem VT.one {w O t v}(h:VT w O t v):v.oneCell'=true:=by
 induction h with
 |lit h=>exact D5 h
 |bJ _ _ ih=>exact ih
 |_=>rfl
omit [Gl]in
theorem VT.mono {w w':World}{O O':Nat->Prop}(hs:w.heap.size<=w'.heap.size)(hb:∀b,b<w.heap.size->¬O b->w'.heap[b]?=w.heap[b]?)
  (ho:∀b,b<w.heap.size->¬O b->¬O' b) {t v} (h:VT w O t v):VT w' O' t v:=by
 induction h with
 |lit h=>exact .lit h
 |int=>exact .int
 |bool=>exact .bool
 |str=>exact .str
 |bJ h1 _ ih=>exact .bJ h1 ih
 |oO h=>exact .oO h
 |zM h=>exact .zM h
 |emp=>exact .emp
 |dO c h1 h2 h3 h4 h5 _ ih=>
  refine .dO c (Nat.lt_of_lt_of_le h1 hs) (ho _ h1 h2) h3 h4 (λi j e x he hx=> ?_) ih;rw[<-h5 i j e x he hx];exact World.cell?_of_block (hb _ h1 h2)
 |gx c h1 h2 h3 _ ih=>
  refine .gx c (Nat.lt_of_lt_of_le h1 hs) (ho _ h1 h2) (λj x hx=> ?_) ih;rw[<-h3 j x hx];exact World.cell?_of_block (hb _ h1 h2)
omit [Gl]in
theorem VT.ext {w F μ w' bu}(hx:Ext w μ w' bu){t v}(h:VT w (own F μ) t v):VT w' (own F bu) t v:=
 h.mono hx.size (λb h1 h2=>hx.ct b h1 (λh=>h2 (.inl h))) (λb h1 h2 h3=>by
  rcases h3 with h3|h3
  ·rcases hx.own b h3 with h|h
   ·exact h2 (.inl h)
   ·omega
  ·exact h2 (.inr h3))
omit [Gl]in
theorem VR.ext {w F μ w' bu}(hx:Ext w μ w' bu){t v}(h:VR w F μ t v):VR w' F bu t v:=by
 induction h with
 |c h=>exact .c (h.ext hx)
 |ref h=>rcases hx.keep _ _ h with h|h;exact .ref h;exact .oo h
 |oo h=>exact .oo (hx.dead _ h)
 |eZ h=>rcases hx.keep _ _ h with h|h;exact .eZ h;exact .iY h
 |iY h=>exact .iY (hx.dead _ h)
 |sl h h1 h2=>rcases hx.keep _ _ h with h|h;exact .sl h h1 h2;exact .wj h h1 h2 (λh=>by cases h)
 |wj h h1 h2 h3=>exact .wj (hx.dead _ h) h1 h2 h3
 |mp h=>rcases hx.keep _ _ h with h|h;exact .mp h;exact .D3 h rfl
 |D3 h h1=>exact .D3 (hx.dead _ h) h1
 |fn h1 h2 _ _ i1 i2=>exact .fn h1 h2 i1 i2
 |oN _ ih=>exact .oN ih
 |agg h1 _ h3 ih=>exact .agg h1 ih h3
 |cI h1 _ ih=>exact .cI h1 ih
 |bB=>exact .bB
def FR (w:World)(F:Nat->Prop)(μ:Mu)(env:List AV)(tmps:Array Value):Prop:=
 tmps.size=env.length/\∀(i:Nat) x v,env[i]?=some x->tmps[i]?=some v->VR w F μ x v
omit [Gl]in
theorem FR.ext {w:World}{F:Nat->Prop}{μ:Mu}{w':World}{bu:Mu}(hx:Ext w μ w' bu){env:List AV}{tmps:Array Value}(h:FR w F μ env tmps):FR w' F bu env tmps:=
 ⟨h.1,λi x v h1 h2=>(h.2 i x v h1 h2).ext hx⟩
def ua (w:World)(F:Nat->Prop)(μ:Mu)(xs:List AV)(vs:List Value):Prop:=
 vs.length=xs.length/\∀(i:Nat) x v,xs[i]?=some x->vs[i]?=some v->VR w F μ x v
omit [Gl]in
theorem OB.ext {w F μ w' bu b}(hx:Ext w μ w' bu)(hb:w'.heap[b]?=w.heap[b]?){x}(h:OB w F μ b x):OB w' F bu b x:=by
 cases h with
 |box ct e h1 h2 h3=>exact .box ct e (hb.trans h1) h2 λi x v a b=>⟨(h3 i x v a b).1.ext hx,(h3 i x v a b).2⟩
 |arr ct e h1 h2 h3 h4 h6 h5=>exact .arr ct e (hb.trans h1) h2 h3 h4 h6 λi j e x v a b c=>⟨(h5 i j e x v a b c).1.ext hx,(h5 i j e x v a b c).2⟩
 |map es cl h1 h2 h3=>exact .map es cl (hb.trans h1) h2 λi x v a b=>⟨(h3 i x v a b).1.ext hx,(h3 i x v a b).2.ext hx⟩
 |tJ h1=>exact .tJ (hb.trans h1)
 |jq bM clock h1 h2 h3 h4=>exact .jq bM clock (hb.trans h1) (h2.imp λt v h=>h.ext hx) h3 h4
 |mV bm since last seen bM clock h1 h2 h3 h4 h5 h6 h7 h8 h9 h10=>
  refine .mV bm since last seen bM clock (hb.trans h1) (Nat.lt_of_lt_of_le h2 hx.size) (λho=> ?_) ((hx.ct bm h2 (λhm=>h3 (.inl hm))).trans h4) h5 h6 h7 h8 (h9.imp λt v h=>h.ext hx)
   (λp hp=>by
    obtain⟨e,a1,a2,a3,a4,a5⟩:=h10 p hp;exact⟨e,a1,a2,a3,a4,a5.imp λt v h=>h.ext hx⟩)
  rcases ho with ho|ho
  ·rcases hx.own bm ho with h|h
   ·exact h3 (.inl h)
   ·omega
  ·exact h3 (.inr ho)
omit [Gl]in
theorem Ext.drewN (w:World)(μ:Mu)(n:Nat):Ext w μ {w with drawn:=n} μ:=
 ⟨rfl,rfl,rfl,Nat.le_refl _,λ_ _ _=>rfl,Nat.le_refl _,λ_ _ h=>.inl h,λ_ h=>h,λ_ h=>.inl h⟩
theorem LN.ext {w F μ w' bu}(hx:Ext w μ w' bu)(h:LN w (own F μ)):LN w' (own F bu)where
 lt b hb:=by
  refine⟨Nat.lt_of_lt_of_le (h.lt b hb).1 hx.size,λho=>(h.lt b hb).2 ?_⟩;rcases ho with ho|ho
  ·rcases hx.own b ho with h1|h1
   ·exact .inl h1
   ·have:=(h.lt b hb).1;omega
  ·exact .inr ho
 ok:=Gl.LM h.ok λb hb=>hx.ct b (h.lt b hb).1 (λhm=>(h.lt b hb).2 (.inl hm))
theorem LN.sub {w}{O O':Nat->Prop}(h:LN w O)(hs:∀b,b<w.heap.size->O' b->O b):LN w O':=
 ⟨λb hb=>⟨(h.lt b hb).1,λho=>(h.lt b hb).2 (hs b (h.lt b hb).1 ho)⟩,h.ok⟩
theorem St.same {w F μ tg w'}(h:St w F μ tg)(hx:Ext w μ w' μ)(hb:∀b,some b∈μ->w'.heap[b]?=w.heap[b]?):St w' F μ tg where
 len:=h.len
 inj:=h.inj
 lt o b ho:=Nat.lt_of_lt_of_le (h.lt o b ho) hx.size
 dead:=h.dead
 frame b hb:=⟨Nat.lt_of_lt_of_le (h.frame b hb).1 hx.size,(h.frame b hb).2⟩
 live o b ho:=by
  obtain⟨x,h1,h2⟩:=h.live o b ho;exact⟨x,h1,h2.ext hx (hb b (List.mem_of_getElem? ho))⟩
 gl:=h.gl.ext hx
def F4 (w w':World):Prop:=w.heap.size<=w'.heap.size/\∀b,b<w.heap.size->w'.heap[b]?=w.heap[b]?
omit [Gl]in
theorem F4.refl (w:World):F4 w w:=⟨Nat.le_refl _,λ_ _=>rfl⟩
omit [Gl]in
theorem F4.cell {w w':World}(h:F4 w w'){a:Addr}{v:Value}(hc:w.cell? a=some v):w'.cell? a=some v:=
 (World.cell?_of_block (h.2 _ (World.block_lt_of_cell? w a hc))).trans hc
omit [Gl]in
theorem mem_of {μ:Mu}{b:Nat}(h:some b∈μ):∃o:Nat,μ[o]?=some (some b):=by
 obtain⟨i,hi,h⟩:=List.getElem_of_mem h;exact⟨i,by rw[List.getElem?_eq_getElem hi,h]⟩
theorem St.alloc {w F μ tg}(h:St w F μ tg)(ob:Obj)(x:AO)(hx:∀w' bu,Ext w μ w' bu->w'.heap[w.heap.size]?=some ob->OB w' F bu w.heap.size x):
  St (w.alloc ob) F (μ++[some w.heap.size]) (tg++[x])/\Ext w μ (w.alloc ob) (μ++[some w.heap.size]):=by
 have hnot:some w.heap.size∉μ:=λhm=>by
  obtain⟨o,ho⟩:=mem_of hm;have:=h.lt o _ ho;omega
 have he:Ext w μ (w.alloc ob) (μ++[some w.heap.size]):=
  {os:=rfl,tape:=rfl,output:=rfl,size:=by simp,ct:=λb hb _=>Below.heap_alloc w ob b hb,len:=by simp
   keep:=λo b ho=>.inl (by rw[List.getElem?_append_left (List.getElem?_eq_some_iff.1 ho).1];exact ho)
   dead:=λo ho=>by rw[List.getElem?_append_left (List.getElem?_eq_some_iff.1 ho).1];exact ho
   own:=λb hb=>by
    rcases List.mem_append.1 hb with h1|h1
    ·exact .inl h1
    ·simp at h1;subst h1;exact .inr (Nat.le_refl _)}
 have case:∀o b:Nat,(μ++[some w.heap.size])[o]?=some (some b)->(μ[o]?=some (some b)/\o<μ.length)\/(o=μ.length/\b=w.heap.size):=by
  intro o b ho;rcases Nat.lt_or_ge o μ.length with hlt|hge
  ·rw[List.getElem?_append_left hlt]at ho;exact .inl ⟨ho,hlt⟩
  ·rw[List.getElem?_append_right hge]at ho;rcases Nat.eq_zero_or_pos (o -μ.length)with h0|h0
   ·rw[h0]at ho;simp at ho;exact .inr ⟨by omega,ho.symm⟩
   ·rw[List.getElem?_eq_none (by simp;omega)]at ho;cases ho
 refine⟨⟨by simp[h.len], ?_, ?_, ?_, ?_, ?_,h.gl.ext he⟩,he⟩
 ·intro o o' b h1 h2;rcases case o b h1 with⟨a1,_⟩|⟨a1,a2⟩<;>rcases case o' b h2 with⟨b1,_⟩|⟨b1,b2⟩
  ·exact h.inj o o' b a1 b1
  ·have:=h.lt o b a1;omega
  ·have:=h.lt o' b b1;omega
  ·omega
 ·intro o b ho;rcases case o b ho with⟨a1,_⟩|⟨_,a2⟩
  ·have:=h.lt o b a1;simp;omega
  ·simp[a2]
 ·intro o ho;have hlt:o<μ.length:=by
   rcases Nat.lt_or_ge o μ.length with hlt|hge
   ·exact hlt
   ·rw[List.getElem?_append_right hge]at ho;rcases Nat.eq_zero_or_pos (o -μ.length)with h0|h0
    ·rw[h0]at ho;simp at ho
    ·rw[List.getElem?_eq_none (by simp;omega)]at ho;cases ho
  rw[List.getElem?_append_left hlt]at ho;rw[List.getElem?_append_left (by rw[<-h.len];exact hlt)];exact h.dead o ho
 ·intro b hb;refine⟨by have:=(h.frame b hb).1;simp;omega,λhm=> ?_⟩;rcases List.mem_append.1 hm with h1|h1
  ·exact(h.frame b hb).2 h1
  ·simp at h1;have:=(h.frame b hb).1;omega
 ·intro o b ho;rcases case o b ho with⟨a1,a2⟩|⟨a1,a2⟩
  ·obtain⟨y,h1,h2⟩:=h.live o b a1;exact⟨y,by rw[List.getElem?_append_left (by rw[<-h.len];exact a2)];exact h1,h2.ext he (Below.heap_alloc w ob b (h.lt o b a1))⟩
  ·subst a1;subst a2;refine⟨x,by rw[h.len,List.getElem?_append_right (Nat.le_refl _)];simp,hx _ _ he ?_⟩;show(w.heap.push ob)[w.heap.size]?=_;simp
theorem St.set {w F μ tg}(h:St w F μ tg){o b:Nat}(ho:μ[o]?=some (some b))(w':World)(x:AO)(hs:w'.heap.size=w.heap.size)
  (uc:∀b',b'≠b->w'.heap[b']?=w.heap[b']?) (hos:w'.os=w.os) (ht:w'.tape=w.tape) (hout:w'.output=w.output)
  (hx:Ext w μ w' μ->OB w' F μ b x):St w' F μ (tg.set o x)/\Ext w μ w' μ:=by
 have he:Ext w μ w' μ:=
  {os:=hos,tape:=ht,output:=hout,size:=by omega,ct:=λb' hb hn=>uc b' (λe=>hn (e▸List.mem_of_getElem? ho)),len:=Nat.le_refl _
   keep:=λ_ _ h=>.inl h,dead:=λ_ h=>h,own:=λ_ h=>.inl h}
 refine⟨⟨by simp[h.len],h.inj,λo b ho=>by rw[hs];exact h.lt o b ho, ?_,λb hb=>by rw[hs];exact h.frame b hb, ?_,h.gl.ext he⟩,he⟩
 ·intro o' ho';have hne:o≠o':=λe=>by rw[e,ho']at ho;cases ho
  rw[List.getElem?_set_ne hne];exact h.dead o' ho'
 ·intro o' b' ho';by_cases e:o=o'
  ·subst e;rw[ho]at ho';cases ho';refine⟨x, ?_,hx he⟩;rw[List.getElem?_set_self];rw[<-h.len];exact(List.getElem?_eq_some_iff.1 ho).1
  ·obtain⟨y,h1,h2⟩:=h.live o' b' ho';exact⟨y,by rw[List.getElem?_set_ne e];exact h1,h2.ext he (uc b' (λeb=>e (h.inj o o' b ho (eb▸ho'))))⟩
end Go.bA
end
section
namespace Go.bA
variable [Gl]
def nth {α:Type}:List α->Nat->Option α
 |[],_=>none
 |a::_,0=>some a
 |_::l,n+1=>nth l n
def eM {α:Type}:List α->Nat->α->List α
 |[],_,_=>[]
 |_::l,0,x=>x::l
 |a::l,n+1,x=>a::eM l n x
def bS {α:Type}:List α->Nat
 |[]=>0
 |_::l=>bS l+1
def e_ {α:Type}:List α->List α->List α
 |[],m=>m
 |a::l,m=>a::e_ l m
def sA {α:Type}:List α->Nat->List α
 |l,0=>l
 |[],_+1=>[]
 |_::l,n+1=>sA l n
def takeN {α:Type}:List α->Nat->Option (List α)
 |_,0=>some []
 |[],_+1=>none
 |a::l,n+1=>match takeN l n with|some r=>some (a::r)|none=>none
def pL {α β:Type}(f:α->β):List α->List β
 |[]=>[]
 |a::l=>f a::pL f l
def splice {α:Type}:List α->Nat->List α->Option (List α)
 |l,0,[]=>some l
 |[],0,_::_=>none
 |_::l,0,x::xs=>match splice l 0 xs with|some r=>some (x::r)|none=>none
 |[],_+1,_=>none
 |a::l,n+1,xs=>match splice l n xs with|some r=>some (a::r)|none=>none
inductive Sh where
 |int (k:IntKind)|bool|str|ptr (e:Nat)|slice (e:Nat)|array (n e:Nat)|map (k e:Nat)|struct (fs:List (Nat×Nat))|func|iface|other
structure TD where
 size:Nat
 bytes:Nat
 agg:Bool
 eq:Bool
 sh:Sh
 zero:List T
def m1 {α β:Type}(f:α->β):Th α->Th β
 | .lit a=>.lit (f a)
 | .th g=>.th (λ_=>f (g ()))
def m2 {α β γ:Type}(f:α->β->γ):Th α->Th β->Th γ
 | .lit a,.lit b=>.lit (f a b)
 | .lit a,.th g=>.th (λ_=>f a (g ()))
 | .th g,.lit b=>.th (λ_=>f (g ()) b)
 | .th g,.th h=>.th (λ_=>f (g ()) (h ()))
omit [Gl]in
@[simp]theorem BI {α β:Type}(f:α->β)(a:Th α):(m1 f a).den=f a.den:=by cases a<;>rfl
omit [Gl]in
@[simp]theorem yj {α β γ:Type}(f:α->β->γ)(a:Th α)(b:Th β):(m2 f a b).den=f a.den b.den:=by cases a<;>cases b<;>rfl
def m3 {α β γ ε:Type}(f:α->β->γ->ε)(a:Th α)(b:Th β)(c:Th γ):Th ε:=m2 (λp c=>f p.1 p.2 c) (m2 Prod.mk a b) c
def m4 {α β γ ε ζ:Type}(f:α->β->γ->ε->ζ)(a:Th α)(b:Th β)(c:Th γ)(d:Th ε):Th ζ:=m2 (λp q=>f p.1 p.2 q.1 q.2) (m2 Prod.mk a b) (m2 Prod.mk c d)
omit [Gl]in
@[simp]theorem oP {α β γ ε:Type}(f:α->β->γ->ε)(a:Th α)(b:Th β)(c:Th γ):(m3 f a b c).den=f a.den b.den c.den:=by simp[m3]
omit [Gl]in
@[simp]theorem BJ {α β γ ε ζ:Type}(f:α->β->γ->ε->ζ)(a:Th α)(b:Th β)(c:Th γ)(d:Th ε):(m4 f a b c d).den=f a.den b.den c.den d.den:=by simp[m4]
inductive aM (f:Unit->Bool)(A B:Unit->Prop):Prop where
 |mk:(f ()=true->A ())->(f ()=false->B ())->aM f A B
inductive bg (f:Unit->Bool)(A:Unit->Prop):Prop where
 |mk:f ()=true->A ()->bg f A
inductive bF {α:Type}(es:Unit->List α)(n:Unit->Int)(K:α->Prop):Prop where
 |mk (e:α):0<=n ()->(es ())[(n ()).toNat]?=some e->K e->bF es n K
def D6 (b:Th Bool)(A B:Unit->Prop):Prop:=
 match b with
 | .lit true=>A ()
 | .lit false=>B ()
 | .th f=>aM f A B
def jr (b:Th Bool)(A:Unit->Prop):Prop:=
 match b with
 | .lit true=>A ()
 | .lit false=>False
 | .th f=>bg f A
omit [Gl]in
theorem ko {b:Th Bool}{A B:Unit->Prop}(h:D6 b A B):(b.den=true->A ())/\(b.den=false->B ()):=by
 unfold D6 at h;split at h
 ·exact⟨λ_=>h,λh=>(by cases h)⟩
 ·exact⟨λh=>(by cases h),λ_=>h⟩
 ·cases h with|mk h1 h2=>exact⟨h1,h2⟩
omit [Gl]in
theorem eC {b:Th Bool}{A:Unit->Prop}(h:jr b A):b.den=true/\A ():=by
 unfold jr at h;split at h
 ·exact⟨rfl,h⟩
 ·exact h.elim
 ·cases h with|mk h1 h2=>exact⟨h1,h2⟩
def wo {α:Type}(es:Th (List α))(n:Th Int)(K:α->Prop):Prop:=
 match es,n with
 | .lit l,.lit n=>match n with
  | .ofNat m=>match nth l m with|some e=>K e|none=>False
  | .negSucc _=>False
 |es,n=>bF (λ_=>es.den) (λ_=>n.den) K
def aH (op:BinOp)(k:IntKind)(a b:Int):Int:=
 match op with
 | .add=>k.wrap (a+b)
 | .sub=>k.wrap (a -b)
 | .mul=>k.wrap (a*b)
 | .quo=>k.wrap (a.tdiv b)
 | .rem=>a.tmod b
 | .and=>k.wrap ((BitVec.ofInt k.bits a&&&BitVec.ofInt k.bits b).toNat:Int)
 | .or=>k.wrap ((BitVec.ofInt k.bits a|||BitVec.ofInt k.bits b).toNat:Int)
 | .xor=>k.wrap ((BitVec.ofInt k.bits a^^^BitVec.ofInt k.bits b).toNat:Int)
 | .andNot=>k.wrap ((BitVec.ofInt k.bits a&&&~~~BitVec.ofInt k.bits b).toNat:Int)
 | .shl=>k.wrap (a*2^(min b.toNat k.bits))
 | .shr=>a.fdiv (2^(min b.toNat k.bits))
 |_=>0
def ai (op:BinOp)(a b:Int):Bool:=
 match op with
 | .eql=>a==b
 | .neq=>a !=b
 | .lss=>decide (a<b)
 | .leq=>decide (a<=b)
 | .gtr=>decide (a>b)
 | .geq=>decide (a>=b)
 |_=>false
def N0 (op:UnOp)(k:IntKind)(n:Int):Int:=
 match op with
 | .neg=>k.wrap (0 -n)
 |_=>k.wrap ((BitVec.ofInt k.bits (if k.signed then-1 else k.max)^^^BitVec.ofInt k.bits n).toNat:Int)
def dA (op:BinOp)(x y:ByteArray):Bool:=
 match op with
 | .eql=>x.toList==y.toList
 | .neq=> !(x.toList==y.toList)
 | .lss=>Op.bytesLess x.toList y.toList
 | .leq=>Op.bytesLess x.toList y.toList||x.toList==y.toList
 | .gtr=> !(Op.bytesLess x.toList y.toList||x.toList==y.toList)
 | .geq=> !(Op.bytesLess x.toList y.toList)
 |_=>false
abbrev AB (b:Th Bool):AV:=.c (.bool b)
abbrev AI (k:IntKind)(n:Th Int):AV:=.c (.int k n)
abbrev AS (s:Th ByteArray):AV:=.c (.str s)
abbrev dP:AV:=.cI []
def F5:Value->Option T
 | .int k n=>some (.int k (.lit n))
 | .bool b=>some (.bool (.lit b))
 | .string s=>some (.str (.lit s))
 |v=>match plain v with|true=>some (.lit v)|false=>none
def IZ:List Value->Option (List AV)
 |[]=>some []
 |v::vs=>match F5 v,IZ vs with|some t,some r=>some (.c t::r)|_,_=>none
def Sx:Value->AV
 | .agg cs=>match IZ cs.toList with|some r=>.agg r|none=>.bB
 | .tuple vs=>match vs.toList with|[]=>.cI []|_=>.bB
 |v=>match F5 v with|some t=>.c t|none=>.bB
def BK (env:List AV)(t:Nat):AV:=match nth env t with|some x=>x|none=>.bB
def dU (env:List AV):Operand->AV
 | .tmp t=>BK env t
 | .const v=>Sx v
 | .global _=>.bB
 | .func f=>.fn (.func f) [] []
def fO (env:List AV)(d:Option Nat)(v:AV):List AV:=match d with|some d=>eM env d v|none=>env
def cellsOf:AV->Option (List AV)
 | .agg cs=>some cs
 | .cI _| .bB=>none
 |x=>some [x]
def k_ (cs:List AV)(off:Nat)(d:TD):Option AV:=
 match d.agg with
 |true=>match takeN (sA cs off) d.size with|some r=>some (.agg r)|none=>none
 |false=>nth cs off
def alive (ob:List AO)(o:Nat):Bool:=match nth ob o with|some (.box _)=>true|some (.map _)=>true|_=>false
def wZ (d:TD)(x:AV)(ob:List AO)(K:AV->List AO->Prop):Prop:=
 match x with
 | .ref o off=>match nth ob o with
  |some (.box cs)=>match k_ cs off d with|some v=>K v ob|none=>False
  |_=>False
 | .eZ o k i off=>match nth ob o with
  |some (.arr k' es _)=>match k==k' with
   |true=>wo es (m1 Int.ofNat i) λe=>match k_ e off d with|some v=>K v ob|none=>False
   |false=>False
  |_=>False
 | .c (.gx cs)=>match k_ (pL .c cs) 0 d with|some v=>K v ob|none=>False
 |_=>False
def ud:AV->AV
 | .c (.int k (.lit n))=>.c (.int k (.th λ_=>n))
 | .c (.bool (.lit b))=>.c (.bool (.th λ_=>b))
 | .c (.str (.lit s))=>.c (.str (.th λ_=>s))
 |x=>x
def BL (d:TD)(x v:AV)(ob:List AO)(K:AV->List AO->Prop):Prop:=
 match cellsOf v with
 |none=>False
 |some vs=>match bS vs==d.size with
  |false=>False
  |true=>match x with
   | .ref o off=>match nth ob o with
    |some (.box cs)=>match splice cs off vs with|some cs'=>K dP (eM ob o (.box cs'))|none=>False
    |_=>False
   | .eZ o k i off=>match nth ob o with
    |some (.arr k' es sz)=>match k==k' with
     |true=>wo es (m1 Int.ofNat i) λe=>match splice e off (pL ud vs)with
      |some e'=>K dP (eM ob o (.arr k (m2 (λl n=>l.set n e') es i) sz))
      |none=>False
     |false=>False
    |_=>False
   |_=>False
def tK (δ:Nat->Option TD)(s f:Nat):Option (Nat×TD):=
 match δ s with
 |some d=>match d.sh with
  | .struct fs=>match nth fs f with
   |some (off,t)=>match δ t with|some e=>some (off,e)|none=>none
   |none=>none
  |_=>none
 |none=>none
def iF (δ:Nat->Option TD)(s f:Nat)(x:AV)(ob:List AO)(K:AV->List AO->Prop):Prop:=
 match tK δ s f with
 |some (off,e)=>match e.size==0 with
  |true=>False
  |false=>match x with
   | .ref o a=>match alive ob o with|true=>K (.ref o (a+off)) ob|false=>False
   | .eZ o k i a=>K (.eZ o k i (a+off)) ob
   | .c (.gx cs)=>K (.c (.gx (sA cs off))) ob
   |_=>False
 |none=>False
def qL (δ:Nat->Option TD)(s f:Nat)(x:AV)(ob:List AO)(K:AV->List AO->Prop):Prop:=
 match tK δ s f with
 |some (off,e)=>match x with
  | .agg cs=>match k_ cs off e with|some v=>K v ob|none=>False
  |_=>False
 |none=>False
def dJ (len:Nat)(n:Int):Bool:=decide (0<=n)&&decide (n<len)
def iG (δ:Nat->Option TD)(t:Nat)(x i:AV)(ob:List AO)(K:AV->List AO->Prop):Prop:=
 match δ t,i with
 |some d,.c (.int _ n)=>match d.sh with
  | .slice e=>match δ e with
   |some ed=>match x with
    | .sl o k i0 len _=>match k==ed.size with
     |true=>jr (m2 dJ len n) (λ_=>K (.eZ o k (m2 (λi0 n=>i0+n.toNat) i0 n) 0) ob)
     |false=>False
    | .c (.dO k es)=>match k==ed.size with
     |true=>wo (.lit es) n λc=>K (.c (.gx c)) ob
     |false=>False
    | .c (.bJ k f)=>match k==ed.size with
     |true=>wo (.th λ_=>(T.bJ k f).rows) n λc=>K (.c (.gx c)) ob
     |false=>False
    |_=>False
   |none=>False
  | .array len e=>match δ e with
   |some ed=>match x,n with
    | .ref o off,.lit n=>match alive ob o,dJ len n with
     |true,true=>K (.ref o (off+n.toNat*ed.size)) ob
     |_,_=>False
    |_,_=>False
   |none=>False
  |_=>False
 |_,_=>False
def abm {α:Type}:List α->Nat->List α
 |_,0=>[]
 |[],_+1=>[]
 |a::l,n+1=>a::abm l n
def ue (cs:List AV)(ed:TD):Nat->Nat->Option (List AV)
 |0,_=>some []
 |n+1,off=>match k_ cs off ed,ue cs ed n (off+ed.size)with
  |some y,some r=>some (y::r)
  |_,_=>none
def yl (s:ByteArray)(n:Int):Int:=((s.data.toList.getD n.toNat 0).toNat:Int)
def qM (δ:Nat->Option TD)(t:Nat)(x i:AV)(ob:List AO)(K:AV->List AO->Prop):Prop:=
 match δ t,i with
 |some d,.c (.int _ n)=>match d.sh with
  | .str=>match x with
   | .c (.str s)=>jr (m2 (λs n=>dJ s.size n) s n) λ_=>K (AI .u8 (m2 yl s n)) ob
   |_=>False
  | .array len e=>match δ e with
   |some ed=>match x with
    | .agg cs=>match ue cs ed len 0 with
     |some l=>wo (.lit l) n λv=>K v ob
     |none=>False
    |_=>False
   |none=>False
  |_=>False
 |_,_=>False
def D7 (δ:Nat->Option TD)(t:Nat)(x:AV)(ob:List AO)(K:AV->List AO->Prop):Prop:=
 match δ t with
 |some d=>match d.sh with
  | .str=>match x with| .c (.str s)=>K (AI .i64 (m1 (λs=>(s.size:Int)) s)) ob|_=>False
  | .slice _=>match x with
   | .sl _ _ _ len _=>K (AI .i64 (m1 Int.ofNat len)) ob
   | .c (.dO _ es)=>K (AI .i64 (.lit (Int.ofNat (bS es)))) ob
   | .c (.bJ k f)=>K (AI .i64 (.th λ_=>((T.bJ k f).rows.length:Int))) ob
   | .c (.lit (.slice none 0 0))=>K (AI .i64 (.lit 0)) ob
   | .c (.emp _)=>K (AI .i64 (.lit 0)) ob
   |_=>False
  | .array n _=>K (AI .i64 (.lit (Int.ofNat n))) ob
  | .map _ _=>match x with
   | .c (.lit (.map none))=>K (AI .i64 (.lit 0)) ob
   | .mp o=>match nth ob o with
    |some (.map es)=>K (AI .i64 (.lit (Int.ofNat (bS es)))) ob
    |some (.jq _ _ es)=>K (AI .i64 (.th λ_=>(es.den.length:Int))) ob
    |_=>False
   |_=>False
  |_=>False
 |none=>False
structure Sy (n:Unit->Nat)(A:Bool->Prop):Prop where
 all:∀b,(b=true->n ()=0)->A b
def uf:AV->Option (Option Bool×Th Nat)
 | .c (.lit (.slice none 0 0))=>some (some true,.lit 0)
 | .c (.dO _ (_::_))=>some (some false,.lit 0)
 | .c (.dO _ [])| .c (.emp _)=>some (none,.lit 0)
 | .c (.bJ k f)=>some (none,.th λ_=>(T.bJ k f).rows.length)
 | .sl _ _ _ len _=>some (none,len)
 |_=>none
def qN (ob:List AO):AV->Option Bool
 | .c (.lit (.pointer none))=>some true
 | .c (.gx _)=>some false
 | .ref o _=>match alive ob o with|true=>some false|false=>none
 | .eZ _ _ _ _=>some false
 |_=>none
def nilFn:AV->Option Bool
 | .c (.lit .nilFunc)=>some true
 | .fn _ _ _=>some false
 |_=>none
def BM:AV->Option Bool
 | .c (.lit .nilIface)=>some true
 | .oN _ _=>some false
 |_=>none
def gP (sh:Sh)(x y:AV):Option (Th Bool):=
 match sh with
 | .int _=>match x,y with
  | .c (.int k a),.c (.int k' b)=>match k==k' with|true=>some (m2 (λa b=>a==b) a b)|false=>none
  |_,_=>none
 | .bool=>match x,y with
  | .c (.bool a),.c (.bool b)=>some (m2 (λa b=>a==b) a b)
  |_,_=>none
 | .str=>match x,y with
  | .c (.str a),.c (.str b)=>some (m2 (λa b=>a==b) a b)
  |_,_=>none
 |_=>none
def eqFields (δ:Nat->Option TD):Nat->List AV->List AV->List (Nat×Nat)->Option (Th Bool)
 |_,_,_,[]=>some (.lit true)
 |0,_,_,_::_=>none
 |k+1,xs,ys,(off,t)::fs=>match δ t with
  |some d=>match d.sh,d.eq with
   | .struct gs,true=>match k_ xs off d,k_ ys off d with
    |some (.agg xs'),some (.agg ys')=>match eqFields δ k xs' ys' gs,eqFields δ k xs ys fs with
     |some a,some b=>some (m2 (λa b=>a&&b) a b)
     |_,_=>none
    |_,_=>none
   |_,_=>match nth xs off,nth ys off with
    |some x,some y=>match gP d.sh x y,eqFields δ k xs ys fs with
     |some a,some b=>some (m2 (λa b=>a&&b) a b)
     |_,_=>none
    |_,_=>none
  |none=>none
def ld (neg:Bool)(b:Th Bool):Th Bool:=match neg with|true=>m1 (λb=> !b) b|false=>b
def LO (δ:Nat->Option TD)(t:Nat)(neg yc:Bool)(x y:AV)(ob:List AO)(K:AV->List AO->Prop):Prop:=
 match δ t with
 |some d=>match d.sh with
  | .bool=>match gP .bool x y with|some b=>K (AB (ld neg b)) ob|none=>False
  | .struct fs=>match x,y,d.eq with
   | .agg xs,.agg ys,true=>match eqFields δ 64 xs ys fs with|some b=>K (AB (ld neg b)) ob|none=>False
   |_,_,_=>False
  | .slice _=>match y with
   | .c (.lit (.slice none 0 0))=>match uf x with
    |some (some b,_)=>K (AB (ld neg (.lit b))) ob
    |some (none,n)=>Sy (λ_=>n.den) λb=>K (AB (ld neg (.lit b))) ob
    |none=>False
   |_=>False
  | .ptr _=>match y with
   | .c (.lit (.pointer none))=>match qN ob x with|some b=>K (AB (ld neg (.lit b))) ob|none=>False
   |_=>False
  | .func=>match y with
   | .c (.lit .nilFunc)=>match nilFn x with|some b=>K (AB (ld neg (.lit b))) ob|none=>False
   |_=>False
  | .iface=>match y,yc with
   | .c (.lit .nilIface),true=>match BM x with|some b=>K (AB (ld neg (.lit b))) ob|none=>False
   |_,_=>False
  |_=>False
 |none=>False
def pM:Operand->Bool| .const _=>true|_=>false
def D8 (δ:Nat->Option TD)(op:BinOp)(xt:Nat)(yc:Bool)(x y:AV)(ob:List AO)(K:AV->List AO->Prop):Prop:=
 match x,y with
 | .c (.int k a),.c (.int k' b)=>match op with
  | .shl| .shr=>jr (m1 (λb=>decide (0<=b)) b) (λ_=>K (AI k (m2 (aH op k) a b)) ob)
  | .eql| .neq| .lss| .leq| .gtr| .geq=>match k==k' with|true=>K (AB (m2 (ai op) a b)) ob|false=>False
  | .quo| .rem=>match k==k' with
   |true=>jr (m1 (λb=>b !=0) b) (λ_=>K (AI k (m2 (aH op k) a b)) ob)
   |false=>False
  |_=>match k==k' with|true=>K (AI k (m2 (aH op k) a b)) ob|false=>False
 | .c (.str a),.c (.str b)=>match op with
  | .eql| .neq| .lss| .leq| .gtr| .geq=>K (AB (m2 (dA op) a b)) ob
  | .add=>jr (m2 (λa b=>decide (a.size+b.size<=9223372036854775807)) a b) (λ_=>K (AS (m2 (λa b=>a++b) a b)) ob)
  |_=>False
 |x,y=>match op with
  | .eql=>LO δ xt false yc x y ob K
  | .neq=>LO δ xt true yc x y ob K
  |_=>False
def N1 (op:UnOp)(x:AV)(ob:List AO)(K:AV->List AO->Prop):Prop:=
 match op,x with
 | .not,.c (.bool b)=>K (AB (m1 (λb=> !b) b)) ob
 | .neg,.c (.int k n)=>K (AI k (m1 (N0 .neg k) n)) ob
 | .xor,.c (.int k n)=>K (AI k (m1 (N0 .xor k) n)) ob
 |_,_=>False
def w8 (δ:Nat->Option TD)(dst:Nat)(x:AV)(ob:List AO)(K:AV->List AO->Prop):Prop:=
 match δ dst with
 |some d=>match d.sh,x with
  | .int k,.c (.int _ n)=>K (AI k (m1 k.wrap n)) ob
  | .str,.c (.str s)=>K (AS s) ob
  |_,_=>False
 |none=>False
def oC:List (Nat×Nat)->List (Nat×AV)->List AV->Option (List AV)
 |_,[],cs=>some cs
 |pl,(i,x)::rest,cs=>match nth pl i,cellsOf x with
  |some (off,size),some vs=>match bS vs==size with
   |true=>match splice cs off vs with|some cs'=>oC pl rest cs'|none=>none
   |false=>none
  |_,_=>none
def bG (d:TD):List AV:=pL .c d.zero
def places (δ:Nat->Option TD):List (Nat×Nat)->Option (List (Nat×Nat))
 |[]=>some []
 |(off,t)::fs=>match δ t,places δ fs with|some e,some r=>some ((off,e.size)::r)|_,_=>none
def sB (env:List AV)(xs:List Operand):List AV:=pL (dU env) xs
def parts (env:List AV)(xs:List (Nat×Operand)):List (Nat×AV):=pL (λp=>(p.1,dU env p.2)) xs
def ug (k:Nat):Nat->Nat->List (Nat×Nat)
 |0,_=>[]
 |n+1,i=>(i*k,k)::ug k n (i+1)
def qO (δ:Nat->Option TD)(t:Nat)(ps:List (Nat×AV))(ob:List AO)(K:AV->List AO->Prop):Prop:=
 match δ t with
 |some d=>match d.sh with
  | .struct fs=>match places δ fs with
   |some pl=>match oC pl ps (bG d)with|some cs=>K (.agg cs) ob|none=>False
   |none=>False
  | .array n e=>match δ e with
   |some ed=>match oC (ug ed.size n 0) ps (bG d)with|some cs=>K (.agg cs) ob|none=>False
   |none=>False
  |_=>False
 |none=>False
def elems (z:List AV)(k:Nat):Nat->Nat->List (Nat×AV)->Option (List (List AV))
 |_,0,[]=>some []
 |_,0,_::_=>none
 |i,n+1,ps=>
  match ps with
  |(j,x)::rest=>match j==i with
   |true=>match cellsOf x with
    |some vs=>match bS vs==k with
     |true=>match elems z k (i+1) n rest with|some r=>some (vs::r)|none=>none
     |false=>none
    |none=>none
   |false=>match elems z k (i+1) n ps with|some r=>some (z::r)|none=>none
  |[]=>match elems z k (i+1) n []with|some r=>some (z::r)|none=>none
def mW (δ:Nat->Option TD)(t len:Nat)(ps:List (Nat×AV))(ob:List AO)(K:AV->List AO->Prop):Prop:=
 match δ t with
 |some d=>match d.sh with
  | .slice e=>match δ e with
   |some ed=>match ed.size==0,(len*ed.size).ble 16777216 with
    |false,true=>match elems (bG ed) ed.size 0 len ps with
     |some es=>K (.sl (bS ob) ed.size (.lit 0) (.lit len) (.lit len)) (e_ ob [.arr ed.size (.lit es) (.lit (len*ed.size))])
     |none=>False
    |_,_=>False
   |none=>False
  |_=>False
 |none=>False
def tj (o:Option AV)(d:Th Int):Option (Th Int):=match o with
 |none=>some d
 |some (.c (.int _ n))=>some n
 |_=>none
def okB (l h m c:Int):Bool:=decide (0<=l)&&decide (l<=h)&&decide (h<=m)&&decide (m<=c)
def bP (i:Nat)(l m:Int):Nat:=match decide (m=l)with|true=>i|false=>i+l.toNat
def sC (es:List (List T))(l h:Int):List (List T):=(es.drop l.toNat).take (h -l).toNat
def uh (k:Nat)(es:Th (List (List T)))(l h:Th Int):T:=
 match es,l,h with
 | .lit es,.lit l,.lit h=>.dO k (abm (sA es l.toNat) (h -l).toNat)
 |es,l,h=>.bJ k (λ_=>.dO k (sC es.den l.den h.den))
def uj (k:Nat)(es:Th (List (List T)))(l h m:Th Int)(mx:Option AV):T:=
 match mx,m with
 |some _,.lit n=>match decide (n=0)with|true=>.emp k|false=>uh k es l h
 |_,_=>uh k es l h
def qP (δ:Nat->Option TD)(t:Nat)(x:AV)(lo hi mx:Option AV)(ob:List AO)(K:AV->List AO->Prop):Prop:=
 match δ t with
 |some d=>match d.sh with
  | .str=>match x,mx with
   | .c (.str s),none=>match tj lo (.lit 0),tj hi (m1 (λs=>(s.size:Int)) s)with
    |some l,some h=>jr (m3 (λl h s=>okB l h (s.size:Int) (s.size:Int)) l h s) λ_=>K (AS (m3 (λs l h=>s.extract l.toNat h.toNat) s l h)) ob
    |_,_=>False
   |_,_=>False
  | .slice e=>match δ e with
   |some ed=>match x with
    | .sl o k i len cap=>match k==ed.size,tj lo (.lit 0),tj hi (m1 Int.ofNat len),tj mx (m1 Int.ofNat cap),hi.isNone&&mx.isSome with
     |true,some l,some h,some m,false=>jr (m4 okB l h m (m1 Int.ofNat cap)) λ_=>K (.sl o k (m3 bP i l m) (m2 (λl h=>(h -l).toNat) l h) (m2 (λl m=>(m -l).toNat) l m)) ob
     |_,_,_,_,_=>False
    | .c (.dO k es)=>match k==ed.size,tj lo (.lit 0),tj hi (.lit (Int.ofNat (bS es))),tj mx (.lit (Int.ofNat (bS es))),hi.isNone&&mx.isSome with
     |true,some l,some h,some m,false=>jr (m4 okB l h m (.lit (Int.ofNat (bS es)))) λ_=>K (.c (uj k (.lit es) l h m mx)) ob
     |_,_,_,_,_=>False
    | .c (.bJ k f)=>match k==ed.size,tj lo (.lit 0),tj hi (.th λ_=>((T.bJ k f).rows.length:Int)),tj mx (.th λ_=>((T.bJ k f).rows.length:Int)),hi.isNone&&mx.isSome with
     |true,some l,some h,some m,false=>jr (m4 okB l h m (.th λ_=>((T.bJ k f).rows.length:Int))) λ_=>K (.c (uj k (.th λ_=>(T.bJ k f).rows) l h m mx)) ob
     |_,_,_,_,_=>False
    |_=>False
   |none=>False
  |_=>False
 |none=>False
def uk (δ:Nat->Option TD)(t:Nat):Option (Sh×TD):=
 match δ t with
 |some d=>match d.sh with
  | .map k e=>match δ k,δ e with
   |some kd,some ed=>some (kd.sh,ed)
   |_,_=>none
  |_=>none
 |none=>none
def mH:List (Int×List T)->Int->Option (List T)
 |[],_=>none
 |(k,v)::l,n=>if k=n then some v else mH l n
def tq:List (Int×List T)->Int->List T->List (Int×List T)
 |[],n,v=>[(n,v)]
 |(k,u)::l,n,v=>if k=n then(k,v)::l else(k,u)::tq l n v
def tu:List (Int×List T)->Int->List (Int×List T)
 |[],_=>[]
 |(k,u)::l,n=>if k=n then l else(k,u)::tu l n
inductive iz (es:Unit->List (Int×List T))(n:Unit->Int)(A:List T->Prop)(B:Unit->Prop):Prop
 |mk:(∀ts,mH (es ()) (n ())=some ts->A ts)->(mH (es ()) (n ())=none->B ())->iz es n A B
inductive zN (left:Unit->List (Int×List T))(A:Nat->Int->List T->Prop)(B:Unit->Prop):Prop
 |mk:(∀(i:Nat) n ts,(left ())[i]?=some (n,ts)->A i n ts)->(left ()=[]->B ())->zN left A B
def Da (ag:Bool)(ts:List T):AV:=
 match ag with
 |true=>.agg (pL .c ts)
 |false=>match ts with|[t]=>.c t|_=>.bB
def OF:List AV->Option (List T)
 |[]=>some []
 | .c t::l=>match OF l with|some r=>some (t::r)|none=>none
 |_::_=>none
def LP (ag:Bool)(v:AV):Option (List T):=
 match ag,v with
 |true,.agg cs=>OF (pL ud cs)
 |false,.c t=>match ud (.c t)with| .c t=>some [t]|_=>none
 |_,_=>none
def mI (sh:Sh)(k:AV):List (AV×AV)->Nat->(Option (Nat×AV)->Prop)->Prop
 |[],_,K=>match gP sh k k with|some _=>K none|none=>False
 |(k',v)::es,i,K=>match gP sh k k' with
  |some b=>D6 b (λ_=>K (some (i,v))) (λ_=>mI sh k es (i+1) K)
  |none=>False
def ym (δ:Nat->Option TD)(t:Nat)(m k v:AV)(ob:List AO)(K:AV->List AO->Prop):Prop:=
 match uk δ t,m with
 |some (sh,_),.mp o=>match nth ob o with
  |some (.map es)=>mI sh k es 0 λr=>match r with
   |some (i,_)=>K dP (eM ob o (.map (eM es i (k,v))))
   |none=>K dP (eM ob o (.map (e_ es [(k,v)])))
  |some (.jq kk ag es)=>match sh,k with
   | .int q,.c (.int KN n)=>match q==kk,kk==KN with
    |true,true=>match LP ag v with
     |some ts=>K dP (eM ob o (.jq kk ag (.th λ_=>tq es.den n.den ts)))
     |none=>False
    |_,_=>False
   |_,_=>False
  |_=>False
 |_,_=>False
def zeroV (d:TD):Option AV:=
 match d.agg with
 |true=>some (.agg (bG d))
 |false=>match d.zero with|[z]=>some (.c z)|_=>none
def LQ (ok:Bool)(z:AV)(ob:List AO)(K:AV->List AO->Prop):Option (Nat×AV)->Prop
 |some (_,v)=>match ok with|true=>K (.cI [v,AB (.lit true)]) ob|false=>K v ob
 |none=>match ok with|true=>K (.cI [z,AB (.lit false)]) ob|false=>K z ob
def nJ (δ:Nat->Option TD)(t:Nat)(m k:AV)(ok:Bool)(ob:List AO)(K:AV->List AO->Prop):Prop:=
 match uk δ t with
 |some (sh,ed)=>match zeroV ed with
  |some z=>match m with
   | .mp o=>match nth ob o with
    |some (.map es)=>mI sh k es 0 (LQ ok z ob K)
    |some (.jq kk ag es)=>match sh,k with
     | .int q,.c (.int KN n)=>match q==kk,kk==KN with
      |true,true=>iz (λ_=>es.den) (λ_=>n.den) (λts=>LQ ok z ob K (some (0,Da ag ts))) (λ_=>LQ ok z ob K none)
      |_,_=>False
     |_,_=>False
    |_=>False
   | .c (.lit (.map none))=>mI sh k [] 0 (LQ ok z ob K)
   |_=>False
  |none=>False
 |none=>False
def yo (δ:Nat->Option TD)(t:Nat)(m k:AV)(ob:List AO)(K:AV->List AO->Prop):Prop:=
 match uk δ t,m with
 |some (sh,_),.mp o=>match nth ob o with
  |some (.jq kk ag es)=>match sh,k with
   | .int q,.c (.int KN n)=>match q==kk,kk==KN with
    |true,true=>K dP (eM ob o (.jq kk ag (.th λ_=>tu es.den n.den)))
    |_,_=>False
   |_,_=>False
  |_=>False
 |_,_=>False
end Go.bA
end
section
namespace Go.bA
variable [Gl]
def jK (P:Program)(f:FuncId)(args:Array Value)(w:World)(R:Ending->World->Prop):Prop:=
 match(callFunc f args).run P w with
 | .ok (.enter g as) w'=>w'=w/\g=f/\as=args/\Calls P f args w R
 | .ok (.value v) w'=>R (.returned v) w'
 |_=>False
structure aV (P:Program)(f:FuncId)(args:List AV)(ob:List AO)(K:AV->List AO->Prop):Prop where
 run:∀(w:World)(F:Nat->Prop)(μ:Mu)(bD:Array Value),ua w F μ args bD.toList->St w F μ ob->
  jK P f bD w λe w'=>∃v x cc bu,e=.returned v/\VR w' F bu x v/\St w' F bu cc/\Ext w μ w' bu/\K x cc
structure fe (P:Program)(δ:Nat->Option TD)(t xt:TypeId)(s x:AV)(ob:List AO)(K:AV->List AO->Prop):Prop where
 run:∀(ty:TypeId)(w:World)(F:Nat->Prop)(μ:Mu)(vs vx:Value),VR w F μ s vs->VR w F μ x vx->St w F μ ob->
  ∃v y cc bu w',(Builtin.append_ #[t,xt] ty #[vs,vx]).run P w=.ok v w'/\VR w' F bu y v/\St w' F bu cc/\Ext w μ w' bu/\K y cc
structure KO (P:Program)(δ:Nat->Option TD)(t xt:TypeId)(x y:AV)(ob:List AO)(K:AV->List AO->Prop):Prop where
 run:∀(ty:TypeId)(w:World)(F:Nat->Prop)(μ:Mu)(vx vy:Value),VR w F μ x vx->VR w F μ y vy->St w F μ ob->
  ∃v z cc bu w',(Builtin.copy_ #[t,xt] ty #[vx,vy]).run P w=.ok v w'/\VR w' F bu z v/\St w' F bu cc/\Ext w μ w' bu/\K z cc
section
variable(P:Program)(δ:Nat->Option TD)
def D9 (t:Nat)(x:AV)(ob:List AO)(K:AV->List AO->Prop):Prop:=
 match δ t with
 |some d=>match d.sh,x with
  | .slice _,.sl _ _ _ _ cap=>K (AI .i64 (m1 Int.ofNat cap)) ob
  |_,_=>False
 |none=>False
def dQ (z:List AV)(es:List (List AV))(i n:Nat):List (List AV):=es.take i++List.replicate (min n (es.length -i)) z++es.drop (i+n)
def BN (t:Nat)(x:AV)(ob:List AO)(K:AV->List AO->Prop):Prop:=
 match δ t with
 |some d=>match d.sh with
  | .slice e=>match δ e with
   |some ed=>match x,ed.zero with
    | .c (.lit (.slice none 0 0)),_=>K dP ob
    |_,[]=>False
    | .sl o k i len _,_::_=>match nth ob o,k==ed.size with
     |some (.arr k' es sz),true=>match k'==k with
      |false=>False
      |true=>jr (m3 (λi len sz=>Nat.ble ((i+len)*k) sz) i len sz) λ_=>K dP (eM ob o (.arr k (m3 (dQ (bG ed)) es i len) sz))
     |_,_=>False
    |_,_=>False
   |none=>False
  | .map _ _=>match x with
   | .mp o=>match nth ob o with
    |some (.map _)=>K dP (eM ob o (.map []))
    |_=>False
   | .c (.lit (.map none))=>K dP ob
   |_=>False
  |_=>False
 |none=>False
def oQ (t:Nat)(len cap:AV)(ob:List AO)(K:AV->List AO->Prop):Prop:=
 match δ t,len,cap with
 |some d,.c (.int _ n),.c (.int _ c)=>match d.sh with
  | .slice e=>match δ e with
   |some ed=>match ed.zero with
    |[]=>False
    |_::_=>jr (m2 (λn c=>decide (0<=n)&&decide (n<=c)&&decide ((ed.bytes:Int)*c<=281474976710656)&&decide (c<=9223372036854775807)) n c) λ_=>
     K (.sl (bS ob) ed.size (.lit 0) (m1 Int.toNat n) (m1 Int.toNat c)) (e_ ob [.arr ed.size (m1 (λc=>List.replicate c.toNat (bG ed)) c) (m1 (λc=>c.toNat*ed.size) c)])
   |none=>False
  |_=>False
 |_,_,_=>False
def jL (b:Builtin)(argTypes:List TypeId)(args:List AV)(ob:List AO)(K:AV->List AO->Prop):Prop:=
 match b with
 | .len=>match argTypes,args with|[t],[x]=>D7 δ t x ob K|_,_=>False
 | .cap=>match argTypes,args with|[t],[x]=>D9 δ t x ob K|_,_=>False
 | .copy=>match argTypes,args with|[t,xt],[x,y]=>KO P δ t xt x y ob K|_,_=>False
 | .clear=>match argTypes,args with|[t],[x]=>BN δ t x ob K|_,_=>False
 | .delete=>match argTypes,args with|t::_,[m,k]=>yo δ t m k ob K|_,_=>False
 | .append=>match argTypes,args with|[t,xt],[s,x]=>fe P δ t xt s x ob K|_,_=>False
 |_=>False
def BO (f:AV)(args:List AV)(ob:List AO)(K:AV->List AO->Prop):Prop:=
 match f with
 | .fn (.func g) first captured=>aV P g (e_ (e_ first args) captured) ob K
 |_=>False
def qQ (x:AV)(ob:List AO)(K:AV->List AO->Prop):Prop:=
 match x with
 | .ref o _=>match alive ob o with|true=>K x ob|false=>False
 | .eZ _ _ _ _=>K x ob
 | .c (.gx _)=>K x ob
 | .fn (.func _) _ _=>K x ob
 | .oN _ _=>K x ob
 |_=>False
def F6 (d:TD):Bool:=match d.zero with|[]=>false|_=>true
def Rs (δ:Nat->Option TD)(t:Nat):Bool:=match δ t with|some d=>F6 d|none=>false
def OG (δ:Nat->Option TD)(t:Nat):Bool:=match δ t with
 |some d=>match d.sh with| .slice e=>Rs δ e|_=>false
 |none=>false
def OH (δ:Nat->Option TD)(t:Nat):Bool:=match uk δ t with|some (_,ed)=>F6 ed|none=>false
def F7 (p:Nat)(s:ByteArray):Bool:=decide (p<s.size)
def pN (s:ByteArray)(p:Nat):Int:=(Utf8.decode s p).1
def nK (s:ByteArray)(p:Nat):Nat:=p+(Utf8.decode s p).2
def F8 (x:AV)(ob:List AO)(K:AV->List AO->Prop):Prop:=match x with
 | .ref o 0=>(match nth ob o with
  |some (.tJ s pos)=>D6 (m2 F7 pos s) (λ_=>K (.cI [AB (.lit true),AI .i64 (m1 Int.ofNat pos),AI .i32 (m2 pN s pos)]) (eM ob o (.tJ s (m2 nK s pos)))) (λ_=>K (.cI [AB (.lit false)]) ob)
  |_=>False)
 |_=>False
def BP (x:AV)(ob:List AO)(K:AV->List AO->Prop):Prop:=match x with
 | .ref o 0=>(match nth ob o with
  |some (.mV kk ag left _)=>zN (λ_=>left.den) (λi n ts=>K (.cI [AB (.lit true),AI kk (.th λ_=>n),Da ag ts]) (eM ob o (.mV kk ag (.th λ_=>left.den.eraseIdx i) (.lit (some (n,ts)))))) (λ_=>K (.cI [AB (.lit false)]) ob)
  |_=>False)
 |_=>False
def BQ (x:AV)(ob:List AO)(K:AV->List AO->Prop):Prop:=match x with
 | .ref o 0=>(match nth ob o with
  |some (.mV kk ag _ (.lit (some (n,ts))))=>K (.cI [AI kk (.th λ_=>n),Da ag ts]) ob
  |_=>False)
 |_=>False
def zO (o:Op)(env:List AV)(ob:List AO)(K:AV->List AO->Prop):Prop:=
 match o with
 | .move x| .assign x=>K (dU env x) ob
 | .pick c a b=>match dU env c with
  | .c (.bool b')=>D6 b' (λ_=>K (dU env a) ob) (λ_=>K (dU env b) ob)
  |_=>False
 | .alloc t=>match δ t with
  |some d=>match F6 d with|true=>K (.ref (bS ob) 0) (e_ ob [.box (bG d)])|false=>False
  |none=>False
 | .box _ x=>match cellsOf (dU env x)with|some cs=>K (.ref (bS ob) 0) (e_ ob [.box cs])|none=>False
 | .build t ps=>match Rs δ t with|true=>qO δ t (parts env ps.toList) ob K|false=>False
 | .buildSlice t len ps=>match OG δ t with|true=>mW δ t len (parts env ps.toList) ob K|false=>False
 | .insert t m k v| .mapUpdate t m k v=>ym δ t (dU env m) (dU env k) (dU env v) ob K
 | .load t a=>match δ t with|some d=>wZ d (dU env a) ob K|none=>False
 | .store t a v=>match δ t with|some d=>BL d (dU env a) (dU env v) ob K|none=>False
 | .nilCheck x=>qQ (dU env x) ob K
 | .binOp op t x y _=>D8 δ op t (pM y) (dU env x) (dU env y) ob K
 | .unOp op _ x=>N1 op (dU env x) ob K
 | .convert src dst x=>match δ src with|some _=>w8 δ dst (dU env x) ob K|none=>False
 | .makeInterface t x=>match δ t with
  |some d=>match d.sh with| .iface=>False|_=>K (.oN t (dU env x)) ob
  |none=>False
 | .makeFunc fn first captured=>K (.fn fn (sB env first.toList) (sB env captured.toList)) ob
 | .slice t x l h m=>qP δ t (dU env x) (l.map (dU env)) (h.map (dU env)) (m.map (dU env)) ob K
 | .makeSlice t n c=>oQ δ t (dU env n) (dU env c) ob K
 | .makeMap _ none=>K (.mp (bS ob)) (e_ ob [.map []])
 | .range t x=>match δ t with
  |some d=>(match d.sh with
   | .str=>(match dU env x with| .c (.str s)=>K (.ref (bS ob) 0) (e_ ob [.tJ s (.lit 0)])|_=>False)
   | .map _ _=>(match dU env x with
    | .mp o=>(match nth ob o with
     |some (.jq kk ag es)=>K (.ref (bS ob) 0) (e_ (eM ob o .dead) [.mV kk ag es (.lit none)])
     |_=>False)
    |_=>False)
   |_=>False)
  |none=>False
 | .next it isStr=>(match isStr with|true=>F8 (dU env it) ob K|false=>BP (dU env it) ob K)
 | .entry it=>BQ (dU env it) ob K
 | .fieldAddr s x f=>iF δ s f (dU env x) ob K
 | .field s x f=>qL δ s f (dU env x) ob K
 | .indexAddr t x i=>iG δ t (dU env x) (dU env i) ob K
 | .index t x i=>qM δ t (dU env x) (dU env i) ob K
 | .lookup t m k ok=>match OH δ t with|true=>nJ δ t (dU env m) (dU env k) ok ob K|false=>False
 | .extract t i=>match dU env t with
  | .cI vs=>(match nth vs i with|some v=>K v ob|none=>False)
  |_=>False
 | .call c=>match c.callee with
  | .builtin b=>jL P δ b c.argTypes.toList (sB env c.args.toList) ob K
  | .value f=>BO P (dU env f) (sB env c.args.toList) ob K
  |_=>False
 |_=>False
inductive GV where|go|skip|by(d:Nat) (b:Th Bool) (want:Bool)|bad
def ji (all:List Oper)(env:List AV):Option (Nat×Bool)->GV
 |none=>.go
 |some (j,want)=>match nth all j with
  |some o=>match o.dst with
   |some d=>match BK env d with
    | .c (.bool b)=>.by d b want
    | .cI []=>.skip
    |_=>.bad
   |none=>.bad
  |none=>.bad
def tv (all:List Oper):List Oper->List AV->List AO->(List AV->List AO->Prop)->Prop
 |[],env,ob,K=>K env ob
 |o::rest,env,ob,K=>
  match ji all env o.guard with
  | .go=>zO P δ o.op env ob λv cc=>tv all rest (fO env o.dst v) cc K
  | .skip=>tv all rest (fO env o.dst dP) ob K
  | .by d b want=>match want with
   |true=>D6 b (λ_=>zO P δ o.op (eM env d (AB (.lit true))) ob λv cc=>tv all rest (fO (eM env d (AB (.lit true))) o.dst v) cc K) (λ_=>tv all rest (fO (eM env d (AB (.lit false))) o.dst dP) ob K)
   |false=>D6 b (λ_=>tv all rest (fO (eM env d (AB (.lit true))) o.dst dP) ob K) (λ_=>zO P δ o.op (eM env d (AB (.lit false))) ob λv cc=>tv all rest (fO (eM env d (AB (.lit false))) o.dst v) cc K)
  | .bad=>False
def LR (env:List AV)(c:Operand)(b:Bool):List AV:=match c with| .tmp t=>eM env t (AB (.lit b))|_=>env
inductive AE where|normal|exit (id:Nat)|ret
structure pO (m:Nat)(w:World)(μ:Mu)(w':World)(bu:Mu):Prop where
 os:w'.os=w.os
 tape:w'.tape=w.tape
 output:w'.output=w.output
 size:w.heap.size<=w'.heap.size
 ct:∀b,b<w.heap.size->some b∉μ->w'.heap[b]?=w.heap[b]?
 len:m<=bu.length
 keep:∀o b:Nat,o<m->μ[o]?=some (some b)->bu[o]?=some (some b)\/bu[o]?=some none
 dead:∀o:Nat,o<m->μ[o]?=some none->bu[o]?=some none
 own:∀b,some b∈bu->some b∈μ\/w.heap.size<=b
omit [Gl]in
theorem Ext.IG {m:Nat}{w μ w' bu}(h:Ext w μ w' bu)(hm:m<=μ.length):pO m w μ w' bu:=
 ⟨h.os,h.tape,h.output,h.size,h.ct,Nat.le_trans hm h.len,λo b _=>h.keep o b,λo _=>h.dead o,h.own⟩
omit [Gl]in
theorem pO.Db {m:Nat}{w μ w' bu}(h:pO m w μ w' bu)(hm:m=μ.length):Ext w μ w' bu:=
 ⟨h.os,h.tape,h.output,h.size,h.ct,hm▸h.len,λo b ho=>h.keep o b (hm▸(List.getElem?_eq_some_iff.1 ho).1) ho,λo ho=>h.dead o (hm▸(List.getElem?_eq_some_iff.1 ho).1) ho,h.own⟩
omit [Gl]in
theorem pO.trans {m:Nat}{w μ w1 jw w2 D4}(h:pO m w μ w1 jw)(k:pO m w1 jw w2 D4):pO m w μ w2 D4 where
 os:=k.os.trans h.os
 tape:=k.tape.trans h.tape
 output:=k.output.trans h.output
 size:=Nat.le_trans h.size k.size
 ct b hb hn:=(k.ct b (Nat.lt_of_lt_of_le hb h.size) (λhm=>by
  rcases h.own b hm with h1|h1
  ·exact hn h1
  ·omega)).trans (h.ct b hb hn)
 len:=k.len
 keep o b hm ho:=by
  rcases h.keep o b hm ho with h1|h1
  ·exact k.keep o b hm h1
  ·exact .inr (k.dead o hm h1)
 dead o hm ho:=k.dead o hm (h.dead o hm ho)
 own b hb:=by
  rcases k.own b hb with h1|h1
  ·exact h.own b h1
  ·have:=h.size;exact .inr (by omega)
def QC (m:Nat)(w0:World)(F:Nat->Prop)(jE:Mu)(ds:List Deferred)(Q:AE->List AV->List AO->Prop):Exit->Act->World->Prop
 | .normal,a,w=>∃e o μ,Q .normal e o/\FR w F μ e a.tmps/\St w F μ o/\pO m w0 jE w μ/\a.defers=ds
 | .exit i,a,w=>∃e o μ,Q (.exit i) e o/\FR w F μ e a.tmps/\St w F μ o/\pO m w0 jE w μ/\a.defers=ds
 | .ret,a,w=>∃e o μ,Q .ret e o/\FR w F μ e a.tmps/\St w F μ o/\pO m w0 jE w μ/\a.defers=ds
 |_,_,_=>False
structure cu (P:Program)(m:Nat)(c:Code)(env:List AV)(ob:List AO)(Q:AE->List AV->List AO->Prop):Prop where
 run:∀(w:World)(F:Nat->Prop)(μ:Mu)(a:Act),m<=μ.length->FR w F μ env a.tmps->St w F μ ob->c.wp P (QC m w F μ a.defers Q) a w
structure aR (P:Program)(δ:Nat->Option TD)(m:Nat)(id:Nat)(ops:Array Oper)(env:List AV)(ob:List AO)(Q:List AV->List AO->Prop):Prop where
 run:∀(w:World)(F:Nat->Prop)(μ:Mu)(a:Act),m<=μ.length->FR w F μ env a.tmps->St w F μ ob->(Code.region id ops true).wp P (QC m w F μ a.defers λe v o=>match e with| .normal=>Q v o|_=>False) a w
def aw (m:Nat):Code->List AV->List AO->(AE->List AV->List AO->Prop)->Prop
 | .skip,env,ob,Q=>Q .normal env ob
 | .region id ops draw,env,ob,Q=>match draw with
  |false=>tv P δ ops.toList ops.toList env ob λe o=>Q .normal e o
  |true=>aR P δ m id ops env ob λe o=>Q .normal e o
 | .seq a b,env,ob,Q=>aw m a env ob λx e o=>match x with
  | .normal=>aw m b e o Q
  |x=>Q x e o
 | .cond c a b,env,ob,Q=>match dU env c with
  | .c (.bool t)=>D6 t (λ_=>aw m a (LR env c true) ob Q) (λ_=>aw m b (LR env c false) ob Q)
  |_=>False
 | .block id a,env,ob,Q=>aw m a env ob λx e o=>match x with
  | .exit i=>match i==id with|true=>Q .normal e o|false=>Q (.exit i) e o
  |x=>Q x e o
 | .loop a,env,ob,Q=>cu P m (.loop a) env ob Q
 | .ret,env,ob,Q=>Q .ret env ob
 | .exit i,env,ob,Q=>Q (.exit i) env ob
 | .label _,env,ob,Q=>Q .normal env ob
 | .scope a,env,ob,Q=>aw m a env ob Q
 |_,_,_,_=>False
def LS (δ:Nat->Option TD)(env:List AV)(ob:List AO):ResultVar->Option AV
 | .tmp t=>match nth env t with
  |some x=>some x
  |none=>none
 | .cell t ty=>match δ ty,BK env t with
  |some d,.ref o off=>match nth ob o with|some (.box cs)=>k_ cs off d|_=>none
  |_,_=>none
def D_ (δ:Nat->Option TD)(env:List AV)(ob:List AO):List ResultVar->Option (List AV)
 |[]=>some []
 |r::rs=>match LS δ env ob r,D_ δ env ob rs with|some x,some xs=>some (x::xs)|_,_=>none
def LU (rs:List ResultVar)(env:List AV)(ob:List AO)(K:AV->List AO->Prop):Prop:=
 match D_ δ env ob rs with
 |some [x]=>K x ob
 |some xs=>K (.cI xs) ob
 |none=>False
def um:Nat->List AV
 |0=>[]
 |n+1=>dP::um n
def KP (c:Code)(rs:List ResultVar)(n:Nat)(args:List AV)(ob:List AO)(K:AV->List AO->Prop):Prop:=
 aw P δ (bS ob) c (e_ args (um (n -bS args))) ob λx e o=>match x with
  | .normal| .ret=>LU δ rs e o K
  |_=>False
end
end Go.bA
end
section
namespace Go.bA
variable [Gl]
omit [Gl]in
theorem cq {α:Type}(l:List α)(n:Nat):nth l n=l[n]?:=by
 induction l generalizing n with
 |nil=>simp[nth]
 |cons a l ih=>cases n<;>simp[nth,ih]
omit [Gl]in
theorem cJ {α:Type}(l:List α)(n:Nat)(x:α):eM l n x=l.set n x:=by
 induction l generalizing n with
 |nil=>simp[eM]
 |cons a l ih=>cases n<;>simp[eM,ih]
omit [Gl]in
theorem bQ {α:Type}(l:List α):bS l=l.length:=by induction l<;>simp[bS, *]
omit [Gl]in
theorem dg {α:Type}(l m:List α):e_ l m=l++m:=by induction l<;>simp[e_, *]
omit [Gl]in
theorem dR {α β:Type}(f:α->β)(l:List α):pL f l=l.map f:=by induction l<;>simp[pL, *]
omit [Gl]in
theorem jM {α:Type}(l:List α)(n:Nat):sA l n=l.drop n:=by
 induction l generalizing n with
 |nil=>cases n<;>simp[sA]
 |cons a l ih=>cases n<;>simp[sA,ih]
omit [Gl]in
theorem uo {α:Type}{l:List α}{n:Nat}{r:List α}(h:takeN l n=some r):n<=l.length/\r=l.take n:=by
 induction l generalizing n r with
 |nil=>cases n<;>simp_all [takeN]
 |cons a l ih=>
  cases n with
  |zero=>simp[takeN]at h;simp[h]
  |succ n=>
   simp only[takeN]at h;split at h
   ·rename_i r' hr;obtain⟨h1,h2⟩:=ih hr;cases h;exact⟨by simp;omega,by simp[h2]⟩
   ·cases h
omit [Gl]in
theorem mX {α:Type}{l:List α}{off:Nat}{xs r:List α}(h:splice l off xs=some r):off+xs.length<=l.length/\r=l.take off++xs++l.drop (off+xs.length):=by
 induction l generalizing off xs r with
 |nil=>cases off<;>cases xs<;>simp_all [splice]
 |cons a l ih=>
  cases off with
  |zero=>
   cases xs with
   |nil=>simp[splice]at h;simp[h]
   |cons x xs=>
    simp only[splice]at h;split at h
    ·rename_i r' hr;obtain⟨h1,h2⟩:=ih hr;cases h;exact⟨by simp at h1⊢;omega,by simp at h2;simp[h2]⟩
    ·cases h
  |succ n=>
   simp only[splice]at h;split at h
   ·rename_i r' hr;obtain⟨h1,h2⟩:=ih hr;cases h;refine⟨by simp at h1⊢;omega, ?_⟩;rw[h2,show n+1+xs.length=(n+xs.length)+1 by omega];simp
   ·cases h
omit [Gl]in
theorem mY {α:Type}{es:Th (List α)}{n:Th Int}{K:α->Prop}(h:wo es n K):∃e,0<=n.den/\es.den[n.den.toNat]?=some e/\K e:=by
 unfold wo at h;split at h
 ·split at h
  ·split at h
   ·rename_i m _ e he;rw[cq]at he;exact⟨e,by simp,by simpa using he,h⟩
   ·exact h.elim
  ·exact h.elim
 ·cases h with|mk e h1 h2 h3=>exact⟨e,h1,h2,h3⟩
def cz:TypeDesc->Sh
 | .bool=>.bool
 | .int k=>.int k
 | .string=>.str
 | .pointer e=>.ptr e
 | .slice e=>.slice e
 | .array n e=>.array n e
 | .map k e=>.map k e
 | .struct fs=>.struct (fs.toList.map λf=>(f.offset,f.type))
 | .func _ _ _=>.func
 | .interface _=>.iface
 |_=>.other
def w9:TypeDesc->Bool
 | .struct _| .array _ _=>true
 |_=>false
def I1:List Value->Option (List T)
 |[]=>some []
 |v::vs=>match F5 v,I1 vs with|some t,some r=>some (t::r)|_,_=>none
def F9:Value->Bool| .agg _=>true|_=>false
def zeroOf (u:TypeDesc)(i:TypeInfo):List T:=
 match Nat.ble i.size 64 with
 |true=>match i.zero with
  |some (.tuple _)=>[]
  |some z=>match I1 z.cells.toList with
   |some l=>match Nat.beq l.length i.size,F9 z==w9 u with|true,true=>l|_,_=>[]
   |none=>[]
  |none=>[]
 |false=>[]
def LV (P:Program)(eqs:List Nat)(t:Nat):TD:=
 match P.info? t,P.underlying t with
 |some i,some u=>{size:=i.size,bytes:=i.bytes,agg:=w9 u,eq:=eqs.contains t,sh:=cz u,zero:=zeroOf u i}
 |_,_=>{size:=0,bytes:=0,agg:=false,eq:=false,sh:=.other,zero:=[]}
def KQ (P:Program)(eqs:List Nat)(n:Nat):List TD:=(List.range n).map (LV P eqs)
def yp (P:Program)(t:Nat):Bool:=
 match P.underlying t with
 |some (.struct fs)=> !P.stoodInHeld t&& !P.eqGuardType P.depth t&&fs.toList.all (λf=>f.name != "_")
 |_=>false
structure Sz (P:Program)(t:Nat)(d:TD):Prop where
 ok:∃i u,P.info? t=some i/\P.underlying t=some u/\d.size=i.size/\d.bytes=i.bytes/\d.agg=w9 u/\d.sh=cz u/\d.zero=zeroOf u i
 eq:d.eq=true->yp P t=true
def cg (P:Program)(δ:Nat->Option TD):Prop:=∀t d,δ t=some d->Sz P t d
omit [Gl]in
theorem I2 {P:Program}{eqs:List Nat}{n:Nat}{l:List TD}(h:KQ P eqs n=l)(he:eqs.all (yp P)=true)
  (hin:(List.range n).all (λt=>(P.info? t).isSome&&(P.underlying t).isSome)=true):cg P (λt=>nth l t):=by
 intro t d hd;replace hd:nth l t=some d:=hd;rw[cq,<-h,KQ]at hd;simp only[List.getElem?_map]at hd;have hlt:t<n:=by
  rcases Nat.lt_or_ge t n with h|h
  ·exact h
  ·simp[h]at hd
 simp[hlt]at hd;have:=List.all_eq_true.1 hin t (by simpa using hlt);simp only[Bool.and_eq_true]at this;obtain⟨h1,h2⟩:=this;obtain⟨i,hi⟩:=Option.isSome_iff_exists.1 h1;obtain⟨u,hu⟩:=Option.isSome_iff_exists.1 h2;subst hd;refine⟨⟨i,u,hi,hu, ?_⟩,λheq=> ?_⟩
 ·simp[LV,hi,hu]
 ·simp[LV,hi,hu]at heq;exact List.all_eq_true.1 he t (by simpa using heq)
section
variable{P:Program}{δ:Nat->Option TD}{w:World}{F:Nat->Prop}{μ:Mu}{ob:List AO}
theorem St.box {o:Nat}(hs:St w F μ ob){x:AO}(h:nth ob o=some x)(hd:¬gone x):∃b,μ[o]?=some (some b)/\OB w F μ b x:=by
 rw[cq]at h;have hlt:o<μ.length:=by rw[hs.len];exact(List.getElem?_eq_some_iff.1 h).1
 cases hm:μ[o]? with
 |none=>simp at hm;omega
 |some q=>
  cases q with
  |none=>obtain⟨y,h1,h2⟩:=hs.dead o hm;rw[h]at h1;cases h1;exact absurd h2 hd
  |some b=>
   obtain⟨y,h1,h2⟩:=hs.live o b hm;rw[h]at h1;cases h1;exact⟨b,rfl,h2⟩
theorem St.alive (hs:St w F μ ob){o:Nat}(h:bA.alive ob o=true):∃b,μ[o]?=some (some b):=by
 unfold bA.alive at h;split at h
 ·rename_i x hx;obtain⟨b,hb,_⟩:=hs.box hx (by simp);exact⟨b,hb⟩
 ·rename_i x hx;obtain⟨b,hb,_⟩:=hs.box hx (by simp);exact⟨b,hb⟩
 ·cases h
omit [Gl]in
theorem VR.BR {o off v}(h:VR w F μ (.ref o off) v){b:Nat}(hb:μ[o]?=some (some b)):v=.pointer (some ⟨b,off,none⟩):=by
 cases h with
 |ref h=>rw[hb]at h;cases h;rfl
 |oo h=>rw[hb]at h;cases h
omit [Gl]in
theorem VR.KR {o k i off v}(h:VR w F μ (.eZ o k i off) v){b:Nat}(hb:μ[o]?=some (some b)):v=.pointer (some ⟨b,i.den*k+off,none⟩):=by
 cases h with
 |eZ h=>rw[hb]at h;cases h;rfl
 |iY h=>rw[hb]at h;cases h
omit [Gl]in
theorem VR.I3 {o k i len cap v}(h:VR w F μ (.sl o k i len cap) v){b:Nat}(hb:μ[o]?=some (some b)):
  v=.slice (some ⟨b,i.den*k,none⟩) len.den cap.den/\len.den<=cap.den/\cap.den<=9223372036854775807:=by
 cases h with
 |sl h h1 h2=>rw[hb]at h;cases h;exact⟨rfl,h1,h2⟩
 |wj h _ _ _=>rw[hb]at h;cases h
omit [Gl]in
theorem VR.FO {o k i len cap v}(h:VR w F μ (.sl o k i len cap) v):∃a,v=.slice a len.den cap.den/\len.den<=cap.den/\cap.den<=9223372036854775807/\(a=none->cap.den=0):=by
 cases h with
 |sl h h1 h2=>exact⟨_,rfl,h1,h2,λh=>by cases h⟩
 |wj h h1 h2 h3=>exact⟨_,rfl,h1,h2,h3⟩
omit [Gl]in
theorem VR.KS {o k i off v}(h:VR w F μ (.eZ o k i off) v):∃a,v=.pointer (some a):=by
 cases h with
 |eZ h=>exact⟨_,rfl⟩
 |iY h=>exact⟨_,rfl⟩
omit [Gl]in
theorem VR.I4 {o v}(h:VR w F μ (.mp o) v){b:Nat}(hb:μ[o]?=some (some b)):v=.map (some b):=by
 cases h with
 |mp h=>rw[hb]at h;cases h;rfl
 |D3 h _=>rw[hb]at h;cases h
omit [Gl]in
theorem oR {O:Nat->Prop}{v:Value}{t:T}(h:F5 v=some t):VT w O t v:=by
 unfold F5 at h;split at h
 ·cases h;exact .int
 ·cases h;exact .bool
 ·cases h;exact .str
 ·split at h
  ·rename_i hp;cases h;exact .lit hp
  ·cases h
omit [Gl]in
theorem oS {O:Nat->Prop}:∀{vs:List Value}{ts:List T},I1 vs=some ts->ts.length=vs.length/\∀(i:Nat) t v,ts[i]?=some t->vs[i]?=some v->VT w O t v
 |[],ts,h=>by cases h;exact⟨rfl,λi t v h=>by simp at h⟩
 |v::vs,ts,h=>by
  simp only[I1]at h;split at h
  ·rename_i t r h1 h2;cases h;obtain⟨h3,h4⟩:=oS h2;refine⟨by simp[h3],λi t' v' ht hv=> ?_⟩
   cases i with
   |zero=>simp at ht hv;subst ht;subst hv;exact oR h1
   |succ i=>exact h4 i t' v' (by simpa using ht) (by simpa using hv)
  ·cases h
omit [Gl]in
theorem uq:∀{vs:List Value}{xs:List AV},IZ vs=some xs->xs.length=vs.length/\∀(i:Nat) x v,xs[i]?=some x->vs[i]?=some v->VR w F μ x v/\v.oneCell'=true
 |[],xs,h=>by cases h;exact⟨rfl,λi t v h=>by simp at h⟩
 |v::vs,xs,h=>by
  simp only[IZ]at h;split at h
  ·rename_i t r h1 h2;cases h;obtain⟨h3,h4⟩:=uq h2;refine⟨by simp[h3],λi t' v' ht hv=> ?_⟩
   cases i with
   |zero=>simp at ht hv;subst ht;subst hv;have:=oR (w:=w) (O:=own F μ) h1;exact⟨.c this,this.one⟩
   |succ i=>exact h4 i t' v' (by simpa using ht) (by simpa using hv)
  ·cases h
omit [Gl]in
theorem Ea (v:Value):VR w F μ (Sx v) v:=by
 unfold Sx;split
 ·rename_i cs;split
  ·rename_i r hr;obtain⟨h1,h2⟩:=uq (w:=w) (F:=F) (μ:=μ) hr;exact .agg (by simp[h1]) (λi x v hx hv=>(h2 i x v hx (by simpa using hv)).1) (λi v hv=>by
    have hlt:i<r.length:=by rw[h1];simpa using(Array.getElem?_eq_some_iff.1 hv).1
    exact(h2 i r[i] v (List.getElem?_eq_getElem hlt) (by simpa using hv)).2)
  ·exact .bB
 ·rename_i vs;split
  ·rename_i h;have h0:vs= #[]:=by simpa using h
   subst h0;exact .cI rfl (λi x v h=>by simp at h)
  ·exact .bB
 ·split
  ·rename_i t ht;exact .c (oR ht)
  ·exact .bB
omit [Gl]in
theorem oT {env:List AV}{tmps:Array Value}(hf:FR w F μ env tmps)(t:Nat):VR w F μ (BK env t) (tmps.getD t undef):=by
 unfold BK;split
 ·rename_i x hx;rw[cq]at hx;have hlt:t<tmps.size:=by rw[hf.1];exact(List.getElem?_eq_some_iff.1 hx).1
  have:=hf.2 t x tmps[t] hx (Array.getElem?_eq_getElem hlt);rw[Array.getD,dif_pos hlt];exact this
 ·exact .bB
omit [Gl]in
theorem bf {env:List AV}{a:Act}(hf:FR w F μ env a.tmps)(x:Operand):VR w F μ (dU env x) (a.eval x):=by
 cases x with
 |tmp t=>exact oT hf t
 |const v=>exact Ea v
 |global g=>exact .bB
 |func f=>exact .fn rfl rfl (λi x v h=>by simp at h) (λi x v h=>by simp at h)
omit [Gl]in
theorem FR.put {env:List AV}{a:Act}(hf:FR w F μ env a.tmps){x:AV}{v:Value}(hv:VR w F μ x v)(d:Option Nat):FR w F μ (fO env d x) (a.put d v).tmps:=by
 cases d with
 |none=>exact hf
 |some d=>
  refine⟨by simp[Act.put,fO,cJ,hf.1],λi y u hy hu=> ?_⟩;simp only[fO,cJ]at hy;simp only[Act.put]at hu;by_cases e:d=i
  ·subst e;have hlt:d<env.length:=by
    have:=(List.getElem?_eq_some_iff.1 hy).1;simpa using this
   rw[List.getElem?_set_self hlt]at hy;rw[Array.getElem?_setIfInBounds_self_of_lt (by rw[hf.1];exact hlt)]at hu;cases hy;cases hu;exact hv
  ·rw[List.getElem?_set_ne e]at hy;rw[Array.getElem?_setIfInBounds_ne e]at hu;exact hf.2 i y u hy hu
def gb (P:Program)(s:Sem Value)(w:World)(F:Nat->Prop)(μ:Mu)(K:AV->List AO->Prop):Prop:=
 ∃v w' x bu cc,s.run P w=.ok v w'/\VR w' F bu x v/\St w' F bu cc/\Ext w μ w' bu/\K x cc
def fy (P:Program)(s:Sem Value)(w:World)(F:Nat->Prop)(μ:Mu)(ob:List AO)(K:AV->List AO->Prop):Prop:=
 ∃v x,(∀w',F4 w w'->s.run P w'=.ok v w')/\VR w F μ x v/\K x ob
theorem fy.done {s:Sem Value}{K:AV->List AO->Prop}(h:fy P s w F μ ob K)(hs:St w F μ ob):gb P s w F μ K:=by
 obtain⟨v,x,h1,h2,h3⟩:=h;exact⟨v,w,x,μ,ob,h1 w (.refl w),h2,hs,.refl w μ,h3⟩
omit [Gl]in
theorem fy.q {s:Sem Value}{K:AV->List AO->Prop}{v:Value}{x:AV}(hr:∀w',F4 w w'->s.run P w'=.ok v w')(hv:VR w F μ x v)(hk:K x ob):fy P s w F μ ob K:=⟨v,x,hr,hv,hk⟩
theorem gb.here {s:Sem Value}{K:AV->List AO->Prop}{v:Value}{x:AV}(hs:St w F μ ob)(hr:s.run P w=.ok v w)(hv:VR w F μ x v)(hk:K x ob):gb P s w F μ K:=
 ⟨v,w,x,μ,ob,hr,hv,hs,.refl w μ,hk⟩
omit [Gl]in
theorem kP {x:AV}{v:Value}{cs:List AV}(h:cellsOf x=some cs)(hv:VR w F μ x v):
  v.cells.size=cs.length/\∀(i:Nat) y u,cs[i]?=some y->v.cells[i]?=some u->VR w F μ y u/\u.oneCell'=true:=by
 have single:∀{x:AV}{v:Value},VR w F μ x v->v.oneCell'=true->v.cells.size=[x].length/\∀(i:Nat) y u,[x][i]?=some y->v.cells[i]?=some u->VR w F μ y u/\u.oneCell'=true:=by
  intro x v hv h1;have hc:v.cells= #[v]:=by cases v<;>first|rfl|cases h1
  rw[hc];refine⟨rfl,λi y u hy hu=> ?_⟩
  cases i with
  |zero=>simp at hy hu;subst hy;subst hu;exact⟨hv,h1⟩
  |succ i=>simp at hy
 cases hv with
 |agg h1 h2 h3=>
  simp only[cellsOf]at h;cases h;exact⟨h1,λi y u hy hu=>⟨h2 i y u hy hu,h3 i u hu⟩⟩
 |cI=>cases h
 |bB=>cases h
 |c h1=>simp only[cellsOf]at h;cases h;exact single (.c h1) h1.one
 |ref h1=>simp only[cellsOf]at h;cases h;exact single (.ref h1) rfl
 |oo h1=>simp only[cellsOf]at h;cases h;exact single (.oo h1) rfl
 |eZ h1=>simp only[cellsOf]at h;cases h;exact single (.eZ h1) rfl
 |iY h1=>simp only[cellsOf]at h;cases h;exact single (.iY h1) rfl
 |sl h1 h2 h3=>simp only[cellsOf]at h;cases h;exact single (.sl h1 h2 h3) rfl
 |wj h1 h2 h3 h4=>simp only[cellsOf]at h;cases h;exact single (.wj h1 h2 h3 h4) rfl
 |mp h1=>simp only[cellsOf]at h;cases h;exact single (.mp h1) rfl
 |D3 h1 h2=>simp only[cellsOf]at h;cases h;exact single (.D3 h1 h2) h2
 |fn h1 h2 h3 h4=>simp only[cellsOf]at h;cases h;exact single (.fn h1 h2 h3 h4) rfl
 |oN h1=>simp only[cellsOf]at h;cases h;exact single (.oN h1) rfl
def Reads (w:World)(F:Nat->Prop)(μ:Mu)(b off:Nat)(cs:List AV):Prop:=
 ∀(i:Nat) x,cs[i]?=some x->∃v,w.cell? ⟨b,off+i,none⟩=some v/\VR w F μ x v/\v.oneCell'=true
omit [Gl]in
theorem jF {t:TypeId}{u:TypeDesc}(h:P.underlying t=some u)(w:World):(isAgg t).run P w=.ok (w9 u) w:=by
 cases u<;>simp[isAgg,run_underlying h,w9]
omit [Gl]in
theorem cO {t:TypeId}{i:TypeInfo}(h:P.info? t=some i)(w:World):(sizeOf t).run P w=.ok i.size w:=by
 simp[sizeOf,typeInfo,h]
omit [Gl]in
theorem ku (bw:cg P δ){t:Nat}{d:TD}(hd:δ t=some d){cs:List AV}{b base off:Nat}(hr:Reads w F μ b base cs){x:AV}(h:k_ cs off d=some x):
  ∃v,(∀w',F4 w w'->(loadVar t ⟨b,base+off,none⟩).run P w'=.ok v w')/\VR w F μ x v:=by
 obtain⟨i,u,h1,h2,h3,h4,h5,h6,h7⟩:=(bw t d hd).ok;unfold k_ at h;unfold loadVar;split at h
 ·rename_i zP;split at h
  ·rename_i r hr';cases h;obtain⟨h8,h9⟩:=uo hr';rw[jM]at h8 h9
   --the cells' values
   have hval:∀j,j<d.size->∃v,w.cell? ⟨b,base+off+j,none⟩=some v/\∃y,r[j]?=some y/\VR w F μ y v/\v.oneCell'=true:=by
    intro j hj;have hlen:off+j<cs.length:=by simp at h8;omega
    obtain⟨v,zQ,SA,Yh⟩:=hr (off+j) cs[off+j] (List.getElem?_eq_getElem hlen);refine⟨v,by rw[Nat.add_assoc];exact zQ,cs[off+j], ?_,SA,Yh⟩;rw[h9,List.getElem?_take,if_pos hj,List.getElem?_drop,List.getElem?_eq_getElem hlen]
   let f:Nat->Value:=λj=>((w.cell? ⟨b,base+off+j,none⟩).getD undef)
   have hl:=λ(w':World)(hw:F4 w w')=>run_loadCells (P:=P) w' ⟨b,base+off,none⟩ d.size f (λj hj=>by
    obtain⟨v,hv,_⟩:=hval j hj;rw[Addr.add_lit,hw.cell hv];simp[f,hv])
   refine⟨.agg ((List.range d.size).map f).toArray, ?_, ?_⟩
   ·intro w' hw;simp only[Sem.run_bind,jF h2,Result.andThen_ok,<-h5,zP,if_true,cO h1,<-h3,hl w' hw,Sem.run_pure]
   ·have hrl:r.length=d.size:=by rw[h9,List.length_take,Nat.min_eq_left h8]
    refine .agg (by simp[hrl]) (λj y v hy hv=> ?_) (λj v hv=> ?_)
    ·have hj:j<d.size:=by have:=(List.getElem?_eq_some_iff.1 hy).1;omega
     obtain⟨v',mJ,y',hy',I5,_⟩:=hval j hj;rw[hy]at hy';cases hy';simp[hj,f,mJ]at hv;subst hv;exact I5
    ·have hj:j<d.size:=by
      have:=(Array.getElem?_eq_some_iff.1 hv).1;simpa using this
     obtain⟨v',mJ,y',hy',_,h1c⟩:=hval j hj;simp[hj,f,mJ]at hv;subst hv;exact h1c
  ·cases h
 ·rename_i zP;rw[cq]at h;obtain⟨v,zQ,SA,_⟩:=hr off x h;refine⟨v,λw' hw=> ?_,SA⟩;simp only[Sem.run_bind,jF h2,Result.andThen_ok,<-h5,zP,Bool.false_eq_true,if_false,run_load,hw.cell zQ]
omit [Gl]in
theorem Reads.box {b:Nat}{cs:List AV}(h:OB w F μ b (.box cs)):Reads w F μ b 0 cs:=by
 cases h with
 |box ct e h1 h2 h3=>
  intro i x hx;have hlt:i<ct.size:=by rw[h2];exact(List.getElem?_eq_some_iff.1 hx).1
  refine⟨ct[i], ?_,h3 i x _ hx (Array.getElem?_eq_getElem hlt)⟩;rw[cell_of_row w b (0+i) ct e (0,0) h1,Nat.zero_add,Array.getElem?_eq_getElem hlt]
omit [Gl]in
theorem Reads.arr {b k:Nat}{es:Th (List (List AV))}{sz:Th Nat}(h:OB w F μ b (.arr k es sz)){i:Nat}{e:List AV}(he:es.den[i]?=some e):Reads w F μ b (i*k) e:=by
 cases h with
 |arr ct ty h1 h2 h3 h4 h6 h5=>
  intro j x hx;have hk:e.length=k:=h4 e (List.mem_of_getElem? he);have hi:i<es.den.length:=(List.getElem?_eq_some_iff.1 he).1;have hj:j<k:=by rw[<-hk];exact(List.getElem?_eq_some_iff.1 hx).1
  have hlt:i*k+j<ct.size:=by
   rw[h2];have:(i+1)*k<=es.den.length*k:=Nat.mul_le_mul_right _ hi;rw[Nat.add_mul]at this;omega
  refine⟨ct[i*k+j], ?_,h5 i j e x _ he hx (Array.getElem?_eq_getElem hlt)⟩;rw[cell_of_row w b (i*k+j) ct ty (0,0) h1,Array.getElem?_eq_getElem hlt]
omit [Gl]in
theorem Reads.gx {b off:Nat}{cs:List T}(h:VT w (own F μ) (.gx cs) (.pointer (some ⟨b,off,none⟩))):Reads w F μ b off (pL .c cs):=by
 cases h with
 |gx c h1 h2 h3 h4=>
  intro i x hx;rw[dR,List.getElem?_map]at hx
  cases ht:cs[i]? with
  |none=>rw[ht]at hx;cases hx
  |some t=>
   rw[ht]at hx;simp at hx;subst hx;exact⟨c i,h3 i t ht,.c (h4 i t ht),(h4 i t ht).one⟩
omit [Gl]in
theorem qR {O:Nat->Prop}{cs:List T}{v:Value}(h:VT w O (.gx cs) v):∃b off,v=.pointer (some ⟨b,off,none⟩):=by
 cases h with|gx c h1 h2 h3 h4=>exact⟨_,_,rfl⟩
theorem zR (bw:cg P δ){t:Nat}{d:TD}(hd:δ t=some d)(hs:St w F μ ob){x:AV}{v:Value}(hv:VR w F μ x v){K:AV->List AO->Prop}(h:wZ d x ob K):
  fy P (Instr.loadAt t v) w F μ ob K:=by
 unfold wZ at h;split at h
 ·rename_i o off;split at h
  ·rename_i cs hc;split at h
   ·rename_i y hy;obtain⟨b,hb,jN⟩:=hs.box hc (by simp);have iA:=hv.BR hb;obtain⟨u,tL,zF⟩:=ku bw hd (Reads.box jN) hy;rw[Nat.zero_add]at tL;exact .q (λw' hw=>by simp[Instr.loadAt,iA,Instr.sureAddr,tL w' hw]) zF h
   ·exact h.elim
  ·exact h.elim
 ·rename_i o k i off;split at h
  ·rename_i k' es sz hc;split at h
   ·rename_i hk;have hk':k=k':=by simpa using hk
    subst hk';obtain⟨e,_,he,h⟩:=mY h;split at h
    ·rename_i y hy;obtain⟨b,hb,jN⟩:=hs.box hc (λh=>by rw[h.1]at he;simp at he);have iA:=hv.KR hb;simp at he;obtain⟨u,tL,zF⟩:=ku bw hd (Reads.arr jN he) hy;exact .q (λw' hw=>by simp[Instr.loadAt,iA,Instr.sureAddr,tL w' hw]) zF h
    ·exact h.elim
   ·exact h.elim
  ·exact h.elim
 ·rename_i cs;split at h
  ·rename_i y hy
   cases hv with
   |c hv=>
    obtain⟨b,off,rfl⟩:=qR hv;obtain⟨u,tL,zF⟩:=ku bw hd (Reads.gx hv) hy;rw[Nat.add_zero]at tL;exact .q (λw' hw=>by simp[Instr.loadAt,Instr.sureAddr,tL w' hw]) zF h
  ·exact h.elim
 ·exact h.elim
end
end Go.bA
end
section
namespace Go.bA
variable [Gl]
section
variable{P:Program}{δ:Nat->Option TD}{w:World}{F:Nat->Prop}{μ:Mu}{ob:List AO}{K:AV->List AO->Prop}
theorem gb.lf (hs:St w F μ ob){s:Sem Value}{v:Value}{o:Obj}{x:AV}{y:AO}(hr:s.run P w=.ok v (w.alloc o))
  (hy:∀w' bu,Ext w μ w' bu->w'.heap[w.heap.size]?=some o->OB w' F bu w.heap.size y)
  (hx:∀w' bu:_,Ext w μ w' bu->bu[ob.length]?=some (some w.heap.size)->VR w' F bu x v) (hk:K x (e_ ob [y])):gb P s w F μ K:=by
 obtain⟨h1,h2⟩:=hs.alloc o y hy;refine⟨v,_,x,_,_,hr,hx _ _ h2 ?_,h1,h2,by rw[dg]at hk;exact hk⟩;rw[<-hs.len,List.getElem?_append_right (Nat.le_refl _)];simp
theorem Eb (hs:St w F μ ob){x:AV}{v:Value}(hv:VR w F μ x v){cs:List AV}(hc:cellsOf x=some cs)(t:TypeId)(h:K (.ref (bS ob) 0) (e_ ob [.box cs])):
  gb P (Instr.box t v) w F μ K:=by
 obtain⟨h1,h2⟩:=kP hc hv;refine gb.lf hs (o:=.cells v.cells t) (v:=.pointer (some ⟨w.heap.size,0,none⟩)) (by simp[Instr.box,newVar,newRow]) ?_ ?_ h
 ·intro w' bu he hh;exact .box v.cells t hh h1 λi y u hy hu=>⟨(h2 i y u hy hu).1.ext he,(h2 i y u hy hu).2⟩
 ·intro w' bu _ hm;rw[bQ];exact .ref hm
omit [Gl]in
theorem iH (bw:cg P δ){t:Nat}{d:TD}(hd:δ t=some d)(hz:d.zero≠[]):∃i z,P.info? t=some i/\i.zero=some z/\i.size=d.size/\z.cells.size=d.size/\d.zero.length=d.size/\
  (∀vs,z≠.tuple vs)/\F9 z=d.agg/\∀(w:World)(O:Nat->Prop)(j:Nat) y u,d.zero[j]?=some y->z.cells[j]?=some u->VT w O y u:=by
 obtain⟨i,u,h1,h2,h3,h4,h5,h6,h7⟩:=(bw t d hd).ok;rw[h7]at hz;unfold zeroOf at hz;split at hz
 ·rename_i hble;split at hz
  ·exact absurd rfl hz
  ·rename_i z hnt II;split at hz
   ·rename_i l hl;split at hz
    ·rename_i hlen zP;have hlen':l.length=i.size:=Nat.eq_of_beq_eq_true hlen;have SB:F9 z=d.agg:=by rw[h5];simpa using zP
     have e:d.zero=l:=by
      rw[h7];unfold zeroOf;simp only[hble,II];cases z<;>first|exact absurd rfl (hnt _)|simp only[hl,hlen,zP]
     refine⟨i,z,h1,II,h3.symm, ?_, ?_,λvs e=>hnt vs e,SB,λw O j y u hy hu=> ?_⟩
     ·have:=(oS (w:=default) (O:=λ_=>False) hl).1;simp at this;omega
     ·rw[e];omega
     ·rw[e]at hy;exact(oS hl).2 j y u hy (by simpa using hu)
    ·exact absurd rfl hz
   ·exact absurd rfl hz
  ·exact absurd rfl hz
 ·exact absurd rfl hz
omit [Gl]in
theorem gE (bw:cg P δ){t:Nat}{d:TD}(hd:δ t=some d)(hz:d.zero≠[]):∃z,(∀w,(zeroValue t).run P w=.ok z w)/\z.cells.size=(bG d).length/\(bG d).length=d.size/\
  ∀(w:World)(F:Nat->Prop)(μ:Mu)(j:Nat) x u,(bG d)[j]?=some x->z.cells[j]?=some u->VR w F μ x u/\u.oneCell'=true:=by
 obtain⟨i,z,h1,h2,h3,h4,h5,h6,_,h7⟩:=iH bw hd hz;refine⟨z,λw=>by simp[zeroValue,typeInfo,h1,h2],by simp[bG,dR,h4,h5],by simp[bG,dR,h5],λw F μ j x u hx hu=> ?_⟩;simp only[bG,dR,List.getElem?_map]at hx
 cases hy:d.zero[j]? with
 |none=>rw[hy]at hx;cases hx
 |some y=>
  rw[hy]at hx;simp at hx;subst hx;have:=h7 w (own F μ) j y u hy hu;exact⟨.c this,this.one⟩
theorem zS (bw:cg P δ)(hs:St w F μ ob){t:Nat}{d:TD}(hd:δ t=some d)(hz:d.zero≠[])(h:K (.ref (bS ob) 0) (e_ ob [.box (bG d)])):
  gb P (Instr.alloc t true (.tuple #[])) w F μ K:=by
 obtain⟨z,h1,h2,_,h3⟩:=gE bw hd hz;refine gb.lf hs (o:=.cells z.cells t) (v:=.pointer (some ⟨w.heap.size,0,none⟩)) (by simp[Instr.alloc,h1,newVar,newRow]) ?_ ?_ h
 ·intro w' bu _ hh;exact .box z.cells t hh h2 λi y u hy hu=>h3 w' F bu i y u hy hu
 ·intro w' bu _ hm;rw[bQ];exact .ref hm
omit [Gl]in
theorem w_ (bw:cg P δ){t:Nat}{d:TD}(hd:δ t=some d){v:Value}{b off:Nat}{cur:Array Value}{e:TypeId}(hsz:v.cells.size=d.size)(h1:∀u∈v.cells.toList,u.oneCell'=true)
  (hg:w.heap[b]?=some (.cells cur e (0,0))) (hfit:off+v.cells.size<=cur.size):
  (Instr.storeAt t (.pointer (some ⟨b,off,none⟩)) v).run P w=.ok () (w.setRow b (cur.toList.take off++v.cells.toList++cur.toList.drop (off+v.cells.size)).toArray):=by
 obtain⟨i,u,g1,g2,g3,g4,g5,g6,g7⟩:=(bw t d hd).ok;have hst:=run_storeCells_at P b off e v.cells.toList 0 cur w hg (by simpa using hfit) h1;simp only[Nat.add_zero,Array.length_toList]at hst;simp[Instr.storeAt,Instr.sureAddr,storeVar,cO g1,hsz,g3,hst]
omit [Gl]in
theorem b9 {α:Type}(l xs:List α)(off:Nat)(h:off+xs.length<=l.length)(j:Nat):
  (l.take off++xs++l.drop (off+xs.length))[j]?=if j<off then l[j]? else if j<off+xs.length then xs[j -off]? else l[j]?:=by
 have h0:(l.take off).length=off:=by simp;omega
 rw[List.append_assoc];by_cases h1:j<off
 ·rw[if_pos h1,List.getElem?_append_left (by omega),List.getElem?_take,if_pos h1]
 ·rw[if_neg h1,List.getElem?_append_right (by omega),h0];by_cases h2:j<off+xs.length
  ·rw[if_pos h2,List.getElem?_append_left (by omega)]
  ·rw[if_neg h2,List.getElem?_append_right (by omega),List.getElem?_drop]
   congr 1;omega
def zT (P:Program)(s:Sem Unit)(w:World)(F:Nat->Prop)(μ:Mu)(K:AV->List AO->Prop):Prop:=
 ∃w' bu cc,s.run P w=.ok () w'/\St w' F bu cc/\Ext w μ w' bu/\K dP cc
omit [Gl]in
theorem mZ {x:AV}{v:Value}(h:VR w F μ x v):VR w F μ (ud x) v:=by
 unfold ud;split
 ·cases h with|c h=>cases h with|int=>exact .c .int
 ·cases h with|c h=>cases h with|bool=>exact .c .bool
 ·cases h with|c h=>cases h with|str=>exact .c .str
 ·exact h
theorem yq (bw:cg P δ){t:Nat}{d:TD}(hd:δ t=some d)(hs:St w F μ ob){x y:AV}{a v:Value}(ha:VR w F μ x a)(hv:VR w F μ y v)(h:BL d x y ob K):
  zT P (Instr.storeAt t a v) w F μ K:=by
 unfold BL at h;split at h
 ·exact h.elim
 ·rename_i vs hvs;split at h
  ·exact h.elim
  ·rename_i hl;obtain⟨F_,pP⟩:=kP hvs hv;have hsz:v.cells.size=d.size:=by rw[F_,<-bQ];simpa using hl
   have hone:∀u∈v.cells.toList,u.oneCell'=true:=λu hu=>by
    obtain⟨j,hj,rfl⟩:=List.getElem_of_mem hu;have hj':j<vs.length:=by rw[<-F_];simpa using hj
    exact(pP j vs[j] _ (List.getElem?_eq_getElem hj') (by simp at hj;simp[hj])).2
   split at h
   ·rename_i o off;split at h
    ·rename_i cs hcs;split at h
     ·rename_i cs' hcs';obtain⟨b,hb,jN⟩:=hs.box hcs (by simp);have OI:=ha.BR hb;obtain⟨hf,KT⟩:=mX hcs'
      cases jN with
      |box ct e g1 g2 g3=>
       have hfit:off+v.cells.size<=ct.size:=by rw[F_,g2];exact hf
       have hrun:=w_ bw hd hsz hone g1 hfit;obtain⟨r1,r2⟩:=hs.set hb (w.setRow b (ct.toList.take off++v.cells.toList++ct.toList.drop (off+v.cells.size)).toArray) (.box cs') (by simp)
        (λb' hb'=>setRow_other w b b' _ hb') rfl rfl rfl (λhe=>by
         refine .box _ e (setRow_heap w b ct _ e _ g1) ?_ ?_
         ·rw[KT];simp[g2];omega
         ·intro i z u hz hu;rw[KT,b9 cs vs off hf]at hz;rw[List.getElem?_toArray]at hu;have hl':v.cells.toList.length=vs.length:=by simp[F_]
          have eR:=hu;rw[show v.cells.size=v.cells.toList.length by simp,b9 ct.toList v.cells.toList off (by simpa using hfit),hl']at eR;split at hz
          ·rename_i hi;rw[if_pos hi]at eR;exact⟨(g3 i z u hz (by simpa using eR)).1.ext he,(g3 i z u hz (by simpa using eR)).2⟩
          ·rename_i hi;rw[if_neg hi]at eR;split at hz
           ·rename_i hi2;rw[if_pos hi2]at eR;exact⟨(pP (i -off) z u hz (by simpa using eR)).1.ext he,(pP (i -off) z u hz (by simpa using eR)).2⟩
           ·rename_i hi2;rw[if_neg hi2]at eR;exact⟨(g3 i z u hz (by simpa using eR)).1.ext he,(g3 i z u hz (by simpa using eR)).2⟩)
       exact⟨_,_,_,by rw[OI];exact hrun,r1,r2,by rw[cJ]at h;exact h⟩
     ·exact h.elim
    ·exact h.elim
   ·rename_i o k i off;obtain⟨vs',OJ,OK,SC⟩:∃vs',vs'=pL ud vs/\v.cells.size=vs'.length/\∀(i:Nat) y u,vs'[i]?=some y->v.cells[i]?=some u->VR w F μ y u/\u.oneCell'=true:=by
     refine⟨_,rfl,by rw[dR];simpa using F_,λi y u hy hu=> ?_⟩;rw[dR,List.getElem?_map]at hy
     cases hz:vs[i]? with
     |none=>rw[hz]at hy;cases hy
     |some z=>
      rw[hz]at hy;obtain rfl:=Option.some.inj hy;obtain⟨h1,h2⟩:=pP i z u hz hu;exact⟨mZ h1,h2⟩
    rw[<-OJ]at h;clear OJ;split at h
    ·rename_i k' es sz hcs;split at h
     ·rename_i hk;have hk':k=k':=by simpa using hk
      subst hk';obtain⟨e0,_,BA,h⟩:=mY h;split at h
      ·rename_i e' he';obtain⟨b,hb,jN⟩:=hs.box hcs (λh=>by rw[h.1]at BA;simp at BA);have OI:=ha.KR hb;obtain⟨hf,hee⟩:=mX he';simp at BA
       cases jN with
       |arr ct ty g1 g2 g3 g4 g6 g5=>
        have pQ:e0.length=k:=g4 e0 (List.mem_of_getElem? BA);have hi:i.den<es.den.length:=(List.getElem?_eq_some_iff.1 BA).1;have hmul:(i.den+1)*k<=es.den.length*k:=Nat.mul_le_mul_right _ hi;have hfit:i.den*k+off+v.cells.size<=ct.size:=by rw[OK,g2];rw[Nat.add_mul]at hmul;omega
        have hrun:=w_ bw hd hsz hone g1 hfit;obtain⟨r1,r2⟩:=hs.set hb (w.setRow b (ct.toList.take (i.den*k+off)++v.cells.toList++ct.toList.drop (i.den*k+off+v.cells.size)).toArray) (.arr k (m2 (λl n=>l.set n e') es i) sz) (by simp)
         (λb' hb'=>setRow_other w b b' _ hb') rfl rfl rfl (λhe=>by
          refine .arr _ ty (setRow_heap w b ct _ ty _ g1) ?_ ?_ ?_ ?_ ?_
          ·simp[<-g2];omega
          ·simpa using g3
          ·intro e hem;simp at hem;rcases List.mem_or_eq_of_mem_set hem with hm|hm
           ·exact g4 e hm
           ·rw[hm,hee];simp;omega
          ·intro j u hu;rw[List.getElem?_toArray,show v.cells.size=v.cells.toList.length by simp,b9 ct.toList v.cells.toList _ (by simpa using hfit)]at hu;split at hu
           ·exact g6 j u (by simpa using hu)
           ·split at hu
            ·exact hone u (List.mem_of_getElem? hu)
            ·exact g6 j u (by simpa using hu)
          ·intro i' j e x u Ga Ec hu;rw[List.getElem?_toArray]at hu;have hl':v.cells.toList.length=vs'.length:=by simp[OK]
           rw[show v.cells.size=v.cells.toList.length by simp,b9 ct.toList v.cells.toList _ (by simpa using hfit),hl']at hu;simp at Ga;by_cases SD:i.den=i'
           ·subst SD;rw[List.getElem?_set_self hi]at Ga;cases Ga;have WN:j<k:=by
             have:=(List.getElem?_eq_some_iff.1 Ec).1;rw[hee]at this;simp at this;omega
            rw[hee,b9 e0 vs' off hf]at Ec;split at Ec
            ·rename_i hjo;rw[if_pos (by omega)]at hu;have:=g5 i.den j e0 x u BA Ec (by simpa using hu);exact⟨this.1.ext he,this.2⟩
            ·rename_i hjo;rw[if_neg (by omega)]at hu;split at Ec
             ·rename_i hj2;rw[if_pos (by omega),show i.den*k+j -(i.den*k+off)=j -off by omega]at hu;have:=SC (j -off) x u Ec (by simpa using hu);exact⟨this.1.ext he,this.2⟩
             ·rename_i hj2;rw[if_neg (by omega)]at hu;have:=g5 i.den j e0 x u BA Ec (by simpa using hu);exact⟨this.1.ext he,this.2⟩
           ·rw[List.getElem?_set_ne SD]at Ga;have WN:j<k:=by
             have:=(List.getElem?_eq_some_iff.1 Ec).1;rw[g4 e (List.mem_of_getElem? Ga)]at this;exact this
            have hne:i'*k+j<i.den*k+off\/i.den*k+off+vs'.length<=i'*k+j:=by
             rcases Nat.lt_or_gt_of_ne SD with hlt|hgt
             ·right;have:(i.den+1)*k<=i'*k:=Nat.mul_le_mul_right _ hlt;rw[Nat.add_mul]at this;omega
             ·left;have:(i'+1)*k<=i.den*k:=Nat.mul_le_mul_right _ hgt;rw[Nat.add_mul]at this;omega
            have eR:ct[i'*k+j]?=some u:=by
             rcases hne with hne|hne
             ·rw[if_pos hne]at hu;simpa using hu
             ·rw[if_neg (by omega),if_neg (by omega)]at hu;simpa using hu
            have:=g5 i' j e x u Ga Ec eR;exact⟨this.1.ext he,this.2⟩)
        exact⟨_,_,_,by rw[OI];exact hrun,r1,r2,by rw[cJ]at h;exact h⟩
      ·exact h.elim
     ·exact h.elim
    ·exact h.elim
   ·exact h.elim
omit [Gl]in
theorem oD (bw:cg P δ){s f off:Nat}{e:TD}(h:tK δ s f=some (off,e)):
  ∃fs fd,P.underlying s=some (.struct fs)/\fs[f]?=some fd/\fd.offset=off/\δ fd.type=some e:=by
 unfold tK at h;split at h
 ·rename_i d hd;split at h
  ·rename_i l hl;split at h
   ·rename_i off' t hn;split at h
    ·rename_i e' he;simp at h;obtain⟨rfl,rfl⟩:=h;obtain⟨i,u,h1,h2,h3,h4,h5,h6,h7⟩:=(bw s d hd).ok;rw[hl]at h6;cases u<;>simp[cz]at h6;rename_i fs;rw[cq,h6,List.getElem?_map]at hn
     cases hf:fs.toList[f]? with
     |none=>rw[hf]at hn;cases hn
     |some fd=>
      rw[hf]at hn;simp at hn;obtain⟨a1,a2⟩:=hn;exact⟨fs,fd,h2,by simpa using hf,a1,by rw[a2];exact he⟩
    ·cases h
   ·cases h
  ·cases h
 ·cases h
theorem qS (bw:cg P δ)(hs:St w F μ ob){s f:Nat}{x:AV}{v:Value}(hv:VR w F μ x v)(h:iF δ s f x ob K):fy P (Instr.fieldAt s v f) w F μ ob K:=by
 unfold iF at h;split at h
 ·rename_i off e hfo;obtain⟨fs,fd,h1,h2,h3,h4⟩:=oD bw hfo;obtain⟨i,u,g1,g2,g3,g4,g5,g6,g7⟩:=(bw _ e h4).ok;split at h
  ·exact h.elim
  ·rename_i hz;have Yi:¬i.size=0:=by rw[<-g3];simpa using hz
   have hrun:∀(a:Addr)(w:World),(Instr.fieldAt s (.pointer (some a)) f).run P w=.ok (.pointer (some (a.add off))) w:=λa w=>by
    simp[Instr.fieldAt,run_underlying h1,h2,Instr.sureAddr,fieldPlace,cO g1,Yi,h3]
   split at h
   ·rename_i o a;split at h
    ·rename_i Gb;obtain⟨b,hb⟩:=hs.alive Gb;have iA:=hv.BR hb;exact .q (λw' _=>by rw[iA,hrun,Addr.add_lit]) (.ref hb) h
    ·exact h.elim
   ·rename_i o k i a
    cases hv with
    | @eZ _ _ _ _ b hb=>
     exact .q (v:=.pointer (some ⟨b,i.den*k+(a+off),none⟩)) (λw' _=>by rw[hrun,Addr.add_lit,Nat.add_assoc]) (.eZ hb) h
    |iY hb=>exact .q (λw' _=>hrun _ _) (.iY hb) h
   ·rename_i cs
    cases hv with
    |c hv=>
     cases hv with
     |gx c a1 a2 a3 a4=>
      refine .q (λw' _=>by rw[hrun,Addr.add_lit]) (.c (.gx (λj=>c (off+j)) a1 a2 (λj x hx=> ?_) (λj x hx=> ?_))) h
      ·rw[jM,List.getElem?_drop]at hx;rw[Nat.add_assoc];exact a3 _ x hx
      ·rw[jM,List.getElem?_drop]at hx;exact a4 _ x hx
   ·exact h.elim
 ·exact h.elim
omit [Gl]in
theorem lT (bw:cg P δ){t:Nat}{e:TD}(he:δ t=some e){cs:List AV}{vs:Array Value}(hl:vs.size=cs.length)
  (hc:∀(i:Nat) x v,cs[i]?=some x->vs[i]?=some v->VR w F μ x v/\v.oneCell'=true) {off:Nat} {y:AV} (h:k_ cs off e=some y):
  ∃v,(∀w:World,(part t vs off).run P w=.ok v w)/\VR w F μ y v:=by
 obtain⟨i,u,g1,g2,g3,g4,g5,g6,g7⟩:=(bw _ e he).ok;unfold k_ at h;split at h
 ·rename_i zP;split at h
  ·rename_i r hr;cases h;obtain⟨h8,h9⟩:=uo hr;rw[jM]at h8 h9;refine⟨.agg (vs.extract off (off+e.size)),λw=>by simp[part,jF g2,<-g5,zP,cO g1,g3], ?_⟩;have hrl:r.length=e.size:=by rw[h9,List.length_take,Nat.min_eq_left h8]
   have hsub:∀(j:Nat) x v,r[j]?=some x->(vs.extract off (off+e.size))[j]?=some v->VR w F μ x v/\v.oneCell'=true:=by
    intro j x v hx hv;rw[h9,List.getElem?_take]at hx;split at hx
    ·rw[List.getElem?_drop]at hx;rw[Array.getElem?_extract]at hv;split at hv
     ·exact hc _ x v hx hv
     ·cases hv
    ·cases hx
   refine .agg (by simp[hrl]at h8⊢;omega) (λj x v hx hv=>(hsub j x v hx hv).1) (λj v hv=> ?_);have hj:j<r.length:=by
    have:=(Array.getElem?_eq_some_iff.1 hv).1;simp at this;omega
   exact(hsub j r[j] v (List.getElem?_eq_getElem hj) hv).2
  ·cases h
 ·rename_i zP;rw[cq]at h;have hlt:off<vs.size:=by rw[hl];exact(List.getElem?_eq_some_iff.1 h).1
  exact⟨vs[off],λw=>by simp[part,jF g2,<-g5,zP,hlt],(hc off y _ h (Array.getElem?_eq_getElem hlt)).1⟩
theorem yu (bw:cg P δ)(_hs:St w F μ ob){s f:Nat}{x:AV}{v:Value}(hv:VR w F μ x v)(h:qL δ s f x ob K):fy P (Instr.field s v f) w F μ ob K:=by
 unfold qL at h;split at h
 ·rename_i off e hfo;obtain⟨fs,fd,h1,h2,h3,h4⟩:=oD bw hfo;split at h
  ·rename_i cs;split at h
   ·rename_i y hy
    cases hv with
    |agg a1 a2 a3=>
     obtain⟨u,tL,zF⟩:=lT bw h4 a1 (λi x v hx hv=>⟨a2 i x v hx hv,a3 i v hv⟩) hy;exact .q (λw' _=>by simp[Instr.field,run_underlying h1,h2,asAgg,h3,tL]) zF h
   ·exact h.elim
  ·exact h.elim
 ·exact h.elim
omit [Gl]in
theorem fI (bw:cg P δ){t:Nat}{d:TD}(hd:δ t=some d):∃u,P.underlying t=some u/\cz u=d.sh:=by
 obtain⟨i,u,h1,h2,h3,h4,h5,h6,h7⟩:=(bw t d hd).ok;exact⟨u,h2,h6.symm⟩
omit [Gl]in
theorem fP (bw:cg P δ){t:Nat}{d:TD}(hd:δ t=some d):∃i,P.info? t=some i/\i.size=d.size/\i.bytes=d.bytes:=by
 obtain⟨i,u,h1,h2,h3,h4,h5,h6,h7⟩:=(bw t d hd).ok;exact⟨i,h1,h3.symm,h4.symm⟩
omit [Gl]in
theorem a_ (bw:cg P δ){t e:Nat}{d:TD}(hd:δ t=some d)(hs:d.sh=.slice e):P.underlying t=some (.slice e):=by
 obtain⟨u,h1,h2⟩:=fI bw hd;rw[hs]at h2;cases u<;>simp[cz]at h2;rw[h1,h2]
omit [Gl]in
theorem nL (bw:cg P δ){t n e:Nat}{d:TD}(hd:δ t=some d)(hs:d.sh=.array n e):P.underlying t=some (.array n e):=by
 obtain⟨u,h1,h2⟩:=fI bw hd;rw[hs]at h2;cases u<;>simp[cz]at h2;rw[h1,h2.1,h2.2]
omit [Gl]in
theorem pR (bw:cg P δ){t:Nat}{d:TD}(hd:δ t=some d)(hs:d.sh=.str):P.underlying t=some .string:=by
 obtain⟨u,h1,h2⟩:=fI bw hd;rw[hs]at h2;cases u<;>simp[cz]at h2;exact h1
omit [Gl]in
theorem Dc (bw:cg P δ){t:Nat}{k:IntKind}{d:TD}(hd:δ t=some d)(hs:d.sh=.int k):P.underlying t=some (.int k):=by
 obtain⟨u,h1,h2⟩:=fI bw hd;rw[hs]at h2;cases u<;>simp[cz]at h2;rw[h1,h2]
omit [Gl]in
theorem zU (bw:cg P δ){t:Nat}{d:TD}(hd:δ t=some d)(hs:d.sh=.bool):P.underlying t=some .bool:=by
 obtain⟨u,h1,h2⟩:=fI bw hd;rw[hs]at h2;cases u<;>simp[cz]at h2;exact h1
omit [Gl]in
theorem yw (bw:cg P δ){t k e:Nat}{d:TD}(hd:δ t=some d)(hs:d.sh=.map k e):P.underlying t=some (.map k e):=by
 obtain⟨u,h1,h2⟩:=fI bw hd;rw[hs]at h2;cases u<;>simp[cz]at h2;rw[h1,h2.1,h2.2]
omit [Gl]in
theorem I7 (bw:cg P δ){t e:Nat}{d:TD}(hd:δ t=some d)(hs:d.sh=.ptr e):P.underlying t=some (.pointer e):=by
 obtain⟨u,h1,h2⟩:=fI bw hd;rw[hs]at h2;cases u<;>simp[cz]at h2;rw[h1,h2]
omit [Gl]in
theorem Gc (bw:cg P δ){t:Nat}{d:TD}(hd:δ t=some d)(hs:d.sh=.func):∃a b c,P.underlying t=some (.func a b c):=by
 obtain⟨u,h1,h2⟩:=fI bw hd;rw[hs]at h2;cases u<;>simp[cz]at h2;exact⟨_,_,_,h1⟩
omit [Gl]in
theorem oU (bw:cg P δ){t:Nat}{l:List (Nat×Nat)}{d:TD}(hd:δ t=some d)(hs:d.sh=.struct l):∃fs,P.underlying t=some (.struct fs)/\fs.toList.map (λf=>(f.offset,f.type))=l:=by
 obtain⟨u,h1,h2⟩:=fI bw hd;rw[hs]at h2;cases u<;>simp[cz]at h2;exact⟨_,h1,h2⟩
omit [Gl]in
theorem gi {O:Nat->Prop}{x:T}{v:Value}(hx:(∃k es,x=.dO k es)\/∃k f,x=.bJ k f)(h:VT w O x v):∃k p cap,v=.slice p x.rows.length cap/\
  (∀k' es,x=.dO k' es->k'=k)/\(∀k' f,x=.bJ k' f->k'=k)/\(p=none->x.rows=[]/\cap=0)/\x.rows.length<=cap/\
  (∀(i:Nat) e,x.rows[i]?=some e->∃b off,p=some ⟨b,off,none⟩/\VT w O (.gx e) (.pointer (some ⟨b,off+i*k,none⟩))):=by
 have key:∀{k es v},VT w O (.dO k es) v->∃p cap,v=.slice p es.length cap/\(p=none->es=[]/\cap=0)/\es.length<=cap/\
   (∀(i:Nat) e,es[i]?=some e->∃b off,p=some ⟨b,off,none⟩/\VT w O (.gx e) (.pointer (some ⟨b,off+i*k,none⟩))):=by
  intro k es v h
  cases h with
  |dO c h1 h2 h3 h4 h5 h6=>
   refine⟨_,_,rfl,λh=>(by cases h),h3,λi e he=>⟨_,_,rfl,.gx (c i) h1 h2 (λj x hx=> ?_) (λj x hx=>h6 i j e x he hx)⟩⟩;rw[Nat.add_assoc];exact h5 i j e x he hx
  | @oO _ a cap h0=>exact⟨a,cap,rfl,λh=>⟨rfl,h0 h⟩,Nat.zero_le _,λi e he=>by simp at he⟩
 rcases hx with⟨k,es,rfl⟩|⟨k,f,rfl⟩
 ·obtain⟨p,cap,h1,h2,h3,h6⟩:=key h;exact⟨k,p,cap,h1,λk' es' e=>by cases e;rfl,λk' f e=>(by cases e),h2,h3,h6⟩
 ·cases h with
  |bJ hf h=>
   rename_i es;obtain⟨p,cap,h1,h2,h3,h6⟩:=key h;have hr:(T.bJ k f).rows=es:=by simp only[T.rows,hf]
   rw[hr];exact⟨k,p,cap,h1,λk' es' e=>(by cases e),λk' f' e=>by cases e;rfl,h2,h3,h6⟩
  |zM hf=>
   have hr:(T.bJ k f).rows=[]:=by simp only[T.rows,hf]
   rw[hr];exact⟨k,none,0,rfl,λk' es' e=>(by cases e),λk' f' e=>by cases e;rfl,λ_=>⟨rfl,rfl⟩,Nat.zero_le _,λi e he=>by simp at he⟩
omit [Gl]in
theorem ur {len:Nat}{n:Int}(h:dJ len n=true):0<=n/\n<len:=by simpa[dJ]using h
theorem qT (bw:cg P δ)(hs:St w F μ ob){t:Nat}{x i:AV}{v vi:Value}(hv:VR w F μ x v)(hi:VR w F μ i vi)(h:iG δ t x i ob K):fy P (Instr.indexAt t v vi) w F μ ob K:=by
 unfold iG at h;split at h
 ·rename_i d k n hd
  cases hi with
  |c hi=>
   cases hi with
   |int=>
    split at h
    ·rename_i e hsh;have hu:=a_ bw hd hsh;split at h
     ·rename_i ed ir;obtain⟨ie,q1,q2,_⟩:=fP bw ir;split at h
      ·rename_i o k' i0 len cap;split at h
       ·rename_i hk;have hk':k'=ed.size:=by simpa using hk
        obtain⟨hin,h⟩:=eC h;simp at hin;obtain⟨Ed,Gd⟩:=ur hin
        cases hv with
        | @sl _ _ _ _ _ b hb _ _=>
         refine .q (v:=.pointer (some ⟨b,(i0.den+n.den.toNat)*k'+0,none⟩)) (λw' _=> ?_) ?_ h
         ·simp[Instr.indexAt,asIntOf,run_underlying hu,Ed,Gd,cO q1,Addr.add_lit,q2,hk',Nat.add_mul]
         ·have:=VR.eZ (w:=w) (F:=F) (k:=k') (i:=m2 (λi0 n=>i0+n.toNat) i0 n) (off:=0) hb;simpa using this
        | @wj _ _ _ _ _ a hb hc _ h0=>
         cases a with
         |none=>have:=h0 rfl;omega
         |some a=>
          refine .q (v:=.pointer (some (a.add (n.den.toNat*ed.size)))) (λw' _=> ?_) (.iY hb) h;simp[Instr.indexAt,asIntOf,run_underlying hu,Ed,Gd,cO q1,q2]
       ·exact h.elim
      ·rename_i k' es;split at h
       ·rename_i hk;have hk':k'=ed.size:=by simpa using hk
        obtain⟨c,F_,pP,h⟩:=mY h;simp at pP
        cases hv with
        |c hv=>
         obtain⟨k2,p,cap,r1,r6,_,_,_,r7⟩:=gi (.inl ⟨_,_,rfl⟩) hv;have hkk:=r6 _ _ rfl;simp only[T.rows]at r1 r7;have hlt:n.den.toNat<es.length:=(List.getElem?_eq_some_iff.1 pP).1;obtain⟨b,off,rfl,r8⟩:=r7 _ c pP;refine .q (λw' _=> ?_) (.c r8) h;rw[r1];have:n.den<es.length:=by omega
         simp[Instr.indexAt,asIntOf,run_underlying hu,F_,this,cO q1,Addr.add_lit,q2,<-hk',hkk]
       ·exact h.elim
      ·rename_i k' f;split at h
       ·rename_i hk;have hk':k'=ed.size:=by simpa using hk
        obtain⟨c,F_,pP,h⟩:=mY h;simp at pP
        cases hv with
        |c hv=>
         obtain⟨k2,p,cap,r1,_,r6,_,_,r7⟩:=gi (.inr ⟨_,_,rfl⟩) hv;have hkk:=r6 _ _ rfl;subst hkk;have hlt:n.den.toNat<(T.bJ k' f).rows.length:=(List.getElem?_eq_some_iff.1 pP).1;obtain⟨b,off,rfl,r8⟩:=r7 _ c pP;refine .q (λw' _=> ?_) (.c r8) h;rw[r1];have:n.den<(T.bJ k' f).rows.length:=by omega
         simp[Instr.indexAt,asIntOf,run_underlying hu,F_,this,cO q1,Addr.add_lit,q2,<-hk']
       ·exact h.elim
      ·exact h.elim
     ·exact h.elim
    ·rename_i len e hsh;have hu:=nL bw hd hsh;split at h
     ·rename_i ed ir;obtain⟨ie,q1,q2,_⟩:=fP bw ir;split at h
      ·rename_i o off n';split at h
       ·rename_i Gb hin;obtain⟨Ed,Gd⟩:=ur hin;obtain⟨b,hb⟩:=hs.alive Gb;have iA:=hv.BR hb;refine .q (v:=.pointer (some ⟨b,off+n'.toNat*ed.size,none⟩)) (λw' _=> ?_) (.ref hb) h;rw[iA];simp[Instr.indexAt,asIntOf,run_underlying hu,Instr.sureAddr,Ed,Gd,cO q1,Addr.add_lit,q2]
       ·exact h.elim
      ·exact h.elim
     ·exact h.elim
    ·exact h.elim
 ·exact h.elim
omit [Gl]in
theorem sD {cs:List AV}{ed:TD}:∀{n off:Nat}{l:List AV},ue cs ed n off=some l->l.length=n/\∀(i:Nat) y,l[i]?=some y->k_ cs (off+i*ed.size) ed=some y
 |0,off,l,h=>by simp[ue]at h;subst h;exact⟨rfl,λi y h=>by simp at h⟩
 |n+1,off,l,h=>by
  simp only[ue]at h;split at h
  ·rename_i y r hy hr;cases h;obtain⟨h1,h2⟩:=sD hr;refine⟨by simp[h1],λi z hz=> ?_⟩
   cases i with
   |zero=>simp at hz;subst hz;simpa using hy
   |succ i=>
    have:=h2 i z (by simpa using hz);rw[Nat.add_mul,Nat.one_mul,Nat.add_comm (i*ed.size),<-Nat.add_assoc];exact this
  ·cases h
theorem yx (bw:cg P δ)(_hs:St w F μ ob){t:Nat}{x i:AV}{v vi:Value}(hv:VR w F μ x v)(hi:VR w F μ i vi)(h:qM δ t x i ob K):fy P (Instr.index t v vi) w F μ ob K:=by
 unfold qM at h;split at h
 ·rename_i d k n hd
  cases hi with
  |c hi=>
   cases hi with
   |int=>
    split at h
    ·rename_i hsh;have hu:=pR bw hd hsh;split at h
     ·rename_i s
      cases hv with
      |c hv=>
       cases hv with
       |str=>
        obtain⟨hin,h⟩:=eC h;simp at hin;obtain⟨Ed,Gd⟩:=ur hin;have hlt:n.den.toNat<s.den.size:=by omega
        refine .q (v:=.int .u8 (yl s.den n.den)) (λw' _=> ?_) ?_ h
        ·have:s.den[n.den.toNat]?=some s.den[n.den.toNat]:=by simp[hlt]
         simp only[Instr.index,asIntOf,Sem.run_bind,Sem.run_pure,Result.andThen_ok,run_underlying hu,if_pos Ed,this];have e:s.den.data.toList.getD n.den.toNat 0=s.den[n.den.toNat]:=by
          have:n.den.toNat<s.den.data.toList.length:=by simpa using hlt
          rw[List.getD,List.getElem?_eq_getElem this];rfl
         simp only[yl,e]
        ·have:=VT.int (w:=w) (O:=own F μ) (k:=.u8) (n:=m2 yl s n);simpa using VR.c this
     ·exact h.elim
    ·rename_i len e hsh;have hu:=nL bw hd hsh;split at h
     ·rename_i ed ir;obtain⟨ie,q1,q2,_⟩:=fP bw ir;split at h
      ·rename_i cs;split at h
       ·rename_i l hl;obtain⟨l1,l2⟩:=sD hl;obtain⟨y,LW,hn2,h⟩:=mY h;simp at hn2;have hlt:n.den.toNat<len:=by rw[<-l1];exact(List.getElem?_eq_some_iff.1 hn2).1
        cases hv with
        |agg a1 a2 a3=>
         obtain⟨u,tL,zF⟩:=lT bw ir a1 (λi x v hx hv=>⟨a2 i x v hx hv,a3 i v hv⟩) (l2 _ _ hn2);rw[Nat.zero_add]at tL;have hlt':n.den<len:=by omega
         exact .q (λw' _=>by simp[Instr.index,asIntOf,run_underlying hu,LW,hlt',cO q1,q2,tL]) zF h
       ·exact h.elim
      ·exact h.elim
     ·exact h.elim
    ·exact h.elim
 ·exact h.elim
end
end Go.bA
end
section
namespace Go.bA
variable [Gl]
section
variable{P:Program}{δ:Nat->Option TD}{w:World}{F:Nat->Prop}{μ:Mu}{ob:List AO}{K:AV->List AO->Prop}
omit [Gl]in
theorem VR.i (k:IntKind)(n:Th Int):VR w F μ (AI k n) (.int k n.den):=.c .int
omit [Gl]in
theorem VR.b (b:Th Bool):VR w F μ (AB b) (.bool b.den):=.c .bool
omit [Gl]in
theorem VR.s (s:Th ByteArray):VR w F μ (AS s) (.string s.den):=.c .str
omit [Gl]in
theorem VR.iE {k n v}(h:VR w F μ (AI k n) v):v=.int k n.den:=by cases h with|c h=>cases h;rfl
omit [Gl]in
theorem VR.bE {b v}(h:VR w F μ (AB b) v):v=.bool b.den:=by cases h with|c h=>cases h;rfl
omit [Gl]in
theorem VR.sE {s v}(h:VR w F μ (AS s) v):v=.string s.den:=by cases h with|c h=>cases h;rfl
omit [Gl]in
theorem VR.qU {u v}(h:VR w F μ (.c (.lit u)) v):v=u:=by cases h with|c h=>cases h;rfl
theorem uu (bw:cg P δ)(hs:St w F μ ob){t:Nat}{x:AV}{v:Value}(hv:VR w F μ x v)(h:D7 δ t x ob K)(ty:TypeId):fy P (Builtin.len_ #[t] ty #[v]) w F μ ob K:=by
 unfold D7 at h;split at h
 ·rename_i d hd;split at h
  ·rename_i hsh;have hu:=pR bw hd hsh;split at h
   ·rename_i s;refine .q (v:=.int .i64 (m1 (λs:ByteArray=>(s.size:Int)) s).den) (λw' hw=> ?_) (VR.i _ _) h;rw[hv.sE];simp[Builtin.len_,run_underlying hu,goInt]
   ·exact h.elim
  ·rename_i e hsh;have hu:=a_ bw hd hsh;split at h
   ·rename_i o k i len cap;obtain⟨a,iA,_⟩:=hv.FO;refine .q (v:=.int .i64 (m1 Int.ofNat len).den) (λw' hw=> ?_) (VR.i _ _) h;rw[iA];simp[Builtin.len_,run_underlying hu,goInt]
   ·rename_i k es
    cases hv with
    |c hv=>
     obtain⟨k2,p,cap,r1,r6,SE,_⟩:=gi (.inl ⟨_,_,rfl⟩) hv;refine .q (v:=.int .i64 (Th.lit (Int.ofNat (bS es))).den) (λw' hw=> ?_) (VR.i _ _) h;rw[r1];simp[Builtin.len_,run_underlying hu,goInt,T.rows,bQ]
   ·rename_i k f
    cases hv with
    |c hv=>
     obtain⟨k2,p,cap,r1,r6,SE,_⟩:=gi (.inr ⟨_,_,rfl⟩) hv;refine .q (v:=.int .i64 (Th.th λ_=>((T.bJ k f).rows.length:Int)).den) (λw' hw=> ?_) (VR.i _ _) h;rw[r1];simp[Builtin.len_,run_underlying hu,goInt]
   ·refine .q (v:=.int .i64 (Th.lit (0:Int)).den) (λw' hw=> ?_) (VR.i _ _) h;rw[hv.qU];simp[Builtin.len_,run_underlying hu,goInt]
   ·cases hv with
    |c hv=>
     cases hv;refine .q (v:=.int .i64 (Th.lit (0:Int)).den) (λw' hw=> ?_) (VR.i _ _) h;simp[Builtin.len_,run_underlying hu,goInt]
   ·exact h.elim
  ·rename_i n e hsh;have hu:=nL bw hd hsh;refine .q (v:=.int .i64 (Th.lit (Int.ofNat n)).den) (λw' hw=> ?_) (VR.i _ _) h;simp[Builtin.len_,run_underlying hu,goInt]
  ·rename_i k e hsh;have hu:=yw bw hd hsh;split at h
   ·refine .q (v:=.int .i64 (Th.lit (0:Int)).den) (λw' hw=> ?_) (VR.i _ _) h;rw[hv.qU];simp[Builtin.len_,run_underlying hu,goInt]
   ·rename_i o;split at h
    ·rename_i es tM;obtain⟨b,hb,jN⟩:=hs.box tM (by simp)
     cases jN with
     |map bM clock g1 g2 g3=>
      refine .q (v:=.int .i64 (Th.lit (Int.ofNat (bS es))).den) (λw' hw=> ?_) (VR.i _ _) h;rw[hv.I4 hb];simp[Builtin.len_,run_underlying hu,goInt,getObj,Sem.run,(hw.2 b (hs.lt _ b hb)).trans g1,bQ,g2]
    ·rename_i kk ag es tM;obtain⟨b,hb,jN⟩:=hs.box tM (by simp)
     cases jN with
     |jq bM clock g1 g2 g3 g4=>
      refine .q (v:=.int .i64 (Th.th λ_=>(es.den.length:Int)).den) (λw' hw=> ?_) (VR.i _ _) h;have g5:bM.size=es.den.length:=by have:=g2.1;simpa using this
      rw[hv.I4 hb];simp[Builtin.len_,run_underlying hu,goInt,getObj,Sem.run,(hw.2 b (hs.lt _ b hb)).trans g1,g5]
    ·exact h.elim
   ·exact h.elim
  ·exact h.elim
 ·exact h.elim
omit [Gl]in
theorem pS (bw:cg P δ){t:Nat}{d:TD}(hd:δ t=some d){x y:AV}{a b:Value}{r:Th Bool}(ha:VR w F μ x a)(hb:VR w F μ y b)(h:gP d.sh x y=some r)(n:Nat)(w':World):
  (Op.equalIn (n+1) t a b).run P w'=.ok r.den w':=by
 unfold gP at h;split at h
 ·rename_i k hsh;split at h
  ·rename_i k1 a1 k2 b1;split at h
   ·rename_i hkk;have hkk':k1=k2:=by simpa using hkk
    subst hkk';cases h;rw[ha.iE,hb.iE,run_equalIn_int w' n t _ k _ _ (Dc bw hd hsh)];simp
   ·cases h
  ·cases h
 ·rename_i hsh;split at h
  ·cases h;rw[ha.bE,hb.bE,run_equalIn_bool' w' n t _ _ (zU bw hd hsh)];simp
  ·cases h
 ·rename_i hsh;split at h
  ·cases h;rw[ha.sE,hb.sE,run_equalIn_string w' n t _ _ (pR bw hd hsh)];simp[beq_toListBytes]
  ·cases h
 ·cases h
omit [Gl]in
theorem jO (bw:cg P δ)(w':World):∀(k n:Nat){xs ys:List AV}{vx vy:Array Value},k<=n->vx.size=xs.length->vy.size=ys.length->
  (∀(i:Nat) x v,xs[i]?=some x->vx[i]?=some v->VR w F μ x v/\v.oneCell'=true)->(∀(i:Nat) x v,ys[i]?=some x->vy[i]?=some v->VR w F μ x v/\v.oneCell'=true)->
  ∀(fs:List Field),(∀f∈fs,f.name≠ "_")->∀r,eqFields δ k xs ys (fs.map λf=>(f.offset,f.type))=some r->(Op.eqFields (n+1) vx vy fs).run P w'=.ok r.den w'
 |0,n,xs,ys,vx,vy,_,_,_,_,_,[],_,r,h=>by cases h;rfl
 |k+1,n,xs,ys,vx,vy,_,_,_,_,_,[],_,r,h=>by cases h;rfl
 |0,n,xs,ys,vx,vy,_,_,_,_,_,f::fs,hn,r,h=>by simp[eqFields]at h
 |k+1,n,xs,ys,vx,vy,hk,hx,hy,cx,cy,f::fs,hn,r,h=>by
  simp only[List.map_cons,eqFields]at h;have ih:=λb hb=>jO bw w' k n (by omega) hx hy cx cy fs (λg hg=>hn g (List.mem_cons_of_mem _ hg)) b hb;split at h
  ·rename_i d hd;split at h
   ·rename_i gs hsh heq;split at h
    ·rename_i xs' ys' lx ly;split at h
     ·rename_i a b ha hb;cases h;obtain⟨v1,p1,q1⟩:=lT bw hd hx cx lx;obtain⟨v2,p2,q2⟩:=lT bw hd hy cy ly;have uv:=(bw _ d hd).eq heq;obtain⟨fl,hu,hfl⟩:=oU bw hd hsh;unfold yp at uv;simp only[hu,Bool.and_eq_true,Bool.not_eq_true',List.all_eq_true]at uv;obtain⟨⟨f1,f2⟩,f3⟩:=uv;have hfo:P.fieldsOf f.type=fl:=by simp[Program.fieldsOf,hu]
      cases q1 with
      |agg a1 a2 a3=>
       rename_i WO
       cases q2 with
       |agg b1 b2 b3=>
        rename_i WQ;obtain⟨n',rfl⟩:∃n',n=n'+1:=⟨n -1,by omega⟩;have h1:=jO bw w' k n' (by omega) a1 b1 (λi x v hx hv=>⟨a2 i x v hx hv,a3 i v hv⟩) (λi x v hx hv=>⟨b2 i x v hx hv,b3 i v hv⟩) fl.toList (λg hg=>by have:=f3 g hg;simpa using this) a (by rw[hfl];exact ha);have e1:(Op.equalIn (n'+1+1) f.type (.agg WO) (.agg WQ)).run P w'=.ok a.den w':=by
         rw[run_equalIn_struct w' (n'+1) f.type WO WQ (by rw[hfo];exact hu) f1,hfo];exact h1
        simp only[Op.eqFields,if_pos (hn f List.mem_cons_self),Sem.run_bind,p1,p2,e1,Result.andThen_ok,Sem.run_ite];cases hr:a.den
        ·simp[hr]
        ·simp[hr,ih b hb]
     ·cases h
    ·cases h
   ·split at h
    ·rename_i x y SF hyy;split at h
     ·rename_i a b hab hb;cases h;rw[cq]at SF hyy;have lx:f.offset<vx.size:=by rw[hx];exact(List.getElem?_eq_some_iff.1 SF).1
      have ly:f.offset<vy.size:=by rw[hy];exact(List.getElem?_eq_some_iff.1 hyy).1
      have e1:=pS bw hd (cx _ x vx[f.offset] SF (Array.getElem?_eq_getElem lx)).1 (cy _ y vy[f.offset] hyy (Array.getElem?_eq_getElem ly)).1 hab n w';obtain⟨u,tL,zF⟩:=fI bw hd;have zP:w9 u=false:=by
       unfold gP at hab;cases u<;>simp[cz]at zF<;>first|rfl|(rw[<-zF]at hab;simp at hab)
      have p1:(part f.type vx f.offset).run P w'=.ok vx[f.offset] w':=by simp[part,jF tL,zP,lx]
      have p2:(part f.type vy f.offset).run P w'=.ok vy[f.offset] w':=by simp[part,jF tL,zP,ly]
      simp only[Op.eqFields,if_pos (hn f List.mem_cons_self),Sem.run_bind,p1,p2,e1,Result.andThen_ok,Sem.run_ite];cases hr:a.den
      ·simp[hr]
      ·simp[hr,ih b hb]
     ·cases h
    ·cases h
  ·cases h
omit [Gl]in
theorem m0 {x:AV}{v:Value}{b:Option Bool}{l:Th Nat}(hv:VR w F μ x v)(h:uf x=some (b,l)):
  ∃a n c,v=.slice a n c/\(a=none->n=0/\c=0)/\(∀b',b=some b'->b'=a.isNone)/\(b=none->n=l.den):=by
 unfold uf at h;split at h
 ·cases h;exact⟨none,0,0,hv.qU,λ_=>⟨rfl,rfl⟩,λb' h=>by cases h;rfl,λh=>by cases h⟩
 ·cases h
  cases hv with
  |c hv=>
   obtain⟨k2,p,cap,r1,_,_,r2,_⟩:=gi (.inl ⟨_,_,rfl⟩) hv;refine⟨p,_,cap,r1,λh=> ?_,λb' h=> ?_,λh=>by cases h⟩
   ·have:=(r2 h).1;simp[T.rows]at this
   ·cases h
    cases p with
    |none=>have:=(r2 rfl).1;simp[T.rows]at this
    |some a=>rfl
 ·cases h
  cases hv with
  |c hv=>
   obtain⟨k2,p,cap,r1,_,_,r2,_⟩:=gi (.inl ⟨_,_,rfl⟩) hv;exact⟨p,_,cap,r1,λh=>⟨by rw[(r2 h).1];rfl,(r2 h).2⟩,λb' h=>(by cases h),λ_=>rfl⟩
 ·cases h
  cases hv with
  |c hv=>cases hv;exact⟨_,0,0,rfl,λh=>⟨rfl,rfl⟩,λb' h=>(by cases h),λ_=>rfl⟩
 ·cases h
  cases hv with
  |c hv=>
   obtain⟨k2,p,cap,r1,_,_,r2,_⟩:=gi (.inr ⟨_,_,rfl⟩) hv;exact⟨p,_,cap,r1,λh=>⟨by rw[(r2 h).1];rfl,(r2 h).2⟩,λb' h=>(by cases h),λ_=>rfl⟩
 ·cases h;obtain⟨a,r1,r2,_,r3⟩:=hv.FO;exact⟨a,_,_,r1,λh=>⟨by have:=r3 h;omega,r3 h⟩,λb' h=>(by cases h),λ_=>rfl⟩
 ·cases h
theorem yy (hs:St w F μ ob){x:AV}{v:Value}{b:Bool}(hv:VR w F μ x v)(h:qN ob x=some b):
  (b=true/\v=.pointer none)\/(b=false/\∃a,v=.pointer (some a)):=by
 unfold qN at h;split at h
 ·cases h;exact .inl ⟨rfl,hv.qU⟩
 ·cases h;cases hv with|c hv=>obtain⟨b,off,r1⟩:=qR hv;exact .inr ⟨rfl,_,r1⟩
 ·split at h
  ·rename_i Gb;cases h;obtain⟨b,hb⟩:=hs.alive Gb;exact .inr ⟨rfl,_,hv.BR hb⟩
  ·cases h
 ·cases h;obtain⟨a,ha⟩:=hv.KS;exact .inr ⟨rfl,_,ha⟩
 ·cases h
omit [Gl]in
theorem zV {x:AV}{v:Value}{b:Bool}(hv:VR w F μ x v)(h:nilFn x=some b):(b=true/\v=.nilFunc)\/(b=false/\∃f a c,v=.func f a c):=by
 unfold nilFn at h;split at h
 ·cases h;exact .inl ⟨rfl,hv.qU⟩
 ·cases h;cases hv;exact .inr ⟨rfl,_,_,_,rfl⟩
 ·cases h
omit [Gl]in
theorem yz {x:AV}{v:Value}{b:Bool}(hv:VR w F μ x v)(h:BM x=some b):(b=true/\v=.nilIface)\/(b=false/\∃t u,v=.iface t u):=by
 unfold BM at h;split at h
 ·cases h;exact .inl ⟨rfl,hv.qU⟩
 ·cases h;cases hv;exact .inr ⟨rfl,_,_,rfl⟩
 ·cases h
omit [Gl]in
theorem xb (neg:Bool)(b:Th Bool):(ld neg b).den=if neg then !b.den else b.den:=by cases neg<;>simp[ld]
omit [Gl]in
theorem uw {t e:TypeId}(h:P.underlying t=some (.slice e))(d:Nat)(a:Option Addr)(n c:Nat)(ha:a=none/\n=0/\c=0\/a.isSome):
  (Op.equalIn (d+1) t (.slice a n c) (.slice none 0 0)).run P w=.ok a.isNone w:=by
 rcases ha with⟨rfl,rfl,rfl⟩|ha
 ·simp[Op.equalIn,run_underlying h]
 ·cases a with
  |none=>cases ha
  |some a=>simp[Op.equalIn,run_underlying h]
omit [Gl]in
theorem zW {t e:TypeId}(h:P.underlying t=some (.pointer e))(d:Nat)(a:Option Addr):(Op.equalIn (d+1) t (.pointer a) (.pointer none)).run P w=.ok a.isNone w:=by
 cases a<;>simp[Op.equalIn,run_underlying h]
omit [Gl]in
theorem xd {t:TypeId}{p q:Array TypeId}{r:Bool}(h:P.underlying t=some (.func p q r))(d:Nat)(f:Fn)(a c:Array Value):(Op.equalIn (d+1) t (.func f a c) .nilFunc).run P w=.ok false w:=by
 simp[Op.equalIn,run_underlying h]
omit [Gl]in
theorem ux {t:TypeId}{p q:Array TypeId}{r:Bool}(h:P.underlying t=some (.func p q r))(d:Nat):(Op.equalIn (d+1) t .nilFunc .nilFunc).run P w=.ok true w:=by
 simp[Op.equalIn,run_underlying h]
omit [Gl]in
theorem zX {t:TypeId}{ms:Array (String×TypeId)}(h:P.underlying t=some (.interface ms))(d:Nat)(u:TypeId)(x:Value):(Op.equalIn (d+1) t (.iface u x) .nilIface).run P w=.ok false w:=by
 simp[Op.equalIn,run_underlying h]
omit [Gl]in
theorem xe {t:TypeId}{ms:Array (String×TypeId)}(h:P.underlying t=some (.interface ms))(d:Nat):(Op.equalIn (d+1) t .nilIface .nilIface).run P w=.ok true w:=by
 simp[Op.equalIn,run_underlying h]
omit [Gl]in
theorem gy {t:TypeId}{a b:Value}{r:Bool}(hb:binOp .eql t a b=(do pure (.bool (<-Op.equal t a b))))(h:(Op.equalIn (9999+1) t a b).run P w=.ok r w):(binOp .eql t a b).run P w=.ok (.bool r) w:=by
 rw[hb];simp only[Sem.run_bind,Op.equal,Op.maxDepth,h,Result.andThen_ok,Sem.run_pure]
omit [Gl]in
theorem gA {t:TypeId}{a b:Value}{r:Bool}(hb:binOp .neq t a b=(do pure (.bool (!(<-Op.equal t a b)))))(h:(Op.equalIn (9999+1) t a b).run P w=.ok r w):(binOp .neq t a b).run P w=.ok (.bool !r) w:=by
 rw[hb];simp only[Sem.run_bind,Op.equal,Op.maxDepth,h,Result.andThen_ok,Sem.run_pure]
theorem xg (bw:cg P δ)(hs:St w F μ ob){t:Nat}{neg:Bool}{x y:AV}{a b:Value}(ha:VR w F μ x a)(hb:VR w F μ y b){o1 o2:Operand}(h:LO δ t neg (pM o2) x y ob K)(op:BinOp)(hop:op=if neg then .neq else .eql):
  fy P (do eqGuard op t o1 o2 a b;binOp op t a b) w F μ ob K:=by
 have gd:∀r:Th Bool,(∀w:World,(eqGuard op t o1 o2 a b).run P w=.ok () w)->(∀w:World,(binOp op t a b).run P w=.ok (.bool (ld neg r).den) w)->K (AB (ld neg r)) ob->
   fy P (do eqGuard op t o1 o2 a b;binOp op t a b) w F μ ob K:=λr hg hr hk=>.q (λw' _=>by simp only[Sem.run_bind,hg,Result.andThen_ok,hr]) (VR.b _) hk
 unfold LO at h;split at h
 ·rename_i d hd;split at h
  ·rename_i hsh;split at h
   ·rename_i r hr;have hr':=pS bw hd ha hb (by rw[hsh];exact hr) 9999;have hu:=zU bw hd hsh;unfold gP at hr;simp only at hr;split at hr
    ·cases hr;have ea:=ha.bE;have eb:=hb.bE;subst ea;subst eb;refine gd _ (λw=> ?_) (λw=> ?_) h
     ·subst hop;cases neg<;>simp[eqGuard]
     ·subst hop;cases neg
      ·exact gy rfl (hr' w)
      ·have:=gA (a:=.bool _) (b:=.bool _) rfl (hr' w);simpa[ld]using this
    ·cases hr
   ·exact h.elim
  ·rename_i fs hsh;split at h
   ·rename_i xs ys heq;split at h
    ·rename_i r hr;have uv:=(bw t d hd).eq heq;obtain⟨fl,hu,hfl⟩:=oU bw hd hsh;unfold yp at uv;simp only[hu,Bool.and_eq_true,Bool.not_eq_true',List.all_eq_true]at uv;obtain⟨⟨f1,f2⟩,f3⟩:=uv
     cases ha with
     |agg a1 a2 a3=>
      rename_i vx
      cases hb with
      |agg b1 b2 b3=>
       rename_i vy;have hfo:P.fieldsOf t=fl:=by simp[Program.fieldsOf,hu]
       have Yj:=λw'=>jO bw w' 64 9998 (by omega) a1 b1 (λi x v hx hv=>⟨a2 i x v hx hv,a3 i v hv⟩) (λi x v hx hv=>⟨b2 i x v hx hv,b3 i v hv⟩) fl.toList (λf hf=>by have:=f3 f hf;simpa using this) r (by rw[hfl];exact hr);have hrun:∀w:World,(Op.equalIn 10000 t (.agg vx) (.agg vy)).run P w=.ok r.den w:=λw=>by
        rw[run_equalIn_struct w 9999 t vx vy (by rw[hfo];exact hu) f1,hfo];exact Yj w
       refine gd _ (λw=>run_eqGuard_agg w op t o1 o2 _ _ f2) (λw=> ?_) h;subst hop;cases neg
       ·simp[run_eql_struct,hrun,xb]
       ·simp[run_neq_struct,hrun,xb]
    ·exact h.elim
   ·exact h.elim
  ·rename_i e hsh;have hu:=a_ bw hd hsh;split at h
   ·have eb:=hb.qU;subst eb;have fin:∀{p:Option Addr}{n c:Nat},a=.slice p n c->(p=none->n=0/\c=0)->K (AB (ld neg (.lit p.isNone))) ob->fy P (do eqGuard op t o1 o2 a (.slice none 0 0);binOp op t a (.slice none 0 0)) w F μ ob K:=by
     intro p n c e h0 hk;subst e;have hh:p=none/\n=0/\c=0\/p.isSome:=by
      cases p with
      |none=>exact .inl ⟨rfl,h0 rfl⟩
      |some a=>exact .inr rfl
     refine gd (.lit p.isNone) (λw=>by subst hop;cases neg<;>simp[eqGuard]) (λw=> ?_) hk;subst hop;cases neg
     ·exact gy rfl (uw hu 9999 _ _ _ hh)
     ·exact gA rfl (uw hu 9999 _ _ _ hh)
    split at h
    ·rename_i r l hr;obtain⟨a',n,c,e,h0,h1,_⟩:=m0 ha hr;rw[h1 _ rfl]at h;exact fin e h0 h
    ·rename_i l hr;obtain⟨a',n,c,e,h0,h1,h2⟩:=m0 ha hr;exact fin e h0 (h.all _ (λhn=>by
      rw[<-h2 rfl];exact(h0 (Option.isNone_iff_eq_none.1 hn)).1))
    ·exact h.elim
   ·exact h.elim
  ·rename_i e hsh;have hu:=I7 bw hd hsh;split at h
   ·split at h
    ·rename_i r hr;have eb:=hb.qU;subst eb;rcases yy hs ha hr with⟨rfl,rfl⟩|⟨rfl,u,rfl⟩<;>
     (refine gd _ (λw=>by subst hop;cases neg<;>simp[eqGuard]) (λw=> ?_) h;subst hop;cases neg)<;>first
      |exact gy rfl (zW hu 9999 _)
      |exact gA rfl (zW hu 9999 _)
    ·exact h.elim
   ·exact h.elim
  ·rename_i hsh;obtain⟨u1,u2,u3,hu⟩:=Gc bw hd hsh;split at h
   ·split at h
    ·rename_i r hr;have eb:=hb.qU;subst eb;rcases zV ha hr with⟨rfl,rfl⟩|⟨rfl,u,n,c,rfl⟩<;>
     (refine gd _ (λw=>by subst hop;cases neg<;>simp[eqGuard]) (λw=> ?_) h;subst hop;cases neg)<;>first
      |exact gy rfl (ux hu 9999)
      |exact gA rfl (ux hu 9999)
      |exact gy rfl (xd hu 9999 _ _ _)
      |exact gA rfl (xd hu 9999 _ _ _)
    ·exact h.elim
   ·exact h.elim
  ·rename_i hsh;obtain⟨u0,Yk,tL⟩:=fI bw hd;have hu:∃ms,P.underlying t=some (.interface ms):=by
    rw[hsh]at tL;cases u0<;>simp[cz]at tL;exact⟨_,Yk⟩
   obtain⟨ms,hu⟩:=hu;split at h
   ·rename_i Yl;have hc:∃z,o2=.const z:=by cases o2<;>simp[pM]at Yl;exact⟨_,rfl⟩
    obtain⟨z,rfl⟩:=hc;split at h
    ·rename_i r hr;have eb:=hb.qU;subst eb;rcases yz ha hr with⟨rfl,rfl⟩|⟨rfl,u,n,rfl⟩<;>
     (refine gd _ (λw=>by subst hop;cases neg<;>simp[eqGuard]) (λw=> ?_) h;subst hop;cases neg)<;>first
      |exact gy rfl (xe hu 9999)
      |exact gA rfl (xe hu 9999)
      |exact gy rfl (zX hu 9999 _ _)
      |exact gA rfl (zX hu 9999 _ _)
    ·exact h.elim
   ·exact h.elim
  ·exact h.elim
 ·exact h.elim
end
end Go.bA
end
section
namespace Go.bA
variable [Gl]
section
variable{P:Program}{δ:Nat->Option TD}{w:World}{F:Nat->Prop}{μ:Mu}{ob:List AO}{K:AV->List AO->Prop}
omit [Gl]in
theorem VR.i' {k:IntKind}{n:Th Int}{r:Int}(h:n.den=r):VR w F μ (AI k n) (.int k r):=h▸VR.i k n
omit [Gl]in
theorem VR.b' {b:Th Bool}{r:Bool}(h:b.den=r):VR w F μ (AB b) (.bool r):=h▸VR.b b
omit [Gl]in
theorem VR.s' {b:Th ByteArray}{r:ByteArray}(h:b.den=r):VR w F μ (AS b) (.string r):=h▸VR.s b
omit [Gl]in
theorem Ee (op:BinOp)(xt:TypeId)(k:IntKind)(a b:Int)(h:op=.add\/op=.sub\/op=.mul\/op=.and\/op=.or\/op=.xor\/op=.andNot):
  (binOp op xt (.int k a) (.int k b)).run P w=.ok (.int k (aH op k a b)) w:=by
 rcases h with rfl|rfl|rfl|rfl|rfl|rfl|rfl<;>simp[binOp,Op.intArith,Op.intBits,aH]
omit [Gl]in
theorem BS (op:BinOp)(xt:TypeId)(k:IntKind)(a b:Int)(h:op=.quo\/op=.rem)(hb:b≠0):
  (binOp op xt (.int k a) (.int k b)).run P w=.ok (.int k (aH op k a b)) w:=by
 rcases h with rfl|rfl<;>simp[binOp,Op.intDiv,aH,hb]
omit [Gl]in
theorem BT (op:BinOp)(xt:TypeId)(k:IntKind)(a b:Int)(h:op=.eql\/op=.neq\/op=.lss\/op=.leq\/op=.gtr\/op=.geq):
  (binOp op xt (.int k a) (.int k b)).run P w=.ok (.bool (ai op a b)) w:=by
 rcases h with rfl|rfl|rfl|rfl|rfl|rfl<;>simp[binOp,Op.intCmp,ai]
omit [Gl]in
theorem xh (op:BinOp)(xt:TypeId)(k k':IntKind)(a b:Int)(h:op=.shl\/op=.shr)(hb:0<=b):
  (binOp op xt (.int k a) (.int k' b)).run P w=.ok (.int k (aH op k a b)) w:=by
 have hb':¬b<0:=by omega
 rcases h with rfl|rfl<;>simp[binOp,Op.shift,aH,hb']
omit [Gl]in
theorem BU (op:BinOp)(xt:TypeId)(a b:ByteArray)(h:op=.eql\/op=.neq\/op=.lss\/op=.leq\/op=.gtr\/op=.geq):
  (binOp op xt (.string a) (.string b)).run P w=.ok (.bool (dA op a b)) w:=by
 rcases h with rfl|rfl|rfl|rfl|rfl|rfl<;>simp[binOp,Op.stringOp,dA]
omit [Gl]in
theorem sF (op:BinOp)(t:TypeId)(o1 o2:Operand)(a b:Value)(h1:a≠.nilIface)(h2:∀c,a≠.agg c):(eqGuard op t o1 o2 a b).run P w=.ok () w:=by
 unfold eqGuard;cases op<;>simp<;>cases a<;>first|rfl|exact absurd rfl h1|exact absurd rfl (h2 _)
theorem BV (bw:cg P δ)(hs:St w F μ ob){op:BinOp}{t:Nat}{x y:AV}{a b:Value}(ha:VR w F μ x a)(hb:VR w F μ y b){o1 o2:Operand}(h:D8 δ op t (pM o2) x y ob K):
  fy P (do eqGuard op t o1 o2 a b;binOp op t a b) w F μ ob K:=by
 unfold D8 at h;split at h
 ·rename_i k n k' m;have ea:=ha.iE;have eb:=hb.iE;subst ea;subst eb;have hg:=λw:World=>sF (P:=P) (w:=w) op t o1 o2 (.int k n.den) (.int k' m.den) (by simp) (by simp);have fin:∀{v x},(∀w:World,(binOp op t (.int k n.den) (.int k' m.den)).run P w=.ok v w)->VR w F μ x v->K x ob->fy P (do eqGuard op t o1 o2 (.int k n.den) (.int k' m.den);binOp op t (.int k n.den) (.int k' m.den)) w F μ ob K:=
   λh1 h2 h3=>.q (λw' _=>by simp only[Sem.run_bind,hg,Result.andThen_ok,h1]) h2 h3
  split at h
  ·obtain⟨hm,h⟩:=eC h;exact fin (λw=>xh (w:=w) _ _ _ _ _ _ (.inl rfl) (by simpa using hm)) (VR.i' (by simp)) h
  ·obtain⟨hm,h⟩:=eC h;exact fin (λw=>xh (w:=w) _ _ _ _ _ _ (.inr rfl) (by simpa using hm)) (VR.i' (by simp)) h
  iterate 6
   ·split at h
    ·rename_i hk;have hk':k=k':=by simpa using hk
     subst hk';exact fin (λw=>BT (w:=w) _ _ _ _ _ (by simp)) (VR.b' (by simp)) h
    ·exact h.elim
  iterate 2
   ·split at h
    ·rename_i hk;have hk':k=k':=by simpa using hk
     subst hk';obtain⟨hm,h⟩:=eC h;exact fin (λw=>BS (w:=w) _ _ _ _ _ (by simp) (by simpa using hm)) (VR.i' (by simp)) h
    ·exact h.elim
  ·rename_i n1 n2 n3 n4 n5 n6 n7 n8 n9 n10;split at h
   ·rename_i hk;have hk':k=k':=by simpa using hk
    subst hk';refine fin (λw=>Ee (w:=w) _ _ _ _ _ ?_) (VR.i' (by simp)) h;cases op<;>simp_all
   ·exact h.elim
 ·rename_i s u;have ea:=ha.sE;have eb:=hb.sE;subst ea;subst eb;have hg:=λw:World=>sF (P:=P) (w:=w) op t o1 o2 (.string s.den) (.string u.den) (by simp) (by simp);have fin:∀{v x},(∀w:World,(binOp op t (.string s.den) (.string u.den)).run P w=.ok v w)->VR w F μ x v->K x ob->fy P (do eqGuard op t o1 o2 (.string s.den) (.string u.den);binOp op t (.string s.den) (.string u.den)) w F μ ob K:=
   λh1 h2 h3=>.q (λw' _=>by simp only[Sem.run_bind,hg,Result.andThen_ok,h1]) h2 h3
  split at h
  iterate 6
   ·exact fin (λw=>BU (w:=w) _ _ _ _ (by simp)) (VR.b' (by simp)) h
  ·obtain⟨hm,h⟩:=eC h;simp at hm;refine fin (v:=.string (s.den++u.den)) (λw=> ?_) (VR.s' (by simp)) h;have hno:¬(((s.den.size+u.den.size:Nat):Int)>IntKind.i64.max):=by
    have:IntKind.i64.max=9223372036854775807:=by decide
    rw[this];omega
   simp only[binOp,Op.stringOp,if_neg hno,Sem.run_pure]
  ·exact h.elim
 ·split at h
  ·exact xg bw hs ha hb h _ rfl
  ·exact xg bw hs ha hb h _ rfl
  ·exact h.elim
theorem Ef (_hs:St w F μ ob){op:UnOp}{x:AV}{a:Value}(ha:VR w F μ x a)(h:N1 op x ob K):fy P (Op.unary op a) w F μ ob K:=by
 unfold N1 at h;split at h
 ·rename_i b;refine .q (v:=.bool (m1 (λb=> !b) b).den) (λw' _=> ?_) (VR.b _) h;rw[ha.bE];simp[Op.unary]
 ·rename_i k n;refine .q (v:=.int k (m1 (N0 .neg k) n).den) (λw' _=> ?_) (VR.i _ _) h;rw[ha.iE];simp[Op.unary,Op.intArith,N0]
 ·rename_i k n;refine .q (v:=.int k (m1 (N0 .xor k) n).den) (λw' _=> ?_) (VR.i _ _) h;rw[ha.iE];simp[Op.unary,Op.intBits,N0]
 ·exact h.elim
theorem zY (bw:cg P δ)(_hs:St w F μ ob){src dst:Nat}(hsrc:∃u,P.underlying src=some u){x:AV}{a:Value}(ha:VR w F μ x a)(h:w8 δ dst x ob K):fy P (convert src dst a) w F μ ob K:=by
 obtain⟨us,WR⟩:=hsrc;unfold w8 at h;split at h
 ·rename_i d hd;split at h
  ·rename_i k k0 n hsh;have hu:=Dc bw hd hsh;refine .q (v:=.int k (m1 k.wrap n).den) (λw' _=> ?_) (VR.i _ _) h;rw[ha.iE];cases us<;>simp[convert,run_underlying WR,run_underlying hu,Conv.intToInt]
  ·rename_i s hsh;have hu:=pR bw hd hsh;refine .q (v:=.string s.den) (λw' _=> ?_) (VR.s _) h;rw[ha.sE];cases us<;>simp[convert,run_underlying WR,run_underlying hu]
  ·exact h.elim
 ·exact h.elim
def KU (w:World)(F:Nat->Prop)(μ:Mu)(ps:List (Nat×AV))(vs:List (Nat×Value)):Prop:=
 vs.length=ps.length/\∀(i:Nat) p q,ps[i]?=some p->vs[i]?=some q->p.1=q.1/\VR w F μ p.2 q.2
omit [Gl]in
theorem KU.cons {p:Nat×AV}{ps:List (Nat×AV)}{vs:List (Nat×Value)}(h:KU w F μ (p::ps) vs):∃q qs,vs=q::qs/\p.1=q.1/\VR w F μ p.2 q.2/\KU w F μ ps qs:=by
 cases vs with
 |nil=>simp[KU]at h
 |cons q qs=>
  have h0:=h.2 0 p q rfl rfl;exact⟨q,qs,rfl,h0.1,h0.2,by have:=h.1;simpa using this,λi p q hp hq=>h.2 (i+1) p q (by simpa using hp) (by simpa using hq)⟩
omit [Gl]in
theorem sG {env:List AV}{a:Act}(hf:FR w F μ env a.tmps)(ps:List (Nat×Operand)):KU w F μ (parts env ps) (ps.map λp=>(p.1,a.eval p.2)):=by
 refine⟨by simp[parts,dR],λi p q hp hq=> ?_⟩;simp only[parts,dR,List.getElem?_map]at hp hq
 cases ho:ps[i]? with
 |none=>rw[ho]at hp;cases hp
 |some o=>
  rw[ho]at hp hq;simp at hp hq;subst hp;subst hq;exact⟨rfl,bf hf o.2⟩
def CR (w:World)(F:Nat->Prop)(μ:Mu)(cs:List AV)(vs:Array Value):Prop:=
 vs.size=cs.length/\∀(i:Nat) x v,cs[i]?=some x->vs[i]?=some v->VR w F μ x v/\v.oneCell'=true
omit [Gl]in
theorem Eg (xs:List Value):∀(off j0:Nat)(cs:Array Value),off+j0+xs.length<=cs.size->
  ((xs.zipIdx j0).foldl (λcs (c,j)=>cs.setIfInBounds (off+j) c) cs).toList=cs.toList.take (off+j0)++xs++cs.toList.drop (off+j0+xs.length):=by
 induction xs with
 |nil=>intro off j0 cs _;simp
 |cons x xs ih=>
  intro off j0 cs h;simp only[List.zipIdx_cons,List.foldl_cons];rw[ih off (j0+1) _ (by simp at h⊢;omega)];apply List.ext_getElem?;intro i;simp only[List.length_cons]at h;have e1:=b9 (cs.setIfInBounds (off+j0) x).toList xs (off+(j0+1)) (by simp;omega) i;have e2:=b9 cs.toList (x::xs) (off+j0) (by simp;omega) i;rw[e1];have WS:=e2;simp only[List.length_cons]at WS⊢;rw[WS];simp only[Array.toList_setIfInBounds];by_cases h1:i<off+j0
  ·rw[if_pos (by omega),if_pos h1,List.getElem?_set_ne (by omega)]
  ·rw[if_neg h1];by_cases h2:i=off+j0
   ·subst h2;rw[if_pos (by omega),if_pos (by omega),List.getElem?_set_self (by simp;omega)];simp
   ·rw[if_neg (by omega)];by_cases h3:i<off+j0+(xs.length+1)
    ·rw[if_pos (by omega),if_pos h3,show i -(off+j0)=(i -(off+(j0+1)))+1 by omega,List.getElem?_cons_succ]
    ·rw[if_neg (by omega),if_neg h3,List.getElem?_set_ne (by omega)]
omit [Gl]in
theorem lU (place:Nat->Option (Nat×Nat))(pl:List (Nat×Nat))(yA:∀i q,nth pl i=some q->place i=some q):
  ∀(ps:List (Nat×AV))(vs:List (Nat×Value))(cs:List AV)(cv:Array Value)(r:List AV),KU w F μ ps vs->CR w F μ cs cv->oC pl ps cs=some r->
   ∃rv,Instr.fill place cv vs=some rv/\CR w F μ r rv
 |[],vs,cs,cv,r,hp,hc,h=>by
  have:vs=[]:=List.eq_nil_of_length_eq_zero (by simpa using hp.1);subst this;simp[oC]at h;subst h;exact⟨cv,rfl,hc⟩
 |(i,x)::ps,vs,cs,cv,r,hp,hc,h=>by
  obtain⟨q,qs,rfl,Ym,LX,BW⟩:=hp.cons;simp only[oC]at h;split at h
  ·rename_i off size xs hn hx;split at h
   ·rename_i hl;have hl':xs.length=size:=by rw[<-bQ];simpa using hl
    split at h
    ·rename_i cs' hcs';obtain⟨hf,he⟩:=mX hcs';obtain⟨c1,c2⟩:=kP hx LX;have hsz:q.2.cells.size=size:=by rw[c1];exact hl'
     have hfit:off+q.2.cells.size<=cv.size:=by rw[c1,hc.1];exact hf
     have OL:(q.2.cells.zipIdx.foldl (λcs (c,j)=>cs.setIfInBounds (off+j) c) cv)=(cv.toList.take off++q.2.cells.toList++cv.toList.drop (off+q.2.cells.toList.length)).toArray:=by
      apply Array.ext';have:=Eg q.2.cells.toList off 0 cv (by simpa using hfit);simp only[Nat.add_zero]at this;rw[<-Array.foldl_toList,Array.toList_zipIdx];exact this
     have SG:CR w F μ cs' (q.2.cells.zipIdx.foldl (λcs (c,j)=>cs.setIfInBounds (off+j) c) cv):=by
      rw[OL];refine⟨by rw[he];simp[hc.1,c1],λj y u hy hu=> ?_⟩;rw[he,b9 cs xs off hf]at hy;have Yn:q.2.cells.toList.length=xs.length:=by simp[c1]
      rw[List.getElem?_toArray,b9 cv.toList q.2.cells.toList off (by simpa using hfit),Yn]at hu;split at hy
      ·rename_i h1;rw[if_pos h1]at hu;exact hc.2 j y u hy (by simpa using hu)
      ·rename_i h1;rw[if_neg h1]at hu;split at hy
       ·rename_i h2;rw[if_pos h2]at hu;exact c2 _ y u hy (by simpa using hu)
       ·rename_i h2;rw[if_neg h2]at hu;exact hc.2 j y u hy (by simpa using hu)
     obtain⟨rv,h1,h2⟩:=lU place pl yA ps qs cs' _ r BW SG h;refine⟨rv, ?_,h2⟩;have OM:q.1=i:=Ym.symm;obtain⟨q1,q2⟩:=q;simp only at OM hsz hfit h1⊢;subst OM;simp only[Instr.fill,yA _ _ hn];have hno:(decide (q2.cells.size≠size)||decide (off+q2.cells.size>cv.size))=false:=by simp[hsz];omega
     rw[hno];exact h1
    ·cases h
   ·cases h
  ·cases h
omit [Gl]in
theorem pT (bw:cg P δ):∀(fs:List Field)(r:List (Nat×Nat)),places δ (fs.map λf=>(f.offset,f.type))=some r->
  ∀w,(fs.mapM (λf=>do pure (f.offset,<-sizeOf f.type):Field->Sem (Nat×Nat))).run P w=.ok r w
 |[],r,h,w=>by simp[places]at h;subst h;rfl
 |f::fs,r,h,w=>by
  simp only[List.map_cons,places]at h;split at h
  ·rename_i e r' he hr';cases h;obtain⟨i,h1,h2,_⟩:=fP bw he;have ih:=pT bw fs r' hr' w;simp only[List.mapM_cons,Sem.run_bind,cO h1,Result.andThen_ok,Sem.run_pure,ih,h2]
  ·cases h
omit [Gl]in
theorem xj (k:Nat):∀(n i j:Nat) q,nth (ug k n i) j=some q->q=((i+j)*k,k)
 |0,i,j,q,h=>by simp[ug,nth]at h
 |n+1,i,0,q,h=>by simp[ug,nth]at h;rw[<-h];rfl
 |n+1,i,j+1,q,h=>by
  simp only[ug,nth]at h;rw[xj k n (i+1) j q h,show i+1+j=i+(j+1) by omega]
theorem yB (bw:cg P δ)(_hs:St w F μ ob){t:Nat}{ps:List (Nat×AV)}{vs:Array (Nat×Value)}(hp:KU w F μ ps vs.toList)(h:qO δ t ps ob K)
  (hz:∀d,δ t=some d->d.zero≠[]):fy P (Instr.build t vs) w F μ ob K:=by
 unfold qO at h;split at h
 ·rename_i d hd;obtain⟨z,z1,z2,z3,z4⟩:=gE bw hd (hz d hd);split at h
  ·rename_i fs hsh;obtain⟨fl,hu,hfl⟩:=oU bw hd hsh;split at h
   ·rename_i pl yA;split at h
    ·rename_i cs hcs;have SH:=pT bw fl.toList pl (by rw[hfl];exact yA);obtain⟨rv,r1,r2⟩:=lU (λi=>pl.toArray[i]?) pl (λi q hq=>by rw[cq]at hq;simpa using hq) ps vs.toList (bG d) z.cells cs hp ⟨z2,λj x u hx hu=>z4 w F μ j x u hx hu⟩ hcs;refine .q (v:=.agg rv) (λw' _=> ?_) (.agg r2.1 (λi x v hx hv=>(r2.2 i x v hx hv).1) (λi v hv=> ?_)) h
     ·have hm:(fl.mapM (λf=>do pure (f.offset,<-sizeOf f.type):Field->Sem (Nat×Nat))).run P w'=.ok pl.toArray w':=by
       rw[Array.mapM_eq_mapM_toList];simp only[Sem.run_map,SH,Result.andThen_ok]
      simp only[Instr.build,Sem.run_bind,z1,Result.andThen_ok,run_underlying hu,hm,r1,Sem.run_pure]
     ·have hlt:i<cs.length:=by rw[<-r2.1];exact(Array.getElem?_eq_some_iff.1 hv).1
      exact(r2.2 i cs[i] v (List.getElem?_eq_getElem hlt) hv).2
    ·exact h.elim
   ·exact h.elim
  ·rename_i n e hsh;have hu:=nL bw hd hsh;split at h
   ·rename_i ed ir;obtain⟨ie,q1,q2,_⟩:=fP bw ir;split at h
    ·rename_i cs hcs;obtain⟨rv,r1,r2⟩:=lU (λi=>some (i*ed.size,ed.size)) (ug ed.size n 0) (λi q hq=>by rw[xj _ _ _ _ _ hq,Nat.zero_add]) ps vs.toList (bG d) z.cells cs hp ⟨z2,λj x u hx hu=>z4 w F μ j x u hx hu⟩ hcs;refine .q (v:=.agg rv) (λw' _=> ?_) (.agg r2.1 (λi x v hx hv=>(r2.2 i x v hx hv).1) (λi v hv=> ?_)) h
     ·simp only[Instr.build,Sem.run_bind,z1,Result.andThen_ok,run_underlying hu,cO q1,q2,r1,Sem.run_pure]
     ·have hlt:i<cs.length:=by rw[<-r2.1];exact(Array.getElem?_eq_some_iff.1 hv).1
      exact(r2.2 i cs[i] v (List.getElem?_eq_getElem hlt) hv).2
    ·exact h.elim
   ·exact h.elim
  ·exact h.elim
 ·exact h.elim
end
end Go.bA
end
section
namespace Go.bA
variable [Gl]
section
variable{P:Program}{δ:Nat->Option TD}{w:World}{F:Nat->Prop}{μ:Mu}{ob:List AO}{K:AV->List AO->Prop}
theorem St.kill {w:World}{F:Nat->Prop}{μ:Mu}{ob:List AO}(hs:St w F μ ob)(o:Nat):St w F (μ.set o none) (ob.set o .dead)/\Ext w μ w (μ.set o none):=by
 have get:∀(q c:Nat),(μ.set o none)[q]?=some (some c)->q≠o/\μ[q]?=some (some c):=by
  intro q c h;by_cases e:o=q
  ·subst e;rw[List.getElem?_set]at h;simp at h
  ·rw[List.getElem?_set_ne e]at h;exact⟨Ne.symm e,h⟩
 have he:Ext w μ w (μ.set o none):=
  {os:=rfl,tape:=rfl,output:=rfl,size:=Nat.le_refl _,ct:=λc hc hn=>rfl
   len:=by simp
   keep:=λq c hq=>by
    have Dd:=(List.getElem?_eq_some_iff.1 hq).1;by_cases e:o=q
    ·subst e;rw[List.getElem?_set_self Dd];exact .inr rfl
    ·rw[List.getElem?_set_ne e];exact .inl hq
   dead:=λq hq=>by
    have Dd:=(List.getElem?_eq_some_iff.1 hq).1;by_cases e:o=q
    ·subst e;rw[List.getElem?_set_self Dd]
    ·rw[List.getElem?_set_ne e];exact hq
   own:=λc hc=>by
    obtain⟨q,hq⟩:=mem_of hc;exact .inl (List.mem_of_getElem? (get q c hq).2)}
 refine⟨⟨by simp[hs.len], ?_, ?_, ?_, ?_, ?_,hs.gl.ext he⟩,he⟩
 ·intro q q' c h1 h2;exact hs.inj q q' c (get q c h1).2 (get q' c h2).2
 ·intro q c h;exact hs.lt q c (get q c h).2
 ·intro q h;by_cases e:o=q
  ·subst e;have Dd:o<ob.length:=by
    have:=(List.getElem?_eq_some_iff.1 h).1;rw[<-hs.len];simpa using this
   exact⟨.dead,by rw[List.getElem?_set_self Dd],trivial⟩
  ·rw[List.getElem?_set_ne e]at h⊢;exact hs.dead q h
 ·intro c hc;refine⟨(hs.frame c hc).1,λhm=> ?_⟩;obtain⟨q,hq⟩:=mem_of hm;exact(hs.frame c hc).2 (List.mem_of_getElem? (get q c hq).2)
 ·intro q c h;obtain⟨h1,h2⟩:=get q c h;obtain⟨y,g1,g2⟩:=hs.live q c h2;exact⟨y,by rw[List.getElem?_set_ne (Ne.symm h1)];exact g1,g2.ext he rfl⟩
omit [Gl]in
theorem Ge:∀{cs:List AV}{ts:List T},OF cs=some ts->cs=ts.map AV.c
 |[],ts,h=>by simp[OF]at h;subst h;rfl
 |x::cs,ts,h=>by
  cases x<;>simp only[OF]at h<;>try cases h
  rename_i t;split at h
  ·rename_i r hr;cases h;rw[Ge hr];rfl
  ·cases h
omit [Gl]in
theorem VR.ON {cs:List AV}{v:Value}(h:VR w F μ (.agg cs) v):VR w F μ (.agg (pL ud cs)) v:=by
 cases h with
 |agg h1 h2 h3=>
  refine .agg (by rw[dR];simpa using h1) (λi x v hx hv=> ?_) h3;rw[dR,List.getElem?_map]at hx
  cases hz:cs[i]? with
  |none=>rw[hz]at hx;cases hx
  |some z=>
   rw[hz]at hx;obtain rfl:=Option.some.inj hx;exact mZ (h2 i z v hz hv)
omit [Gl]in
theorem BX {ag:Bool}{x:AV}{v:Value}{ts:List T}(h:LP ag x=some ts)(hv:VR w F μ x v):wm w (own F μ) ag ts v:=by
 unfold LP at h;split at h
 ·rename_i cs;have he:=Ge h;have hv:=hv.ON;rw[he]at hv
  cases hv with
  |agg h1 h2 h3=>
   refine⟨_,rfl,by simpa using h1,λi x u hx hu=> ?_⟩;have:=h2 i (.c x) u (by simp[hx]) hu
   cases this with
   |c h=>exact h
 ·rename_i t;have hv:=mZ hv;split at h
  ·rename_i t' ht;rw[ht]at hv;obtain rfl:=Option.some.inj h
   cases hv with
   |c h=>exact⟨_,rfl,h⟩
  ·cases h
 ·cases h
omit [Gl]in
theorem m6 {ag:Bool}{v:Value}{ts:List T}(h:wm w (own F μ) ag ts v):VR w F μ (Da ag ts) v:=by
 cases ag with
 |true=>
  obtain⟨cs,rfl,h1,h2⟩:=h;refine .agg (by simpa[dR]using h1) (λi x u hx hu=> ?_) (λi u hu=> ?_)
  ·rw[dR,List.getElem?_map]at hx;obtain⟨t,ht,rfl⟩:=Option.map_eq_some_iff.1 hx;exact .c (h2 i t u ht hu)
  ·have hl:i<ts.length:=by rw[<-h1];exact(Array.getElem?_eq_some_iff.1 hu).1
   exact(h2 i _ u (List.getElem?_eq_getElem hl) hu).one
 |false=>
  obtain⟨t,rfl,h1⟩:=h;exact .c h1
omit [Gl]in
theorem kz {kk:IntKind}{O:Nat->Prop}{ag:Bool}:∀(L:List (Int×List T))(es:List MapEntry)(i:Nat)(n:Int),iy w O kk ag L es->
  (mH L n=none/\Instr.findNow (.int kk) (.int kk n) es i=some none/\(∀v,tq L n v=L++[(n,v)])/\tu L n=L)\/
  ∃(j:Nat)(ts:List T)(e:MapEntry),mH L n=some ts/\Instr.findNow (.int kk) (.int kk n) es i=some (some (i+j,e.val))/\es[j]?=some e/\wm w O ag ts e.val/\e.key=.int kk n/\(∀v,tq L n v=L.set j (n,v))/\tu L n=L.eraseIdx j
 |[],es,i,n,h=>by
  obtain rfl:es=[]:=List.length_eq_zero_iff.1 h.1;exact .inl ⟨rfl,rfl,λv=>rfl,rfl⟩
 |(k,u)::L,[],i,n,h=>by have:=h.1;simp at this
 |(k,u)::L,e::es,i,n,h=>by
  obtain⟨h1,h2⟩:=h.2 0 (k,u) e rfl rfl;have ht:iy w O kk ag L es:=⟨by have:=h.1;simpa using this,λj p v a b=>h.2 (j+1) p v (by simpa using a) (by simpa using b)⟩;have hs:Instr.sameNow (.int kk) (.int kk n) e.key=some (n==k):=by rw[h1];simp[Instr.sameNow]
  by_cases hk:k=n
  ·right;refine⟨0,u,e,by simp[mH,hk], ?_,rfl,h2,by rw[h1,hk],λv=>by simp[tq,hk],by simp[tu,hk]⟩;simp[Instr.findNow,hs,hk]
  ·have hne:(n==k)=false:=beq_eq_false_iff_ne.2 (Ne.symm hk);rw[hne]at hs;rcases kz L es (i+1) n ht with⟨a1,a2,a3,a4⟩|⟨j,ts,e',a1,a2,a3,a4,a5,a6,a7⟩
   ·exact .inl ⟨by simp[mH,hk,a1],by simp only[Instr.findNow,hs,a2],λv=>by simp[tq,hk,a3],by simp[tu,hk,a4]⟩
   ·refine .inr ⟨j+1,ts,e',by simp[mH,hk,a1], ?_,by simpa using a3,a4,a5,λv=>by simp[tq,hk,a6],by simp[tu,hk,a7]⟩;simp only[Instr.findNow,hs,a2];congr 3;omega
omit [Gl]in
theorem iy.push {O:Nat->Prop}{kk:IntKind}{ag:Bool}{L:List (Int×List T)}{es:List MapEntry}(h:iy w O kk ag L es){n:Int}{ts:List T}{e:MapEntry}(hk:e.key=.int kk n)(hv:wm w O ag ts e.val):iy w O kk ag (L++[(n,ts)]) (es++[e]):=by
 refine⟨by simp[h.1],λi p v hp mJ=> ?_⟩;rcases Nat.lt_or_ge i L.length with hlt|hge
 ·rw[List.getElem?_append_left hlt]at hp;rw[List.getElem?_append_left (by rw[h.1];exact hlt)]at mJ;exact h.2 i p v hp mJ
 ·rw[List.getElem?_append_right hge]at hp;rw[List.getElem?_append_right (by rw[h.1];exact hge),h.1]at mJ;have hi:i -L.length=0:=by have:=(List.getElem?_eq_some_iff.1 hp).1;simp at this;omega
  rw[hi]at hp mJ;simp at hp mJ;subst hp;subst mJ;exact⟨hk,hv⟩
omit [Gl]in
theorem iy.set {O:Nat->Prop}{kk:IntKind}{ag:Bool}{L:List (Int×List T)}{es:List MapEntry}(h:iy w O kk ag L es){j:Nat}{n:Int}{ts:List T}{e:MapEntry}(hk:e.key=.int kk n)(hv:wm w O ag ts e.val):iy w O kk ag (L.set j (n,ts)) (es.set j e):=by
 refine⟨by simp[h.1],λi p v hp mJ=> ?_⟩;by_cases e1:j=i
 ·subst e1;have h1:=(List.getElem?_eq_some_iff.1 hp).1;have h2:=(List.getElem?_eq_some_iff.1 mJ).1;rw[List.getElem?_set_self (by simpa using h1)]at hp;rw[List.getElem?_set_self (by simpa using h2)]at mJ;cases hp;cases mJ;exact⟨hk,hv⟩
 ·rw[List.getElem?_set_ne e1]at hp mJ;exact h.2 i p v hp mJ
omit [Gl]in
theorem iy.erase {O:Nat->Prop}{kk:IntKind}{ag:Bool}{L:List (Int×List T)}{es:List MapEntry}(h:iy w O kk ag L es)(j:Nat):iy w O kk ag (L.eraseIdx j) (es.eraseIdx j):=by
 refine⟨by rw[List.length_eraseIdx,List.length_eraseIdx,h.1],λi p v hp mJ=> ?_⟩;rw[List.getElem?_eraseIdx]at hp mJ;split at hp
 ·rename_i hij;rw[if_pos hij]at mJ;exact h.2 i p v hp mJ
 ·rename_i hij;rw[if_neg hij]at mJ;exact h.2 (i+1) p v hp mJ
omit [Gl]in
theorem zZ (es:Array MapEntry)(seen:Array Nat):(leftOf es seen).toList=jJ es seen:=by simp[leftOf,jJ]
omit [Gl]in
theorem BY {es:Array MapEntry}{seen:Array Nat}(hn:(es.toList.map (·.born)).Nodup){j:Nat}{e:MapEntry}(hj:(jJ es seen)[j]?=some e):jJ es (seen.push e.born)=(jJ es seen).eraseIdx j:=by
 have BB:((jJ es seen).map (·.born)).Nodup:=by
  unfold jJ;exact List.Nodup.sublist (List.Sublist.map _ (List.filter_sublist)) hn
 have h1:jJ es (seen.push e.born)=(jJ es seen).filter λx=>x.born !=e.born:=by
  unfold jJ;rw[List.filter_filter]
  congr 1
  funext x;rw[Bool.eq_iff_iff];simp only[Bool.not_eq_true',Array.contains_push,Bool.or_eq_false_iff,Bool.and_eq_true,bne_iff_ne,beq_eq_false_iff_ne,ne_eq];exact And.comm
 rw[h1];generalize jJ es seen=L at hj BB;clear h1 hn
 induction L generalizing j with
 |nil=>simp at hj
 |cons a L ih=>
  simp only[List.map_cons,List.nodup_cons]at BB
  cases j with
  |zero=>
   simp at hj;subst hj;rw[List.filter_cons,if_neg (by simp),List.eraseIdx_cons_zero];refine List.filter_eq_self.2 λx hx=> ?_;simp only[bne_iff_ne,ne_eq];intro SI;exact BB.1 (List.mem_map.2 ⟨x,hx,SI⟩)
  |succ j=>
   simp at hj;have hm:=List.mem_of_getElem? hj;have hne:a.born≠e.born:=λh=>BB.1 (List.mem_map.2 ⟨e,hm,h.symm⟩);rw[List.filter_cons,if_pos (by simpa using hne),List.eraseIdx_cons_succ,ih hj BB.2]
end
end Go.bA
end
section
namespace Go.bA
variable [Gl]
section
variable{P:Program}{δ:Nat->Option TD}{w:World}{F:Nat->Prop}{μ:Mu}{ob:List AO}{K:AV->List AO->Prop}
omit [Gl]in
theorem eF {α:Type}(k:Nat):∀(es:List (List α)),(∀e∈es,e.length=k)->es.flatten.length=es.length*k
 |[],_=>by simp
 |e::es,h=>by
  simp only[List.flatten_cons,List.length_append,List.length_cons,h e List.mem_cons_self,eF k es (λx hx=>h x (List.mem_cons_of_mem _ hx)),Nat.add_mul];omega
omit [Gl]in
theorem iZ {α:Type}(k:Nat):∀(es:List (List α)),(∀e∈es,e.length=k)->∀(i j:Nat) e x,es[i]?=some e->e[j]?=some x->es.flatten[i*k+j]?=some x
 |[],_,i,j,e,x,h,_=>by simp at h
 |e0::es,hk,i,j,e,x,h,hx=>by
  cases i with
  |zero=>
   simp at h;subst h;rw[List.flatten_cons,Nat.zero_mul,Nat.zero_add,List.getElem?_append_left (List.getElem?_eq_some_iff.1 hx).1];exact hx
  |succ i=>
   have h0:=hk e0 List.mem_cons_self;rw[List.flatten_cons,List.getElem?_append_right (by rw[h0,Nat.add_mul];omega),h0,show(i+1)*k+j -k=i*k+j by rw[Nat.add_mul];omega];exact iZ k es (λx hx=>hk x (List.mem_cons_of_mem _ hx)) i j e x (by simpa using h) hx
omit [Gl]in
theorem uy {α:Type}(k:Nat)(z:List α)(hz:z.length=k):∀(n j:Nat),j<n*k->(List.replicate n z).flatten[j]?=z[j %k]?
 |0,j,h=>by omega
 |n+1,j,h=>by
  rw[List.replicate_succ,List.flatten_cons];by_cases hj:j<k
  ·rw[List.getElem?_append_left (by omega),Nat.mod_eq_of_lt hj]
  ·rw[List.getElem?_append_right (by omega),hz,uy k z hz n (j -k) (by rw[Nat.add_mul]at h;omega)];rw[Nat.mod_eq_sub_mod (by omega:k<=j)]
omit [Gl]in
theorem sH (pl:List (Nat×Nat))(k:Nat)(z:List AV)(hz:z.length=k):∀(n:Nat)(acc:List (List AV))(ps:List (Nat×AV))(es:List (List AV)),(∀e∈acc,e.length=k)->
  (∀j,j<acc.length+n->nth pl j=some (j*k,k))->elems z k acc.length n ps=some es->
  oC pl ps (acc.flatten++(List.replicate n z).flatten)=some ((acc++es).flatten)/\es.length=n/\∀e∈es,e.length=k
 |0,acc,ps,es,ha,hp,h=>by
  cases ps with
  |nil=>simp[elems]at h;subst h;simp[oC]
  |cons p ps=>simp[elems]at h
 |n+1,acc,ps,es,ha,hp,h=>by
  have next:∀(v:List AV)(qs:List (Nat×AV))(r:List (List AV)),v.length=k->elems z k (acc.length+1) n qs=some r->
    oC pl qs (acc.flatten++(v++(List.replicate n z).flatten))=some ((acc++v::r).flatten)/\(v::r).length=n+1/\∀e∈v::r,e.length=k:=by
   intro v qs r hv hr;have:=sH pl k z hz n (acc++[v]) qs r (λe he=>by
    rcases List.mem_append.1 he with h1|h1
    ·exact ha e h1
    ·simp at h1;subst h1;exact hv) (λj hj=>hp j (by simp at hj;omega)) (by simpa using hr)
   obtain⟨g1,g2,g3⟩:=this;refine⟨by simpa using g1,by simp[g2],λe he=> ?_⟩;rcases List.mem_cons.1 he with h1|h1
   ·rw[h1];exact hv
   ·exact g3 e h1
  rw[List.replicate_succ,List.flatten_cons];simp only[elems]at h;split at h
  ·rename_i i x rest;split at h
   ·rename_i hji;have SJ:i=acc.length:=by simpa using hji
    subst SJ;split at h
    ·rename_i vs hvs;split at h
     ·rename_i hl;have hl':vs.length=k:=by rw[<-bQ];simpa using hl
      split at h
      ·rename_i r hr;cases h;have hlen:=eF k acc ha;have hsp:splice (acc.flatten++(z++(List.replicate n z).flatten)) (acc.length*k) vs=some (acc.flatten++(vs++(List.replicate n z).flatten)):=by
        rw[<-hlen];generalize acc.flatten=A;have OO:vs.length=z.length:=by omega
        generalize (List.replicate n z).flatten=B;clear hvs hr hl hlen next hp
        induction A with
        |nil=>
         simp only[List.nil_append,List.length_nil];clear hl' hz ha
         induction vs generalizing z with
         |nil=>cases z with|nil=>simp;cases B<;>rfl|cons a z=>simp at OO
         |cons v vs ih=>cases z with|nil=>simp at OO|cons a z=>simp only[List.cons_append,splice,ih z (by simpa using OO)]
        |cons a A ih=>simp only[List.cons_append,List.length_cons,splice,ih]
       obtain⟨g1,g2,g3⟩:=next vs rest r hl' hr
       refine⟨?_,g2,g3⟩;simp only[oC,hp acc.length (by omega),hvs,hl',bQ,beq_self_eq_true,hsp];exact g1
      ·cases h
     ·cases h
    ·cases h
   ·split at h
    ·rename_i r hr;cases h;exact next z _ r hz hr
    ·cases h
  ·split at h
   ·rename_i r hr;cases h;exact next z _ r hz hr
   ·cases h
theorem pU (bw:cg P δ)(hs:St w F μ ob){t len:Nat}{ps:List (Nat×AV)}{vs:Array (Nat×Value)}(hp:KU w F μ ps vs.toList)(h:mW δ t len ps ob K)
  (hz:∀d e ed,δ t=some d->d.sh=.slice e->δ e=some ed->ed.zero≠[]):gb P (Instr.buildSlice t len vs) w F μ K:=by
 unfold mW at h;split at h
 ·rename_i d hd;split at h
  ·rename_i e hsh;have hu:=a_ bw hd hsh;split at h
   ·rename_i ed ir;obtain⟨z,z1,z2,z3,z4⟩:=gE bw ir (hz d e ed hd hsh ir);obtain⟨ie,q1,q2,_⟩:=fP bw ir;split at h
    ·rename_i hsz hle;have OP:ed.size≠0:=by simpa using hsz
     have hle':len*ed.size<=16777216:=Nat.le_of_ble_eq_true hle;split at h
     ·rename_i es tM;have hzl:(bG ed).length=ed.size:=z3;obtain⟨g1,g2,g3⟩:=sH ((List.range len).map λi=>(i*ed.size,ed.size)) ed.size (bG ed) hzl len [] ps es (by simp)
       (λj hj=>by rw[cq,List.getElem?_map];simp at hj;simp[hj]) tM
      simp only[List.flatten_nil,List.nil_append]at g1;have KV:(List.replicate len (bG ed)).flatten.length=len*ed.size:=by
       rw[eF ed.size _ (λe he=>by rw[(List.mem_replicate.1 he).2];exact hzl)];simp
      have SG:CR w F μ (List.replicate len (bG ed)).flatten ((Array.range (len*ed.size)).map (z.cells[· %z.cells.size]!)):=by
       refine⟨by simp[KV],λj x u hx hu=> ?_⟩;have hj:j<len*ed.size:=by rw[<-KV];exact(List.getElem?_eq_some_iff.1 hx).1
       rw[uy ed.size _ hzl len j hj]at hx;simp[hj]at hu;have hm:j %z.cells.size<z.cells.size:=Nat.mod_lt _ (by omega);rw[getElem!_pos z.cells _ hm]at hu;have II:z.cells.size=ed.size:=by rw[z2,z3]
       exact z4 w F μ (j %ed.size) x u hx (by rw[<-II,Array.getElem?_eq_getElem hm,hu])
      obtain⟨rv,r1,r2⟩:=lU (λi=>some (i*ed.size,ed.size)) _ (λi q hq=>by
       rw[cq,List.getElem?_map]at hq
       cases hr:(List.range len)[i]? with
       |none=>rw[hr]at hq;cases hq
       |some j=>
        rw[hr]at hq;simp at hq;have hji:j=i:=by
         have h2:=(List.getElem?_eq_some_iff.1 hr).2;simpa using h2.symm
        subst hji;exact congrArg some hq) ps vs.toList _ _ _ hp SG g1
      refine gb.lf hs (o:=.cells rv e) (v:=.slice (some ⟨w.heap.size,0,none⟩) len len) ?_ ?_ ?_ h
      ·have hne:¬len*ie.size>2^24:=by rw[q2];omega
       simp only[Instr.buildSlice,Sem.run_bind,run_underlying hu,Result.andThen_ok,cO q1,Sem.run_ite,if_neg hne];by_cases h0:len=0
       ·subst h0;have hvs:ps=[]:=by
         cases ps with
         |nil=>rfl
         |cons p ps=>simp[elems]at tM
        subst hvs;have OQ:vs.toList=[]:=List.eq_nil_of_length_eq_zero (by simpa using hp.1);rw[OQ]at r1;simp[Instr.fill]at r1;subst r1;simp[newRow,OQ,Instr.fill,show Array.range 0=(#[]:Array Nat) from rfl]
       ·have hn0:¬len*ed.size=0:=Nat.mul_ne_zero h0 OP;simp only[q2,if_neg hn0,z1,Result.andThen_ok,Sem.run_pure,r1];simp[newRow]
      ·intro w' bu he hh;refine .arr rv e hh ?_ ?_ g3 (λi v hv=> ?_) λi j e' x v Ga Ec hv=> ?_
       ·rw[r2.1,eF ed.size es g3,g2];rfl
       ·simp[g2]
       ·have hlt:=(Array.getElem?_eq_some_iff.1 hv).1;rw[r2.1]at hlt;exact(r2.2 i _ v (List.getElem?_eq_getElem hlt) hv).2
       ·have:=r2.2 (i*ed.size+j) x v (iZ ed.size es g3 i j e' x Ga Ec) hv;exact⟨this.1.ext he,this.2⟩
      ·intro w' bu _ hm;have:=VR.sl (w:=w') (F:=F) (k:=ed.size) (i:=.lit 0) (len:=.lit len) (cap:=.lit len) hm (Nat.le_refl _) (by have:=Nat.le_mul_of_pos_right len (Nat.pos_of_ne_zero OP);show len<=_;omega);rw[bQ];simpa using this
     ·exact h.elim
    ·exact h.elim
   ·exact h.elim
  ·exact h.elim
 ·exact h.elim
omit [Gl]in
theorem BZ {sh:Sh}{kd:TypeDesc}(hsh:cz kd=sh){x y:AV}{a b:Value}{r:Th Bool}(ha:VR w F μ x a)(hb:VR w F μ y b)(h:gP sh x y=some r):Instr.sameNow kd a b=some r.den:=by
 unfold gP at h;split at h
 ·split at h
  ·rename_i k1 a1 k2 b1;split at h
   ·rename_i hk;have hk':k1=k2:=by simpa using hk
    subst hk';cases h;rw[ha.iE,hb.iE];cases kd<;>simp[cz]at hsh<;>simp[Instr.sameNow]
   ·cases h
  ·cases h
 ·split at h
  ·cases h;rw[ha.bE,hb.bE];cases kd<;>simp[cz]at hsh<;>simp[Instr.sameNow]
  ·cases h
 ·split at h
  ·cases h;rw[ha.sE,hb.sE];cases kd<;>simp[cz]at hsh<;>simp[Instr.sameNow]
  ·cases h
 ·cases h
omit [Gl]in
theorem m_ {sh:Sh}{kd:TypeDesc}(hsh:cz kd=sh){k:AV}{kv:Value}(hk:VR w F μ k kv):
  ∀(es:List (AV×AV))(bM:List MapEntry)(i:Nat)(K:Option (Nat×AV)->Prop),bM.length=es.length->
   (∀(j:Nat) x v,es[j]?=some x->bM[j]?=some v->VR w F μ x.1 v.key/\VR w F μ x.2 v.val)->mI sh k es i K->
   (∃r,gP sh k k=some r\/∃k',gP sh k k'=some r)/\
   ((Instr.findNow kd kv bM i=some none/\K none)\/∃(j:Nat)(v:AV)(u:Value),Instr.findNow kd kv bM i=some (some (i+j,u))/\K (some (i+j,v))/\VR w F μ v u/\∃e,bM[j]?=some e/\Instr.sameNow kd kv e.key=some true)
 |[],bM,i,K,hl,_,h=>by
  have:bM=[]:=List.eq_nil_of_length_eq_zero (by simpa using hl);subst this;simp only[mI]at h;split at h
  ·rename_i b hb;exact⟨⟨b,.inl hb⟩,.inl ⟨rfl,h⟩⟩
  ·exact h.elim
 |(k',v)::es,bM,i,K,hl,he,h=>by
  cases bM with
  |nil=>simp at hl
  |cons e bM=>
   simp only[mI]at h;split at h
   ·rename_i b hb;obtain⟨e1,e2⟩:=he 0 (k',v) e rfl rfl;have hs:=BZ hsh hk e1 hb;obtain⟨h1,h2⟩:=ko h;refine⟨⟨b,.inr ⟨k',hb⟩⟩, ?_⟩
    cases hbd:b.den with
    |true=>
     rw[hbd]at hs;refine .inr ⟨0,v,e.val, ?_,h1 hbd,e2,e,rfl,hs⟩;simp[Instr.findNow,hs]
    |false=>
     rw[hbd]at hs;obtain⟨_,ih⟩:=m_ hsh hk es bM (i+1) K (by simpa using hl) (λj x v hx hv=>he (j+1) x v (by simpa using hx) (by simpa using hv)) (h2 hbd);rcases ih with⟨a1,a2⟩|⟨j,v',u,a1,a2,a3,e',a4,a5⟩
     ·exact .inl ⟨by simp only[Instr.findNow,hs,a1],a2⟩
     ·refine .inr ⟨j+1,v',u, ?_, ?_,a3,e',by simpa using a4,a5⟩
      ·simp only[Instr.findNow,hs,a1];congr 3;omega
      ·rw[show i+(j+1)=i+1+j by omega];exact a2
   ·exact h.elim
omit [Gl]in
theorem nc (bw:cg P δ){t:Nat}{sh:Sh}{ed:TD}(h:uk δ t=some (sh,ed)):∃k e kd,P.underlying t=some (.map k e)/\P.underlying k=some kd/\cz kd=sh/\δ e=some ed:=by
 unfold uk at h;split at h
 ·rename_i d hd;split at h
  ·rename_i k e hsh;split at h
   ·rename_i kd ed' LY ir;cases h;obtain⟨u,tL,zF⟩:=fI bw LY;exact⟨k,e,u,yw bw hd hsh,tL,zF,ir⟩
   ·cases h
  ·cases h
 ·cases h
omit [Gl]in
theorem plainKey {sh:Sh}{kd:TypeDesc}(hsh:cz kd=sh){x y:AV}{r:Th Bool}(h:gP sh x y=some r):(∃k,kd=.int k)\/kd=.bool\/kd=.string:=by
 unfold gP at h;subst hsh;cases kd<;>simp[cz]at h<;>simp
omit [Gl]in
theorem dZ {k:TypeId}{kd:TypeDesc}(hu:P.underlying k=some kd)(h:(∃q,kd=.int q)\/kd=.bool\/kd=.string)(b:Bool)(v:Value):(Instr.checkKey b 10000 k v).run P w=.ok () w:=by
 have g:∀n,(Instr.checkKey b (n+1) k v).run P w=.ok () w:=λn=>by
  rcases h with⟨q,rfl⟩|rfl|rfl<;>simp[Instr.checkKey,run_underlying hu]
 exact g 9999
omit [Gl]in
theorem z5 {kd:TypeDesc}{a b:Value}(h:Instr.sameNow kd a b=some true):Instr.sameBits 10000 b a=true:=by
 unfold Instr.sameNow at h;split at h
 ·split at h
  ·rename_i hk;simp at h;subst hk;subst h;simp[Instr.sameBits]
  ·cases h
 ·simp only[Option.some.injEq,beq_toListBytes,beq_iff_eq]at h;simp only[Instr.sameBits,beq_toListBytes,h,beq_self_eq_true]
 ·simp at h;subst h;simp[Instr.sameBits]
 ·cases h
omit [Gl]in
theorem pV {kd:TypeDesc}{q:IntKind}(h:cz kd=.int q):kd=.int q:=by
 cases kd<;>simp[cz]at h;rw[h]
theorem oE (bw:cg P δ)(hs:St w F μ ob){t:Nat}{m k v:AV}{vm vk vv:Value}(hm:VR w F μ m vm)(hk:VR w F μ k vk)(hv:VR w F μ v vv)(h:ym δ t m k v ob K):
  zT P (Instr.mapUpdate t vm vk vv) w F μ K:=by
 unfold ym at h;split at h
 ·rename_i sh ed o hks;obtain⟨kt,et,kd,h1,h2,h3,h4⟩:=nc bw hks;split at h
  ·rename_i es tM;obtain⟨b,hb,jN⟩:=hs.box tM (by simp);have iA:=hm.I4 hb
   cases jN with
   |map bM clock g1 g2 g3=>
    obtain⟨⟨r,hr⟩,hf⟩:=m_ h3 hk es bM.toList 0 _ (by simpa using g2) (λj x v hx hv=>g3 j x v hx (by simpa using hv)) h;have hpk:(∃q,kd=.int q)\/kd=.bool\/kd=.string:=by
     rcases hr with hr|⟨k',hr⟩<;>exact plainKey h3 hr
    have ng:(getObj b).run P w=.ok (.map bM clock) w:=by simp[getObj,Sem.run,g1]
    have qV:∀o',(setObj b o').run P w=.ok () {w with heap:=w.heap.setIfInBounds b o'}:=λo'=>by simp[setObj,Sem.run,g1]
    have hlt:b<w.heap.size:=(Array.getElem?_eq_some_iff.1 g1).1;have fin:∀(es':List (AV×AV))(fX:Array MapEntry)(c':Nat),fX.size=es'.length->(∀(i:Nat) x v,es'[i]?=some x->fX[i]?=some v->VR w F μ x.1 v.key/\VR w F μ x.2 v.val)->
      (Instr.mapUpdate t vm vk vv).run P w=.ok () {w with heap:=w.heap.setIfInBounds b (.map fX c')}->K dP (ob.set o (.map es'))->zT P (Instr.mapUpdate t vm vk vv) w F μ K:=by
     intro es' fX c' hl I5 hrun hk;obtain⟨r1,r2⟩:=hs.set hb {w with heap:=w.heap.setIfInBounds b (.map fX c')} (.map es') (by simp) (λb' hb'=>by simp[Array.getElem?_setIfInBounds_ne (Ne.symm hb')]) rfl rfl rfl (λhe=>
      .map fX c' (by simp[hlt]) hl λi x v hx hv=>⟨(I5 i x v hx hv).1.ext he,(I5 i x v hx hv).2.ext he⟩)
     exact⟨_,_,_,hrun,r1,r2,hk⟩
    rcases hf with⟨a1,a2⟩|⟨j,v',u,a1,a2,a3,e',a4,a5⟩
    ·refine fin (es++[(k,v)]) (bM.push {key:=vk,val:=vv,born:=clock}) (clock+1) (by simp[g2]) (λi x u hx hu=> ?_) ?_ (by rw[cJ,dg]at a2;exact a2)
     ·rcases Nat.lt_or_ge i es.length with hlt|hge
      ·rw[List.getElem?_append_left hlt]at hx;rw[Array.getElem?_push,if_neg (by omega)]at hu;exact g3 i x u hx hu
      ·rw[List.getElem?_append_right hge]at hx;have hi:i=es.length:=by
        have:=(List.getElem?_eq_some_iff.1 hx).1;simp at this;omega
       subst hi;rw[Array.getElem?_push,if_pos (by omega)]at hu;simp at hx hu;subst hx;subst hu;exact⟨hk,hv⟩
     ·rw[iA];simp only[Instr.mapUpdate,Sem.run_bind,run_underlying h1,Result.andThen_ok,ng,dZ h2 hpk,Instr.findKey,run_underlying h2,a1,Sem.run_pure,qV]
    ·simp only[Nat.zero_add]at a1 a2;have Yo:j<bM.size:=by have:=(List.getElem?_eq_some_iff.1 a4).1;simpa using this
     have he':bM[j]?=some e':=by simpa using a4
     refine fin (es.set j (k,v)) (bM.modify j λe=>{e with key:=vk,val:=vv}) clock (by simp[g2]) (λi x u hx hu=> ?_) ?_ (by rw[cJ,cJ]at a2;exact a2)
     ·by_cases hij:j=i
      ·subst hij;rw[List.getElem?_set_self (by omega)]at hx;rw[Array.getElem?_modify,if_pos rfl,he']at hu;simp at hx hu;subst hx;subst hu;exact⟨hk,hv⟩
      ·rw[List.getElem?_set_ne hij]at hx;rw[Array.getElem?_modify,if_neg hij]at hu;exact g3 i x u hx hu
     ·rw[iA];have hsb:=z5 a5;simp only[Instr.mapUpdate,Sem.run_bind,run_underlying h1,Result.andThen_ok,ng,dZ h2 hpk,Instr.findKey,run_underlying h2,a1,Sem.run_pure,Instr.keyThatStays,he',Option.map_some,Option.getD_some,hsb,if_true,qV]
  ·rename_i kk ag es tM;split at h
   ·rename_i q KN n;split at h
    ·rename_i hq hkk;have hq:=beq_iff_eq.1 hq;have hkk:=beq_iff_eq.1 hkk;subst hq;subst hkk;obtain rfl:=pV h3;split at h
     ·rename_i ts hts;have IJ:=BX hts hv;have iA:=hk.iE;subst iA;obtain⟨b,hb,jN⟩:=hs.box tM (λg=>g);have lV:=hm.I4 hb
      cases jN with
      |jq bM clock g1 g2 g3 g4=>
       have ng:(getObj b).run P w=.ok (.map bM clock) w:=by simp[getObj,Sem.run,g1]
       have qV:∀o',(setObj b o').run P w=.ok () {w with heap:=w.heap.setIfInBounds b o'}:=λo'=>by simp[setObj,Sem.run,g1]
       have hlt:b<w.heap.size:=(Array.getElem?_eq_some_iff.1 g1).1;have fin:∀(fX:Array MapEntry)(c':Nat),iy w (own F μ) q ag (tq es.den n.den ts) fX.toList->(∀e∈fX.toList,e.born<c')->(fX.toList.map (·.born)).Nodup->
         (Instr.mapUpdate t vm (.int q n.den) vv).run P w=.ok () {w with heap:=w.heap.setIfInBounds b (.map fX c')}->zT P (Instr.mapUpdate t vm (.int q n.den) vv) w F μ K:=by
        intro fX c' e1 e2 e3 hrun;obtain⟨r1,r2⟩:=hs.set hb {w with heap:=w.heap.setIfInBounds b (.map fX c')} (.jq q ag (.th λ_=>tq es.den n.den ts)) (by simp) (λb' hb'=>by simp[Array.getElem?_setIfInBounds_ne (Ne.symm hb')]) rfl rfl rfl (λhe=>
         .jq fX c' (by simp[hlt]) (e1.imp λt v h=>h.ext he) e2 e3)
        exact⟨_,_,_,hrun,r1,r2,by rw[cJ]at h;exact h⟩
       have IK:(Instr.checkKey false 10000 kt (.int q n.den)).run P w=.ok () w:=dZ h2 (.inl ⟨q,rfl⟩) false (.int q n.den);rcases kz es.den bM.toList 0 n.den g2 with⟨a1,a2,a3,a4⟩|⟨j,us,e,a1,a2,a3,a4,a5,a6,a7⟩
       ·refine fin (bM.push {key:=(.int q n.den),val:=vv,born:=clock}) (clock+1) ?_ (λe he=> ?_) ?_ ?_
        ·rw[a3 ts,Array.toList_push];exact g2.push rfl IJ
        ·rw[Array.toList_push]at he;rcases List.mem_append.1 he with he|he
         ·have:=g3 e he;omega
         ·simp at he;subst he;simp
        ·rw[Array.toList_push,List.map_append,List.nodup_append];refine⟨g4,by simp,λx hx y hy=> ?_⟩;simp at hy;subst hy;obtain⟨e,he,rfl⟩:=List.mem_map.1 hx;have:=g3 e he;omega
        ·rw[lV];simp only[Instr.mapUpdate,Sem.run_bind,run_underlying h1,Result.andThen_ok,ng,IK,Instr.findKey,run_underlying h2,a2,Sem.run_pure,qV]
       ·rw[Nat.zero_add]at a2;have he':bM[j]?=some e:=by simpa using a3
        have hjl:=(Array.getElem?_eq_some_iff.1 he').1;have I9:(bM.modify j λe=>{e with key:=(.int q n.den),val:=vv}).toList=bM.toList.set j {e with key:=(.int q n.den),val:=vv}:=by
         refine List.ext_getElem? λi=> ?_;rw[Array.getElem?_toList,Array.getElem?_modify];by_cases hij:j=i
         ·subst hij;rw[if_pos rfl,he',List.getElem?_set_self (by simpa using hjl)];rfl
         ·rw[if_neg hij,List.getElem?_set_ne hij,Array.getElem?_toList]
        have KW:(bM.toList.set j {e with key:=(.int q n.den),val:=vv}).map (·.born)=bM.toList.map (·.born):=by
         rw[List.map_set];refine List.ext_getElem? λi=> ?_;by_cases hij:j=i
         ·subst hij;rw[List.getElem?_set_self (by simpa using hjl),List.getElem?_map,a3];rfl
         ·rw[List.getElem?_set_ne hij]
        refine fin (bM.modify j λe=>{e with key:=(.int q n.den),val:=vv}) clock ?_ (λx hx=> ?_) ?_ ?_
        ·rw[I9,a6 ts];exact g2.set rfl IJ
        ·rw[I9]at hx;have:x.born∈bM.toList.map (·.born):=by rw[<-KW];exact List.mem_map.2 ⟨x,hx,rfl⟩
         obtain⟨y,hy,Yp⟩:=List.mem_map.1 this;rw[<-Yp];exact g3 y hy
        ·rw[I9,KW];exact g4
        ·rw[lV];have hsb:Instr.sameBits 10000 e.key (.int q n.den)=true:=by rw[a5];simp[Instr.sameBits]
         simp only[Instr.mapUpdate,Sem.run_bind,run_underlying h1,Result.andThen_ok,ng,IK,Instr.findKey,run_underlying h2,a2,Sem.run_pure,Instr.keyThatStays,he',Option.map_some,Option.getD_some,hsb,if_true,qV]
     ·exact h.elim
    ·exact h.elim
   ·exact h.elim
  ·exact h.elim
 ·exact h.elim
omit [Gl]in
theorem z6 (bw:cg P δ){t:Nat}{d:TD}(hd:δ t=some d){z:AV}(h:zeroV d=some z)(hz:d.zero≠[]):∃v,(∀w,(zeroValue t).run P w=.ok v w)/\∀(w:World)(F:Nat->Prop)(μ:Mu),VR w F μ z v:=by
 obtain⟨i,zv,h1,h2,h3,h4,h5,h6,h7,h8⟩:=iH bw hd hz;refine⟨zv,λw=>by simp[zeroValue,typeInfo,h1,h2],λw F μ=> ?_⟩;unfold zeroV at h;split at h
 ·rename_i zP;cases h;rw[zP]at h7;cases zv<;>simp[F9]at h7;rename_i cs;have hc:∀(j:Nat) x u,(bG d)[j]?=some x->cs[j]?=some u->VR w F μ x u/\u.oneCell'=true:=λj x u hx hu=>by
   simp only[bG,dR,List.getElem?_map]at hx
   cases hy:d.zero[j]? with
   |none=>rw[hy]at hx;cases hx
   |some y=>
    rw[hy]at hx;simp at hx;subst hx;have:=h8 w (own F μ) j y u hy hu;exact⟨.c this,this.one⟩
  have hl:cs.size=(bG d).length:=by simp[bG,dR,h5];exact h4
  refine .agg hl (λj x u hx hu=>(hc j x u hx hu).1) (λj u hu=> ?_);have hlt:j<(bG d).length:=by rw[<-hl];exact(Array.getElem?_eq_some_iff.1 hu).1
  exact(hc j _ u (List.getElem?_eq_getElem hlt) hu).2
 ·rename_i zP;rw[zP]at h7;split at h
  ·rename_i z0 hz0;cases h;have hcells:zv.cells= #[zv]:=by cases zv<;>simp_all [F9,Value.cells]
   exact .c (h8 w (own F μ) 0 z0 zv (by rw[hz0];rfl) (by rw[hcells];rfl))
  ·cases h
theorem wq (bw:cg P δ)(hs:St w F μ ob){t:Nat}{m k:AV}{vm vk:Value}{ok:Bool}(hm:VR w F μ m vm)(hk:VR w F μ k vk)(h:nJ δ t m k ok ob K)
  (hz:∀sh ed,uk δ t=some (sh,ed)->ed.zero≠[]):fy P (Instr.lookup t vm vk ok) w F μ ob K:=by
 unfold nJ at h;split at h
 ·rename_i sh ed hks;obtain⟨kt,et,kd,h1,h2,h3,h4⟩:=nc bw hks;split at h
  ·rename_i z OO;obtain⟨zv,z1,z2⟩:=z6 bw h4 OO (hz _ _ hks);have fin:∀(bM:Array MapEntry)(es:List (AV×AV)),bM.size=es.length->(∀(i:Nat) x v,es[i]?=some x->bM[i]?=some v->VR w F μ x.1 v.key/\VR w F μ x.2 v.val)->
     (∀w',F4 w w'->(Instr.lookup t vm vk ok).run P w'=(do
      Instr.checkKey bM.isEmpty 10000 kt vk
      let(v,Yq)<-match<-Instr.findKey kt vk bM.toList with
       |some (_,v)=>pure (v,true)
       |none=>pure (<-zeroValue et,false)
      pure (if ok then .tuple #[v,.bool Yq]else v):Sem Value).run P w')->
     mI sh k es 0 (LQ ok z ob K)->fy P (Instr.lookup t vm vk ok) w F μ ob K:=by
    intro bM es hl I5 hrun hf;obtain⟨⟨r,hr⟩,hf⟩:=m_ h3 hk es bM.toList 0 _ (by simpa using hl) (λj x v hx hv=>I5 j x v hx (by simpa using hv)) hf;have hpk:(∃q,kd=.int q)\/kd=.bool\/kd=.string:=by
     rcases hr with hr|⟨k',hr⟩<;>exact plainKey h3 hr
    have cI:∀{x:AV}{v:Value}(b:Bool),VR w F μ x v->VR w F μ (.cI [x,AB (.lit b)]) (.tuple #[v,.bool b]):=by
     intro x v b hv;refine .cI rfl λi y u hy hu=> ?_
     match i with
     |0=>simp at hy hu;subst hy;subst hu;exact hv
     |1=>simp at hy hu;subst hy;subst hu;exact VR.b (.lit b)
     |n+2=>simp at hy
    rcases hf with⟨a1,a2⟩|⟨j,v',u,a1,a2,a3,_⟩
    ·cases ok
     ·refine .q (v:=zv) (λw' hw=> ?_) (z2 w F μ) a2;rw[hrun w' hw];simp only[Sem.run_bind,dZ h2 hpk,Result.andThen_ok,Instr.findKey,run_underlying h2,a1,Sem.run_pure,z1];simp
     ·refine .q (v:=.tuple #[zv,.bool false]) (λw' hw=> ?_) (cI false (z2 w F μ)) a2;rw[hrun w' hw];simp only[Sem.run_bind,dZ h2 hpk,Result.andThen_ok,Instr.findKey,run_underlying h2,a1,Sem.run_pure,z1];simp
    ·cases ok
     ·refine .q (v:=u) (λw' hw=> ?_) a3 a2;rw[hrun w' hw];simp only[Sem.run_bind,dZ h2 hpk,Result.andThen_ok,Instr.findKey,run_underlying h2,a1,Sem.run_pure];simp
     ·refine .q (v:=.tuple #[u,.bool true]) (λw' hw=> ?_) (cI true a3) a2;rw[hrun w' hw];simp only[Sem.run_bind,dZ h2 hpk,Result.andThen_ok,Instr.findKey,run_underlying h2,a1,Sem.run_pure];simp
   split at h
   ·rename_i o;split at h
    ·rename_i es tM;obtain⟨b,hb,jN⟩:=hs.box tM (by simp);have iA:=hm.I4 hb
     cases jN with
     |map bM clock g1 g2 g3=>
      refine fin bM es g2 g3 (λw' hw=> ?_) h;have ng:(getObj b).run P w'=.ok (.map bM clock) w':=by simp[getObj,Sem.run,(hw.2 b (hs.lt _ b hb)).trans g1]
      rw[iA];simp only[Instr.lookup,Sem.run_bind,run_underlying h1,Result.andThen_ok,ng,Sem.run_pure]
      rfl
    ·rename_i kk ag es tM;split at h
     ·rename_i q KN n;split at h
      ·rename_i hq hkk;have hq:=beq_iff_eq.1 hq;have hkk:=beq_iff_eq.1 hkk;subst hq;subst hkk;obtain rfl:=pV h3;have iA:=hk.iE;subst iA;obtain⟨b,hb,jN⟩:=hs.box tM (λg=>g);have lV:=hm.I4 hb;have cI:∀{x:AV}{v:Value}(b:Bool),VR w F μ x v->VR w F μ (.cI [x,AB (.lit b)]) (.tuple #[v,.bool b]):=by
        intro x v b hv;refine .cI rfl λi y u hy hu=> ?_
        match i with
        |0=>simp at hy hu;subst hy;subst hu;exact hv
        |1=>simp at hy hu;subst hy;subst hu;exact VR.b (.lit b)
        |n+2=>simp at hy
       cases jN with
       |jq bM clock g1 g2 g3 g4=>
        have ng:∀w',F4 w w'->(getObj b).run P w'=.ok (.map bM clock) w':=λw' hw=>by simp[getObj,Sem.run,(hw.2 b (hs.lt _ b hb)).trans g1]
        have IK:∀(c:Bool)(w':World),(Instr.checkKey c 10000 kt (.int q n.den)).run P w'=.ok () w':=λc w'=>dZ h2 (.inl ⟨q,rfl⟩) c (.int q n.den);obtain⟨hA,hB⟩:=h;rcases kz es.den bM.toList 0 n.den g2 with⟨a1,a2,a3,a4⟩|⟨j,us,e,a1,a2,a3,a4,a5,a6,a7⟩
        ·have hk':=hB a1;cases ok
         ·refine .q (v:=zv) (λw' hw=> ?_) (z2 w F μ) hk';rw[lV];simp only[Instr.lookup,Sem.run_bind,run_underlying h1,Result.andThen_ok,ng w' hw,Sem.run_pure,IK,Instr.findKey,run_underlying h2,a2,z1];simp
         ·refine .q (v:=.tuple #[zv,.bool false]) (λw' hw=> ?_) (cI false (z2 w F μ)) hk';rw[lV];simp only[Instr.lookup,Sem.run_bind,run_underlying h1,Result.andThen_ok,ng w' hw,Sem.run_pure,IK,Instr.findKey,run_underlying h2,a2,z1];simp
        ·have hk':=hA us a1;have I5:=m6 (F:=F) (μ:=μ) a4;cases ok
         ·refine .q (v:=e.val) (λw' hw=> ?_) I5 hk';rw[lV];simp only[Instr.lookup,Sem.run_bind,run_underlying h1,Result.andThen_ok,ng w' hw,Sem.run_pure,IK,Instr.findKey,run_underlying h2,a2];simp
         ·refine .q (v:=.tuple #[e.val,.bool true]) (λw' hw=> ?_) (cI true I5) hk';rw[lV];simp only[Instr.lookup,Sem.run_bind,run_underlying h1,Result.andThen_ok,ng w' hw,Sem.run_pure,IK,Instr.findKey,run_underlying h2,a2];simp
      ·exact h.elim
     ·exact h.elim
    ·exact h.elim
   ·refine fin #[] [] rfl (λi x v hx=>by simp at hx) (λw' _=> ?_) h;rw[hm.qU];simp only[Instr.lookup,Sem.run_bind,run_underlying h1,Result.andThen_ok,Sem.run_pure]
    rfl
   ·exact h.elim
  ·exact h.elim
 ·exact h.elim
end
end Go.bA
end
