/- Texts that the law leans on, the last part. No conditions. -/
import Derived.Test.YtnpliafeboadcaaGreatK3
import Derived.WalkKit
import Derived.ProofKit
import Derived.OpenShut
import Derived.ShutString
import Derived.ChangeOld
import Derived.Below
import Derived.SizedLaws
section
namespace Go.bA
variable [Gl]
open Go.RowKit Go.ChangeShapes Go.WideShapes Go.ChangeAt
def abo (δ:Nat->Option TD):List (Nat×Nat)->Nat->Nat->Bool
 |[],o,n=>o==n
 |(a,t)::fs,o,n=>match δ t with|some e=>a==o&&abo δ fs (o+e.size) n|none=>false
def ady (δ:Nat->Option TD)(e:Nat):Bool:=match δ e with|some d=>Nat.ble 1 d.size|none=>false
def abV (δ:Nat->Option TD)(ts:List Nat):Bool:=ts.all λt=>match δ t with
 |some d=>match d.sh with
  | .int _| .bool| .str=>true
  | .ptr e| .slice e=>ts.contains e&&ady δ e
  | .array n e=>ts.contains e&&ady δ e&&(match δ e with|some ed=>d.size==n*ed.size|none=>false)
  | .struct fs=>fs.all (λf=>ts.contains f.2)&&abo δ fs 0 d.size
  |_=>false
 |none=>false
def VTs (w:World)(l:List T)(cs:List Value):Prop:=l.length=cs.length/\∀(i:Nat) x v,l[i]?=some x->cs[i]?=some v->VT w (λ_=>False) x v
omit [Gl]in
theorem VTs.one {w:World}{x:T}{v:Value}(h:VT w (λ_=>False) x v):VTs w [x] [v]:=⟨rfl,λi y u h1 h2=>by
 cases i with
 |zero=>simp at h1 h2;subst h1;subst h2;exact h
 |succ i=>simp at h1⟩
omit [Gl]in
theorem VTs.append {w:World}{a b:List T}{cs ds:List Value}(h:VTs w a cs)(k:VTs w b ds):VTs w (a++b) (cs++ds):=by
 refine⟨by simp[h.1,k.1],λi x v h1 h2=> ?_⟩;rcases Nat.lt_or_ge i a.length with hl|hl
 ·rw[List.getElem?_append_left hl]at h1;rw[List.getElem?_append_left (by rw[<-h.1];exact hl)]at h2;exact h.2 i x v h1 h2
 ·rw[List.getElem?_append_right hl]at h1;rw[List.getElem?_append_right (by rw[<-h.1];exact hl),<-h.1]at h2;exact k.2 _ x v h1 h2
section
variable{P:Program}{δ:Nat->Option TD}{H:Type}{enc:TypeId×Value->H}{w:World}
omit [Gl]in
theorem acG {p:Nat->List T->Prop}:∀(n:Nat),(∀i,i<n->∃r,p i r)->∃rows:List (List T),rows.length=n/\∀(i:Nat) r,rows[i]?=some r->p i r
 |0,_=>⟨[],rfl,λi r h=>by simp at h⟩
 |n+1,h=>by
  obtain⟨rows,h1,h2⟩:=acG n λi hi=>h i (by omega);obtain⟨r,hr⟩:=h n (by omega);refine⟨rows++[r],by simp[h1],λi x hx=> ?_⟩;rcases Nat.lt_or_ge i n with hl|hl
  ·rw[List.getElem?_append_left (by omega)]at hx;exact h2 i x hx
  ·rw[List.getElem?_append_right (by omega)]at hx;have:i=n:=by
    have:=(List.getElem?_eq_some_iff.1 hx).1;simp at this;omega
   subst this;simp[h1]at hx;subst hx;exact hr
omit [Gl]in
theorem abk {e:TypeId}:∀{ds:List (DataW H)}{i:Nat}{d:DataW H},ds[i]?=some d->∀n∈d.weights P e,n∈DataW.weightsAll P e ds
 |[],i,d,h,_,_=>by simp at h
 |d0::ds,0,d,h,n,hn=>by
  simp at h;subst h;simp only[DataW.weightsAll,List.mem_append];exact .inl hn
 |d0::ds,i+1,d,h,n,hn=>by
  simp only[DataW.weightsAll,List.mem_append];exact .inr (abk (by simpa using h) n hn)
omit [Gl]in
theorem aaV (bw:cg P δ){ts:List Nat}(hk:abV δ ts=true):∀(n:Nat)(t:Nat)(cs:List Value)(x:DataW H×List MemPlace),t∈ts->DataW.trod enc P w 0 (λ_=>true) true n t cs=some x->(∀m∈x.1.weights P t,m<=reachBytes)->∃l,Fit δ t l/\VTs w l cs
 |0,t,cs,x,_,h,_=>by simp[DataW.trod]at h
 |n+1,t,cs,x,ht,h,hwt=>by
  have hkt:=List.all_eq_true.1 hk t ht;split at hkt
  ·rename_i d hd;have cells:∀e ed,δ e=some ed->P.cellsOf e=ed.size:=by
    intro e ed ir;obtain⟨i,h1,h3,_⟩:=fP bw ir;simp[Program.cellsOf,h1,h3]
   have ac2:∀(a:Addr)(m:Nat)(cs':List Value),1<=m->w.cells? 0 a m=some cs'->a.spot=none/\a.block<w.heap.size/\cs'.length=m/\∀i,i<m->w.cell? ⟨a.block,a.off+i,none⟩=cs'[i]?:=by
    intro a m cs' hm hc;obtain⟨_,g2,g3⟩:=World.cells?_some hc;have h0:=g3 0 (by omega);have hb:=World.cells?_block hc (by omega);have hs:a.spot=none:=by
     obtain⟨b,off,sp⟩:=a;rw[List.getElem?_eq_getElem (by omega)]at h0
     cases sp with
     |none=>rfl
     |some s=>
      simp only[Addr.add,if_true,World.cell?]at h0;split at h0
      ·simp at h0
      ·cases h0
    refine⟨hs,hb,g2,λi hi=> ?_⟩;rw[<-g3 i hi];obtain⟨b,off,sp⟩:=a;simp only at hs;subst hs;rw[Addr.add_lit]
   split at hkt
   ·rename_i k hs;obtain⟨u,h1,h2⟩:=fI bw hd;rw[hs]at h2;cases u<;>simp[cz]at h2;subst h2;obtain⟨m,rfl,_,hw⟩:=DataW.trod_int h1 h;exact⟨_,.int m hd hs hw,.one (.int (n:=.th λ_=>m))⟩
   ·rename_i hs;obtain⟨u,h1,h2⟩:=fI bw hd;rw[hs]at h2;cases u<;>simp[cz]at h2;obtain⟨m,rfl,_⟩:=DataW.trod_bool h1 h;exact⟨_,.bool m hd hs,.one (.bool (b:=.th λ_=>m))⟩
   ·rename_i hs;obtain⟨u,h1,h2⟩:=fI bw hd;rw[hs]at h2;cases u<;>simp[cz]at h2;obtain⟨m,rfl,hx,hw⟩:=DataW.trod_string h1 h;subst hx;exact⟨_,.str m hd hs (by have:=hwt m.data.toList.length (by simp only[DataW.weights,List.mem_singleton]);rwa[Array.length_toList]at this),.one (.str (s:=.th λ_=>m))⟩
   ·rename_i e hs;simp only[Bool.and_eq_true,ady]at hkt;obtain⟨hke,hkp⟩:=hkt;split at hkp
    ·rename_i ed ir;have h1:=I7 bw hd hs;have hpos:1<=ed.size:=Nat.le_of_ble_eq_true hkp;rcases DataW.trod_pointer h1 h with⟨rfl,_⟩|⟨a,cs',y,m,hm,rfl,hx,hc,hr⟩
     ·exact⟨_,.GS hd hs,.one (.lit rfl)⟩
     ·cases hm;subst hx;obtain⟨l,hl,hv⟩:=aaV bw hk n e cs' y (by simpa using hke) hr (λm hm=>hwt m (by simpa[DataW.weights,h1]using hm));rw[cells e ed ir]at hc;obtain⟨g1,g2,g3,g4⟩:=ac2 a _ cs' hpos hc;refine⟨_,.ptr l hd hs hl,.one ?_⟩;obtain⟨b,off,sp⟩:=a;simp only at g1;subst g1;refine .gx (λj=>(cs'[j]?).getD undef) g2 (λh=>h) (λj x hx=> ?_) (λj x hx=> ?_)
      ·have hj:j<cs'.length:=by rw[<-hv.1];exact(List.getElem?_eq_some_iff.1 hx).1
       simp only at g4;rw[g4 j (by omega),List.getElem?_eq_getElem hj];rfl
      ·have hj:j<cs'.length:=by rw[<-hv.1];exact(List.getElem?_eq_some_iff.1 hx).1
       exact hv.2 j x _ hx (by rw[List.getElem?_eq_getElem hj];rfl)
    ·cases hkp
   ·rename_i e hs;simp only[Bool.and_eq_true,ady]at hkt;obtain⟨hke,hkp⟩:=hkt;split at hkp
    ·rename_i ed ir;have h1:=a_ bw hd hs;have hpos:1<=ed.size:=Nat.le_of_ble_eq_true hkp;rcases DataW.trod_slice h1 h with⟨rfl,_⟩|⟨a,len,cap,elems,rest,m,hm,rfl,rfl,_,hlc,Pn,hel,hr,_⟩
     ·exact⟨_,.sl [] hd hs ir (λr h=>by cases h) (by simp) (by simp),.one (.bJ rfl (.oO λ_=>rfl))⟩
     ·cases hm;have each:∀i,i<len->∃l:List T,Fit δ e l/\∃cs',w.cells? 0 (a.add (i*ed.size)) ed.size=some cs'/\VTs w l cs':=by
       intro i hi;have h3:=hr i hi;rw[cells e ed ir,List.getElem?_eq_getElem (by omega)]at h3
       cases hc:w.cells? 0 (a.add (i*ed.size)) ed.size with
       |none=>rw[hc]at h3;cases h3
       |some cs'=>
        rw[hc]at h3;obtain⟨l,hl,hv⟩:=aaV bw hk n e cs' _ (by simpa using hke) h3 (λm hm=>hwt m (by
         simp only[DataW.weights,h1,List.mem_cons,List.mem_append];exact .inr (.inl (abk (i:=i) (d:=(elems[i]'(by omega)).1) (by rw[List.getElem?_map,List.getElem?_eq_getElem (by omega)];rfl) m hm))))
        exact⟨l,hl,cs',rfl,hv⟩
      obtain⟨rows,hl,hrows⟩:=acG len each;have hfit:∀r∈rows,Fit δ e r:=λr hm=>by
       obtain⟨i,hi⟩:=List.mem_iff_getElem?.1 hm;exact(hrows i r hi).1
      have hbytes:rows.length*ed.bytes<=reachBytes:=by
       obtain⟨ie,i1,_,i3⟩:=fP bw ir;have hb:P.bytesOf e=ed.bytes:=by simp[Program.bytesOf,i1,i3]
       have:=hwt ((elems.length+rest.length)*P.bytesOf e) (by simp[DataW.weights,h1]);rw[hb,Nat.add_mul]at this;rw[hl,<-hel];omega
      refine⟨_,.sl rows hd hs ir hfit hbytes (by omega),.one (.bJ rfl ?_)⟩;rcases Nat.eq_zero_or_pos len with h0|h0
      ·subst h0;obtain rfl:rows=[]:=List.length_eq_zero_iff.1 hl;exact .oO (λh=>by cases h)
      ·obtain⟨l0,_,cs0,hc0,_⟩:=each 0 h0;rw[Nat.zero_mul]at hc0;have ha0:a.add 0=a:=by simp[Addr.add]
       rw[ha0]at hc0;obtain⟨g1,g2,_,_⟩:=ac2 a _ cs0 hpos hc0;obtain⟨b,off,sp⟩:=a;simp only at g1 g2;subst g1;have hrow:∀(i:Nat) r,rows[i]?=some r->r.length=ed.size/\∀(j:Nat) x,r[j]?=some x->∃v,w.cell? ⟨b,off+(i*ed.size+j),none⟩=some v/\VT w (λ_=>False) x v:=by
        intro i r hi;obtain⟨_,cs',hc,hv⟩:=hrows i r hi;obtain⟨_,_,k3,k4⟩:=ac2 _ _ cs' hpos hc;refine⟨by rw[hv.1,k3],λj x hx=> ?_⟩;have hj:j<cs'.length:=by rw[<-hv.1];exact(List.getElem?_eq_some_iff.1 hx).1
        refine⟨cs'[j], ?_,hv.2 j x _ hx (List.getElem?_eq_getElem hj)⟩;have:=k4 j (by omega);rw[Addr.add_lit]at this;rw[<-Nat.add_assoc,this,List.getElem?_eq_getElem hj]
       rw[show Value.slice (some ⟨b,off,none⟩) len cap=Value.slice (some ⟨b,off,none⟩) rows.length cap by rw[hl]];refine .dO (λi j=>(w.cell? ⟨b,off+(i*ed.size+j),none⟩).getD undef) g2 (λh=>h) (by omega) (λr hm=> ?_) (λi j r x hi hx=> ?_) (λi j r x hi hx=> ?_)
       ·obtain⟨i,hi⟩:=List.mem_iff_getElem?.1 hm;exact(hrow i r hi).1
       ·obtain⟨v,hv,_⟩:=(hrow i r hi).2 j x hx;rw[hv];rfl
       ·obtain⟨v,hv,RU⟩:=(hrow i r hi).2 j x hx;rw[hv];exact RU
    ·cases hkp
   ·rename_i m e hs;simp only[Bool.and_eq_true]at hkt;obtain⟨⟨hke,_⟩,hsz⟩:=hkt;split at hsz
    ·rename_i ed ir;have h1:=nL bw hd hs;obtain⟨xs,n',hn',SF,hcl,Xq,hxs⟩:=DataW.trod_array h1 h;cases hn';subst SF;rw[cells e ed ir]at hxs;have hcs:cs.length=m*ed.size:=by rw[hcl,cells t d hd];simpa using hsz
     have go:∀(q:Nat),q<=m->∃l,Jn δ e q l/\VTs w l (cs.drop ((m -q)*ed.size)):=by
      intro q
      induction q with
      |zero=>intro _;exact⟨[],.nil,by simp[hcs],λi x v h=>by simp at h⟩
      |succ q ih=>
       intro hq;obtain⟨b,FW,M_⟩:=ih (by omega);have h3:=hxs (m -(q+1)) (by omega);rw[List.getElem?_eq_getElem (by omega)]at h3;obtain⟨a,X_,ha2⟩:=aaV bw hk n e _ _ (by simpa using hke) h3 (λk hk=>hwt k (by
        simp only[DataW.weights,h1];exact abk (i:=m -(q+1)) (d:=(xs[m -(q+1)]'(by omega)).1) (by rw[List.getElem?_map,List.getElem?_eq_getElem (by omega)];rfl) k hk))
       refine⟨a++b,.cons X_ FW, ?_⟩;have:cs.drop ((m -(q+1))*ed.size)=(cs.drop ((m -(q+1))*ed.size)).take ed.size++cs.drop ((m -q)*ed.size):=by
        rw[show(m -q)*ed.size=(m -(q+1))*ed.size+ed.size by
         rw[show m -q=(m -(q+1))+1 by omega,Nat.add_mul,Nat.one_mul],<-List.drop_drop,List.take_append_drop]
       rw[this];exact ha2.append M_
     obtain⟨l,hl,hv⟩:=go m (Nat.le_refl _);exact⟨l,.array hd hs hl,by simpa using hv⟩
    ·cases hsz
   ·rename_i fs hs;simp only[Bool.and_eq_true]at hkt;obtain⟨hke,adV⟩:=hkt;obtain⟨fs',h1,h2⟩:=oU bw hd hs;obtain⟨xs,n',hn',SF,hcl,Xq,hxs⟩:=DataW.trod_struct h1 h;cases hn';subst SF;have each:∀f∈fs,∃x,DataW.trod enc P w 0 (λ_=>true) true n f.2 ((cs.drop f.1).take (P.cellsOf f.2))=some x/\∀m∈x.1.weights P f.2,m<=reachBytes:=by
     intro f hf;rw[<-h2]at hf;obtain⟨g,hg,rfl⟩:=List.mem_map.1 hf;obtain⟨i,hi⟩:=List.mem_iff_getElem?.1 hg;have h3:=hxs i g (by simpa using hi);have hlt:i<xs.length:=by
      have:=(List.getElem?_eq_some_iff.1 hi).1;rw[Xq];simpa using this
     refine⟨_,h3.trans (List.getElem?_eq_getElem hlt),λm hm=>hwt m ?_⟩;simp only[DataW.weights,h1];exact DataW.weights_mem_each (j:=i) (d:=(xs[i]).1) (by rw[List.getElem?_map,hi];rfl) (by rw[List.getElem?_map,List.getElem?_eq_getElem hlt];rfl) m hm
    have go:∀(fs:List (Nat×Nat))(o:Nat),abo δ fs o d.size=true->(∀f∈fs,f.2∈ts)->(∀f∈fs,∃x,DataW.trod enc P w 0 (λ_=>true) true n f.2 ((cs.drop f.1).take (P.cellsOf f.2))=some x/\∀m∈x.1.weights P f.2,m<=reachBytes)->∃l,Ai δ fs o l/\VTs w l (cs.drop o):=by
     intro fs
     induction fs with
     |nil=>
      intro o hc _ _;simp only[abo,beq_iff_eq]at hc;exact⟨[],.nil,by rw[hc];simp[hcl,cells t d hd],λi x v h=>by simp at h⟩
     |cons f fs ih=>
      intro o hc hm he;obtain⟨a,ft⟩:=f;simp only[abo]at hc;split at hc
      ·rename_i ed ir;simp only[Bool.and_eq_true,beq_iff_eq]at hc;obtain⟨rfl,hc⟩:=hc;obtain⟨x,hx,hxw⟩:=he _ List.mem_cons_self;obtain⟨l,FU,La⟩:=aaV bw hk n ft _ x (hm _ List.mem_cons_self) hx hxw;obtain⟨b,FW,M_⟩:=ih _ hc (λf hf=>hm f (List.mem_cons_of_mem _ hf)) (λf hf=>he f (List.mem_cons_of_mem _ hf));refine⟨l++b,.cons ir FU FW, ?_⟩;have:cs.drop a=(cs.drop a).take ed.size++cs.drop (a+ed.size):=by
        rw[<-List.drop_drop,List.take_append_drop]
       rw[this];rw[cells ft ed ir]at La;exact La.append M_
      ·cases hc
    obtain⟨l,hl,hv⟩:=go fs 0 adV (λf hf=>by
     have:=List.all_eq_true.1 hke f hf;simpa using this) each
    exact⟨l,.struct hd hs hl,by simpa using hv⟩
   ·cases hkt
  ·cases hkt
omit [Gl]in
theorem ac8 {r:Reach}{base:Nat}{t:TypeId}{cs:Array Value}(h:Cell.okWide P w r base t (.agg cs)):False:=by
 unfold Cell.okWide at h;split at h<;>try(rename_i h1;cases h1)
 all_goals simp_all [Cell.ok]
omit [Gl]in
theorem acI (bw:cg P δ){ts:List Nat}(hk:abV δ ts=true){t:Nat}(ht:t∈ts){base:Nat}{v:Value}{d:DataW H}{p:List MemPlace}(hval:Value.okWide P w .any base t v)(h:DataW.Trod enc P w 0 (λ_=>true) true t v d p)(hwt:∀m∈d.weights P t,m<=reachBytes):
  ∃x,yU δ t x/\VR w (λ_=>False) [] x v:=by
 obtain⟨n,hn⟩:=h;obtain⟨l,hl,hv⟩:=aaV bw hk n t _ _ ht hn hwt;have ho:∀t v,VT w (λ_=>False) t v->VT w (own (λ_=>False) []) t v:=λt v h=>h.mono (Nat.le_refl _) (λ_ _ _=>rfl) (λb _ hn hO=>hn (by
  rcases hO with h|h
  ·simp at h
  ·exact h))
 have hkt:=List.all_eq_true.1 hk t ht;split at hkt
 ·rename_i d' hd;obtain⟨i,u,g1,g2,g3,g4,g5,g6,g7⟩:=(bw t d' hd).ok;refine⟨Lh d'.agg l,⟨d',l,hd,hl,rfl⟩, ?_⟩
  cases ha:d'.agg with
  |true=>
   have:∃cs,v=.agg cs:=by
    rw[g5]at ha;unfold Value.okWide at hval;rw[g2]at hval;cases u<;>simp[w9]at ha
    ·obtain⟨cs,h,_⟩:=hval;exact⟨cs,h⟩
    ·obtain⟨cs,h,_⟩:=hval;exact⟨cs,h⟩
   obtain⟨cs,rfl⟩:=this;simp only[Value.cells]at hv;refine .agg (by simp[hv.1]) (λi x v hx mJ=> ?_) (λi v mJ=> ?_)
   ·rw[List.getElem?_map]at hx
    cases hli:l[i]? with
    |none=>rw[hli]at hx;cases hx
    |some y=>
     rw[hli]at hx;simp at hx;subst hx;exact .c (ho _ _ (hv.2 i y v hli (by simpa using mJ)))
   ·have hlt:i<l.length:=by
     have:=(Array.getElem?_eq_some_iff.1 mJ).1;rw[hv.1];simpa using this
    exact(hv.2 i _ v (List.getElem?_eq_getElem hlt) (by simpa using mJ)).one
  |false=>
   have hc:Cell.okWide P w .any base t v:=by
    rw[g5]at ha;unfold Value.okWide at hval;rw[g2]at hval;cases u<;>simp[w9]at ha<;>exact hval
   have hvc:v.cells.toList=[v]:=by
    cases v<;>first|rfl|exact(ac8 hc).elim
   rw[hvc]at hv;have FU:=hv.1;obtain⟨c,rfl⟩:=List.length_eq_one_iff.1 FU;exact .c (ho _ _ (hv.2 0 c v rfl rfl))
 ·cases hkt
omit [Gl]in
theorem acH (bw:cg P δ){ts:List Nat}(hk:abV δ ts=true){base:Nat}:∀(ps:List Nat)(vs:List Value)(ds:List (DataW H))(p:List MemPlace),(∀t∈ps,t∈ts)->(∀(j:Nat) t v,ps[j]?=some t->vs[j]?=some v->Value.okWide P w .any base t v)->
  DataW.TrodAll enc P w 0 (λ_=>true) true ps vs ds p->(∀m∈DataW.weightsEach P ps ds,m<=reachBytes)->ds.length=ps.length/\∃xs,uM δ ps xs/\ua w (λ_=>False) [] xs vs
 |[],vs,ds,p,_,_,h,_=>by
  obtain⟨rfl,rfl,_⟩:=trodAll_nil h;exact⟨rfl,[],.nil,rfl,λi x v h=>by simp at h⟩
 |t::ps,vs,ds,p,hts,hval,h,hwt=>by
  obtain⟨v,vs,d,ds,p,q,rfl,rfl,rfl,h1,h2⟩:=trodAll_cons h;obtain⟨g0,xs,g1,g2⟩:=acH bw hk ps vs ds q (λt ht=>hts t (List.mem_cons_of_mem _ ht)) (λj t v h1 h2=>hval (j+1) t v (by simpa using h1) (by simpa using h2)) h2 (λm hm=>hwt m (by simp only[DataW.weightsEach,List.mem_append];exact .inr hm));obtain⟨x,k1,k2⟩:=acI bw hk (hts t List.mem_cons_self) (hval 0 t v rfl rfl) h1 (λm hm=>hwt m (by simp only[DataW.weightsEach,List.mem_append];exact .inl hm));refine⟨by simp[g0],x::xs,.cons k1 g1,by simp[g2.1],λi y u hy hu=> ?_⟩
  cases i with
  |zero=>simp at hy hu;subst hy;subst hu;exact k2
  |succ i=>exact g2.2 i y u (by simpa using hy) (by simpa using hu)
omit [Gl]in
theorem abJ (laid:laidOutB P=true){W W':World}(hb:Below W.heap.size W W'):∀(ps:List Nat)(vs:List Value)(ds:List (DataW H))(p:List MemPlace),ps.all (λt=>P.readableRec t&&decide (t<P.types.size))=true->
  DataW.TrodAll enc P W 0 (λ_=>true) true ps vs ds p->DataW.TrodAll enc P W' 0 (λb=>decide (b<W.heap.size)) true ps vs ds p
 |[],vs,ds,p,_,h=>by
  obtain⟨rfl,rfl,rfl⟩:=trodAll_nil h;exact trodAll_mk0
 |t::ps,vs,ds,p,hr,h=>by
  obtain⟨v,vs,d,ds,p,q,rfl,rfl,rfl,h1,h2⟩:=trodAll_cons h;simp only[List.all_cons,Bool.and_eq_true,decide_eq_true_eq]at hr;have hlt:∀x∈p,x.block<W.heap.size:=by obtain⟨m,hm⟩:=h1;exact DataW.trod_lt m _ _ _ hm
  exact trodAll_cons_mk (Below.trod laid hr.1.1 hr.1.2 h1 hb hlt) (abJ laid hb ps vs ds q hr.2 h2)
theorem ac0 {f:FuncId}{fn:Func}{c:Code}(hf:P.funcs[f]?=some fn)(hb:fn.body=some c)(hname:(fn.name== "runtime.NumGoroutine")=false){xs:List AV}(h:aV P f xs [] (λx _=>∃b,x=AB b/\b.den=true)){W:World}{args:Array Value}(hv:ua W (λ_=>False) [] xs args.toList)(hg:LN W (λ_=>False)):
  Calls P f args W λe W'=>e=.returned (.bool true)/\Below W.heap.size W W':=by
 have hs:St W (λ_=>False) [] []:=
  {len:=rfl,inj:=λo o' b h=>by simp at h,lt:=λo b h=>by simp at h,dead:=λo h=>by simp at h,frame:=λb h=>h.elim,live:=λo b h=>by simp at h,gl:=hg.sub λb _ h=>h.elim (λh=>by simp at h) id}
 have hr:=h.run W (λ_=>False) [] args hv hs;have Xo:(callFunc f args).run P W=.ok (.enter f args) W:=by
  have hn:¬fn.name= "runtime.NumGoroutine":=by simpa using hname
  simp[callFunc,hf,hn,hb]
 unfold jK at hr;rw[Xo]at hr;obtain⟨_,_,_,hr⟩:=hr;refine hr.mono λe W' ⟨v,x,cc,bu,h1,h2,h3,h4,b,h5,h6⟩=> ?_;subst h5
 cases h2 with
 |c h2=>
  cases h2;exact⟨by rw[h1,h6],⟨h4.os,h4.tape,h4.output,h4.size,λk hk=>h4.ct k hk (by simp)⟩⟩
theorem nI {C:Checked}{os:Os}{f:FuncId}{fn:Func}{c:Code}{s:ChangeSpec}{conds:List PathCond}{tb:TypeId}{ts:List Nat}(bw:cg C.prog δ)(hk:abV δ ts=true)
  (hown:ownKnob C.prog.godebug=none) (started:os.Started) (noInit:C.prog.inits.idxOf? f=none) (hfn:C.prog.funcs[f]?=some fn) (hb:fn.body=some c) (hname:(fn.name== "runtime.NumGoroutine")=false)
  (witness:∃(w:World)(tape:Tape)(i:Input),w.os=os/\(w.forCall tape i).Shaped C.prog/\i.vars=[]/\Input.okWide C.prog (w.forCall tape i) .any w.heap.size f i/\
   s.pre6 enc C.prog fn conds false (w.forCall tape i).memory i.args/\({}:Assume).holds C.prog (lone (Frame.enter C.prog f i.args .normal) [] (w.forCall tape i)))
  (hvars:s.vars=[]) (hres:fn.resultTypes= #[tb]) (htb:C.prog.underlying tb=some .bool) (laid:laidOutB C.prog=true) (hpar:fn.params.toList.all (λt=>ts.contains t)=true)
  (hread:fn.params.toList.all (λt=>C.prog.readableRec t&&decide (t<C.prog.types.size))=true) (hspec:∀ds:List (DataW H),ds.length=fn.params.toList.length->s.fn H ds={results:=[.lit (.bool true)],args:=ds})
  (walk:Oe C.prog δ f fn.params.toList) (Kc:∀W:World,LN W (λ_=>False)):ReturnsInHanded {} C os f .any (s.pre6 enc C.prog fn conds false) (s.post enc C.prog fn false true false false):=by
 refine returnsInHanded_of_change_sized hown started noInit hfn witness ?_;intro W base args ds gs before hval hW _ hsz _;have hW':=hW;obtain⟨p,q,hA,hV,rfl,hfz,BB⟩:=hW;rw[hvars]at hV;obtain⟨rfl,rfl⟩:=trodVars_none hV;obtain⟨hl,xs,hx1,Zz⟩:=acH bw hk fn.params.toList args.toList ds p (λt ht=>by
  have:=List.all_eq_true.1 hpar t ht;simpa using this) (λj t v h1 h2=>hval j t v (by simpa using h1) (by simpa using h2)) hA (λm hm=>by
  have:=List.all_eq_true.1 hsz m (by simpa[ChangeSpec.plain,DataSpec.varTypes,hvars]using hm);simpa using this)
 refine(ac0 hfn hb hname (walk xs hx1) Zz (Kc W)).mono λe W' ⟨he,adD⟩=> ?_;subst he;have hsp:=hspec ds hl;have hr:DataW.TrodAll enc C.prog W' W.heap.size (λ_=>false) false fn.resultTypes.toList ((Value.bool true).resultList fn.resultTypes.size) (s.fn H (ds++[])).results []:=by
  rw[List.append_nil,hsp,hres];exact trodAll_mk1 (shut_bool htb _)
 have ha:DataW.TrodAll enc C.prog W' 0 (λb=>decide (b<W.heap.size)) true fn.params.toList args.toList (s.fn H (ds++[])).args p:=by
  rw[List.append_nil,hsp];exact abJ laid adD _ _ _ _ hread hA
 refine⟨_,rfl,ds,[],_,[],p,[],hW',hr,ha, ?_,adD.frame _,λh=>by cases h⟩;rw[hvars,List.append_nil,hsp]
 rfl
end
end Go.bA
end
