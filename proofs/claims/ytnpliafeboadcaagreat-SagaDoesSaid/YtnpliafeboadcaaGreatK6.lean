/- Texts that the law leans on, part 6. No conditions. -/
import Derived.Test.YtnpliafeboadcaaGreatK5
section
namespace Go.Proofs.aaa
open Go.bA
structure Cell where
 item:Int
 aE:Int
 free:Int
 held:Int
 out:Int
 all:Int
 deriving DecidableEq
abbrev Cell.ts (x:Cell):List T:=[.int .i64 (.th λ_=>x.item),.int .i64 (.th λ_=>x.aE),.int .i64 (.th λ_=>x.free),.int .i64 (.th λ_=>x.held),.int .i64 (.th λ_=>x.out),.int .i64 (.th λ_=>x.all)]
abbrev Cell.av (x:Cell):AV:=.agg [.c (.int .i64 (.th λ_=>x.item)),.c (.int .i64 (.th λ_=>x.aE)),.c (.int .i64 (.th λ_=>x.free)),.c (.int .i64 (.th λ_=>x.held)),.c (.int .i64 (.th λ_=>x.out)),.c (.int .i64 (.th λ_=>x.all))]
abbrev Cell.cs (x:Cell):List AV:=[.c (.int .i64 (.th λ_=>x.item)),.c (.int .i64 (.th λ_=>x.aE)),.c (.int .i64 (.th λ_=>x.free)),.c (.int .i64 (.th λ_=>x.held)),.c (.int .i64 (.th λ_=>x.out)),.c (.int .i64 (.th λ_=>x.all))]
def Cell.wf (x:Cell):Prop:=(Lit.int .i64 x.item).wf=true/\(Lit.int .i64 x.aE).wf=true/\(Lit.int .i64 x.free).wf=true/\(Lit.int .i64 x.held).wf=true/\(Lit.int .i64 x.out).wf=true/\(Lit.int .i64 x.all).wf=true
theorem Cell.fit {l:List T}(h:Fit td 68 l):∃x:Cell,l=x.ts/\x.wf:=by
 have h0:=o9 (d:=(td 68).get rfl) rfl rfl h;obtain⟨a0,b0,e0,rfl,BA,f0,h1⟩:=eD h0;obtain⟨a1,b1,e1,rfl,IY,f1,h2⟩:=eD h1;obtain⟨a2,b2,e2,rfl,LD,f2,h3⟩:=eD h2;obtain⟨a3,b3,e3,rfl,LF,f3,h4⟩:=eD h3;obtain⟨a4,b4,e4,rfl,he4,f4,h5⟩:=eD h4;obtain⟨a5,b5,e5,rfl,he5,f5,h6⟩:=eD h5;obtain rfl:=uN h6;obtain⟨n0,rfl,w0⟩:=gT BA (by cases BA;rfl) f0;obtain⟨n1,rfl,w1⟩:=gT IY (by cases IY;rfl) f1;obtain⟨n2,rfl,w2⟩:=gT LD (by cases LD;rfl) f2;obtain⟨n3,rfl,w3⟩:=gT LF (by cases LF;rfl) f3;obtain⟨n4,rfl,w4⟩:=gT he4 (by cases he4;rfl) f4;obtain⟨n5,rfl,w5⟩:=gT he5 (by cases he5;rfl) f5;exact⟨⟨n0,n1,n2,n3,n4,n5⟩,rfl,⟨w0,w1,w2,w3,w4,w5⟩⟩
theorem Cell.wh (x:Cell):x.ts.length=6:=rfl
structure aQ where
 order:Int
 bC:Int
 aT:Int
 aX:Int
 deriving DecidableEq
abbrev aQ.ts (x:aQ):List T:=[.int .i64 (.th λ_=>x.order),.int .i64 (.th λ_=>x.bC),.int .i64 (.th λ_=>x.aT),.int .i64 (.th λ_=>x.aX)]
abbrev aQ.av (x:aQ):AV:=.agg [.c (.int .i64 (.th λ_=>x.order)),.c (.int .i64 (.th λ_=>x.bC)),.c (.int .i64 (.th λ_=>x.aT)),.c (.int .i64 (.th λ_=>x.aX))]
abbrev aQ.cs (x:aQ):List AV:=[.c (.int .i64 (.th λ_=>x.order)),.c (.int .i64 (.th λ_=>x.bC)),.c (.int .i64 (.th λ_=>x.aT)),.c (.int .i64 (.th λ_=>x.aX))]
def aQ.wf (x:aQ):Prop:=(Lit.int .i64 x.order).wf=true/\(Lit.int .i64 x.bC).wf=true/\(Lit.int .i64 x.aT).wf=true/\(Lit.int .i64 x.aX).wf=true
theorem aQ.fit {l:List T}(h:Fit td 74 l):∃x:aQ,l=x.ts/\x.wf:=by
 have h0:=o9 (d:=(td 74).get rfl) rfl rfl h;obtain⟨a0,b0,e0,rfl,BA,f0,h1⟩:=eD h0;obtain⟨a1,b1,e1,rfl,IY,f1,h2⟩:=eD h1;obtain⟨a2,b2,e2,rfl,LD,f2,h3⟩:=eD h2;obtain⟨a3,b3,e3,rfl,LF,f3,h4⟩:=eD h3;obtain rfl:=uN h4;obtain⟨n0,rfl,w0⟩:=gT BA (by cases BA;rfl) f0;obtain⟨n1,rfl,w1⟩:=gT IY (by cases IY;rfl) f1;obtain⟨n2,rfl,w2⟩:=gT LD (by cases LD;rfl) f2;obtain⟨n3,rfl,w3⟩:=gT LF (by cases LF;rfl) f3;exact⟨⟨n0,n1,n2,n3⟩,rfl,⟨w0,w1,w2,w3⟩⟩
theorem aQ.wh (x:aQ):x.ts.length=4:=rfl
structure au where
 order:Int
 sJ:Int
 dst:Int
 ax:Int
 deriving DecidableEq
abbrev au.ts (x:au):List T:=[.int .i64 (.th λ_=>x.order),.int .u8 (.th λ_=>x.sJ),.int .u8 (.th λ_=>x.dst),.int .i64 (.th λ_=>x.ax)]
abbrev au.av (x:au):AV:=.agg [.c (.int .i64 (.th λ_=>x.order)),.c (.int .u8 (.th λ_=>x.sJ)),.c (.int .u8 (.th λ_=>x.dst)),.c (.int .i64 (.th λ_=>x.ax))]
def au.wf (x:au):Prop:=(Lit.int .i64 x.order).wf=true/\(Lit.int .u8 x.sJ).wf=true/\(Lit.int .u8 x.dst).wf=true/\(Lit.int .i64 x.ax).wf=true
theorem au.fit {l:List T}(h:Fit td 139 l):∃x:au,l=x.ts/\x.wf:=by
 have h0:=o9 (d:=(td 139).get rfl) rfl rfl h;obtain⟨a0,b0,e0,rfl,BA,f0,h1⟩:=eD h0;obtain⟨a1,b1,e1,rfl,IY,f1,h2⟩:=eD h1;obtain⟨a2,b2,e2,rfl,LD,f2,h3⟩:=eD h2;obtain⟨a3,b3,e3,rfl,LF,f3,h4⟩:=eD h3;obtain rfl:=uN h4;obtain⟨n0,rfl,w0⟩:=gT BA (by cases BA;rfl) f0;obtain⟨n1,rfl,w1⟩:=gT IY (by cases IY;rfl) f1;obtain⟨n2,rfl,w2⟩:=gT LD (by cases LD;rfl) f2;obtain⟨n3,rfl,w3⟩:=gT LF (by cases LF;rfl) f3;exact⟨⟨n0,n1,n2,n3⟩,rfl,⟨w0,w1,w2,w3⟩⟩
structure aF where
 aK:List aQ
 ak:List au
 deriving DecidableEq
abbrev aF.ts (x:aF):List T:=[.bJ 4 λ_=>.dO 4 (x.aK.map aQ.ts),.bJ 4 λ_=>.dO 4 (x.ak.map au.ts)]
abbrev aF.av (x:aF):AV:=.agg [.c (.bJ 4 λ_=>.dO 4 (x.aK.map aQ.ts)),.c (.bJ 4 λ_=>.dO 4 (x.ak.map au.ts))]
def aF.wf (x:aF):Prop:=(∀y∈x.aK,y.wf)/\x.aK.length*((td 74).get rfl).bytes<=reachBytes/\(∀y∈x.ak,y.wf)/\x.ak.length*((td 139).get rfl).bytes<=reachBytes
theorem aF.fit {l:List T}(h:Fit td 26 l):∃x:aF,l=x.ts/\x.wf:=by
 have h0:=o9 (d:=(td 26).get rfl) rfl rfl h;obtain⟨a0,b0,e0,rfl,BA,f0,h1⟩:=eD h0;obtain⟨a1,b1,e1,rfl,IY,f1,h2⟩:=eD h1;obtain rfl:=uN h2;obtain⟨r0,rfl,u0,v0,_⟩:=nO (e:=74) (ed:=(td 74).get rfl) rfl BA (by cases BA;rfl) f0;obtain⟨n0,rfl,w0⟩:=jT (λr hr=>aQ.fit hr) r0 u0;obtain⟨r1,rfl,u1,v1,_⟩:=nO (e:=139) (ed:=(td 139).get rfl) rfl IY (by cases IY;rfl) f1;obtain⟨n1,rfl,w1⟩:=jT (λr hr=>au.fit hr) r1 u1;exact⟨⟨n0,n1⟩,rfl,⟨w0,by simpa using v0,w1,by simpa using v1⟩⟩
structure ah where
 order:Int
 state:Int
 deriving DecidableEq
abbrev ah.ts (x:ah):List T:=[.int .i64 (.th λ_=>x.order),.int .u8 (.th λ_=>x.state)]
abbrev ah.av (x:ah):AV:=.agg [.c (.int .i64 (.th λ_=>x.order)),.c (.int .u8 (.th λ_=>x.state))]
abbrev ah.cs (x:ah):List AV:=[.c (.int .i64 (.th λ_=>x.order)),.c (.int .u8 (.th λ_=>x.state))]
def ah.wf (x:ah):Prop:=(Lit.int .i64 x.order).wf=true/\(Lit.int .u8 x.state).wf=true
theorem ah.fit {l:List T}(h:Fit td 143 l):∃x:ah,l=x.ts/\x.wf:=by
 have h0:=o9 (d:=(td 143).get rfl) rfl rfl h;obtain⟨a0,b0,e0,rfl,BA,f0,h1⟩:=eD h0;obtain⟨a1,b1,e1,rfl,IY,f1,h2⟩:=eD h1;obtain rfl:=uN h2;obtain⟨n0,rfl,w0⟩:=gT BA (by cases BA;rfl) f0;obtain⟨n1,rfl,w1⟩:=gT IY (by cases IY;rfl) f1;exact⟨⟨n0,n1⟩,rfl,⟨w0,w1⟩⟩
theorem ah.wh (x:ah):x.ts.length=2:=rfl
structure aU where
 item:Int
 aE:Int
 gF:Int
 unit:Int
 deriving DecidableEq
abbrev aU.ts (x:aU):List T:=[.int .i64 (.th λ_=>x.item),.int .i64 (.th λ_=>x.aE),.int .i64 (.th λ_=>x.gF),.int .i64 (.th λ_=>x.unit)]
def aU.wf (x:aU):Prop:=(Lit.int .i64 x.item).wf=true/\(Lit.int .i64 x.aE).wf=true/\(Lit.int .i64 x.gF).wf=true/\(Lit.int .i64 x.unit).wf=true
theorem aU.fit {l:List T}(h:Fit td 80 l):∃x:aU,l=x.ts/\x.wf:=by
 have h0:=o9 (d:=(td 80).get rfl) rfl rfl h;obtain⟨a0,b0,e0,rfl,BA,f0,h1⟩:=eD h0;obtain⟨a1,b1,e1,rfl,IY,f1,h2⟩:=eD h1;obtain⟨a2,b2,e2,rfl,LD,f2,h3⟩:=eD h2;obtain⟨a3,b3,e3,rfl,LF,f3,h4⟩:=eD h3;obtain rfl:=uN h4;obtain⟨n0,rfl,w0⟩:=gT BA (by cases BA;rfl) f0;obtain⟨n1,rfl,w1⟩:=gT IY (by cases IY;rfl) f1;obtain⟨n2,rfl,w2⟩:=gT LD (by cases LD;rfl) f2;obtain⟨n3,rfl,w3⟩:=gT LF (by cases LF;rfl) f3;exact⟨⟨n0,n1,n2,n3⟩,rfl,⟨w0,w1,w2,w3⟩⟩
structure Order where
 id:Int
 lines:List aU
 aP:Int
 status:Int
 deriving DecidableEq
abbrev Order.ts (x:Order):List T:=[.int .i64 (.th λ_=>x.id),.bJ 4 λ_=>.dO 4 (x.lines.map aU.ts),.int .i64 (.th λ_=>x.aP),.int .u8 (.th λ_=>x.status)]
abbrev Order.av (x:Order):AV:=.agg [.c (.int .i64 (.th λ_=>x.id)),.c (.bJ 4 λ_=>.dO 4 (x.lines.map aU.ts)),.c (.int .i64 (.th λ_=>x.aP)),.c (.int .u8 (.th λ_=>x.status))]
abbrev Order.cs (x:Order):List AV:=[.c (.int .i64 (.th λ_=>x.id)),.c (.bJ 4 λ_=>.dO 4 (x.lines.map aU.ts)),.c (.int .i64 (.th λ_=>x.aP)),.c (.int .u8 (.th λ_=>x.status))]
def Order.wf (x:Order):Prop:=(Lit.int .i64 x.id).wf=true/\(∀y∈x.lines,y.wf)/\x.lines.length*((td 80).get rfl).bytes<=reachBytes/\(Lit.int .i64 x.aP).wf=true/\(Lit.int .u8 x.status).wf=true
theorem Order.fit {l:List T}(h:Fit td 72 l):∃x:Order,l=x.ts/\x.wf:=by
 have h0:=o9 (d:=(td 72).get rfl) rfl rfl h;obtain⟨a0,b0,e0,rfl,BA,f0,h1⟩:=eD h0;obtain⟨a1,b1,e1,rfl,IY,f1,h2⟩:=eD h1;obtain⟨a2,b2,e2,rfl,LD,f2,h3⟩:=eD h2;obtain⟨a3,b3,e3,rfl,LF,f3,h4⟩:=eD h3;obtain rfl:=uN h4;obtain⟨n0,rfl,w0⟩:=gT BA (by cases BA;rfl) f0;obtain⟨r1,rfl,u1,v1,_⟩:=nO (e:=80) (ed:=(td 80).get rfl) rfl IY (by cases IY;rfl) f1;obtain⟨n1,rfl,w1⟩:=jT (λr hr=>aU.fit hr) r1 u1;obtain⟨n2,rfl,w2⟩:=gT LD (by cases LD;rfl) f2;obtain⟨n3,rfl,w3⟩:=gT LF (by cases LF;rfl) f3;exact⟨⟨n0,n1,n2,n3⟩,rfl,⟨w0,w1,by simpa using v1,w2,w3⟩⟩
theorem Order.wh (x:Order):x.ts.length=4:=rfl
structure aC where
 order:Int
 kind:Int
 pos:Int
 aO:Bool
 deriving DecidableEq
abbrev aC.ts (x:aC):List T:=[.int .i64 (.th λ_=>x.order),.int .u8 (.th λ_=>x.kind),.int .i64 (.th λ_=>x.pos),.bool (.th λ_=>x.aO)]
abbrev aC.av (x:aC):AV:=.agg [.c (.int .i64 (.th λ_=>x.order)),.c (.int .u8 (.th λ_=>x.kind)),.c (.int .i64 (.th λ_=>x.pos)),.c (.bool (.th λ_=>x.aO))]
def aC.wf (x:aC):Prop:=(Lit.int .i64 x.order).wf=true/\(Lit.int .u8 x.kind).wf=true/\(Lit.int .i64 x.pos).wf=true
theorem aC.fit {l:List T}(h:Fit td 116 l):∃x:aC,l=x.ts/\x.wf:=by
 have h0:=o9 (d:=(td 116).get rfl) rfl rfl h;obtain⟨a0,b0,e0,rfl,BA,f0,h1⟩:=eD h0;obtain⟨a1,b1,e1,rfl,IY,f1,h2⟩:=eD h1;obtain⟨a2,b2,e2,rfl,LD,f2,h3⟩:=eD h2;obtain⟨a3,b3,e3,rfl,LF,f3,h4⟩:=eD h3;obtain rfl:=uN h4;obtain⟨n0,rfl,w0⟩:=gT BA (by cases BA;rfl) f0;obtain⟨n1,rfl,w1⟩:=gT IY (by cases IY;rfl) f1;obtain⟨n2,rfl,w2⟩:=gT LD (by cases LD;rfl) f2;obtain⟨n3,rfl⟩:=GU LF (by cases LF;rfl) f3;exact⟨⟨n0,n1,n2,n3⟩,rfl,⟨w0,w1,w2⟩⟩
theorem aC.wh (x:aC):x.ts.length=4:=rfl
structure bz where
 why:Int
 status:Int
 ax:Int
 deriving DecidableEq
abbrev bz.ts (x:bz):List T:=[.int .i64 (.th λ_=>x.why),.int .u8 (.th λ_=>x.status),.int .i64 (.th λ_=>x.ax)]
abbrev bz.av (x:bz):AV:=.agg [.c (.int .i64 (.th λ_=>x.why)),.c (.int .u8 (.th λ_=>x.status)),.c (.int .i64 (.th λ_=>x.ax))]
def bz.wf (x:bz):Prop:=(Lit.int .i64 x.why).wf=true/\(Lit.int .u8 x.status).wf=true/\(Lit.int .i64 x.ax).wf=true
theorem bz.fit {l:List T}(h:Fit td 42 l):∃x:bz,l=x.ts/\x.wf:=by
 have h0:=o9 (d:=(td 42).get rfl) rfl rfl h;obtain⟨a0,b0,e0,rfl,BA,f0,h1⟩:=eD h0;obtain⟨a1,b1,e1,rfl,IY,f1,h2⟩:=eD h1;obtain⟨a2,b2,e2,rfl,LD,f2,h3⟩:=eD h2;obtain rfl:=uN h3;obtain⟨n0,rfl,w0⟩:=gT BA (by cases BA;rfl) f0;obtain⟨n1,rfl,w1⟩:=gT IY (by cases IY;rfl) f1;obtain⟨n2,rfl,w2⟩:=gT LD (by cases LD;rfl) f2;exact⟨⟨n0,n1,n2⟩,rfl,⟨w0,w1,w2⟩⟩
structure Kept where
 mark:ByteArray
 cH:bz
 deriving DecidableEq
abbrev Kept.ts (x:Kept):List T:=[.str (.th λ_=>x.mark),.int .i64 (.th λ_=>x.cH.why),.int .u8 (.th λ_=>x.cH.status),.int .i64 (.th λ_=>x.cH.ax)]
abbrev Kept.av (x:Kept):AV:=.agg [.c (.str (.th λ_=>x.mark)),.c (.int .i64 (.th λ_=>x.cH.why)),.c (.int .u8 (.th λ_=>x.cH.status)),.c (.int .i64 (.th λ_=>x.cH.ax))]
abbrev Kept.cs (x:Kept):List AV:=[.c (.str (.th λ_=>x.mark)),.c (.int .i64 (.th λ_=>x.cH.why)),.c (.int .u8 (.th λ_=>x.cH.status)),.c (.int .i64 (.th λ_=>x.cH.ax))]
def Kept.wf (x:Kept):Prop:=x.mark.size<=reachBytes/\x.cH.wf
theorem Kept.fit {l:List T}(h:Fit td 102 l):∃x:Kept,l=x.ts/\x.wf:=by
 have h0:=o9 (d:=(td 102).get rfl) rfl rfl h;obtain⟨a0,b0,e0,rfl,BA,f0,h1⟩:=eD h0;obtain⟨a1,b1,e1,rfl,IY,f1,h2⟩:=eD h1;obtain rfl:=uN h2;obtain⟨n0,rfl,w0⟩:=Jp BA (by cases BA;rfl) f0;obtain⟨n1,rfl,w1⟩:=bz.fit f1;exact⟨⟨n0,n1⟩,rfl,⟨w0,w1⟩⟩
theorem Kept.wh (x:Kept):x.ts.length=4:=rfl
structure State where
 limit:Int
 cells:List Cell
 af:aF
 aA:List ah
 aa:List Order
 aj:List aC
 kept:List Kept
 deriving DecidableEq
abbrev State.ts (x:State):List T:=[.int .i64 (.th λ_=>x.limit),.bJ 6 λ_=>.dO 6 (x.cells.map Cell.ts),.bJ 4 λ_=>.dO 4 (x.af.aK.map aQ.ts),.bJ 4 λ_=>.dO 4 (x.af.ak.map au.ts),.bJ 2 λ_=>.dO 2 (x.aA.map ah.ts),.bJ 4 λ_=>.dO 4 (x.aa.map Order.ts),.bJ 4 λ_=>.dO 4 (x.aj.map aC.ts),.bJ 4 λ_=>.dO 4 (x.kept.map Kept.ts)]
abbrev State.av (x:State):AV:=.agg [.c (.int .i64 (.th λ_=>x.limit)),.c (.bJ 6 λ_=>.dO 6 (x.cells.map Cell.ts)),.c (.bJ 4 λ_=>.dO 4 (x.af.aK.map aQ.ts)),.c (.bJ 4 λ_=>.dO 4 (x.af.ak.map au.ts)),.c (.bJ 2 λ_=>.dO 2 (x.aA.map ah.ts)),.c (.bJ 4 λ_=>.dO 4 (x.aa.map Order.ts)),.c (.bJ 4 λ_=>.dO 4 (x.aj.map aC.ts)),.c (.bJ 4 λ_=>.dO 4 (x.kept.map Kept.ts))]
def State.wf (x:State):Prop:=(Lit.int .i64 x.limit).wf=true/\(∀y∈x.cells,y.wf)/\x.cells.length*((td 68).get rfl).bytes<=reachBytes/\x.af.wf/\(∀y∈x.aA,y.wf)/\x.aA.length*((td 143).get rfl).bytes<=reachBytes/\(∀y∈x.aa,y.wf)/\x.aa.length*((td 72).get rfl).bytes<=reachBytes/\(∀y∈x.aj,y.wf)/\x.aj.length*((td 116).get rfl).bytes<=reachBytes/\(∀y∈x.kept,y.wf)/\x.kept.length*((td 102).get rfl).bytes<=reachBytes
theorem State.fit {l:List T}(h:Fit td 32 l):∃x:State,l=x.ts/\x.wf:=by
 have h0:=o9 (d:=(td 32).get rfl) rfl rfl h;obtain⟨a0,b0,e0,rfl,BA,f0,h1⟩:=eD h0;obtain⟨a1,b1,e1,rfl,IY,f1,h2⟩:=eD h1;obtain⟨a2,b2,e2,rfl,LD,f2,h3⟩:=eD h2;obtain⟨a3,b3,e3,rfl,LF,f3,h4⟩:=eD h3;obtain⟨a4,b4,e4,rfl,he4,f4,h5⟩:=eD h4;obtain⟨a5,b5,e5,rfl,he5,f5,h6⟩:=eD h5;obtain⟨a6,b6,e6,rfl,he6,f6,h7⟩:=eD h6;obtain rfl:=uN h7;obtain⟨n0,rfl,w0⟩:=gT BA (by cases BA;rfl) f0;obtain⟨r1,rfl,u1,v1,_⟩:=nO (e:=68) (ed:=(td 68).get rfl) rfl IY (by cases IY;rfl) f1;obtain⟨n1,rfl,w1⟩:=jT (λr hr=>Cell.fit hr) r1 u1;obtain⟨n2,rfl,w2⟩:=aF.fit f2;obtain⟨r3,rfl,u3,v3,_⟩:=nO (e:=143) (ed:=(td 143).get rfl) rfl LF (by cases LF;rfl) f3;obtain⟨n3,rfl,w3⟩:=jT (λr hr=>ah.fit hr) r3 u3;obtain⟨r4,rfl,u4,v4,_⟩:=nO (e:=72) (ed:=(td 72).get rfl) rfl he4 (by cases he4;rfl) f4;obtain⟨n4,rfl,w4⟩:=jT (λr hr=>Order.fit hr) r4 u4;obtain⟨r5,rfl,u5,v5,_⟩:=nO (e:=116) (ed:=(td 116).get rfl) rfl he5 (by cases he5;rfl) f5;obtain⟨n5,rfl,w5⟩:=jT (λr hr=>aC.fit hr) r5 u5;obtain⟨r6,rfl,u6,v6,_⟩:=nO (e:=102) (ed:=(td 102).get rfl) rfl he6 (by cases he6;rfl) f6;obtain⟨n6,rfl,w6⟩:=jT (λr hr=>Kept.fit hr) r6 u6;exact⟨⟨n0,n1,n2,n3,n4,n5,n6⟩,rfl,⟨w0,w1,by simpa using v1,w2,w3,by simpa using v3,w4,by simpa using v4,w5,by simpa using v5,w6,by simpa using v6⟩⟩
theorem State.Rc {x:AV}(h:yU td 32 x):∃a:State,x=a.av/\a.wf:=by
 obtain⟨l,hf,rfl⟩:=lA h (d:=(td 32).get rfl) rfl;obtain⟨a,rfl,hw⟩:=State.fit hf;exact⟨a,rfl,hw⟩
structure Ask where
 mark:ByteArray
 kind:Int
 order:Int
 lines:List aU
 deriving DecidableEq
abbrev Ask.ts (x:Ask):List T:=[.str (.th λ_=>x.mark),.int .u8 (.th λ_=>x.kind),.int .i64 (.th λ_=>x.order),.bJ 4 λ_=>.dO 4 (x.lines.map aU.ts)]
abbrev Ask.av (x:Ask):AV:=.agg [.c (.str (.th λ_=>x.mark)),.c (.int .u8 (.th λ_=>x.kind)),.c (.int .i64 (.th λ_=>x.order)),.c (.bJ 4 λ_=>.dO 4 (x.lines.map aU.ts))]
def Ask.wf (x:Ask):Prop:=x.mark.size<=reachBytes/\(Lit.int .u8 x.kind).wf=true/\(Lit.int .i64 x.order).wf=true/\(∀y∈x.lines,y.wf)/\x.lines.length*((td 80).get rfl).bytes<=reachBytes
theorem Ask.fit {l:List T}(h:Fit td 36 l):∃x:Ask,l=x.ts/\x.wf:=by
 have h0:=o9 (d:=(td 36).get rfl) rfl rfl h;obtain⟨a0,b0,e0,rfl,BA,f0,h1⟩:=eD h0;obtain⟨a1,b1,e1,rfl,IY,f1,h2⟩:=eD h1;obtain⟨a2,b2,e2,rfl,LD,f2,h3⟩:=eD h2;obtain⟨a3,b3,e3,rfl,LF,f3,h4⟩:=eD h3;obtain rfl:=uN h4;obtain⟨n0,rfl,w0⟩:=Jp BA (by cases BA;rfl) f0;obtain⟨n1,rfl,w1⟩:=gT IY (by cases IY;rfl) f1;obtain⟨n2,rfl,w2⟩:=gT LD (by cases LD;rfl) f2;obtain⟨r3,rfl,u3,v3,_⟩:=nO (e:=80) (ed:=(td 80).get rfl) rfl LF (by cases LF;rfl) f3;obtain⟨n3,rfl,w3⟩:=jT (λr hr=>aU.fit hr) r3 u3;exact⟨⟨n0,n1,n2,n3⟩,rfl,⟨w0,w1,w2,w3,by simpa using v3⟩⟩
theorem Ask.Rc {x:AV}(h:yU td 36 x):∃a:Ask,x=a.av/\a.wf:=by
 obtain⟨l,hf,rfl⟩:=lA h (d:=(td 36).get rfl) rfl;obtain⟨a,rfl,hw⟩:=Ask.fit hf;exact⟨a,rfl,hw⟩
structure Told where
 order:Int
 kind:Int
 step:Int
 why:Int
 over:Bool
 deriving DecidableEq
abbrev Told.av (x:Told):AV:=.agg [.c (.int .i64 (.th λ_=>x.order)),.c (.int .u8 (.th λ_=>x.kind)),.c (.int .u8 (.th λ_=>x.step)),.c (.int .i64 (.th λ_=>x.why)),.c (.bool (.th λ_=>x.over))]
structure Act where
 mS:Bool
 ask:Ask
 pick:Int
 verdict:Int
 deriving DecidableEq
abbrev Act.ts (x:Act):List T:=[.bool (.th λ_=>x.mS),.str (.th λ_=>x.ask.mark),.int .u8 (.th λ_=>x.ask.kind),.int .i64 (.th λ_=>x.ask.order),.bJ 4 λ_=>.dO 4 (x.ask.lines.map aU.ts),.int .i64 (.th λ_=>x.pick),.int .u8 (.th λ_=>x.verdict)]
abbrev Act.av (x:Act):AV:=.agg [.c (.bool (.th λ_=>x.mS)),.c (.str (.th λ_=>x.ask.mark)),.c (.int .u8 (.th λ_=>x.ask.kind)),.c (.int .i64 (.th λ_=>x.ask.order)),.c (.bJ 4 λ_=>.dO 4 (x.ask.lines.map aU.ts)),.c (.int .i64 (.th λ_=>x.pick)),.c (.int .u8 (.th λ_=>x.verdict))]
def Act.wf (x:Act):Prop:=x.ask.wf/\(Lit.int .i64 x.pick).wf=true/\(Lit.int .u8 x.verdict).wf=true
theorem Act.fit {l:List T}(h:Fit td 61 l):∃x:Act,l=x.ts/\x.wf:=by
 have h0:=o9 (d:=(td 61).get rfl) rfl rfl h;obtain⟨a0,b0,e0,rfl,BA,f0,h1⟩:=eD h0;obtain⟨a1,b1,e1,rfl,IY,f1,h2⟩:=eD h1;obtain⟨a2,b2,e2,rfl,LD,f2,h3⟩:=eD h2;obtain⟨a3,b3,e3,rfl,LF,f3,h4⟩:=eD h3;obtain rfl:=uN h4;obtain⟨n0,rfl⟩:=GU BA (by cases BA;rfl) f0;obtain⟨n1,rfl,w1⟩:=Ask.fit f1;obtain⟨n2,rfl,w2⟩:=gT LD (by cases LD;rfl) f2;obtain⟨n3,rfl,w3⟩:=gT LF (by cases LF;rfl) f3;exact⟨⟨n0,n1,n2,n3⟩,rfl,⟨w1,w2,w3⟩⟩
end Go.Proofs.aaa
end
section
namespace Go.Proofs.aaa
open Go.bA
structure cV where
 af:aF
 why:Int
 deriving DecidableEq
structure aI where
 state:State
 deriving DecidableEq
end Go.Proofs.aaa
end
