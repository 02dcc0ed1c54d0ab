/- Texts that the law leans on, part 6. No conditions. -/
import Derived.Test.YtnpliafeboadcaaGreatK5
section
namespace Go.Proofs.aaa
open Go.bA
structure Cell where
 item:Int
 aE:Int
 free:Int
 held:Int
 out:Int
 all:Int
 deriving DecidableEq
abbrev Cell.ts (x:Cell):List T:=[.int .i64 (.th λ_=>x.item),.int .i64 (.th λ_=>x.aE),.int .i64 (.th λ_=>x.free),.int .i64 (.th λ_=>x.held),.int .i64 (.th λ_=>x.out),.int .i64 (.th λ_=>x.all)]
abbrev Cell.av (x:Cell):AV:=.agg [.c (.int .i64 (.th λ_=>x.item)),.c (.int .i64 (.th λ_=>x.aE)),.c (.int .i64 (.th λ_=>x.free)),.c (.int .i64 (.th λ_=>x.held)),.c (.int .i64 (.th λ_=>x.out)),.c (.int .i64 (.th λ_=>x.all))]
abbrev Cell.cs (x:Cell):List AV:=[.c (.int .i64 (.th λ_=>x.item)),.c (.int .i64 (.th λ_=>x.aE)),.c (.int .i64 (.th λ_=>x.free)),.c (.int .i64 (.th λ_=>x.held)),.c (.int .i64 (.th λ_=>x.out)),.c (.int .i64 (.th λ_=>x.all))]
theorem Cell.wh (x:Cell):x.ts.length=6:=rfl
structure aQ where
 order:Int
 bC:Int
 aT:Int
 aX:Int
 deriving DecidableEq
abbrev aQ.ts (x:aQ):List T:=[.int .i64 (.th λ_=>x.order),.int .i64 (.th λ_=>x.bC),.int .i64 (.th λ_=>x.aT),.int .i64 (.th λ_=>x.aX)]
abbrev aQ.av (x:aQ):AV:=.agg [.c (.int .i64 (.th λ_=>x.order)),.c (.int .i64 (.th λ_=>x.bC)),.c (.int .i64 (.th λ_=>x.aT)),.c (.int .i64 (.th λ_=>x.aX))]
abbrev aQ.cs (x:aQ):List AV:=[.c (.int .i64 (.th λ_=>x.order)),.c (.int .i64 (.th λ_=>x.bC)),.c (.int .i64 (.th λ_=>x.aT)),.c (.int .i64 (.th λ_=>x.aX))]
theorem aQ.wh (x:aQ):x.ts.length=4:=rfl
structure au where
 order:Int
 sJ:Int
 dst:Int
 ax:Int
 deriving DecidableEq
abbrev au.ts (x:au):List T:=[.int .i64 (.th λ_=>x.order),.int .u8 (.th λ_=>x.sJ),.int .u8 (.th λ_=>x.dst),.int .i64 (.th λ_=>x.ax)]
abbrev au.av (x:au):AV:=.agg [.c (.int .i64 (.th λ_=>x.order)),.c (.int .u8 (.th λ_=>x.sJ)),.c (.int .u8 (.th λ_=>x.dst)),.c (.int .i64 (.th λ_=>x.ax))]
structure aF where
 aK:List aQ
 ak:List au
 deriving DecidableEq
abbrev aF.av (x:aF):AV:=.agg [.c (.bJ 4 λ_=>.dO 4 (x.aK.map aQ.ts)),.c (.bJ 4 λ_=>.dO 4 (x.ak.map au.ts))]
structure ah where
 order:Int
 state:Int
 deriving DecidableEq
abbrev ah.ts (x:ah):List T:=[.int .i64 (.th λ_=>x.order),.int .u8 (.th λ_=>x.state)]
abbrev ah.av (x:ah):AV:=.agg [.c (.int .i64 (.th λ_=>x.order)),.c (.int .u8 (.th λ_=>x.state))]
abbrev ah.cs (x:ah):List AV:=[.c (.int .i64 (.th λ_=>x.order)),.c (.int .u8 (.th λ_=>x.state))]
theorem ah.wh (x:ah):x.ts.length=2:=rfl
structure aU where
 item:Int
 aE:Int
 gF:Int
 unit:Int
 deriving DecidableEq
abbrev aU.ts (x:aU):List T:=[.int .i64 (.th λ_=>x.item),.int .i64 (.th λ_=>x.aE),.int .i64 (.th λ_=>x.gF),.int .i64 (.th λ_=>x.unit)]
def aU.wf (x:aU):Prop:=(Lit.int .i64 x.item).wf=true/\(Lit.int .i64 x.aE).wf=true/\(Lit.int .i64 x.gF).wf=true/\(Lit.int .i64 x.unit).wf=true
theorem aU.fit {l:List T}(h:Fit td 80 l):∃x:aU,l=x.ts/\x.wf:=by
 have h0:=o9 (d:=(td 80).get rfl) rfl rfl h;obtain⟨a0,b0,e0,rfl,BA,f0,h1⟩:=eD h0;obtain⟨a1,b1,e1,rfl,IY,f1,h2⟩:=eD h1;obtain⟨a2,b2,e2,rfl,LD,f2,h3⟩:=eD h2;obtain⟨a3,b3,e3,rfl,LF,f3,h4⟩:=eD h3;obtain rfl:=uN h4;obtain⟨n0,rfl,w0⟩:=gT BA (by cases BA;rfl) f0;obtain⟨n1,rfl,w1⟩:=gT IY (by cases IY;rfl) f1;obtain⟨n2,rfl,w2⟩:=gT LD (by cases LD;rfl) f2;obtain⟨n3,rfl,w3⟩:=gT LF (by cases LF;rfl) f3;exact⟨⟨n0,n1,n2,n3⟩,rfl,⟨w0,w1,w2,w3⟩⟩
structure Order where
 id:Int
 lines:List aU
 aP:Int
 status:Int
 deriving DecidableEq
abbrev Order.ts (x:Order):List T:=[.int .i64 (.th λ_=>x.id),.bJ 4 λ_=>.dO 4 (x.lines.map aU.ts),.int .i64 (.th λ_=>x.aP),.int .u8 (.th λ_=>x.status)]
abbrev Order.av (x:Order):AV:=.agg [.c (.int .i64 (.th λ_=>x.id)),.c (.bJ 4 λ_=>.dO 4 (x.lines.map aU.ts)),.c (.int .i64 (.th λ_=>x.aP)),.c (.int .u8 (.th λ_=>x.status))]
abbrev Order.cs (x:Order):List AV:=[.c (.int .i64 (.th λ_=>x.id)),.c (.bJ 4 λ_=>.dO 4 (x.lines.map aU.ts)),.c (.int .i64 (.th λ_=>x.aP)),.c (.int .u8 (.th λ_=>x.status))]
theorem Order.wh (x:Order):x.ts.length=4:=rfl
structure aC where
 order:Int
 kind:Int
 pos:Int
 aO:Bool
 deriving DecidableEq
abbrev aC.ts (x:aC):List T:=[.int .i64 (.th λ_=>x.order),.int .u8 (.th λ_=>x.kind),.int .i64 (.th λ_=>x.pos),.bool (.th λ_=>x.aO)]
abbrev aC.av (x:aC):AV:=.agg [.c (.int .i64 (.th λ_=>x.order)),.c (.int .u8 (.th λ_=>x.kind)),.c (.int .i64 (.th λ_=>x.pos)),.c (.bool (.th λ_=>x.aO))]
theorem aC.wh (x:aC):x.ts.length=4:=rfl
structure bz where
 why:Int
 status:Int
 ax:Int
 deriving DecidableEq
abbrev bz.ts (x:bz):List T:=[.int .i64 (.th λ_=>x.why),.int .u8 (.th λ_=>x.status),.int .i64 (.th λ_=>x.ax)]
abbrev bz.av (x:bz):AV:=.agg [.c (.int .i64 (.th λ_=>x.why)),.c (.int .u8 (.th λ_=>x.status)),.c (.int .i64 (.th λ_=>x.ax))]
structure Kept where
 mark:ByteArray
 cH:bz
 deriving DecidableEq
abbrev Kept.ts (x:Kept):List T:=[.str (.th λ_=>x.mark),.int .i64 (.th λ_=>x.cH.why),.int .u8 (.th λ_=>x.cH.status),.int .i64 (.th λ_=>x.cH.ax)]
abbrev Kept.av (x:Kept):AV:=.agg [.c (.str (.th λ_=>x.mark)),.c (.int .i64 (.th λ_=>x.cH.why)),.c (.int .u8 (.th λ_=>x.cH.status)),.c (.int .i64 (.th λ_=>x.cH.ax))]
abbrev Kept.cs (x:Kept):List AV:=[.c (.str (.th λ_=>x.mark)),.c (.int .i64 (.th λ_=>x.cH.why)),.c (.int .u8 (.th λ_=>x.cH.status)),.c (.int .i64 (.th λ_=>x.cH.ax))]
theorem Kept.wh (x:Kept):x.ts.length=4:=rfl
structure State where
 limit:Int
 cells:List Cell
 af:aF
 aA:List ah
 aa:List Order
 aj:List aC
 kept:List Kept
 deriving DecidableEq
abbrev State.av (x:State):AV:=.agg [.c (.int .i64 (.th λ_=>x.limit)),.c (.bJ 6 λ_=>.dO 6 (x.cells.map Cell.ts)),.c (.bJ 4 λ_=>.dO 4 (x.af.aK.map aQ.ts)),.c (.bJ 4 λ_=>.dO 4 (x.af.ak.map au.ts)),.c (.bJ 2 λ_=>.dO 2 (x.aA.map ah.ts)),.c (.bJ 4 λ_=>.dO 4 (x.aa.map Order.ts)),.c (.bJ 4 λ_=>.dO 4 (x.aj.map aC.ts)),.c (.bJ 4 λ_=>.dO 4 (x.kept.map Kept.ts))]
structure Ask where
 mark:ByteArray
 kind:Int
 order:Int
 lines:List aU
 deriving DecidableEq
abbrev Ask.ts (x:Ask):List T:=[.str (.th λ_=>x.mark),.int .u8 (.th λ_=>x.kind),.int .i64 (.th λ_=>x.order),.bJ 4 λ_=>.dO 4 (x.lines.map aU.ts)]
abbrev Ask.av (x:Ask):AV:=.agg [.c (.str (.th λ_=>x.mark)),.c (.int .u8 (.th λ_=>x.kind)),.c (.int .i64 (.th λ_=>x.order)),.c (.bJ 4 λ_=>.dO 4 (x.lines.map aU.ts))]
def Ask.wf (x:Ask):Prop:=x.mark.size<=reachBytes/\(Lit.int .u8 x.kind).wf=true/\(Lit.int .i64 x.order).wf=true/\(∀y∈x.lines,y.wf)/\x.lines.length*((td 80).get rfl).bytes<=reachBytes
theorem Ask.fit {l:List T}(h:Fit td 36 l):∃x:Ask,l=x.ts/\x.wf:=by
 have h0:=o9 (d:=(td 36).get rfl) rfl rfl h;obtain⟨a0,b0,e0,rfl,BA,f0,h1⟩:=eD h0;obtain⟨a1,b1,e1,rfl,IY,f1,h2⟩:=eD h1;obtain⟨a2,b2,e2,rfl,LD,f2,h3⟩:=eD h2;obtain⟨a3,b3,e3,rfl,LF,f3,h4⟩:=eD h3;obtain rfl:=uN h4;obtain⟨n0,rfl,w0⟩:=Jp BA (by cases BA;rfl) f0;obtain⟨n1,rfl,w1⟩:=gT IY (by cases IY;rfl) f1;obtain⟨n2,rfl,w2⟩:=gT LD (by cases LD;rfl) f2;obtain⟨r3,rfl,u3,v3,_⟩:=nO (e:=80) (ed:=(td 80).get rfl) rfl LF (by cases LF;rfl) f3;obtain⟨n3,rfl,w3⟩:=jT (λr hr=>aU.fit hr) r3 u3;exact⟨⟨n0,n1,n2,n3⟩,rfl,⟨w0,w1,w2,w3,by simpa using v3⟩⟩
theorem Ask.Rc {x:AV}(h:yU td 36 x):∃a:Ask,x=a.av/\a.wf:=by
 obtain⟨l,hf,rfl⟩:=lA h (d:=(td 36).get rfl) rfl;obtain⟨a,rfl,hw⟩:=Ask.fit hf;exact⟨a,rfl,hw⟩
structure Told where
 order:Int
 kind:Int
 step:Int
 why:Int
 over:Bool
 deriving DecidableEq
abbrev Told.av (x:Told):AV:=.agg [.c (.int .i64 (.th λ_=>x.order)),.c (.int .u8 (.th λ_=>x.kind)),.c (.int .u8 (.th λ_=>x.step)),.c (.int .i64 (.th λ_=>x.why)),.c (.bool (.th λ_=>x.over))]
structure Act where
 mS:Bool
 ask:Ask
 pick:Int
 verdict:Int
 deriving DecidableEq
abbrev Act.ts (x:Act):List T:=[.bool (.th λ_=>x.mS),.str (.th λ_=>x.ask.mark),.int .u8 (.th λ_=>x.ask.kind),.int .i64 (.th λ_=>x.ask.order),.bJ 4 λ_=>.dO 4 (x.ask.lines.map aU.ts),.int .i64 (.th λ_=>x.pick),.int .u8 (.th λ_=>x.verdict)]
abbrev Act.av (x:Act):AV:=.agg [.c (.bool (.th λ_=>x.mS)),.c (.str (.th λ_=>x.ask.mark)),.c (.int .u8 (.th λ_=>x.ask.kind)),.c (.int .i64 (.th λ_=>x.ask.order)),.c (.bJ 4 λ_=>.dO 4 (x.ask.lines.map aU.ts)),.c (.int .i64 (.th λ_=>x.pick)),.c (.int .u8 (.th λ_=>x.verdict))]
def Act.wf (x:Act):Prop:=x.ask.wf/\(Lit.int .i64 x.pick).wf=true/\(Lit.int .u8 x.verdict).wf=true
theorem Act.fit {l:List T}(h:Fit td 61 l):∃x:Act,l=x.ts/\x.wf:=by
 have h0:=o9 (d:=(td 61).get rfl) rfl rfl h;obtain⟨a0,b0,e0,rfl,BA,f0,h1⟩:=eD h0;obtain⟨a1,b1,e1,rfl,IY,f1,h2⟩:=eD h1;obtain⟨a2,b2,e2,rfl,LD,f2,h3⟩:=eD h2;obtain⟨a3,b3,e3,rfl,LF,f3,h4⟩:=eD h3;obtain rfl:=uN h4;obtain⟨n0,rfl⟩:=GU BA (by cases BA;rfl) f0;obtain⟨n1,rfl,w1⟩:=Ask.fit f1;obtain⟨n2,rfl,w2⟩:=gT LD (by cases LD;rfl) f2;obtain⟨n3,rfl,w3⟩:=gT LF (by cases LF;rfl) f3;exact⟨⟨n0,n1,n2,n3⟩,rfl,⟨w1,w2,w3⟩⟩
end Go.Proofs.aaa
end
section
namespace Go.Proofs.aaa
open Go.bA
structure cV where
 af:aF
 why:Int
 deriving DecidableEq
structure aI where
 state:State
 deriving DecidableEq
end Go.Proofs.aaa
end
