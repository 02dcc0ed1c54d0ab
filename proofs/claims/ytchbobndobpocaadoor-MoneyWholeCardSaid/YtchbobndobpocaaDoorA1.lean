/- The abstract machine, part 1: immutable data as trees, own memory as a short list of objects, and what they stand for in a world. Generic over the program. -/
import Derived.WalkKit
import Derived.Laws.CopyRow
import Derived.Deep.Draws
namespace Go.Abs
open Go.RowKit

/-- A thing that is known, or one that evaluation is not to look into. -/
inductive Th (α : Type) where
  | lit (a : α)
  | th (f : Unit → α)
def Th.den {α : Type} : Th α → α
  | .lit a => a
  | .th f => f ()
@[simp] theorem Th.den_lit {α : Type} (a : α) : (Th.lit a).den = a := rfl
@[simp] theorem Th.den_th {α : Type} (f : Unit → α) : (Th.th f).den = f () := rfl

/-- A one-cell value that says nothing of memory (and is no whole number, bool, string). -/
def plain : Value → Bool
  | .float _ _ | .complex _ _ _ | .pointer none | .slice none 0 0 | .map none | .nilFunc | .nilIface => true
  | _ => false

/-- An immutable cell: what can be read there, to the bottom. 'vslS': a slice that evaluation is not to look into. -/
inductive T where
  | int (k : IntKind) (n : Th Int)
  | bool (b : Th Bool)
  | str (s : Th ByteArray)
  | lit (v : Value)
  | vsl (k : Nat) (es : List (List T))
  | vslS (k : Nat) (f : Unit → T)
  | vptr (cs : List T)

/-- A slice's elements. -/
def T.rows : T → List (List T)
  | .vsl _ es => es
  | .vslS _ f => match f () with | .vsl _ es => es | _ => []
  | _ => []

instance : Inhabited T := ⟨.lit .nilFunc⟩

/-- An abstract value. -/
inductive AV where
  | c (t : T)
  | ref (o off : Nat)
  | eref (o k : Nat) (i : Th Nat) (off : Nat)
  | sl (o k : Nat) (i len cap : Th Nat)
  | mp (o : Nat)
  | fn (f : Fn) (first captured : List AV)
  | ifc (t : TypeId) (x : AV)
  | agg (cs : List AV)
  | tup (vs : List AV)
  | junk

instance : Inhabited AV := ⟨.junk⟩

/-- An object of one's own. -/
inductive AO where
  | box (cs : List AV)
  | arr (k : Nat) (es : Th (List (List AV))) (sz : Th Nat)
  | map (es : List (AV × AV))
  | sit (s : Th ByteArray) (pos : Th Nat)
  | dead

/-- Which block each object has: 'none': it is dead. -/
abbrev Mu := List (Option Nat)

inductive VT (w : World) (O : Nat → Prop) : T → Value → Prop where
  | lit {v : Value} : plain v = true → VT w O (.lit v) v
  | int {k : IntKind} {n : Th Int} : VT w O (.int k n) (.int k n.den)
  | bool {b : Th Bool} : VT w O (.bool b) (.bool b.den)
  | str {s : Th ByteArray} : VT w O (.str s) (.string s.den)
  | vsl {k : Nat} {es : List (List T)} {b off cap : Nat} (c : Nat → Nat → Value) : b < w.heap.size → ¬ O b → es.length ≤ cap → (∀ e ∈ es, e.length = k) →
      (∀ (i j : Nat) e x, es[i]? = some e → e[j]? = some x → w.cell? ⟨b, off + (i * k + j), none⟩ = some (c i j)) →
      (∀ (i j : Nat) e x, es[i]? = some e → e[j]? = some x → VT w O x (c i j)) → VT w O (.vsl k es) (.slice (some ⟨b, off, none⟩) es.length cap)
  | vsl0 {k : Nat} {a : Option Addr} {cap : Nat} : (a = none → cap = 0) → VT w O (.vsl k []) (.slice a 0 cap)
  | vslS {k : Nat} {f : Unit → T} {es : List (List T)} {v : Value} : f () = .vsl k es → VT w O (.vsl k es) v → VT w O (.vslS k f) v
  | vslN {k : Nat} {f : Unit → T} : f () = .lit (.slice none 0 0) → VT w O (.vslS k f) (.slice none 0 0)
  | vptr {cs : List T} {b off : Nat} (c : Nat → Value) : b < w.heap.size → ¬ O b →
      (∀ (j : Nat) x, cs[j]? = some x → w.cell? ⟨b, off + j, none⟩ = some (c j)) →
      (∀ (j : Nat) x, cs[j]? = some x → VT w O x (c j)) → VT w O (.vptr cs) (.pointer (some ⟨b, off, none⟩))

/-- The blocks that are one's own, or somebody else's ('F'): what is immutable lies in none of them. -/
def own (F : Nat → Prop) (μ : Mu) (b : Nat) : Prop := some b ∈ μ ∨ F b

inductive VR (w : World) (F : Nat → Prop) (μ : Mu) : AV → Value → Prop where
  | c {t v} : VT w (own F μ) t v → VR w F μ (.c t) v
  | ref {o off b} : μ[o]? = some (some b) → VR w F μ (.ref o off) (.pointer (some ⟨b, off, none⟩))
  | refD {o off} {a : Addr} : μ[o]? = some none → VR w F μ (.ref o off) (.pointer (some a))
  | eref {o k i off b} : μ[o]? = some (some b) → VR w F μ (.eref o k i off) (.pointer (some ⟨b, i.den * k + off, none⟩))
  | erefD {o k i off} {a : Addr} : μ[o]? = some none → VR w F μ (.eref o k i off) (.pointer (some a))
  | sl {o k i len cap b} : μ[o]? = some (some b) → len.den ≤ cap.den → cap.den ≤ 9223372036854775807 → VR w F μ (.sl o k i len cap) (.slice (some ⟨b, i.den * k, none⟩) len.den cap.den)
  | slD {o k i len cap} {a : Option Addr} : μ[o]? = some none → len.den ≤ cap.den → cap.den ≤ 9223372036854775807 → (a = none → cap.den = 0) → VR w F μ (.sl o k i len cap) (.slice a len.den cap.den)
  | mp {o b} : μ[o]? = some (some b) → VR w F μ (.mp o) (.map (some b))
  | mpD {o v} : μ[o]? = some none → v.oneCell' = true → VR w F μ (.mp o) v
  | fn {f : Fn} {first captured : List AV} {vf vc : Array Value} : vf.size = first.length → vc.size = captured.length →
      (∀ (i : Nat) x v, first[i]? = some x → vf[i]? = some v → VR w F μ x v) → (∀ (i : Nat) x v, captured[i]? = some x → vc[i]? = some v → VR w F μ x v) →
      VR w F μ (.fn f first captured) (.func f vf vc)
  | ifc {t x v} : VR w F μ x v → VR w F μ (.ifc t x) (.iface t v)
  | agg {cs : List AV} {vs : Array Value} : vs.size = cs.length → (∀ (i : Nat) x v, cs[i]? = some x → vs[i]? = some v → VR w F μ x v) → (∀ (i : Nat) v, vs[i]? = some v → v.oneCell' = true) → VR w F μ (.agg cs) (.agg vs)
  | tup {cs : List AV} {vs : Array Value} : vs.size = cs.length → (∀ (i : Nat) x v, cs[i]? = some x → vs[i]? = some v → VR w F μ x v) → VR w F μ (.tup cs) (.tuple vs)
  | junk {v} : VR w F μ .junk v

/-- What an object is in the block b. -/
inductive OB (w : World) (F : Nat → Prop) (μ : Mu) (b : Nat) : AO → Prop where
  | box {cs : List AV} (blk : Array Value) (e : TypeId) : w.heap[b]? = some (.cells blk e (0, 0)) → blk.size = cs.length →
      (∀ (i : Nat) x v, cs[i]? = some x → blk[i]? = some v → VR w F μ x v ∧ v.oneCell' = true) → OB w F μ b (.box cs)
  | arr {k : Nat} {es : Th (List (List AV))} {sz : Th Nat} (blk : Array Value) (e : TypeId) : w.heap[b]? = some (.cells blk e (0, 0)) → blk.size = sz.den → es.den.length * k ≤ sz.den → (∀ e ∈ es.den, e.length = k) → (∀ (i : Nat) v, blk[i]? = some v → v.oneCell' = true) →
      (∀ (i j : Nat) e x v, es.den[i]? = some e → e[j]? = some x → blk[i * k + j]? = some v → VR w F μ x v ∧ v.oneCell' = true) → OB w F μ b (.arr k es sz)
  | map {es : List (AV × AV)} (ents : Array MapEntry) (clock : Nat) : w.heap[b]? = some (.map ents clock) → ents.size = es.length →
      (∀ (i : Nat) x v, es[i]? = some x → ents[i]? = some v → VR w F μ x.1 v.key ∧ VR w F μ x.2 v.val) → OB w F μ b (.map es)
  | sit {s : Th ByteArray} {pos : Th Nat} : w.heap[b]? = some (.stringIter s.den pos.den) → OB w F μ b (.sit s pos)

/-- What an object without a block may be: a dead one, or a list of nothing that has no room. -/
@[simp] def gone : AO → Prop
  | .dead => True
  | .arr _ es sz => es.den = [] ∧ sz.den = 0
  | _ => False

/-- What is known of the package-level variables: their blocks, and what holds of them. -/
class Gl where
  n : Nat
  ok : World → Prop
  stable : ∀ {w w' : World}, ok w → (∀ b, b < n → w'.heap[b]? = w.heap[b]?) → ok w'
variable [Gl]
structure Gls (w : World) (O : Nat → Prop) : Prop where
  lt : ∀ b, b < Gl.n → b < w.heap.size ∧ ¬ O b
  ok : Gl.ok w


/-- The objects are what they are in the world. -/
structure St (w : World) (F : Nat → Prop) (μ : Mu) (objs : List AO) : Prop where
  len : μ.length = objs.length
  inj : ∀ o o' b : Nat, μ[o]? = some (some b) → μ[o']? = some (some b) → o = o'
  lt : ∀ o b : Nat, μ[o]? = some (some b) → b < w.heap.size
  dead : ∀ o : Nat, μ[o]? = some none → ∃ x, objs[o]? = some x ∧ gone x
  frame : ∀ b, F b → b < w.heap.size ∧ some b ∉ μ
  live : ∀ o b : Nat, μ[o]? = some (some b) → ∃ x, objs[o]? = some x ∧ OB w F μ b x
  gl : Gls w (own F μ)

/-- What a piece of a run may do: what was not one's own is as it was; objects stay where they are or die; new ones come. -/
structure Ext (w : World) (μ : Mu) (w' : World) (μ' : Mu) : Prop where
  os : w'.os = w.os
  tape : w'.tape = w.tape
  output : w'.output = w.output
  size : w.heap.size ≤ w'.heap.size
  blk : ∀ b, b < w.heap.size → some b ∉ μ → w'.heap[b]? = w.heap[b]?
  len : μ.length ≤ μ'.length
  keep : ∀ o b : Nat, μ[o]? = some (some b) → μ'[o]? = some (some b) ∨ μ'[o]? = some none
  dead : ∀ o : Nat, μ[o]? = some none → μ'[o]? = some none
  own : ∀ b, some b ∈ μ' → some b ∈ μ ∨ w.heap.size ≤ b

omit [Gl] in
theorem Ext.refl (w : World) (μ : Mu) : Ext w μ w μ :=
  ⟨rfl, rfl, rfl, Nat.le_refl _, fun _ _ _ => rfl, Nat.le_refl _, fun _ _ h => .inl h, fun _ h => h, fun _ h => .inl h⟩

omit [Gl] in
theorem Ext.trans {w μ w1 μ1 w2 μ2} (h : Ext w μ w1 μ1) (k : Ext w1 μ1 w2 μ2) : Ext w μ w2 μ2 where
  os := k.os.trans h.os
  tape := k.tape.trans h.tape
  output := k.output.trans h.output
  size := Nat.le_trans h.size k.size
  blk b hb hn := (k.blk b (Nat.lt_of_lt_of_le hb h.size) (fun hm => by
    rcases h.own b hm with h1 | h1
    · exact hn h1
    · omega)).trans (h.blk b hb hn)
  len := Nat.le_trans h.len k.len
  keep o b ho := by
    rcases h.keep o b ho with h1 | h1
    · exact k.keep o b h1
    · exact .inr (k.dead o h1)
  dead o ho := k.dead o (h.dead o ho)
  own b hb := by
    rcases k.own b hb with h1 | h1
    · exact h.own b h1
    · have := h.size; exact .inr (by omega)

omit [Gl] in
theorem plain_one {v : Value} (h : plain v = true) : v.oneCell' = true := by
  cases v <;> simp_all [plain, Value.oneCell']

omit [Gl] in
theorem VT.one {w O t v} (h : VT w O t v) : v.oneCell' = true := by
  induction h with
  | lit h => exact plain_one h
  | vslS _ _ ih => exact ih
  | _ => rfl

omit [Gl] in
theorem VT.mono {w w' : World} {O O' : Nat → Prop} (hs : w.heap.size ≤ w'.heap.size) (hb : ∀ b, b < w.heap.size → ¬ O b → w'.heap[b]? = w.heap[b]?)
    (ho : ∀ b, b < w.heap.size → ¬ O b → ¬ O' b) {t v} (h : VT w O t v) : VT w' O' t v := by
  induction h with
  | lit h => exact .lit h
  | int => exact .int
  | bool => exact .bool
  | str => exact .str
  | vslS h1 _ ih => exact .vslS h1 ih
  | vsl0 h => exact .vsl0 h
  | vslN h => exact .vslN h
  | vsl c h1 h2 h3 h4 h5 _ ih =>
    refine .vsl c (Nat.lt_of_lt_of_le h1 hs) (ho _ h1 h2) h3 h4 (fun i j e x he hx => ?_) ih
    rw [← h5 i j e x he hx]
    exact World.cell?_of_block (hb _ h1 h2)
  | vptr c h1 h2 h3 _ ih =>
    refine .vptr c (Nat.lt_of_lt_of_le h1 hs) (ho _ h1 h2) (fun j x hx => ?_) ih
    rw [← h3 j x hx]
    exact World.cell?_of_block (hb _ h1 h2)

omit [Gl] in
theorem VT.ext {w F μ w' μ'} (hx : Ext w μ w' μ') {t v} (h : VT w (own F μ) t v) : VT w' (own F μ') t v :=
  h.mono hx.size (fun b h1 h2 => hx.blk b h1 (fun h => h2 (.inl h))) (fun b h1 h2 h3 => by
    rcases h3 with h3 | h3
    · rcases hx.own b h3 with h | h
      · exact h2 (.inl h)
      · omega
    · exact h2 (.inr h3))

omit [Gl] in
theorem VR.ext {w F μ w' μ'} (hx : Ext w μ w' μ') {t v} (h : VR w F μ t v) : VR w' F μ' t v := by
  induction h with
  | c h => exact .c (h.ext hx)
  | ref h => rcases hx.keep _ _ h with h | h; exact .ref h; exact .refD h
  | refD h => exact .refD (hx.dead _ h)
  | eref h => rcases hx.keep _ _ h with h | h; exact .eref h; exact .erefD h
  | erefD h => exact .erefD (hx.dead _ h)
  | sl h h1 h2 => rcases hx.keep _ _ h with h | h; exact .sl h h1 h2; exact .slD h h1 h2 (fun h => by cases h)
  | slD h h1 h2 h3 => exact .slD (hx.dead _ h) h1 h2 h3
  | mp h => rcases hx.keep _ _ h with h | h; exact .mp h; exact .mpD h rfl
  | mpD h h1 => exact .mpD (hx.dead _ h) h1
  | fn h1 h2 _ _ i1 i2 => exact .fn h1 h2 i1 i2
  | ifc _ ih => exact .ifc ih
  | agg h1 _ h3 ih => exact .agg h1 ih h3
  | tup h1 _ ih => exact .tup h1 ih
  | junk => exact .junk

/-- A frame's slots. -/
def FR (w : World) (F : Nat → Prop) (μ : Mu) (env : List AV) (tmps : Array Value) : Prop :=
  tmps.size = env.length ∧ ∀ (i : Nat) x v, env[i]? = some x → tmps[i]? = some v → VR w F μ x v

omit [Gl] in
theorem FR.ext {w : World} {F : Nat → Prop} {μ : Mu} {w' : World} {μ' : Mu} (hx : Ext w μ w' μ') {env : List AV} {tmps : Array Value} (h : FR w F μ env tmps) : FR w' F μ' env tmps :=
  ⟨h.1, fun i x v h1 h2 => (h.2 i x v h1 h2).ext hx⟩

/-- Lists of values. -/
def VRs (w : World) (F : Nat → Prop) (μ : Mu) (xs : List AV) (vs : List Value) : Prop :=
  vs.length = xs.length ∧ ∀ (i : Nat) x v, xs[i]? = some x → vs[i]? = some v → VR w F μ x v

omit [Gl] in
theorem VRs.ext {w F μ w' μ'} (hx : Ext w μ w' μ') {env tmps} (h : VRs w F μ env tmps) : VRs w' F μ' env tmps :=
  ⟨h.1, fun i x v h1 h2 => (h.2 i x v h1 h2).ext hx⟩

omit [Gl] in
theorem OB.ext {w F μ w' μ' b} (hx : Ext w μ w' μ') (hb : w'.heap[b]? = w.heap[b]?) {x} (h : OB w F μ b x) : OB w' F μ' b x := by
  cases h with
  | box blk e h1 h2 h3 => exact .box blk e (hb.trans h1) h2 fun i x v a b => ⟨(h3 i x v a b).1.ext hx, (h3 i x v a b).2⟩
  | arr blk e h1 h2 h3 h4 h6 h5 => exact .arr blk e (hb.trans h1) h2 h3 h4 h6 fun i j e x v a b c => ⟨(h5 i j e x v a b c).1.ext hx, (h5 i j e x v a b c).2⟩
  | map es cl h1 h2 h3 => exact .map es cl (hb.trans h1) h2 fun i x v a b => ⟨(h3 i x v a b).1.ext hx, (h3 i x v a b).2.ext hx⟩
  | sit h1 => exact .sit (hb.trans h1)

omit [Gl] in
/-- Draws change nothing. -/
theorem Ext.drewN (w : World) (μ : Mu) (n : Nat) : Ext w μ { w with drawn := n } μ :=
  ⟨rfl, rfl, rfl, Nat.le_refl _, fun _ _ _ => rfl, Nat.le_refl _, fun _ _ h => .inl h, fun _ h => h, fun _ h => .inl h⟩

theorem Gls.ext {w F μ w' μ'} (hx : Ext w μ w' μ') (h : Gls w (own F μ)) : Gls w' (own F μ') where
  lt b hb := by
    refine ⟨Nat.lt_of_lt_of_le (h.lt b hb).1 hx.size, fun ho => (h.lt b hb).2 ?_⟩
    rcases ho with ho | ho
    · rcases hx.own b ho with h1 | h1
      · exact .inl h1
      · have := (h.lt b hb).1; omega
    · exact .inr ho
  ok := Gl.stable h.ok fun b hb => hx.blk b (h.lt b hb).1 (fun hm => (h.lt b hb).2 (.inl hm))
theorem Gls.sub {w} {O O' : Nat → Prop} (h : Gls w O) (hs : ∀ b, b < w.heap.size → O' b → O b) : Gls w O' :=
  ⟨fun b hb => ⟨(h.lt b hb).1, fun ho => (h.lt b hb).2 (hs b (h.lt b hb).1 ho)⟩, h.ok⟩

/-- The world turns but for one's own blocks not at all: the state stays. -/
theorem St.same {w F μ objs w'} (h : St w F μ objs) (hx : Ext w μ w' μ) (hb : ∀ b, some b ∈ μ → w'.heap[b]? = w.heap[b]?) : St w' F μ objs where
  len := h.len
  inj := h.inj
  lt o b ho := Nat.lt_of_lt_of_le (h.lt o b ho) hx.size
  dead := h.dead
  frame b hb := ⟨Nat.lt_of_lt_of_le (h.frame b hb).1 hx.size, (h.frame b hb).2⟩
  live o b ho := by
    obtain ⟨x, h1, h2⟩ := h.live o b ho
    exact ⟨x, h1, h2.ext hx (hb b (List.mem_of_getElem? ho))⟩
  gl := h.gl.ext hx

/-- Another world that has all that this one has. -/
def Sup (w w' : World) : Prop := w.heap.size ≤ w'.heap.size ∧ ∀ b, b < w.heap.size → w'.heap[b]? = w.heap[b]?
omit [Gl] in
theorem Sup.refl (w : World) : Sup w w := ⟨Nat.le_refl _, fun _ _ => rfl⟩
omit [Gl] in
theorem Sup.cell {w w' : World} (h : Sup w w') {a : Addr} {v : Value} (hc : w.cell? a = some v) : w'.cell? a = some v :=
  (World.cell?_of_block (h.2 _ (World.block_lt_of_cell? w a hc))).trans hc

omit [Gl] in
theorem mem_of {μ : Mu} {b : Nat} (h : some b ∈ μ) : ∃ o : Nat, μ[o]? = some (some b) := by
  obtain ⟨i, hi, h⟩ := List.getElem_of_mem h
  exact ⟨i, by rw [List.getElem?_eq_getElem hi, h]⟩

/-- A new block. -/
theorem St.alloc {w F μ objs} (h : St w F μ objs) (ob : Obj) (x : AO) (hx : ∀ w' μ', Ext w μ w' μ' → w'.heap[w.heap.size]? = some ob → OB w' F μ' w.heap.size x) :
    St (w.alloc ob) F (μ ++ [some w.heap.size]) (objs ++ [x]) ∧ Ext w μ (w.alloc ob) (μ ++ [some w.heap.size]) := by
  have hnot : some w.heap.size ∉ μ := fun hm => by
    obtain ⟨o, ho⟩ := mem_of hm
    have := h.lt o _ ho
    omega
  have he : Ext w μ (w.alloc ob) (μ ++ [some w.heap.size]) :=
    { os := rfl, tape := rfl, output := rfl, size := by simp, blk := fun b hb _ => Below.heap_alloc w ob b hb, len := by simp
      keep := fun o b ho => .inl (by rw [List.getElem?_append_left (List.getElem?_eq_some_iff.1 ho).1]; exact ho)
      dead := fun o ho => by rw [List.getElem?_append_left (List.getElem?_eq_some_iff.1 ho).1]; exact ho
      own := fun b hb => by
        rcases List.mem_append.1 hb with h1 | h1
        · exact .inl h1
        · simp at h1; subst h1; exact .inr (Nat.le_refl _) }
  have case : ∀ o b : Nat, (μ ++ [some w.heap.size])[o]? = some (some b) → (μ[o]? = some (some b) ∧ o < μ.length) ∨ (o = μ.length ∧ b = w.heap.size) := by
    intro o b ho
    rcases Nat.lt_or_ge o μ.length with hlt | hge
    · rw [List.getElem?_append_left hlt] at ho; exact .inl ⟨ho, hlt⟩
    · rw [List.getElem?_append_right hge] at ho
      rcases Nat.eq_zero_or_pos (o - μ.length) with h0 | h0
      · rw [h0] at ho; simp at ho; exact .inr ⟨by omega, ho.symm⟩
      · rw [List.getElem?_eq_none (by simp; omega)] at ho; cases ho
  refine ⟨⟨by simp [h.len], ?_, ?_, ?_, ?_, ?_, h.gl.ext he⟩, he⟩
  · intro o o' b h1 h2
    rcases case o b h1 with ⟨a1, _⟩ | ⟨a1, a2⟩ <;> rcases case o' b h2 with ⟨b1, _⟩ | ⟨b1, b2⟩
    · exact h.inj o o' b a1 b1
    · have := h.lt o b a1; omega
    · have := h.lt o' b b1; omega
    · omega
  · intro o b ho
    rcases case o b ho with ⟨a1, _⟩ | ⟨_, a2⟩
    · have := h.lt o b a1; simp; omega
    · simp [a2]
  · intro o ho
    have hlt : o < μ.length := by
      rcases Nat.lt_or_ge o μ.length with hlt | hge
      · exact hlt
      · rw [List.getElem?_append_right hge] at ho
        rcases Nat.eq_zero_or_pos (o - μ.length) with h0 | h0
        · rw [h0] at ho; simp at ho
        · rw [List.getElem?_eq_none (by simp; omega)] at ho; cases ho
    rw [List.getElem?_append_left hlt] at ho
    rw [List.getElem?_append_left (by rw [← h.len]; exact hlt)]
    exact h.dead o ho
  · intro b hb
    refine ⟨by have := (h.frame b hb).1; simp; omega, fun hm => ?_⟩
    rcases List.mem_append.1 hm with h1 | h1
    · exact (h.frame b hb).2 h1
    · simp at h1; have := (h.frame b hb).1; omega
  · intro o b ho
    rcases case o b ho with ⟨a1, a2⟩ | ⟨a1, a2⟩
    · obtain ⟨y, h1, h2⟩ := h.live o b a1
      exact ⟨y, by rw [List.getElem?_append_left (by rw [← h.len]; exact a2)]; exact h1, h2.ext he (Below.heap_alloc w ob b (h.lt o b a1))⟩
    · subst a1; subst a2
      refine ⟨x, by rw [h.len, List.getElem?_append_right (Nat.le_refl _)]; simp, hx _ _ he ?_⟩
      show (w.heap.push ob)[w.heap.size]? = _
      simp

/-- An own block is written. -/
theorem St.set {w F μ objs} (h : St w F μ objs) {o b : Nat} (ho : μ[o]? = some (some b)) (w' : World) (x : AO) (hs : w'.heap.size = w.heap.size)
    (hother : ∀ b', b' ≠ b → w'.heap[b']? = w.heap[b']?) (hos : w'.os = w.os) (ht : w'.tape = w.tape) (hout : w'.output = w.output)
    (hx : Ext w μ w' μ → OB w' F μ b x) : St w' F μ (objs.set o x) ∧ Ext w μ w' μ := by
  have he : Ext w μ w' μ :=
    { os := hos, tape := ht, output := hout, size := by omega, blk := fun b' hb hn => hother b' (fun e => hn (e ▸ List.mem_of_getElem? ho)), len := Nat.le_refl _
      keep := fun _ _ h => .inl h, dead := fun _ h => h, own := fun _ h => .inl h }
  refine ⟨⟨by simp [h.len], h.inj, fun o b ho => by rw [hs]; exact h.lt o b ho, ?_, fun b hb => by rw [hs]; exact h.frame b hb, ?_, h.gl.ext he⟩, he⟩
  · intro o' ho'
    have hne : o ≠ o' := fun e => by rw [e, ho'] at ho; cases ho
    rw [List.getElem?_set_ne hne]
    exact h.dead o' ho'
  · intro o' b' ho'
    by_cases e : o = o'
    · subst e
      rw [ho] at ho'; cases ho'
      refine ⟨x, ?_, hx he⟩
      rw [List.getElem?_set_self]
      rw [← h.len]; exact (List.getElem?_eq_some_iff.1 ho).1
    · obtain ⟨y, h1, h2⟩ := h.live o' b' ho'
      exact ⟨y, by rw [List.getElem?_set_ne e]; exact h1, h2.ext he (hother b' (fun eb => e (h.inj o o' b ho (eb ▸ ho'))))⟩

end Go.Abs
