/- The abstract machine, part 3: operations in a row, control, calls. -/
import Derived.Test.YtchbobndobpocaaDoorA2
namespace Go.Abs
variable [Gl]

/-- A call of function f: entered, or carried out at once where it has no Go body. -/
def CallsX (P : Program) (f : FuncId) (args : Array Value) (w : World) (R : Ending → World → Prop) : Prop :=
  match (callFunc f args).run P w with
  | .ok (.enter g as) w' => w' = w ∧ g = f ∧ as = args ∧ Calls P f args w R
  | .ok (.value v) w' => R (.returned v) w'
  | _ => False

/-- What a call does, abstractly. (A structure: evaluation stops there.) -/
structure ACall (P : Program) (f : FuncId) (args : List AV) (ob : List AO) (K : AV → List AO → Prop) : Prop where
  run : ∀ (w : World) (F : Nat → Prop) (μ : Mu) (cargs : Array Value), VRs w F μ args cargs.toList → St w F μ ob →
    CallsX P f cargs w fun e w' => ∃ v x ob' μ', e = .returned v ∧ VR w' F μ' x v ∧ St w' F μ' ob' ∧ Ext w μ w' μ' ∧ K x ob'

/-- An append, whose new memory is not known beforehand. (A structure: evaluation stops there.) -/
structure AAppend (P : Program) (δ : Nat → Option TD) (t xt : TypeId) (s x : AV) (ob : List AO) (K : AV → List AO → Prop) : Prop where
  run : ∀ (ty : TypeId) (w : World) (F : Nat → Prop) (μ : Mu) (vs vx : Value), VR w F μ s vs → VR w F μ x vx → St w F μ ob →
    ∃ v y ob' μ' w', (Builtin.append_ #[t, xt] ty #[vs, vx]).run P w = .ok v w' ∧ VR w' F μ' y v ∧ St w' F μ' ob' ∧ Ext w μ w' μ' ∧ K y ob'

/-- A copy. (A structure: evaluation stops there.) -/
structure ACopy (P : Program) (δ : Nat → Option TD) (t xt : TypeId) (x y : AV) (ob : List AO) (K : AV → List AO → Prop) : Prop where
  run : ∀ (ty : TypeId) (w : World) (F : Nat → Prop) (μ : Mu) (vx vy : Value), VR w F μ x vx → VR w F μ y vy → St w F μ ob →
    ∃ v z ob' μ' w', (Builtin.copy_ #[t, xt] ty #[vx, vy]).run P w = .ok v w' ∧ VR w' F μ' z v ∧ St w' F μ' ob' ∧ Ext w μ w' μ' ∧ K z ob'

section
variable (P : Program) (δ : Nat → Option TD)

def acap (t : Nat) (x : AV) (ob : List AO) (K : AV → List AO → Prop) : Prop :=
  match δ t with
  | some d => match d.sh, x with
    | .slice _, .sl _ _ _ _ cap => K (AI .i64 (m1 Int.ofNat cap)) ob
    | _, _ => False
  | none => False

/-- Rows become noughts. -/
def clearRows (z : List AV) (es : List (List AV)) (i n : Nat) : List (List AV) := es.take i ++ List.replicate (min n (es.length - i)) z ++ es.drop (i + n)
def aclear (t : Nat) (x : AV) (ob : List AO) (K : AV → List AO → Prop) : Prop :=
  match δ t with
  | some d => match d.sh with
    | .slice e => match δ e with
      | some ed => match x, ed.zero with
        | .c (.lit (.slice none 0 0)), _ => K AUnit ob
        | _, [] => False
        | .sl o k i len _, _ :: _ => match nth ob o, k == ed.size with
          | some (.arr k' es sz), true => match k' == k with
            | false => False
            | true => mustT (m3 (fun i len sz => Nat.ble ((i + len) * k) sz) i len sz) fun _ => K AUnit (setL ob o (.arr k (m3 (clearRows (zeroC ed)) es i len) sz))
          | _, _ => False
        | _, _ => False
      | none => False
    | .map _ _ => match x with
      | .mp o => match nth ob o with
        | some (.map _) => K AUnit (setL ob o (.map []))
        | _ => False
      | .c (.lit (.map none)) => K AUnit ob
      | _ => False
    | _ => False
  | none => False

def amakeSlice (t : Nat) (len cap : AV) (ob : List AO) (K : AV → List AO → Prop) : Prop :=
  match δ t, len, cap with
  | some d, .c (.int _ n), .c (.int _ c) => match d.sh with
    | .slice e => match δ e with
      | some ed => match ed.zero with
        | [] => False
        | _ :: _ => mustT (m2 (fun n c => decide (0 ≤ n) && decide (n ≤ c) && decide ((ed.bytes : Int) * c ≤ 281474976710656) && decide (c ≤ 9223372036854775807)) n c) fun _ =>
          K (.sl (lenL ob) ed.size (.lit 0) (m1 Int.toNat n) (m1 Int.toNat c)) (appL ob [.arr ed.size (m1 (fun c => List.replicate c.toNat (zeroC ed)) c) (m1 (fun c => c.toNat * ed.size) c)])
      | none => False
    | _ => False
  | _, _, _ => False

def abuiltin (b : Builtin) (argTypes : List TypeId) (args : List AV) (ob : List AO) (K : AV → List AO → Prop) : Prop :=
  match b with
  | .len => match argTypes, args with | [t], [x] => alen δ t x ob K | _, _ => False
  | .cap => match argTypes, args with | [t], [x] => acap δ t x ob K | _, _ => False
  | .copy => match argTypes, args with | [t, xt], [x, y] => ACopy P δ t xt x y ob K | _, _ => False
  | .clear => match argTypes, args with | [t], [x] => aclear δ t x ob K | _, _ => False
  | .append => match argTypes, args with | [t, xt], [s, x] => AAppend P δ t xt s x ob K | _, _ => False
  | _ => False

def acallV (f : AV) (args : List AV) (ob : List AO) (K : AV → List AO → Prop) : Prop :=
  match f with
  | .fn (.func g) first captured => ACall P g (appL (appL first args) captured) ob K
  | _ => False

def nilChk (x : AV) (ob : List AO) (K : AV → List AO → Prop) : Prop :=
  match x with
  | .ref o _ => match alive ob o with | true => K x ob | false => False
  | .eref _ _ _ _ => K x ob
  | .c (.vptr _) => K x ob
  | .fn (.func _) _ _ => K x ob
  | .ifc _ _ => K x ob
  | _ => False

def hasZ (d : TD) : Bool := match d.zero with | [] => false | _ => true
def zOk (δ : Nat → Option TD) (t : Nat) : Bool := match δ t with | some d => hasZ d | none => false
def zOkE (δ : Nat → Option TD) (t : Nat) : Bool := match δ t with
  | some d => match d.sh with | .slice e => zOk δ e | _ => false
  | none => false
def zOkM (δ : Nat → Option TD) (t : Nat) : Bool := match keySh δ t with | some (_, ed) => hasZ ed | none => false

def nextLt (p : Nat) (s : ByteArray) : Bool := decide (p < s.size)
def nextRune (s : ByteArray) (p : Nat) : Int := (Utf8.decode s p).1
def nextPos (s : ByteArray) (p : Nat) : Nat := p + (Utf8.decode s p).2
/-- The next rune of a string that is ranged over. -/
def anext (x : AV) (ob : List AO) (K : AV → List AO → Prop) : Prop := match x with
  | .ref o 0 => (match nth ob o with
    | some (.sit s pos) => brT (m2 nextLt pos s) (fun _ => K (.tup [AB (.lit true), AI .i64 (m1 Int.ofNat pos), AI .i32 (m2 nextRune s pos)]) (setL ob o (.sit s (m2 nextPos s pos)))) (fun _ => K (.tup [AB (.lit false)]) ob)
    | _ => False)
  | _ => False
def aop (o : Op) (env : List AV) (ob : List AO) (K : AV → List AO → Prop) : Prop :=
  match o with
  | .move x | .assign x => K (opnd env x) ob
  | .pick c a b => match opnd env c with
    | .c (.bool b') => brT b' (fun _ => K (opnd env a) ob) (fun _ => K (opnd env b) ob)
    | _ => False
  | .alloc t => match δ t with
    | some d => match hasZ d with | true => K (.ref (lenL ob) 0) (appL ob [.box (zeroC d)]) | false => False
    | none => False
  | .box _ x => match cellsOf (opnd env x) with | some cs => K (.ref (lenL ob) 0) (appL ob [.box cs]) | none => False
  | .build t ps => match zOk δ t with | true => abuild δ t (parts env ps.toList) ob K | false => False
  | .buildSlice t len ps => match zOkE δ t with | true => abuildSlice δ t len (parts env ps.toList) ob K | false => False
  | .insert t m k v | .mapUpdate t m k v => ainsert δ t (opnd env m) (opnd env k) (opnd env v) ob K
  | .load t a => match δ t with | some d => aload d (opnd env a) ob K | none => False
  | .store t a v => match δ t with | some d => astore d (opnd env a) (opnd env v) ob K | none => False
  | .nilCheck x => nilChk (opnd env x) ob K
  | .binOp op t x y _ => abin δ op t (isConstO y) (opnd env x) (opnd env y) ob K
  | .unOp op _ x => aun op (opnd env x) ob K
  | .convert src dst x => match δ src with | some _ => aconv δ dst (opnd env x) ob K | none => False
  | .makeInterface t x => match δ t with
    | some d => match d.sh with | .iface => False | _ => K (.ifc t (opnd env x)) ob
    | none => False
  | .makeFunc fn first captured => K (.fn fn (opnds env first.toList) (opnds env captured.toList)) ob
  | .slice t x l h m => aslice δ t (opnd env x) (l.map (opnd env)) (h.map (opnd env)) (m.map (opnd env)) ob K
  | .makeSlice t n c => amakeSlice δ t (opnd env n) (opnd env c) ob K
  | .makeMap _ none => K (.mp (lenL ob)) (appL ob [.map []])
  | .range t x => match δ t with
    | some d => (match d.sh with
      | .str => (match opnd env x with | .c (.str s) => K (.ref (lenL ob) 0) (appL ob [.sit s (.lit 0)]) | _ => False)
      | _ => False)
    | none => False
  | .next it isStr => (match isStr with | true => anext (opnd env it) ob K | false => False)
  | .fieldAddr s x f => afieldAddr δ s f (opnd env x) ob K
  | .field s x f => afield δ s f (opnd env x) ob K
  | .indexAddr t x i => aindexAddr δ t (opnd env x) (opnd env i) ob K
  | .index t x i => aindex δ t (opnd env x) (opnd env i) ob K
  | .lookup t m k ok => match zOkM δ t with | true => alookup δ t (opnd env m) (opnd env k) ok ob K | false => False
  | .extract t i => match opnd env t with
    | .tup vs => (match nth vs i with | some v => K v ob | none => False)
    | _ => False
  | .call c => match c.callee with
    | .builtin b => abuiltin P δ b c.argTypes.toList (opnds env c.args.toList) ob K
    | .value f => acallV P (opnd env f) (opnds env c.args.toList) ob K
    | _ => False
  | _ => False

/-- What a guard says. -/
inductive GV where | go | skip | by (d : Nat) (b : Th Bool) (want : Bool) | bad
def guardV (all : List Oper) (env : List AV) : Option (Nat × Bool) → GV
  | none => .go
  | some (j, want) => match nth all j with
    | some o => match o.dst with
      | some d => match getS env d with
        | .c (.bool b) => .by d b want
        | .tup [] => .skip
        | _ => .bad
      | none => .bad
    | none => .bad

def aops (all : List Oper) : List Oper → List AV → List AO → (List AV → List AO → Prop) → Prop
  | [], env, ob, K => K env ob
  | o :: rest, env, ob, K =>
    match guardV all env o.guard with
    | .go => aop P δ o.op env ob fun v ob' => aops all rest (putS env o.dst v) ob' K
    | .skip => aops all rest (putS env o.dst AUnit) ob K
    | .by d b want => match want with
      | true => brT b (fun _ => aop P δ o.op (setL env d (AB (.lit true))) ob fun v ob' => aops all rest (putS (setL env d (AB (.lit true))) o.dst v) ob' K) (fun _ => aops all rest (putS (setL env d (AB (.lit false))) o.dst AUnit) ob K)
      | false => brT b (fun _ => aops all rest (putS (setL env d (AB (.lit true))) o.dst AUnit) ob K) (fun _ => aop P δ o.op (setL env d (AB (.lit false))) ob fun v ob' => aops all rest (putS (setL env d (AB (.lit false))) o.dst v) ob' K)
    | .bad => False

/-- What a branch has shown of a slot. -/
def setC (env : List AV) (c : Operand) (b : Bool) : List AV := match c with | .tmp t => setL env t (AB (.lit b)) | _ => env

/-- How a piece of code ends. -/
inductive AE where | normal | exit (id : Nat) | ret

/-- What a piece of a function's run may do: of the objects that stood when the function was entered ('m' of them) none moves; the function's own may. -/
structure ExtB (m : Nat) (w : World) (μ : Mu) (w' : World) (μ' : Mu) : Prop where
  os : w'.os = w.os
  tape : w'.tape = w.tape
  output : w'.output = w.output
  size : w.heap.size ≤ w'.heap.size
  blk : ∀ b, b < w.heap.size → some b ∉ μ → w'.heap[b]? = w.heap[b]?
  len : m ≤ μ'.length
  keep : ∀ o b : Nat, o < m → μ[o]? = some (some b) → μ'[o]? = some (some b) ∨ μ'[o]? = some none
  dead : ∀ o : Nat, o < m → μ[o]? = some none → μ'[o]? = some none
  own : ∀ b, some b ∈ μ' → some b ∈ μ ∨ w.heap.size ≤ b

omit [Gl] in
theorem Ext.toB {m : Nat} {w μ w' μ'} (h : Ext w μ w' μ') (hm : m ≤ μ.length) : ExtB m w μ w' μ' :=
  ⟨h.os, h.tape, h.output, h.size, h.blk, Nat.le_trans hm h.len, fun o b _ => h.keep o b, fun o _ => h.dead o, h.own⟩
omit [Gl] in
theorem ExtB.toExt {m : Nat} {w μ w' μ'} (h : ExtB m w μ w' μ') (hm : m = μ.length) : Ext w μ w' μ' :=
  ⟨h.os, h.tape, h.output, h.size, h.blk, hm ▸ h.len, fun o b ho => h.keep o b (hm ▸ (List.getElem?_eq_some_iff.1 ho).1) ho, fun o ho => h.dead o (hm ▸ (List.getElem?_eq_some_iff.1 ho).1) ho, h.own⟩

omit [Gl] in
theorem ExtB.trans {m : Nat} {w μ w1 μ1 w2 μ2} (h : ExtB m w μ w1 μ1) (k : ExtB m w1 μ1 w2 μ2) : ExtB m w μ w2 μ2 where
  os := k.os.trans h.os
  tape := k.tape.trans h.tape
  output := k.output.trans h.output
  size := Nat.le_trans h.size k.size
  blk b hb hn := (k.blk b (Nat.lt_of_lt_of_le hb h.size) (fun hm => by
    rcases h.own b hm with h1 | h1
    · exact hn h1
    · omega)).trans (h.blk b hb hn)
  len := k.len
  keep o b hm ho := by
    rcases h.keep o b hm ho with h1 | h1
    · exact k.keep o b hm h1
    · exact .inr (k.dead o hm h1)
  dead o hm ho := k.dead o hm (h.dead o hm ho)
  own b hb := by
    rcases k.own b hb with h1 | h1
    · exact h.own b h1
    · have := h.size; exact .inr (by omega)

/-- The kit's post of an abstract one. -/
def QC (m : Nat) (w0 : World) (F : Nat → Prop) (μ0 : Mu) (ds : List Deferred) (Q : AE → List AV → List AO → Prop) : Exit → Act → World → Prop
  | .normal, a, w => ∃ e o μ, Q .normal e o ∧ FR w F μ e a.tmps ∧ St w F μ o ∧ ExtB m w0 μ0 w μ ∧ a.defers = ds
  | .exit i, a, w => ∃ e o μ, Q (.exit i) e o ∧ FR w F μ e a.tmps ∧ St w F μ o ∧ ExtB m w0 μ0 w μ ∧ a.defers = ds
  | .ret, a, w => ∃ e o μ, Q .ret e o ∧ FR w F μ e a.tmps ∧ St w F μ o ∧ ExtB m w0 μ0 w μ ∧ a.defers = ds
  | _, _, _ => False

/-- The meaning of a piece of code, where evaluation stops. -/
structure ACode (P : Program) (m : Nat) (c : Code) (env : List AV) (ob : List AO) (Q : AE → List AV → List AO → Prop) : Prop where
  run : ∀ (w : World) (F : Nat → Prop) (μ : Mu) (a : Act), m ≤ μ.length → FR w F μ env a.tmps → St w F μ ob → c.wp P (QC m w F μ a.defers Q) a w

/-- A region whose order is drawn, where evaluation stops. -/
structure ADraw (P : Program) (δ : Nat → Option TD) (m : Nat) (id : Nat) (ops : Array Oper) (env : List AV) (ob : List AO) (Q : List AV → List AO → Prop) : Prop where
  run : ∀ (w : World) (F : Nat → Prop) (μ : Mu) (a : Act), m ≤ μ.length → FR w F μ env a.tmps → St w F μ ob → (Code.region id ops true).wp P (QC m w F μ a.defers fun e v o => match e with | .normal => Q v o | _ => False) a w

def aw (m : Nat) : Code → List AV → List AO → (AE → List AV → List AO → Prop) → Prop
  | .skip, env, ob, Q => Q .normal env ob
  | .region id ops draw, env, ob, Q => match draw with
    | false => aops P δ ops.toList ops.toList env ob fun e o => Q .normal e o
    | true => ADraw P δ m id ops env ob fun e o => Q .normal e o
  | .seq a b, env, ob, Q => aw m a env ob fun x e o => match x with
    | .normal => aw m b e o Q
    | x => Q x e o
  | .cond c a b, env, ob, Q => match opnd env c with
    | .c (.bool t) => brT t (fun _ => aw m a (setC env c true) ob Q) (fun _ => aw m b (setC env c false) ob Q)
    | _ => False
  | .block id a, env, ob, Q => aw m a env ob fun x e o => match x with
    | .exit i => match i == id with | true => Q .normal e o | false => Q (.exit i) e o
    | x => Q x e o
  | .loop a, env, ob, Q => ACode P m (.loop a) env ob Q
  | .ret, env, ob, Q => Q .ret env ob
  | .exit i, env, ob, Q => Q (.exit i) env ob
  | .label _, env, ob, Q => Q .normal env ob
  | .scope a, env, ob, Q => aw m a env ob Q
  | _, _, _, _ => False

def resS (δ : Nat → Option TD) (env : List AV) (ob : List AO) : ResultVar → Option AV
  | .tmp t => match nth env t with
    | some x => some x
    | none => none
  | .cell t ty => match δ ty, getS env t with
    | some d, .ref o off => match nth ob o with | some (.box cs) => loadB cs off d | _ => none
    | _, _ => none
def resL (δ : Nat → Option TD) (env : List AV) (ob : List AO) : List ResultVar → Option (List AV)
  | [] => some []
  | r :: rs => match resS δ env ob r, resL δ env ob rs with | some x, some xs => some (x :: xs) | _, _ => none
def ares (rs : List ResultVar) (env : List AV) (ob : List AO) (K : AV → List AO → Prop) : Prop :=
  match resL δ env ob rs with
  | some [x] => K x ob
  | some xs => K (.tup xs) ob
  | none => False

def undefs : Nat → List AV
  | 0 => []
  | n + 1 => AUnit :: undefs n

/-- A function's body, entered. -/
def abody (c : Code) (rs : List ResultVar) (n : Nat) (args : List AV) (ob : List AO) (K : AV → List AO → Prop) : Prop :=
  aw P δ (lenL ob) c (appL args (undefs (n - lenL args))) ob fun x e o => match x with
    | .normal | .ret => ares δ rs e o K
    | _ => False

end

end Go.Abs
