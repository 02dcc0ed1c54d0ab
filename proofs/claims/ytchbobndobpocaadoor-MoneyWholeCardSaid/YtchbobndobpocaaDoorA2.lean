/- The abstract machine, part 2: the evaluator, in weakest-precondition style. What it can't do it answers by False. -/
import Derived.Test.YtchbobndobpocaaDoorA1
namespace Go.Abs
variable [Gl]

def nth {α : Type} : List α → Nat → Option α
  | [], _ => none
  | a :: _, 0 => some a
  | _ :: l, n + 1 => nth l n
def setL {α : Type} : List α → Nat → α → List α
  | [], _, _ => []
  | _ :: l, 0, x => x :: l
  | a :: l, n + 1, x => a :: setL l n x
def lenL {α : Type} : List α → Nat
  | [] => 0
  | _ :: l => lenL l + 1
def appL {α : Type} : List α → List α → List α
  | [], m => m
  | a :: l, m => a :: appL l m
def dropL {α : Type} : List α → Nat → List α
  | l, 0 => l
  | [], _ + 1 => []
  | _ :: l, n + 1 => dropL l n
def takeN {α : Type} : List α → Nat → Option (List α)
  | _, 0 => some []
  | [], _ + 1 => none
  | a :: l, n + 1 => match takeN l n with | some r => some (a :: r) | none => none
def mapL {α β : Type} (f : α → β) : List α → List β
  | [] => []
  | a :: l => f a :: mapL f l
/-- cells 'xs' laid at 'off'; none: they do not fit. -/
def splice {α : Type} : List α → Nat → List α → Option (List α)
  | l, 0, [] => some l
  | [], 0, _ :: _ => none
  | _ :: l, 0, x :: xs => match splice l 0 xs with | some r => some (x :: r) | none => none
  | [], _ + 1, _ => none
  | a :: l, n + 1, xs => match splice l n xs with | some r => some (a :: r) | none => none

/-- The shape of a type. -/
inductive Sh where
  | int (k : IntKind) | bool | str | ptr (e : Nat) | slice (e : Nat) | array (n e : Nat) | map (k e : Nat) | struct (fs : List (Nat × Nat)) | func | iface | other

structure TD where
  size : Nat
  bytes : Nat
  agg : Bool
  eq : Bool
  sh : Sh
  zero : List T

/-! ### Things known or not looked into -/
def m1 {α β : Type} (f : α → β) : Th α → Th β
  | .lit a => .lit (f a)
  | .th g => .th (fun _ => f (g ()))
def m2 {α β γ : Type} (f : α → β → γ) : Th α → Th β → Th γ
  | .lit a, .lit b => .lit (f a b)
  | .lit a, .th g => .th (fun _ => f a (g ()))
  | .th g, .lit b => .th (fun _ => f (g ()) b)
  | .th g, .th h => .th (fun _ => f (g ()) (h ()))
omit [Gl] in
@[simp] theorem den_m1 {α β : Type} (f : α → β) (a : Th α) : (m1 f a).den = f a.den := by cases a <;> rfl
omit [Gl] in
@[simp] theorem den_m2 {α β γ : Type} (f : α → β → γ) (a : Th α) (b : Th β) : (m2 f a b).den = f a.den b.den := by cases a <;> cases b <;> rfl

def m3 {α β γ ε : Type} (f : α → β → γ → ε) (a : Th α) (b : Th β) (c : Th γ) : Th ε := m2 (fun p c => f p.1 p.2 c) (m2 Prod.mk a b) c
def m4 {α β γ ε ζ : Type} (f : α → β → γ → ε → ζ) (a : Th α) (b : Th β) (c : Th γ) (d : Th ε) : Th ζ := m2 (fun p q => f p.1 p.2 q.1 q.2) (m2 Prod.mk a b) (m2 Prod.mk c d)
omit [Gl] in
@[simp] theorem den_m3 {α β γ ε : Type} (f : α → β → γ → ε) (a : Th α) (b : Th β) (c : Th γ) : (m3 f a b c).den = f a.den b.den c.den := by simp [m3]
omit [Gl] in
@[simp] theorem den_m4 {α β γ ε ζ : Type} (f : α → β → γ → ε → ζ) (a : Th α) (b : Th β) (c : Th γ) (d : Th ε) : (m4 f a b c d).den = f a.den b.den c.den d.den := by simp [m4]

/-- Two ways, by something that is not looked into. -/
inductive BrS (f : Unit → Bool) (A B : Unit → Prop) : Prop where
  | mk : (f () = true → A ()) → (f () = false → B ()) → BrS f A B
/-- It must hold. -/
inductive MustS (f : Unit → Bool) (A : Unit → Prop) : Prop where
  | mk : f () = true → A () → MustS f A
/-- An element of a list that is not looked into. -/
inductive NthS {α : Type} (es : Unit → List α) (n : Unit → Int) (K : α → Prop) : Prop where
  | mk (e : α) : 0 ≤ n () → (es ())[(n ()).toNat]? = some e → K e → NthS es n K

def brT (b : Th Bool) (A B : Unit → Prop) : Prop :=
  match b with
  | .lit true => A ()
  | .lit false => B ()
  | .th f => BrS f A B
def mustT (b : Th Bool) (A : Unit → Prop) : Prop :=
  match b with
  | .lit true => A ()
  | .lit false => False
  | .th f => MustS f A
omit [Gl] in
theorem brT_iff {b : Th Bool} {A B : Unit → Prop} (h : brT b A B) : (b.den = true → A ()) ∧ (b.den = false → B ()) := by
  unfold brT at h
  split at h
  · exact ⟨fun _ => h, fun h => (by cases h)⟩
  · exact ⟨fun h => (by cases h), fun _ => h⟩
  · cases h with | mk h1 h2 => exact ⟨h1, h2⟩
omit [Gl] in
theorem mustT_iff {b : Th Bool} {A : Unit → Prop} (h : mustT b A) : b.den = true ∧ A () := by
  unfold mustT at h
  split at h
  · exact ⟨rfl, h⟩
  · exact h.elim
  · cases h with | mk h1 h2 => exact ⟨h1, h2⟩

/-- An element: looked up where all is known. -/
def nthT {α : Type} (es : Th (List α)) (n : Th Int) (K : α → Prop) : Prop :=
  match es, n with
  | .lit l, .lit n => match n with
    | .ofNat m => match nth l m with | some e => K e | none => False
    | .negSucc _ => False
  | es, n => NthS (fun _ => es.den) (fun _ => n.den) K

def iop (op : BinOp) (k : IntKind) (a b : Int) : Int :=
  match op with
  | .add => k.wrap (a + b)
  | .sub => k.wrap (a - b)
  | .mul => k.wrap (a * b)
  | .quo => k.wrap (a.tdiv b)
  | .rem => a.tmod b
  | .and => k.wrap ((BitVec.ofInt k.bits a &&& BitVec.ofInt k.bits b).toNat : Int)
  | .or => k.wrap ((BitVec.ofInt k.bits a ||| BitVec.ofInt k.bits b).toNat : Int)
  | .xor => k.wrap ((BitVec.ofInt k.bits a ^^^ BitVec.ofInt k.bits b).toNat : Int)
  | .andNot => k.wrap ((BitVec.ofInt k.bits a &&& ~~~BitVec.ofInt k.bits b).toNat : Int)
  | .shl => k.wrap (a * 2 ^ (min b.toNat k.bits))
  | .shr => a.fdiv (2 ^ (min b.toNat k.bits))
  | _ => 0
def icmp (op : BinOp) (a b : Int) : Bool :=
  match op with
  | .eql => a == b
  | .neq => a != b
  | .lss => decide (a < b)
  | .leq => decide (a ≤ b)
  | .gtr => decide (a > b)
  | .geq => decide (a ≥ b)
  | _ => false
def iun (op : UnOp) (k : IntKind) (n : Int) : Int :=
  match op with
  | .neg => k.wrap (0 - n)
  | _ => k.wrap ((BitVec.ofInt k.bits (if k.signed then -1 else k.max) ^^^ BitVec.ofInt k.bits n).toNat : Int)
def scmp (op : BinOp) (x y : ByteArray) : Bool :=
  match op with
  | .eql => x.toList == y.toList
  | .neq => !(x.toList == y.toList)
  | .lss => Op.bytesLess x.toList y.toList
  | .leq => Op.bytesLess x.toList y.toList || x.toList == y.toList
  | .gtr => !(Op.bytesLess x.toList y.toList || x.toList == y.toList)
  | .geq => !(Op.bytesLess x.toList y.toList)
  | _ => false

abbrev AB (b : Th Bool) : AV := .c (.bool b)
abbrev AI (k : IntKind) (n : Th Int) : AV := .c (.int k n)
abbrev AS (s : Th ByteArray) : AV := .c (.str s)
abbrev AUnit : AV := .tup []

/-- A constant. -/
def ofV1 : Value → Option T
  | .int k n => some (.int k (.lit n))
  | .bool b => some (.bool (.lit b))
  | .string s => some (.str (.lit s))
  | v => match plain v with | true => some (.lit v) | false => none
def ofVs : List Value → Option (List AV)
  | [] => some []
  | v :: vs => match ofV1 v, ofVs vs with | some t, some r => some (.c t :: r) | _, _ => none
def ofV : Value → AV
  | .agg cs => match ofVs cs.toList with | some r => .agg r | none => .junk
  | .tuple vs => match vs.toList with | [] => .tup [] | _ => .junk
  | v => match ofV1 v with | some t => .c t | none => .junk

def getS (env : List AV) (t : Nat) : AV := match nth env t with | some x => x | none => .junk
def opnd (env : List AV) : Operand → AV
  | .tmp t => getS env t
  | .const v => ofV v
  | .global _ => .junk
  | .func f => .fn (.func f) [] []
def putS (env : List AV) (d : Option Nat) (v : AV) : List AV := match d with | some d => setL env d v | none => env

/-- A value's cells; none: it may be no cell. -/
def cellsOf : AV → Option (List AV)
  | .agg cs => some cs
  | .tup _ | .junk => none
  | x => some [x]

def loadB (cs : List AV) (off : Nat) (d : TD) : Option AV :=
  match d.agg with
  | true => match takeN (dropL cs off) d.size with | some r => some (.agg r) | none => none
  | false => nth cs off

/-- the address is alive -/
def alive (ob : List AO) (o : Nat) : Bool := match nth ob o with | some (.box _) => true | some (.map _) => true | _ => false

def aload (d : TD) (x : AV) (ob : List AO) (K : AV → List AO → Prop) : Prop :=
  match x with
  | .ref o off => match nth ob o with
    | some (.box cs) => match loadB cs off d with | some v => K v ob | none => False
    | _ => False
  | .eref o k i off => match nth ob o with
    | some (.arr k' es _) => match k == k' with
      | true => nthT es (m1 Int.ofNat i) fun e => match loadB e off d with | some v => K v ob | none => False
      | false => False
    | _ => False
  | .c (.vptr cs) => match loadB (mapL .c cs) 0 d with | some v => K v ob | none => False
  | _ => False

def astore (d : TD) (x v : AV) (ob : List AO) (K : AV → List AO → Prop) : Prop :=
  match cellsOf v with
  | none => False
  | some vs => match lenL vs == d.size with
    | false => False
    | true => match x with
      | .ref o off => match nth ob o with
        | some (.box cs) => match splice cs off vs with | some cs' => K AUnit (setL ob o (.box cs')) | none => False
        | _ => False
      | .eref o k i off => match nth ob o with
        | some (.arr k' es sz) => match k == k' with
          | true => nthT es (m1 Int.ofNat i) fun e => match splice e off vs with
            | some e' => K AUnit (setL ob o (.arr k (m2 (fun l n => l.set n e') es i) sz))
            | none => False
          | false => False
        | _ => False
      | _ => False

def fieldOf (δ : Nat → Option TD) (s f : Nat) : Option (Nat × TD) :=
  match δ s with
  | some d => match d.sh with
    | .struct fs => match nth fs f with
      | some (off, t) => match δ t with | some e => some (off, e) | none => none
      | none => none
    | _ => none
  | none => none

def afieldAddr (δ : Nat → Option TD) (s f : Nat) (x : AV) (ob : List AO) (K : AV → List AO → Prop) : Prop :=
  match fieldOf δ s f with
  | some (off, e) => match e.size == 0 with
    | true => False
    | false => match x with
      | .ref o a => match alive ob o with | true => K (.ref o (a + off)) ob | false => False
      | .eref o k i a => K (.eref o k i (a + off)) ob
      | .c (.vptr cs) => K (.c (.vptr (dropL cs off))) ob
      | _ => False
  | none => False

def afield (δ : Nat → Option TD) (s f : Nat) (x : AV) (ob : List AO) (K : AV → List AO → Prop) : Prop :=
  match fieldOf δ s f with
  | some (off, e) => match x with
    | .agg cs => match loadB cs off e with | some v => K v ob | none => False
    | _ => False
  | none => False

def inRB (len : Nat) (n : Int) : Bool := decide (0 ≤ n) && decide (n < len)

def aindexAddr (δ : Nat → Option TD) (t : Nat) (x i : AV) (ob : List AO) (K : AV → List AO → Prop) : Prop :=
  match δ t, i with
  | some d, .c (.int _ n) => match d.sh with
    | .slice e => match δ e with
      | some ed => match x with
        | .sl o k i0 len _ => match k == ed.size with
          | true => mustT (m2 inRB len n) (fun _ => K (.eref o k (m2 (fun i0 n => i0 + n.toNat) i0 n) 0) ob)
          | false => False
        | .c (.vsl k es) => match k == ed.size with
          | true => nthT (.lit es) n fun c => K (.c (.vptr c)) ob
          | false => False
        | .c (.vslS k f) => match k == ed.size with
          | true => nthT (.th fun _ => (T.vslS k f).rows) n fun c => K (.c (.vptr c)) ob
          | false => False
        | _ => False
      | none => False
    | .array len e => match δ e with
      | some ed => match x, n with
        | .ref o off, .lit n => match alive ob o, inRB len n with
          | true, true => K (.ref o (off + n.toNat * ed.size)) ob
          | _, _ => False
        | _, _ => False
      | none => False
    | _ => False
  | _, _ => False

def takeL {α : Type} : List α → Nat → List α
  | _, 0 => []
  | [], _ + 1 => []
  | a :: l, n + 1 => a :: takeL l n
/-- The elements of an array that is a value. -/
def partsA (cs : List AV) (ed : TD) : Nat → Nat → Option (List AV)
  | 0, _ => some []
  | n + 1, off => match loadB cs off ed, partsA cs ed n (off + ed.size) with
    | some y, some r => some (y :: r)
    | _, _ => none

def byteAt (s : ByteArray) (n : Int) : Int := ((s.data.toList.getD n.toNat 0).toNat : Int)

def aindex (δ : Nat → Option TD) (t : Nat) (x i : AV) (ob : List AO) (K : AV → List AO → Prop) : Prop :=
  match δ t, i with
  | some d, .c (.int _ n) => match d.sh with
    | .str => match x with
      | .c (.str s) => mustT (m2 (fun s n => inRB s.size n) s n) fun _ => K (AI .u8 (m2 byteAt s n)) ob
      | _ => False
    | .array len e => match δ e with
      | some ed => match x with
        | .agg cs => match partsA cs ed len 0 with
          | some l => nthT (.lit l) n fun v => K v ob
          | none => False
        | _ => False
      | none => False
    | _ => False
  | _, _ => False

def alen (δ : Nat → Option TD) (t : Nat) (x : AV) (ob : List AO) (K : AV → List AO → Prop) : Prop :=
  match δ t with
  | some d => match d.sh with
    | .str => match x with | .c (.str s) => K (AI .i64 (m1 (fun s => (s.size : Int)) s)) ob | _ => False
    | .slice _ => match x with
      | .sl _ _ _ len _ => K (AI .i64 (m1 Int.ofNat len)) ob
      | .c (.vsl _ es) => K (AI .i64 (.lit (Int.ofNat (lenL es)))) ob
      | .c (.vslS k f) => K (AI .i64 (.th fun _ => ((T.vslS k f).rows.length : Int))) ob
      | .c (.lit (.slice none 0 0)) => K (AI .i64 (.lit 0)) ob
      | _ => False
    | .array n _ => K (AI .i64 (.lit (Int.ofNat n))) ob
    | .map _ _ => match x with
      | .c (.lit (.map none)) => K (AI .i64 (.lit 0)) ob
      | .mp o => match nth ob o with | some (.map es) => K (AI .i64 (.lit (Int.ofNat (lenL es)))) ob | _ => False
      | _ => False
    | _ => False
  | none => False

/-- Whichever it is. (A structure: evaluation stops there.) -/
structure AnyB (A : Bool → Prop) : Prop where
  all : ∀ b, A b
/-- Is it nil? A list of nothing may be, or not. -/
def nilSlice : AV → Option (Option Bool)
  | .c (.lit (.slice none 0 0)) => some (some true)
  | .c (.vsl _ (_ :: _)) => some (some false)
  | .c (.vsl _ []) | .c (.vslS _ _) | .sl _ _ _ _ _ => some none
  | _ => none
def nilPtr (ob : List AO) : AV → Option Bool
  | .c (.lit (.pointer none)) => some true
  | .c (.vptr _) => some false
  | .ref o _ => match alive ob o with | true => some false | false => none
  | .eref _ _ _ _ => some false
  | _ => none
def nilFn : AV → Option Bool
  | .c (.lit .nilFunc) => some true
  | .fn _ _ _ => some false
  | _ => none
def nilIfc : AV → Option Bool
  | .c (.lit .nilIface) => some true
  | .ifc _ _ => some false
  | _ => none

/-- Fields' equality, one behind the other. -/
def eqCell (sh : Sh) (x y : AV) : Option (Th Bool) :=
  match sh with
  | .int _ => match x, y with
    | .c (.int k a), .c (.int k' b) => match k == k' with | true => some (m2 (fun a b => a == b) a b) | false => none
    | _, _ => none
  | .bool => match x, y with
    | .c (.bool a), .c (.bool b) => some (m2 (fun a b => a == b) a b)
    | _, _ => none
  | .str => match x, y with
    | .c (.str a), .c (.str b) => some (m2 (fun a b => a == b) a b)
    | _, _ => none
  | _ => none
def eqFields (δ : Nat → Option TD) (xs ys : List AV) : List (Nat × Nat) → Option (Th Bool)
  | [] => some (.lit true)
  | (off, t) :: fs => match δ t, nth xs off, nth ys off with
    | some d, some x, some y => match eqCell d.sh x y, eqFields δ xs ys fs with
      | some a, some b => some (m2 (fun a b => a && b) a b)
      | _, _ => none
    | _, _, _ => none

def notIf (neg : Bool) (b : Th Bool) : Th Bool := match neg with | true => m1 (fun b => !b) b | false => b

def aeq (δ : Nat → Option TD) (t : Nat) (neg yc : Bool) (x y : AV) (ob : List AO) (K : AV → List AO → Prop) : Prop :=
  match δ t with
  | some d => match d.sh with
    | .bool => match eqCell .bool x y with | some b => K (AB (notIf neg b)) ob | none => False
    | .struct fs => match x, y, d.eq with
      | .agg xs, .agg ys, true => match eqFields δ xs ys fs with | some b => K (AB (notIf neg b)) ob | none => False
      | _, _, _ => False
    | .slice _ => match y with
      | .c (.lit (.slice none 0 0)) => match nilSlice x with
        | some (some b) => K (AB (notIf neg (.lit b))) ob
        | some none => AnyB fun b => K (AB (notIf neg (.lit b))) ob
        | none => False
      | _ => False
    | .ptr _ => match y with
      | .c (.lit (.pointer none)) => match nilPtr ob x with | some b => K (AB (notIf neg (.lit b))) ob | none => False
      | _ => False
    | .func => match y with
      | .c (.lit .nilFunc) => match nilFn x with | some b => K (AB (notIf neg (.lit b))) ob | none => False
      | _ => False
    | .iface => match y, yc with
      | .c (.lit .nilIface), true => match nilIfc x with | some b => K (AB (notIf neg (.lit b))) ob | none => False
      | _, _ => False
    | _ => False
  | none => False

def isConstO : Operand → Bool | .const _ => true | _ => false

def abin (δ : Nat → Option TD) (op : BinOp) (xt : Nat) (yc : Bool) (x y : AV) (ob : List AO) (K : AV → List AO → Prop) : Prop :=
  match x, y with
  | .c (.int k a), .c (.int k' b) => match op with
    | .shl | .shr => mustT (m1 (fun b => decide (0 ≤ b)) b) (fun _ => K (AI k (m2 (iop op k) a b)) ob)
    | .eql | .neq | .lss | .leq | .gtr | .geq => match k == k' with | true => K (AB (m2 (icmp op) a b)) ob | false => False
    | .quo | .rem => match k == k' with
      | true => mustT (m1 (fun b => b != 0) b) (fun _ => K (AI k (m2 (iop op k) a b)) ob)
      | false => False
    | _ => match k == k' with | true => K (AI k (m2 (iop op k) a b)) ob | false => False
  | .c (.str a), .c (.str b) => match op with
    | .eql | .neq | .lss | .leq | .gtr | .geq => K (AB (m2 (scmp op) a b)) ob
    | .add => mustT (m2 (fun a b => decide (a.size + b.size ≤ 9223372036854775807)) a b) (fun _ => K (AS (m2 (fun a b => a ++ b) a b)) ob)
    | _ => False
  | x, y => match op with
    | .eql => aeq δ xt false yc x y ob K
    | .neq => aeq δ xt true yc x y ob K
    | _ => False

def aun (op : UnOp) (x : AV) (ob : List AO) (K : AV → List AO → Prop) : Prop :=
  match op, x with
  | .not, .c (.bool b) => K (AB (m1 (fun b => !b) b)) ob
  | .neg, .c (.int k n) => K (AI k (m1 (iun .neg k) n)) ob
  | .xor, .c (.int k n) => K (AI k (m1 (iun .xor k) n)) ob
  | _, _ => False

def aconv (δ : Nat → Option TD) (dst : Nat) (x : AV) (ob : List AO) (K : AV → List AO → Prop) : Prop :=
  match δ dst with
  | some d => match d.sh, x with
    | .int k, .c (.int _ n) => K (AI k (m1 k.wrap n)) ob
    | .str, .c (.str s) => K (AS s) ob
    | _, _ => False
  | none => False

/-- Parts laid into zero cells. -/
def fillL : List (Nat × Nat) → List (Nat × AV) → List AV → Option (List AV)
  | _, [], cs => some cs
  | pl, (i, x) :: rest, cs => match nth pl i, cellsOf x with
    | some (off, size), some vs => match lenL vs == size with
      | true => match splice cs off vs with | some cs' => fillL pl rest cs' | none => none
      | false => none
    | _, _ => none

def zeroC (d : TD) : List AV := mapL .c d.zero
def places (δ : Nat → Option TD) : List (Nat × Nat) → Option (List (Nat × Nat))
  | [] => some []
  | (off, t) :: fs => match δ t, places δ fs with | some e, some r => some ((off, e.size) :: r) | _, _ => none

def opnds (env : List AV) (xs : List Operand) : List AV := mapL (opnd env) xs
def parts (env : List AV) (xs : List (Nat × Operand)) : List (Nat × AV) := mapL (fun p => (p.1, opnd env p.2)) xs

def abuild (δ : Nat → Option TD) (t : Nat) (ps : List (Nat × AV)) (ob : List AO) (K : AV → List AO → Prop) : Prop :=
  match δ t with
  | some d => match d.sh with
    | .struct fs => match places δ fs with
      | some pl => match fillL pl ps (zeroC d) with | some cs => K (.agg cs) ob | none => False
      | none => False
    | _ => False
  | none => False

/-- Elements of a literal, in order: each either a part or zero. -/
def elems (z : List AV) (k : Nat) : Nat → Nat → List (Nat × AV) → Option (List (List AV))
  | _, 0, [] => some []
  | _, 0, _ :: _ => none
  | i, n + 1, ps =>
    match ps with
    | (j, x) :: rest => match j == i with
      | true => match cellsOf x with
        | some vs => match lenL vs == k with
          | true => match elems z k (i + 1) n rest with | some r => some (vs :: r) | none => none
          | false => none
        | none => none
      | false => match elems z k (i + 1) n ps with | some r => some (z :: r) | none => none
    | [] => match elems z k (i + 1) n [] with | some r => some (z :: r) | none => none

def abuildSlice (δ : Nat → Option TD) (t len : Nat) (ps : List (Nat × AV)) (ob : List AO) (K : AV → List AO → Prop) : Prop :=
  match δ t with
  | some d => match d.sh with
    | .slice e => match δ e with
      | some ed => match ed.size == 0, (len * ed.size).ble 16777216 with
        | false, true => match elems (zeroC ed) ed.size 0 len ps with
          | some es => K (.sl (lenL ob) ed.size (.lit 0) (.lit len) (.lit len)) (appL ob [.arr ed.size (.lit es) (.lit (len * ed.size))])
          | none => False
        | _, _ => False
      | none => False
    | _ => False
  | none => False

/-! ### Slices of slices -/
def bnd (o : Option AV) (d : Th Int) : Option (Th Int) := match o with
  | none => some d
  | some (.c (.int _ n)) => some n
  | _ => none
def okB (l h m c : Int) : Bool := decide (0 ≤ l) && decide (l ≤ h) && decide (h ≤ m) && decide (m ≤ c)
def offB (i : Nat) (l m : Int) : Nat := match decide (m = l) with | true => i | false => i + l.toNat
def rowsB (es : List (List T)) (l h : Int) : List (List T) := (es.drop l.toNat).take (h - l).toNat
def sliceT (k : Nat) (es : Th (List (List T))) (l h : Th Int) : T :=
  match es, l, h with
  | .lit es, .lit l, .lit h => .vsl k (takeL (dropL es l.toNat) (h - l).toNat)
  | es, l, h => .vslS k (fun _ => .vsl k (rowsB es.den l.den h.den))
def aslice (δ : Nat → Option TD) (t : Nat) (x : AV) (lo hi mx : Option AV) (ob : List AO) (K : AV → List AO → Prop) : Prop :=
  match δ t with
  | some d => match d.sh with
    | .str => match x, mx with
      | .c (.str s), none => match bnd lo (.lit 0), bnd hi (m1 (fun s => (s.size : Int)) s) with
        | some l, some h => mustT (m3 (fun l h s => okB l h (s.size : Int) (s.size : Int)) l h s) fun _ => K (AS (m3 (fun s l h => s.extract l.toNat h.toNat) s l h)) ob
        | _, _ => False
      | _, _ => False
    | .slice e => match δ e with
      | some ed => match x with
        | .sl o k i len cap => match k == ed.size, bnd lo (.lit 0), bnd hi (m1 Int.ofNat len), bnd mx (m1 Int.ofNat cap), hi.isNone && mx.isSome with
          | true, some l, some h, some m, false => mustT (m4 okB l h m (m1 Int.ofNat cap)) fun _ => K (.sl o k (m3 offB i l m) (m2 (fun l h => (h - l).toNat) l h) (m2 (fun l m => (m - l).toNat) l m)) ob
          | _, _, _, _, _ => False
        | .c (.vsl k es) => match k == ed.size, bnd lo (.lit 0), bnd hi (.lit (Int.ofNat (lenL es))), bnd mx (.lit (Int.ofNat (lenL es))), hi.isNone && mx.isSome with
          | true, some l, some h, some m, false => mustT (m4 okB l h m (.lit (Int.ofNat (lenL es)))) fun _ => K (.c (sliceT k (.lit es) l h)) ob
          | _, _, _, _, _ => False
        | .c (.vslS k f) => match k == ed.size, bnd lo (.lit 0), bnd hi (.th fun _ => ((T.vslS k f).rows.length : Int)), bnd mx (.th fun _ => ((T.vslS k f).rows.length : Int)), hi.isNone && mx.isSome with
          | true, some l, some h, some m, false => mustT (m4 okB l h m (.th fun _ => ((T.vslS k f).rows.length : Int))) fun _ => K (.c (sliceT k (.th fun _ => (T.vslS k f).rows) l h)) ob
          | _, _, _, _, _ => False
        | _ => False
      | none => False
    | _ => False
  | none => False

/-! ### Maps of one's own, keyed by whole numbers, bools or strings -/
def keySh (δ : Nat → Option TD) (t : Nat) : Option (Sh × TD) :=
  match δ t with
  | some d => match d.sh with
    | .map k e => match δ k, δ e with
      | some kd, some ed => some (kd.sh, ed)
      | _, _ => none
    | _ => none
  | none => none

/-- The first entry that has the key. -/
def afind (sh : Sh) (k : AV) : List (AV × AV) → Nat → (Option (Nat × AV) → Prop) → Prop
  | [], _, K => match eqCell sh k k with | some _ => K none | none => False
  | (k', v) :: es, i, K => match eqCell sh k k' with
    | some b => brT b (fun _ => K (some (i, v))) (fun _ => afind sh k es (i + 1) K)
    | none => False

def ainsert (δ : Nat → Option TD) (t : Nat) (m k v : AV) (ob : List AO) (K : AV → List AO → Prop) : Prop :=
  match keySh δ t, m with
  | some (sh, _), .mp o => match nth ob o with
    | some (.map es) => afind sh k es 0 fun r => match r with
      | some (i, _) => K AUnit (setL ob o (.map (setL es i (k, v))))
      | none => K AUnit (setL ob o (.map (appL es [(k, v)])))
    | _ => False
  | _, _ => False

def zeroV (d : TD) : Option AV :=
  match d.agg with
  | true => some (.agg (zeroC d))
  | false => match d.zero with | [z] => some (.c z) | _ => none

/-- What a lookup hands on. -/
def lkK (ok : Bool) (z : AV) (ob : List AO) (K : AV → List AO → Prop) : Option (Nat × AV) → Prop
  | some (_, v) => match ok with | true => K (.tup [v, AB (.lit true)]) ob | false => K v ob
  | none => match ok with | true => K (.tup [z, AB (.lit false)]) ob | false => K z ob

def alookup (δ : Nat → Option TD) (t : Nat) (m k : AV) (ok : Bool) (ob : List AO) (K : AV → List AO → Prop) : Prop :=
  match keySh δ t with
  | some (sh, ed) => match zeroV ed with
    | some z => match m with
      | .mp o => match nth ob o with
        | some (.map es) => afind sh k es 0 (lkK ok z ob K)
        | _ => False
      | .c (.lit (.map none)) => afind sh k [] 0 (lkK ok z ob K)
      | _ => False
    | none => False
  | none => False

end Go.Abs
