/- The abstract machine, part 4: lists, types, operands, loads and stores are what they say. -/
import Derived.Test.YtchbobndobpocaaDoorA3
import Derived.Laws.Rows
namespace Go.Abs
variable [Gl]

omit [Gl] in
theorem nth_eq {α : Type} (l : List α) (n : Nat) : nth l n = l[n]? := by
  induction l generalizing n with
  | nil => simp [nth]
  | cons a l ih => cases n <;> simp [nth, ih]
omit [Gl] in
theorem setL_eq {α : Type} (l : List α) (n : Nat) (x : α) : setL l n x = l.set n x := by
  induction l generalizing n with
  | nil => simp [setL]
  | cons a l ih => cases n <;> simp [setL, ih]
omit [Gl] in
theorem lenL_eq {α : Type} (l : List α) : lenL l = l.length := by induction l <;> simp [lenL, *]
omit [Gl] in
theorem appL_eq {α : Type} (l m : List α) : appL l m = l ++ m := by induction l <;> simp [appL, *]
omit [Gl] in
theorem mapL_eq {α β : Type} (f : α → β) (l : List α) : mapL f l = l.map f := by induction l <;> simp [mapL, *]
omit [Gl] in
theorem dropL_eq {α : Type} (l : List α) (n : Nat) : dropL l n = l.drop n := by
  induction l generalizing n with
  | nil => cases n <;> simp [dropL]
  | cons a l ih => cases n <;> simp [dropL, ih]
omit [Gl] in
theorem takeN_some {α : Type} {l : List α} {n : Nat} {r : List α} (h : takeN l n = some r) : n ≤ l.length ∧ r = l.take n := by
  induction l generalizing n r with
  | nil => cases n <;> simp_all [takeN]
  | cons a l ih =>
    cases n with
    | zero => simp [takeN] at h; simp [h]
    | succ n =>
      simp only [takeN] at h
      split at h
      · rename_i r' hr
        obtain ⟨h1, h2⟩ := ih hr
        cases h
        exact ⟨by simp; omega, by simp [h2]⟩
      · cases h
omit [Gl] in
theorem splice_some {α : Type} {l : List α} {off : Nat} {xs r : List α} (h : splice l off xs = some r) : off + xs.length ≤ l.length ∧ r = l.take off ++ xs ++ l.drop (off + xs.length) := by
  induction l generalizing off xs r with
  | nil => cases off <;> cases xs <;> simp_all [splice]
  | cons a l ih =>
    cases off with
    | zero =>
      cases xs with
      | nil => simp [splice] at h; simp [h]
      | cons x xs =>
        simp only [splice] at h
        split at h
        · rename_i r' hr
          obtain ⟨h1, h2⟩ := ih hr
          cases h
          exact ⟨by simp at h1 ⊢; omega, by simp at h2; simp [h2]⟩
        · cases h
    | succ n =>
      simp only [splice] at h
      split at h
      · rename_i r' hr
        obtain ⟨h1, h2⟩ := ih hr
        cases h
        refine ⟨by simp at h1 ⊢; omega, ?_⟩
        rw [h2, show n + 1 + xs.length = (n + xs.length) + 1 by omega]
        simp
      · cases h

omit [Gl] in
theorem nthT_iff {α : Type} {es : Th (List α)} {n : Th Int} {K : α → Prop} (h : nthT es n K) : ∃ e, 0 ≤ n.den ∧ es.den[n.den.toNat]? = some e ∧ K e := by
  unfold nthT at h
  split at h
  · split at h
    · split at h
      · rename_i m _ e he
        rw [nth_eq] at he
        exact ⟨e, by simp, by simpa using he, h⟩
      · exact h.elim
    · exact h.elim
  · cases h with | mk e h1 h2 h3 => exact ⟨e, h1, h2, h3⟩

/-! ### Types -/
def shOf : TypeDesc → Sh
  | .bool => .bool
  | .int k => .int k
  | .string => .str
  | .pointer e => .ptr e
  | .slice e => .slice e
  | .array n e => .array n e
  | .map k e => .map k e
  | .struct fs => .struct (fs.toList.map fun f => (f.offset, f.type))
  | .func _ _ _ => .func
  | .interface _ => .iface
  | _ => .other
def aggOf : TypeDesc → Bool
  | .struct _ | .array _ _ => true
  | _ => false
def ofTs : List Value → Option (List T)
  | [] => some []
  | v :: vs => match ofV1 v, ofTs vs with | some t, some r => some (t :: r) | _, _ => none
def aggV : Value → Bool | .agg _ => true | _ => false
def zeroOf (u : TypeDesc) (i : TypeInfo) : List T :=
  match Nat.ble i.size 64 with
  | true => match i.zero with
    | some (.tuple _) => []
    | some z => match ofTs z.cells.toList with
      | some l => match Nat.beq l.length i.size, aggV z == aggOf u with | true, true => l | _, _ => []
      | none => []
    | none => []
  | false => []
def tdOf (P : Program) (eqs : List Nat) (t : Nat) : TD :=
  match P.info? t, P.underlying t with
  | some i, some u => { size := i.size, bytes := i.bytes, agg := aggOf u, eq := eqs.contains t, sh := shOf u, zero := zeroOf u i }
  | _, _ => { size := 0, bytes := 0, agg := false, eq := false, sh := .other, zero := [] }
def tdsOf (P : Program) (eqs : List Nat) (n : Nat) : List TD := (List.range n).map (tdOf P eqs)

def eqFine (P : Program) (t : Nat) : Bool :=
  match P.underlying t with
  | some (.struct fs) => !P.stoodInHeld t && !P.eqGuardType P.depth t && fs.toList.all (fun f => f.name != "_")
  | _ => false

structure TdOk (P : Program) (t : Nat) (d : TD) : Prop where
  ok : ∃ i u, P.info? t = some i ∧ P.underlying t = some u ∧ d.size = i.size ∧ d.bytes = i.bytes ∧ d.agg = aggOf u ∧ d.sh = shOf u ∧ d.zero = zeroOf u i
  eq : d.eq = true → eqFine P t = true

def TyOk (P : Program) (δ : Nat → Option TD) : Prop := ∀ t d, δ t = some d → TdOk P t d

omit [Gl] in
theorem tyOk_of {P : Program} {eqs : List Nat} {n : Nat} {l : List TD} (h : tdsOf P eqs n = l) (he : eqs.all (eqFine P) = true)
    (hin : (List.range n).all (fun t => (P.info? t).isSome && (P.underlying t).isSome) = true) : TyOk P (fun t => nth l t) := by
  intro t d hd
  replace hd : nth l t = some d := hd
  rw [nth_eq, ← h, tdsOf] at hd
  simp only [List.getElem?_map] at hd
  have hlt : t < n := by
    rcases Nat.lt_or_ge t n with h | h
    · exact h
    · simp [h] at hd
  simp [hlt] at hd
  have := List.all_eq_true.1 hin t (by simpa using hlt)
  simp only [Bool.and_eq_true] at this
  obtain ⟨h1, h2⟩ := this
  obtain ⟨i, hi⟩ := Option.isSome_iff_exists.1 h1
  obtain ⟨u, hu⟩ := Option.isSome_iff_exists.1 h2
  subst hd
  refine ⟨⟨i, u, hi, hu, ?_⟩, fun heq => ?_⟩
  · simp [tdOf, hi, hu]
  · simp [tdOf, hi, hu] at heq
    exact List.all_eq_true.1 he t (by simpa using heq)

section
variable {P : Program} {δ : Nat → Option TD} {w : World} {F : Nat → Prop} {μ : Mu} {ob : List AO}

theorem St.box {o : Nat} (hs : St w F μ ob) {x : AO} (h : nth ob o = some x) (hd : ¬ gone x) : ∃ b, μ[o]? = some (some b) ∧ OB w F μ b x := by
  rw [nth_eq] at h
  have hlt : o < μ.length := by rw [hs.len]; exact (List.getElem?_eq_some_iff.1 h).1
  cases hm : μ[o]? with
  | none => simp at hm; omega
  | some q =>
    cases q with
    | none => obtain ⟨y, h1, h2⟩ := hs.dead o hm; rw [h] at h1; cases h1; exact absurd h2 hd
    | some b =>
      obtain ⟨y, h1, h2⟩ := hs.live o b hm
      rw [h] at h1; cases h1
      exact ⟨b, rfl, h2⟩

theorem St.alive (hs : St w F μ ob) {o : Nat} (h : Abs.alive ob o = true) : ∃ b, μ[o]? = some (some b) := by
  unfold Abs.alive at h
  split at h
  · rename_i x hx
    obtain ⟨b, hb, _⟩ := hs.box hx (by simp)
    exact ⟨b, hb⟩
  · rename_i x hx
    obtain ⟨b, hb, _⟩ := hs.box hx (by simp)
    exact ⟨b, hb⟩
  · cases h

omit [Gl] in
theorem VR.refE {o off v} (h : VR w F μ (.ref o off) v) {b : Nat} (hb : μ[o]? = some (some b)) : v = .pointer (some ⟨b, off, none⟩) := by
  cases h with
  | ref h => rw [hb] at h; cases h; rfl
  | refD h => rw [hb] at h; cases h
omit [Gl] in
theorem VR.erefE {o k i off v} (h : VR w F μ (.eref o k i off) v) {b : Nat} (hb : μ[o]? = some (some b)) : v = .pointer (some ⟨b, i.den * k + off, none⟩) := by
  cases h with
  | eref h => rw [hb] at h; cases h; rfl
  | erefD h => rw [hb] at h; cases h
omit [Gl] in
theorem VR.slE {o k i len cap v} (h : VR w F μ (.sl o k i len cap) v) {b : Nat} (hb : μ[o]? = some (some b)) :
    v = .slice (some ⟨b, i.den * k, none⟩) len.den cap.den ∧ len.den ≤ cap.den ∧ cap.den ≤ 9223372036854775807 := by
  cases h with
  | sl h h1 h2 => rw [hb] at h; cases h; exact ⟨rfl, h1, h2⟩
  | slD h _ _ _ => rw [hb] at h; cases h
omit [Gl] in
theorem VR.slV {o k i len cap v} (h : VR w F μ (.sl o k i len cap) v) : ∃ a, v = .slice a len.den cap.den ∧ len.den ≤ cap.den ∧ cap.den ≤ 9223372036854775807 ∧ (a = none → cap.den = 0) := by
  cases h with
  | sl h h1 h2 => exact ⟨_, rfl, h1, h2, fun h => by cases h⟩
  | slD h h1 h2 h3 => exact ⟨_, rfl, h1, h2, h3⟩
omit [Gl] in
theorem VR.erefV {o k i off v} (h : VR w F μ (.eref o k i off) v) : ∃ a, v = .pointer (some a) := by
  cases h with
  | eref h => exact ⟨_, rfl⟩
  | erefD h => exact ⟨_, rfl⟩
omit [Gl] in
theorem VR.mpE {o v} (h : VR w F μ (.mp o) v) {b : Nat} (hb : μ[o]? = some (some b)) : v = .map (some b) := by
  cases h with
  | mp h => rw [hb] at h; cases h; rfl
  | mpD h _ => rw [hb] at h; cases h

omit [Gl] in
theorem ofV1_sound {O : Nat → Prop} {v : Value} {t : T} (h : ofV1 v = some t) : VT w O t v := by
  unfold ofV1 at h
  split at h
  · cases h; exact .int
  · cases h; exact .bool
  · cases h; exact .str
  · split at h
    · rename_i hp; cases h; exact .lit hp
    · cases h
omit [Gl] in
theorem ofTs_sound {O : Nat → Prop} : ∀ {vs : List Value} {ts : List T}, ofTs vs = some ts → ts.length = vs.length ∧ ∀ (i : Nat) t v, ts[i]? = some t → vs[i]? = some v → VT w O t v
  | [], ts, h => by cases h; exact ⟨rfl, fun i t v h => by simp at h⟩
  | v :: vs, ts, h => by
    simp only [ofTs] at h
    split at h
    · rename_i t r h1 h2
      cases h
      obtain ⟨h3, h4⟩ := ofTs_sound h2
      refine ⟨by simp [h3], fun i t' v' ht hv => ?_⟩
      cases i with
      | zero => simp at ht hv; subst ht; subst hv; exact ofV1_sound h1
      | succ i => exact h4 i t' v' (by simpa using ht) (by simpa using hv)
    · cases h
omit [Gl] in
theorem ofVs_sound : ∀ {vs : List Value} {xs : List AV}, ofVs vs = some xs → xs.length = vs.length ∧ ∀ (i : Nat) x v, xs[i]? = some x → vs[i]? = some v → VR w F μ x v ∧ v.oneCell' = true
  | [], xs, h => by cases h; exact ⟨rfl, fun i t v h => by simp at h⟩
  | v :: vs, xs, h => by
    simp only [ofVs] at h
    split at h
    · rename_i t r h1 h2
      cases h
      obtain ⟨h3, h4⟩ := ofVs_sound h2
      refine ⟨by simp [h3], fun i t' v' ht hv => ?_⟩
      cases i with
      | zero => simp at ht hv; subst ht; subst hv; have := ofV1_sound (w := w) (O := own F μ) h1; exact ⟨.c this, this.one⟩
      | succ i => exact h4 i t' v' (by simpa using ht) (by simpa using hv)
    · cases h
omit [Gl] in
theorem ofV_sound (v : Value) : VR w F μ (ofV v) v := by
  unfold ofV
  split
  · rename_i cs
    split
    · rename_i r hr
      obtain ⟨h1, h2⟩ := ofVs_sound (w := w) (F := F) (μ := μ) hr
      exact .agg (by simp [h1]) (fun i x v hx hv => (h2 i x v hx (by simpa using hv)).1) (fun i v hv => by
        have hlt : i < r.length := by rw [h1]; simpa using (Array.getElem?_eq_some_iff.1 hv).1
        exact (h2 i r[i] v (List.getElem?_eq_getElem hlt) (by simpa using hv)).2)
    · exact .junk
  · rename_i vs
    split
    · rename_i h
      have h0 : vs = #[] := by simpa using h
      subst h0
      exact .tup rfl (fun i x v h => by simp at h)
    · exact .junk
  · split
    · rename_i t ht; exact .c (ofV1_sound ht)
    · exact .junk

omit [Gl] in
theorem getS_sound {env : List AV} {tmps : Array Value} (hf : FR w F μ env tmps) (t : Nat) : VR w F μ (getS env t) (tmps.getD t undef) := by
  unfold getS
  split
  · rename_i x hx
    rw [nth_eq] at hx
    have hlt : t < tmps.size := by rw [hf.1]; exact (List.getElem?_eq_some_iff.1 hx).1
    have := hf.2 t x tmps[t] hx (Array.getElem?_eq_getElem hlt)
    rw [Array.getD, dif_pos hlt]; exact this
  · exact .junk

omit [Gl] in
theorem opnd_sound {env : List AV} {a : Act} (hf : FR w F μ env a.tmps) (x : Operand) : VR w F μ (opnd env x) (a.eval x) := by
  cases x with
  | tmp t => exact getS_sound hf t
  | const v => exact ofV_sound v
  | global g => exact .junk
  | func f => exact .fn rfl rfl (fun i x v h => by simp at h) (fun i x v h => by simp at h)

omit [Gl] in
theorem FR.put {env : List AV} {a : Act} (hf : FR w F μ env a.tmps) {x : AV} {v : Value} (hv : VR w F μ x v) (d : Option Nat) : FR w F μ (putS env d x) (a.put d v).tmps := by
  cases d with
  | none => exact hf
  | some d =>
    refine ⟨by simp [Act.put, putS, setL_eq, hf.1], fun i y u hy hu => ?_⟩
    simp only [putS, setL_eq] at hy
    simp only [Act.put] at hu
    by_cases e : d = i
    · subst e
      have hlt : d < env.length := by
        have := (List.getElem?_eq_some_iff.1 hy).1
        simpa using this
      rw [List.getElem?_set_self hlt] at hy
      rw [Array.getElem?_setIfInBounds_self_of_lt (by rw [hf.1]; exact hlt)] at hu
      cases hy; cases hu; exact hv
    · rw [List.getElem?_set_ne e] at hy
      rw [Array.getElem?_setIfInBounds_ne e] at hu
      exact hf.2 i y u hy hu

/-- What an operation's run comes to. -/
def Done (P : Program) (s : Sem Value) (w : World) (F : Nat → Prop) (μ : Mu) (K : AV → List AO → Prop) : Prop :=
  ∃ v w' x μ' ob', s.run P w = .ok v w' ∧ VR w' F μ' x v ∧ St w' F μ' ob' ∧ Ext w μ w' μ' ∧ K x ob'

/-- The same in every world that has all that this one has, and it turns nothing. -/
def DoneQ (P : Program) (s : Sem Value) (w : World) (F : Nat → Prop) (μ : Mu) (ob : List AO) (K : AV → List AO → Prop) : Prop :=
  ∃ v x, (∀ w', Sup w w' → s.run P w' = .ok v w') ∧ VR w F μ x v ∧ K x ob
theorem DoneQ.done {s : Sem Value} {K : AV → List AO → Prop} (h : DoneQ P s w F μ ob K) (hs : St w F μ ob) : Done P s w F μ K := by
  obtain ⟨v, x, h1, h2, h3⟩ := h
  exact ⟨v, w, x, μ, ob, h1 w (.refl w), h2, hs, .refl w μ, h3⟩
omit [Gl] in
theorem DoneQ.q {s : Sem Value} {K : AV → List AO → Prop} {v : Value} {x : AV} (hr : ∀ w', Sup w w' → s.run P w' = .ok v w') (hv : VR w F μ x v) (hk : K x ob) : DoneQ P s w F μ ob K := ⟨v, x, hr, hv, hk⟩

theorem Done.here {s : Sem Value} {K : AV → List AO → Prop} {v : Value} {x : AV} (hs : St w F μ ob) (hr : s.run P w = .ok v w) (hv : VR w F μ x v) (hk : K x ob) : Done P s w F μ K :=
  ⟨v, w, x, μ, ob, hr, hv, hs, .refl w μ, hk⟩

omit [Gl] in
theorem cellsOf_sound {x : AV} {v : Value} {cs : List AV} (h : cellsOf x = some cs) (hv : VR w F μ x v) :
    v.cells.size = cs.length ∧ ∀ (i : Nat) y u, cs[i]? = some y → v.cells[i]? = some u → VR w F μ y u ∧ u.oneCell' = true := by
  have single : ∀ {x : AV} {v : Value}, VR w F μ x v → v.oneCell' = true → v.cells.size = [x].length ∧ ∀ (i : Nat) y u, [x][i]? = some y → v.cells[i]? = some u → VR w F μ y u ∧ u.oneCell' = true := by
    intro x v hv h1
    have hc : v.cells = #[v] := by cases v <;> first | rfl | cases h1
    rw [hc]
    refine ⟨rfl, fun i y u hy hu => ?_⟩
    cases i with
    | zero => simp at hy hu; subst hy; subst hu; exact ⟨hv, h1⟩
    | succ i => simp at hy
  cases hv with
  | agg h1 h2 h3 =>
    simp only [cellsOf] at h; cases h
    exact ⟨h1, fun i y u hy hu => ⟨h2 i y u hy hu, h3 i u hu⟩⟩
  | tup => cases h
  | junk => cases h
  | c h1 => simp only [cellsOf] at h; cases h; exact single (.c h1) h1.one
  | ref h1 => simp only [cellsOf] at h; cases h; exact single (.ref h1) rfl
  | refD h1 => simp only [cellsOf] at h; cases h; exact single (.refD h1) rfl
  | eref h1 => simp only [cellsOf] at h; cases h; exact single (.eref h1) rfl
  | erefD h1 => simp only [cellsOf] at h; cases h; exact single (.erefD h1) rfl
  | sl h1 h2 h3 => simp only [cellsOf] at h; cases h; exact single (.sl h1 h2 h3) rfl
  | slD h1 h2 h3 h4 => simp only [cellsOf] at h; cases h; exact single (.slD h1 h2 h3 h4) rfl
  | mp h1 => simp only [cellsOf] at h; cases h; exact single (.mp h1) rfl
  | mpD h1 h2 => simp only [cellsOf] at h; cases h; exact single (.mpD h1 h2) h2
  | fn h1 h2 h3 h4 => simp only [cellsOf] at h; cases h; exact single (.fn h1 h2 h3 h4) rfl
  | ifc h1 => simp only [cellsOf] at h; cases h; exact single (.ifc h1) rfl

/-- A piece of memory that reads as these cells. -/
def Reads (w : World) (F : Nat → Prop) (μ : Mu) (b off : Nat) (cs : List AV) : Prop :=
  ∀ (i : Nat) x, cs[i]? = some x → ∃ v, w.cell? ⟨b, off + i, none⟩ = some v ∧ VR w F μ x v ∧ v.oneCell' = true

omit [Gl] in
theorem run_isAgg {t : TypeId} {u : TypeDesc} (h : P.underlying t = some u) (w : World) : (isAgg t).run P w = .ok (aggOf u) w := by
  cases u <;> simp [isAgg, run_underlying h, aggOf]
omit [Gl] in
theorem run_sizeOf' {t : TypeId} {i : TypeInfo} (h : P.info? t = some i) (w : World) : (sizeOf t).run P w = .ok i.size w := by
  simp [sizeOf, typeInfo, h]

omit [Gl] in
theorem loadB_sound (hty : TyOk P δ) {t : Nat} {d : TD} (hd : δ t = some d) {cs : List AV} {b base off : Nat} (hr : Reads w F μ b base cs) {x : AV} (h : loadB cs off d = some x) :
    ∃ v, (∀ w', Sup w w' → (loadVar t ⟨b, base + off, none⟩).run P w' = .ok v w') ∧ VR w F μ x v := by
  obtain ⟨i, u, h1, h2, h3, h4, h5, h6, h7⟩ := (hty t d hd).ok
  unfold loadB at h
  unfold loadVar
  split at h
  · rename_i hag
    split at h
    · rename_i r hr'
      cases h
      obtain ⟨h8, h9⟩ := takeN_some hr'
      rw [dropL_eq] at h8 h9
      -- the cells' values
      have hval : ∀ j, j < d.size → ∃ v, w.cell? ⟨b, base + off + j, none⟩ = some v ∧ ∃ y, r[j]? = some y ∧ VR w F μ y v ∧ v.oneCell' = true := by
        intro j hj
        have hlen : off + j < cs.length := by simp at h8; omega
        obtain ⟨v, hv1, hv2, hv3⟩ := hr (off + j) cs[off + j] (List.getElem?_eq_getElem hlen)
        refine ⟨v, by rw [Nat.add_assoc]; exact hv1, cs[off + j], ?_, hv2, hv3⟩
        rw [h9, List.getElem?_take, if_pos hj, List.getElem?_drop, List.getElem?_eq_getElem hlen]
      let f : Nat → Value := fun j => ((w.cell? ⟨b, base + off + j, none⟩).getD undef)
      have hl := fun (w' : World) (hw : Sup w w') => run_loadCells (P := P) w' ⟨b, base + off, none⟩ d.size f (fun j hj => by
        obtain ⟨v, hv, _⟩ := hval j hj
        rw [Addr.add_lit, hw.cell hv]; simp [f, hv])
      refine ⟨.agg ((List.range d.size).map f).toArray, ?_, ?_⟩
      · intro w' hw
        simp only [Sem.run_bind, run_isAgg h2, Result.andThen_ok, ← h5, hag, if_true, run_sizeOf' h1, ← h3, hl w' hw, Sem.run_pure]
      · have hrl : r.length = d.size := by rw [h9, List.length_take, Nat.min_eq_left h8]
        refine .agg (by simp [hrl]) (fun j y v hy hv => ?_) (fun j v hv => ?_)
        · have hj : j < d.size := by have := (List.getElem?_eq_some_iff.1 hy).1; omega
          obtain ⟨v', hv', y', hy', hvr, _⟩ := hval j hj
          rw [hy] at hy'; cases hy'
          simp [hj, f, hv'] at hv
          subst hv; exact hvr
        · have hj : j < d.size := by
            have := (Array.getElem?_eq_some_iff.1 hv).1
            simpa using this
          obtain ⟨v', hv', y', hy', _, h1c⟩ := hval j hj
          simp [hj, f, hv'] at hv
          subst hv; exact h1c
    · cases h
  · rename_i hag
    rw [nth_eq] at h
    obtain ⟨v, hv1, hv2, _⟩ := hr off x h
    refine ⟨v, fun w' hw => ?_, hv2⟩
    simp only [Sem.run_bind, run_isAgg h2, Result.andThen_ok, ← h5, hag, Bool.false_eq_true, if_false, run_load, hw.cell hv1]

omit [Gl] in
theorem Reads.box {b : Nat} {cs : List AV} (h : OB w F μ b (.box cs)) : Reads w F μ b 0 cs := by
  cases h with
  | box blk e h1 h2 h3 =>
    intro i x hx
    have hlt : i < blk.size := by rw [h2]; exact (List.getElem?_eq_some_iff.1 hx).1
    refine ⟨blk[i], ?_, h3 i x _ hx (Array.getElem?_eq_getElem hlt)⟩
    rw [cell_of_row w b (0 + i) blk e (0, 0) h1, Nat.zero_add, Array.getElem?_eq_getElem hlt]
omit [Gl] in
theorem Reads.arr {b k : Nat} {es : Th (List (List AV))} {sz : Th Nat} (h : OB w F μ b (.arr k es sz)) {i : Nat} {e : List AV} (he : es.den[i]? = some e) : Reads w F μ b (i * k) e := by
  cases h with
  | arr blk ty h1 h2 h3 h4 h6 h5 =>
    intro j x hx
    have hk : e.length = k := h4 e (List.mem_of_getElem? he)
    have hi : i < es.den.length := (List.getElem?_eq_some_iff.1 he).1
    have hj : j < k := by rw [← hk]; exact (List.getElem?_eq_some_iff.1 hx).1
    have hlt : i * k + j < blk.size := by
      rw [h2]
      have : (i + 1) * k ≤ es.den.length * k := Nat.mul_le_mul_right _ hi
      rw [Nat.add_mul] at this; omega
    refine ⟨blk[i * k + j], ?_, h5 i j e x _ he hx (Array.getElem?_eq_getElem hlt)⟩
    rw [cell_of_row w b (i * k + j) blk ty (0, 0) h1, Array.getElem?_eq_getElem hlt]
omit [Gl] in
theorem Reads.vptr {b off : Nat} {cs : List T} (h : VT w (own F μ) (.vptr cs) (.pointer (some ⟨b, off, none⟩))) : Reads w F μ b off (mapL .c cs) := by
  cases h with
  | vptr c h1 h2 h3 h4 =>
    intro i x hx
    rw [mapL_eq, List.getElem?_map] at hx
    cases ht : cs[i]? with
    | none => rw [ht] at hx; cases hx
    | some t =>
      rw [ht] at hx
      simp at hx
      subst hx
      exact ⟨c i, h3 i t ht, .c (h4 i t ht), (h4 i t ht).one⟩

omit [Gl] in
theorem vptr_form {O : Nat → Prop} {cs : List T} {v : Value} (h : VT w O (.vptr cs) v) : ∃ b off, v = .pointer (some ⟨b, off, none⟩) := by
  cases h with | vptr c h1 h2 h3 h4 => exact ⟨_, _, rfl⟩

theorem aload_sound (hty : TyOk P δ) {t : Nat} {d : TD} (hd : δ t = some d) (hs : St w F μ ob) {x : AV} {v : Value} (hv : VR w F μ x v) {K : AV → List AO → Prop} (h : aload d x ob K) :
    DoneQ P (Instr.loadAt t v) w F μ ob K := by
  unfold aload at h
  split at h
  · rename_i o off
    split at h
    · rename_i cs hc
      split at h
      · rename_i y hy
        obtain ⟨b, hb, hob⟩ := hs.box hc (by simp)
        have hve := hv.refE hb
        obtain ⟨u, hu1, hu2⟩ := loadB_sound hty hd (Reads.box hob) hy
        rw [Nat.zero_add] at hu1
        exact .q (fun w' hw => by simp [Instr.loadAt, hve, Instr.sureAddr, hu1 w' hw]) hu2 h
      · exact h.elim
    · exact h.elim
  · rename_i o k i off
    split at h
    · rename_i k' es sz hc
      split at h
      · rename_i hk
        have hk' : k = k' := by simpa using hk
        subst hk'
        obtain ⟨e, _, he, h⟩ := nthT_iff h
        split at h
        · rename_i y hy
          obtain ⟨b, hb, hob⟩ := hs.box hc (fun h => by rw [h.1] at he; simp at he)
          have hve := hv.erefE hb
          simp at he
          obtain ⟨u, hu1, hu2⟩ := loadB_sound hty hd (Reads.arr hob he) hy
          exact .q (fun w' hw => by simp [Instr.loadAt, hve, Instr.sureAddr, hu1 w' hw]) hu2 h
        · exact h.elim
      · exact h.elim
    · exact h.elim
  · rename_i cs
    split at h
    · rename_i y hy
      cases hv with
      | c hv =>
        obtain ⟨b, off, rfl⟩ := vptr_form hv
        obtain ⟨u, hu1, hu2⟩ := loadB_sound hty hd (Reads.vptr hv) hy
        rw [Nat.add_zero] at hu1
        exact .q (fun w' hw => by simp [Instr.loadAt, Instr.sureAddr, hu1 w' hw]) hu2 h
    · exact h.elim
  · exact h.elim

end
end Go.Abs
