/- The abstract machine, part 21: regions whose order is drawn, with operations that turn something: each order of these is walked, the quiet ones are taken as soon as they can be. -/
import Derived.Test.YtchbobndobpocaaDoorA20
namespace Go.Abs
variable [Gl]

def ancOf (acc : List (List Nat)) : List Edge → List Nat
  | [] => []
  | e :: es => match Region.binds .any e with
    | true => e.on :: appL (match nth acc e.on with | some l => l | none => []) (ancOf acc es)
    | false => ancOf acc es
def ancsF : List Oper → List (List Nat) → List (List Nat)
  | [], acc => acc
  | o :: l, acc => ancsF l (appL acc [ancOf acc o.after.toList])
def ancI (anc : List (List Nat)) (i : Nat) : List Nat := match nth anc i with | some l => l | none => []
def effIx : Nat → List Oper → List Nat
  | _, [] => []
  | i, o :: l => match quietOp o.op with | true => effIx (i + 1) l | false => i :: effIx (i + 1) l
def subN : List Nat → List Nat → Bool
  | [], _ => true
  | a :: l, k => match memN k a with | true => subN l k | false => false
def andN : List Nat → List Nat → List Nat
  | [], _ => []
  | a :: l, k => match memN k a with | true => a :: andN l k | false => andN l k
def idxd : Nat → List Oper → List (Nat × Oper)
  | _, [] => []
  | i, o :: l => (i, o) :: idxd (i + 1) l
abbrev Det := List (Nat × List Nat)
def memD : Det → Nat → Bool
  | [], _ => false
  | (a, _) :: l, n => match a == n with | true => true | false => memD l n

/-- Which effects were carried out ahead of it for sure. -/
def rdyB (anc : List (List Nat)) (effs done : List Nat) (i : Nat) : Bool := subN (andN (ancI anc i) effs) done

/-- A bool that a guard looks at is known from here on. -/
def splitK (all : List Oper) (o : Oper) (x : AV) (C : AV → Prop) : Prop :=
  match x, o.dst with
  | .c (.bool (.th f)), some d => match guards all d all with
    | true => brT (.th f) (fun _ => C (AB (.lit true))) (fun _ => C (AB (.lit false)))
    | false => C (AB (.th f))
  | x, _ => C x

structure AgrS (ps : List Nat) (ob ob' : List AO) (B : Unit → Prop) : Prop where
  mk ::
  a : Agr ps ob ob'
  b : B ()
def agrK (ps : List Nat) (ob ob' : List AO) (B : Unit → Prop) : Prop := match ps with | [] => B () | p :: ps => AgrS (p :: ps) ob ob' B
/-- Both. (A structure: evaluation stops there.) -/
structure AndS (A B : Unit → Prop) : Prop where
  mk ::
  l : A ()
  r : B ()

section
variable (P : Program) (δ : Nat → Option TD) (all : List Oper) (anc : List (List Nat)) (effs : List Nat)

def dxq (done : List Nat) (ob : List AO) : List (Nat × Oper) → Det → List AV → (Det → List AV → Prop) → Prop
  | [], D, env, K => K D env
  | (i, o) :: rest, D, env, K => match memD D i || memN effs i || !(rdyB anc effs done i) with
    | true => dxq done ob rest D env K
    | false => match goes (guardV all (maskE (looks all o) 0 env) o.guard) with
      | some true => DOp P δ o.op (maskE (looks all o) 0 env) ob fun x => splitK all o x fun x => dxq done ob rest ((i, touchQ o.op (maskE (looks all o) 0 env)) :: D) (putS env o.dst x) K
      | some false => dxq done ob rest ((i, []) :: D) (putS env o.dst AUnit) K
      | none => False

def needsD (e : Nat) : Det → List Nat
  | [] => []
  | (q, t) :: D => match memN (ancI anc e) q with | true => needsD e D | false => appL t (needsD e D)
def cands (done : List Nat) : List Nat → List Nat
  | [] => []
  | e :: es => match memN done e || !(rdyB anc effs done e) with | true => cands done es | false => e :: cands done es
def branchE (rec : List Nat → Det → List AV → List AO → Prop) (done : List Nat) (D : Det) (env : List AV) (ob : List AO) (e : Nat) : Prop :=
  match nth all e with
  | some o => match goes (guardV all (maskE (looks all o) 0 env) o.guard) with
    | some true => aop P δ o.op (maskE (looks all o) 0 env) ob fun x ob' => splitK all o x fun x => agrK (needsD anc e D) ob ob' fun _ => rec (e :: done) D (putS env o.dst x) ob'
    | some false => rec (e :: done) D (putS env o.dst AUnit) ob
    | none => False
  | none => False
def branches (f : Nat → Prop) : List Nat → Prop
  | [] => False
  | [e] => f e
  | e :: e' :: es => AndS (fun _ => f e) (fun _ => branches f (e' :: es))
def dxp (rec : List Nat → Det → List AV → List AO → Prop) (done : List Nat) (D : Det) (env : List AV) (ob : List AO) (Q : List AV → List AO → Prop) : Prop :=
  match subN effs done with
  | true => Q env ob
  | false => branches (branchE P δ all anc rec done D env ob) (cands anc effs done effs)
def dx : Nat → List Nat → Det → List AV → List AO → (List AV → List AO → Prop) → Prop
  | 0, _, _, _, _, _ => False
  | n + 1, done, D, env, ob, Q => dxq P δ all anc effs done ob (idxd 0 all) D env fun D env => dxp P δ all anc effs (fun done D env ob => dx n done D env ob Q) done D env ob Q
end

omit [Gl] in
theorem subN_iff {l k : List Nat} : subN l k = true ↔ ∀ x ∈ l, x ∈ k := by
  induction l with
  | nil => simp [subN]
  | cons a l ih =>
    simp only [subN]
    cases h : memN k a with
    | true => simp [ih, memN_iff.1 h]
    | false =>
      simp
      intro h'
      rw [memN_iff.2 h'] at h; cases h
omit [Gl] in
theorem andN_iff {l k : List Nat} {x : Nat} : x ∈ andN l k ↔ x ∈ l ∧ x ∈ k := by
  induction l with
  | nil => simp [andN]
  | cons a l ih =>
    simp only [andN]
    cases h : memN k a with
    | true =>
      have := memN_iff.1 h
      simp only [List.mem_cons, ih]
      constructor
      · rintro (rfl | ⟨h1, h2⟩)
        · exact ⟨.inl rfl, this⟩
        · exact ⟨.inr h1, h2⟩
      · rintro ⟨rfl | h1, h2⟩
        · exact .inl rfl
        · exact .inr ⟨h1, h2⟩
    | false =>
      rw [ih]
      constructor
      · rintro ⟨h1, h2⟩; exact ⟨List.mem_cons_of_mem _ h1, h2⟩
      · rintro ⟨h1, h2⟩
        rcases List.mem_cons.1 h1 with rfl | h1
        · rw [memN_iff.2 h2] at h; cases h
        · exact ⟨h1, h2⟩
omit [Gl] in
theorem rdyB_iff {anc : List (List Nat)} {effs done : List Nat} {i : Nat} : rdyB anc effs done i = true ↔ ∀ x ∈ ancI anc i, x ∈ effs → x ∈ done := by
  unfold rdyB
  rw [subN_iff]
  exact ⟨fun h x h1 h2 => h x (andN_iff.2 ⟨h1, h2⟩), fun h x hx => h x (andN_iff.1 hx).1 (andN_iff.1 hx).2⟩
omit [Gl] in
theorem memD_cons {D : Det} {q n : Nat} {t : List Nat} : memD ((q, t) :: D) n = true ↔ q = n ∨ memD D n = true := by
  simp only [memD]
  split
  · rename_i h; simp [show q = n by simpa using h]
  · rename_i h; simp [show ¬ q = n by simpa using h]
omit [Gl] in
theorem memD_iff {D : Det} {n : Nat} : memD D n = true ↔ ∃ t, (n, t) ∈ D := by
  induction D with
  | nil => simp [memD]
  | cons a D ih =>
    obtain ⟨q, t⟩ := a
    rw [memD_cons, ih]
    constructor
    · rintro (rfl | ⟨t', h⟩)
      · exact ⟨t, List.mem_cons_self⟩
      · exact ⟨t', List.mem_cons_of_mem _ h⟩
    · rintro ⟨t', h⟩
      rcases List.mem_cons.1 h with h | h
      · cases h; exact .inl rfl
      · exact .inr ⟨t', h⟩
omit [Gl] in
theorem idxd_get : ∀ (l : List Oper) (k j : Nat), (idxd k l)[j]? = (l[j]?).map fun o => (k + j, o)
  | [], k, j => by simp [idxd]
  | o :: l, k, 0 => by simp [idxd]
  | o :: l, k, j + 1 => by simp [idxd, idxd_get l (k + 1) j]; cases l[j]? <;> simp <;> omega
omit [Gl] in
theorem effIx_mem : ∀ (l : List Oper) (k i : Nat), i ∈ effIx k l ↔ ∃ j o, l[j]? = some o ∧ i = k + j ∧ quietOp o.op = false
  | [], k, i => by simp [effIx]
  | o :: l, k, i => by
    have ih := effIx_mem l (k + 1) i
    simp only [effIx]
    have key : (∃ j o', (o :: l)[j]? = some o' ∧ i = k + j ∧ quietOp o'.op = false) ↔ (i = k ∧ quietOp o.op = false) ∨ ∃ j o', l[j]? = some o' ∧ i = k + 1 + j ∧ quietOp o'.op = false := by
      constructor
      · rintro ⟨j, o', h1, h2, h3⟩
        cases j with
        | zero => simp at h1; subst h1; exact .inl ⟨by omega, h3⟩
        | succ j => exact .inr ⟨j, o', by simpa using h1, by omega, h3⟩
      · rintro (⟨h1, h2⟩ | ⟨j, o', h1, h2, h3⟩)
        · exact ⟨0, o, rfl, by omega, h2⟩
        · exact ⟨j + 1, o', by simpa using h1, by omega, h3⟩
    rw [key, ← ih]
    cases h : quietOp o.op with
    | true => simp
    | false => simp

omit [Gl] in
/-- What is known of the ancestors. -/
theorem ancsF_spec (ops : List Oper) : ∀ (l : List Oper) (acc : List (List Nat)) (pre : List Oper), ops = pre ++ l → acc.length = pre.length → (∀ (i : Nat) o, pre[i]? = some o → acc[i]? = some (ancOf (acc.take i) o.after.toList)) →
    (ancsF l acc).length = ops.length ∧ ∀ (i : Nat) o, ops[i]? = some o → (ancsF l acc)[i]? = some (ancOf ((ancsF l acc).take i) o.after.toList)
  | [], acc, pre, h, hl, hp => by
    simp only [List.append_nil] at h
    subst h
    exact ⟨hl, hp⟩
  | o :: l, acc, pre, h, hl, hp => by
    simp only [ancsF, appL_eq]
    refine ancsF_spec ops l (acc ++ [ancOf acc o.after.toList]) (pre ++ [o]) (by rw [h]; simp) (by simp [hl]) fun i o' ho => ?_
    rcases Nat.lt_or_ge i pre.length with hi | hi
    · rw [List.getElem?_append_left hi] at ho
      rw [List.getElem?_append_left (by omega), List.take_append_of_le_length (by omega)]
      exact hp i o' ho
    · rw [List.getElem?_append_right hi] at ho
      have : i = pre.length := by
        have := (List.getElem?_eq_some_iff.1 ho).1; simp at this; omega
      subst this
      simp at ho
      subst ho
      rw [List.getElem?_append_right (by omega), hl, Nat.sub_self, ← hl, List.take_append_of_le_length (Nat.le_refl _), List.take_length]
      rfl

omit [Gl] in
theorem ancOf_mem {acc : List (List Nat)} : ∀ {es : List Edge} {j : Nat}, j ∈ ancOf acc es ↔ ∃ e ∈ es, Region.binds .any e = true ∧ (j = e.on ∨ ∃ l, acc[e.on]? = some l ∧ j ∈ l)
  | [], j => by simp [ancOf]
  | e :: es, j => by
    simp only [ancOf]
    cases h : Region.binds .any e with
    | true =>
      simp only [appL_eq, List.mem_cons, List.mem_append, ancOf_mem (es := es), nth_eq]
      constructor
      · rintro (rfl | h1 | ⟨e', h1, h2⟩)
        · exact ⟨e, .inl rfl, h, .inl rfl⟩
        · refine ⟨e, .inl rfl, h, .inr ?_⟩
          cases ha : acc[e.on]? with
          | none => rw [ha] at h1; simp at h1
          | some l => rw [ha] at h1; exact ⟨l, rfl, h1⟩
        · exact ⟨e', .inr h1, h2⟩
      · rintro ⟨e', rfl | h1, h2, h3⟩
        · rcases h3 with rfl | ⟨l, h4, h5⟩
          · exact .inl rfl
          · right; left; rw [h4]; exact h5
        · exact .inr (.inr ⟨e', h1, h2, h3⟩)
    | false =>
      rw [ancOf_mem (es := es)]
      constructor
      · rintro ⟨e', h1, h2⟩; exact ⟨e', List.mem_cons_of_mem _ h1, h2⟩
      · rintro ⟨e', h1, h2, h3⟩
        rcases List.mem_cons.1 h1 with rfl | h1
        · rw [h] at h2; cases h2
        · exact ⟨e', h1, h2, h3⟩

section
variable {P : Program} {δ : Nat → Option TD} {ops : Array Oper} {F : Nat → Prop}

omit [Gl] in
theorem anc_direct {i : Nat} {oi : Oper} (hi : ops[i]? = some oi) {e : Edge} (he : e ∈ oi.after) (hb : Region.binds .any e = true) : e.on ∈ ancI (ancsF ops.toList []) i := by
  obtain ⟨_, h2⟩ := ancsF_spec ops.toList ops.toList [] [] rfl rfl (fun i o h => by simp at h)
  have := h2 i oi (by simpa using hi)
  unfold ancI
  rw [nth_eq, this]
  exact ancOf_mem.2 ⟨e, by simpa using he, hb, .inl rfl⟩
omit [Gl] in
theorem anc_trans {i : Nat} {oi : Oper} (hi : ops[i]? = some oi) {e : Edge} (he : e ∈ oi.after) (hb : Region.binds .any e = true) (hlt : e.on < i) {j : Nat} (hj : j ∈ ancI (ancsF ops.toList []) e.on) : j ∈ ancI (ancsF ops.toList []) i := by
  obtain ⟨_, h2⟩ := ancsF_spec ops.toList ops.toList [] [] rfl rfl (fun i o h => by simp at h)
  have := h2 i oi (by simpa using hi)
  unfold ancI at hj ⊢
  rw [nth_eq] at hj ⊢
  rw [this]
  cases ha : (ancsF ops.toList [])[e.on]? with
  | none => rw [ha] at hj; cases hj
  | some l =>
    rw [ha] at hj
    exact ancOf_mem.2 ⟨e, by simpa using he, hb, .inr ⟨l, by rw [List.getElem?_take, if_pos hlt]; exact ha, hj⟩⟩

/-- Closed downwards. -/
def Shut (ops : Array Oper) (listed : Array Bool) : Prop := ∀ i oi, ops[i]? = some oi → listed.getD i false = true → ∀ e ∈ oi.after, Region.binds .any e = true → listed.getD e.on false = true

omit [Gl] in
theorem anc_listed {listed : Array Bool} (hs : Shut ops listed) : ∀ (i : Nat) (oi : Oper), ops[i]? = some oi → (∀ e ∈ oi.after, Region.binds .any e = true → listed.getD e.on false = true) → ∀ j ∈ ancI (ancsF ops.toList []) i, listed.getD j false = true := by
  intro i
  induction i using Nat.strongRecOn with
  | _ i ih =>
    intro oi hi hd j hj
    obtain ⟨h1, h2⟩ := ancsF_spec ops.toList ops.toList [] [] rfl rfl (fun i o h => by simp at h)
    have h3 := h2 i oi (by simpa using hi)
    unfold ancI at hj
    rw [nth_eq, h3] at hj
    obtain ⟨e, he, hb, rfl | ⟨l, hl, hj⟩⟩ := ancOf_mem.1 hj
    · exact hd e (by simpa using he) hb
    · rw [List.getElem?_take] at hl
      split at hl
      · rename_i hlt
        have hle := hd e (by simpa using he) hb
        have hlt' : e.on < ops.size := by
          have := (Array.getElem?_eq_some_iff.1 hi).1; omega
        refine ih e.on hlt _ (Array.getElem?_eq_getElem hlt') (hs e.on _ (Array.getElem?_eq_getElem hlt') hle) j ?_
        unfold ancI
        rw [nth_eq, hl]; exact hj
      · cases hl

/-- A quiet operation that is known to yield x, whenever it is carried out. -/
def YQ (P : Program) (δ : Nat → Option TD) (ops : Array Oper) (o : Oper) (x : AV) (e : List AV) (t : List Nat) (ob : List AO) : Prop :=
  (goes (guardV ops.toList (maskE (looks ops.toList o) 0 e) o.guard) = some true ∧ quietOp o.op = true ∧ t = touchQ o.op (maskE (looks ops.toList o) 0 e) ∧
    ∃ x0, (∀ J : AV → List AO → Prop, J x0 ob → aop P δ o.op (maskE (looks ops.toList o) 0 e) ob J) ∧ (∀ w F μ v, VR w F μ x0 v → VR w F μ x v)) ∨
  (goes (guardV ops.toList (maskE (looks ops.toList o) 0 e) o.guard) = some false ∧ x = AUnit)

/-- What such a region's run knows, whatever was carried out. -/
structure InvE (P : Program) (δ : Nat → Option TD) (ops : Array Oper) (F : Nat → Prop) (env0 : List AV) (ds : List Deferred) (w0 : World) (μ0 : Mu) (done : List Nat) (D : Det) (dt : Nat → Option AV) (env : List AV) (ob : List AO) (μ : Mu) (listed : Array Bool) (a : Act) (w : World) : Prop where
  size : listed.size = ops.size
  tmps : a.tmps.size = env0.length
  elen : env.length = env0.length
  ds : a.defers = ds
  st : St w F μ ob
  ext : Ext w0 μ0 w μ
  shut : Shut ops listed
  effl : ∀ e, memN (effIx 0 ops.toList) e = true → (listed.getD e false = true ↔ e ∈ done)
  doneE : ∀ e ∈ done, memN (effIx 0 ops.toList) e = true
  listedD : ∀ i oi, ops[i]? = some oi → memN (effIx 0 ops.toList) i = false → listed.getD i false = true → memD D i = true
  rdyD : ∀ q, memD D q = true → memN (effIx 0 ops.toList) q = false ∧ rdyB (ancsF ops.toList []) (effIx 0 ops.toList) done q = true
  closed : ∀ q oq, memD D q = true → ops[q]? = some oq → ∀ e ∈ oq.after, Region.binds .any e = true → memN (effIx 0 ops.toList) e.on = false → memD D e.on = true
  slot1 : ∀ t v j oj x, a.tmps[t]? = some v → ops[j]? = some oj → oj.dst = some t → listed.getD j false = true → dt j = some x → VR w F μ x v
  slot0 : ∀ t v, a.tmps[t]? = some v → (∀ j oj, ops[j]? = some oj → oj.dst = some t → listed.getD j false = false) → ∀ x, env0[t]? = some x → VR w F μ x v
  envP : ∀ t x, env[t]? = some x → (∃ j oj, ops[j]? = some oj ∧ oj.dst = some t ∧ (memD D j = true ∨ j ∈ done) ∧ dt j = some x) ∨ ((∀ j oj, ops[j]? = some oj → oj.dst = some t → memD D j = false ∧ j ∉ done) ∧ env0[t]? = some x)
  dtD : ∀ q, memD D q = true → ∃ x, dt q = some x
  dtE : ∀ q ∈ done, ∃ x, dt q = some x
  pend : ∀ q t, (q, t) ∈ D → listed.getD q false = false → ∃ oq x e, ops[q]? = some oq ∧ dt q = some x ∧ e.length = env0.length ∧ YQ P δ ops oq x e t ob ∧
    ∀ s y, e[s]? = some y → memN (looks ops.toList oq) s = true → (∃ j oj, ops[j]? = some oj ∧ oj.dst = some s ∧ (∃ e' ∈ oq.after, Region.binds .any e' = true ∧ e'.on = j) ∧ dt j = some y) ∨
      ((∀ j oj, ops[j]? = some oj → oj.dst = some s → j = q ∨ ∃ e' ∈ oj.after, Region.binds .any e' = true ∧ e'.on = q) ∧ env0[s]? = some y)

variable {env0 : List AV} {ds : List Deferred} {w0 : World} {μ0 : Mu} {done : List Nat} {D : Det} {dt : Nat → Option AV} {env : List AV} {ob : List AO} {μ : Mu} {listed : Array Bool} {a : Act} {w : World}

def upd (dt : Nat → Option AV) (i : Nat) (x : AV) : Nat → Option AV := fun j => if j = i then some x else dt j
omit [Gl] in
theorem upd_same {i : Nat} {x : AV} : upd dt i x i = some x := by simp [upd]
omit [Gl] in
theorem upd_ne {i j : Nat} {x : AV} (h : j ≠ i) : upd dt i x j = dt j := by simp [upd, h]

omit [Gl] in
theorem putS_get {env : List AV} {d : Option Nat} {x y : AV} {t : Nat} (h : (putS env d x)[t]? = some y) : (d = some t ∧ y = x) ∨ (d ≠ some t ∧ env[t]? = some y) := by
  cases d with
  | none => exact .inr ⟨by simp, h⟩
  | some d =>
    simp only [putS, setL_eq] at h
    by_cases e : d = t
    · subst e
      have hl : d < env.length := by
        have := (List.getElem?_eq_some_iff.1 h).1; simpa using this
      rw [List.getElem?_set_self hl] at h
      exact .inl ⟨rfl, (Option.some.inj h).symm⟩
    · rw [List.getElem?_set_ne e] at h
      exact .inr ⟨by simpa using e, h⟩
omit [Gl] in
theorem putS_len {env : List AV} {d : Option Nat} {x : AV} : (putS env d x).length = env.length := by cases d <;> simp [putS, setL_eq]

omit [Gl] in
theorem rdy_up {i : Nat} {oi : Oper} (hi : ops[i]? = some oi) {e : Edge} (he : e ∈ oi.after) (hb : Region.binds .any e = true) (hlt : e.on < i) {effs : List Nat} (h : rdyB (ancsF ops.toList []) effs done i = true) : rdyB (ancsF ops.toList []) effs done e.on = true :=
  rdyB_iff.2 fun x h1 h2 => rdyB_iff.1 h x (anc_trans hi he hb hlt h1) h2

/-- One more is known. -/
theorem InvE.det (hB : drawOk ops.toList = true) (I : InvE P δ ops F env0 ds w0 μ0 done D dt env ob μ listed a w) {i : Nat} {o : Oper} (hi : ops[i]? = some o) (h1 : memD D i = false) (h2 : memN (effIx 0 ops.toList) i = false) (h3 : rdyB (ancsF ops.toList []) (effIx 0 ops.toList) done i = true)
    (hp : ∀ j oj, j < i → ops[j]? = some oj → memN (effIx 0 ops.toList) j = false → rdyB (ancsF ops.toList []) (effIx 0 ops.toList) done j = true → memD D j = true) {x : AV} {t : List Nat} (hy : YQ P δ ops o x env t ob) :
    InvE P δ ops F env0 ds w0 μ0 done ((i, t) :: D) (upd dt i x) (putS env o.dst x) ob μ listed a w := by
  have hnl : listed.getD i false = false := by
    cases hl : listed.getD i false with
    | false => rfl
    | true => rw [I.listedD i o hi h2 hl] at h1; cases h1
  have hD : ∀ j, memD D j = true → j ≠ i := fun j h e => by subst e; rw [h1] at h; cases h
  have hE : ∀ j, j ∈ done → j ≠ i := fun j h e => by subst e; rw [I.doneE j h] at h2; cases h2
  obtain ⟨ok1, ok2⟩ := drawOk_spec hB hi
  refine { size := I.size, tmps := I.tmps, elen := by rw [putS_len]; exact I.elen, ds := I.ds, st := I.st, ext := I.ext, shut := I.shut, effl := I.effl, doneE := I.doneE, listedD := fun j oj hj h4 h5 => memD_cons.2 (.inr (I.listedD j oj hj h4 h5)), rdyD := ?_, closed := ?_, slot1 := ?_, slot0 := I.slot0, envP := ?_, dtD := ?_, dtE := fun q hq => by rw [upd_ne (hE q hq)]; exact I.dtE q hq, pend := ?_ }
  · intro q hq
    rcases memD_cons.1 hq with rfl | hq
    · exact ⟨h2, h3⟩
    · exact I.rdyD q hq
  · intro q oq hq hoq e he hb hqe
    rcases memD_cons.1 hq with rfl | hq
    · rw [hi] at hoq; cases hoq
      have hlt := ok1 e he hb
      have hlt' : e.on < ops.size := by have := (Array.getElem?_eq_some_iff.1 hi).1; omega
      exact memD_cons.2 (.inr (hp e.on _ hlt (Array.getElem?_eq_getElem hlt') hqe (rdy_up hi he hb hlt h3)))
    · exact memD_cons.2 (.inr (I.closed q oq hq hoq e he hb hqe))
  · intro s v j oj y hv hj hd hl hdt
    have hne : j ≠ i := fun e => by subst e; rw [hnl] at hl; cases hl
    rw [upd_ne hne] at hdt
    exact I.slot1 s v j oj y hv hj hd hl hdt
  · intro s y hs
    rcases putS_get hs with ⟨g1, g2⟩ | ⟨g1, g2⟩
    · subst g2
      exact .inl ⟨i, o, hi, g1, .inl (memD_cons.2 (.inl rfl)), upd_same⟩
    · rcases I.envP s y g2 with ⟨j, oj, a1, a2, a3, a4⟩ | ⟨a1, a2⟩
      · have hne : j ≠ i := by rcases a3 with a3 | a3; exact hD j a3; exact hE j a3
        exact .inl ⟨j, oj, a1, a2, a3.imp (fun h => memD_cons.2 (.inr h)) id, by rw [upd_ne hne]; exact a4⟩
      · refine .inr ⟨fun j oj hj hd => ?_, a2⟩
        obtain ⟨b1, b2⟩ := a1 j oj hj hd
        refine ⟨?_, b2⟩
        cases hm : memD ((i, t) :: D) j with
        | false => rfl
        | true =>
          rcases memD_cons.1 hm with rfl | hm
          · rw [hi] at hj; cases hj; exact (g1 hd).elim
          · rw [b1] at hm; cases hm
  · intro q hq
    rcases memD_cons.1 hq with rfl | hq
    · exact ⟨x, upd_same⟩
    · rw [upd_ne (hD q hq)]; exact I.dtD q hq
  · intro q s hq hl
    rcases List.mem_cons.1 hq with hq | hq
    · cases hq
      refine ⟨o, x, env, hi, upd_same, I.elen, hy, fun s y hs hm => ?_⟩
      rcases I.envP s y hs with ⟨j, oj, a1, a2, a3, a4⟩ | ⟨a1, a2⟩
      · have hne : j ≠ i := by rcases a3 with a3 | a3; exact hD j a3; exact hE j a3
        rcases (ok2 j oj a1 hne s a2).2 hm with ⟨e, b1, b2, b3⟩ | ⟨e, b1, b2, b3⟩
        · exact .inl ⟨j, oj, a1, a2, ⟨e, b1, b2, b3⟩, by rw [upd_ne hne]; exact a4⟩
        · exfalso
          rcases a3 with a3 | a3
          · have := I.closed j oj a3 a1 e b1 b2 (by rw [b3]; exact h2)
            rw [b3, h1] at this; cases this
          · have := I.shut j oj a1 ((I.effl j (I.doneE j a3)).2 a3) e b1 b2
            rw [b3, hnl] at this; cases this
      · refine .inr ⟨fun j oj hj hd => ?_, a2⟩
        by_cases hne : j = i
        · exact .inl hne
        · right
          rcases (ok2 j oj hj hne s hd).2 hm with ⟨e, b1, b2, b3⟩ | ⟨e, b1, b2, b3⟩
          · exfalso
            obtain ⟨c1, c2⟩ := a1 j oj hj hd
            have hlt := ok1 e b1 b2
            cases hme : memN (effIx 0 ops.toList) j with
            | true => exact c2 (rdyB_iff.1 h3 j (by rw [← b3]; exact anc_direct hi b1 b2) (memN_iff.1 hme))
            | false =>
              have := hp j oj (by omega) hj hme (by rw [← b3]; exact rdy_up hi b1 b2 hlt h3)
              rw [c1] at this; cases this
          · exact ⟨e, b1, b2, b3⟩
    · obtain ⟨oq, x', e, c1, c2, c3, c4, c5⟩ := I.pend q s hq hl
      have hqD : memD D q = true := memD_iff.2 ⟨s, hq⟩
      refine ⟨oq, x', e, c1, by rw [upd_ne (hD q hqD)]; exact c2, c3, c4, fun s' y hs hm => ?_⟩
      rcases c5 s' y hs hm with ⟨j, oj, b1, b2, ⟨e', b3, b4, b5⟩, b6⟩ | h
      · have hne : j ≠ i := fun e0 => by
          subst e0
          have := I.closed q oq hqD c1 e' b3 b4 (by rw [b5]; exact h2)
          rw [b5, h1] at this; cases this
        exact .inl ⟨j, oj, b1, b2, ⟨e', b3, b4, b5⟩, by rw [upd_ne hne]; exact b6⟩
      · exact .inr h

omit [Gl] in
/-- What splitK says. -/
theorem splitK_iff {all : List Oper} {o : Oper} {x : AV} {C : AV → Prop} (h : splitK all o x C) : ∃ x', C x' ∧ ∀ (w : World) (F : Nat → Prop) (μ : Mu) v, VR w F μ x v → VR w F μ x' v := by
  unfold splitK at h
  split at h
  · rename_i f d hd
    split at h
    · obtain ⟨k1, k2⟩ := brT_iff h
      cases hb : (Th.th f).den with
      | true => exact ⟨_, k1 hb, fun w F μ v hv => by cases hv with | c hv => cases hv; rw [hb]; exact VR.b (.lit true)⟩
      | false => exact ⟨_, k2 hb, fun w F μ v hv => by cases hv with | c hv => cases hv; rw [hb]; exact VR.b (.lit false)⟩
    · exact ⟨_, h, fun _ _ _ _ hv => hv⟩
  · exact ⟨_, h, fun _ _ _ _ hv => hv⟩

/-- All that can be known is known. -/
def Compl (ops : Array Oper) (done : List Nat) (D : Det) : Prop := ∀ j oj, ops[j]? = some oj → memN (effIx 0 ops.toList) j = false → rdyB (ancsF ops.toList []) (effIx 0 ops.toList) done j = true → memD D j = true

omit [Gl] in
theorem quiet_of {i : Nat} {o : Oper} (hi : ops[i]? = some o) (h : memN (effIx 0 ops.toList) i = false) : quietOp o.op = true := by
  cases hq : quietOp o.op with
  | true => rfl
  | false =>
    have := (effIx_mem ops.toList 0 i).2 ⟨i, o, by simpa using hi, by omega, hq⟩
    rw [memN_iff.2 this] at h; cases h

theorem pass (hB : drawOk ops.toList = true) {K : Det → List AV → Prop} : ∀ (rest : List (Nat × Oper)) (k : Nat) (D : Det) (dt : Nat → Option AV) (env : List AV), rest = (idxd 0 ops.toList).drop k → InvE P δ ops F env0 ds w0 μ0 done D dt env ob μ listed a w →
    (∀ j oj, j < k → ops[j]? = some oj → memN (effIx 0 ops.toList) j = false → rdyB (ancsF ops.toList []) (effIx 0 ops.toList) done j = true → memD D j = true) →
    dxq P δ ops.toList (ancsF ops.toList []) (effIx 0 ops.toList) done ob rest D env K → ∃ D' dt' env', InvE P δ ops F env0 ds w0 μ0 done D' dt' env' ob μ listed a w ∧ Compl ops done D' ∧ K D' env'
  | [], k, D, dt, env, hr, I, hp, h => by
    refine ⟨D, dt, env, I, fun j oj hj h1 h2 => hp j oj ?_ hj h1 h2, h⟩
    have hl : ((idxd 0 ops.toList).drop k).length = 0 := by rw [← hr]; rfl
    have hlen : ∀ (l : List Oper) (m : Nat), (idxd m l).length = l.length := fun l => by
      induction l with
      | nil => intro m; rfl
      | cons o l ih => intro m; simp [idxd, ih]
    rw [List.length_drop, hlen] at hl
    have := (Array.getElem?_eq_some_iff.1 hj).1
    simp at hl; omega
  | (i, o) :: rest, k, D, dt, env, hr, I, hp, h => by
    have h0 : (idxd 0 ops.toList)[k]? = some (i, o) := by
      have := congrArg (fun l => l[0]?) hr
      simp only [List.getElem?_cons_zero, List.getElem?_drop, Nat.add_zero] at this
      exact this.symm
    rw [idxd_get] at h0
    obtain ⟨o', ho', he⟩ := Option.map_eq_some_iff.1 h0
    simp only [Nat.zero_add, Prod.mk.injEq] at he
    obtain ⟨rfl, rfl⟩ := he
    have hi : ops[k]? = some o' := by simpa using ho'
    have hr' : rest = (idxd 0 ops.toList).drop (k + 1) := by
      rw [← List.drop_drop, ← hr]; rfl
    simp only [dxq] at h
    split at h
    · rename_i hc
      refine pass hB rest (k + 1) D dt env hr' I (fun j oj hj hoj h1 h2 => ?_) h
      rcases Nat.lt_or_ge j k with hlt | hge
      · exact hp j oj hlt hoj h1 h2
      · have : j = k := by omega
        subst this
        rw [h1, h2] at hc
        simpa using hc
    · rename_i hc
      simp only [Bool.or_eq_false_iff, Bool.not_eq_false'] at hc
      obtain ⟨⟨g1, g2⟩, g3⟩ := hc
      have next : ∀ (x : AV) (t : List Nat), YQ P δ ops o' x env t ob → dxq P δ ops.toList (ancsF ops.toList []) (effIx 0 ops.toList) done ob rest ((k, t) :: D) (putS env o'.dst x) K → ∃ D' dt' env', InvE P δ ops F env0 ds w0 μ0 done D' dt' env' ob μ listed a w ∧ Compl ops done D' ∧ K D' env' := by
        intro x t hy h
        refine pass hB rest (k + 1) _ _ _ hr' (I.det hB hi g1 g2 g3 hp hy) (fun j oj hj hoj h1 h2 => ?_) h
        rcases Nat.lt_or_ge j k with hlt | hge
        · exact memD_cons.2 (.inr (hp j oj hlt hoj h1 h2))
        · exact memD_cons.2 (.inl (by omega))
      split at h
      · rename_i hg
        obtain ⟨x0, x1, k1, k2, k3⟩ := h.out
        obtain ⟨x2, k4, k5⟩ := splitK_iff k3
        exact next x2 _ (.inl ⟨hg, quiet_of hi g2, rfl, x0, k1, fun w F μ v hv => k5 _ _ _ _ (k2 _ _ _ _ hv)⟩) k4
      · rename_i hg
        exact next AUnit [] (.inr ⟨hg, rfl⟩) h
      · exact h.elim

theorem FR.of_slots (I : InvE P δ ops F env0 ds w0 μ0 done D dt env ob μ listed a w) {i : Nat} {oi : Oper} (hi : ops[i]? = some oi) {e : List AV} (hel : e.length = env0.length) (hl : listed.getD i false = false)
    (haf : ∀ e' ∈ oi.after, Region.binds .any e' = true → listed.getD e'.on false = true)
    (hs : ∀ s y, e[s]? = some y → memN (looks ops.toList oi) s = true → (∃ j oj, ops[j]? = some oj ∧ oj.dst = some s ∧ (∃ e' ∈ oi.after, Region.binds .any e' = true ∧ e'.on = j) ∧ dt j = some y) ∨
      ((∀ j oj, ops[j]? = some oj → oj.dst = some s → j = i ∨ ∃ e' ∈ oj.after, Region.binds .any e' = true ∧ e'.on = i) ∧ env0[s]? = some y)) : FR w F μ (maskE (looks ops.toList oi) 0 e) a.tmps := by
  refine ⟨by rw [maskE_len, hel]; exact I.tmps, fun s y v hy hv => ?_⟩
  rw [maskE_get, Nat.zero_add] at hy
  cases hes : e[s]? with
  | none => rw [hes] at hy; cases hy
  | some y0 =>
    rw [hes] at hy
    simp only [Option.map_some, Option.some.injEq] at hy
    cases hm : memN (looks ops.toList oi) s with
    | false => rw [hm] at hy; subst hy; exact .junk
    | true =>
      rw [hm] at hy
      simp only at hy
      subst hy
      rcases hs s y0 hes hm with ⟨j, oj, b1, b2, ⟨e', b3, b4, b5⟩, b6⟩ | ⟨b1, b2⟩
      · exact I.slot1 s v j oj y0 hv b1 b2 (by rw [← b5]; exact haf e' b3 b4) b6
      · refine I.slot0 s v hv (fun j oj hj hd => ?_) y0 b2
        cases hlj : listed.getD j false with
        | false => rfl
        | true =>
          rcases b1 j oj hj hd with rfl | ⟨e', c1, c2, c3⟩
          · rw [hl] at hlj; cases hlj
          · have := I.shut j oj hj hlj e' c1 c2
            rw [c3, hl] at this; cases this

omit [Gl] in
theorem set_count {listed : Array Bool} {i fuel : Nat} (hll : i < listed.size) (hunf : listed.getD i false = false) (hf : (listed.toList.filter (fun b => !b)).length ≤ fuel + 1) : ((listed.setIfInBounds i true).toList.filter (fun b => !b)).length ≤ fuel := by
  have hfl : listed.toList[i]? = some false := by
    simp [hll] at hunf
    rw [Array.getElem?_toList, Array.getElem?_eq_getElem hll, hunf]
  have key : ∀ (l : List Bool) (i : Nat), l[i]? = some false → ((l.set i true).filter (fun b => !b)).length + 1 = (l.filter (fun b => !b)).length := by
    intro l
    induction l with
    | nil => intro i h; simp at h
    | cons b l ih =>
      intro i h
      cases i with
      | zero => simp at h; subst h; simp
      | succ i =>
        have := ih i (by simpa using h)
        cases b <;> simp [List.set] at this ⊢ <;> omega
  have := key listed.toList i hfl
  rw [Array.toList_setIfInBounds]
  omega

omit [Gl] in
theorem put_get {a : Act} {d : Option Nat} {v u : Value} {t : Nat} (h : (a.put d v).tmps[t]? = some u) : (d = some t ∧ u = v) ∨ (d ≠ some t ∧ a.tmps[t]? = some u) := by
  cases d with
  | none => exact .inr ⟨by simp, h⟩
  | some d =>
    simp only [Act.put] at h
    by_cases e : d = t
    · subst e
      have hl : d < a.tmps.size := by
        have := (Array.getElem?_eq_some_iff.1 h).1; simpa using this
      rw [Array.getElem?_setIfInBounds_self_of_lt hl] at h
      exact .inl ⟨rfl, (Option.some.inj h).symm⟩
    · rw [Array.getElem?_setIfInBounds_ne e] at h
      exact .inr ⟨by simpa using e, h⟩
omit [Gl] in
theorem put_size {a : Act} {d : Option Nat} {v : Value} : (a.put d v).tmps.size = a.tmps.size := by cases d <;> simp [Act.put]

omit [Gl] in
theorem Shut.set (hs : Shut ops listed) {i : Nat} {oi : Oper} (hi : ops[i]? = some oi) (haf : ∀ e ∈ oi.after, Region.binds .any e = true → listed.getD e.on false = true) : Shut ops (listed.setIfInBounds i true) := by
  intro j oj hoj hj e he hb
  rcases getD_true hj with rfl | hj
  · rw [hi] at hoj; cases hoj
    exact getD_set_true (haf e he hb)
  · exact getD_set_true (hs j oj hoj hj e he hb)

/-- A quiet operation has been carried out. -/
theorem InvE.quiet (hB : drawOk ops.toList = true) (I : InvE P δ ops F env0 ds w0 μ0 done D dt env ob μ listed a w) {i : Nat} {o : Oper} (hi : ops[i]? = some o) (haf : ∀ e ∈ o.after, Region.binds .any e = true → listed.getD e.on false = true)
    (h2 : memN (effIx 0 ops.toList) i = false) (hD : memD D i = true) {x : AV} (hx : dt i = some x) {v : Value} (hv : VR w F μ x v) : InvE P δ ops F env0 ds w0 μ0 done D dt env ob μ (listed.setIfInBounds i true) (a.put o.dst v) w := by
  have hlt : i < listed.size := by rw [I.size]; exact (Array.getElem?_eq_some_iff.1 hi).1
  refine { size := by simp [I.size], tmps := by rw [put_size]; exact I.tmps, elen := I.elen, ds := by rw [put_defers]; exact I.ds, st := I.st, ext := I.ext, shut := I.shut.set hi haf, effl := ?_, doneE := I.doneE, listedD := ?_, rdyD := I.rdyD, closed := I.closed, slot1 := ?_, slot0 := ?_, envP := I.envP, dtD := I.dtD, dtE := I.dtE, pend := ?_ }
  · intro e he
    have hne : i ≠ e := fun h => by subst h; rw [h2] at he; cases he
    rw [getD_set_ne false hne]; exact I.effl e he
  · intro j oj hj h4 h5
    rcases getD_true h5 with rfl | h5
    · exact hD
    · exact I.listedD j oj hj h4 h5
  · intro t u j oj y hu hj hd hl hdt
    rcases put_get hu with ⟨g1, rfl⟩ | ⟨g1, g2⟩
    · by_cases e : j = i
      · subst e; rw [hx] at hdt; cases hdt; exact hv
      · exact (((drawOk_spec hB hi).2 j oj hj e t hd).1 g1).elim
    · rcases getD_true hl with rfl | hl
      · rw [hi] at hj; cases hj; exact (g1 hd).elim
      · exact I.slot1 t u j oj y g2 hj hd hl hdt
  · intro t u hu hn y hy
    have hself : (listed.setIfInBounds i true).getD i false = true := by simp [hlt]
    rcases put_get hu with ⟨g1, rfl⟩ | ⟨g1, g2⟩
    · have := hn i o hi g1
      rw [hself] at this; cases this
    · refine I.slot0 t u g2 (fun j oj hj hd => ?_) y hy
      cases hl : listed.getD j false with
      | false => rfl
      | true =>
        have := hn j oj hj hd
        rw [getD_set_true hl] at this; cases this
  · intro q t hq hl
    refine I.pend q t hq ?_
    cases hl' : listed.getD q false with
    | false => rfl
    | true => rw [getD_set_true hl'] at hl; cases hl

/-- An operation that turns something has been carried out. -/
theorem InvE.eff (hB : drawOk ops.toList = true) (I : InvE P δ ops F env0 ds w0 μ0 done D dt env ob μ listed a w) {i : Nat} {o : Oper} (hi : ops[i]? = some o) (haf : ∀ e ∈ o.after, Region.binds .any e = true → listed.getD e.on false = true)
    (h2 : memN (effIx 0 ops.toList) i = true) (hn : listed.getD i false = false) {x : AV} {v : Value} {w' : World} {μ' : Mu} {ob' : List AO} (hv : VR w' F μ' x v) (hs : St w' F μ' ob') (hx : Ext w μ w' μ') (ha : Agr (needsD (ancsF ops.toList []) i D) ob ob') :
    InvE P δ ops F env0 ds w0 μ0 (i :: done) D (upd dt i x) (putS env o.dst x) ob' μ' (listed.setIfInBounds i true) (a.put o.dst v) w' := by
  have hlt : i < listed.size := by rw [I.size]; exact (Array.getElem?_eq_some_iff.1 hi).1
  have hDne : ∀ j, memD D j = true → j ≠ i := fun j h e => by
    subst e; have := (I.rdyD j h).1; rw [h2] at this; cases this
  have hnd : i ∉ done := fun h => by rw [(I.effl i h2).2 h] at hn; cases hn
  have hEne : ∀ j, j ∈ done → j ≠ i := fun j h e => by subst e; exact hnd h
  have hself : (listed.setIfInBounds i true).getD i false = true := by simp [hlt]
  refine { size := by simp [I.size], tmps := by rw [put_size]; exact I.tmps, elen := by rw [putS_len]; exact I.elen, ds := by rw [put_defers]; exact I.ds, st := hs, ext := I.ext.trans hx, shut := I.shut.set hi haf, effl := ?_, doneE := ?_, listedD := ?_, rdyD := ?_, closed := I.closed, slot1 := ?_, slot0 := ?_, envP := ?_, dtD := fun q hq => by rw [upd_ne (hDne q hq)]; exact I.dtD q hq, dtE := ?_, pend := ?_ }
  · intro e he
    by_cases h : i = e
    · subst h; simp [hself]
    · rw [getD_set_ne false h, I.effl e he]
      simp only [List.mem_cons]
      exact ⟨.inr, fun h' => by rcases h' with h' | h'; exact (h h'.symm).elim; exact h'⟩
  · intro e he
    rcases List.mem_cons.1 he with rfl | he
    · exact h2
    · exact I.doneE e he
  · intro j oj hj h4 h5
    rcases getD_true h5 with rfl | h5
    · rw [h2] at h4; cases h4
    · exact I.listedD j oj hj h4 h5
  · intro q hq
    obtain ⟨g1, g2⟩ := I.rdyD q hq
    exact ⟨g1, rdyB_iff.2 fun y h3 h4 => List.mem_cons_of_mem _ (rdyB_iff.1 g2 y h3 h4)⟩
  · intro t u j oj y hu hj hd hl hdt
    rcases put_get hu with ⟨g1, rfl⟩ | ⟨g1, g2⟩
    · by_cases e : j = i
      · subst e; rw [upd_same] at hdt; cases hdt; exact hv
      · exact (((drawOk_spec hB hi).2 j oj hj e t hd).1 g1).elim
    · rcases getD_true hl with rfl | hl2
      · rw [hi] at hj; cases hj; exact (g1 hd).elim
      · by_cases e : j = i
        · subst e; rw [hn] at hl2; cases hl2
        · rw [upd_ne e] at hdt
          exact (I.slot1 t u j oj y g2 hj hd hl2 hdt).ext hx
  · intro t u hu hno y hy
    rcases put_get hu with ⟨g1, rfl⟩ | ⟨g1, g2⟩
    · have := hno i o hi g1
      rw [hself] at this; cases this
    · refine (I.slot0 t u g2 (fun j oj hj hd => ?_) y hy).ext hx
      cases hl : listed.getD j false with
      | false => rfl
      | true =>
        have := hno j oj hj hd
        rw [getD_set_true hl] at this; cases this
  · intro t y ht
    rcases putS_get ht with ⟨g1, g2⟩ | ⟨g1, g2⟩
    · subst g2
      exact .inl ⟨i, o, hi, g1, .inr List.mem_cons_self, upd_same⟩
    · rcases I.envP t y g2 with ⟨j, oj, a1, a2, a3, a4⟩ | ⟨a1, a2⟩
      · have hne : j ≠ i := by rcases a3 with a3 | a3; exact hDne j a3; exact hEne j a3
        exact .inl ⟨j, oj, a1, a2, a3.imp id (List.mem_cons_of_mem _), by rw [upd_ne hne]; exact a4⟩
      · refine .inr ⟨fun j oj hj hd => ?_, a2⟩
        obtain ⟨b1, b2⟩ := a1 j oj hj hd
        refine ⟨b1, fun hm => ?_⟩
        rcases List.mem_cons.1 hm with rfl | hm
        · rw [hi] at hj; cases hj; exact g1 hd
        · exact b2 hm
  · intro q hq
    rcases List.mem_cons.1 hq with rfl | hq
    · exact ⟨x, upd_same⟩
    · rw [upd_ne (hEne q hq)]; exact I.dtE q hq
  · intro q t hq hl
    have hl0 : listed.getD q false = false := by
      cases hl' : listed.getD q false with
      | false => rfl
      | true => rw [getD_set_true hl'] at hl; cases hl
    have hqD : memD D q = true := memD_iff.2 ⟨t, hq⟩
    obtain ⟨oq, x', e, c1, c2, c3, c4, c5⟩ := I.pend q t hq hl0
    refine ⟨oq, x', e, c1, by rw [upd_ne (hDne q hqD)]; exact c2, c3, ?_, fun s y hs hm => ?_⟩
    · rcases c4 with ⟨d1, d2, d3, x0, d4, d5⟩ | h
      · refine .inl ⟨d1, d2, d3, x0, fun J hJ => ?_, d5⟩
        refine aop_agree (J := fun x' _ => J x' ob') (fun _ h => h) d2 (fun p hp => ha p ?_) (d4 (fun x' _ => J x' ob') hJ)
        have : memN (ancI (ancsF ops.toList []) i) q = false := by
          cases hm : memN (ancI (ancsF ops.toList []) i) q with
          | false => rfl
          | true =>
            have := anc_listed I.shut i o hi haf q (memN_iff.1 hm)
            rw [hl0] at this; cases this
        have key : ∀ (D : Det), (q, t) ∈ D → ∀ p ∈ t, p ∈ needsD (ancsF ops.toList []) i D := by
          intro D
          induction D with
          | nil => intro h; cases h
          | cons z D ih =>
            obtain ⟨q', t'⟩ := z
            intro h p hp
            simp only [needsD]
            rcases List.mem_cons.1 h with h | h
            · cases h
              rw [this]
              simp only [appL_eq]
              exact List.mem_append_left _ hp
            · split
              · exact ih h p hp
              · simp only [appL_eq]; exact List.mem_append_right _ (ih h p hp)
        exact key D hq p (by rw [d3]; exact hp)
      · exact .inr h
    · rcases c5 s y hs hm with ⟨j, oj, b1, b2, ⟨e', b3, b4, b5⟩, b6⟩ | h
      · have hne : j ≠ i := fun e0 => by
          subst e0
          have hr := rdyB_iff.1 (I.rdyD q hqD).2 j (by rw [← b5]; exact anc_direct c1 b3 b4) (memN_iff.1 h2)
          exact hnd hr
        exact .inl ⟨j, oj, b1, b2, ⟨e', b3, b4, b5⟩, by rw [upd_ne hne]; exact b6⟩
      · exact .inr h

omit [Gl] in
theorem branches_get {f : Nat → Prop} : ∀ {l : List Nat}, branches f l → ∀ e ∈ l, f e
  | [], h, _, _ => h.elim
  | [e], h, e', he => by rw [List.mem_singleton.1 he]; exact h
  | e :: e' :: es, h, q, hq => by
    rcases List.mem_cons.1 hq with rfl | hq
    · exact h.l
    · exact branches_get h.r q hq
omit [Gl] in
theorem cands_mem {anc : List (List Nat)} {effs done : List Nat} : ∀ {l : List Nat} {e : Nat}, e ∈ l → memN done e = false → rdyB anc effs done e = true → e ∈ cands anc effs done l
  | [], _, h, _, _ => by cases h
  | a :: l, e, h, h1, h2 => by
    simp only [cands]
    rcases List.mem_cons.1 h with rfl | h
    · rw [h1, h2]; exact List.mem_cons_self
    · split
      · exact cands_mem h h1 h2
      · exact List.mem_cons_of_mem _ (cands_mem h h1 h2)
omit [Gl] in
theorem agrK_iff {ps : List Nat} {ob ob' : List AO} {B : Unit → Prop} (h : agrK ps ob ob' B) : Agr ps ob ob' ∧ B () := by
  unfold agrK at h
  split at h
  · exact ⟨fun p hp => (by cases hp), h⟩
  · exact ⟨h.a, h.b⟩

theorem eff_of (hty : TyOk P δ) (hB : drawOk ops.toList = true) {Q : List AV → List AO → Prop} {R : Exit → Act → World → Prop}
    (hR : ∀ (env : List AV) (ob : List AO) (μ : Mu) (a : Act) (w : World), Q env ob → FR w F μ env a.tmps → St w F μ ob → Ext w0 μ0 w μ → a.defers = ds → R .normal a w) :
    ∀ (fuel : Nat) (listed : Array Bool) (a : Act) (w : World) (n : Nat) (done : List Nat) (D : Det) (dt : Nat → Option AV) (env : List AV) (ob : List AO) (μ : Mu), InvE P δ ops F env0 ds w0 μ0 done D dt env ob μ listed a w → Compl ops done D →
      dxp P δ ops.toList (ancsF ops.toList []) (effIx 0 ops.toList) (fun done D env ob => dx P δ ops.toList (ancsF ops.toList []) (effIx 0 ops.toList) n done D env ob Q) done D env ob Q →
      (listed.toList.filter (fun b => !b)).length ≤ fuel → wpAny P .any ops R fuel listed a w := by
  have fin : ∀ (listed : Array Bool) (a : Act) (w : World) (n : Nat) (done : List Nat) (D : Det) (dt : Nat → Option AV) (env : List AV) (ob : List AO) (μ : Mu), InvE P δ ops F env0 ds w0 μ0 done D dt env ob μ listed a w → Compl ops done D →
      dxp P δ ops.toList (ancsF ops.toList []) (effIx 0 ops.toList) (fun done D env ob => dx P δ ops.toList (ancsF ops.toList []) (effIx 0 ops.toList) n done D env ob Q) done D env ob Q → Region.ready .any ops listed = [] → R .normal a w := by
    intro listed a w n done D dt env ob μ I hC h hr
    have all : ∀ i, i < ops.size → listed.getD i false = true := by
      intro i
      induction i using Nat.strongRecOn with
      | _ i ih =>
        intro hi
        have ho := Array.getElem?_eq_getElem hi
        cases hl : listed.getD i false with
        | true => rfl
        | false =>
          exfalso
          have : i ∈ Region.ready .any ops listed := by
            refine mem_ready.2 ⟨?_, _, ho, fun e he hb => ?_⟩
            · have hs : i < listed.size := by rw [I.size]; exact hi
              simp [hs] at hl ⊢; exact hl
            · have h1 := (drawOk_spec hB ho).1 e he hb
              exact ih e.on h1 (by omega)
          rw [hr] at this
          cases this
    have effLt : ∀ e, memN (effIx 0 ops.toList) e = true → e < ops.size := by
      intro e he
      obtain ⟨j, o, h1, h2, _⟩ := (effIx_mem ops.toList 0 e).1 (memN_iff.1 he)
      have := (List.getElem?_eq_some_iff.1 h1).1
      simp at this; omega
    have hall : subN (effIx 0 ops.toList) done = true := subN_iff.2 fun e he => (I.effl e (memN_iff.2 he)).1 (all e (effLt e (memN_iff.2 he)))
    unfold dxp at h
    rw [hall] at h
    refine hR env ob μ a w h ⟨by rw [I.tmps, I.elen], fun t x v hx hv => ?_⟩ I.st I.ext I.ds
    rcases I.envP t x hx with ⟨j, oj, a1, a2, a3, a4⟩ | ⟨a1, a2⟩
    · exact I.slot1 t v j oj x hv a1 a2 (all j (Array.getElem?_eq_some_iff.1 a1).1) a4
    · refine I.slot0 t v hv (fun j oj hj hd => ?_) x a2
      obtain ⟨b1, b2⟩ := a1 j oj hj hd
      exfalso
      cases he : memN (effIx 0 ops.toList) j with
      | true => exact b2 ((I.effl j he).1 (all j (effLt j he)))
      | false =>
        have := hC j oj hj he (rdyB_iff.2 fun e _ h2 => subN_iff.1 hall e h2)
        rw [b1] at this; cases this
  intro fuel
  induction fuel with
  | zero =>
    intro listed a w n done D dt env ob μ I hC h hf
    have hr : Region.ready .any ops listed = [] := by
      cases hr : Region.ready .any ops listed with
      | nil => rfl
      | cons i l =>
        exfalso
        have : i ∈ Region.ready .any ops listed := by rw [hr]; simp
        obtain ⟨h1, o, ho, _⟩ := mem_ready.1 this
        have hlt : i < listed.size := by rw [I.size]; exact (Array.getElem?_eq_some_iff.1 ho).1
        have hm : false ∈ listed.toList.filter (fun b => !b) := by
          simp [hlt] at h1
          simp only [List.mem_filter, Bool.not_false, and_true]
          rw [← h1]
          simp
        have := List.length_pos_of_mem hm
        omega
    exact ⟨hr, fin listed a w n done D dt env ob μ I hC h hr⟩
  | succ fuel ih =>
    intro listed a w n done D dt env ob μ I hC h hf
    refine ⟨fin listed a w n done D dt env ob μ I hC h, fun i hi => ?_⟩
    obtain ⟨hun, oi, hoi, haf⟩ := mem_ready.1 hi
    have hll : i < listed.size := by rw [I.size]; exact (Array.getElem?_eq_some_iff.1 hoi).1
    have hunf : listed.getD i false = false := by simp [hll] at hun ⊢; exact hun
    have hcount := set_count hll hunf hf
    unfold wpOp
    simp only [hoi]
    cases hme : memN (effIx 0 ops.toList) i with
    | false =>
      have hrd : rdyB (ancsF ops.toList []) (effIx 0 ops.toList) done i = true := rdyB_iff.2 fun x h1 h2 => (I.effl x (memN_iff.2 h2)).1 (anc_listed I.shut i oi hoi haf x h1)
      have hD := hC i oi hoi hme hrd
      obtain ⟨t, ht⟩ := memD_iff.1 hD
      obtain ⟨oq, x, e, c1, c2, c3, c4, c5⟩ := I.pend i t ht hunf
      rw [hoi] at c1; cases c1
      have hfr := FR.of_slots I hoi c3 hunf haf c5
      rcases c4 with ⟨d1, d2, d3, x0, d4, d5⟩ | ⟨d1, d2⟩
      · rw [if_pos (goes_sound hfr d1)]
        obtain ⟨v, x', r1, r2, r3, _⟩ := aopQ_sound hty hfr I.st d2 (d4 (fun x' o' => x' = x0 ∧ o' = ob) ⟨rfl, rfl⟩)
        subst r3
        left
        unfold Oper.wp
        rw [r1 w (.refl w)]
        exact ih _ _ _ n done D dt env ob μ (I.quiet hB hoi haf hme hD c2 (d5 _ _ _ _ r2)) hC h hcount
      · have hg := goes_sound hfr d1
        rw [if_neg (by rw [hg]; simp)]
        exact ih _ _ _ n done D dt env ob μ (I.quiet hB hoi haf hme hD c2 (by rw [d2]; exact VR.unit)) hC h hcount
    | true =>
      have hnd : memN done i = false := by
        cases hm : memN done i with
        | false => rfl
        | true => rw [(I.effl i hme).2 (memN_iff.1 hm)] at hunf; cases hunf
      have hrd : rdyB (ancsF ops.toList []) (effIx 0 ops.toList) done i = true := rdyB_iff.2 fun x h1 h2 => (I.effl x (memN_iff.2 h2)).1 (anc_listed I.shut i oi hoi haf x h1)
      have hns : subN (effIx 0 ops.toList) done = false := by
        cases hs : subN (effIx 0 ops.toList) done with
        | false => rfl
        | true =>
          have := subN_iff.1 hs i (memN_iff.1 hme)
          rw [memN_iff.2 this] at hnd; cases hnd
      unfold dxp at h
      rw [hns] at h
      have hb := branches_get h i (cands_mem (memN_iff.1 hme) hnd hrd)
      unfold branchE at hb
      have hfr : FR w F μ (maskE (looks ops.toList oi) 0 env) a.tmps := by
        refine FR.of_slots I hoi I.elen hunf haf fun s y hs hm => ?_
        rcases I.envP s y hs with ⟨j, oj, a1, a2, a3, a4⟩ | ⟨a1, a2⟩
        · have hne : j ≠ i := fun e0 => by
            subst e0
            rcases a3 with a3 | a3
            · have := (I.rdyD j a3).1; rw [hme] at this; cases this
            · rw [memN_iff.2 a3] at hnd; cases hnd
          rcases ((drawOk_spec hB hoi).2 j oj a1 hne s a2).2 hm with ⟨e, b1, b2, b3⟩ | ⟨e, b1, b2, b3⟩
          · exact .inl ⟨j, oj, a1, a2, ⟨e, b1, b2, b3⟩, a4⟩
          · exfalso
            rcases a3 with a3 | a3
            · have := rdyB_iff.1 (I.rdyD j a3).2 i (by rw [← b3]; exact anc_direct a1 b1 b2) (memN_iff.1 hme)
              rw [memN_iff.2 this] at hnd; cases hnd
            · have := I.shut j oj a1 ((I.effl j (I.doneE j a3)).2 a3) e b1 b2
              rw [b3, hunf] at this; cases this
        · refine .inr ⟨fun j oj hj hd => ?_, a2⟩
          by_cases hne : j = i
          · exact .inl hne
          · right
            obtain ⟨c1, c2⟩ := a1 j oj hj hd
            rcases ((drawOk_spec hB hoi).2 j oj hj hne s hd).2 hm with ⟨e, b1, b2, b3⟩ | h'
            · exfalso
              have hlj := haf e b1 b2
              rw [b3] at hlj
              cases hmj : memN (effIx 0 ops.toList) j with
              | true => exact c2 ((I.effl j hmj).1 hlj)
              | false =>
                have := I.listedD j oj hj hmj hlj
                rw [c1] at this; cases this
            · exact h'
      have hno : nth ops.toList i = some oi := by rw [nth_eq]; simpa using hoi
      rw [hno] at hb
      simp only at hb
      have step : ∀ (x : AV) (v : Value) (w' : World) (μ' : Mu) (ob' : List AO), VR w' F μ' x v → St w' F μ' ob' → Ext w μ w' μ' → Agr (needsD (ancsF ops.toList []) i D) ob ob' →
          dx P δ ops.toList (ancsF ops.toList []) (effIx 0 ops.toList) n (i :: done) D (putS env oi.dst x) ob' Q → wpAny P .any ops R fuel (listed.setIfInBounds i true) (a.put oi.dst v) w' := by
        intro x v w' μ' ob' k1 k2 k3 k4 k5
        cases n with
        | zero => exact k5.elim
        | succ n =>
          obtain ⟨D', dt', env', I', hC', h'⟩ := pass hB (idxd 0 ops.toList) 0 D _ _ rfl (I.eff hB hoi haf hme hunf k1 k2 k3 k4) (fun j oj hj => by omega) k5
          exact ih _ _ _ n _ D' dt' env' ob' μ' I' hC' h' hcount
      split at hb
      · rename_i hg
        rw [if_pos (goes_sound hfr hg)]
        left
        refine aop_sound hty hfr I.st hb fun v x w' μ' ob' k1 k2 k3 k4 => ?_
        obtain ⟨x', k5, k6⟩ := splitK_iff k4
        obtain ⟨k7, k8⟩ := agrK_iff k5
        exact step x' v w' μ' ob' (k6 _ _ _ _ k1) k2 k3 k7 k8
      · rename_i hg
        have hgs := goes_sound hfr hg
        rw [if_neg (by rw [hgs]; simp)]
        exact step AUnit undef w μ ob VR.unit I.st (.refl w μ) (fun p _ => rfl) hb
      · exact hb.elim

/-- **A region whose order is drawn, with operations that turn something.** -/
theorem ADraw.eff (hty : TyOk P δ) (hm : P.follows .mixedOrders = true) {m id : Nat} {env : List AV} {ob : List AO} {Q : List AV → List AO → Prop} (hB : drawOk ops.toList = true)
    (h : dx P δ ops.toList (ancsF ops.toList []) (effIx 0 ops.toList) (lenL (effIx 0 ops.toList) + 1) [] [] env ob Q) : ADraw P δ m id ops env ob Q := by
  refine ⟨fun w F μ a hm' hf hs => ?_⟩
  have hx1 : Ext w μ { w with drawn := w.drawn + 1 } μ := Ext.drewN w μ _
  have noL : ∀ i, (Array.replicate ops.size false).getD i false = false := fun i => by
    rw [Array.getD_eq_getD_getElem?, Array.getElem?_replicate]
    split <;> simp
  have I0 : InvE P δ ops F env a.defers w μ [] [] (fun _ => none) env ob μ (Array.replicate ops.size false) a { w with drawn := w.drawn + 1 } :=
    { size := by simp, tmps := hf.1, elen := rfl, ds := rfl, st := hs.same hx1 (fun _ _ => rfl), ext := hx1, shut := fun i oi _ hl => (by rw [noL] at hl; cases hl), effl := fun e _ => (by rw [noL]; simp), doneE := fun e he => (by cases he)
      listedD := fun i oi _ _ hl => (by rw [noL] at hl; cases hl), rdyD := fun q hq => (by cases hq), closed := fun q oq hq => (by cases hq), slot1 := fun t v j oj x _ _ _ hl => (by rw [noL] at hl; cases hl)
      slot0 := fun t v hv _ x hx => (hf.2 t x v hx hv).ext hx1, envP := fun t x hx => .inr ⟨fun j oj _ _ => ⟨rfl, by simp⟩, hx⟩, dtD := fun q hq => (by cases hq), dtE := fun q hq => (by cases hq), pend := fun q t hq => (by cases hq) }
  obtain ⟨D', dt', env', I', hC', h'⟩ := pass hB (idxd 0 ops.toList) 0 [] _ env rfl I0 (fun j oj hj => by omega) h
  refine wp_region_any hm (eff_of hty hB (Q := Q) (fun env ob μ' a' w' hq hfr hst hext hds => ?_) _ _ _ _ _ _ _ _ _ _ _ I' hC' h' (by simp))
  exact ⟨env, ob, μ', hq, hfr, hst, hext.toB hm', hds⟩

/-- Its end may be said anew. -/
theorem ADraw.ren {m id : Nat} {env : List AV} {ob : List AO} {Q : List AV → List AO → Prop} {E : List AV} {O : List AO} (h : ADraw P δ m id ops env ob (fun e o => Ren m e o E O)) (hq : Q E O) : ADraw P δ m id ops env ob Q := by
  refine ⟨fun w F μ a hm hf hs => Code.wp_mono (fun x a' w' hx => ?_) (h.run w F μ a hm hf hs)⟩
  cases x with
  | normal =>
    obtain ⟨e, o, μ', g1, g2, g3, g4, g5⟩ := hx
    obtain ⟨μ'', r1, r2, r3⟩ := g1.run w' F μ' a'.tmps g4.len g2 g3
    exact ⟨E, O, μ'', hq, r1, r2, g4.trans r3, g5⟩
  | exit i =>
    obtain ⟨e, o, μ', g1, _⟩ := hx
    exact g1.elim
  | ret =>
    obtain ⟨e, o, μ', g1, _⟩ := hx
    exact g1.elim
  | _ => exact hx
end
end Go.Abs
