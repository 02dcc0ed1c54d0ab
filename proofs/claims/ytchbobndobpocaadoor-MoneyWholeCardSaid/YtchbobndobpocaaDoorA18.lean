/- The abstract machine, part 18: regions whose order is drawn. -/
import Derived.Test.YtchbobndobpocaaDoorA16
import Derived.Deep.Quiet
namespace Go.Abs
variable [Gl]

/-- One operation of such a region: it yields x, and leaves the objects as they are. -/
structure DOp (P : Program) (δ : Nat → Option TD) (op : Op) (env : List AV) (ob : List AO) (K : AV → Prop) : Prop where
  mk ::
  out : ∃ x x', (∀ J : AV → List AO → Prop, J x ob → aop P δ op env ob J) ∧ (∀ w F μ v, VR w F μ x v → VR w F μ x' v) ∧ K x'
theorem DOp.is {P : Program} {δ : Nat → Option TD} {op : Op} {env : List AV} {ob : List AO} {K : AV → Prop} (x : AV) (h : ∀ J : AV → List AO → Prop, J x ob → aop P δ op env ob J) (k : K x) : DOp P δ op env ob K := ⟨x, x, h, fun _ _ _ _ h => h, k⟩
theorem DOp.as {P : Program} {δ : Nat → Option TD} {op : Op} {env : List AV} {ob : List AO} {K : AV → Prop} (x x' : AV) (h : ∀ J : AV → List AO → Prop, J x ob → aop P δ op env ob J) (hx : RV 0 [] [] x x') (k : K x') : DOp P δ op env ob K := ⟨x, x', h, fun _ _ _ _ hv => hx.same hv, k⟩

def memN : List Nat → Nat → Bool
  | [], _ => false
  | a :: l, n => match a == n with | true => true | false => memN l n
def tmpsOf : List Operand → List Nat
  | [] => []
  | .tmp t :: l => t :: tmpsOf l
  | _ :: l => tmpsOf l
/-- The slots that an operation looks at. -/
def looks (all : List Oper) (o : Oper) : List Nat := match o.guard with
  | none => tmpsOf o.op.operands.toList
  | some (g, _) => match nth all g with
    | some p => match p.dst with | some d => d :: tmpsOf o.op.operands.toList | none => tmpsOf o.op.operands.toList
    | none => tmpsOf o.op.operands.toList
def maskE (ls : List Nat) : Nat → List AV → List AV
  | _, [] => []
  | i, x :: l => (match memN ls i with | true => x | false => .junk) :: maskE ls (i + 1) l
/-- Does an operation's guard look at this slot? -/
def guards (all : List Oper) (d : Nat) : List Oper → Bool
  | [] => false
  | o :: l => match o.guard with
    | some (g, _) => match nth all g with
      | some p => match p.dst with
        | some e => match e == d with | true => true | false => guards all d l
        | none => guards all d l
      | none => guards all d l
    | none => guards all d l

/-- Is it carried out? None: that is not known. -/
def goes : GV → Option Bool
  | .go => some true
  | .skip => some false
  | .by _ (.lit c) want => some (c == want)
  | _ => none

/-- The lexical walk of such a region. -/
def dq (P : Program) (δ : Nat → Option TD) (ob : List AO) (all : List Oper) : List Oper → List AV → (List AV → Prop) → Prop
  | [], env, K => K env
  | o :: rest, env, K => match goes (guardV all (maskE (looks all o) 0 env) o.guard) with
    | some true => DOp P δ o.op (maskE (looks all o) 0 env) ob fun x => match x, o.dst with
      | .c (.bool (.th f)), some d => match guards all d all with
        | true => brT (.th f) (fun _ => dq P δ ob all rest (putS env (some d) (AB (.lit true))) K) (fun _ => dq P δ ob all rest (putS env (some d) (AB (.lit false))) K)
        | false => dq P δ ob all rest (putS env (some d) x) K
      | x, d => dq P δ ob all rest (putS env d x) K
    | some false => dq P δ ob all rest (putS env o.dst AUnit) K
    | none => False

/-- What makes the order no matter. -/
def drawOk (ops : List Oper) : Bool :=
  (List.range ops.length).all fun i => match ops[i]? with
    | none => true
    | some oi => oi.after.toList.all (fun e => !Region.binds .any e || decide (e.on < i)) &&
      (List.range ops.length).all fun j => j == i || match ops[j]? with
        | none => true
        | some oj => match oj.dst with
          | none => true
          | some t => oi.dst != some t && (!memN (looks ops oi) t || oi.after.toList.any (fun e => Region.binds .any e && e.on == j) || oj.after.toList.any (fun e => Region.binds .any e && e.on == i))

omit [Gl] in
theorem maskE_get (ls : List Nat) : ∀ (env : List AV) (i k : Nat), (maskE ls k env)[i]? = (env[i]?).map fun x => match memN ls (k + i) with | true => x | false => .junk
  | [], i, k => by simp [maskE]
  | x :: l, 0, k => by simp [maskE]
  | x :: l, i + 1, k => by
    simp only [maskE, List.getElem?_cons_succ]
    rw [maskE_get ls l i (k + 1), show k + 1 + i = k + (i + 1) by omega]
omit [Gl] in
theorem maskE_len (ls : List Nat) : ∀ (env : List AV) (k : Nat), (maskE ls k env).length = env.length
  | [], k => rfl
  | x :: l, k => by simp [maskE, maskE_len ls l (k + 1)]

/-- No list of nothing among them. -/
def NoGone (ob : List AO) : Prop := ∀ x ∈ ob, gone x → x = .dead
omit [Gl] in
theorem NoGone.nil : NoGone [] := fun x h => by cases h
omit [Gl] in
theorem NoGone.box {cs : List AV} {ob : List AO} (h : NoGone ob) : NoGone (.box cs :: ob) := fun x hx g => by
  rcases List.mem_cons.1 hx with rfl | hx
  · exact g.elim
  · exact h x hx g
omit [Gl] in
theorem NoGone.map {es : List (AV × AV)} {ob : List AO} (h : NoGone ob) : NoGone (.map es :: ob) := fun x hx g => by
  rcases List.mem_cons.1 hx with rfl | hx
  · exact g.elim
  · exact h x hx g
omit [Gl] in
theorem NoGone.sit {s : Th ByteArray} {p : Th Nat} {ob : List AO} (h : NoGone ob) : NoGone (.sit s p :: ob) := fun x hx g => by
  rcases List.mem_cons.1 hx with rfl | hx
  · exact g.elim
  · exact h x hx g
omit [Gl] in
theorem NoGone.dead {ob : List AO} (h : NoGone ob) : NoGone (.dead :: ob) := fun x hx g => by
  rcases List.mem_cons.1 hx with rfl | hx
  · rfl
  · exact h x hx g
omit [Gl] in
theorem NoGone.arr {k : Nat} {es : Th (List (List AV))} {sz : Th Nat} {ob : List AO} (hs : sz.den ≠ 0 ∨ es.den ≠ []) (h : NoGone ob) : NoGone (.arr k es sz :: ob) := fun x hx g => by
  rcases List.mem_cons.1 hx with rfl | hx
  · rcases hs with hs | hs
    · exact (hs g.2).elim
    · exact (hs g.1).elim
  · exact h x hx g
theorem same_mu {w w' : World} {F : Nat → Prop} {μ μ' : Mu} {ob : List AO} (hng : NoGone ob) (h : St w F μ ob) (h' : St w' F μ' ob) (hx : Ext w μ w' μ') : μ' = μ := by
  refine List.ext_getElem? fun o => ?_
  rcases Nat.lt_or_ge o μ.length with hl | hl
  · cases ho : μ[o]? with
    | none => rw [List.getElem?_eq_none_iff] at ho; omega
    | some x =>
      cases x with
      | none => rw [hx.dead o ho]
      | some b =>
        rcases hx.keep o b ho with h1 | h1
        · rw [h1]
        · obtain ⟨x, g1, g2⟩ := h.live o b ho
          obtain ⟨y, k1, k2⟩ := h'.dead o h1
          rw [k1] at g1; cases g1
          rw [hng _ (List.mem_of_getElem? k1) k2] at g2
          cases g2
  · have : μ'.length = μ.length := by rw [h.len, h'.len]
    rw [List.getElem?_eq_none (by omega), List.getElem?_eq_none hl]

section
variable {P : Program} {δ : Nat → Option TD} {ops : Array Oper} {F : Nat → Prop} {μ : Mu} {ob : List AO}

/-- Whatever the frame holds elsewhere: the operation o yields x. -/
def AYields (P : Program) (ops : Array Oper) (F : Nat → Prop) (μ : Mu) (ob : List AO) (o : Oper) (x : AV) (env : List AV) : Prop :=
  ∀ (w : World) (a : Act), St w F μ ob → FR w F μ (maskE (looks ops.toList o) 0 env) a.tmps →
    (Region.wanted o (yielded ops a.tmps) = true ∧ ∀ next Q', (∀ v w', VR w' F μ x v → St w' F μ ob → Ext w μ w' μ → next (a.put o.dst v) w') → o.wp P a w next Q') ∨
    (Region.wanted o (yielded ops a.tmps) = false ∧ x = AUnit)

inductive Chain (P : Program) (ops : Array Oper) (F : Nat → Prop) (μ : Mu) (ob : List AO) : List Oper → List AV → List AV → List AV → Prop
  | nil {env : List AV} : Chain P ops F μ ob [] env [] env
  | cons {o : Oper} {rest : List Oper} {env : List AV} {x : AV} {xs fin : List AV} : AYields P ops F μ ob o x env → Chain P ops F μ ob rest (putS env o.dst x) xs fin → Chain P ops F μ ob (o :: rest) env (x :: xs) fin

omit [Gl] in
theorem goes_sound {w : World} {env : List AV} {a : Act} {o : Oper} {c : Bool} (hf : FR w F μ env a.tmps) (hg : goes (guardV ops.toList env o.guard) = some c) : Region.wanted o (yielded ops a.tmps) = c := by
  have hw := guardV_sound (ops := ops) hf o
  unfold goes at hg
  split at hg
  · rename_i h; rw [h] at hw; cases hg; exact hw
  · rename_i h; rw [h] at hw; cases hg; exact hw
  · rename_i d c' want h
    rw [h] at hw
    cases hg
    exact hw.1
  · cases hg

theorem yields_of (hng : NoGone ob) (hty : TyOk P δ) {o : Oper} {env : List AV} {x0 x : AV} (hg : goes (guardV ops.toList (maskE (looks ops.toList o) 0 env) o.guard) = some true) (h : ∀ J : AV → List AO → Prop, J x0 ob → aop P δ o.op (maskE (looks ops.toList o) 0 env) ob J) (hx : ∀ w F μ v, VR w F μ x0 v → VR w F μ x v) : AYields P ops F μ ob o x env := by
  intro w a hs hf
  refine .inl ⟨goes_sound hf hg, fun next Q' hn => ?_⟩
  refine aop_sound hty hf hs (h (fun x' o' => x' = x0 ∧ o' = ob) ⟨rfl, rfl⟩) fun v x' w' μ' ob' h1 h2 h3 h4 => ?_
  obtain ⟨rfl, rfl⟩ := h4
  have := same_mu hng hs h2 h3
  subst this
  exact hn v w' (hx _ _ _ _ h1) h2 h3

theorem AYields.lit {o : Oper} {env : List AV} {b : Th Bool} {c : Bool} (h : AYields P ops F μ ob o (AB b) env) (hb : b.den = c) : AYields P ops F μ ob o (AB (.lit c)) env := by
  intro w a hs hf
  rcases h w a hs hf with ⟨h1, h2⟩ | ⟨h1, h2⟩
  · refine .inl ⟨h1, fun next Q' hn => h2 next Q' fun v w' g1 g2 g3 => hn v w' ?_ g2 g3⟩
    cases g1 with
    | c g1 => cases g1; rw [hb]; exact VR.b (.lit c)
  · cases h2

theorem chain_of (hng : NoGone ob) (hty : TyOk P δ) : ∀ (rest : List Oper) (env : List AV) (K : List AV → Prop), dq P δ ob ops.toList rest env K → ∃ xs fin, Chain P ops F μ ob rest env xs fin ∧ K fin
  | [], env, K, h => ⟨[], env, .nil, h⟩
  | o :: rest, env, K, h => by
    simp only [dq] at h
    split at h
    · rename_i hg
      obtain ⟨x0, x, h1, hx, h2⟩ := h.out
      have hy : AYields P ops F μ ob o x env := yields_of hng hty hg h1 hx
      have next : ∀ y, AYields P ops F μ ob o y env → dq P δ ob ops.toList rest (putS env o.dst y) K → ∃ xs fin, Chain P ops F μ ob (o :: rest) env xs fin ∧ K fin := by
        intro y hy h
        obtain ⟨xs, fin, g1, g2⟩ := chain_of hng hty rest _ K h
        exact ⟨y :: xs, fin, .cons hy g1, g2⟩
      split at h2
      · rename_i f d hd
        split at h2
        · obtain ⟨k1, k2⟩ := brT_iff h2
          cases hb : (Th.th f).den with
          | true => exact next _ (hy.lit hb) (by rw [hd]; exact k1 hb)
          | false => exact next _ (hy.lit hb) (by rw [hd]; exact k2 hb)
        · exact next _ hy (by rw [hd]; exact h2)
      · exact next _ hy h2
    · rename_i hg
      obtain ⟨xs, fin, g1, g2⟩ := chain_of hng hty rest _ K h
      refine ⟨AUnit :: xs, fin, .cons (fun w a hs hf => .inr ⟨?_, rfl⟩) g1, g2⟩
      exact goes_sound hf hg
    · exact h.elim

/-- What a slot holds once the operations L have been carried out. -/
def Cur (ops : Array Oper) (xs env : List AV) (L : Nat → Prop) (t : Nat) (x : AV) : Prop :=
  (∃ j o, L j ∧ ops[j]? = some o ∧ o.dst = some t ∧ xs[j]? = some x) ∨ ((∀ j o, L j → ops[j]? = some o → o.dst ≠ some t) ∧ env[t]? = some x)

theorem chain_cur {env0 xs0 : List AV} : ∀ {rest : List Oper} {env xs fin : List AV}, Chain P ops F μ ob rest env xs fin → ∀ (k : Nat), (∀ j, rest[j]? = ops[k + j]?) → (∀ j, xs[j]? = xs0[k + j]?) → (∀ t x, env[t]? = some x → Cur ops xs0 env0 (· < k) t x) →
    (∀ i o x, k ≤ i → ops[i]? = some o → xs0[i]? = some x → ∃ e, e.length = env.length ∧ AYields P ops F μ ob o x e ∧ ∀ t y, e[t]? = some y → Cur ops xs0 env0 (· < i) t y) ∧ (∀ t y, fin[t]? = some y → Cur ops xs0 env0 (· < ops.size) t y) ∧ fin.length = env.length ∧ xs.length = rest.length
  | _, env, _, _, .nil, k, h1, h2, h3 => by
    have hk : ops.size ≤ k := by
      have := h1 0
      simp at this
      omega
    refine ⟨fun i o x hi ho _ => ?_, fun t y hy => ?_, rfl, rfl⟩
    · have := (Array.getElem?_eq_some_iff.1 ho).1; omega
    · rcases h3 t y hy with ⟨j, o, a1, a2, a3⟩ | ⟨a1, a2⟩
      · exact .inl ⟨j, o, (Array.getElem?_eq_some_iff.1 a2).1, a2, a3⟩
      · exact .inr ⟨fun j o hj => a1 j o (by omega), a2⟩
  | _, env, _, _, .cons (o := o) (x := x0) hy hc, k, h1, h2, h3 => by
    have ho : ops[k]? = some o := by have := h1 0; simpa using this.symm
    have hx : xs0[k]? = some x0 := by have := h2 0; simpa using this.symm
    have hput : ∀ t x, (putS env o.dst x0)[t]? = some x → Cur ops xs0 env0 (· < k + 1) t x := by
      intro t x ht
      have old : o.dst ≠ some t → env[t]? = some x → Cur ops xs0 env0 (· < k + 1) t x := by
        intro hne he
        rcases h3 t x he with ⟨j, o', a1, a2⟩ | ⟨a1, a2⟩
        · exact .inl ⟨j, o', by omega, a2⟩
        · refine .inr ⟨fun j o' hj hoj => ?_, a2⟩
          rcases Nat.lt_or_ge j k with h | h
          · exact a1 j o' h hoj
          · have : j = k := by omega
            subst this
            rw [ho] at hoj; cases hoj; exact hne
      cases hd : o.dst with
      | none => rw [hd] at ht; exact old (by rw [hd]; simp) ht
      | some d =>
        rw [hd] at ht
        simp only [putS, setL_eq] at ht
        by_cases e : d = t
        · subst e
          have hlt : d < env.length := by
            have := (List.getElem?_eq_some_iff.1 ht).1; simpa using this
          rw [List.getElem?_set_self hlt] at ht
          cases ht
          exact .inl ⟨k, o, by omega, ho, hd, hx⟩
        · rw [List.getElem?_set_ne e] at ht
          exact old (by rw [hd]; simpa using e) ht
    obtain ⟨g1, g2, g3, g4⟩ := chain_cur hc (k + 1) (fun j => by have := h1 (j + 1); simpa [Nat.add_assoc, Nat.add_comm 1 j] using this) (fun j => by have := h2 (j + 1); simpa [Nat.add_assoc, Nat.add_comm 1 j] using this) hput
    have hlen : (putS env o.dst x0).length = env.length := by cases o.dst <;> simp [putS, setL_eq]
    refine ⟨fun i oi x hi hoi hxi => ?_, g2, by rw [g3, hlen], by simp [g4]⟩
    rcases Nat.lt_or_ge k i with h | h
    · obtain ⟨e, k1, k2, k3⟩ := g1 i oi x h hoi hxi
      exact ⟨e, by rw [k1, hlen], k2, k3⟩
    · have : i = k := by omega
      subst this
      rw [ho] at hoi; cases hoi
      rw [hx] at hxi; cases hxi
      exact ⟨env, rfl, hy, h3⟩

/-- What holds while such a region runs. -/
structure Inv (ops : Array Oper) (F : Nat → Prop) (μ : Mu) (ob : List AO) (xs env : List AV) (ds : List Deferred) (w0 : World) (listed : Array Bool) (a : Act) (w : World) : Prop where
  size : listed.size = ops.size
  tmps : a.tmps.size = env.length
  ds : a.defers = ds
  st : St w F μ ob
  ext : Ext w0 μ w μ
  shut : ∀ i oi, ops[i]? = some oi → listed.getD i false = true → ∀ e ∈ oi.after, Region.binds .any e = true → listed.getD e.on false = true
  cur : ∀ t x v, Cur ops xs env (fun j => listed.getD j false = true) t x → a.tmps[t]? = some v → VR w F μ x v

omit [Gl] in
theorem drawOk_spec (h : drawOk ops.toList = true) {i : Nat} {oi : Oper} (hi : ops[i]? = some oi) : (∀ e ∈ oi.after, Region.binds .any e = true → e.on < i) ∧
    ∀ j oj, ops[j]? = some oj → j ≠ i → ∀ t, oj.dst = some t → oi.dst ≠ some t ∧ (memN (looks ops.toList oi) t = true → (∃ e ∈ oi.after, Region.binds .any e = true ∧ e.on = j) ∨ ∃ e ∈ oj.after, Region.binds .any e = true ∧ e.on = i) := by
  have hlt := (Array.getElem?_eq_some_iff.1 hi).1
  have h1 := List.all_eq_true.1 h i (by simpa using hlt)
  have hi' : ops.toList[i]? = some oi := by simpa using hi
  simp only [hi', Bool.and_eq_true] at h1
  obtain ⟨h1, h2⟩ := h1
  refine ⟨fun e he hb => ?_, fun j oj hj hne t ht => ?_⟩
  · have := List.all_eq_true.1 h1 e (by simpa using he)
    simpa [hb] using this
  · have hjl := (Array.getElem?_eq_some_iff.1 hj).1
    have h3 := List.all_eq_true.1 h2 j (by simpa using hjl)
    have hj' : ops.toList[j]? = some oj := by simpa using hj
    simp only [hj', ht, Bool.or_eq_true, beq_iff_eq, hne, false_or, Bool.and_eq_true, bne_iff_ne, ne_eq] at h3
    refine ⟨h3.1, fun hm => ?_⟩
    rcases h3.2 with (h4 | h4) | h4
    · rw [hm] at h4; cases h4
    · obtain ⟨e, he, hb⟩ := List.any_eq_true.1 h4
      simp only [Bool.and_eq_true, beq_iff_eq] at hb
      exact .inl ⟨e, by simpa using he, hb.1, hb.2⟩
    · obtain ⟨e, he, hb⟩ := List.any_eq_true.1 h4
      simp only [Bool.and_eq_true, beq_iff_eq] at hb
      exact .inr ⟨e, by simpa using he, hb.1, hb.2⟩

omit [Gl] in
theorem getD_true {listed : Array Bool} {i j : Nat} (h : (listed.setIfInBounds i true).getD j false = true) : j = i ∨ listed.getD j false = true := by
  by_cases e : i = j
  · exact .inl e.symm
  · rw [getD_set_ne false e] at h; exact .inr h

theorem any_of {xs env : List AV} {ds : List Deferred} {w0 : World} {Q : Exit → Act → World → Prop} (hB : drawOk ops.toList = true) (hxl : xs.length = ops.size)
    (hY : ∀ i o x, ops[i]? = some o → xs[i]? = some x → ∃ e, e.length = env.length ∧ AYields P ops F μ ob o x e ∧ ∀ t y, e[t]? = some y → Cur ops xs env (· < i) t y)
    (hQ : ∀ a w, Inv ops F μ ob xs env ds w0 (Array.replicate ops.size true) a w → Q .normal a w) : ∀ (fuel : Nat) (listed : Array Bool) (a : Act) (w : World), Inv ops F μ ob xs env ds w0 listed a w → (listed.toList.filter (fun b => !b)).length ≤ fuel → wpAny P .any ops Q fuel listed a w := by
  have done : ∀ (listed : Array Bool) (a : Act) (w : World), Inv ops F μ ob xs env ds w0 listed a w → Region.ready .any ops listed = [] → Q .normal a w := by
    intro listed a w hI hr
    have all : ∀ i, i < ops.size → listed.getD i false = true := by
      intro i
      induction i using Nat.strongRecOn with
      | _ i ih =>
        intro hi
        have ho := Array.getElem?_eq_getElem hi
        cases hl : listed.getD i false with
        | true => rfl
        | false =>
          exfalso
          have : i ∈ Region.ready .any ops listed := by
            refine mem_ready.2 ⟨?_, _, ho, fun e he hb => ?_⟩
            · have hs : i < listed.size := by rw [hI.size]; exact hi
              simp [hs] at hl ⊢; exact hl
            · have h1 := (drawOk_spec hB ho).1 e he hb
              exact ih e.on h1 (by omega)
          rw [hr] at this
          cases this
    have e : listed = Array.replicate ops.size true := by
      refine Array.ext (by simp [hI.size]) fun i h1 h2 => ?_
      have := all i (by rw [← hI.size]; exact h1)
      simp [h1] at this
      simp [this]
    rw [e] at hI
    exact hQ a w hI
  intro fuel
  induction fuel with
  | zero =>
    intro listed a w hI hf
    have hr : Region.ready .any ops listed = [] := by
      cases hr : Region.ready .any ops listed with
      | nil => rfl
      | cons i l =>
        exfalso
        have : i ∈ Region.ready .any ops listed := by rw [hr]; simp
        obtain ⟨h1, o, ho, _⟩ := mem_ready.1 this
        have hlt : i < listed.size := by rw [hI.size]; exact (Array.getElem?_eq_some_iff.1 ho).1
        have hm : false ∈ listed.toList.filter (fun b => !b) := by
          simp [hlt] at h1
          simp only [List.mem_filter, Bool.not_false, and_true]
          rw [← h1]
          simp
        have := List.length_pos_of_mem hm
        omega
    exact ⟨hr, done listed a w hI hr⟩
  | succ fuel ih =>
    intro listed a w hI hf
    refine ⟨done listed a w hI, fun i hi => ?_⟩
    obtain ⟨hun, oi, hoi, haf⟩ := mem_ready.1 hi
    have hlt : i < ops.size := (Array.getElem?_eq_some_iff.1 hoi).1
    have hll : i < listed.size := by rw [hI.size]; exact hlt
    have hunf : listed.getD i false = false := by simp [hll] at hun ⊢; exact hun
    obtain ⟨hok1, hok2⟩ := drawOk_spec hB hoi
    have hx : xs[i]? = some xs[i] := List.getElem?_eq_getElem (by omega)
    obtain ⟨e, e1, e2, e3⟩ := hY i oi _ hoi hx
    -- the frame, where the operation looks
    have hfr : FR w F μ (maskE (looks ops.toList oi) 0 e) a.tmps := by
      refine ⟨by rw [maskE_len, e1]; exact hI.tmps, fun t y v hy hv => ?_⟩
      rw [maskE_get, Nat.zero_add] at hy
      cases het : e[t]? with
      | none => rw [het] at hy; cases hy
      | some y0 =>
        rw [het] at hy
        simp only [Option.map_some, Option.some.injEq] at hy
        cases hm : memN (looks ops.toList oi) t with
        | false => rw [hm] at hy; subst hy; exact .junk
        | true =>
          rw [hm] at hy
          simp only at hy
          subst hy
          refine hI.cur t y0 v ?_ hv
          rcases e3 t y0 het with ⟨j, oj, h1, h2, h3, h4⟩ | ⟨h1, h2⟩
          · refine .inl ⟨j, oj, ?_, h2, h3, h4⟩
            rcases (hok2 j oj h2 (by omega) t h3).2 hm with ⟨e', g1, g2, g3⟩ | ⟨e', g1, g2, g3⟩
            · rw [← g3]; exact haf e' g1 g2
            · have := (drawOk_spec hB h2).1 e' g1 g2
              omega
          · refine .inr ⟨fun j oj hj hoj hd => ?_, h2⟩
            have hne : j ≠ i := fun e => by
              subst e
              have hj' : listed.getD j false = true := hj
              rw [hunf] at hj'; cases hj'
            rcases Nat.lt_or_ge j i with hji | hji
            · exact h1 j oj hji hoj hd
            · rcases (hok2 j oj hoj hne t hd).2 hm with ⟨e', g1, g2, g3⟩ | ⟨e', g1, g2, g3⟩
              · have := hok1 e' g1 g2
                omega
              · have := hI.shut j oj hoj hj e' g1 g2
                rw [g3, hunf] at this
                cases this
    have hcount : ((listed.setIfInBounds i true).toList.filter (fun b => !b)).length ≤ fuel := by
      have hfl : listed.toList[i]? = some false := by
        simp [hll] at hunf
        rw [Array.getElem?_toList, Array.getElem?_eq_getElem hll, hunf]
      have key : ∀ (l : List Bool) (i : Nat), l[i]? = some false → ((l.set i true).filter (fun b => !b)).length + 1 = (l.filter (fun b => !b)).length := by
        intro l
        induction l with
        | nil => intro i h; simp at h
        | cons b l ih =>
          intro i h
          cases i with
          | zero => simp at h; subst h; simp
          | succ i =>
            have := ih i (by simpa using h)
            cases b <;> simp [List.set] at this ⊢ <;> omega
      have := key listed.toList i hfl
      rw [Array.toList_setIfInBounds]
      omega
    have step : ∀ v w', VR w' F μ xs[i] v → St w' F μ ob → Ext w μ w' μ → wpAny P .any ops Q fuel (listed.setIfInBounds i true) (a.put oi.dst v) w' := by
      intro v w' hv hs' hx'
      refine ih _ _ _ ⟨by simp [hI.size], ?_, by rw [put_defers]; exact hI.ds, hs', hI.ext.trans hx', ?_, ?_⟩ hcount
      · rw [← hI.tmps]; cases oi.dst <;> simp [Act.put]
      · intro j oj hoj hj e he hb
        rcases getD_true hj with rfl | hj
        · rw [hoi] at hoj; cases hoj
          exact getD_set_true (haf e he hb)
        · exact getD_set_true (hI.shut j oj hoj hj e he hb)
      · intro t x u hc hu
        by_cases hd : oi.dst = some t
        · -- its own slot
          have hxi : x = xs[i] := by
            rcases hc with ⟨j, oj, h1, h2, h3, h4⟩ | ⟨h1, _⟩
            · by_cases e : j = i
              · subst e
                rw [hx] at h4; cases h4; rfl
              · exact ((hok2 j oj h2 e t h3).1 hd).elim
            · refine (h1 i oi ?_ hoi hd).elim
              simp [hll]
          subst hxi
          rw [hd] at hu
          simp only [Act.put] at hu
          have hlt' : t < a.tmps.size := by
            have := (Array.getElem?_eq_some_iff.1 hu).1; simpa using this
          rw [Array.getElem?_setIfInBounds_self_of_lt hlt'] at hu
          cases hu; exact hv
        · have hu' : a.tmps[t]? = some u := by
            cases hod : oi.dst with
            | none => rw [hod] at hu; exact hu
            | some d =>
              rw [hod] at hu
              have hne : d ≠ t := fun e => hd (by rw [hod, e])
              simp only [Act.put] at hu
              rwa [Array.getElem?_setIfInBounds_ne hne] at hu
          refine (hI.cur t x u ?_ hu').ext hx'
          rcases hc with ⟨j, oj, h1, h2, h3, h4⟩ | ⟨h1, h2⟩
          · rcases getD_true h1 with rfl | h1
            · rw [hoi] at h2; cases h2; exact (hd h3).elim
            · exact .inl ⟨j, oj, h1, h2, h3, h4⟩
          · exact .inr ⟨fun j oj hj hoj => h1 j oj (getD_set_true hj) hoj, h2⟩
    unfold wpOp
    simp only [hoi]
    rcases e2 w a hI.st hfr with ⟨h1, h2⟩ | ⟨h1, h2⟩
    · rw [if_pos h1]
      exact .inl (h2 _ _ step)
    · rw [if_neg (by rw [h1]; simp)]
      exact step undef w (by rw [h2]; exact VR.unit) hI.st (.refl w μ)

/-- **A region whose order is drawn**: its lexical walk serves every order. -/
theorem ADraw.of (hty : TyOk P δ) (hm : P.follows .mixedOrders = true) {m id : Nat} {env : List AV} {Q : List AV → List AO → Prop} (hB : drawOk ops.toList = true) (h : dq P δ ob ops.toList ops.toList env (fun e => Q e ob)) (hng : NoGone ob := by exact .nil) : ADraw P δ m id ops env ob Q := by
  refine ⟨fun w F μ a hm' hf hs => ?_⟩
  obtain ⟨xs, fin, hc, hk⟩ := chain_of (F := F) (μ := μ) hng hty ops.toList env _ h
  obtain ⟨g1, g2, g3, g4⟩ := chain_cur (xs0 := xs) (env0 := env) hc 0 (by simp) (by simp) (fun t x ht => .inr ⟨fun j o hj => by omega, ht⟩)
  have hxl : xs.length = ops.size := by simpa using g4
  have hx1 : Ext w μ { w with drawn := w.drawn + 1 } μ := Ext.drewN w μ _
  refine wp_region_any hm (any_of (xs := xs) (env := env) (F := F) (μ := μ) (ob := ob) (ds := a.defers) (w0 := w) hB hxl (fun i o x ho hx => g1 i o x (Nat.zero_le _) ho hx) ?_ _ _ _ _ ?_ (by simp))
  · intro a' w' hI
    refine ⟨fin, ob, μ, hk, ⟨by rw [g3]; exact hI.tmps, fun t x v hx hv => ?_⟩, hI.st, hI.ext.toB hm', hI.ds⟩
    refine hI.cur t x v ?_ hv
    rcases g2 t x hx with ⟨j, o, h1, h2⟩ | ⟨h1, h2⟩
    · exact .inl ⟨j, o, by simp [h1], h2⟩
    · exact .inr ⟨fun j o hj ho => h1 j o (Array.getElem?_eq_some_iff.1 ho).1 ho, h2⟩
  · refine ⟨by simp, hf.1, rfl, hs.same hx1 (fun _ _ => rfl), hx1, fun i oi _ hl => ?_, fun t x v hc hv => ?_⟩
    · rw [Array.getD_eq_getD_getElem?, Array.getElem?_replicate] at hl
      split at hl <;> simp at hl
    · rcases hc with ⟨j, o, h1, _⟩ | ⟨_, h2⟩
      · replace h1 : (Array.replicate ops.size false).getD j false = true := h1
        rw [Array.getD_eq_getD_getElem?, Array.getElem?_replicate] at h1
        split at h1 <;> simp at h1
      · exact (hf.2 t x v h2 hv).ext hx1
end
end Go.Abs
