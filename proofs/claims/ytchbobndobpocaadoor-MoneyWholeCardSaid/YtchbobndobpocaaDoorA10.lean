/- The abstract machine, part 10: rows of operations, control, functions. -/
import Derived.Test.YtchbobndobpocaaDoorA9
import Derived.Deep.Quiet
namespace Go.Abs
variable [Gl]
section
variable {P : Program} {δ : Nat → Option TD}

omit [Gl] in
theorem guardV_sound {w : World} {F : Nat → Prop} {μ : Mu} {env : List AV} {a : Act} {ops : Array Oper} (hf : FR w F μ env a.tmps) (o : Oper) :
    match guardV ops.toList env o.guard with
    | .go => Region.wanted o (yielded ops a.tmps) = true
    | .skip => Region.wanted o (yielded ops a.tmps) = false
    | .by d b want => Region.wanted o (yielded ops a.tmps) = (b.den == want) ∧ (∀ v, a.tmps[d]? = some v → v = .bool b.den)
    | .bad => True := by
  obtain ⟨dst, op, ty, pos, after, guard⟩ := o
  cases guard with
  | none => simp [guardV, Region.wanted]
  | some g =>
    obtain ⟨j, want⟩ := g
    simp only [guardV, nth_eq]
    cases hj : ops.toList[j]? with
    | none => trivial
    | some oj =>
      have hj' : ops[j]? = some oj := by simpa using hj
      simp only
      cases hd : oj.dst with
      | none => trivial
      | some d =>
        simp only
        unfold getS
        cases hn : nth env d with
        | none => trivial
        | some x =>
          rw [nth_eq] at hn
          have hlt : d < a.tmps.size := by rw [hf.1]; exact (List.getElem?_eq_some_iff.1 hn).1
          have hv := hf.2 d x a.tmps[d] hn (Array.getElem?_eq_getElem hlt)
          have hy : ∀ u, a.tmps[d] = u → yielded ops a.tmps j = match some u with | some (.bool b) => some b | _ => none := by
            intro u hu
            simp only [yielded, hj', hd, Option.bind_some, Array.getElem?_eq_getElem hlt, hu]
            rfl
          cases x with
          | c t =>
            cases t with
            | bool b =>
              refine ⟨by simp [Region.wanted, hy _ hv.bE], fun v hv' => ?_⟩
              rw [Array.getElem?_eq_getElem hlt] at hv'
              cases hv'; exact hv.bE
            | _ => trivial
          | tup vs =>
            cases vs with
            | nil =>
              generalize hu : a.tmps[d] = u at hv
              cases hv with
              | tup h1 h2 => simp [Region.wanted, hy _ hu]
            | cons v vs => trivial
          | _ => trivial

omit [Gl] in
theorem FR.know {w : World} {F : Nat → Prop} {μ : Mu} {env : List AV} {tmps : Array Value} (hf : FR w F μ env tmps) {d : Nat} {b : Bool} (h : ∀ v, tmps[d]? = some v → v = .bool b) : FR w F μ (setL env d (AB (.lit b))) tmps := by
  rw [setL_eq]
  refine ⟨by simp [hf.1], fun i x v hx hv => ?_⟩
  by_cases e : d = i
  · subst e
    rw [List.getElem?_set_self (by rw [← hf.1]; exact (Array.getElem?_eq_some_iff.1 hv).1)] at hx
    cases hx
    rw [h v hv]
    exact VR.b (.lit b)
  · rw [List.getElem?_set_ne e] at hx
    exact hf.2 i x v hx hv

omit [Gl] in
theorem put_defers (a : Act) (d : Option Tmp) (v : Value) : (a.put d v).defers = a.defers := by cases d <;> rfl

theorem aops_sound (hty : TyOk P δ) {ops : Array Oper} {Q : Exit → Act → World → Prop} : ∀ (rest : List Oper) {env : List AV} {ob : List AO} {K : List AV → List AO → Prop} {a : Act} {w : World} {F : Nat → Prop} {μ : Mu},
    FR w F μ env a.tmps → St w F μ ob → aops P δ ops.toList rest env ob K →
    (∀ (a' : Act) (w' : World) (μ' : Mu) env' ob', FR w' F μ' env' a'.tmps → St w' F μ' ob' → Ext w μ w' μ' → a'.defers = a.defers → K env' ob' → Q .normal a' w') → wpList P ops Q rest a w
  | [], env, ob, K, a, w, F, μ, hf, hs, h, hk => by
    simp only [aops] at h
    exact hk a w μ env ob hf hs (.refl w μ) rfl h
  | o :: rest, env, ob, K, a, w, F, μ, hf, hs, h, hk => by
    have hg := guardV_sound (ops := ops) hf o
    have run : ∀ {env : List AV}, FR w F μ env a.tmps → Region.wanted o (yielded ops a.tmps) = true → (aop P δ o.op env ob fun v ob' => aops P δ ops.toList rest (putS env o.dst v) ob' K) → wpList P ops Q (o :: rest) a w := by
      intro env hf hw h
      unfold wpList
      rw [if_pos hw]
      refine .inl (aop_sound hty hf hs h fun v x w' μ' ob' h1 h2 h3 h4 => ?_)
      exact aops_sound hty rest ((hf.ext h3).put h1 o.dst) h2 h4 fun a' w'' μ'' env' ob'' g1 g2 g3 g4 g5 => hk a' w'' μ'' env' ob'' g1 g2 (h3.trans g3) (by rw [g4, put_defers]) g5
    have skip : ∀ {env : List AV}, FR w F μ env a.tmps → Region.wanted o (yielded ops a.tmps) = false → aops P δ ops.toList rest (putS env o.dst AUnit) ob K → wpList P ops Q (o :: rest) a w := by
      intro env hf hw h
      unfold wpList
      rw [if_neg (by rw [hw]; simp)]
      exact aops_sound hty rest (hf.put VR.unit o.dst) hs h fun a' w'' μ'' env' ob'' g1 g2 g3 g4 g5 => hk a' w'' μ'' env' ob'' g1 g2 g3 (by rw [g4, put_defers]) g5
    simp only [aops] at h
    generalize guardV ops.toList env o.guard = gv at h hg
    cases gv with
    | go => exact run hf hg h
    | skip => exact skip hf hg h
    | bad => exact h.elim
    | «by» d b want =>
      obtain ⟨hg, hd⟩ := hg
      cases want with
      | true =>
        obtain ⟨h1, h2⟩ := brT_iff h
        cases hb : b.den with
        | true => exact run (hf.know (b := true) fun v hv => by rw [hd v hv, hb]) (by rw [hg, hb]; rfl) (h1 hb)
        | false => exact skip (hf.know (b := false) fun v hv => by rw [hd v hv, hb]) (by rw [hg, hb]; rfl) (h2 hb)
      | false =>
        obtain ⟨h1, h2⟩ := brT_iff h
        cases hb : b.den with
        | true => exact skip (hf.know (b := true) fun v hv => by rw [hd v hv, hb]) (by rw [hg, hb]; rfl) (h1 hb)
        | false => exact run (hf.know (b := false) fun v hv => by rw [hd v hv, hb]) (by rw [hg, hb]; rfl) (h2 hb)

theorem QC.mono {m : Nat} {w0 : World} {F : Nat → Prop} {μ0 : Mu} {ds : List Deferred} {Q Q' : AE → List AV → List AO → Prop} (hq : ∀ e v o, Q e v o → Q' e v o) {e : Exit} {a : Act} {w : World} (h : QC m w0 F μ0 ds Q e a w) : QC m w0 F μ0 ds Q' e a w := by
  cases e with
  | normal => obtain ⟨e, o, μ, h1, h2⟩ := h; exact ⟨e, o, μ, hq _ _ _ h1, h2⟩
  | exit i => obtain ⟨e, o, μ, h1, h2⟩ := h; exact ⟨e, o, μ, hq _ _ _ h1, h2⟩
  | ret => obtain ⟨e, o, μ, h1, h2⟩ := h; exact ⟨e, o, μ, hq _ _ _ h1, h2⟩
  | _ => exact h.elim
theorem QC.ext {m : Nat} {w0 w1 : World} {F : Nat → Prop} {μ0 μ1 : Mu} {ds : List Deferred} {Q : AE → List AV → List AO → Prop} (hx : ExtB m w0 μ0 w1 μ1) {e : Exit} {a : Act} {w : World} (h : QC m w1 F μ1 ds Q e a w) : QC m w0 F μ0 ds Q e a w := by
  cases e with
  | normal => obtain ⟨e, o, μ, h1, h2, h3, h4, h5⟩ := h; exact ⟨e, o, μ, h1, h2, h3, hx.trans h4, h5⟩
  | exit i => obtain ⟨e, o, μ, h1, h2, h3, h4, h5⟩ := h; exact ⟨e, o, μ, h1, h2, h3, hx.trans h4, h5⟩
  | ret => obtain ⟨e, o, μ, h1, h2, h3, h4, h5⟩ := h; exact ⟨e, o, μ, h1, h2, h3, hx.trans h4, h5⟩
  | _ => exact h.elim

theorem aw_sound (hty : TyOk P δ) {m : Nat} : ∀ (c : Code) {env : List AV} {ob : List AO} {Q : AE → List AV → List AO → Prop}, aw P δ m c env ob Q → ACode P m c env ob Q
  | .skip, env, ob, Q, h => ⟨fun w F μ a hm hf hs => wp_skip ⟨env, ob, μ, h, hf, hs, (Ext.refl w μ).toB hm, rfl⟩⟩
  | .region id ops draw, env, ob, Q, h => by
    simp only [aw] at h
    cases draw with
    | false =>
      refine ⟨fun w F μ a hm hf hs => wp_region_list (aops_sound hty ops.toList hf hs h fun a' w' μ' env' ob' g1 g2 g3 g4 g5 => ⟨env', ob', μ', g5, g1, g2, g3.toB hm, g4⟩)⟩
    | true =>
      refine ⟨fun w F μ a hm hf hs => Code.wp_mono (fun e a w hq => QC.mono (fun e v o hq => ?_) hq) (h.run w F μ a hm hf hs)⟩
      cases e <;> first | exact hq | exact hq.elim
  | .seq x y, env, ob, Q, h => by
    simp only [aw] at h
    have hx := aw_sound hty x h
    refine ⟨fun w F μ a hm hf hs => wp_seq (Code.wp_mono (fun e a' w' hq => ?_) (hx.run w F μ a hm hf hs))⟩
    cases e with
    | normal =>
      obtain ⟨e, o, μ', h1, h2, h3, h4, h5⟩ := hq
      have hy := (aw_sound hty y h1).run w' F μ' a' h4.len h2 h3
      exact Code.wp_mono (fun e a'' w'' hq => by rw [h5] at hq; exact hq.ext h4) hy
    | exit i => obtain ⟨e, o, μ', h1, h2⟩ := hq; exact ⟨e, o, μ', h1, h2⟩
    | ret => obtain ⟨e, o, μ', h1, h2⟩ := hq; exact ⟨e, o, μ', h1, h2⟩
    | goto l => exact hq.elim
    | panic c => exact hq.elim
    | outgrown => exact hq.elim
  | .cond c x y, env, ob, Q, h => by
    simp only [aw] at h
    split at h
    · rename_i t ht
      refine ⟨fun w F μ a hm hf hs => ?_⟩
      have hc := opnd_sound hf c
      rw [ht] at hc
      obtain ⟨h1, h2⟩ := brT_iff h
      have hset : ∀ b, t.den = b → FR w F μ (setC env c b) a.tmps := by
        intro b hb
        cases c with
        | tmp d =>
          refine hf.know fun v hv => ?_
          have h3 := hc.bE
          have h4 : a.eval (.tmp d) = a.tmps.getD d undef := rfl
          rw [h4, Array.getD_eq_getD_getElem?, hv] at h3
          rw [← hb]; exact h3
        | _ => exact hf
      exact wp_cond_split hc.bE (fun hb => (aw_sound hty x (h1 hb)).run w F μ a hm (hset true hb) hs) (fun hb => (aw_sound hty y (h2 hb)).run w F μ a hm (hset false hb) hs)
    · exact h.elim
  | .block id x, env, ob, Q, h => by
    simp only [aw] at h
    have hx := aw_sound hty x h
    refine ⟨fun w F μ a hm hf hs => wp_block (Code.wp_mono (fun e a' w' hq => ?_) (hx.run w F μ a hm hf hs))⟩
    cases e with
    | normal => exact hq
    | exit i =>
      obtain ⟨e, o, μ', h1, h2⟩ := hq
      have h1' : (match i == id with | true => Q .normal e o | false => Q (.exit i) e o) := h1
      simp only [Exit.inBlock]
      cases hi : i == id with
      | true =>
        rw [hi] at h1'
        rw [if_pos (by simpa using hi)]
        exact ⟨e, o, μ', h1', h2⟩
      | false =>
        rw [hi] at h1'
        rw [if_neg (by simpa using hi)]
        exact ⟨e, o, μ', h1', h2⟩
    | ret => exact hq
    | goto l => exact hq.elim
    | panic c => exact hq.elim
    | outgrown => exact hq.elim
  | .loop x, env, ob, Q, h => h
  | .ret, env, ob, Q, h => ⟨fun w F μ a hm hf hs => wp_ret ⟨env, ob, μ, h, hf, hs, (Ext.refl w μ).toB hm, rfl⟩⟩
  | .exit i, env, ob, Q, h => ⟨fun w F μ a hm hf hs => wp_exit ⟨env, ob, μ, h, hf, hs, (Ext.refl w μ).toB hm, rfl⟩⟩
  | .label l, env, ob, Q, h => ⟨fun w F μ a hm hf hs => wp_label ⟨env, ob, μ, h, hf, hs, (Ext.refl w μ).toB hm, rfl⟩⟩
  | .scope x, env, ob, Q, h => by
    simp only [aw] at h
    have hx := aw_sound hty x h
    refine ⟨fun w F μ a hm hf hs => wp_scope_straight (Code.wp_mono (fun e a' w' hq => ?_) (hx.run w F μ a hm hf hs))⟩
    cases e <;> exact hq
  | .rangeFunc f p x y, env, ob, Q, h => h.elim
  | .goto l, env, ob, Q, h => h.elim
  | .refuse s, env, ob, Q, h => h.elim

/-! ### Results -/
def rv1 (tmps : Array Value) : ResultVar → Sem Value
  | .tmp t => pure (tmps.getD t undef)
  | .cell a t => do loadVar t (← asAddr (tmps.getD a undef))

theorem resS_sound (hty : TyOk P δ) {w : World} {F : Nat → Prop} {μ : Mu} {env : List AV} {ob : List AO} {tmps : Array Value} (hf : FR w F μ env tmps) (hs : St w F μ ob) {r : ResultVar} {x : AV} (h : resS δ env ob r = some x) :
    ∃ v, (rv1 tmps r).run P w = .ok v w ∧ VR w F μ x v := by
  unfold resS at h
  split at h
  · rename_i t
    split at h
    · rename_i y hy
      cases h
      have := getS_sound hf t
      unfold getS at this
      rw [hy] at this
      exact ⟨_, rfl, this⟩
    · cases h
  · rename_i t ty
    split at h
    · rename_i d o off hd hg
      split at h
      · rename_i cs hcs
        obtain ⟨b, hb, hob⟩ := hs.box hcs (by simp)
        have hv := getS_sound hf t
        rw [hg] at hv
        obtain ⟨v, h1, h2⟩ := loadB_sound hty hd (Reads.box hob) h
        refine ⟨v, ?_, h2⟩
        rw [Nat.zero_add] at h1
        simp [rv1, hv.refE hb, asAddr, h1 w (.refl w)]
      · cases h
    · cases h

theorem resL_sound (hty : TyOk P δ) {w : World} {F : Nat → Prop} {μ : Mu} {env : List AV} {ob : List AO} {tmps : Array Value} (hf : FR w F μ env tmps) (hs : St w F μ ob) : ∀ (rs : List ResultVar) (xs : List AV), resL δ env ob rs = some xs →
    ∃ vs, (rs.mapM (rv1 tmps)).run P w = .ok vs w ∧ VRs w F μ xs vs
  | [], xs, h => by simp [resL] at h; subst h; exact ⟨[], rfl, rfl, fun i x v h => by simp at h⟩
  | r :: rs, xs, h => by
    simp only [resL] at h
    split at h
    · rename_i x xs' h1 h2
      cases h
      obtain ⟨v, g1, g2⟩ := resS_sound hty hf hs h1
      obtain ⟨vs, g3, g4, g5⟩ := resL_sound hty hf hs rs xs' h2
      refine ⟨v :: vs, ?_, by simp [g4], fun i y u hy hu => ?_⟩
      · simp only [List.mapM_cons, Sem.run_bind]
        simp only [g1, Result.andThen_ok, g3, Sem.run_pure]
      · cases i with
        | zero => simp at hy hu; subst hy; subst hu; exact g2
        | succ i => exact g5 i y u (by simpa using hy) (by simpa using hu)
    · cases h

theorem ares_sound (hty : TyOk P δ) {w : World} {F : Nat → Prop} {μ : Mu} {env : List AV} {ob : List AO} {tmps : Array Value} (hf : FR w F μ env tmps) (hs : St w F μ ob) {fn : Func} {K : AV → List AO → Prop} (h : ares δ fn.results.toList env ob K) :
    ∃ v x, (results fn tmps).run P w = .ok v w ∧ VR w F μ x v ∧ K x ob := by
  have main : ∀ xs, resL δ env ob fn.results.toList = some xs → ∃ vs, VRs w F μ xs vs ∧ (results fn tmps).run P w = .ok (if h : vs.toArray.size = 1 then vs.toArray[0] else .tuple vs.toArray) w := by
    intro xs hx
    obtain ⟨vs, g1, g2⟩ := resL_sound hty hf hs fn.results.toList xs hx
    refine ⟨vs, g2, ?_⟩
    have hr : results fn tmps = (do let vs ← fn.results.mapM (rv1 tmps); pure (if h : vs.size = 1 then vs[0] else .tuple vs)) := by
      unfold results
      congr 2
    rw [hr, Array.mapM_eq_mapM_toList]
    simp only [Sem.run_bind, Sem.run_map, g1, Result.andThen_ok, Sem.run_pure]
  unfold ares at h
  split at h
  · rename_i x hx
    obtain ⟨vs, g1, g2⟩ := main _ hx
    obtain ⟨v, rfl⟩ := List.length_eq_one_iff.1 g1.1
    exact ⟨v, x, by simpa using g2, g1.2 0 x v rfl rfl, h⟩
  · rename_i xs hne hx
    obtain ⟨vs, g1, g2⟩ := main _ hx
    refine ⟨.tuple vs.toArray, .tup xs, ?_, .tup (by simp [g1.1]) fun i x v hx hv => g1.2 i x v hx (by simpa using hv), h⟩
    have hn1 : ¬ vs.toArray.size = 1 := by
      intro he
      have : xs.length = 1 := by rw [← g1.1]; simpa using he
      obtain ⟨x, rfl⟩ := List.length_eq_one_iff.1 this
      exact hne x rfl
    rw [g2, dif_neg hn1]
  · exact h.elim

omit [Gl] in
theorem undefs_eq (n : Nat) : undefs n = List.replicate n AUnit := by induction n <;> simp [undefs, List.replicate_succ, *]

/-- **A function is entered.** -/
theorem acall_enter (hty : TyOk P δ) {f : FuncId} {fn : Func} {c : Code} (hf : P.funcs[f]? = some fn) (hb : fn.body = some c) (hname : (fn.name == "runtime.NumGoroutine") = false) {args : List AV} {ob : List AO} {K : AV → List AO → Prop}
    (h : abody P δ c fn.results.toList fn.ntmps args ob K) : ACall P f args ob K := by
  refine ⟨fun w F μ cargs hv hs => ?_⟩
  have hcf : (callFunc f cargs).run P w = .ok (.enter f cargs) w := by
    have hn : ¬ fn.name = "runtime.NumGoroutine" := by simpa using hname
    simp [callFunc, hf, hn, hb]
  unfold CallsX
  rw [hcf]
  refine ⟨rfl, rfl, rfl, calls_of_wp hf hb ?_⟩
  have hfr : FR w F μ (appL args (undefs (fn.ntmps - lenL args))) (cargs ++ Array.replicate (fn.ntmps - cargs.size) undef) := by
    have hl : cargs.size = args.length := by have := hv.1; simpa using this
    rw [appL_eq, undefs_eq, lenL_eq]
    refine ⟨by simp [hl], fun i x v hx hv' => ?_⟩
    rcases Nat.lt_or_ge i args.length with hlt | hge
    · rw [List.getElem?_append_left hlt] at hx
      rw [Array.getElem?_append_left (by omega)] at hv'
      exact hv.2 i x v hx (by simpa using hv')
    · rw [List.getElem?_append_right hge, List.getElem?_replicate] at hx
      rw [Array.getElem?_append_right (by omega), Array.getElem?_replicate] at hv'
      split at hx
      · split at hv'
        · cases hx; cases hv'; exact VR.unit
        · cases hv'
      · cases hx
  have hm : lenL ob = μ.length := by rw [lenL_eq, hs.len]
  have hw := (aw_sound hty c h).run w F μ { tmps := cargs ++ Array.replicate (fn.ntmps - cargs.size) undef, defers := [] } (Nat.le_of_eq hm) hfr hs
  refine Code.wp_mono (fun e a w' hq => ?_) hw
  cases e with
  | normal =>
    obtain ⟨env, ob', μ', h1, h2, h3, h4, h5⟩ := hq
    obtain ⟨v, x, g1, g2, g3⟩ := ares_sound hty h2 h3 h1
    exact ⟨h5, v, g1, v, x, ob', μ', rfl, g2, h3, h4.toExt hm, g3⟩
  | ret =>
    obtain ⟨env, ob', μ', h1, h2, h3, h4, h5⟩ := hq
    obtain ⟨v, x, g1, g2, g3⟩ := ares_sound hty h2 h3 h1
    exact ⟨h5, v, g1, v, x, ob', μ', rfl, g2, h3, h4.toExt hm, g3⟩
  | exit i => obtain ⟨env, ob', μ', h1, _⟩ := hq; exact h1.elim
  | goto l => exact hq.elim
  | panic c => exact hq.elim
  | outgrown => exact hq.elim

theorem ACall.mono {f : FuncId} {args : List AV} {ob : List AO} {K K' : AV → List AO → Prop} (h : ACall P f args ob K) (hk : ∀ x o, K x o → K' x o) : ACall P f args ob K' := by
  refine ⟨fun w F μ cargs hv hs => ?_⟩
  have := h.run w F μ cargs hv hs
  unfold CallsX at this ⊢
  split at this
  · obtain ⟨h1, h2, h3, h4⟩ := this
    exact ⟨h1, h2, h3, h4.mono fun e w' ⟨v, x, ob', μ', g1, g2, g3, g4, g5⟩ => ⟨v, x, ob', μ', g1, g2, g3, g4, hk _ _ g5⟩⟩
  · obtain ⟨v, x, ob', μ', g1, g2, g3, g4, g5⟩ := this
    exact ⟨v, x, ob', μ', g1, g2, g3, g4, hk _ _ g5⟩
  · exact this.elim

end
end Go.Abs
