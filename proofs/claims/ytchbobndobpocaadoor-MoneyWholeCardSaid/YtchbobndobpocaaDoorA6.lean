/- The abstract machine, part 6: lengths, arithmetic, comparisons, literals, maps. -/
import Derived.Test.YtchbobndobpocaaDoorA5
namespace Go.Abs
variable [Gl]
section
variable {P : Program} {δ : Nat → Option TD} {w : World} {F : Nat → Prop} {μ : Mu} {ob : List AO} {K : AV → List AO → Prop}

omit [Gl] in
theorem VR.i (k : IntKind) (n : Th Int) : VR w F μ (AI k n) (.int k n.den) := .c .int
omit [Gl] in
theorem VR.b (b : Th Bool) : VR w F μ (AB b) (.bool b.den) := .c .bool
omit [Gl] in
theorem VR.s (s : Th ByteArray) : VR w F μ (AS s) (.string s.den) := .c .str
omit [Gl] in
theorem VR.iE {k n v} (h : VR w F μ (AI k n) v) : v = .int k n.den := by cases h with | c h => cases h; rfl
omit [Gl] in
theorem VR.bE {b v} (h : VR w F μ (AB b) v) : v = .bool b.den := by cases h with | c h => cases h; rfl
omit [Gl] in
theorem VR.sE {s v} (h : VR w F μ (AS s) v) : v = .string s.den := by cases h with | c h => cases h; rfl
omit [Gl] in
theorem VR.litE {u v} (h : VR w F μ (.c (.lit u)) v) : v = u := by cases h with | c h => cases h; rfl

theorem alen_sound (hty : TyOk P δ) (hs : St w F μ ob) {t : Nat} {x : AV} {v : Value} (hv : VR w F μ x v) (h : alen δ t x ob K) (ty : TypeId) : DoneQ P (Builtin.len_ #[t] ty #[v]) w F μ ob K := by
  unfold alen at h
  split at h
  · rename_i d hd
    split at h
    · rename_i hsh
      have hu := und_str hty hd hsh
      split at h
      · rename_i s
        refine .q (v := .int .i64 (m1 (fun s : ByteArray => (s.size : Int)) s).den) (fun w' hw => ?_) (VR.i _ _) h
        rw [hv.sE]; simp [Builtin.len_, run_underlying hu, goInt]
      · exact h.elim
    · rename_i e hsh
      have hu := und_slice hty hd hsh
      split at h
      · rename_i o k i len cap
        obtain ⟨a, hve, _⟩ := hv.slV
        refine .q (v := .int .i64 (m1 Int.ofNat len).den) (fun w' hw => ?_) (VR.i _ _) h
        rw [hve]; simp [Builtin.len_, run_underlying hu, goInt]
      · rename_i k es
        cases hv with
        | c hv =>
          obtain ⟨k2, p, cap, r1, r6, r6', _⟩ := vsl_form (.inl ⟨_, _, rfl⟩) hv
          refine .q (v := .int .i64 (Th.lit (Int.ofNat (lenL es))).den) (fun w' hw => ?_) (VR.i _ _) h
          rw [r1]; simp [Builtin.len_, run_underlying hu, goInt, T.rows, lenL_eq]
      · rename_i k f
        cases hv with
        | c hv =>
          obtain ⟨k2, p, cap, r1, r6, r6', _⟩ := vsl_form (.inr ⟨_, _, rfl⟩) hv
          refine .q (v := .int .i64 (Th.th fun _ => ((T.vslS k f).rows.length : Int)).den) (fun w' hw => ?_) (VR.i _ _) h
          rw [r1]; simp [Builtin.len_, run_underlying hu, goInt]
      · refine .q (v := .int .i64 (Th.lit (0 : Int)).den) (fun w' hw => ?_) (VR.i _ _) h
        rw [hv.litE]; simp [Builtin.len_, run_underlying hu, goInt]
      · exact h.elim
    · rename_i n e hsh
      have hu := und_array hty hd hsh
      refine .q (v := .int .i64 (Th.lit (Int.ofNat n)).den) (fun w' hw => ?_) (VR.i _ _) h
      simp [Builtin.len_, run_underlying hu, goInt]
    · rename_i k e hsh
      have hu := und_map hty hd hsh
      split at h
      · refine .q (v := .int .i64 (Th.lit (0 : Int)).den) (fun w' hw => ?_) (VR.i _ _) h
        rw [hv.litE]; simp [Builtin.len_, run_underlying hu, goInt]
      · rename_i o
        split at h
        · rename_i es hes
          obtain ⟨b, hb, hob⟩ := hs.box hes (by simp)
          cases hob with
          | map ents clock g1 g2 g3 =>
            refine .q (v := .int .i64 (Th.lit (Int.ofNat (lenL es))).den) (fun w' hw => ?_) (VR.i _ _) h
            rw [hv.mpE hb]; simp [Builtin.len_, run_underlying hu, goInt, getObj, Sem.run, (hw.2 b (hs.lt _ b hb)).trans g1, lenL_eq, g2]
        · exact h.elim
      · exact h.elim
    · exact h.elim
  · exact h.elim

omit [Gl] in
theorem eqCell_sound (hty : TyOk P δ) {t : Nat} {d : TD} (hd : δ t = some d) {x y : AV} {a b : Value} {r : Th Bool} (ha : VR w F μ x a) (hb : VR w F μ y b) (h : eqCell d.sh x y = some r) (n : Nat) (w' : World) :
    (Op.equalIn (n + 1) t a b).run P w' = .ok r.den w' := by
  unfold eqCell at h
  split at h
  · rename_i k hsh
    split at h
    · rename_i k1 a1 k2 b1
      split at h
      · rename_i hkk
        have hkk' : k1 = k2 := by simpa using hkk
        subst hkk'
        cases h
        rw [ha.iE, hb.iE, run_equalIn_int w' n t _ k _ _ (und_int hty hd hsh)]; simp
      · cases h
    · cases h
  · rename_i hsh
    split at h
    · cases h
      rw [ha.bE, hb.bE, run_equalIn_bool' w' n t _ _ (und_bool hty hd hsh)]; simp
    · cases h
  · rename_i hsh
    split at h
    · cases h
      rw [ha.sE, hb.sE, run_equalIn_string w' n t _ _ (und_str hty hd hsh)]; simp [beq_toListBytes]
    · cases h
  · cases h

omit [Gl] in
theorem eqFields_sound (hty : TyOk P δ) {xs ys : List AV} {vx vy : Array Value} (hx : vx.size = xs.length) (hy : vy.size = ys.length)
    (cx : ∀ (i : Nat) x v, xs[i]? = some x → vx[i]? = some v → VR w F μ x v) (cy : ∀ (i : Nat) x v, ys[i]? = some x → vy[i]? = some v → VR w F μ x v) (n : Nat) (w' : World) :
    ∀ (fs : List Field), (∀ f ∈ fs, f.name ≠ "_") → ∀ r, eqFields δ xs ys (fs.map fun f => (f.offset, f.type)) = some r → (Op.eqFields (n + 1) vx vy fs).run P w' = .ok r.den w'
  | [], _, r, h => by cases h; rfl
  | f :: fs, hn, r, h => by
    simp only [List.map_cons, eqFields] at h
    split at h
    · rename_i d x y hd hxx hyy
      split at h
      · rename_i a b hab hb
        cases h
        rw [nth_eq] at hxx hyy
        have lx : f.offset < vx.size := by rw [hx]; exact (List.getElem?_eq_some_iff.1 hxx).1
        have ly : f.offset < vy.size := by rw [hy]; exact (List.getElem?_eq_some_iff.1 hyy).1
        have e1 := eqCell_sound hty hd (cx _ x vx[f.offset] hxx (Array.getElem?_eq_getElem lx)) (cy _ y vy[f.offset] hyy (Array.getElem?_eq_getElem ly)) hab n w'
        have ih := eqFields_sound hty hx hy cx cy n w' fs (fun g hg => hn g (List.mem_cons_of_mem _ hg)) b hb
        obtain ⟨u, hu1, hu2⟩ := sh_und hty hd
        have hag : aggOf u = false := by
          unfold eqCell at hab
          cases u <;> simp [shOf] at hu2 <;> first | rfl | (rw [← hu2] at hab; simp at hab)
        have p1 : (part f.type vx f.offset).run P w' = .ok vx[f.offset] w' := by simp [part, run_isAgg hu1, hag, lx]
        have p2 : (part f.type vy f.offset).run P w' = .ok vy[f.offset] w' := by simp [part, run_isAgg hu1, hag, ly]
        simp only [Op.eqFields, if_pos (hn f List.mem_cons_self), Sem.run_bind, p1, p2, e1, Result.andThen_ok, Sem.run_ite]
        cases hr : a.den
        · simp [hr]
        · simp [hr, ih]
      · cases h
    · cases h

omit [Gl] in
theorem nilSlice_sound {x : AV} {v : Value} {b : Option Bool} (hv : VR w F μ x v) (h : nilSlice x = some b) :
    ∃ a n c, v = .slice a n c ∧ (a = none → n = 0 ∧ c = 0) ∧ (∀ b', b = some b' → b' = a.isNone) := by
  unfold nilSlice at h
  split at h
  · cases h; exact ⟨none, 0, 0, hv.litE, fun _ => ⟨rfl, rfl⟩, fun b' h => by cases h; rfl⟩
  · cases h
    cases hv with
    | c hv =>
      obtain ⟨k2, p, cap, r1, _, _, r2, _⟩ := vsl_form (.inl ⟨_, _, rfl⟩) hv
      refine ⟨p, _, cap, r1, fun h => ?_, fun b' h => ?_⟩
      · have := (r2 h).1; simp [T.rows] at this
      · cases h
        cases p with
        | none => have := (r2 rfl).1; simp [T.rows] at this
        | some a => rfl
  · cases h
    cases hv with
    | c hv =>
      obtain ⟨k2, p, cap, r1, _, _, r2, _⟩ := vsl_form (.inl ⟨_, _, rfl⟩) hv
      exact ⟨p, _, cap, r1, fun h => ⟨by rw [(r2 h).1]; rfl, (r2 h).2⟩, fun b' h => by cases h⟩
  · cases h
    cases hv with
    | c hv =>
      obtain ⟨k2, p, cap, r1, _, _, r2, _⟩ := vsl_form (.inr ⟨_, _, rfl⟩) hv
      exact ⟨p, _, cap, r1, fun h => ⟨by rw [(r2 h).1]; rfl, (r2 h).2⟩, fun b' h => by cases h⟩
  · cases h
    obtain ⟨a, r1, r2, _, r3⟩ := hv.slV
    exact ⟨a, _, _, r1, fun h => ⟨by have := r3 h; omega, r3 h⟩, fun b' h => by cases h⟩
  · cases h
theorem nilPtr_sound (hs : St w F μ ob) {x : AV} {v : Value} {b : Bool} (hv : VR w F μ x v) (h : nilPtr ob x = some b) :
    (b = true ∧ v = .pointer none) ∨ (b = false ∧ ∃ a, v = .pointer (some a)) := by
  unfold nilPtr at h
  split at h
  · cases h; exact .inl ⟨rfl, hv.litE⟩
  · cases h; cases hv with | c hv => obtain ⟨b, off, r1⟩ := vptr_form hv; exact .inr ⟨rfl, _, r1⟩
  · split at h
    · rename_i hal; cases h; obtain ⟨b, hb⟩ := hs.alive hal; exact .inr ⟨rfl, _, hv.refE hb⟩
    · cases h
  · cases h; obtain ⟨a, ha⟩ := hv.erefV; exact .inr ⟨rfl, _, ha⟩
  · cases h
omit [Gl] in
theorem nilFn_sound {x : AV} {v : Value} {b : Bool} (hv : VR w F μ x v) (h : nilFn x = some b) : (b = true ∧ v = .nilFunc) ∨ (b = false ∧ ∃ f a c, v = .func f a c) := by
  unfold nilFn at h
  split at h
  · cases h; exact .inl ⟨rfl, hv.litE⟩
  · cases h; cases hv; exact .inr ⟨rfl, _, _, _, rfl⟩
  · cases h
omit [Gl] in
theorem nilIfc_sound {x : AV} {v : Value} {b : Bool} (hv : VR w F μ x v) (h : nilIfc x = some b) : (b = true ∧ v = .nilIface) ∨ (b = false ∧ ∃ t u, v = .iface t u) := by
  unfold nilIfc at h
  split at h
  · cases h; exact .inl ⟨rfl, hv.litE⟩
  · cases h; cases hv; exact .inr ⟨rfl, _, _, rfl⟩
  · cases h

omit [Gl] in
theorem notIf_den (neg : Bool) (b : Th Bool) : (notIf neg b).den = if neg then !b.den else b.den := by cases neg <;> simp [notIf]

omit [Gl] in
theorem eqIn_slice {t e : TypeId} (h : P.underlying t = some (.slice e)) (d : Nat) (a : Option Addr) (n c : Nat) (ha : a = none ∧ n = 0 ∧ c = 0 ∨ a.isSome) :
    (Op.equalIn (d + 1) t (.slice a n c) (.slice none 0 0)).run P w = .ok a.isNone w := by
  rcases ha with ⟨rfl, rfl, rfl⟩ | ha
  · simp [Op.equalIn, run_underlying h]
  · cases a with
    | none => cases ha
    | some a => simp [Op.equalIn, run_underlying h]
omit [Gl] in
theorem eqIn_ptr {t e : TypeId} (h : P.underlying t = some (.pointer e)) (d : Nat) (a : Option Addr) : (Op.equalIn (d + 1) t (.pointer a) (.pointer none)).run P w = .ok a.isNone w := by
  cases a <;> simp [Op.equalIn, run_underlying h]
omit [Gl] in
theorem eqIn_func {t : TypeId} {p q : Array TypeId} {r : Bool} (h : P.underlying t = some (.func p q r)) (d : Nat) (f : Fn) (a c : Array Value) : (Op.equalIn (d + 1) t (.func f a c) .nilFunc).run P w = .ok false w := by
  simp [Op.equalIn, run_underlying h]
omit [Gl] in
theorem eqIn_func0 {t : TypeId} {p q : Array TypeId} {r : Bool} (h : P.underlying t = some (.func p q r)) (d : Nat) : (Op.equalIn (d + 1) t .nilFunc .nilFunc).run P w = .ok true w := by
  simp [Op.equalIn, run_underlying h]
omit [Gl] in
theorem eqIn_ifc {t : TypeId} {ms : Array (String × TypeId)} (h : P.underlying t = some (.interface ms)) (d : Nat) (u : TypeId) (x : Value) : (Op.equalIn (d + 1) t (.iface u x) .nilIface).run P w = .ok false w := by
  simp [Op.equalIn, run_underlying h]
omit [Gl] in
theorem eqIn_ifc0 {t : TypeId} {ms : Array (String × TypeId)} (h : P.underlying t = some (.interface ms)) (d : Nat) : (Op.equalIn (d + 1) t .nilIface .nilIface).run P w = .ok true w := by
  simp [Op.equalIn, run_underlying h]
omit [Gl] in
theorem bin_of_eql {t : TypeId} {a b : Value} {r : Bool} (hb : binOp .eql t a b = (do pure (.bool (← Op.equal t a b)))) (h : (Op.equalIn (9999 + 1) t a b).run P w = .ok r w) : (binOp .eql t a b).run P w = .ok (.bool r) w := by
  rw [hb]
  simp only [Sem.run_bind, Op.equal, Op.maxDepth, h, Result.andThen_ok, Sem.run_pure]
omit [Gl] in
theorem bin_of_neq {t : TypeId} {a b : Value} {r : Bool} (hb : binOp .neq t a b = (do pure (.bool (!(← Op.equal t a b))))) (h : (Op.equalIn (9999 + 1) t a b).run P w = .ok r w) : (binOp .neq t a b).run P w = .ok (.bool !r) w := by
  rw [hb]
  simp only [Sem.run_bind, Op.equal, Op.maxDepth, h, Result.andThen_ok, Sem.run_pure]

theorem aeq_sound (hty : TyOk P δ) (hs : St w F μ ob) {t : Nat} {neg : Bool} {x y : AV} {a b : Value} (ha : VR w F μ x a) (hb : VR w F μ y b) {o1 o2 : Operand} (h : aeq δ t neg (isConstO o2) x y ob K) (op : BinOp) (hop : op = if neg then .neq else .eql) :
    DoneQ P (do eqGuard op t o1 o2 a b; binOp op t a b) w F μ ob K := by
  have gd : ∀ r : Th Bool, (∀ w : World, (eqGuard op t o1 o2 a b).run P w = .ok () w) → (∀ w : World, (binOp op t a b).run P w = .ok (.bool (notIf neg r).den) w) → K (AB (notIf neg r)) ob →
      DoneQ P (do eqGuard op t o1 o2 a b; binOp op t a b) w F μ ob K := fun r hg hr hk => .q (fun w' _ => by simp only [Sem.run_bind, hg, Result.andThen_ok, hr]) (VR.b _) hk
  unfold aeq at h
  split at h
  · rename_i d hd
    split at h
    · rename_i hsh
      split at h
      · rename_i r hr
        have hr' := eqCell_sound hty hd ha hb (by rw [hsh]; exact hr) 9999
        have hu := und_bool hty hd hsh
        unfold eqCell at hr
        simp only at hr
        split at hr
        · cases hr
          have ea := ha.bE
          have eb := hb.bE
          subst ea; subst eb
          refine gd _ (fun w => ?_) (fun w => ?_) h
          · subst hop; cases neg <;> simp [eqGuard]
          · subst hop
            cases neg
            · exact bin_of_eql rfl (hr' w)
            · have := bin_of_neq (a := .bool _) (b := .bool _) rfl (hr' w)
              simpa [notIf] using this
        · cases hr
      · exact h.elim
    · rename_i fs hsh
      split at h
      · rename_i xs ys heq
        split at h
        · rename_i r hr
          have hfine := (hty t d hd).eq heq
          obtain ⟨fl, hu, hfl⟩ := und_struct hty hd hsh
          unfold eqFine at hfine
          simp only [hu, Bool.and_eq_true, Bool.not_eq_true', List.all_eq_true] at hfine
          obtain ⟨⟨f1, f2⟩, f3⟩ := hfine
          cases ha with
          | agg a1 a2 a3 =>
            rename_i vx
            cases hb with
            | agg b1 b2 b3 =>
              rename_i vy
              have hfo : P.fieldsOf t = fl := by simp [Program.fieldsOf, hu]
              have hef := fun w' => eqFields_sound hty a1 b1 a2 b2 9998 w' fl.toList (fun f hf => by have := f3 f hf; simpa using this) r (by rw [hfl]; exact hr)
              have hrun : ∀ w : World, (Op.equalIn 10000 t (.agg vx) (.agg vy)).run P w = .ok r.den w := fun w => by
                rw [run_equalIn_struct w 9999 t vx vy (by rw [hfo]; exact hu) f1, hfo]; exact hef w
              refine gd _ (fun w => run_eqGuard_agg w op t o1 o2 _ _ f2) (fun w => ?_) h
              subst hop
              cases neg
              · simp [run_eql_struct, hrun, notIf_den]
              · simp [run_neq_struct, hrun, notIf_den]
        · exact h.elim
      · exact h.elim
    · rename_i e hsh
      have hu := und_slice hty hd hsh
      split at h
      · have eb := hb.litE
        subst eb
        have fin : ∀ {p : Option Addr} {n c : Nat}, a = .slice p n c → (p = none → n = 0 ∧ c = 0) → K (AB (notIf neg (.lit p.isNone))) ob → DoneQ P (do eqGuard op t o1 o2 a (.slice none 0 0); binOp op t a (.slice none 0 0)) w F μ ob K := by
          intro p n c e h0 hk
          subst e
          have hh : p = none ∧ n = 0 ∧ c = 0 ∨ p.isSome := by
            cases p with
            | none => exact .inl ⟨rfl, h0 rfl⟩
            | some a => exact .inr rfl
          refine gd (.lit p.isNone) (fun w => by subst hop; cases neg <;> simp [eqGuard]) (fun w => ?_) hk
          subst hop
          cases neg
          · exact bin_of_eql rfl (eqIn_slice hu 9999 _ _ _ hh)
          · exact bin_of_neq rfl (eqIn_slice hu 9999 _ _ _ hh)
        split at h
        · rename_i r hr
          obtain ⟨a', n, c, e, h0, h1⟩ := nilSlice_sound ha hr
          rw [h1 _ rfl] at h
          exact fin e h0 h
        · rename_i hr
          obtain ⟨a', n, c, e, h0, h1⟩ := nilSlice_sound ha hr
          exact fin e h0 (h.all _)
        · exact h.elim
      · exact h.elim
    · rename_i e hsh
      have hu := und_ptr hty hd hsh
      split at h
      · split at h
        · rename_i r hr
          have eb := hb.litE
          subst eb
          rcases nilPtr_sound hs ha hr with ⟨rfl, rfl⟩ | ⟨rfl, u, rfl⟩ <;>
          (refine gd _ (fun w => by subst hop; cases neg <;> simp [eqGuard]) (fun w => ?_) h; subst hop; cases neg) <;> first
            | exact bin_of_eql rfl (eqIn_ptr hu 9999 _)
            | exact bin_of_neq rfl (eqIn_ptr hu 9999 _)
        · exact h.elim
      · exact h.elim
    · rename_i hsh
      obtain ⟨u1, u2, u3, hu⟩ := und_func hty hd hsh
      split at h
      · split at h
        · rename_i r hr
          have eb := hb.litE
          subst eb
          rcases nilFn_sound ha hr with ⟨rfl, rfl⟩ | ⟨rfl, u, n, c, rfl⟩ <;>
          (refine gd _ (fun w => by subst hop; cases neg <;> simp [eqGuard]) (fun w => ?_) h; subst hop; cases neg) <;> first
            | exact bin_of_eql rfl (eqIn_func0 hu 9999)
            | exact bin_of_neq rfl (eqIn_func0 hu 9999)
            | exact bin_of_eql rfl (eqIn_func hu 9999 _ _ _)
            | exact bin_of_neq rfl (eqIn_func hu 9999 _ _ _)
        · exact h.elim
      · exact h.elim
    · rename_i hsh
      obtain ⟨u0, hu0, hu1⟩ := sh_und hty hd
      have hu : ∃ ms, P.underlying t = some (.interface ms) := by
        rw [hsh] at hu1; cases u0 <;> simp [shOf] at hu1; exact ⟨_, hu0⟩
      obtain ⟨ms, hu⟩ := hu
      split at h
      · rename_i hyc
        have hc : ∃ z, o2 = .const z := by cases o2 <;> simp [isConstO] at hyc; exact ⟨_, rfl⟩
        obtain ⟨z, rfl⟩ := hc
        split at h
        · rename_i r hr
          have eb := hb.litE
          subst eb
          rcases nilIfc_sound ha hr with ⟨rfl, rfl⟩ | ⟨rfl, u, n, rfl⟩ <;>
          (refine gd _ (fun w => by subst hop; cases neg <;> simp [eqGuard]) (fun w => ?_) h; subst hop; cases neg) <;> first
            | exact bin_of_eql rfl (eqIn_ifc0 hu 9999)
            | exact bin_of_neq rfl (eqIn_ifc0 hu 9999)
            | exact bin_of_eql rfl (eqIn_ifc hu 9999 _ _)
            | exact bin_of_neq rfl (eqIn_ifc hu 9999 _ _)
        · exact h.elim
      · exact h.elim
    · exact h.elim
  · exact h.elim

end
end Go.Abs
