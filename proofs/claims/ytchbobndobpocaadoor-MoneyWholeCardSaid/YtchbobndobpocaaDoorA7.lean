/- The abstract machine, part 7: arithmetic, literals, maps. -/
import Derived.Test.YtchbobndobpocaaDoorA6
namespace Go.Abs
variable [Gl]
section
variable {P : Program} {δ : Nat → Option TD} {w : World} {F : Nat → Prop} {μ : Mu} {ob : List AO} {K : AV → List AO → Prop}

omit [Gl] in
theorem VR.i' {k : IntKind} {n : Th Int} {r : Int} (h : n.den = r) : VR w F μ (AI k n) (.int k r) := h ▸ VR.i k n
omit [Gl] in
theorem VR.b' {b : Th Bool} {r : Bool} (h : b.den = r) : VR w F μ (AB b) (.bool r) := h ▸ VR.b b
omit [Gl] in
theorem VR.s' {b : Th ByteArray} {r : ByteArray} (h : b.den = r) : VR w F μ (AS b) (.string r) := h ▸ VR.s b

omit [Gl] in
theorem intOp_run (op : BinOp) (xt : TypeId) (k : IntKind) (a b : Int) (h : op = .add ∨ op = .sub ∨ op = .mul ∨ op = .and ∨ op = .or ∨ op = .xor ∨ op = .andNot) :
    (binOp op xt (.int k a) (.int k b)).run P w = .ok (.int k (iop op k a b)) w := by
  rcases h with rfl | rfl | rfl | rfl | rfl | rfl | rfl <;> simp [binOp, Op.intArith, Op.intBits, iop]
omit [Gl] in
theorem intDiv_run (op : BinOp) (xt : TypeId) (k : IntKind) (a b : Int) (h : op = .quo ∨ op = .rem) (hb : b ≠ 0) :
    (binOp op xt (.int k a) (.int k b)).run P w = .ok (.int k (iop op k a b)) w := by
  rcases h with rfl | rfl <;> simp [binOp, Op.intDiv, iop, hb]
omit [Gl] in
theorem intCmp_run (op : BinOp) (xt : TypeId) (k : IntKind) (a b : Int) (h : op = .eql ∨ op = .neq ∨ op = .lss ∨ op = .leq ∨ op = .gtr ∨ op = .geq) :
    (binOp op xt (.int k a) (.int k b)).run P w = .ok (.bool (icmp op a b)) w := by
  rcases h with rfl | rfl | rfl | rfl | rfl | rfl <;> simp [binOp, Op.intCmp, icmp]
omit [Gl] in
theorem intSh_run (op : BinOp) (xt : TypeId) (k k' : IntKind) (a b : Int) (h : op = .shl ∨ op = .shr) (hb : 0 ≤ b) :
    (binOp op xt (.int k a) (.int k' b)).run P w = .ok (.int k (iop op k a b)) w := by
  have hb' : ¬ b < 0 := by omega
  rcases h with rfl | rfl <;> simp [binOp, Op.shift, iop, hb']
omit [Gl] in
theorem strCmp_run (op : BinOp) (xt : TypeId) (a b : ByteArray) (h : op = .eql ∨ op = .neq ∨ op = .lss ∨ op = .leq ∨ op = .gtr ∨ op = .geq) :
    (binOp op xt (.string a) (.string b)).run P w = .ok (.bool (scmp op a b)) w := by
  rcases h with rfl | rfl | rfl | rfl | rfl | rfl <;> simp [binOp, Op.stringOp, scmp]

omit [Gl] in
theorem eqGuard_lit (op : BinOp) (t : TypeId) (o1 o2 : Operand) (a b : Value) (h1 : a ≠ .nilIface) (h2 : ∀ c, a ≠ .agg c) : (eqGuard op t o1 o2 a b).run P w = .ok () w := by
  unfold eqGuard
  cases op <;> simp <;> cases a <;> first | rfl | exact absurd rfl h1 | exact absurd rfl (h2 _)

theorem abin_sound (hty : TyOk P δ) (hs : St w F μ ob) {op : BinOp} {t : Nat} {x y : AV} {a b : Value} (ha : VR w F μ x a) (hb : VR w F μ y b) {o1 o2 : Operand} (h : abin δ op t (isConstO o2) x y ob K) :
    DoneQ P (do eqGuard op t o1 o2 a b; binOp op t a b) w F μ ob K := by
  unfold abin at h
  split at h
  · rename_i k n k' m
    have ea := ha.iE
    have eb := hb.iE
    subst ea; subst eb
    have hg := fun w : World => eqGuard_lit (P := P) (w := w) op t o1 o2 (.int k n.den) (.int k' m.den) (by simp) (by simp)
    have fin : ∀ {v x}, (∀ w : World, (binOp op t (.int k n.den) (.int k' m.den)).run P w = .ok v w) → VR w F μ x v → K x ob → DoneQ P (do eqGuard op t o1 o2 (.int k n.den) (.int k' m.den); binOp op t (.int k n.den) (.int k' m.den)) w F μ ob K :=
      fun h1 h2 h3 => .q (fun w' _ => by simp only [Sem.run_bind, hg, Result.andThen_ok, h1]) h2 h3
    split at h
    · obtain ⟨hm, h⟩ := mustT_iff h
      exact fin (fun w => intSh_run (w := w) _ _ _ _ _ _ (.inl rfl) (by simpa using hm)) (VR.i' (by simp)) h
    · obtain ⟨hm, h⟩ := mustT_iff h
      exact fin (fun w => intSh_run (w := w) _ _ _ _ _ _ (.inr rfl) (by simpa using hm)) (VR.i' (by simp)) h
    iterate 6
      · split at h
        · rename_i hk
          have hk' : k = k' := by simpa using hk
          subst hk'
          exact fin (fun w => intCmp_run (w := w) _ _ _ _ _ (by simp)) (VR.b' (by simp)) h
        · exact h.elim
    iterate 2
      · split at h
        · rename_i hk
          have hk' : k = k' := by simpa using hk
          subst hk'
          obtain ⟨hm, h⟩ := mustT_iff h
          exact fin (fun w => intDiv_run (w := w) _ _ _ _ _ (by simp) (by simpa using hm)) (VR.i' (by simp)) h
        · exact h.elim
    · rename_i n1 n2 n3 n4 n5 n6 n7 n8 n9 n10
      split at h
      · rename_i hk
        have hk' : k = k' := by simpa using hk
        subst hk'
        refine fin (fun w => intOp_run (w := w) _ _ _ _ _ ?_) (VR.i' (by simp)) h
        cases op <;> simp_all
      · exact h.elim
  · rename_i s u
    have ea := ha.sE
    have eb := hb.sE
    subst ea; subst eb
    have hg := fun w : World => eqGuard_lit (P := P) (w := w) op t o1 o2 (.string s.den) (.string u.den) (by simp) (by simp)
    have fin : ∀ {v x}, (∀ w : World, (binOp op t (.string s.den) (.string u.den)).run P w = .ok v w) → VR w F μ x v → K x ob → DoneQ P (do eqGuard op t o1 o2 (.string s.den) (.string u.den); binOp op t (.string s.den) (.string u.den)) w F μ ob K :=
      fun h1 h2 h3 => .q (fun w' _ => by simp only [Sem.run_bind, hg, Result.andThen_ok, h1]) h2 h3
    split at h
    iterate 6
      · exact fin (fun w => strCmp_run (w := w) _ _ _ _ (by simp)) (VR.b' (by simp)) h
    · obtain ⟨hm, h⟩ := mustT_iff h
      simp at hm
      refine fin (v := .string (s.den ++ u.den)) (fun w => ?_) (VR.s' (by simp)) h
      have hno : ¬ (((s.den.size + u.den.size : Nat) : Int) > IntKind.i64.max) := by
        have : IntKind.i64.max = 9223372036854775807 := by decide
        rw [this]; omega
      simp only [binOp, Op.stringOp, if_neg hno, Sem.run_pure]
    · exact h.elim
  · split at h
    · exact aeq_sound hty hs ha hb h _ rfl
    · exact aeq_sound hty hs ha hb h _ rfl
    · exact h.elim

theorem aun_sound (_hs : St w F μ ob) {op : UnOp} {x : AV} {a : Value} (ha : VR w F μ x a) (h : aun op x ob K) : DoneQ P (Op.unary op a) w F μ ob K := by
  unfold aun at h
  split at h
  · rename_i b
    refine .q (v := .bool (m1 (fun b => !b) b).den) (fun w' _ => ?_) (VR.b _) h
    rw [ha.bE]; simp [Op.unary]
  · rename_i k n
    refine .q (v := .int k (m1 (iun .neg k) n).den) (fun w' _ => ?_) (VR.i _ _) h
    rw [ha.iE]; simp [Op.unary, Op.intArith, iun]
  · rename_i k n
    refine .q (v := .int k (m1 (iun .xor k) n).den) (fun w' _ => ?_) (VR.i _ _) h
    rw [ha.iE]; simp [Op.unary, Op.intBits, iun]
  · exact h.elim

theorem aconv_sound (hty : TyOk P δ) (_hs : St w F μ ob) {src dst : Nat} (hsrc : ∃ u, P.underlying src = some u) {x : AV} {a : Value} (ha : VR w F μ x a) (h : aconv δ dst x ob K) : DoneQ P (convert src dst a) w F μ ob K := by
  obtain ⟨us, hus⟩ := hsrc
  unfold aconv at h
  split at h
  · rename_i d hd
    split at h
    · rename_i k k0 n hsh
      have hu := und_int hty hd hsh
      refine .q (v := .int k (m1 k.wrap n).den) (fun w' _ => ?_) (VR.i _ _) h
      rw [ha.iE]
      cases us <;> simp [convert, run_underlying hus, run_underlying hu, Conv.intToInt]
    · rename_i s hsh
      have hu := und_str hty hd hsh
      refine .q (v := .string s.den) (fun w' _ => ?_) (VR.s _) h
      rw [ha.sE]
      cases us <;> simp [convert, run_underlying hus, run_underlying hu]
    · exact h.elim
  · exact h.elim

/-- Parts, as values. -/
def PRs (w : World) (F : Nat → Prop) (μ : Mu) (ps : List (Nat × AV)) (vs : List (Nat × Value)) : Prop :=
  vs.length = ps.length ∧ ∀ (i : Nat) p q, ps[i]? = some p → vs[i]? = some q → p.1 = q.1 ∧ VR w F μ p.2 q.2

omit [Gl] in
theorem PRs.cons {p : Nat × AV} {ps : List (Nat × AV)} {vs : List (Nat × Value)} (h : PRs w F μ (p :: ps) vs) : ∃ q qs, vs = q :: qs ∧ p.1 = q.1 ∧ VR w F μ p.2 q.2 ∧ PRs w F μ ps qs := by
  cases vs with
  | nil => simp [PRs] at h
  | cons q qs =>
    have h0 := h.2 0 p q rfl rfl
    exact ⟨q, qs, rfl, h0.1, h0.2, by have := h.1; simpa using this, fun i p q hp hq => h.2 (i + 1) p q (by simpa using hp) (by simpa using hq)⟩

omit [Gl] in
theorem parts_sound {env : List AV} {a : Act} (hf : FR w F μ env a.tmps) (ps : List (Nat × Operand)) : PRs w F μ (parts env ps) (ps.map fun p => (p.1, a.eval p.2)) := by
  refine ⟨by simp [parts, mapL_eq], fun i p q hp hq => ?_⟩
  simp only [parts, mapL_eq, List.getElem?_map] at hp hq
  cases ho : ps[i]? with
  | none => rw [ho] at hp; cases hp
  | some o =>
    rw [ho] at hp hq
    simp at hp hq
    subst hp; subst hq
    exact ⟨rfl, opnd_sound hf o.2⟩

def CR (w : World) (F : Nat → Prop) (μ : Mu) (cs : List AV) (vs : Array Value) : Prop :=
  vs.size = cs.length ∧ ∀ (i : Nat) x v, cs[i]? = some x → vs[i]? = some v → VR w F μ x v ∧ v.oneCell' = true

omit [Gl] in
theorem foldl_set (xs : List Value) : ∀ (off j0 : Nat) (cs : Array Value), off + j0 + xs.length ≤ cs.size →
    ((xs.zipIdx j0).foldl (fun cs (c, j) => cs.setIfInBounds (off + j) c) cs).toList = cs.toList.take (off + j0) ++ xs ++ cs.toList.drop (off + j0 + xs.length) := by
  induction xs with
  | nil => intro off j0 cs _; simp
  | cons x xs ih =>
    intro off j0 cs h
    simp only [List.zipIdx_cons, List.foldl_cons]
    rw [ih off (j0 + 1) _ (by simp at h ⊢; omega)]
    apply List.ext_getElem?
    intro i
    simp only [List.length_cons] at h
    have e1 := getElem?_splice (cs.setIfInBounds (off + j0) x).toList xs (off + (j0 + 1)) (by simp; omega) i
    have e2 := getElem?_splice cs.toList (x :: xs) (off + j0) (by simp; omega) i
    rw [e1]
    have e2' := e2
    simp only [List.length_cons] at e2' ⊢
    rw [e2']
    simp only [Array.toList_setIfInBounds]
    by_cases h1 : i < off + j0
    · rw [if_pos (by omega), if_pos h1, List.getElem?_set_ne (by omega)]
    · rw [if_neg h1]
      by_cases h2 : i = off + j0
      · subst h2
        rw [if_pos (by omega), if_pos (by omega), List.getElem?_set_self (by simp; omega)]
        simp
      · rw [if_neg (by omega)]
        by_cases h3 : i < off + j0 + (xs.length + 1)
        · rw [if_pos (by omega), if_pos h3, show i - (off + j0) = (i - (off + (j0 + 1))) + 1 by omega, List.getElem?_cons_succ]
        · rw [if_neg (by omega), if_neg h3, List.getElem?_set_ne (by omega)]

omit [Gl] in
theorem fill_sound (place : Nat → Option (Nat × Nat)) (pl : List (Nat × Nat)) (hpl : ∀ i q, nth pl i = some q → place i = some q) :
    ∀ (ps : List (Nat × AV)) (vs : List (Nat × Value)) (cs : List AV) (cv : Array Value) (r : List AV), PRs w F μ ps vs → CR w F μ cs cv → fillL pl ps cs = some r →
      ∃ rv, Instr.fill place cv vs = some rv ∧ CR w F μ r rv
  | [], vs, cs, cv, r, hp, hc, h => by
    have : vs = [] := List.eq_nil_of_length_eq_zero (by simpa using hp.1)
    subst this
    simp [fillL] at h
    subst h
    exact ⟨cv, rfl, hc⟩
  | (i, x) :: ps, vs, cs, cv, r, hp, hc, h => by
    obtain ⟨q, qs, rfl, hq1, hq2, hp'⟩ := hp.cons
    simp only [fillL] at h
    split at h
    · rename_i off size xs hn hx
      split at h
      · rename_i hl
        have hl' : xs.length = size := by rw [← lenL_eq]; simpa using hl
        split at h
        · rename_i cs' hcs'
          obtain ⟨hf, he⟩ := splice_some hcs'
          obtain ⟨c1, c2⟩ := cellsOf_sound hx hq2
          have hsz : q.2.cells.size = size := by rw [c1]; exact hl'
          have hfit : off + q.2.cells.size ≤ cv.size := by rw [c1, hc.1]; exact hf
          have hfold : (q.2.cells.zipIdx.foldl (fun cs (c, j) => cs.setIfInBounds (off + j) c) cv) = (cv.toList.take off ++ q.2.cells.toList ++ cv.toList.drop (off + q.2.cells.toList.length)).toArray := by
            apply Array.ext'
            have := foldl_set q.2.cells.toList off 0 cv (by simpa using hfit)
            simp only [Nat.add_zero] at this
            rw [← Array.foldl_toList, Array.toList_zipIdx]
            exact this
          have hcr : CR w F μ cs' (q.2.cells.zipIdx.foldl (fun cs (c, j) => cs.setIfInBounds (off + j) c) cv) := by
            rw [hfold]
            refine ⟨by rw [he]; simp [hc.1, c1], fun j y u hy hu => ?_⟩
            rw [he, getElem?_splice cs xs off hf] at hy
            have hlx : q.2.cells.toList.length = xs.length := by simp [c1]
            rw [List.getElem?_toArray, getElem?_splice cv.toList q.2.cells.toList off (by simpa using hfit), hlx] at hu
            split at hy
            · rename_i h1; rw [if_pos h1] at hu; exact hc.2 j y u hy (by simpa using hu)
            · rename_i h1
              rw [if_neg h1] at hu
              split at hy
              · rename_i h2; rw [if_pos h2] at hu; exact c2 _ y u hy (by simpa using hu)
              · rename_i h2; rw [if_neg h2] at hu; exact hc.2 j y u hy (by simpa using hu)
          obtain ⟨rv, h1, h2⟩ := fill_sound place pl hpl ps qs cs' _ r hp' hcr h
          refine ⟨rv, ?_, h2⟩
          have hq1' : q.1 = i := hq1.symm
          obtain ⟨q1, q2⟩ := q
          simp only at hq1' hsz hfit h1 ⊢
          subst hq1'
          simp only [Instr.fill, hpl _ _ hn]
          have hno : (decide (q2.cells.size ≠ size) || decide (off + q2.cells.size > cv.size)) = false := by simp [hsz]; omega
          rw [hno]
          exact h1
        · cases h
      · cases h
    · cases h

omit [Gl] in
theorem places_sound (hty : TyOk P δ) : ∀ (fs : List Field) (r : List (Nat × Nat)), places δ (fs.map fun f => (f.offset, f.type)) = some r →
    ∀ w, (fs.mapM (fun f => do pure (f.offset, ← sizeOf f.type) : Field → Sem (Nat × Nat))).run P w = .ok r w
  | [], r, h, w => by simp [places] at h; subst h; rfl
  | f :: fs, r, h, w => by
    simp only [List.map_cons, places] at h
    split at h
    · rename_i e r' he hr'
      cases h
      obtain ⟨i, h1, h2, _⟩ := size_of hty he
      have ih := places_sound hty fs r' hr' w
      simp only [List.mapM_cons, Sem.run_bind, run_sizeOf' h1, Result.andThen_ok, Sem.run_pure, ih, h2]
    · cases h

theorem abuild_sound (hty : TyOk P δ) (_hs : St w F μ ob) {t : Nat} {ps : List (Nat × AV)} {vs : Array (Nat × Value)} (hp : PRs w F μ ps vs.toList) (h : abuild δ t ps ob K)
    (hz : ∀ d, δ t = some d → d.zero ≠ []) : DoneQ P (Instr.build t vs) w F μ ob K := by
  unfold abuild at h
  split at h
  · rename_i d hd
    obtain ⟨z, z1, z2, z3, z4⟩ := zeroC_cells hty hd (hz d hd)
    split at h
    · rename_i fs hsh
      obtain ⟨fl, hu, hfl⟩ := und_struct hty hd hsh
      split at h
      · rename_i pl hpl
        split at h
        · rename_i cs hcs
          have hpr := places_sound hty fl.toList pl (by rw [hfl]; exact hpl)
          obtain ⟨rv, r1, r2⟩ := fill_sound (fun i => pl.toArray[i]?) pl (fun i q hq => by rw [nth_eq] at hq; simpa using hq) ps vs.toList (zeroC d) z.cells cs hp ⟨z2, fun j x u hx hu => z4 w F μ j x u hx hu⟩ hcs
          refine .q (v := .agg rv) (fun w' _ => ?_) (.agg r2.1 (fun i x v hx hv => (r2.2 i x v hx hv).1) (fun i v hv => ?_)) h
          · have hm : (fl.mapM (fun f => do pure (f.offset, ← sizeOf f.type) : Field → Sem (Nat × Nat))).run P w' = .ok pl.toArray w' := by
              rw [Array.mapM_eq_mapM_toList]
              simp only [Sem.run_map, hpr, Result.andThen_ok]
            simp only [Instr.build, Sem.run_bind, z1, Result.andThen_ok, run_underlying hu, hm, r1, Sem.run_pure]
          · have hlt : i < cs.length := by rw [← r2.1]; exact (Array.getElem?_eq_some_iff.1 hv).1
            exact (r2.2 i cs[i] v (List.getElem?_eq_getElem hlt) hv).2
        · exact h.elim
      · exact h.elim
    · exact h.elim
  · exact h.elim

end
end Go.Abs
