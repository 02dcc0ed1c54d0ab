/- The abstract machine, part 8: slice literals and maps. -/
import Derived.Test.YtchbobndobpocaaDoorA7
namespace Go.Abs
variable [Gl]
section
variable {P : Program} {δ : Nat → Option TD} {w : World} {F : Nat → Prop} {μ : Mu} {ob : List AO} {K : AV → List AO → Prop}

omit [Gl] in
theorem length_flat {α : Type} (k : Nat) : ∀ (es : List (List α)), (∀ e ∈ es, e.length = k) → es.flatten.length = es.length * k
  | [], _ => by simp
  | e :: es, h => by
    simp only [List.flatten_cons, List.length_append, List.length_cons, h e List.mem_cons_self, length_flat k es (fun x hx => h x (List.mem_cons_of_mem _ hx)), Nat.add_mul]
    omega
omit [Gl] in
theorem get_flat {α : Type} (k : Nat) : ∀ (es : List (List α)), (∀ e ∈ es, e.length = k) → ∀ (i j : Nat) e x, es[i]? = some e → e[j]? = some x → es.flatten[i * k + j]? = some x
  | [], _, i, j, e, x, h, _ => by simp at h
  | e0 :: es, hk, i, j, e, x, h, hx => by
    cases i with
    | zero =>
      simp at h; subst h
      rw [List.flatten_cons, Nat.zero_mul, Nat.zero_add, List.getElem?_append_left (List.getElem?_eq_some_iff.1 hx).1]
      exact hx
    | succ i =>
      have h0 := hk e0 List.mem_cons_self
      rw [List.flatten_cons, List.getElem?_append_right (by rw [h0, Nat.add_mul]; omega), h0, show (i + 1) * k + j - k = i * k + j by rw [Nat.add_mul]; omega]
      exact get_flat k es (fun x hx => hk x (List.mem_cons_of_mem _ hx)) i j e x (by simpa using h) hx
omit [Gl] in
theorem flat_get {α : Type} (k : Nat) (z : List α) (hz : z.length = k) : ∀ (n j : Nat), j < n * k → (List.replicate n z).flatten[j]? = z[j % k]?
  | 0, j, h => by omega
  | n + 1, j, h => by
    rw [List.replicate_succ, List.flatten_cons]
    by_cases hj : j < k
    · rw [List.getElem?_append_left (by omega), Nat.mod_eq_of_lt hj]
    · rw [List.getElem?_append_right (by omega), hz, flat_get k z hz n (j - k) (by rw [Nat.add_mul] at h; omega)]
      rw [Nat.mod_eq_sub_mod (by omega : k ≤ j)]

omit [Gl] in
theorem fillL_elems (pl : List (Nat × Nat)) (k : Nat) (z : List AV) (hz : z.length = k) : ∀ (n : Nat) (acc : List (List AV)) (ps : List (Nat × AV)) (es : List (List AV)), (∀ e ∈ acc, e.length = k) →
    (∀ j, j < acc.length + n → nth pl j = some (j * k, k)) → elems z k acc.length n ps = some es →
    fillL pl ps (acc.flatten ++ (List.replicate n z).flatten) = some ((acc ++ es).flatten) ∧ es.length = n ∧ ∀ e ∈ es, e.length = k
  | 0, acc, ps, es, ha, hp, h => by
    cases ps with
    | nil => simp [elems] at h; subst h; simp [fillL]
    | cons p ps => simp [elems] at h
  | n + 1, acc, ps, es, ha, hp, h => by
    have next : ∀ (v : List AV) (qs : List (Nat × AV)) (r : List (List AV)), v.length = k → elems z k (acc.length + 1) n qs = some r →
        fillL pl qs (acc.flatten ++ (v ++ (List.replicate n z).flatten)) = some ((acc ++ v :: r).flatten) ∧ (v :: r).length = n + 1 ∧ ∀ e ∈ v :: r, e.length = k := by
      intro v qs r hv hr
      have := fillL_elems pl k z hz n (acc ++ [v]) qs r (fun e he => by
        rcases List.mem_append.1 he with h1 | h1
        · exact ha e h1
        · simp at h1; subst h1; exact hv) (fun j hj => hp j (by simp at hj; omega)) (by simpa using hr)
      obtain ⟨g1, g2, g3⟩ := this
      refine ⟨by simpa using g1, by simp [g2], fun e he => ?_⟩
      rcases List.mem_cons.1 he with h1 | h1
      · rw [h1]; exact hv
      · exact g3 e h1
    rw [List.replicate_succ, List.flatten_cons]
    simp only [elems] at h
    split at h
    · rename_i i x rest
      split at h
      · rename_i hji
        have hji' : i = acc.length := by simpa using hji
        subst hji'
        split at h
        · rename_i vs hvs
          split at h
          · rename_i hl
            have hl' : vs.length = k := by rw [← lenL_eq]; simpa using hl
            split at h
            · rename_i r hr
              cases h
              have hlen := length_flat k acc ha
              have hsp : splice (acc.flatten ++ (z ++ (List.replicate n z).flatten)) (acc.length * k) vs = some (acc.flatten ++ (vs ++ (List.replicate n z).flatten)) := by
                rw [← hlen]
                generalize acc.flatten = A
                have hzv : vs.length = z.length := by omega
                generalize (List.replicate n z).flatten = B
                clear hvs hr hl hlen next hp
                induction A with
                | nil =>
                  simp only [List.nil_append, List.length_nil]
                  clear hl' hz ha
                  induction vs generalizing z with
                  | nil => cases z with | nil => simp; cases B <;> rfl | cons a z => simp at hzv
                  | cons v vs ih => cases z with | nil => simp at hzv | cons a z => simp only [List.cons_append, splice, ih z (by simpa using hzv)]
                | cons a A ih => simp only [List.cons_append, List.length_cons, splice, ih]
              obtain ⟨g1, g2, g3⟩ := next vs rest r hl' hr
              refine ⟨?_, g2, g3⟩
              simp only [fillL, hp acc.length (by omega), hvs, hl', lenL_eq, beq_self_eq_true, hsp]
              exact g1
            · cases h
          · cases h
        · cases h
      · split at h
        · rename_i r hr
          cases h
          exact next z _ r hz hr
        · cases h
    · split at h
      · rename_i r hr
        cases h
        exact next z _ r hz hr
      · cases h

theorem abuildSlice_sound (hty : TyOk P δ) (hs : St w F μ ob) {t len : Nat} {ps : List (Nat × AV)} {vs : Array (Nat × Value)} (hp : PRs w F μ ps vs.toList) (h : abuildSlice δ t len ps ob K)
    (hz : ∀ d e ed, δ t = some d → d.sh = .slice e → δ e = some ed → ed.zero ≠ []) : Done P (Instr.buildSlice t len vs) w F μ K := by
  unfold abuildSlice at h
  split at h
  · rename_i d hd
    split at h
    · rename_i e hsh
      have hu := und_slice hty hd hsh
      split at h
      · rename_i ed hed
        obtain ⟨z, z1, z2, z3, z4⟩ := zeroC_cells hty hed (hz d e ed hd hsh hed)
        obtain ⟨ie, q1, q2, _⟩ := size_of hty hed
        split at h
        · rename_i hsz hle
          have hsz' : ed.size ≠ 0 := by simpa using hsz
          have hle' : len * ed.size ≤ 16777216 := Nat.le_of_ble_eq_true hle
          split at h
          · rename_i es hes
            have hzl : (zeroC ed).length = ed.size := z3
            obtain ⟨g1, g2, g3⟩ := fillL_elems ((List.range len).map fun i => (i * ed.size, ed.size)) ed.size (zeroC ed) hzl len [] ps es (by simp)
              (fun j hj => by rw [nth_eq, List.getElem?_map]; simp at hj; simp [hj]) hes
            simp only [List.flatten_nil, List.nil_append] at g1
            have hflat : (List.replicate len (zeroC ed)).flatten.length = len * ed.size := by
              rw [length_flat ed.size _ (fun e he => by rw [(List.mem_replicate.1 he).2]; exact hzl)]; simp
            have hcr : CR w F μ (List.replicate len (zeroC ed)).flatten ((Array.range (len * ed.size)).map (z.cells[· % z.cells.size]!)) := by
              refine ⟨by simp [hflat], fun j x u hx hu => ?_⟩
              have hj : j < len * ed.size := by rw [← hflat]; exact (List.getElem?_eq_some_iff.1 hx).1
              rw [flat_get ed.size _ hzl len j hj] at hx
              simp [hj] at hu
              have hm : j % z.cells.size < z.cells.size := Nat.mod_lt _ (by omega)
              rw [getElem!_pos z.cells _ hm] at hu
              have hzz : z.cells.size = ed.size := by rw [z2, z3]
              exact z4 w F μ (j % ed.size) x u hx (by rw [← hzz, Array.getElem?_eq_getElem hm, hu])
            obtain ⟨rv, r1, r2⟩ := fill_sound (fun i => some (i * ed.size, ed.size)) _ (fun i q hq => by
              rw [nth_eq, List.getElem?_map] at hq
              cases hr : (List.range len)[i]? with
              | none => rw [hr] at hq; cases hq
              | some j =>
                rw [hr] at hq
                simp at hq
                have hji : j = i := by
                  have h2 := (List.getElem?_eq_some_iff.1 hr).2
                  simpa using h2.symm
                subst hji
                exact congrArg some hq) ps vs.toList _ _ _ hp hcr g1
            refine Done.of_alloc hs (o := .cells rv e) (v := .slice (some ⟨w.heap.size, 0, none⟩) len len) ?_ ?_ ?_ h
            · have hne : ¬ len * ie.size > 2 ^ 24 := by rw [q2]; omega
              simp only [Instr.buildSlice, Sem.run_bind, run_underlying hu, Result.andThen_ok, run_sizeOf' q1, Sem.run_ite, if_neg hne]
              by_cases h0 : len = 0
              · subst h0
                have hvs : ps = [] := by
                  cases ps with
                  | nil => rfl
                  | cons p ps => simp [elems] at hes
                subst hvs
                have hv0 : vs.toList = [] := List.eq_nil_of_length_eq_zero (by simpa using hp.1)
                rw [hv0] at r1
                simp [Instr.fill] at r1
                subst r1
                simp [newRow, hv0, Instr.fill, show Array.range 0 = (#[] : Array Nat) from rfl]
              · have hn0 : ¬ len * ed.size = 0 := Nat.mul_ne_zero h0 hsz'
                simp only [q2, if_neg hn0, z1, Result.andThen_ok, Sem.run_pure, r1]
                simp [newRow]
            · intro w' μ' he hh
              refine .arr rv e hh ?_ ?_ g3 (fun i v hv => ?_) fun i j e' x v hei hej hv => ?_
              · rw [r2.1, length_flat ed.size es g3, g2]; rfl
              · simp [g2]
              · have hlt := (Array.getElem?_eq_some_iff.1 hv).1
                rw [r2.1] at hlt
                exact (r2.2 i _ v (List.getElem?_eq_getElem hlt) hv).2
              · have := r2.2 (i * ed.size + j) x v (get_flat ed.size es g3 i j e' x hei hej) hv
                exact ⟨this.1.ext he, this.2⟩
            · intro w' μ' _ hm
              have := VR.sl (w := w') (F := F) (k := ed.size) (i := .lit 0) (len := .lit len) (cap := .lit len) hm (Nat.le_refl _) (by have := Nat.le_mul_of_pos_right len (Nat.pos_of_ne_zero hsz'); show len ≤ _; omega)
              rw [lenL_eq]
              simpa using this
          · exact h.elim
        · exact h.elim
      · exact h.elim
    · exact h.elim
  · exact h.elim

/-! ### Maps -/
omit [Gl] in
theorem eqCell_now {sh : Sh} {kd : TypeDesc} (hsh : shOf kd = sh) {x y : AV} {a b : Value} {r : Th Bool} (ha : VR w F μ x a) (hb : VR w F μ y b) (h : eqCell sh x y = some r) : Instr.sameNow kd a b = some r.den := by
  unfold eqCell at h
  split at h
  · split at h
    · rename_i k1 a1 k2 b1
      split at h
      · rename_i hk
        have hk' : k1 = k2 := by simpa using hk
        subst hk'
        cases h
        rw [ha.iE, hb.iE]
        cases kd <;> simp [shOf] at hsh <;> simp [Instr.sameNow]
      · cases h
    · cases h
  · split at h
    · cases h
      rw [ha.bE, hb.bE]
      cases kd <;> simp [shOf] at hsh <;> simp [Instr.sameNow]
    · cases h
  · split at h
    · cases h
      rw [ha.sE, hb.sE]
      cases kd <;> simp [shOf] at hsh <;> simp [Instr.sameNow]
    · cases h
  · cases h

omit [Gl] in
theorem afind_sound {sh : Sh} {kd : TypeDesc} (hsh : shOf kd = sh) {k : AV} {kv : Value} (hk : VR w F μ k kv) :
    ∀ (es : List (AV × AV)) (ents : List MapEntry) (i : Nat) (K : Option (Nat × AV) → Prop), ents.length = es.length →
      (∀ (j : Nat) x v, es[j]? = some x → ents[j]? = some v → VR w F μ x.1 v.key ∧ VR w F μ x.2 v.val) → afind sh k es i K →
      (∃ r, eqCell sh k k = some r ∨ ∃ k', eqCell sh k k' = some r) ∧
      ((Instr.findNow kd kv ents i = some none ∧ K none) ∨ ∃ (j : Nat) (v : AV) (u : Value), Instr.findNow kd kv ents i = some (some (i + j, u)) ∧ K (some (i + j, v)) ∧ VR w F μ v u ∧ ∃ e, ents[j]? = some e ∧ Instr.sameNow kd kv e.key = some true)
  | [], ents, i, K, hl, _, h => by
    have : ents = [] := List.eq_nil_of_length_eq_zero (by simpa using hl)
    subst this
    simp only [afind] at h
    split at h
    · rename_i b hb
      exact ⟨⟨b, .inl hb⟩, .inl ⟨rfl, h⟩⟩
    · exact h.elim
  | (k', v) :: es, ents, i, K, hl, he, h => by
    cases ents with
    | nil => simp at hl
    | cons e ents =>
      simp only [afind] at h
      split at h
      · rename_i b hb
        obtain ⟨e1, e2⟩ := he 0 (k', v) e rfl rfl
        have hs := eqCell_now hsh hk e1 hb
        obtain ⟨h1, h2⟩ := brT_iff h
        refine ⟨⟨b, .inr ⟨k', hb⟩⟩, ?_⟩
        cases hbd : b.den with
        | true =>
          rw [hbd] at hs
          refine .inr ⟨0, v, e.val, ?_, h1 hbd, e2, e, rfl, hs⟩
          simp [Instr.findNow, hs]
        | false =>
          rw [hbd] at hs
          obtain ⟨_, ih⟩ := afind_sound hsh hk es ents (i + 1) K (by simpa using hl) (fun j x v hx hv => he (j + 1) x v (by simpa using hx) (by simpa using hv)) (h2 hbd)
          rcases ih with ⟨a1, a2⟩ | ⟨j, v', u, a1, a2, a3, e', a4, a5⟩
          · exact .inl ⟨by simp only [Instr.findNow, hs, a1], a2⟩
          · refine .inr ⟨j + 1, v', u, ?_, ?_, a3, e', by simpa using a4, a5⟩
            · simp only [Instr.findNow, hs, a1]; congr 3; omega
            · rw [show i + (j + 1) = i + 1 + j by omega]; exact a2
      · exact h.elim

omit [Gl] in
theorem keySh_sound (hty : TyOk P δ) {t : Nat} {sh : Sh} {ed : TD} (h : keySh δ t = some (sh, ed)) : ∃ k e kd, P.underlying t = some (.map k e) ∧ P.underlying k = some kd ∧ shOf kd = sh ∧ δ e = some ed := by
  unfold keySh at h
  split at h
  · rename_i d hd
    split at h
    · rename_i k e hsh
      split at h
      · rename_i kd ed' hkd hed
        cases h
        obtain ⟨u, hu1, hu2⟩ := sh_und hty hkd
        exact ⟨k, e, u, und_map hty hd hsh, hu1, hu2, hed⟩
      · cases h
    · cases h
  · cases h

omit [Gl] in
theorem plainKey {sh : Sh} {kd : TypeDesc} (hsh : shOf kd = sh) {x y : AV} {r : Th Bool} (h : eqCell sh x y = some r) : (∃ k, kd = .int k) ∨ kd = .bool ∨ kd = .string := by
  unfold eqCell at h
  subst hsh
  cases kd <;> simp [shOf] at h <;> simp

omit [Gl] in
theorem checkKey_run {k : TypeId} {kd : TypeDesc} (hu : P.underlying k = some kd) (h : (∃ q, kd = .int q) ∨ kd = .bool ∨ kd = .string) (b : Bool) (v : Value) : (Instr.checkKey b 10000 k v).run P w = .ok () w := by
  have g : ∀ n, (Instr.checkKey b (n + 1) k v).run P w = .ok () w := fun n => by
    rcases h with ⟨q, rfl⟩ | rfl | rfl <;> simp [Instr.checkKey, run_underlying hu]
  exact g 9999

omit [Gl] in
theorem sameBits_of {kd : TypeDesc} {a b : Value} (h : Instr.sameNow kd a b = some true) : Instr.sameBits 10000 b a = true := by
  unfold Instr.sameNow at h
  split at h
  · split at h
    · rename_i hk
      simp at h
      subst hk; subst h
      simp [Instr.sameBits]
    · cases h
  · simp only [Option.some.injEq, beq_toListBytes, beq_iff_eq] at h
    simp only [Instr.sameBits, beq_toListBytes, h, beq_self_eq_true]
  · simp at h; subst h; simp [Instr.sameBits]
  · cases h

theorem ainsert_sound (hty : TyOk P δ) (hs : St w F μ ob) {t : Nat} {m k v : AV} {vm vk vv : Value} (hm : VR w F μ m vm) (hk : VR w F μ k vk) (hv : VR w F μ v vv) (h : ainsert δ t m k v ob K) :
    DoneU P (Instr.mapUpdate t vm vk vv) w F μ K := by
  unfold ainsert at h
  split at h
  · rename_i sh ed o hks
    obtain ⟨kt, et, kd, h1, h2, h3, h4⟩ := keySh_sound hty hks
    split at h
    · rename_i es hes
      obtain ⟨b, hb, hob⟩ := hs.box hes (by simp)
      have hve := hm.mpE hb
      cases hob with
      | map ents clock g1 g2 g3 =>
        obtain ⟨⟨r, hr⟩, hf⟩ := afind_sound h3 hk es ents.toList 0 _ (by simpa using g2) (fun j x v hx hv => g3 j x v hx (by simpa using hv)) h
        have hpk : (∃ q, kd = .int q) ∨ kd = .bool ∨ kd = .string := by
          rcases hr with hr | ⟨k', hr⟩ <;> exact plainKey h3 hr
        have hob' : (getObj b).run P w = .ok (.map ents clock) w := by simp [getObj, Sem.run, g1]
        have hset : ∀ o', (setObj b o').run P w = .ok () { w with heap := w.heap.setIfInBounds b o' } := fun o' => by simp [setObj, Sem.run, g1]
        have hlt : b < w.heap.size := (Array.getElem?_eq_some_iff.1 g1).1
        have fin : ∀ (es' : List (AV × AV)) (ents' : Array MapEntry) (c' : Nat), ents'.size = es'.length → (∀ (i : Nat) x v, es'[i]? = some x → ents'[i]? = some v → VR w F μ x.1 v.key ∧ VR w F μ x.2 v.val) →
            (Instr.mapUpdate t vm vk vv).run P w = .ok () { w with heap := w.heap.setIfInBounds b (.map ents' c') } → K AUnit (ob.set o (.map es')) → DoneU P (Instr.mapUpdate t vm vk vv) w F μ K := by
          intro es' ents' c' hl hvr hrun hk
          obtain ⟨r1, r2⟩ := hs.set hb { w with heap := w.heap.setIfInBounds b (.map ents' c') } (.map es') (by simp) (fun b' hb' => by simp [Array.getElem?_setIfInBounds_ne (Ne.symm hb')]) rfl rfl rfl (fun he =>
            .map ents' c' (by simp [hlt]) hl fun i x v hx hv => ⟨(hvr i x v hx hv).1.ext he, (hvr i x v hx hv).2.ext he⟩)
          exact ⟨_, _, _, hrun, r1, r2, hk⟩
        rcases hf with ⟨a1, a2⟩ | ⟨j, v', u, a1, a2, a3, e', a4, a5⟩
        · refine fin (es ++ [(k, v)]) (ents.push { key := vk, val := vv, born := clock }) (clock + 1) (by simp [g2]) (fun i x u hx hu => ?_) ?_ (by rw [setL_eq, appL_eq] at a2; exact a2)
          · rcases Nat.lt_or_ge i es.length with hlt | hge
            · rw [List.getElem?_append_left hlt] at hx
              rw [Array.getElem?_push, if_neg (by omega)] at hu
              exact g3 i x u hx hu
            · rw [List.getElem?_append_right hge] at hx
              have hi : i = es.length := by
                have := (List.getElem?_eq_some_iff.1 hx).1; simp at this; omega
              subst hi
              rw [Array.getElem?_push, if_pos (by omega)] at hu
              simp at hx hu
              subst hx; subst hu
              exact ⟨hk, hv⟩
          · rw [hve]
            simp only [Instr.mapUpdate, Sem.run_bind, run_underlying h1, Result.andThen_ok, hob', checkKey_run h2 hpk, Instr.findKey, run_underlying h2, a1, Sem.run_pure, hset]
        · simp only [Nat.zero_add] at a1 a2
          have hjlt : j < ents.size := by have := (List.getElem?_eq_some_iff.1 a4).1; simpa using this
          have he' : ents[j]? = some e' := by simpa using a4
          refine fin (es.set j (k, v)) (ents.modify j fun e => { e with key := vk, val := vv }) clock (by simp [g2]) (fun i x u hx hu => ?_) ?_ (by rw [setL_eq, setL_eq] at a2; exact a2)
          · by_cases hij : j = i
            · subst hij
              rw [List.getElem?_set_self (by omega)] at hx
              rw [Array.getElem?_modify, if_pos rfl, he'] at hu
              simp at hx hu
              subst hx; subst hu
              exact ⟨hk, hv⟩
            · rw [List.getElem?_set_ne hij] at hx
              rw [Array.getElem?_modify, if_neg hij] at hu
              exact g3 i x u hx hu
          · rw [hve]
            have hsb := sameBits_of a5
            simp only [Instr.mapUpdate, Sem.run_bind, run_underlying h1, Result.andThen_ok, hob', checkKey_run h2 hpk, Instr.findKey, run_underlying h2, a1, Sem.run_pure, Instr.keyThatStays, he', Option.map_some, Option.getD_some, hsb, if_true, hset]
    · exact h.elim
  · exact h.elim

omit [Gl] in
theorem zeroV_sound (hty : TyOk P δ) {t : Nat} {d : TD} (hd : δ t = some d) {z : AV} (h : zeroV d = some z) (hz : d.zero ≠ []) : ∃ v, (∀ w, (zeroValue t).run P w = .ok v w) ∧ ∀ (w : World) (F : Nat → Prop) (μ : Mu), VR w F μ z v := by
  obtain ⟨i, zv, h1, h2, h3, h4, h5, h6, h7, h8⟩ := zero_sound hty hd hz
  refine ⟨zv, fun w => by simp [zeroValue, typeInfo, h1, h2], fun w F μ => ?_⟩
  unfold zeroV at h
  split at h
  · rename_i hag
    cases h
    rw [hag] at h7
    cases zv <;> simp [aggV] at h7
    rename_i cs
    have hc : ∀ (j : Nat) x u, (zeroC d)[j]? = some x → cs[j]? = some u → VR w F μ x u ∧ u.oneCell' = true := fun j x u hx hu => by
      simp only [zeroC, mapL_eq, List.getElem?_map] at hx
      cases hy : d.zero[j]? with
      | none => rw [hy] at hx; cases hx
      | some y =>
        rw [hy] at hx
        simp at hx
        subst hx
        have := h8 w (own F μ) j y u hy hu
        exact ⟨.c this, this.one⟩
    have hl : cs.size = (zeroC d).length := by simp [zeroC, mapL_eq, h5]; exact h4
    refine .agg hl (fun j x u hx hu => (hc j x u hx hu).1) (fun j u hu => ?_)
    have hlt : j < (zeroC d).length := by rw [← hl]; exact (Array.getElem?_eq_some_iff.1 hu).1
    exact (hc j _ u (List.getElem?_eq_getElem hlt) hu).2
  · rename_i hag
    rw [hag] at h7
    split at h
    · rename_i z0 hz0
      cases h
      have hcells : zv.cells = #[zv] := by cases zv <;> simp_all [aggV, Value.cells]
      exact .c (h8 w (own F μ) 0 z0 zv (by rw [hz0]; rfl) (by rw [hcells]; rfl))
    · cases h

theorem alookup_sound (hty : TyOk P δ) (hs : St w F μ ob) {t : Nat} {m k : AV} {vm vk : Value} {ok : Bool} (hm : VR w F μ m vm) (hk : VR w F μ k vk) (h : alookup δ t m k ok ob K)
    (hz : ∀ sh ed, keySh δ t = some (sh, ed) → ed.zero ≠ []) : DoneQ P (Instr.lookup t vm vk ok) w F μ ob K := by
  unfold alookup at h
  split at h
  · rename_i sh ed hks
    obtain ⟨kt, et, kd, h1, h2, h3, h4⟩ := keySh_sound hty hks
    split at h
    · rename_i z hzv
      obtain ⟨zv, z1, z2⟩ := zeroV_sound hty h4 hzv (hz _ _ hks)
      have fin : ∀ (ents : Array MapEntry) (es : List (AV × AV)), ents.size = es.length → (∀ (i : Nat) x v, es[i]? = some x → ents[i]? = some v → VR w F μ x.1 v.key ∧ VR w F μ x.2 v.val) →
          (∀ w', Sup w w' → (Instr.lookup t vm vk ok).run P w' = (do
            Instr.checkKey ents.isEmpty 10000 kt vk
            let (v, ok') ← match ← Instr.findKey kt vk ents.toList with
              | some (_, v) => pure (v, true)
              | none => pure (← zeroValue et, false)
            pure (if ok then .tuple #[v, .bool ok'] else v) : Sem Value).run P w') →
          afind sh k es 0 (lkK ok z ob K) → DoneQ P (Instr.lookup t vm vk ok) w F μ ob K := by
        intro ents es hl hvr hrun hf
        obtain ⟨⟨r, hr⟩, hf⟩ := afind_sound h3 hk es ents.toList 0 _ (by simpa using hl) (fun j x v hx hv => hvr j x v hx (by simpa using hv)) hf
        have hpk : (∃ q, kd = .int q) ∨ kd = .bool ∨ kd = .string := by
          rcases hr with hr | ⟨k', hr⟩ <;> exact plainKey h3 hr
        have tup : ∀ {x : AV} {v : Value} (b : Bool), VR w F μ x v → VR w F μ (.tup [x, AB (.lit b)]) (.tuple #[v, .bool b]) := by
          intro x v b hv
          refine .tup rfl fun i y u hy hu => ?_
          match i with
          | 0 => simp at hy hu; subst hy; subst hu; exact hv
          | 1 => simp at hy hu; subst hy; subst hu; exact VR.b (.lit b)
          | n + 2 => simp at hy
        rcases hf with ⟨a1, a2⟩ | ⟨j, v', u, a1, a2, a3, _⟩
        · cases ok
          · refine .q (v := zv) (fun w' hw => ?_) (z2 w F μ) a2
            rw [hrun w' hw]
            simp only [Sem.run_bind, checkKey_run h2 hpk, Result.andThen_ok, Instr.findKey, run_underlying h2, a1, Sem.run_pure, z1]
            simp
          · refine .q (v := .tuple #[zv, .bool false]) (fun w' hw => ?_) (tup false (z2 w F μ)) a2
            rw [hrun w' hw]
            simp only [Sem.run_bind, checkKey_run h2 hpk, Result.andThen_ok, Instr.findKey, run_underlying h2, a1, Sem.run_pure, z1]
            simp
        · cases ok
          · refine .q (v := u) (fun w' hw => ?_) a3 a2
            rw [hrun w' hw]
            simp only [Sem.run_bind, checkKey_run h2 hpk, Result.andThen_ok, Instr.findKey, run_underlying h2, a1, Sem.run_pure]
            simp
          · refine .q (v := .tuple #[u, .bool true]) (fun w' hw => ?_) (tup true a3) a2
            rw [hrun w' hw]
            simp only [Sem.run_bind, checkKey_run h2 hpk, Result.andThen_ok, Instr.findKey, run_underlying h2, a1, Sem.run_pure]
            simp
      split at h
      · rename_i o
        split at h
        · rename_i es hes
          obtain ⟨b, hb, hob⟩ := hs.box hes (by simp)
          have hve := hm.mpE hb
          cases hob with
          | map ents clock g1 g2 g3 =>
            refine fin ents es g2 g3 (fun w' hw => ?_) h
            have hob' : (getObj b).run P w' = .ok (.map ents clock) w' := by simp [getObj, Sem.run, (hw.2 b (hs.lt _ b hb)).trans g1]
            rw [hve]
            simp only [Instr.lookup, Sem.run_bind, run_underlying h1, Result.andThen_ok, hob', Sem.run_pure]
            rfl
        · exact h.elim
      · refine fin #[] [] rfl (fun i x v hx => by simp at hx) (fun w' _ => ?_) h
        rw [hm.litE]
        simp only [Instr.lookup, Sem.run_bind, run_underlying h1, Result.andThen_ok, Sem.run_pure]
        rfl
      · exact h.elim
    · exact h.elim
  · exact h.elim

end
end Go.Abs
