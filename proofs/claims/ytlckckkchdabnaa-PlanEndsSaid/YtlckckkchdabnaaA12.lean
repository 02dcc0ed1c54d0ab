/- The abstract machine, part 12: append. -/
import Derived.Test.YtlckckkchdabnaaA11
namespace Go.Abs
section
variable {P : Program} {δ : Nat → Option TD}

/-- A value that reads as these rows, of so many cells each. -/
structure Src (ob : List AO) (x : AV) (rows : List (List AV)) (k : Nat) : Prop where
  wide : ∀ e ∈ rows, e.length = k
  reads : ∀ (w : World) (F : Nat → Prop) (μ : Mu) (v : Value), VR w F μ x v → St w F μ ob → ∃ ad c, v = .slice (some ad) rows.length c ∧
    ∀ (j : Nat) y, rows.flatten[j]? = some y → ∃ u, w.cell? (ad.add j) = some u ∧ VR w F μ y u ∧ u.oneCell' = true

theorem flat_split {α : Type} (k : Nat) : ∀ (es : List (List α)), (∀ e ∈ es, e.length = k) → ∀ (j : Nat) y, es.flatten[j]? = some y → ∃ (i m : Nat) (e : List α), es[i]? = some e ∧ e[m]? = some y ∧ j = i * k + m
  | [], _, j, y, h => by simp at h
  | e :: es, hk, j, y, h => by
    have h0 := hk e List.mem_cons_self
    rw [List.flatten_cons] at h
    rcases Nat.lt_or_ge j e.length with hlt | hge
    · rw [List.getElem?_append_left hlt] at h
      exact ⟨0, j, e, rfl, h, by omega⟩
    · rw [List.getElem?_append_right hge] at h
      obtain ⟨i, m, e', h1, h2, h3⟩ := flat_split k es (fun x hx => hk x (List.mem_cons_of_mem _ hx)) _ y h
      exact ⟨i + 1, m, e', by simpa using h1, h2, by rw [Nat.add_mul]; omega⟩

theorem Src.sl {ob : List AO} {o k : Nat} {i len cap : Th Nat} {es : Th (List (List AV))} {sz : Th Nat} (hn : nth ob o = some (.arr k es sz)) (hw : ∀ e ∈ es.den, e.length = k) (hl : i.den + len.den ≤ es.den.length) :
    Src ob (.sl o k i len cap) ((es.den.drop i.den).take len.den) k where
  wide e he := hw e (List.mem_of_mem_drop (List.mem_of_mem_take he))
  reads w F μ v hv hs := by
    obtain ⟨b, hb, hob⟩ := hs.box hn (by simp)
    obtain ⟨hve, _, _⟩ := hv.slE hb
    refine ⟨⟨b, i.den * k, none⟩, cap.den, by rw [hve]; simp; omega, fun j y hy => ?_⟩
    obtain ⟨r, m, e, h1, h2, h3⟩ := flat_split k _ (fun e he => hw e (List.mem_of_mem_drop (List.mem_of_mem_take he))) j y hy
    rw [List.getElem?_take] at h1
    split at h1
    · rw [List.getElem?_drop] at h1
      obtain ⟨u, hu1, hu2, hu3⟩ := Reads.arr hob h1 m y h2
      refine ⟨u, ?_, hu2, hu3⟩
      rw [Addr.add_lit, h3, show i.den * k + (r * k + m) = (i.den + r) * k + m by rw [Nat.add_mul]; omega]
      exact hu1
    · cases h1

theorem Src.vsl {ob : List AO} {x : T} {k : Nat} {rows : List (List T)} (hx : x = .vsl k rows ∨ ∃ f, x = .vslS k f ∧ f () = .vsl k rows) (hw : ∀ e ∈ rows, e.length = k) : Src ob (.c x) (rows.map (fun e => e.map AV.c)) k where
  wide e he := by obtain ⟨e', h1, rfl⟩ := List.mem_map.1 he; simp [hw e' h1]
  reads w F μ v hv hs := by
    cases hv with
    | c hv =>
      have hr : x.rows = rows := by
        rcases hx with rfl | ⟨f, rfl, hf⟩
        · rfl
        · simp [T.rows, hf]
      have hkx : ∀ k', ((∃ es, x = .vsl k' es) ∨ ∃ f, x = .vslS k' f) → k' = k := by
        intro k' h
        rcases hx with rfl | ⟨f, rfl, hf⟩
        · rcases h with ⟨es, h⟩ | ⟨f, h⟩ <;> cases h; rfl
        · rcases h with ⟨es, h⟩ | ⟨f, h⟩ <;> cases h; rfl
      obtain ⟨k2, p, cap, r1, r6, r6', r7⟩ := vsl_form (by rcases hx with rfl | ⟨f, rfl, hf⟩; exact .inl ⟨_, _, rfl⟩; exact .inr ⟨_, _, rfl⟩) hv
      have hp : ∃ a, p = some a := by
        rcases hx with rfl | ⟨f, rfl, hf⟩
        · exact (r6 k rows rfl).2
        · rcases (r6' k f rfl).2 with ⟨h1, _⟩ | ⟨_, h⟩
          · rw [hf] at h1; cases h1
          · exact h
      obtain ⟨ad, rfl⟩ := hp
      have hk2 : k2 = k := by
        rcases hx with rfl | ⟨f, rfl, hf⟩
        · exact (r6 k rows rfl).1.symm
        · exact (r6' k f rfl).1.symm
      subst hk2
      rw [hr] at r1 r7
      refine ⟨ad, cap, by rw [r1]; simp, fun j y hy => ?_⟩
      obtain ⟨r, m, e, h1, h2, h3⟩ := flat_split k2 _ (fun e he => by obtain ⟨e', g1, rfl⟩ := List.mem_map.1 he; simp [hw e' g1]) j y hy
      rw [List.getElem?_map] at h1
      cases hrr : rows[r]? with
      | none => rw [hrr] at h1; cases h1
      | some e' =>
        rw [hrr] at h1
        simp at h1
        subst h1
        obtain ⟨b, off, rb, r8⟩ := r7 r e' hrr
        cases rb
        obtain ⟨u, hu1, hu2, hu3⟩ := Reads.vptr r8 m y (by rw [mapL_eq]; exact h2)
        exact ⟨u, by rw [Addr.add_lit, h3, ← Nat.add_assoc]; exact hu1, hu2, hu3⟩

/-- An object dies, its block goes to a new one. -/
theorem St.move {w w' : World} {F : Nat → Prop} {μ : Mu} {ob : List AO} (hs : St w F μ ob) {o b b' : Nat} (ho : μ[o]? = some (some b)) (hb' : b' = b ∨ b' = w.heap.size) (hlt : b' < w'.heap.size) (hsz : w.heap.size ≤ w'.heap.size)
    (hother : ∀ c, c < w.heap.size → c ≠ b → w'.heap[c]? = w.heap[c]?) (hos : w'.os = w.os) (htp : w'.tape = w.tape) (hout : w'.output = w.output) {x : AO}
    (hx : Ext w μ w' (μ.set o none ++ [some b']) → OB w' F (μ.set o none ++ [some b']) b' x) :
    St w' F (μ.set o none ++ [some b']) (ob.set o .dead ++ [x]) ∧ Ext w μ w' (μ.set o none ++ [some b']) := by
  have hol : o < μ.length := (List.getElem?_eq_some_iff.1 ho).1
  have hbl := hs.lt o b ho
  have get : ∀ (q c : Nat), (μ.set o none ++ [some b'])[q]? = some (some c) → (q ≠ o ∧ q < μ.length ∧ μ[q]? = some (some c)) ∨ (q = μ.length ∧ c = b') := by
    intro q c h
    rcases Nat.lt_or_ge q μ.length with h1 | h1
    · rw [List.getElem?_append_left (by simpa using h1)] at h
      by_cases e : o = q
      · subst e; rw [List.getElem?_set_self h1] at h; cases h
      · rw [List.getElem?_set_ne e] at h; exact .inl ⟨Ne.symm e, h1, h⟩
    · rw [List.getElem?_append_right (by simpa using h1)] at h
      have : q = μ.length := by
        have := (List.getElem?_eq_some_iff.1 h).1; simp at this; omega
      subst this
      simp at h
      exact .inr ⟨rfl, h.symm⟩
  have he : Ext w μ w' (μ.set o none ++ [some b']) :=
    { os := hos, tape := htp, output := hout, size := hsz
      blk := fun c hc hn => hother c hc (fun e => hn (e ▸ List.mem_of_getElem? ho))
      len := by simp
      keep := fun q c hq => by
        have hql := (List.getElem?_eq_some_iff.1 hq).1
        rw [List.getElem?_append_left (by simpa using hql)]
        by_cases e : o = q
        · subst e; rw [List.getElem?_set_self hql]; exact .inr rfl
        · rw [List.getElem?_set_ne e]; exact .inl hq
      dead := fun q hq => by
        have hql := (List.getElem?_eq_some_iff.1 hq).1
        rw [List.getElem?_append_left (by simpa using hql)]
        by_cases e : o = q
        · subst e; rw [ho] at hq; cases hq
        · rw [List.getElem?_set_ne e]; exact hq
      own := fun c hc => by
        obtain ⟨q, hq⟩ := mem_of hc
        rcases get q c hq with ⟨_, _, h⟩ | ⟨_, h⟩
        · exact .inl (List.mem_of_getElem? h)
        · rcases hb' with e | e
          · exact .inl (by rw [h, e]; exact List.mem_of_getElem? ho)
          · exact .inr (by omega) }
  refine ⟨⟨by simp [hs.len], ?_, ?_, ?_, ?_, ?_⟩, he⟩
  · intro q q' c h1 h2
    rcases get q c h1 with ⟨a1, a2, a3⟩ | ⟨a1, a2⟩ <;> rcases get q' c h2 with ⟨b1, b2, b3⟩ | ⟨b1, b2⟩
    · exact hs.inj q q' c a3 b3
    · exfalso
      rcases hb' with e | e
      · exact a1 (hs.inj q o b (by rw [b2, e] at a3; exact a3) ho)
      · have := hs.lt q c a3; omega
    · exfalso
      rcases hb' with e | e
      · exact b1 (hs.inj q' o b (by rw [a2, e] at b3; exact b3) ho)
      · have := hs.lt q' c b3; omega
    · omega
  · intro q c h
    rcases get q c h with ⟨_, _, h⟩ | ⟨_, h⟩
    · exact Nat.lt_of_lt_of_le (hs.lt q c h) hsz
    · rw [h]; exact hlt
  · intro q h
    rcases Nat.lt_or_ge q μ.length with h1 | h1
    · rw [List.getElem?_append_left (by simpa using h1)] at h
      rw [List.getElem?_append_left (by simp [← hs.len]; exact h1)]
      by_cases e : o = q
      · subst e; rw [List.getElem?_set_self (by rw [← hs.len]; exact h1)]
      · rw [List.getElem?_set_ne e] at h ⊢; exact hs.dead q h
    · rw [List.getElem?_append_right (by simpa using h1)] at h
      have : q = μ.length := by
        have := (List.getElem?_eq_some_iff.1 h).1; simp at this; omega
      subst this
      simp at h
  · intro c hc
    refine ⟨Nat.lt_of_lt_of_le (hs.frame c hc).1 hsz, fun hm => ?_⟩
    obtain ⟨q, hq⟩ := mem_of hm
    rcases get q c hq with ⟨_, _, h⟩ | ⟨_, h⟩
    · exact (hs.frame c hc).2 (List.mem_of_getElem? h)
    · rcases hb' with e | e
      · exact (hs.frame c hc).2 (by rw [h, e]; exact List.mem_of_getElem? ho)
      · have := (hs.frame c hc).1; omega
  · intro q c h
    rcases get q c h with ⟨a1, a2, a3⟩ | ⟨a1, a2⟩
    · obtain ⟨y, h1, h2⟩ := hs.live q c a3
      refine ⟨y, by rw [List.getElem?_append_left (by simp [← hs.len]; exact a2), List.getElem?_set_ne (Ne.symm a1)]; exact h1, ?_⟩
      exact h2.ext he (hother c (hs.lt q c a3) (fun e => a1 (hs.inj q o b (e ▸ a3) ho)))
    · subst a1; subst a2
      exact ⟨x, by rw [hs.len, List.getElem?_append_right (by simp)]; simp, hx he⟩

theorem run_append_room' (w : World) (t ty e ety : TypeId) (i : TypeInfo) (ht : P.underlying t = some (.slice e)) (hi : P.info? e = some i)
    (g sLen sCap : Nat) (cur : Array Value) (hg : w.heap[g]? = some (.cells cur ety (0, 0)))
    (a : Addr) (m c : Nat) (news : List Value) (hl : news.length = m * i.size) (hnews : ∀ j v, news[j]? = some v → w.cell? (a.add j) = some v) (h1 : ∀ u ∈ news, u.oneCell' = true)
    (hroom : sLen + m ≤ sCap) (hfit : sLen * i.size + news.length ≤ cur.size) :
    (Builtin.append_ #[t, t] ty #[.slice (some ⟨g, 0, none⟩) sLen sCap, .slice (some a) m c]).run P w =
      .ok (.slice (some ⟨g, 0, none⟩) (sLen + m) sCap) (w.setRow g (cur.toList.take (sLen * i.size) ++ news ++ cur.toList.drop (sLen * i.size + news.length)).toArray) := by
  have hf := run_firstCells_some (P := P) w i.size m a m c news hl hnews
  have hst := run_storeCells_at P g (sLen * i.size) ety news 0 cur w hg (by simpa using hfit) h1
  simp only [Nat.add_zero] at hst
  simp [Builtin.append_, run_underlying ht, sizeOf, typeInfo, hi, Builtin.lenOf, hroom, hf, Addr.add_lit, hst]

/-- **append to a list of one's own.** -/
theorem append_own (hty : TyOk P δ) {t e : Nat} {d ed : TD} (hd : δ t = some d) (hsh : d.sh = .slice e) (hed : δ e = some ed) (hz : ed.zero ≠ []) {ob : List AO} {o k : Nat} {i len cap : Th Nat} {es : Th (List (List AV))} {sz : Th Nat}
    (hn : nth ob o = some (.arr k es sz)) (hk : k = ed.size) (hi : i.den = 0) (hlen : es.den.length = len.den) (hsz : sz.den = cap.den * k) (hwide : ∀ r ∈ es.den, r.length = k) {x : AV} {news : List (List AV)} (hsrc : Src ob x news k)
    (hbytes : (len.den + news.length) * ed.bytes ≤ 140737488355328) (h63 : len.den + news.length ≤ 9223372036854775807) {K : AV → List AO → Prop} (L : Th Nat) (E : Th (List (List AV))) (hL : L.den = len.den + news.length) (hE : E.den = es.den ++ news)
    (hK : ∀ c : Nat, L.den ≤ c → K (.sl (lenL ob) k (.lit 0) L (.th fun _ => c)) (appL (setL ob o .dead) [.arr k E (.th fun _ => c * k)])) : AAppend P δ t t (.sl o k i len cap) x ob K := by
  refine ⟨fun ty w F μ vs vx hvs hvx hs => ?_⟩
  obtain ⟨b, hb, hob⟩ := hs.box hn (by simp)
  obtain ⟨hve, hlc, hcm⟩ := hvs.slE hb
  obtain ⟨ad, c0, hvxe, hcells⟩ := hsrc.reads w F μ vx hvx hs
  have hu := und_slice hty hd hsh
  obtain ⟨ie, z, q1, q2, q3, q4, q5, _⟩ := zero_sound hty hed hz
  obtain ⟨ie', q1', q3', q6⟩ := size_of hty hed
  rw [q1] at q1'; cases q1'
  have hks : ie.size = k := by rw [q3, hk]
  cases hob with
  | arr blk ety g1 g2 g3 g4 g5 =>
    have hblt := hs.lt o b hb
    have hnl : news.flatten.length = news.length * k := length_flat k news hsrc.wide
    have hel : es.den.flatten.length = len.den * k := by rw [length_flat k es.den hwide, hlen]
    -- the new cells' values
    let nv : List Value := (List.range (news.length * k)).map fun j => (w.cell? (ad.add j)).getD undef
    have hnvl : nv.length = news.length * ie.size := by simp [nv, hks]
    have hnv : ∀ (j : Nat) y u, news.flatten[j]? = some y → nv[j]? = some u → VR w F μ y u ∧ u.oneCell' = true := by
      intro j y u hy hu'
      obtain ⟨u', h1, h2, h3⟩ := hcells j y hy
      have hj : j < news.length * k := by rw [← hnl]; exact (List.getElem?_eq_some_iff.1 hy).1
      simp [nv, hj, h1] at hu'
      subst hu'; exact ⟨h2, h3⟩
    have hcell : ∀ (j : Nat) u, nv[j]? = some u → w.cell? (ad.add j) = some u := by
      intro j u hu'
      have hj : j < news.length * k := by
        have := (List.getElem?_eq_some_iff.1 hu').1; simpa [nv] using this
      obtain ⟨u', h1, _⟩ := hcells j _ (List.getElem?_eq_getElem (by rw [hnl]; exact hj))
      simp [nv, hj, h1] at hu'
      subst hu'; exact h1
    have hone : ∀ u ∈ nv, u.oneCell' = true := by
      intro u hu'
      obtain ⟨j, hj, rfl⟩ := List.getElem_of_mem hu'
      have hj' : j < news.flatten.length := by rw [hnl]; simpa [nv] using hj
      exact (hnv j _ _ (List.getElem?_eq_getElem hj') (List.getElem?_eq_getElem hj)).2
    have hov : ∀ (j : Nat) y u, es.den.flatten[j]? = some y → blk[j]? = some u → VR w F μ y u ∧ u.oneCell' = true := by
      intro j y u hy hu'
      obtain ⟨r, m, e', h1, h2, h3⟩ := flat_split k es.den hwide j y hy
      exact g5 r m e' y u h1 h2 (by rw [← h3]; exact hu')
    have hEl : E.den.length = len.den + news.length := by rw [hE, List.length_append, hlen]
    have hEw : ∀ r ∈ E.den, r.length = k := by
      intro r hr
      rw [hE] at hr
      rcases List.mem_append.1 hr with h | h
      · exact hwide r h
      · exact hsrc.wide r h
    have hblk : len.den * k ≤ blk.size := by rw [g2, hsz]; exact Nat.mul_le_mul_right _ hlc
    -- how the new row reads
    have build : ∀ (w' : World) (μ' : Mu) (b' : Nat) (rest : List Value) (c : Nat) (ety : TypeId), Ext w μ w' μ' → w'.heap[b']? = some (.cells (blk.toList.take (len.den * k) ++ nv ++ rest).toArray ety (0, 0)) → (len.den + news.length) * k + rest.length = c * k → len.den + news.length ≤ c →
        OB w' F μ' b' (.arr k E (.th fun _ => c * k)) := by
      intro w' μ' b' rest c ety he hh hr hc
      have htl : (blk.toList.take (len.den * k)).length = len.den * k := by simp; omega
      refine .arr _ ety hh ?_ ?_ hEw fun r m e' y u h1 h2 h3 => ?_
      · simp only [List.size_toArray, List.length_append, htl, hnvl, hks, Th.den_th]
        rw [← hr, Nat.add_mul]
      · rw [hEl]; exact Nat.mul_le_mul_right _ hc
      · have hf : E.den.flatten[r * k + m]? = some y := get_flat k E.den hEw r m e' y h1 h2
        rw [hE, List.flatten_append] at hf
        rw [List.getElem?_toArray, List.append_assoc] at h3
        rcases Nat.lt_or_ge (r * k + m) (len.den * k) with hlt | hge
        · rw [List.getElem?_append_left (by rw [hel]; exact hlt)] at hf
          rw [List.getElem?_append_left (by rw [htl]; exact hlt), List.getElem?_take, if_pos hlt] at h3
          have := hov _ y u hf (by simpa using h3)
          exact ⟨this.1.ext he, this.2⟩
        · rw [List.getElem?_append_right (by rw [hel]; exact hge), hel] at hf
          rw [List.getElem?_append_right (by rw [htl]; exact hge), htl] at h3
          have hlt2 : r * k + m - len.den * k < nv.length := by
            rw [hnvl, hks, ← hnl]; exact (List.getElem?_eq_some_iff.1 hf).1
          rw [List.getElem?_append_left hlt2] at h3
          have := hnv _ y u hf h3
          exact ⟨this.1.ext he, this.2⟩
    have fin : ∀ (w' : World) (b' c : Nat) (rest : List Value) (ety : TypeId), (b' = b ∨ b' = w.heap.size) → b' < w'.heap.size → w.heap.size ≤ w'.heap.size → (∀ q, q < w.heap.size → q ≠ b → w'.heap[q]? = w.heap[q]?) → w'.os = w.os → w'.tape = w.tape → w'.output = w.output →
        w'.heap[b']? = some (.cells (blk.toList.take (len.den * k) ++ nv ++ rest).toArray ety (0, 0)) → (len.den + news.length) * k + rest.length = c * k → len.den + news.length ≤ c → c ≤ 9223372036854775807 →
        (Builtin.append_ #[t, t] ty #[vs, vx]).run P w = .ok (.slice (some ⟨b', 0, none⟩) (len.den + news.length) c) w' →
        ∃ v y ob' μ' w', (Builtin.append_ #[t, t] ty #[vs, vx]).run P w = .ok v w' ∧ VR w' F μ' y v ∧ St w' F μ' ob' ∧ Ext w μ w' μ' ∧ K y ob' := by
      intro w' b' c rest ety h1 h2 h3 h4 h5 h6 h7 h8 h9 h10 h11 h12
      obtain ⟨r1, r2⟩ := hs.move hb h1 h2 h3 h4 h5 h6 h7 (x := .arr k E (.th fun _ => c * k)) (fun he => build w' _ b' rest c ety he h8 h9 h10)
      have hK' := hK c (by rw [hL]; exact h10)
      rw [lenL_eq, appL_eq, setL_eq] at hK'
      refine ⟨_, _, _, _, w', h12, ?_, r1, r2, hK'⟩
      have hm : (μ.set o none ++ [some b'])[ob.length]? = some (some b') := by
        rw [← hs.len, List.getElem?_append_right (by simp)]; simp
      have := VR.sl (w := w') (F := F) (k := k) (i := .lit 0) (len := L) (cap := .th fun _ => c) hm (by rw [hL]; exact h10) h11
      rw [hL] at this
      simpa using this
    by_cases hroom : len.den + news.length ≤ cap.den
    · -- in place
      have hr := run_append_room' (P := P) w t ty e ety ie hu q1 b len.den cap.den blk g1 ad news.length c0 nv hnvl hcell hone hroom (by
        rw [hnvl, hks, ← Nat.add_mul, g2, hsz]; exact Nat.mul_le_mul_right _ hroom)
      refine fin (w.setRow b (blk.toList.take (len.den * ie.size) ++ nv ++ blk.toList.drop (len.den * ie.size + nv.length)).toArray) b cap.den (blk.toList.drop (len.den * k + nv.length)) ety (.inl rfl) (by simpa using hblt) (by simp) (fun q _ hq => setRow_other w b q _ hq) rfl rfl rfl ?_ ?_ hroom hcm ?_
      · rw [setRow_heap w b blk _ ety _ g1, hks]
      · have : (len.den + news.length) * k ≤ cap.den * k := Nat.mul_le_mul_right _ hroom
        simp only [List.length_drop, Array.length_toList, g2, hsz, hnvl, hks]
        rw [Nat.add_mul] at this ⊢; omega
      · rw [hve, hvxe, hi, Nat.zero_mul]; exact hr
    · have holds : ∀ (j : Nat) u, (blk.toList.take (len.den * k))[j]? = some u → w.cell? ((⟨b, 0, none⟩ : Addr).add j) = some u := by
        intro j u hu'
        rw [List.getElem?_take] at hu'
        split at hu'
        · rw [Addr.add_lit, Nat.zero_add, cell_of_row w b j blk ety (0, 0) g1]; simpa using hu'
        · cases hu'
      have hr := run_append_grow (P := P) w t ty e ie z hu q1 q2 ⟨b, 0, none⟩ len.den cap.den (blk.toList.take (len.den * k)) (by simp [hks]; omega) holds ad news.length c0 nv hnvl hcell (by omega) (by omega) (growslice_fits (by omega) (by rw [q6]; exact hbytes))
      have hge := grownCap_ge w (len.den + news.length) cap.den e
      have hle := grownCap_le_maxLen w (len.den + news.length) cap.den e (by simp only [maxLen]; omega)
      simp only [maxLen] at hle
      refine fin (w.drew.alloc (.cells ((blk.toList.take (len.den * k)).toArray ++ nv.toArray ++ Builtin.zeroCells z.cells (grownCap w (len.den + news.length) cap.den e - (len.den + news.length))) e)) w.heap.size (grownCap w (len.den + news.length) cap.den e) (Builtin.zeroCells z.cells (grownCap w (len.den + news.length) cap.den e - (len.den + news.length))).toList e (.inr rfl) (by simp) (by simp) (fun q hq _ => Go.RowKit.Below.heap_alloc w.drew _ q hq) rfl rfl rfl ?_ ?_ hge (by omega) ?_
      · rw [show w.heap.size = w.drew.heap.size from rfl, heap_alloc_new]
        congr 3
        apply Array.ext'; simp
      · have hz : z.cells.size = k := by rw [q4, hk]
        simp only [Array.length_toList, size_zeroCells, hz, ← Nat.add_mul]
        congr 1; omega
      · rw [hve, hvxe, hi, Nat.zero_mul]; exact hr

end
end Go.Abs
