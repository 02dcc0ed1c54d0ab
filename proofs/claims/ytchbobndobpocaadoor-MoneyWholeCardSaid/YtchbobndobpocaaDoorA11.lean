/- The abstract machine, part 11: calls of functions that only read; what comes of them. -/
import Derived.Test.YtchbobndobpocaaDoorA10
namespace Go.Abs
variable [Gl]

mutual
def pureA : AV → Bool
  | .c _ => true
  | .agg cs => pureL cs
  | .tup vs => pureL vs
  | .fn _ a b => match pureL a with | true => pureL b | false => false
  | .ifc _ x => pureA x
  | _ => false
def pureL : List AV → Bool
  | [] => true
  | x :: xs => match pureA x with | true => pureL xs | false => false
end

omit [Gl] in
theorem pureL_get : ∀ {xs : List AV}, pureL xs = true → ∀ (i : Nat) x, xs[i]? = some x → pureA x = true
  | [], _, i, x, h => by simp at h
  | y :: ys, h, i, x, hx => by
    simp only [pureL] at h
    split at h
    · rename_i hy
      cases i with
      | zero => simp at hx; subst hx; exact hy
      | succ i => exact pureL_get h i x (by simpa using hx)
    · cases h
omit [Gl] in
theorem pureL_of : ∀ {xs : List AV}, (∀ (i : Nat) x, xs[i]? = some x → pureA x = true) → pureL xs = true
  | [], _ => rfl
  | y :: ys, h => by
    simp only [pureL, h 0 y rfl]
    exact pureL_of fun i x hx => h (i + 1) x (by simpa using hx)

omit [Gl] in
theorem VR.pure {w w' : World} {F F' : Nat → Prop} {μ μ' : Mu} (ht : ∀ t v, VT w (own F μ) t v → VT w' (own F' μ') t v) {x : AV} {v : Value} (h : VR w F μ x v) : pureA x = true → VR w' F' μ' x v := by
  induction h with
  | c h => intro _; exact .c (ht _ _ h)
  | fn h1 h2 _ _ i1 i2 =>
    intro hp
    simp only [pureA] at hp
    split at hp
    · rename_i ha
      exact .fn h1 h2 (fun i x v hx hv => i1 i x v hx hv (pureL_get ha i x hx)) (fun i x v hx hv => i2 i x v hx hv (pureL_get hp i x hx))
    · cases hp
  | ifc _ ih => intro hp; exact .ifc (ih (by simpa [pureA] using hp))
  | agg h1 _ h3 ih => intro hp; simp only [pureA] at hp; exact .agg h1 (fun i x v hx hv => ih i x v hx hv (pureL_get hp i x hx)) h3
  | tup h1 _ ih => intro hp; simp only [pureA] at hp; exact .tup h1 (fun i x v hx hv => ih i x v hx hv (pureL_get hp i x hx))
  | _ => intro hp; simp [pureA] at hp

/-- What a value is once nobody writes any more. -/
inductive Fz (o : List AO) : AV → AV → Prop where
  | pure {x : AV} : pureA x = true → Fz o x x
  | sl {n k : Nat} {i len cap : Th Nat} {es : Th (List (List AV))} {sz : Th Nat} (rows : List (List T)) (r : List (List T)) : nth o n = some (.arr k es sz) → es.den = rows.map (fun e => e.map AV.c) → i.den + len.den ≤ rows.length →
      r = (rows.drop i.den).take len.den → Fz o (.sl n k i len cap) (.c (.vsl k r))
  | slS {n k : Nat} {i len cap : Th Nat} {es : Th (List (List AV))} {sz : Th Nat} (rows : List (List T)) (f : Unit → T) : nth o n = some (.arr k es sz) → es.den = rows.map (fun e => e.map AV.c) → i.den + len.den ≤ rows.length →
      f () = .vsl k ((rows.drop i.den).take len.den) → Fz o (.sl n k i len cap) (.c (.vslS k f))
  | agg {cs ds : List AV} : cs.length = ds.length → (∀ (i : Nat) x y, cs[i]? = some x → ds[i]? = some y → Fz o x y) → Fz o (.agg cs) (.agg ds)
  | tup {cs ds : List AV} : cs.length = ds.length → (∀ (i : Nat) x y, cs[i]? = some x → ds[i]? = some y → Fz o x y) → Fz o (.tup cs) (.tup ds)

omit [Gl] in
theorem Fz.pureOut {o : List AO} {x y : AV} (h : Fz o x y) : pureA y = true := by
  induction h with
  | pure h => exact h
  | sl => rfl
  | slS => rfl
  | agg h1 _ ih =>
    simp only [pureA]
    refine pureL_of fun i y hy => ?_
    have hlt := (List.getElem?_eq_some_iff.1 hy).1
    exact ih i _ y (List.getElem?_eq_getElem (h1 ▸ hlt)) hy
  | tup h1 _ ih =>
    simp only [pureA]
    refine pureL_of fun i y hy => ?_
    have hlt := (List.getElem?_eq_some_iff.1 hy).1
    exact ih i _ y (List.getElem?_eq_getElem (h1 ▸ hlt)) hy

section
variable {P : Program} {δ : Nat → Option TD}

theorem freeze_row {w : World} {F : Nat → Prop} {μ : Mu} {ob : List AO} (hs : St w F μ ob) {O : Nat → Prop} {n k : Nat} (hO : ∀ b, b < w.heap.size → O b → own F μ b) (hnO : ∀ b, μ[n]? = some (some b) → ¬ O b) {i len cap : Th Nat} {es : Th (List (List AV))} {sz : Th Nat} {rows : List (List T)}
    (hn : nth ob n = some (.arr k es sz)) (he : es.den = rows.map (fun e => e.map AV.c)) (hl : i.den + len.den ≤ rows.length) {v : Value} (hv : VR w F μ (.sl n k i len cap) v) : VT w O (.vsl k ((rows.drop i.den).take len.den)) v := by
  by_cases hg : gone (.arr k es sz)
  · have hr : rows = [] := by
      have := hg.1
      rw [he] at this
      simpa using this
    subst hr
    obtain ⟨a, hve, _, _, h0⟩ := hv.slV
    simp at hl
    subst hve
    simp only [hl, List.drop_nil, List.take_nil]
    exact .vsl0 h0
  obtain ⟨b, hb, hob⟩ := hs.box hn hg
  obtain ⟨hve, hcap, _⟩ := hv.slE hb
  subst hve
  have hlt := hs.lt n b hb
  have hnO : ¬ O b := hnO b hb
  cases hob with
  | arr blk ty g1 g2 g3 g4 g6 g5 =>
    have hlen : ((rows.drop i.den).take len.den).length = len.den := by simp; omega
    have hrow : ∀ (j : Nat) e, ((rows.drop i.den).take len.den)[j]? = some e → rows[i.den + j]? = some e := by
      intro j e h
      rw [List.getElem?_take] at h
      split at h
      · rwa [List.getElem?_drop] at h
      · cases h
    have hk : ∀ (j : Nat) e, rows[j]? = some e → e.length = k := by
      intro j e h
      have : (e.map AV.c).length = k := g4 _ (by rw [he]; exact List.mem_map.2 ⟨e, List.mem_of_getElem? h, rfl⟩)
      simpa using this
    have hcell : ∀ (j m : Nat) e x, ((rows.drop i.den).take len.den)[j]? = some e → e[m]? = some x → ∃ u, w.cell? ⟨b, i.den * k + (j * k + m), none⟩ = some u ∧ VT w (own F μ) x u := by
      intro j m e x h1 h2
      have h3 := hrow j e h1
      have h4 : es.den[i.den + j]? = some (e.map AV.c) := by rw [he, List.getElem?_map, h3]; rfl
      have h5 : (e.map AV.c)[m]? = some (.c x) := by rw [List.getElem?_map, h2]; rfl
      have hmk : m < k := by rw [← hk _ e h3]; exact (List.getElem?_eq_some_iff.1 h2).1
      have hij : i.den + j < es.den.length := (List.getElem?_eq_some_iff.1 h4).1
      have hpos : (i.den + j) * k + m < blk.size := by
        rw [g2]
        have : (i.den + j + 1) * k ≤ es.den.length * k := Nat.mul_le_mul_right _ hij
        rw [Nat.add_mul] at this; omega
      have := g5 (i.den + j) m _ (.c x) blk[(i.den + j) * k + m] h4 h5 (Array.getElem?_eq_getElem hpos)
      refine ⟨blk[(i.den + j) * k + m], ?_, ?_⟩
      · rw [cell_of_row w b _ blk ty (0, 0) g1, show i.den * k + (j * k + m) = (i.den + j) * k + m by rw [Nat.add_mul]; omega, Array.getElem?_eq_getElem hpos]
      · cases this.1 with | c h => exact h
    have := VT.vsl (w := w) (O := O) (k := k) (es := (rows.drop i.den).take len.den) (b := b) (off := i.den * k) (cap := cap.den) (fun j m => (w.cell? ⟨b, i.den * k + (j * k + m), none⟩).getD undef) hlt hnO (by rw [hlen]; exact hcap)
      (fun e hm => by obtain ⟨j, hj, rfl⟩ := List.getElem_of_mem hm; exact hk _ _ (hrow j _ (List.getElem?_eq_getElem hj)))
      (fun j m e x h1 h2 => by obtain ⟨u, hu, _⟩ := hcell j m e x h1 h2; rw [hu]; rfl)
      (fun j m e x h1 h2 => by
        obtain ⟨u, hu, hv⟩ := hcell j m e x h1 h2
        rw [hu]
        exact hv.mono (Nat.le_refl _) (fun _ _ _ => rfl) (fun b hb hn hO' => hn (hO b hb hO')))
    rw [hlen] at this
    exact this

theorem Fz.sound {w : World} {F : Nat → Prop} {μ : Mu} {ob : List AO} (hs : St w F μ ob) {F' : Nat → Prop} {μ' : Mu} (hO : ∀ b, b < w.heap.size → own F' μ' b → F b) {x y : AV} (h : Fz ob x y) : ∀ {v}, VR w F μ x v → VR w F' μ' y v := by
  induction h with
  | pure h =>
    intro v hv
    exact hv.pure (fun t v ht => ht.mono (Nat.le_refl _) (fun _ _ _ => rfl) (fun b hb hn hO' => hn (.inr (hO b hb hO')))) h
  | sl rows r h1 h2 h3 h4 => intro v hv; rw [h4]; exact .c (freeze_row hs (fun b hb h => .inr (hO b hb h)) (fun b hb h => (hs.frame b (hO b (hs.lt _ b hb) h)).2 (List.mem_of_getElem? hb)) h1 h2 h3 hv)
  | slS rows f h1 h2 h3 h4 => intro v hv; exact .c (.vslS h4 (freeze_row hs (fun b hb h => .inr (hO b hb h)) (fun b hb h => (hs.frame b (hO b (hs.lt _ b hb) h)).2 (List.mem_of_getElem? hb)) h1 h2 h3 hv))
  | agg h1 _ ih =>
    intro v hv
    cases hv with
    | agg a1 a2 a3 =>
      refine .agg (by rw [a1, h1]) (fun i y v hy hv => ?_) a3
      have hlt := (List.getElem?_eq_some_iff.1 hy).1
      exact ih i _ y (List.getElem?_eq_getElem (h1 ▸ hlt)) hy (a2 i _ v (List.getElem?_eq_getElem (h1 ▸ hlt)) hv)
  | tup h1 _ ih =>
    intro v hv
    cases hv with
    | tup a1 a2 =>
      refine .tup (by rw [a1, h1]) (fun i y v hy hv => ?_)
      have hlt := (List.getElem?_eq_some_iff.1 hy).1
      exact ih i _ y (List.getElem?_eq_getElem (h1 ▸ hlt)) hy (a2 i _ v (List.getElem?_eq_getElem (h1 ▸ hlt)) hv)

/-- Nothing of one's own: the state of a call that is handed immutable data alone. -/
theorem St.bare {w : World} {F : Nat → Prop} {μ : Mu} {ob : List AO} (hs : St w F μ ob) : St w (own F μ) [] [] where
  len := rfl
  inj o o' b h := by simp at h
  lt o b h := by simp at h
  dead o h := by simp at h
  frame b h := by
    refine ⟨?_, by simp⟩
    rcases h with h | h
    · obtain ⟨o, ho⟩ := mem_of h; exact hs.lt o b ho
    · exact (hs.frame b h).1
  live o b h := by simp at h
  gl := hs.gl.sub fun b _ h => by
    rcases h with h | h
    · simp at h
    · exact h

/-- The state behind such a call. -/
theorem St.behind {w w' : World} {F : Nat → Prop} {μ μ1 : Mu} {ob : List AO} (hs : St w F μ ob) (hx : Ext w [] w' μ1) : St w' F μ ob ∧ Ext w μ w' μ := by
  have he : Ext w μ w' μ :=
    { os := hx.os, tape := hx.tape, output := hx.output, size := hx.size, blk := fun b hb _ => hx.blk b hb (by simp), len := Nat.le_refl _
      keep := fun _ _ h => .inl h, dead := fun _ h => h, own := fun _ h => .inl h }
  exact ⟨hs.same he fun b hb => hx.blk b (by obtain ⟨o, ho⟩ := mem_of hb; exact hs.lt o b ho) (by simp), he⟩

/-- **A call that is handed immutable data alone.** -/
theorem ACall.pure {f : FuncId} {args : List AV} {K0 K : AV → List AO → Prop} {ob : List AO} (h : ACall P f args [] K0) (hp : pureL args = true) (hk : ∀ x o, K0 x o → ∃ y, Fz o x y ∧ K y ob) : ACall P f args ob K := by
  refine ⟨fun w F μ cargs hv hs => ?_⟩
  have hv' : VRs w (own F μ) [] args cargs.toList := ⟨hv.1, fun i x v hx hu => (hv.2 i x v hx hu).pure (fun t v ht => ht.mono (Nat.le_refl _) (fun _ _ _ => rfl) (fun b _ hn ho => hn (by
    rcases ho with ho | ho
    · simp at ho
    · exact ho))) (pureL_get hp i x hx)⟩
  have hr := h.run w (own F μ) [] cargs hv' hs.bare
  have post : ∀ e w', (∃ v x ob' μ', e = Ending.returned v ∧ VR w' (own F μ) μ' x v ∧ St w' (own F μ) μ' ob' ∧ Ext w [] w' μ' ∧ K0 x ob') → ∃ v x ob' μ', e = Ending.returned v ∧ VR w' F μ' x v ∧ St w' F μ' ob' ∧ Ext w μ w' μ' ∧ K x ob' := by
    intro e w' ⟨v, x, ob', μ', g1, g2, g3, g4, g5⟩
    obtain ⟨y, hy, hky⟩ := hk x ob' g5
    obtain ⟨q1, q2⟩ := hs.behind g4
    exact ⟨v, y, ob, μ, g1, hy.sound g3 (fun b _ h => h) g2, q1, q2, hky⟩
  unfold CallsX at hr ⊢
  split at hr
  · obtain ⟨h1, h2, h3, h4⟩ := hr
    exact ⟨h1, h2, h3, h4.mono post⟩
  · exact post _ _ hr
  · exact hr.elim

/-- One's own lists, lent to a call that only reads, and hands back nothing of them. -/
inductive Fzs (o : List AO) : List AV → List AV → Prop where
  | nil : Fzs o [] []
  | cons {x y : AV} {xs ys : List AV} : Fz o x y → Fzs o xs ys → Fzs o (x :: xs) (y :: ys)

theorem Fzs.sound {w : World} {F : Nat → Prop} {μ : Mu} {ob : List AO} (hs : St w F μ ob) {F' : Nat → Prop} {μ' : Mu} (hO : ∀ b, b < w.heap.size → own F' μ' b → F b) {xs ys : List AV} (h : Fzs ob xs ys) : ∀ {vs}, VRs w F μ xs vs → VRs w F' μ' ys vs := by
  induction h with
  | nil => intro vs hv; exact ⟨hv.1, fun i x v hx => by simp at hx⟩
  | cons h1 _ ih =>
    intro vs hv
    cases vs with
    | nil => have := hv.1; simp at this
    | cons v vs =>
      have ih' := ih (vs := vs) ⟨by have := hv.1; simpa using this, fun i x v hx hu => hv.2 (i + 1) x v (by simpa using hx) (by simpa using hu)⟩
      refine ⟨by simp [ih'.1], fun i y u hy hu => ?_⟩
      cases i with
      | zero => simp at hy hu; subst hy; subst hu; exact h1.sound hs hO (hv.2 0 _ _ rfl rfl)
      | succ i => exact ih'.2 i y u (by simpa using hy) (by simpa using hu)

/-- A value without any address. -/
def flatT : T → Bool
  | .int _ _ | .bool _ | .str _ | .lit _ => true
  | _ => false
mutual
def flatA : AV → Bool
  | .c t => flatT t
  | .agg cs => flatL cs
  | .tup vs => flatL vs
  | _ => false
def flatL : List AV → Bool
  | [] => true
  | x :: xs => match flatA x with | true => flatL xs | false => false
end
omit [Gl] in
theorem flatL_get : ∀ {xs : List AV}, flatL xs = true → ∀ (i : Nat) x, xs[i]? = some x → flatA x = true
  | [], _, i, x, h => by simp at h
  | y :: ys, h, i, x, hx => by
    simp only [flatL] at h
    split at h
    · rename_i hy
      cases i with
      | zero => simp at hx; subst hx; exact hy
      | succ i => exact flatL_get h i x (by simpa using hx)
    · cases h
omit [Gl] in
theorem VT.flat {w w' : World} {O O' : Nat → Prop} {t : T} {v : Value} (h : VT w O t v) (hf : flatT t = true) : VT w' O' t v := by
  cases h <;> first | exact .int | exact .bool | exact .str | exact .lit ‹_› | cases hf
omit [Gl] in
theorem VR.flat {w w' : World} {F F' : Nat → Prop} {μ μ' : Mu} {x : AV} {v : Value} (h : VR w F μ x v) : flatA x = true → VR w' F' μ' x v := by
  induction h with
  | c h => intro hp; exact .c (h.flat hp)
  | agg h1 _ h3 ih => intro hp; simp only [flatA] at hp; exact .agg h1 (fun i x v hx hv => ih i x v hx hv (flatL_get hp i x hx)) h3
  | tup h1 _ ih => intro hp; simp only [flatA] at hp; exact .tup h1 (fun i x v hx hv => ih i x v hx hv (flatL_get hp i x hx))
  | _ => intro hp; simp [flatA] at hp

/-- **A call that is lent one's own lists, and hands back plain values.** -/
theorem ACall.lend {f : FuncId} {args args' : List AV} {K0 K : AV → List AO → Prop} {ob : List AO} (h : ACall P f args' [] K0) (ha : Fzs ob args args') (hk : ∀ x o, K0 x o → flatA x = true ∧ K x ob) : ACall P f args ob K := by
  refine ⟨fun w F μ cargs hv hs => ?_⟩
  have hs0 : St w F [] [] :=
    { len := rfl, inj := fun o o' b h => by simp at h, lt := fun o b h => by simp at h, dead := fun o h => by simp at h, frame := fun b h => ⟨(hs.frame b h).1, by simp⟩, live := fun o b h => by simp at h, gl := hs.gl.sub fun b _ h => h.elim (fun h => by simp at h) .inr }
  have hv' : VRs w F [] args' cargs.toList := ha.sound hs (fun b _ h => by
    rcases h with h | h
    · simp at h
    · exact h) hv
  have hr := h.run w F [] cargs hv' hs0
  have post : ∀ e w', (∃ v x ob' μ', e = Ending.returned v ∧ VR w' F μ' x v ∧ St w' F μ' ob' ∧ Ext w [] w' μ' ∧ K0 x ob') → ∃ v x ob' μ', e = Ending.returned v ∧ VR w' F μ' x v ∧ St w' F μ' ob' ∧ Ext w μ w' μ' ∧ K x ob' := by
    intro e w' ⟨v, x, ob', μ', g1, g2, g3, g4, g5⟩
    obtain ⟨hf, hky⟩ := hk x ob' g5
    obtain ⟨q1, q2⟩ := hs.behind g4
    exact ⟨v, x, ob, μ, g1, g2.flat hf, q1, q2, hky⟩
  unfold CallsX at hr ⊢
  split at hr
  · obtain ⟨h1, h2, h3, h4⟩ := hr
    exact ⟨h1, h2, h3, h4.mono post⟩
  · exact post _ _ hr
  · exact hr.elim

end
end Go.Abs
