/- The abstract machine, part 12: append. -/
import Derived.Test.YtchbobndobpocaaDoorA11
import Derived.Deep.AppendSrc
import Derived.Deep.Upon
namespace Go.Abs
variable [Gl]
section
variable {P : Program} {δ : Nat → Option TD}

/-- A value that yields these rows, of so many cells each, to an append. -/
structure Src (P : Program) (xt : TypeId) (ob : List AO) (x : AV) (rows : List (List AV)) (k : Nat) : Prop where
  wide : ∀ e ∈ rows, e.length = k
  reads : ∀ (w : World) (F : Nat → Prop) (μ : Mu) (v : Value), VR w F μ x v → St w F μ ob → ∃ news : List Value, _root_.Go.Src P k xt v rows.length news w ∧
    ∀ (j : Nat) y u, rows.flatten[j]? = some y → news[j]? = some u → VR w F μ y u ∧ u.oneCell' = true

omit [Gl] in
theorem length_flat' {α : Type} (k : Nat) : ∀ (l : List (List α)), (∀ e ∈ l, e.length = k) → l.flatten.length = l.length * k
  | [], _ => by simp
  | e :: l, h => by
    rw [List.flatten_cons, List.length_append, h e List.mem_cons_self, length_flat' k l (fun x hx => h x (List.mem_cons_of_mem _ hx)), List.length_cons, Nat.add_mul]
    omega

omit [Gl] in
/-- Rows that lie in memory. -/
theorem Src.of_cells {xt e' : TypeId} (hk : P.underlying xt = some (.slice e')) {w : World} {F : Nat → Prop} {μ : Mu} {ad : Addr} {c k : Nat} {rows : List (List AV)} (hw : ∀ e ∈ rows, e.length = k)
    (h : ∀ (j : Nat) y, rows.flatten[j]? = some y → ∃ u, w.cell? (ad.add j) = some u ∧ VR w F μ y u ∧ u.oneCell' = true) :
    ∃ news : List Value, _root_.Go.Src P k xt (.slice (some ad) rows.length c) rows.length news w ∧ ∀ (j : Nat) y u, rows.flatten[j]? = some y → news[j]? = some u → VR w F μ y u ∧ u.oneCell' = true := by
  have hl := length_flat' k rows hw
  have hget : ∀ j, j < rows.length * k → ∃ y, rows.flatten[j]? = some y := fun j hj => ⟨_, List.getElem?_eq_getElem (by rw [hl]; exact hj)⟩
  let nv : List Value := (List.range (rows.length * k)).map fun j => (w.cell? (ad.add j)).getD undef
  have hnv : ∀ (j : Nat) y u, rows.flatten[j]? = some y → nv[j]? = some u → w.cell? (ad.add j) = some u ∧ VR w F μ y u ∧ u.oneCell' = true := by
    intro j y u hy hu
    obtain ⟨u', h1, h2, h3⟩ := h j y hy
    have hj : j < rows.length * k := by rw [← hl]; exact (List.getElem?_eq_some_iff.1 hy).1
    simp [nv, hj, h1] at hu
    subst hu; exact ⟨h1, h2, h3⟩
  have hlt : ∀ (j : Nat) u, nv[j]? = some u → j < rows.length * k := fun j u hu => by
    have := (List.getElem?_eq_some_iff.1 hu).1; simpa [nv] using this
  refine ⟨nv, _root_.Go.Src.ofSlice w hk ad rows.length c nv (by simp [nv]) (fun j u hu => ?_) (fun u hu => ?_), fun j y u hy hu => (hnv j y u hy hu).2⟩
  · obtain ⟨y, hy⟩ := hget j (hlt j u hu); exact (hnv j y u hy hu).1
  · obtain ⟨j, hj⟩ := List.mem_iff_getElem?.1 hu
    obtain ⟨y, hy⟩ := hget j (hlt j u hj); exact (hnv j y u hy hj).2.2

omit [Gl] in
theorem flat_split {α : Type} (k : Nat) : ∀ (es : List (List α)), (∀ e ∈ es, e.length = k) → ∀ (j : Nat) y, es.flatten[j]? = some y → ∃ (i m : Nat) (e : List α), es[i]? = some e ∧ e[m]? = some y ∧ j = i * k + m
  | [], _, j, y, h => by simp at h
  | e :: es, hk, j, y, h => by
    have h0 := hk e List.mem_cons_self
    rw [List.flatten_cons] at h
    rcases Nat.lt_or_ge j e.length with hlt | hge
    · rw [List.getElem?_append_left hlt] at h
      exact ⟨0, j, e, rfl, h, by omega⟩
    · rw [List.getElem?_append_right hge] at h
      obtain ⟨i, m, e', h1, h2, h3⟩ := flat_split k es (fun x hx => hk x (List.mem_cons_of_mem _ hx)) _ y h
      exact ⟨i + 1, m, e', by simpa using h1, h2, by rw [Nat.add_mul]; omega⟩

theorem Src.sl {xt e' : TypeId} (hk : P.underlying xt = some (.slice e')) {ob : List AO} {o k : Nat} {i len cap : Th Nat} {es : Th (List (List AV))} {sz : Th Nat} (hn : nth ob o = some (.arr k es sz)) (hw : ∀ e ∈ es.den, e.length = k) (hl : i.den + len.den ≤ es.den.length) :
    Src P xt ob (.sl o k i len cap) ((es.den.drop i.den).take len.den) k where
  wide e he := hw e (List.mem_of_mem_drop (List.mem_of_mem_take he))
  reads w F μ v hv hs := by
    have hlr : ((es.den.drop i.den).take len.den).length = len.den := by simp; omega
    by_cases hg : gone (.arr k es sz)
    · obtain ⟨a, hve, _⟩ := hv.slV
      have h0 : es.den = [] := hg.1
      rw [h0] at hl
      simp at hl
      rw [hve, h0, hl.2]
      simp only [List.drop_nil, List.take_nil]
      cases a with
      | none => exact ⟨[], _root_.Go.Src.ofNil w hk _, fun j y u h => by simp at h⟩
      | some a => exact ⟨[], _root_.Go.Src.ofSlice w hk a 0 _ [] (by simp) (fun j u h => by simp at h) (fun u h => by cases h), fun j y u h => by simp at h⟩
    obtain ⟨b, hb, hob⟩ := hs.box hn hg
    obtain ⟨hve, _, _⟩ := hv.slE hb
    have key := Src.of_cells (P := P) (w := w) (F := F) (μ := μ) (ad := ⟨b, i.den * k, none⟩) (c := cap.den) (rows := (es.den.drop i.den).take len.den) hk (fun e he => hw e (List.mem_of_mem_drop (List.mem_of_mem_take he))) fun j y hy => ?_
    · rw [hlr] at key
      rw [hve, hlr]; exact key
    obtain ⟨r, m, e, h1, h2, h3⟩ := flat_split k _ (fun e he => hw e (List.mem_of_mem_drop (List.mem_of_mem_take he))) j y hy
    rw [List.getElem?_take] at h1
    split at h1
    · rw [List.getElem?_drop] at h1
      obtain ⟨u, hu1, hu2, hu3⟩ := Reads.arr hob h1 m y h2
      refine ⟨u, ?_, hu2, hu3⟩
      rw [Addr.add_lit, h3, show i.den * k + (r * k + m) = (i.den + r) * k + m by rw [Nat.add_mul]; omega]
      exact hu1
    · cases h1

theorem Src.vsl {xt e' : TypeId} (hk : P.underlying xt = some (.slice e')) {ob : List AO} {x : T} {k : Nat} {rows : List (List T)} (hx : x = .vsl k rows ∨ ∃ f, x = .vslS k f ∧ (T.vslS k f).rows = rows) (hw : ∀ e ∈ rows, e.length = k) : Src P xt ob (.c x) (rows.map (fun e => e.map AV.c)) k where
  wide e he := by obtain ⟨e', h1, rfl⟩ := List.mem_map.1 he; simp [hw e' h1]
  reads w F μ v hv hs := by
    cases hv with
    | c hv =>
      have hr : x.rows = rows := by
        rcases hx with rfl | ⟨f, rfl, hf⟩
        · rfl
        · exact hf
      obtain ⟨k2, p, cap, r1, r6, r6', r8, _, r7⟩ := vsl_form (by rcases hx with rfl | ⟨f, rfl, hf⟩; exact .inl ⟨_, _, rfl⟩; exact .inr ⟨_, _, rfl⟩) hv
      have hk2 : k2 = k := by
        rcases hx with rfl | ⟨f, rfl, hf⟩
        · exact (r6 k rows rfl).symm
        · exact (r6' k f rfl).symm
      subst hk2
      rw [hr] at r1 r7 r8
      subst r1
      cases p with
      | none =>
        rw [(r8 rfl).1]
        exact ⟨[], _root_.Go.Src.ofNil w hk _, fun j y u h => by simp at h⟩
      | some ad =>
        have hml : (rows.map (fun e => e.map AV.c)).length = rows.length := by simp
        rw [← hml]
        refine Src.of_cells hk (fun e he => by obtain ⟨e', h1, rfl⟩ := List.mem_map.1 he; simp [hw e' h1]) fun j y hy => ?_
        obtain ⟨r, m, e, h1, h2, h3⟩ := flat_split k2 _ (fun e he => by obtain ⟨e', g1, rfl⟩ := List.mem_map.1 he; simp [hw e' g1]) j y hy
        rw [List.getElem?_map] at h1
        cases hrr : rows[r]? with
        | none => rw [hrr] at h1; cases h1
        | some e' =>
          rw [hrr] at h1
          simp at h1
          subst h1
          obtain ⟨b, off, rb, r9⟩ := r7 r e' hrr
          cases rb
          obtain ⟨u, hu1, hu2, hu3⟩ := Reads.vptr r9 m y (by rw [mapL_eq]; exact h2)
          exact ⟨u, by rw [Addr.add_lit, h3, ← Nat.add_assoc]; exact hu1, hu2, hu3⟩
theorem Src.nil {xt e' : TypeId} (hk : P.underlying xt = some (.slice e')) {ob : List AO} {k : Nat} : Src P xt ob (.c (.lit (.slice none 0 0))) [] k where
  wide e he := by cases he
  reads w F μ v hv hs := by rw [hv.litE]; exact ⟨[], _root_.Go.Src.ofNil w hk _, fun j y u h => by simp at h⟩
theorem Src.str {xt : TypeId} (hk : P.underlying xt = some .string) {ob : List AO} {s : Th ByteArray} : Src P xt ob (.c (.str s)) (s.den.data.toList.map fun b => [AI .u8 (.lit (b.toNat : Int))]) 1 where
  wide e he := by obtain ⟨b, _, rfl⟩ := List.mem_map.1 he; rfl
  reads w F μ v hv hs := by
    rw [hv.sE]
    have hl : (s.den.data.toList.map fun b => [AI .u8 (.lit (b.toNat : Int))]).length = s.den.size := by rw [List.length_map, Array.length_toList]; rfl
    rw [hl]
    refine ⟨byteCells s.den, _root_.Go.Src.ofString w hk s.den, fun j y u hy hu => ?_⟩
    have hfl : ∀ l : List UInt8, (l.map fun b => [AI .u8 (.lit (b.toNat : Int))]).flatten = l.map fun b => AI .u8 (.lit (b.toNat : Int)) := by
      intro l; induction l with
      | nil => rfl
      | cons a l ih => simp only [List.map_cons, List.flatten_cons, ih]; rfl
    rw [hfl, List.getElem?_map] at hy
    rw [byteCells, List.getElem?_map] at hu
    cases hb : s.den.data.toList[j]? with
    | none => rw [hb] at hy; cases hy
    | some b =>
      rw [hb] at hy hu
      simp at hy hu
      subst hy; subst hu
      exact ⟨VR.i .u8 (.lit (b.toNat : Int)), rfl⟩

/-- An object is forgotten. -/
theorem St.kill {w : World} {F : Nat → Prop} {μ : Mu} {ob : List AO} (hs : St w F μ ob) (o : Nat) : St w F (μ.set o none) (ob.set o .dead) ∧ Ext w μ w (μ.set o none) := by
  have get : ∀ (q c : Nat), (μ.set o none)[q]? = some (some c) → q ≠ o ∧ μ[q]? = some (some c) := by
    intro q c h
    by_cases e : o = q
    · subst e
      rw [List.getElem?_set] at h
      simp at h
    · rw [List.getElem?_set_ne e] at h; exact ⟨Ne.symm e, h⟩
  have he : Ext w μ w (μ.set o none) :=
    { os := rfl, tape := rfl, output := rfl, size := Nat.le_refl _, blk := fun c hc hn => rfl
      len := by simp
      keep := fun q c hq => by
        have hql := (List.getElem?_eq_some_iff.1 hq).1
        by_cases e : o = q
        · subst e; rw [List.getElem?_set_self hql]; exact .inr rfl
        · rw [List.getElem?_set_ne e]; exact .inl hq
      dead := fun q hq => by
        have hql := (List.getElem?_eq_some_iff.1 hq).1
        by_cases e : o = q
        · subst e; rw [List.getElem?_set_self hql]
        · rw [List.getElem?_set_ne e]; exact hq
      own := fun c hc => by
        obtain ⟨q, hq⟩ := mem_of hc
        exact .inl (List.mem_of_getElem? (get q c hq).2) }
  refine ⟨⟨by simp [hs.len], ?_, ?_, ?_, ?_, ?_, hs.gl.ext he⟩, he⟩
  · intro q q' c h1 h2; exact hs.inj q q' c (get q c h1).2 (get q' c h2).2
  · intro q c h; exact hs.lt q c (get q c h).2
  · intro q h
    by_cases e : o = q
    · subst e
      have hql : o < ob.length := by
        have := (List.getElem?_eq_some_iff.1 h).1
        rw [← hs.len]; simpa using this
      exact ⟨.dead, by rw [List.getElem?_set_self hql], trivial⟩
    · rw [List.getElem?_set_ne e] at h ⊢; exact hs.dead q h
  · intro c hc
    refine ⟨(hs.frame c hc).1, fun hm => ?_⟩
    obtain ⟨q, hq⟩ := mem_of hm
    exact (hs.frame c hc).2 (List.mem_of_getElem? (get q c hq).2)
  · intro q c h
    obtain ⟨h1, h2⟩ := get q c h
    obtain ⟨y, g1, g2⟩ := hs.live q c h2
    exact ⟨y, by rw [List.getElem?_set_ne (Ne.symm h1)]; exact g1, g2.ext he rfl⟩

/-- An object without a block. -/
theorem St.allocE {w : World} {F : Nat → Prop} {μ : Mu} {ob : List AO} (hs : St w F μ ob) {x : AO} (hx : gone x) : St w F (μ ++ [none]) (ob ++ [x]) ∧ Ext w μ w (μ ++ [none]) := by
  have get : ∀ (q : Nat) (c : Option Nat), (μ ++ [none])[q]? = some c → μ[q]? = some c ∨ (q = μ.length ∧ c = none) := by
    intro q c h
    rcases Nat.lt_or_ge q μ.length with h1 | h1
    · rw [List.getElem?_append_left h1] at h; exact .inl h
    · rw [List.getElem?_append_right h1] at h
      have : q = μ.length := by
        have := (List.getElem?_eq_some_iff.1 h).1; simp at this; omega
      subst this
      simp at h
      exact .inr ⟨rfl, h.symm⟩
  have get' : ∀ (q c : Nat), (μ ++ [none])[q]? = some (some c) → μ[q]? = some (some c) := fun q c h => by
    rcases get q _ h with h | ⟨_, h⟩
    · exact h
    · cases h
  have he : Ext w μ w (μ ++ [none]) :=
    { os := rfl, tape := rfl, output := rfl, size := Nat.le_refl _, blk := fun c hc hn => rfl, len := by simp
      keep := fun q c hq => .inl (by rw [List.getElem?_append_left (List.getElem?_eq_some_iff.1 hq).1]; exact hq)
      dead := fun q hq => by rw [List.getElem?_append_left (List.getElem?_eq_some_iff.1 hq).1]; exact hq
      own := fun c hc => by
        obtain ⟨q, hq⟩ := mem_of hc
        exact .inl (List.mem_of_getElem? (get' q c hq)) }
  refine ⟨⟨by simp [hs.len], ?_, ?_, ?_, ?_, ?_, hs.gl.ext he⟩, he⟩
  · intro q q' c h1 h2; exact hs.inj q q' c (get' q c h1) (get' q' c h2)
  · intro q c h; exact hs.lt q c (get' q c h)
  · intro q h
    rcases get q _ h with h | ⟨h, _⟩
    · obtain ⟨y, g1, g2⟩ := hs.dead q h
      exact ⟨y, by rw [List.getElem?_append_left (List.getElem?_eq_some_iff.1 g1).1]; exact g1, g2⟩
    · subst h
      exact ⟨x, by rw [hs.len, List.getElem?_append_right (Nat.le_refl _)]; simp, hx⟩
  · intro c hc
    refine ⟨(hs.frame c hc).1, fun hm => ?_⟩
    obtain ⟨q, hq⟩ := mem_of hm
    exact (hs.frame c hc).2 (List.mem_of_getElem? (get' q c hq))
  · intro q c h
    obtain ⟨y, g1, g2⟩ := hs.live q c (get' q c h)
    exact ⟨y, by rw [List.getElem?_append_left (List.getElem?_eq_some_iff.1 g1).1]; exact g1, g2.ext he rfl⟩

/-- An object dies, its block goes to a new one. -/
theorem St.move {w w' : World} {F : Nat → Prop} {μ : Mu} {ob : List AO} (hs : St w F μ ob) {o b b' : Nat} (ho : μ[o]? = some (some b)) (hb' : b' = b ∨ b' = w.heap.size) (hlt : b' < w'.heap.size) (hsz : w.heap.size ≤ w'.heap.size)
    (hother : ∀ c, c < w.heap.size → c ≠ b → w'.heap[c]? = w.heap[c]?) (hos : w'.os = w.os) (htp : w'.tape = w.tape) (hout : w'.output = w.output) {x : AO}
    (hx : Ext w μ w' (μ.set o none ++ [some b']) → OB w' F (μ.set o none ++ [some b']) b' x) :
    St w' F (μ.set o none ++ [some b']) (ob.set o .dead ++ [x]) ∧ Ext w μ w' (μ.set o none ++ [some b']) := by
  have hol : o < μ.length := (List.getElem?_eq_some_iff.1 ho).1
  have hbl := hs.lt o b ho
  have get : ∀ (q c : Nat), (μ.set o none ++ [some b'])[q]? = some (some c) → (q ≠ o ∧ q < μ.length ∧ μ[q]? = some (some c)) ∨ (q = μ.length ∧ c = b') := by
    intro q c h
    rcases Nat.lt_or_ge q μ.length with h1 | h1
    · rw [List.getElem?_append_left (by simpa using h1)] at h
      by_cases e : o = q
      · subst e; rw [List.getElem?_set_self h1] at h; cases h
      · rw [List.getElem?_set_ne e] at h; exact .inl ⟨Ne.symm e, h1, h⟩
    · rw [List.getElem?_append_right (by simpa using h1)] at h
      have : q = μ.length := by
        have := (List.getElem?_eq_some_iff.1 h).1; simp at this; omega
      subst this
      simp at h
      exact .inr ⟨rfl, h.symm⟩
  have he : Ext w μ w' (μ.set o none ++ [some b']) :=
    { os := hos, tape := htp, output := hout, size := hsz
      blk := fun c hc hn => hother c hc (fun e => hn (e ▸ List.mem_of_getElem? ho))
      len := by simp
      keep := fun q c hq => by
        have hql := (List.getElem?_eq_some_iff.1 hq).1
        rw [List.getElem?_append_left (by simpa using hql)]
        by_cases e : o = q
        · subst e; rw [List.getElem?_set_self hql]; exact .inr rfl
        · rw [List.getElem?_set_ne e]; exact .inl hq
      dead := fun q hq => by
        have hql := (List.getElem?_eq_some_iff.1 hq).1
        rw [List.getElem?_append_left (by simpa using hql)]
        by_cases e : o = q
        · subst e; rw [ho] at hq; cases hq
        · rw [List.getElem?_set_ne e]; exact hq
      own := fun c hc => by
        obtain ⟨q, hq⟩ := mem_of hc
        rcases get q c hq with ⟨_, _, h⟩ | ⟨_, h⟩
        · exact .inl (List.mem_of_getElem? h)
        · rcases hb' with e | e
          · exact .inl (by rw [h, e]; exact List.mem_of_getElem? ho)
          · exact .inr (by omega) }
  refine ⟨⟨by simp [hs.len], ?_, ?_, ?_, ?_, ?_, hs.gl.ext he⟩, he⟩
  · intro q q' c h1 h2
    rcases get q c h1 with ⟨a1, a2, a3⟩ | ⟨a1, a2⟩ <;> rcases get q' c h2 with ⟨b1, b2, b3⟩ | ⟨b1, b2⟩
    · exact hs.inj q q' c a3 b3
    · exfalso
      rcases hb' with e | e
      · exact a1 (hs.inj q o b (by rw [b2, e] at a3; exact a3) ho)
      · have := hs.lt q c a3; omega
    · exfalso
      rcases hb' with e | e
      · exact b1 (hs.inj q' o b (by rw [a2, e] at b3; exact b3) ho)
      · have := hs.lt q' c b3; omega
    · omega
  · intro q c h
    rcases get q c h with ⟨_, _, h⟩ | ⟨_, h⟩
    · exact Nat.lt_of_lt_of_le (hs.lt q c h) hsz
    · rw [h]; exact hlt
  · intro q h
    rcases Nat.lt_or_ge q μ.length with h1 | h1
    · rw [List.getElem?_append_left (by simpa using h1)] at h
      rw [List.getElem?_append_left (by simp [← hs.len]; exact h1)]
      by_cases e : o = q
      · subst e; exact ⟨.dead, by rw [List.getElem?_set_self (by rw [← hs.len]; exact h1)], trivial⟩
      · rw [List.getElem?_set_ne e] at h ⊢; exact hs.dead q h
    · rw [List.getElem?_append_right (by simpa using h1)] at h
      have : q = μ.length := by
        have := (List.getElem?_eq_some_iff.1 h).1; simp at this; omega
      subst this
      simp at h
  · intro c hc
    refine ⟨Nat.lt_of_lt_of_le (hs.frame c hc).1 hsz, fun hm => ?_⟩
    obtain ⟨q, hq⟩ := mem_of hm
    rcases get q c hq with ⟨_, _, h⟩ | ⟨_, h⟩
    · exact (hs.frame c hc).2 (List.mem_of_getElem? h)
    · rcases hb' with e | e
      · exact (hs.frame c hc).2 (by rw [h, e]; exact List.mem_of_getElem? ho)
      · have := (hs.frame c hc).1; omega
  · intro q c h
    rcases get q c h with ⟨a1, a2, a3⟩ | ⟨a1, a2⟩
    · obtain ⟨y, h1, h2⟩ := hs.live q c a3
      refine ⟨y, by rw [List.getElem?_append_left (by simp [← hs.len]; exact a2), List.getElem?_set_ne (Ne.symm a1)]; exact h1, ?_⟩
      exact h2.ext he (hother c (hs.lt q c a3) (fun e => a1 (hs.inj q o b (e ▸ a3) ho)))
    · subst a1; subst a2
      exact ⟨x, by rw [hs.len, List.getElem?_append_right (by simp)]; simp, hx he⟩

/-- **append to a list of one's own.** -/
theorem append_own (hty : TyOk P δ) {t xt e : Nat} {d ed : TD} (hd : δ t = some d) (hsh : d.sh = .slice e) (hed : δ e = some ed) (hz : ed.zero ≠ []) {ob : List AO} {o k : Nat} {i len cap : Th Nat} {es : Th (List (List AV))} {sz : Th Nat}
    (hn : nth ob o = some (.arr k es sz)) (hk : k = ed.size) (hk0 : k ≠ 0) (hi : i.den = 0) (hlen : len.den ≤ es.den.length) (hsz : sz.den = cap.den * k) (hwide : ∀ r ∈ es.den, r.length = k) {x : AV} {news : List (List AV)} (hsrc : Src P xt ob x news k)
    (hbytes : (len.den + news.length) * ed.bytes ≤ 140737488355328) (h63 : len.den + news.length ≤ 9223372036854775807) {K : AV → List AO → Prop} (L : Th Nat) (E : Th (List (List AV))) (hL : L.den = len.den + news.length) (hE : E.den = es.den.take len.den ++ news)
    (hK : ∀ c : Nat, L.den ≤ c → K (.sl (lenL ob) k (.lit 0) L (.th fun _ => c)) (appL (setL ob o .dead) [.arr k E (.th fun _ => c * k)])) : AAppend P δ t xt (.sl o k i len cap) x ob K := by
  refine ⟨fun ty w F μ vs vx hvs hvx hs => ?_⟩
  obtain ⟨nv, hns, hnv⟩ := hsrc.reads w F μ vx hvx hs
  have hu := und_slice hty hd hsh
  obtain ⟨ie, z, q1, q2, q3, q4, q5, _⟩ := zero_sound hty hed hz
  obtain ⟨ie', q1', q3', q6⟩ := size_of hty hed
  rw [q1] at q1'; cases q1'
  have hks : ie.size = k := by rw [q3, hk]
  have hns' : _root_.Go.Src P ie.size xt vx news.length nv w := by rw [hks]; exact hns
  have hnvl : nv.length = news.length * k := hns.newsLen
  have hone : ∀ u ∈ nv, u.oneCell' = true := hns.one
  have hnl : news.flatten.length = news.length * k := length_flat k news hsrc.wide
  have htw : ∀ r ∈ es.den.take len.den, r.length = k := fun r hr => hwide r (List.mem_of_mem_take hr)
  have htl0 : (es.den.take len.den).length = len.den := by simp; omega
  have hel : (es.den.take len.den).flatten.length = len.den * k := by rw [length_flat k _ htw, htl0]
  have hEl : E.den.length = len.den + news.length := by rw [hE, List.length_append, htl0]
  have hEw : ∀ r ∈ E.den, r.length = k := by
    intro r hr
    rw [hE] at hr
    rcases List.mem_append.1 hr with h | h
    · exact htw r h
    · exact hsrc.wide r h
  have hzk : z.cells.size = k := by rw [q4, hk]
  have hzone : ∀ u ∈ z.cells, u.oneCell' = true := by
    obtain ⟨z', z1, z2, z3, z4⟩ := zeroC_cells hty hed hz
    have hzz : z' = z := by
      have h1 := z1 w
      simp [zeroValue, typeInfo, q1, q2] at h1
      exact h1.symm
    subst hzz
    intro u hu'
    obtain ⟨j, hj, rfl⟩ := List.getElem_of_mem (Array.mem_toList_iff.2 hu')
    have hj' : j < (zeroC ed).length := by rw [← z2]; simpa using hj
    exact (z4 w F μ j _ _ (List.getElem?_eq_getElem hj') (by simp at hj; simp [hj])).2
  -- a row that is made anew, or written on
  have build : ∀ (w' : World) (μ' : Mu) (b' : Nat) (pre rest : List Value) (c : Nat) (ety : TypeId), Ext w μ w' μ' → w'.heap[b']? = some (.cells (pre ++ nv ++ rest).toArray ety (0, 0)) → pre.length = len.den * k →
      (∀ (j : Nat) y u, (es.den.take len.den).flatten[j]? = some y → pre[j]? = some u → VR w F μ y u) → (∀ u ∈ pre, u.oneCell' = true) → (∀ u ∈ rest, u.oneCell' = true) →
      (len.den + news.length) * k + rest.length = c * k → len.den + news.length ≤ c → OB w' F μ' b' (.arr k E (.th fun _ => c * k)) := by
    intro w' μ' b' pre rest c ety he hh htl hpre hp1 hr1 hr hc
    refine .arr _ ety hh ?_ ?_ hEw (fun i u hu => ?_) fun r m e' y u h1 h2 h3 => ?_
    · simp only [List.size_toArray, List.length_append, htl, hnvl, Th.den_th]
      rw [← hr, Nat.add_mul]
    · rw [hEl]; exact Nat.mul_le_mul_right _ hc
    · have hm := List.mem_of_getElem? (by simpa using hu)
      simp only [List.mem_append] at hm
      rcases hm with hm | hm | hm
      · exact hp1 u hm
      · exact hone u hm
      · exact hr1 u hm
    · have hf : E.den.flatten[r * k + m]? = some y := get_flat k E.den hEw r m e' y h1 h2
      rw [hE, List.flatten_append] at hf
      rw [List.getElem?_toArray, List.append_assoc] at h3
      rcases Nat.lt_or_ge (r * k + m) (len.den * k) with hlt | hge
      · rw [List.getElem?_append_left (by rw [hel]; exact hlt)] at hf
        rw [List.getElem?_append_left (by rw [htl]; exact hlt)] at h3
        exact ⟨(hpre _ y u hf h3).ext he, hp1 u (List.mem_of_getElem? h3)⟩
      · rw [List.getElem?_append_right (by rw [hel]; exact hge), hel] at hf
        rw [List.getElem?_append_right (by rw [htl]; exact hge), htl] at h3
        have hlt2 : r * k + m - len.den * k < nv.length := by
          rw [hnvl, ← hnl]; exact (List.getElem?_eq_some_iff.1 hf).1
        rw [List.getElem?_append_left hlt2] at h3
        have := hnv _ y u hf h3
        exact ⟨this.1.ext he, this.2⟩
  have hzc : ∀ n, ∀ u ∈ (Builtin.zeroCells z.cells n).toList, u.oneCell' = true := by
    intro n u hu'
    simp only [Builtin.zeroCells, Array.toList_map, List.mem_map, Array.toList_range, List.mem_range] at hu'
    obtain ⟨j, hj, rfl⟩ := hu'
    have hm : j % z.cells.size < z.cells.size := Nat.mod_lt _ (by omega)
    rw [getElem!_pos z.cells _ hm]
    exact hzone _ (Array.getElem_mem hm)
  by_cases hg : gone (.arr k es sz)
  · -- nothing is there
    obtain ⟨g0, gz⟩ := hg
    have hcap : cap.den = 0 := by
      rw [gz] at hsz
      rcases Nat.eq_zero_or_pos cap.den with h | h
      · exact h
      · have := Nat.mul_pos h (Nat.pos_of_ne_zero hk0); omega
    obtain ⟨a, hve, hlc, _, _⟩ := hvs.slV
    have hl0 : len.den = 0 := by omega
    rw [hcap, hl0] at hve
    obtain ⟨s1, x1⟩ := hs.kill o
    by_cases hn0 : news.length = 0
    · obtain rfl : news = [] := List.eq_nil_of_length_eq_zero hn0
      obtain rfl : nv = [] := List.eq_nil_of_length_eq_zero (by simpa using hnvl)
      have hr := run_append_nothing (P := P) w t xt ty e ie hu q1 a 0 0 (Nat.le_refl _) vx hns'
      have hE0 : E.den = [] := by rw [hE, g0]; simp
      obtain ⟨s2, x2⟩ := s1.allocE (x := .arr k E (.th fun _ => 0 * k)) ⟨hE0, by simp⟩
      have hK' := hK 0 (by rw [hL, hl0]; simp)
      rw [lenL_eq, appL_eq, setL_eq] at hK'
      refine ⟨_, _, _, _, w, by rw [hve]; exact hr, ?_, s2, x1.trans x2, hK'⟩
      have hm : (μ.set o none ++ [none])[ob.length]? = some none := by
        rw [← hs.len, List.getElem?_append_right (by simp)]; simp
      have := VR.slD (w := w) (F := F) (k := k) (i := .lit 0) (len := L) (cap := .th fun _ => 0) (a := a) hm (by rw [hL, hl0]; simp) (by simp) (by simp)
      rw [hL, hl0] at this
      simpa using this
    · have hr := run_append_grow_src (P := P) w t xt ty e ie z hu q1 q2 a 0 0 [] (by cases a; rfl; exact run_firstCells_some w.drew ie.size 0 _ 0 0 [] (by simp) (fun j u h => by simp at h)) vx news.length nv hns' (by omega) (by omega) (growslice_fits (by omega) (by rw [q6]; rw [hl0] at hbytes; exact hbytes))
      simp only [Nat.zero_add, List.nil_append] at hr
      have hge := grownCap_ge w news.length 0 e
      have hle := grownCap_le_maxLen w news.length 0 e (by simp only [maxLen]; omega)
      simp only [maxLen] at hle
      have hnew : w.drew.heap.size = w.heap.size := rfl
      have s1d : St w.drew F (μ.set o none) (ob.set o .dead) := s1.same (Ext.drewN w _ _) (fun _ _ => rfl)
      obtain ⟨s2, x2⟩ := s1d.alloc (.cells (nv.toArray ++ Builtin.zeroCells z.cells (grownCap w news.length 0 e - news.length)) e) (.arr k E (.th fun _ => grownCap w news.length 0 e * k)) (fun w' μ' hx hh => by
        refine build w' μ' _ [] (Builtin.zeroCells z.cells (grownCap w news.length 0 e - news.length)).toList (grownCap w news.length 0 e) e (x1.trans ((Ext.drewN w _ _).trans hx)) ?_ (by simp [hl0]) (fun j y u h => by rw [hl0] at h; simp at h) (fun u h => by cases h) (hzc _) ?_ (by omega)
        · rw [hh]; congr 2; apply Array.ext'; simp
        · simp only [Array.length_toList, size_zeroCells, hzk, hl0, Nat.zero_add, ← Nat.add_mul]; congr 1; omega)
      have hK' := hK (grownCap w news.length 0 e) (by rw [hL, hl0]; omega)
      rw [lenL_eq, appL_eq, setL_eq] at hK'
      refine ⟨_, _, _, _, _, by rw [hve]; exact hr, ?_, s2, x1.trans ((Ext.drewN w _ _).trans x2), hK'⟩
      have hm : (μ.set o none ++ [some w.drew.heap.size])[ob.length]? = some (some w.heap.size) := by
        rw [← hs.len, List.getElem?_append_right (by simp)]; simp
      have := VR.sl (w := w.drew.alloc (.cells (nv.toArray ++ Builtin.zeroCells z.cells (grownCap w news.length 0 e - news.length)) e)) (F := F) (k := k) (i := .lit 0) (len := L) (cap := .th fun _ => grownCap w news.length 0 e) hm (by rw [hL, hl0]; simpa using hge) (by simp; omega)
      rw [hL, hl0] at this
      simpa using this
  obtain ⟨b, hb, hob⟩ := hs.box hn hg
  obtain ⟨hve, hlc, hcm⟩ := hvs.slE hb
  cases hob with
  | arr blk ety g1 g2 g3 g4 g6 g5 =>
    have hblt := hs.lt o b hb
    have hblk : len.den * k ≤ blk.size := by rw [g2, hsz]; exact Nat.mul_le_mul_right _ hlc
    have hpl : (blk.toList.take (len.den * k)).length = len.den * k := by simp; omega
    have hov : ∀ (j : Nat) y u, (es.den.take len.den).flatten[j]? = some y → (blk.toList.take (len.den * k))[j]? = some u → VR w F μ y u := by
      intro j y u hy hu'
      obtain ⟨r, m, e', h1, h2, h3⟩ := flat_split k _ htw j y hy
      rw [List.getElem?_take] at h1
      split at h1
      · rw [List.getElem?_take] at hu'
        split at hu'
        · exact (g5 r m e' y u h1 h2 (by rw [← h3]; simpa using hu')).1
        · cases hu'
      · cases h1
    have hb1 : ∀ u ∈ blk.toList, u.oneCell' = true := fun u hu' => by
      obtain ⟨j, hj⟩ := List.mem_iff_getElem?.1 hu'; exact g6 j u (by simpa using hj)
    have fin : ∀ (w' : World) (b' c : Nat) (rest : List Value) (ety : TypeId), (b' = b ∨ b' = w.heap.size) → b' < w'.heap.size → w.heap.size ≤ w'.heap.size → (∀ q, q < w.heap.size → q ≠ b → w'.heap[q]? = w.heap[q]?) → w'.os = w.os → w'.tape = w.tape → w'.output = w.output →
        w'.heap[b']? = some (.cells (blk.toList.take (len.den * k) ++ nv ++ rest).toArray ety (0, 0)) → (∀ u ∈ rest, u.oneCell' = true) → (len.den + news.length) * k + rest.length = c * k → len.den + news.length ≤ c → c ≤ 9223372036854775807 →
        (Builtin.append_ #[t, xt] ty #[vs, vx]).run P w = .ok (.slice (some ⟨b', 0, none⟩) (len.den + news.length) c) w' →
        ∃ v y ob' μ' w', (Builtin.append_ #[t, xt] ty #[vs, vx]).run P w = .ok v w' ∧ VR w' F μ' y v ∧ St w' F μ' ob' ∧ Ext w μ w' μ' ∧ K y ob' := by
      intro w' b' c rest ety h1 h2 h3 h4 h5 h6 h7 h8 h8' h9 h10 h11 h12
      obtain ⟨r1, r2⟩ := hs.move hb h1 h2 h3 h4 h5 h6 h7 (x := .arr k E (.th fun _ => c * k)) (fun he => build w' _ b' _ rest c ety he h8 hpl hov (fun u hu' => hb1 u (List.mem_of_mem_take hu')) h8' h9 h10)
      have hK' := hK c (by rw [hL]; exact h10)
      rw [lenL_eq, appL_eq, setL_eq] at hK'
      refine ⟨_, _, _, _, w', h12, ?_, r1, r2, hK'⟩
      have hm : (μ.set o none ++ [some b'])[ob.length]? = some (some b') := by
        rw [← hs.len, List.getElem?_append_right (by simp)]; simp
      have := VR.sl (w := w') (F := F) (k := k) (i := .lit 0) (len := L) (cap := .th fun _ => c) hm (by rw [hL]; exact h10) h11
      rw [hL] at this
      simpa using this
    by_cases hroom : len.den + news.length ≤ cap.den
    · -- in place
      have hfit : len.den * k + nv.length ≤ blk.size := by rw [hnvl, ← Nat.add_mul, g2, hsz]; exact Nat.mul_le_mul_right _ hroom
      have hr : (Builtin.append_ #[t, xt] ty #[.slice (some ⟨b, 0, none⟩) len.den cap.den, vx]).run P w = .ok (.slice (some ⟨b, 0, none⟩) (len.den + news.length) cap.den) (w.setRow b (blk.toList.take (len.den * k) ++ nv ++ blk.toList.drop (len.den * k + nv.length)).toArray) := by
        have hst := run_storeCells_at P b (len.den * k) ety nv 0 blk w g1 (by simpa using hfit) hone
        simp only [Nat.add_zero, ← hks] at hst ⊢
        rcases hns'.kind with ⟨e', hk'⟩ | hk' <;> simp [Builtin.append_, run_underlying hu, run_underlying hk', sizeOf, typeInfo, q1, hns'.len, hroom, hns'.cells, Addr.add_lit, hst]
      refine fin (w.setRow b (blk.toList.take (len.den * k) ++ nv ++ blk.toList.drop (len.den * k + nv.length)).toArray) b cap.den (blk.toList.drop (len.den * k + nv.length)) ety (.inl rfl) (by simpa using hblt) (by simp) (fun q _ hq => setRow_other w b q _ hq) rfl rfl rfl ?_ (fun u hu' => hb1 u (List.mem_of_mem_drop hu')) ?_ hroom hcm ?_
      · rw [setRow_heap w b blk _ ety _ g1]
      · have : (len.den + news.length) * k ≤ cap.den * k := Nat.mul_le_mul_right _ hroom
        simp only [List.length_drop, Array.length_toList, g2, hsz, hnvl]
        rw [Nat.add_mul] at this ⊢; omega
      · rw [hve, hi, Nat.zero_mul]; exact hr
    · have holds : (Builtin.firstCells ie.size len.den (.slice (some ⟨b, 0, none⟩) len.den cap.den)).run P w.drew = .ok (blk.toList.take (len.den * k)).toArray w.drew :=
        run_firstCells_some w.drew ie.size len.den ⟨b, 0, none⟩ len.den cap.den (blk.toList.take (len.den * k)) (by rw [hpl, hks]) (fun j u hu' => by
          rw [List.getElem?_take] at hu'
          split at hu'
          · rw [Addr.add_lit, Nat.zero_add, cell_of_row w.drew b j blk ety (0, 0) g1]; simpa using hu'
          · cases hu')
      have hr := run_append_grow_src (P := P) w t xt ty e ie z hu q1 q2 (some ⟨b, 0, none⟩) len.den cap.den (blk.toList.take (len.den * k)) holds vx news.length nv hns' (by omega) (by omega) (growslice_fits (by omega) (by rw [q6]; exact hbytes))
      have hge := grownCap_ge w (len.den + news.length) cap.den e
      have hle := grownCap_le_maxLen w (len.den + news.length) cap.den e (by simp only [maxLen]; omega)
      simp only [maxLen] at hle
      refine fin (w.drew.alloc (.cells ((blk.toList.take (len.den * k) ++ nv).toArray ++ Builtin.zeroCells z.cells (grownCap w (len.den + news.length) cap.den e - (len.den + news.length))) e)) w.heap.size (grownCap w (len.den + news.length) cap.den e) (Builtin.zeroCells z.cells (grownCap w (len.den + news.length) cap.den e - (len.den + news.length))).toList e (.inr rfl) (by simp) (by simp) (fun q hq _ => Go.RowKit.Below.heap_alloc w.drew _ q hq) rfl rfl rfl ?_ (hzc _) ?_ hge (by omega) ?_
      · rw [show w.heap.size = w.drew.heap.size from rfl, heap_alloc_new]
        congr 2
        apply Array.ext'; simp
      · simp only [Array.length_toList, size_zeroCells, hzk, ← Nat.add_mul]
        congr 1; omega
      · rw [hve, hi, Nat.zero_mul]; exact hr

/-- append to nothing. -/
theorem append_nil {t xt k : Nat} {ob : List AO} {x : AV} {K : AV → List AO → Prop} (h : AAppend P δ t xt (.sl (lenL ob) k (.lit 0) (.lit 0) (.lit 0)) x (appL ob [.arr k (.lit []) (.lit 0)]) K) : AAppend P δ t xt (.c (.lit (.slice none 0 0))) x ob K := by
  refine ⟨fun ty w F μ vs vx hvs hvx hs => ?_⟩
  obtain ⟨s1, x1⟩ := hs.allocE (x := .arr k (.lit []) (.lit 0)) ⟨rfl, rfl⟩
  rw [hvs.litE]
  rw [lenL_eq, appL_eq] at h
  have hm : (μ ++ [none])[ob.length]? = some none := by
    rw [← hs.len, List.getElem?_append_right (Nat.le_refl _)]; simp
  obtain ⟨v, y, ob', μ', w', r1, r2, r3, r4, r5⟩ := h.run ty w F (μ ++ [none]) (.slice none 0 0) vx (.slD hm (Nat.le_refl _) (by simp) (by simp)) (hvx.ext x1) s1
  exact ⟨v, y, ob', μ', w', r1, r2, r3, x1.trans r4, r5⟩

end
end Go.Abs
