/- The abstract machine, part 13: the same state, said in other words: objects are named anew, dropped, frozen. -/
import Derived.Test.YtchbobndobpocaaDoorA12
namespace Go.Abs
variable [Gl]

mutual
/-- The same tree in other words. -/
inductive TE : T → T → Prop
  | refl {t : T} : TE t t
  | int {k : IntKind} {n n' : Th Int} : n.den = n'.den → TE (.int k n) (.int k n')
  | bool {n n' : Th Bool} : n.den = n'.den → TE (.bool n) (.bool n')
  | str {n n' : Th ByteArray} : n.den = n'.den → TE (.str n) (.str n')
  | vsl {k : Nat} {es es' : List (List T)} : TELs es es' → TE (.vsl k es) (.vsl k es')
  | vslS {k : Nat} {f f' : Unit → T} {es es' : List (List T)} : f () = .vsl k es → f' () = .vsl k es' → TELs es es' → TE (.vslS k f) (.vslS k f')
  | vslE {k : Nat} {f f' : Unit → T} : f () = f' () → TE (.vslS k f) (.vslS k f')
  | hide {k : Nat} {es es' : List (List T)} {f : Unit → T} : f () = .vsl k es' → TELs es es' → TE (.vsl k es) (.vslS k f)
  | hideN {k : Nat} {f : Unit → T} : f () = .lit (.slice none 0 0) → TE (.lit (.slice none 0 0)) (.vslS k f)
  | hideE {k : Nat} {f : Unit → T} : f () = .vsl k [] → TE (.lit (.slice none 0 0)) (.vslS k f)
  | nilE {k : Nat} : TE (.lit (.slice none 0 0)) (.vsl k [])
  | vptr {cs cs' : List T} : TEL cs cs' → TE (.vptr cs) (.vptr cs')
inductive TEL : List T → List T → Prop
  | nil : TEL [] []
  | cons {x x' : T} {l l' : List T} : TE x x' → TEL l l' → TEL (x :: l) (x' :: l')
inductive TELs : List (List T) → List (List T) → Prop
  | nil : TELs [] []
  | cons {x x' : List T} {l l' : List (List T)} : TEL x x' → TELs l l' → TELs (x :: l) (x' :: l')
end
omit [Gl] in
theorem TEL.len : ∀ {l l' : List T}, TEL l l' → l.length = l'.length
  | _, _, .nil => rfl
  | _, _, .cons _ h => by simp [h.len]
omit [Gl] in
theorem TELs.len : ∀ {l l' : List (List T)}, TELs l l' → l.length = l'.length
  | _, _, .nil => rfl
  | _, _, .cons _ h => by simp [h.len]
omit [Gl] in
theorem TEL.get : ∀ {l l' : List T}, TEL l l' → ∀ (i : Nat) x x', l[i]? = some x → l'[i]? = some x' → TE x x'
  | _, _, .nil, i, x, x', h, _ => by simp at h
  | _, _, .cons h hs, 0, x, x', h1, h2 => by simp at h1 h2; subst h1; subst h2; exact h
  | _, _, .cons h hs, i + 1, x, x', h1, h2 => hs.get i x x' (by simpa using h1) (by simpa using h2)
omit [Gl] in
theorem TELs.get : ∀ {l l' : List (List T)}, TELs l l' → ∀ (i : Nat) x x', l[i]? = some x → l'[i]? = some x' → TEL x x'
  | _, _, .nil, i, x, x', h, _ => by simp at h
  | _, _, .cons h hs, 0, x, x', h1, h2 => by simp at h1 h2; subst h1; subst h2; exact h
  | _, _, .cons h hs, i + 1, x, x', h1, h2 => hs.get i x x' (by simpa using h1) (by simpa using h2)
omit [Gl] in
theorem TEL.refl : ∀ (l : List T), TEL l l
  | [] => .nil
  | _ :: l => .cons .refl (TEL.refl l)
omit [Gl] in
theorem TELs.refl : ∀ (l : List (List T)), TELs l l
  | [] => .nil
  | x :: l => .cons (TEL.refl x) (TELs.refl l)
omit [Gl] in
theorem TELs.of {l l' : List (List T)} (h : l = l') : TELs l l' := h ▸ TELs.refl l

omit [Gl] in
/-- What VT says of a tree's value, so that induction goes through. -/
theorem VT.te {w : World} {O : Nat → Prop} {t : T} {v : Value} (h : VT w O t v) : ∀ {t'}, TE t t' → VT w O t' v := by
  induction h with
  | lit hp => intro t' h; cases h with
    | refl => exact .lit hp
    | hideN h => exact .vslN h
    | hideE h => exact .vslS h (.vsl0 fun _ => rfl)
    | nilE => exact .vsl0 fun _ => rfl
  | int => intro t' h; cases h with
    | refl => exact .int
    | int h => rw [h]; exact .int
  | bool => intro t' h; cases h with
    | refl => exact .bool
    | bool h => rw [h]; exact .bool
  | str => intro t' h; cases h with
    | refl => exact .str
    | str h => rw [h]; exact .str
  | @vsl k es b off cap c h1 h2 h3 h4 h5 h6 ih =>
    have key : ∀ es', TELs es es' → VT w O (.vsl k es') (.slice (some ⟨b, off, none⟩) es.length cap) := by
      intro es' hs
      rw [hs.len]
      have back : ∀ (i j : Nat) e' x', es'[i]? = some e' → e'[j]? = some x' → ∃ e x, es[i]? = some e ∧ e[j]? = some x ∧ TE x x' := by
        intro i j e' x' h7 h8
        have hi : i < es.length := by rw [hs.len]; exact (List.getElem?_eq_some_iff.1 h7).1
        have he := hs.get i _ e' (List.getElem?_eq_getElem hi) h7
        have hj : j < es[i].length := by rw [he.len]; exact (List.getElem?_eq_some_iff.1 h8).1
        exact ⟨_, _, List.getElem?_eq_getElem hi, List.getElem?_eq_getElem hj, he.get j _ x' (List.getElem?_eq_getElem hj) h8⟩
      refine .vsl c h1 h2 (by rw [← hs.len]; exact h3) (fun e' he' => ?_) (fun i j e' x' h7 h8 => ?_) (fun i j e' x' h7 h8 => ?_)
      · obtain ⟨i, hi⟩ := List.mem_iff_getElem?.1 he'
        have hil : i < es.length := by rw [hs.len]; exact (List.getElem?_eq_some_iff.1 hi).1
        rw [← (hs.get i _ e' (List.getElem?_eq_getElem hil) hi).len]
        exact h4 _ (List.getElem_mem _)
      · obtain ⟨e, x, g1, g2, _⟩ := back i j e' x' h7 h8
        exact h5 i j e x g1 g2
      · obtain ⟨e, x, g1, g2, g3⟩ := back i j e' x' h7 h8
        exact ih i j e x g1 g2 g3
    intro t' h
    cases h with
    | refl => exact key es (TELs.refl es)
    | vsl hs => exact key _ hs
    | hide hf hs => exact .vslS hf (key _ hs)
  | @vsl0 k a cap h0 =>
    intro t' h
    cases h with
    | refl => exact .vsl0 h0
    | vsl hs => cases hs; exact .vsl0 h0
    | hide hf hs => cases hs; exact .vslS hf (.vsl0 h0)
  | vslS h1 h2 ih =>
    intro t' h
    cases h with
    | refl => exact .vslS h1 h2
    | vslE h => exact .vslS (h ▸ h1) h2
    | vslS g1 g2 hs =>
      rw [h1] at g1
      cases g1
      exact .vslS g2 (ih (.vsl hs))
  | vslN h1 =>
    intro t' h
    cases h with
    | refl => exact .vslN h1
    | vslE h => exact .vslN (h ▸ h1)
    | vslS g1 g2 hs => rw [h1] at g1; cases g1
  | @vptr cs0 b off c h1 h2 h3 h4 ih =>
    intro t' h
    cases h with
    | refl => exact .vptr c h1 h2 h3 h4
    | @vptr _ cs' hs =>
      have back : ∀ (j : Nat) x', cs'[j]? = some x' → ∃ x, cs0[j]? = some x ∧ TE x x' := fun j x' h8 => by
        have hj := (List.getElem?_eq_some_iff.1 h8).1
        rw [← hs.len] at hj
        exact ⟨_, List.getElem?_eq_getElem hj, hs.get j _ x' (List.getElem?_eq_getElem hj) h8⟩
      refine .vptr c h1 h2 (fun j x' hx => ?_) (fun j x' hx => ?_)
      · obtain ⟨x, g1, _⟩ := back j x' hx; exact h3 j x g1
      · obtain ⟨x, g1, g2⟩ := back j x' hx; exact ih j x g1 g2

/-- The value x, said as y, where the object p is now 'base + q' for the q-th number p of 'π', and the others are dropped. -/
inductive RV (base : Nat) (π : List Nat) (o : List AO) : AV → AV → Prop where
  | junk {x : AV} : RV base π o x .junk
  | pure {x : AV} : pureA x = true → RV base π o x x
  | c {t t' : T} : TE t t' → RV base π o (.c t) (.c t')
  | ref {p q off : Nat} : nth π q = some p → RV base π o (.ref p off) (.ref (base + q) off)
  | eref {p q k off : Nat} {i i' : Th Nat} : nth π q = some p → i.den = i'.den → RV base π o (.eref p k i off) (.eref (base + q) k i' off)
  | sl {p q k : Nat} {i len cap i' len' cap' : Th Nat} : nth π q = some p → i.den = i'.den → len.den = len'.den → cap.den = cap'.den → RV base π o (.sl p k i len cap) (.sl (base + q) k i' len' cap')
  | mp {p q : Nat} : nth π q = some p → RV base π o (.mp p) (.mp (base + q))
  | nilS {p q k : Nat} {i len cap : Th Nat} : nth π q = some p → nth o p = none → len.den = 0 → cap.den = 0 → RV base π o (.c (.lit (.slice none 0 0))) (.sl (base + q) k i len cap)
  | fz {n k : Nat} {i len cap : Th Nat} {es : Th (List (List AV))} {sz : Th Nat} (rows : List (List T)) (r : List (List T)) : nth o n = some (.arr k es sz) → π.contains n = false → es.den = rows.map (fun e => e.map AV.c) → i.den + len.den ≤ rows.length →
      TELs ((rows.drop i.den).take len.den) r → RV base π o (.sl n k i len cap) (.c (.vsl k r))
  | fzS {n k : Nat} {i len cap : Th Nat} {es : Th (List (List AV))} {sz : Th Nat} (rows : List (List T)) (f : Unit → T) : nth o n = some (.arr k es sz) → π.contains n = false → es.den = rows.map (fun e => e.map AV.c) → i.den + len.den ≤ rows.length →
      TE (.vsl k ((rows.drop i.den).take len.den)) (.vslS k f) → RV base π o (.sl n k i len cap) (.c (.vslS k f))
  | fn {f : Fn} {a b a' b' : List AV} : a.length = a'.length → b.length = b'.length → (∀ (i : Nat) x y, a[i]? = some x → a'[i]? = some y → RV base π o x y) → (∀ (i : Nat) x y, b[i]? = some x → b'[i]? = some y → RV base π o x y) → RV base π o (.fn f a b) (.fn f a' b')
  | ifc {t : TypeId} {x y : AV} : RV base π o x y → RV base π o (.ifc t x) (.ifc t y)
  | agg {cs ds : List AV} : cs.length = ds.length → (∀ (i : Nat) x y, cs[i]? = some x → ds[i]? = some y → RV base π o x y) → RV base π o (.agg cs) (.agg ds)
  | tup {cs ds : List AV} : cs.length = ds.length → (∀ (i : Nat) x y, cs[i]? = some x → ds[i]? = some y → RV base π o x y) → RV base π o (.tup cs) (.tup ds)

omit [Gl] in
theorem RV.int {base : Nat} {π : List Nat} {o : List AO} {k : IntKind} {n n' : Th Int} (h : n.den = n'.den) : RV base π o (AI k n) (AI k n') := .c (.int h)
omit [Gl] in
theorem RV.bool {base : Nat} {π : List Nat} {o : List AO} {n n' : Th Bool} (h : n.den = n'.den) : RV base π o (AB n) (AB n') := .c (.bool h)
omit [Gl] in
theorem RV.str {base : Nat} {π : List Nat} {o : List AO} {n n' : Th ByteArray} (h : n.den = n'.den) : RV base π o (AS n) (AS n') := .c (.str h)

/-- An object, said anew. -/
inductive RO (base : Nat) (π : List Nat) (o : List AO) : AO → AO → Prop where
  | box {cs ds : List AV} : cs.length = ds.length → (∀ (i : Nat) x y, cs[i]? = some x → ds[i]? = some y → RV base π o x y) → RO base π o (.box cs) (.box ds)
  | arr {k : Nat} {es es' : Th (List (List AV))} {sz sz' : Th Nat} : es.den.length = es'.den.length → (∀ (i : Nat) e e', es.den[i]? = some e → es'.den[i]? = some e' → e.length = e'.length ∧ ∀ (j : Nat) x y, e[j]? = some x → e'[j]? = some y → RV base π o x y) → sz.den = sz'.den → RO base π o (.arr k es sz) (.arr k es' sz')
  | map {es es' : List (AV × AV)} : es.length = es'.length → (∀ (i : Nat) x y, es[i]? = some x → es'[i]? = some y → RV base π o x.1 y.1 ∧ RV base π o x.2 y.2) → RO base π o (.map es) (.map es')
  | sit {s s' : Th ByteArray} {p p' : Th Nat} : s.den = s'.den → p.den = p'.den → RO base π o (.sit s p) (.sit s' p')
  | dead : RO base π o .dead .dead

omit [Gl] in
/-- A list of cells whose elements are what they were. -/
theorem RO.arrEq {base : Nat} {π : List Nat} {o : List AO} {k : Nat} {es es' : Th (List (List AV))} {sz sz' : Th Nat} (h : es.den = es'.den) (hp : ∀ e ∈ es.den, pureL e = true) (hs : sz.den = sz'.den) : RO base π o (.arr k es sz) (.arr k es' sz') := by
  refine .arr (by rw [h]) (fun i e e' h1 h2 => ?_) hs
  rw [← h, h1] at h2; cases h2
  refine ⟨rfl, fun j x y h3 h4 => ?_⟩
  rw [h3] at h4; cases h4
  exact .pure (pureL_get (hp e (List.mem_of_getElem? h1)) j x h3)

inductive RVs (base : Nat) (π : List Nat) (o : List AO) : List AV → List AV → Prop where
  | nil : RVs base π o [] []
  | cons {x y : AV} {xs ys : List AV} : RV base π o x y → RVs base π o xs ys → RVs base π o (x :: xs) (y :: ys)
omit [Gl] in
theorem RVs.len {base : Nat} {π : List Nat} {o : List AO} {xs ys : List AV} (h : RVs base π o xs ys) : xs.length = ys.length := by induction h <;> simp [*]
omit [Gl] in
theorem RVs.get {base : Nat} {π : List Nat} {o : List AO} {xs ys : List AV} (h : RVs base π o xs ys) : ∀ (i : Nat) x y, xs[i]? = some x → ys[i]? = some y → RV base π o x y := by
  induction h with
  | nil => intro i x y h; simp at h
  | cons h _ ih =>
    intro i x y h1 h2
    cases i with
    | zero => simp at h1 h2; subst h1; subst h2; exact h
    | succ i => exact ih i x y (by simpa using h1) (by simpa using h2)
omit [Gl] in
theorem RV.agg' {base : Nat} {π : List Nat} {o : List AO} {xs ys : List AV} (h : RVs base π o xs ys) : RV base π o (.agg xs) (.agg ys) := .agg h.len h.get
omit [Gl] in
theorem RV.tup' {base : Nat} {π : List Nat} {o : List AO} {xs ys : List AV} (h : RVs base π o xs ys) : RV base π o (.tup xs) (.tup ys) := .tup h.len h.get
omit [Gl] in
theorem RO.box' {base : Nat} {π : List Nat} {o : List AO} {xs ys : List AV} (h : RVs base π o xs ys) : RO base π o (.box xs) (.box ys) := .box h.len h.get

/-- The objects that are kept, in the order of 'π'. -/
inductive ROs (base : Nat) (π0 : List Nat) (o : List AO) : List Nat → List AO → Prop where
  | nil : ROs base π0 o [] []
  | cons {p : Nat} {π : List Nat} {x y : AO} {ys : List AO} : nth o p = some x → RO base π0 o x y → ROs base π0 o π ys → ROs base π0 o (p :: π) (y :: ys)
  | kill {p : Nat} {π : List Nat} {y : AO} {ys : List AO} : nth o p = none → gone y → ROs base π0 o π ys → ROs base π0 o (p :: π) (y :: ys)
omit [Gl] in
theorem ROs.len {base : Nat} {π0 : List Nat} {o : List AO} {π : List Nat} {ys : List AO} (h : ROs base π0 o π ys) : π.length = ys.length := by induction h <;> simp [*]
omit [Gl] in
theorem ROs.get {base : Nat} {π0 : List Nat} {o : List AO} {π : List Nat} {ys : List AO} (h : ROs base π0 o π ys) : ∀ (q p : Nat), π[q]? = some p → (∃ x y, o[p]? = some x ∧ ys[q]? = some y ∧ RO base π0 o x y) ∨ (o[p]? = none ∧ ∃ y, ys[q]? = some y ∧ gone y) := by
  induction h with
  | nil => intro q p h; simp at h
  | cons h1 h2 _ ih =>
    intro q p h
    cases q with
    | zero => simp at h; subst h; exact .inl ⟨_, _, by rw [← nth_eq]; exact h1, rfl, h2⟩
    | succ q => exact ih q p (by simpa using h)
  | kill h1 h2 _ ih =>
    intro q p h
    cases q with
    | zero => simp at h; subst h; exact .inr ⟨by rw [← nth_eq]; exact h1, _, rfl, h2⟩
    | succ q => exact ih q p (by simpa using h)

section
variable {w : World} {F F' : Nat → Prop} {μ μ' : Mu} {o : List AO} {base : Nat} {π : List Nat}

theorem RV.sound (hs : St w F μ o) (hsub : ∀ b, own F' μ' b → own F μ b) (hpos : ∀ q p : Nat, π[q]? = some p → ∀ z, μ[p]? = some z → μ'[base + q]? = some z) (hnone : ∀ q p : Nat, π[q]? = some p → μ[p]? = none → μ'[base + q]? = some none) (hfree : ∀ n : Nat, π.contains n = false → ∀ b, μ[n]? = some (some b) → ¬ own F' μ' b)
    {x y : AV} (h : RV base π o x y) : ∀ {v}, VR w F μ x v → VR w F' μ' y v := by
  have ht : ∀ t v, VT w (own F μ) t v → VT w (own F' μ') t v := fun t v ht => ht.mono (Nat.le_refl _) (fun _ _ _ => rfl) (fun b _ hn hO => hn (hsub b hO))
  induction h with
  | junk => intro v _; exact .junk
  | pure h => intro v hv; exact hv.pure ht h
  | c h => intro v hv; cases hv with | c hv => exact .c ((ht _ _ hv).te h)
  | ref h =>
    intro v hv
    rw [nth_eq] at h
    cases hv with
    | ref h1 => exact .ref (hpos _ _ h _ h1)
    | refD h1 => exact .refD (hpos _ _ h _ h1)
  | eref h hi =>
    intro v hv
    rw [nth_eq] at h
    cases hv with
    | eref h1 => rw [hi]; exact .eref (hpos _ _ h _ h1)
    | erefD h1 => exact .erefD (hpos _ _ h _ h1)
  | sl h hi hl hc =>
    intro v hv
    rw [nth_eq] at h
    cases hv with
    | sl h1 h2 h3 => rw [hi, hl, hc]; exact .sl (hpos _ _ h _ h1) (by rw [← hl, ← hc]; exact h2) (by rw [← hc]; exact h3)
    | slD h1 h2 h3 h4 => rw [hl, hc]; exact .slD (hpos _ _ h _ h1) (by rw [← hl, ← hc]; exact h2) (by rw [← hc]; exact h3) (by rw [← hc]; exact h4)
  | mp h =>
    intro v hv
    rw [nth_eq] at h
    cases hv with
    | mp h1 => exact .mp (hpos _ _ h _ h1)
    | mpD h1 h2 => exact .mpD (hpos _ _ h _ h1) h2
  | @nilS p q k i len cap h1 h2 h3 h4 =>
    intro v hv
    rw [nth_eq] at h1 h2
    have hm : μ[p]? = none := by rw [List.getElem?_eq_none_iff] at h2 ⊢; rw [hs.len]; exact h2
    have hve : v = .slice none 0 0 := by cases hv with | c hv => cases hv; rfl
    rw [hve]
    have := VR.slD (w := w) (F := F') (k := k) (i := i) (len := len) (cap := cap) (a := none) (hnone _ _ h1 hm) (by rw [h3]; exact Nat.zero_le _) (by rw [h4]; exact Nat.zero_le _) (fun _ => h4)
    rw [h3, h4] at this
    exact this
  | fz rows r h1 h2 h3 h4 h5 => intro v hv; exact .c ((freeze_row hs (fun b _ h => hsub b h) (hfree _ h2) h1 h3 h4 hv).te (.vsl h5))
  | fzS rows f h1 h2 h3 h4 h5 => intro v hv; exact .c ((freeze_row hs (fun b _ h => hsub b h) (hfree _ h2) h1 h3 h4 hv).te h5)
  | fn l1 l2 _ _ i1 i2 =>
    intro v hv
    cases hv with
    | fn a1 a2 a3 a4 =>
      refine .fn (by rw [a1, l1]) (by rw [a2, l2]) (fun i y v hy hv => ?_) (fun i y v hy hv => ?_)
      · have hlt := (List.getElem?_eq_some_iff.1 hy).1
        exact i1 i _ y (List.getElem?_eq_getElem (l1 ▸ hlt)) hy (a3 i _ v (List.getElem?_eq_getElem (l1 ▸ hlt)) hv)
      · have hlt := (List.getElem?_eq_some_iff.1 hy).1
        exact i2 i _ y (List.getElem?_eq_getElem (l2 ▸ hlt)) hy (a4 i _ v (List.getElem?_eq_getElem (l2 ▸ hlt)) hv)
  | ifc _ ih => intro v hv; cases hv with | ifc h => exact .ifc (ih h)
  | agg h1 _ ih =>
    intro v hv
    cases hv with
    | agg a1 a2 a3 =>
      refine .agg (by rw [a1, h1]) (fun i y v hy hv => ?_) a3
      have hlt := (List.getElem?_eq_some_iff.1 hy).1
      exact ih i _ y (List.getElem?_eq_getElem (h1 ▸ hlt)) hy (a2 i _ v (List.getElem?_eq_getElem (h1 ▸ hlt)) hv)
  | tup h1 _ ih =>
    intro v hv
    cases hv with
    | tup a1 a2 =>
      refine .tup (by rw [a1, h1]) (fun i y v hy hv => ?_)
      have hlt := (List.getElem?_eq_some_iff.1 hy).1
      exact ih i _ y (List.getElem?_eq_getElem (h1 ▸ hlt)) hy (a2 i _ v (List.getElem?_eq_getElem (h1 ▸ hlt)) hv)

omit [Gl] in
theorem RO.sound (hrv : ∀ x y v, RV base π o x y → VR w F μ x v → VR w F' μ' y v) {b : Nat} {x y : AO} (h : RO base π o x y) (hb : OB w F μ b x) : OB w F' μ' b y := by
  cases h with
  | box h1 h2 =>
    cases hb with
    | box blk e a1 a2 a3 =>
      refine .box blk e a1 (by rw [a2, h1]) fun i y v hy hv => ?_
      have hlt := (List.getElem?_eq_some_iff.1 hy).1
      have := a3 i _ v (List.getElem?_eq_getElem (h1 ▸ hlt)) hv
      exact ⟨hrv _ _ _ (h2 i _ y (List.getElem?_eq_getElem (h1 ▸ hlt)) hy) this.1, this.2⟩
  | @arr k es es' sz sz' h1 h2 h3 =>
    cases hb with
    | arr blk e a1 a2 a3 a4 a6 a5 =>
      refine .arr blk e a1 (by rw [a2, h3]) (by rw [← h1, ← h3]; exact a3) (fun e' he' => ?_) a6 fun i j e' y v h4 h5 h6 => ?_
      · obtain ⟨i, hi, rfl⟩ := List.getElem_of_mem he'
        have := h2 i _ _ (List.getElem?_eq_getElem (h1 ▸ hi)) (List.getElem?_eq_getElem hi)
        rw [← this.1]; exact a4 _ (List.getElem_mem _)
      · have hi := (List.getElem?_eq_some_iff.1 h4).1
        have h7 := h2 i _ _ (List.getElem?_eq_getElem (h1 ▸ hi)) h4
        have hj := (List.getElem?_eq_some_iff.1 h5).1
        have h8 := a5 i j _ _ v (List.getElem?_eq_getElem (h1 ▸ hi)) (List.getElem?_eq_getElem (h7.1 ▸ hj)) h6
        exact ⟨hrv _ _ _ (h7.2 j _ y (List.getElem?_eq_getElem (h7.1 ▸ hj)) h5) h8.1, h8.2⟩
  | map h1 h2 =>
    cases hb with
    | map ents clock a1 a2 a3 =>
      refine .map ents clock a1 (by rw [a2, h1]) fun i y v hy hv => ?_
      have hlt := (List.getElem?_eq_some_iff.1 hy).1
      have := a3 i _ v (List.getElem?_eq_getElem (h1 ▸ hlt)) hv
      have h3 := h2 i _ y (List.getElem?_eq_getElem (h1 ▸ hlt)) hy
      exact ⟨hrv _ _ _ h3.1 this.1, hrv _ _ _ h3.2 this.2⟩
  | sit h1 h2 =>
    cases hb with
    | sit a1 => exact .sit (by rw [← h1, ← h2]; exact a1)
  | dead => cases hb
end

/-- The blocks of the objects kept. -/
def selMu (μ : Mu) (π : List Nat) : Mu := π.map fun p => match μ[p]? with | some x => x | none => none

omit [Gl] in
theorem selMu_get {μ : Mu} {π : List Nat} {q p : Nat} (hq : π[q]? = some p) {z : Option Nat} (hz : μ[p]? = some z) : (selMu μ π)[q]? = some z := by
  unfold selMu
  rw [List.getElem?_map, hq, Option.map_some, hz]

omit [Gl] in
theorem selMu_back {μ : Mu} {π : List Nat} {q : Nat} {x : Option Nat} (hq : (selMu μ π)[q]? = some x) : ∃ p, π[q]? = some p ∧ (μ[p]? = some x ∨ (μ[p]? = none ∧ x = none)) := by
  have hlt : q < π.length := by
    have := (List.getElem?_eq_some_iff.1 hq).1; simpa [selMu] using this
  refine ⟨_, List.getElem?_eq_getElem hlt, ?_⟩
  unfold selMu at hq
  rw [List.getElem?_map, List.getElem?_eq_getElem hlt, Option.map_some] at hq
  cases hm : μ[π[q]]? with
  | none => rw [hm] at hq; simp at hq; exact .inr ⟨rfl, hq.symm⟩
  | some z => rw [hm] at hq; simp at hq; exact .inl (by rw [hq])
omit [Gl] in
theorem selMu_some {μ : Mu} {π : List Nat} {q b : Nat} (hq : (selMu μ π)[q]? = some (some b)) : ∃ p, π[q]? = some p ∧ μ[p]? = some (some b) := by
  obtain ⟨p, h1, h2 | ⟨_, h2⟩⟩ := selMu_back hq
  · exact ⟨p, h1, h2⟩
  · cases h2

/-- No number twice. -/
def distinct : List Nat → Bool
  | [] => true
  | p :: l => match l.contains p with | true => false | false => distinct l
omit [Gl] in
theorem distinct_inj : ∀ {l : List Nat}, distinct l = true → ∀ (i j p : Nat), l[i]? = some p → l[j]? = some p → i = j
  | [], _, i, j, p, h, _ => by simp at h
  | a :: l, h, i, j, p, h1, h2 => by
    simp only [distinct] at h
    split at h
    · cases h
    · rename_i hc
      have hn : a ∉ l := by simpa using hc
      cases i with
      | zero =>
        cases j with
        | zero => rfl
        | succ j => simp at h1 h2; subst h1; exact (hn (List.mem_of_getElem? h2)).elim
      | succ i =>
        cases j with
        | zero => simp at h1 h2; subst h2; exact (hn (List.mem_of_getElem? h1)).elim
        | succ j => rw [distinct_inj h i j p (by simpa using h1) (by simpa using h2)]

/-- **The state, said anew**, behind other objects 'ob' that nobody has touched. -/
theorem St.rename {w0 w : World} {F F1 : Nat → Prop} {μ0 μ : Mu} {ob o o' : List AO} (h0 : St w0 F μ0 ob) (hsz : w0.heap.size ≤ w.heap.size) (hF : ∀ b, F1 b ↔ own F μ0 b) (hs : St w F1 μ o) {π : List Nat} (hr : ROs (lenL ob) π o π o') (hn : distinct π = true)
    (hold : (∀ b, some b ∈ selMu μ π → some b ∈ μ) → ∀ (q b : Nat), μ0[q]? = some (some b) → ∃ x, ob[q]? = some x ∧ OB w F (μ0 ++ selMu μ π) b x) :
    St w F (μ0 ++ selMu μ π) (ob ++ o') ∧ (∀ b, some b ∈ selMu μ π → some b ∈ μ) ∧ ∀ x y v, RV (lenL ob) π o x y → VR w F1 μ x v → VR w F (μ0 ++ selMu μ π) y v := by
  have hsel : ∀ b, some b ∈ selMu μ π → some b ∈ μ := by
    intro b hb
    obtain ⟨q, hq⟩ := List.mem_iff_getElem?.1 hb
    obtain ⟨p, _, hp⟩ := selMu_some hq
    exact List.mem_of_getElem? hp
  have hl : lenL ob = μ0.length := by rw [lenL_eq, h0.len]
  have hsub : ∀ b, own F (μ0 ++ selMu μ π) b → own F1 μ b := by
    rintro b (h | h)
    · rcases List.mem_append.1 h with h | h
      · exact .inr ((hF b).2 (.inl h))
      · exact .inl (hsel b h)
    · exact .inr ((hF b).2 (.inr h))
  have hpos : ∀ q p : Nat, π[q]? = some p → ∀ z, μ[p]? = some z → (μ0 ++ selMu μ π)[lenL ob + q]? = some z := by
    intro q p hq z hz
    rw [hl, List.getElem?_append_right (by omega), Nat.add_sub_cancel_left]
    exact selMu_get hq hz
  have hnone : ∀ q p : Nat, π[q]? = some p → μ[p]? = none → (μ0 ++ selMu μ π)[lenL ob + q]? = some none := by
    intro q p hq hz
    rw [hl, List.getElem?_append_right (by omega), Nat.add_sub_cancel_left]
    unfold selMu
    rw [List.getElem?_map, hq, Option.map_some, hz]
  have hfree : ∀ n : Nat, π.contains n = false → ∀ b, μ[n]? = some (some b) → ¬ own F (μ0 ++ selMu μ π) b := by
    rintro n hc b hb (h | h)
    · rcases List.mem_append.1 h with h | h
      · exact (hs.frame b ((hF b).2 (.inl h))).2 (List.mem_of_getElem? hb)
      · obtain ⟨q, hq⟩ := List.mem_iff_getElem?.1 h
        obtain ⟨p, hp1, hp2⟩ := selMu_some hq
        have := hs.inj p n b hp2 hb
        subst this
        have hm := List.mem_of_getElem? hp1
        simp [hm] at hc
    · exact (hs.frame b ((hF b).2 (.inr h))).2 (List.mem_of_getElem? hb)
  have hrv : ∀ x y v, RV (lenL ob) π o x y → VR w F1 μ x v → VR w F (μ0 ++ selMu μ π) y v := fun x y v h hv => h.sound hs hsub hpos hnone hfree hv
  have split : ∀ (q : Nat) (b : Nat), (μ0 ++ selMu μ π)[q]? = some (some b) → (q < μ0.length ∧ μ0[q]? = some (some b)) ∨ (μ0.length ≤ q ∧ ∃ p, π[q - μ0.length]? = some p ∧ μ[p]? = some (some b)) := by
    intro q x h
    rcases Nat.lt_or_ge q μ0.length with h1 | h1
    · rw [List.getElem?_append_left h1] at h; exact .inl ⟨h1, h⟩
    · rw [List.getElem?_append_right h1] at h
      exact .inr ⟨h1, selMu_some h⟩
  refine ⟨⟨?_, ?_, ?_, ?_, ?_, ?_, hs.gl.sub fun b _ h => hsub b h⟩, hsel, hrv⟩
  · simp [selMu, h0.len, hr.len]
  · intro q q' b h1 h2
    rcases split q _ h1 with ⟨a1, a2⟩ | ⟨a1, p, a2, a3⟩ <;> rcases split q' _ h2 with ⟨b1, b2⟩ | ⟨b1, p', b2, b3⟩
    · exact h0.inj q q' b a2 b2
    · exact ((hs.frame b ((hF b).2 (.inl (List.mem_of_getElem? a2)))).2 (List.mem_of_getElem? b3)).elim
    · exact ((hs.frame b ((hF b).2 (.inl (List.mem_of_getElem? b2)))).2 (List.mem_of_getElem? a3)).elim
    · have := hs.inj p p' b a3 b3
      subst this
      have := distinct_inj hn _ _ p a2 b2
      omega
  · intro q b h
    rcases split q _ h with ⟨a1, a2⟩ | ⟨a1, p, a2, a3⟩
    · exact Nat.lt_of_lt_of_le (h0.lt q b a2) hsz
    · exact hs.lt p b a3
  · intro q h
    rcases Nat.lt_or_ge q μ0.length with a1 | a1
    · rw [List.getElem?_append_left a1] at h
      obtain ⟨x, g1, g2⟩ := h0.dead q h
      exact ⟨x, by rw [List.getElem?_append_left (by rw [← h0.len]; exact a1)]; exact g1, g2⟩
    · rw [List.getElem?_append_right a1] at h
      obtain ⟨p, a2, a3⟩ := selMu_back h
      rcases hr.get _ p a2 with ⟨x, y, g1, g2, g3⟩ | ⟨g1, g2⟩
      · rcases a3 with a3 | ⟨a3, _⟩
        · obtain ⟨x', k1, k2⟩ := hs.dead p a3
          rw [g1] at k1; cases k1
          refine ⟨y, by rw [List.getElem?_append_right (by rw [← h0.len]; exact a1), ← h0.len]; exact g2, ?_⟩
          cases g3 with
          | box => exact k2.elim
          | map => exact k2.elim
          | sit => exact k2.elim
          | dead => trivial
          | arr e1 _ e3 => exact ⟨List.eq_nil_of_length_eq_zero (by rw [← e1, k2.1]; rfl), by rw [← e3]; exact k2.2⟩
        · have := (List.getElem?_eq_some_iff.1 g1).1
          rw [List.getElem?_eq_none_iff, hs.len] at a3
          omega
      · obtain ⟨y, g2, g3⟩ := g2
        exact ⟨y, by rw [List.getElem?_append_right (by rw [← h0.len]; exact a1), ← h0.len]; exact g2, g3⟩
  · intro b hb
    refine ⟨Nat.lt_of_lt_of_le (h0.frame b hb).1 hsz, fun h => ?_⟩
    rcases List.mem_append.1 h with h | h
    · exact (h0.frame b hb).2 h
    · exact (hs.frame b ((hF b).2 (.inr hb))).2 (hsel b h)
  · intro q b h
    rcases split q _ h with ⟨a1, a2⟩ | ⟨a1, p, a2, a3⟩
    · obtain ⟨x, g1, g2⟩ := hold hsel q b a2
      exact ⟨x, by rw [List.getElem?_append_left (by rw [← h0.len]; exact a1)]; exact g1, g2⟩
    · obtain ⟨x, g1, g2⟩ := hs.live p b a3
      rcases hr.get _ p a2 with ⟨x', y, k1, k2, k3⟩ | ⟨k1, _⟩
      · rw [g1] at k1; cases k1
        exact ⟨y, by rw [List.getElem?_append_right (by rw [← h0.len]; exact a1), ← h0.len]; exact k2, k3.sound hrv g2⟩
      · rw [g1] at k1; cases k1

/-- Within a function: the first m objects keep their numbers, or die ('n': how many there are). -/
def keeps (n : Nat) : Nat → Nat → List Nat → Bool
  | 0, _, _ => true
  | _ + 1, _, [] => false
  | m + 1, i, p :: π => match p == i || Nat.ble n p with | true => keeps n m (i + 1) π | false => false
omit [Gl] in
theorem keeps_spec {n : Nat} : ∀ {m i : Nat} {π : List Nat}, keeps n m i π = true → ∀ q, q < m → ∃ p, π[q]? = some p ∧ (p = i + q ∨ n ≤ p)
  | 0, _, _, _, q, h => by omega
  | m + 1, i, [], h, _, _ => by simp [keeps] at h
  | m + 1, i, p :: π, h, q, hq => by
    simp only [keeps] at h
    split at h
    · rename_i hp
      simp only [Bool.or_eq_true, beq_iff_eq, Nat.ble_eq] at hp
      cases q with
      | zero => exact ⟨p, rfl, by simpa using hp⟩
      | succ q =>
        obtain ⟨p', h1, h2⟩ := keeps_spec h q (by omega)
        exact ⟨p', by rw [List.getElem?_cons_succ]; exact h1, by omega⟩
    · cases h

/-- What the state may be said to be as well. -/
structure Ren (m : Nat) (e : List AV) (o : List AO) (e' : List AV) (o' : List AO) : Prop where
  run : ∀ (w : World) (F : Nat → Prop) (μ : Mu) (tmps : Array Value), m ≤ μ.length → FR w F μ e tmps → St w F μ o → ∃ μ', FR w F μ' e' tmps ∧ St w F μ' o' ∧ ExtB m w μ w μ'

theorem Ren.of {m : Nat} {e e' : List AV} {o o' : List AO} (π : List Nat) (hk : keeps (lenL o) m 0 π = true) (hd : distinct π = true) (he : RVs 0 π o e e') (ho : ROs 0 π o π o') : Ren m e o e' o' := by
  refine ⟨fun w F μ tmps hm hf hs => ?_⟩
  have h0 : St w F [] [] :=
    { len := rfl, inj := fun o o' b h => by simp at h, lt := fun o b h => by simp at h, dead := fun o h => by simp at h, frame := fun b h => ⟨(hs.frame b h).1, by simp⟩, live := fun o b h => by simp at h, gl := hs.gl.sub fun b _ h => h.elim (fun h => by simp at h) .inr }
  obtain ⟨h1, h2, h3⟩ := St.rename (π := π) h0 (Nat.le_refl _) (fun b => ⟨fun h => .inr h, fun h => by
    rcases h with h | h
    · simp at h
    · exact h⟩) hs ho hd (fun _ q b h => by simp at h)
  simp only [List.nil_append] at h1 h3
  refine ⟨selMu μ π, ⟨by rw [hf.1, he.len], fun i y v hy hv => ?_⟩, h1, ?_⟩
  · have hlt := (List.getElem?_eq_some_iff.1 hy).1
    exact h3 _ y v (he.get i _ y (List.getElem?_eq_getElem (he.len ▸ hlt)) hy) (hf.2 i _ v (List.getElem?_eq_getElem (he.len ▸ hlt)) hv)
  · have hsame : ∀ (q : Nat), q < m → (∀ z, μ[q]? = some z → (selMu μ π)[q]? = some z) ∨ (selMu μ π)[q]? = some none := by
      intro q hq
      obtain ⟨p, h4, h5⟩ := keeps_spec hk q hq
      rw [Nat.zero_add] at h5
      rcases h5 with h5 | h5
      · subst h5; exact .inl fun z hz => selMu_get h4 hz
      · right
        have : μ[p]? = none := by rw [List.getElem?_eq_none_iff, hs.len, ← lenL_eq]; exact h5
        unfold selMu
        rw [List.getElem?_map, h4, Option.map_some, this]
    exact { os := rfl, tape := rfl, output := rfl, size := Nat.le_refl _, blk := fun _ _ _ => rfl
            len := by
              rcases Nat.eq_zero_or_pos m with h | h
              · omega
              · obtain ⟨p, h4, _⟩ := keeps_spec hk (m - 1) (by omega)
                have := (List.getElem?_eq_some_iff.1 h4).1
                simp [selMu]; omega
            keep := fun q b hq h => by
              rcases hsame q hq with h4 | h4
              · exact .inl (h4 _ h)
              · exact .inr h4
            dead := fun q hq h => by
              rcases hsame q hq with h4 | h4
              · exact h4 _ h
              · exact h4
            own := fun b h => .inl (h2 b h) }

section
variable {P : Program} {δ : Nat → Option TD}

/-- **A call whose results are said anew**: what it has made is the caller's own from now on. -/
theorem ACall.frame {f : FuncId} {args : List AV} {K0 K : AV → List AO → Prop} {ob : List AO} (h : ACall P f args [] K0) (hp : pureL args = true) (hk : ∀ x o, K0 x o → ∃ π y o', distinct π = true ∧ RV (lenL ob) π o x y ∧ ROs (lenL ob) π o π o' ∧ K y (appL ob o')) : ACall P f args ob K := by
  refine ⟨fun w F μ cargs hv hs => ?_⟩
  have hv' : VRs w (own F μ) [] args cargs.toList := ⟨hv.1, fun i x v hx hu => (hv.2 i x v hx hu).pure (fun t v ht => ht.mono (Nat.le_refl _) (fun _ _ _ => rfl) (fun b _ hn ho => hn (by
    rcases ho with ho | ho
    · simp at ho
    · exact ho))) (pureL_get hp i x hx)⟩
  have hr := h.run w (own F μ) [] cargs hv' hs.bare
  have post : ∀ e w', (∃ v x ob' μ', e = Ending.returned v ∧ VR w' (own F μ) μ' x v ∧ St w' (own F μ) μ' ob' ∧ Ext w [] w' μ' ∧ K0 x ob') → ∃ v x ob' μ', e = Ending.returned v ∧ VR w' F μ' x v ∧ St w' F μ' ob' ∧ Ext w μ w' μ' ∧ K x ob' := by
    intro e w' ⟨v, x, o, μ', g1, g2, g3, g4, g5⟩
    obtain ⟨π, y, o', k1, k2, k3, k4⟩ := hk x o g5
    have hx : (∀ b, some b ∈ selMu μ' π → some b ∈ μ') → Ext w μ w' (μ ++ selMu μ' π) := fun hsel =>
      { os := g4.os, tape := g4.tape, output := g4.output, size := g4.size, blk := fun b hb _ => g4.blk b hb (by simp), len := by simp
        keep := fun q b hq => .inl (by rw [List.getElem?_append_left (List.getElem?_eq_some_iff.1 hq).1]; exact hq)
        dead := fun q hq => by rw [List.getElem?_append_left (List.getElem?_eq_some_iff.1 hq).1]; exact hq
        own := fun b hb => by
          rcases List.mem_append.1 hb with h | h
          · exact .inl h
          · rcases g4.own b (hsel b h) with h | h
            · simp at h
            · exact .inr h }
    obtain ⟨r1, r2, r3⟩ := St.rename hs g4.size (fun b => Iff.rfl) g3 k3 k1 (fun hsel q b hq => by
      obtain ⟨z, z1, z2⟩ := hs.live q b hq
      exact ⟨z, z1, z2.ext (hx hsel) (g4.blk b (hs.lt q b hq) (by simp))⟩)
    rw [appL_eq] at k4
    exact ⟨v, y, ob ++ o', μ ++ selMu μ' π, g1, r3 x y v k2 g2, r1, hx r2, k4⟩
  unfold CallsX at hr ⊢
  split at hr
  · obtain ⟨h1, h2, h3, h4⟩ := hr
    exact ⟨h1, h2, h3, h4.mono post⟩
  · exact post _ _ hr
  · exact hr.elim

/-- What is handed to a call is said anew. -/
theorem ACall.args {f : FuncId} {args args' : List AV} {K : AV → List AO → Prop} {ob : List AO} (h : ACall P f args' ob K) (ha : ∀ w F μ vs, VRs w F μ args vs → VRs w F μ args' vs) : ACall P f args ob K :=
  ⟨fun w F μ cargs hv hs => h.run w F μ cargs (ha _ _ _ _ hv) hs⟩

end
end Go.Abs
