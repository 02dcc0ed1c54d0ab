/- Amounts' texts, in plain lists of bytes: there and back. -/
import Derived.Test.YtchbobndobpocaaDoorMp4
namespace Go.Money
open Go.Lib

theorem digit_of (d : Nat) (h : d < 10) : isDig (UInt8.ofNat (48 + d)) = true ∧ (UInt8.ofNat (48 + d)).toNat = 48 + d := by
  have e : (UInt8.ofNat (48 + d)).toNat = 48 + d := by rw [UInt8.toNat_ofNat']; omega
  exact ⟨isDig_iff.2 (by omega), e⟩
theorem digit_back {c : UInt8} (h : isDig c = true) : UInt8.ofNat (48 + (c.toNat - 48)) = c := by
  have := isDig_iff.1 h
  rw [show 48 + (c.toNat - 48) = c.toNat by omega]
  exact UInt8.ofNat_toNat
theorem valD_snoc (l : List UInt8) (c : UInt8) (acc : Nat) : valD acc (l ++ [c]) = 10 * valD acc l + (c.toNat - 48) := by
  rw [valD_append, valD_cons, valD_nil]

theorem decDigits_facts (u : Nat) : (decDigits u).all isDig = true ∧ valD 0 (decDigits u) = u ∧ decDigits u ≠ [] ∧ (10 ≤ u → ∃ c r, decDigits u = c :: r ∧ c ≠ 48) ∧ (1 ≤ u → ∃ c r, decDigits u = c :: r ∧ c ≠ 48) := by
  induction u using Nat.strongRecOn with
  | _ u ih =>
    by_cases h : u < 10
    · rw [decDigits_small h]
      have hd := digit_of u h
      refine ⟨by simp only [List.all_cons, List.all_nil, Bool.and_true]; exact hd.1, ?_, by simp, fun h' => by omega, fun h' => ⟨_, [], rfl, fun e => ?_⟩⟩
      · rw [valD_cons, valD_nil, hd.2]; omega
      · have := hd.2; rw [e] at this; have : (48 : UInt8).toNat = 48 := rfl; omega
    · rw [decDigits_big h]
      obtain ⟨h1, h2, h3, h4, h5⟩ := ih (u / 10) (by omega)
      have hd := digit_of (u % 10) (by omega)
      obtain ⟨c, r, hc, hn⟩ := h5 (by omega)
      refine ⟨by simp only [List.all_append, List.all_cons, List.all_nil, Bool.and_true, Bool.and_eq_true]; exact ⟨h1, hd.1⟩, ?_, by simp, fun _ => ⟨c, r ++ [_], by rw [hc]; rfl, hn⟩, fun _ => ⟨c, r ++ [_], by rw [hc]; rfl, hn⟩⟩
      rw [valD_snoc, h2, hd.2]; omega

theorem valD_pos (c : UInt8) (r : List UInt8) (h : isDig c = true) (hc : c ≠ 48) : 1 ≤ valD 0 (c :: r) := by
  rw [valD_cons]
  have h1 := isDig_iff.1 h
  have : c.toNat ≠ 48 := fun e => hc (UInt8.toNat_inj.1 (by simpa using e))
  have h2 := valD_ge r (10 * 0 + (c.toNat - 48))
  generalize valD (10 * 0 + (c.toNat - 48)) r = V at h2 ⊢
  omega
theorem decDigits_valD (n : Nat) : ∀ (W : List UInt8), W.length = n → W ≠ [] → W.all isDig = true → (W.head? = some 48 → W.length ≤ 1) → decDigits (valD 0 W) = W := by
  induction n with
  | zero => intro W hn h0; exact absurd (List.length_eq_zero_iff.1 hn) h0
  | succ n ih =>
    intro W hn h0 hd hz
    obtain ⟨V, c, rfl⟩ : ∃ V c, W = V ++ [c] := ⟨W.dropLast, W.getLast h0, (List.dropLast_concat_getLast h0).symm⟩
    simp only [List.all_append, List.all_cons, List.all_nil, Bool.and_true, Bool.and_eq_true] at hd
    have hc := isDig_iff.1 hd.2
    rw [valD_snoc]
    cases V with
    | nil =>
      rw [valD_nil, decDigits_small (by omega), show 48 + (10 * 0 + (c.toNat - 48)) = 48 + (c.toNat - 48) by omega, digit_back hd.2]; rfl
    | cons a V =>
      have ha : a ≠ 48 := fun e => by
        have := hz (by rw [e]; rfl)
        simp at this
      have hp := valD_pos a V (by simpa using (List.all_eq_true.1 hd.1) a List.mem_cons_self) ha
      have hi := ih (a :: V) (by simpa using hn) (by simp) hd.1 (fun e => by simp at e; exact absurd e ha)
      generalize valD 0 (a :: V) = u at hp hi
      rw [decDigits_big (by omega), show (10 * u + (c.toNat - 48)) / 10 = u by omega, hi, show 48 + (10 * u + (c.toNat - 48)) % 10 = 48 + (c.toNat - 48) by omega, digit_back hd.2]

/-- A text that has an amount's shape. -/
theorem shapeB_iff {t : List UInt8} : shapeB t = true ↔ ∃ W a b, t = W ++ [46, a, b] ∧ W ≠ [] ∧ W.all isDig = true ∧ isDig a = true ∧ isDig b = true ∧ (W.head? = some 48 → W.length ≤ 1) ∧ digs t = W ++ [a, b] := by
  constructor
  · intro h
    simp only [shapeB, Bool.and_eq_true, decide_eq_true_eq, beq_iff_eq, Bool.not_eq_true', Bool.and_eq_false_iff, decide_eq_false_iff_not] at h
    obtain ⟨⟨⟨h1, h2⟩, h3⟩, h4⟩ := h
    have hd : t = t.take (t.length - 3) ++ t.drop (t.length - 3) := (List.take_append_drop _ _).symm
    obtain ⟨x, a, b, he⟩ : ∃ x a b, t.drop (t.length - 3) = [x, a, b] := by
      have hl : (t.drop (t.length - 3)).length = 3 := by simp; omega
      match h : t.drop (t.length - 3), hl with
      | [x, a, b], _ => exact ⟨x, a, b, rfl⟩
    have hx : x = 46 := by
      have : (t.drop (t.length - 3))[0]? = some x := by rw [he]; rfl
      rw [List.getElem?_drop, Nat.add_zero, h2] at this
      exact (Option.some.inj this).symm
    subst hx
    have hdr : t.drop (t.length - 2) = [a, b] := by
      have : t.drop (t.length - 2) = (t.drop (t.length - 3)).drop 1 := by rw [List.drop_drop]; congr 1; omega
      rw [this, he]; rfl
    have hg : digs t = t.take (t.length - 3) ++ [a, b] := by unfold digs; rw [hdr]
    rw [hg] at h4
    simp only [List.all_append, List.all_cons, List.all_nil, Bool.and_true, Bool.and_eq_true] at h4
    have hw : t.take (t.length - 3) ≠ [] := fun e => by
      have := congrArg List.length e
      simp at this; omega
    refine ⟨t.take (t.length - 3), a, b, by rw [he] at hd; exact hd, hw, h4.1, h4.2.1, h4.2.2, fun e => ?_, hg⟩
    rcases h3 with h3 | h3
    · refine absurd ?_ (beq_eq_false_iff_ne.1 h3)
      rw [List.head?_take] at e
      split at e
      · cases e
      · exact e
    · simp; omega
  · rintro ⟨W, a, b, rfl, h0, h1, h2, h3, h4, h5⟩
    have hp : 1 ≤ W.length := List.length_pos_iff.2 h0
    simp only [shapeB, Bool.and_eq_true, decide_eq_true_eq, beq_iff_eq, Bool.not_eq_true', Bool.and_eq_false_iff, decide_eq_false_iff_not]
    refine ⟨⟨⟨by simp; omega, ?_⟩, ?_⟩, by rw [h5]; simp [h1, h2, h3]⟩
    · rw [List.getElem?_append_right (by simp)]; simp
    · by_cases hz : W.head? = some 48
      · right; have := h4 hz; simp; omega
      · left
        rw [beq_eq_false_iff_ne]
        cases W with
        | nil => exact absurd rfl h0
        | cons c W => simpa using hz

theorem textU_shape (u : Nat) : shapeB (textU u) = true ∧ digs (textU u) = decDigits (u / 100) ++ [UInt8.ofNat (48 + u / 10 % 10), UInt8.ofNat (48 + u % 10)] ∧ valD 0 (digs (textU u)) = u ∧ ∃ c r, textU u = c :: r ∧ isDig c = true := by
  obtain ⟨h1, h2, h3, h4, _⟩ := decDigits_facts (u / 100)
  have ha := digit_of (u / 10 % 10) (by omega)
  have hb := digit_of (u % 10) (by omega)
  have hg : digs (textU u) = decDigits (u / 100) ++ [UInt8.ofNat (48 + u / 10 % 10), UInt8.ofNat (48 + u % 10)] := by
    unfold digs textU
    simp only [List.length_append, List.length_cons, List.length_nil]
    rw [show (decDigits (u / 100)).length + (0 + 1 + 1 + 1) - 3 = (decDigits (u / 100)).length by omega, show (decDigits (u / 100)).length + (0 + 1 + 1 + 1) - 2 = (decDigits (u / 100)).length + 1 by omega, List.take_left]
    rw [List.drop_append, List.drop_eq_nil_of_le (by omega)]
    simp
  refine ⟨shapeB_iff.2 ⟨_, _, _, rfl, h3, h1, ha.1, hb.1, fun e => ?_, hg⟩, hg, ?_, ?_⟩
  · rcases Nat.lt_or_ge (u / 100) 10 with h | h
    · rw [decDigits_small h]; simp
    · obtain ⟨c, r, hc, hn⟩ := h4 h
      rw [hc] at e; simp at e; exact absurd e hn
  · rw [hg, show ∀ x y : UInt8, decDigits (u / 100) ++ [x, y] = (decDigits (u / 100) ++ [x]) ++ [y] from fun x y => by simp, valD_snoc, valD_snoc, h2, ha.2, hb.2]
    omega
  · match h : decDigits (u / 100), h3 with
    | c :: r, _ =>
      rw [h] at h1
      exact ⟨c, r ++ 46 :: [_, _], by rw [textU, h]; rfl, by simp at h1; exact h1.1⟩

theorem down_textU (u : Nat) : downB (textU u) = false ∧ bareB (textU u) = textU u ∧ downB (45 :: textU u) = true ∧ bareB (45 :: textU u) = textU u := by
  obtain ⟨_, _, _, c, r, hc, hd⟩ := textU_shape u
  have h1 : downB (textU u) = false := by
    rw [hc]; unfold downB
    simp only [List.head?_cons]
    have := isDig_iff.1 hd
    rw [beq_eq_false_iff_ne]
    intro e; cases e; revert this; decide
  have h2 : downB (45 :: textU u) = true := rfl
  exact ⟨h1, by rw [bareB, if_neg (by simp [h1])], h2, by rw [bareB, if_pos h2]; rfl⟩

/-- What is written is read. -/
theorem parse_text (n : Int) (h : -9223372036854775808 ≤ n ∧ n ≤ 9223372036854775807) : parseV (textS n) = n ∧ parseE (textS n) = 0 := by
  obtain ⟨h1, h2, h3, _⟩ := textU_shape n.natAbs
  obtain ⟨d1, d2, d3, d4⟩ := down_textU n.natAbs
  by_cases hn : n < 0
  · rw [textS, if_pos hn]
    have hno : noneB (45 :: textU n.natAbs) = false := by
      unfold noneB; rw [d3, d4, h1, h3]; simp; omega
    unfold parseV parseE
    rw [hno, d3, d4, h3]
    simp only [Bool.false_eq_true, if_false, lim, if_true]
    rw [if_neg (by omega), if_neg (by omega)]
    exact ⟨by omega, rfl⟩
  · rw [textS, if_neg hn]
    have hno : noneB (textU n.natAbs) = false := by
      unfold noneB; rw [d1, d2, h1]; simp
    unfold parseV parseE
    rw [hno, d1, d2, h3]
    simp only [Bool.false_eq_true, if_false, lim]
    rw [if_neg (by omega), if_neg (by omega)]
    exact ⟨by omega, rfl⟩

theorem parse_in (l : List UInt8) : -9223372036854775808 ≤ parseV l ∧ parseV l ≤ 9223372036854775807 := by
  unfold parseV
  split
  · omega
  · split
    · omega
    · rename_i h
      generalize valD 0 (digs (bareB l)) = V at h
      unfold lim at h
      cases hd : downB l <;> simp [hd] at h ⊢ <;> omega
theorem parse_bad {l : List UInt8} (h : parseE l ≠ 0) : parseV l = 0 := by
  unfold parseE at h; unfold parseV
  split
  · rfl
  · rename_i h1; rw [if_neg h1] at h
    split
    · rfl
    · rename_i h2; rw [if_neg h2] at h; exact absurd rfl h

/-- What is read is written as the same text. -/
theorem text_parse (l : List UInt8) (h : parseE l = 0) : textS (parseV l) = l := by
  unfold parseE at h
  unfold parseV
  split at h
  · cases h
  rename_i hno
  split at h
  · cases h
  rename_i hlim
  rw [if_neg hno, if_neg hlim]
  have hno : noneB l = false := by simpa using hno
  unfold noneB at hno
  simp only [Bool.or_eq_false_iff, Bool.not_eq_false', Bool.and_eq_false_iff, beq_eq_false_iff_ne] at hno
  obtain ⟨hs, hz⟩ := hno
  obtain ⟨W, a, b, he, w0, w1, w2, w3, w4, w5⟩ := shapeB_iff.1 hs
  have hv : valD 0 (digs (bareB l)) = 100 * valD 0 W + 10 * (a.toNat - 48) + (b.toNat - 48) := by
    rw [w5, show W ++ [a, b] = (W ++ [a]) ++ [b] by simp, valD_snoc, valD_snoc]; omega
  have hb : textU (valD 0 (digs (bareB l))) = bareB l := by
    have a1 := isDig_iff.1 w2; have b1 := isDig_iff.1 w3
    have hW := decDigits_valD _ W rfl w0 w1 w4
    rw [hv]
    generalize valD 0 W = u at hW
    unfold textU
    rw [show (100 * u + 10 * (a.toNat - 48) + (b.toNat - 48)) / 100 = u by omega, show 48 + (100 * u + 10 * (a.toNat - 48) + (b.toNat - 48)) / 10 % 10 = 48 + (a.toNat - 48) by omega, show 48 + (100 * u + 10 * (a.toNat - 48) + (b.toNat - 48)) % 10 = 48 + (b.toNat - 48) by omega, digit_back w2, digit_back w3, hW, he]
  clear hv hlim
  generalize valD 0 (digs (bareB l)) = V at *
  cases hd : downB l with
  | true =>
    have hV : V ≠ 0 := by
      rcases hz with h | h
      · rw [hd] at h; cases h
      · exact h
    simp only [if_true]
    rw [textS, if_pos (by omega), Int.natAbs_neg, Int.natAbs_natCast, hb, bareB, if_pos hd]
    cases l with
    | nil => cases hd
    | cons c r => simp [downB] at hd; rw [hd]; rfl
  | false =>
    simp only [Bool.false_eq_true, if_false]
    rw [textS, if_neg (by omega), Int.natAbs_natCast, hb, bareB, if_neg (by simp [hd])]

/-- Greater numbers have no shorter texts. -/
theorem nDigits_mono : ∀ (a b : Nat), a ≤ b → nDigits a ≤ nDigits b := by
  intro a
  induction a using Nat.strongRecOn with
  | _ a ih =>
    intro b hb
    by_cases h : a < 10
    · rw [nDigits_small h]; exact nDigits_pos b
    · rw [nDigits_big h, nDigits_big (u := b) (by omega)]
      have := ih (a / 10) (by omega) (b / 10) (by omega)
      omega
theorem textU_len (u : Nat) : (textU u).length = nDigits (u / 100) + 3 := by
  unfold textU; rw [List.length_append, decDigits_length]; rfl
theorem textS_len {a b : Int} (h0 : 0 ≤ a) (h1 : a ≤ b) : (textS a).length ≤ (textS b).length := by
  rw [textS, if_neg (by omega), textS, if_neg (by omega), textU_len, textU_len]
  have := nDigits_mono (a.natAbs / 100) (b.natAbs / 100) (by omega)
  omega
theorem nDigits_le : ∀ (k u : Nat), u < 10 ^ (k + 1) → nDigits u ≤ k + 1
  | 0, u, h => by have := nDigits_small (u := u) (by simpa using h); omega
  | k + 1, u, h => by
    by_cases h1 : u < 10
    · rw [nDigits_small h1]; omega
    · rw [nDigits_big h1]
      have := nDigits_le k (u / 10) (by rw [Nat.pow_succ] at h; omega)
      omega
theorem textS_short (n : Int) (h : -9223372036854775808 ≤ n ∧ n ≤ 9223372036854775807) : (textS n).length ≤ 30 := by
  have h1 := nDigits_le 18 (n.natAbs / 100) (by omega)
  unfold textS
  split <;> simp only [List.length_cons, textU_len] <;> omega
end Go.Money
