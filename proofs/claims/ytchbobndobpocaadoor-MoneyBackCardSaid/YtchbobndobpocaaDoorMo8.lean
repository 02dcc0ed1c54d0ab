/- Amounts' texts, written: the program's and the document's; the law MoneyOrder. -/
import Derived.Test.YtchbobndobpocaaDoorMo7
import Derived.Test.YtchbobndobpocaaDoorMp5
namespace Go.Proofs.YtchbobndobpocaaDoor
open Go.Abs Go.IntWalk Go.Money
variable {P : Program} (hP : P = Tryd.prog)

abbrev bs (l : List UInt8) : ByteArray := ⟨l.toArray⟩
theorem bs_append (l m : List UInt8) : bs l ++ bs m = bs (l ++ m) := by
  apply ByteArray.ext; simp [bs, ByteArray.data_append]
theorem bs_size (l : List UInt8) : (bs l).size = l.length := Lib.size_mk l
theorem bs_extract (l : List UInt8) (a b : Nat) : (bs l).extract a b = bs ((l.drop a).take (b - a)) := Lib.extract_mk l a b
theorem bs_list (l : List UInt8) : (bs l).data.toList = l := by simp [bs]

theorem cents_fmt (v : Nat) : Lib.decDigits (v % 100 + 100) = [49, UInt8.ofNat (48 + v / 10 % 10), UInt8.ofNat (48 + v % 10)] := by
  rw [decDigits_big (by omega), decDigits_big (by omega), decDigits_small (by omega)]
  rw [show 48 + (v % 100 + 100) / 10 / 10 = 49 by omega, show 48 + (v % 100 + 100) / 10 % 10 = 48 + v / 10 % 10 by omega, show 48 + (v % 100 + 100) % 10 = 48 + v % 10 by omega]
  rfl
theorem xor_all (u : Int) (h : 0 ≤ u ∧ u < 18446744073709551616) : iun .xor .u64 u = 18446744073709551615 - u := by
  have e3 : BitVec.ofInt 64 18446744073709551615 ^^^ BitVec.ofInt 64 u = ~~~ BitVec.ofInt 64 u := by
    rw [show BitVec.ofInt 64 18446744073709551615 = BitVec.allOnes 64 by decide, BitVec.allOnes_xor]
  have e4 : (BitVec.ofInt 64 u).toNat = u.toNat := by
    rw [BitVec.toNat_ofInt]
    have : u % ((2 ^ 64 : Nat) : Int) = u := Int.emod_eq_of_lt h.1 (by simpa using h.2)
    rw [this]
  show IntKind.u64.wrap ((BitVec.ofInt 64 18446744073709551615 ^^^ BitVec.ofInt 64 u).toNat : Int) = _
  rw [e3, BitVec.toNat_not, e4, wrapU]
  omega

include hP
set_option maxHeartbeats 4000000 in
theorem text_ret (n : Int) (hn : I64 n) : Ret P 18 [AI .i64 (.th fun _ => n)] (AS (.th fun _ => bs (textS n))) := by
  obtain ⟨U, hU, h0, h1, h2⟩ : ∃ U : Int, absI n = U ∧ 0 ≤ U ∧ U < 18446744073709551616 ∧ U.toNat = n.natAbs := ⟨absI n, rfl, by unfold absI; split <;> omega, by unfold absI; split <;> omega, by unfold absI; split <;> omega⟩
  have hlen := textS_short n hn
  have htx : textS n = if n < 0 then 45 :: textU U.toNat else textU U.toNat := by rw [h2]; rfl
  have hlu : (textU U.toNat).length ≤ 30 := by rw [htx] at hlen; (split at hlen <;> (try rw [List.length_cons] at hlen) <;> omega)
  have hld : (Lib.decDigits (U.toNat / 100)).length ≤ 30 := by unfold textU at hlu; rw [List.length_append] at hlu; omega
  refine e18 hP ?_
  cbv
  refine (size_ret hP n hn).call (.cons (.pure rfl) .nil) rfl ?_
  cbv
  rw [hU]
  refine format_call hP (U.toNat % 100 + 100) (by simp only [Th.den_th, iop, wrapU]; rw [Int.tmod_eq_emod_of_nonneg h0]; omega) (by omega) (.th fun _ => bs [49, UInt8.ofNat (48 + U.toNat / 10 % 10), UInt8.ofNat (48 + U.toNat % 10)]) (by rw [cents_fmt]; rfl) ?_
  cbv
  refine MustS.mk (by rfl) ?_
  cbv
  refine format_call hP (U.toNat / 100) (by simp only [Th.den_th, iop, wrapU]; rw [Int.tdiv_eq_ediv_of_nonneg h0]; omega) (by omega) (.th fun _ => bs (Lib.decDigits (U.toNat / 100))) rfl ?_
  cbv
  refine MustS.mk (decide_eq_true (by show (bs _).size + (bs [46]).size ≤ _; rw [bs_size, bs_size]; simp only [List.length_cons, List.length_nil]; omega)) ?_
  cbv
  refine MustS.mk (decide_eq_true (by
    show (bs _ ++ bs [46]).size + ((bs [49, UInt8.ofNat (48 + U.toNat / 10 % 10), UInt8.ofNat (48 + U.toNat % 10)]).extract 1 3).size ≤ _
    rw [bs_append, bs_extract, bs_size, bs_size, List.length_append]; simp only [List.drop_succ_cons, List.drop_zero, List.length_cons, List.length_nil, List.length_take]; omega)) ?_
  cbv
  have he : bs (Lib.decDigits (U.toNat / 100)) ++ bs [46] ++ (bs [49, UInt8.ofNat (48 + U.toNat / 10 % 10), UInt8.ofNat (48 + U.toNat % 10)]).extract 1 3 = bs (textU U.toNat) := by
    rw [bs_append, bs_extract, bs_append]; unfold textU; simp
  refine BrS.mk (fun h => ?_) (fun h => ?_) <;> cbv
  · have hn' : n < 0 := by simpa [icmp] using h
    rw [if_pos hn'] at htx
    refine MustS.mk (decide_eq_true (by
      show (bs [45]).size + (bs _ ++ bs [46] ++ (bs [49, UInt8.ofNat (48 + U.toNat / 10 % 10), UInt8.ofNat (48 + U.toNat % 10)]).extract 1 3).size ≤ _
      rw [he, bs_size, bs_size]; simp only [List.length_cons, List.length_nil]; omega)) ?_
    cbv
    refine .str ?_
    show bs [45] ++ (bs _ ++ bs [46] ++ (bs [49, UInt8.ofNat (48 + U.toNat / 10 % 10), UInt8.ofNat (48 + U.toNat % 10)]).extract 1 3) = bs _
    rw [he, bs_append, htx]; rfl
  · have hn' : ¬ n < 0 := by simpa [icmp] using h
    rw [if_neg hn'] at htx
    refine .str ?_
    show bs _ ++ bs [46] ++ (bs [49, UInt8.ofNat (48 + U.toNat / 10 % 10), UInt8.ofNat (48 + U.toNat % 10)]).extract 1 3 = bs _
    rw [he, htx]

omit hP in
theorem txt_len (u : Nat) : ∀ k, (txt u k).length ≤ k + 1
  | 0 => by simp [txt]
  | k + 1 => by
    have ih := txt_len u k
    have h2 : k ≤ 2 → (txt u k).length ≤ k := fun h => by
      have : k = 0 ∨ k = 1 ∨ k = 2 := by omega
      rcases this with rfl | rfl | rfl <;> simp [txt]
    unfold txt
    split
    · have := h2 (by omega); simp only [List.length_cons]; omega
    · simp only [List.length_cons]; omega

omit hP in
def dk (u : Nat) (i : Int) : Int := ((u / 10 ^ i.toNat : Nat) : Int)
omit hP in
theorem dk_facts (u : Nat) (hu : u < 18446744073709551616) (i : Int) (h0 : 0 ≤ i) : 0 ≤ dk u i ∧ dk u i < 18446744073709551616 ∧ dk u (i + 1) = dk u i / 10 ∧ (20 ≤ i → dk u i = 0) ∧ (dk u i % 10).toNat = u / 10 ^ i.toNat % 10 := by
  have h1 : u / 10 ^ i.toNat ≤ u := Nat.div_le_self _ _
  have h5 : u / 10 ^ (i + 1).toNat = u / 10 ^ i.toNat / 10 := by rw [show (i + 1).toNat = i.toNat + 1 by omega, Nat.pow_succ, ← Nat.div_div_eq_div_mul]
  unfold dk
  refine ⟨Int.natCast_nonneg _, ?_, ?_, fun h => ?_, ?_⟩
  · generalize u / 10 ^ i.toNat = q at *; omega
  · rw [h5]; generalize u / 10 ^ i.toNat = q at *; omega
  · have h2 : (10 : Nat) ^ 20 ≤ 10 ^ i.toNat := Nat.pow_le_pow_right (by decide) (by omega)
    have h3 : u / 10 ^ i.toNat = 0 := Nat.div_eq_of_lt (by omega)
    rw [h3]; rfl
  · generalize u / 10 ^ i.toNat = q at *; omega
omit hP in
theorem digit_row (d : Int) (h : 0 ≤ d ∧ d ≤ 9) : (bs [48, 49, 50, 51, 52, 53, 54, 55, 56, 57]).extract d.toNat (d + 1).toNat = bs [UInt8.ofNat (48 + d.toNat)] := by
  rw [bs_extract]
  have : d = 0 ∨ d = 1 ∨ d = 2 ∨ d = 3 ∨ d = 4 ∨ d = 5 ∨ d = 6 ∨ d = 7 ∨ d = 8 ∨ d = 9 := by omega
  rcases this with rfl | rfl | rfl | rfl | rfl | rfl | rfl | rfl | rfl | rfl <;> rfl

set_option maxHeartbeats 4000000 in
theorem refText_ret (n : Int) (hn : I64 n) : Ret P 19 [AI .i64 (.th fun _ => n)] (AS (.th fun _ => bs (textS n))) := by
  obtain ⟨u, hu, hu1⟩ : ∃ u : Nat, u = n.natAbs ∧ u < 18446744073709551616 := ⟨_, rfl, by omega⟩
  obtain ⟨sg, hsg, hsl⟩ : ∃ sg : List UInt8, sg = (if n < 0 then [45] else []) ∧ sg.length ≤ 1 := ⟨_, rfl, by split <;> simp⟩
  have htx : textS n = sg ++ textU u := by rw [hu, hsg]; unfold textS; split <;> rfl
  have hd0 : dk u 0 = absI n := by unfold dk absI; rw [hu]; simp; split <;> omega
  refine e19 hP ?_
  cbv
  let E : Int → List AV := fun i => sp 39 [(3, AS (.th fun _ => bs sg)), (4, AI .u64 (.th fun _ => dk u i)), (5, AS (.th fun _ => bs (txt u i.toNat))), (6, AI .i64 (.th fun _ => i))]
  refine BrS.mk (fun h => ?_) (fun h => ?_) <;> cbv
  all_goals
    refine ACode.cut (fun x e o => ∃ i, 3 ≤ i ∧ i ≤ 20 ∧ dk u i = 0 ∧ (i = 3 ∨ dk u (i - 1) ≠ 0) ∧ x = .exit 0 ∧ e = E i ∧ o = []) ?loop ?rest
    case loop =>
      refine ACode.inv (ty hP) (fun m e o => ∃ i, 0 ≤ i ∧ i ≤ 20 ∧ (i ≤ 3 ∨ dk u (i - 1) ≠ 0) ∧ m = (20 - i).toNat ∧ e = E i ∧ o = []) 20 (E 0) []
        (Ren.sp [] rfl rfl rfl (.cons rfl (.str ?_) (.cons rfl (.int ?_) (.cons rfl (.str rfl) (.cons rfl (.int rfl) .nil)))) .nil)
        ⟨0, by omega, by omega, .inl (by omega), by simp, rfl, rfl⟩ ?_
      · simp [icmp] at h
        rw [hsg]; first | (rw [if_pos h]; rfl) | (rw [if_neg (by omega)]; rfl)
      · simp [icmp] at h
        rw [Th.den_th, hd0]
        simp only [Th.den_th, wrapU]
        unfold absI
        first
        | (rw [if_pos h, iop, xor_all _ (by omega), wrapU]; omega)
        | (rw [if_neg (by omega)]; omega)
      rintro m e o ⟨i, i0, i1, i2, rfl, rfl, rfl⟩ J hJ
      obtain ⟨d0, d1, d2, d3, d4⟩ := dk_facts u hu1 i i0
      have hl := txt_len u i.toNat
      have hr : (bs [48, 49, 50, 51, 52, 53, 54, 55, 56, 57]).extract (dk u i % 10).toNat (dk u i % 10 + 1).toNat = bs [UInt8.ofNat (48 + u / 10 ^ i.toNat % 10)] := by rw [digit_row _ (by omega), d4]
      have htn : txt u (i + 1).toNat = UInt8.ofNat (48 + u / 10 ^ i.toNat % 10) :: (if i.toNat = 2 then 46 :: txt u i.toNat else txt u i.toNat) := by
        rw [show (i + 1).toNat = i.toNat + 1 by omega]; rfl
      have hpt : ∃ p : List UInt8, p = (if i.toNat = 2 then 46 :: txt u i.toNat else txt u i.toNat) ∧ p.length ≤ 25 := ⟨_, rfl, by split <;> (try rw [List.length_cons]) <;> omega⟩
      obtain ⟨p, hp, hpl⟩ := hpt
      rw [← hp] at htn
      cbv
      have hq : iop .rem .u64 (dk u i) 10 = dk u i % 10 := by simp only [iop]; exact Int.tmod_eq_emod_of_nonneg d0
      have hq1 : iop .add .u64 (dk u i % 10) 1 = dk u i % 10 + 1 := by simp only [iop, wrapU]; omega
      have hq2 : iop .quo .u64 (dk u i) 10 = dk u i / 10 := by simp only [iop, wrapU]; rw [Int.tdiv_eq_ediv_of_nonneg d0]; omega
      have fin : ∀ q : ByteArray, q = bs p → (bs [48, 49, 50, 51, 52, 53, 54, 55, 56, 57]).extract (dk u i % 10).toNat (dk u i % 10 + 1).toNat ++ q = bs (txt u (i + 1).toNat) := fun q e => by
        rw [hr, e, bs_append, htn]; rfl
      have room : ∀ q : ByteArray, q = bs p → ((bs [48, 49, 50, 51, 52, 53, 54, 55, 56, 57]).extract (dk u i % 10).toNat (dk u i % 10 + 1).toNat).size + q.size ≤ 9223372036854775807 := fun q e => by
        rw [hr, e, bs_size, bs_size, List.length_cons, List.length_nil]; omega
      have okb : okB (dk u i % 10) (dk u i % 10 + 1) 10 10 = true := by unfold okB; simp only [Bool.and_eq_true, decide_eq_true_eq]; omega
      by_cases hc : i < 3 ∨ 0 < dk u i
      · have hlt : i < 20 ∧ (i + 1 ≤ 3 ∨ dk u i ≠ 0) := by
          refine ⟨?_, by omega⟩
          rcases Int.lt_or_le i 20 with h | h
          · exact h
          · have := d3 h; omega
        have hlt' : i + 1 ≤ 3 ∨ dk u (i + 1 - 1) ≠ 0 := by rw [show i + 1 - 1 = i by omega]; exact hlt.2
        rcases (show i = 2 ∨ (i < 3 ∧ i ≠ 2) ∨ (¬ i < 3 ∧ 0 < dk u i) by omega) with h2 | h2 | h2
        · have hpe : bs [46] ++ bs (txt u i.toNat) = bs p := by rw [hp, if_pos (by omega), bs_append]; rfl
          refine BrS.t (by simp only [icmp, decide_eq_true_eq]; omega) ?_
          cbv
          refine BrS.t (by simp only [icmp, beq_iff_eq]; omega) ?_
          cbv
          refine MustS.mk (decide_eq_true (by show (bs _).size + (bs _).size ≤ _; rw [bs_size, bs_size, List.length_cons, List.length_nil]; omega)) ?_
          cbv
          refine MustS.mk (by simp only [hq, hq1]; exact okb) ?_
          cbv
          refine MustS.mk (decide_eq_true (by simp only [hq, hq1]; exact room _ hpe)) ?_
          cbv
          refine hJ (20 - (i + 1)).toNat _ _ (E (i + 1)) [] (by omega) (Ren.sp [] rfl rfl rfl (.cons rfl (.pure rfl) (.cons rfl (.int ?_) (.cons rfl (.str ?_) (.cons rfl (.int ?_) .nil)))) .nil) ⟨i + 1, by omega, by omega, hlt', rfl, rfl, rfl⟩
          · rw [Th.den_th, Th.den_th, hq2, d2]
          · simp only [Th.den_th, hq, hq1]; exact fin _ hpe
          · simp only [Th.den_th, iop, wrap64]; omega
        · have hpe : bs (txt u i.toNat) = bs p := by rw [hp, if_neg (by omega)]
          refine BrS.t (by simp only [icmp, decide_eq_true_eq]; omega) ?_
          cbv
          refine BrS.f (by simp only [icmp, beq_eq_false_iff_ne]; omega) ?_
          cbv
          refine MustS.mk (by simp only [hq, hq1]; exact okb) ?_
          cbv
          refine MustS.mk (decide_eq_true (by simp only [hq, hq1]; exact room _ hpe)) ?_
          cbv
          refine hJ (20 - (i + 1)).toNat _ _ (E (i + 1)) [] (by omega) (Ren.sp [] rfl rfl rfl (.cons rfl (.pure rfl) (.cons rfl (.int ?_) (.cons rfl (.str ?_) (.cons rfl (.int ?_) .nil)))) .nil) ⟨i + 1, by omega, by omega, hlt', rfl, rfl, rfl⟩
          · rw [Th.den_th, Th.den_th, hq2, d2]
          · simp only [Th.den_th, hq, hq1]; exact fin _ hpe
          · simp only [Th.den_th, iop, wrap64]; omega
        · have hpe : bs (txt u i.toNat) = bs p := by rw [hp, if_neg (by omega)]
          refine BrS.f (by simp only [icmp, decide_eq_false_iff_not]; omega) ?_
          cbv
          refine BrS.t (by simp only [icmp, decide_eq_true_eq]; omega) ?_
          cbv
          refine BrS.f (by simp only [icmp, beq_eq_false_iff_ne]; omega) ?_
          cbv
          refine MustS.mk (by simp only [hq, hq1]; exact okb) ?_
          cbv
          refine MustS.mk (decide_eq_true (by simp only [hq, hq1]; exact room _ hpe)) ?_
          cbv
          refine hJ (20 - (i + 1)).toNat _ _ (E (i + 1)) [] (by omega) (Ren.sp [] rfl rfl rfl (.cons rfl (.pure rfl) (.cons rfl (.int ?_) (.cons rfl (.str ?_) (.cons rfl (.int ?_) .nil)))) .nil) ⟨i + 1, by omega, by omega, hlt', rfl, rfl, rfl⟩
          · rw [Th.den_th, Th.den_th, hq2, d2]
          · simp only [Th.den_th, hq, hq1]; exact fin _ hpe
          · simp only [Th.den_th, iop, wrap64]; omega
      · refine BrS.f (by simp only [icmp, decide_eq_false_iff_not]; omega) ?_
        cbv
        refine BrS.f (by simp only [icmp, decide_eq_false_iff_not]; omega) ?_
        cbv
        exact ⟨_, _, Ren.sp [] rfl rfl rfl (.cons rfl (.pure rfl) (.cons rfl (.pure rfl) (.cons rfl (.pure rfl) (.cons rfl (.pure rfl) .nil)))) .nil, i, by omega, by omega, by omega, by omega, rfl, rfl, rfl⟩
    case rest =>
      rintro x e o ⟨i, i0, i1, i2, i3, rfl, rfl, rfl⟩
      have hend : txt u i.toNat = textU u := by
        obtain ⟨k, hk⟩ : ∃ k : Nat, i = k + 2 ∧ 1 ≤ k := ⟨(i - 2).toNat, by omega, by omega⟩
        have e1 : i.toNat = k + 2 := by omega
        rw [e1]
        refine txt_end u k hk.2 ?_ ?_
        · have := i2; unfold dk at this; rw [e1] at this; omega
        · rcases i3 with h | h
          · left; omega
          · right
            unfold dk at h
            rw [show (i - 1).toNat = k + 1 by omega] at h
            omega
      have hlen := textS_short n hn
      rw [htx] at hlen
      rw [List.length_append] at hlen
      cbv
      rw [hend]
      refine MustS.mk (decide_eq_true (by show (bs _).size + (bs _).size ≤ _; rw [bs_size, bs_size]; omega)) ?_
      cbv
      refine .str ?_
      show bs _ ++ bs _ = bs _
      rw [bs_append, htx]

set_option maxHeartbeats 4000000 in
theorem moneyOrder_law : Law P td 6 [2, 2, 2] := by
  intro xs hx
  obtain ⟨x, ys, rfl, h1, h2⟩ := fitVs_cons hx
  obtain ⟨y, zs, rfl, h3, h4⟩ := fitVs_cons h2
  obtain ⟨z, us, rfl, h5, h6⟩ := fitVs_cons h4
  obtain rfl := fitVs_nil h6
  obtain ⟨a, rfl, ha⟩ := fit64 h1
  obtain ⟨b, rfl, hb⟩ := fit64 h3
  obtain ⟨c, rfl, hc⟩ := fit64 h5
  clear hx h1 h2 h3 h4 h5 h6
  refine e6 hP ?_
  cbv
  refine (lives_ret hP).call .nil rfl ?_
  cbv
  refine (add_ret hP a c ha hc).call (.cons (.pure rfl) (.cons (.pure rfl) .nil)) rfl ?_
  cbv
  refine (add_ret hP b c hb hc).call (.cons (.pure rfl) (.cons (.pure rfl) .nil)) rfl ?_
  cbv
  have hcl := textS_len (a := a) (b := b)
  have h1 : okE (a + c) = 0 → okV (a + c) = a + c := fun h => okV_ok (okE_zero.1 h)
  have h2 : okE (b + c) = 0 → okV (b + c) = b + c := fun h => okV_ok (okE_zero.1 h)
  have h3 : (icmp .lss (a + c) (b + c) = icmp .lss a b) := by simp only [icmp, decide_eq_decide]; omega
  repeat' (refine BrS.mk (fun h => ?_) (fun h => ?_) <;> cbv)
  all_goals first
    | exact ⟨_, rfl, rfl⟩
    | (rename_i k1 k2
       have k1 := beq_iff_eq.1 k1
       have k2 := beq_iff_eq.1 k2
       rw [h1 k1, h2 k2, h3] at h
       simp at h)
    | (refine (text_ret hP a ha).call (.cons (.pure rfl) .nil) rfl ?_
       cbv
       refine (text_ret hP b hb).call (.cons (.pure rfl) .nil) rfl ?_
       cbv
       refine ⟨_, rfl, ?_⟩
       rename_i k1 k2
       have j1 : ¬ a < 0 := by simpa [icmp] using k1
       have j3 : ¬ b < a := by simpa [icmp] using h
       have hle := hcl (by omega) (by omega)
       simp only [icmp]
       exact decide_eq_true (by
         show ((bs (textS a)).size : Int) ≤ ((bs (textS b)).size : Int)
         rw [bs_size, bs_size]; omega))
end Go.Proofs.YtchbobndobpocaaDoor
