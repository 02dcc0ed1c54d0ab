/- A division of 128 bits by 64, digit by digit, in plain numbers. -/
import Derived.IntWalk
import Derived.Lib.BitFns
namespace Go.Money

theorem kn_iff {Y N Q q : Int} (hY : 0 < Y) (h1 : Q * Y ≤ N) (h2 : N < Q * Y + Y) : q * Y ≤ N ↔ q ≤ Q := by
  constructor
  · intro h
    rcases Int.lt_or_le Q q with h' | h'
    · have : (Q + 1) * Y ≤ q * Y := Int.mul_le_mul_of_nonneg_right (by omega) (by omega)
      rw [Int.add_mul, Int.one_mul] at this
      omega
    · exact h'
  · intro h
    have : q * Y ≤ Q * Y := Int.mul_le_mul_of_nonneg_right h (by omega)
    omega
theorem kn_test {y1 y0 U d q r : Int} (h : r = U - q * y1) : q * (y1 * 4294967296 + y0) ≤ U * 4294967296 + d ↔ q * y0 ≤ 4294967296 * r + d := by
  rw [Int.mul_add, ← Int.mul_assoc]; omega
/-- Where the search for a digit begins. -/
theorem kn_start {y1 y0 U d Q : Int} (h1 : 2147483648 ≤ y1 ∧ y1 < 4294967296) (h0 : 0 ≤ y0 ∧ y0 < 4294967296) (hU : 0 ≤ U ∧ U < y1 * 4294967296 + y0) (hd : 0 ≤ d ∧ d < 4294967296)
    (hQ : Q * (y1 * 4294967296 + y0) ≤ U * 4294967296 + d) (hQ0 : 0 ≤ Q) : Q ≤ U / y1 ∧ U / y1 ≤ 4294967297 ∧ U - U / y1 * y1 = U % y1 ∧ 0 ≤ U % y1 ∧ U % y1 < y1 := by
  have e := Int.mul_ediv_add_emod U y1
  have e2 : U / y1 * y1 = y1 * (U / y1) := Int.mul_comm _ _
  refine ⟨?_, ?_, by omega, Int.emod_nonneg _ (by omega), Int.emod_lt_of_pos _ (by omega)⟩
  · rw [Int.mul_add, ← Int.mul_assoc] at hQ
    have hz : 0 ≤ Q * y0 := Int.mul_nonneg hQ0 h0.1
    have : Q * y1 ≤ U := by omega
    exact (Int.le_ediv_iff_mul_le (by omega)).2 this
  · have : U / y1 < 4294967298 := Int.ediv_lt_of_lt_mul (by omega) (by omega)
    omega
theorem kn_Q {Y U d : Int} (hY : 0 < Y) (hU : 0 ≤ U ∧ U < Y) (hd : 0 ≤ d ∧ d < 4294967296) :
    ∃ Q R, Q * Y ≤ U * 4294967296 + d ∧ U * 4294967296 + d < Q * Y + Y ∧ 0 ≤ Q ∧ Q < 4294967296 ∧ U * 4294967296 + d = Q * Y + R ∧ 0 ≤ R ∧ R < Y := by
  have e := Int.mul_ediv_add_emod (U * 4294967296 + d) Y
  have h1 := Int.emod_nonneg (U * 4294967296 + d) (show Y ≠ 0 by omega)
  have h2 := Int.emod_lt_of_pos (U * 4294967296 + d) hY
  have e2 : (U * 4294967296 + d) / Y * Y = Y * ((U * 4294967296 + d) / Y) := Int.mul_comm _ _
  refine ⟨(U * 4294967296 + d) / Y, (U * 4294967296 + d) % Y, by omega, by omega, Int.ediv_nonneg (by omega) (by omega), Int.ediv_lt_of_lt_mul hY ?_, by omega, h1, h2⟩
  rw [Int.mul_comm]; omega
/-- Both digits together. -/
theorem kn_end {M P Y y U21 q1 q0 R U d1 d0 : Int} (hy : 0 < y) (hP : 0 < P) (hY : Y = y * P) (hM : M * P = U * 18446744073709551616 + (d1 * 4294967296 + d0))
    (h1 : U * 4294967296 + d1 = q1 * Y + U21) (h2 : U21 * 4294967296 + d0 = q0 * Y + R) (hR : 0 ≤ R ∧ R < Y) : q1 * 4294967296 + q0 = M / y := by
  have e : M * P = (q1 * 4294967296 + q0) * Y + R := by
    rw [Int.add_mul, Int.mul_right_comm]; omega
  have h3 : M * P / Y = q1 * 4294967296 + q0 := by
    rw [e, Int.add_comm, Int.add_mul_ediv_right _ _ (by omega), Int.ediv_eq_zero_of_lt hR.1 hR.2]; omega
  rw [← h3, hY, Int.mul_ediv_mul_of_pos_left _ _ hP]

theorem bitLen_range (x : Nat) (h0 : x ≠ 0) (h : x < 2 ^ 64) : 1 ≤ Lib.bitLen x ∧ Lib.bitLen x ≤ 64 ∧ 2 ^ (Lib.bitLen x - 1) ≤ x ∧ x < 2 ^ Lib.bitLen x := by
  have key : ∀ (n x : Nat), x < 2 ^ n → n ≤ 64 → x ≠ 0 → 1 ≤ Lib.bitLen x ∧ Lib.bitLen x ≤ n ∧ 2 ^ (Lib.bitLen x - 1) ≤ x ∧ x < 2 ^ Lib.bitLen x := by
    intro n
    induction n with
    | zero => intro x hx _ h0; simp at hx; exact absurd hx h0
    | succ n ih =>
      intro x hx hn h0
      rw [Lib.bitLen_half x h0 (Nat.lt_of_lt_of_le hx (Nat.pow_le_pow_right (by decide) hn))]
      by_cases h1 : x / 2 = 0
      · have : x = 1 := by omega
        subst this
        rw [h1]
        have : Lib.bitLen 0 = 0 := by decide
        rw [this]; refine ⟨by omega, by omega, by decide, by decide⟩
      · obtain ⟨a, b, c, d⟩ := ih (x / 2) (by rw [Nat.pow_succ] at hx; omega) (by omega) h1
        refine ⟨by omega, by omega, ?_, ?_⟩
        · rw [show 1 + Lib.bitLen (x / 2) - 1 = (Lib.bitLen (x / 2) - 1) + 1 by omega, Nat.pow_succ]; omega
        · rw [Nat.add_comm 1, Nat.pow_succ]; omega
  exact key 64 x h (Nat.le_refl _) h0
/-- What is shifted to the left until the highest bit is one. -/
theorem norm_facts (y : Int) (h0 : 0 < y) (h1 : y < 18446744073709551616) : ∃ (s : Nat) (p3 p2 : Int), s = 64 - Lib.bitLen y.toNat ∧ s < 64 ∧ (2 : Int) ^ s = p2 ∧ (2 : Int) ^ (64 - s) = p3 ∧ p2 * p3 = 18446744073709551616 ∧ 0 < p2 ∧ 0 < p3 ∧ 9223372036854775808 ≤ y * p2 ∧ y * p2 < 18446744073709551616 := by
  obtain ⟨b1, b2, b3, b4⟩ := bitLen_range y.toNat (by omega) (by omega)
  obtain ⟨L, hL⟩ : ∃ L, Lib.bitLen y.toNat = L := ⟨_, rfl⟩
  rw [hL] at b1 b2 b3 b4
  refine ⟨64 - L, (2 : Int) ^ L, (2 : Int) ^ (64 - L), by rw [hL], by omega, rfl, by rw [show 64 - (64 - L) = L by omega], ?_, Int.pow_pos (by decide), Int.pow_pos (by decide), ?_, ?_⟩
  · rw [← Int.pow_add, show 64 - L + L = 64 by omega]; rfl
  · have e : ((2 ^ (L - 1) * 2 ^ (64 - L) : Nat) : Int) = 9223372036854775808 := by rw [← Nat.pow_add, show L - 1 + (64 - L) = 63 by omega]; rfl
    rw [← e]
    have : ((2 ^ (L - 1) * 2 ^ (64 - L) : Nat) : Int) = ((2 ^ (L - 1) : Nat) : Int) * (2 : Int) ^ (64 - L) := by rw [Int.natCast_mul, Int.natCast_pow 2 (64 - L)]; rfl
    rw [this]
    refine Int.mul_le_mul_of_nonneg_right (by omega) (Int.le_of_lt (Int.pow_pos (by decide)))
  · have e : ((2 ^ L * 2 ^ (64 - L) : Nat) : Int) = 18446744073709551616 := by rw [← Nat.pow_add, show L + (64 - L) = 64 by omega]; rfl
    rw [← e]
    have : ((2 ^ L * 2 ^ (64 - L) : Nat) : Int) = ((2 ^ L : Nat) : Int) * (2 : Int) ^ (64 - L) := by rw [Int.natCast_mul, Int.natCast_pow 2 (64 - L)]; rfl
    rw [this]
    refine Int.mul_lt_mul_of_pos_right (by omega) (Int.pow_pos (by decide))
/-- Head and tail of what is shifted. -/
theorem shift_facts {hi lo p2 p3 : Int} (hp : p2 * p3 = 18446744073709551616) (h2 : 0 < p2) (h3 : 0 < p3) (hlo : 0 ≤ lo ∧ lo < 18446744073709551616) (hhi : 0 ≤ hi) :
    0 ≤ lo / p3 ∧ lo / p3 < p2 ∧ (hi * 18446744073709551616 + lo) * p2 = (hi * p2 + lo / p3) * 18446744073709551616 + (lo * p2) % 18446744073709551616 := by
  have e1 : lo / p3 = lo * p2 / 18446744073709551616 := by rw [← hp, Int.mul_comm p2 p3, Int.mul_ediv_mul_of_pos_left _ _ h2]
  refine ⟨Int.ediv_nonneg hlo.1 (by omega), Int.ediv_lt_of_lt_mul h3 (by rw [hp]; exact hlo.2), ?_⟩
  rw [e1, Int.add_mul, Int.mul_right_comm, Int.add_mul]
  omega
theorem or_add (a b : Int) (s : Nat) (p2 : Int) (hs : s < 64) (hp : (2 : Int) ^ s = p2) (ha : 0 ≤ a) (hap : a * p2 < 18446744073709551616) (hb : 0 ≤ b ∧ b < p2) :
    (((BitVec.ofInt 64 (a * p2) ||| BitVec.ofInt 64 b).toNat : Nat) : Int) = a * p2 + b := by
  obtain ⟨x, rfl⟩ := Int.eq_ofNat_of_zero_le ha
  obtain ⟨y, rfl⟩ := Int.eq_ofNat_of_zero_le hb.1
  have hp' : p2 = ((2 ^ s : Nat) : Int) := by rw [← hp, Int.natCast_pow]; rfl
  rw [hp'] at hap hb ⊢
  rw [← Int.natCast_mul] at hap ⊢
  have h64 : (2 : Nat) ^ s ≤ 2 ^ 64 := Nat.pow_le_pow_right (by decide) (by omega)
  rw [BitVec.toNat_or, BitVec.ofInt_natCast, BitVec.ofInt_natCast, BitVec.toNat_ofNat, BitVec.toNat_ofNat, Nat.mod_eq_of_lt (by omega), Nat.mod_eq_of_lt (by omega), Nat.mul_comm x, ← Nat.two_pow_add_eq_or_of_lt (by omega)]
  omega
end Go.Money
