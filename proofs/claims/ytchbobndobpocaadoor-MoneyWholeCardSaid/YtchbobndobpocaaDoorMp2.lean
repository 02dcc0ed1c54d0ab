/- Products that are taken back by a division, in plain numbers. -/
namespace Go.Money
theorem tdiv_back (a b m : Int) (hb : b ≠ 0) (hb2 : -9223372036854775808 ≤ b ∧ b ≤ 9223372036854775807) (k : Int) (hm : m = a * b + 18446744073709551616 * k) (h : m.tdiv b = a) : k = 0 := by
  have h1 : b * m.tdiv b + m.tmod b = m := Int.mul_tdiv_add_tmod m b
  rw [h] at h1
  have h2 : m.tmod b = 18446744073709551616 * k := by rw [Int.mul_comm b a] at h1; omega
  have h3 : (m.tmod b).natAbs < b.natAbs := by rw [Int.natAbs_tmod]; exact Nat.mod_lt _ (Int.natAbs_pos.2 hb)
  omega
end Go.Money
