/- Amounts' texts, in plain lists of bytes: what is written. -/
import Derived.Test.YtchbobndobpocaaDoorMp3
namespace Go.Money
open Go.Lib

def textU (u : Nat) : List UInt8 := decDigits (u / 100) ++ 46 :: [UInt8.ofNat (48 + u / 10 % 10), UInt8.ofNat (48 + u % 10)]
def textS (n : Int) : List UInt8 := if n < 0 then 45 :: textU n.natAbs else textU n.natAbs

/-- The document's loop: i rounds. -/
def txt (u : Nat) : Nat → List UInt8
  | 0 => []
  | i + 1 => UInt8.ofNat (48 + u / 10 ^ i % 10) :: (if i = 2 then 46 :: txt u i else txt u i)

theorem decDigits_small {u : Nat} (h : u < 10) : decDigits u = [UInt8.ofNat (48 + u)] := by rw [decDigits, dif_pos h]
theorem decDigits_big {u : Nat} (h : ¬ u < 10) : decDigits u = decDigits (u / 10) ++ [UInt8.ofNat (48 + u % 10)] := by rw [decDigits, dif_neg h]

theorem txt3 (u : Nat) : txt u 3 = UInt8.ofNat (48 + u / 100 % 10) :: 46 :: UInt8.ofNat (48 + u / 10 % 10) :: [UInt8.ofNat (48 + u % 10)] := by
  simp [txt]
theorem txt_more (u : Nat) : ∀ k, 1 ≤ k → txt u (k + 2) = (List.range k).map (fun j => UInt8.ofNat (48 + u / 10 ^ (k + 1 - j) % 10)) ++ 46 :: [UInt8.ofNat (48 + u / 10 % 10), UInt8.ofNat (48 + u % 10)]
  | 1, _ => by rw [txt3]; simp
  | k + 2, _ => by
    have ih := txt_more u (k + 1) (by omega)
    rw [show k + 2 + 2 = (k + 1 + 2) + 1 by omega, txt, if_neg (by omega), ih, List.range_succ_eq_map (n := k + 1), List.map_cons, List.map_map, List.cons_append]
    congr 2
    refine List.map_congr_left fun j hj => ?_
    simp only [Function.comp]
    rw [show k + 2 + 1 - j.succ = k + 1 + 1 - j by omega]
/-- Where the loop ends: what was to be written is. -/
theorem txt_end (u k : Nat) (hk : 1 ≤ k) (h0 : u / 10 ^ (k + 2) = 0) (h1 : k = 1 ∨ u / 10 ^ (k + 1) ≠ 0) : txt u (k + 2) = textU u := by
  rw [txt_more u k hk, textU]
  congr 1
  have hn : nDigits (u / 100) = k := by
    have e : ∀ m, u / 10 ^ (m + 2) = u / 100 / 10 ^ m := fun m => by rw [Nat.div_div_eq_div_mul, Nat.pow_add, Nat.mul_comm]
    rw [e k] at h0
    have hlt : u / 100 < 10 ^ k := by
      rcases Nat.div_eq_zero_iff.1 h0 with h | h
      · exact absurd h (by have := Nat.pow_pos (n := k) (show 0 < 10 by decide); omega)
      · exact h
    rcases h1 with rfl | h1
    · exact nDigits_small (by simpa using hlt)
    · obtain ⟨m, rfl⟩ : ∃ m, k = m + 1 := ⟨k - 1, by omega⟩
      rw [show m + 1 + 1 = m + 2 by omega, e m] at h1
      refine nDigits_unique m _ ?_ hlt
      rcases Nat.lt_or_ge (u / 100) (10 ^ m) with h | h
      · exact absurd (Nat.div_eq_of_lt h) h1
      · exact h
  rw [decDigits_eq, hn]
  refine List.map_congr_left fun j hj => ?_
  have hj := List.mem_range.1 hj
  unfold dg
  rw [Nat.div_div_eq_div_mul, show (100 : Nat) = 10 ^ 2 by decide, ← Nat.pow_add, show k + 1 - j = 2 + (k - 1 - j) by omega]
end Go.Money
