/- Sums: the program's and the document's; the document's Add, Sub, Mul. -/
import Derived.Test.YtchbobndobpocaaDoorMo4
import Derived.Test.YtchbobndobpocaaDoorMp2
import Derived.Test.YtchbobndobpocaaDoorMp6
import Derived.Test.YtchbobndobpocaaDoorMoRing
namespace Go.Proofs.YtchbobndobpocaaDoor
open Go.Abs Go.IntWalk Go.Money
variable {P : Program} (hP : P = Tryd.prog)

def sumV (l : List Int) : Int := if l.length > 4096 then 0 else okV l.sum
def sumE (l : List Int) : Int := if l.length > 4096 then 3 else okE l.sum
theorem rows_len64 (l : List Int) : ((T.vslS 1 fun _ => T.vsl 1 (rows64 l)).rows.length : Int) = (l.length : Int) := by simp [T.rows, rows64]
theorem shr32 (n : Int) : n.fdiv (2 ^ min (Int.toNat 32) IntKind.i64.bits) = n / 4294967296 := Int.fdiv_eq_ediv_of_nonneg n (by decide)
theorem shl32 (n : Int) : n * 2 ^ min (Int.toNat 32) IntKind.i64.bits = n * 4294967296 := rfl

include hP
set_option maxHeartbeats 4000000 in
theorem Sum_ret (l : List Int) (hl : All64 l) (hlen : l.length ≤ 9223372036854775806) : Ret P 23 [list64 l] (pair64 (sumV l) (sumE l)) := by
  obtain ⟨R, hR, hRd⟩ : ∃ R : Int, R = ((T.vslS 1 fun _ => T.vsl 1 (rows64 l)).rows.length : Int) ∧ (4096 < R ↔ l.length > 4096) := ⟨_, rfl, by rw [rows_len64]; omega⟩
  have hs := sum_ret hP l hl hlen
  refine e23 hP ?_
  cbv
  refine BrS.mk (fun h => ?_) (fun h => ?_) <;> cbv
  · refine .tup' (.cons (.int ?_) (.cons (.int ?_) .nil))
    · have : l.length > 4096 := hRd.1 (by rw [hR]; simpa [icmp] using h)
      simp only [Th.den_lit, Th.den_th, sumV, if_pos this]
    · have : l.length > 4096 := hRd.1 (by rw [hR]; simpa [icmp] using h)
      simp only [Th.den_lit, Th.den_th, sumE, if_pos this]
  · have hn : ¬ l.length > 4096 := fun h' => by
      have := hRd.2 h'
      rw [hR] at this
      simp [icmp] at h; omega
    refine hs.call (.cons (.pure rfl) .nil) rfl ?_
    cbv
    refine BrS.mk (fun h => ?_) (fun h => ?_) <;> cbv
    · have h2 : ¬ I64 l.sum := fun h' => by simp at h; omega
      refine .tup' (.cons (.int ?_) (.cons (.int ?_) .nil))
      · simp only [Th.den_lit, Th.den_th, sumV, okV, if_neg hn, if_neg h2]
      · simp only [Th.den_lit, Th.den_th, sumE, okE, if_neg hn, if_neg h2]
    · have h2 : I64 l.sum := by simp at h; omega
      refine .tup' (.cons (.int ?_) (.cons (.int ?_) .nil))
      · simp only [Th.den_th, sumV, okV, if_neg hn, if_pos h2]; omega
      · simp only [Th.den_lit, Th.den_th, sumE, okE, if_neg hn, if_pos h2]

set_option maxHeartbeats 4000000 in
theorem all_ret (l : List Int) (hl : All64 l) (hlen : l.length ≤ 4096) :
    Ret P 33 [list64 l] (.tup [AI .i64 (.th fun _ => okV l.sum), AB (.th fun _ => decide (I64 l.sum))]) := by
  obtain ⟨R, hR, hR0, hR1⟩ : ∃ R : Int, R = (l.length : Int) ∧ 0 ≤ R ∧ R ≤ 4096 := ⟨_, rfl, by omega, by omega⟩
  have hr : ((T.vslS 1 fun _ => T.vsl 1 (rows64 l)).rows.length : Int) = R := by simp [T.rows, rows64, hR]
  have ht : l.take R.toNat = l := List.take_of_length_le (by omega)
  have hb : ∀ i : Int, 0 ≤ i → i ≤ R → -8796093022208 ≤ hS (l.take i.toNat) ∧ hS (l.take i.toNat) ≤ 8796093018112 ∧ 0 ≤ lS (l.take i.toNat) ∧ lS (l.take i.toNat) ≤ 17592186040320 := fun i i0 i1 => by
    have h := halves_in (l.take i.toNat) fun n hn => hl n (List.mem_of_mem_take hn)
    have : ((l.take i.toNat).length : Int) = i := by rw [List.length_take]; omega
    rw [this] at h
    omega
  refine e33 hP ?_
  cbv
  let E : Int → List AV := fun i => sp 46 [(4, AI .i64 (.th fun _ => hS (l.take i.toNat))), (5, AI .i64 (.th fun _ => lS (l.take i.toNat))), (9, list64 l), (10, AI .i64 (.th fun _ => R)), (11, AI .i64 (.th fun _ => i))]
  refine ACode.cut (fun x e o => x = .exit 0 ∧ e = E R ∧ o = []) ?loop ?rest
  case loop =>
    refine ACode.inv (ty hP) (fun n e o => ∃ i, 0 ≤ i ∧ i ≤ R ∧ n = (R - i).toNat ∧ e = E i ∧ o = []) R.toNat (E 0) []
      (Ren.sp [] rfl rfl rfl (.cons rfl (.int rfl) (.cons rfl (.int rfl) (.cons rfl (.pure rfl) (.cons rfl (.int hr) (.cons rfl (.int rfl) .nil))))) .nil)
      ⟨0, by omega, by omega, by simp, rfl, rfl⟩ ?_
    rintro n e o ⟨i, i0, i1, rfl, rfl, rfl⟩ J hJ
    cbv
    refine BrS.mk (fun h1 => ?_) (fun h1 => ?_) <;> cbv
    · have h1 : i < R := by simpa [icmp] using h1
      obtain ⟨n, hn, hnw⟩ := get64 hl hR i0 h1
      have h2 := hb i i0 i1
      have e1 : (i + 1).toNat = i.toNat + 1 := by omega
      have hst : hS (l.take (i + 1).toNat) = hS (l.take i.toNat) + n / 4294967296 ∧ lS (l.take (i + 1).toNat) = lS (l.take i.toNat) + n % 4294967296 := by
        rw [e1, List.take_add_one, hn]
        exact ⟨hS_snoc _ n, lS_snoc _ n⟩
      refine NthS.mk _ i0 (rows64_get l _ n hn) ?_
      cbv
      refine hJ (R - (i + 1)).toNat _ _ (E (i + 1)) [] (by omega) (Ren.sp [] rfl rfl rfl (.cons rfl (.int ?_) (.cons rfl (.int ?_) (.cons rfl (.pure rfl) (.cons rfl (.pure rfl) (.cons rfl (.int ?_) .nil))))) .nil) ⟨i + 1, by omega, by omega, rfl, rfl, rfl⟩
      · simp only [Th.den_th, iop, wrap64, shr32]; omega
      · simp only [Th.den_th, iop, wrap64, shr32, shl32]; omega
      · simp only [Th.den_th, iop, wrap64]; omega
    · have h1 : ¬ i < R := by simpa [icmp] using h1
      obtain rfl : i = R := by omega
      exact ⟨_, _, Ren.sp [] rfl rfl rfl (.cons rfl (.int rfl) (.cons rfl (.int rfl) (.cons rfl (.pure rfl) (.cons rfl (.pure rfl) (.cons rfl (.int rfl) .nil))))) .nil, rfl, rfl, rfl⟩
  case rest =>
    rintro x e o ⟨rfl, rfl, rfl⟩
    have h2 := hb R hR0 (by omega)
    rw [ht] at h2
    have h3 := halves l
    cbv
    rw [ht]
    generalize hS l = H at *
    generalize lS l = L at *
    generalize l.sum = S at *
    repeat' (refine BrS.mk (fun h => ?_) (fun h => ?_) <;> cbv)
    all_goals
      refine .tup' (.cons (.int ?_) (.cons (.bool ?_) .nil)) <;>
      (simp only [Th.den_th, Th.den_lit, icmp, iop, wrap64, shr32, shl32, decide_eq_true_eq, decide_eq_false_iff_not, okV, I64] at *
       first
       | (split <;> omega)
       | (symm; rw [decide_eq_true_eq]; omega)
       | (symm; rw [decide_eq_false_iff_not]; omega))

theorem refSum_ret (l : List Int) (hl : All64 l) (hlen : l.length ≤ 9223372036854775806) : Ret P 27 [list64 l] (pair64 (sumV l) (sumE l)) := by
  obtain ⟨R, hR, hRd⟩ : ∃ R : Int, R = ((T.vslS 1 fun _ => T.vsl 1 (rows64 l)).rows.length : Int) ∧ (4096 < R ↔ l.length > 4096) := ⟨_, rfl, by rw [rows_len64]; omega⟩
  refine e27 hP ?_
  cbv
  refine BrS.mk (fun h => ?_) (fun h => ?_) <;> cbv
  · refine .tup' (.cons (.int ?_) (.cons (.int ?_) .nil))
    · have : l.length > 4096 := hRd.1 (by rw [hR]; simpa [icmp] using h)
      simp only [Th.den_lit, Th.den_th, sumV, if_pos this]
    · have : l.length > 4096 := hRd.1 (by rw [hR]; simpa [icmp] using h)
      simp only [Th.den_lit, Th.den_th, sumE, if_pos this]
  · have hn : ¬ l.length > 4096 := fun h' => by
      have := hRd.2 h'
      rw [hR] at this
      simp [icmp] at h; omega
    refine (all_ret hP l hl (by omega)).call (.cons (.pure rfl) .nil) rfl ?_
    cbv
    refine BrS.mk (fun h => ?_) (fun h => ?_) <;> cbv
    · have h2 : ¬ I64 l.sum := fun h' => by simp at h; omega
      refine .tup' (.cons (.int ?_) (.cons (.int ?_) .nil))
      · simp only [Th.den_lit, Th.den_th, sumV, okV, if_neg hn, if_neg h2]
      · simp only [Th.den_lit, Th.den_th, sumE, okE, if_neg hn, if_neg h2]
    · have h2 : I64 l.sum := by simp at h; omega
      refine .tup' (.cons (.int ?_) (.cons (.int ?_) .nil))
      · simp only [Th.den_th, sumV, okV, if_neg hn, if_pos h2]
      · simp only [Th.den_lit, Th.den_th, sumE, okE, if_neg hn, if_pos h2]

theorem refAdd_ret (a b : Int) (ha : I64 a) (hb : I64 b) : Ret P 24 [AI .i64 (.th fun _ => a), AI .i64 (.th fun _ => b)] (pair64 (okV (a + b)) (okE (a + b))) := by
  refine e24 hP ?_
  cbv
  repeat' (refine BrS.mk (fun h => ?_) (fun h => ?_) <;> cbv)
  all_goals
    refine .tup' (.cons (.int ?_) (.cons (.int ?_) .nil)) <;>
    (simp only [Th.den_th, Th.den_lit, icmp, iop, wrap64, okV, okE, I64, decide_eq_true_eq, decide_eq_false_iff_not, gt_iff_lt] at *
     split <;> omega)

theorem refSub_ret (a b : Int) (ha : I64 a) (hb : I64 b) : Ret P 25 [AI .i64 (.th fun _ => a), AI .i64 (.th fun _ => b)] (pair64 (okV (a - b)) (okE (a - b))) := by
  refine e25 hP ?_
  cbv
  repeat' (refine BrS.mk (fun h => ?_) (fun h => ?_) <;> cbv)
  all_goals
    refine .tup' (.cons (.int ?_) (.cons (.int ?_) .nil)) <;>
    (simp only [Th.den_th, Th.den_lit, icmp, iop, wrap64, okV, okE, I64, decide_eq_true_eq, decide_eq_false_iff_not, gt_iff_lt] at *
     split <;> omega)

omit hP in
theorem mul_back {a b : Int} (ha : I64 a) (hb : I64 b) (h0 : a ≠ 0) (h1 : b ≠ 0) (h2 : ¬ (a = -9223372036854775808 ∧ b = -1)) (h3 : ¬ (b = -9223372036854775808 ∧ a = -1)) :
    ((IntKind.i64.wrap ((IntKind.i64.wrap (a * b)).tdiv b) = a ↔ I64 (a * b)) ∧ (I64 (a * b) → IntKind.i64.wrap (a * b) = a * b)) := by
  obtain ⟨k, hk⟩ : ∃ k, IntKind.i64.wrap (a * b) = a * b + 18446744073709551616 * k := ⟨-((a * b + 9223372036854775808) / 18446744073709551616), by rw [wrap64]; omega⟩
  have hin : -9223372036854775808 ≤ IntKind.i64.wrap (a * b) ∧ IntKind.i64.wrap (a * b) ≤ 9223372036854775807 := by rw [wrap64]; omega
  have hok : I64 (a * b) → IntKind.i64.wrap (a * b) = a * b := fun h => by rw [wrap64]; omega
  refine ⟨⟨fun h => ?_, fun h => ?_⟩, hok⟩
  · generalize hm : IntKind.i64.wrap (a * b) = m at *
    have hq : m.tdiv b = a := by
      have hbd : m.tdiv b * b + m.tmod b = m := by rw [Int.mul_comm]; exact Int.mul_tdiv_add_tmod m b
      have hin2 : -9223372036854775808 ≤ m.tdiv b ∧ m.tdiv b ≤ 9223372036854775808 := by
        have h := Int.natAbs_tdiv_le_natAbs m b
        omega
      rw [wrap64] at h
      rcases Int.lt_or_eq_of_le hin2.2 with h' | h'
      · omega
      · have ha' : a = -9223372036854775808 := by omega
        have hb1 : b.natAbs = 1 := by
          have h1 : (m.tdiv b).natAbs = m.natAbs / b.natAbs := Int.natAbs_tdiv m b
          have h2 : (m.tdiv b).natAbs = 9223372036854775808 := by omega
          rw [h2] at h1
          have h3 : m.natAbs ≤ 9223372036854775808 := by omega
          have h4 := Nat.div_mul_le_self m.natAbs b.natAbs
          rw [← h1] at h4
          omega
        rcases (show b = 1 ∨ b = -1 by omega) with rfl | rfl
        · rw [Int.tdiv_one] at h'; omega
        · exact absurd ⟨ha', rfl⟩ h2
    have := tdiv_back a b m h1 hb k hk hq
    subst this
    rw [Int.mul_zero, Int.add_zero] at hk
    rw [← hk]; exact hin
  · rw [hok h, Int.mul_tdiv_cancel _ h1, wrap64]; omega

theorem refMul_ret (a b : Int) (ha : I64 a) (hb : I64 b) : Ret P 26 [AI .i64 (.th fun _ => a), AI .i64 (.th fun _ => b)] (pair64 (okV (a * b)) (okE (a * b))) := by
  have hA : a = 0 ∨ b = 0 → a * b = 0 := by rintro (rfl | rfl) <;> simp
  have hB : (a = -9223372036854775808 ∧ b = -1) ∨ (b = -9223372036854775808 ∧ a = -1) → a * b = 9223372036854775808 := by rintro (⟨rfl, rfl⟩ | ⟨rfl, rfl⟩) <;> rfl
  have hC := fun h0 h1 h2 h3 => mul_back (a := a) (b := b) ha hb h0 h1 h2 h3
  refine e26 hP ?_
  cbv
  repeat' (first | (refine BrS.mk (fun h => ?_) (fun h => ?_) <;> cbv) | (refine MustS.mk (by simp [icmp] at *; omega) ?_; cbv))
  all_goals
    refine .tup' (.cons (.int ?_) (.cons (.int ?_) .nil)) <;>
    (simp only [Th.den_th, Th.den_lit, icmp, iop, okV, okE, I64, beq_iff_eq, beq_eq_false_iff_ne, bne_iff_ne, bne_eq_false_iff_eq] at *
     generalize IntKind.i64.wrap ((IntKind.i64.wrap (a * b)).tdiv b) = D at *
     generalize IntKind.i64.wrap (a * b) = m at *
     generalize a * b = q at *
     first
     | (have hA := hA (by omega); split <;> omega)
     | (have hB := hB (by omega); split <;> omega)
     | (obtain ⟨c1, c2⟩ := hC (by omega) (by omega) (by omega) (by omega)
        split
        · have := c2 (by assumption); have := c1.2 (by assumption); omega
        · rename_i hn; first | (exact absurd (c1.1 (by omega)) hn) | rfl))
end Go.Proofs.YtchbobndobpocaaDoor
