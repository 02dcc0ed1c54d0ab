/- The document's part: total times w by all, bit by bit. -/
import Derived.Test.YtchbobndobpocaaDoorMo7
namespace Go.Proofs.YtchbobndobpocaaDoor
open Go.Abs Go.IntWalk Go.Money
variable {P : Program} (hP : P = Tryd.prog)

def hd2 (T i : Int) : Int := T / 2 ^ i.toNat
theorem hd2_step (T i : Int) (hT : 0 ≤ T) (h0 : 0 ≤ i) : hd2 T i = 2 * hd2 T (i + 1) + hd2 T i % 2 ∧ 0 ≤ hd2 T i ∧ 0 ≤ hd2 T (i + 1) := by
  unfold hd2
  have e : T / 2 ^ (i + 1).toNat = T / 2 ^ i.toNat / 2 := by
    rw [show (i + 1).toNat = i.toNat + 1 by omega, Int.pow_succ, Int.ediv_ediv_of_nonneg (Int.le_of_lt (Int.pow_pos (by decide)))]
  rw [e]
  have := Int.ediv_nonneg hT (b := 2 ^ i.toNat) (Int.le_of_lt (Int.pow_pos (by decide)))
  omega
theorem hd2_top (T : Int) (h : 0 ≤ T ∧ T ≤ 9223372036854775807) : hd2 T 63 = 0 := Int.ediv_eq_zero_of_lt h.1 (by have : (2 : Int) ^ (63 : Int).toNat = 9223372036854775808 := rfl; omega)
theorem hd2_zero (T : Int) : hd2 T 0 = T := by unfold hd2; simp
theorem hd2_le (T i : Int) (hT : 0 ≤ T) : hd2 T i ≤ T := Int.ediv_le_self _ hT
theorem bit_is (T i : Int) (hT : 0 ≤ T ∧ T ≤ 9223372036854775807) (h0 : 0 ≤ i ∧ i ≤ 62) : iop .rem .i64 (iop .shr .i64 T (IntKind.u64.wrap i)) 2 = hd2 T i % 2 := by
  have hw : IntKind.u64.wrap i = i := by rw [wrapU]; omega
  have hm : min i.toNat (IntKind.bits .i64) = i.toNat := by show min i.toNat 64 = i.toNat; omega
  rw [hw]
  simp only [iop]
  rw [hm, Int.fdiv_eq_ediv_of_nonneg _ (Int.le_of_lt (Int.pow_pos (by decide)))]
  exact Int.tmod_eq_emod_of_nonneg (Int.ediv_nonneg hT.1 (Int.le_of_lt (Int.pow_pos (by decide))))
theorem quot_le {q p S w r : Int} (hS : 0 < S) (hw : w ≤ S) (hp : 0 ≤ p) (h : q * S + r = p * w) (hr : 0 ≤ r) : q ≤ p := by
  have : p * w ≤ p * S := Int.mul_le_mul_of_nonneg_left hw hp
  exact Int.le_of_mul_le_mul_right (by omega : q * S ≤ p * S) hS
theorem quot_nonneg {q p S w r : Int} (hS : 0 < S) (hw : 0 ≤ w) (hp : 0 ≤ p) (h : q * S + r = p * w) (hr : r < S) : 0 ≤ q := by
  have : 0 ≤ p * w := Int.mul_nonneg hp hw
  rcases Int.lt_or_le q 0 with h' | h'
  · have : q * S ≤ -1 * S := Int.mul_le_mul_of_nonneg_right (by omega) (by omega)
    omega
  · exact h'

include hP
set_option maxHeartbeats 8000000 in
theorem part_ret (T w S : Int) (hT : 0 ≤ T ∧ T ≤ 9223372036854775807) (hw : 0 ≤ w ∧ w ≤ S) (hS : 0 < S ∧ S ≤ 9223372036854775807) :
    Ret P 34 [AI .i64 (.th fun _ => T), AI .i64 (.th fun _ => w), AI .i64 (.th fun _ => S)] (AI .i64 (.th fun _ => fl T S w)) := by
  refine e34 hP ?_
  cbv
  let E : Int → Int → Int → List AV := fun i q r => sp 50 [(0, AI .i64 (.th fun _ => T)), (1, AI .i64 (.th fun _ => w)), (2, AI .i64 (.th fun _ => S)), (7, AI .u64 (.th fun _ => q)), (8, AI .u64 (.th fun _ => r)), (9, AI .i64 (.th fun _ => i))]
  refine ACode.cut (fun x e o => ∃ r, x = .exit 0 ∧ e = E (-1) (fl T S w) r ∧ o = []) ?loop ?rest
  case loop =>
    refine ACode.inv (ty hP) (fun n e o => ∃ i q r, -1 ≤ i ∧ i ≤ 62 ∧ q * S + r = hd2 T (i + 1) * w ∧ 0 ≤ r ∧ r < S ∧ n = (i + 1).toNat ∧ e = E i q r ∧ o = []) 63 (E 62 0 0) []
      (Ren.sp [] rfl rfl rfl (.cons rfl (.pure rfl) (.cons rfl (.pure rfl) (.cons rfl (.pure rfl) (.cons rfl (.int rfl) (.cons rfl (.int rfl) (.cons rfl (.int rfl) .nil)))))) .nil)
      ⟨62, 0, 0, by omega, by omega, by rw [show (62 : Int) + 1 = 63 by rfl, hd2_top T hT]; simp, by omega, hS.1, rfl, rfl, rfl⟩ ?_
    rintro n e o ⟨i, q, r, i0, i1, h1, h2, h3, rfl, rfl, rfl⟩ J hJ
    have hp0 : 0 ≤ hd2 T (i + 1) := Int.ediv_nonneg hT.1 (Int.le_of_lt (Int.pow_pos (by decide)))
    have hple := hd2_le T (i + 1) hT.1
    have hq0 := quot_nonneg hS.1 hw.1 hp0 h1 h3
    have hq1 := quot_le hS.1 hw.2 hp0 h1 h2
    have hSw : IntKind.u64.wrap S = S := by rw [wrapU]; omega
    have hww : IntKind.u64.wrap w = w := by rw [wrapU]; omega
    cbv
    refine BrS.mk (fun k1 => ?_) (fun k1 => ?_) <;> cbv
    · have k1 : 0 ≤ i := by simpa [icmp] using k1
      obtain ⟨g1, g2, g3⟩ := hd2_step T i hT.1 k1
      obtain ⟨b, hb⟩ : ∃ b, hd2 T i % 2 = b := ⟨_, rfl⟩
      have hb01 : b = 0 ∨ b = 1 := by omega
      have hbit := bit_is T i hT ⟨k1, i1⟩
      rw [hb] at hbit g1
      obtain ⟨q2, r2, e1, e2, e3, e4, e5⟩ := part_step (b := b) hS.1 hw h1 ⟨h2, h3⟩ hb01
      rw [← g1] at e1
      have hp2 := hd2_le T i hT.1
      have hq2 := quot_nonneg hS.1 hw.1 g2 e1 e3
      have hq3 := quot_le hS.1 hw.2 g2 e1 e2
      clear hb
      refine MustS.mk (decide_eq_true (by rw [wrapU]; omega)) ?_
      cbv
      rw [hbit]
      clear hbit g1 hp0 hple h1
      have fin : ∀ {e : List AV}, lenL e = 50 → nth e 0 = some (AI .i64 (.th fun _ => T)) → nth e 1 = some (AI .i64 (.th fun _ => w)) → nth e 2 = some (AI .i64 (.th fun _ => S)) → (∃ x, nth e 7 = some (AI .u64 x) ∧ x.den = q2) → (∃ x, nth e 8 = some (AI .u64 x) ∧ x.den = r2) → (∃ x, nth e 9 = some (AI .i64 x) ∧ x.den = i - 1) → J e [] := fun l n0 n1 n2 ⟨_, n7, d7⟩ ⟨_, n8, d8⟩ ⟨_, n9, d9⟩ =>
        hJ i.toNat _ _ (E (i - 1) q2 r2) [] (by omega) (Ren.sp [] rfl rfl l (.cons n0 (.pure rfl) (.cons n1 (.pure rfl) (.cons n2 (.pure rfl) (.cons n7 (.int d7) (.cons n8 (.int d8) (.cons n9 (.int d9) .nil)))))) .nil) ⟨i - 1, q2, r2, by omega, by omega, by rw [show i - 1 + 1 = i by omega]; exact e1, e2, e3, by rw [show i - 1 + 1 = i by omega], rfl, rfl⟩
      have f1 : iop .mul .u64 2 q = 2 * q := by simp only [iop, wrapU]; omega
      have f2 : iop .mul .u64 2 r = 2 * r := by simp only [iop, wrapU]; omega
      have hi : iop .sub .i64 i 1 = i - 1 := by simp only [iop, wrap64]; omega
      clear hJ e1
      by_cases hc : b = 1 ∧ S ≤ 2 * r
      · simp only [if_pos hc] at e4 e5
        obtain ⟨rfl, hc⟩ := hc
        rw [Int.one_mul] at e4 e5
        by_cases hd : S ≤ 2 * r + w - S
        · rw [if_pos hd] at e4 e5
          repeat ((first | refine BrS.t (by (try simp only [f1, f2, hSw, hww]); first | (simp only [icmp, iop, wrapU, decide_eq_true_eq, beq_iff_eq, ge_iff_le]; done) | (simp only [icmp, iop, wrapU, decide_eq_true_eq, beq_iff_eq, ge_iff_le]; omega)) ?_ | refine BrS.f (by (try simp only [f1, f2, hSw, hww]); first | (simp only [icmp, iop, wrapU, decide_eq_false_iff_not, beq_eq_false_iff_ne, ge_iff_le]; done) | (simp only [icmp, iop, wrapU, decide_eq_false_iff_not, beq_eq_false_iff_ne, ge_iff_le]; omega)) ?_ | refine ACode.rounds (ty hP) 2 ?_); cbv)
          refine fin rfl rfl rfl rfl ⟨_, rfl, ?_⟩ ⟨_, rfl, ?_⟩ ⟨_, rfl, ?_⟩
          · (try simp only [Th.den_th, f1, f2, hSw, hww]); (try simp only [Th.den_th, iop, wrapU]); omega
          · (try simp only [Th.den_th, f1, f2, hSw, hww]); (try simp only [Th.den_th, iop, wrapU]); omega
          · exact hi
        · rw [if_neg hd] at e4 e5
          repeat ((first | refine BrS.t (by (try simp only [f1, f2, hSw, hww]); first | (simp only [icmp, iop, wrapU, decide_eq_true_eq, beq_iff_eq, ge_iff_le]; done) | (simp only [icmp, iop, wrapU, decide_eq_true_eq, beq_iff_eq, ge_iff_le]; omega)) ?_ | refine BrS.f (by (try simp only [f1, f2, hSw, hww]); first | (simp only [icmp, iop, wrapU, decide_eq_false_iff_not, beq_eq_false_iff_ne, ge_iff_le]; done) | (simp only [icmp, iop, wrapU, decide_eq_false_iff_not, beq_eq_false_iff_ne, ge_iff_le]; omega)) ?_ | refine ACode.rounds (ty hP) 2 ?_); cbv)
          refine fin rfl rfl rfl rfl ⟨_, rfl, ?_⟩ ⟨_, rfl, ?_⟩ ⟨_, rfl, ?_⟩
          · (try simp only [Th.den_th, f1, f2, hSw, hww]); (try simp only [Th.den_th, iop, wrapU]); omega
          · (try simp only [Th.den_th, f1, f2, hSw, hww]); (try simp only [Th.den_th, iop, wrapU]); omega
          · exact hi
      · simp only [if_neg hc] at e4 e5
        rcases hb01 with rfl | rfl
        · rw [Int.zero_mul] at e4 e5
          by_cases hd : S ≤ 2 * r + 0 - 0
          · rw [if_pos hd] at e4 e5
            repeat ((first | refine BrS.t (by (try simp only [f1, f2, hSw, hww]); first | (simp only [icmp, iop, wrapU, decide_eq_true_eq, beq_iff_eq, ge_iff_le]; done) | (simp only [icmp, iop, wrapU, decide_eq_true_eq, beq_iff_eq, ge_iff_le]; omega)) ?_ | refine BrS.f (by (try simp only [f1, f2, hSw, hww]); first | (simp only [icmp, iop, wrapU, decide_eq_false_iff_not, beq_eq_false_iff_ne, ge_iff_le]; done) | (simp only [icmp, iop, wrapU, decide_eq_false_iff_not, beq_eq_false_iff_ne, ge_iff_le]; omega)) ?_ | refine ACode.rounds (ty hP) 2 ?_); cbv)
            refine fin rfl rfl rfl rfl ⟨_, rfl, ?_⟩ ⟨_, rfl, ?_⟩ ⟨_, rfl, ?_⟩
            · (try simp only [Th.den_th, f1, f2, hSw, hww]); (try simp only [Th.den_th, iop, wrapU]); omega
            · (try simp only [Th.den_th, f1, f2, hSw, hww]); (try simp only [Th.den_th, iop, wrapU]); omega
            · exact hi
          · rw [if_neg hd] at e4 e5
            repeat ((first | refine BrS.t (by (try simp only [f1, f2, hSw, hww]); first | (simp only [icmp, iop, wrapU, decide_eq_true_eq, beq_iff_eq, ge_iff_le]; done) | (simp only [icmp, iop, wrapU, decide_eq_true_eq, beq_iff_eq, ge_iff_le]; omega)) ?_ | refine BrS.f (by (try simp only [f1, f2, hSw, hww]); first | (simp only [icmp, iop, wrapU, decide_eq_false_iff_not, beq_eq_false_iff_ne, ge_iff_le]; done) | (simp only [icmp, iop, wrapU, decide_eq_false_iff_not, beq_eq_false_iff_ne, ge_iff_le]; omega)) ?_ | refine ACode.rounds (ty hP) 2 ?_); cbv)
            refine fin rfl rfl rfl rfl ⟨_, rfl, ?_⟩ ⟨_, rfl, ?_⟩ ⟨_, rfl, ?_⟩
            · (try simp only [Th.den_th, f1, f2, hSw, hww]); (try simp only [Th.den_th, iop, wrapU]); omega
            · (try simp only [Th.den_th, f1, f2, hSw, hww]); (try simp only [Th.den_th, iop, wrapU]); omega
            · exact hi
        · have hc : ¬ S ≤ 2 * r := fun h => hc ⟨rfl, h⟩
          rw [Int.one_mul] at e4 e5
          by_cases hd : S ≤ 2 * r + w - 0
          · rw [if_pos hd] at e4 e5
            repeat ((first | refine BrS.t (by (try simp only [f1, f2, hSw, hww]); first | (simp only [icmp, iop, wrapU, decide_eq_true_eq, beq_iff_eq, ge_iff_le]; done) | (simp only [icmp, iop, wrapU, decide_eq_true_eq, beq_iff_eq, ge_iff_le]; omega)) ?_ | refine BrS.f (by (try simp only [f1, f2, hSw, hww]); first | (simp only [icmp, iop, wrapU, decide_eq_false_iff_not, beq_eq_false_iff_ne, ge_iff_le]; done) | (simp only [icmp, iop, wrapU, decide_eq_false_iff_not, beq_eq_false_iff_ne, ge_iff_le]; omega)) ?_ | refine ACode.rounds (ty hP) 2 ?_); cbv)
            refine fin rfl rfl rfl rfl ⟨_, rfl, ?_⟩ ⟨_, rfl, ?_⟩ ⟨_, rfl, ?_⟩
            · (try simp only [Th.den_th, f1, f2, hSw, hww]); (try simp only [Th.den_th, iop, wrapU]); omega
            · (try simp only [Th.den_th, f1, f2, hSw, hww]); (try simp only [Th.den_th, iop, wrapU]); omega
            · exact hi
          · rw [if_neg hd] at e4 e5
            repeat ((first | refine BrS.t (by (try simp only [f1, f2, hSw, hww]); first | (simp only [icmp, iop, wrapU, decide_eq_true_eq, beq_iff_eq, ge_iff_le]; done) | (simp only [icmp, iop, wrapU, decide_eq_true_eq, beq_iff_eq, ge_iff_le]; omega)) ?_ | refine BrS.f (by (try simp only [f1, f2, hSw, hww]); first | (simp only [icmp, iop, wrapU, decide_eq_false_iff_not, beq_eq_false_iff_ne, ge_iff_le]; done) | (simp only [icmp, iop, wrapU, decide_eq_false_iff_not, beq_eq_false_iff_ne, ge_iff_le]; omega)) ?_ | refine ACode.rounds (ty hP) 2 ?_); cbv)
            refine fin rfl rfl rfl rfl ⟨_, rfl, ?_⟩ ⟨_, rfl, ?_⟩ ⟨_, rfl, ?_⟩
            · (try simp only [Th.den_th, f1, f2, hSw, hww]); (try simp only [Th.den_th, iop, wrapU]); omega
            · (try simp only [Th.den_th, f1, f2, hSw, hww]); (try simp only [Th.den_th, iop, wrapU]); omega
            · exact hi
    · have k1 : ¬ 0 ≤ i := by simpa [icmp] using k1
      obtain rfl : i = -1 := by omega
      rw [show (-1 : Int) + 1 = 0 by rfl, hd2_zero] at h1
      have hq := part_end hS.1 h1 ⟨h2, h3⟩
      exact ⟨_, _, Ren.sp [] rfl rfl rfl (.cons rfl (.pure rfl) (.cons rfl (.pure rfl) (.cons rfl (.pure rfl) (.cons rfl (.int (by rw [Th.den_th, Th.den_th, hq])) (.cons rfl (.pure rfl) (.cons rfl (.pure rfl) .nil)))))) .nil, r, rfl, rfl, rfl⟩
  case rest =>
    rintro x e o ⟨r, rfl, rfl, rfl⟩
    have h0 := fl_nonneg hT.1 hw.1 hS.1
    have h1 := fl_le hT.1 hw.2 hS.1
    cbv
    refine .int ?_
    rw [Th.den_th, Th.den_th, wrap64]; omega
end Go.Proofs.YtchbobndobpocaaDoor
