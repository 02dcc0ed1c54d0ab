/- MoneyRing: sums and products go both ways, differences take back, products of sums are sums of products. -/
import Derived.Test.YtchbobndobpocaaDoorMo2
import Derived.Test.YtchbobndobpocaaDoorA17
namespace Go.Proofs.YtchbobndobpocaaDoor
open Go.Abs Go.IntWalk
variable {P : Program} (hP : P = Tryd.prog)

theorem fit64 {x : AV} (h : FitV td 2 x) : ∃ n, x = AI .i64 (.th fun _ => n) ∧ I64 n := by
  obtain ⟨d, l, hd, hf, rfl⟩ := h
  obtain ⟨n, rfl, hw⟩ := fit_int hd (by cases hd; rfl) hf
  refine ⟨n, by cases hd; rfl, ?_⟩
  simp only [Lit.wf, Bool.and_eq_true, decide_eq_true_eq] at hw
  exact hw
theorem okV_in (n : Int) : I64 (okV n) := by
  by_cases h : I64 n
  · rw [okV, if_pos h]; exact h
  · rw [okV, if_neg h]; decide
theorem okE_ok {n : Int} (h : I64 n) : okE n = 0 := by unfold okE; rw [if_pos h]
theorem okV_ok {n : Int} (h : I64 n) : okV n = n := by unfold okV; rw [if_pos h]
theorem okE_zero {n : Int} : okE n = 0 ↔ I64 n := by
  by_cases h : I64 n
  · rw [okE, if_pos h]; exact ⟨fun _ => h, fun _ => rfl⟩
  · rw [okE, if_neg h]; exact ⟨fun e => absurd e (by decide), fun e => absurd e h⟩

include hP
set_option maxHeartbeats 4000000 in
theorem moneyRing_law : Law P td 7 [2, 2, 2] := by
  intro xs hx
  obtain ⟨x, ys, rfl, h1, h2⟩ := fitVs_cons hx
  obtain ⟨y, zs, rfl, h3, h4⟩ := fitVs_cons h2
  obtain ⟨z, us, rfl, h5, h6⟩ := fitVs_cons h4
  obtain rfl := fitVs_nil h6
  obtain ⟨a, rfl, ha⟩ := fit64 h1
  obtain ⟨b, rfl, hb⟩ := fit64 h3
  obtain ⟨c, rfl, hc⟩ := fit64 h5
  clear hx h1 h2 h3 h4 h5 h6
  have h2 := add_ret hP b a hb ha
  rw [Int.add_comm b a] at h2
  have h4 := mul_ret hP b a hb ha
  rw [Int.mul_comm b a] at h4
  refine e7 hP ?_
  cbv
  refine (lives_ret hP).call .nil rfl ?_
  cbv
  refine (add_ret hP a b ha hb).call (.cons (.pure rfl) (.cons (.pure rfl) .nil)) rfl ?_
  cbv
  refine h2.call (.cons (.pure rfl) (.cons (.pure rfl) .nil)) rfl ?_
  cbv
  refine (mul_ret hP a b ha hb).call (.cons (.pure rfl) (.cons (.pure rfl) .nil)) rfl ?_
  cbv
  refine h4.call (.cons (.pure rfl) (.cons (.pure rfl) .nil)) rfl ?_
  cbv
  iterate 4
    (refine BrS.f (by simp [icmp]) ?_
     cbv)
  have hX := okV_in (a + b)
  have hM := okV_in (a * c)
  have hN := okV_in (b * c)
  refine BrS.mk (fun h => ?_) (fun h => ?_)
  · have h1 : I64 (a + b) := by simp [icmp] at h; exact okE_zero.1 h
    cbv
    refine (sub_ret hP (okV (a + b)) b hX hb).call (.cons (.pure rfl) (.cons (.pure rfl) .nil)) rfl ?_
    cbv
    have e0 : okV (a + b) - b = a := by rw [okV_ok h1]; omega
    refine BrS.f (by simp [icmp, e0, okE_ok ha]) ?_
    cbv
    refine BrS.f (by simp [icmp, e0, okV_ok ha]) ?_
    cbv
    refine (mul_ret hP (okV (a + b)) c hX hc).call (.cons (.pure rfl) (.cons (.pure rfl) .nil)) rfl ?_
    cbv
    refine (mul_ret hP a c ha hc).call (.cons (.pure rfl) (.cons (.pure rfl) .nil)) rfl ?_
    cbv
    refine (mul_ret hP b c hb hc).call (.cons (.pure rfl) (.cons (.pure rfl) .nil)) rfl ?_
    cbv
    refine (add_ret hP (okV (a * c)) (okV (b * c)) hM hN).call (.cons (.pure rfl) (.cons (.pure rfl) .nil)) rfl ?_
    cbv
    refine BrS.f (by simp [icmp, okE_ok h1]) ?_
    cbv
    refine BrS.mk (fun h5 => ?_) (fun h5 => ?_) <;> cbv
    · exact ⟨_, rfl, rfl⟩
    refine BrS.mk (fun h6 => ?_) (fun h6 => ?_) <;> cbv
    · exact ⟨_, rfl, rfl⟩
    refine BrS.mk (fun h7 => ?_) (fun h7 => ?_) <;> cbv
    · exact ⟨_, rfl, rfl⟩
    have k5 : I64 (okV (a + b) * c) := by simp [icmp] at h5; exact okE_zero.1 h5
    have k6 : I64 (a * c) := by simp [icmp] at h6; exact okE_zero.1 h6
    have k7 : I64 (b * c) := by simp [icmp] at h7; exact okE_zero.1 h7
    have e1 : okV (a * c) + okV (b * c) = okV (a + b) * c := by rw [okV_ok k6, okV_ok k7, okV_ok h1, Int.add_mul]
    refine BrS.t (by simp [icmp, e1, okE_ok k5]) ?_
    cbv
    exact ⟨_, rfl, by simp [icmp, e1]⟩
  · have h1 : okE (a + b) ≠ 0 := by simp [icmp] at h; exact h
    cbv
    refine (mul_ret hP (okV (a + b)) c hX hc).call (.cons (.pure rfl) (.cons (.pure rfl) .nil)) rfl ?_
    cbv
    refine (mul_ret hP a c ha hc).call (.cons (.pure rfl) (.cons (.pure rfl) .nil)) rfl ?_
    cbv
    refine (mul_ret hP b c hb hc).call (.cons (.pure rfl) (.cons (.pure rfl) .nil)) rfl ?_
    cbv
    refine (add_ret hP (okV (a * c)) (okV (b * c)) hM hN).call (.cons (.pure rfl) (.cons (.pure rfl) .nil)) rfl ?_
    cbv
    refine BrS.t (by simp [icmp, h1]) ?_
    cbv
    exact ⟨_, rfl, rfl⟩
end Go.Proofs.YtchbobndobpocaaDoor
