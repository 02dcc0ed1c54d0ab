/- The law MoneySums. -/
import Derived.Test.YtchbobndobpocaaDoorMo5
namespace Go.Proofs.YtchbobndobpocaaDoor
open Go.Abs Go.IntWalk Go.Money
variable {P : Program} (hP : P = Tryd.prog)

theorem fit64s {x : AV} (h : FitV td 22 x) : ∃ l : List Int, x = list64 l ∧ All64 l ∧ l.length ≤ 1000000000000000 := by
  obtain ⟨l, hf, rfl⟩ := fitV_get h (d := (td 22).get rfl) rfl
  obtain ⟨rows, rfl, h1, h2, h3⟩ := fit_slice (e := 2) (ed := (td 2).get rfl) rfl (d := (td 22).get rfl) rfl rfl hf
  obtain ⟨l, rfl, hw⟩ := rows_typed (ts := fun n : Int => [T.int .i64 (.th fun _ => n)]) (wf := fun n => I64 n) (fun r hr => by
    obtain ⟨n, rfl, hw⟩ := fit_int (d := (td 2).get rfl) rfl rfl hr
    refine ⟨n, rfl, ?_⟩
    simp only [Lit.wf, Bool.and_eq_true, decide_eq_true_eq] at hw
    exact hw) rows h1
  refine ⟨l, rfl, hw, ?_⟩
  simp [reachBytes, tdl, td, nth] at h2
  omega

include hP
set_option maxHeartbeats 4000000 in
theorem moneySums_law : Law P td 9 [2, 2, 22] := by
  intro xs hx
  obtain ⟨x, ys, rfl, h1, h2⟩ := fitVs_cons hx
  obtain ⟨y, zs, rfl, h3, h4⟩ := fitVs_cons h2
  obtain ⟨z, us, rfl, h5, h6⟩ := fitVs_cons h4
  obtain rfl := fitVs_nil h6
  obtain ⟨a, rfl, ha⟩ := fit64 h1
  obtain ⟨b, rfl, hb⟩ := fit64 h3
  obtain ⟨l, rfl, hl, hn⟩ := fit64s h5
  clear hx h1 h2 h3 h4 h5 h6
  have hn : l.length ≤ 9223372036854775806 := by omega
  refine e9 hP ?_
  cbv
  refine (add_ret hP a b ha hb).call (.cons (.pure rfl) (.cons (.pure rfl) .nil)) rfl ?_
  cbv
  refine (refAdd_ret hP a b ha hb).call (.cons (.pure rfl) (.cons (.pure rfl) .nil)) rfl ?_
  cbv
  refine (sub_ret hP a b ha hb).call (.cons (.pure rfl) (.cons (.pure rfl) .nil)) rfl ?_
  cbv
  refine (refSub_ret hP a b ha hb).call (.cons (.pure rfl) (.cons (.pure rfl) .nil)) rfl ?_
  cbv
  refine (mul_ret hP a b ha hb).call (.cons (.pure rfl) (.cons (.pure rfl) .nil)) rfl ?_
  cbv
  refine (refMul_ret hP a b ha hb).call (.cons (.pure rfl) (.cons (.pure rfl) .nil)) rfl ?_
  cbv
  refine (Sum_ret hP l hl hn).call (.cons (.pure rfl) .nil) rfl ?_
  cbv
  refine (refSum_ret hP l hl hn).call (.cons (.pure rfl) .nil) rfl ?_
  cbv
  refine (lives_ret hP).call .nil rfl ?_
  cbv
  repeat (first | (refine BrS.t (by simp [icmp]) ?_) | (refine BrS.f (by simp [icmp]) ?_)
          cbv)
  exact ⟨_, rfl, by simp [icmp]⟩
end Go.Proofs.YtchbobndobpocaaDoor
