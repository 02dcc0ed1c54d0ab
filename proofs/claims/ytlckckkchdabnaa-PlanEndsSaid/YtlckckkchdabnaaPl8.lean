/- plan: the document's own functions answer alike. -/
import Derived.Test.YtlckckkchdabnaaPl4
import Derived.Test.YtlckckkchdabnaaA18
namespace Go.Proofs.Ytlckckkchdabnaa
open Go.Abs Go.IntWalk
variable {P : Program} (hP : P = Try.prog)
theorem turns_cases (s : Int) : turnsS s = true ∧ (s = 1 ∨ s = 2 ∨ s = 3 ∨ s = 4 ∨ s = 5 ∨ s = 10) ∨ turnsS s = false ∧ ¬ (s = 1 ∨ s = 2 ∨ s = 3 ∨ s = 4 ∨ s = 5 ∨ s = 10) := by
  simp only [turnsS, idx, idxF]
  repeat' split
  all_goals simp_all
  all_goals omega
def asksS (s : Int) : Bool := decide (0 < s) && (decide (s < 12) && !decide (0 ≤ idx [1, 6, 11] s))
theorem asks_cases (s : Int) : asksS s = true ∧ (s = 2 ∨ s = 3 ∨ s = 4 ∨ s = 5 ∨ s = 7 ∨ s = 8 ∨ s = 9 ∨ s = 10) ∨ asksS s = false ∧ ¬ (s = 2 ∨ s = 3 ∨ s = 4 ∨ s = 5 ∨ s = 7 ∨ s = 8 ∨ s = 9 ∨ s = 10) := by
  simp only [asksS, idx, idxF]
  repeat' split
  all_goals simp_all
  all_goals omega
theorem mo (hP : P = Try.prog) : P.follows .mixedOrders = true := hP ▸ (by kernel_rfl : Try.prog.follows .mixedOrders = true)

include hP
theorem rsteps_ret (k : Int) : Ret P 23 [AI .u8 (.th fun _ => k)] (.c (.vslS 1 fun _ => stepsT k)) := by
  refine e23 hP ?_
  cbv
  refine .mk (fun h => ?_) (fun h => ?_) <;> cbv
  · exact .fzS (lits8 [1, 2, 3, 4, 5]) _ rfl rfl rfl (by decide) (.hide (es' := rows8 [1, 2, 3, 4, 5]) (by simp [icmp] at h; simp [stepsT, stepsL, h]) (lits_rows [1, 2, 3, 4, 5]))
  refine .mk (fun h => ?_) (fun h => ?_) <;> cbv
  · exact .fzS (lits8 [1, 2, 3, 4, 5]) _ rfl rfl rfl (by decide) (.hide (es' := rows8 [1, 2, 3, 4, 5]) (by simp [icmp] at h; simp [stepsT, stepsL, h]) (lits_rows [1, 2, 3, 4, 5]))
  refine .mk (fun h => ?_) (fun h => ?_) <;> cbv
  · exact .fzS (lits8 [10, 11, 9]) _ rfl rfl rfl (by decide) (.hide (es' := rows8 [10, 11, 9]) (by simp [icmp] at h; simp [stepsT, stepsL, h]) (lits_rows [10, 11, 9]))
  exact .c (.hideN (by simp_all [stepsT, stepsL, icmp]))

set_option maxHeartbeats 1000000 in
theorem rundo_ret (s : Int) : Ret P 21 [AI .u8 (.th fun _ => s)] (.tup [AI .u8 (.th fun _ => undoK s), AB (.th fun _ => undoB s)]) := by
  refine e21 hP ?_
  cbv
  repeat' (refine BrS.mk (fun h => ?_) (fun h => ?_) <;> cbv)
  all_goals
    refine .tup' (.cons (.int ?_) (.cons (.bool ?_) .nil))
    all_goals simp_all [undoK, undoB, icmp]

set_option maxHeartbeats 1000000 in
theorem rturns_ret (s : Int) : Ret P 26 [AI .u8 (.th fun _ => s)] (AB (.th fun _ => turnsS s)) := by
  have hc := turns_cases s
  refine e26 hP ?_
  cbv
  repeat' (refine BrS.mk (fun h => ?_) (fun h => ?_) <;> cbv)
  all_goals
    refine .bool ?_
    simp [icmp] at *
    rcases hc with ⟨h1, h2⟩ | ⟨h1, h2⟩ <;> simp [h1] <;> omega

set_option maxHeartbeats 1000000 in
theorem rasks_ret (s : Int) : Ret P 25 [AI .u8 (.th fun _ => s)] (AB (.th fun _ => asksS s)) := by
  have hc := asks_cases s
  refine e25 hP ?_
  cbv
  repeat' (refine BrS.mk (fun h => ?_) (fun h => ?_) <;> cbv)
  all_goals
    refine .bool ?_
    simp [icmp] at *
    rcases hc with ⟨h1, h2⟩ | ⟨h1, h2⟩ <;> simp [h1] <;> omega

set_option maxHeartbeats 1000000 in
theorem asks_ret (s : Int) : Ret P 24 [AI .u8 (.th fun _ => s)] (AB (.th fun _ => asksS s)) := by
  refine e24 hP ?_
  cbv
  refine BrS.mk (fun h => ?_) (fun h => ?_) <;> cbv
  refine BrS.mk (fun h1 => ?_) (fun h1 => ?_) <;> cbv
  · refine ((contains_ret hP [1, 6, 11] s (by decide)).args (args := [.c (.vslS 1 fun _ => .vsl 1 (lits8 [1, 6, 11])), AI .u8 (.th fun _ => s)]) (.cons (.c (.vslS rfl rfl (lits_rows _))) (.cons (.pure rfl) .nil))).lend (.cons (.slS (lits8 [1, 6, 11]) _ rfl rfl (by decide) rfl) (.cons (.pure rfl) .nil)) rfl ?_
    cbv
    refine .bool ?_
    simp [icmp] at *
    simp [asksS, h, h1]
  · refine .bool ?_
    simp [icmp] at *
    simp [asksS]; omega
  · refine .bool ?_
    simp [icmp] at *
    simp [asksS]; omega

set_option maxHeartbeats 2000000 in
theorem rcheck_ret (o k a : Int) (u : Bool) : Ret P 17 [saga o k a u] (AI .i64 (.th fun _ => checkS k a u)) := by
  have hn := nS_cases k
  refine Ret.args (args' := [sagaL o k a u]) ?_ (.cons (s_l ..) .nil)
  cases u
  all_goals
    refine e17 hP ?_
    cbv
    refine (rsteps_ret hP k).call (RVs.cons (.pure rfl) .nil) rfl ?_
    cbv
    repeat' (refine BrS.mk (fun h => ?_) (fun h => ?_) <;> cbv)
    all_goals
      refine .int ?_
      simp only [Th.den_lit, Th.den_th, checkS, icmp, iop, len_steps] at *
      simp at *
      first | omega | (split <;> omega) | (split <;> simp_all <;> omega)
end Go.Proofs.Ytlckckkchdabnaa
