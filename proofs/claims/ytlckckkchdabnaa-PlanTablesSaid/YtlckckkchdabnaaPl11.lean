/- The walk of the law PlanTables. -/
import Derived.Test.YtlckckkchdabnaaPl9
import Derived.Test.YtlckckkchdabnaaA17
namespace Go.Proofs.Ytlckckkchdabnaa
open Go.Abs Go.IntWalk
variable {P : Program} (hP : P = Try.prog)
theorem fit22 {x : AV} (h : FitV td 22 x) : ∃ k, x = AI .u8 (.th fun _ => k) := by
  obtain ⟨l, hf, rfl⟩ := fitV_get h (d := (td 22).get rfl) rfl
  obtain ⟨n, rfl, w⟩ := fit_int (d := (td 22).get rfl) rfl rfl hf
  exact ⟨n, rfl⟩
theorem fit25' {x : AV} (h : FitV td 25 x) : ∃ k, x = AI .u8 (.th fun _ => k) := by
  obtain ⟨l, hf, rfl⟩ := fitV_get h (d := (td 25).get rfl) rfl
  obtain ⟨n, rfl, w⟩ := fit_int (d := (td 25).get rfl) rfl rfl hf
  exact ⟨n, rfl⟩

include hP
theorem sameK_ret (k : Int) : Ret P 22 [.c (.vslS 1 fun _ => stepsT k), .c (.vslS 1 fun _ => stepsT k)] (AB (.lit true)) := by
  refine same_ret hP (lk k) _ (rows_steps k) ?_
  have := nS_cases k
  have := lk_len k
  omega

set_option maxHeartbeats 4000000 in
theorem planTables_law : Law P td 8 [22, 25] := by
  intro xs hx
  obtain ⟨x, ys, rfl, h1, h2⟩ := fitVs_cons hx
  obtain ⟨y, zs, rfl, h3, h4⟩ := fitVs_cons h2
  obtain rfl := fitVs_nil h4
  obtain ⟨k, rfl⟩ := fit22 h1
  obtain ⟨s, rfl⟩ := fit25' h3
  clear hx h1 h2 h3 h4
  refine e8 hP ?_
  cbv
  refine (undo_ret hP s).call (.cons (.pure rfl) .nil) rfl ?_
  cbv
  refine (rundo_ret hP s).call (.cons (.pure rfl) .nil) rfl ?_
  cbv
  refine e20 hP ?_
  cbv
  refine BrS.mk (fun q => ?_) (fun q => ?_) <;> cbv
  · replace q : k = 1 := by simpa [icmp] using q
    subst q
    refine (rsteps_ret hP _).call (.cons (.pure rfl) .nil) rfl ?_
    cbv
    refine ((sameK_ret hP 1).args (args := [.c (.vslS 1 fun _ => .vsl 1 (lits8 [1, 2, 3, 4, 5])), .c (.vslS 1 fun _ => stepsT 1)]) (.cons (.c (.vslS rfl rfl (lits_rows [1, 2, 3, 4, 5]))) (.cons (.pure rfl) .nil))).lend (.cons (.slS (lits8 [1, 2, 3, 4, 5]) _ rfl rfl (by decide) rfl) (.cons (.pure rfl) .nil)) rfl ?_
    cbv
    refine ACode.rounds (ty hP) 8 ?_
    cbv
    repeat (first
      | (refine (lives_ret hP).call .nil rfl ?_; cbv)
      | (refine (asks_ret hP s).call (.cons (.pure rfl) .nil) rfl ?_; cbv)
      | (refine (rasks_ret hP s).call (.cons (.pure rfl) .nil) rfl ?_; cbv)
      | (refine (turns_ret hP s).call (.cons (.pure rfl) .nil) rfl ?_; cbv)
      | (refine (rturns_ret hP s).call (.cons (.pure rfl) .nil) rfl ?_; cbv)
      | (refine (steps_ret hP _).call (.cons (.pure rfl) .nil) rfl ?_; cbv)
      | (refine (rsteps_ret hP _).call (.cons (.pure rfl) .nil) rfl ?_; cbv)
      | (refine (sameK_ret hP _).call (.cons (.pure rfl) (.cons (.pure rfl) .nil)) rfl ?_; cbv)
      | (refine BrS.t (by simp [icmp]) ?_; cbv))
    exact ⟨_, rfl, by simp⟩
  refine BrS.mk (fun q => ?_) (fun q => ?_) <;> cbv
  · replace q : k = 2 := by simpa [icmp] using q
    subst q
    refine (rsteps_ret hP _).call (.cons (.pure rfl) .nil) rfl ?_
    cbv
    refine ((sameK_ret hP 2).args (args := [.c (.vslS 1 fun _ => .vsl 1 (lits8 [1, 2, 3, 4, 5])), .c (.vslS 1 fun _ => stepsT 2)]) (.cons (.c (.vslS rfl rfl (lits_rows [1, 2, 3, 4, 5]))) (.cons (.pure rfl) .nil))).lend (.cons (.slS (lits8 [1, 2, 3, 4, 5]) _ rfl rfl (by decide) rfl) (.cons (.pure rfl) .nil)) rfl ?_
    cbv
    refine ACode.rounds (ty hP) 8 ?_
    cbv
    repeat (first
      | (refine (lives_ret hP).call .nil rfl ?_; cbv)
      | (refine (asks_ret hP s).call (.cons (.pure rfl) .nil) rfl ?_; cbv)
      | (refine (rasks_ret hP s).call (.cons (.pure rfl) .nil) rfl ?_; cbv)
      | (refine (turns_ret hP s).call (.cons (.pure rfl) .nil) rfl ?_; cbv)
      | (refine (rturns_ret hP s).call (.cons (.pure rfl) .nil) rfl ?_; cbv)
      | (refine (steps_ret hP _).call (.cons (.pure rfl) .nil) rfl ?_; cbv)
      | (refine (rsteps_ret hP _).call (.cons (.pure rfl) .nil) rfl ?_; cbv)
      | (refine (sameK_ret hP _).call (.cons (.pure rfl) (.cons (.pure rfl) .nil)) rfl ?_; cbv)
      | (refine BrS.t (by simp [icmp]) ?_; cbv))
    exact ⟨_, rfl, by simp⟩
  refine BrS.mk (fun q => ?_) (fun q => ?_) <;> cbv
  · replace q : k = 3 := by simpa [icmp] using q
    subst q
    refine (rsteps_ret hP _).call (.cons (.pure rfl) .nil) rfl ?_
    cbv
    refine ((sameK_ret hP 3).args (args := [.c (.vslS 1 fun _ => .vsl 1 (lits8 [10, 11, 9])), .c (.vslS 1 fun _ => stepsT 3)]) (.cons (.c (.vslS rfl rfl (lits_rows [10, 11, 9]))) (.cons (.pure rfl) .nil))).lend (.cons (.slS (lits8 [10, 11, 9]) _ rfl rfl (by decide) rfl) (.cons (.pure rfl) .nil)) rfl ?_
    cbv
    refine ACode.rounds (ty hP) 8 ?_
    cbv
    repeat (first
      | (refine (lives_ret hP).call .nil rfl ?_; cbv)
      | (refine (asks_ret hP s).call (.cons (.pure rfl) .nil) rfl ?_; cbv)
      | (refine (rasks_ret hP s).call (.cons (.pure rfl) .nil) rfl ?_; cbv)
      | (refine (turns_ret hP s).call (.cons (.pure rfl) .nil) rfl ?_; cbv)
      | (refine (rturns_ret hP s).call (.cons (.pure rfl) .nil) rfl ?_; cbv)
      | (refine (steps_ret hP _).call (.cons (.pure rfl) .nil) rfl ?_; cbv)
      | (refine (rsteps_ret hP _).call (.cons (.pure rfl) .nil) rfl ?_; cbv)
      | (refine (sameK_ret hP _).call (.cons (.pure rfl) (.cons (.pure rfl) .nil)) rfl ?_; cbv)
      | (refine BrS.t (by simp [icmp]) ?_; cbv))
    exact ⟨_, rfl, by simp⟩
  · have hk : stepsT k = .lit (.slice none 0 0) := by simp_all [stepsT, stepsL]
    refine (rsteps_ret hP _).call (.cons (.pure rfl) .nil) rfl ?_
    cbv
    refine (sameK_ret hP k).call (.cons (.c (.hideN hk)) (.cons (.pure rfl) .nil)) rfl ?_
    cbv
    refine ACode.rounds (ty hP) 2 ?_
    cbv
    repeat (first
      | (refine (lives_ret hP).call .nil rfl ?_; cbv)
      | (refine (asks_ret hP s).call (.cons (.pure rfl) .nil) rfl ?_; cbv)
      | (refine (rasks_ret hP s).call (.cons (.pure rfl) .nil) rfl ?_; cbv)
      | (refine (turns_ret hP s).call (.cons (.pure rfl) .nil) rfl ?_; cbv)
      | (refine (rturns_ret hP s).call (.cons (.pure rfl) .nil) rfl ?_; cbv)
      | (refine (steps_ret hP _).call (.cons (.pure rfl) .nil) rfl ?_; cbv)
      | (refine (rsteps_ret hP _).call (.cons (.pure rfl) .nil) rfl ?_; cbv)
      | (refine (sameK_ret hP _).call (.cons (.pure rfl) (.cons (.pure rfl) .nil)) rfl ?_; cbv)
      | (refine BrS.t (by simp [icmp]) ?_; cbv))
    exact ⟨_, rfl, by simp⟩
end Go.Proofs.Ytlckckkchdabnaa
