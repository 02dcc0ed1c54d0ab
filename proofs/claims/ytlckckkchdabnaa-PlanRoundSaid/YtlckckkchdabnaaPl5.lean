/- The walk of the law PlanRound. -/
import Derived.Test.YtlckckkchdabnaaPl4
import Derived.Test.YtlckckkchdabnaaA17
import Derived.Test.YtlckckkchdabnaaA18
namespace Go.Proofs.Ytlckckkchdabnaa
open Go.Abs Go.IntWalk
variable {P : Program} (hP : P = Try.prog)
theorem fit24 {x : AV} (h : FitV td 24 x) : ∃ o k a u, x = saga o k a u ∧ (Lit.int .i64 o).wf = true ∧ (Lit.int .u8 k).wf = true ∧ (Lit.int .i64 a).wf = true := by
  obtain ⟨l, hf, rfl⟩ := fitV_get h (d := (td 24).get rfl) rfl
  obtain ⟨a0, b0, e0, rfl, he0, f0, r0⟩ := fitL_cons (fit_struct (d := (td 24).get rfl) rfl rfl hf)
  obtain ⟨a1, b1, e1, rfl, he1, f1, r1⟩ := fitL_cons r0
  obtain ⟨a2, b2, e2, rfl, he2, f2, r2⟩ := fitL_cons r1
  obtain ⟨a3, b3, e3, rfl, he3, f3, r3⟩ := fitL_cons r2
  obtain rfl := fitL_nil r3
  obtain ⟨n0, rfl, w0⟩ := fit_int he0 (by cases he0; rfl) f0
  obtain ⟨n1, rfl, w1⟩ := fit_int he1 (by cases he1; rfl) f1
  obtain ⟨n2, rfl, w2⟩ := fit_int he2 (by cases he2; rfl) f2
  obtain ⟨n3, rfl⟩ := fit_bool he3 (by cases he3; rfl) f3
  exact ⟨n0, n1, n2, n3, rfl, w0, w1, w2⟩

theorem mo (hP : P = Try.prog) : P.follows .mixedOrders = true := hP ▸ (by kernel_rfl : Try.prog.follows .mixedOrders = true)
include hP
set_option maxHeartbeats 4000000 in
theorem planRound_law : Law P td 6 [24] := by
  intro xs hx
  obtain ⟨x, ys, rfl, h1, h2⟩ := fitVs_cons hx
  obtain rfl := fitVs_nil h2
  obtain ⟨o, k, a, u, rfl, -⟩ := fit24 h1
  refine ACall.args (args' := [sagaL o k a u]) ?_ (fun w F μ vs hv => (RVs.cons (s_l o k a u) .nil).same hv)
  cases u
  all_goals
    refine e6 hP ?_
    cbv
    refine (lives_ret hP).call .nil rfl ?_
    cbv
    refine (check_ret hP o k a _).call (.cons (l_s ..) .nil) rfl ?_
    cbv
    refine BrS.mk (fun h => ?_) (fun h => ?_) <;> cbv
  · exact ⟨_, rfl, rfl⟩
  · refine BrS.mk (fun h2 => ?_) (fun h2 => ?_) <;> cbv
    · exact ⟨_, rfl, rfl⟩
    · refine (next_ret hP o k a _).call (.cons (l_s ..) .nil) rfl ?_
      cbv
      simp [icmp] at h h2
      have hk : k = 1 := by
        obtain ⟨h5, -⟩ := good_cases h
        have h6 : ¬ k = 2 := fun e => by subst e; simp [checkS] at h
        omega
      subst hk
      obtain ⟨-, h6⟩ := good_cases h
      refine BrS.mk (fun h3 => ?_) (fun h3 => ?_) <;> cbv
      · refine ADraw.of (ty hP) (mo hP) rfl ?_
        cbv
        repeat (apply DOp.is; · intro J hJ; cbv; exact hJ
                cbv)
        apply DOp.is
        · intro J hJ
          cbv
          exact (steps_ret hP _).call (.cons (.pure rfl) .nil) rfl hJ
        cbv
        repeat (apply DOp.is; · intro J hJ; cbv; exact hJ
                cbv)
        refine ⟨_, rfl, ?_⟩
        simp [icmp, len_steps]
        rcases h6 with rfl | rfl | rfl | rfl | rfl | rfl <;> revert h h3 <;> decide
      · have hf : turnsS (nextK 1 a false) = true ∧ advE 1 a false = 0 ∧ advU 1 a false false = true ∧ advA 1 a false false = a ∧ checkS (advK 1 a false) (advA 1 a false false) (advU 1 a false false) = 0 ∧ leftS (advK 1 a false) (advA 1 a false false) (advU 1 a false false) = a := by
          rcases h6 with rfl | rfl | rfl | rfl | rfl | rfl <;> revert h h3 <;> decide
        obtain ⟨f1, f2, f3, f4, f5, f6⟩ := hf
        clear h6 h1 hx
        refine (adv_ret hP o 1 a _ false).as (.tup [.agg [AI .i64 (.th fun _ => advO o 1 a false), AI .u8 (.th fun _ => advK 1 a false), AI .i64 (.th fun _ => a), AB (.lit true)], AI .i64 (.lit 0)]) (.tup' (.cons (.agg' (.cons (.pure rfl) (.cons (.pure rfl) (.cons (.int f4) (.cons (.bool f3) .nil))))) (.cons (.int f2) .nil))) (.cons (l_s ..) (.cons (.bool rfl) .nil)) rfl ?_
        cbv
        refine (left_ret hP (advO o 1 a false) (advK 1 a false) a true).as (.tup [AI .i64 (.th fun _ => a), AI .i64 (.lit 0)]) (.tup' (.cons (.int (by rw [f4, f3] at f6; exact f6)) (.cons (.int (by rw [f4, f3] at f5; exact f5)) .nil))) (.cons (.agg' (.cons (.pure rfl) (.cons (.pure rfl) (.cons (.pure rfl) (.cons (.bool rfl) .nil))))) .nil) rfl ?_
        cbv
        refine (turns_ret hP _).as (AB (.lit true)) (.bool f1) (.cons (.pure rfl) .nil) rfl ?_
        cbv
        refine BrS.t (by simp [icmp]) ?_
        cbv
        exact ⟨_, rfl, by simp [icmp]⟩
  · exact ⟨_, rfl, rfl⟩
  · exact ⟨_, rfl, rfl⟩
end Go.Proofs.Ytlckckkchdabnaa
