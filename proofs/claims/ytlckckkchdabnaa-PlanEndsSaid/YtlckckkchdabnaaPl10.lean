/- The walk of the law PlanSteps. -/
import Derived.Test.YtlckckkchdabnaaPl9
import Derived.Test.YtlckckkchdabnaaA17
namespace Go.Proofs.Ytlckckkchdabnaa
open Go.Abs Go.IntWalk
variable {P : Program} (hP : P = Try.prog)
theorem fit24' {x : AV} (h : FitV td 24 x) : ∃ o k a u, x = saga o k a u := by
  obtain ⟨l, hf, rfl⟩ := fitV_get h (d := (td 24).get rfl) rfl
  obtain ⟨a0, b0, e0, rfl, he0, f0, r0⟩ := fitL_cons (fit_struct (d := (td 24).get rfl) rfl rfl hf)
  obtain ⟨a1, b1, e1, rfl, he1, f1, r1⟩ := fitL_cons r0
  obtain ⟨a2, b2, e2, rfl, he2, f2, r2⟩ := fitL_cons r1
  obtain ⟨a3, b3, e3, rfl, he3, f3, r3⟩ := fitL_cons r2
  obtain rfl := fitL_nil r3
  obtain ⟨n0, rfl, w0⟩ := fit_int he0 (by cases he0; rfl) f0
  obtain ⟨n1, rfl, w1⟩ := fit_int he1 (by cases he1; rfl) f1
  obtain ⟨n2, rfl, w2⟩ := fit_int he2 (by cases he2; rfl) f2
  obtain ⟨n3, rfl⟩ := fit_bool he3 (by cases he3; rfl) f3
  exact ⟨n0, n1, n2, n3, rfl⟩
theorem fit4 {x : AV} (h : FitV td 4 x) : ∃ u, x = AB (.th fun _ => u) := by
  obtain ⟨l, hf, rfl⟩ := fitV_get h (d := (td 4).get rfl) rfl
  obtain ⟨u, rfl⟩ := fit_bool (d := (td 4).get rfl) rfl rfl hf
  exact ⟨u, rfl⟩

include hP
set_option maxHeartbeats 4000000 in
theorem planSteps_law : Law P td 3 [24, 4] := by
  intro xs hx
  obtain ⟨x, ys, rfl, h1, h2⟩ := fitVs_cons hx
  obtain ⟨y, zs, rfl, h3, h4⟩ := fitVs_cons h2
  obtain rfl := fitVs_nil h4
  obtain ⟨o, k, a, u, rfl⟩ := fit24' h1
  obtain ⟨d, rfl⟩ := fit4 h3
  clear hx h1 h2 h3 h4
  refine e3 hP ?_
  cbv
  refine (next_ret hP o k a u).call (.cons (.pure rfl) .nil) rfl ?_
  cbv
  refine (rnext_ret hP o k a u).call (.cons (.pure rfl) .nil) rfl ?_
  cbv
  refine (adv_ret hP o k a u d).call (.cons (.pure rfl) (.cons (.pure rfl) .nil)) rfl ?_
  cbv
  refine (radv_ret hP o k a u d).call (.cons (.pure rfl) (.cons (.pure rfl) .nil)) rfl ?_
  cbv
  refine (left_ret hP o k a u).call (.cons (.pure rfl) .nil) rfl ?_
  cbv
  refine (rleft_ret hP o k a u).call (.cons (.pure rfl) .nil) rfl ?_
  cbv
  refine ADraw.of (ty hP) (mo hP) rfl ?_
  cbv
  repeat (first
    | (apply DOp.is
       · intro J hJ
         cbv
         first
         | exact hJ
         | exact (lives_ret hP).call .nil rfl hJ
         | exact (check_ret hP o k a u).call (.cons (.pure rfl) .nil) rfl hJ
         | exact (rcheck_ret hP o k a u).call (.cons (.pure rfl) .nil) rfl hJ
       cbv)
    | (refine BrS.t (by simp [icmp]) ?_; cbv))

  exact ⟨_, rfl, by simp [icmp]⟩
end Go.Proofs.Ytlckckkchdabnaa
