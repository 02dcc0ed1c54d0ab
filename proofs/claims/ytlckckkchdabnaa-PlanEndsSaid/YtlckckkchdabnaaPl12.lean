/- The walk of the law PlanEnds. -/
import Derived.Test.YtlckckkchdabnaaPl9
import Derived.Test.YtlckckkchdabnaaPl10
namespace Go.Proofs.Ytlckckkchdabnaa
open Go.Abs Go.IntWalk
variable {P : Program} (hP : P = Try.prog)
theorem left_pos {k a : Int} {u : Bool} (h : checkS k a u = 0) (hb : 0 < leftS k a u) : nextB k a u = true ∧ nextK k a u ≠ 0 := by
  obtain ⟨h1, h2⟩ := good_cases h
  rcases h1 with rfl | rfl | rfl <;> rcases h2 with rfl | rfl | rfl | rfl | rfl | rfl <;> cases u <;> revert h hb <;> decide
theorem left_zero {k a : Int} {u : Bool} (h : checkS k a u = 0) (hb : leftS k a u = 0) : nextB k a u = false := by
  obtain ⟨h1, h2⟩ := good_cases h
  rcases h1 with rfl | rfl | rfl <;> rcases h2 with rfl | rfl | rfl | rfl | rfl | rfl <;> cases u <;> revert h hb <;> decide

theorem adv_ok {k a : Int} {u : Bool} (h : checkS k a u = 0) (hb : nextB k a u = true) : advE k a u = 0 := by simp [advE, h, hb]
def junks : Nat → List AV
  | 0 => []
  | n + 1 => .junk :: junks n

include hP
set_option maxHeartbeats 4000000 in
theorem planEnds_law : Law P td 4 [24] := by
  intro xs hx
  obtain ⟨x, ys, rfl, h1, h2⟩ := fitVs_cons hx
  obtain rfl := fitVs_nil h2
  obtain ⟨o, k, a, u, rfl⟩ := fit24' h1
  clear hx h1 h2
  refine e4 hP ?_
  cbv
  refine (lives_ret hP).call .nil rfl ?_
  cbv
  refine (left_ret hP o k a u).call (.cons (.pure rfl) .nil) rfl ?_
  cbv
  refine BrS.mk (fun h => ?_) (fun h => ?_) <;> cbv
  · simp [icmp] at h
    have hl : leftS k a u = 0 := by simp [leftS, h]
    refine BrS.t (by simp [icmp, hl]) ?_
    cbv
    refine (check_ret hP o k a u).call (.cons (.pure rfl) .nil) rfl ?_
    cbv
    exact ⟨_, rfl, by simp [icmp]⟩
  · simp [icmp] at h
    let E : Int → List AV := fun n => appL [.junk, .ref 0 0, .junk, AI .i64 (.th fun _ => n)] (junks 100)
    let B : Int → AO := fun a => .box [AI .i64 (.th fun _ => o), AI .u8 (.th fun _ => k), AI .i64 (.th fun _ => a), AB (.th fun _ => u)]
    refine ACode.inv (ty hP) (fun N e ob => ∃ a', checkS k a' u = 0 ∧ N = (leftS k a' u).toNat ∧ e = E (leftS k a' u) ∧ ob = [B a']) _ (E (leftS k a u)) [B a] (Ren.of [0] rfl rfl ?_ (.cons rfl (.box' ?_) .nil)) ⟨a, h, rfl, rfl, rfl⟩ ?_
    · repeat' (first | exact RVs.nil | refine RVs.cons ?_ ?_)
      all_goals first | exact .junk | exact .pure rfl | exact .int rfl | exact .ref (q := 0) rfl
    · repeat' (first | exact RVs.nil | refine RVs.cons ?_ ?_)
      all_goals exact .pure rfl
    · rintro N e ob ⟨a', hc, rfl, rfl, rfl⟩ J hJ
      have hle := left_le hc
      cbv
      refine BrS.mk (fun h2 => ?_) (fun h2 => ?_) <;> cbv
      · simp [icmp] at h2
        obtain ⟨n1, n2⟩ := left_pos hc h2
        obtain ⟨g1, g2, g3⟩ := left_step hc n1
        have he := adv_ok hc n1
        refine (next_ret hP o k a' u).as (.tup [AI .u8 (.th fun _ => nextK k a' u), AB (.lit true), AI .i64 (.lit 0)]) (.tup' (.cons (.pure rfl) (.cons (.bool n1) (.cons (.int hc) .nil)))) (.cons (.pure rfl) .nil) rfl ?_
        cbv
        refine (adv_ret hP o k a' u true).as (.tup [.agg [AI .i64 (.th fun _ => o), AI .u8 (.th fun _ => k), AI .i64 (.th fun _ => stepA a' u), AB (.th fun _ => u)], AI .i64 (.lit 0)]) (.tup' (.cons (.agg' (.cons (.int (by simp [advO, he])) (.cons (.int (by simp [advK, he])) (.cons (.int (by simp [advA, he, stepA])) (.cons (.bool (by simp [advU, he])) .nil))))) (.cons (.int he) .nil))) (.cons (.pure rfl) (.cons (.bool rfl) .nil)) rfl ?_
        cbv
        refine (left_ret hP o k (stepA a' u) u).as (.tup [AI .i64 (.th fun _ => leftS k (stepA a' u) u), AI .i64 (.lit 0)]) (.tup' (.cons (.pure rfl) (.cons (.int g1) .nil))) (.cons (.pure rfl) .nil) rfl ?_
        cbv
        refine BrS.f (by simp [icmp, n2]) ?_
        cbv
        refine BrS.f (by simp only [icmp, iop, Th.den_th]; rw [i64_in _ (by omega)]; simp; omega) ?_
        cbv
        refine (check_ret hP o k (stepA a' u) u).as (AI .i64 (.lit 0)) (.int g1) (.cons (.pure rfl) .nil) rfl ?_
        cbv
        refine hJ (leftS k (stepA a' u) u).toNat _ _ (E (leftS k (stepA a' u) u)) [B (stepA a' u)] (by omega) (Ren.of [0] rfl rfl ?_ (.cons rfl (.box' ?_) .nil)) ⟨stepA a' u, g1, rfl, rfl, rfl⟩
        · repeat' (first | exact RVs.nil | refine RVs.cons ?_ ?_)
          all_goals first | exact .junk | exact .pure rfl | exact .int rfl | exact .ref (q := 0) rfl
        · repeat' (first | exact RVs.nil | refine RVs.cons ?_ ?_)
          all_goals exact .pure rfl
      · simp [icmp] at h2
        have hz : leftS k a' u = 0 := by omega
        have n1 := left_zero hc hz
        have he : advE k a' u = 9 := by simp [advE, hc, n1]
        refine (next_ret hP o k a' u).as (.tup [AI .u8 (.th fun _ => nextK k a' u), AB (.lit false), AI .i64 (.lit 0)]) (.tup' (.cons (.pure rfl) (.cons (.bool n1) (.cons (.int hc) .nil)))) (.cons (.pure rfl) .nil) rfl ?_
        cbv
        refine (adv_ret hP o k a' u true).call (.cons (.pure rfl) (.cons (.bool rfl) .nil)) rfl ?_
        cbv
        exact ⟨_, rfl, by simp [icmp, he]⟩
end Go.Proofs.Ytlckckkchdabnaa
