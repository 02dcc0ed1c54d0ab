/- What the money's laws ask first: lives. -/
import Derived.Test.YtchbobndobpocaaDoorMo3
namespace Go.Proofs.YtchbobndobpocaaDoor
open Go.Abs Go.IntWalk
variable {P : Program} (hP : P = Tryd.prog)
include hP

/-- Div64 where the high word is nothing. -/
theorem div_small {h x y : Th Int} (hh : h.den = 0) (hx : 0 ≤ x.den ∧ x.den < 18446744073709551616) (hy : 0 < y.den ∧ y.den < 18446744073709551616) : Ret P 32 [AI .u64 h, AI .u64 x, AI .u64 y] (.tup [AI .u64 (.th fun _ => x.den / y.den), AI .u64 (.th fun _ => x.den % y.den)]) := by
  obtain ⟨a, ha⟩ : ∃ a : Int, x.den = a := ⟨_, rfl⟩
  obtain ⟨b, hb⟩ : ∃ b : Int, y.den = b := ⟨_, rfl⟩
  rw [ha] at hx ⊢; rw [hb] at hy ⊢
  refine Ret.args (args' := [AI .u64 (.lit 0), AI .u64 (.th fun _ => a), AI .u64 (.th fun _ => b)]) ?_ (.cons (.int hh) (.cons (.int ha) (.cons (.int hb) .nil)))
  refine e32 hP ?_
  cbv
  refine BrS.f (by simp only [icmp]; simp; omega) ?_
  cbv
  refine BrS.f (by simp only [icmp]; simp; omega) ?_
  cbv
  refine ADraw.of (ty hP) (mo hP) rfl ?_
  cbv
  iterate 2 (apply DOp.is; · intro J hJ; cbv; exact hJ
             cbv)
  have hne : (b != 0) = true := by simp; omega
  apply DOp.is
  · intro J hJ
    cbv
    refine MustS.mk hne ?_
    exact hJ
  cbv
  iterate 2 (apply DOp.is; · intro J hJ; cbv; exact hJ
             cbv)
  apply DOp.is
  · intro J hJ
    cbv
    refine MustS.mk hne ?_
    exact hJ
  cbv
  iterate 2 (apply DOp.is; · intro J hJ; cbv; exact hJ
             cbv)
  refine .tup' (.cons (.int ?_) (.cons (.int ?_) .nil))
  · simp only [den_m2, Th.den_th, iop]
    rw [Int.tdiv_eq_ediv_of_nonneg hx.1, wrapU]
    exact Int.emod_eq_of_lt (Int.ediv_nonneg hx.1 (by omega)) (Int.lt_of_le_of_lt (Int.ediv_le_self b hx.1) hx.2)
  · simp only [den_m2, Th.den_th, iop]
    rw [Int.tmod_eq_emod_of_nonneg hx.1]

set_option maxHeartbeats 4000000 in
theorem lives_ret : Ret P 14 [] (AB (.lit true)) := by
  refine e14 hP ?_
  cbv
  refine (add_ret hP 9223372036854775807 1 (by decide) (by decide)).as (.tup [AI .i64 (.lit 0), AI .i64 (.lit 5)]) (.tup' (.cons (.int (by decide)) (.cons (.int (by decide)) .nil))) (.cons (.int rfl) (.cons (.int rfl) .nil)) rfl ?_
  cbv
  refine (mul_ret hP (-3) 5 (by decide) (by decide)).as (.tup [AI .i64 (.lit (-15)), AI .i64 (.lit 0)]) (.tup' (.cons (.int (by decide)) (.cons (.int (by decide)) .nil))) (.cons (.int rfl) (.cons (.int rfl) .nil)) rfl ?_
  cbv
  refine e12 hP ?_
  cbv
  refine ACode.rounds (ty hP) 4 ?_
  cbv
  refine e30 hP ?_
  cbv
  refine ACode.rounds (ty hP) 4 ?_
  cbv
  iterate 3 (refine e41 hP ?_
             cbv
             refine add64_call hP (by decide) (by decide) (by decide) (by decide) ?_
             cbv
             refine add64_call hP (by decide) (by decide) (by decide) (by decide) ?_
             cbv)
  refine ADraw.of (ty hP) (mo hP) rfl ?_ (.arr (.inl (by decide)) (.box .nil))
  cbv
  iterate 13 (apply DOp.is; · intro J hJ; cbv; exact hJ
              cbv)
  repeat (first | refine BrS.t (by decide) ?_ | refine BrS.f (by decide) ?_
          cbv)
  refine ACode.rounds (ty hP) 4 ?_
  cbv
  refine mul64_at hP 0 100 (by decide) (by decide) (by decide) (by decide) ?_
  cbv
  refine (div_small hP (h := .th fun _ => 0) (x := .th fun _ => 100) (by decide) (by decide) (by decide)).call (.cons (.pure rfl) (.cons (.pure rfl) (.cons (.pure rfl) .nil))) rfl ?_
  cbv
  iterate 2
    (refine mul64_at hP 0 100 (by decide) (by decide) (by decide) (by decide) ?_
     cbv
     refine (div_small hP (h := .th fun _ => 0) (x := .th fun _ => 100) (by decide) (by decide) (by decide)).call (.cons (.pure rfl) (.cons (.pure rfl) (.cons (.pure rfl) .nil))) rfl ?_
     cbv)
  refine ACode.rounds (ty hP) 4 ?_
  cbv
  repeat (first | refine BrS.t (by decide) ?_ | refine BrS.f (by decide) ?_
          cbv)
  refine (parse_1230 hP).call (.cons (.pure rfl) .nil) rfl ?_
  cbv
  refine e15 hP ?_
  cbv
  refine ACode.rounds (ty hP) 4 ?_
  cbv
  iterate 3
    (refine ADraw.of (ty hP) (mo hP) rfl ?_ (.arr (.inl (by decide)) (.box (.arr (.inl (by decide)) (.arr (.inl (by decide)) .nil))))
     cbv
     iterate 9 (apply DOp.is; · intro J hJ; cbv; exact hJ
                cbv)
     refine BrS.f (by decide) ?_
     cbv)
  refine (text_m5 hP).call (.cons (.pure rfl) .nil) rfl ?_
  cbv
  exact .bool rfl
end Go.Proofs.YtchbobndobpocaaDoor
