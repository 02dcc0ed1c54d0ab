/- lives, which every law asks first. -/
import Derived.Test.YtlckckkchdabnaaPl3
namespace Go.Proofs.Ytlckckkchdabnaa
open Go.Abs Go.IntWalk
variable {P : Program} (hP : P = Try.prog)
include hP
set_option maxHeartbeats 2000000 in
theorem lives_ret : Ret P 15 [] (AB (.lit true)) := by
  refine e15 hP ?_
  cbv
  refine (adv_ret hP 1 1 2 false false).call (.cons (.agg' (.cons (.int rfl) (.cons (.int rfl) (.cons (.int rfl) (.cons (.bool rfl) .nil))))) (.cons (.bool rfl) .nil)) rfl ?_
  cbv
  refine (next_ret hP (advO 1 1 2 false) (advK 1 2 false) (advA 1 2 false false) (advU 1 2 false false)).call (.cons (.pure rfl) .nil) rfl ?_
  cbv
  refine (left_ret hP 1 1 2 false).call (.cons (.agg' (.cons (.int rfl) (.cons (.int rfl) (.cons (.int rfl) (.cons (.bool rfl) .nil))))) .nil) rfl ?_
  cbv
  repeat' (refine BrS.mk (fun h => ?_) (fun h => absurd h (by decide)) <;> cbv)
  refine (steps_ret hP 3).call (.cons (.int rfl) .nil) rfl ?_
  cbv
  refine .bool ?_
  decide
end Go.Proofs.Ytlckckkchdabnaa
