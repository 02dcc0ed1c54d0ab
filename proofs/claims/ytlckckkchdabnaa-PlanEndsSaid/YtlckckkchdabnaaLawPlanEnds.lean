/- Proves the statement Rows.PlanEndsSaid: for every input the law PlanEnds returns true, and each argument reads as it read before. No conditions. -/
import Derived.Test.YtlckckkchdabnaaRows
import Derived.Test.YtlckckkchdabnaaPl12
namespace Go.Proofs.Ytlckckkchdabnaa.PlanEnds
open Go.Abs

theorem own : ownKnob Try.prog.godebug = none := by kernel_rfl
theorem laidOut : laidOutB Try.prog = true := by kernel_rfl

set_option maxRecDepth 100000 in
theorem lifted (os : Os) (started : os.Started) (H : Type) (enc : TypeId × Value → H) :
    ReturnsInHanded {} Try.checked os 4 .any (Rows.planEndsSpec.pre6 enc Try.prog Try.f4 Rows.planEndsRow.domain false) (Rows.planEndsSpec.post enc Try.prog Try.f4 false true false false) :=
  law_lift (C := Try.checked) (δ := td) (ts := [24, 2, 3, 4, 22]) td_ok (by kernel_rfl) own started (by kernel_rfl) Try.func4 (c := Try.f4.body.getD .skip) (by kernel_rfl) (by kernel_rfl)
    (ChangeSpec.witness6 (enc := enc) (C := Try.checked) false ⟨#[], #[.agg #[.int .i64 0, .int .u8 0, .int .i64 0, .bool false]], []⟩ 8 (by kernel_rfl) (by kernel_rfl) (by kernel_rfl) (by kernel_rfl))
    rfl (tb := 4) (by kernel_rfl) (by kernel_rfl) laidOut (by kernel_rfl) (by kernel_rfl)
    (fun ds h => by
      obtain ⟨a0, rfl⟩ : ∃ a0, ds = [a0] := by
        match ds, h with
        | [a0], _ => exact ⟨a0, rfl⟩
      rfl)
    (planEnds_law rfl)

theorem over : Rows.planEndsRow.holds Try.pinned (OpenSpec.ofChange Rows.planEndsSpec) :=
  OpenClaim.holds_of_wide 4 Try.f4 rfl rfl rfl rfl rfl rfl rfl ⟨rfl, rfl, rfl, rfl, rfl⟩ rfl rfl rfl rfl rfl (by kernel_rfl) Try.func4 (by kernel_rfl)
    (of_decide_eq_true (by kernel_rfl)) (by unfold Func.isWrapper; first | (rw [if_pos (by decide +kernel)]; kernel_rfl) | (rw [if_neg (by decide +kernel)]; exact ⟨rfl, rfl⟩))
    (fun os started H enc _ => lifted os started H enc)

/-- The statement. -/
theorem proved : Rows.PlanEndsSaid := over
end Go.Proofs.Ytlckckkchdabnaa.PlanEnds
