/- Proves the statement Rows.PlanBackSaid: for every input the law PlanBack returns true, and each argument reads as it read before. No conditions. -/
import Derived.Test.YtlckckkchdabnaaRows
import Derived.Test.YtlckckkchdabnaaPl13
namespace Go.Proofs.Ytlckckkchdabnaa.PlanBack
open Go.Abs

theorem own : ownKnob Try.prog.godebug = none := by kernel_rfl
theorem laidOut : laidOutB Try.prog = true := by kernel_rfl

set_option maxRecDepth 100000 in
theorem lifted (os : Os) (started : os.Started) (H : Type) (enc : TypeId × Value → H) :
    ReturnsInHanded {} Try.checked os 5 .any (Rows.planBackSpec.pre6 enc Try.prog Try.f5 Rows.planBackRow.domain false) (Rows.planBackSpec.post enc Try.prog Try.f5 false true false false) :=
  law_lift (C := Try.checked) (δ := td) (ts := [22, 3, 4, 37]) td_ok (by kernel_rfl) own started (by kernel_rfl) Try.func5 (c := Try.f5.body.getD .skip) (by kernel_rfl) (by kernel_rfl)
    (ChangeSpec.witness6 (enc := enc) (C := Try.checked) false ⟨#[], #[.int .u8 0, .int .i64 0, .slice none 0 0], []⟩ 8 (by kernel_rfl) (by kernel_rfl) (by kernel_rfl) (by kernel_rfl))
    rfl (tb := 4) (by kernel_rfl) (by kernel_rfl) laidOut (by kernel_rfl) (by kernel_rfl)
    (fun ds h => by
      obtain ⟨a0, a1, a2, rfl⟩ : ∃ a0 a1 a2, ds = [a0, a1, a2] := by
        match ds, h with
        | [a0, a1, a2], _ => exact ⟨a0, a1, a2, rfl⟩
      rfl)
    (planBack_law rfl)

theorem over : Rows.planBackRow.holds Try.pinned (OpenSpec.ofChange Rows.planBackSpec) :=
  OpenClaim.holds_of_wide 5 Try.f5 rfl rfl rfl rfl rfl rfl rfl ⟨rfl, rfl, rfl, rfl, rfl⟩ rfl rfl rfl rfl rfl (by kernel_rfl) Try.func5 (by kernel_rfl)
    (of_decide_eq_true (by kernel_rfl)) (by unfold Func.isWrapper; first | (rw [if_pos (by decide +kernel)]; kernel_rfl) | (rw [if_neg (by decide +kernel)]; exact ⟨rfl, rfl⟩))
    (fun os started H enc _ => lifted os started H enc)

/-- The statement. -/
theorem proved : Rows.PlanBackSaid := over
end Go.Proofs.Ytlckckkchdabnaa.PlanBack
