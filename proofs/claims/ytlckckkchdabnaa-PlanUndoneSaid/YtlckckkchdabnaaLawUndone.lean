/- The law PlanUndone. -/
import Derived.Test.YtlckckkchdabnaaRows
import Derived.Test.YtlckckkchdabnaaPl7
namespace Go.Proofs.Ytlckckkchdabnaa.PlanUndone
open Go.Abs

theorem own : ownKnob Try.prog.godebug = none := by kernel_rfl
theorem laidOut : laidOutB Try.prog = true := by kernel_rfl

set_option maxRecDepth 100000 in
theorem lifted (os : Os) (started : os.Started) (H : Type) (enc : TypeId × Value → H) :
    ReturnsInHanded {} Try.checked os 7 .any (Rows.planUndoneSpec.pre6 enc Try.prog Try.f7 Rows.planUndoneRow.domain false) (Rows.planUndoneSpec.post enc Try.prog Try.f7 false true false false) :=
  law_lift (C := Try.checked) (δ := td) (ts := [25]) td_ok (by kernel_rfl) own started (by kernel_rfl) Try.func7 (c := Try.f7.body.getD .skip) (by kernel_rfl) (by kernel_rfl)
    (ChangeSpec.witness6 (enc := enc) (C := Try.checked) false ⟨#[], #[.int .u8 0, .int .u8 0], []⟩ 8 (by kernel_rfl) (by kernel_rfl) (by kernel_rfl) (by kernel_rfl))
    rfl (tb := 4) (by kernel_rfl) (by kernel_rfl) laidOut (by kernel_rfl) (by kernel_rfl)
    (fun ds h => by
      obtain ⟨a, b, rfl⟩ : ∃ a b, ds = [a, b] := by
        match ds, h with
        | [a, b], _ => exact ⟨a, b, rfl⟩
      rfl)
    (planUndone_law rfl)

theorem over : Rows.planUndoneRow.holds Try.pinned (OpenSpec.ofChange Rows.planUndoneSpec) :=
  OpenClaim.holds_of_wide 7 Try.f7 rfl rfl rfl rfl rfl rfl rfl ⟨rfl, rfl, rfl, rfl, rfl⟩ rfl rfl rfl rfl rfl (by kernel_rfl) Try.func7 (by kernel_rfl)
    (of_decide_eq_true (by kernel_rfl)) (by unfold Func.isWrapper; first | (rw [if_pos (by decide +kernel)]; kernel_rfl) | (rw [if_neg (by decide +kernel)]; exact ⟨rfl, rfl⟩))
    (fun os started H enc _ => lifted os started H enc)

theorem proved : Rows.PlanUndoneSaid := over
end Go.Proofs.Ytlckckkchdabnaa.PlanUndone
