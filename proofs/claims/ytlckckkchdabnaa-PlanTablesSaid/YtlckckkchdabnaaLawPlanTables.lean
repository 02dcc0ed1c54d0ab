/- Proves the statement Rows.PlanTablesSaid: for every input the law PlanTables returns true, and each argument reads as it read before. No conditions. -/
import Derived.Test.YtlckckkchdabnaaRows
import Derived.Test.YtlckckkchdabnaaPl11
namespace Go.Proofs.Ytlckckkchdabnaa.PlanTables
open Go.Abs

theorem own : ownKnob Try.prog.godebug = none := by kernel_rfl
theorem laidOut : laidOutB Try.prog = true := by kernel_rfl

set_option maxRecDepth 100000 in
theorem lifted (os : Os) (started : os.Started) (H : Type) (enc : TypeId × Value → H) :
    ReturnsInHanded {} Try.checked os 8 .any (Rows.planTablesSpec.pre6 enc Try.prog Try.f8 Rows.planTablesRow.domain false) (Rows.planTablesSpec.post enc Try.prog Try.f8 false true false false) :=
  law_lift (C := Try.checked) (δ := td) (ts := [22, 25]) td_ok (by kernel_rfl) own started (by kernel_rfl) Try.func8 (c := Try.f8.body.getD .skip) (by kernel_rfl) (by kernel_rfl)
    (ChangeSpec.witness6 (enc := enc) (C := Try.checked) false ⟨#[], #[.int .u8 0, .int .u8 0], []⟩ 8 (by kernel_rfl) (by kernel_rfl) (by kernel_rfl) (by kernel_rfl))
    rfl (tb := 4) (by kernel_rfl) (by kernel_rfl) laidOut (by kernel_rfl) (by kernel_rfl)
    (fun ds h => by
      obtain ⟨a0, a1, rfl⟩ : ∃ a0 a1, ds = [a0, a1] := by
        match ds, h with
        | [a0, a1], _ => exact ⟨a0, a1, rfl⟩
      rfl)
    (planTables_law rfl)

theorem over : Rows.planTablesRow.holds Try.pinned (OpenSpec.ofChange Rows.planTablesSpec) :=
  OpenClaim.holds_of_wide 8 Try.f8 rfl rfl rfl rfl rfl rfl rfl ⟨rfl, rfl, rfl, rfl, rfl⟩ rfl rfl rfl rfl rfl (by kernel_rfl) Try.func8 (by kernel_rfl)
    (of_decide_eq_true (by kernel_rfl)) (by unfold Func.isWrapper; first | (rw [if_pos (by decide +kernel)]; kernel_rfl) | (rw [if_neg (by decide +kernel)]; exact ⟨rfl, rfl⟩))
    (fun os started H enc _ => lifted os started H enc)

/-- The statement. -/
theorem proved : Rows.PlanTablesSaid := over
end Go.Proofs.Ytlckckkchdabnaa.PlanTables
