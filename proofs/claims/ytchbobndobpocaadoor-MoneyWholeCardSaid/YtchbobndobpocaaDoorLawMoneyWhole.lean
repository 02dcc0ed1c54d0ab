/- Proves the statement Rows.MoneyWholeCardSaid: for every input the law MoneyWhole returns true, and each argument reads as it read before; what the row lists is tied to the program's text. No conditions. -/
import Derived.Test.YtchbobndobpocaaDoorRows
import Derived.Test.YtchbobndobpocaaDoorCards
import Derived.Test.YtchbobndobpocaaDoorTie
import Derived.Test.YtchbobndobpocaaDoorMo19
import Derived.Lay
import Derived.LaidMore
import Derived.OpenShut
import Derived.ProofKit
namespace Go.Proofs.YtchbobndobpocaaDoor.MoneyWhole
open Go.Abs Go.Proofs.YtchbobndobpocaaDoor
open Go.ChangeShapes Go.WideShapes Go.ChangeAt Go.RowKit

theorem own : ownKnob Tryd.prog.godebug = none := by kernel_rfl
theorem laidOut : laidOutB Tryd.prog = true := by kernel_rfl

set_option maxRecDepth 100000 in
theorem lifted (os : Os) (started : os.Started) (H : Type) (enc : TypeId × Value → H) :
    ReturnsInHanded {} Tryd.checked os 8 .any (fun w args => (Rows.moneyWholeSpec.pre enc Tryd.prog Tryd.f8 Rows.moneyWholeRow.domain false w args ∧ laidMetH Tryd.prog Rows.moneyWholeRow.laid w) ∧ sizedMet enc Tryd.prog Tryd.f8 (OpenSpec.ofChange Rows.moneyWholeSpec) false w args) (Rows.moneyWholeSpec.post enc Tryd.prog Tryd.f8 false true false false) :=
  law_lift_laid (C := Tryd.checked) (δ := td) (ts := [2, 22]) td_ok (by kernel_rfl) own started (by kernel_rfl) Tryd.func8 (c := Tryd.f8.body.getD .skip) (by kernel_rfl) (by kernel_rfl)
    (ChangeSpec.witness_shaped (enc := enc) (C := Tryd.checked) (os := os) (X := fun w _ => laidMetH Tryd.prog Rows.moneyWholeRow.laid w) false (World.laidAll Tryd.prog os Rows.moneyWholeRow.laid) #[.int .i64 0, .slice none 0 0] 8 (World.laidAll_os _ _ _)
      (World.shaped_of_ZipB (by kernel_rfl) (by kernel_rfl)) (by kernel_rfl) (by kernel_rfl) (by kernel_rfl)
      (by rw [MakeChecks.laidMetH_plain _ _ _ (by kernel_rfl)]; exact laidMet_laidAll _ (by kernel_rfl) (by kernel_rfl)))
    rfl (tb := 4) (by kernel_rfl) (by kernel_rfl) laidOut (by kernel_rfl) (by kernel_rfl)
    (fun ds h => by
      obtain ⟨a0, a1, rfl⟩ : ∃ a0 a1, ds = [a0, a1] := by
        match ds, h with
        | [a0, a1], _ => exact ⟨a0, a1, rfl⟩
      rfl)
    (moneyWhole_law rfl) (fun W h hs => hgl (by rfl) W h hs)

theorem over : Rows.moneyWholeRow.holds Tryd.pinned (OpenSpec.ofChange Rows.moneyWholeSpec) :=
  OpenClaim.holds_of_wide 8 Tryd.f8 rfl rfl rfl rfl rfl rfl rfl ⟨rfl, rfl, rfl, rfl, rfl⟩ rfl rfl rfl rfl rfl (by kernel_rfl) Tryd.func8 (by kernel_rfl)
    (of_decide_eq_true (by kernel_rfl)) (by unfold Func.isWrapper; first | (rw [if_pos (by decide +kernel)]; kernel_rfl) | (rw [if_neg (by decide +kernel)]; exact ⟨rfl, rfl⟩))
    (fun os started H enc _ => lifted os started H enc)

/-- The statement. -/
theorem proved : Rows.MoneyWholeCardSaid :=
  Claim7.holds_tied_plain_at .later [] [.data, .data, .data, .data, .sentinel, .sentinel, .pinned] true (true, "14e6fc5a9b68729ee4c3e5033e0cf49830c54577ae21eab2429de810227e5edb") true
    over (fun _ h => by cases h) (by kernel_rfl) (fun _ h => by cases h) moneyWhole_row_tie rfl ⟨rfl, rfl⟩ (by kernel_rfl) rfl
    (fun f fn hf hfn => by
      obtain rfl : f = 8 := Option.some.inj ((show Tryd.prog.funcNamed "lading/ladinglaw01.MoneyWhole" = some 8 by kernel_rfl).symm.trans hf) |>.symm
      obtain rfl : fn = Tryd.f8 := (Option.some.inj (Tryd.func8.symm.trans hfn)).symm
      exact ⟨by kernel_rfl, fun j t ht => by
        rw [Tryd.params8] at ht
        have hm : t ∈ [2, 22] := by simpa using Array.mem_of_getElem? ht
        have hall : ([2, 22].all fun u => !Tryd.prog.wantsStandIn u) = true := by kernel_rfl
        exact (show Tryd.prog.wantsStandIn t = false by simpa using List.all_eq_true.1 hall t hm)⟩)
    (by kernel_rfl)
end Go.Proofs.YtchbobndobpocaaDoor.MoneyWhole
