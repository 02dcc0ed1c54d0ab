/- Proves the statement Rows.MoneySharesCardSaid: for every input the law MoneyShares returns true, and each argument reads as it read before; what the row lists is tied to the program's text. No conditions. -/
import Derived.Test.YtchbobndobpocaaDoorRows
import Derived.Test.YtchbobndobpocaaDoorCards
import Derived.Test.YtchbobndobpocaaDoorTie
import Derived.Test.YtchbobndobpocaaDoorMo18
import Derived.Lay
import Derived.LaidMore
import Derived.OpenShut
import Derived.ProofKit
namespace Go.Proofs.YtchbobndobpocaaDoor.MoneyShares
open Go.Abs Go.Proofs.YtchbobndobpocaaDoor
open Go.ChangeShapes Go.WideShapes Go.ChangeAt Go.RowKit

theorem own : ownKnob Tryd.prog.godebug = none := by kernel_rfl
theorem laidOut : laidOutB Tryd.prog = true := by kernel_rfl

set_option maxRecDepth 100000 in
theorem lifted (os : Os) (started : os.Started) (H : Type) (enc : TypeId × Value → H) :
    ReturnsInHanded {} Tryd.checked os 3 .any (fun w args => (Rows.moneySharesSpec.pre enc Tryd.prog Tryd.f3 Rows.moneySharesRow.domain false w args ∧ laidMetH Tryd.prog Rows.moneySharesRow.laid w) ∧ sizedMet enc Tryd.prog Tryd.f3 (OpenSpec.ofChange Rows.moneySharesSpec) false w args) (Rows.moneySharesSpec.post enc Tryd.prog Tryd.f3 false true false false) :=
  law_lift_laid (C := Tryd.checked) (δ := td) (ts := [2, 22]) td_ok (by kernel_rfl) own started (by kernel_rfl) Tryd.func3 (c := Tryd.f3.body.getD .skip) (by kernel_rfl) (by kernel_rfl)
    (ChangeSpec.witness_shaped (enc := enc) (C := Tryd.checked) (os := os) (X := fun w _ => laidMetH Tryd.prog Rows.moneySharesRow.laid w) false (World.laidAll Tryd.prog os Rows.moneySharesRow.laid) #[.int .i64 0, .slice none 0 0] 8 (World.laidAll_os _ _ _)
      (World.shaped_of_ZipB (by kernel_rfl) (by kernel_rfl)) (by kernel_rfl) (by kernel_rfl) (by kernel_rfl)
      (by rw [MakeChecks.laidMetH_plain _ _ _ (by kernel_rfl)]; exact laidMet_laidAll _ (by kernel_rfl) (by kernel_rfl)))
    rfl (tb := 4) (by kernel_rfl) (by kernel_rfl) laidOut (by kernel_rfl) (by kernel_rfl)
    (fun ds h => by
      obtain ⟨a0, a1, rfl⟩ : ∃ a0 a1, ds = [a0, a1] := by
        match ds, h with
        | [a0, a1], _ => exact ⟨a0, a1, rfl⟩
      rfl)
    (moneyShares_law rfl) (fun W h hs => hgl (by rfl) W h hs)

theorem over : Rows.moneySharesRow.holds Tryd.pinned (OpenSpec.ofChange Rows.moneySharesSpec) :=
  OpenClaim.holds_of_wide 3 Tryd.f3 rfl rfl rfl rfl rfl rfl rfl ⟨rfl, rfl, rfl, rfl, rfl⟩ rfl rfl rfl rfl rfl (by kernel_rfl) Tryd.func3 (by kernel_rfl)
    (of_decide_eq_true (by kernel_rfl)) (by unfold Func.isWrapper; first | (rw [if_pos (by decide +kernel)]; kernel_rfl) | (rw [if_neg (by decide +kernel)]; exact ⟨rfl, rfl⟩))
    (fun os started H enc _ => lifted os started H enc)

/-- The statement. -/
theorem proved : Rows.MoneySharesCardSaid :=
  Claim7.holds_tied_plain_at .later [] [.data, .data, .data, .data, .sentinel, .sentinel, .pinned] true (true, "14e6fc5a9b68729ee4c3e5033e0cf49830c54577ae21eab2429de810227e5edb") true
    over (fun _ h => by cases h) (by kernel_rfl) (fun _ h => by cases h) moneyShares_row_tie rfl ⟨rfl, rfl⟩ (by kernel_rfl) rfl
    (fun f fn hf hfn => by
      obtain rfl : f = 3 := Option.some.inj ((show Tryd.prog.funcNamed "lading/ladinglaw01.MoneyShares" = some 3 by kernel_rfl).symm.trans hf) |>.symm
      obtain rfl : fn = Tryd.f3 := (Option.some.inj (Tryd.func3.symm.trans hfn)).symm
      exact ⟨by kernel_rfl, fun j t ht => by
        rw [Tryd.params3] at ht
        have hm : t ∈ [2, 22] := by simpa using Array.mem_of_getElem? ht
        have hall : ([2, 22].all fun u => !Tryd.prog.wantsStandIn u) = true := by kernel_rfl
        exact (show Tryd.prog.wantsStandIn t = false by simpa using List.all_eq_true.1 hall t hm)⟩)
    (by kernel_rfl)
end Go.Proofs.YtchbobndobpocaaDoor.MoneyShares
