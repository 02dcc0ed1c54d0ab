/-
  No cell of these rows narrows 'for every input' (looked for: loops, veiled, ifaces, maps, wideKeys, modest, calm, conditions, laid).
  DERIVED. THE GIVEN ROWS OF THIS SEAT. 6 by the template 'for every input the law returns true; each argument reads behind the call as it read before'; 0 by the template 'total and deterministic' (their statements: YtlckckkchdabnaaTotals.lean).
  GIVEN WITH THE SEED: the statements are not yours to turn. If you find one false, say at which input.
  Laid BY PROGRAM, IN A SANDBOX (cutbox-rows.mjs): the forced cells as the released guide's own fill.sh prints them over the translation e034621e474b6160… (all of the seat's roots in one cut). By AI agents, Wed Nov 11 2026. No macro, syntax, notation, axiom, sorry.
-/
import Derived.Test.YtlckckkchdabnaaChecked
import GoSem.Claim
import GoSem.ClaimJoined
import GoSem.ClaimMapViews
import Derived.JoinedTies
import Derived.KernelRfl
namespace Go.Proofs.Ytlckckkchdabnaa
/- THE CELL 'sum', in the pinned program and in every row, IS THE sha256 OF THE DUMP (.gsa) THAT YtlckckkchdabnaaProg.lean LOADS. Nothing in Lean hashes anything: it is a label: what it is worth is what the hold of that sum in a sandbox is worth. -/
noncomputable def Try.pinned : Pinned := { name := "ytlckckkchdabnaa", sum := "e034621e474b61608e75ad4cc7041dc9c85027a1fcfc05199b42c8b76c073eec", checked := Try.checked }
namespace Rows
def none {H : Type} : Left H := { results := [], args := [] }

/-- 'ladinglaw16.PlanSteps': WHATEVER THE INPUT: true; the input reads as it did. -/
def planStepsSpec : ChangeSpec := { name := "planSteps", fn := fun _ => fun
  | [d1, d2] => { results := [.lit (.bool true)], args := [d1, d2] }
  | _ => none }
def planStepsRow : OpenClaim := { program := "ytlckckkchdabnaa", sum := "e034621e474b61608e75ad4cc7041dc9c85027a1fcfc05199b42c8b76c073eec", func := "lading/ladinglaw16.PlanSteps", spec := "planSteps", apart := false }
def PlanStepsSaid : Prop := planStepsRow.holds Try.pinned (OpenSpec.ofChange planStepsSpec)

/-- ITS FALSE NEIGHBOUR: 'it returns false'. Refute it at one input. -/
def planStepsWrong : ChangeSpec := { name := "planSteps", fn := fun _ => fun
  | [d1, d2] => { results := [.lit (.bool false)], args := [d1, d2] }
  | _ => none }
def PlanStepsWrongFalsely : Prop := planStepsRow.holds Try.pinned (OpenSpec.ofChange planStepsWrong)

/-- 'ladinglaw16.PlanEnds': WHATEVER THE INPUT: true; the input reads as it did. -/
def planEndsSpec : ChangeSpec := { name := "planEnds", fn := fun _ => fun
  | [d] => { results := [.lit (.bool true)], args := [d] }
  | _ => none }
def planEndsRow : OpenClaim := { program := "ytlckckkchdabnaa", sum := "e034621e474b61608e75ad4cc7041dc9c85027a1fcfc05199b42c8b76c073eec", func := "lading/ladinglaw16.PlanEnds", spec := "planEnds", apart := false }
def PlanEndsSaid : Prop := planEndsRow.holds Try.pinned (OpenSpec.ofChange planEndsSpec)

/-- ITS FALSE NEIGHBOUR: 'it returns false'. Refute it at one input. -/
def planEndsWrong : ChangeSpec := { name := "planEnds", fn := fun _ => fun
  | [d] => { results := [.lit (.bool false)], args := [d] }
  | _ => none }
def PlanEndsWrongFalsely : Prop := planEndsRow.holds Try.pinned (OpenSpec.ofChange planEndsWrong)

/-- 'ladinglaw16.PlanBack': WHATEVER THE INPUT: true; the input reads as it did. -/
def planBackSpec : ChangeSpec := { name := "planBack", fn := fun _ => fun
  | [d1, d2, d3] => { results := [.lit (.bool true)], args := [d1, d2, d3] }
  | _ => none }
def planBackRow : OpenClaim := { program := "ytlckckkchdabnaa", sum := "e034621e474b61608e75ad4cc7041dc9c85027a1fcfc05199b42c8b76c073eec", func := "lading/ladinglaw16.PlanBack", spec := "planBack", apart := false }
def PlanBackSaid : Prop := planBackRow.holds Try.pinned (OpenSpec.ofChange planBackSpec)

/-- ITS FALSE NEIGHBOUR: 'it returns false'. Refute it at one input. -/
def planBackWrong : ChangeSpec := { name := "planBack", fn := fun _ => fun
  | [d1, d2, d3] => { results := [.lit (.bool false)], args := [d1, d2, d3] }
  | _ => none }
def PlanBackWrongFalsely : Prop := planBackRow.holds Try.pinned (OpenSpec.ofChange planBackWrong)

/-- 'ladinglaw16.PlanRound': WHATEVER THE INPUT: true; the input reads as it did. -/
def planRoundSpec : ChangeSpec := { name := "planRound", fn := fun _ => fun
  | [d] => { results := [.lit (.bool true)], args := [d] }
  | _ => none }
def planRoundRow : OpenClaim := { program := "ytlckckkchdabnaa", sum := "e034621e474b61608e75ad4cc7041dc9c85027a1fcfc05199b42c8b76c073eec", func := "lading/ladinglaw16.PlanRound", spec := "planRound", apart := false }
def PlanRoundSaid : Prop := planRoundRow.holds Try.pinned (OpenSpec.ofChange planRoundSpec)

/-- ITS FALSE NEIGHBOUR: 'it returns false'. Refute it at one input. -/
def planRoundWrong : ChangeSpec := { name := "planRound", fn := fun _ => fun
  | [d] => { results := [.lit (.bool false)], args := [d] }
  | _ => none }
def PlanRoundWrongFalsely : Prop := planRoundRow.holds Try.pinned (OpenSpec.ofChange planRoundWrong)

/-- 'ladinglaw16.PlanUndone': WHATEVER THE INPUT: true; the input reads as it did. -/
def planUndoneSpec : ChangeSpec := { name := "planUndone", fn := fun _ => fun
  | [d1, d2] => { results := [.lit (.bool true)], args := [d1, d2] }
  | _ => none }
def planUndoneRow : OpenClaim := { program := "ytlckckkchdabnaa", sum := "e034621e474b61608e75ad4cc7041dc9c85027a1fcfc05199b42c8b76c073eec", func := "lading/ladinglaw16.PlanUndone", spec := "planUndone", apart := false }
def PlanUndoneSaid : Prop := planUndoneRow.holds Try.pinned (OpenSpec.ofChange planUndoneSpec)

/-- ITS FALSE NEIGHBOUR: 'it returns false'. Refute it at one input. -/
def planUndoneWrong : ChangeSpec := { name := "planUndone", fn := fun _ => fun
  | [d1, d2] => { results := [.lit (.bool false)], args := [d1, d2] }
  | _ => none }
def PlanUndoneWrongFalsely : Prop := planUndoneRow.holds Try.pinned (OpenSpec.ofChange planUndoneWrong)

/-- 'ladinglaw16.PlanTables': WHATEVER THE INPUT: true; the input reads as it did. -/
def planTablesSpec : ChangeSpec := { name := "planTables", fn := fun _ => fun
  | [d1, d2] => { results := [.lit (.bool true)], args := [d1, d2] }
  | _ => none }
def planTablesRow : OpenClaim := { program := "ytlckckkchdabnaa", sum := "e034621e474b61608e75ad4cc7041dc9c85027a1fcfc05199b42c8b76c073eec", func := "lading/ladinglaw16.PlanTables", spec := "planTables", apart := false }
def PlanTablesSaid : Prop := planTablesRow.holds Try.pinned (OpenSpec.ofChange planTablesSpec)

/-- ITS FALSE NEIGHBOUR: 'it returns false'. Refute it at one input. -/
def planTablesWrong : ChangeSpec := { name := "planTables", fn := fun _ => fun
  | [d1, d2] => { results := [.lit (.bool false)], args := [d1, d2] }
  | _ => none }
def PlanTablesWrongFalsely : Prop := planTablesRow.holds Try.pinned (OpenSpec.ofChange planTablesWrong)

/- THE SECOND FORM. 'bulk': how many values and letters a reading holds, each counted each time it is reached (what is shared counts as often as it is met; a slice's spare places count too). A statement '..UptoSaid' is the law's where the arguments, and the package variables that the reading takes, are together of bulk at most 1048576: NARROWER than '..Said'. Prove '..Said' where nothing that the law and all that it calls make is longer than what came in: it says more and counts as full. Else prove '..UptoSaid'. A law counts once. -/
mutual
def uptoBulk {H : Type} : DataW H → Nat
  | .lit (.string bytes) => bytes.length + 1
  | .lit _ => 1
  | .nil => 1
  | .ptr d => uptoBulk d + 1
  | .slice elems spare => uptoBulkAll elems + uptoBulkAll spare + 1
  | .agg parts => uptoBulkAll parts + 1
  | .iface _ d => uptoBulk d + 1
  | .map entries => uptoBulkEntries entries + 1
  | .held _ => 1
def uptoBulkAll {H : Type} : List (DataW H) → Nat
  | [] => 0
  | d :: r => uptoBulk d + uptoBulkAll r
def uptoBulkEntries {H : Type} : List (Lit × DataW H) → Nat
  | [] => 0
  | x :: r => uptoBulkEntry x + uptoBulkEntries r
def uptoBulkEntry {H : Type} : Lit × DataW H → Nat
  | (.string bytes, d) => bytes.length + uptoBulk d + 1
  | (_, d) => uptoBulk d + 1
 end
def uptoSmall : (H : Type) → List (DataW H) → Bool := fun _ ds => decide (uptoBulkAll ds ≤ 1048576)
def OpenSpec.upto (s : _root_.Go.ChangeSpec) : _root_.Go.OpenSpec := { _root_.Go.OpenSpec.ofChange s with cond := some uptoSmall }

/-- 'ladinglaw16.PlanSteps', WHERE WHAT IT READS IS OF BULK AT MOST 1048576: true; the input reads as it did. -/
def planStepsUptoRow : OpenClaim := { program := "ytlckckkchdabnaa", sum := "e034621e474b61608e75ad4cc7041dc9c85027a1fcfc05199b42c8b76c073eec", func := "lading/ladinglaw16.PlanSteps", spec := "planSteps", apart := false, narrowed := true }
def PlanStepsUptoSaid : Prop := planStepsUptoRow.holds Try.pinned (OpenSpec.upto planStepsSpec)

/-- 'ladinglaw16.PlanEnds', WHERE WHAT IT READS IS OF BULK AT MOST 1048576: true; the input reads as it did. -/
def planEndsUptoRow : OpenClaim := { program := "ytlckckkchdabnaa", sum := "e034621e474b61608e75ad4cc7041dc9c85027a1fcfc05199b42c8b76c073eec", func := "lading/ladinglaw16.PlanEnds", spec := "planEnds", apart := false, narrowed := true }
def PlanEndsUptoSaid : Prop := planEndsUptoRow.holds Try.pinned (OpenSpec.upto planEndsSpec)

/-- 'ladinglaw16.PlanBack', WHERE WHAT IT READS IS OF BULK AT MOST 1048576: true; the input reads as it did. -/
def planBackUptoRow : OpenClaim := { program := "ytlckckkchdabnaa", sum := "e034621e474b61608e75ad4cc7041dc9c85027a1fcfc05199b42c8b76c073eec", func := "lading/ladinglaw16.PlanBack", spec := "planBack", apart := false, narrowed := true }
def PlanBackUptoSaid : Prop := planBackUptoRow.holds Try.pinned (OpenSpec.upto planBackSpec)

/-- 'ladinglaw16.PlanRound', WHERE WHAT IT READS IS OF BULK AT MOST 1048576: true; the input reads as it did. -/
def planRoundUptoRow : OpenClaim := { program := "ytlckckkchdabnaa", sum := "e034621e474b61608e75ad4cc7041dc9c85027a1fcfc05199b42c8b76c073eec", func := "lading/ladinglaw16.PlanRound", spec := "planRound", apart := false, narrowed := true }
def PlanRoundUptoSaid : Prop := planRoundUptoRow.holds Try.pinned (OpenSpec.upto planRoundSpec)

/-- 'ladinglaw16.PlanUndone', WHERE WHAT IT READS IS OF BULK AT MOST 1048576: true; the input reads as it did. -/
def planUndoneUptoRow : OpenClaim := { program := "ytlckckkchdabnaa", sum := "e034621e474b61608e75ad4cc7041dc9c85027a1fcfc05199b42c8b76c073eec", func := "lading/ladinglaw16.PlanUndone", spec := "planUndone", apart := false, narrowed := true }
def PlanUndoneUptoSaid : Prop := planUndoneUptoRow.holds Try.pinned (OpenSpec.upto planUndoneSpec)

/-- 'ladinglaw16.PlanTables', WHERE WHAT IT READS IS OF BULK AT MOST 1048576: true; the input reads as it did. -/
def planTablesUptoRow : OpenClaim := { program := "ytlckckkchdabnaa", sum := "e034621e474b61608e75ad4cc7041dc9c85027a1fcfc05199b42c8b76c073eec", func := "lading/ladinglaw16.PlanTables", spec := "planTables", apart := false, narrowed := true }
def PlanTablesUptoSaid : Prop := planTablesUptoRow.holds Try.pinned (OpenSpec.upto planTablesSpec)

end Rows
end Go.Proofs.Ytlckckkchdabnaa
