/-
  No cell of these rows narrows 'for every input' (looked for: loops, veiled, ifaces, maps, wideKeys, modest, calm, conditions, laid).
  DERIVED. THE GIVEN ROWS OF THIS SEAT. 10 by the template 'for every input the law returns true; each argument reads behind the call as it read before'; 0 by the template 'total and deterministic' (their statements: YtnpliafeboadcaaGreatTotals.lean).
  GIVEN WITH THE SEED: the statements are not yours to turn. If you find one false, say at which input.
  Laid BY PROGRAM, IN A SANDBOX (cutbox-rows.mjs): the forced cells as the released guide's own fill.sh prints them over the translation 084b3bd058730704… (all of the seat's roots in one cut). By AI agents, Wed Nov 11 2026. No macro, syntax, notation, axiom, sorry.
-/
import Derived.Test.YtnpliafeboadcaaGreatChecked
import GoSem.Claim
import GoSem.ClaimJoined
import GoSem.ClaimMapViews
import Derived.JoinedTies
import Derived.KernelRfl
namespace Go.Proofs.YtnpliafeboadcaaGreat
/- THE CELL 'sum', in the pinned program and in every row, IS THE sha256 OF THE DUMP (.gsa) THAT YtnpliafeboadcaaGreatProg.lean LOADS. Nothing in Lean hashes anything: it is a label: what it is worth is what the hold of that sum in a sandbox is worth. -/
noncomputable def Tryz.pinned : Pinned := { name := "ytnpliafeboadcaagreat", sum := "084b3bd0587307040c6e516be0ef0cdb1efd6748f1f7788b1a9354599c09711d", checked := Tryz.checked }
namespace Rows
def none {H : Type} : Left H := { results := [], args := [] }

/-- 'ladinglaw17.SagaHand': WHATEVER THE INPUT: true; the input reads as it did. -/
def sagaHandSpec : ChangeSpec := { name := "sagaHand", fn := fun _ => fun
  | [d1, d2, d3, d4] => { results := [.lit (.bool true)], args := [d1, d2, d3, d4] }
  | _ => none }
def sagaHandRow : OpenClaim := { program := "ytnpliafeboadcaagreat", sum := "084b3bd0587307040c6e516be0ef0cdb1efd6748f1f7788b1a9354599c09711d", func := "lading/ladinglaw17.SagaHand", spec := "sagaHand", inPlace := ["math/bits.Add64", "slices.overlaps[lading/api.Order]", "slices.overlaps[lading/api.Cell]", "internal/bytealg.abigen_runtime_cmpstring", "slices.overlaps[lading/api.Kept]", "slices.overlaps[lading/api.Pay]", "slices.overlaps[lading/api.Shipment]"], unfollowed := true, recurses := true, apart := false }
def SagaHandSaid : Prop := sagaHandRow.holds Tryz.pinned (OpenSpec.ofChange sagaHandSpec)

/-- ITS FALSE NEIGHBOUR: 'it returns false'. Refute it at one input. -/
def sagaHandWrong : ChangeSpec := { name := "sagaHand", fn := fun _ => fun
  | [d1, d2, d3, d4] => { results := [.lit (.bool false)], args := [d1, d2, d3, d4] }
  | _ => none }
def SagaHandWrongFalsely : Prop := sagaHandRow.holds Tryz.pinned (OpenSpec.ofChange sagaHandWrong)

/-- 'ladinglaw17.SagaDoes': WHATEVER THE INPUT: true; the input reads as it did. -/
def sagaDoesSpec : ChangeSpec := { name := "sagaDoes", fn := fun _ => fun
  | [d1, d2] => { results := [.lit (.bool true)], args := [d1, d2] }
  | _ => none }
def sagaDoesRow : OpenClaim := { program := "ytnpliafeboadcaagreat", sum := "084b3bd0587307040c6e516be0ef0cdb1efd6748f1f7788b1a9354599c09711d", func := "lading/ladinglaw17.SagaDoes", spec := "sagaDoes", inPlace := ["math/bits.Add64", "slices.overlaps[lading/api.Order]", "slices.overlaps[lading/api.Cell]", "internal/bytealg.abigen_runtime_cmpstring", "slices.overlaps[lading/api.Kept]", "slices.overlaps[lading/api.Pay]", "slices.overlaps[lading/api.Shipment]"], unfollowed := true, recurses := true, apart := false }
def SagaDoesSaid : Prop := sagaDoesRow.holds Tryz.pinned (OpenSpec.ofChange sagaDoesSpec)

/-- ITS FALSE NEIGHBOUR: 'it returns false'. Refute it at one input. -/
def sagaDoesWrong : ChangeSpec := { name := "sagaDoes", fn := fun _ => fun
  | [d1, d2] => { results := [.lit (.bool false)], args := [d1, d2] }
  | _ => none }
def SagaDoesWrongFalsely : Prop := sagaDoesRow.holds Tryz.pinned (OpenSpec.ofChange sagaDoesWrong)

/-- 'ladinglaw17.SagaRight': WHATEVER THE INPUT: true; the input reads as it did. -/
def sagaRightSpec : ChangeSpec := { name := "sagaRight", fn := fun _ => fun
  | [d1, d2] => { results := [.lit (.bool true)], args := [d1, d2] }
  | _ => none }
def sagaRightRow : OpenClaim := { program := "ytnpliafeboadcaagreat", sum := "084b3bd0587307040c6e516be0ef0cdb1efd6748f1f7788b1a9354599c09711d", func := "lading/ladinglaw17.SagaRight", spec := "sagaRight", inPlace := ["math/bits.Add64", "slices.overlaps[lading/api.Order]", "slices.overlaps[lading/api.Cell]", "internal/bytealg.abigen_runtime_cmpstring", "slices.overlaps[lading/api.Kept]", "slices.overlaps[lading/api.Pay]", "slices.overlaps[lading/api.Shipment]"], unfollowed := true, recurses := true, apart := false }
def SagaRightSaid : Prop := sagaRightRow.holds Tryz.pinned (OpenSpec.ofChange sagaRightSpec)

/-- ITS FALSE NEIGHBOUR: 'it returns false'. Refute it at one input. -/
def sagaRightWrong : ChangeSpec := { name := "sagaRight", fn := fun _ => fun
  | [d1, d2] => { results := [.lit (.bool false)], args := [d1, d2] }
  | _ => none }
def SagaRightWrongFalsely : Prop := sagaRightRow.holds Tryz.pinned (OpenSpec.ofChange sagaRightWrong)

/-- 'ladinglaw17.SagaSettles': WHATEVER THE INPUT: true; the input reads as it did. -/
def sagaSettlesSpec : ChangeSpec := { name := "sagaSettles", fn := fun _ => fun
  | [d1, d2, d3] => { results := [.lit (.bool true)], args := [d1, d2, d3] }
  | _ => none }
def sagaSettlesRow : OpenClaim := { program := "ytnpliafeboadcaagreat", sum := "084b3bd0587307040c6e516be0ef0cdb1efd6748f1f7788b1a9354599c09711d", func := "lading/ladinglaw17.SagaSettles", spec := "sagaSettles", inPlace := ["math/bits.Add64", "slices.overlaps[lading/api.Order]", "slices.overlaps[lading/api.Cell]", "internal/bytealg.abigen_runtime_cmpstring", "slices.overlaps[lading/api.Kept]", "slices.overlaps[lading/api.Pay]", "slices.overlaps[lading/api.Shipment]"], unfollowed := true, recurses := true, apart := false }
def SagaSettlesSaid : Prop := sagaSettlesRow.holds Tryz.pinned (OpenSpec.ofChange sagaSettlesSpec)

/-- ITS FALSE NEIGHBOUR: 'it returns false'. Refute it at one input. -/
def sagaSettlesWrong : ChangeSpec := { name := "sagaSettles", fn := fun _ => fun
  | [d1, d2, d3] => { results := [.lit (.bool false)], args := [d1, d2, d3] }
  | _ => none }
def SagaSettlesWrongFalsely : Prop := sagaSettlesRow.holds Tryz.pinned (OpenSpec.ofChange sagaSettlesWrong)

/-- 'ladinglaw17.SagaTwice': WHATEVER THE INPUT: true; the input reads as it did. -/
def sagaTwiceSpec : ChangeSpec := { name := "sagaTwice", fn := fun _ => fun
  | [d1, d2, d3, d4, d5] => { results := [.lit (.bool true)], args := [d1, d2, d3, d4, d5] }
  | _ => none }
def sagaTwiceRow : OpenClaim := { program := "ytnpliafeboadcaagreat", sum := "084b3bd0587307040c6e516be0ef0cdb1efd6748f1f7788b1a9354599c09711d", func := "lading/ladinglaw17.SagaTwice", spec := "sagaTwice", inPlace := ["math/bits.Add64", "slices.overlaps[lading/api.Order]", "slices.overlaps[lading/api.Cell]", "internal/bytealg.abigen_runtime_cmpstring", "slices.overlaps[lading/api.Kept]", "slices.overlaps[lading/api.Pay]", "slices.overlaps[lading/api.Shipment]"], unfollowed := true, recurses := true, apart := false }
def SagaTwiceSaid : Prop := sagaTwiceRow.holds Tryz.pinned (OpenSpec.ofChange sagaTwiceSpec)

/-- ITS FALSE NEIGHBOUR: 'it returns false'. Refute it at one input. -/
def sagaTwiceWrong : ChangeSpec := { name := "sagaTwice", fn := fun _ => fun
  | [d1, d2, d3, d4, d5] => { results := [.lit (.bool false)], args := [d1, d2, d3, d4, d5] }
  | _ => none }
def SagaTwiceWrongFalsely : Prop := sagaTwiceRow.holds Tryz.pinned (OpenSpec.ofChange sagaTwiceWrong)

/-- 'ladinglaw17.SagaFree': WHATEVER THE INPUT: true; the input reads as it did. -/
def sagaFreeSpec : ChangeSpec := { name := "sagaFree", fn := fun _ => fun
  | [d1, d2, d3, d4, d5] => { results := [.lit (.bool true)], args := [d1, d2, d3, d4, d5] }
  | _ => none }
def sagaFreeRow : OpenClaim := { program := "ytnpliafeboadcaagreat", sum := "084b3bd0587307040c6e516be0ef0cdb1efd6748f1f7788b1a9354599c09711d", func := "lading/ladinglaw17.SagaFree", spec := "sagaFree", inPlace := ["math/bits.Add64", "slices.overlaps[lading/api.Order]", "slices.overlaps[lading/api.Cell]", "internal/bytealg.abigen_runtime_cmpstring", "slices.overlaps[lading/api.Kept]", "slices.overlaps[lading/api.Pay]", "slices.overlaps[lading/api.Shipment]"], unfollowed := true, recurses := true, apart := false }
def SagaFreeSaid : Prop := sagaFreeRow.holds Tryz.pinned (OpenSpec.ofChange sagaFreeSpec)

/-- ITS FALSE NEIGHBOUR: 'it returns false'. Refute it at one input. -/
def sagaFreeWrong : ChangeSpec := { name := "sagaFree", fn := fun _ => fun
  | [d1, d2, d3, d4, d5] => { results := [.lit (.bool false)], args := [d1, d2, d3, d4, d5] }
  | _ => none }
def SagaFreeWrongFalsely : Prop := sagaFreeRow.holds Tryz.pinned (OpenSpec.ofChange sagaFreeWrong)

/-- 'ladinglaw17.SagaNothing': WHATEVER THE INPUT: true; the input reads as it did. -/
def sagaNothingSpec : ChangeSpec := { name := "sagaNothing", fn := fun _ => fun
  | [d1, d2, d3, d4, d5, d6] => { results := [.lit (.bool true)], args := [d1, d2, d3, d4, d5, d6] }
  | _ => none }
def sagaNothingRow : OpenClaim := { program := "ytnpliafeboadcaagreat", sum := "084b3bd0587307040c6e516be0ef0cdb1efd6748f1f7788b1a9354599c09711d", func := "lading/ladinglaw17.SagaNothing", spec := "sagaNothing", inPlace := ["math/bits.Add64", "slices.overlaps[lading/api.Order]", "slices.overlaps[lading/api.Cell]", "internal/bytealg.abigen_runtime_cmpstring", "slices.overlaps[lading/api.Kept]", "slices.overlaps[lading/api.Pay]", "slices.overlaps[lading/api.Shipment]"], unfollowed := true, recurses := true, apart := false }
def SagaNothingSaid : Prop := sagaNothingRow.holds Tryz.pinned (OpenSpec.ofChange sagaNothingSpec)

/-- ITS FALSE NEIGHBOUR: 'it returns false'. Refute it at one input. -/
def sagaNothingWrong : ChangeSpec := { name := "sagaNothing", fn := fun _ => fun
  | [d1, d2, d3, d4, d5, d6] => { results := [.lit (.bool false)], args := [d1, d2, d3, d4, d5, d6] }
  | _ => none }
def SagaNothingWrongFalsely : Prop := sagaNothingRow.holds Tryz.pinned (OpenSpec.ofChange sagaNothingWrong)

/-- 'ladinglaw17.SagaReturned': WHATEVER THE INPUT: true; the input reads as it did. -/
def sagaReturnedSpec : ChangeSpec := { name := "sagaReturned", fn := fun _ => fun
  | [d1, d2, d3, d4, d5] => { results := [.lit (.bool true)], args := [d1, d2, d3, d4, d5] }
  | _ => none }
def sagaReturnedRow : OpenClaim := { program := "ytnpliafeboadcaagreat", sum := "084b3bd0587307040c6e516be0ef0cdb1efd6748f1f7788b1a9354599c09711d", func := "lading/ladinglaw17.SagaReturned", spec := "sagaReturned", inPlace := ["math/bits.Add64", "slices.overlaps[lading/api.Order]", "slices.overlaps[lading/api.Cell]", "internal/bytealg.abigen_runtime_cmpstring", "slices.overlaps[lading/api.Kept]", "slices.overlaps[lading/api.Pay]", "slices.overlaps[lading/api.Shipment]"], unfollowed := true, recurses := true, apart := false }
def SagaReturnedSaid : Prop := sagaReturnedRow.holds Tryz.pinned (OpenSpec.ofChange sagaReturnedSpec)

/-- ITS FALSE NEIGHBOUR: 'it returns false'. Refute it at one input. -/
def sagaReturnedWrong : ChangeSpec := { name := "sagaReturned", fn := fun _ => fun
  | [d1, d2, d3, d4, d5] => { results := [.lit (.bool false)], args := [d1, d2, d3, d4, d5] }
  | _ => none }
def SagaReturnedWrongFalsely : Prop := sagaReturnedRow.holds Tryz.pinned (OpenSpec.ofChange sagaReturnedWrong)

/-- 'ladinglaw17.SagaPicks': WHATEVER THE INPUT: true; the input reads as it did. -/
def sagaPicksSpec : ChangeSpec := { name := "sagaPicks", fn := fun _ => fun
  | [d1, d2, d3, d4] => { results := [.lit (.bool true)], args := [d1, d2, d3, d4] }
  | _ => none }
def sagaPicksRow : OpenClaim := { program := "ytnpliafeboadcaagreat", sum := "084b3bd0587307040c6e516be0ef0cdb1efd6748f1f7788b1a9354599c09711d", func := "lading/ladinglaw17.SagaPicks", spec := "sagaPicks", inPlace := ["math/bits.Add64", "slices.overlaps[lading/api.Order]", "slices.overlaps[lading/api.Cell]", "internal/bytealg.abigen_runtime_cmpstring", "slices.overlaps[lading/api.Kept]", "slices.overlaps[lading/api.Pay]", "slices.overlaps[lading/api.Shipment]"], unfollowed := true, recurses := true, apart := false }
def SagaPicksSaid : Prop := sagaPicksRow.holds Tryz.pinned (OpenSpec.ofChange sagaPicksSpec)

/-- ITS FALSE NEIGHBOUR: 'it returns false'. Refute it at one input. -/
def sagaPicksWrong : ChangeSpec := { name := "sagaPicks", fn := fun _ => fun
  | [d1, d2, d3, d4] => { results := [.lit (.bool false)], args := [d1, d2, d3, d4] }
  | _ => none }
def SagaPicksWrongFalsely : Prop := sagaPicksRow.holds Tryz.pinned (OpenSpec.ofChange sagaPicksWrong)

/-- 'ladinglaw17.SagaQueries': WHATEVER THE INPUT: true; the input reads as it did. -/
def sagaQueriesSpec : ChangeSpec := { name := "sagaQueries", fn := fun _ => fun
  | [d1, d2, d3, d4, d5] => { results := [.lit (.bool true)], args := [d1, d2, d3, d4, d5] }
  | _ => none }
def sagaQueriesRow : OpenClaim := { program := "ytnpliafeboadcaagreat", sum := "084b3bd0587307040c6e516be0ef0cdb1efd6748f1f7788b1a9354599c09711d", func := "lading/ladinglaw17.SagaQueries", spec := "sagaQueries", inPlace := ["math/bits.Add64", "slices.overlaps[lading/api.Order]", "slices.overlaps[lading/api.Cell]", "internal/bytealg.abigen_runtime_cmpstring", "slices.overlaps[lading/api.Kept]", "slices.overlaps[lading/api.Pay]", "slices.overlaps[lading/api.Shipment]"], unfollowed := true, recurses := true, apart := false }
def SagaQueriesSaid : Prop := sagaQueriesRow.holds Tryz.pinned (OpenSpec.ofChange sagaQueriesSpec)

/-- ITS FALSE NEIGHBOUR: 'it returns false'. Refute it at one input. -/
def sagaQueriesWrong : ChangeSpec := { name := "sagaQueries", fn := fun _ => fun
  | [d1, d2, d3, d4, d5] => { results := [.lit (.bool false)], args := [d1, d2, d3, d4, d5] }
  | _ => none }
def SagaQueriesWrongFalsely : Prop := sagaQueriesRow.holds Tryz.pinned (OpenSpec.ofChange sagaQueriesWrong)

/- THE SECOND FORM. 'bulk': how many values and letters a reading holds, each counted each time it is reached (what is shared counts as often as it is met; a slice's spare places count too). A statement '..UptoSaid' is the law's where the arguments, and the package variables that the reading takes, are together of bulk at most 1048576: NARROWER than '..Said'. Prove '..Said' where nothing that the law and all that it calls make is longer than what came in: it says more and counts as full. Else prove '..UptoSaid'. A law counts once. -/
mutual
def uptoBulk {H : Type} : DataW H → Nat
  | .lit (.string bytes) => bytes.length + 1
  | .lit _ => 1
  | .nil => 1
  | .ptr d => uptoBulk d + 1
  | .slice elems spare => uptoBulkAll elems + uptoBulkAll spare + 1
  | .agg parts => uptoBulkAll parts + 1
  | .iface _ d => uptoBulk d + 1
  | .map entries => uptoBulkEntries entries + 1
  | .held _ => 1
def uptoBulkAll {H : Type} : List (DataW H) → Nat
  | [] => 0
  | d :: r => uptoBulk d + uptoBulkAll r
def uptoBulkEntries {H : Type} : List (Lit × DataW H) → Nat
  | [] => 0
  | x :: r => uptoBulkEntry x + uptoBulkEntries r
def uptoBulkEntry {H : Type} : Lit × DataW H → Nat
  | (.string bytes, d) => bytes.length + uptoBulk d + 1
  | (_, d) => uptoBulk d + 1
 end
def uptoSmall : (H : Type) → List (DataW H) → Bool := fun _ ds => decide (uptoBulkAll ds ≤ 1048576)
def OpenSpec.upto (s : _root_.Go.ChangeSpec) : _root_.Go.OpenSpec := { _root_.Go.OpenSpec.ofChange s with cond := some uptoSmall }

/-- 'ladinglaw17.SagaHand', WHERE WHAT IT READS IS OF BULK AT MOST 1048576: true; the input reads as it did. -/
def sagaHandUptoRow : OpenClaim := { program := "ytnpliafeboadcaagreat", sum := "084b3bd0587307040c6e516be0ef0cdb1efd6748f1f7788b1a9354599c09711d", func := "lading/ladinglaw17.SagaHand", spec := "sagaHand", inPlace := ["math/bits.Add64", "slices.overlaps[lading/api.Order]", "slices.overlaps[lading/api.Cell]", "internal/bytealg.abigen_runtime_cmpstring", "slices.overlaps[lading/api.Kept]", "slices.overlaps[lading/api.Pay]", "slices.overlaps[lading/api.Shipment]"], unfollowed := true, recurses := true, apart := false, narrowed := true }
def SagaHandUptoSaid : Prop := sagaHandUptoRow.holds Tryz.pinned (OpenSpec.upto sagaHandSpec)

/-- 'ladinglaw17.SagaDoes', WHERE WHAT IT READS IS OF BULK AT MOST 1048576: true; the input reads as it did. -/
def sagaDoesUptoRow : OpenClaim := { program := "ytnpliafeboadcaagreat", sum := "084b3bd0587307040c6e516be0ef0cdb1efd6748f1f7788b1a9354599c09711d", func := "lading/ladinglaw17.SagaDoes", spec := "sagaDoes", inPlace := ["math/bits.Add64", "slices.overlaps[lading/api.Order]", "slices.overlaps[lading/api.Cell]", "internal/bytealg.abigen_runtime_cmpstring", "slices.overlaps[lading/api.Kept]", "slices.overlaps[lading/api.Pay]", "slices.overlaps[lading/api.Shipment]"], unfollowed := true, recurses := true, apart := false, narrowed := true }
def SagaDoesUptoSaid : Prop := sagaDoesUptoRow.holds Tryz.pinned (OpenSpec.upto sagaDoesSpec)

/-- 'ladinglaw17.SagaRight', WHERE WHAT IT READS IS OF BULK AT MOST 1048576: true; the input reads as it did. -/
def sagaRightUptoRow : OpenClaim := { program := "ytnpliafeboadcaagreat", sum := "084b3bd0587307040c6e516be0ef0cdb1efd6748f1f7788b1a9354599c09711d", func := "lading/ladinglaw17.SagaRight", spec := "sagaRight", inPlace := ["math/bits.Add64", "slices.overlaps[lading/api.Order]", "slices.overlaps[lading/api.Cell]", "internal/bytealg.abigen_runtime_cmpstring", "slices.overlaps[lading/api.Kept]", "slices.overlaps[lading/api.Pay]", "slices.overlaps[lading/api.Shipment]"], unfollowed := true, recurses := true, apart := false, narrowed := true }
def SagaRightUptoSaid : Prop := sagaRightUptoRow.holds Tryz.pinned (OpenSpec.upto sagaRightSpec)

/-- 'ladinglaw17.SagaSettles', WHERE WHAT IT READS IS OF BULK AT MOST 1048576: true; the input reads as it did. -/
def sagaSettlesUptoRow : OpenClaim := { program := "ytnpliafeboadcaagreat", sum := "084b3bd0587307040c6e516be0ef0cdb1efd6748f1f7788b1a9354599c09711d", func := "lading/ladinglaw17.SagaSettles", spec := "sagaSettles", inPlace := ["math/bits.Add64", "slices.overlaps[lading/api.Order]", "slices.overlaps[lading/api.Cell]", "internal/bytealg.abigen_runtime_cmpstring", "slices.overlaps[lading/api.Kept]", "slices.overlaps[lading/api.Pay]", "slices.overlaps[lading/api.Shipment]"], unfollowed := true, recurses := true, apart := false, narrowed := true }
def SagaSettlesUptoSaid : Prop := sagaSettlesUptoRow.holds Tryz.pinned (OpenSpec.upto sagaSettlesSpec)

/-- 'ladinglaw17.SagaTwice', WHERE WHAT IT READS IS OF BULK AT MOST 1048576: true; the input reads as it did. -/
def sagaTwiceUptoRow : OpenClaim := { program := "ytnpliafeboadcaagreat", sum := "084b3bd0587307040c6e516be0ef0cdb1efd6748f1f7788b1a9354599c09711d", func := "lading/ladinglaw17.SagaTwice", spec := "sagaTwice", inPlace := ["math/bits.Add64", "slices.overlaps[lading/api.Order]", "slices.overlaps[lading/api.Cell]", "internal/bytealg.abigen_runtime_cmpstring", "slices.overlaps[lading/api.Kept]", "slices.overlaps[lading/api.Pay]", "slices.overlaps[lading/api.Shipment]"], unfollowed := true, recurses := true, apart := false, narrowed := true }
def SagaTwiceUptoSaid : Prop := sagaTwiceUptoRow.holds Tryz.pinned (OpenSpec.upto sagaTwiceSpec)

/-- 'ladinglaw17.SagaFree', WHERE WHAT IT READS IS OF BULK AT MOST 1048576: true; the input reads as it did. -/
def sagaFreeUptoRow : OpenClaim := { program := "ytnpliafeboadcaagreat", sum := "084b3bd0587307040c6e516be0ef0cdb1efd6748f1f7788b1a9354599c09711d", func := "lading/ladinglaw17.SagaFree", spec := "sagaFree", inPlace := ["math/bits.Add64", "slices.overlaps[lading/api.Order]", "slices.overlaps[lading/api.Cell]", "internal/bytealg.abigen_runtime_cmpstring", "slices.overlaps[lading/api.Kept]", "slices.overlaps[lading/api.Pay]", "slices.overlaps[lading/api.Shipment]"], unfollowed := true, recurses := true, apart := false, narrowed := true }
def SagaFreeUptoSaid : Prop := sagaFreeUptoRow.holds Tryz.pinned (OpenSpec.upto sagaFreeSpec)

/-- 'ladinglaw17.SagaNothing', WHERE WHAT IT READS IS OF BULK AT MOST 1048576: true; the input reads as it did. -/
def sagaNothingUptoRow : OpenClaim := { program := "ytnpliafeboadcaagreat", sum := "084b3bd0587307040c6e516be0ef0cdb1efd6748f1f7788b1a9354599c09711d", func := "lading/ladinglaw17.SagaNothing", spec := "sagaNothing", inPlace := ["math/bits.Add64", "slices.overlaps[lading/api.Order]", "slices.overlaps[lading/api.Cell]", "internal/bytealg.abigen_runtime_cmpstring", "slices.overlaps[lading/api.Kept]", "slices.overlaps[lading/api.Pay]", "slices.overlaps[lading/api.Shipment]"], unfollowed := true, recurses := true, apart := false, narrowed := true }
def SagaNothingUptoSaid : Prop := sagaNothingUptoRow.holds Tryz.pinned (OpenSpec.upto sagaNothingSpec)

/-- 'ladinglaw17.SagaReturned', WHERE WHAT IT READS IS OF BULK AT MOST 1048576: true; the input reads as it did. -/
def sagaReturnedUptoRow : OpenClaim := { program := "ytnpliafeboadcaagreat", sum := "084b3bd0587307040c6e516be0ef0cdb1efd6748f1f7788b1a9354599c09711d", func := "lading/ladinglaw17.SagaReturned", spec := "sagaReturned", inPlace := ["math/bits.Add64", "slices.overlaps[lading/api.Order]", "slices.overlaps[lading/api.Cell]", "internal/bytealg.abigen_runtime_cmpstring", "slices.overlaps[lading/api.Kept]", "slices.overlaps[lading/api.Pay]", "slices.overlaps[lading/api.Shipment]"], unfollowed := true, recurses := true, apart := false, narrowed := true }
def SagaReturnedUptoSaid : Prop := sagaReturnedUptoRow.holds Tryz.pinned (OpenSpec.upto sagaReturnedSpec)

/-- 'ladinglaw17.SagaPicks', WHERE WHAT IT READS IS OF BULK AT MOST 1048576: true; the input reads as it did. -/
def sagaPicksUptoRow : OpenClaim := { program := "ytnpliafeboadcaagreat", sum := "084b3bd0587307040c6e516be0ef0cdb1efd6748f1f7788b1a9354599c09711d", func := "lading/ladinglaw17.SagaPicks", spec := "sagaPicks", inPlace := ["math/bits.Add64", "slices.overlaps[lading/api.Order]", "slices.overlaps[lading/api.Cell]", "internal/bytealg.abigen_runtime_cmpstring", "slices.overlaps[lading/api.Kept]", "slices.overlaps[lading/api.Pay]", "slices.overlaps[lading/api.Shipment]"], unfollowed := true, recurses := true, apart := false, narrowed := true }
def SagaPicksUptoSaid : Prop := sagaPicksUptoRow.holds Tryz.pinned (OpenSpec.upto sagaPicksSpec)

/-- 'ladinglaw17.SagaQueries', WHERE WHAT IT READS IS OF BULK AT MOST 1048576: true; the input reads as it did. -/
def sagaQueriesUptoRow : OpenClaim := { program := "ytnpliafeboadcaagreat", sum := "084b3bd0587307040c6e516be0ef0cdb1efd6748f1f7788b1a9354599c09711d", func := "lading/ladinglaw17.SagaQueries", spec := "sagaQueries", inPlace := ["math/bits.Add64", "slices.overlaps[lading/api.Order]", "slices.overlaps[lading/api.Cell]", "internal/bytealg.abigen_runtime_cmpstring", "slices.overlaps[lading/api.Kept]", "slices.overlaps[lading/api.Pay]", "slices.overlaps[lading/api.Shipment]"], unfollowed := true, recurses := true, apart := false, narrowed := true }
def SagaQueriesUptoSaid : Prop := sagaQueriesUptoRow.holds Tryz.pinned (OpenSpec.upto sagaQueriesSpec)

end Rows
end Go.Proofs.YtnpliafeboadcaaGreat
