/-
  DERIVED. GIVEN WITH THE SEED: THE CARDS: each row of YtchbobndobpocaaDoorRows.lean that lists a variable, with what it lists TIED to the program's text (the seventh form; the later family's looks); each row that meets fmt, with fmt's text TOLD by the authors' own Lean function (tested against real Go, not proved from fmt's source: count such statements apart). THE CARD IS WHAT COUNTS. Prove the row's statement (the work); the ties are given (YtchbobndobpocaaDoorTie.lean); close each card by the builder's one call (the guide's Derived/Test/ToyasCard.lean, 'card_holds'). Laid BY PROGRAM, IN A SANDBOX (cutbox-door.mjs). By AI agents, Wed Nov 11 2026. No macro, syntax, notation, axiom, sorry.
-/
import Derived.Test.YtchbobndobpocaaDoorRows
import GoSem.ClaimSeven
namespace Go.Proofs.YtchbobndobpocaaDoor
namespace Rows

/-- THE TIED CARD OF 'ladinglaw01.MoneyShares'. -/
def moneySharesCard : Claim7 := { stood := { row := moneySharesRow, standIns := [], harness := (true, "14e6fc5a9b68729ee4c3e5033e0cf49830c54577ae21eab2429de810227e5edb"), looks := true }, kinds := [], alts := [], laidByText := true, laidKinds := [.data, .data, .data, .data, .sentinel, .sentinel, .pinned], laidTests := true, laidLooks := .later }
def MoneySharesCardSaid : Prop := Claim7.holds Tryd.pinned (.plain (OpenSpec.ofChange moneySharesSpec)) moneySharesCard

/-- THE TIED CARD OF 'ladinglaw01.MoneyTexts'. -/
def moneyTextsCard : Claim7 := { stood := { row := moneyTextsRow, standIns := [], harness := (true, "14e6fc5a9b68729ee4c3e5033e0cf49830c54577ae21eab2429de810227e5edb"), looks := true }, kinds := [], alts := [], laidByText := true, laidKinds := [.data, .data, .data, .data, .sentinel, .sentinel, .pinned], laidTests := true, laidLooks := .later }
def MoneyTextsCardSaid : Prop := Claim7.holds Tryd.pinned (.plain (OpenSpec.ofChange moneyTextsSpec)) moneyTextsCard

/-- THE TIED CARD OF 'ladinglaw01.MoneyBack'. -/
def moneyBackCard : Claim7 := { stood := { row := moneyBackRow, standIns := [], harness := (true, "14e6fc5a9b68729ee4c3e5033e0cf49830c54577ae21eab2429de810227e5edb"), looks := true }, kinds := [], alts := [], laidByText := true, laidKinds := [.data, .data, .data, .data, .sentinel, .sentinel, .pinned], laidTests := true, laidLooks := .later }
def MoneyBackCardSaid : Prop := Claim7.holds Tryd.pinned (.plain (OpenSpec.ofChange moneyBackSpec)) moneyBackCard

/-- THE TIED CARD OF 'ladinglaw01.MoneyOrder'. -/
def moneyOrderCard : Claim7 := { stood := { row := moneyOrderRow, standIns := [], harness := (true, "14e6fc5a9b68729ee4c3e5033e0cf49830c54577ae21eab2429de810227e5edb"), looks := true }, kinds := [], alts := [], laidByText := true, laidKinds := [.data, .data, .data, .data, .sentinel, .sentinel, .pinned], laidTests := true, laidLooks := .later }
def MoneyOrderCardSaid : Prop := Claim7.holds Tryd.pinned (.plain (OpenSpec.ofChange moneyOrderSpec)) moneyOrderCard

/-- THE TIED CARD OF 'ladinglaw01.MoneyRing'. -/
def moneyRingCard : Claim7 := { stood := { row := moneyRingRow, standIns := [], harness := (true, "14e6fc5a9b68729ee4c3e5033e0cf49830c54577ae21eab2429de810227e5edb"), looks := true }, kinds := [], alts := [], laidByText := true, laidKinds := [.data, .data, .data, .data, .sentinel, .sentinel, .pinned], laidTests := true, laidLooks := .later }
def MoneyRingCardSaid : Prop := Claim7.holds Tryd.pinned (.plain (OpenSpec.ofChange moneyRingSpec)) moneyRingCard

/-- THE TIED CARD OF 'ladinglaw01.MoneyWhole'. -/
def moneyWholeCard : Claim7 := { stood := { row := moneyWholeRow, standIns := [], harness := (true, "14e6fc5a9b68729ee4c3e5033e0cf49830c54577ae21eab2429de810227e5edb"), looks := true }, kinds := [], alts := [], laidByText := true, laidKinds := [.data, .data, .data, .data, .sentinel, .sentinel, .pinned], laidTests := true, laidLooks := .later }
def MoneyWholeCardSaid : Prop := Claim7.holds Tryd.pinned (.plain (OpenSpec.ofChange moneyWholeSpec)) moneyWholeCard

/-- THE TIED CARD OF 'ladinglaw01.MoneySums'. -/
def moneySumsCard : Claim7 := { stood := { row := moneySumsRow, standIns := [], harness := (true, "14e6fc5a9b68729ee4c3e5033e0cf49830c54577ae21eab2429de810227e5edb"), looks := true }, kinds := [], alts := [], laidByText := true, laidKinds := [.data, .data, .data, .data, .sentinel, .sentinel, .pinned], laidTests := true, laidLooks := .later }
def MoneySumsCardSaid : Prop := Claim7.holds Tryd.pinned (.plain (OpenSpec.ofChange moneySumsSpec)) moneySumsCard

/-- THE TIED CARD OF 'ladinglaw01.MoneyTotals'. -/
def moneyTotalsCard : Claim7 := { stood := { row := moneyTotalsRow, standIns := [], harness := (true, "14e6fc5a9b68729ee4c3e5033e0cf49830c54577ae21eab2429de810227e5edb"), looks := true }, kinds := [], alts := [], laidByText := true, laidKinds := [.data, .data, .data, .data, .sentinel, .sentinel, .pinned], laidTests := true, laidLooks := .later }
def MoneyTotalsCardSaid : Prop := Claim7.holds Tryd.pinned (.plain (OpenSpec.ofChange moneyTotalsSpec)) moneyTotalsCard

/-- THE TIED CARD OF 'ladinglaw01.MoneyLines'. -/
def moneyLinesCard : Claim7 := { stood := { row := moneyLinesRow, standIns := [], harness := (true, "14e6fc5a9b68729ee4c3e5033e0cf49830c54577ae21eab2429de810227e5edb"), looks := true }, kinds := [], alts := [], laidByText := true, laidKinds := [.data, .data, .data, .data, .sentinel, .sentinel, .pinned], laidTests := true, laidLooks := .later }
def MoneyLinesCardSaid : Prop := Claim7.holds Tryd.pinned (.plain (OpenSpec.ofChange moneyLinesSpec)) moneyLinesCard

/-- THE SECOND FORM's CARD OF 'ladinglaw01.MoneyShares'. -/
def moneySharesUptoCard : Claim7 := { stood := { row := moneySharesUptoRow, standIns := [], harness := (true, "14e6fc5a9b68729ee4c3e5033e0cf49830c54577ae21eab2429de810227e5edb"), looks := true }, kinds := [], alts := [], laidByText := true, laidKinds := [.data, .data, .data, .data, .sentinel, .sentinel, .pinned], laidTests := true, laidLooks := .later }
def MoneySharesUptoCardSaid : Prop := Claim7.holds Tryd.pinned (.plain (OpenSpec.upto moneySharesSpec)) moneySharesUptoCard

/-- THE SECOND FORM's CARD OF 'ladinglaw01.MoneyTexts'. -/
def moneyTextsUptoCard : Claim7 := { stood := { row := moneyTextsUptoRow, standIns := [], harness := (true, "14e6fc5a9b68729ee4c3e5033e0cf49830c54577ae21eab2429de810227e5edb"), looks := true }, kinds := [], alts := [], laidByText := true, laidKinds := [.data, .data, .data, .data, .sentinel, .sentinel, .pinned], laidTests := true, laidLooks := .later }
def MoneyTextsUptoCardSaid : Prop := Claim7.holds Tryd.pinned (.plain (OpenSpec.upto moneyTextsSpec)) moneyTextsUptoCard

/-- THE SECOND FORM's CARD OF 'ladinglaw01.MoneyBack'. -/
def moneyBackUptoCard : Claim7 := { stood := { row := moneyBackUptoRow, standIns := [], harness := (true, "14e6fc5a9b68729ee4c3e5033e0cf49830c54577ae21eab2429de810227e5edb"), looks := true }, kinds := [], alts := [], laidByText := true, laidKinds := [.data, .data, .data, .data, .sentinel, .sentinel, .pinned], laidTests := true, laidLooks := .later }
def MoneyBackUptoCardSaid : Prop := Claim7.holds Tryd.pinned (.plain (OpenSpec.upto moneyBackSpec)) moneyBackUptoCard

/-- THE SECOND FORM's CARD OF 'ladinglaw01.MoneyOrder'. -/
def moneyOrderUptoCard : Claim7 := { stood := { row := moneyOrderUptoRow, standIns := [], harness := (true, "14e6fc5a9b68729ee4c3e5033e0cf49830c54577ae21eab2429de810227e5edb"), looks := true }, kinds := [], alts := [], laidByText := true, laidKinds := [.data, .data, .data, .data, .sentinel, .sentinel, .pinned], laidTests := true, laidLooks := .later }
def MoneyOrderUptoCardSaid : Prop := Claim7.holds Tryd.pinned (.plain (OpenSpec.upto moneyOrderSpec)) moneyOrderUptoCard

/-- THE SECOND FORM's CARD OF 'ladinglaw01.MoneyRing'. -/
def moneyRingUptoCard : Claim7 := { stood := { row := moneyRingUptoRow, standIns := [], harness := (true, "14e6fc5a9b68729ee4c3e5033e0cf49830c54577ae21eab2429de810227e5edb"), looks := true }, kinds := [], alts := [], laidByText := true, laidKinds := [.data, .data, .data, .data, .sentinel, .sentinel, .pinned], laidTests := true, laidLooks := .later }
def MoneyRingUptoCardSaid : Prop := Claim7.holds Tryd.pinned (.plain (OpenSpec.upto moneyRingSpec)) moneyRingUptoCard

/-- THE SECOND FORM's CARD OF 'ladinglaw01.MoneyWhole'. -/
def moneyWholeUptoCard : Claim7 := { stood := { row := moneyWholeUptoRow, standIns := [], harness := (true, "14e6fc5a9b68729ee4c3e5033e0cf49830c54577ae21eab2429de810227e5edb"), looks := true }, kinds := [], alts := [], laidByText := true, laidKinds := [.data, .data, .data, .data, .sentinel, .sentinel, .pinned], laidTests := true, laidLooks := .later }
def MoneyWholeUptoCardSaid : Prop := Claim7.holds Tryd.pinned (.plain (OpenSpec.upto moneyWholeSpec)) moneyWholeUptoCard

/-- THE SECOND FORM's CARD OF 'ladinglaw01.MoneySums'. -/
def moneySumsUptoCard : Claim7 := { stood := { row := moneySumsUptoRow, standIns := [], harness := (true, "14e6fc5a9b68729ee4c3e5033e0cf49830c54577ae21eab2429de810227e5edb"), looks := true }, kinds := [], alts := [], laidByText := true, laidKinds := [.data, .data, .data, .data, .sentinel, .sentinel, .pinned], laidTests := true, laidLooks := .later }
def MoneySumsUptoCardSaid : Prop := Claim7.holds Tryd.pinned (.plain (OpenSpec.upto moneySumsSpec)) moneySumsUptoCard

/-- THE SECOND FORM's CARD OF 'ladinglaw01.MoneyTotals'. -/
def moneyTotalsUptoCard : Claim7 := { stood := { row := moneyTotalsUptoRow, standIns := [], harness := (true, "14e6fc5a9b68729ee4c3e5033e0cf49830c54577ae21eab2429de810227e5edb"), looks := true }, kinds := [], alts := [], laidByText := true, laidKinds := [.data, .data, .data, .data, .sentinel, .sentinel, .pinned], laidTests := true, laidLooks := .later }
def MoneyTotalsUptoCardSaid : Prop := Claim7.holds Tryd.pinned (.plain (OpenSpec.upto moneyTotalsSpec)) moneyTotalsUptoCard

/-- THE SECOND FORM's CARD OF 'ladinglaw01.MoneyLines'. -/
def moneyLinesUptoCard : Claim7 := { stood := { row := moneyLinesUptoRow, standIns := [], harness := (true, "14e6fc5a9b68729ee4c3e5033e0cf49830c54577ae21eab2429de810227e5edb"), looks := true }, kinds := [], alts := [], laidByText := true, laidKinds := [.data, .data, .data, .data, .sentinel, .sentinel, .pinned], laidTests := true, laidLooks := .later }
def MoneyLinesUptoCardSaid : Prop := Claim7.holds Tryd.pinned (.plain (OpenSpec.upto moneyLinesSpec)) moneyLinesUptoCard
end Rows
end Go.Proofs.YtchbobndobpocaaDoor
