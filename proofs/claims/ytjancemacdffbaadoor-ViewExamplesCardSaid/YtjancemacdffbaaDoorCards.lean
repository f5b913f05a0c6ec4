/-
  DERIVED. GIVEN WITH THE SEED: THE CARDS: each row of YtjancemacdffbaaDoorRows.lean that lists a variable, with what it lists TIED to the program's text (the seventh form; the later family's looks); each row that meets fmt, with fmt's text TOLD by the authors' own Lean function (tested against real Go, not proved from fmt's source: count such statements apart). THE CARD IS WHAT COUNTS. Prove the row's statement (the work); the ties are given (YtjancemacdffbaaDoorTie.lean); close each card by the builder's one call (the guide's Derived/Test/ToyasCard.lean, 'card_holds'). Laid BY PROGRAM, IN A SANDBOX (cutbox-door.mjs). By AI agents, Wed Nov 11 2026. No macro, syntax, notation, axiom, sorry.
-/
import Derived.Test.YtjancemacdffbaaDoorRows
import GoSem.ClaimSeven
namespace Go.Proofs.YtjancemacdffbaaDoor
namespace Rows

/-- THE TIED CARD OF 'weepholelaw27.LatticeOrder'. -/
def latticeOrderCard : Claim7 := { stood := { row := latticeOrderRow, standIns := [], harness := (true, "920bd13097c2ef520f9b7c03a26fde93ab6b6988189297b9bf3b636be3189ef9"), looks := false }, kinds := [], alts := [], laidByText := true, laidKinds := [.data], laidTests := true, laidLooks := .later }
def LatticeOrderCardSaid : Prop := Claim7.holds Tryd.pinned (.plain (OpenSpec.ofChange latticeOrderSpec)) latticeOrderCard

/-- THE TIED CARD OF 'weepholelaw27.LatticeLaws'. -/
def latticeLawsCard : Claim7 := { stood := { row := latticeLawsRow, standIns := [], harness := (true, "920bd13097c2ef520f9b7c03a26fde93ab6b6988189297b9bf3b636be3189ef9"), looks := false }, kinds := [], alts := [], laidByText := true, laidKinds := [.data], laidTests := true, laidLooks := .later }
def LatticeLawsCardSaid : Prop := Claim7.holds Tryd.pinned (.plain (OpenSpec.ofChange latticeLawsSpec)) latticeLawsCard

/-- THE TIED CARD OF 'weepholelaw27.LatticeTurns'. -/
def latticeTurnsCard : Claim7 := { stood := { row := latticeTurnsRow, standIns := [], harness := (true, "920bd13097c2ef520f9b7c03a26fde93ab6b6988189297b9bf3b636be3189ef9"), looks := false }, kinds := [], alts := [], laidByText := true, laidKinds := [.data], laidTests := true, laidLooks := .later }
def LatticeTurnsCardSaid : Prop := Claim7.holds Tryd.pinned (.plain (OpenSpec.ofChange latticeTurnsSpec)) latticeTurnsCard

/-- THE TIED CARD OF 'weepholelaw27.LatticeLoops'. -/
def latticeLoopsCard : Claim7 := { stood := { row := latticeLoopsRow, standIns := [], harness := (true, "920bd13097c2ef520f9b7c03a26fde93ab6b6988189297b9bf3b636be3189ef9"), looks := false }, kinds := [], alts := [], laidByText := true, laidKinds := [.data], laidTests := true, laidLooks := .later }
def LatticeLoopsCardSaid : Prop := Claim7.holds Tryd.pinned (.plain (OpenSpec.ofChange latticeLoopsSpec)) latticeLoopsCard

/-- THE TIED CARD OF 'weepholelaw27.LatticeMatches'. -/
def latticeMatchesCard : Claim7 := { stood := { row := latticeMatchesRow, standIns := [], harness := (true, "920bd13097c2ef520f9b7c03a26fde93ab6b6988189297b9bf3b636be3189ef9"), looks := false }, kinds := [], alts := [], laidByText := true, laidKinds := [.data], laidTests := true, laidLooks := .later }
def LatticeMatchesCardSaid : Prop := Claim7.holds Tryd.pinned (.plain (OpenSpec.ofChange latticeMatchesSpec)) latticeMatchesCard

/-- THE TIED CARD OF 'weepholelaw27.LatticeExamples'. -/
def latticeExamplesCard : Claim7 := { stood := { row := latticeExamplesRow, standIns := [], harness := (true, "920bd13097c2ef520f9b7c03a26fde93ab6b6988189297b9bf3b636be3189ef9"), looks := false }, kinds := [], alts := [], laidByText := true, laidKinds := [.data], laidTests := true, laidLooks := .later }
def LatticeExamplesCardSaid : Prop := Claim7.holds Tryd.pinned (.plain (OpenSpec.ofChange latticeExamplesSpec)) latticeExamplesCard

/-- THE TIED CARD OF 'weepholelaw33.ViewEvents'. -/
def viewEventsCard : Claim7 := { stood := { row := viewEventsRow, standIns := [], harness := (true, "920bd13097c2ef520f9b7c03a26fde93ab6b6988189297b9bf3b636be3189ef9"), looks := false }, kinds := [], alts := [], laidByText := true, laidKinds := [.data], laidTests := true, laidLooks := .later }
def ViewEventsCardSaid : Prop := Claim7.holds Tryd.pinned (.plain (OpenSpec.ofChange viewEventsSpec)) viewEventsCard

/-- THE TIED CARD OF 'weepholelaw33.ViewInputs'. -/
def viewInputsCard : Claim7 := { stood := { row := viewInputsRow, standIns := [], harness := (true, "920bd13097c2ef520f9b7c03a26fde93ab6b6988189297b9bf3b636be3189ef9"), looks := false }, kinds := [], alts := [], laidByText := true, laidKinds := [.data], laidTests := true, laidLooks := .later }
def ViewInputsCardSaid : Prop := Claim7.holds Tryd.pinned (.plain (OpenSpec.ofChange viewInputsSpec)) viewInputsCard

/-- THE TIED CARD OF 'weepholelaw33.ViewNests'. -/
def viewNestsCard : Claim7 := { stood := { row := viewNestsRow, standIns := [], harness := (true, "920bd13097c2ef520f9b7c03a26fde93ab6b6988189297b9bf3b636be3189ef9"), looks := false }, kinds := [], alts := [], laidByText := true, laidKinds := [.data], laidTests := true, laidLooks := .later }
def ViewNestsCardSaid : Prop := Claim7.holds Tryd.pinned (.plain (OpenSpec.ofChange viewNestsSpec)) viewNestsCard

/-- THE TIED CARD OF 'weepholelaw33.ViewEquals'. -/
def viewEqualsCard : Claim7 := { stood := { row := viewEqualsRow, standIns := [], harness := (true, "920bd13097c2ef520f9b7c03a26fde93ab6b6988189297b9bf3b636be3189ef9"), looks := false }, kinds := [], alts := [], laidByText := true, laidKinds := [.data], laidTests := true, laidLooks := .later }
def ViewEqualsCardSaid : Prop := Claim7.holds Tryd.pinned (.plain (OpenSpec.ofChange viewEqualsSpec)) viewEqualsCard

/-- THE TIED CARD OF 'weepholelaw33.ViewPrefix'. -/
def viewPrefixCard : Claim7 := { stood := { row := viewPrefixRow, standIns := [], harness := (true, "920bd13097c2ef520f9b7c03a26fde93ab6b6988189297b9bf3b636be3189ef9"), looks := false }, kinds := [], alts := [], laidByText := true, laidKinds := [.data], laidTests := true, laidLooks := .later }
def ViewPrefixCardSaid : Prop := Claim7.holds Tryd.pinned (.plain (OpenSpec.ofChange viewPrefixSpec)) viewPrefixCard

/-- THE TIED CARD OF 'weepholelaw33.ViewExamples'. -/
def viewExamplesCard : Claim7 := { stood := { row := viewExamplesRow, standIns := [], harness := (true, "920bd13097c2ef520f9b7c03a26fde93ab6b6988189297b9bf3b636be3189ef9"), looks := false }, kinds := [], alts := [], laidByText := true, laidKinds := [.data], laidTests := true, laidLooks := .later }
def ViewExamplesCardSaid : Prop := Claim7.holds Tryd.pinned (.plain (OpenSpec.ofChange viewExamplesSpec)) viewExamplesCard

/-- THE TIED CARD OF 'weepholelaw33.ViewBegins'. -/
def viewBeginsCard : Claim7 := { stood := { row := viewBeginsRow, standIns := [], harness := (true, "920bd13097c2ef520f9b7c03a26fde93ab6b6988189297b9bf3b636be3189ef9"), looks := false }, kinds := [], alts := [], laidByText := true, laidKinds := [.data], laidTests := true, laidLooks := .later }
def ViewBeginsCardSaid : Prop := Claim7.holds Tryd.pinned (.plain (OpenSpec.ofChange viewBeginsSpec)) viewBeginsCard

/-- THE SECOND FORM's CARD OF 'weepholelaw27.LatticeOrder'. -/
def latticeOrderUptoCard : Claim7 := { stood := { row := latticeOrderUptoRow, standIns := [], harness := (true, "920bd13097c2ef520f9b7c03a26fde93ab6b6988189297b9bf3b636be3189ef9"), looks := false }, kinds := [], alts := [], laidByText := true, laidKinds := [.data], laidTests := true, laidLooks := .later }
def LatticeOrderUptoCardSaid : Prop := Claim7.holds Tryd.pinned (.plain (OpenSpec.upto latticeOrderSpec)) latticeOrderUptoCard

/-- THE SECOND FORM's CARD OF 'weepholelaw27.LatticeLaws'. -/
def latticeLawsUptoCard : Claim7 := { stood := { row := latticeLawsUptoRow, standIns := [], harness := (true, "920bd13097c2ef520f9b7c03a26fde93ab6b6988189297b9bf3b636be3189ef9"), looks := false }, kinds := [], alts := [], laidByText := true, laidKinds := [.data], laidTests := true, laidLooks := .later }
def LatticeLawsUptoCardSaid : Prop := Claim7.holds Tryd.pinned (.plain (OpenSpec.upto latticeLawsSpec)) latticeLawsUptoCard

/-- THE SECOND FORM's CARD OF 'weepholelaw27.LatticeTurns'. -/
def latticeTurnsUptoCard : Claim7 := { stood := { row := latticeTurnsUptoRow, standIns := [], harness := (true, "920bd13097c2ef520f9b7c03a26fde93ab6b6988189297b9bf3b636be3189ef9"), looks := false }, kinds := [], alts := [], laidByText := true, laidKinds := [.data], laidTests := true, laidLooks := .later }
def LatticeTurnsUptoCardSaid : Prop := Claim7.holds Tryd.pinned (.plain (OpenSpec.upto latticeTurnsSpec)) latticeTurnsUptoCard

/-- THE SECOND FORM's CARD OF 'weepholelaw27.LatticeLoops'. -/
def latticeLoopsUptoCard : Claim7 := { stood := { row := latticeLoopsUptoRow, standIns := [], harness := (true, "920bd13097c2ef520f9b7c03a26fde93ab6b6988189297b9bf3b636be3189ef9"), looks := false }, kinds := [], alts := [], laidByText := true, laidKinds := [.data], laidTests := true, laidLooks := .later }
def LatticeLoopsUptoCardSaid : Prop := Claim7.holds Tryd.pinned (.plain (OpenSpec.upto latticeLoopsSpec)) latticeLoopsUptoCard

/-- THE SECOND FORM's CARD OF 'weepholelaw27.LatticeMatches'. -/
def latticeMatchesUptoCard : Claim7 := { stood := { row := latticeMatchesUptoRow, standIns := [], harness := (true, "920bd13097c2ef520f9b7c03a26fde93ab6b6988189297b9bf3b636be3189ef9"), looks := false }, kinds := [], alts := [], laidByText := true, laidKinds := [.data], laidTests := true, laidLooks := .later }
def LatticeMatchesUptoCardSaid : Prop := Claim7.holds Tryd.pinned (.plain (OpenSpec.upto latticeMatchesSpec)) latticeMatchesUptoCard

/-- THE SECOND FORM's CARD OF 'weepholelaw27.LatticeExamples'. -/
def latticeExamplesUptoCard : Claim7 := { stood := { row := latticeExamplesUptoRow, standIns := [], harness := (true, "920bd13097c2ef520f9b7c03a26fde93ab6b6988189297b9bf3b636be3189ef9"), looks := false }, kinds := [], alts := [], laidByText := true, laidKinds := [.data], laidTests := true, laidLooks := .later }
def LatticeExamplesUptoCardSaid : Prop := Claim7.holds Tryd.pinned (.plain (OpenSpec.upto latticeExamplesSpec)) latticeExamplesUptoCard

/-- THE SECOND FORM's CARD OF 'weepholelaw33.ViewEvents'. -/
def viewEventsUptoCard : Claim7 := { stood := { row := viewEventsUptoRow, standIns := [], harness := (true, "920bd13097c2ef520f9b7c03a26fde93ab6b6988189297b9bf3b636be3189ef9"), looks := false }, kinds := [], alts := [], laidByText := true, laidKinds := [.data], laidTests := true, laidLooks := .later }
def ViewEventsUptoCardSaid : Prop := Claim7.holds Tryd.pinned (.plain (OpenSpec.upto viewEventsSpec)) viewEventsUptoCard

/-- THE SECOND FORM's CARD OF 'weepholelaw33.ViewInputs'. -/
def viewInputsUptoCard : Claim7 := { stood := { row := viewInputsUptoRow, standIns := [], harness := (true, "920bd13097c2ef520f9b7c03a26fde93ab6b6988189297b9bf3b636be3189ef9"), looks := false }, kinds := [], alts := [], laidByText := true, laidKinds := [.data], laidTests := true, laidLooks := .later }
def ViewInputsUptoCardSaid : Prop := Claim7.holds Tryd.pinned (.plain (OpenSpec.upto viewInputsSpec)) viewInputsUptoCard

/-- THE SECOND FORM's CARD OF 'weepholelaw33.ViewNests'. -/
def viewNestsUptoCard : Claim7 := { stood := { row := viewNestsUptoRow, standIns := [], harness := (true, "920bd13097c2ef520f9b7c03a26fde93ab6b6988189297b9bf3b636be3189ef9"), looks := false }, kinds := [], alts := [], laidByText := true, laidKinds := [.data], laidTests := true, laidLooks := .later }
def ViewNestsUptoCardSaid : Prop := Claim7.holds Tryd.pinned (.plain (OpenSpec.upto viewNestsSpec)) viewNestsUptoCard

/-- THE SECOND FORM's CARD OF 'weepholelaw33.ViewEquals'. -/
def viewEqualsUptoCard : Claim7 := { stood := { row := viewEqualsUptoRow, standIns := [], harness := (true, "920bd13097c2ef520f9b7c03a26fde93ab6b6988189297b9bf3b636be3189ef9"), looks := false }, kinds := [], alts := [], laidByText := true, laidKinds := [.data], laidTests := true, laidLooks := .later }
def ViewEqualsUptoCardSaid : Prop := Claim7.holds Tryd.pinned (.plain (OpenSpec.upto viewEqualsSpec)) viewEqualsUptoCard

/-- THE SECOND FORM's CARD OF 'weepholelaw33.ViewPrefix'. -/
def viewPrefixUptoCard : Claim7 := { stood := { row := viewPrefixUptoRow, standIns := [], harness := (true, "920bd13097c2ef520f9b7c03a26fde93ab6b6988189297b9bf3b636be3189ef9"), looks := false }, kinds := [], alts := [], laidByText := true, laidKinds := [.data], laidTests := true, laidLooks := .later }
def ViewPrefixUptoCardSaid : Prop := Claim7.holds Tryd.pinned (.plain (OpenSpec.upto viewPrefixSpec)) viewPrefixUptoCard

/-- THE SECOND FORM's CARD OF 'weepholelaw33.ViewExamples'. -/
def viewExamplesUptoCard : Claim7 := { stood := { row := viewExamplesUptoRow, standIns := [], harness := (true, "920bd13097c2ef520f9b7c03a26fde93ab6b6988189297b9bf3b636be3189ef9"), looks := false }, kinds := [], alts := [], laidByText := true, laidKinds := [.data], laidTests := true, laidLooks := .later }
def ViewExamplesUptoCardSaid : Prop := Claim7.holds Tryd.pinned (.plain (OpenSpec.upto viewExamplesSpec)) viewExamplesUptoCard

/-- THE SECOND FORM's CARD OF 'weepholelaw33.ViewBegins'. -/
def viewBeginsUptoCard : Claim7 := { stood := { row := viewBeginsUptoRow, standIns := [], harness := (true, "920bd13097c2ef520f9b7c03a26fde93ab6b6988189297b9bf3b636be3189ef9"), looks := false }, kinds := [], alts := [], laidByText := true, laidKinds := [.data], laidTests := true, laidLooks := .later }
def ViewBeginsUptoCardSaid : Prop := Claim7.holds Tryd.pinned (.plain (OpenSpec.upto viewBeginsSpec)) viewBeginsUptoCard
end Rows
end Go.Proofs.YtjancemacdffbaaDoor
