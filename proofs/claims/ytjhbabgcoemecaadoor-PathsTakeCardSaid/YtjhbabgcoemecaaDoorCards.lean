/-
  DERIVED. GIVEN WITH THE SEED: THE CARDS: each row of YtjhbabgcoemecaaDoorRows.lean that lists a variable, with what it lists TIED to the program's text (the seventh form; the later family's looks); each row that meets fmt, with fmt's text TOLD by the authors' own Lean function (tested against real Go, not proved from fmt's source: count such statements apart). THE CARD IS WHAT COUNTS. Prove the row's statement (the work); the ties are given (YtjhbabgcoemecaaDoorTie.lean); close each card by the builder's one call (the guide's Derived/Test/ToyasCard.lean, 'card_holds'). Laid BY PROGRAM, IN A SANDBOX (cutbox-door.mjs). By AI agents, Wed Nov 11 2026. No macro, syntax, notation, axiom, sorry.
-/
import Derived.Test.YtjhbabgcoemecaaDoorRows
import GoSem.ClaimSeven
namespace Go.Proofs.YtjhbabgcoemecaaDoor
namespace Rows

/-- THE TIED CARD OF 'weepholelaw31.ExploreInputs'. -/
def exploreInputsCard : Claim7 := { stood := { row := exploreInputsRow, standIns := [], harness := (true, "2c1b61cbd042b87c5bfb954049298f13d29de5471fbb7442ef087d6ac8429b8a"), looks := true }, kinds := [], alts := [], laidByText := true, laidKinds := [.data, .funcs], laidTests := true, laidLooks := .later }
def ExploreInputsCardSaid : Prop := Claim7.holds Tryd.pinned (.plain (OpenSpec.ofChange exploreInputsSpec)) exploreInputsCard

/-- THE TIED CARD OF 'weepholelaw31.ExploreExamples'. -/
def exploreExamplesCard : Claim7 := { stood := { row := exploreExamplesRow, standIns := [], harness := (true, "2c1b61cbd042b87c5bfb954049298f13d29de5471fbb7442ef087d6ac8429b8a"), looks := true }, kinds := [], alts := [], laidByText := true, laidKinds := [.data, .funcs], laidTests := true, laidLooks := .later }
def ExploreExamplesCardSaid : Prop := Claim7.holds Tryd.pinned (.plain (OpenSpec.ofChange exploreExamplesSpec)) exploreExamplesCard

/-- THE TIED CARD OF 'weepholelaw32.PathsNumbers'. -/
def pathsNumbersCard : Claim7 := { stood := { row := pathsNumbersRow, standIns := [], harness := (true, "2c1b61cbd042b87c5bfb954049298f13d29de5471fbb7442ef087d6ac8429b8a"), looks := true }, kinds := [], alts := [], laidByText := true, laidKinds := [.data, .funcs], laidTests := true, laidLooks := .later }
def PathsNumbersCardSaid : Prop := Claim7.holds Tryd.pinned (.plain (OpenSpec.ofChange pathsNumbersSpec)) pathsNumbersCard

/-- THE TIED CARD OF 'weepholelaw32.PathsVals'. -/
def pathsValsCard : Claim7 := { stood := { row := pathsValsRow, standIns := [], harness := (true, "2c1b61cbd042b87c5bfb954049298f13d29de5471fbb7442ef087d6ac8429b8a"), looks := true }, kinds := [], alts := [], laidByText := true, laidKinds := [.data, .funcs], laidTests := true, laidLooks := .later }
def PathsValsCardSaid : Prop := Claim7.holds Tryd.pinned (.plain (OpenSpec.ofChange pathsValsSpec)) pathsValsCard

/-- THE TIED CARD OF 'weepholelaw32.PathsBack'. -/
def pathsBackCard : Claim7 := { stood := { row := pathsBackRow, standIns := [], harness := (true, "2c1b61cbd042b87c5bfb954049298f13d29de5471fbb7442ef087d6ac8429b8a"), looks := true }, kinds := [], alts := [], laidByText := true, laidKinds := [.data, .funcs], laidTests := true, laidLooks := .later }
def PathsBackCardSaid : Prop := Claim7.holds Tryd.pinned (.plain (OpenSpec.ofChange pathsBackSpec)) pathsBackCard

/-- THE TIED CARD OF 'weepholelaw32.PathsBlind'. -/
def pathsBlindCard : Claim7 := { stood := { row := pathsBlindRow, standIns := [], harness := (true, "2c1b61cbd042b87c5bfb954049298f13d29de5471fbb7442ef087d6ac8429b8a"), looks := true }, kinds := [], alts := [], laidByText := true, laidKinds := [.data, .funcs], laidTests := true, laidLooks := .later }
def PathsBlindCardSaid : Prop := Claim7.holds Tryd.pinned (.plain (OpenSpec.ofChange pathsBlindSpec)) pathsBlindCard

/-- THE TIED CARD OF 'weepholelaw32.PathsTake'. -/
def pathsTakeCard : Claim7 := { stood := { row := pathsTakeRow, standIns := [], harness := (true, "2c1b61cbd042b87c5bfb954049298f13d29de5471fbb7442ef087d6ac8429b8a"), looks := true }, kinds := [], alts := [], laidByText := true, laidKinds := [.data, .funcs], laidTests := true, laidLooks := .later }
def PathsTakeCardSaid : Prop := Claim7.holds Tryd.pinned (.plain (OpenSpec.ofChange pathsTakeSpec)) pathsTakeCard

/-- THE TIED CARD OF 'weepholelaw32.PathsExamples'. -/
def pathsExamplesCard : Claim7 := { stood := { row := pathsExamplesRow, standIns := [], harness := (true, "2c1b61cbd042b87c5bfb954049298f13d29de5471fbb7442ef087d6ac8429b8a"), looks := true }, kinds := [], alts := [], laidByText := true, laidKinds := [.data, .funcs], laidTests := true, laidLooks := .later }
def PathsExamplesCardSaid : Prop := Claim7.holds Tryd.pinned (.plain (OpenSpec.ofChange pathsExamplesSpec)) pathsExamplesCard

/-- THE SECOND FORM's CARD OF 'weepholelaw31.ExploreInputs'. -/
def exploreInputsUptoCard : Claim7 := { stood := { row := exploreInputsUptoRow, standIns := [], harness := (true, "2c1b61cbd042b87c5bfb954049298f13d29de5471fbb7442ef087d6ac8429b8a"), looks := true }, kinds := [], alts := [], laidByText := true, laidKinds := [.data, .funcs], laidTests := true, laidLooks := .later }
def ExploreInputsUptoCardSaid : Prop := Claim7.holds Tryd.pinned (.plain (OpenSpec.upto exploreInputsSpec)) exploreInputsUptoCard

/-- THE SECOND FORM's CARD OF 'weepholelaw31.ExploreExamples'. -/
def exploreExamplesUptoCard : Claim7 := { stood := { row := exploreExamplesUptoRow, standIns := [], harness := (true, "2c1b61cbd042b87c5bfb954049298f13d29de5471fbb7442ef087d6ac8429b8a"), looks := true }, kinds := [], alts := [], laidByText := true, laidKinds := [.data, .funcs], laidTests := true, laidLooks := .later }
def ExploreExamplesUptoCardSaid : Prop := Claim7.holds Tryd.pinned (.plain (OpenSpec.upto exploreExamplesSpec)) exploreExamplesUptoCard

/-- THE SECOND FORM's CARD OF 'weepholelaw32.PathsNumbers'. -/
def pathsNumbersUptoCard : Claim7 := { stood := { row := pathsNumbersUptoRow, standIns := [], harness := (true, "2c1b61cbd042b87c5bfb954049298f13d29de5471fbb7442ef087d6ac8429b8a"), looks := true }, kinds := [], alts := [], laidByText := true, laidKinds := [.data, .funcs], laidTests := true, laidLooks := .later }
def PathsNumbersUptoCardSaid : Prop := Claim7.holds Tryd.pinned (.plain (OpenSpec.upto pathsNumbersSpec)) pathsNumbersUptoCard

/-- THE SECOND FORM's CARD OF 'weepholelaw32.PathsVals'. -/
def pathsValsUptoCard : Claim7 := { stood := { row := pathsValsUptoRow, standIns := [], harness := (true, "2c1b61cbd042b87c5bfb954049298f13d29de5471fbb7442ef087d6ac8429b8a"), looks := true }, kinds := [], alts := [], laidByText := true, laidKinds := [.data, .funcs], laidTests := true, laidLooks := .later }
def PathsValsUptoCardSaid : Prop := Claim7.holds Tryd.pinned (.plain (OpenSpec.upto pathsValsSpec)) pathsValsUptoCard

/-- THE SECOND FORM's CARD OF 'weepholelaw32.PathsBack'. -/
def pathsBackUptoCard : Claim7 := { stood := { row := pathsBackUptoRow, standIns := [], harness := (true, "2c1b61cbd042b87c5bfb954049298f13d29de5471fbb7442ef087d6ac8429b8a"), looks := true }, kinds := [], alts := [], laidByText := true, laidKinds := [.data, .funcs], laidTests := true, laidLooks := .later }
def PathsBackUptoCardSaid : Prop := Claim7.holds Tryd.pinned (.plain (OpenSpec.upto pathsBackSpec)) pathsBackUptoCard

/-- THE SECOND FORM's CARD OF 'weepholelaw32.PathsBlind'. -/
def pathsBlindUptoCard : Claim7 := { stood := { row := pathsBlindUptoRow, standIns := [], harness := (true, "2c1b61cbd042b87c5bfb954049298f13d29de5471fbb7442ef087d6ac8429b8a"), looks := true }, kinds := [], alts := [], laidByText := true, laidKinds := [.data, .funcs], laidTests := true, laidLooks := .later }
def PathsBlindUptoCardSaid : Prop := Claim7.holds Tryd.pinned (.plain (OpenSpec.upto pathsBlindSpec)) pathsBlindUptoCard

/-- THE SECOND FORM's CARD OF 'weepholelaw32.PathsTake'. -/
def pathsTakeUptoCard : Claim7 := { stood := { row := pathsTakeUptoRow, standIns := [], harness := (true, "2c1b61cbd042b87c5bfb954049298f13d29de5471fbb7442ef087d6ac8429b8a"), looks := true }, kinds := [], alts := [], laidByText := true, laidKinds := [.data, .funcs], laidTests := true, laidLooks := .later }
def PathsTakeUptoCardSaid : Prop := Claim7.holds Tryd.pinned (.plain (OpenSpec.upto pathsTakeSpec)) pathsTakeUptoCard

/-- THE SECOND FORM's CARD OF 'weepholelaw32.PathsExamples'. -/
def pathsExamplesUptoCard : Claim7 := { stood := { row := pathsExamplesUptoRow, standIns := [], harness := (true, "2c1b61cbd042b87c5bfb954049298f13d29de5471fbb7442ef087d6ac8429b8a"), looks := true }, kinds := [], alts := [], laidByText := true, laidKinds := [.data, .funcs], laidTests := true, laidLooks := .later }
def PathsExamplesUptoCardSaid : Prop := Claim7.holds Tryd.pinned (.plain (OpenSpec.upto pathsExamplesSpec)) pathsExamplesUptoCard
end Rows
end Go.Proofs.YtjhbabgcoemecaaDoor
