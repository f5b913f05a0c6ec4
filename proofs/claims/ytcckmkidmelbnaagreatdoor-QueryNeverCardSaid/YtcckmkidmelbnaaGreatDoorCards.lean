/-
  DERIVED. GIVEN WITH THE SEED: THE CARDS: each row of YtcckmkidmelbnaaGreatDoorRows.lean that lists a variable, with what it lists TIED to the program's text (the seventh form; the later family's looks); each row that meets fmt, with fmt's text TOLD by the authors' own Lean function (tested against real Go, not proved from fmt's source: count such statements apart). THE CARD IS WHAT COUNTS. Prove the row's statement (the work); the ties are given (YtcckmkidmelbnaaGreatDoorTie.lean); close each card by the builder's one call (the guide's Derived/Test/ToyasCard.lean, 'card_holds'). Laid BY PROGRAM, IN A SANDBOX (cutbox-door.mjs). By AI agents, Wed Nov 11 2026. No macro, syntax, notation, axiom, sorry.
-/
import Derived.Test.YtcckmkidmelbnaaGreatDoorRows
import GoSem.ClaimSeven
namespace Go.Proofs.YtcckmkidmelbnaaGreatDoor
namespace Rows

/-- THE TIED CARD OF 'weepholelaw36.QueryLeaks'. -/
def queryLeaksCard : Claim7 := { stood := { row := queryLeaksRow, standIns := [], harness := (true, "8a72d059a53b6fbc48f49694f358766268ed8e66d03bb58f7a38a2326c2b3b04"), looks := true }, kinds := [], alts := [], laidByText := true, laidKinds := [.data, .data, .funcs, .funcs], laidTests := true, laidLooks := .later }
def QueryLeaksCardSaid : Prop := Claim7.holds Tryz.pinned (.plain (OpenSpec.ofChange queryLeaksSpec)) queryLeaksCard

/-- THE TIED CARD OF 'weepholelaw36.QueryNever'. -/
def queryNeverCard : Claim7 := { stood := { row := queryNeverRow, standIns := [], harness := (true, "8a72d059a53b6fbc48f49694f358766268ed8e66d03bb58f7a38a2326c2b3b04"), looks := true }, kinds := [], alts := [], laidByText := true, laidKinds := [.data, .data, .funcs, .funcs], laidTests := true, laidLooks := .later }
def QueryNeverCardSaid : Prop := Claim7.holds Tryz.pinned (.plain (OpenSpec.ofChange queryNeverSpec)) queryNeverCard

/-- THE TIED CARD OF 'weepholelaw36.QueryExamples'. -/
def queryExamplesCard : Claim7 := { stood := { row := queryExamplesRow, standIns := [], harness := (true, "8a72d059a53b6fbc48f49694f358766268ed8e66d03bb58f7a38a2326c2b3b04"), looks := true }, kinds := [], alts := [], laidByText := true, laidKinds := [.data, .data, .funcs, .funcs], laidTests := true, laidLooks := .later }
def QueryExamplesCardSaid : Prop := Claim7.holds Tryz.pinned (.plain (OpenSpec.ofChange queryExamplesSpec)) queryExamplesCard

/-- THE SECOND FORM's CARD OF 'weepholelaw36.QueryLeaks'. -/
def queryLeaksUptoCard : Claim7 := { stood := { row := queryLeaksUptoRow, standIns := [], harness := (true, "8a72d059a53b6fbc48f49694f358766268ed8e66d03bb58f7a38a2326c2b3b04"), looks := true }, kinds := [], alts := [], laidByText := true, laidKinds := [.data, .data, .funcs, .funcs], laidTests := true, laidLooks := .later }
def QueryLeaksUptoCardSaid : Prop := Claim7.holds Tryz.pinned (.plain (OpenSpec.upto queryLeaksSpec)) queryLeaksUptoCard

/-- THE SECOND FORM's CARD OF 'weepholelaw36.QueryNever'. -/
def queryNeverUptoCard : Claim7 := { stood := { row := queryNeverUptoRow, standIns := [], harness := (true, "8a72d059a53b6fbc48f49694f358766268ed8e66d03bb58f7a38a2326c2b3b04"), looks := true }, kinds := [], alts := [], laidByText := true, laidKinds := [.data, .data, .funcs, .funcs], laidTests := true, laidLooks := .later }
def QueryNeverUptoCardSaid : Prop := Claim7.holds Tryz.pinned (.plain (OpenSpec.upto queryNeverSpec)) queryNeverUptoCard

/-- THE SECOND FORM's CARD OF 'weepholelaw36.QueryExamples'. -/
def queryExamplesUptoCard : Claim7 := { stood := { row := queryExamplesUptoRow, standIns := [], harness := (true, "8a72d059a53b6fbc48f49694f358766268ed8e66d03bb58f7a38a2326c2b3b04"), looks := true }, kinds := [], alts := [], laidByText := true, laidKinds := [.data, .data, .funcs, .funcs], laidTests := true, laidLooks := .later }
def QueryExamplesUptoCardSaid : Prop := Claim7.holds Tryz.pinned (.plain (OpenSpec.upto queryExamplesSpec)) queryExamplesUptoCard
end Rows
end Go.Proofs.YtcckmkidmelbnaaGreatDoor
