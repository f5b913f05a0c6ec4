/-
  DERIVED. GIVEN WITH THE SEED: THE CARDS: each row of YtgdpkkjfcdhmdaaGreatDoorRows.lean that lists a variable, with what it lists TIED to the program's text (the seventh form; the later family's looks); each row that meets fmt, with fmt's text TOLD by the authors' own Lean function (tested against real Go, not proved from fmt's source: count such statements apart). THE CARD IS WHAT COUNTS. Prove the row's statement (the work); the ties are given (YtgdpkkjfcdhmdaaGreatDoorTie.lean); close each card by the builder's one call (the guide's Derived/Test/ToyasCard.lean, 'card_holds'). Laid BY PROGRAM, IN A SANDBOX (cutbox-door.mjs). By AI agents, Wed Nov 11 2026. No macro, syntax, notation, axiom, sorry.
-/
import Derived.Test.YtgdpkkjfcdhmdaaGreatDoorRows
import GoSem.ClaimSeven
namespace Go.Proofs.YtgdpkkjfcdhmdaaGreatDoor
namespace Rows

/-- THE TIED CARD OF 'weepholelaw36.QueryLeaks'. -/
def queryLeaksCard : Claim7 := { stood := { row := queryLeaksRow, standIns := [], harness := (true, "9b5a49c0d1fcc33f41f168a249816037a953bbc316076a16d878f364bb563f38"), looks := true }, kinds := [], alts := [], laidByText := true, laidKinds := [.data, .data, .funcs, .funcs], laidTests := true, laidLooks := .later }
def QueryLeaksCardSaid : Prop := Claim7.holds Tryz.pinned (.plain (OpenSpec.ofChange queryLeaksSpec)) queryLeaksCard

/-- THE TIED CARD OF 'weepholelaw36.QuerySafe'. -/
def querySafeCard : Claim7 := { stood := { row := querySafeRow, standIns := [], harness := (true, "9b5a49c0d1fcc33f41f168a249816037a953bbc316076a16d878f364bb563f38"), looks := true }, kinds := [], alts := [], laidByText := true, laidKinds := [.data, .data, .funcs, .funcs], laidTests := true, laidLooks := .later }
def QuerySafeCardSaid : Prop := Claim7.holds Tryz.pinned (.plain (OpenSpec.ofChange querySafeSpec)) querySafeCard

/-- THE TIED CARD OF 'weepholelaw36.QueryTurns'. -/
def queryTurnsCard : Claim7 := { stood := { row := queryTurnsRow, standIns := [], harness := (true, "9b5a49c0d1fcc33f41f168a249816037a953bbc316076a16d878f364bb563f38"), looks := true }, kinds := [], alts := [], laidByText := true, laidKinds := [.data, .data, .funcs, .funcs], laidTests := true, laidLooks := .later }
def QueryTurnsCardSaid : Prop := Claim7.holds Tryz.pinned (.plain (OpenSpec.ofChange queryTurnsSpec)) queryTurnsCard

/-- THE SECOND FORM's CARD OF 'weepholelaw36.QueryLeaks'. -/
def queryLeaksUptoCard : Claim7 := { stood := { row := queryLeaksUptoRow, standIns := [], harness := (true, "9b5a49c0d1fcc33f41f168a249816037a953bbc316076a16d878f364bb563f38"), looks := true }, kinds := [], alts := [], laidByText := true, laidKinds := [.data, .data, .funcs, .funcs], laidTests := true, laidLooks := .later }
def QueryLeaksUptoCardSaid : Prop := Claim7.holds Tryz.pinned (.plain (OpenSpec.upto queryLeaksSpec)) queryLeaksUptoCard

/-- THE SECOND FORM's CARD OF 'weepholelaw36.QuerySafe'. -/
def querySafeUptoCard : Claim7 := { stood := { row := querySafeUptoRow, standIns := [], harness := (true, "9b5a49c0d1fcc33f41f168a249816037a953bbc316076a16d878f364bb563f38"), looks := true }, kinds := [], alts := [], laidByText := true, laidKinds := [.data, .data, .funcs, .funcs], laidTests := true, laidLooks := .later }
def QuerySafeUptoCardSaid : Prop := Claim7.holds Tryz.pinned (.plain (OpenSpec.upto querySafeSpec)) querySafeUptoCard

/-- THE SECOND FORM's CARD OF 'weepholelaw36.QueryTurns'. -/
def queryTurnsUptoCard : Claim7 := { stood := { row := queryTurnsUptoRow, standIns := [], harness := (true, "9b5a49c0d1fcc33f41f168a249816037a953bbc316076a16d878f364bb563f38"), looks := true }, kinds := [], alts := [], laidByText := true, laidKinds := [.data, .data, .funcs, .funcs], laidTests := true, laidLooks := .later }
def QueryTurnsUptoCardSaid : Prop := Claim7.holds Tryz.pinned (.plain (OpenSpec.upto queryTurnsSpec)) queryTurnsUptoCard
end Rows
end Go.Proofs.YtgdpkkjfcdhmdaaGreatDoor
