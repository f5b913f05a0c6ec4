/-
  DERIVED. GIVEN WITH THE SEED: THE CARDS: each row of YtekbkaipdmklpaaGreatDoorRows.lean that lists a variable, with what it lists TIED to the program's text (the seventh form; the later family's looks); each row that meets fmt, with fmt's text TOLD by the authors' own Lean function (tested against real Go, not proved from fmt's source: count such statements apart). THE CARD IS WHAT COUNTS. Prove the row's statement (the work); the ties are given (YtekbkaipdmklpaaGreatDoorTie.lean); close each card by the builder's one call (the guide's Derived/Test/ToyasCard.lean, 'card_holds'). Laid BY PROGRAM, IN A SANDBOX (cutbox-door.mjs). By AI agents, Wed Nov 11 2026. No macro, syntax, notation, axiom, sorry.
-/
import Derived.Test.YtekbkaipdmklpaaGreatDoorRows
import GoSem.ClaimSeven
namespace Go.Proofs.YtekbkaipdmklpaaGreatDoor
namespace Rows

/-- THE TIED CARD OF 'weepholelaw38.JudgeExamples'. -/
def judgeExamplesCard : Claim7 := { stood := { row := judgeExamplesRow, standIns := [], harness := (true, "69bfcba5dd2c99e8a9a4b3a6a30b90be4f957f904ffde47638104b9aec1bb72b"), looks := true }, kinds := [], alts := [], laidByText := true, laidKinds := [.data, .funcs, .widerDeep, .data, .data, .funcs, .funcs, .funcs], laidTests := true, laidLooks := .later }
def JudgeExamplesCardSaid : Prop := Claim7.holds Tryz.pinned (.plain (OpenSpec.ofChange judgeExamplesSpec)) judgeExamplesCard

/-- THE SECOND FORM's CARD OF 'weepholelaw38.JudgeExamples'. -/
def judgeExamplesUptoCard : Claim7 := { stood := { row := judgeExamplesUptoRow, standIns := [], harness := (true, "69bfcba5dd2c99e8a9a4b3a6a30b90be4f957f904ffde47638104b9aec1bb72b"), looks := true }, kinds := [], alts := [], laidByText := true, laidKinds := [.data, .funcs, .widerDeep, .data, .data, .funcs, .funcs, .funcs], laidTests := true, laidLooks := .later }
def JudgeExamplesUptoCardSaid : Prop := Claim7.holds Tryz.pinned (.plain (OpenSpec.upto judgeExamplesSpec)) judgeExamplesUptoCard
end Rows
end Go.Proofs.YtekbkaipdmklpaaGreatDoor
