/- Proved: weepholelaw38.JudgeExamples returns true, and changes nothing that was there. Conditions: none but the row's own (the eight listed package variables hold what the program's text lays, which the card ties). -/
import Derived.Test.YtekbkaipdmklpaaGreatDoorQb
import Derived.Test.YtekbkaipdmklpaaGreatDoorQf
import Derived.Test.YtekbkaipdmklpaaGreatDoorQe
namespace Go.Proofs.YtekbkaipdmklpaaGreatDoor.JudgeExamples
open Go.ChangeShapes Go.WideShapes Go.ChangeAt Go.RowKit

theorem card : Rows.JudgeExamplesCardSaid :=
  Claim7.holds_tied_plain_at .later [] _ _ _ _ said (fun _ h => by cases h) wfText (fun _ h => by cases h) judgeExamples_row_tie rfl ⟨rfl, rfl⟩ mainIs rfl plain goes

#print axioms card
end Go.Proofs.YtekbkaipdmklpaaGreatDoor.JudgeExamples
