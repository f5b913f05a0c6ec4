/- The row. -/
import Derived.Test.YtekbkaipdmklpaaGreatDoorQa
import Derived.Test.YtekbkaipdmklpaaGreatDoorQn
import Derived.JoinedCond
namespace Go.Proofs.YtekbkaipdmklpaaGreatDoor.JudgeExamples
open Go.ChangeShapes Go.WideShapes Go.ChangeAt Go.RowKit

theorem said : Rows.JudgeExamplesSaid :=
  OpenClaim.holds_of_cond 3 Tryz.f3 rfl rfl rfl rfl rfl rfl rfl ⟨rfl, rfl, rfl, rfl, rfl⟩ rfl rfl rfl rfl rfl (by kernel_rfl) Tryz.func3 closedFacts
    (of_decide_eq_true (by kernel_rfl)) (by unfold Func.isWrapper; first | (rw [if_pos (by decide +kernel)]; kernel_rfl) | (rw [if_neg (by decide +kernel)]; exact ⟨rfl, rfl⟩))
    (fun os started H enc _ F => by rw [OpenClaim.pre_eq_preRow]; exact lifted os started H enc F)

end Go.Proofs.YtekbkaipdmklpaaGreatDoor.JudgeExamples
