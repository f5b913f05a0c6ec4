/- What the run of JudgeExamples says: called in a world whose laid variables hold what they should it returns true, and nothing that was there has changed. -/
import Derived.Test.YtekbkaipdmklpaaGreatDoorT1
import Derived.WalkKit
import Derived.Below
namespace Go.Proofs.YtekbkaipdmklpaaGreatDoor
open Go.RowKit

theorem Cr.judge_calls {w : World} (h : Cr.Laid w) : Calls Tryz.prog 3 #[] w fun e w' => e = .returned (.bool true) ∧ Below w.heap.size w w' := by
  obtain ⟨μ, hr⟩ := h.hr
  refine (Cr.CW.calls Cr.Rn.k1922 (Cr.LR.nil μ) hr).mono ?_
  rintro e w' ⟨v', μ', rfl, hv, _, hr⟩
  have hv : Cr.VR μ' (.bool true) v' := hv
  cases hv
  exact ⟨rfl, hr.below⟩
end Go.Proofs.YtekbkaipdmklpaaGreatDoor
