/- A closed fact of the card. -/
import Derived.Test.YtekbkaipdmklpaaGreatDoorQf
import Derived.WalkKit
import Derived.ProofKit
namespace Go.Proofs.YtekbkaipdmklpaaGreatDoor.JudgeExamples
open Go.ChangeShapes Go.WideShapes Go.ChangeAt Go.RowKit

theorem plain (f : FuncId) (fn : Func) (hf : Tryz.pinned.checked.prog.funcNamed "weephole/weepholelaw38.JudgeExamples" = some f) (hfn : Tryz.pinned.checked.prog.funcs[f]? = some fn) :
    true = Tryz.pinned.checked.prog.looks [] ∧ ∀ (j : Nat) t, fn.params[j]? = some t → Tryz.pinned.checked.prog.wantsStandIn t = false := by
  obtain rfl : f = 3 := Option.some.inj ((show Tryz.prog.funcNamed "weephole/weepholelaw38.JudgeExamples" = some 3 by kernel_rfl).symm.trans hf) |>.symm
  obtain rfl : fn = Tryz.f3 := (Option.some.inj (Tryz.func3.symm.trans hfn)).symm
  refine ⟨looks, fun j t ht => ?_⟩
  rw [Tryz.params3] at ht
  simp at ht

theorem wfText : Rows.judgeExamplesRow.wfByText (OpenSpec.ofChange Rows.judgeExamplesSpec) = true := by kernel_rfl
theorem mainIs : Tryz.pinned.checked.prog.mainIs = some (Rows.judgeExamplesCard.stood.harness.1, Rows.judgeExamplesCard.stood.harness.2.toList) := by kernel_rfl
end Go.Proofs.YtekbkaipdmklpaaGreatDoor.JudgeExamples
