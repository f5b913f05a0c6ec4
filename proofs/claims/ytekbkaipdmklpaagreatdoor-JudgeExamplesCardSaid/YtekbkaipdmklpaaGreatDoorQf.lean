/- A closed fact of the card: no function of the dump starts a goroutine, so the call starts none. -/
import Derived.Test.YtekbkaipdmklpaaGreatDoorTie
import Derived.Test.YtekbkaipdmklpaaGreatDoorCards
import Derived.KernelRfl
namespace Go.Proofs.YtekbkaipdmklpaaGreatDoor.JudgeExamples
open Go
set_option maxRecDepth 100000
theorem none_goes : Tryz.pinned.checked.prog.funcs.any Func.goes = false := by kernel_rfl
theorem goes_of {P : Program} (h : P.funcs.any Func.goes = false) (f : FuncId) : P.goes f = false := by
  unfold Program.goes
  rw [h, Bool.and_false, Bool.or_false, List.any_eq_false]
  intro g _
  cases hg : P.funcs[g]? with
  | none => simp
  | some fn =>
    rw [Array.any_eq_false'] at h
    simpa using h fn (Array.mem_of_getElem? hg)
theorem goesBy_of {P : Program} (h : P.funcs.any Func.goes = false) (c : OpenClaim) (hs : c.start = .entering) : false = c.goesBy P := by
  unfold OpenClaim.goesBy Program.goesAt Program.goesFrom
  rw [hs]
  cases P.funcNamed c.func with
  | none => rfl
  | some f => simp only [Option.any_some, goes_of h f]; rfl
theorem goes : false = Rows.judgeExamplesRow.goesBy Tryz.pinned.checked.prog := goesBy_of none_goes _ rfl
end Go.Proofs.YtekbkaipdmklpaaGreatDoor.JudgeExamples
namespace Go.Proofs.YtekbkaipdmklpaaGreatDoor.JudgeExamples
open Go

set_option maxRecDepth 100000
theorem looks : true = Tryz.pinned.checked.prog.looks [] := by kernel_rfl
end Go.Proofs.YtekbkaipdmklpaaGreatDoor.JudgeExamples
