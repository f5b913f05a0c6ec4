/- The closed facts of the row, by the kernel, limb by limb. -/
import Derived.Test.YtekbkaipdmklpaaGreatDoorChecked
import Derived.Test.YtekbkaipdmklpaaGreatDoorCards
import Derived.JoinedCond
import Derived.KernelRfl
namespace Go.Proofs.YtekbkaipdmklpaaGreatDoor.JudgeExamples
open Go Go.ChangeShapes Go.WideShapes
set_option maxRecDepth 100000
theorem and_t {a b : Bool} (h : a = true) (k : b = true) : (a && b) = true := by rw [h, k]; rfl
theorem q0 : Rows.judgeExamplesRow.wf (OpenSpec.ofChange (OpenSpec.ofChange Rows.judgeExamplesSpec).bare) = true := by kernel_rfl
theorem q1 : laidOutB Tryz.pinned.checked.prog = true := by kernel_rfl
theorem q2 : mapsRowed Tryz.pinned.checked.prog = true := by kernel_rfl
theorem q3 : Tryz.f3.params.all (Tryz.pinned.checked.prog.readableRec ·) = true := by kernel_rfl
theorem q4 : namedTie Tryz.pinned.checked.prog Rows.judgeExamplesRow.named (OpenSpec.ofChange Rows.judgeExamplesSpec).bare.vars = true := by kernel_rfl
theorem q5 : (Rows.judgeExamplesRow.stops == []) = true := by kernel_rfl
theorem q6 : (Tryz.pinned.checked.prog.stops == []) = true := by kernel_rfl
theorem q7 : (Rows.judgeExamplesRow.knobs == []) = true := by kernel_rfl
theorem q8 : (Tryz.pinned.checked.prog.stopKnobs == []) = true := by kernel_rfl
theorem q9 : (Rows.judgeExamplesRow.inPlace == Tryz.pinned.checked.prog.inPlace 3) = true := by kernel_rfl
theorem q10 : (Rows.judgeExamplesRow.unfollowed == Tryz.pinned.checked.prog.unfollowed 3) = true := by kernel_rfl
theorem q11 : (Rows.judgeExamplesRow.recurses == Tryz.pinned.checked.prog.recurses 3) = true := by kernel_rfl
theorem q12 : (Rows.judgeExamplesRow.named == Tryz.pinned.checked.prog.varsNamed 3) = true := by kernel_rfl
theorem q13 : (Rows.judgeExamplesRow.maps == (Tryz.f3.params.toList ++ (OpenSpec.ofChange Rows.judgeExamplesSpec).bare.plain.varTypes Tryz.pinned.checked.prog).any (Tryz.pinned.checked.prog.mapsRec ·)) = true := by kernel_rfl
theorem q14 : (Rows.judgeExamplesRow.ifaces == (Tryz.f3.params.toList ++ (OpenSpec.ofChange Rows.judgeExamplesSpec).bare.plain.varTypes Tryz.pinned.checked.prog).any (Tryz.pinned.checked.prog.ifacesRec ·)) = true := by kernel_rfl
theorem q15 : (Rows.judgeExamplesRow.mapsOut == Tryz.pinned.checked.prog.mapsAmong Tryz.f3.resultTypes.toList) = true := by kernel_rfl
theorem q16 : (Rows.judgeExamplesRow.loops == (Tryz.f3.params.toList ++ (OpenSpec.ofChange Rows.judgeExamplesSpec).bare.plain.varTypes Tryz.pinned.checked.prog).any (Tryz.pinned.checked.prog.loopsFrom ·)) = true := by kernel_rfl
theorem q17 : (Rows.judgeExamplesRow.wideKeys == (Tryz.f3.params.toList ++ (OpenSpec.ofChange Rows.judgeExamplesSpec).bare.plain.varTypes Tryz.pinned.checked.prog ++ Tryz.f3.resultTypes.toList).any (Tryz.pinned.checked.prog.wideKeysFrom ·)) = true := by kernel_rfl
theorem q18 : (OpenSpec.ofChange Rows.judgeExamplesSpec).bare.vars.all (Tryz.pinned.checked.prog.varReadable ·) = true := by kernel_rfl
theorem q19 : Tryz.f3.resultTypes.all (fun t => Tryz.pinned.checked.prog.readableRec t && decide (t < Tryz.pinned.checked.prog.types.size)) = true := by kernel_rfl
theorem q20 : (Rows.judgeExamplesRow.ifacesOut == Tryz.f3.resultTypes.toList.any (Tryz.pinned.checked.prog.ifacesRec ·)) = true := by kernel_rfl
theorem q21 : (Rows.judgeExamplesRow.loopsOut == Tryz.f3.resultTypes.toList.any (Tryz.pinned.checked.prog.loopsFrom ·)) = true := by kernel_rfl
theorem q22 : (Rows.judgeExamplesRow.plainKeys == Tryz.pinned.checked.prog.plainKeys) = true := by kernel_rfl
theorem q23 : Rows.judgeExamplesRow.shortTexts.isNone = true := by kernel_rfl
theorem q24 : Tryz.pinned.checked.prog.stopsHeard = true := by kernel_rfl
theorem q25 : Tryz.pinned.checked.prog.mayEnter = true := by kernel_rfl
theorem q26 : (Rows.judgeExamplesRow.lifted == Tryz.pinned.checked.prog.liftsFinal) = true := by kernel_rfl
theorem q27 : (Tryz.pinned.checked.prog.make == some Rows.judgeExamplesRow.make) = true := by kernel_rfl
theorem q28 : (Rows.judgeExamplesRow.kinds == (if Rows.judgeExamplesRow.domain.isEmpty then [] else Tryz.f3.params.toList.map fun t => match Tryz.pinned.checked.prog.underlying t with | some (.int k) => some k | _ => none)) = true := by kernel_rfl
theorem q29 : (Rows.judgeExamplesRow.pinned == Rows.judgeExamplesRow.pinnedBy) = true := by kernel_rfl
theorem q30 : (Rows.judgeExamplesRow.veiled == (Tryz.f3.params.toList ++ (OpenSpec.ofChange Rows.judgeExamplesSpec).bare.plain.varTypes Tryz.pinned.checked.prog ++ Tryz.f3.resultTypes.toList).any (Tryz.pinned.checked.prog.veiledRec ·)) = true := by kernel_rfl
theorem q31 : Rows.judgeExamplesRow.veiledFits Tryz.pinned.checked.prog Tryz.f3.params.toList (Tryz.f3.params.toList ++ (OpenSpec.ofChange Rows.judgeExamplesSpec).bare.plain.varTypes Tryz.pinned.checked.prog ++ Tryz.f3.resultTypes.toList) = true := by kernel_rfl
theorem closedFacts : joinedFacts Tryz.pinned.checked.prog 3 Tryz.f3 (OpenSpec.ofChange Rows.judgeExamplesSpec).bare Rows.judgeExamplesRow = true := by
  unfold joinedFacts
  exact (and_t (and_t (and_t (and_t (and_t (and_t (and_t (and_t (and_t (and_t (and_t (and_t (and_t (and_t (and_t (and_t (and_t (and_t (and_t (and_t (and_t (and_t (and_t (and_t (and_t (and_t (and_t (and_t (and_t (and_t (and_t q0 q1) q2) q3) q4) q5) q6) q7) q8) q9) q10) q11) q12) q13) q14) q15) q16) q17) q18) q19) q20) q21) q22) q23) q24) q25) q26) q27) q28) q29) q30) q31)
end Go.Proofs.YtekbkaipdmklpaaGreatDoor.JudgeExamples
