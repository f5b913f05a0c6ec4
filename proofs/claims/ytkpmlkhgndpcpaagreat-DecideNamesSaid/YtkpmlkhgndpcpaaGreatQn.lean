/- The closed facts of the row, by the kernel, limb by limb. -/
import Derived.Test.YtkpmlkhgndpcpaaGreatChecked
import Derived.Test.YtkpmlkhgndpcpaaGreatRows
import Derived.JoinedCond
import Derived.KernelRfl
namespace Go.Proofs.YtkpmlkhgndpcpaaGreat.DecideNames
open Go Go.ChangeShapes Go.WideShapes
set_option maxRecDepth 100000
theorem and_t {a b : Bool} (h : a = true) (k : b = true) : (a && b) = true := by rw [h, k]; rfl
theorem q0 : Rows.decideNamesRow.wf (OpenSpec.ofChange Rows.decideNamesSpec) = true := by kernel_rfl
theorem q1 : laidOutB Tryz.pinned.checked.prog = true := by kernel_rfl
theorem q2 : mapsRowed Tryz.pinned.checked.prog = true := by kernel_rfl
theorem q3 : Tryz.f3.params.all (Tryz.pinned.checked.prog.readableRec ·) = true := by kernel_rfl
theorem q4 : namedTie Tryz.pinned.checked.prog Rows.decideNamesRow.named Rows.decideNamesSpec.vars = true := by kernel_rfl
theorem q5 : (Rows.decideNamesRow.stops == []) = true := by kernel_rfl
theorem q6 : (Tryz.pinned.checked.prog.stops == []) = true := by kernel_rfl
theorem q7 : (Rows.decideNamesRow.knobs == []) = true := by kernel_rfl
theorem q8 : (Tryz.pinned.checked.prog.stopKnobs == []) = true := by kernel_rfl
theorem q9 : (Rows.decideNamesRow.inPlace == Tryz.pinned.checked.prog.inPlace 3) = true := by kernel_rfl
theorem q10 : (Rows.decideNamesRow.unfollowed == Tryz.pinned.checked.prog.unfollowed 3) = true := by kernel_rfl
theorem q11 : (Rows.decideNamesRow.recurses == Tryz.pinned.checked.prog.recurses 3) = true := by kernel_rfl
theorem q12 : (Rows.decideNamesRow.named == Tryz.pinned.checked.prog.varsNamed 3) = true := by kernel_rfl
theorem q13 : (Rows.decideNamesRow.maps == (Tryz.f3.params.toList ++ Rows.decideNamesSpec.plain.varTypes Tryz.pinned.checked.prog).any (Tryz.pinned.checked.prog.mapsRec ·)) = true := by kernel_rfl
theorem q14 : (Rows.decideNamesRow.ifaces == (Tryz.f3.params.toList ++ Rows.decideNamesSpec.plain.varTypes Tryz.pinned.checked.prog).any (Tryz.pinned.checked.prog.ifacesRec ·)) = true := by kernel_rfl
theorem q15 : (Rows.decideNamesRow.mapsOut == Tryz.pinned.checked.prog.mapsAmong Tryz.f3.resultTypes.toList) = true := by kernel_rfl
theorem q16 : (Rows.decideNamesRow.loops == (Tryz.f3.params.toList ++ Rows.decideNamesSpec.plain.varTypes Tryz.pinned.checked.prog).any (Tryz.pinned.checked.prog.loopsFrom ·)) = true := by kernel_rfl
theorem q17 : (Rows.decideNamesRow.wideKeys == (Tryz.f3.params.toList ++ Rows.decideNamesSpec.plain.varTypes Tryz.pinned.checked.prog ++ Tryz.f3.resultTypes.toList).any (Tryz.pinned.checked.prog.wideKeysFrom ·)) = true := by kernel_rfl
theorem q18 : Rows.decideNamesSpec.vars.all (Tryz.pinned.checked.prog.varReadable ·) = true := by kernel_rfl
theorem q19 : Tryz.f3.resultTypes.all (fun t => Tryz.pinned.checked.prog.readableRec t && decide (t < Tryz.pinned.checked.prog.types.size)) = true := by kernel_rfl
theorem q20 : (Rows.decideNamesRow.ifacesOut == Tryz.f3.resultTypes.toList.any (Tryz.pinned.checked.prog.ifacesRec ·)) = true := by kernel_rfl
theorem q21 : (Rows.decideNamesRow.loopsOut == Tryz.f3.resultTypes.toList.any (Tryz.pinned.checked.prog.loopsFrom ·)) = true := by kernel_rfl
theorem q22 : (Rows.decideNamesRow.plainKeys == Tryz.pinned.checked.prog.plainKeys) = true := by kernel_rfl
theorem q23 : Rows.decideNamesRow.shortTexts.isNone = true := by kernel_rfl
theorem q24 : Tryz.pinned.checked.prog.stopsHeard = true := by kernel_rfl
theorem q25 : Tryz.pinned.checked.prog.mayEnter = true := by kernel_rfl
theorem q26 : (Rows.decideNamesRow.lifted == Tryz.pinned.checked.prog.liftsFinal) = true := by kernel_rfl
theorem q27 : (Tryz.pinned.checked.prog.make == some Rows.decideNamesRow.make) = true := by kernel_rfl
theorem q28 : (Rows.decideNamesRow.kinds == (if Rows.decideNamesRow.domain.isEmpty then [] else Tryz.f3.params.toList.map fun t => match Tryz.pinned.checked.prog.underlying t with | some (.int k) => some k | _ => none)) = true := by kernel_rfl
theorem q29 : (Rows.decideNamesRow.pinned == Rows.decideNamesRow.pinnedBy) = true := by kernel_rfl
theorem q30 : (Rows.decideNamesRow.veiled == (Tryz.f3.params.toList ++ Rows.decideNamesSpec.plain.varTypes Tryz.pinned.checked.prog ++ Tryz.f3.resultTypes.toList).any (Tryz.pinned.checked.prog.veiledRec ·)) = true := by kernel_rfl
theorem q31 : Rows.decideNamesRow.veiledFits Tryz.pinned.checked.prog Tryz.f3.params.toList (Tryz.f3.params.toList ++ Rows.decideNamesSpec.plain.varTypes Tryz.pinned.checked.prog ++ Tryz.f3.resultTypes.toList) = true := by kernel_rfl
theorem closedFacts : joinedFacts Tryz.pinned.checked.prog 3 Tryz.f3 Rows.decideNamesSpec Rows.decideNamesRow = true := by
  unfold joinedFacts
  exact (and_t (and_t (and_t (and_t (and_t (and_t (and_t (and_t (and_t (and_t (and_t (and_t (and_t (and_t (and_t (and_t (and_t (and_t (and_t (and_t (and_t (and_t (and_t (and_t (and_t (and_t (and_t (and_t (and_t (and_t (and_t q0 q1) q2) q3) q4) q5) q6) q7) q8) q9) q10) q11) q12) q13) q14) q15) q16) q17) q18) q19) q20) q21) q22) q23) q24) q25) q26) q27) q28) q29) q30) q31)
end Go.Proofs.YtkpmlkhgndpcpaaGreat.DecideNames
