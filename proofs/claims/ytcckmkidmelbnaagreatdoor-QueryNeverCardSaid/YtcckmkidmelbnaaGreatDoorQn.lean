/- The closed facts of the row, by the kernel, limb by limb. -/
import Derived.Test.YtcckmkidmelbnaaGreatDoorChecked
import Derived.Test.YtcckmkidmelbnaaGreatDoorCards
import Derived.JoinedCond
import Derived.KernelRfl
namespace Go.Proofs.YtcckmkidmelbnaaGreatDoor.QueryNever
open Go Go.ChangeShapes Go.WideShapes
set_option maxRecDepth 100000
theorem and_t {a b : Bool} (h : a = true) (k : b = true) : (a && b) = true := by rw [h, k]; rfl
theorem q0 : Rows.queryNeverRow.wf (OpenSpec.ofChange (OpenSpec.ofChange Rows.queryNeverSpec).bare) = true := by kernel_rfl
theorem q1 : laidOutB Tryz.pinned.checked.prog = true := by kernel_rfl
theorem q2 : mapsRowed Tryz.pinned.checked.prog = true := by kernel_rfl
theorem q3 : Tryz.f4.params.all (Tryz.pinned.checked.prog.readableRec ·) = true := by kernel_rfl
theorem q4 : namedTie Tryz.pinned.checked.prog Rows.queryNeverRow.named (OpenSpec.ofChange Rows.queryNeverSpec).bare.vars = true := by kernel_rfl
theorem q5 : (Rows.queryNeverRow.stops == []) = true := by kernel_rfl
theorem q6 : (Tryz.pinned.checked.prog.stops == []) = true := by kernel_rfl
theorem q7 : (Rows.queryNeverRow.knobs == []) = true := by kernel_rfl
theorem q8 : (Tryz.pinned.checked.prog.stopKnobs == []) = true := by kernel_rfl
theorem q9 : (Rows.queryNeverRow.inPlace == Tryz.pinned.checked.prog.inPlace 4) = true := by kernel_rfl
theorem q10 : (Rows.queryNeverRow.unfollowed == Tryz.pinned.checked.prog.unfollowed 4) = true := by kernel_rfl
theorem q11 : (Rows.queryNeverRow.recurses == Tryz.pinned.checked.prog.recurses 4) = true := by kernel_rfl
theorem q12 : (Rows.queryNeverRow.named == Tryz.pinned.checked.prog.varsNamed 4) = true := by kernel_rfl
theorem q13 : (Rows.queryNeverRow.maps == (Tryz.f4.params.toList ++ (OpenSpec.ofChange Rows.queryNeverSpec).bare.plain.varTypes Tryz.pinned.checked.prog).any (Tryz.pinned.checked.prog.mapsRec ·)) = true := by kernel_rfl
theorem q14 : (Rows.queryNeverRow.ifaces == (Tryz.f4.params.toList ++ (OpenSpec.ofChange Rows.queryNeverSpec).bare.plain.varTypes Tryz.pinned.checked.prog).any (Tryz.pinned.checked.prog.ifacesRec ·)) = true := by kernel_rfl
theorem q15 : (Rows.queryNeverRow.mapsOut == Tryz.pinned.checked.prog.mapsAmong Tryz.f4.resultTypes.toList) = true := by kernel_rfl
theorem q16 : (Rows.queryNeverRow.loops == (Tryz.f4.params.toList ++ (OpenSpec.ofChange Rows.queryNeverSpec).bare.plain.varTypes Tryz.pinned.checked.prog).any (Tryz.pinned.checked.prog.loopsFrom ·)) = true := by kernel_rfl
theorem q17 : (Rows.queryNeverRow.wideKeys == (Tryz.f4.params.toList ++ (OpenSpec.ofChange Rows.queryNeverSpec).bare.plain.varTypes Tryz.pinned.checked.prog ++ Tryz.f4.resultTypes.toList).any (Tryz.pinned.checked.prog.wideKeysFrom ·)) = true := by kernel_rfl
theorem q18 : (OpenSpec.ofChange Rows.queryNeverSpec).bare.vars.all (Tryz.pinned.checked.prog.varReadable ·) = true := by kernel_rfl
theorem q19 : Tryz.f4.resultTypes.all (fun t => Tryz.pinned.checked.prog.readableRec t && decide (t < Tryz.pinned.checked.prog.types.size)) = true := by kernel_rfl
theorem q20 : (Rows.queryNeverRow.ifacesOut == Tryz.f4.resultTypes.toList.any (Tryz.pinned.checked.prog.ifacesRec ·)) = true := by kernel_rfl
theorem q21 : (Rows.queryNeverRow.loopsOut == Tryz.f4.resultTypes.toList.any (Tryz.pinned.checked.prog.loopsFrom ·)) = true := by kernel_rfl
theorem q22 : (Rows.queryNeverRow.plainKeys == Tryz.pinned.checked.prog.plainKeys) = true := by kernel_rfl
theorem q23 : Rows.queryNeverRow.shortTexts.isNone = true := by kernel_rfl
theorem q24 : Tryz.pinned.checked.prog.stopsHeard = true := by kernel_rfl
theorem q25 : Tryz.pinned.checked.prog.mayEnter = true := by kernel_rfl
theorem q26 : (Rows.queryNeverRow.lifted == Tryz.pinned.checked.prog.liftsFinal) = true := by kernel_rfl
theorem q27 : (Tryz.pinned.checked.prog.make == some Rows.queryNeverRow.make) = true := by kernel_rfl
theorem q28 : (Rows.queryNeverRow.kinds == (if Rows.queryNeverRow.domain.isEmpty then [] else Tryz.f4.params.toList.map fun t => match Tryz.pinned.checked.prog.underlying t with | some (.int k) => some k | _ => none)) = true := by kernel_rfl
theorem q29 : (Rows.queryNeverRow.pinned == Rows.queryNeverRow.pinnedBy) = true := by kernel_rfl
theorem q30 : (Rows.queryNeverRow.veiled == (Tryz.f4.params.toList ++ (OpenSpec.ofChange Rows.queryNeverSpec).bare.plain.varTypes Tryz.pinned.checked.prog ++ Tryz.f4.resultTypes.toList).any (Tryz.pinned.checked.prog.veiledRec ·)) = true := by kernel_rfl
theorem q31 : Rows.queryNeverRow.veiledFits Tryz.pinned.checked.prog Tryz.f4.params.toList (Tryz.f4.params.toList ++ (OpenSpec.ofChange Rows.queryNeverSpec).bare.plain.varTypes Tryz.pinned.checked.prog ++ Tryz.f4.resultTypes.toList) = true := by kernel_rfl
theorem closedFacts : joinedFacts Tryz.pinned.checked.prog 4 Tryz.f4 (OpenSpec.ofChange Rows.queryNeverSpec).bare Rows.queryNeverRow = true := by
  unfold joinedFacts
  exact (and_t (and_t (and_t (and_t (and_t (and_t (and_t (and_t (and_t (and_t (and_t (and_t (and_t (and_t (and_t (and_t (and_t (and_t (and_t (and_t (and_t (and_t (and_t (and_t (and_t (and_t (and_t (and_t (and_t (and_t (and_t q0 q1) q2) q3) q4) q5) q6) q7) q8) q9) q10) q11) q12) q13) q14) q15) q16) q17) q18) q19) q20) q21) q22) q23) q24) q25) q26) q27) q28) q29) q30) q31)
end Go.Proofs.YtcckmkidmelbnaaGreatDoor.QueryNever
