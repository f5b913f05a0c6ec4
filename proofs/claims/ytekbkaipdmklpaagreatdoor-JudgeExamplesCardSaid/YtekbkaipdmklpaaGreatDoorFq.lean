/- The closed facts of the laid data. What the frame of this seat's proof shares: the laid variables as the row lists them. -/
import Derived.Test.YtekbkaipdmklpaaGreatDoorCards
import Derived.Test.YtekbkaipdmklpaaGreatDoorTie
import Derived.Test.YtekbkaipdmklpaaGreatDoorFs
import Derived.Below
import Derived.Carry
import Derived.WideKeyElems3
namespace Go.Proofs.YtekbkaipdmklpaaGreatDoor
open Go.ChangeShapes Go.WideShapes Go.ChangeAt Go.RowKit
set_option maxRecDepth 100000

theorem gKinds : Tryz.prog.globalNamed "weephole/policy.kinds" = some 0 := by kernel_rfl
theorem gKindsType : (Tryz.prog.globals[0]?).map (·.type) = some 117 := by kernel_rfl
theorem gSteps : Tryz.prog.globalNamed "weephole/explore.steps" = some 1 := by kernel_rfl
theorem gStepsType : (Tryz.prog.globals[1]?).map (·.type) = some 174 := by kernel_rfl
theorem gShapes : Tryz.prog.globalNamed "weephole/flat.shapes" = some 2 := by kernel_rfl
theorem gShapesType : (Tryz.prog.globals[2]?).map (·.type) = some 231 := by kernel_rfl
theorem gBits : Tryz.prog.globalNamed "math/bits.deBruijn32tab" = some 4 := by kernel_rfl
theorem gBitsType : (Tryz.prog.globals[4]?).map (·.type) = some 315 := by kernel_rfl
theorem gComp : Tryz.prog.globalNamed "weephole/query.compare" = some 5 := by kernel_rfl
theorem gCompType : (Tryz.prog.globals[5]?).map (·.type) = some 335 := by kernel_rfl
theorem gWords : Tryz.prog.globalNamed "weephole/prog.keywords" = some 6 := by kernel_rfl
theorem gWordsType : (Tryz.prog.globals[6]?).map (·.type) = some 34 := by kernel_rfl
theorem gForms : Tryz.prog.globalNamed "weephole/prog.forms" = some 7 := by kernel_rfl
theorem gFormsType : (Tryz.prog.globals[7]?).map (·.type) = some 427 := by kernel_rfl
theorem gMach : Tryz.prog.globalNamed "weephole/mach.kinds" = some 8 := by kernel_rfl
theorem gMachType : (Tryz.prog.globals[8]?).map (·.type) = some 475 := by kernel_rfl

abbrev laidL : List (String × DataW Unit) := [("math/bits.deBruijn32tab", Rows.laid_math_bits_deBruijn32tab), ("weephole/policy.kinds", Rows.laid_weephole_policy_kinds), ("weephole/prog.keywords", Rows.laid_weephole_prog_keywords), ("weephole/prog.forms", Rows.laid_weephole_prog_forms), ("weephole/flat.shapes", Rows.laid_weephole_flat_shapes), ("weephole/mach.kinds", Rows.laid_weephole_mach_kinds), ("weephole/explore.steps", Rows.laid_weephole_explore_steps), ("weephole/query.compare", Rows.laid_weephole_query_compare)]
abbrev dataL : List (String × DataW Unit) := [("math/bits.deBruijn32tab", Rows.laid_math_bits_deBruijn32tab), ("weephole/prog.keywords", Rows.laid_weephole_prog_keywords), ("weephole/prog.forms", Rows.laid_weephole_prog_forms), ("weephole/flat.shapes", Rows.laid_weephole_flat_shapes)]
abbrev funcL : List (String × DataW Unit) := [("weephole/policy.kinds", Rows.laid_weephole_policy_kinds), ("weephole/mach.kinds", Rows.laid_weephole_mach_kinds), ("weephole/explore.steps", Rows.laid_weephole_explore_steps), ("weephole/query.compare", Rows.laid_weephole_query_compare)]
def innerD : DataW Unit → DataW Unit
  | .iface _ d => d
  | _ => .nil
def kindsD : DataW Unit := innerD Rows.laid_weephole_policy_kinds
def machD : DataW Unit := innerD Rows.laid_weephole_mach_kinds
def stepsD : DataW Unit := innerD Rows.laid_weephole_explore_steps
def compD : DataW Unit := innerD Rows.laid_weephole_query_compare
theorem laid_split {W : World} (h : laidMetH Tryz.prog laidL W) : laidMet Tryz.prog dataL W ∧ funcsAt Tryz.prog W "weephole/policy.kinds" kindsD ∧ funcsAt Tryz.prog W "weephole/mach.kinds" machD ∧ funcsAt Tryz.prog W "weephole/explore.steps" stepsD ∧ funcsAt Tryz.prog W "weephole/query.compare" compD := by
  have h1 : laidMet Tryz.prog dataL W ∧ handlesMet Tryz.prog funcL W := h
  exact ⟨h1.1, h1.2 _ (List.mem_cons_self ..), h1.2 _ (List.mem_cons_of_mem _ (List.mem_cons_self ..)), h1.2 _ (List.mem_cons_of_mem _ (List.mem_cons_of_mem _ (List.mem_cons_self ..))), h1.2 _ (List.mem_cons_of_mem _ (List.mem_cons_of_mem _ (List.mem_cons_of_mem _ (List.mem_singleton.2 rfl))))⟩

/-! ### the data -/
abbrev u0 : Unit → Value := fun _ => undef
abbrev k0 : Unit → Bool := fun _ => true
theorem shps_eq : flA (flA (flS u0)) Rows.laid_weephole_flat_shapes = Cr.shps := by kernel_rfl
theorem shps_ok : okA (okA (okU k0)) Rows.laid_weephole_flat_shapes = true := by kernel_rfl
theorem frms_eq : flA (flA (flS u0)) Rows.laid_weephole_prog_forms = Cr.frms := by kernel_rfl
theorem frms_ok : okA (okA (okU k0)) Rows.laid_weephole_prog_forms = true := by kernel_rfl
theorem dbr_eq : flA (flS u0) Rows.laid_math_bits_deBruijn32tab = Cr.dbr := by kernel_rfl
theorem dbr_ok : okA (okU k0) Rows.laid_math_bits_deBruijn32tab = true := by kernel_rfl
theorem kws_eq : (partsD Rows.laid_weephole_prog_keywords).flatMap (flS u0) = Cr.kws := by kernel_rfl
theorem kws_ok : (partsD Rows.laid_weephole_prog_keywords).all (okU k0) = true := by kernel_rfl
theorem kws_len : (partsD (H := Unit) Rows.laid_weephole_prog_keywords).length = 16 := by kernel_rfl
theorem knd_is : kindsD.funcsOut = .slice (partsD kindsD.funcsOut) [] := by kernel_rfl
theorem knd_eq : (partsD kindsD.funcsOut).flatMap (flA (flS decF)) = Cr.knd := by kernel_rfl
theorem knd_ok : (partsD kindsD.funcsOut).all (okA (okU okF)) = true := by kernel_rfl
theorem knd_len : (partsD kindsD.funcsOut).length = 9 := by kernel_rfl
theorem mch_eq : flA (flS decF) machD.funcsOut = Cr.mchs := by kernel_rfl
theorem mch_ok : okA (okU okF) machD.funcsOut = true := by kernel_rfl
theorem cmp_eq : flA (flS decF) compD.funcsOut = Cr.cmps := by kernel_rfl
theorem cmp_ok : okA (okU okF) compD.funcsOut = true := by kernel_rfl

theorem flat230 {w : World} : FlatAt (fun _ => ()) w false (flA (flS u0)) (okA (okU k0)) 230 := flat_struct Tryz.underlying230 (by kernel_rfl) fun i f h => by
  rcases i with _ | _ | _ | _ | i <;> simp at h <;> subst h
  · exact ⟨rfl, by kernel_rfl, flat_bool Tryz.underlying4⟩
  · exact ⟨rfl, by kernel_rfl, flat_bool Tryz.underlying4⟩
  · exact ⟨rfl, by kernel_rfl, flat_bool Tryz.underlying4⟩
  · exact ⟨rfl, by kernel_rfl, flat_int Tryz.underlying3⟩
theorem flat426 {w : World} : FlatAt (fun _ => ()) w false (flA (flS u0)) (okA (okU k0)) 426 := flat_struct Tryz.underlying426 (by kernel_rfl) fun i f h => by
  rcases i with _ | _ | _ | i <;> simp at h <;> subst h
  · exact ⟨rfl, by kernel_rfl, flat_bool Tryz.underlying4⟩
  · exact ⟨rfl, by kernel_rfl, flat_bool Tryz.underlying4⟩
  · exact ⟨rfl, by kernel_rfl, flat_int Tryz.underlying3⟩
theorem flat116 {w : World} : FlatAt (funcToken Tryz.prog) w true (flA (flS decF)) (okA (okU okF)) 116 := flat_struct Tryz.underlying116 (by kernel_rfl) fun i f h => by
  rcases i with _ | _ | _ | i <;> simp at h <;> subst h
  · exact ⟨rfl, by kernel_rfl, flat_string Tryz.underlying9⟩
  · exact ⟨rfl, by kernel_rfl, flat_bool Tryz.underlying4⟩
  · exact ⟨rfl, by kernel_rfl, flat_func Tryz.underlying114 (by kernel_rfl)⟩
/-! ### the steps -/
def entD : DataW (List UInt8) → List (Lit × DataW (List UInt8))
  | .map l => l
  | _ => []
noncomputable def decE : Lit × DataW (List UInt8) → Value × Value
  | (.int k n, .held s) => (.int k n, .func (.func ((fnOf s).headD 0)) #[] #[])
  | _ => (undef, undef)
noncomputable def okE : Lit × DataW (List UInt8) → Bool
  | (.int .u8 _, .held (b :: r)) => (fnOf (b :: r)).length == 1
  | _ => false
theorem steps_ok : (entD stepsD.funcsOut).all okE = true := by kernel_rfl
theorem steps_dec : (entD stepsD.funcsOut).map decE = Cr.stp0 := by kernel_rfl
theorem steps_map : stepsD.funcsOut = .map (entD stepsD.funcsOut) := by kernel_rfl

end Go.Proofs.YtekbkaipdmklpaaGreatDoor
