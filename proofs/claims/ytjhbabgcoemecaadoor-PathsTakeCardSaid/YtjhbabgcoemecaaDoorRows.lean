/-
  NARROWER THAN 'FOR EVERY INPUT', by the rows' own cells (each row's printed sentence says how): ExploreInputs: laid · ExploreExamples: laid · PathsNumbers: laid · PathsVals: laid · PathsBack: laid · PathsBlind: laid · PathsTake: laid · PathsExamples: laid.
  DERIVED. THE GIVEN ROWS OF THIS SEAT. 8 by the template 'for every input the law returns true; each argument reads behind the call as it read before'; 0 by the template 'total and deterministic' (their statements: YtjhbabgcoemecaaDoorTotals.lean).
  GIVEN WITH THE SEED: the statements are not yours to turn. If you find one false, say at which input.
  Laid BY PROGRAM, IN A SANDBOX (cutbox-rows.mjs): the forced cells as the released guide's own fill.sh prints them over the translation 8bce43971d241000… (all of the seat's roots in one cut). By AI agents, Wed Nov 11 2026. No macro, syntax, notation, axiom, sorry.
-/
import Derived.Test.YtjhbabgcoemecaaDoorChecked
import GoSem.Claim
import GoSem.ClaimJoined
import GoSem.ClaimMapViews
import Derived.JoinedTies
import Derived.KernelRfl
namespace Go.Proofs.YtjhbabgcoemecaaDoor
/- THE CELL 'sum', in the pinned program and in every row, IS THE sha256 OF THE DUMP (.gsa) THAT YtjhbabgcoemecaaDoorProg.lean LOADS. Nothing in Lean hashes anything: it is a label: what it is worth is what the hold of that sum in a sandbox is worth. -/
noncomputable def Tryd.pinned : Pinned := { name := "ytjhbabgcoemecaadoor", sum := "8bce43971d241000db683a25cad9fd3439270bbe5148ec1292e0e4a5f0648a1d", checked := Tryd.checked }
namespace Rows
def none {H : Type} : Left H := { results := [], args := [] }

/- WHAT THE LISTED PACKAGE-LEVEL VARIABLES READ AS WHEN THE CALL BEGINS. Each datum BY PROGRAM (the guide's laid-datum.mjs) off the statement by which the dump's own 'gosem.cut.vars' lays the variable. In a bare row this is a premise. The card (YtjhbabgcoemecaaDoorCards.lean) ties it to the program's text. -/
def laid_weephole_flat_shapes {H : Type} : DataW H := .agg [.agg [.lit (.bool true), .lit (.bool true), .lit (.bool false), .lit (.int .i64 0)], .agg [.lit (.bool true), .lit (.bool true), .lit (.bool true), .lit (.int .i64 0)], .agg [.lit (.bool true), .lit (.bool true), .lit (.bool false), .lit (.int .i64 1)], .agg [.lit (.bool false), .lit (.bool true), .lit (.bool true), .lit (.int .i64 1)], .agg [.lit (.bool true), .lit (.bool false), .lit (.bool false), .lit (.int .i64 2)], .agg [.lit (.bool false), .lit (.bool true), .lit (.bool false), .lit (.int .i64 2)], .agg [.lit (.bool true), .lit (.bool true), .lit (.bool false), .lit (.int .i64 3)], .agg [.lit (.bool false), .lit (.bool false), .lit (.bool false), .lit (.int .i64 4)], .agg [.lit (.bool false), .lit (.bool true), .lit (.bool false), .lit (.int .i64 4)], .agg [.lit (.bool false), .lit (.bool false), .lit (.bool false), .lit (.int .i64 0)]]
def laid_weephole_explore_steps {H : Type} : DataW H := .iface "func table" (.map [(.int .u8 0, .iface "func" (.lit (.string [40, 42, 119, 101, 101, 112, 104, 111, 108, 101, 47, 101, 120, 112, 108, 111, 114, 101, 46, 101, 120, 112, 108, 111, 114, 101, 114, 41, 46, 99, 111, 112, 121]))), (.int .u8 1, .iface "func" (.lit (.string [40, 42, 119, 101, 101, 112, 104, 111, 108, 101, 47, 101, 120, 112, 108, 111, 114, 101, 46, 101, 120, 112, 108, 111, 114, 101, 114, 41, 46, 111, 112]))), (.int .u8 2, .iface "func" (.lit (.string [40, 42, 119, 101, 101, 112, 104, 111, 108, 101, 47, 101, 120, 112, 108, 111, 114, 101, 46, 101, 120, 112, 108, 111, 114, 101, 114, 41, 46, 108, 111, 97, 100]))), (.int .u8 3, .iface "func" (.lit (.string [40, 42, 119, 101, 101, 112, 104, 111, 108, 101, 47, 101, 120, 112, 108, 111, 114, 101, 46, 101, 120, 112, 108, 111, 114, 101, 114, 41, 46, 115, 116, 111, 114, 101]))), (.int .u8 4, .iface "func" (.lit (.string [40, 42, 119, 101, 101, 112, 104, 111, 108, 101, 47, 101, 120, 112, 108, 111, 114, 101, 46, 101, 120, 112, 108, 111, 114, 101, 114, 41, 46, 114, 101, 97, 100]))), (.int .u8 5, .iface "func" (.lit (.string [40, 42, 119, 101, 101, 112, 104, 111, 108, 101, 47, 101, 120, 112, 108, 111, 114, 101, 46, 101, 120, 112, 108, 111, 114, 101, 114, 41, 46, 119, 114, 105, 116, 101]))), (.int .u8 6, .iface "func" (.lit (.string [40, 42, 119, 101, 101, 112, 104, 111, 108, 101, 47, 101, 120, 112, 108, 111, 114, 101, 46, 101, 120, 112, 108, 111, 114, 101, 114, 41, 46, 114, 101, 108, 101, 97, 115, 101]))), (.int .u8 7, .iface "func" (.lit (.string [40, 42, 119, 101, 101, 112, 104, 111, 108, 101, 47, 101, 120, 112, 108, 111, 114, 101, 46, 101, 120, 112, 108, 111, 114, 101, 114, 41, 46, 106, 117, 109, 112]))), (.int .u8 8, .iface "func" (.lit (.string [40, 42, 119, 101, 101, 112, 104, 111, 108, 101, 47, 101, 120, 112, 108, 111, 114, 101, 46, 101, 120, 112, 108, 111, 114, 101, 114, 41, 46, 98, 114, 97, 110, 99, 104]))), (.int .u8 9, .iface "func" (.lit (.string [40, 42, 119, 101, 101, 112, 104, 111, 108, 101, 47, 101, 120, 112, 108, 111, 114, 101, 46, 101, 120, 112, 108, 111, 114, 101, 114, 41, 46, 104, 97, 108, 116])))])

/-- 'weepholelaw31.ExploreInputs': WHATEVER THE INPUT: true; the input reads as it did. -/
def exploreInputsSpec : ChangeSpec := { name := "exploreInputs", fn := fun _ => fun
  | [d1, d2, d3] => { results := [.lit (.bool true)], args := [d1, d2, d3] }
  | _ => none }
def exploreInputsRow : OpenClaim := { program := "ytjhbabgcoemecaadoor", sum := "8bce43971d241000db683a25cad9fd3439270bbe5148ec1292e0e4a5f0648a1d", func := "weephole/weepholelaw31.ExploreInputs", spec := "exploreInputs", unfollowed := true, recurses := true, named := ["weephole/explore.steps", "weephole/flat.shapes"], plainKeys := false, apart := false, laid := [("weephole/flat.shapes", laid_weephole_flat_shapes), ("weephole/explore.steps", laid_weephole_explore_steps)] }
def ExploreInputsSaid : Prop := exploreInputsRow.holds Tryd.pinned (OpenSpec.ofChange exploreInputsSpec)

/-- ITS FALSE NEIGHBOUR: 'it returns false'. Refute it at one input. -/
def exploreInputsWrong : ChangeSpec := { name := "exploreInputs", fn := fun _ => fun
  | [d1, d2, d3] => { results := [.lit (.bool false)], args := [d1, d2, d3] }
  | _ => none }
def ExploreInputsWrongFalsely : Prop := exploreInputsRow.holds Tryd.pinned (OpenSpec.ofChange exploreInputsWrong)

/-- 'weepholelaw31.ExploreExamples': WHATEVER THE INPUT: true; the input reads as it did. -/
def exploreExamplesSpec : ChangeSpec := { name := "exploreExamples", fn := fun _ => fun
  | [] => { results := [.lit (.bool true)], args := [] }
  | _ => none }
def exploreExamplesRow : OpenClaim := { program := "ytjhbabgcoemecaadoor", sum := "8bce43971d241000db683a25cad9fd3439270bbe5148ec1292e0e4a5f0648a1d", func := "weephole/weepholelaw31.ExploreExamples", spec := "exploreExamples", unfollowed := true, recurses := true, named := ["weephole/explore.steps", "weephole/flat.shapes"], plainKeys := false, apart := false, laid := [("weephole/flat.shapes", laid_weephole_flat_shapes), ("weephole/explore.steps", laid_weephole_explore_steps)] }
def ExploreExamplesSaid : Prop := exploreExamplesRow.holds Tryd.pinned (OpenSpec.ofChange exploreExamplesSpec)

/-- ITS FALSE NEIGHBOUR: 'it returns false'. Refute it at one input. -/
def exploreExamplesWrong : ChangeSpec := { name := "exploreExamples", fn := fun _ => fun
  | [] => { results := [.lit (.bool false)], args := [] }
  | _ => none }
def ExploreExamplesWrongFalsely : Prop := exploreExamplesRow.holds Tryd.pinned (OpenSpec.ofChange exploreExamplesWrong)

/-- 'weepholelaw32.PathsNumbers': WHATEVER THE INPUT: true; the input reads as it did. -/
def pathsNumbersSpec : ChangeSpec := { name := "pathsNumbers", fn := fun _ => fun
  | [d1, d2, d3, d4] => { results := [.lit (.bool true)], args := [d1, d2, d3, d4] }
  | _ => none }
def pathsNumbersRow : OpenClaim := { program := "ytjhbabgcoemecaadoor", sum := "8bce43971d241000db683a25cad9fd3439270bbe5148ec1292e0e4a5f0648a1d", func := "weephole/weepholelaw32.PathsNumbers", spec := "pathsNumbers", unfollowed := true, recurses := true, named := ["weephole/explore.steps", "weephole/flat.shapes"], plainKeys := false, apart := false, laid := [("weephole/flat.shapes", laid_weephole_flat_shapes), ("weephole/explore.steps", laid_weephole_explore_steps)] }
def PathsNumbersSaid : Prop := pathsNumbersRow.holds Tryd.pinned (OpenSpec.ofChange pathsNumbersSpec)

/-- ITS FALSE NEIGHBOUR: 'it returns false'. Refute it at one input. -/
def pathsNumbersWrong : ChangeSpec := { name := "pathsNumbers", fn := fun _ => fun
  | [d1, d2, d3, d4] => { results := [.lit (.bool false)], args := [d1, d2, d3, d4] }
  | _ => none }
def PathsNumbersWrongFalsely : Prop := pathsNumbersRow.holds Tryd.pinned (OpenSpec.ofChange pathsNumbersWrong)

/-- 'weepholelaw32.PathsVals': WHATEVER THE INPUT: true; the input reads as it did. -/
def pathsValsSpec : ChangeSpec := { name := "pathsVals", fn := fun _ => fun
  | [d1, d2, d3, d4] => { results := [.lit (.bool true)], args := [d1, d2, d3, d4] }
  | _ => none }
def pathsValsRow : OpenClaim := { program := "ytjhbabgcoemecaadoor", sum := "8bce43971d241000db683a25cad9fd3439270bbe5148ec1292e0e4a5f0648a1d", func := "weephole/weepholelaw32.PathsVals", spec := "pathsVals", unfollowed := true, recurses := true, named := ["weephole/explore.steps", "weephole/flat.shapes"], plainKeys := false, apart := false, laid := [("weephole/flat.shapes", laid_weephole_flat_shapes), ("weephole/explore.steps", laid_weephole_explore_steps)] }
def PathsValsSaid : Prop := pathsValsRow.holds Tryd.pinned (OpenSpec.ofChange pathsValsSpec)

/-- ITS FALSE NEIGHBOUR: 'it returns false'. Refute it at one input. -/
def pathsValsWrong : ChangeSpec := { name := "pathsVals", fn := fun _ => fun
  | [d1, d2, d3, d4] => { results := [.lit (.bool false)], args := [d1, d2, d3, d4] }
  | _ => none }
def PathsValsWrongFalsely : Prop := pathsValsRow.holds Tryd.pinned (OpenSpec.ofChange pathsValsWrong)

/-- 'weepholelaw32.PathsBack': WHATEVER THE INPUT: true; the input reads as it did. -/
def pathsBackSpec : ChangeSpec := { name := "pathsBack", fn := fun _ => fun
  | [d1, d2] => { results := [.lit (.bool true)], args := [d1, d2] }
  | _ => none }
def pathsBackRow : OpenClaim := { program := "ytjhbabgcoemecaadoor", sum := "8bce43971d241000db683a25cad9fd3439270bbe5148ec1292e0e4a5f0648a1d", func := "weephole/weepholelaw32.PathsBack", spec := "pathsBack", unfollowed := true, recurses := true, named := ["weephole/explore.steps", "weephole/flat.shapes"], plainKeys := false, apart := false, laid := [("weephole/flat.shapes", laid_weephole_flat_shapes), ("weephole/explore.steps", laid_weephole_explore_steps)] }
def PathsBackSaid : Prop := pathsBackRow.holds Tryd.pinned (OpenSpec.ofChange pathsBackSpec)

/-- ITS FALSE NEIGHBOUR: 'it returns false'. Refute it at one input. -/
def pathsBackWrong : ChangeSpec := { name := "pathsBack", fn := fun _ => fun
  | [d1, d2] => { results := [.lit (.bool false)], args := [d1, d2] }
  | _ => none }
def PathsBackWrongFalsely : Prop := pathsBackRow.holds Tryd.pinned (OpenSpec.ofChange pathsBackWrong)

/-- 'weepholelaw32.PathsBlind': WHATEVER THE INPUT: true; the input reads as it did. -/
def pathsBlindSpec : ChangeSpec := { name := "pathsBlind", fn := fun _ => fun
  | [d1, d2, d3, d4, d5] => { results := [.lit (.bool true)], args := [d1, d2, d3, d4, d5] }
  | _ => none }
def pathsBlindRow : OpenClaim := { program := "ytjhbabgcoemecaadoor", sum := "8bce43971d241000db683a25cad9fd3439270bbe5148ec1292e0e4a5f0648a1d", func := "weephole/weepholelaw32.PathsBlind", spec := "pathsBlind", unfollowed := true, recurses := true, named := ["weephole/explore.steps", "weephole/flat.shapes"], plainKeys := false, apart := false, laid := [("weephole/flat.shapes", laid_weephole_flat_shapes), ("weephole/explore.steps", laid_weephole_explore_steps)] }
def PathsBlindSaid : Prop := pathsBlindRow.holds Tryd.pinned (OpenSpec.ofChange pathsBlindSpec)

/-- ITS FALSE NEIGHBOUR: 'it returns false'. Refute it at one input. -/
def pathsBlindWrong : ChangeSpec := { name := "pathsBlind", fn := fun _ => fun
  | [d1, d2, d3, d4, d5] => { results := [.lit (.bool false)], args := [d1, d2, d3, d4, d5] }
  | _ => none }
def PathsBlindWrongFalsely : Prop := pathsBlindRow.holds Tryd.pinned (OpenSpec.ofChange pathsBlindWrong)

/-- 'weepholelaw32.PathsTake': WHATEVER THE INPUT: true; the input reads as it did. -/
def pathsTakeSpec : ChangeSpec := { name := "pathsTake", fn := fun _ => fun
  | [d1, d2, d3, d4] => { results := [.lit (.bool true)], args := [d1, d2, d3, d4] }
  | _ => none }
def pathsTakeRow : OpenClaim := { program := "ytjhbabgcoemecaadoor", sum := "8bce43971d241000db683a25cad9fd3439270bbe5148ec1292e0e4a5f0648a1d", func := "weephole/weepholelaw32.PathsTake", spec := "pathsTake", unfollowed := true, recurses := true, named := ["weephole/explore.steps", "weephole/flat.shapes"], plainKeys := false, apart := false, laid := [("weephole/flat.shapes", laid_weephole_flat_shapes), ("weephole/explore.steps", laid_weephole_explore_steps)] }
def PathsTakeSaid : Prop := pathsTakeRow.holds Tryd.pinned (OpenSpec.ofChange pathsTakeSpec)

/-- ITS FALSE NEIGHBOUR: 'it returns false'. Refute it at one input. -/
def pathsTakeWrong : ChangeSpec := { name := "pathsTake", fn := fun _ => fun
  | [d1, d2, d3, d4] => { results := [.lit (.bool false)], args := [d1, d2, d3, d4] }
  | _ => none }
def PathsTakeWrongFalsely : Prop := pathsTakeRow.holds Tryd.pinned (OpenSpec.ofChange pathsTakeWrong)

/-- 'weepholelaw32.PathsExamples': WHATEVER THE INPUT: true; the input reads as it did. -/
def pathsExamplesSpec : ChangeSpec := { name := "pathsExamples", fn := fun _ => fun
  | [] => { results := [.lit (.bool true)], args := [] }
  | _ => none }
def pathsExamplesRow : OpenClaim := { program := "ytjhbabgcoemecaadoor", sum := "8bce43971d241000db683a25cad9fd3439270bbe5148ec1292e0e4a5f0648a1d", func := "weephole/weepholelaw32.PathsExamples", spec := "pathsExamples", unfollowed := true, recurses := true, named := ["weephole/explore.steps", "weephole/flat.shapes"], plainKeys := false, apart := false, laid := [("weephole/flat.shapes", laid_weephole_flat_shapes), ("weephole/explore.steps", laid_weephole_explore_steps)] }
def PathsExamplesSaid : Prop := pathsExamplesRow.holds Tryd.pinned (OpenSpec.ofChange pathsExamplesSpec)

/-- ITS FALSE NEIGHBOUR: 'it returns false'. Refute it at one input. -/
def pathsExamplesWrong : ChangeSpec := { name := "pathsExamples", fn := fun _ => fun
  | [] => { results := [.lit (.bool false)], args := [] }
  | _ => none }
def PathsExamplesWrongFalsely : Prop := pathsExamplesRow.holds Tryd.pinned (OpenSpec.ofChange pathsExamplesWrong)

/- THE SECOND FORM. 'bulk': how many values and letters a reading holds, each counted each time it is reached (what is shared counts as often as it is met; a slice's spare places count too). A statement '..UptoSaid' is the law's where the arguments, and the package variables that the reading takes, are together of bulk at most 1048576: NARROWER than '..Said'. Prove '..Said' where nothing that the law and all that it calls make is longer than what came in: it says more and counts as full. Else prove '..UptoSaid'. A law counts once. -/
mutual
def uptoBulk {H : Type} : DataW H → Nat
  | .lit (.string bytes) => bytes.length + 1
  | .lit _ => 1
  | .nil => 1
  | .ptr d => uptoBulk d + 1
  | .slice elems spare => uptoBulkAll elems + uptoBulkAll spare + 1
  | .agg parts => uptoBulkAll parts + 1
  | .iface _ d => uptoBulk d + 1
  | .map entries => uptoBulkEntries entries + 1
  | .held _ => 1
def uptoBulkAll {H : Type} : List (DataW H) → Nat
  | [] => 0
  | d :: r => uptoBulk d + uptoBulkAll r
def uptoBulkEntries {H : Type} : List (Lit × DataW H) → Nat
  | [] => 0
  | x :: r => uptoBulkEntry x + uptoBulkEntries r
def uptoBulkEntry {H : Type} : Lit × DataW H → Nat
  | (.string bytes, d) => bytes.length + uptoBulk d + 1
  | (_, d) => uptoBulk d + 1
 end
def uptoSmall : (H : Type) → List (DataW H) → Bool := fun _ ds => decide (uptoBulkAll ds ≤ 1048576)
def OpenSpec.upto (s : _root_.Go.ChangeSpec) : _root_.Go.OpenSpec := { _root_.Go.OpenSpec.ofChange s with cond := some uptoSmall }

/-- 'weepholelaw31.ExploreInputs', WHERE WHAT IT READS IS OF BULK AT MOST 1048576: true; the input reads as it did. -/
def exploreInputsUptoRow : OpenClaim := { program := "ytjhbabgcoemecaadoor", sum := "8bce43971d241000db683a25cad9fd3439270bbe5148ec1292e0e4a5f0648a1d", func := "weephole/weepholelaw31.ExploreInputs", spec := "exploreInputs", unfollowed := true, recurses := true, named := ["weephole/explore.steps", "weephole/flat.shapes"], plainKeys := false, apart := false, laid := [("weephole/flat.shapes", laid_weephole_flat_shapes), ("weephole/explore.steps", laid_weephole_explore_steps)], narrowed := true }
def ExploreInputsUptoSaid : Prop := exploreInputsUptoRow.holds Tryd.pinned (OpenSpec.upto exploreInputsSpec)

/-- 'weepholelaw31.ExploreExamples', WHERE WHAT IT READS IS OF BULK AT MOST 1048576: true; the input reads as it did. -/
def exploreExamplesUptoRow : OpenClaim := { program := "ytjhbabgcoemecaadoor", sum := "8bce43971d241000db683a25cad9fd3439270bbe5148ec1292e0e4a5f0648a1d", func := "weephole/weepholelaw31.ExploreExamples", spec := "exploreExamples", unfollowed := true, recurses := true, named := ["weephole/explore.steps", "weephole/flat.shapes"], plainKeys := false, apart := false, laid := [("weephole/flat.shapes", laid_weephole_flat_shapes), ("weephole/explore.steps", laid_weephole_explore_steps)], narrowed := true }
def ExploreExamplesUptoSaid : Prop := exploreExamplesUptoRow.holds Tryd.pinned (OpenSpec.upto exploreExamplesSpec)

/-- 'weepholelaw32.PathsNumbers', WHERE WHAT IT READS IS OF BULK AT MOST 1048576: true; the input reads as it did. -/
def pathsNumbersUptoRow : OpenClaim := { program := "ytjhbabgcoemecaadoor", sum := "8bce43971d241000db683a25cad9fd3439270bbe5148ec1292e0e4a5f0648a1d", func := "weephole/weepholelaw32.PathsNumbers", spec := "pathsNumbers", unfollowed := true, recurses := true, named := ["weephole/explore.steps", "weephole/flat.shapes"], plainKeys := false, apart := false, laid := [("weephole/flat.shapes", laid_weephole_flat_shapes), ("weephole/explore.steps", laid_weephole_explore_steps)], narrowed := true }
def PathsNumbersUptoSaid : Prop := pathsNumbersUptoRow.holds Tryd.pinned (OpenSpec.upto pathsNumbersSpec)

/-- 'weepholelaw32.PathsVals', WHERE WHAT IT READS IS OF BULK AT MOST 1048576: true; the input reads as it did. -/
def pathsValsUptoRow : OpenClaim := { program := "ytjhbabgcoemecaadoor", sum := "8bce43971d241000db683a25cad9fd3439270bbe5148ec1292e0e4a5f0648a1d", func := "weephole/weepholelaw32.PathsVals", spec := "pathsVals", unfollowed := true, recurses := true, named := ["weephole/explore.steps", "weephole/flat.shapes"], plainKeys := false, apart := false, laid := [("weephole/flat.shapes", laid_weephole_flat_shapes), ("weephole/explore.steps", laid_weephole_explore_steps)], narrowed := true }
def PathsValsUptoSaid : Prop := pathsValsUptoRow.holds Tryd.pinned (OpenSpec.upto pathsValsSpec)

/-- 'weepholelaw32.PathsBack', WHERE WHAT IT READS IS OF BULK AT MOST 1048576: true; the input reads as it did. -/
def pathsBackUptoRow : OpenClaim := { program := "ytjhbabgcoemecaadoor", sum := "8bce43971d241000db683a25cad9fd3439270bbe5148ec1292e0e4a5f0648a1d", func := "weephole/weepholelaw32.PathsBack", spec := "pathsBack", unfollowed := true, recurses := true, named := ["weephole/explore.steps", "weephole/flat.shapes"], plainKeys := false, apart := false, laid := [("weephole/flat.shapes", laid_weephole_flat_shapes), ("weephole/explore.steps", laid_weephole_explore_steps)], narrowed := true }
def PathsBackUptoSaid : Prop := pathsBackUptoRow.holds Tryd.pinned (OpenSpec.upto pathsBackSpec)

/-- 'weepholelaw32.PathsBlind', WHERE WHAT IT READS IS OF BULK AT MOST 1048576: true; the input reads as it did. -/
def pathsBlindUptoRow : OpenClaim := { program := "ytjhbabgcoemecaadoor", sum := "8bce43971d241000db683a25cad9fd3439270bbe5148ec1292e0e4a5f0648a1d", func := "weephole/weepholelaw32.PathsBlind", spec := "pathsBlind", unfollowed := true, recurses := true, named := ["weephole/explore.steps", "weephole/flat.shapes"], plainKeys := false, apart := false, laid := [("weephole/flat.shapes", laid_weephole_flat_shapes), ("weephole/explore.steps", laid_weephole_explore_steps)], narrowed := true }
def PathsBlindUptoSaid : Prop := pathsBlindUptoRow.holds Tryd.pinned (OpenSpec.upto pathsBlindSpec)

/-- 'weepholelaw32.PathsTake', WHERE WHAT IT READS IS OF BULK AT MOST 1048576: true; the input reads as it did. -/
def pathsTakeUptoRow : OpenClaim := { program := "ytjhbabgcoemecaadoor", sum := "8bce43971d241000db683a25cad9fd3439270bbe5148ec1292e0e4a5f0648a1d", func := "weephole/weepholelaw32.PathsTake", spec := "pathsTake", unfollowed := true, recurses := true, named := ["weephole/explore.steps", "weephole/flat.shapes"], plainKeys := false, apart := false, laid := [("weephole/flat.shapes", laid_weephole_flat_shapes), ("weephole/explore.steps", laid_weephole_explore_steps)], narrowed := true }
def PathsTakeUptoSaid : Prop := pathsTakeUptoRow.holds Tryd.pinned (OpenSpec.upto pathsTakeSpec)

/-- 'weepholelaw32.PathsExamples', WHERE WHAT IT READS IS OF BULK AT MOST 1048576: true; the input reads as it did. -/
def pathsExamplesUptoRow : OpenClaim := { program := "ytjhbabgcoemecaadoor", sum := "8bce43971d241000db683a25cad9fd3439270bbe5148ec1292e0e4a5f0648a1d", func := "weephole/weepholelaw32.PathsExamples", spec := "pathsExamples", unfollowed := true, recurses := true, named := ["weephole/explore.steps", "weephole/flat.shapes"], plainKeys := false, apart := false, laid := [("weephole/flat.shapes", laid_weephole_flat_shapes), ("weephole/explore.steps", laid_weephole_explore_steps)], narrowed := true }
def PathsExamplesUptoSaid : Prop := pathsExamplesUptoRow.holds Tryd.pinned (OpenSpec.upto pathsExamplesSpec)

end Rows
end Go.Proofs.YtjhbabgcoemecaaDoor
