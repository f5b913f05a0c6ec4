/-
  NARROWER THAN 'FOR EVERY INPUT', by the rows' own cells (each row's printed sentence says how): LatticeOrder: laid · LatticeLaws: laid · LatticeTurns: laid · LatticeLoops: laid · LatticeMatches: laid · LatticeExamples: laid · ViewEvents: laid · ViewInputs: laid · ViewNests: laid · ViewEquals: laid · ViewPrefix: laid · ViewExamples: laid · ViewBegins: laid.
  DERIVED. THE GIVEN ROWS OF THIS SEAT. 13 by the template 'for every input the law returns true; each argument reads behind the call as it read before'; 0 by the template 'total and deterministic' (their statements: YtjancemacdffbaaDoorTotals.lean).
  GIVEN WITH THE SEED: the statements are not yours to turn. If you find one false, say at which input.
  Laid BY PROGRAM, IN A SANDBOX (cutbox-rows.mjs): the forced cells as the released guide's own fill.sh prints them over the translation c845020fc98f8989… (all of the seat's roots in one cut). By AI agents, Wed Nov 11 2026. No macro, syntax, notation, axiom, sorry.
-/
import Derived.Test.YtjancemacdffbaaDoorChecked
import GoSem.Claim
import GoSem.ClaimJoined
import GoSem.ClaimMapViews
import Derived.JoinedTies
import Derived.KernelRfl
namespace Go.Proofs.YtjancemacdffbaaDoor
/- THE CELL 'sum', in the pinned program and in every row, IS THE sha256 OF THE DUMP (.gsa) THAT YtjancemacdffbaaDoorProg.lean LOADS. Nothing in Lean hashes anything: it is a label: what it is worth is what the hold of that sum in a sandbox is worth. -/
noncomputable def Tryd.pinned : Pinned := { name := "ytjancemacdffbaadoor", sum := "c845020fc98f898995dd89bd3a7d7dcea05195fb85e9f5ebdd4516ad1088e3bd", checked := Tryd.checked }
namespace Rows
def none {H : Type} : Left H := { results := [], args := [] }

/- WHAT THE LISTED PACKAGE-LEVEL VARIABLES READ AS WHEN THE CALL BEGINS. Each datum BY PROGRAM (the guide's laid-datum.mjs) off the statement by which the dump's own 'gosem.cut.vars' lays the variable. In a bare row this is a premise. The card (YtjancemacdffbaaDoorCards.lean) ties it to the program's text. -/
def laid_math_bits_deBruijn32tab {H : Type} : DataW H := .agg [.lit (.int .u8 0), .lit (.int .u8 1), .lit (.int .u8 28), .lit (.int .u8 2), .lit (.int .u8 29), .lit (.int .u8 14), .lit (.int .u8 24), .lit (.int .u8 3), .lit (.int .u8 30), .lit (.int .u8 22), .lit (.int .u8 20), .lit (.int .u8 15), .lit (.int .u8 25), .lit (.int .u8 17), .lit (.int .u8 4), .lit (.int .u8 8), .lit (.int .u8 31), .lit (.int .u8 27), .lit (.int .u8 13), .lit (.int .u8 23), .lit (.int .u8 21), .lit (.int .u8 19), .lit (.int .u8 16), .lit (.int .u8 7), .lit (.int .u8 26), .lit (.int .u8 12), .lit (.int .u8 18), .lit (.int .u8 6), .lit (.int .u8 11), .lit (.int .u8 5), .lit (.int .u8 10), .lit (.int .u8 9)]

/-- 'weepholelaw27.LatticeOrder': WHATEVER THE INPUT: true; the input reads as it did. -/
def latticeOrderSpec : ChangeSpec := { name := "latticeOrder", fn := fun _ => fun
  | [d1, d2, d3, d4, d5, d6] => { results := [.lit (.bool true)], args := [d1, d2, d3, d4, d5, d6] }
  | _ => none }
def latticeOrderRow : OpenClaim := { program := "ytjancemacdffbaadoor", sum := "c845020fc98f898995dd89bd3a7d7dcea05195fb85e9f5ebdd4516ad1088e3bd", func := "weephole/weepholelaw27.LatticeOrder", spec := "latticeOrder", unfollowed := true, recurses := true, named := ["math/bits.deBruijn32tab"], apart := false, laid := [("math/bits.deBruijn32tab", laid_math_bits_deBruijn32tab)] }
def LatticeOrderSaid : Prop := latticeOrderRow.holds Tryd.pinned (OpenSpec.ofChange latticeOrderSpec)

/-- ITS FALSE NEIGHBOUR: 'it returns false'. Refute it at one input. -/
def latticeOrderWrong : ChangeSpec := { name := "latticeOrder", fn := fun _ => fun
  | [d1, d2, d3, d4, d5, d6] => { results := [.lit (.bool false)], args := [d1, d2, d3, d4, d5, d6] }
  | _ => none }
def LatticeOrderWrongFalsely : Prop := latticeOrderRow.holds Tryd.pinned (OpenSpec.ofChange latticeOrderWrong)

/-- 'weepholelaw27.LatticeLaws': WHATEVER THE INPUT: true; the input reads as it did. -/
def latticeLawsSpec : ChangeSpec := { name := "latticeLaws", fn := fun _ => fun
  | [d1, d2, d3, d4, d5, d6] => { results := [.lit (.bool true)], args := [d1, d2, d3, d4, d5, d6] }
  | _ => none }
def latticeLawsRow : OpenClaim := { program := "ytjancemacdffbaadoor", sum := "c845020fc98f898995dd89bd3a7d7dcea05195fb85e9f5ebdd4516ad1088e3bd", func := "weephole/weepholelaw27.LatticeLaws", spec := "latticeLaws", unfollowed := true, recurses := true, named := ["math/bits.deBruijn32tab"], apart := false, laid := [("math/bits.deBruijn32tab", laid_math_bits_deBruijn32tab)] }
def LatticeLawsSaid : Prop := latticeLawsRow.holds Tryd.pinned (OpenSpec.ofChange latticeLawsSpec)

/-- ITS FALSE NEIGHBOUR: 'it returns false'. Refute it at one input. -/
def latticeLawsWrong : ChangeSpec := { name := "latticeLaws", fn := fun _ => fun
  | [d1, d2, d3, d4, d5, d6] => { results := [.lit (.bool false)], args := [d1, d2, d3, d4, d5, d6] }
  | _ => none }
def LatticeLawsWrongFalsely : Prop := latticeLawsRow.holds Tryd.pinned (OpenSpec.ofChange latticeLawsWrong)

/-- 'weepholelaw27.LatticeTurns': WHATEVER THE INPUT: true; the input reads as it did. -/
def latticeTurnsSpec : ChangeSpec := { name := "latticeTurns", fn := fun _ => fun
  | [d1, d2, d3, d4, d5] => { results := [.lit (.bool true)], args := [d1, d2, d3, d4, d5] }
  | _ => none }
def latticeTurnsRow : OpenClaim := { program := "ytjancemacdffbaadoor", sum := "c845020fc98f898995dd89bd3a7d7dcea05195fb85e9f5ebdd4516ad1088e3bd", func := "weephole/weepholelaw27.LatticeTurns", spec := "latticeTurns", unfollowed := true, recurses := true, named := ["math/bits.deBruijn32tab"], apart := false, laid := [("math/bits.deBruijn32tab", laid_math_bits_deBruijn32tab)] }
def LatticeTurnsSaid : Prop := latticeTurnsRow.holds Tryd.pinned (OpenSpec.ofChange latticeTurnsSpec)

/-- ITS FALSE NEIGHBOUR: 'it returns false'. Refute it at one input. -/
def latticeTurnsWrong : ChangeSpec := { name := "latticeTurns", fn := fun _ => fun
  | [d1, d2, d3, d4, d5] => { results := [.lit (.bool false)], args := [d1, d2, d3, d4, d5] }
  | _ => none }
def LatticeTurnsWrongFalsely : Prop := latticeTurnsRow.holds Tryd.pinned (OpenSpec.ofChange latticeTurnsWrong)

/-- 'weepholelaw27.LatticeLoops': WHATEVER THE INPUT: true; the input reads as it did. -/
def latticeLoopsSpec : ChangeSpec := { name := "latticeLoops", fn := fun _ => fun
  | [d1, d2, d3] => { results := [.lit (.bool true)], args := [d1, d2, d3] }
  | _ => none }
def latticeLoopsRow : OpenClaim := { program := "ytjancemacdffbaadoor", sum := "c845020fc98f898995dd89bd3a7d7dcea05195fb85e9f5ebdd4516ad1088e3bd", func := "weephole/weepholelaw27.LatticeLoops", spec := "latticeLoops", unfollowed := true, recurses := true, named := ["math/bits.deBruijn32tab"], apart := false, laid := [("math/bits.deBruijn32tab", laid_math_bits_deBruijn32tab)] }
def LatticeLoopsSaid : Prop := latticeLoopsRow.holds Tryd.pinned (OpenSpec.ofChange latticeLoopsSpec)

/-- ITS FALSE NEIGHBOUR: 'it returns false'. Refute it at one input. -/
def latticeLoopsWrong : ChangeSpec := { name := "latticeLoops", fn := fun _ => fun
  | [d1, d2, d3] => { results := [.lit (.bool false)], args := [d1, d2, d3] }
  | _ => none }
def LatticeLoopsWrongFalsely : Prop := latticeLoopsRow.holds Tryd.pinned (OpenSpec.ofChange latticeLoopsWrong)

/-- 'weepholelaw27.LatticeMatches': WHATEVER THE INPUT: true; the input reads as it did. -/
def latticeMatchesSpec : ChangeSpec := { name := "latticeMatches", fn := fun _ => fun
  | [d1, d2, d3, d4] => { results := [.lit (.bool true)], args := [d1, d2, d3, d4] }
  | _ => none }
def latticeMatchesRow : OpenClaim := { program := "ytjancemacdffbaadoor", sum := "c845020fc98f898995dd89bd3a7d7dcea05195fb85e9f5ebdd4516ad1088e3bd", func := "weephole/weepholelaw27.LatticeMatches", spec := "latticeMatches", unfollowed := true, recurses := true, named := ["math/bits.deBruijn32tab"], apart := false, laid := [("math/bits.deBruijn32tab", laid_math_bits_deBruijn32tab)] }
def LatticeMatchesSaid : Prop := latticeMatchesRow.holds Tryd.pinned (OpenSpec.ofChange latticeMatchesSpec)

/-- ITS FALSE NEIGHBOUR: 'it returns false'. Refute it at one input. -/
def latticeMatchesWrong : ChangeSpec := { name := "latticeMatches", fn := fun _ => fun
  | [d1, d2, d3, d4] => { results := [.lit (.bool false)], args := [d1, d2, d3, d4] }
  | _ => none }
def LatticeMatchesWrongFalsely : Prop := latticeMatchesRow.holds Tryd.pinned (OpenSpec.ofChange latticeMatchesWrong)

/-- 'weepholelaw27.LatticeExamples': WHATEVER THE INPUT: true; the input reads as it did. -/
def latticeExamplesSpec : ChangeSpec := { name := "latticeExamples", fn := fun _ => fun
  | [] => { results := [.lit (.bool true)], args := [] }
  | _ => none }
def latticeExamplesRow : OpenClaim := { program := "ytjancemacdffbaadoor", sum := "c845020fc98f898995dd89bd3a7d7dcea05195fb85e9f5ebdd4516ad1088e3bd", func := "weephole/weepholelaw27.LatticeExamples", spec := "latticeExamples", unfollowed := true, recurses := true, named := ["math/bits.deBruijn32tab"], apart := false, laid := [("math/bits.deBruijn32tab", laid_math_bits_deBruijn32tab)] }
def LatticeExamplesSaid : Prop := latticeExamplesRow.holds Tryd.pinned (OpenSpec.ofChange latticeExamplesSpec)

/-- ITS FALSE NEIGHBOUR: 'it returns false'. Refute it at one input. -/
def latticeExamplesWrong : ChangeSpec := { name := "latticeExamples", fn := fun _ => fun
  | [] => { results := [.lit (.bool false)], args := [] }
  | _ => none }
def LatticeExamplesWrongFalsely : Prop := latticeExamplesRow.holds Tryd.pinned (OpenSpec.ofChange latticeExamplesWrong)

/-- 'weepholelaw33.ViewEvents': WHATEVER THE INPUT: true; the input reads as it did. -/
def viewEventsSpec : ChangeSpec := { name := "viewEvents", fn := fun _ => fun
  | [d1, d2, d3, d4, d5] => { results := [.lit (.bool true)], args := [d1, d2, d3, d4, d5] }
  | _ => none }
def viewEventsRow : OpenClaim := { program := "ytjancemacdffbaadoor", sum := "c845020fc98f898995dd89bd3a7d7dcea05195fb85e9f5ebdd4516ad1088e3bd", func := "weephole/weepholelaw33.ViewEvents", spec := "viewEvents", unfollowed := true, recurses := true, named := ["math/bits.deBruijn32tab"], apart := false, laid := [("math/bits.deBruijn32tab", laid_math_bits_deBruijn32tab)] }
def ViewEventsSaid : Prop := viewEventsRow.holds Tryd.pinned (OpenSpec.ofChange viewEventsSpec)

/-- ITS FALSE NEIGHBOUR: 'it returns false'. Refute it at one input. -/
def viewEventsWrong : ChangeSpec := { name := "viewEvents", fn := fun _ => fun
  | [d1, d2, d3, d4, d5] => { results := [.lit (.bool false)], args := [d1, d2, d3, d4, d5] }
  | _ => none }
def ViewEventsWrongFalsely : Prop := viewEventsRow.holds Tryd.pinned (OpenSpec.ofChange viewEventsWrong)

/-- 'weepholelaw33.ViewInputs': WHATEVER THE INPUT: true; the input reads as it did. -/
def viewInputsSpec : ChangeSpec := { name := "viewInputs", fn := fun _ => fun
  | [d1, d2, d3, d4, d5, d6] => { results := [.lit (.bool true)], args := [d1, d2, d3, d4, d5, d6] }
  | _ => none }
def viewInputsRow : OpenClaim := { program := "ytjancemacdffbaadoor", sum := "c845020fc98f898995dd89bd3a7d7dcea05195fb85e9f5ebdd4516ad1088e3bd", func := "weephole/weepholelaw33.ViewInputs", spec := "viewInputs", unfollowed := true, recurses := true, named := ["math/bits.deBruijn32tab"], apart := false, laid := [("math/bits.deBruijn32tab", laid_math_bits_deBruijn32tab)] }
def ViewInputsSaid : Prop := viewInputsRow.holds Tryd.pinned (OpenSpec.ofChange viewInputsSpec)

/-- ITS FALSE NEIGHBOUR: 'it returns false'. Refute it at one input. -/
def viewInputsWrong : ChangeSpec := { name := "viewInputs", fn := fun _ => fun
  | [d1, d2, d3, d4, d5, d6] => { results := [.lit (.bool false)], args := [d1, d2, d3, d4, d5, d6] }
  | _ => none }
def ViewInputsWrongFalsely : Prop := viewInputsRow.holds Tryd.pinned (OpenSpec.ofChange viewInputsWrong)

/-- 'weepholelaw33.ViewNests': WHATEVER THE INPUT: true; the input reads as it did. -/
def viewNestsSpec : ChangeSpec := { name := "viewNests", fn := fun _ => fun
  | [d1, d2, d3, d4, d5, d6, d7, d8] => { results := [.lit (.bool true)], args := [d1, d2, d3, d4, d5, d6, d7, d8] }
  | _ => none }
def viewNestsRow : OpenClaim := { program := "ytjancemacdffbaadoor", sum := "c845020fc98f898995dd89bd3a7d7dcea05195fb85e9f5ebdd4516ad1088e3bd", func := "weephole/weepholelaw33.ViewNests", spec := "viewNests", unfollowed := true, recurses := true, named := ["math/bits.deBruijn32tab"], apart := false, laid := [("math/bits.deBruijn32tab", laid_math_bits_deBruijn32tab)] }
def ViewNestsSaid : Prop := viewNestsRow.holds Tryd.pinned (OpenSpec.ofChange viewNestsSpec)

/-- ITS FALSE NEIGHBOUR: 'it returns false'. Refute it at one input. -/
def viewNestsWrong : ChangeSpec := { name := "viewNests", fn := fun _ => fun
  | [d1, d2, d3, d4, d5, d6, d7, d8] => { results := [.lit (.bool false)], args := [d1, d2, d3, d4, d5, d6, d7, d8] }
  | _ => none }
def ViewNestsWrongFalsely : Prop := viewNestsRow.holds Tryd.pinned (OpenSpec.ofChange viewNestsWrong)

/-- 'weepholelaw33.ViewEquals': WHATEVER THE INPUT: true; the input reads as it did. -/
def viewEqualsSpec : ChangeSpec := { name := "viewEquals", fn := fun _ => fun
  | [d1, d2, d3, d4, d5, d6, d7] => { results := [.lit (.bool true)], args := [d1, d2, d3, d4, d5, d6, d7] }
  | _ => none }
def viewEqualsRow : OpenClaim := { program := "ytjancemacdffbaadoor", sum := "c845020fc98f898995dd89bd3a7d7dcea05195fb85e9f5ebdd4516ad1088e3bd", func := "weephole/weepholelaw33.ViewEquals", spec := "viewEquals", unfollowed := true, recurses := true, named := ["math/bits.deBruijn32tab"], apart := false, laid := [("math/bits.deBruijn32tab", laid_math_bits_deBruijn32tab)] }
def ViewEqualsSaid : Prop := viewEqualsRow.holds Tryd.pinned (OpenSpec.ofChange viewEqualsSpec)

/-- ITS FALSE NEIGHBOUR: 'it returns false'. Refute it at one input. -/
def viewEqualsWrong : ChangeSpec := { name := "viewEquals", fn := fun _ => fun
  | [d1, d2, d3, d4, d5, d6, d7] => { results := [.lit (.bool false)], args := [d1, d2, d3, d4, d5, d6, d7] }
  | _ => none }
def ViewEqualsWrongFalsely : Prop := viewEqualsRow.holds Tryd.pinned (OpenSpec.ofChange viewEqualsWrong)

/-- 'weepholelaw33.ViewPrefix': WHATEVER THE INPUT: true; the input reads as it did. -/
def viewPrefixSpec : ChangeSpec := { name := "viewPrefix", fn := fun _ => fun
  | [d1, d2] => { results := [.lit (.bool true)], args := [d1, d2] }
  | _ => none }
def viewPrefixRow : OpenClaim := { program := "ytjancemacdffbaadoor", sum := "c845020fc98f898995dd89bd3a7d7dcea05195fb85e9f5ebdd4516ad1088e3bd", func := "weephole/weepholelaw33.ViewPrefix", spec := "viewPrefix", unfollowed := true, recurses := true, named := ["math/bits.deBruijn32tab"], apart := false, laid := [("math/bits.deBruijn32tab", laid_math_bits_deBruijn32tab)] }
def ViewPrefixSaid : Prop := viewPrefixRow.holds Tryd.pinned (OpenSpec.ofChange viewPrefixSpec)

/-- ITS FALSE NEIGHBOUR: 'it returns false'. Refute it at one input. -/
def viewPrefixWrong : ChangeSpec := { name := "viewPrefix", fn := fun _ => fun
  | [d1, d2] => { results := [.lit (.bool false)], args := [d1, d2] }
  | _ => none }
def ViewPrefixWrongFalsely : Prop := viewPrefixRow.holds Tryd.pinned (OpenSpec.ofChange viewPrefixWrong)

/-- 'weepholelaw33.ViewExamples': WHATEVER THE INPUT: true; the input reads as it did. -/
def viewExamplesSpec : ChangeSpec := { name := "viewExamples", fn := fun _ => fun
  | [] => { results := [.lit (.bool true)], args := [] }
  | _ => none }
def viewExamplesRow : OpenClaim := { program := "ytjancemacdffbaadoor", sum := "c845020fc98f898995dd89bd3a7d7dcea05195fb85e9f5ebdd4516ad1088e3bd", func := "weephole/weepholelaw33.ViewExamples", spec := "viewExamples", unfollowed := true, recurses := true, named := ["math/bits.deBruijn32tab"], apart := false, laid := [("math/bits.deBruijn32tab", laid_math_bits_deBruijn32tab)] }
def ViewExamplesSaid : Prop := viewExamplesRow.holds Tryd.pinned (OpenSpec.ofChange viewExamplesSpec)

/-- ITS FALSE NEIGHBOUR: 'it returns false'. Refute it at one input. -/
def viewExamplesWrong : ChangeSpec := { name := "viewExamples", fn := fun _ => fun
  | [] => { results := [.lit (.bool false)], args := [] }
  | _ => none }
def ViewExamplesWrongFalsely : Prop := viewExamplesRow.holds Tryd.pinned (OpenSpec.ofChange viewExamplesWrong)

/-- 'weepholelaw33.ViewBegins': WHATEVER THE INPUT: true; the input reads as it did. -/
def viewBeginsSpec : ChangeSpec := { name := "viewBegins", fn := fun _ => fun
  | [d1, d2, d3] => { results := [.lit (.bool true)], args := [d1, d2, d3] }
  | _ => none }
def viewBeginsRow : OpenClaim := { program := "ytjancemacdffbaadoor", sum := "c845020fc98f898995dd89bd3a7d7dcea05195fb85e9f5ebdd4516ad1088e3bd", func := "weephole/weepholelaw33.ViewBegins", spec := "viewBegins", unfollowed := true, recurses := true, named := ["math/bits.deBruijn32tab"], apart := false, laid := [("math/bits.deBruijn32tab", laid_math_bits_deBruijn32tab)] }
def ViewBeginsSaid : Prop := viewBeginsRow.holds Tryd.pinned (OpenSpec.ofChange viewBeginsSpec)

/-- ITS FALSE NEIGHBOUR: 'it returns false'. Refute it at one input. -/
def viewBeginsWrong : ChangeSpec := { name := "viewBegins", fn := fun _ => fun
  | [d1, d2, d3] => { results := [.lit (.bool false)], args := [d1, d2, d3] }
  | _ => none }
def ViewBeginsWrongFalsely : Prop := viewBeginsRow.holds Tryd.pinned (OpenSpec.ofChange viewBeginsWrong)

/- THE SECOND FORM. 'bulk': how many values and letters a reading holds, each counted each time it is reached (what is shared counts as often as it is met; a slice's spare places count too). A statement '..UptoSaid' is the law's where the arguments, and the package variables that the reading takes, are together of bulk at most 1048576: NARROWER than '..Said'. Prove '..Said' where nothing that the law and all that it calls make is longer than what came in: it says more and counts as full. Else prove '..UptoSaid'. A law counts once. -/
mutual
def uptoBulk {H : Type} : DataW H → Nat
  | .lit (.string bytes) => bytes.length + 1
  | .lit _ => 1
  | .nil => 1
  | .ptr d => uptoBulk d + 1
  | .slice elems spare => uptoBulkAll elems + uptoBulkAll spare + 1
  | .agg parts => uptoBulkAll parts + 1
  | .iface _ d => uptoBulk d + 1
  | .map entries => uptoBulkEntries entries + 1
  | .held _ => 1
def uptoBulkAll {H : Type} : List (DataW H) → Nat
  | [] => 0
  | d :: r => uptoBulk d + uptoBulkAll r
def uptoBulkEntries {H : Type} : List (Lit × DataW H) → Nat
  | [] => 0
  | x :: r => uptoBulkEntry x + uptoBulkEntries r
def uptoBulkEntry {H : Type} : Lit × DataW H → Nat
  | (.string bytes, d) => bytes.length + uptoBulk d + 1
  | (_, d) => uptoBulk d + 1
 end
def uptoSmall : (H : Type) → List (DataW H) → Bool := fun _ ds => decide (uptoBulkAll ds ≤ 1048576)
def OpenSpec.upto (s : _root_.Go.ChangeSpec) : _root_.Go.OpenSpec := { _root_.Go.OpenSpec.ofChange s with cond := some uptoSmall }

/-- 'weepholelaw27.LatticeOrder', WHERE WHAT IT READS IS OF BULK AT MOST 1048576: true; the input reads as it did. -/
def latticeOrderUptoRow : OpenClaim := { program := "ytjancemacdffbaadoor", sum := "c845020fc98f898995dd89bd3a7d7dcea05195fb85e9f5ebdd4516ad1088e3bd", func := "weephole/weepholelaw27.LatticeOrder", spec := "latticeOrder", unfollowed := true, recurses := true, named := ["math/bits.deBruijn32tab"], apart := false, laid := [("math/bits.deBruijn32tab", laid_math_bits_deBruijn32tab)], narrowed := true }
def LatticeOrderUptoSaid : Prop := latticeOrderUptoRow.holds Tryd.pinned (OpenSpec.upto latticeOrderSpec)

/-- 'weepholelaw27.LatticeLaws', WHERE WHAT IT READS IS OF BULK AT MOST 1048576: true; the input reads as it did. -/
def latticeLawsUptoRow : OpenClaim := { program := "ytjancemacdffbaadoor", sum := "c845020fc98f898995dd89bd3a7d7dcea05195fb85e9f5ebdd4516ad1088e3bd", func := "weephole/weepholelaw27.LatticeLaws", spec := "latticeLaws", unfollowed := true, recurses := true, named := ["math/bits.deBruijn32tab"], apart := false, laid := [("math/bits.deBruijn32tab", laid_math_bits_deBruijn32tab)], narrowed := true }
def LatticeLawsUptoSaid : Prop := latticeLawsUptoRow.holds Tryd.pinned (OpenSpec.upto latticeLawsSpec)

/-- 'weepholelaw27.LatticeTurns', WHERE WHAT IT READS IS OF BULK AT MOST 1048576: true; the input reads as it did. -/
def latticeTurnsUptoRow : OpenClaim := { program := "ytjancemacdffbaadoor", sum := "c845020fc98f898995dd89bd3a7d7dcea05195fb85e9f5ebdd4516ad1088e3bd", func := "weephole/weepholelaw27.LatticeTurns", spec := "latticeTurns", unfollowed := true, recurses := true, named := ["math/bits.deBruijn32tab"], apart := false, laid := [("math/bits.deBruijn32tab", laid_math_bits_deBruijn32tab)], narrowed := true }
def LatticeTurnsUptoSaid : Prop := latticeTurnsUptoRow.holds Tryd.pinned (OpenSpec.upto latticeTurnsSpec)

/-- 'weepholelaw27.LatticeLoops', WHERE WHAT IT READS IS OF BULK AT MOST 1048576: true; the input reads as it did. -/
def latticeLoopsUptoRow : OpenClaim := { program := "ytjancemacdffbaadoor", sum := "c845020fc98f898995dd89bd3a7d7dcea05195fb85e9f5ebdd4516ad1088e3bd", func := "weephole/weepholelaw27.LatticeLoops", spec := "latticeLoops", unfollowed := true, recurses := true, named := ["math/bits.deBruijn32tab"], apart := false, laid := [("math/bits.deBruijn32tab", laid_math_bits_deBruijn32tab)], narrowed := true }
def LatticeLoopsUptoSaid : Prop := latticeLoopsUptoRow.holds Tryd.pinned (OpenSpec.upto latticeLoopsSpec)

/-- 'weepholelaw27.LatticeMatches', WHERE WHAT IT READS IS OF BULK AT MOST 1048576: true; the input reads as it did. -/
def latticeMatchesUptoRow : OpenClaim := { program := "ytjancemacdffbaadoor", sum := "c845020fc98f898995dd89bd3a7d7dcea05195fb85e9f5ebdd4516ad1088e3bd", func := "weephole/weepholelaw27.LatticeMatches", spec := "latticeMatches", unfollowed := true, recurses := true, named := ["math/bits.deBruijn32tab"], apart := false, laid := [("math/bits.deBruijn32tab", laid_math_bits_deBruijn32tab)], narrowed := true }
def LatticeMatchesUptoSaid : Prop := latticeMatchesUptoRow.holds Tryd.pinned (OpenSpec.upto latticeMatchesSpec)

/-- 'weepholelaw27.LatticeExamples', WHERE WHAT IT READS IS OF BULK AT MOST 1048576: true; the input reads as it did. -/
def latticeExamplesUptoRow : OpenClaim := { program := "ytjancemacdffbaadoor", sum := "c845020fc98f898995dd89bd3a7d7dcea05195fb85e9f5ebdd4516ad1088e3bd", func := "weephole/weepholelaw27.LatticeExamples", spec := "latticeExamples", unfollowed := true, recurses := true, named := ["math/bits.deBruijn32tab"], apart := false, laid := [("math/bits.deBruijn32tab", laid_math_bits_deBruijn32tab)], narrowed := true }
def LatticeExamplesUptoSaid : Prop := latticeExamplesUptoRow.holds Tryd.pinned (OpenSpec.upto latticeExamplesSpec)

/-- 'weepholelaw33.ViewEvents', WHERE WHAT IT READS IS OF BULK AT MOST 1048576: true; the input reads as it did. -/
def viewEventsUptoRow : OpenClaim := { program := "ytjancemacdffbaadoor", sum := "c845020fc98f898995dd89bd3a7d7dcea05195fb85e9f5ebdd4516ad1088e3bd", func := "weephole/weepholelaw33.ViewEvents", spec := "viewEvents", unfollowed := true, recurses := true, named := ["math/bits.deBruijn32tab"], apart := false, laid := [("math/bits.deBruijn32tab", laid_math_bits_deBruijn32tab)], narrowed := true }
def ViewEventsUptoSaid : Prop := viewEventsUptoRow.holds Tryd.pinned (OpenSpec.upto viewEventsSpec)

/-- 'weepholelaw33.ViewInputs', WHERE WHAT IT READS IS OF BULK AT MOST 1048576: true; the input reads as it did. -/
def viewInputsUptoRow : OpenClaim := { program := "ytjancemacdffbaadoor", sum := "c845020fc98f898995dd89bd3a7d7dcea05195fb85e9f5ebdd4516ad1088e3bd", func := "weephole/weepholelaw33.ViewInputs", spec := "viewInputs", unfollowed := true, recurses := true, named := ["math/bits.deBruijn32tab"], apart := false, laid := [("math/bits.deBruijn32tab", laid_math_bits_deBruijn32tab)], narrowed := true }
def ViewInputsUptoSaid : Prop := viewInputsUptoRow.holds Tryd.pinned (OpenSpec.upto viewInputsSpec)

/-- 'weepholelaw33.ViewNests', WHERE WHAT IT READS IS OF BULK AT MOST 1048576: true; the input reads as it did. -/
def viewNestsUptoRow : OpenClaim := { program := "ytjancemacdffbaadoor", sum := "c845020fc98f898995dd89bd3a7d7dcea05195fb85e9f5ebdd4516ad1088e3bd", func := "weephole/weepholelaw33.ViewNests", spec := "viewNests", unfollowed := true, recurses := true, named := ["math/bits.deBruijn32tab"], apart := false, laid := [("math/bits.deBruijn32tab", laid_math_bits_deBruijn32tab)], narrowed := true }
def ViewNestsUptoSaid : Prop := viewNestsUptoRow.holds Tryd.pinned (OpenSpec.upto viewNestsSpec)

/-- 'weepholelaw33.ViewEquals', WHERE WHAT IT READS IS OF BULK AT MOST 1048576: true; the input reads as it did. -/
def viewEqualsUptoRow : OpenClaim := { program := "ytjancemacdffbaadoor", sum := "c845020fc98f898995dd89bd3a7d7dcea05195fb85e9f5ebdd4516ad1088e3bd", func := "weephole/weepholelaw33.ViewEquals", spec := "viewEquals", unfollowed := true, recurses := true, named := ["math/bits.deBruijn32tab"], apart := false, laid := [("math/bits.deBruijn32tab", laid_math_bits_deBruijn32tab)], narrowed := true }
def ViewEqualsUptoSaid : Prop := viewEqualsUptoRow.holds Tryd.pinned (OpenSpec.upto viewEqualsSpec)

/-- 'weepholelaw33.ViewPrefix', WHERE WHAT IT READS IS OF BULK AT MOST 1048576: true; the input reads as it did. -/
def viewPrefixUptoRow : OpenClaim := { program := "ytjancemacdffbaadoor", sum := "c845020fc98f898995dd89bd3a7d7dcea05195fb85e9f5ebdd4516ad1088e3bd", func := "weephole/weepholelaw33.ViewPrefix", spec := "viewPrefix", unfollowed := true, recurses := true, named := ["math/bits.deBruijn32tab"], apart := false, laid := [("math/bits.deBruijn32tab", laid_math_bits_deBruijn32tab)], narrowed := true }
def ViewPrefixUptoSaid : Prop := viewPrefixUptoRow.holds Tryd.pinned (OpenSpec.upto viewPrefixSpec)

/-- 'weepholelaw33.ViewExamples', WHERE WHAT IT READS IS OF BULK AT MOST 1048576: true; the input reads as it did. -/
def viewExamplesUptoRow : OpenClaim := { program := "ytjancemacdffbaadoor", sum := "c845020fc98f898995dd89bd3a7d7dcea05195fb85e9f5ebdd4516ad1088e3bd", func := "weephole/weepholelaw33.ViewExamples", spec := "viewExamples", unfollowed := true, recurses := true, named := ["math/bits.deBruijn32tab"], apart := false, laid := [("math/bits.deBruijn32tab", laid_math_bits_deBruijn32tab)], narrowed := true }
def ViewExamplesUptoSaid : Prop := viewExamplesUptoRow.holds Tryd.pinned (OpenSpec.upto viewExamplesSpec)

/-- 'weepholelaw33.ViewBegins', WHERE WHAT IT READS IS OF BULK AT MOST 1048576: true; the input reads as it did. -/
def viewBeginsUptoRow : OpenClaim := { program := "ytjancemacdffbaadoor", sum := "c845020fc98f898995dd89bd3a7d7dcea05195fb85e9f5ebdd4516ad1088e3bd", func := "weephole/weepholelaw33.ViewBegins", spec := "viewBegins", unfollowed := true, recurses := true, named := ["math/bits.deBruijn32tab"], apart := false, laid := [("math/bits.deBruijn32tab", laid_math_bits_deBruijn32tab)], narrowed := true }
def ViewBeginsUptoSaid : Prop := viewBeginsUptoRow.holds Tryd.pinned (OpenSpec.upto viewBeginsSpec)

end Rows
end Go.Proofs.YtjancemacdffbaaDoor
