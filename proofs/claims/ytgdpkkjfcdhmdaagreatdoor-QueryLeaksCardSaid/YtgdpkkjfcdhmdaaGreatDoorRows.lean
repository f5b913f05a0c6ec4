/-
  NARROWER THAN 'FOR EVERY INPUT', by the rows' own cells (each row's printed sentence says how): QueryLeaks: laid · QuerySafe: laid · QueryTurns: laid.
  DERIVED. THE GIVEN ROWS OF THIS SEAT. 3 by the template 'for every input the law returns true; each argument reads behind the call as it read before'; 0 by the template 'total and deterministic' (their statements: YtgdpkkjfcdhmdaaGreatDoorTotals.lean).
  GIVEN WITH THE SEED: the statements are not yours to turn. If you find one false, say at which input.
  Laid BY PROGRAM, IN A SANDBOX (cutbox-rows.mjs): the forced cells as the released guide's own fill.sh prints them over the translation 15f0948a716c0d61… (all of the seat's roots in one cut). By AI agents, Wed Nov 11 2026. No macro, syntax, notation, axiom, sorry.
-/
import Derived.Test.YtgdpkkjfcdhmdaaGreatDoorChecked
import GoSem.Claim
import GoSem.ClaimJoined
import GoSem.ClaimMapViews
import Derived.JoinedTies
import Derived.KernelRfl
namespace Go.Proofs.YtgdpkkjfcdhmdaaGreatDoor
/- THE CELL 'sum', in the pinned program and in every row, IS THE sha256 OF THE DUMP (.gsa) THAT YtgdpkkjfcdhmdaaGreatDoorProg.lean LOADS. Nothing in Lean hashes anything: it is a label: what it is worth is what the hold of that sum in a sandbox is worth. -/
noncomputable def Tryz.pinned : Pinned := { name := "ytgdpkkjfcdhmdaagreatdoor", sum := "15f0948a716c0d61c2fc8b40c0d9e4edbea690c32fa9baf199356fc7cfdc509f", checked := Tryz.checked }
namespace Rows
def none {H : Type} : Left H := { results := [], args := [] }

/- WHAT THE LISTED PACKAGE-LEVEL VARIABLES READ AS WHEN THE CALL BEGINS. Each datum BY PROGRAM (the guide's laid-datum.mjs) off the statement by which the dump's own 'gosem.cut.vars' lays the variable. In a bare row this is a premise. The card (YtgdpkkjfcdhmdaaGreatDoorCards.lean) ties it to the program's text. -/
def laid_math_bits_deBruijn32tab {H : Type} : DataW H := .agg [.lit (.int .u8 0), .lit (.int .u8 1), .lit (.int .u8 28), .lit (.int .u8 2), .lit (.int .u8 29), .lit (.int .u8 14), .lit (.int .u8 24), .lit (.int .u8 3), .lit (.int .u8 30), .lit (.int .u8 22), .lit (.int .u8 20), .lit (.int .u8 15), .lit (.int .u8 25), .lit (.int .u8 17), .lit (.int .u8 4), .lit (.int .u8 8), .lit (.int .u8 31), .lit (.int .u8 27), .lit (.int .u8 13), .lit (.int .u8 23), .lit (.int .u8 21), .lit (.int .u8 19), .lit (.int .u8 16), .lit (.int .u8 7), .lit (.int .u8 26), .lit (.int .u8 12), .lit (.int .u8 18), .lit (.int .u8 6), .lit (.int .u8 11), .lit (.int .u8 5), .lit (.int .u8 10), .lit (.int .u8 9)]
def laid_weephole_flat_shapes {H : Type} : DataW H := .agg [.agg [.lit (.bool true), .lit (.bool true), .lit (.bool false), .lit (.int .i64 0)], .agg [.lit (.bool true), .lit (.bool true), .lit (.bool true), .lit (.int .i64 0)], .agg [.lit (.bool true), .lit (.bool true), .lit (.bool false), .lit (.int .i64 1)], .agg [.lit (.bool false), .lit (.bool true), .lit (.bool true), .lit (.int .i64 1)], .agg [.lit (.bool true), .lit (.bool false), .lit (.bool false), .lit (.int .i64 2)], .agg [.lit (.bool false), .lit (.bool true), .lit (.bool false), .lit (.int .i64 2)], .agg [.lit (.bool true), .lit (.bool true), .lit (.bool false), .lit (.int .i64 3)], .agg [.lit (.bool false), .lit (.bool false), .lit (.bool false), .lit (.int .i64 4)], .agg [.lit (.bool false), .lit (.bool true), .lit (.bool false), .lit (.int .i64 4)], .agg [.lit (.bool false), .lit (.bool false), .lit (.bool false), .lit (.int .i64 0)]]
def laid_weephole_explore_steps {H : Type} : DataW H := .iface "func table" (.map [(.int .u8 0, .iface "func" (.lit (.string [40, 42, 119, 101, 101, 112, 104, 111, 108, 101, 47, 101, 120, 112, 108, 111, 114, 101, 46, 101, 120, 112, 108, 111, 114, 101, 114, 41, 46, 99, 111, 112, 121]))), (.int .u8 1, .iface "func" (.lit (.string [40, 42, 119, 101, 101, 112, 104, 111, 108, 101, 47, 101, 120, 112, 108, 111, 114, 101, 46, 101, 120, 112, 108, 111, 114, 101, 114, 41, 46, 111, 112]))), (.int .u8 2, .iface "func" (.lit (.string [40, 42, 119, 101, 101, 112, 104, 111, 108, 101, 47, 101, 120, 112, 108, 111, 114, 101, 46, 101, 120, 112, 108, 111, 114, 101, 114, 41, 46, 108, 111, 97, 100]))), (.int .u8 3, .iface "func" (.lit (.string [40, 42, 119, 101, 101, 112, 104, 111, 108, 101, 47, 101, 120, 112, 108, 111, 114, 101, 46, 101, 120, 112, 108, 111, 114, 101, 114, 41, 46, 115, 116, 111, 114, 101]))), (.int .u8 4, .iface "func" (.lit (.string [40, 42, 119, 101, 101, 112, 104, 111, 108, 101, 47, 101, 120, 112, 108, 111, 114, 101, 46, 101, 120, 112, 108, 111, 114, 101, 114, 41, 46, 114, 101, 97, 100]))), (.int .u8 5, .iface "func" (.lit (.string [40, 42, 119, 101, 101, 112, 104, 111, 108, 101, 47, 101, 120, 112, 108, 111, 114, 101, 46, 101, 120, 112, 108, 111, 114, 101, 114, 41, 46, 119, 114, 105, 116, 101]))), (.int .u8 6, .iface "func" (.lit (.string [40, 42, 119, 101, 101, 112, 104, 111, 108, 101, 47, 101, 120, 112, 108, 111, 114, 101, 46, 101, 120, 112, 108, 111, 114, 101, 114, 41, 46, 114, 101, 108, 101, 97, 115, 101]))), (.int .u8 7, .iface "func" (.lit (.string [40, 42, 119, 101, 101, 112, 104, 111, 108, 101, 47, 101, 120, 112, 108, 111, 114, 101, 46, 101, 120, 112, 108, 111, 114, 101, 114, 41, 46, 106, 117, 109, 112]))), (.int .u8 8, .iface "func" (.lit (.string [40, 42, 119, 101, 101, 112, 104, 111, 108, 101, 47, 101, 120, 112, 108, 111, 114, 101, 46, 101, 120, 112, 108, 111, 114, 101, 114, 41, 46, 98, 114, 97, 110, 99, 104]))), (.int .u8 9, .iface "func" (.lit (.string [40, 42, 119, 101, 101, 112, 104, 111, 108, 101, 47, 101, 120, 112, 108, 111, 114, 101, 46, 101, 120, 112, 108, 111, 114, 101, 114, 41, 46, 104, 97, 108, 116])))])
def laid_weephole_query_compare {H : Type} : DataW H := .iface "func table" (.agg [.iface "func" (.lit (.string [40, 42, 119, 101, 101, 112, 104, 111, 108, 101, 47, 113, 117, 101, 114, 121, 46, 109, 97, 107, 101, 114, 41, 46, 101, 113, 117, 97, 108])), .iface "func" (.lit (.string [40, 42, 119, 101, 101, 112, 104, 111, 108, 101, 47, 113, 117, 101, 114, 121, 46, 109, 97, 107, 101, 114, 41, 46, 98, 101, 103, 117, 110]))])

/-- 'weepholelaw36.QueryLeaks': WHATEVER THE INPUT: true; the input reads as it did. -/
def queryLeaksSpec : ChangeSpec := { name := "queryLeaks", fn := fun _ => fun
  | [d1, d2] => { results := [.lit (.bool true)], args := [d1, d2] }
  | _ => none }
def queryLeaksRow : OpenClaim := { program := "ytgdpkkjfcdhmdaagreatdoor", sum := "15f0948a716c0d61c2fc8b40c0d9e4edbea690c32fa9baf199356fc7cfdc509f", func := "weephole/weepholelaw36.QueryLeaks", spec := "queryLeaks", unfollowed := true, recurses := true, named := ["math/bits.deBruijn32tab", "weephole/explore.steps", "weephole/flat.shapes", "weephole/query.compare"], plainKeys := false, apart := false, laid := [("math/bits.deBruijn32tab", laid_math_bits_deBruijn32tab), ("weephole/flat.shapes", laid_weephole_flat_shapes), ("weephole/explore.steps", laid_weephole_explore_steps), ("weephole/query.compare", laid_weephole_query_compare)] }
def QueryLeaksSaid : Prop := queryLeaksRow.holds Tryz.pinned (OpenSpec.ofChange queryLeaksSpec)

/-- ITS FALSE NEIGHBOUR: 'it returns false'. Refute it at one input. -/
def queryLeaksWrong : ChangeSpec := { name := "queryLeaks", fn := fun _ => fun
  | [d1, d2] => { results := [.lit (.bool false)], args := [d1, d2] }
  | _ => none }
def QueryLeaksWrongFalsely : Prop := queryLeaksRow.holds Tryz.pinned (OpenSpec.ofChange queryLeaksWrong)

/-- 'weepholelaw36.QuerySafe': WHATEVER THE INPUT: true; the input reads as it did. -/
def querySafeSpec : ChangeSpec := { name := "querySafe", fn := fun _ => fun
  | [d1, d2] => { results := [.lit (.bool true)], args := [d1, d2] }
  | _ => none }
def querySafeRow : OpenClaim := { program := "ytgdpkkjfcdhmdaagreatdoor", sum := "15f0948a716c0d61c2fc8b40c0d9e4edbea690c32fa9baf199356fc7cfdc509f", func := "weephole/weepholelaw36.QuerySafe", spec := "querySafe", unfollowed := true, recurses := true, named := ["math/bits.deBruijn32tab", "weephole/explore.steps", "weephole/flat.shapes", "weephole/query.compare"], plainKeys := false, apart := false, laid := [("math/bits.deBruijn32tab", laid_math_bits_deBruijn32tab), ("weephole/flat.shapes", laid_weephole_flat_shapes), ("weephole/explore.steps", laid_weephole_explore_steps), ("weephole/query.compare", laid_weephole_query_compare)] }
def QuerySafeSaid : Prop := querySafeRow.holds Tryz.pinned (OpenSpec.ofChange querySafeSpec)

/-- ITS FALSE NEIGHBOUR: 'it returns false'. Refute it at one input. -/
def querySafeWrong : ChangeSpec := { name := "querySafe", fn := fun _ => fun
  | [d1, d2] => { results := [.lit (.bool false)], args := [d1, d2] }
  | _ => none }
def QuerySafeWrongFalsely : Prop := querySafeRow.holds Tryz.pinned (OpenSpec.ofChange querySafeWrong)

/-- 'weepholelaw36.QueryTurns': WHATEVER THE INPUT: true; the input reads as it did. -/
def queryTurnsSpec : ChangeSpec := { name := "queryTurns", fn := fun _ => fun
  | [d1, d2] => { results := [.lit (.bool true)], args := [d1, d2] }
  | _ => none }
def queryTurnsRow : OpenClaim := { program := "ytgdpkkjfcdhmdaagreatdoor", sum := "15f0948a716c0d61c2fc8b40c0d9e4edbea690c32fa9baf199356fc7cfdc509f", func := "weephole/weepholelaw36.QueryTurns", spec := "queryTurns", unfollowed := true, recurses := true, named := ["math/bits.deBruijn32tab", "weephole/explore.steps", "weephole/flat.shapes", "weephole/query.compare"], plainKeys := false, apart := false, laid := [("math/bits.deBruijn32tab", laid_math_bits_deBruijn32tab), ("weephole/flat.shapes", laid_weephole_flat_shapes), ("weephole/explore.steps", laid_weephole_explore_steps), ("weephole/query.compare", laid_weephole_query_compare)] }
def QueryTurnsSaid : Prop := queryTurnsRow.holds Tryz.pinned (OpenSpec.ofChange queryTurnsSpec)

/-- ITS FALSE NEIGHBOUR: 'it returns false'. Refute it at one input. -/
def queryTurnsWrong : ChangeSpec := { name := "queryTurns", fn := fun _ => fun
  | [d1, d2] => { results := [.lit (.bool false)], args := [d1, d2] }
  | _ => none }
def QueryTurnsWrongFalsely : Prop := queryTurnsRow.holds Tryz.pinned (OpenSpec.ofChange queryTurnsWrong)

/- THE SECOND FORM. 'bulk': how many values and letters a reading holds, each counted each time it is reached (what is shared counts as often as it is met; a slice's spare places count too). A statement '..UptoSaid' is the law's where the arguments, and the package variables that the reading takes, are together of bulk at most 1048576: NARROWER than '..Said'. Prove '..Said' where nothing that the law and all that it calls make is longer than what came in: it says more and counts as full. Else prove '..UptoSaid'. A law counts once. -/
mutual
def uptoBulk {H : Type} : DataW H → Nat
  | .lit (.string bytes) => bytes.length + 1
  | .lit _ => 1
  | .nil => 1
  | .ptr d => uptoBulk d + 1
  | .slice elems spare => uptoBulkAll elems + uptoBulkAll spare + 1
  | .agg parts => uptoBulkAll parts + 1
  | .iface _ d => uptoBulk d + 1
  | .map entries => uptoBulkEntries entries + 1
  | .held _ => 1
def uptoBulkAll {H : Type} : List (DataW H) → Nat
  | [] => 0
  | d :: r => uptoBulk d + uptoBulkAll r
def uptoBulkEntries {H : Type} : List (Lit × DataW H) → Nat
  | [] => 0
  | x :: r => uptoBulkEntry x + uptoBulkEntries r
def uptoBulkEntry {H : Type} : Lit × DataW H → Nat
  | (.string bytes, d) => bytes.length + uptoBulk d + 1
  | (_, d) => uptoBulk d + 1
 end
def uptoSmall : (H : Type) → List (DataW H) → Bool := fun _ ds => decide (uptoBulkAll ds ≤ 1048576)
def OpenSpec.upto (s : _root_.Go.ChangeSpec) : _root_.Go.OpenSpec := { _root_.Go.OpenSpec.ofChange s with cond := some uptoSmall }

/-- 'weepholelaw36.QueryLeaks', WHERE WHAT IT READS IS OF BULK AT MOST 1048576: true; the input reads as it did. -/
def queryLeaksUptoRow : OpenClaim := { program := "ytgdpkkjfcdhmdaagreatdoor", sum := "15f0948a716c0d61c2fc8b40c0d9e4edbea690c32fa9baf199356fc7cfdc509f", func := "weephole/weepholelaw36.QueryLeaks", spec := "queryLeaks", unfollowed := true, recurses := true, named := ["math/bits.deBruijn32tab", "weephole/explore.steps", "weephole/flat.shapes", "weephole/query.compare"], plainKeys := false, apart := false, laid := [("math/bits.deBruijn32tab", laid_math_bits_deBruijn32tab), ("weephole/flat.shapes", laid_weephole_flat_shapes), ("weephole/explore.steps", laid_weephole_explore_steps), ("weephole/query.compare", laid_weephole_query_compare)], narrowed := true }
def QueryLeaksUptoSaid : Prop := queryLeaksUptoRow.holds Tryz.pinned (OpenSpec.upto queryLeaksSpec)

/-- 'weepholelaw36.QuerySafe', WHERE WHAT IT READS IS OF BULK AT MOST 1048576: true; the input reads as it did. -/
def querySafeUptoRow : OpenClaim := { program := "ytgdpkkjfcdhmdaagreatdoor", sum := "15f0948a716c0d61c2fc8b40c0d9e4edbea690c32fa9baf199356fc7cfdc509f", func := "weephole/weepholelaw36.QuerySafe", spec := "querySafe", unfollowed := true, recurses := true, named := ["math/bits.deBruijn32tab", "weephole/explore.steps", "weephole/flat.shapes", "weephole/query.compare"], plainKeys := false, apart := false, laid := [("math/bits.deBruijn32tab", laid_math_bits_deBruijn32tab), ("weephole/flat.shapes", laid_weephole_flat_shapes), ("weephole/explore.steps", laid_weephole_explore_steps), ("weephole/query.compare", laid_weephole_query_compare)], narrowed := true }
def QuerySafeUptoSaid : Prop := querySafeUptoRow.holds Tryz.pinned (OpenSpec.upto querySafeSpec)

/-- 'weepholelaw36.QueryTurns', WHERE WHAT IT READS IS OF BULK AT MOST 1048576: true; the input reads as it did. -/
def queryTurnsUptoRow : OpenClaim := { program := "ytgdpkkjfcdhmdaagreatdoor", sum := "15f0948a716c0d61c2fc8b40c0d9e4edbea690c32fa9baf199356fc7cfdc509f", func := "weephole/weepholelaw36.QueryTurns", spec := "queryTurns", unfollowed := true, recurses := true, named := ["math/bits.deBruijn32tab", "weephole/explore.steps", "weephole/flat.shapes", "weephole/query.compare"], plainKeys := false, apart := false, laid := [("math/bits.deBruijn32tab", laid_math_bits_deBruijn32tab), ("weephole/flat.shapes", laid_weephole_flat_shapes), ("weephole/explore.steps", laid_weephole_explore_steps), ("weephole/query.compare", laid_weephole_query_compare)], narrowed := true }
def QueryTurnsUptoSaid : Prop := queryTurnsUptoRow.holds Tryz.pinned (OpenSpec.upto queryTurnsSpec)

end Rows
end Go.Proofs.YtgdpkkjfcdhmdaaGreatDoor
