/- The law PathsTake, for the card. -/
import Derived.Test.YtjhbabgcoemecaaDoorUk
import Derived.Test.YtjhbabgcoemecaaDoorUl
namespace Go.Proofs.YtjhbabgcoemecaaDoor
open Go.RowKit

theorem pathsTake_card (W0 : Int) (a1 : Option Addr) (l1 k1 : Nat) (qs : List RawN) (a2 : Option Addr) (l2 k2 : Nat) (ps : List PathN) (a3 : Option Addr) (l3 k3 : Nat) (xs : List Int) (w : World) (hL : Cr.Laid w)
    (hl1 : qs.length = l1) (hat1 : Lay.raw.At default w a1 qs) (hb1 : ∀ q ∈ qs, RawOk q) (hl2 : ps.length = l2) (hat2 : Lay.path.At default w a2 ps) (hok2 : ∀ p ∈ ps, p.Ok w)
    (hl3 : xs.length = l3) (hat3 : (Lay.int .u64).At 0 w a3 xs) (hwf : ∀ v ∈ xs, (Lit.int .u64 v).wf = true) :
    Calls Tryd.prog 9 #[.int .i64 W0, .slice a1 l1 k1, .slice a2 l2 k2, .slice a3 l3 k3] w fun e w' => e = .returned (.bool true) ∧ Below w.heap.size w w' := by
  obtain ⟨vals, rfl, hb⟩ := nat_vals xs hwf
  exact pathsTake_law W0 a1 l1 k1 qs a2 l2 k2 ps a3 l3 k3 vals w hL hl1 hat1 hb1 hl2 hat2 hok2 (by rw [← hl3, intsN_len]) hat3 hb
end Go.Proofs.YtjhbabgcoemecaaDoor
