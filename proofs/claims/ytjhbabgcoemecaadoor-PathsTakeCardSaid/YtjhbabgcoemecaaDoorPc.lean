/- Walks: EqualNums, EqualInputs. -/
import Derived.Test.YtjhbabgcoemecaaDoorPb
namespace Go.Proofs.YtjhbabgcoemecaaDoor
open Go.RowKit

def eqU (xs ys : List Int) : Bool := decide (xs = ys)
theorem eqU_true {xs ys : List Int} (hl : xs.length = ys.length) (h : ∀ j, j < xs.length → xs.getD j 0 = ys.getD j 0) : eqU xs ys = true := by
  apply decide_eq_true
  apply List.ext_getElem hl
  intro i h1 h2
  have := h i h1
  rw [List.getD_eq_getElem?_getD, List.getD_eq_getElem?_getD, List.getElem?_eq_getElem h1, List.getElem?_eq_getElem h2] at this
  exact this
theorem eqU_false {xs ys : List Int} {k : Nat} (h : xs.getD k 0 ≠ ys.getD k 0) : eqU xs ys = false := decide_eq_false fun e => h (by rw [e])

end Go.Proofs.YtjhbabgcoemecaaDoor
