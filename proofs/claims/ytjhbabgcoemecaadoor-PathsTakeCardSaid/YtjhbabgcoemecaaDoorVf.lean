/- Laws for eval.All: booleans that lie, an owned slice beside a store, a value that asks its arguments alone. -/
import Derived.Test.YtjhbabgcoemecaaDoorVe
namespace Go.Proofs.YtjhbabgcoemecaaDoor
open Go.RowKit

def Lay.bool : Lay Bool := ⟨1, fun b => [.bool b], fun _ => rfl, fun x u hu => by simp at hu; subst hu; rfl, by decide⟩
theorem Tryd.elemB : ElemT Tryd.prog Lay.bool 41 4 (.bool false) 1 := ⟨Tryd.underlying41, by kernel_rfl, rfl, by decide⟩

theorem Lay.Own.keep {α : Type} {L : Lay α} {e : TypeId} {w w' : World} {base g n c : Nat} {xs : List α} {row : Option Nat} (h : L.Own e w base (.slice (some ⟨g, 0, none⟩) n c) xs) (hg : w.grownBy w' row) (hne : row ≠ some g) : L.Own e w' base (.slice (some ⟨g, 0, none⟩) n c) xs := by
  obtain ⟨h1, h2⟩ := (h : w.ownsRow base e L.sz _ xs.length (L.flat xs))
  refine ⟨h1, ?_⟩
  rcases h2 with h2 | ⟨g', cap, cur, hv, hb, hh, hr⟩
  · exact .inl h2
  · injection hv with hv1 hv2 hv3
    injection hv1 with hv1
    injection hv1 with hv1 _ _
    subst hv1
    have hlt : g < w.heap.size := (Array.getElem?_eq_some_iff.1 hh).1
    exact .inr ⟨g, cap, cur, by rw [hv2, hv3], hb, (hg.block g hlt fun e => hne e.symm).trans hh, hr⟩

end Go.Proofs.YtjhbabgcoemecaaDoor
