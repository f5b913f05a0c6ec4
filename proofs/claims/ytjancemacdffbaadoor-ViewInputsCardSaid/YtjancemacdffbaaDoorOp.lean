/- Arguments opened: a slice of pairs that came in. -/
import Derived.Test.YtjancemacdffbaaDoorFr
import Derived.Test.YtjancemacdffbaaDoorAp
import Derived.Deep.Slices
namespace Go.Proofs.YtjancemacdffbaaDoor
open Go.ChangeShapes Go.WideShapes Go.ChangeAt Go.RowKit Go.Deep

theorem spot_none {w : World} {a : Addr} {v : Value} (h : w.cell? a = some v) : a.spot = none := by
  unfold World.cell? at h
  split at h
  · cases hs : a.spot with
    | none => rfl
    | some x => simp [hs] at h
  · cases h

theorem two_of {α : Type} : ∀ {l : List α}, l.length = 2 → ∃ a b, l = [a, b]
  | [a, b], _ => ⟨a, b, rfl⟩
theorem laidOut : laidOutB Tryd.prog = true := by kernel_rfl
theorem readable22 : Tryd.prog.readableRec 22 = true := by kernel_rfl
theorem row22 : 22 < Tryd.prog.types.size := of_decide_eq_true (by kernel_rfl)
theorem cells29 : Tryd.prog.cellsOf 29 = 2 := by kernel_rfl
theorem cells3 : Tryd.prog.cellsOf 3 = 1 := by kernel_rfl

/-- the integer in a cell -/
def cellInt (W : World) (a : Addr) : Int := match W.cell? a with
  | some (.int _ n) => n
  | _ => 0

set_option maxRecDepth 100000 in
/-- a slice of pairs that came in: its numbers -/
theorem open_pairs {H : Type} {enc : TypeId × Value → H} {W : World} {base : Nat} {v : Value} {d : DataW H} {p : List MemPlace}
    (hv : Value.okWide Tryd.prog W .any base 22 v) (h : DataW.Trod enc Tryd.prog W 0 (fun _ => true) true 22 v d p) :
    ∃ a len cap ord, v = .slice a len cap ∧ ord.length = len ∧ PairsAt W a ord ∧ len ≤ cap ∧ cap ≤ maxLen := by
  obtain ⟨a0, len, cap, rfl⟩ := okWide_slice Tryd.underlying22 hv
  obtain ⟨fuel, hf⟩ := h
  rcases open_slice Tryd.underlying22 hf with ⟨hcs, _⟩ | ⟨a, len', cap', m, n, D, Pl, hcs, _, hl, hm, hmm, _, hi⟩
  · simp only [Value.cells, List.cons.injEq, Value.slice.injEq, and_true] at hcs
    obtain ⟨rfl, rfl, rfl⟩ := hcs
    exact ⟨none, 0, 0, [], rfl, rfl, (fun i hi => by simp at hi), by omega, by decide⟩
  · simp only [Value.cells, List.cons.injEq, Value.slice.injEq, and_true] at hcs
    obtain ⟨rfl, rfl, rfl⟩ := hcs
    simp only [if_true] at hmm
    rw [hmm] at hi
    have hex : ∀ i, i < cap → ∃ x y, W.cell? (a.add (i * 2)) = some (.int .i64 x) ∧ W.cell? ((a.add (i * 2)).add 1) = some (.int .i64 y) := fun i hlt => by
      obtain ⟨cs', hc, ht⟩ := hi i hlt
      rw [cells29] at hc
      obtain ⟨_, hcl, hat⟩ := World.cells?_some hc
      obtain ⟨xs, m', _, _, _, hxl, hel⟩ := DataW.trod_array Tryd.underlying29 ht
      obtain ⟨c0, c1, rfl⟩ := two_of hcl
      obtain ⟨y0, y1, rfl⟩ := two_of hxl
      have e0 := hel 0 (by decide)
      have e1 := hel 1 (by decide)
      rw [cells3] at e0 e1
      simp only [Nat.zero_mul, Nat.one_mul, List.drop_zero, List.take_succ_cons, List.take_zero, List.drop_succ_cons, List.getElem?_cons_zero, List.getElem?_cons_succ] at e0 e1
      obtain ⟨x, hx, _⟩ := DataW.trod_int Tryd.underlying3 e0
      obtain ⟨y, hy, _⟩ := DataW.trod_int Tryd.underlying3 e1
      simp only [List.cons.injEq, and_true] at hx hy
      subst hx hy
      refine ⟨x, y, ?_, hat 1 (by decide)⟩
      have := hat 0 (by decide)
      simpa [Addr.add] using this
    refine ⟨some a, len, cap, (List.range len).map fun i => (cellInt W (a.add (i * 2)), cellInt W ((a.add (i * 2)).add 1)), rfl, by simp, fun i hlt => ?_, hl, hm⟩
    rw [List.length_map, List.length_range] at hlt
    obtain ⟨x0, _, h00, _⟩ := hex 0 (by omega)
    have hsp := spot_none (show W.cell? a = _ by simpa [Addr.add] using h00)
    obtain ⟨b, o, sp⟩ := a
    simp only at hsp
    subst hsp
    obtain ⟨x, y, h1, h2⟩ := hex i (by omega)
    rw [add_at] at h1 h2
    rw [add_at] at h2
    have hg : ((List.range len).map fun i => (cellInt W ((⟨b, o, none⟩ : Addr).add (i * 2)), cellInt W (((⟨b, o, none⟩ : Addr).add (i * 2)).add 1))).getD i (0, 0) = (x, y) := by
      rw [List.getD_eq_getElem?_getD, List.getElem?_map, List.getElem?_range hlt]
      simp only [Option.map_some, Option.getD_some, add_at, cellInt, h1, h2]
    rw [hg]
    exact ⟨b, o, rfl, World.block_lt_of_cell? W _ h1, h1, h2⟩

end Go.Proofs.YtjancemacdffbaaDoor
