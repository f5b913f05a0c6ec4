/- Arguments opened: slices of numbers, lists of inputs. -/
import Derived.Test.YtjhbabgcoemecaaDoorFr
import Derived.Test.YtjhbabgcoemecaaDoorPb
import Derived.Deep.Slices
namespace Go.Proofs.YtjhbabgcoemecaaDoor
open Go.ChangeShapes Go.WideShapes Go.ChangeAt Go.RowKit Go.Deep
set_option maxRecDepth 100000

theorem laidOut : laidOutB Tryd.prog = true := by kernel_rfl
theorem spot_none {w : World} {a : Addr} {v : Value} (h : w.cell? a = some v) : a.spot = none := by
  unfold World.cell? at h
  split at h
  · cases hs : a.spot with
    | none => rfl
    | some x => simp [hs] at h
  · cases h

theorem list_of {α : Type} {R : Nat → α → Prop} (d : α) : ∀ n, (∀ i, i < n → ∃ x, R i x) → ∃ xs : List α, xs.length = n ∧ ∀ i, i < n → R i (xs.getD i d)
  | 0, _ => ⟨[], rfl, fun i hi => by omega⟩
  | n + 1, h => by
    obtain ⟨xs, hl, hx⟩ := list_of d n fun i hi => h i (by omega)
    obtain ⟨x, hr⟩ := h n (by omega)
    refine ⟨xs ++ [x], by simp [hl], fun i hi => ?_⟩
    by_cases e : i = n
    · rw [getD_last _ _ _ _ (by rw [hl]; exact e), e]; exact hr
    · rw [getD_left _ _ _ _ (by rw [hl]; omega)]; exact hx i (by omega)
theorem one_of {α : Type} : ∀ {l : List α}, l.length = 1 → ∃ a, l = [a]
  | [a], _ => ⟨a, rfl⟩
theorem mem_getD {α : Type} (d : α) (xs : List α) (v : α) (h : v ∈ xs) : ∃ i, i < xs.length ∧ xs.getD i d = v := by
  obtain ⟨i, hi, e⟩ := List.getElem_of_mem h
  exact ⟨i, hi, by rw [List.getD_eq_getElem?_getD, List.getElem?_eq_getElem hi]; exact e⟩

section
variable {H : Type} {enc : TypeId × Value → H} {W : World} {base : Nat}
/-- a slice of integers, whatever they are read for -/
theorem nums_of {t e : TypeId} {k : IntKind} {fuel : Nat} {cs : List Value} {x : DataW H × List MemPlace} (ht : Tryd.prog.underlying t = some (.slice e)) (he : Tryd.prog.underlying e = some (.int k)) (hC : Tryd.prog.cellsOf e = 1)
    (h : DataW.trod enc Tryd.prog W 0 (fun _ => true) true fuel t cs = some x) :
    ∃ a len cap xs, cs = [.slice a len cap] ∧ xs.length = len ∧ (Lay.int k).At 0 W a xs ∧ (a = none → cap = 0) ∧ len ≤ cap ∧ cap ≤ maxLen ∧ ∀ v ∈ xs, (Lit.int k v).wf = true := by
  rcases open_slice ht h with ⟨rfl, _⟩ | ⟨a, len, cap, m, n, D, Pl, rfl, _, hl, hm, hmm, _, hi⟩
  · exact ⟨none, 0, 0, [], rfl, rfl, Lay.At.nil, fun _ => rfl, by omega, by decide, fun v hv => by simp at hv⟩
  · simp only [if_true] at hmm
    rw [hmm, hC] at hi
    have hex : ∀ i, i < len → ∃ x : Int, W.cell? (a.add i) = some (.int k x) ∧ (Lit.int k x).wf = true := fun i hlt => by
      obtain ⟨cs', hc, ht'⟩ := hi i (by omega)
      obtain ⟨_, hcl, hat⟩ := World.cells?_some hc
      obtain ⟨c0, rfl⟩ := one_of hcl
      obtain ⟨x, hx, _, hw⟩ := DataW.trod_int he ht'
      simp only [List.cons.injEq, and_true] at hx
      subst hx
      have := hat 0 (by decide)
      exact ⟨x, by simpa [Addr.add] using this, hw⟩
    obtain ⟨xs, hxl, hxs⟩ := list_of 0 len hex
    refine ⟨some a, len, cap, xs, rfl, hxl, fun i hlt => ?_, fun h => (by cases h), hl, hm, fun v hv => ?_⟩
    · rw [hxl] at hlt
      have hsp := spot_none (show W.cell? a = _ by simpa [Addr.add] using (hxs 0 (by omega)).1)
      obtain ⟨b, o, sp⟩ := a
      simp only at hsp
      subst hsp
      have h1 := (hxs i hlt).1
      rw [add_at] at h1
      refine ⟨b, o, rfl, World.block_lt_of_cell? W _ h1, fun j hj => ?_⟩
      have hj0 : j = 0 := by have : j < 1 := hj; omega
      subst hj0
      show W.cell? ⟨b, o + i * 1 + 0, none⟩ = some (.int k (xs.getD i 0))
      rw [Nat.mul_one, Nat.add_zero]; exact h1
    · obtain ⟨i, hlt, rfl⟩ := mem_getD 0 xs v hv
      exact (hxs i (by omega)).2

theorem cells33 : Tryd.prog.cellsOf 33 = 1 := by kernel_rfl
theorem readable48 : Tryd.prog.readableRec 48 = true := by kernel_rfl
theorem row48 : 48 < Tryd.prog.types.size := of_decide_eq_true (by kernel_rfl)
theorem open_nums {v : Value} {d : DataW H} {p : List MemPlace} (hv : Value.okWide Tryd.prog W .any base 48 v) (h : DataW.Trod enc Tryd.prog W 0 (fun _ => true) true 48 v d p) :
    ∃ a len cap xs, v = .slice a len cap ∧ xs.length = len ∧ (Lay.int .u64).At 0 W a xs ∧ (a = none → cap = 0) ∧ len ≤ cap ∧ cap ≤ maxLen ∧ ∀ v ∈ xs, (Lit.int .u64 v).wf = true := by
  obtain ⟨a0, len, cap, rfl⟩ := okWide_slice Tryd.underlying48 hv
  obtain ⟨fuel, hf⟩ := h
  obtain ⟨a, len', cap', xs, hcs, h1, h2, h3, h4, h5, h6⟩ := nums_of Tryd.underlying48 Tryd.underlying33 cells33 hf
  simp only [Value.cells, List.cons.injEq, Value.slice.injEq, and_true] at hcs
  obtain ⟨rfl, rfl, rfl⟩ := hcs
  exact ⟨_, _, _, xs, rfl, h1, h2, h3, h4, h5, h6⟩

end

end Go.Proofs.YtjhbabgcoemecaaDoor
