/- Lists of the call's own: made, read, written. -/
import Derived.Test.YtekbkaipdmklpaaGreatDoorD1
import Derived.Deep.MidRow
import Derived.Laws.OwnMore
import Derived.Maps.AppendAt
import Derived.OwnWalk
namespace Go.Proofs.YtekbkaipdmklpaaGreatDoor
open Go.RowKit


theorem made_rep {α : Type} (L : Lay α) (z : Value) (d : α) (hz : z.cells.toList = L.f d) (hs : z.cells.size = L.sz) (n : Nat) : (madeCells z.cells (n * L.sz)).toList = L.flat (List.replicate n d) := by
  apply List.ext_getElem?
  intro i
  have hp := L.pos
  have hl : (L.flat (List.replicate n d)).length = n * L.sz := by rw [Lay.flat_length, List.length_replicate]
  by_cases hi : i < n * L.sz
  · have h1 : i / L.sz < n := (Nat.div_lt_iff_lt_mul hp).2 hi
    have h2 : i % L.sz < L.sz := Nat.mod_lt _ hp
    have h3 := L.flat_at d (List.replicate n d) (i / L.sz) (i % L.sz) (by rwa [List.length_replicate]) h2
    rw [show i / L.sz * L.sz + i % L.sz = i by rw [Nat.mul_comm]; exact Nat.div_add_mod i L.sz] at h3
    rw [h3, show (List.replicate n d).getD (i / L.sz) d = d by rw [List.getD_eq_getElem?_getD, List.getElem?_replicate]; split <;> rfl, ← hz]
    unfold madeCells
    rw [Array.getElem?_toList, Array.getElem?_toList, Array.getElem?_map, Array.getElem?_range, if_pos hi, hs]
    simp only [Option.map_some]
    rw [getElem!_pos z.cells (i % L.sz) (by rw [hs]; exact h2), Array.getElem?_eq_getElem (by rw [hs]; exact h2)]
  · rw [List.getElem?_eq_none (l := L.flat _) (by rw [hl]; omega), List.getElem?_eq_none (l := (madeCells _ _).toList) (by rw [Array.length_toList, size_madeCells]; omega)]

theorem make_lay {α : Type} {L : Lay α} {P : Program} {t e : TypeId} {z : Value} {bytes : Nat} (T : ElemT P L t e z bytes) (d : α) (hz : z.cells.toList = L.f d) {w : World} {ops : Array Oper} {rest : List Oper} {o : Oper} {a : Act} {Q : Exit → Act → World → Prop} (hg : o.guard = none) (l c : Operand) (hop : o.op = Op.makeSlice t l c)
    (base n : Nat) (x : Int) (hl : a.eval l = .int .i64 x) (hc : a.eval c = .int .i64 x) (hx : x = (n : Int)) (hn : n ≤ 100000) (g : Nat) (hgz : w.heap.size = g) (hb : base ≤ g)
    (hK : ∀ w', L.Own e w' base (.slice (some ⟨g, 0, none⟩) n n) (List.replicate n d) → Below base w w' → wpList P ops Q rest (a.put o.dst (.slice (some ⟨g, 0, none⟩) n n)) w') : wpList P ops Q (o :: rest) a w := by
  subst hgz
  obtain ⟨i0, hi, hz0, hz1, hz2⟩ := info_parts T.info
  have hby := T.by_
  refine wpList_make_full w hg l c t hop base e i0 z L.sz T.und hi hz0 hz1 .i64 .i64 x x n hl hc hx hx (by rw [hz2]; have : bytes * n ≤ 100 * 100000 := Nat.mul_le_mul hby hn; omega) (by unfold maxLen; omega) hb ?_
  intro w' h1 h2
  refine hK w' ?_ ((Below.refl base w).grown h2 hb (fun k hk => by cases hk))
  unfold Lay.Own
  rw [List.length_replicate, ← made_rep L z d hz T.zs n]
  exact h1

theorem wordCell {k : IntKind} {e : TypeId} {w : World} {base g n cap : Nat} {N : List Int} (h : (Lay.int k).Own e w base (.slice (some ⟨g, 0, none⟩) n cap) N) {t : Nat} (ht : t < N.length) : w.cell? ⟨g, t, none⟩ = some (.int k (N.getD t 0)) := by
  obtain ⟨a2, c2, e2, hat2, _, _⟩ := h.at_ (d := 0)
  injection e2 with e2 _ _
  subst e2
  obtain ⟨b', o', e', _, hc'⟩ := hat2 t ht
  injection e' with e'
  injection e' with e3 e4 _
  subst e3 e4
  have h0 := hc' 0 (Lay.int k).pos
  simpa [Lay.int] using h0

theorem Lay.Own.putI {k : IntKind} {e : TypeId} {w : World} {base : Nat} {v : Value} {xs : List Int} (h : (Lay.int k).Own e w base v xs) {j : Nat} (hj : j < xs.length) (x : Int) :
    ∃ g cap u, v = .slice (some ⟨g, 0, none⟩) xs.length cap ∧ base ≤ g ∧ w.cell? ⟨g, j, none⟩ = some u ∧ w.frozen? ⟨g, j, none⟩ = false ∧ (Lay.int k).Own e (w.setCell ⟨g, j, none⟩ (.int k x)) base v (xs.set j x) ∧ w.grownBy (w.setCell ⟨g, j, none⟩ (.int k x)) (some g) := by
  have h' : w.ownsRow base e 1 v xs.length ((Lay.int k).flat xs) := h
  have hfl : ((Lay.int k).flat xs).length = xs.length := by rw [Lay.flat_length]; exact Nat.mul_one _
  obtain ⟨g, cap, hv, hb⟩ : ∃ g cap, v = .slice (some ⟨g, 0, none⟩) xs.length cap ∧ base ≤ g := by
    rcases h'.2 with ⟨_, h0⟩ | ⟨g, cap, cur, hv, hb, _⟩
    · omega
    · exact ⟨g, cap, hv, hb⟩
  subst hv
  have hflat : ((Lay.int k).flat xs).set j (.int k x) = (Lay.int k).flat (xs.set j x) := by
    have e1 : ∀ ys : List Int, (Lay.int k).flat ys = ys.map (Value.int k) := fun ys => by
      induction ys with
      | nil => rfl
      | cons y ys ih => exact congrArg (Value.int k y :: ·) ih
    rw [e1, e1, List.map_set]
  obtain ⟨s1, s2⟩ := World.ownsRow.stored h' j (.int k x)
  rw [hflat] at s1
  have s3 : (Lay.int k).Own e (w.setCell ⟨g, j, none⟩ (.int k x)) base (.slice (some ⟨g, 0, none⟩) xs.length cap) (xs.set j x) := by
    unfold Lay.Own
    rw [List.length_set]; exact s1
  exact ⟨g, cap, ((Lay.int k).flat xs)[j]'(by omega), rfl, hb, by rw [World.ownsRow.cellAt h' j (by omega)]; exact List.getElem?_eq_getElem (by omega), World.ownsRow.frozenAt h' j, s3, s2⟩
theorem setU {k : IntKind} {e : TypeId} {w : World} {base g n cap : Nat} {xs : List Int} (h : (Lay.int k).Own e w base (.slice (some ⟨g, 0, none⟩) n cap) xs) {j : Nat} (hj : j < xs.length) (x : Int) :
    w.frozen? ⟨g, j, none⟩ = false ∧ (Lay.int k).Own e (w.setCell ⟨g, j, none⟩ (.int k x)) base (.slice (some ⟨g, 0, none⟩) n cap) (xs.set j x) := by
  obtain ⟨g1, cap1, u1, hv, _, _, h1, h2, _⟩ := Lay.Own.putI h hj x
  injection hv with hv _ _; injection hv with hv; injection hv with hv _ _; subst hv
  exact ⟨h1, h2⟩
theorem Tryz.elemU : ElemT Tryz.prog (Lay.int .u64) 191 46 (.int .u64 0) 8 := ⟨Tryz.underlying191, by kernel_rfl, rfl, by decide⟩
end Go.Proofs.YtekbkaipdmklpaaGreatDoor
