/- Walks of the functions of package lattice (part 3): New. -/
import Derived.Test.YtjancemacdffbaaDoorLw2
import Derived.Test.YtjancemacdffbaaDoorPl2
import Derived.StillTailTactics
namespace Go.Proofs.YtjancemacdffbaaDoor
open Go.RowKit

set_option maxHeartbeats 400000 in
set_option maxRecDepth 100000 in
theorem new_lo (n : Int) (v : Value) (w : World) (h : n < 1) :
    Calls Tryd.prog 24 #[.int .i64 n, v] w fun e w' => e = .returned (.tuple #[.pointer none, .int .i64 3]) ∧ Below w.heap.size w w' := by
  go_enter Tryd.func24, Tryd.ntmps24
  go_wp2_with fail
  go_ret2
  exact ⟨rfl, (Below.refl _ _).alloc (Nat.le_refl _) _⟩

set_option maxHeartbeats 400000 in
set_option maxRecDepth 100000 in
theorem new_hi (n : Int) (v : Value) (w : World) (h : 32 < n) :
    Calls Tryd.prog 24 #[.int .i64 n, v] w fun e w' => e = .returned (.tuple #[.pointer none, .int .i64 3]) ∧ Below w.heap.size w w' := by
  have h1 : decide (n < 1) = false := by simp; omega
  go_enter Tryd.func24, Tryd.ntmps24
  go_wp2_with fail
  go_ret2
  exact ⟨rfl, (Below.refl _ _).alloc (Nat.le_refl _) _⟩

set_option maxHeartbeats 400000 in
set_option maxRecDepth 100000 in
theorem new_long (n : Int) (a : Option Addr) (len cap : Nat) (w : World) (h1 : 1 ≤ n) (h2 : n ≤ 32) (h : 1024 < len) :
    Calls Tryd.prog 24 #[.int .i64 n, .slice a len cap] w fun e w' => e = .returned (.tuple #[.pointer none, .int .i64 5]) ∧ Below w.heap.size w w' := by
  have h3 : decide (n < 1) = false := by simp; omega
  have h4 : (1024 : Int) < len := by omega
  go_enter Tryd.func24, Tryd.ntmps24
  go_wp2_with fail
  go_ret2
  exact ⟨rfl, (Below.refl _ _).alloc (Nat.le_refl _) _⟩

theorem zc82 : Tryd.zeroCells82 = (Value.int .i64 0 :: List.replicate 64 (Value.int .u32 0)).toArray := by kernel_rfl

/-- New's own memory: the box of n in block B, the lattice in block B + 1; all below is as it was. -/
structure LatW (w0 wr : World) (B n : Nat) (up dn : Nat → Nat) : Prop where
  below : Below B w0 wr
  box : wr.cell? ⟨B, 0, none⟩ = some (.int .i64 n)
  lat : LatC wr (B + 1) n up dn
  fz : ∀ o, wr.frozen? ⟨B + 1, o, none⟩ = false
  size : B + 1 < wr.heap.size

theorem LatW.drew {w0 wr : World} {B n : Nat} {up dn : Nat → Nat} (h : LatW w0 wr B n up dn) : LatW w0 wr.drew B n up dn :=
  ⟨h.below.drew, h.box, ⟨h.lat.hn, h.lat.hup, h.lat.hdn, h.lat.bup, h.lat.bdn, h.lat.n32⟩, h.fz, h.size⟩
theorem LatW.drewN {w0 wr : World} {B n k : Nat} {up dn : Nat → Nat} (h : LatW w0 wr B n up dn) : LatW w0 (wr.drewN k) B n up dn :=
  ⟨⟨h.below.os, h.below.tape, h.below.output, h.below.size, h.below.block⟩, h.box, ⟨h.lat.hn, h.lat.hup, h.lat.hdn, h.lat.bup, h.lat.bdn, h.lat.n32⟩, h.fz, h.size⟩
theorem LatW.alloc {w0 wr : World} {B n : Nat} {up dn : Nat → Nat} (h : LatW w0 wr B n up dn) (o : Obj) : LatW w0 (wr.alloc o) B n up dn := by
  have hs := h.size
  have hc : ∀ j k, j < wr.heap.size → (wr.alloc o).cell? ⟨j, k, none⟩ = wr.cell? ⟨j, k, none⟩ := fun j k hj => World.cell?_alloc_lt _ _ _ hj
  refine ⟨h.below.alloc (by omega) o, ?_, ⟨?_, ?_, ?_, h.lat.bup, h.lat.bdn, h.lat.n32⟩, ?_, by simp; omega⟩
  · rw [hc _ _ (by omega)]; exact h.box
  · rw [hc _ _ (by omega)]; exact h.lat.hn
  · intro i hi; rw [hc _ _ (by omega)]; exact h.lat.hup i hi
  · intro i hi; rw [hc _ _ (by omega)]; exact h.lat.hdn i hi
  · intro k; rw [World.frozen?_alloc_past _ _ _ (by omega)]; exact h.fz k
theorem LatW.setUp {w0 wr : World} {B n i v : Nat} {up dn : Nat → Nat} (h : LatW w0 wr B n up dn) (hi : i < 32) (hv : v < 4294967296) :
    LatW w0 (wr.setCell ⟨B + 1, 1 + i, none⟩ (.int .u32 v)) B n (upd up i v) dn := by
  have ho : ∀ a : Addr, a ≠ ⟨B + 1, 1 + i, none⟩ → (wr.setCell ⟨B + 1, 1 + i, none⟩ (.int .u32 v)).cell? a = wr.cell? a := fun a ha => World.cell?_setCell_other _ _ _ _ (Ne.symm ha)
  refine ⟨h.below.setCell (by show B ≤ B + 1; omega) _, ?_, ⟨?_, ?_, ?_, ?_, h.lat.bdn, h.lat.n32⟩, ?_, by simp [World.setCell]; exact h.size⟩
  · rw [ho _ (by simp)]; exact h.box
  · rw [ho _ (by simp <;> omega)]; exact h.lat.hn
  · intro j hj
    by_cases e : j = i
    · subst e; rw [World.cell?_setCell_same _ _ _ (h.lat.hup j hj)]; simp [upd]
    · rw [ho _ (by simp <;> omega)]; simp only [upd, if_neg e]; exact h.lat.hup j hj
  · intro j hj; rw [ho _ (by simp <;> omega)]; exact h.lat.hdn j hj
  · intro j hj; unfold upd; split; exact hv; exact h.lat.bup j hj
  · intro k; rw [World.frozen?_setCell]; exact h.fz k
theorem LatW.setDn {w0 wr : World} {B n i v : Nat} {up dn : Nat → Nat} (h : LatW w0 wr B n up dn) (hi : i < 32) (hv : v < 4294967296) :
    LatW w0 (wr.setCell ⟨B + 1, 33 + i, none⟩ (.int .u32 v)) B n up (upd dn i v) := by
  have ho : ∀ a : Addr, a ≠ ⟨B + 1, 33 + i, none⟩ → (wr.setCell ⟨B + 1, 33 + i, none⟩ (.int .u32 v)).cell? a = wr.cell? a := fun a ha => World.cell?_setCell_other _ _ _ _ (Ne.symm ha)
  refine ⟨h.below.setCell (by show B ≤ B + 1; omega) _, ?_, ⟨?_, ?_, ?_, h.lat.bup, ?_, h.lat.n32⟩, ?_, by simp [World.setCell]; exact h.size⟩
  · rw [ho _ (by simp)]; exact h.box
  · rw [ho _ (by simp <;> omega)]; exact h.lat.hn
  · intro j hj; rw [ho _ (by simp <;> omega)]; exact h.lat.hup j hj
  · intro j hj
    by_cases e : j = i
    · subst e; rw [World.cell?_setCell_same _ _ _ (h.lat.hdn j hj)]; simp [upd]
    · rw [ho _ (by simp <;> omega)]; simp only [upd, if_neg e]; exact h.lat.hdn j hj
  · intro j hj; unfold upd; split; exact hv; exact h.lat.bdn j hj
  · intro k; rw [World.frozen?_setCell]; exact h.fz k
theorem LatW.start (w : World) (n : Nat) (hn : n ≤ 32) :
    LatW w ((w.alloc (Obj.cells #[Value.int IntKind.i64 n] 3)).alloc (Obj.cells (Tryd.zeroCells82.setIfInBounds 0 (Value.int IntKind.i64 n)) 82)) w.heap.size n (fun _ => 0) (fun _ => 0) := by
  have hz : ∀ k, k < 64 → (Tryd.zeroCells82.setIfInBounds 0 (Value.int IntKind.i64 n))[1 + k]? = some (.int .u32 0) := fun k hk => by
    have e : ∀ l : List Value, ((Value.int .i64 0 :: l).toArray.setIfInBounds 0 (Value.int IntKind.i64 n))[1 + k]? = l[k]? := fun l => by simp [Nat.add_comm 1 k]
    rw [zc82, e, List.getElem?_replicate, if_pos hk]
  refine ⟨((Below.refl _ _).alloc (Nat.le_refl _) _).alloc (by simp) _, ?_, ⟨?_, ?_, ?_, ?_, ?_, hn⟩, ?_, by simp⟩
  · simp
  · simp [zc82]
  · intro i hi; rw [World.cell?_alloc2_new, hz i (by omega)]; rfl
  · intro i hi; rw [World.cell?_alloc2_new, show 33 + i = 1 + (32 + i) by omega, hz _ (by omega)]; rfl
  · intro i hi; simp
  · intro i hi; simp
  · intro o; simp

/-- a slice of pairs lies in memory: its numbers -/
def PairsAt (w : World) (a : Option Addr) (ps : List (Int × Int)) : Prop :=
  ∀ i, i < ps.length → ∃ b o, a = some ⟨b, o, none⟩ ∧ b < w.heap.size ∧ w.cell? ⟨b, o + i * 2, none⟩ = some (.int .i64 (ps.getD i (0, 0)).1) ∧ w.cell? ⟨b, o + i * 2 + 1, none⟩ = some (.int .i64 (ps.getD i (0, 0)).2)

theorem shl_u32 (k : Nat) (h : k < 32) : ((2 : Int) ^ k) % 4294967296 = ((2 ^ k : Nat) : Int) := by
  have : 2 ^ k ≤ 2 ^ 31 := Nat.pow_le_pow_right (by decide) (by omega)
  have e : ((2 : Int) ^ k) = ((2 ^ k : Nat) : Int) := by simp
  rw [e]
  generalize 2 ^ k = x at *
  omega
theorem lor_lt (x y : Nat) (hx : x < 4294967296) (hy : y < 4294967296) : x ||| y < 4294967296 := Nat.or_lt_two_pow (n := 32) hx hy
theorem pow_lt32 (k : Nat) (h : k < 32) : 2 ^ k < 4294967296 := by
  have : 2 ^ k ≤ 2 ^ 31 := Nat.pow_le_pow_right (by decide) (by omega)
  omega
theorem or_pow (x y : Nat) (hx : x < 4294967296) (hy : y < 32) : bits BinOp.or IntKind.u32 (x : Int) (2 ^ y) = ((x ||| 2 ^ y : Nat) : Int) := by
  have := u32_or_nat x (2 ^ y) hx (pow_lt32 y hy)
  rw [← this]; simp
theorem or_u32 (x y : Nat) (hx : x < 4294967296) (hy : y < 4294967296) : bits BinOp.or IntKind.u32 (x : Int) (y : Int) = ((x ||| y : Nat) : Int) := u32_or_nat x y hx hy

/-- what New returns -/
def NewPost (n : Nat) (ps : List (Int × Int)) (w : World) (e : Ending) (w' : World) : Prop :=
  ((newL n ps).1 ≠ 0 → e = .returned (.tuple #[.pointer none, .int .i64 ((newL n ps).1 : Nat)])) ∧
  ((newL n ps).1 = 0 → e = .returned (.tuple #[.pointer (some ⟨w.heap.size + 1, 0, none⟩), .int .i64 0]) ∧ LatC w' (w.heap.size + 1) n (newL n ps).2.1 (newL n ps).2.2 ∧ w.heap.size + 1 < w'.heap.size) ∧
  Below w.heap.size w w'

theorem NewPost.err {n c : Nat} {ps : List (Int × Int)} {f g : Nat → Nat} {w w' : World} (h : newL n ps = (c, f, g)) (hc : c ≠ 0) (hb : Below w.heap.size w w') :
    NewPost n ps w (.returned (.tuple #[.pointer none, .int .i64 c])) w' := by
  unfold NewPost; rw [h]; exact ⟨fun _ => rfl, fun h => absurd h hc, hb⟩
theorem NewPost.ok {n : Nat} {ps : List (Int × Int)} {f g : Nat → Nat} {w w' : World} (h : newL n ps = (0, f, g)) (hb : LatW w w' w.heap.size n f g) :
    NewPost n ps w (.returned (.tuple #[.pointer (some ⟨w.heap.size + 1, 0, none⟩), .int .i64 0])) w' := by
  unfold NewPost; rw [h]; exact ⟨fun h => absurd rfl h, fun _ => ⟨rfl, hb.lat, hb.size⟩, hb.below⟩

end Go.Proofs.YtjancemacdffbaaDoor
