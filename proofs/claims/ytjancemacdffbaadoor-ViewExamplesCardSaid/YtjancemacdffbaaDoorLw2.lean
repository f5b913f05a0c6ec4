/- Walks of the functions of package lattice (part 2): Le, Join, Meet, Len, New$1. -/
import Derived.Test.YtjancemacdffbaaDoorLw1
namespace Go.Proofs.YtjancemacdffbaaDoor
open Go.RowKit

/-- A lattice lies in block b: n levels, up and down. -/
structure LatC (w : World) (b n : Nat) (up dn : Nat → Nat) : Prop where
  hn : w.cell? ⟨b, 0, none⟩ = some (.int .i64 n)
  hup : ∀ i, i < 32 → w.cell? ⟨b, 1 + i, none⟩ = some (.int .u32 (up i))
  hdn : ∀ i, i < 32 → w.cell? ⟨b, 33 + i, none⟩ = some (.int .u32 (dn i))
  bup : ∀ i, i < 32 → up i < 4294967296
  bdn : ∀ i, i < 32 → dn i < 4294967296
  n32 : n ≤ 32

theorem bit_test (x j : Nat) (hx : x < 4294967296) : (bits BinOp.and IntKind.u32 ((x : Int) / 2 ^ j) 1 == 1) = x.testBit j := by
  have e : (x : Int) / 2 ^ j = ((x / 2 ^ j : Nat) : Int) := by simp
  have hl : x / 2 ^ j < 4294967296 := Nat.lt_of_le_of_lt (Nat.div_le_self _ _) hx
  rw [e, show (1 : Int) = ((1 : Nat) : Int) from rfl, u32_and_nat _ 1 hl (by decide), nat_mask1, Nat.testBit_eq_decide_div_mod_eq, Bool.eq_iff_iff]
  simp only [beq_iff_eq, decide_eq_true_eq]
  omega
theorem and_u32 (x y : Nat) (hx : x < 4294967296) (hy : y < 4294967296) : bits BinOp.and IntKind.u32 (x : Int) (y : Int) = ((x &&& y : Nat) : Int) := u32_and_nat x y hx hy
theorem and_lt32 (x y : Nat) (hx : x < 4294967296) : x &&& y < 4294967296 := Nat.lt_of_le_of_lt Nat.and_le_left hx

def leB (n : Nat) (up : Nat → Nat) (a b : Int) : Bool := isB n a && isB n b && (up a.toNat).testBit b.toNat

set_option maxHeartbeats 400000 in
theorem le_any (b n : Nat) (up dn : Nat → Nat) (x y : Int) (w : World) (h : LatC w b n up dn) :
    Calls Tryd.prog 19 #[.pointer (some ⟨b, 0, none⟩), .int .i64 x, .int .i64 y] w fun e w' => e = .returned (.bool (leB n up x y)) ∧ w = w' := by
  have H := Lib.hid h
  clear h
  cases hx : isB n x with
  | false =>
    have Hx := Lib.hid hx
    clear hx
    go_enter Tryd.func19, Tryd.ntmps19
    go_wp2_with fail
    refine (is_any x n b _ H.out.hn).mono ?_
    rintro e w' ⟨rfl, rfl⟩
    rw [Hx.out]
    go_wp2_with fail
    go_ret
    exact ⟨by simp [leB, Hx.out], rfl⟩
  | true =>
    cases hy : isB n y with
    | false =>
      have Hx := Lib.hid hx
      have Hy := Lib.hid hy
      clear hx hy
      go_enter Tryd.func19, Tryd.ntmps19
      go_wp2_with fail
      refine (is_any x n b _ H.out.hn).mono ?_
      rintro e w' ⟨rfl, rfl⟩
      rw [Hx.out]
      go_wp2_with fail
      refine (is_any y n b _ H.out.hn).mono ?_
      rintro e w' ⟨rfl, rfl⟩
      rw [Hy.out]
      go_wp2_with fail
      go_ret
      exact ⟨by simp [leB, Hy.out], rfl⟩
    | true =>
      have Hx := Lib.hid hx
      have Hy := Lib.hid hy
      simp [isB] at hx hy
      obtain ⟨i, rfl⟩ := Int.eq_ofNat_of_zero_le hx.1
      obtain ⟨j, rfl⟩ := Int.eq_ofNat_of_zero_le hy.1
      have hn := H.out.n32
      have hc := H.out.hup i (by omega)
      have hb := H.out.bup i (by omega)
      have hi : i < 32 := by omega
      have hj : j < 32 := by omega
      clear hx hy
      go_enter Tryd.func19, Tryd.ntmps19
      go_wp2_with fail
      refine (is_any _ n b _ H.out.hn).mono ?_
      rintro e w' ⟨rfl, rfl⟩
      rw [Hx.out]
      go_wp2_with fail
      refine (is_any _ n b _ H.out.hn).mono ?_
      rintro e w' ⟨rfl, rfl⟩
      rw [Hy.out]
      go_wp2_with fail
      go_ret
      refine ⟨?_, rfl⟩
      simp [leB, Hx.out, Hy.out]
      exact bit_test _ _ hb

theorem bound_q (b off set : Nat) (s : Nat → Nat) (w : World) (hT : Tab w) (hset : set < 4294967296) (hs : ∀ i, i < 32 → s i < 4294967296)
    (hc : ∀ i, i < 32 → w.cell? ⟨b, off + i, none⟩ = some (.int .u32 (s i))) (n : Nat) :
    Calls Tryd.prog 51 #[.pointer (some ⟨b, off, none⟩), .int .u32 set] (w.drewN n) fun e w' => e = .returned (.int .i64 (Pl.bnd s set)) ∧ ∃ m, w' = w.drewN m :=
  (bound_any b off set s _ (fun i h => by rw [World.cell?_drewN]; exact hT i h) hset hs (fun i h => by rw [World.cell?_drewN]; exact hc i h)).mono fun _ _ h => ⟨h.1, n, h.2.symm⟩

/-- Join and Meet in one: the bound of two sets -/
def joinI (s : Nat → Nat) (a b : Int) : Int := Pl.bnd s (s a.toNat &&& s b.toNat)

set_option maxHeartbeats 400000 in
theorem join_in (b n i j : Nat) (up dn : Nat → Nat) (w : World) (hT : Tab w) (h : LatC w b n up dn) (hi : i < n) (hj : j < n) :
    Calls Tryd.prog 20 #[.pointer (some ⟨b, 0, none⟩), .int .i64 i, .int .i64 j] w fun e w' => e = .returned (.tuple #[.int .i64 (joinI up i j), .int .i64 0]) ∧ ∃ k, w' = w.drewN k := by
  have Hx : Hid (isB n i = true) := by show isB n i = true; simp [isB]; exact hi
  have Hy : Hid (isB n j = true) := by show isB n j = true; simp [isB]; exact hj
  have H := Lib.hid h
  have HT := Lib.hid hT
  have hn := H.out.n32
  have hci := H.out.hup i (by omega)
  have hcj := H.out.hup j (by omega)
  have hbi := H.out.bup i (by omega)
  have hbj := H.out.bup j (by omega)
  have hand := and_u32 _ _ hbi hbj
  have hi2 : (i : Int) < 32 := by omega
  have hj2 : (j : Int) < 32 := by omega
  have hcall := Lib.hid (bound_q b 1 (up i &&& up j) up w hT (and_lt32 _ _ hbi) h.bup h.hup)
  clear h hT
  go_enter Tryd.func20, Tryd.ntmps20
  go_wp2_with fail
  refine (is_any _ n b _ H.out.hn).mono ?_
  rintro e w' ⟨rfl, rfl⟩
  rw [Hx.out]
  go_wp2_with fail
  refine (is_any _ n b _ H.out.hn).mono ?_
  rintro e w' ⟨rfl, rfl⟩
  rw [Hy.out]
  go_wp2_with fail
  go_quiet ((go_at_call 51; exact hcall.out _))
  go_wp2_with fail
  go_ret2
  exact ⟨rfl, _, rfl⟩

end Go.Proofs.YtjancemacdffbaaDoor
