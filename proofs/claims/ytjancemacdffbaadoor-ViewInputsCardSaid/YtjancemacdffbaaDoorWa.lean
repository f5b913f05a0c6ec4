/- Walks of weepholeref33: Known, Events. -/
import Derived.Test.YtjancemacdffbaaDoorVj
import Derived.Test.YtjancemacdffbaaDoorPl6
namespace Go.Proofs.YtjancemacdffbaaDoor
open Go.RowKit

/-- the reference's lattice, as far as its order goes -/
def RefL (w : World) (xb n : Nat) (up : Nat → Nat) : Prop := ∃ g cap r M, RefC w xb g cap n r M ∧ ∀ x y, rleB n M x y = leB n up x y
theorem RefC.below {w w' : World} {xb g cap n : Nat} {r : Nat → Nat} {M : Nat → Nat → Bool} (h : RefC w xb g cap n r M) (hb : Below w.heap.size w w') : RefC w' xb g cap n r M :=
  ⟨(hb.cell (p := ⟨xb, 0, none⟩) (World.block_lt_of_cell? w _ h.top)).trans h.top, fun i hi => (hb.cell (p := ⟨g, i, none⟩) (World.block_lt_of_cell? w _ (h.row i hi))).trans (h.row i hi),
    fun i j hi hj => (hb.cell (p := ⟨r i, j, none⟩) (World.block_lt_of_cell? w _ (h.bit i j hi hj))).trans (h.bit i j hi hj), h.n32⟩
theorem RefL.below {w w' : World} {xb n : Nat} {up : Nat → Nat} (h : RefL w xb n up) (hb : Below w.heap.size w w') : RefL w' xb n up := by
  obtain ⟨g, cap, r, M, h1, h2⟩ := h
  exact ⟨g, cap, r, M, h1.below hb, h2⟩
theorem RefL.same {w w' : World} {xb n : Nat} {up : Nat → Nat} (h : RefL w xb n up) (s : Same w w') : RefL w' xb n up := h.below (s.below _)
theorem RefL.of {w : World} {xb g cap n : Nat} {r : Nat → Nat} {M : Nat → Nat → Bool} {up dn : Nat → Nat} {ps : List (Int × Int)} (h : RefC w xb g cap n r M) (hI : IsLat n ps up dn) (hM : ∀ i j, i < n → j < n → (M i j = true ↔ RT ps i j)) : RefL w xb n up := by
  refine ⟨g, cap, r, M, h, fun x y => ?_⟩
  unfold rleB leB
  cases hx : isB n x with
  | false => rfl
  | true =>
    cases hy : isB n y with
    | false => rfl
    | true =>
      obtain ⟨i, rfl, hi⟩ := isB_nat hx
      obtain ⟨j, rfl, hj⟩ := isB_nat hy
      rw [Bool.true_and, Bool.true_and, Bool.eq_iff_iff, Int.toNat_natCast, Int.toNat_natCast, hM i j hi hj]
      have := leB_iff hI hi hj
      unfold leB at this
      rw [hx, hy, Bool.true_and, Bool.true_and, Int.toNat_natCast, Int.toNat_natCast] at this
      exact this.symm
theorem rle_eq (xb n : Nat) (up : Nat → Nat) (x y : Int) (w : World) (h : RefL w xb n up) :
    Calls Tryd.prog 32 #[.pointer (some ⟨xb, 0, none⟩), .int .i64 x, .int .i64 y] w fun e w' => e = .returned (.bool (leB n up x y)) ∧ w = w' := by
  obtain ⟨g, cap, r, M, h1, h2⟩ := h
  exact (rle_any xb g cap n r M x y w h1).mono fun e w' ⟨he, hw⟩ => ⟨by rw [he, h2], hw⟩

theorem isB_split (n : Nat) (x : Int) (h0 : 0 ≤ x) : isB n x = decide (x < n) := by simp [isB, h0]

set_option maxHeartbeats 1000000 in
theorem known_any (xb n : Nat) (up : Nat → Nat) (level : Int) (a : Option Addr) (len cap : Nat) (xs : List Int) (w : World) (hR : RefL w xb n up) (hlen : xs.length = len) (hat : (Lay.int .i64).At 0 w a xs) (hsm : len ≤ 10000) :
    Calls Tryd.prog 59 #[.pointer (some ⟨xb, 0, none⟩), .int .i64 level, .slice a len cap] w fun e w' => e = .returned (.bool (mayB n level xs)) ∧ Same w w' := by
  obtain ⟨g, rcap, r, M, hC, _⟩ := hR
  have htop := hC.top
  have HA := Lib.hid hat
  have HLEN := Lib.hid hlen
  clear hat hlen hC
  by_cases hl0 : 0 ≤ level
  all_goals
    first
      | (have hlx : Hid (decide (level < n) = isB n level) := (isB_split n level hl0).symm)
      | (have hl0' : decide (0 ≤ level) = false := by simpa using hl0
         have hlx : Hid (false = isB n level) := by (show _ = _); simp [isB, hl0'])
    go_enter Tryd.func59, Tryd.ntmps59
    go_wp2_with fail
    go_loopw [7, 8] (fun v i wr => ∃ k : Nat, k ≤ len ∧ i = .int .i64 k ∧ v = .bool ((level :: xs.take k).all (isB n)) ∧ Same w wr) (fun _ i _ => len - (intOf i).toNat)
    case atStart => exact ⟨0, by omega, rfl, by rw [hlx.out]; simp, Same.refl _⟩
    case round =>
      obtain ⟨k, hk, rfl, rfl, hS⟩ := hrel
      by_cases hlt : k < len
      · have hq : k < xs.length := by rw [HLEN.out]; exact hlt
        obtain ⟨pb, po, rfl, hpb, hp0⟩ := HA.out.int hq
        have hp0' := (hS.cell ⟨pb, po + k, none⟩).trans hp0
        have ht' := (hS.cell ⟨xb, 0, none⟩).trans htop
        have Ht : Hid ((level :: xs.take (k + 1)).all (isB n) = ((level :: xs.take k).all (isB n) && isB n (xs.getD k 0))) := by
          show _ = _
          rw [take_getD 0 xs k hq]; simp [List.all_append, Bool.and_assoc]
        have hlt2 : (k : Int) < len := by omega
        clear hp0 hq
        generalize xs.getD k 0 = x at *
        generalize hok : (level :: xs.take k).all (isB n) = ok at *
        clear hok
        cases ok with
        | false =>
          go_wp2_with fail
          go_quiet (fail)
          go_wp2_with fail
          go_roundw
          case rel => exact ⟨k + 1, by omega, by go_num, by rw [Ht.out]; rfl, hS.drewN _⟩
          case measure => simp [intOf]; omega
        | true =>
          by_cases hx0 : 0 ≤ x
          · have Hx := Lib.hid (isB_split n x hx0)
            go_wp2_with fail
            go_quiet (fail)
            go_wp2_with fail
            go_roundw
            case rel => exact ⟨k + 1, by omega, by go_num, by rw [Ht.out, Hx.out]; rfl, hS.drewN _⟩
            case measure => simp [intOf]; omega
          · have hx0' : decide (0 ≤ x) = false := by simpa using hx0
            have Hx : Hid (isB n x = false) := by (show _ = _); simp [isB, hx0']
            go_wp2_with fail
            go_quiet (fail)
            go_wp2_with fail
            go_roundw
            case rel => exact ⟨k + 1, by omega, by go_num, by rw [Ht.out, Hx.out]; rfl, hS.drewN _⟩
            case measure => simp [intOf]; omega
      · obtain rfl : k = len := by omega
        have Hfin : Hid ((level :: xs.take k).all (isB n) = mayB n level xs) := by
          show _ = _
          unfold mayB; rw [← HLEN.out, List.take_length]
        go_wp2_with fail
        go_ret
        exact ⟨by rw [← Hfin.out]; rfl, hS⟩

end Go.Proofs.YtjancemacdffbaaDoor
