/- Walks of the functions of package lattice (part 4): New's closure. -/
import Derived.Test.YtjancemacdffbaaDoorLw3
namespace Go.Proofs.YtjancemacdffbaaDoor
open Go.RowKit

/-- the same world, but for draws -/
def Same (w w' : World) : Prop := ∃ m, w' = w.drewN m
theorem Same.refl (w : World) : Same w w := ⟨0, rfl⟩
theorem Same.drewN {w w' : World} (h : Same w w') (n : Nat) : Same w (w'.drewN n) := by
  obtain ⟨m, rfl⟩ := h; exact ⟨m + n, World.drewN_drewN ..⟩
theorem Same.drew {w w' : World} (h : Same w w') : Same w w'.drew := h.drewN 1
theorem Same.trans {a b c : World} (h : Same a b) (k : Same b c) : Same a c := by
  obtain ⟨m, rfl⟩ := h; obtain ⟨n, rfl⟩ := k; exact ⟨m + n, World.drewN_drewN ..⟩
theorem Same.cell {w w' : World} (h : Same w w') (a : Addr) : w'.cell? a = w.cell? a := by obtain ⟨m, rfl⟩ := h; rfl
theorem Same.frozen {w w' : World} (h : Same w w') (a : Addr) : w'.frozen? a = w.frozen? a := by obtain ⟨m, rfl⟩ := h; rfl
theorem Same.heap {w w' : World} (h : Same w w') : w'.heap = w.heap := by obtain ⟨m, rfl⟩ := h; rfl
theorem Same.below {w w' : World} (h : Same w w') (B : Nat) : Below B w w' := by obtain ⟨m, rfl⟩ := h; exact ⟨rfl, rfl, rfl, Nat.le_refl _, fun _ _ => rfl⟩
theorem Same.tab {w w' : World} (h : Same w w') (hT : Tab w) : Tab w' := fun i hi => by rw [h.cell]; exact hT i hi
theorem LatC.same {w w' : World} {b n : Nat} {up dn : Nat → Nat} (h : LatC w b n up dn) (s : Same w w') : LatC w' b n up dn := by
  obtain ⟨m, rfl⟩ := s; exact ⟨h.hn, h.hup, h.hdn, h.bup, h.bdn, h.n32⟩

set_option maxHeartbeats 1000000 in
theorem whole_any (b off c n : Nat) (s : Nat → Nat) (w : World) (hT : Tab w) (hn : n ≤ 32) (hs : ∀ i, i < 32 → s i < 4294967296)
    (hbox : w.cell? ⟨c, 0, none⟩ = some (.int .i64 n))
    (hc : ∀ i, i < 32 → w.cell? ⟨b, off + i, none⟩ = some (.int .u32 (s i))) :
    Calls Tryd.prog 52 #[.pointer (some ⟨b, off, none⟩), .pointer (some ⟨c, 0, none⟩)] w fun e w' => e = .returned (.bool (whole n s)) ∧ Same w w' := by
  have HT := Lib.hid hT
  have HC := Lib.hid hc
  have HS := Lib.hid hs
  clear hT hc hs
  go_enter Tryd.func52, Tryd.ntmps52
  go_wp2_with fail
  go_loopw [7] (fun i wr => ∃ k : Nat, k ≤ n ∧ i = .int .i64 k ∧ Hid ((List.range k).all (whole1 n s) = true) ∧ Same w wr) (fun i _ => n - (intOf i).toNat)
  case atStart => exact ⟨0, by omega, rfl, rfl, Same.refl w⟩
  case round =>
    obtain ⟨k, hk, rfl, hall, hS⟩ := hrel
    have hbx := (hS.cell _).trans hbox
    by_cases hlt : k < n
    · go_wp2_with fail
      go_loopw [11] (fun i wr => ∃ j : Nat, j ≤ n ∧ i = .int .i64 j ∧ Hid ((List.range j).all (whole2 s k) = true) ∧ Same w wr) (fun i _ => n - (intOf i).toNat)
      case atStart => exact ⟨0, by omega, rfl, rfl, hS⟩
      case round =>
        clear hbx hS
        obtain ⟨j, hj, rfl, hallj, hS⟩ := hrel
        have hbx := (hS.cell _).trans hbox
        by_cases hlt2 : j < n
        · have hk2 : (k : Int) < 32 := by omega
          have hj2 : (j : Int) < 32 := by omega
          have hck := (hS.cell _).trans (HC.out k (by omega))
          have hcj := (hS.cell _).trans (HC.out j (by omega))
          have hand := and_u32 _ _ (HS.out k (by omega)) (HS.out j (by omega))
          have hcall := Lib.hid (bound_q b off (s k &&& s j) s wr (hS.tab HT.out) (and_lt32 _ _ (HS.out k (by omega))) HS.out (fun i h => (hS.cell _).trans (HC.out i h)))
          have hlo := (Pl.bnd_lo s (s k &&& s j)).1
          have hhi := (Pl.bnd_lo s (s k &&& s j)).2
          cases hw : whole2 s k j with
          | true =>
            have hd : decide (Pl.bnd s (s k &&& s j) < 0) = false := by simp [whole2] at hw ⊢; omega
            have Hw := Lib.hid hw
            clear hw
            go_wp2_with fail
            go_quiet ((go_at_call 51; exact hcall.out _))
            go_wp2_with fail
            go_roundw
            case rel => exact ⟨j + 1, by omega, by go_num, by show _ = true; rw [range_all_succ, hallj.out, Hw.out]; rfl, hS.drewN _⟩
            case measure => simp [intOf]; omega
          | false =>
            have hd : Pl.bnd s (s k &&& s j) < 0 := by simp [whole2] at hw; exact hw
            have Hw := Lib.hid (show whole n s = false from range_all_false hlt (range_all_false hlt2 hw))
            clear hw
            go_wp2_with fail
            go_quiet ((go_at_call 51; exact hcall.out _))
            go_wp2_with fail
            go_ret
            exact ⟨by rw [Hw.out]; rfl, hS.drewN _⟩
        · obtain rfl : j = n := by omega
          go_wp2_with fail
          go_roundw
          case rel => exact ⟨k + 1, by omega, by go_num, by show _ = true; rw [range_all_succ, hall.out, show whole1 j s k = true from hallj.out]; rfl, hS⟩
          case measure => simp [intOf]; omega
    · obtain rfl : k = n := by omega
      go_wp2_with fail
      go_ret
      exact ⟨by rw [show whole k s = true from hall.out]; rfl, hS⟩

end Go.Proofs.YtjancemacdffbaaDoor
