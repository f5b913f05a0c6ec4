/- Walk of weepholeref33.Events. -/
import Derived.Test.YtjancemacdffbaaDoorWa
namespace Go.Proofs.YtjancemacdffbaaDoor
open Go.RowKit

set_option maxHeartbeats 1000000 in
theorem revents_any (xb n : Nat) (up : Nat → Nat) (level : Int) (a : Option Addr) (len cap : Nat) (xs : List Int) (ea : Option Addr) (elen ecap : Nat) (es : List (Int × Int)) (w : World)
    (hR : RefL w xb n up) (hlen : xs.length = len) (hat : (Lay.int .i64).At 0 w a xs) (hsm : len ≤ 10000)
    (hel : es.length = elen) (hea : Lay.ev.At (0, 0) w ea es) (hesm : elen ≤ 10000) :
    Calls Tryd.prog 39 #[.pointer (some ⟨xb, 0, none⟩), .int .i64 level, .slice a len cap, .slice ea elen ecap] w (EvPost w (evR n up level xs es)) := by
  have HR := Lib.hid hR
  have HLEN := Lib.hid hlen
  have HAT := Lib.hid hat
  have HEL := Lib.hid hel
  have HEA := Lib.hid hea
  clear hR hlen hat hel hea
  go_enter Tryd.func39, Tryd.ntmps39
  go_wp2_with fail
  refine (known_any xb n up level a len cap xs _ HR.out HLEN.out HAT.out hsm).mono ?_
  rintro e w1 ⟨rfl, hS1⟩
  have HR1 := Lib.hid (HR.out.same hS1)
  have HAT1 := Lib.hid (HAT.out.same hS1)
  have HEA1 := Lib.hid (HEA.out.same hS1)
  have B1 := hS1.below w.heap.size
  have hz1 : w1.heap.size = w.heap.size := by rw [hS1.heap]
  have HZ1 := Lib.hid hz1
  clear HR HAT HEA hS1 hz1
  cases hm : mayB n level xs with
  | false =>
    have HRR : Hid (evR n up level xs es = (3, [])) := by show _ = _; unfold evR; rw [hm]; rfl
    clear hm
    go_wp2_with fail
    go_ret2
    exact EvPost.nil HRR.out B1
  | true =>
    have HM := Lib.hid hm
    clear hm
    go_wp2_with fail
    go_loop [10] (fun i => ∃ k : Nat, k ≤ elen ∧ i = .int .i64 k ∧ Hid ((es.take k).all (inB len) = true)) (fun i => elen - (intOf i).toNat)
    case atStart => exact ⟨0, by omega, rfl, (by simp : (es.take 0).all (inB len) = true)⟩
    case round =>
      obtain ⟨k, hk, rfl, HAL⟩ := hrel
      by_cases hlt : k < elen
      · have hq : k < es.length := by rw [HEL.out]; exact hlt
        obtain ⟨qb, qo, rfl, hqb, hq0, hq1⟩ := HEA1.out.ev hq
        have Ht := Lib.hid (take_getD (0, 0) es k hq)
        have hmem : es.getD k (0, 0) ∈ es := getD_mem (0, 0) es k hq
        have Hbad : Hid (inB len (es.getD k (0, 0)) = false → evR n up level xs es = (3, [])) := fun hb => by
          unfold evR
          rw [if_neg]
          rw [HM.out, Bool.true_and, HLEN.out]
          intro h
          rw [List.all_eq_true] at h
          rw [h _ hmem] at hb
          cases hb
        have hlt2 : (k : Int) < elen := by omega
        clear hq hmem
        generalize es.getD k (0, 0) = ev at *
        obtain ⟨N, V⟩ := ev
        simp only at hq0 hq1
        by_cases h0 : N < 0
        · have HRR := Lib.hid (Hbad.out (by simp [inB]; omega))
          go_wp2_with fail
          go_ret2
          exact EvPost.nil HRR.out B1
        · have h0' : decide (N < 0) = false := by simpa using h0
          by_cases h1 : (len : Int) ≤ N
          · have HRR := Lib.hid (Hbad.out (by simp [inB]; omega))
            go_wp2_with fail
            go_ret2
            exact EvPost.nil HRR.out B1
          · have h1' : decide ((len : Int) ≤ N) = false := by simpa using h1
            go_wp2_with fail
            go_round
            case rel => exact ⟨k + 1, by omega, by go_num, (by rw [Ht.out, List.all_append, HAL.out]; simp [inB]; omega : (es.take (k + 1)).all (inB len) = true)⟩
            case measure => simp [intOf]; omega
      · have hall2 : es.all (inB len) = true := by
          have := HAL.out
          rw [show k = es.length by rw [HEL.out]; omega, List.take_length] at this
          exact this
        have HRR : Hid (evR n up level xs es = (0, seen n up level xs es)) := by show _ = _; unfold evR; rw [HM.out, HLEN.out, hall2]; rfl
        have HOK : Hid (∀ p ∈ es, 0 ≤ p.1 ∧ p.1 < len) := fun p hp => by
          have := List.all_eq_true.1 hall2 p hp
          simp [inB] at this
          exact this
        clear hall2 HAL
        go_wp2_with fail
        go_loopw [11, 12] (fun v i wr => ∃ k : Nat, k ≤ elen ∧ i = .int .i64 k ∧ Lay.ev.Own 75 wr w1.heap.size v (seen n up level xs (es.take k)) ∧ Below w1.heap.size w1 wr) (fun _ i _ => elen - (intOf i).toNat)
        case atStart => exact ⟨0, by omega, rfl, Lay.Own.nil _ _, Below.refl _ _⟩
        case round =>
          obtain ⟨k, hk, rfl, hown, hbel⟩ := hrel
          have hsz := hbel.size
          by_cases hlt : k < elen
          · have hq : k < es.length := by rw [HEL.out]; exact hlt
            obtain ⟨qb, qo, rfl, hqb, hq0, hq1⟩ := HEA1.out.ev hq
            have hq0' := (hbel.cell (p := ⟨qb, qo + k * 2, none⟩) hqb).trans hq0
            have hq1' := (hbel.cell (p := ⟨qb, qo + k * 2 + 1, none⟩) hqb).trans hq1
            have hmem : es.getD k (0, 0) ∈ es := getD_mem (0, 0) es k hq
            obtain ⟨o1, o2⟩ := HOK.out _ hmem
            have Ht : Hid (seen n up level xs (es.take (k + 1)) = seen n up level xs (es.take k) ++ if leB n up (xs.getD (es.getD k (0, 0)).1.toNat 0) level then [es.getD k (0, 0)] else []) := take_filter (0, 0) _ es k hq
            have hbl : (seen n up level xs (es.take k)).length ≤ k := Nat.le_trans (List.length_filter_le _ _) (List.length_take_le _ _)
            have hlt2 : (k : Int) < elen := by omega
            clear hq0 hq1 hq hmem
            generalize es.getD k (0, 0) = ev at *
            obtain ⟨N, V⟩ := ev
            simp only at hq0' hq1' o1 o2 Ht
            obtain ⟨N, rfl⟩ := Int.eq_ofNat_of_zero_le o1
            rw [Int.toNat_natCast] at Ht
            obtain ⟨lb, lo, rfl, hlb, hl0⟩ := HAT1.out.int (i := N) (by rw [HLEN.out]; omega)
            have hl0' := (hbel.cell (p := ⟨lb, lo + N, none⟩) hlb).trans hl0
            have HC := Lib.hid (rle_eq xb n up (xs.getD N 0) level wr (HR1.out.below hbel))
            clear hl0
            generalize xs.getD N 0 = lv at *
            cases hc : leB n up lv level with
            | true =>
              rw [hc] at HC Ht
              clear hc
              go_wp2_with fail
              refine HC.out.mono ?_
              rintro e w' ⟨rfl, rfl⟩
              go_wp2_with (at_builtin; refine app_lay_new Tryd.elemE [((N : Int), V)] rfl _ _ rfl rfl hown rfl rfl (by omega) hsz ?_)
              intro v' w3 r1 r2
              clear hown
              go_wp2_with fail
              go_roundw
              case rel => exact ⟨k + 1, by omega, by go_num, by rw [Ht.out]; exact r1, hbel.trans r2⟩
              case measure => simp [intOf]; omega
            | false =>
              rw [hc] at HC Ht
              clear hc
              go_wp2_with fail
              refine HC.out.mono ?_
              rintro e w' ⟨rfl, rfl⟩
              go_wp2_with fail
              go_roundw
              case rel => exact ⟨k + 1, by omega, by go_num, by rw [Ht.out]; simpa using hown, hbel⟩
              case measure => simp [intOf]; omega
          · have hown2 : Lay.ev.Own 75 wr w.heap.size u11 (evR n up level xs es).2 := by
              rw [HRR.out]
              rw [show k = es.length by rw [HEL.out]; omega, List.take_length, HZ1.out] at hown
              exact hown
            have B2 := B1.trans (hbel.mono B1.size)
            clear hown
            go_wp2_with fail
            go_ret2
            exact ⟨_, by rw [HRR.out]; rfl, hown2, B2⟩

end Go.Proofs.YtjancemacdffbaaDoor
