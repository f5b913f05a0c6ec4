/- Walk of the law LatticeMatches. -/
import Derived.Test.YtjancemacdffbaaDoorRf6
import Derived.Test.YtjancemacdffbaaDoorLw9
namespace Go.Proofs.YtjancemacdffbaaDoor
open Go.RowKit

theorem RefC.same {w w' : World} {xb g cap n : Nat} {r : Nat → Nat} {M : Nat → Nat → Bool} (h : RefC w xb g cap n r M) (s : Same w w') : RefC w' xb g cap n r M :=
  ⟨(s.cell _).trans h.top, fun i hi => (s.cell _).trans (h.row i hi), fun i j hi hj => (s.cell _).trans (h.bit i j hi hj), h.n32⟩
theorem newE_zero {n : Int} {ps : List (Int × Int)} (h : (newE n ps).1 = 0) : 1 ≤ n ∧ n ≤ 32 ∧ newE n ps = newL n.toNat ps := by
  unfold newE at h ⊢
  split at h
  · cases h
  · split at h
    · cases h
    · rename_i h1 h2
      exact ⟨by omega, by omega, by rw [if_neg h1, if_neg h2]⟩

set_option maxHeartbeats 2000000 in
set_option maxRecDepth 100000 in
theorem matches_any (n : Int) (a : Option Addr) (len cap : Nat) (ord : List (Int × Int)) (xa xb : Int) (w : World) (hT : Tab w) (h0 : 0 < w.heap.size) (hp : PairsAt w a ord) (hlen : ord.length = len) (hlc : len ≤ cap) (hcm : cap ≤ 9223372036854775807) :
    Calls Tryd.prog 7 #[.int .i64 n, .slice a len cap, .int .i64 xa, .int .i64 xb] w fun e w' => e = .returned (.bool true) ∧ Below w.heap.size w w' := by
  have O0 := On.refl hT h0
  obtain ⟨L, hL1, hL2, hL3⟩ : ∃ L : Nat, (L : Int) = min (len : Int) 1100 ∧ L ≤ len ∧ L ≤ 1100 := ⟨min len 1100, by omega, by omega, by omega⟩
  have HP := Lib.hid (hp.take L)
  have HLEN := Lib.hid (show (ord.take L).length = L by rw [List.length_take, hlen]; omega)
  generalize ord.take L = ps at HP HLEN
  have HL1 := Lib.hid hL1
  clear hT h0 hp hlen hL1
  go_enter Tryd.func7, Tryd.ntmps7
  go_upto_region 1 with (fail)
  go_cut [1] (fun s wx => s = .slice a L cap ∧ w = wx)
  case first =>
    by_cases hc : len < 1100
    · obtain rfl : L = len := by have := HL1.out; omega
      have hcc : (L : Int) ≤ cap := by omega
      have hc2 : (L : Int) < 1100 := by omega
      clear HL1
      go_wp2_with fail
      go_meet
      exact ⟨rfl, rfl⟩
    · obtain rfl : L = 1100 := by have := HL1.out; omega
      have hcc : (1100 : Int) ≤ cap := by omega
      have hc2 : (1100 : Int) ≤ len := by omega
      clear HL1
      go_wp2_with fail
      all_goals go_meet
      all_goals first | exact ⟨rfl, rfl⟩ | exact ⟨by rw [show len = 1100 by omega], rfl⟩
  case rest =>
    obtain ⟨rfl, rfl⟩ := hcut
    clear HL1 hlc hcm
    go_wp2_with fail
    refine (copyPairs_any a L cap ps _ HLEN.out HP.out (by omega)).mono ?_
    rintro e w1 ⟨v, rfl, hown, hb1⟩
    have O1 := O0.of hb1
    obtain ⟨a1, cap1, rfl, P1, _, _⟩ := hown.pairs
    have P0 := HP.out.below hb1
    clear hown HP hb1
    rw [HLEN.out]
    by_cases hz : (newE n ps).1 = 0
    · obtain ⟨hn1, hn2, hE⟩ := newE_zero hz
      have HZ := Lib.hid hz
      have hz2 : (newL n.toNat ps).1 = 0 := by rw [← hE]; exact hz
      have HI := Lib.hid (newL_zero (n := n.toNat) (by omega) hz2).2
      have HE := Lib.hid hE
      clear hz hE hz2
      go_wp2_with fail
      refine (new_ok ps HZ.out HLEN.out P1 O1.tab O1.pos).mono ?_
      rintro e w2 ⟨rfl, hL2, hs2, hb2⟩
      have O2 := O1.next hb2
      have P12 := P1.below hb2
      have P02 := P0.below hb2
      rw [HE.out] at hL2
      clear O1 P1 P0 hb2
      generalize w1.heap.size + 1 = bl at *
      go_wp2_with fail
      refine (rnew_all n a L cap w2 ps HLEN.out P02).mono ?_
      rintro e w3 ⟨_, hq, hb3⟩
      obtain ⟨rfl, hs3, g, cp, r, M, hR3, hM⟩ := hq HZ.out
      have O3 := O2.next hb3
      have P13 := P12.below hb3
      have P03 := P02.below hb3
      have hL3 := hL2.below hb3 hs2
      clear O2 P12 P02 hL2 hb3
      generalize w2.heap.size = br at *
      go_wp2_with fail
      refine (equalPairs_true a1 a L cap1 cap ps _ HLEN.out P13 P03 (by omega)).mono ?_
      rintro e w4 ⟨rfl, hS4⟩
      have O4 := O3.same hS4
      have HL4 := Lib.hid (hL3.same hS4)
      have HR4 := Lib.hid (hR3.same hS4)
      have HM := Lib.hid hM
      clear O3 P13 P03 hL3 hR3 hS4 hM
      obtain ⟨k, rfl⟩ := Int.eq_ofNat_of_zero_le (show 0 ≤ n by omega)
      rw [Int.toNat_natCast] at HI HL4 HR4 HM
      have Hsame := Lib.hid (fun W (hS : Same w4 W) x y => same_true bl br g cp k x y _ _ r M ps W (hS.tab O4.tab) (HL4.out.same hS) HI.out (HR4.out.same hS) HM.out)
      have Hle : Hid (rleB k M xa xb = leB k (newL k ps).2.1 xa xb) := by
        show _ = _
        unfold rleB leB
        cases hxy : (isB k xa && isB k xb) with
        | false => simp
        | true =>
          rw [Bool.and_eq_true] at hxy
          obtain ⟨i, rfl, hi⟩ := isB_nat hxy.1
          obtain ⟨j, rfl, hj⟩ := isB_nat hxy.2
          simp only [Bool.true_and, Int.toNat_natCast]
          rw [Bool.eq_iff_iff, HM.out i j hi hj]
          exact ⟨fun h => (HI.out.up i j).2 ⟨hi, hj, h⟩, fun h => ((HI.out.up i j).1 h).2.2⟩
      go_wp2_with fail
      refine (len_any bl k _ HL4.out.hn).mono ?_
      rintro e w' ⟨rfl, rfl⟩
      go_wp2_with fail
      refine (le_any bl k _ _ _ _ _ HL4.out).mono ?_
      rintro e w' ⟨rfl, rfl⟩
      go_wp2_with fail
      refine (rle_any br g cp k r M _ _ _ HR4.out).mono ?_
      rintro e w' ⟨rfl, rfl⟩
      rw [Hle.out]
      generalize leB k (newL k ps).2.1 xa xb = q
      have hqq : (q != q) = false := by cases q <;> rfl
      go_wp2_with fail
      go_loopw [14] (fun v wr => ∃ i : Int, -1 ≤ i ∧ i ≤ k + 1 ∧ v = .int .i64 i ∧ Same w4 wr) (fun v _ => (k + 1 - intOf v).toNat)
      case atStart => exact ⟨-1, by omega, by omega, rfl, Same.refl _⟩
      case round =>
        obtain ⟨i, hi1, hi2, rfl, hS⟩ := hrel
        by_cases hlt : i ≤ k
        · go_wp2_with fail
          go_loopw [15] (fun v wr => ∃ j : Int, -1 ≤ j ∧ j ≤ k + 1 ∧ v = .int .i64 j ∧ Same w4 wr) (fun v _ => (k + 1 - intOf v).toNat)
          case atStart => exact ⟨-1, by omega, by omega, rfl, hS⟩
          case round =>
            clear hS
            obtain ⟨j, hj1, hj2, rfl, hS⟩ := hrel
            by_cases hltj : j ≤ k
            · go_wp2_with fail
              refine (Hsame.out _ hS _ _).mono ?_
              rintro e w5 ⟨rfl, hS5⟩
              go_wp2_with fail
              go_roundw
              case rel => exact ⟨j + 1, by omega, by omega, rfl, hS.trans hS5⟩
              case measure => simp only [intOf]; omega
            · go_wp2_with fail
              go_roundw
              case rel => exact ⟨i + 1, by omega, by omega, rfl, hS⟩
              case measure => simp only [intOf]; omega
        · go_wp2_with fail
          refine (Hsame.out _ hS _ _).mono ?_
          rintro e w5 ⟨rfl, hS5⟩
          go_wp2_with fail
          refine (Hsame.out _ (hS.trans hS5) _ _).mono ?_
          rintro e w6 ⟨rfl, hS6⟩
          have O6 := O4.same ((hS.trans hS5).trans hS6)
          go_wp2_with fail
          refine (awake_any _ O6.tab O6.pos).mono ?_
          rintro e w7 ⟨rfl, hb7⟩
          go_wp2_with fail
          go_ret
          exact ⟨rfl, (O6.next hb7).below⟩
    · have HZ := Lib.hid hz
      go_wp2_with fail
      refine (new_err ps rfl hz HLEN.out P1 O1.tab O1.pos).mono ?_
      rintro e w2 ⟨rfl, hb2⟩
      have O2 := O1.next hb2
      have P12 := P1.below hb2
      have P02 := P0.below hb2
      clear O1 P1 P0 hb2
      go_wp2_with fail
      refine (rnew_all n a L cap w2 ps HLEN.out P02).mono ?_
      rintro e w3 ⟨hq, _, hb3⟩
      obtain rfl := hq HZ.out
      have O3 := O2.next hb3
      have P13 := P12.below hb3
      have P03 := P02.below hb3
      clear O2 P12 P02 hb3 hq
      generalize (newE n ps).1 = c at *
      have hcc : ((c : Int) != c) = false := by simp
      go_wp2_with fail
      refine (equalPairs_true a1 a L cap1 cap ps _ HLEN.out P13 P03 (by omega)).mono ?_
      rintro e w4 ⟨rfl, hS4⟩
      have O4 := O3.same hS4
      go_wp2_with fail
      refine (awake_any _ O4.tab O4.pos).mono ?_
      rintro e w7 ⟨rfl, hb7⟩
      go_wp2_with fail
      go_ret
      exact ⟨rfl, (O4.next hb7).below⟩

end Go.Proofs.YtjancemacdffbaaDoor
