/- Walks: same of weepholelaw27. -/
import Derived.Test.YtjancemacdffbaaDoorRf5
import Derived.Test.YtjancemacdffbaaDoorLw13
namespace Go.Proofs.YtjancemacdffbaaDoor
open Go.RowKit

set_option maxHeartbeats 1000000 in
set_option maxRecDepth 100000 in
theorem same_true (b xb g cap n : Nat) (x y : Int) (up dn : Nat → Nat) (r : Nat → Nat) (M : Nat → Nat → Bool) (ps : List (Int × Int)) (w : World) (hT : Tab w) (h : LatC w b n up dn) (hI : IsLat n ps up dn) (hR : RefC w xb g cap n r M)
    (hM : ∀ i j, i < n → j < n → (M i j = true ↔ RT ps i j)) :
    Calls Tryd.prog 33 #[.pointer (some ⟨b, 0, none⟩), .pointer (some ⟨xb, 0, none⟩), .int .i64 x, .int .i64 y] w fun e w' => e = .returned (.bool true) ∧ Same w w' := by
  have hn := h.n32
  have H1 := Lib.hid (join_any b n x y up dn w hT h)
  have H2 := Lib.hid (fun W (hS : Same w W) => meet_any b n x y up dn W (hS.tab hT) (h.same hS))
  have HL := Lib.hid h
  have HR := Lib.hid (fun W (hS : Same w W) => (⟨(hS.cell _).trans hR.top, fun i hi => (hS.cell _).trans (hR.row i hi), fun i j hi hj => (hS.cell _).trans (hR.bit i j hi hj), hR.n32⟩ : RefC W xb g cap n r M))
  have HI := Lib.hid hI
  have HM := Lib.hid hM
  clear hT h hR hI hM
  cases hxy : (isB n x && isB n y) with
  | false =>
    have e1 : jv n up x y = 0 := by simp [jv, hxy]
    have e2 : jv n dn x y = 0 := by simp [jv, hxy]
    have e3 : jc n x y = 3 := by simp [jc, hxy]
    have e4 := Lib.hid (show leB n up x y = false by simp [leB, hxy])
    rw [e1, e3] at H1
    rw [e2, e3] at H2
    clear e1 e2 e3
    cases hx : isB n x with
    | false =>
      have Hx := Lib.hid hx
      clear hx hxy
      go_enter Tryd.func33, Tryd.ntmps33
      go_wp2_with fail
      refine H1.out.mono ?_
      rintro e w1 ⟨rfl, hS1⟩
      go_wp2_with fail
      refine (H2.out _ hS1).mono ?_
      rintro e w2 ⟨rfl, hS2⟩
      have hS := hS1.trans hS2
      clear hS1 hS2
      go_wp2_with fail
      refine (rIs_any xb g cap n r M _ _ (HR.out _ hS)).mono ?_
      rintro e w' ⟨rfl, rfl⟩
      rw [Hx.out]
      go_wp2_with fail
      refine (le_any b n up dn _ _ _ (HL.out.same hS)).mono ?_
      rintro e w' ⟨rfl, rfl⟩
      rw [e4.out]
      go_wp2_with fail
      go_ret
      exact ⟨rfl, hS⟩
    | true =>
      have Hx := Lib.hid hx
      have Hy := Lib.hid (show isB n y = false by rw [hx] at hxy; simpa using hxy)
      clear hx hxy
      go_enter Tryd.func33, Tryd.ntmps33
      go_wp2_with fail
      refine H1.out.mono ?_
      rintro e w1 ⟨rfl, hS1⟩
      go_wp2_with fail
      refine (H2.out _ hS1).mono ?_
      rintro e w2 ⟨rfl, hS2⟩
      have hS := hS1.trans hS2
      clear hS1 hS2
      go_wp2_with fail
      refine (rIs_any xb g cap n r M _ _ (HR.out _ hS)).mono ?_
      rintro e w' ⟨rfl, rfl⟩
      rw [Hx.out]
      go_wp2_with fail
      refine (rIs_any xb g cap n r M _ _ (HR.out _ hS)).mono ?_
      rintro e w' ⟨rfl, rfl⟩
      rw [Hy.out]
      go_wp2_with fail
      refine (le_any b n up dn _ _ _ (HL.out.same hS)).mono ?_
      rintro e w' ⟨rfl, rfl⟩
      rw [e4.out]
      go_wp2_with fail
      go_ret
      exact ⟨rfl, hS⟩
  | true =>
    have h2 := hxy
    rw [Bool.and_eq_true] at h2
    have Hx := Lib.hid h2.1
    have Hy := Lib.hid h2.2
    obtain ⟨i, rfl, hi⟩ := isB_nat h2.1
    obtain ⟨j, rfl, hj⟩ := isB_nat h2.2
    clear hxy h2
    obtain ⟨J, hJ⟩ := ex_join HI.out hi hj
    obtain ⟨N, hN⟩ := ex_meet HI.out hi hj
    have e1 := join_lev hn HI.out hi hj hJ
    have e2 := meet_lev hn HI.out hi hj hN
    have e3 := jc_nat (n := n) hi hj
    have e5 : rjoin n M i j = J := by
      rcases rjoin_cases' HM.out hi hj with ⟨_, h⟩ | ⟨k, h, hk⟩
      · exact absurd hJ (h J)
      · rw [h, IsJoin.uniq HI.out.anti hk hJ]
    have e6 : rjoin n (tr M) i j = N := by
      rcases rmeet_cases HM.out hi hj with ⟨_, h⟩ | ⟨k, h, hk⟩
      · exact absurd hN (h N)
      · rw [h, IsMeet.uniq HI.out.anti hk hN]
    have e7 : rleB n M i j = leB n up i j := by
      rw [Bool.eq_iff_iff, leB_iff HI.out hi hj, ← HM.out i j hi hj]
      simp [rleB, Hx.out, Hy.out]
    rw [e1, e3] at H1
    rw [e2, e3] at H2
    have C5 := Lib.hid (fun W (hS : Same w W) => rjoin_any xb g cap n i j r M W (HR.out W hS) hi hj)
    have C6 := Lib.hid (fun W (hS : Same w W) => rmeet_any xb g cap n i j r M W (HR.out W hS) hi hj)
    have C7 := Lib.hid (fun W (hS : Same w W) => rle_any xb g cap n r M i j W (HR.out W hS))
    rw [e5] at C5
    rw [e6] at C6
    rw [e7] at C7
    clear e1 e2 e3 e5 e6 e7 hJ hN
    generalize hq : leB n up i j = q at *
    have Hq := Lib.hid hq
    clear hq
    cases q with
    | false =>
      go_enter Tryd.func33, Tryd.ntmps33
      go_wp2_with fail
      refine H1.out.mono ?_
      rintro e w1 ⟨rfl, hS1⟩
      go_wp2_with fail
      refine (H2.out _ hS1).mono ?_
      rintro e w2 ⟨rfl, hS2⟩
      have hS := hS1.trans hS2
      clear hS1 hS2
      go_wp2_with fail
      refine (rIs_any xb g cap n r M _ _ (HR.out _ hS)).mono ?_
      rintro e w' ⟨rfl, rfl⟩
      rw [Hx.out]
      go_wp2_with fail
      refine (rIs_any xb g cap n r M _ _ (HR.out _ hS)).mono ?_
      rintro e w' ⟨rfl, rfl⟩
      rw [Hy.out]
      go_wp2_with fail
      refine (C5.out _ hS).mono ?_
      rintro e w' ⟨rfl, rfl⟩
      go_wp2_with fail
      refine (C6.out _ hS).mono ?_
      rintro e w' ⟨rfl, rfl⟩
      go_wp2_with fail
      refine (le_any b n up dn _ _ _ (HL.out.same hS)).mono ?_
      rintro e w' ⟨rfl, rfl⟩
      rw [Hq.out]
      go_wp2_with fail
      refine (C7.out _ hS).mono ?_
      rintro e w' ⟨rfl, rfl⟩
      go_wp2_with fail
      go_ret
      exact ⟨rfl, hS⟩
    | true =>
      go_enter Tryd.func33, Tryd.ntmps33
      go_wp2_with fail
      refine H1.out.mono ?_
      rintro e w1 ⟨rfl, hS1⟩
      go_wp2_with fail
      refine (H2.out _ hS1).mono ?_
      rintro e w2 ⟨rfl, hS2⟩
      have hS := hS1.trans hS2
      clear hS1 hS2
      go_wp2_with fail
      refine (rIs_any xb g cap n r M _ _ (HR.out _ hS)).mono ?_
      rintro e w' ⟨rfl, rfl⟩
      rw [Hx.out]
      go_wp2_with fail
      refine (rIs_any xb g cap n r M _ _ (HR.out _ hS)).mono ?_
      rintro e w' ⟨rfl, rfl⟩
      rw [Hy.out]
      go_wp2_with fail
      refine (C5.out _ hS).mono ?_
      rintro e w' ⟨rfl, rfl⟩
      go_wp2_with fail
      refine (C6.out _ hS).mono ?_
      rintro e w' ⟨rfl, rfl⟩
      go_wp2_with fail
      refine (le_any b n up dn _ _ _ (HL.out.same hS)).mono ?_
      rintro e w' ⟨rfl, rfl⟩
      rw [Hq.out]
      go_wp2_with fail
      refine (C7.out _ hS).mono ?_
      rintro e w' ⟨rfl, rfl⟩
      go_wp2_with fail
      go_ret
      exact ⟨rfl, hS⟩

end Go.Proofs.YtjancemacdffbaaDoor
