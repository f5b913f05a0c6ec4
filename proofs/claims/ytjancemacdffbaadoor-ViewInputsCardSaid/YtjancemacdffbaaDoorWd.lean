/- Walk of the law ViewEvents. -/
import Derived.Test.YtjancemacdffbaaDoorWc
namespace Go.Proofs.YtjancemacdffbaaDoor
open Go.RowKit

theorem fewB_iff {a b c : Nat} (h : fewB a b c = true) : a ≤ 30 ∧ b ≤ 40 ∧ c ≤ 30 := by
  simp [fewB] at h; omega
theorem evR_len (n : Nat) (up : Nat → Nat) (level : Int) (xs : List Int) (es : List (Int × Int)) : (evR n up level xs es).2.length ≤ es.length := by
  unfold evR
  split
  · exact List.length_filter_le _ _
  · simp

set_option maxHeartbeats 1000000 in
theorem vevents_law (n : Int) (oa : Option Addr) (olen ocap : Nat) (ps : List (Int × Int)) (level : Int) (a : Option Addr) (len cap : Nat) (xs : List Int) (ea : Option Addr) (elen ecap : Nat) (es : List (Int × Int)) (w : World)
    (hT : Tab w) (h0 : 0 < w.heap.size) (hol : ps.length = olen) (hop : PairsAt w oa ps) (hlen : xs.length = len) (hat : (Lay.int .i64).At 0 w a xs) (hcap : a = none → cap = 0) (hel : es.length = elen) (hea : Lay.ev.At (0, 0) w ea es) :
    Calls Tryd.prog 9 #[.int .i64 n, .slice oa olen ocap, .int .i64 level, .slice a len cap, .slice ea elen ecap] w fun e w' => e = .returned (.bool true) ∧ Below w.heap.size w w' := by
  have O0 := On.refl hT h0
  have HL := Lib.hid (lats_any n oa olen ocap ps w hT h0 hol hop)
  have HLEN := Lib.hid hlen
  have HAT := Lib.hid hat
  have HCAP := Lib.hid hcap
  have HEL := Lib.hid hel
  have HEA := Lib.hid hea
  clear hT h0 hol hop hlen hat hcap hel hea
  go_enter Tryd.func9, Tryd.ntmps9
  go_wp2_with fail
  refine (few_any oa a ea olen len elen ocap cap ecap _).mono ?_
  rintro e w' ⟨rfl, rfl⟩
  cases hf : fewB olen len elen with
  | false =>
    go_wp2_with fail
    go_ret
    exact ⟨rfl, Below.refl _ _⟩
  | true =>
    obtain ⟨f1, f2, f3⟩ := fewB_iff hf
    clear hf
    by_cases hn40 : 40 < n
    all_goals
      (try (have hn32 : ¬ n ≤ 32 := by omega))
      (try (have hn40' : decide (40 < n) = false := by simp; omega))
      go_wp2_with fail
      refine HL.out.mono ?_
      rintro e w1 ⟨hb1, rfl | ⟨b, xb, N, up, dn, rfl, hN, hN32, hbs, hL1, hR1, hI⟩⟩
      · have O1 := O0.next hb1
        go_wp2_with fail
        refine (vawake_any _ O1.tab O1.pos).mono ?_
        rintro e w2 ⟨rfl, hb2⟩
        go_wp2_with fail
        go_ret
        exact ⟨rfl, (O1.next hb2).below⟩
      · have O1 := O0.next hb1
        have HAT1 := Lib.hid (HAT.out.below hb1)
        have HEA1 := Lib.hid (HEA.out.below hb1)
        have HR1 := Lib.hid hR1
        have HL1 := Lib.hid hL1
        have hel2 := evR_len N up level xs es
        rw [HEL.out] at hel2
        clear HAT HEA hR1 hL1 hI hb1 HL hN
        go_wp2_with fail
        refine (events_any b N up dn level a len cap xs ea elen ecap es _ HL1.out HLEN.out HAT1.out HCAP.out (by omega) HEL.out HEA1.out (by omega)).mono ?_
        rintro e w2 ⟨v2, rfl, ho2, hb2⟩
        obtain ⟨a2, c2, rfl, hat2, hl2, hc2⟩ := ho2.at_ (d := (0, 0))
        have O2 := O1.next hb2
        have HAT2 := Lib.hid (HAT1.out.below hb2)
        have HEA2 := Lib.hid (HEA1.out.below hb2)
        have HR2 := Lib.hid (HR1.out.below hb2)
        have HX2 := Lib.hid hat2
        clear HAT1 HEA1 HR1 HL1 hb2 ho2 hat2 hl2 hc2 O1
        go_wp2_with fail
        refine (revents_any xb N up level a len cap xs ea elen ecap es _ HR2.out HLEN.out HAT2.out (by omega) HEL.out HEA2.out (by omega)).mono ?_
        rintro e w3 ⟨v3, rfl, ho3, hb3⟩
        obtain ⟨a3, c3, rfl, hat3, hl3, hc3⟩ := ho3.at_ (d := (0, 0))
        have O3 := O2.next hb3
        have HX3 := Lib.hid (HX2.out.below hb3)
        have HY3 := Lib.hid hat3
        clear HAT2 HEA2 HR2 HX2 hb3 ho3 hat3 hl3 hc3 O2
        generalize evR N up level xs es = r at *
        obtain ⟨c, l⟩ := r
        simp only at *
        have Hee := Lib.hid (eqB_self l)
        go_wp2_with fail
        refine (equalE_any a2 a3 _ _ c2 c3 l l _ rfl rfl HX3.out HY3.out (by omega)).mono ?_
        rintro e w4 ⟨rfl, hS4⟩
        rw [Hee.out]
        have O4 := O3.same hS4
        clear O3 hS4 HX3 HY3
        have hcc : (c == c) = true := by simp
        go_wp2_with fail
        refine (vawake_any _ O4.tab O4.pos).mono ?_
        rintro e w5 ⟨rfl, hb5⟩
        go_wp2_with fail
        go_ret
        exact ⟨rfl, (O4.next hb5).below⟩

end Go.Proofs.YtjancemacdffbaaDoor
