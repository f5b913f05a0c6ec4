/- The plain laws and the walk of the law ViewNests. -/
import Derived.Test.YtjancemacdffbaaDoorWg
namespace Go.Proofs.YtjancemacdffbaaDoor
open Go.RowKit

section
variable {n : Nat} {up dn : Nat → Nat} {ps : List (Int × Int)} {xs : List Int}
theorem leB_is {x y : Int} (h : leB n up x y = true) : isB n x = true ∧ isB n y = true := by
  unfold leB at h; rw [Bool.and_eq_true, Bool.and_eq_true] at h; exact h.1
theorem leB_trans (hI : IsLat n ps up dn) {x y z : Int} (h1 : leB n up x y = true) (h2 : leB n up y z = true) : leB n up x z = true := by
  obtain ⟨i, rfl, hi⟩ := isB_nat (leB_is h1).1
  obtain ⟨j, rfl, hj⟩ := isB_nat (leB_is h1).2
  obtain ⟨k, rfl, hk⟩ := isB_nat (leB_is h2).2
  exact le_trans hI hi hj hk h1 h2
theorem mayB_eq {lo hi : Int} (h : leB n up lo hi = true) : mayB n lo xs = mayB n hi xs := by
  unfold mayB; rw [List.all_cons, List.all_cons, (leB_is h).1, (leB_is h).2]
theorem evR_code {lo hi : Int} (h : leB n up lo hi = true) (es : List (Int × Int)) : (evR n up lo xs es).1 = (evR n up hi xs es).1 := by
  unfold evR; rw [mayB_eq h]; split <;> rfl
theorem evR_cases (level : Int) (es : List (Int × Int)) : ((evR n up level xs es) = (0, seen n up level xs es) ∧ (mayB n level xs && es.all (inB xs.length)) = true) ∨ (evR n up level xs es).1 = 3 := by
  unfold evR
  split
  · rename_i h; exact Or.inl ⟨rfl, h⟩
  · exact Or.inr rfl
theorem seen_seen (hI : IsLat n ps up dn) {lo hi : Int} (h : leB n up lo hi = true) (es : List (Int × Int)) : seen n up lo xs (seen n up hi xs es) = seen n up lo xs es := by
  unfold seen
  rw [List.filter_filter]
  apply List.filter_congr
  intro p _
  cases e : leB n up (xs.getD p.1.toNat 0) lo with
  | false => rfl
  | true => rw [leB_trans hI e h]; rfl
/-- the view of a view -/
theorem nests (hI : IsLat n ps up dn) {lo hi : Int} (h : leB n up lo hi = true) (es : List (Int × Int)) (h0 : (evR n up lo xs es).1 = 0) :
    evR n up lo xs (evR n up hi xs es).2 = evR n up lo xs es ∧ (evR n up lo xs es).2.length ≤ (evR n up hi xs es).2.length := by
  rcases evR_cases (n := n) (up := up) (xs := xs) lo es with ⟨e1, k1⟩ | e1
  · have k2 : (mayB n hi xs && es.all (inB xs.length)) = true := by rw [← mayB_eq (xs := xs) h]; exact k1
    have e2 : evR n up hi xs es = (0, seen n up hi xs es) := by unfold evR; rw [if_pos k2]
    rw [e2, e1]
    rw [Bool.and_eq_true] at k1
    have k3 : (mayB n lo xs && (seen n up hi xs es).all (inB xs.length)) = true := by
      rw [k1.1, Bool.true_and, List.all_eq_true]
      intro p hp
      exact List.all_eq_true.1 k1.2 p (List.mem_filter.1 hp).1
    refine ⟨?_, ?_⟩
    · unfold evR
      rw [if_pos k3, seen_seen hI h]
    · show (seen n up lo xs es).length ≤ (seen n up hi xs es).length
      rw [← seen_seen hI h es]
      exact List.length_filter_le _ _
  · rw [h0] at e1; cases e1
theorem inOk_eq {lo hi : Int} (h : leB n up lo hi = true) (A : List (List Int)) : inOk n lo xs A = inOk n hi xs A := by
  unfold inOk; rw [mayB_eq h]
/-- what agrees for the greater level agrees for the smaller one -/
theorem inR_nests (hI : IsLat n ps up dn) {lo hi : Int} (h : leB n up lo hi = true) (A B : List (List Int)) : (inR n up lo xs A B).2 = (inR n up hi xs A B).2 ∧ ((inR n up hi xs A B).1 = true → (inR n up lo xs A B).1 = true) := by
  rw [inR_eq, inR_eq, inOk_eq h, inOk_eq h]
  split
  · refine ⟨rfl, fun hh => ?_⟩
    rw [List.all_eq_true] at hh ⊢
    intro c hc
    have := hh c hc
    unfold chanOk at this ⊢
    cases e : leB n up (xs.getD c 0) lo with
    | false => rfl
    | true =>
      rw [leB_trans hI e h] at this
      simpa using this
  · exact ⟨rfl, fun hh => by cases hh⟩
end

set_option maxHeartbeats 2000000 in
set_option maxRecDepth 100000 in
theorem vnests_law (n : Int) (oa : Option Addr) (olen ocap : Nat) (ps : List (Int × Int)) (lo hi : Int) (a : Option Addr) (len cap : Nat) (xs : List Int) (ea : Option Addr) (elen ecap : Nat) (es : List (Int × Int)) (aa : Option Addr) (alen acap : Nat) (A : List (List Int)) (ba : Option Addr) (blen bcap : Nat) (B : List (List Int)) (w : World)
    (hT : Tab w) (h0 : 0 < w.heap.size) (hol : ps.length = olen) (hop : PairsAt w oa ps) (hlen : xs.length = len) (hat : (Lay.int .i64).At 0 w a xs) (hcap : a = none → cap = 0) (hel : es.length = elen) (hea : Lay.ev.At (0, 0) w ea es)
    (hal : A.length = alen) (hA : RowsAt w aa A) (hAw : ∀ r ∈ A, ∀ v ∈ r, (Lit.int .u64 v).wf = true) (hbl : B.length = blen) (hB : RowsAt w ba B) (hBw : ∀ r ∈ B, ∀ v ∈ r, (Lit.int .u64 v).wf = true) :
    Calls Tryd.prog 11 #[.int .i64 n, .slice oa olen ocap, .int .i64 lo, .int .i64 hi, .slice a len cap, .slice ea elen ecap, .slice aa alen acap, .slice ba blen bcap] w fun e w' => e = .returned (.bool true) ∧ Below w.heap.size w w' := by
  have O0 := On.refl hT h0
  have HL := Lib.hid (lats_any n oa olen ocap ps w hT h0 hol hop)
  have HLEN := Lib.hid hlen
  have HAT := Lib.hid hat
  have HCAP := Lib.hid hcap
  have HEL := Lib.hid hel
  have HEA := Lib.hid hea
  have HAL := Lib.hid hal
  have HA := Lib.hid hA
  have HAW := Lib.hid hAw
  have HBL := Lib.hid hbl
  have HB := Lib.hid hB
  have HBW := Lib.hid hBw
  clear hT h0 hol hop hlen hat hcap hal hA hAw hbl hB hBw hel hea
  go_enter Tryd.func11, Tryd.ntmps11
  go_wp2_with fail
  refine (few_any oa a ea olen len elen ocap cap ecap _).mono ?_
  rintro e w' ⟨rfl, rfl⟩
  cases hf : fewB olen len elen with
  | false =>
    go_wp2_with fail
    go_ret
    exact ⟨rfl, Below.refl _ _⟩
  | true =>
    obtain ⟨f1, f2, f3⟩ := fewB_iff hf
    clear hf
    by_cases hl20 : (20 : Int) < len
    · go_wp2_with fail
      go_ret
      exact ⟨rfl, Below.refl _ _⟩
    · have hl20' : decide ((20 : Int) < len) = false := by simpa using hl20
      go_wp2_with fail
      refine (short_any aa alen acap A _ HAL.out HA.out).mono ?_
      rintro e w' ⟨rfl, rfl⟩
      cases hsA : shortB A with
      | false =>
        go_wp2_with fail
        go_ret
        exact ⟨rfl, Below.refl _ _⟩
      | true =>
        obtain ⟨la, hAo⟩ := shortB_ok hsA HAW.out
        have HAO := Lib.hid hAo
        rw [HAL.out] at la
        clear hsA hAo
        go_wp2_with fail
        refine (short_any ba blen bcap B _ HBL.out HB.out).mono ?_
        rintro e w' ⟨rfl, rfl⟩
        cases hsB : shortB B with
        | false =>
          go_wp2_with fail
          go_ret
          exact ⟨rfl, Below.refl _ _⟩
        | true =>
          obtain ⟨lb, hBo⟩ := shortB_ok hsB HBW.out
          have HBO := Lib.hid hBo
          rw [HBL.out] at lb
          clear hsB hBo
          go_wp2_with fail
          refine HL.out.mono ?_
          rintro e w1 ⟨hb1, rfl | ⟨b, xb, N, up, dn, rfl, hN, hN32, hbs, hL1, hR1, hI⟩⟩
          · have O1 := O0.next hb1
            go_wp2_with fail
            refine (vawake_any _ O1.tab O1.pos).mono ?_
            rintro e w2 ⟨rfl, hb2⟩
            go_wp2_with fail
            go_ret
            exact ⟨rfl, (O1.next hb2).below⟩
          · have O1 := O0.next hb1
            have HL1 := Lib.hid hL1
            have HAT1 := Lib.hid (HAT.out.below hb1)
            have HEA1 := Lib.hid (HEA.out.below hb1)
            have HA1 := Lib.hid (HA.out.below hb1)
            have HB1 := Lib.hid (HB.out.below hb1)
            have HIN := Lib.hid (fun W (hW : Below w1.heap.size w1 W) => (⟨HL1.out.below hW hbs, HAT1.out.below hW, HEA1.out.below hW, HA1.out.below hW, HB1.out.below hW⟩ : LatC W b N up dn ∧ (Lay.int .i64).At 0 W a xs ∧ Lay.ev.At (0, 0) W ea es ∧ RowsAt W aa A ∧ RowsAt W ba B))
            have HI := Lib.hid hI
            clear HAT HEA HA HB hR1 hL1 hI HL hN HAT1 HEA1 HA1 HB1 hb1 O0
            go_wp2_with fail
            refine (le_any b N up dn lo hi _ HL1.out).mono ?_
            rintro e w' ⟨rfl, rfl⟩
            cases hle : leB N up lo hi with
            | false =>
              go_wp2_with fail
              refine (vawake_any _ O1.tab O1.pos).mono ?_
              rintro e w2 ⟨rfl, hb2⟩
              go_wp2_with fail
              go_ret
              exact ⟨rfl, (O1.next hb2).below⟩
            | true =>
              have Hcode := Lib.hid (evR_code (xs := xs) hle es)
              have Hn := Lib.hid (nests (xs := xs) HI.out hle es)
              have Hin := Lib.hid (inR_nests (xs := xs) HI.out hle A B)
              have Hlx := evR_len N up lo xs es
              have Hly := evR_len N up hi xs es
              rw [HEL.out] at Hlx Hly
              have Hcase := Lib.hid (evR_cases (n := N) (up := up) (xs := xs) lo es)
              clear hle HI HL1
              have HI1 := Lib.hid (HIN.out w1 (Below.refl _ _))
              go_wp2_with fail
              refine (events_any b N up dn lo a len cap xs ea elen ecap es _ HI1.out.1 HLEN.out HI1.out.2.1 HCAP.out (by omega) HEL.out HI1.out.2.2.1 (by omega)).mono ?_
              rintro e w2 ⟨v2, rfl, ho2, hb2⟩
              obtain ⟨a2, c2, rfl, hat2, hl2, hc2⟩ := ho2.at_ (d := (0, 0))
              have O2 := O1.next hb2
              have HX2 := Lib.hid hat2
              have HI2 := Lib.hid (HIN.out w2 hb2)
              clear ho2 hat2 hl2 hc2 HI1 O1
              go_wp2_with fail
              refine (events_any b N up dn hi a len cap xs ea elen ecap es _ HI2.out.1 HLEN.out HI2.out.2.1 HCAP.out (by omega) HEL.out HI2.out.2.2.1 (by omega)).mono ?_
              rintro e w3 ⟨v3, rfl, ho3, hb3'⟩
              obtain ⟨a3, c3, rfl, hat3, hl3, hc3⟩ := ho3.at_ (d := (0, 0))
              have O3 := O2.next hb3'
              have hb3 := hb2.trans (hb3'.mono hb2.size)
              have HX3 := Lib.hid (HX2.out.below hb3')
              have HY3 := Lib.hid hat3
              have HI3 := Lib.hid (HIN.out w3 hb3)
              clear ho3 hat3 hl3 hc3 HI2 HX2 hb3' hb2 O2
              rw [← Hcode.out]
              clear Hcode
              rcases Hcase.out with ⟨hx, _⟩ | hx
              · have hx1 : (evR N up lo xs es).1 = 0 := by rw [hx]
                obtain ⟨hn1, hn2⟩ := Hn.out hx1
                have HE3 := events_any b N up dn lo a len cap xs a3 _ c3 (evR N up hi xs es).2 w3 HI3.out.1 HLEN.out HI3.out.2.1 HCAP.out (by omega) rfl HY3.out (by omega)
                rw [hn1] at HE3
                have HE3' := Lib.hid HE3
                rw [hx1]
                have Hx1 := Lib.hid hx1
                clear hx hx1 hn1 HE3 Hn Hcase
                go_wp2_with fail
                refine HE3'.out.mono ?_
                rintro e w4 ⟨v4, rfl, ho4, hb4'⟩
                obtain ⟨a4, c4, rfl, hat4, hl4, hc4⟩ := ho4.at_ (d := (0, 0))
                have O4 := O3.next hb4'
                have hb4 := hb3.trans (hb4'.mono hb3.size)
                have HX4 := Lib.hid (HX3.out.below hb4')
                have HZ4 := Lib.hid hat4
                rw [Hx1.out]
                clear ho4 hat4 hl4 hc4 HX3 hb4' O3 hb3 HE3' HY3 HI3
                generalize (evR N up lo xs es).2 = xl at *
                generalize (evR N up hi xs es).2 = yl at *
                clear Hx1
                have hgt : decide (yl.length < xl.length) = false := by simp; omega
                have hgt2 : decide ((yl.length : Int) < xl.length) = false := by simp; omega
                have Hee := Lib.hid (eqB_self xl)
                go_wp2_with fail
                refine (equalE_any a4 a2 _ _ c4 c2 xl xl _ rfl rfl HZ4.out HX4.out (by omega)).mono ?_
                rintro e w5 ⟨rfl, hS5⟩
                rw [Hee.out]
                have OO := O4.same hS5
                have HBB := Lib.hid (hb4.trans (hS5.below _))
                clear hb4 hS5 O4 HX4 HZ4 Hee
                obtain ⟨WW, rfl⟩ : ∃ WW : World, WW = w5 := ⟨_, rfl⟩
                have HIx := Lib.hid (HIN.out WW HBB.out)
                go_wp2_with fail
                refine (inputs_any b N up dn hi a len cap xs aa alen acap A ba blen bcap B _ HIx.out.1 HLEN.out HIx.out.2.1 HCAP.out (by omega) HAL.out HIx.out.2.2.2.1 HAO.out HBL.out HIx.out.2.2.2.2 HBO.out).mono ?_
                rintro e w6 ⟨rfl, hb6'⟩
                have O6 := OO.next hb6'
                have hb6 := HBB.out.trans (hb6'.mono HBB.out.size)
                have HI6 := Lib.hid (HIN.out w6 hb6)
                clear hb6' HIx
                go_wp2_with fail
                refine (inputs_any b N up dn lo a len cap xs aa alen acap A ba blen bcap B _ HI6.out.1 HLEN.out HI6.out.2.1 HCAP.out (by omega) HAL.out HI6.out.2.2.2.1 HAO.out HBL.out HI6.out.2.2.2.2 HBO.out).mono ?_
                rintro e w7 ⟨rfl, hb7'⟩
                have O7 := O6.next hb7'
                rw [Hin.out.1]
                have Hinn := Lib.hid Hin.out.2
                clear hb7' HI6 hb6 O6 Hin
                generalize inR N up lo xs A B = r1 at *
                generalize inR N up hi xs A B = r2 at *
                obtain ⟨p1, q1⟩ := r1
                obtain ⟨p2, q2⟩ := r2
                simp only at *
                have hqq : (q2 == q2) = true := by simp
                cases p2 with
                | false =>
                  go_wp2_with fail
                  refine (vawake_any _ O7.tab O7.pos).mono ?_
                  rintro e w8 ⟨rfl, hb8⟩
                  go_wp2_with fail
                  go_ret
                  exact ⟨rfl, (O7.next hb8).below⟩
                | true =>
                  have hp1 := Hinn.out rfl
                  subst hp1
                  go_wp2_with fail
                  refine (vawake_any _ O7.tab O7.pos).mono ?_
                  rintro e w8 ⟨rfl, hb8⟩
                  go_wp2_with fail
                  go_ret
                  exact ⟨rfl, (O7.next hb8).below⟩
              · have HBB := Lib.hid hb3
                have OO := O3
                rw [hx]
                clear Hn Hcase hx HX3 HY3 HI3 hb3 O3
                generalize (evR N up lo xs es).2 = xl at *
                generalize (evR N up hi xs es).2 = yl at *
                obtain ⟨WW, rfl⟩ : ∃ WW : World, WW = w3 := ⟨_, rfl⟩
                have HIx := Lib.hid (HIN.out WW HBB.out)
                go_wp2_with fail
                refine (inputs_any b N up dn hi a len cap xs aa alen acap A ba blen bcap B _ HIx.out.1 HLEN.out HIx.out.2.1 HCAP.out (by omega) HAL.out HIx.out.2.2.2.1 HAO.out HBL.out HIx.out.2.2.2.2 HBO.out).mono ?_
                rintro e w6 ⟨rfl, hb6'⟩
                have O6 := OO.next hb6'
                have hb6 := HBB.out.trans (hb6'.mono HBB.out.size)
                have HI6 := Lib.hid (HIN.out w6 hb6)
                clear hb6' HIx
                go_wp2_with fail
                refine (inputs_any b N up dn lo a len cap xs aa alen acap A ba blen bcap B _ HI6.out.1 HLEN.out HI6.out.2.1 HCAP.out (by omega) HAL.out HI6.out.2.2.2.1 HAO.out HBL.out HI6.out.2.2.2.2 HBO.out).mono ?_
                rintro e w7 ⟨rfl, hb7'⟩
                have O7 := O6.next hb7'
                rw [Hin.out.1]
                have Hinn := Lib.hid Hin.out.2
                clear hb7' HI6 hb6 O6 Hin
                generalize inR N up lo xs A B = r1 at *
                generalize inR N up hi xs A B = r2 at *
                obtain ⟨p1, q1⟩ := r1
                obtain ⟨p2, q2⟩ := r2
                simp only at *
                have hqq : (q2 == q2) = true := by simp
                cases p2 with
                | false =>
                  go_wp2_with fail
                  refine (vawake_any _ O7.tab O7.pos).mono ?_
                  rintro e w8 ⟨rfl, hb8⟩
                  go_wp2_with fail
                  go_ret
                  exact ⟨rfl, (O7.next hb8).below⟩
                | true =>
                  have hp1 := Hinn.out rfl
                  subst hp1
                  go_wp2_with fail
                  refine (vawake_any _ O7.tab O7.pos).mono ?_
                  rintro e w8 ⟨rfl, hb8⟩
                  go_wp2_with fail
                  go_ret
                  exact ⟨rfl, (O7.next hb8).below⟩

end Go.Proofs.YtjancemacdffbaaDoor
