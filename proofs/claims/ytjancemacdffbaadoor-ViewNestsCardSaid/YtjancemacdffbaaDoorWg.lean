/- Walk of the law ViewEquals. -/
import Derived.Test.YtjancemacdffbaaDoorWf
namespace Go.Proofs.YtjancemacdffbaaDoor
open Go.RowKit

set_option maxHeartbeats 2000000 in
set_option maxRecDepth 100000 in
theorem vequals_law (n : Int) (oa : Option Addr) (olen ocap : Nat) (ps : List (Int × Int)) (level : Int) (a : Option Addr) (len cap : Nat) (xs : List Int) (aa : Option Addr) (alen acap : Nat) (A : List (List Int)) (ba : Option Addr) (blen bcap : Nat) (B : List (List Int))
    (ca : Option Addr) (clen ccap : Nat) (C : List (List Int)) (w : World)
    (hT : Tab w) (h0 : 0 < w.heap.size) (hol : ps.length = olen) (hop : PairsAt w oa ps) (hlen : xs.length = len) (hat : (Lay.int .i64).At 0 w a xs) (hcap : a = none → cap = 0)
    (hal : A.length = alen) (hA : RowsAt w aa A) (hAw : ∀ r ∈ A, ∀ v ∈ r, (Lit.int .u64 v).wf = true) (hbl : B.length = blen) (hB : RowsAt w ba B) (hBw : ∀ r ∈ B, ∀ v ∈ r, (Lit.int .u64 v).wf = true)
    (hcl : C.length = clen) (hC : RowsAt w ca C) (hCw : ∀ r ∈ C, ∀ v ∈ r, (Lit.int .u64 v).wf = true) :
    Calls Tryd.prog 12 #[.int .i64 n, .slice oa olen ocap, .int .i64 level, .slice a len cap, .slice aa alen acap, .slice ba blen bcap, .slice ca clen ccap] w fun e w' => e = .returned (.bool true) ∧ Below w.heap.size w w' := by
  have O0 := On.refl hT h0
  have HL := Lib.hid (lats_any n oa olen ocap ps w hT h0 hol hop)
  have HLEN := Lib.hid hlen
  have HAT := Lib.hid hat
  have HCAP := Lib.hid hcap
  have HAL := Lib.hid hal
  have HA := Lib.hid hA
  have HAW := Lib.hid hAw
  have HBL := Lib.hid hbl
  have HB := Lib.hid hB
  have HBW := Lib.hid hBw
  have HCL := Lib.hid hcl
  have HC := Lib.hid hC
  have HCW := Lib.hid hCw
  clear hT h0 hol hop hlen hat hcap hal hA hAw hbl hB hBw hcl hC hCw
  go_enter Tryd.func12, Tryd.ntmps12
  go_wp2_with fail
  refine (few_any oa a none olen len 0 ocap cap 0 _).mono ?_
  rintro e w' ⟨rfl, rfl⟩
  cases hf : fewB olen len 0 with
  | false =>
    go_wp2_with fail
    go_ret
    exact ⟨rfl, Below.refl _ _⟩
  | true =>
    obtain ⟨f1, f2, _⟩ := fewB_iff hf
    clear hf
    go_wp2_with fail
    refine (short_any aa alen acap A _ HAL.out HA.out).mono ?_
    rintro e w' ⟨rfl, rfl⟩
    cases hsA : shortB A with
    | false =>
      go_wp2_with fail
      go_ret
      exact ⟨rfl, Below.refl _ _⟩
    | true =>
      obtain ⟨la, hAo⟩ := shortB_ok hsA HAW.out
      have HAO := Lib.hid hAo
      rw [HAL.out] at la
      clear hsA hAo
      go_wp2_with fail
      refine (short_any ba blen bcap B _ HBL.out HB.out).mono ?_
      rintro e w' ⟨rfl, rfl⟩
      cases hsB : shortB B with
      | false =>
        go_wp2_with fail
        go_ret
        exact ⟨rfl, Below.refl _ _⟩
      | true =>
        obtain ⟨lb, hBo⟩ := shortB_ok hsB HBW.out
        have HBO := Lib.hid hBo
        rw [HBL.out] at lb
        clear hsB hBo
        go_wp2_with fail
        refine (short_any ca clen ccap C _ HCL.out HC.out).mono ?_
        rintro e w' ⟨rfl, rfl⟩
        cases hsC : shortB C with
        | false =>
          go_wp2_with fail
          go_ret
          exact ⟨rfl, Below.refl _ _⟩
        | true =>
          obtain ⟨lc, hCo⟩ := shortB_ok hsC HCW.out
          have HCO := Lib.hid hCo
          rw [HCL.out] at lc
          clear hsC hCo
          go_wp2_with fail
          refine HL.out.mono ?_
          rintro e w1 ⟨hb1, rfl | ⟨b, xb, N, up, dn, rfl, hN, hN32, hbs, hL1, hR1, hI⟩⟩
          · have O1 := O0.next hb1
            go_wp2_with fail
            refine (vawake_any _ O1.tab O1.pos).mono ?_
            rintro e w2 ⟨rfl, hb2⟩
            go_wp2_with fail
            go_ret
            exact ⟨rfl, (O1.next hb2).below⟩
          · have O1 := O0.next hb1
            have HL1 := Lib.hid hL1
            have HAT1 := Lib.hid (HAT.out.below hb1)
            have HA1 := Lib.hid (HA.out.below hb1)
            have HB1 := Lib.hid (HB.out.below hb1)
            have HC1 := Lib.hid (HC.out.below hb1)
            have HIN := Lib.hid (fun W (hW : Below w1.heap.size w1 W) => (⟨HL1.out.below hW hbs, HAT1.out.below hW, HA1.out.below hW, HB1.out.below hW, HC1.out.below hW⟩ : LatC W b N up dn ∧ (Lay.int .i64).At 0 W a xs ∧ RowsAt W aa A ∧ RowsAt W ba B ∧ RowsAt W ca C))
            have Hsym := Lib.hid (inR_symm (n := N) (up := up) (level := level) (xs := xs) (A := B) (B := A))
            have Hc1 := Lib.hid (inR_code (n := N) (up := up) (level := level) (xs := xs) (A := A) (B := A))
            have Hc2 := Lib.hid (inR_code (n := N) (up := up) (level := level) (xs := xs) (A := A) (B := B))
            have Hc3 := Lib.hid (inR_code (n := N) (up := up) (level := level) (xs := xs) (A := B) (B := C))
            have Hself := Lib.hid (fun h => inR_self (n := N) (up := up) (level := level) (xs := xs) (A := A) h)
            have Hac := Lib.hid (fun h h' => congrArg Prod.snd (inR_ok (n := N) (up := up) (level := level) (xs := xs) (A := A) (B := C) h h'))
            have Htr := Lib.hid (fun h1 h2 h3 => inR_trans (n := N) (up := up) (level := level) (xs := xs) (A := A) (B := B) (C := C) h1 h2 h3)
            clear HAT HA HB HC hR1 hL1 hI HL hN HL1 HAT1 HA1 HB1 HC1 hb1 O0
            go_wp2_with fail
            obtain ⟨i1, i2, i3, i4, i5⟩ := HIN.out w1 (Below.refl _ _)
            refine (inputs_any b N up dn level a len cap xs aa alen acap A aa alen acap A _ i1 HLEN.out i2 HCAP.out (by omega) HAL.out i3 HAO.out HAL.out i3 HAO.out).mono ?_
            clear i1 i2 i3 i4 i5
            rintro e w2 ⟨rfl, hb2⟩
            have O2 := O1.next hb2
            obtain ⟨i1, i2, i3, i4, i5⟩ := HIN.out w2 hb2
            have HI2 := Lib.hid (show _ ∧ _ ∧ _ ∧ _ from ⟨i1, i2, i3, i4⟩)
            clear i1 i2 i3 i4 i5
            go_wp2_with fail
            refine (inputs_any b N up dn level a len cap xs aa alen acap A ba blen bcap B _ HI2.out.1 HLEN.out HI2.out.2.1 HCAP.out (by omega) HAL.out HI2.out.2.2.1 HAO.out HBL.out HI2.out.2.2.2 HBO.out).mono ?_
            rintro e w3 ⟨rfl, hb3'⟩
            have hb3 := hb2.trans (hb3'.mono hb2.size)
            have O3 := O2.next hb3'
            have HI3 := Lib.hid (HIN.out w3 hb3)
            clear HI2 hb3' hb2 O2
            go_wp2_with fail
            refine (inputs_any b N up dn level a len cap xs ba blen bcap B aa alen acap A _ HI3.out.1 HLEN.out HI3.out.2.1 HCAP.out (by omega) HBL.out HI3.out.2.2.2.1 HBO.out HAL.out HI3.out.2.2.1 HAO.out).mono ?_
            rintro e w4 ⟨rfl, hb4'⟩
            have hb4 := hb3.trans (hb4'.mono hb3.size)
            have O4 := O3.next hb4'
            have HI4 := Lib.hid (HIN.out w4 hb4)
            rw [Hsym.out]
            clear HI3 hb4' hb3 O3
            go_wp2_with fail
            refine (inputs_any b N up dn level a len cap xs ba blen bcap B ca clen ccap C _ HI4.out.1 HLEN.out HI4.out.2.1 HCAP.out (by omega) HBL.out HI4.out.2.2.2.1 HBO.out HCL.out HI4.out.2.2.2.2 HCO.out).mono ?_
            rintro e w5 ⟨rfl, hb5'⟩
            have hb5 := hb4.trans (hb5'.mono hb4.size)
            have O5 := O4.next hb5'
            have HI5 := Lib.hid (HIN.out w5 hb5)
            clear HI4 hb5' hb4 O4
            go_wp2_with fail
            refine (inputs_any b N up dn level a len cap xs aa alen acap A ca clen ccap C _ HI5.out.1 HLEN.out HI5.out.2.1 HCAP.out (by omega) HAL.out HI5.out.2.2.1 HAO.out HCL.out HI5.out.2.2.2.2 HCO.out).mono ?_
            rintro e w6 ⟨rfl, hb6'⟩
            have O6 := O5.next hb6'
            clear HI5 hb6' hb5 O5 HIN Hsym O1
            have HP : Hid (((inR N up level xs A A).2 = 0 ∧ (inR N up level xs A B).2 = 0 ∧ (inR N up level xs B C).2 = 0 ∧ (inR N up level xs A A).1 = true ∧ (inR N up level xs A C).2 = 0 ∧ ((inR N up level xs A B).1 = true → (inR N up level xs B C).1 = true → (inR N up level xs A C).1 = true)) ∨
                ((inR N up level xs A A).2 = 3 ∨ ((inR N up level xs A A).2 = 0 ∧ (inR N up level xs A B).2 = 3) ∨ ((inR N up level xs A A).2 = 0 ∧ (inR N up level xs A B).2 = 0 ∧ (inR N up level xs B C).2 = 3))) := by
              rcases Hc1.out with ⟨e1, k1, _⟩ | e1
              · rcases Hc2.out with ⟨e2, k2, k3⟩ | e2
                · rcases Hc3.out with ⟨e3, k4, k5⟩ | e3
                  · exact Or.inl ⟨e1, e2, e3, by rw [Hself.out k1], Hac.out k1 k5, Htr.out k1 k3 k5⟩
                  · exact Or.inr (Or.inr (Or.inr ⟨e1, e2, e3⟩))
                · exact Or.inr (Or.inr (Or.inl ⟨e1, e2⟩))
              · exact Or.inr (Or.inl e1)
            clear Hc1 Hc2 Hc3 Hself Hac Htr
            generalize inR N up level xs A A = r1 at *
            generalize inR N up level xs A B = r2 at *
            generalize inR N up level xs B C = r3 at *
            generalize inR N up level xs A C = r4 at *
            obtain ⟨p1, q1⟩ := r1
            obtain ⟨p2, q2⟩ := r2
            obtain ⟨p3, q3⟩ := r3
            obtain ⟨p4, q4⟩ := r4
            simp only at *
            rcases HP.out with ⟨rfl, rfl, rfl, rfl, rfl, ht⟩ | rfl | ⟨rfl, rfl⟩ | ⟨rfl, rfl, rfl⟩
            · clear HP
              cases p2 with
              | false =>
                go_wp2_with fail
                refine (vawake_any _ O6.tab O6.pos).mono ?_
                rintro e w7 ⟨rfl, hb7⟩
                go_wp2_with fail
                go_ret
                exact ⟨rfl, (O6.next hb7).below⟩
              | true =>
                cases p3 with
                | false =>
                  go_wp2_with fail
                  refine (vawake_any _ O6.tab O6.pos).mono ?_
                  rintro e w7 ⟨rfl, hb7⟩
                  go_wp2_with fail
                  go_ret
                  exact ⟨rfl, (O6.next hb7).below⟩
                | true =>
                  have ht' := ht rfl rfl
                  subst ht'
                  clear ht
                  go_wp2_with fail
                  refine (vawake_any _ O6.tab O6.pos).mono ?_
                  rintro e w7 ⟨rfl, hb7⟩
                  go_wp2_with fail
                  go_ret
                  exact ⟨rfl, (O6.next hb7).below⟩
            all_goals
              clear HP
              (try (have e2 : (q2 == q2) = true := by simp))
              go_wp2_with fail
              refine (vawake_any _ O6.tab O6.pos).mono ?_
              rintro e w7 ⟨rfl, hb7⟩
              go_wp2_with fail
              go_ret
              exact ⟨rfl, (O6.next hb7).below⟩

end Go.Proofs.YtjancemacdffbaaDoor
