/- Walk of the law LatticeOrder. -/
import Derived.Test.YtjancemacdffbaaDoorLw11
import Derived.Test.YtjancemacdffbaaDoorPl6
namespace Go.Proofs.YtjancemacdffbaaDoor
open Go.RowKit

set_option maxHeartbeats 4000000 in
set_option maxRecDepth 100000 in
theorem order_any (k : Nat) (n : Int) (a : Option Addr) (len cap : Nat) (ord : List (Int × Int)) (xa xb xc : Int) (w : World) (hT : Tab w) (h0 : 0 < w.heap.size) (hp : PairsAt w a ord) (hlen : ord.length = len) (hk : k < 256) (hlm : len ≤ 9223372036854775807) :
    Calls Tryd.prog 3 #[.int .u8 k, .int .i64 n, .slice a len cap, .int .i64 xa, .int .i64 xb, .int .i64 xc] w fun e w' => e = .returned (.bool true) ∧ Below w.heap.size w w' := by
  have O0 := On.refl hT h0
  have Hmade := Lib.hid (made_any k n a len cap ord w hT h0 hp hlen hk hlm)
  clear hT h0 hp hlen
  go_enter Tryd.func3, Tryd.ntmps3
  go_wp2_with fail
  refine Hmade.out.mono ?_
  rintro e w1 ⟨hb1, rfl | ⟨b, N, a1, cap1, ps, up, dn, rfl, hN1, hN2, hl, hbs, hL, hI, hP, hok⟩⟩
  · have O1 := O0.of hb1
    clear hb1 O0
    go_wp2_with fail
    refine (awake_any _ O1.tab O1.pos).mono ?_
    rintro e w2 ⟨rfl, hb2⟩
    go_wp2_with fail
    go_ret
    exact ⟨rfl, (O1.next hb2).below⟩
  · have O1 := O0.of hb1
    have HI := Lib.hid hI
    have HL := Lib.hid hL
    have HP := Lib.hid hP
    have HOK := Lib.hid hok
    clear hb1 O0 hI hL hP hok Hmade
    go_wp2_with fail
    refine (mod_any xa N _ (by omega) (by omega)).mono ?_
    rintro e w' ⟨rfl, rfl⟩
    have hx1 : 0 ≤ xa % N := Int.emod_nonneg _ (by omega)
    have hx2 : xa % N < N := Int.emod_lt_of_pos _ (by omega)
    generalize xa % (N : Int) = A at *
    obtain ⟨A, rfl⟩ := Int.eq_ofNat_of_zero_le hx1
    go_wp2_with fail
    refine (mod_any xb N _ (by omega) (by omega)).mono ?_
    rintro e w' ⟨rfl, rfl⟩
    have hy1 : 0 ≤ xb % N := Int.emod_nonneg _ (by omega)
    have hy2 : xb % N < N := Int.emod_lt_of_pos _ (by omega)
    generalize xb % (N : Int) = B at *
    obtain ⟨B, rfl⟩ := Int.eq_ofNat_of_zero_le hy1
    go_wp2_with fail
    refine (mod_any xc N _ (by omega) (by omega)).mono ?_
    rintro e w' ⟨rfl, rfl⟩
    have hz1 : 0 ≤ xc % N := Int.emod_nonneg _ (by omega)
    have hz2 : xc % N < N := Int.emod_lt_of_pos _ (by omega)
    generalize xc % (N : Int) = C at *
    obtain ⟨C, rfl⟩ := Int.eq_ofNat_of_zero_le hz1
    have hA : A < N := by omega
    have hB : B < N := by omega
    have hC : C < N := by omega
    clear hx1 hx2 hy1 hy2 hz1 hz2
    go_wp2_with fail
    go_loopw [15] (fun i wr => ∃ j : Nat, j ≤ ps.length ∧ i = .int .i64 j ∧ Same w1 wr) (fun i _ => ps.length - (intOf i).toNat)
    case atStart => exact ⟨0, by omega, rfl, Same.refl _⟩
    case round =>
      obtain ⟨j, hj, rfl, hS⟩ := hrel
      by_cases hlt : j < ps.length
      · obtain ⟨pb, po, rfl, hpb, hp0, hp1⟩ := HP.out j hlt
        have hp0' := (hS.cell ⟨pb, po + j * 2, none⟩).trans hp0
        have hp1' := (hS.cell ⟨pb, po + j * 2 + 1, none⟩).trans hp1
        have hlt2 : (j : Int) < ps.length := by omega
        have hle : leB N up (ps.getD j (0, 0)).1 (ps.getD j (0, 0)).2 = true := by
          have hm : ps.getD j (0, 0) ∈ ps := by rw [List.getD_eq_getElem?_getD, List.getElem?_eq_getElem hlt]; exact List.getElem_mem hlt
          exact le_pair HI.out hm (HOK.out _ hm)
        clear hp0 hp1
        generalize ps.getD j (0, 0) = pq at *
        obtain ⟨X, Y⟩ := pq
        simp only at hp0' hp1' hle
        have hcall := Lib.hid (fun q => (le_any b N up dn X Y (wr.drewN q) (HL.out.same (hS.drewN q))).mono fun _ _ h => (show _ ∧ ∃ m, _ = wr.drewN m from ⟨h.1, q, h.2.symm⟩))
        rw [hle] at hcall
        clear hle
        go_wp2_with fail
        go_quiet ((go_at_call 19; exact hcall.out _))
        go_wp2_with fail
        go_roundw
        case rel => exact ⟨j + 1, by omega, by go_num, hS.drewN _⟩
        case measure => simp [intOf]; omega
      · have O2 := O1.same hS
        have HL2 := Lib.hid (HL.out.same hS)
        clear hS HL O1 HP HOK
        have haa := le_refl HI.out hA
        have htr := Lib.hid (le_trans HI.out hA hB hC)
        have hant := Lib.hid (le_anti HI.out hA hB)
        go_upto_region 10 with (fail)
        go_cut [99] (fun s wx => s = .bool false ∧ wr = wx)
        case first =>
          as_aux_lemma =>
            cases hab : leB N up A B with
            | false =>
              by_cases hne : A = B
              · subst hne; rw [haa] at hab; cases hab
              · have hne2 : ((A : Int) != B) = true := by rw [bne_iff_ne]; omega
                clear htr hant
                go_wp2_with fail
                repeat (go_at_call 19; refine (le_any b N up dn _ _ _ HL2.out).mono ?_; rintro e w' ⟨rfl, rfl⟩; simp only [haa, hab]; go_wp2_with fail)
                go_meet
                exact ⟨rfl, rfl⟩
            | true =>
              by_cases hne : A = B
              · subst hne
                cases hbc : leB N up A C with
                | false =>
                  have hne2 : ((A : Int) != A) = false := by simp
                  clear htr hant
                  go_wp2_with fail
                  repeat (go_at_call 19; refine (le_any b N up dn _ _ _ HL2.out).mono ?_; rintro e w' ⟨rfl, rfl⟩; simp only [haa, hbc]; go_wp2_with fail)
                  go_meet
                  exact ⟨rfl, rfl⟩
                | true =>
                  have hne2 : ((A : Int) != A) = false := by simp
                  clear htr hant
                  go_wp2_with fail
                  repeat (go_at_call 19; refine (le_any b N up dn _ _ _ HL2.out).mono ?_; rintro e w' ⟨rfl, rfl⟩; simp only [haa, hbc]; go_wp2_with fail)
                  go_meet
                  exact ⟨rfl, rfl⟩
              · have hne2 : ((A : Int) != B) = true := by rw [bne_iff_ne]; omega
                have hba : leB N up B A = false := by
                  cases e : leB N up B A with
                  | false => rfl
                  | true => exact absurd (hant.out hab e) hne
                cases hbc : leB N up B C with
                | false =>
                  clear htr hant
                  go_wp2_with fail
                  repeat (go_at_call 19; refine (le_any b N up dn _ _ _ HL2.out).mono ?_; rintro e w' ⟨rfl, rfl⟩; simp only [haa, hab, hba, hbc]; go_wp2_with fail)
                  go_meet
                  exact ⟨rfl, rfl⟩
                | true =>
                  have hac := htr.out hab hbc
                  clear htr hant
                  go_wp2_with fail
                  repeat (go_at_call 19; refine (le_any b N up dn _ _ _ HL2.out).mono ?_; rintro e w' ⟨rfl, rfl⟩; simp only [haa, hab, hba, hbc, hac]; go_wp2_with fail)
                  go_meet
                  exact ⟨rfl, rfl⟩
        case rest =>
          as_aux_lemma =>
            obtain ⟨rfl, rfl⟩ := hcut
            clear htr hant haa
            obtain ⟨J, hJ, hJJ⟩ := jv_up (by omega) HI.out hA hB
            obtain ⟨M, hM, hMM⟩ := jv_dn (by omega) HI.out hA hB
            have hcj := jc_nat (n := N) hA hB
            have Hjoin := Lib.hid (join_any b N A B up dn wr O2.tab HL2.out)
            rw [hJ, hcj] at Hjoin
            have Hmeet := Lib.hid (fun W (hS : Same wr W) => meet_any b N A B up dn W (hS.tab O2.tab) (HL2.out.same hS))
            rw [hM, hcj] at Hmeet
            have hJN := hJJ.1
            have hMN := hMM.1
            have haj := (leB_iff HI.out hA hJN).2 hJJ.2.1
            have hbj := (leB_iff HI.out hB hJN).2 hJJ.2.2.1
            have hma := (leB_iff HI.out hMN hA).2 hMM.2.1
            have hmb := (leB_iff HI.out hMN hB).2 hMM.2.2.1
            have Hjc : Hid (leB N up A C = true → leB N up B C = true → leB N up J C = true) := fun h1 h2 => (leB_iff HI.out hJN hC).2 (hJJ.2.2.2 C hC ((leB_iff HI.out hA hC).1 h1) ((leB_iff HI.out hB hC).1 h2))
            have Hcm : Hid (leB N up C A = true → leB N up C B = true → leB N up C M = true) := fun h1 h2 => (leB_iff HI.out hC hMN).2 (hMM.2.2.2 C hC ((leB_iff HI.out hC hA).1 h1) ((leB_iff HI.out hC hB).1 h2))
            have HJE := Lib.hid (join_eq HI.out hA hB hJJ)
            have HME := Lib.hid (meet_eq HI.out hA hB hMM)
            have Haj := Lib.hid haj
            have Hbj := Lib.hid hbj
            have Hma := Lib.hid hma
            have Hmb := Lib.hid hmb
            clear hJ hM hcj hJJ hMM haj hbj hma hmb HI
            go_wp2_with fail
            refine Hjoin.out.mono ?_
            rintro e w3 ⟨rfl, hS3⟩
            go_wp2_with fail
            refine (Hmeet.out _ hS3).mono ?_
            rintro e w4 ⟨rfl, hS4⟩
            have hS5 := hS3.trans hS4
            have O3 := O2.same hS5
            have HL3 := Lib.hid (HL2.out.same hS5)
            clear hS3 hS4 hS5 O2 HL2 Hjoin Hmeet
            go_upto_region 14 with (fail)
            go_cut [185] (fun s wx => s = .bool false ∧ w4 = wx)
            case first =>
              as_aux_lemma =>
                go_wp2_with fail
                (go_at_call 19; refine (le_any b N up dn _ _ _ HL3.out).mono ?_; rintro e w' ⟨rfl, rfl⟩)
                rw [Haj.out]
                go_wp2_with fail
                (go_at_call 19; refine (le_any b N up dn _ _ _ HL3.out).mono ?_; rintro e w' ⟨rfl, rfl⟩)
                rw [Hbj.out]
                go_wp2_with fail
                (go_at_call 19; refine (le_any b N up dn _ _ _ HL3.out).mono ?_; rintro e w' ⟨rfl, rfl⟩)
                rw [Hma.out]
                go_wp2_with fail
                (go_at_call 19; refine (le_any b N up dn _ _ _ HL3.out).mono ?_; rintro e w' ⟨rfl, rfl⟩)
                rw [Hmb.out]
                go_wp2_with fail
                (go_at_call 19; refine (le_any b N up dn _ _ _ HL3.out).mono ?_; rintro e w' ⟨rfl, rfl⟩)
                cases hac : leB N up A C with
                | false =>
                  go_wp2_with fail
                  (go_at_call 19; refine (le_any b N up dn _ _ _ HL3.out).mono ?_; rintro e w' ⟨rfl, rfl⟩)
                  cases hca : leB N up C A with
                  | false =>
                    go_wp2_with fail
                    go_meet
                    exact ⟨rfl, rfl⟩
                  | true =>
                    go_wp2_with fail
                    (go_at_call 19; refine (le_any b N up dn _ _ _ HL3.out).mono ?_; rintro e w' ⟨rfl, rfl⟩)
                    cases hcb : leB N up C B with
                    | false =>
                      go_wp2_with fail
                      go_meet
                      exact ⟨rfl, rfl⟩
                    | true =>
                      go_wp2_with fail
                      (go_at_call 19; refine (le_any b N up dn _ _ _ HL3.out).mono ?_; rintro e w' ⟨rfl, rfl⟩)
                      rw [Hcm.out hca hcb]
                      go_wp2_with fail
                      go_meet
                      exact ⟨rfl, rfl⟩
                | true =>
                  go_wp2_with fail
                  (go_at_call 19; refine (le_any b N up dn _ _ _ HL3.out).mono ?_; rintro e w' ⟨rfl, rfl⟩)
                  cases hbc : leB N up B C with
                  | false =>
                    go_wp2_with fail
                    (go_at_call 19; refine (le_any b N up dn _ _ _ HL3.out).mono ?_; rintro e w' ⟨rfl, rfl⟩)
                    cases hca : leB N up C A with
                    | false =>
                      go_wp2_with fail
                      go_meet
                      exact ⟨rfl, rfl⟩
                    | true =>
                      go_wp2_with fail
                      (go_at_call 19; refine (le_any b N up dn _ _ _ HL3.out).mono ?_; rintro e w' ⟨rfl, rfl⟩)
                      cases hcb : leB N up C B with
                      | false =>
                        go_wp2_with fail
                        go_meet
                        exact ⟨rfl, rfl⟩
                      | true =>
                        go_wp2_with fail
                        (go_at_call 19; refine (le_any b N up dn _ _ _ HL3.out).mono ?_; rintro e w' ⟨rfl, rfl⟩)
                        rw [Hcm.out hca hcb]
                        go_wp2_with fail
                        go_meet
                        exact ⟨rfl, rfl⟩
                  | true =>
                    go_wp2_with fail
                    (go_at_call 19; refine (le_any b N up dn _ _ _ HL3.out).mono ?_; rintro e w' ⟨rfl, rfl⟩)
                    rw [Hjc.out hac hbc]
                    go_wp2_with fail
                    (go_at_call 19; refine (le_any b N up dn _ _ _ HL3.out).mono ?_; rintro e w' ⟨rfl, rfl⟩)
                    cases hca : leB N up C A with
                    | false =>
                      go_wp2_with fail
                      go_meet
                      exact ⟨rfl, rfl⟩
                    | true =>
                      go_wp2_with fail
                      (go_at_call 19; refine (le_any b N up dn _ _ _ HL3.out).mono ?_; rintro e w' ⟨rfl, rfl⟩)
                      cases hcb : leB N up C B with
                      | false =>
                        go_wp2_with fail
                        go_meet
                        exact ⟨rfl, rfl⟩
                      | true =>
                        go_wp2_with fail
                        (go_at_call 19; refine (le_any b N up dn _ _ _ HL3.out).mono ?_; rintro e w' ⟨rfl, rfl⟩)
                        rw [Hcm.out hca hcb]
                        go_wp2_with fail
                        go_meet
                        exact ⟨rfl, rfl⟩
            case rest =>
              as_aux_lemma =>
                obtain ⟨rfl, rfl⟩ := hcut
                cases hab : leB N up A B with
                | false =>
                  have e1 : ((J : Int) == B) = false := by
                    rw [beq_eq_false_iff_ne]; intro e; have := HJE.out.2 (by omega); rw [hab] at this; cases this
                  have e2 : ((M : Int) == A) = false := by
                    rw [beq_eq_false_iff_ne]; intro e; have := HME.out.2 (by omega); rw [hab] at this; cases this
                  clear HJE HME Haj Hbj Hma Hmb Hjc Hcm
                  go_wp2_with fail
                  repeat (go_at_call 19; refine (le_any b N up dn _ _ _ HL3.out).mono ?_; rintro e w' ⟨rfl, rfl⟩; simp only [hab]; go_wp2_with fail)
                  refine (awake_any _ O3.tab O3.pos).mono ?_
                  rintro e w5 ⟨rfl, hb5⟩
                  go_wp2_with fail
                  go_ret
                  exact ⟨rfl, (O3.next hb5).below⟩
                | true =>
                  have e1 : ((J : Int) == B) = true := by rw [beq_iff_eq]; have := HJE.out.1 hab; omega
                  have e2 : ((M : Int) == A) = true := by rw [beq_iff_eq]; have := HME.out.1 hab; omega
                  clear HJE HME Haj Hbj Hma Hmb Hjc Hcm
                  go_wp2_with fail
                  repeat (go_at_call 19; refine (le_any b N up dn _ _ _ HL3.out).mono ?_; rintro e w' ⟨rfl, rfl⟩; simp only [hab]; go_wp2_with fail)
                  refine (awake_any _ O3.tab O3.pos).mono ?_
                  rintro e w5 ⟨rfl, hb5⟩
                  go_wp2_with fail
                  go_ret
                  exact ⟨rfl, (O3.next hb5).below⟩

end Go.Proofs.YtjancemacdffbaaDoor
