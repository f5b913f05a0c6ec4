/- Walk of the law LatticeTurns. -/
import Derived.Test.YtjancemacdffbaaDoorLw11
import Derived.Test.YtjancemacdffbaaDoorPl8
import Derived.Test.YtjancemacdffbaaDoorAk
import Derived.Outline
namespace Go.Proofs.YtjancemacdffbaaDoor
open Go.RowKit

set_option maxHeartbeats 4000000 in
set_option maxRecDepth 100000 in
theorem turns_any (k : Nat) (n : Int) (a : Option Addr) (len cap : Nat) (ord : List (Int × Int)) (xa xb : Int) (w : World) (hT : Tab w) (h0 : 0 < w.heap.size) (hp : PairsAt w a ord) (hlen : ord.length = len) (hk : k < 256) (hlm : len ≤ 9223372036854775807) :
    Calls Tryd.prog 5 #[.int .u8 k, .int .i64 n, .slice a len cap, .int .i64 xa, .int .i64 xb] w fun e w' => e = .returned (.bool true) ∧ Below w.heap.size w w' := by
  have O0 := On.refl hT h0
  have Hmade := Lib.hid (made_any k n a len cap ord w hT h0 hp hlen hk hlm)
  clear hT h0 hp hlen
  go_enter Tryd.func5, Tryd.ntmps5
  go_wp2_with fail
  refine Hmade.out.mono ?_
  rintro e w1 ⟨hb1, rfl | ⟨b, N, a1, cap1, ps, up, dn, rfl, hN1, hN2, hl, hbs, hL, hI, hP, hok⟩⟩
  · have O1 := O0.next hb1
    clear hb1 O0
    go_wp2_with fail
    refine (awake_any _ O1.tab O1.pos).mono ?_
    rintro e w2 ⟨rfl, hb2⟩
    go_wp2_with fail
    go_ret
    exact ⟨rfl, (O1.next hb2).below⟩
  · have O1 := O0.next hb1
    have HI := Lib.hid hI
    have HL := Lib.hid hL
    have HP := Lib.hid hP
    have HOK := Lib.hid hok
    clear hb1 O0 hI hL hP hok Hmade
    go_wp2_with fail
    refine (mod_any xa N _ (by omega) (by omega)).mono ?_
    rintro e w' ⟨rfl, rfl⟩
    have hx1 : 0 ≤ xa % N := Int.emod_nonneg _ (by omega)
    have hx2 : xa % N < N := Int.emod_lt_of_pos _ (by omega)
    generalize xa % (N : Int) = A at *
    obtain ⟨A, rfl⟩ := Int.eq_ofNat_of_zero_le hx1
    go_wp2_with fail
    refine (mod_any xb N _ (by omega) (by omega)).mono ?_
    rintro e w' ⟨rfl, rfl⟩
    have hy1 : 0 ≤ xb % N := Int.emod_nonneg _ (by omega)
    have hy2 : xb % N < N := Int.emod_lt_of_pos _ (by omega)
    generalize xb % (N : Int) = B at *
    obtain ⟨B, rfl⟩ := Int.eq_ofNat_of_zero_le hy1
    have hA : A < N := by omega
    have hB : B < N := by omega
    clear hx1 hx2 hy1 hy2
    go_wp2_with fail
    go_loopw [13, 14, 15] (fun v1 v2 i wr => ∃ q : Nat, q ≤ ps.length ∧ i = .int .i64 ((q : Int) - 1) ∧ Two w1 w1.heap.size v1 (turnL ps q) v2 (moreL ps q) wr ∧ Apart v1 v2) (fun _ _ i _ => (intOf i + 1).toNat)
    case atStart => exact ⟨ps.length, Nat.le_refl _, rfl, by rw [turnL_end, moreL_end]; exact ⟨OwnP.nil _ _, OwnP.nil _ _, Below.refl _ _, Nat.le_refl _⟩, Or.inl rfl⟩
    case round =>
      obtain ⟨q, hq, rfl, hT, hAp⟩ := hrel
      cases q with
      | zero =>
        have HEqv := Lib.hid (Eqv.more HOK.out)
        have hml := moreL_length ps 0
        have hml' : (moreL ps 0).length ≤ 500 := by omega
        have htl := turnL_length ps 0
        have htl' : (turnL ps 0).length ≤ 250 := by omega
        clear hml htl
        have ez : ((0 : Nat) : Int) - 1 = -1 := rfl
        simp only [ez]
        clear ez
        go_wp2_with fail
        go_loopw [14, 16] (fun v2 i wr => ∃ (q : Nat) (ms : List (Int × Int)), q ≤ N ∧ i = .int .i64 q ∧ ms.length ≤ 500 + q ∧ Two w1 w1.heap.size u13 (turnL ps 0) v2 ms wr ∧ Apart u13 v2 ∧ Eqv N ps ms) (fun _ i _ => N - (intOf i).toNat)
        case atStart => exact ⟨0, _, by omega, rfl, by omega, hT, hAp, HEqv.out⟩
        case round =>
          clear hT hAp HEqv
          obtain ⟨q, ms, hq, rfl, hms, hT, hAp, hE⟩ := hrel
          have HLr := Lib.hid (HL.out.below hT.below hbs)
          by_cases hlt : q < N
          · have HE := Lib.hid hE
            have Hle := Lib.hid (leB_iff HI.out hA hlt)
            clear hE
            go_wp2_with fail
            refine (le_any b N up dn A q _ HLr.out).mono ?_
            rintro e w' ⟨rfl, rfl⟩
            cases hc : leB N up A q with
            | true =>
              have HE' := Lib.hid (HE.out.add hA hlt (Hle.out.1 hc))
              clear hc HE
              go_wp2_with (at_builtin; refine app_two [((A : Int), (q : Int))] rfl _ _ rfl rfl hT hAp rfl rfl (by omega) ?_)
              intro v' w' hT' hAp'
              clear hT hAp
              go_wp2_with fail
              go_roundw
              case rel => exact ⟨q + 1, _, by omega, by go_num, by simp; omega, hT', hAp', HE'.out⟩
              case measure => simp [intOf]; omega
            | false =>
              go_wp2_with fail
              go_roundw
              case rel => exact ⟨q + 1, _, by omega, by go_num, by omega, hT, hAp, HE.out⟩
              case measure => simp [intOf]; omega
          · obtain ⟨a3, cap3, rfl, P3, hl3, hc3⟩ := hT.a.pairs
            obtain ⟨a4, cap4, rfl, P4, hl4, hc4⟩ := hT.b.pairs
            have O2 := O1.next hT.below
            have hEt : newE (N : Int) (turnL ps 0) = newL N (turnL ps 0) := newE_nat hN1 (by omega) (by omega)
            have hEm : newE (N : Int) ms = newL N ms := newE_nat hN1 (by omega) (by omega)
            obtain ⟨z1, L1⟩ := turn_lat (n := N) (by omega) HI.out.anti HI.out.full HOK.out
            obtain ⟨z2, L2⟩ := hE.lat (by omega) HI.out.anti HI.out.full
            obtain ⟨j1, j2, j3⟩ := turn_jv (by omega) HI.out L1 hA hB
            obtain ⟨k1, k2, k3⟩ := eqv_jv (by omega) hE HI.out L2 hA hB
            rw [← hEt] at z1 j1 j2 j3
            rw [← hEm] at z2 k1 k2 k3
            have Z1 := Lib.hid z1
            have Z2 := Lib.hid z2
            have J1 := Lib.hid j1
            have J2 := Lib.hid j2
            have J3 := Lib.hid j3
            have K1 := Lib.hid k1
            have K2 := Lib.hid k2
            have K3 := Lib.hid k3
            have JC := Lib.hid (jc_nat (n := N) hA hB)
            have HP3 := Lib.hid P3
            have HP4 := Lib.hid P4
            have hbw : b < wr.heap.size := by have := hT.base; omega
            clear z1 z2 j1 j2 j3 k1 k2 k3 hEt hEm L1 L2 hE hT hAp P3 P4
            go_wp2_with fail
            refine (new_ok (turnL ps 0) Z1.out rfl HP3.out O2.tab O2.pos).mono ?_
            rintro e w3 ⟨rfl, hL3, hs3, hb3⟩
            rw [Int.toNat_natCast] at hL3
            have O3 := O2.next hb3
            have HP4' := Lib.hid (HP4.out.below hb3)
            have HL1 := Lib.hid (HLr.out.below hb3 hbw)
            have hbw' : b < w3.heap.size := Nat.lt_of_lt_of_le hbw hb3.size
            have HL3 := Lib.hid hL3
            clear HP3 HP4 HLr hbw hb3 O2 hL3
            generalize wr.heap.size + 1 = b3 at *
            go_wp2_with fail
            refine (new_ok ms Z2.out rfl HP4'.out O3.tab O3.pos).mono ?_
            rintro e w4 ⟨rfl, hL4, hs4, hb4⟩
            rw [Int.toNat_natCast] at hL4
            have O4 := O3.next hb4
            have HL1' := Lib.hid (HL1.out.below hb4 hbw')
            have HL3' := Lib.hid (HL3.out.below hb4 hs3)
            have HL4 := Lib.hid hL4
            clear HP4' HL1 HL3 hL4 hb4 O3 hbw' hs3
            generalize w3.heap.size + 1 = b4 at *
            go_wp2_with fail
            refine (join_any b N A B up dn _ O4.tab HL1'.out).mono ?_
            rintro e w5 ⟨rfl, hS5⟩
            have O5 := O4.same hS5
            have HLa := Lib.hid (HL1'.out.same hS5)
            have HLb := Lib.hid (HL3'.out.same hS5)
            have HLc := Lib.hid (HL4.out.same hS5)
            clear HL1' HL3' HL4 hS5 O4
            rw [JC.out]
            go_wp2_with fail
            refine (meet_any b N A B up dn _ O5.tab HLa.out).mono ?_
            rintro e w6 ⟨rfl, hS6⟩
            have O6 := O5.same hS6
            have HLa1 := Lib.hid (HLa.out.same hS6)
            have HLb1 := Lib.hid (HLb.out.same hS6)
            have HLc1 := Lib.hid (HLc.out.same hS6)
            clear HLa HLb HLc hS6 O5
            rw [JC.out]
            generalize jv N up A B = J at *
            generalize jv N dn A B = M at *
            go_wp2_with fail
            refine (bounds_true b3 N A B M J _ _ _ O6.tab HLb1.out J1.out J2.out JC.out).mono ?_
            rintro e w7 ⟨rfl, hS7⟩
            have O7 := O6.same hS7
            have HLa2 := Lib.hid (HLa1.out.same hS7)
            have HLb2 := Lib.hid (HLb1.out.same hS7)
            have HLc2 := Lib.hid (HLc1.out.same hS7)
            clear HLa1 HLb1 HLc1 hS7 O6
            go_wp2_with fail
            refine (bounds_true b4 N A B J M _ _ _ O7.tab HLc2.out K1.out K2.out JC.out).mono ?_
            rintro e w8 ⟨rfl, hS8⟩
            have O8 := O7.same hS8
            have HLa3 := Lib.hid (HLa2.out.same hS8)
            have HLb3 := Lib.hid (HLb2.out.same hS8)
            have HLc3 := Lib.hid (HLc2.out.same hS8)
            clear HLa2 HLb2 HLc2 hS8 O7
            go_wp2_with fail
            refine (le_any b3 N _ _ A B _ HLb3.out).mono ?_
            rintro e w' ⟨rfl, rfl⟩
            rw [J3.out]
            cases hc1 : leB N up B A
            all_goals
              have Hc1 := Lib.hid hc1
              clear hc1
              go_wp2_with fail
              refine (le_any b N _ _ B A _ HLa3.out).mono ?_
              rintro e w' ⟨rfl, rfl⟩
              rw [Hc1.out]
              go_wp2_with fail
              refine (le_any b4 N _ _ A B _ HLc3.out).mono ?_
              rintro e w' ⟨rfl, rfl⟩
              rw [K3.out]
              cases hc2 : leB N up A B
              all_goals
                have Hc2 := Lib.hid hc2
                clear hc2
                go_wp2_with fail
                refine (le_any b N _ _ A B _ HLa3.out).mono ?_
                rintro e w' ⟨rfl, rfl⟩
                rw [Hc2.out]
                go_wp2_with fail
                refine (awake_any _ O8.tab O8.pos).mono ?_
                rintro e w9 ⟨rfl, hb9⟩
                go_wp2_with fail
                go_ret
                exact ⟨rfl, (O8.next hb9).below⟩
      | succ j =>
        have ej : ((j + 1 : Nat) : Int) - 1 = (j : Int) := by omega
        simp only [ej]
        clear ej
        obtain ⟨pb, po, rfl, hpb, hp0, hp1⟩ := HP.out j (by omega)
        have Ht := Lib.hid (turnL_step ps j (by omega))
        have Hm := Lib.hid (moreL_step ps j (by omega))
        have hl1 := turnL_length ps (j + 1)
        have hl2 := moreL_length ps (j + 1)
        have hl1' : (turnL ps (j + 1)).length ≤ 250 := by omega
        have hl2' : (moreL ps (j + 1)).length ≤ 500 := by omega
        clear hl1 hl2
        have hj3 : (j : Int) < ps.length := by omega
        generalize ps.getD j (0, 0) = pq at *
        obtain ⟨X, Y⟩ := pq
        simp only at hp0 hp1
        have Hs := Lib.hid (fun (W : World) (h : Two w1 w1.heap.size u13 (turnL ps (j + 1)) u14 (moreL ps (j + 1)) W) => (show W.cell? ⟨pb, po + j * 2, none⟩ = some (.int .i64 X) ∧ W.cell? ⟨pb, po + j * 2 + 1, none⟩ = some (.int .i64 Y) ∧ Two w1 w1.heap.size u13 (turnL ps (j + 1)) u14 (moreL ps (j + 1)) W from
          ⟨(h.below.cell (p := ⟨pb, _, none⟩) hpb).trans hp0, (h.below.cell (p := ⟨pb, _, none⟩) hpb).trans hp1, h⟩))
        have hwr : w1.heap.size ≤ wr.heap.size := hT.base
        have HB1 := Lib.hid (fun g (hg : wr.heap.size ≤ g) => (fun e => by have := hT.a.lt g e.symm; omega : some g ≠ u13.ownBlock))
        have HB2 := Lib.hid (fun g (hg : wr.heap.size ≤ g) => (fun e => by have := hT.b.lt g e.symm; omega : some g ≠ u14.ownBlock))
        have HT := Lib.hid hT
        have HAp := Lib.hid hAp
        clear hp0 hp1 hT hAp
        generalize turnL ps (j + 1) = ts at *
        generalize moreL ps (j + 1) = ms at *
        go_wp2_with fail
        go_region_held3 (fun W => W.cell? ⟨pb, po + j * 2, none⟩ = some (.int .i64 X) ∧ W.cell? ⟨pb, po + j * 2 + 1, none⟩ = some (.int .i64 Y) ∧ Two w1 w1.heap.size u13 ts u14 ms W)
          (first | exact Hs.out _ HT.out.drew | exact Hs.out _ (Two.alloc (‹_ ∧ _ ∧ Two _ _ _ _ _ _ _›).2.2 _) | exact Hs.out _ K1.out | exact Hs.out _ K2.out)
          (first
            | (refine step_pairs (by rfl) _ _ (by rfl) [(Y, X)] (by rfl) ((‹_ ∧ _ ∧ Two _ _ _ _ _ _ _›).2.2).a (by rfl) (by rfl) (by first | exact CellsAt.at_ _ _ (by simp) | exact (CellsAt.at_ _ _ (by simp)).alloc (by simp) _ | exact C1.out) (by simp; omega) ((‹_ ∧ _ ∧ Two _ _ _ _ _ _ _›).2.2).base ?_
               intro v1 wA hN1 hg1 ha1 ho1
               have K1 := Lib.hid (Two.app (‹_ ∧ _ ∧ Two _ _ _ _ _ _ _›).2.2 HAp.out hg1 ho1)
               have T1 := Lib.hid (Two.new (‹_ ∧ _ ∧ Two _ _ _ _ _ _ _›).2.2 HAp.out hg1 ho1 hN1)
               have A1 := Lib.hid (Apart.new (‹_ ∧ _ ∧ Two _ _ _ _ _ _ _›).2.2 HAp.out ha1)
               first
                 | have C2 := Lib.hid (CellsAt.grown (g := wr.heap.size + 1) (qs := [(X, Y), (X, Y)]) (by exact CellsAt.at_ _ _ (by simp)) (by simp) hg1 (HB1.out _ (by omega)))
                 | have C2 := Lib.hid (CellsAt.grown (g := wr.heap.size) (qs := [(X, Y), (X, Y)]) (by exact (CellsAt.at_ _ _ (by simp)).alloc (by simp) _) (by simp; omega) hg1 (HB1.out _ (by omega)))
                 | skip
               first
                 | have F := Lib.hid (And.intro (Two.new T2.out.symm A2.out.symm hg1 ho1 hN1) (Apart.new T2.out.symm A2.out.symm ha1))
                 | have F := Lib.hid (And.intro (Two.new (T2.out.alloc _).symm A2.out.symm hg1 ho1 hN1) (Apart.new (T2.out.alloc _).symm A2.out.symm ha1))
                 | skip
               clear hN1 ha1 ho1)
            | (refine step_pairs (by rfl) _ _ (by rfl) [(X, Y), (X, Y)] (by rfl) ((‹_ ∧ _ ∧ Two _ _ _ _ _ _ _›).2.2).b (by rfl) (by rfl) (by first | exact CellsAt.at_ _ _ (by simp) | exact (CellsAt.at_ _ _ (by simp)).alloc (by simp) _ | exact C2.out) (by simp; omega) ((‹_ ∧ _ ∧ Two _ _ _ _ _ _ _›).2.2).base ?_
               intro v2 wB hN2 hg2 ha2 ho2
               have K2 := Lib.hid (Two.app (‹_ ∧ _ ∧ Two _ _ _ _ _ _ _›).2.2.symm HAp.out.symm hg2 ho2).symm
               have T2 := Lib.hid (Two.new (‹_ ∧ _ ∧ Two _ _ _ _ _ _ _›).2.2.symm HAp.out.symm hg2 ho2 hN2)
               have A2 := Lib.hid (Apart.new (‹_ ∧ _ ∧ Two _ _ _ _ _ _ _›).2.2.symm HAp.out.symm ha2)
               first
                 | have C1 := Lib.hid (CellsAt.grown (g := wr.heap.size + 1) (qs := [(Y, X)]) (by exact CellsAt.at_ _ _ (by simp)) (by simp) hg2 (HB2.out _ (by omega)))
                 | have C1 := Lib.hid (CellsAt.grown (g := wr.heap.size) (qs := [(Y, X)]) (by exact (CellsAt.at_ _ _ (by simp)).alloc (by simp) _) (by simp; omega) hg2 (HB2.out _ (by omega)))
                 | skip
               first
                 | have F := Lib.hid (And.intro (Two.new T1.out.symm A1.out.symm hg2 ho2 hN2).symm (Apart.new T1.out.symm A1.out.symm ha2).symm)
                 | have F := Lib.hid (And.intro (Two.new (T1.out.alloc _).symm A1.out.symm hg2 ho2 hN2).symm (Apart.new (T1.out.alloc _).symm A1.out.symm ha2).symm)
                 | skip
               clear hN2 ha2 ho2))
        all_goals
          clear T1 A1 T2 A2 K1 K2 hg1 hg2 HB1 HB2 HT HAp Hs
          (try clear C1)
          (try clear C2)
          go_wp2_with fail
          go_roundw
          case rel => exact ⟨j, by omega, rfl, by rw [Ht.out, Hm.out]; exact F.out.1, F.out.2⟩
          case measure => simp [intOf]

end Go.Proofs.YtjancemacdffbaaDoor
