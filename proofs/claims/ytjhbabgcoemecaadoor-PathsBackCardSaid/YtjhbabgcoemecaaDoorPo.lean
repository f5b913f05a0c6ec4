/- The law PathsNumbers. -/
import Derived.Test.YtjhbabgcoemecaaDoorR32
import Derived.Test.YtjhbabgcoemecaaDoorPn
import Derived.Test.YtjhbabgcoemecaaDoorPk
namespace Go.Proofs.YtjhbabgcoemecaaDoor
open Go.RowKit

theorem valsR_nat {rows : List (List Int)} {la : Nat} (hl : rows.length = la) (h1 : 1 ≤ la) (h2 : la ≤ 32) : valsR (la : Int) rows = (0, valC la rows la) := by
  unfold valsR
  rw [hl, if_neg (by omega)]
  simp

set_option maxHeartbeats 2000000 in
set_option maxRecDepth 100000 in
theorem pathsNumbers_law (a : Option Addr) (la ca : Nat) (A : List (List Int)) (k1 k2 : Nat) (tv : Int) (w : World) (hL : Cr.Laid w) (h1 : k1 < 256) (h2 : k2 < 256) (hla : A.length = la) (hA : RowsAt w a A)
    (hwf : ∀ r ∈ A, ∀ v ∈ r, (Lit.int .u64 v).wf = true) :
    Calls Tryd.prog 5 #[.slice a la ca, .int .u8 k1, .int .u8 k2, .int .u64 tv] w fun e w' => e = .returned (.bool true) ∧ Below w.heap.size w w' := by
  have HL := Lib.hid hL
  have HLA := Lib.hid hla
  have HA := Lib.hid hA
  have HWF := Lib.hid hwf
  have HAW := Lib.hid (Cr.of_run Cr.run18 hL)
  clear hL hla hA hwf
  by_cases c1 : la < 1
  · go_enter Tryd.func5, Tryd.ntmps5
    go_wp2_with fail
    refine HAW.out.mono ?_
    rintro e w9 ⟨rfl, hb9⟩
    go_wp2_with fail
    go_ret
    exact ⟨rfl, hb9⟩
  by_cases c2 : 6 < la
  · go_enter Tryd.func5, Tryd.ntmps5
    go_wp2_with fail
    refine HAW.out.mono ?_
    rintro e w9 ⟨rfl, hb9⟩
    go_wp2_with fail
    go_ret
    exact ⟨rfl, hb9⟩
  have d1 : decide ((la : Int) < 1) = false := by simp; omega
  have d2 : decide (6 < (la : Int)) = false := by simp; omega
  go_enter Tryd.func5, Tryd.ntmps5
  go_wp2_with fail
  go_loopw [9] (fun i wr => ∃ k : Nat, k ≤ la ∧ i = .int .i64 k ∧ Hid (wr = w) ∧ Hid (∀ j, j < k → (A.getD j []).length ≤ 10)) (fun i _ => la - (intOf i).toNat)
  case atStart => exact ⟨0, by omega, rfl, Lib.hid rfl, fun j hj => by omega⟩
  case round =>
    obtain ⟨k, hk, rfl, hw, hall⟩ := hrel
    obtain rfl := hw.out.symm
    clear hw
    by_cases hlt : k < la
    · have hq1 : k < A.length := by rw [HLA.out]; exact hlt
      obtain ⟨pb, po, ra, rac, rfl, hpb, hp0, hra, hrl, hrc⟩ := HA.out k hq1
      have hi1 : (k : Int) < la := by omega
      have HTk := Lib.hid (fun (e : (A.getD k []).length ≤ 10) => (fun j hj => if h : j = k then by rw [h]; exact e else hall j (by omega) : ∀ j, j < k + 1 → (A.getD j []).length ≤ 10))
      clear hra
      generalize (A.getD k []).length = n at *
      by_cases hn : 10 < n
      · clear HTk
        go_wp2_with fail
        refine HAW.out.mono ?_
        rintro e w9 ⟨rfl, hb9⟩
        go_wp2_with fail
        go_ret
        exact ⟨rfl, hb9⟩
      · have Hall := Lib.hid (HTk.out (by omega))
        clear HTk
        go_wp2_with fail
        go_roundw
        case rel => exact ⟨k + 1, by omega, by go_num, by first | trivial | exact Lib.hid rfl, Hall.out⟩
        case measure => simp [intOf]; omega
    · have HR : Hid (∀ c, (A.getD c []).length ≤ 10) := fun c => by
        by_cases hc : c < A.length
        · exact hall.out c (by rw [HLA.out] at hc; omega)
        · rw [getD_ge _ _ _ (by omega)]; simp
      clear hall hk
      go_wp2_with fail
      refine (copyR2_any a la ca A w HLA.out HA.out (fun r hr => ⟨by obtain ⟨i, hi, e⟩ := mem_getD' [] A r hr; have := HR.out i; rw [e] at this; omega, HWF.out r hr⟩) (by omega)).mono ?_
      rintro e w1 ⟨v1, hs1, rfl, hown1, hra1, hb1⟩
      obtain ⟨a1, ca1, hv1, hatS, hl1, hc1⟩ := hown1.own.at_ (d := (none, 0, 0))
      rw [hown1.len, HLA.out] at hv1 hl1
      subst hv1
      have hq : (k1 : Int) % la = ((k1 % la : Nat) : Int) := by simp
      have hqlt : k1 % la < la := Nat.mod_lt _ (by omega)
      generalize k1 % la = c at *
      have hcA : c < A.length := by rw [HLA.out]; exact hqlt
      obtain ⟨b1, o1, e1, hb1lt, hcell⟩ := hatS.sl (i := c) (by rw [hown1.len]; exact hcA)
      subst e1
      have hci : (c : Int) < la := by omega
      have hl10 := HR.out c
      have hne0 : la ≠ 0 := by omega
      have HST := Lib.hid (fun i hi => hown1.store hra1 hcA (i := i) hi tv)
      have HVS := Lib.hid (fun i hi => valC_set (ch := la) (rows := A) (c := c) (i := i) (t := tv) hcA hi la hqlt (Nat.le_refl _))
      have HR' := Lib.hid (fun i c' => show ((A.set c ((A.getD c []).set i tv)).getD c' []).length ≤ 100 by
        by_cases e : c' = c
        · subst e; rw [getD_set_same _ _ _ _ hcA, List.length_set]; omega
        · rw [getD_set_ne _ _ _ _ _ (fun e' => e e'.symm)]; have := HR.out c'; omega)
      have HOW := Lib.hid hown1
      have hatR : RowsAt w1 (some ⟨b1, o1, none⟩) A := by
        obtain ⟨a9, c9, e9, h9, _⟩ := hown1.rowsAt
        injection e9 with e9
        rw [e9]; exact h9
      obtain ⟨b2, o2, r1a, r1c, e2, hb2lt, hcell2, _⟩ := hatR c hcA
      injection e2 with e2
      injection e2 with e3 e4
      subst e3 e4
      clear hown1 hra1 hatS hatR
      generalize A.getD c [] = r at *
      by_cases hr0 : r.length = 0
      · have HAW2 := Lib.hid (Cr.of_run Cr.run18 (HL.out.below hb1))
        rw [hr0] at hcell2
        clear HST HVS HR' HOW hcell hcA hl1 hc1 hb1lt
        go_wp2_with fail
        refine HAW2.out.mono ?_
        rintro e w9 ⟨rfl, hb9⟩
        go_wp2_with fail
        go_ret
        exact ⟨rfl, hb1.trans (hb9.mono hb1.size)⟩
      · have hi2 : (k2 : Int) % r.length = ((k2 % r.length : Nat) : Int) := by simp
        have hilt : k2 % r.length < r.length := Nat.mod_lt _ (by omega)
        generalize k2 % r.length = i at *
        obtain ⟨g, cap, u, e1, e2, e3, e4, e5, e6⟩ := HST.out i hilt
        rw [e1] at hcell
        have hcell' : w1.cell? ⟨b1, o1 + c, none⟩ = some (.slice (some ⟨g, 0, none⟩) r.length cap) := hcell
        obtain ⟨v1, v2⟩ := HVS.out i hilt
        have HR2 := Lib.hid (HR'.out i)
        have hb2 : Below w.heap.size w (w1.setCell ⟨g, i, none⟩ (.int .u64 tv)) := hb1.grown e6 hb1.size (fun q hq => by injection hq with hq; omega)
        have HOW2 := Lib.hid e5
        have hii : (i : Int) < r.length := by omega
        have hlA' : (A.set c (r.set i tv)).length = la := by rw [List.length_set]; exact HLA.out
        clear HST HVS HR' e1 e5 hcell HOW e6 hcell2 hb2lt
        generalize A.set c (r.set i tv) = A' at *
        generalize r.length = rl at *
        have hz : ((rl : Int) == 0) = false := by simp; omega
        have V1 := Lib.hid v1
        have V2 := Lib.hid v2
        have HLA' := Lib.hid hlA'
        have HB2 := Lib.hid hb2
        have HE2 := Lib.hid e2
        have HL10 := Lib.hid hl10
        have HXL := Lib.hid (valC_len (ch := la) (rows := A) (by omega) (fun c => by have := HR.out c; omega) la (Nat.le_refl _))
        clear v1 v2 hlA' hb2 hl10 e2
        clear hl1 hc1 hcA hr0 hb1lt hb1
        go_wp2_with fail
        generalize w1.setCell ⟨g, i, none⟩ (.int .u64 tv) = w2 at *
        refine (vals20_any la a la ca A w2 HLA.out (HA.out.below HB2.out) (fun c => by have := HR.out c; omega)).mono ?_
        rw [valsR_nat HLA.out (by omega) (by omega)]
        rintro e w3 ⟨v3, rfl, hown3, hb3⟩
        have hb03 := HB2.out.trans (hb3.mono HB2.out.size)
        obtain ⟨a3, c3, rfl, hat3, hl3, hc3⟩ := hown3.at_ (d := 0)
        clear hown3
        obtain ⟨a1', ca1', e7, hat1', _⟩ := HOW2.out.rowsAt
        injection e7 with e8 e9 e10
        rw [← e8] at hat1'
        clear e8 e9 e10
        go_wp2_with fail
        refine (vals20_any la _ la ca1 A' w3 HLA'.out (hat1'.below hb3) HR2.out).mono ?_
        rw [valsR_nat HLA'.out (by omega) (by omega), V2.out]
        rintro e w4 ⟨v4, rfl, hown4, hb4⟩
        have hb04 := hb03.trans (hb4.mono hb03.size)
        obtain ⟨a4, c4, rfl, hat4, hl4, hc4⟩ := hown4.at_ (d := 0)
        have hat3' := hat3.below hb4
        clear hown4 hat3
        go_wp2_with fail
        refine (input11_any la c i w4).mono ?_
        rw [inp_nat (by omega) (by omega) hqlt (by have := HL10.out; omega)]
        rintro e w5 ⟨rfl, rfl⟩
        have hv1 := V1.out
        have hxl := HXL.out
        clear V1 V2 hl3 hc3 hl4 hc4 e3 e4 hcell' hat1' HLA' HB2 HOW2 HR2 HE2 hi2 hii hz hci HXL HL10 hq hqlt hilt hb3 hb03 hb4 hlt
        generalize valC la A la = X at *
        generalize 2 * (i * la + c) = N at *
        have HAW3 := Lib.hid (fun w' (hs : Same w4 w') => Cr.of_run Cr.run18 (HL.out.below (hb04.trans ((hs.below w4.heap.size).mono hb04.size))))
        have hX3 : ∀ q, q < X.length → ∃ pb po, a3 = some ⟨pb, po, none⟩ ∧ w4.cell? ⟨pb, po + q, none⟩ = some (.int .u64 (X.getD q 0)) := fun q hq => by
          obtain ⟨pb, po, e, _, h⟩ := hat3'.int hq
          exact ⟨pb, po, e, h⟩
        have hX4 : ∀ q, q < X.length → ∃ pb po, a4 = some ⟨pb, po, none⟩ ∧ w4.cell? ⟨pb, po + q, none⟩ = some (.int .u64 ((X.set N tv).getD q 0)) := fun q hq => by
          obtain ⟨pb, po, e, _, h⟩ := hat4.int (i := q) (by rw [List.length_set]; exact hq)
          exact ⟨pb, po, e, h⟩
        have HX3 := Lib.hid hX3
        have HX4 := Lib.hid hX4
        have HS1 : Hid ((X.set N tv).getD N 0 = tv) := getD_set_same _ _ _ _ hv1
        have HS2 : Hid (∀ q, q ≠ N → (X.set N tv).getD q 0 = X.getD q 0) := fun q hq => getD_set_ne _ _ _ _ _ (fun e => hq e.symm)
        clear hX3 hX4 hat3' hat4
        generalize X.length = L at *
        have hnl : (N : Int) < L := by omega
        have hng : ¬ ((L : Int) ≤ N) := by omega
        go_wp2_with fail
        go_loopw [19] (fun j wr => ∃ q : Nat, q ≤ L ∧ j = .int .i64 q ∧ Same w4 wr) (fun j _ => L - (intOf j).toNat)
        case atStart => exact ⟨0, by omega, rfl, Same.refl _⟩
        case round =>
          obtain ⟨q, hq, rfl, hS⟩ := hrel
          by_cases hql : q < L
          · obtain ⟨pb, po, rfl, hp0⟩ := HX3.out q hql
            obtain ⟨qb, qo, rfl, hq0⟩ := HX4.out q hql
            have hp0' := (hS.cell ⟨pb, po + q, none⟩).trans hp0
            have hq0' := (hS.cell ⟨qb, qo + q, none⟩).trans hq0
            have hqi : (q : Int) < L := by omega
            clear hp0 hq0
            by_cases hN : q = N
            · subst hN
              rw [HS1.out] at hq0'
              clear hnl hng
              go_wp2_with fail
              go_quiet (fail)
              go_wp2_with fail
              go_roundw
              case rel => exact ⟨q + 1, by omega, by go_num, hS.drewN _⟩
              case measure => simp [intOf]; omega
            · rw [HS2.out q hN] at hq0'
              have n1 : ((q : Int) == (N : Int)) = false := by simp; omega
              have n2 : ((q : Int) != (N : Int)) = true := by simp; omega
              clear hnl hng hN
              go_wp2_with fail
              go_quiet (fail)
              go_wp2_with fail
              go_roundw
              case rel => exact ⟨q + 1, by omega, by go_num, hS.drewN _⟩
              case measure => simp [intOf]; omega
          · have HF := Lib.hid (HAW3.out _ hS)
            have hbS := hb04.trans ((hS.below w4.heap.size).mono hb04.size)
            go_wp2_with fail
            refine HF.out.mono ?_
            rintro e w9 ⟨rfl, hb9⟩
            go_wp2_with fail
            go_ret
            exact ⟨rfl, hbS.trans (hb9.mono hbS.size)⟩
end Go.Proofs.YtjhbabgcoemecaaDoor
