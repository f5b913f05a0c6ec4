/- Walk: eval.All, terms in range. -/
import Derived.Test.YtjhbabgcoemecaaDoorVg
namespace Go.Proofs.YtjhbabgcoemecaaDoor
open Go.RowKit

@[go_sem] theorem run_makeFunc' (P : Program) (fn : Fn) (first cap : Array Value) (w : World) : (Instr.makeFunc fn first cap).run P w = .ok (.func fn first cap) w := rfl
@[go_sem] theorem events_makeFunc' (P : Program) (fn : Fn) (first cap : Array Value) (w : World) (es : Array Event) : (Instr.makeFunc fn first cap).events P w es = es := rfl

set_option maxRecDepth 100000 in
set_option maxHeartbeats 8000000 in
theorem all56 {w : World} {r W : Nat} {L : List Nd} (h : RV w r W L) (h1 : 1 ≤ W) (h2 : W ≤ 64) (ts : List Int) {a b : Option Addr} {m c l d : Nat} (hm : ts.length = m) (hm2 : m ≤ 1000) (hat : (Lay.int .i64).At 0 w a ts) (hgood : ∀ t ∈ ts, inG L.length t = true) (hL : L.length ≤ 60)
    (vals : List Nat) (hlen : vals.length = l) (hvl : l ≤ 100) (hatv : (Lay.int .u64).At 0 w b (intsN vals)) (hsm : ∀ v ∈ vals, v < 18446744073709551616) :
    Calls Tryd.prog 56 #[.pointer (some ⟨r, 0, none⟩), .slice a m c, .slice b l d] w fun e w' => ∃ v, e = .returned (.tuple #[v, .int .i64 0]) ∧ (Lay.int .u64).Own 33 w' w.heap.size v (intsN (ts.map fun t => (valuesN W vals L).getD t.toNat 0)) ∧ Below w.heap.size w w' := by
  subst hm
  have HRV := Lib.hid h
  have HATV := Lib.hid hatv
  have HSM := Lib.hid hsm
  have HVLEN := Lib.hid hlen
  have HVL := Lib.hid hvl
  have HW1 := Lib.hid h1
  have HW2 := Lib.hid h2
  have HL := Lib.hid hL
  clear hatv hsm hlen hvl h1 h2
  have HA := Lib.hid hat
  have HBAD := Lib.hid hgood
  have HBA : Hid (Below w.heap.size w (w.alloc (.cells #[.slice b l d] 48))) := Lib.hid ((Below.refl _ _).alloc (Nat.le_refl _) _)
  have HLEN := Lib.hid (len74 (h.below HBA.out))
  have HTK : Hid (∀ k, k < ts.length → lastT (ts.take (k + 1)) = max (lastT (ts.take k)) (ts.getD k 0)) := Lib.hid fun k hk => by rw [take_snoc' 0 ts hk, lastT_snoc]
  clear hat hgood h
  have HLE : Hid (-1 ≤ lastT ts ∧ lastT ts < L.length) := Lib.hid ⟨lastT_ge ts, lastT_lt ts L.length fun t ht => by have := HBAD.out t ht; simp [inG] at this; omega⟩
  have HLK : Hid (∀ k, -1 ≤ lastT (ts.take k)) := Lib.hid fun k => lastT_ge _
  go_enter Tryd.func56, Tryd.ntmps56
  go_wp2_with fail
  go_loopw [8, 29] (fun v i wr => ∃ k : Nat, k ≤ ts.length ∧ i = .int .i64 k ∧ v = .int .i64 (lastT (ts.take k)) ∧ Hid (wr = w.alloc (.cells #[.slice b l d] 48))) (fun _ i _ => ts.length - (intOf i).toNat)
  case atStart => exact ⟨0, by omega, rfl, rfl, Lib.hid rfl⟩
  case round =>
    obtain ⟨k, hk, rfl, rfl, hw⟩ := hrel
    obtain rfl := hw.out.symm
    by_cases hlk : k < ts.length
    · obtain ⟨ib, io, rfl, hib, hi0⟩ := HA.out.int (i := k) hlk
      have i0 := (HBA.out.cell (p := ⟨ib, io + k, none⟩) hib).trans hi0
      have HT := Lib.hid (HTK.out k hlk)
      have hki : (k : Int) < ts.length := by omega
      clear hi0
      generalize hx : ts.getD k 0 = x at *
      have hxm : x ∈ ts := by
        rw [← hx, List.getD_eq_getElem?_getD, List.getElem?_eq_getElem hlk]
        exact List.getElem_mem hlk
      have hxg := HBAD.out x hxm
      simp only [inG, Bool.and_eq_true, decide_eq_true_eq] at hxg
      obtain ⟨h0, hn⟩ := hxg
      have d1 : decide ((L.length : Int) ≤ x) = false := decide_eq_false (by omega)
      have d2 : decide (x < 0) = false := decide_eq_false (by omega)
      clear hxm
      go_wp2_with (first
        | (go_at_call 74
           refine HLEN.out.mono ?_
           rintro e wB ⟨rfl, rfl⟩))
      go_roundw
      case rel => exact ⟨k + 1, by omega, by go_num, by rw [HT.out]; congr 1; split <;> omega, by first | exact Lib.hid rfl | exact Lib.hid trivial⟩
      case measure => simp [intOf]; omega
    · obtain rfl : k = ts.length := by omega
      rw [List.take_length]
      have hl1 := HLE.out.1
      have hl2 := HLE.out.2
      have hl3 : ((lastT ts + 1).toNat : Int) = lastT ts + 1 := by omega
      have hZ : ∀ j, j < ts.length → 0 ≤ ts.getD j 0 ∧ ts.getD j 0 ≤ lastT ts := fun j hj => by
        have hm : ts.getD j 0 ∈ ts := by rw [List.getD_eq_getElem?_getD, List.getElem?_eq_getElem hj]; exact List.getElem_mem hj
        have h1 := HBAD.out _ hm
        have h2 := lastT_le ts _ hm
        simp [inG] at h1
        exact ⟨by simpa using h1.1, h2⟩
      generalize lastT ts = z at *
      go_wp2_with (first
        | (refine make_lay Tryd.elemN (0, 0, (none, 0, 0)) rfl rfl _ _ rfl (w.heap.size + 1) (z + 1).toNat _ rfl rfl (by first | exact hl3.symm | (simp; omega)) (by omega) (w.heap.size + 1) (by simp) (Nat.le_refl _) ?_
           intro wN hoN hbN)
        | (refine make_lay Tryd.elemB false rfl rfl _ _ rfl wN.heap.size (z + 1).toNat _ rfl rfl (by first | exact hl3.symm | (simp; omega)) (by omega) wN.heap.size rfl (Nat.le_refl _) ?_
           intro wM hoM hbM))
      have HN := Lib.hid hoN
      have HM := Lib.hid hoM
      have HBN := Lib.hid hbN
      have HBM := Lib.hid hbM
      have HZ : Hid (∀ j, j < ts.length → 0 ≤ ts.getD j 0 ∧ ts.getD j 0 ≤ z) := Lib.hid fun j hj => hZ j hj
      clear hoN hoM hbN hbM
      go_loopw [53] (fun i wi => ∃ (k : Nat) (N : List Bool), k ≤ ts.length ∧ i = .int .i64 k ∧ N.length = (z + 1).toNat ∧ (∀ j, j < k → N.getD (ts.getD j 0).toNat false = true) ∧ Hid (Lay.bool.Own 4 wi wN.heap.size (.slice (some ⟨wN.heap.size, 0, none⟩) (z + 1).toNat (z + 1).toNat) N) ∧ Below wN.heap.size wM wi) (fun i _ => ts.length - (intOf i).toNat)
      case atStart => exact ⟨0, List.replicate (z + 1).toNat false, by omega, rfl, List.length_replicate, fun j hj => absurd hj (by omega), Lib.hid HM.out, Below.refl _ _⟩
      case round =>
        obtain ⟨k, N, hk, rfl, hNl, hmk, hown, hbi⟩ := hrel
        have HBW := Lib.hid (HBA.out.trans ((HBN.out.mono (Nat.le_succ _)).trans ((HBM.out.trans hbi).mono (by have := HBN.out.size; simp at this; omega))))
        have HBI := Lib.hid hbi
        have HOW := Lib.hid hown.out
        have HMK := Lib.hid hmk
        clear hown hbi hmk
        by_cases hlk : k < ts.length
        · obtain ⟨ib, io, rfl, hib, hi0⟩ := HA.out.int (i := k) hlk
          have i0 := (HBW.out.cell (p := ⟨ib, io + k, none⟩) hib).trans hi0
          have hki : (k : Int) < ts.length := by omega
          obtain ⟨hx0, hxz⟩ := HZ.out k hlk
          clear hi0
          generalize hx : ts.getD k 0 = x at *
          have hcl : ∃ u, wr.cell? ⟨wN.heap.size, x.toNat, none⟩ = some u := by
            obtain ⟨a2, c2, e2, hat2, _, _⟩ := HOW.out.at_ (d := false)
            injection e2 with e2 _ _
            subst e2
            obtain ⟨b', o', e', _, hc'⟩ := hat2 x.toNat (by rw [hNl]; omega)
            injection e' with e'
            injection e' with e3 e4 _
            subst e3 e4
            have h0 := hc' 0 (by decide)
            exact ⟨.bool (N.getD x.toNat false), by simpa [Lay.bool] using h0⟩
          obtain ⟨u, hcl⟩ := hcl
          obtain ⟨o1, o2, hfz⟩ := HOW.out.put1 rfl hNl (x := true) (u := .bool true) rfl x.toNat
          have HO2 := Lib.hid o1
          have HB2 := Lib.hid (HBI.out.grown o2 (Nat.le_of_lt (HOW.out.lt wN.heap.size rfl).2) (fun q hq => by injection hq with hq; omega))
          have hxn : x < ((z + 1).toNat : Int) := by omega
          clear o1 o2
          go_wp2_with fail
          go_roundw
          case rel => exact ⟨k + 1, N.set x.toNat true, by omega, by go_num, by rw [List.length_set]; exact hNl, fun j hj => by
            by_cases e : (ts.getD j 0).toNat = x.toNat
            · rw [e, getD_set_same _ _ _ _ (by rw [hNl]; omega)]
            · rw [getD_set_ne _ _ _ _ _ (fun h => e h.symm)]
              by_cases e2 : j = k
              · subst e2; exact absurd (by rw [hx]) e
              · exact HMK.out j (by omega), Lib.hid HO2.out, HB2.out⟩
          case measure => simp [intOf]; omega
        · obtain rfl : k = ts.length := by omega
          have hzN := (HN.out.lt (w.heap.size + 1) rfl).2
          have HBX : Hid (Below (w.heap.size + 1) (w.alloc (.cells #[.slice b l d] 48)) wr) := Lib.hid (HBN.out.trans ((HBM.out.trans HBI.out).mono (by omega)))
          have HNP : Hid (NeedP wr L ts wN.heap.size (w.heap.size + 1) (z + 1).toNat (z + 1).toNat N (List.replicate (z + 1).toNat nd0)) := Lib.hid
            ⟨hNl, List.length_replicate, HOW.out, HN.out.grown (HBM.out.trans HBI.out), hzN, fun j hj => HMK.out j hj, fun j g1 g2 => absurd g2 (by omega), fun j g1 g2 => absurd g2 (by omega)⟩
          have HRV2 := Lib.hid (HRV.out.below HBW.out)
          have HX0 : Hid (wr.cell? ⟨w.heap.size, 0, none⟩ = some (.slice b l d)) := Lib.hid ((HBX.out.cell (p := ⟨w.heap.size, 0, none⟩) (Nat.lt_succ_self _)).trans (by rw [World.cell?_alloc_new]; rfl))
          have hz4 := HBW.out.size
          clear HOW HMK HBI HBX HN HM HBN HBM HLEN HTK HBA
          generalize wN.heap.size = nb at *
          have hn1 : (z + 1).toNat ≤ L.length := by omega
          have hz1 : z = ((z + 1).toNat : Int) - 1 := by omega
          generalize (z + 1).toNat = n1 at *
          subst hz1
          clear hl1 hl2 hl3
          have hnbr := (HNP.out.own.lt nb rfl).2
          clear HRV2
          generalize wr = w2 at *
          simp only [show (n1 : Int) - 1 + 1 = n1 by omega]
          go_wp2_with fail
          go_loopw [15] (fun i wi => ∃ (x : Int) (t : Nat) (N : List Bool) (NH : List NdH), i = .int .i64 x ∧ Hid (x = (t : Int) - 1) ∧ t ≤ n1 ∧ Hid (NeedP wi L ts nb (w.heap.size + 1) n1 t N NH) ∧ Below (w.heap.size + 1) w2 wi) (fun i _ => (intOf i + 1).toNat)
          case atStart => exact ⟨_, n1, N, _, rfl, Lib.hid rfl, Nat.le_refl _, Lib.hid HNP.out, Below.refl _ _⟩
          case round =>
            clear HNP
            obtain ⟨x, t, N, NH, rfl, hx, htn, hnp, hbi⟩ := hrel
            have HNP2 := Lib.hid hnp.out
            have HB2 := Lib.hid hbi
            have hzi := hbi.size
            have HRVi := Lib.hid (HRV.out.below (HBW.out.trans (hbi.mono (Nat.le_succ _))))
            clear hnp hbi
            cases t with
            | zero =>
              obtain rfl : x = -1 := by have := hx.out; omega
              have HB0 := Lib.hid (HBW.out.trans (HB2.out.mono (Nat.le_succ _)))
              have HX1 : Hid (wr.cell? ⟨w.heap.size, 0, none⟩ = some (.slice b l d)) := Lib.hid ((HB2.out.cell (p := ⟨w.heap.size, 0, none⟩) (Nat.lt_succ_self _)).trans HX0.out)
              have HAV := Lib.hid (HATV.out.below HB0.out)
              have hzw : w.heap.size < wr.heap.size := by omega
              clear HB2 HX0 hx hzi hnbr hz4 HBW hzN
              generalize wr = w3 at *
              go_wp2_with (first
                | (refine make_lay Tryd.elemU 0 rfl rfl _ _ rfl w3.heap.size n1 _ rfl rfl (by first | rfl | simp | omega) (by omega) w3.heap.size rfl (Nat.le_refl _) ?_
                   intro wU hoU hbU
                   have HOU := Lib.hid hoU
                   have HBU := Lib.hid hbU
                   have HRVU := Lib.hid (HRVi.out.below hbU)
                   clear hoU hbU)
                | (go_at_call 41
                   refine (width41 (HRVU.out.below (by first | exact (Below.refl _ _).alloc (Nat.le_refl _) _))).mono ?_
                   rintro e wB ⟨rfl, rfl⟩))
              have hz3 := HBU.out.size
              have hB4 : Below wU.heap.size wU ((wU.alloc (.cells #[.slice (some ⟨w3.heap.size, 0, none⟩) n1 n1] 48)).alloc (.cells #[.int .i64 W] 3)) := ((Below.refl _ _).alloc (Nat.le_refl _) _).alloc (by simp) _
              have HB4 := Lib.hid (HBU.out.trans (hB4.mono hz3))
              have HO4 := Lib.hid (HOU.out.grown hB4)
              obtain ⟨q1, q2⟩ := two_boxes' wU (.slice (some ⟨w3.heap.size, 0, none⟩) n1 n1) (.int .i64 W) 48 3
              have Q1 := Lib.hid q1
              have Q2 := Lib.hid q2
              have hz5 : wU.heap.size + 2 = ((wU.alloc (.cells #[.slice (some ⟨w3.heap.size, 0, none⟩) n1 n1] 48)).alloc (.cells #[.int .i64 W] 3)).heap.size := by simp
              have hg4 := (HOU.out.lt w3.heap.size rfl).2
              clear q1 q2 hB4 HOU HBU HRVU HRVi
              generalize ((wU.alloc (.cells #[.slice (some ⟨w3.heap.size, 0, none⟩) n1 n1] 48)).alloc (.cells #[.int .i64 W] 3)) = w4 at *
              generalize wU.heap.size = p3 at *
              clear wU
              have HR0 : Hid (L4R w3 W vals L N n1 0 (p3 + 1) p3 w4) := Lib.hid ⟨HB4.out, Q2.out, Q1.out, by omega, by omega, by omega, by omega, List.replicate n1 0, ValP.start W vals L N n1, by rw [intsN_rep]; exact HO4.out⟩
              go_loopw [101] (fun i wi => ∃ t : Nat, t ≤ n1 ∧ i = .int .i64 t ∧ Hid (L4R w3 W vals L N n1 t (p3 + 1) p3 wi)) (fun i _ => n1 - (intOf i).toNat)
              case atStart => exact ⟨0, by omega, rfl, Lib.hid HR0.out⟩
              case round =>
                clear HR0 HO4 Q1 Q2 HB4
                obtain ⟨t, ht, rfl, hr⟩ := hrel
                have HR := Lib.hid hr.out
                have C3 := hr.out.c3
                have HNPi := Lib.hid (HNP2.out.below hr.out.bel)
                clear hr
                by_cases htn : t < n1
                · have cb := boolCell HNPi.out.own (t := t) (by rw [HNPi.out.len]; exact htn)
                  have hti : (t : Int) < n1 := by omega
                  cases hNt : N.getD t false with
                  | false =>
                    rw [hNt] at cb
                    have HSK := Lib.hid (HR.out.skip hNt)
                    clear hNt
                    go_wp2_with fail
                    go_roundw
                    case rel => exact ⟨t + 1, by omega, by go_num, Lib.hid HSK.out⟩
                    case measure => simp [intOf] <;> omega
                  | true =>
                    rw [hNt] at cb
                    have htL : t < L.length := by omega
                    obtain ⟨e1, e2, e3, hatA, _⟩ := HNP2.out.heads t (Nat.zero_le _) htn hNt
                    obtain ⟨c0, c1, c2⟩ := ndCells HNP2.out.nds (t := t) (by rw [HNP2.out.hlen]; exact htn)
                    have HCL := Lib.hid (HNP2.out.closed t (Nat.zero_le _) htn hNt)
                    have HZL : Hid ((valuesN W vals L).getD t 0 < 2 ^ W) := Lib.hid (valuesN_lt vals HW1.out HRV.out.ok t)
                    clear hNt
                    rcases hn : L.getD t default with ⟨op, num, args⟩
                    rw [hn] at e1 e2 e3 hatA HCL
                    have HN := Lib.hid hn
                    generalize NH.getD t nd0 = nh at *
                    obtain ⟨op', num', ha, al, hc⟩ := nh
                    simp only at e1 e2 e3 c0 c1 c2 hatA HCL
                    subst e1 e2 e3
                    have HATA := Lib.hid hatA
                    clear hn hatA
                    have HST : Hid (∀ z w', (valuesN W vals L).getD t 0 = z → L4R w3 W vals L N n1 t (p3 + 1) p3 w' → L4R w3 W vals L N n1 (t + 1) (p3 + 1) p3 (w'.setCell ⟨w3.heap.size, t, none⟩ (.int .u64 (z : Nat)))) := Lib.hid fun z w' e h => h.store htn e (e ▸ HZL.out)
                    have HCALL : Hid (∀ z w', (valuesN W vals L).getD t 0 = z → L4R w3 W vals L N n1 t (p3 + 1) p3 w' → Calls Tryd.prog 76 #[.agg #[.int .u8 op', .int .u64 num', .slice ha args.length hc], .pointer (some ⟨w.heap.size, 0, none⟩), .pointer (some ⟨p3 + 1, 0, none⟩), .pointer (some ⟨p3, 0, none⟩)] w' fun e w'' => e = .returned (.int .u64 (z : Nat)) ∧ Below w'.heap.size w' w'') := Lib.hid fun z w' e h =>
                      h.call HW1.out HW2.out HRV.out.ok htL htn HN.out HCL.out HATA.out hzw HVLEN.out HVL.out HX1.out HAV.out HSM.out e
                    generalize (valuesN W vals L).getD t 0 = z at *
                    have hgn := (HNP2.out.nds.lt (w.heap.size + 1) rfl).2
                    have HS : Hid (∀ w', L4R w3 W vals L N n1 t (p3 + 1) p3 w' → w'.cell? ⟨p3, 0, none⟩ = some (.slice (some ⟨w3.heap.size, 0, none⟩) n1 n1) ∧ w'.cell? ⟨w.heap.size + 1, t * 3, none⟩ = some (.int .u8 op') ∧ w'.cell? ⟨w.heap.size + 1, t * 3 + 1, none⟩ = some (.int .u64 num') ∧ w'.cell? ⟨w.heap.size + 1, t * 3 + 2, none⟩ = some (.slice ha args.length hc) ∧ L4R w3 W vals L N n1 t (p3 + 1) p3 w') := Lib.hid fun w' h =>
                      ⟨h.c3, (h.bel.cell (p := ⟨w.heap.size + 1, t * 3, none⟩) hgn).trans c0, (h.bel.cell (p := ⟨w.heap.size + 1, t * 3 + 1, none⟩) hgn).trans c1, (h.bel.cell (p := ⟨w.heap.size + 1, t * 3 + 2, none⟩) hgn).trans c2, h⟩
                    clear C3 c0 c1 c2
                    go_wp2_with fail
                    go_region_held3 (fun w' => w'.cell? ⟨p3, 0, none⟩ = some (.slice (some ⟨w3.heap.size, 0, none⟩) n1 n1) ∧ w'.cell? ⟨w.heap.size + 1, t * 3, none⟩ = some (.int .u8 op') ∧ w'.cell? ⟨w.heap.size + 1, t * 3 + 1, none⟩ = some (.int .u64 num') ∧ w'.cell? ⟨w.heap.size + 1, t * 3 + 2, none⟩ = some (.slice ha args.length hc) ∧ L4R w3 W vals L N n1 t (p3 + 1) p3 w')
                      (first | exact HS.out _ HR.out | exact HS.out _ HR.out.drew | exact HS.out _ KR.out | exact HS.out _ KR.out.drew | exact HS.out _ (HST.out _ _ rfl KR.out).back | exact HS.out _ (HST.out _ _ rfl KR.out.drew).back | exact HS.out _ (‹_ ∧ _ ∧ _ ∧ _ ∧ L4R _ _ _ _ _ _ _ _ _ _›).2.2.2.2 | exact HS.out _ (‹_ ∧ _ ∧ _ ∧ _ ∧ L4R _ _ _ _ _ _ _ _ _ _›).2.2.2.2.drew)
                      (first
                        | (go_at_call 76
                           refine (HCALL.out _ _ rfl (‹_ ∧ _ ∧ _ ∧ _ ∧ L4R _ _ _ _ _ _ _ _ _ _›).2.2.2.2).mono ?_
                           rintro e wB ⟨rfl, hB⟩
                           have KR := Lib.hid ((‹_ ∧ _ ∧ _ ∧ _ ∧ L4R _ _ _ _ _ _ _ _ _ _›).2.2.2.2.below hB)
                           obtain ⟨⟨uw, cw⟩, fw⟩ := KR.out.cell htn))
                    all_goals
                      have HF := Lib.hid (HST.out _ _ rfl KR.out)
                      (try simp only [Exit.inBlock, Exit.then])
                      go_wp2_with fail
                      go_roundw
                      case rel => exact ⟨t + 1, by omega, by go_num, Lib.hid HF.out⟩
                      case measure => simp [intOf] <;> omega
                · obtain rfl : t = n1 := by omega
                  obtain ⟨U, hU1, hU2⟩ := HR.out.u
                  have HFL : Hid ((ts.map fun x => (valuesN W vals L).getD x.toNat 0).length = ts.length) := Lib.hid (List.length_map _)
                  have HFG : Hid (∀ k, k < ts.length → (ts.map fun x => (valuesN W vals L).getD x.toNat 0).getD k 0 = U.getD (ts.getD k 0).toNat 0) := Lib.hid fun k hk => by
                    rw [hU1.vals _ (by have := HZ.out k hk; omega) (HNP2.out.marks k hk), List.getD_eq_getElem?_getD, List.getElem?_map, List.getD_eq_getElem?_getD (l := ts), List.getElem?_eq_getElem hk]; rfl
                  have HUL := Lib.hid hU1.len
                  have HU2 := Lib.hid hU2
                  have HBW5 := Lib.hid (HB0.out.trans (HR.out.bel.mono (Nat.le_of_lt hzw)))
                  have hl3 := HR.out.l3
                  have hg5 := (hU2.lt w3.heap.size rfl).2
                  have HC3 := Lib.hid C3
                  clear hU1 hU2 C3 HNPi HR
                  generalize hF : (ts.map fun x => (valuesN W vals L).getD x.toNat 0) = F at *
                  have HFE := Lib.hid hF
                  clear hF
                  generalize wr = w5 at *
                  go_wp2_with (first
                    | (refine make_lay Tryd.elemU 0 rfl rfl _ _ rfl w5.heap.size ts.length _ rfl rfl rfl (by omega) w5.heap.size rfl (Nat.le_refl _) ?_
                       intro wO hoO hbO
                       have HOO := Lib.hid hoO
                       have HBO := Lib.hid hbO
                       clear hoO hbO))
                  go_loopw [123] (fun i wi => ∃ k : Nat, k ≤ ts.length ∧ i = .int .i64 k ∧ Hid ((Lay.int .u64).Own 33 wi w5.heap.size (.slice (some ⟨w5.heap.size, 0, none⟩) ts.length ts.length) (intsN (F.take k ++ List.replicate (ts.length - k) 0))) ∧ Below w5.heap.size w5 wi) (fun i _ => ts.length - (intOf i).toNat)
                  case atStart => exact ⟨0, by omega, rfl, Lib.hid (by simpa [intsN] using HOO.out), HBO.out⟩
                  case round =>
                    clear HOO HBO
                    obtain ⟨k, hk, rfl, hou, hbi⟩ := hrel
                    have HO := Lib.hid hou.out
                    have HBI := Lib.hid hbi
                    have c3 := (hbi.cell (p := ⟨p3, 0, none⟩) hl3).trans HC3.out
                    clear hou hbi
                    by_cases hkm : k < ts.length
                    · obtain ⟨ib, io, rfl, hib, hi0⟩ := HA.out.int (i := k) hkm
                      have hzz := HBW5.out.size
                      have i0 := (HBI.out.cell (p := ⟨ib, io + k, none⟩) (by show ib < _; omega)).trans ((HBW5.out.cell (p := ⟨ib, io + k, none⟩) hib).trans hi0)
                      have hx := HZ.out k hkm
                      have HFK := Lib.hid (HFG.out k hkm)
                      have HSF := Lib.hid (set_fill F HFL.out hkm)
                      have hki : (k : Int) < ts.length := by omega
                      clear hi0
                      generalize ts.getD k 0 = x at *
                      obtain ⟨hx0, hx1⟩ := hx
                      obtain ⟨y, rfl⟩ := Int.eq_ofNat_of_zero_le hx0
                      have hyt : y < t := by omega
                      have hyi : (y : Int) < t := by omega
                      rw [show ((y : Nat) : Int).toNat = y from rfl] at HFK
                      have v0 := (HBI.out.cell (p := ⟨w3.heap.size, y, none⟩) hg5).trans (wordCell HU2.out (t := y) (by rw [intsN_len, HUL.out]; exact hyt))
                      rw [intsN_getD, ← HFK.out] at v0
                      have hIL : (intsN (F.take k ++ List.replicate (ts.length - k) 0)).length = ts.length := by rw [intsN_len, List.length_append, List.length_take, List.length_replicate, HFL.out]; omega
                      have cw := wordCell HO.out (t := k) (by rw [hIL]; exact hkm)
                      obtain ⟨o1, o2, fw⟩ := HO.out.put1 rfl hIL (x := ((F.getD k 0 : Nat) : Int)) (u := .int .u64 (F.getD k 0 : Nat)) rfl k
                      rw [← intsN_set, HSF.out] at o1
                      have HO2 := Lib.hid o1
                      have HB2 := Lib.hid (HBI.out.grown o2 HBI.out.size (fun q hq => by injection hq with hq; omega))
                      clear o1 o2 hIL
                      generalize F.getD k 0 = z at *
                      generalize (intsN (F.take k ++ List.replicate (ts.length - k) 0)).getD k 0 = zz at *
                      go_wp2_with fail
                      go_roundw
                      case rel => exact ⟨k + 1, by omega, by go_num, Lib.hid HO2.out, HB2.out⟩
                      case measure => simp [intOf] <;> omega
                    · obtain rfl : k = ts.length := by omega
                      have HO2 := HO.out
                      rw [Nat.sub_self, ← HFL.out, List.take_length, List.replicate_zero, List.append_nil, HFL.out] at HO2
                      have HO3 := Lib.hid HO2
                      clear HO2
                      go_wp2_with fail
                      go_ret2
                      have hzz := HBW5.out.size
                      exact ⟨_, rfl, by rw [HFE.out]; exact HO3.out.lower hzz, HBW5.out.trans (HBI.out.mono hzz)⟩
            | succ t =>
              obtain rfl : x = (t : Int) := by have := hx.out; omega
              clear hx
              have ht : t < n1 := by omega
              have cb := boolCell HNP2.out.own (t := t) (by rw [HNP2.out.len]; exact ht)
              have HNbi := Lib.hid (HNP2.out.own.lt nb rfl).2
              cases hNt : N.getD t false with
              | false =>
                rw [hNt] at cb
                have HSK := Lib.hid (HNP2.out.skip hNt)
                clear HNP2 hNt
                go_wp2_with fail
                go_roundw
                case rel => exact ⟨(t : Int) - 1, t, N, NH, by go_num, Lib.hid rfl, by omega, Lib.hid HSK.out, HB2.out⟩
                case measure => simp [intOf] <;> omega
              | true =>
                rw [hNt] at cb
                have HNt := Lib.hid hNt
                have htL : t < L.length := by omega
                have HARG : Hid (∀ a ∈ (L.getD t default).args, a < t) := Lib.hid (HRV.out.ok t htL).2.2.2.2.2.2
                have HNODE := Lib.hid (node75 HRVi.out t htL)
                have HAL : Hid ((L.getD t default).args.length ≤ 2) := Lib.hid (by have := HRV.out.ok t htL; have h5 := this.2.2.2.2.1; have h6 := this.1; rw [h5]; simp only [arN]; (repeat' split) <;> omega)
                clear hNt
                rcases hn : L.getD t default with ⟨op, num, args⟩
                rw [hn] at HNODE HARG HAL
                simp only at HNODE HARG HAL
                have hal2 := HAL.out
                have HN := Lib.hid hn
                clear hn
                go_wp2_with (first
                  | (go_at_call 75
                     refine HNODE.out.mono ?_
                     rintro e wB ⟨ha, hc, rfl, hatB, hbB, hB⟩
                     have HX : Hid (HeadAt wB nb (op, num, (ha, args.length, hc)) (L.getD t default)) := Lib.hid (by rw [HN.out]; exact ⟨rfl, rfl, rfl, hatB, fun ad e => Nat.lt_of_lt_of_le HNbi.out (hbB ad e)⟩)
                     have HNPB := Lib.hid (HNP2.out.below hB)
                     have HBB := Lib.hid (HB2.out.trans (hB.mono (by omega)))
                     clear hatB hbB hB)
                  | (refine store_nd rfl _ _ rfl HNPB.out.nds HNPB.out.hlen (op, num, (ha, args.length, hc)) t ht _ rfl rfl rfl ?_
                     intro w5 ho5 hg5
                     have cA : w5.cell? ⟨w.heap.size + 1, t * 3 + 2, none⟩ = some (.slice ha args.length hc) := by
                       have := (ndCells ho5 (t := t) (by rw [List.length_set, HNPB.out.hlen]; exact ht)).2.2
                       rw [getD_set_same _ _ _ _ (by rw [HNPB.out.hlen]; exact ht)] at this
                       exact this
                     have HMP := Lib.hid (HNPB.out.copy ht HNt.out HX.out ho5 hg5)
                     have HHA : Hid ((NH.set t (op, num, (ha, args.length, hc))).getD t nd0 = (op, num, (ha, args.length, hc))) := Lib.hid (getD_set_same _ _ _ _ (by rw [HNPB.out.hlen]; exact ht))
                     have HB5 := Lib.hid (HBB.out.grown hg5 (by have := (HNPB.out.nds.lt (w.heap.size + 1) rfl).2; omega) (fun q hq => by injection hq with hq; omega))
                     clear ho5 hg5))
                generalize NH.set t (op, num, (ha, args.length, hc)) = NH2 at *
                go_loopw [85] (fun i wj => ∃ (k : Nat) (N2 : List Bool), k ≤ args.length ∧ i = .int .i64 k ∧ Hid (MarkP wj L ts nb (w.heap.size + 1) n1 t k N2 NH2) ∧ Below (w.heap.size + 1) w2 wj) (fun i _ => args.length - (intOf i).toNat)
                case atStart => exact ⟨0, N, by omega, rfl, Lib.hid HMP.out, HB5.out⟩
                case round =>
                  clear HMP HB5
                  obtain ⟨k, N2, hk, rfl, hmp, hbj⟩ := hrel
                  have HMP := Lib.hid hmp.out
                  have HB6 := Lib.hid hbj
                  have hzj := hbj.size
                  clear hmp hbj
                  by_cases hka : k < args.length
                  · have hhd := (HMP.out.heads t (Nat.le_refl _) ht HMP.out.here).2.2.2.1
                    rw [HHA.out, HN.out] at hhd
                    obtain ⟨ib, io, rfl, hib, i0⟩ := hhd.int (i := k) (by rw [intsN_len]; exact hka)
                    rw [intsN_getD] at i0
                    have hxt := HARG.out (args.getD k 0) (by rw [List.getD_eq_getElem?_getD, List.getElem?_eq_getElem hka]; exact List.getElem_mem hka)
                    have HXE : Hid ((L.getD t default).args.getD k 0 = args.getD k 0) := Lib.hid (by rw [HN.out])
                    clear hhd
                    generalize args.getD k 0 = y at *
                    obtain ⟨o1, o2, hfz⟩ := HMP.out.own.put1 rfl HMP.out.len (x := true) (u := .bool true) rfl y
                    have hcl := boolCell HMP.out.own (t := y) (by rw [HMP.out.len]; omega)
                    have HM2 := Lib.hid (HMP.out.mark ht HXE.out hxt o1 o2)
                    have HB7 := Lib.hid (HB6.out.grown o2 (by omega) (fun q hq => by injection hq with hq; have := HMP.out.ne; omega))
                    have hki : (k : Int) < args.length := by omega
                    have hyi : (y : Int) < n1 := by omega
                    clear o1 o2
                    go_wp2_with fail
                    go_roundw
                    case rel => exact ⟨k + 1, N2.set y true, by omega, by go_num, Lib.hid HM2.out, HB7.out⟩
                    case measure => simp [intOf]; omega
                  · obtain rfl : k = args.length := by omega
                    have HD := HMP.out
                    rw [show args.length = (L.getD t default).args.length by rw [HN.out]] at HD
                    have HD2 := Lib.hid HD.done
                    clear HD
                    go_wp2_with fail
                    go_roundw
                    case rel => exact ⟨(t : Int) - 1, t, N2, NH2, by go_num, Lib.hid rfl, by omega, Lib.hid HD2.out, HB6.out⟩
                    case measure => simp [intOf] <;> omega
end Go.Proofs.YtjhbabgcoemecaaDoor
