/- Walk: Short. -/
import Derived.Test.YtjhbabgcoemecaaDoorUc
import Derived.Test.YtjhbabgcoemecaaDoorUq
import Derived.Test.YtjhbabgcoemecaaDoorGh
import Derived.Test.YtjhbabgcoemecaaDoorR32
namespace Go.Proofs.YtjhbabgcoemecaaDoor
open Go.RowKit

theorem short28 (w : World) (p : PathN) : Calls Tryd.prog 28 #[p.v] w fun e w' => (∃ g, e = .returned (.bool g) ∧ (g = true ↔ p.short)) ∧ Below w.heap.size w w' := by
  obtain ⟨ca, cc, cs, st, sp, oa, oc, os, ra, rc, rs, ba, bc, bs, ia, ic, is⟩ := p
  have HBA : Hid (Below w.heap.size w (w.alloc (.cells #[.slice ca cs.length cc, .int .u8 st, .int .i64 sp, .slice oa os.length oc, .slice ra rs.length rc, .slice ba bs.length bc, .slice ia is.length ic] 43))) := Lib.hid ((Below.refl _ _).alloc (Nat.le_refl _) _)
  simp only [PathN.v, PathN.short]
  generalize cs.length = l1 at *
  generalize os.length = l2 at *
  generalize rs.length = l3 at *
  generalize bs.length = l4 at *
  generalize is.length = l5 at *
  by_cases c1 : l1 ≤ 12
  · by_cases c2 : l2 ≤ 12
    · by_cases c3 : l3 ≤ 12
      · by_cases c4 : l4 ≤ 40
        · by_cases c5 : l5 ≤ 40
          · have d1 : decide ((l1 : Int) ≤ 12) = true := by simp; omega
            have d2 : decide ((l2 : Int) ≤ 12) = true := by simp; omega
            have d3 : decide ((l3 : Int) ≤ 12) = true := by simp; omega
            have d4 : decide ((l4 : Int) ≤ 40) = true := by simp; omega
            have d5 : decide ((l5 : Int) ≤ 40) = true := by simp; omega
            have HG : Hid (l1 ≤ 12 ∧ l2 ≤ 12 ∧ l3 ≤ 12 ∧ l4 ≤ 40 ∧ l5 ≤ 40) := Lib.hid ⟨c1, c2, c3, c4, c5⟩
            clear c1 c2 c3 c4 c5
            go_enter Tryd.func28, Tryd.ntmps28
            go_wp2_with fail
            go_ret
            exact ⟨⟨true, rfl, fun _ => HG.out, fun _ => rfl⟩, HBA.out⟩
          · have d1 : decide ((l1 : Int) ≤ 12) = true := by simp; omega
            have d2 : decide ((l2 : Int) ≤ 12) = true := by simp; omega
            have d3 : decide ((l3 : Int) ≤ 12) = true := by simp; omega
            have d4 : decide ((l4 : Int) ≤ 40) = true := by simp; omega
            have d5 : decide ((l5 : Int) ≤ 40) = false := by simp; omega
            have HG := Lib.hid c5
            clear c1 c2 c3 c4 c5
            go_enter Tryd.func28, Tryd.ntmps28
            go_wp2_with fail
            go_ret
            exact ⟨⟨false, rfl, fun h => (by cases h), fun h => absurd h.2.2.2.2 HG.out⟩, HBA.out⟩
        · have d1 : decide ((l1 : Int) ≤ 12) = true := by simp; omega
          have d2 : decide ((l2 : Int) ≤ 12) = true := by simp; omega
          have d3 : decide ((l3 : Int) ≤ 12) = true := by simp; omega
          have d4 : decide ((l4 : Int) ≤ 40) = false := by simp; omega
          have HG := Lib.hid c4
          clear c1 c2 c3 c4
          go_enter Tryd.func28, Tryd.ntmps28
          go_wp2_with fail
          go_ret
          exact ⟨⟨false, rfl, fun h => (by cases h), fun h => absurd h.2.2.2.1 HG.out⟩, HBA.out⟩
      · have d1 : decide ((l1 : Int) ≤ 12) = true := by simp; omega
        have d2 : decide ((l2 : Int) ≤ 12) = true := by simp; omega
        have d3 : decide ((l3 : Int) ≤ 12) = false := by simp; omega
        have HG := Lib.hid c3
        clear c1 c2 c3
        go_enter Tryd.func28, Tryd.ntmps28
        go_wp2_with fail
        go_ret
        exact ⟨⟨false, rfl, fun h => (by cases h), fun h => absurd h.2.2.1 HG.out⟩, HBA.out⟩
    · have d1 : decide ((l1 : Int) ≤ 12) = true := by simp; omega
      have d2 : decide ((l2 : Int) ≤ 12) = false := by simp; omega
      have HG := Lib.hid c2
      clear c1 c2
      go_enter Tryd.func28, Tryd.ntmps28
      go_wp2_with fail
      go_ret
      exact ⟨⟨false, rfl, fun h => (by cases h), fun h => absurd h.2.1 HG.out⟩, HBA.out⟩
  · have d1 : decide ((l1 : Int) ≤ 12) = false := by simp; omega
    have HG := Lib.hid c1
    clear c1
    go_enter Tryd.func28, Tryd.ntmps28
    go_wp2_with fail
    go_ret
    exact ⟨⟨false, rfl, fun h => (by cases h), fun h => absurd h.1 HG.out⟩, HBA.out⟩
end Go.Proofs.YtjhbabgcoemecaaDoor
namespace Go.Proofs.YtjhbabgcoemecaaDoor
open Go.RowKit

theorem holdsV_tuple (n : Nat) (V : List Nat) (cs : List Int) : ∃ (g : Bool) (c : Int), holdsV n V cs = .tuple #[.bool g, .int .i64 c] := by
  unfold holdsV; split
  · exact ⟨_, _, rfl⟩
  · exact ⟨_, _, rfl⟩
theorem takenV_tuple (n : Nat) (V : List Nat) (ps : List PathN) : ∃ (x c : Int), takenV n V ps = .tuple #[.int .i64 x, .int .i64 c] := by
  unfold takenV; split
  · split
    · exact ⟨_, _, rfl⟩
    · exact ⟨_, _, rfl⟩
  · exact ⟨_, _, rfl⟩
theorem traceN_len (n : Nat) (V : List Nat) (p : PathN) (h : p.short) : (traceN n V p).os.length ≤ 1000 ∧ (traceN n V p).rs.length ≤ 1000 ∧ (traceN n V p).bs.length ≤ 1000 ∧ (traceN n V p).is.length ≤ 1000 := by
  obtain ⟨_, h2, h3, h4, h5⟩ := h
  unfold traceN; split
  · simp only [evs, List.length_map]; omega
  · simp

set_option maxRecDepth 100000 in
set_option maxHeartbeats 8000000 in
theorem pathsTake_law (W0 : Int) (a0 : Option Addr) (l0 k0 : Nat) (qs : List RawN) (a1 : Option Addr) (l1 k1 : Nat) (ps : List PathN) (a2 : Option Addr) (l2 k2 : Nat) (vals : List Nat) (w : World) (hL : Cr.Laid w)
    (hl0 : qs.length = l0) (hat0 : Lay.raw.At default w a0 qs) (hb0 : ∀ q ∈ qs, q.2.1 < 256 ∧ q.2.2.1 < 18446744073709551616 ∧ q.2.2.2.1 < 65536 ∧ q.2.2.2.2 < 65536)
    (hl1 : ps.length = l1) (hat1 : Lay.path.At default w a1 ps) (hok1 : ∀ p ∈ ps, p.Ok w)
    (hl2 : vals.length = l2) (hat2 : (Lay.int .u64).At 0 w a2 (intsN vals)) (hsm : ∀ v ∈ vals, v < 18446744073709551616) :
    Calls Tryd.prog 9 #[.int .i64 W0, .slice a0 l0 k0, .slice a1 l1 k1, .slice a2 l2 k2] w fun e w' => e = .returned (.bool true) ∧ Below w.heap.size w w' := by
  have HAW := Lib.hid (fun w' (hb : Below w.heap.size w w') => Cr.of_run Cr.run18 (hL.below hb))
  have HA0 := Lib.hid hat0
  have HB0 := Lib.hid hb0
  have HA1 := Lib.hid hat1
  have HK1 := Lib.hid hok1
  have HA2 := Lib.hid hat2
  have HSM := Lib.hid hsm
  have HL0 := Lib.hid hl0
  have HL1 := Lib.hid hl1
  have HL2 := Lib.hid hl2
  clear hL hat0 hb0 hat1 hok1 hat2 hsm hl0 hl1 hl2
  by_cases c1 : 40 < l0
  · have d1 : decide (40 < (l0 : Int)) = true := by simp; omega
    clear c1
    go_enter Tryd.func9, Tryd.ntmps9
    go_wp2_with (first
      | (go_at_call 18
         refine (HAW.out _ (Below.refl _ _)).mono ?_
         rintro e wB ⟨rfl, hB⟩
         have HB := Lib.hid hB
         clear hB))
    go_ret
    exact ⟨rfl, HB.out⟩
  have d1 : decide (40 < (l0 : Int)) = false := by simp; omega
  by_cases c2 : 6 < l1
  · have d2 : decide (6 < (l1 : Int)) = true := by simp; omega
    clear c1 c2
    go_enter Tryd.func9, Tryd.ntmps9
    go_wp2_with (first
      | (go_at_call 18
         refine (HAW.out _ (Below.refl _ _)).mono ?_
         rintro e wB ⟨rfl, hB⟩
         have HB := Lib.hid hB
         clear hB))
    go_ret
    exact ⟨rfl, HB.out⟩
  have d2 : decide (6 < (l1 : Int)) = false := by simp; omega
  by_cases c3 : 30 < l2
  · have d3 : decide (30 < (l2 : Int)) = true := by simp; omega
    clear c1 c2 c3
    go_enter Tryd.func9, Tryd.ntmps9
    go_wp2_with (first
      | (go_at_call 18
         refine (HAW.out _ (Below.refl _ _)).mono ?_
         rintro e wB ⟨rfl, hB⟩
         have HB := Lib.hid hB
         clear hB))
    go_ret
    exact ⟨rfl, HB.out⟩
  have d3 : decide (30 < (l2 : Int)) = false := by simp; omega
  go_enter Tryd.func9, Tryd.ntmps9
  go_wp2_with fail
  go_loopw [9] (fun i wr => ∃ k : Nat, k ≤ l1 ∧ i = .int .i64 k ∧ Hid (∀ j, j < k → (ps.getD j default).short) ∧ Below w.heap.size w wr) (fun i _ => l1 - (intOf i).toNat)
  case atStart => exact ⟨0, by omega, rfl, Lib.hid fun j hj => absurd hj (by omega), Below.refl _ _⟩
  case round =>
    obtain ⟨k, hk, rfl, hall, hb⟩ := hrel
    have HBW := Lib.hid hb
    have HALL := Lib.hid hall.out
    have hzw := hb.size
    clear hb hall
    by_cases hlk : k < l1
    · have hlk2 : k < ps.length := by rw [HL1.out]; exact hlk
      obtain ⟨pb, po, rfl, hpb, q0, q1, q2, q3, q4, q5, q6⟩ := path_cells HA1.out hlk2
      have c0 := (HBW.out.cell (p := ⟨pb, po + k * 7, none⟩) hpb).trans q0
      have c1 := (HBW.out.cell (p := ⟨pb, po + k * 7 + 1, none⟩) hpb).trans q1
      have c2 := (HBW.out.cell (p := ⟨pb, po + k * 7 + 2, none⟩) hpb).trans q2
      have c3 := (HBW.out.cell (p := ⟨pb, po + k * 7 + 3, none⟩) hpb).trans q3
      have c4 := (HBW.out.cell (p := ⟨pb, po + k * 7 + 4, none⟩) hpb).trans q4
      have c5 := (HBW.out.cell (p := ⟨pb, po + k * 7 + 5, none⟩) hpb).trans q5
      have c6 := (HBW.out.cell (p := ⟨pb, po + k * 7 + 6, none⟩) hpb).trans q6
      have hki : (k : Int) < l1 := by omega
      have HSH := Lib.hid (short28 wr (ps.getD k default))
      clear q0 q1 q2 q3 q4 q5 q6 hlk2
      generalize hp : ps.getD k default = p at *
      have HPK := Lib.hid hp
      obtain ⟨ca, cc, cs, st, sp, oa, oc, os, ra, rc, rs, ba, bc, bs, ia, ic, is⟩ := p
      simp only at c0 c1 c2 c3 c4 c5 c6
      simp only [PathN.v] at HSH
      clear hp
      by_cases hsh : (ps.getD k default).short
      · have HAL2 : Hid (∀ j, j < k + 1 → (ps.getD j default).short) := Lib.hid fun j hj => by
          by_cases e : j = k
          · subst e; exact hsh
          · exact HALL.out j (by omega)
        rw [HPK.out] at hsh
        have HS1 := Lib.hid hsh
        clear hsh
        go_wp2_with (first
          | (go_at_call 28
             refine HSH.out.mono ?_
             rintro e wB ⟨⟨g, rfl, hg⟩, hB⟩
             obtain rfl := hg.2 HS1.out
             have HB := Lib.hid (HBW.out.trans (hB.mono hzw))
             clear hB hg))
        go_roundw
        case rel => exact ⟨k + 1, by omega, by go_num, Lib.hid HAL2.out, HB.out⟩
        case measure => simp [intOf] <;> omega
      · rw [HPK.out] at hsh
        have HS1 := Lib.hid hsh
        clear hsh
        go_wp2_with (first
          | (go_at_call 28
             refine HSH.out.mono ?_
             rintro e wB ⟨⟨g, rfl, hg⟩, hB⟩
             obtain rfl : g = false := Bool.eq_false_iff.2 fun e => HS1.out (hg.1 e)
             have HB := Lib.hid (HBW.out.trans (hB.mono hzw))
             clear hB hg)
          | (go_at_call 18
             refine (HAW.out _ HB.out).mono ?_
             rintro e wC ⟨rfl, hC⟩
             have HC := Lib.hid (HB.out.trans (hC.mono HB.out.size))
             clear hC))
        go_ret
        exact ⟨rfl, HC.out⟩
    · obtain rfl : k = l1 := by omega
      by_cases hW : W0 < 1 ∨ 64 < W0
      · have HGB := Lib.hid (graphs_bad wr W0 hW a0 l0 k0)
        rcases hW with hW | hW
        · have d4 : decide (W0 < 1) = true := by simp; omega
          clear hW
          go_wp2_with (first
            | (go_at_call 29
               refine HGB.out.mono ?_
               rintro e wB ⟨rfl, rfl⟩)
            | (go_at_call 18
               refine (HAW.out _ HBW.out).mono ?_
               rintro e wC ⟨rfl, hC⟩
               have HC := Lib.hid (HBW.out.trans (hC.mono hzw))
               clear hC))
          go_ret
          exact ⟨rfl, HC.out⟩
        · have d4 : decide (W0 < 1) = false := by simp; omega
          have d5 : decide (64 < W0) = true := by simp; omega
          clear hW
          go_wp2_with (first
            | (go_at_call 29
               refine HGB.out.mono ?_
               rintro e wB ⟨rfl, rfl⟩)
            | (go_at_call 18
               refine (HAW.out _ HBW.out).mono ?_
               rintro e wC ⟨rfl, hC⟩
               have HC := Lib.hid (HBW.out.trans (hC.mono hzw))
               clear hC))
          go_ret
          exact ⟨rfl, HC.out⟩
      · obtain ⟨W, rfl⟩ := Int.eq_ofNat_of_zero_le (by omega : 0 ≤ W0)
        have h1 : 1 ≤ W := by omega
        have h2 : W ≤ 64 := by omega
        have hq40 : qs.length ≤ 40 := by rw [HL0.out]; omega
        have HGR := Lib.hid (graphs29 wr W h1 h2 qs (cap := k0) HL0.out hq40 (HA0.out.below HBW.out) HB0.out)
        have HLL : Hid ((bldL W qs).length ≤ 60) := Lib.hid (Nat.le_trans (bldL_len W qs) (by omega))
        clear hW
        go_wp2_with (first
          | (go_at_call 29
             refine HGR.out.mono ?_
             rintro e wG ⟨g, mb, nv, AP, r, rv, AR, rfl, hbo, hbG⟩
             have HPV := Lib.hid hbo.pg.rv
             have HRV := Lib.hid hbo.rg.rv
             have HWG := Lib.hid (HBW.out.trans (hbG.mono hzw))
             clear hbo hbG))
        clear HGR
        generalize bldL W qs = L at *
        have HSHT : Hid (∀ j, j < ps.length → (ps.getD j default).short) := Lib.hid fun j hj => HALL.out j (by rw [HL1.out] at hj; exact hj)
        have HLW : Hid (∀ w', Below wG.heap.size wG w' → Below w.heap.size w w') := Lib.hid fun w' hb => HWG.out.trans (hb.mono HWG.out.size)
        have hl2 : l2 ≤ 100 := by omega
        have H30 : Hid (∀ j, j < ps.length → ∀ w', Below wG.heap.size wG w' → Calls Tryd.prog 30 #[.pointer (some ⟨g, 0, none⟩), (ps.getD j default).v, .slice a2 l2 k2] w' fun e w'' => e = .returned (holdsV L.length (valuesN W vals L) (ps.getD j default).cs) ∧ Below w'.heap.size w' w'') := Lib.hid fun j hj w' hb =>
          holds30 (HPV.out.below hb) h1 h2 HLL.out vals HL2.out hl2 (HA2.out.below (HLW.out w' hb)) HSM.out _ rfl (HSHT.out j hj).1 ((HK1.out _ (getD_mem default ps j hj)).below (HLW.out w' hb)).c _ _ _ _ _ _ _ _ _ _ _ _ _ _
        have H31 : Hid (∀ j, j < ps.length → ∀ w', Below wG.heap.size wG w' → Calls Tryd.prog 31 #[.pointer (some ⟨r, 0, none⟩), (ps.getD j default).v, .slice a2 l2 k2] w' fun e w'' => e = .returned (holdsV L.length (valuesN W vals L) (ps.getD j default).cs) ∧ Below w'.heap.size w' w'') := Lib.hid fun j hj w' hb =>
          holds31 (HRV.out.below hb) h1 h2 HLL.out vals HL2.out hl2 (HA2.out.below (HLW.out w' hb)) HSM.out _ rfl (HSHT.out j hj).1 ((HK1.out _ (getD_mem default ps j hj)).below (HLW.out w' hb)).c _ _ _ _ _ _ _ _ _ _ _ _ _ _
        have H32 : Hid (∀ j, j < ps.length → ∀ w', Below wG.heap.size wG w' → Calls Tryd.prog 32 #[.pointer (some ⟨g, 0, none⟩), (ps.getD j default).v, .slice a2 l2 k2] w' (TrP w' (traceN L.length (valuesN W vals L) (ps.getD j default)))) := Lib.hid fun j hj w' hb =>
          trace32 (HPV.out.below hb) h1 h2 HLL.out vals HL2.out hl2 (HA2.out.below (HLW.out w' hb)) HSM.out _ ((HK1.out _ (getD_mem default ps j hj)).below (HLW.out w' hb)) (HSHT.out j hj)
        have H33 : Hid (∀ j, j < ps.length → ∀ w', Below wG.heap.size wG w' → Calls Tryd.prog 33 #[.pointer (some ⟨r, 0, none⟩), (ps.getD j default).v, .slice a2 l2 k2] w' (TrP w' (traceN L.length (valuesN W vals L) (ps.getD j default)))) := Lib.hid fun j hj w' hb =>
          trace33 (HRV.out.below hb) h1 h2 HLL.out vals HL2.out hl2 (HA2.out.below (HLW.out w' hb)) HSM.out _ ((HK1.out _ (getD_mem default ps j hj)).below (HLW.out w' hb)) (HSHT.out j hj)
        have HOKS : Hid (∀ w', Below wG.heap.size wG w' → ∀ p ∈ ps, p.Ok w' ∧ p.short) := Lib.hid fun w' hb p hp => ⟨(HK1.out p hp).below (HLW.out w' hb), by obtain ⟨j, hj, rfl⟩ := List.getElem_of_mem hp; have := HSHT.out j hj; rwa [List.getD_eq_getElem?_getD, List.getElem?_eq_getElem hj] at this⟩
        have H35 : Hid (∀ w', Below wG.heap.size wG w' → Calls Tryd.prog 35 #[.pointer (some ⟨g, 0, none⟩), .slice a1 k k1, .slice a2 l2 k2] w' fun e w'' => e = .returned (takenV L.length (valuesN W vals L) ps) ∧ Below w'.heap.size w' w'') := Lib.hid fun w' hb =>
          taken35 (HPV.out.below hb) h1 h2 HLL.out vals HL2.out hl2 (HA2.out.below (HLW.out w' hb)) HSM.out ps HL1.out (by omega) (HA1.out.below (HLW.out w' hb)) (HOKS.out w' hb)
        have H36 : Hid (∀ w', Below wG.heap.size wG w' → Calls Tryd.prog 36 #[.pointer (some ⟨r, 0, none⟩), .slice a1 k k1, .slice a2 l2 k2] w' fun e w'' => e = .returned (takenV L.length (valuesN W vals L) ps) ∧ Below w'.heap.size w' w'') := Lib.hid fun w' hb =>
          taken36 (HRV.out.below hb) h1 h2 HLL.out vals HL2.out hl2 (HA2.out.below (HLW.out w' hb)) HSM.out ps HL1.out (by omega) (HA1.out.below (HLW.out w' hb)) (HOKS.out w' hb)
        have HTL : Hid (∀ j, j < ps.length → (traceN L.length (valuesN W vals L) (ps.getD j default)).os.length ≤ 1000 ∧ (traceN L.length (valuesN W vals L) (ps.getD j default)).rs.length ≤ 1000 ∧ (traceN L.length (valuesN W vals L) (ps.getD j default)).bs.length ≤ 1000 ∧ (traceN L.length (valuesN W vals L) (ps.getD j default)).is.length ≤ 1000) := Lib.hid fun j hj => traceN_len _ _ _ (HSHT.out j hj)
        clear HPV HRV HSHT HOKS
        generalize valuesN W vals L = V at *
        generalize L.length = n at *
        go_loopw [12] (fun i wi => ∃ j : Nat, j ≤ k ∧ i = .int .i64 j ∧ Below wG.heap.size wG wi) (fun i _ => k - (intOf i).toNat)
        case atStart => exact ⟨0, by omega, rfl, Below.refl _ _⟩
        case round =>
          obtain ⟨j, hj, rfl, hb⟩ := hrel
          have HBG := Lib.hid hb
          have hzg := hb.size
          clear hb
          by_cases hjk : j < k
          · have hjp : j < ps.length := by rw [HL1.out]; exact hjk
            obtain ⟨pb, po, rfl, hpb, q0, q1, q2, q3, q4, q5, q6⟩ := path_cells HA1.out hjp
            have HPC : Hid (∀ w', Below wG.heap.size wG w' → w'.cell? ⟨pb, po + j * 7, none⟩ = some (.slice (ps.getD j default).ca (ps.getD j default).cs.length (ps.getD j default).cc) ∧ w'.cell? ⟨pb, po + j * 7 + 1, none⟩ = some (.int .u8 (ps.getD j default).st) ∧ w'.cell? ⟨pb, po + j * 7 + 2, none⟩ = some (.int .i64 (ps.getD j default).sp) ∧ w'.cell? ⟨pb, po + j * 7 + 3, none⟩ = some (.slice (ps.getD j default).oa (ps.getD j default).os.length (ps.getD j default).oc) ∧ w'.cell? ⟨pb, po + j * 7 + 4, none⟩ = some (.slice (ps.getD j default).ra (ps.getD j default).rs.length (ps.getD j default).rc) ∧ w'.cell? ⟨pb, po + j * 7 + 5, none⟩ = some (.slice (ps.getD j default).ba (ps.getD j default).bs.length (ps.getD j default).bc) ∧ w'.cell? ⟨pb, po + j * 7 + 6, none⟩ = some (.slice (ps.getD j default).ia (ps.getD j default).is.length (ps.getD j default).ic)) := Lib.hid fun w' hb => by
              have hB := HLW.out w' hb
              exact ⟨(hB.cell (p := ⟨pb, po + j * 7, none⟩) hpb).trans q0, (hB.cell (p := ⟨pb, po + j * 7 + 1, none⟩) hpb).trans q1, (hB.cell (p := ⟨pb, po + j * 7 + 2, none⟩) hpb).trans q2, (hB.cell (p := ⟨pb, po + j * 7 + 3, none⟩) hpb).trans q3, (hB.cell (p := ⟨pb, po + j * 7 + 4, none⟩) hpb).trans q4, (hB.cell (p := ⟨pb, po + j * 7 + 5, none⟩) hpb).trans q5, (hB.cell (p := ⟨pb, po + j * 7 + 6, none⟩) hpb).trans q6⟩
            have hji : (j : Int) < k := by omega
            have X30 := Lib.hid (H30.out j hjp)
            have X31 := Lib.hid (H31.out j hjp)
            have X32 := Lib.hid (H32.out j hjp)
            have X33 := Lib.hid (H33.out j hjp)
            have XTL := Lib.hid (HTL.out j hjp)
            clear q0 q1 q2 q3 q4 q5 q6 hjp
            generalize ps.getD j default = p at *
            generalize traceN n V p = t at *
            obtain ⟨gb, cb, hgb⟩ := holdsV_tuple n V p.cs
            rw [hgb] at X30 X31
            clear hgb
            obtain ⟨ca, cc, cs, st, sp, oa, oc, os, ra, rc, rs, ba, bc, bs, ia, ic, is⟩ := p
            simp only at HPC
            simp only [PathN.v] at X30 X31 X32 X33
            obtain ⟨e0, e1, e2, e3, e4, e5, e6⟩ := HPC.out _ HBG.out
            go_wp2_with (first
              | (go_at_call 30
                 refine (X30.out _ HBG.out).mono ?_
                 rintro e wB ⟨rfl, hB⟩
                 have KB := Lib.hid (HBG.out.trans (hB.mono hzg))
                 obtain ⟨e0, e1, e2, e3, e4, e5, e6⟩ := HPC.out _ KB.out
                 clear hB)
              | (go_at_call 31
                 refine (X31.out _ KB.out).mono ?_
                 rintro e wC ⟨rfl, hC⟩
                 have KC := Lib.hid (KB.out.trans (hC.mono KB.out.size))
                 obtain ⟨e0, e1, e2, e3, e4, e5, e6⟩ := HPC.out _ KC.out
                 clear hC)
              | (go_at_call 32
                 refine (X32.out _ KC.out).mono ?_
                 rintro e wD ⟨v1, rfl, ht1, hD⟩
                 have T1 := Lib.hid ht1
                 obtain ⟨oa1, oc1, ra1, rc1, ba1, bc1, ia1, ic1, hv1, _⟩ := ht1
                 subst hv1
                 have KD := Lib.hid (KC.out.trans (hD.mono KC.out.size))
                 have hzd := KD.out.size
                 have KE : Hid (Below wG.heap.size wG (wD.alloc (.cells #[.int .u8 t.st, .int .i64 t.sp, .slice oa1 t.os.length oc1, .slice ra1 t.rs.length rc1, .slice ba1 t.bs.length bc1, .slice ia1 t.is.length ic1] 46))) := Lib.hid (KD.out.alloc hzd _)
                 obtain ⟨e0, e1, e2, e3, e4, e5, e6⟩ := HPC.out _ KE.out
                 clear hD)
              | (go_at_call 33
                 refine (X33.out _ KE.out).mono ?_
                 rintro e wF ⟨v2, rfl, ht2, hF⟩
                 have T2 := Lib.hid ht2
                 obtain ⟨oa2, oc2, ra2, rc2, ba2, bc2, ia2, ic2, hv2, _⟩ := ht2
                 subst hv2
                 have KF := Lib.hid (KE.out.trans (hF.mono KE.out.size))
                 have hzf := KF.out.size
                 have hdf : wD.heap.size < wF.heap.size := by have := hF.size; simp at this; omega
                 have KG : Hid (Below wG.heap.size wG (wF.alloc (.cells #[.int .u8 t.st, .int .i64 t.sp, .slice oa2 t.os.length oc2, .slice ra2 t.rs.length rc2, .slice ba2 t.bs.length bc2, .slice ia2 t.is.length ic2] 46))) := Lib.hid (KF.out.alloc hzf _)
                 have HCE : Hid (∀ m, (wF.alloc (.cells #[.int .u8 t.st, .int .i64 t.sp, .slice oa2 t.os.length oc2, .slice ra2 t.rs.length rc2, .slice ba2 t.bs.length bc2, .slice ia2 t.is.length ic2] 46)).cell? ⟨wD.heap.size, m, none⟩ = (#[.int .u8 t.st, .int .i64 t.sp, .slice oa1 t.os.length oc1, .slice ra1 t.rs.length rc1, .slice ba1 t.bs.length bc1, .slice ia1 t.is.length ic1] : Array Value)[m]?) := Lib.hid fun m => by
                   rw [World.cell?_alloc_past _ _ _ hdf, hF.cell (p := ⟨wD.heap.size, m, none⟩) (by simp), World.cell?_alloc_new]
                 have y0 := HCE.out 0
                 have y1 := HCE.out 1
                 have y2 := HCE.out 2
                 have y3 := HCE.out 3
                 have y4 := HCE.out 4
                 have y5 := HCE.out 5
                 simp at y0 y1 y2 y3 y4 y5
                 have TA : Hid (TrAt (wF.alloc (.cells #[.int .u8 t.st, .int .i64 t.sp, .slice oa2 t.os.length oc2, .slice ra2 t.rs.length rc2, .slice ba2 t.bs.length bc2, .slice ia2 t.is.length ic2] 46)) t (.agg #[.int .u8 t.st, .int .i64 t.sp, .slice oa1 t.os.length oc1, .slice ra1 t.rs.length rc1, .slice ba1 t.bs.length bc1, .slice ia1 t.is.length ic1])) := Lib.hid (((T1.out.below ((Below.refl _ _).alloc (Nat.le_refl _) _)).below hF).below ((Below.refl _ _).alloc (Nat.le_refl _) _))
                 have TB : Hid (TrAt (wF.alloc (.cells #[.int .u8 t.st, .int .i64 t.sp, .slice oa2 t.os.length oc2, .slice ra2 t.rs.length rc2, .slice ba2 t.bs.length bc2, .slice ia2 t.is.length ic2] 46)) t (.agg #[.int .u8 t.st, .int .i64 t.sp, .slice oa2 t.os.length oc2, .slice ra2 t.rs.length rc2, .slice ba2 t.bs.length bc2, .slice ia2 t.is.length ic2])) := Lib.hid (T2.out.below ((Below.refl _ _).alloc (Nat.le_refl _) _))
                 clear hF)
              | (go_at_call 34
                 refine (same34 TA.out TB.out XTL.out.1 XTL.out.2.1 XTL.out.2.2.1 XTL.out.2.2.2).mono ?_
                 rintro e wH ⟨rfl, hH⟩
                 have KH := Lib.hid (KG.out.trans (hH.mono KG.out.size))
                 clear hH))
            go_roundw
            case rel => exact ⟨j + 1, by omega, by go_num, KH.out⟩
            case measure => simp [intOf] <;> omega
          · obtain rfl : j = k := by omega
            obtain ⟨x, c, hxc⟩ := takenV_tuple n V ps
            rw [hxc] at H35 H36
            clear hxc
            go_wp2_with (first
              | (go_at_call 35
                 refine (H35.out _ HBG.out).mono ?_
                 rintro e wB ⟨rfl, hB⟩
                 have KB := Lib.hid (HBG.out.trans (hB.mono hzg))
                 clear hB)
              | (go_at_call 36
                 refine (H36.out _ KB.out).mono ?_
                 rintro e wC ⟨rfl, hC⟩
                 have KC := Lib.hid (HLW.out _ (KB.out.trans (hC.mono KB.out.size)))
                 clear hC)
              | (go_at_call 18
                 refine (HAW.out _ KC.out).mono ?_
                 rintro e wD ⟨rfl, hD⟩
                 have KD := Lib.hid (KC.out.trans (hD.mono KC.out.size))
                 clear hD))
            go_ret
            exact ⟨rfl, KD.out⟩
end Go.Proofs.YtjhbabgcoemecaaDoor
