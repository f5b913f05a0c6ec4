/- Walk: Vals. -/
import Derived.Test.YtjhbabgcoemecaaDoorPd
namespace Go.Proofs.YtjhbabgcoemecaaDoor
open Go.RowKit

set_option maxHeartbeats 8000000 in
set_option maxRecDepth 100000 in
theorem vals20_ok (ch : Nat) (a : Option Addr) (len cap : Nat) (rows : List (List Int)) (w : World) (hlen : rows.length = len) (hat : RowsAt w a rows) (hr : ∀ c, (rows.getD c []).length ≤ 100) (h1 : 1 ≤ ch) (h2 : ch ≤ 32) (h3 : len ≤ ch) :
    Calls Tryd.prog 20 #[.int .i64 ch, .slice a len cap] w (ValsPost w (0, valC ch rows len)) := by
  have HA := Lib.hid hat
  have HLEN := Lib.hid hlen
  have HR := Lib.hid hr
  clear hat hlen hr
  have d1 : decide ((ch : Int) < 1) = false := by simp; omega
  have d2 : decide (32 < (ch : Int)) = false := by simp; omega
  have d3 : decide (ch < len) = false := by simp; omega
  go_enter Tryd.func20, Tryd.ntmps20
  go_wp2_with fail
  go_loopw [28] (fun i wr => ∃ c : Nat, c ≤ len ∧ i = .int .i64 c ∧ Hid (wr = w)) (fun i _ => len - (intOf i).toNat)
  case atStart => exact ⟨0, by omega, rfl, Lib.hid rfl⟩
  case round =>
    obtain ⟨c, hc, rfl, hw⟩ := hrel
    obtain rfl := hw.out.symm
    clear hw
    by_cases hlt : c < len
    · have hcx : c < rows.length := by rw [HLEN.out]; exact hlt
      obtain ⟨pb, po, ra, rc, rfl, hpb, hp0, hra, hrl, hrc⟩ := HA.out c hcx
      have hrow := HR.out c
      have hci : (c : Int) < len := by omega
      clear hra
      generalize rows.getD c [] = r at *
      go_wp2_with fail
      go_roundw
      case rel => exact ⟨c + 1, by omega, by go_num, by first | trivial | exact Lib.hid rfl⟩
      case measure => simp [intOf]; omega
    · clear hc
      go_wp2_with fail
      go_loopw [8, 38] (fun v i w1 => ∃ c : Nat, c ≤ len ∧ i = .int .i64 c ∧ (Lay.int .u64).Own 33 w1 w.heap.size v (valC ch rows c) ∧ Below w.heap.size w w1) (fun _ i _ => len - (intOf i).toNat)
      case atStart => exact ⟨0, by omega, rfl, Lay.Own.nil _ _, Below.refl _ _⟩
      case round =>
        clear hlt
        obtain ⟨c, hc, rfl, hown, hbel⟩ := hrel
        have hsz := hbel.size
        by_cases hlt : c < len
        · have hcx : c < rows.length := by rw [HLEN.out]; exact hlt
          obtain ⟨pb, po, ra, rc, rfl, hpb, hp0, hra, hrl, hrc⟩ := HA.out c hcx
          have hp0' := (hbel.cell (p := ⟨pb, po + c, none⟩) hpb).trans hp0
          have hrow := HR.out c
          have hci : (c : Int) < len := by omega
          have HRA := Lib.hid hra
          have HL0 := Lib.hid (valC_len h2 HR.out c (by omega))
          have HC1 := Lib.hid (show valC ch rows (c + 1) = valK ch c (rows.getD c []) (valC ch rows c) (rows.getD c []).length from rfl)
          clear hra hp0
          generalize rows.getD c [] = r at *
          generalize valC ch rows c = l0 at *
          go_wp2_with fail
          go_loopw [8, 46] (fun v i w2 => ∃ k : Nat, k ≤ r.length ∧ i = .int .i64 k ∧ (Lay.int .u64).Own 33 w2 w.heap.size v (valK ch c r l0 k) ∧ Below w.heap.size w w2) (fun _ i _ => r.length - (intOf i).toNat)
          case atStart => exact ⟨0, by omega, rfl, hown, hbel⟩
          case round =>
            clear hown hbel hsz hp0'
            obtain ⟨k, hk, rfl, hown, hbel⟩ := hrel
            have hsz := hbel.size
            by_cases hlk : k < r.length
            · obtain ⟨qb, qo, rfl, hqb, hq0⟩ := HRA.out.int hlk
              have hq0' := (hbel.cell (p := ⟨qb, qo + k, none⟩) hqb).trans hq0
              have hki : (k : Int) < r.length := by omega
              have HLk := Lib.hid (valK_len (row := r) (show c < ch by omega) h2 HL0.out k (by omega))
              have HPl := Lib.hid (place_le (show c < ch by omega) h2 (show k < 100 by omega))
              have HIN := Lib.hid (inp_nat h1 h2 (show c < ch by omega) (show k < 65536 by omega))
              have HK1 := Lib.hid (show valK ch c r l0 (k + 1) = putV (valK ch c r l0 k) (2 * (k * ch + c)) (r.getD k 0) from rfl)
              clear hq0
              generalize r.getD k 0 = x at *
              generalize valK ch c r l0 k = l1 at *
              generalize 2 * (k * ch + c) = N at *
              go_wp2_with fail
              refine (input11_any ch c k wr).mono ?_
              rw [HIN.out]
              rintro e w3 ⟨rfl, rfl⟩
              have hN := HPl.out
              have hl1 := HLk.out
              go_wp2_with fail
              go_loopw [8] (fun v w3 => ∃ j : Nat, (Lay.int .u64).Own 33 w3 w.heap.size v (padJ l1 j) ∧ l1.length + j ≤ max l1.length (N + 1) ∧ Below w.heap.size w w3) (fun v _ => N + 1 - lenOf v)
              case atStart => exact ⟨0, by rw [padJ_zero]; exact hown, by omega, hbel⟩
              case round =>
                clear hown hbel hsz hq0'
                obtain ⟨j, hown, hj, hbel⟩ := hrel
                have hsz := hbel.size
                have hL : (padJ l1 j).length = l1.length + j := by simp [padJ]
                obtain ⟨a8, c8, hv8⟩ := hown.lenOf
                rw [hL] at hv8
                subst hv8
                by_cases hle : l1.length + j ≤ N
                · have hm := Lib.hid (pad_more l1 j)
                  go_wp2_with (at_builtin; refine app_lay_new Tryd.elemU [0] rfl _ _ rfl rfl hown rfl rfl (by rw [hL]; omega) hsz ?_)
                  intro v' w5 r1 r2
                  have hlv : lenOf v' = l1.length + j + 1 := by
                    obtain ⟨a9, c9, hv9⟩ := r1.lenOf
                    rw [hv9]; simp only [lenOf, List.length_append, hL, List.length_singleton]
                  clear hown
                  go_wp2_with fail
                  go_roundw
                  case rel => exact ⟨j + 1, by rw [hm.out]; exact r1, by omega, hbel.trans r2⟩
                  case measure => rw [hlv]; simp only [lenOf]; omega
                · have hpd := pad_done hj hle
                  rw [hpd] at hown
                  have hNl : N < (padV l1 N).length := by rw [padV_len]; omega
                  obtain ⟨g, cap8, u, hv, hg, hcl, hfz, hown2, hgr⟩ := hown.put hNl x
                  injection hv with hv1 hv2 hv3
                  subst hv1
                  have hNi : (N : Int) < (l1.length : Int) + j := by omega
                  clear hown hpd hL hj
                  go_wp2_with fail
                  go_roundw
                  case rel => exact ⟨k + 1, by omega, by go_num, by rw [HK1.out]; exact hown2, hbel.grown hgr hsz (fun q hq => by injection hq with hq; omega)⟩
                  case measure => simp [intOf]; omega
            · obtain rfl : k = r.length := by omega
              rw [← HC1.out] at hown
              clear HL0 HC1
              go_wp2_with fail
              go_roundw
              case rel => exact ⟨c + 1, by omega, by go_num, hown, hbel⟩
              case measure => simp [intOf]; omega
        · obtain rfl : c = len := by omega
          go_wp2_with fail
          go_ret2
          exact ⟨_, rfl, hown, hbel⟩
set_option maxHeartbeats 1000000 in
theorem vals20_bad (ch : Int) (a : Option Addr) (len cap : Nat) (w : World) (hb : ch < 1 ∨ 32 < ch ∨ ch < len) : Calls Tryd.prog 20 #[.int .i64 ch, .slice a len cap] w (ValsPost w (3, [])) := by
  go_enter Tryd.func20, Tryd.ntmps20
  by_cases a0 : ch < 1
  · clear hb
    go_wp2_with fail
    go_ret2
    exact ⟨_, rfl, Lay.Own.nil _ _, Below.refl _ _⟩
  by_cases a1 : 32 < ch
  · clear hb
    go_wp2_with fail
    go_ret2
    exact ⟨_, rfl, Lay.Own.nil _ _, Below.refl _ _⟩
  have a2 : ch < len := by omega
  clear hb
  go_wp2_with fail
  go_ret2
  exact ⟨_, rfl, Lay.Own.nil _ _, Below.refl _ _⟩
theorem vals20_any (ch : Int) (a : Option Addr) (len cap : Nat) (rows : List (List Int)) (w : World) (hlen : rows.length = len) (hat : RowsAt w a rows) (hr : ∀ c, (rows.getD c []).length ≤ 100) :
    Calls Tryd.prog 20 #[.int .i64 ch, .slice a len cap] w (ValsPost w (valsR ch rows)) := by
  by_cases hb : ch < 1 ∨ 32 < ch ∨ ch < len
  · have e : valsR ch rows = (3, []) := if_pos (by rw [hlen]; exact hb)
    rw [e]
    exact vals20_bad ch a len cap w hb
  · have e : valsR ch rows = (0, valC ch.toNat rows len) := by unfold valsR; rw [hlen, if_neg hb]
    rw [e]
    have h := vals20_ok ch.toNat a len cap rows w hlen hat hr (by omega) (by omega) (by omega)
    have e2 : ((ch.toNat : Nat) : Int) = ch := by omega
    rw [e2] at h
    exact h
end Go.Proofs.YtjhbabgcoemecaaDoor
