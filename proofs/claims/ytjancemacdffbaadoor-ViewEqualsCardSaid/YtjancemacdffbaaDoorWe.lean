/- Walks of weepholeref33: input, Inputs. -/
import Derived.Test.YtjancemacdffbaaDoorWd
namespace Go.Proofs.YtjancemacdffbaaDoor
open Go.RowKit

set_option maxHeartbeats 400000 in
theorem input_any (a : Option Addr) (len cap : Nat) (rows : List (List Int)) (c k : Nat) (w : World) (hlen : rows.length = len) (hat : RowsAt w a rows) :
    Calls Tryd.prog 61 #[.slice a len cap, .int .i64 c, .int .i64 k] w fun e w' => e = .returned (.int .u64 ((rows.getD c []).getD k 0)) ∧ w = w' := by
  have HLEN := Lib.hid hlen
  by_cases h1 : c < len
  · obtain ⟨pb, po, ra, rc, rfl, hpb, hp0, hra, hrl, hrc⟩ := hat c (by rw [hlen]; exact h1)
    clear hat hlen
    have h1' : decide ((len : Int) ≤ c) = false := by simp; omega
    have hi1 : (c : Int) < len := by omega
    generalize rows.getD c [] = r at *
    by_cases h2 : k < r.length
    · obtain ⟨qb, qo, rfl, hqb, hq0⟩ := hra.int h2
      have h2' : decide ((r.length : Int) ≤ k) = false := by simp; omega
      have hi2 : (k : Int) < r.length := by omega
      clear hra
      generalize r.getD k 0 = v at *
      go_enter Tryd.func61, Tryd.ntmps61
      go_wp2_with fail
      go_ret
      exact ⟨rfl, rfl⟩
    · have h2' : (r.length : Int) ≤ k := by omega
      have HR := Lib.hid (getD_ge 0 r k (by omega))
      clear hra
      go_enter Tryd.func61, Tryd.ntmps61
      go_wp2_with fail
      go_ret
      exact ⟨by rw [HR.out]; rfl, rfl⟩
  · have h1' : (len : Int) ≤ c := by omega
    have HR : Hid ((rows.getD c []).getD k 0 = 0) := by (show _ = _); rw [getD_ge [] rows c (by rw [hlen]; omega)]; rfl
    clear hat hlen HLEN
    go_enter Tryd.func61, Tryd.ntmps61
    go_wp2_with fail
    go_ret
    exact ⟨by rw [HR.out]; rfl, rfl⟩

/-- the channels below c agree -/
def allOk (n : Nat) (up : Nat → Nat) (level : Int) (xs : List Int) (A B : List (List Int)) (c : Nat) : Bool := (List.range c).all (chanOk n up level xs A B)
theorem allOk_succ (n : Nat) (up : Nat → Nat) (level : Int) (xs : List Int) (A B : List (List Int)) (c : Nat) : allOk n up level xs A B (c + 1) = (allOk n up level xs A B c && chanOk n up level xs A B c) := range_all_succ _ _
def agreeTo (ra rb : List Int) (k : Nat) : Bool := (List.range k).all fun i => ra.getD i 0 == rb.getD i 0
theorem agreeTo_succ (ra rb : List Int) (k : Nat) : agreeTo ra rb (k + 1) = (agreeTo ra rb k && (ra.getD k 0 == rb.getD k 0)) := range_all_succ _ _

set_option maxHeartbeats 4000000 in
set_option maxRecDepth 100000 in
theorem rinputs_any (xb n : Nat) (up : Nat → Nat) (level : Int) (a : Option Addr) (len cap : Nat) (xs : List Int) (aa : Option Addr) (alen acap : Nat) (A : List (List Int)) (ba : Option Addr) (blen bcap : Nat) (B : List (List Int)) (w : World)
    (hR : RefL w xb n up) (hlen : xs.length = len) (hat : (Lay.int .i64).At 0 w a xs) (hsm : len ≤ 10000)
    (hal : A.length = alen) (hA : RowsAt w aa A) (hAo : RowsOk A) (hbl : B.length = blen) (hB : RowsAt w ba B) (hBo : RowsOk B) :
    Calls Tryd.prog 44 #[.pointer (some ⟨xb, 0, none⟩), .int .i64 level, .slice a len cap, .slice aa alen acap, .slice ba blen bcap] w (InPost w (inR n up level xs A B)) := by
  have HR := Lib.hid hR
  have HLEN := Lib.hid hlen
  have HAT := Lib.hid hat
  have HAL := Lib.hid hal
  have HA := Lib.hid hA
  have HAO := Lib.hid hAo
  have HBL := Lib.hid hbl
  have HB := Lib.hid hB
  have HBO := Lib.hid hBo
  clear hR hlen hat hal hA hAo hbl hB hBo
  go_enter Tryd.func44, Tryd.ntmps44
  go_wp2_with fail
  refine (known_any xb n up level a len cap xs _ HR.out HLEN.out HAT.out hsm).mono ?_
  rintro e w1 ⟨rfl, hS1⟩
  have hb1 := hS1.below w.heap.size
  cases hm : mayB n level xs with
  | false =>
    have HRR : Hid (inR n up level xs A B = (false, 3)) := by show _ = _; unfold inR; rw [hm]; rfl
    clear hm
    go_wp2_with fail
    go_ret2
    exact ⟨by rw [HRR.out]; rfl, hb1⟩
  | true =>
    have HM := Lib.hid hm
    clear hm
    by_cases ha2 : len < alen
    · have HRR : Hid (inR n up level xs A B = (false, 3)) := by show _ = _; unfold inR; rw [HM.out, HLEN.out, HAL.out, show decide (len < alen) = true by simp [ha2]]; rfl
      go_wp2_with fail
      go_ret2
      exact ⟨by rw [HRR.out]; rfl, hb1⟩
    · have ha2' : decide (len < alen) = false := by simpa using ha2
      by_cases hb2 : len < blen
      · have HRR : Hid (inR n up level xs A B = (false, 3)) := by show _ = _; unfold inR; rw [HM.out, HLEN.out, HAL.out, HBL.out, ha2', show decide (len < blen) = true by simp [hb2]]; rfl
        go_wp2_with fail
        go_ret2
        exact ⟨by rw [HRR.out]; rfl, hb1⟩
      · have hb2' : decide (len < blen) = false := by simpa using hb2
        have HRes : Hid (inR n up level xs A B = (allOk n up level xs A B len, 0)) := by
          show _ = _; unfold inR allOk; rw [HM.out, HLEN.out, HAL.out, HBL.out, ha2', hb2']; rfl
        have HR1 := Lib.hid (HR.out.same hS1)
        have HAT1 := Lib.hid (HAT.out.same hS1)
        have HA1 := Lib.hid (HA.out.below (hS1.below _))
        have HB1 := Lib.hid (HB.out.below (hS1.below _))
        clear HR HAT HA HB hS1
        go_wp2_with fail
        go_loop [12, 13] (fun v i => ∃ c : Nat, c ≤ len ∧ i = .int .i64 c ∧ v = .bool (allOk n up level xs A B c)) (fun _ i => len - (intOf i).toNat)
        case atStart => exact ⟨0, by omega, rfl, rfl⟩
        case round =>
          obtain ⟨c, hc, rfl, rfl⟩ := hrel
          by_cases hlt : c < len
          · have Hs := Lib.hid (allOk_succ n up level xs A B c)
            have hcx : c < xs.length := by rw [HLEN.out]; exact hlt
            obtain ⟨pb, po, rfl, hpb, hp0⟩ := HAT1.out.int hcx
            have HLe := Lib.hid (rle_eq xb n up (xs.getD c 0) level w1 HR1.out)
            have HIa := Lib.hid (fun k => input_any aa alen acap A c k w1 HAL.out HA1.out)
            have HIb := Lib.hid (fun k => input_any ba blen bcap B c k w1 HBL.out HB1.out)
            have hlt2 : (c : Int) < len := by omega
            have hra := HAO.out.len c
            have hrb := HBO.out.len c
            generalize allOk n up level xs A B c = ok at *
            go_upto_if 46 with (fail)
            go_cut [14] (fun v wx => v = .int .i64 ((A.getD c []).length : Nat) ∧ wx = w1)
            case first =>
              by_cases hca : c < alen
              · simp only [decide_eq_true hca]
                obtain ⟨qb, qo, ra, rc, rfl, hqb, hq0, hrr, hrl, hrc⟩ := HA1.out c (by rw [HAL.out]; exact hca)
                have hca2 : (c : Int) < alen := by omega
                clear hrr
                generalize (A.getD c []).length = m at *
                by_cases hm0 : m = 0
                · subst hm0
                  go_wp2_with fail
                  go_meet
                  exact ⟨rfl, rfl⟩
                · have hm1 : (0 : Int) < m := by omega
                  go_wp2_with fail
                  go_meet
                  exact ⟨rfl, rfl⟩
              · have hcA : A.getD c [] = [] := getD_ge _ _ _ (by rw [HAL.out]; omega)
                have HcA := Lib.hid hcA
                clear hcA
                go_wp2_with fail
                go_meet
                rw [HcA.out]
                exact ⟨rfl, rfl⟩
            case rest =>
              obtain ⟨rfl, rfl⟩ := hcut
              go_upto_if 57 with (fail)
              go_cut [14] (fun v wx => v = .int .i64 ((max (A.getD c []).length (B.getD c []).length : Nat) : Int) ∧ wx = wc)
              case first =>
                generalize (A.getD c []).length = ma at *
                by_cases hcb : c < blen
                · simp only [decide_eq_true hcb]
                  obtain ⟨qb, qo, ra, rc, rfl, hqb, hq0, hrr, hrl, hrc⟩ := HB1.out c (by rw [HBL.out]; exact hcb)
                  have hcb2 : (c : Int) < blen := by omega
                  clear hrr
                  generalize (B.getD c []).length = m at *
                  by_cases hm0 : ma < m
                  · have Hmx : Hid (max ma m = m) := by (show _ = _); omega
                    go_wp2_with fail
                    go_meet
                    rw [Hmx.out]
                    exact ⟨rfl, rfl⟩
                  · have Hmx : Hid (max ma m = ma) := by (show _ = _); omega
                    go_wp2_with fail
                    go_meet
                    rw [Hmx.out]
                    exact ⟨rfl, rfl⟩
                · have hcB : B.getD c [] = [] := getD_ge _ _ _ (by rw [HBL.out]; omega)
                  have HcB := Lib.hid hcB
                  clear hcB
                  go_wp2_with fail
                  go_meet
                  rw [HcB.out]
                  exact ⟨by simp, rfl⟩
              case rest =>
                obtain ⟨rfl, rfl⟩ := hcut
                have Hch : Hid (chanOk n up level xs A B c = (!leB n up (xs.getD c 0) level || agreeTo (A.getD c []) (B.getD c []) (max (A.getD c []).length (B.getD c []).length))) := rfl
                have hmx : max (A.getD c []).length (B.getD c []).length ≤ 100000 := by omega
                generalize max (A.getD c []).length (B.getD c []).length = m at *
                generalize A.getD c [] = ra at *
                generalize B.getD c [] = rb at *
                generalize xs.getD c 0 = x at *
                cases hle : leB n up x level with
                | false =>
                  rw [hle] at HLe Hch
                  clear hle
                  go_wp2_with fail
                  go_loop [12, 15] (fun v i => i = .int .i64 0 ∧ v = .bool ok) (fun _ _ => 0)
                  case atStart => exact ⟨rfl, rfl⟩
                  case round =>
                    obtain ⟨rfl, rfl⟩ := hrel
                    by_cases hm0 : (0 : Int) < m
                    · go_wp2_with fail
                      refine HLe.out.mono ?_
                      rintro e w' ⟨rfl, rfl⟩
                      go_wp2_with fail
                      go_round
                      case rel => exact ⟨c + 1, by omega, by go_num, by rw [Hs.out, Hch.out]; simp⟩
                      case measure => simp [intOf]; omega
                    · have hm0' : decide ((0 : Int) < m) = false := by simpa using hm0
                      go_wp2_with fail
                      go_round
                      case rel => exact ⟨c + 1, by omega, by go_num, by rw [Hs.out, Hch.out]; simp⟩
                      case measure => simp [intOf]; omega
                | true =>
                  rw [hle] at HLe Hch
                  clear hle
                  go_wp2_with fail
                  go_loop [12, 15] (fun v i => ∃ k : Nat, k ≤ m ∧ i = .int .i64 k ∧ v = .bool (ok && agreeTo ra rb k)) (fun _ i => m - (intOf i).toNat)
                  case atStart => exact ⟨0, by omega, rfl, by simp [agreeTo]⟩
                  case round =>
                    obtain ⟨k, hk, rfl, rfl⟩ := hrel
                    by_cases hkm : k < m
                    · have Hag := Lib.hid (agreeTo_succ ra rb k)
                      have HIak := Lib.hid (HIa.out k)
                      have HIbk := Lib.hid (HIb.out k)
                      generalize ra.getD k 0 = va at *
                      generalize rb.getD k 0 = vb at *
                      have hkm2 : (k : Int) < m := by omega
                      cases hag : (ok && agreeTo ra rb k) with
                      | false =>
                        have HagF : Hid ((ok && agreeTo ra rb (k + 1)) = false) := by (show _ = _); rw [Hag.out, ← Bool.and_assoc, hag]; rfl
                        clear hag
                        go_wp2_with fail
                        refine HLe.out.mono ?_
                        rintro e w' ⟨rfl, rfl⟩
                        go_wp2_with fail
                        go_round
                        case rel => exact ⟨k + 1, by omega, by go_num, by rw [HagF.out]⟩
                        case measure => simp [intOf]; omega
                      | true =>
                        have HagF : Hid ((ok && agreeTo ra rb (k + 1)) = (va == vb)) := by (show _ = _); rw [Hag.out, ← Bool.and_assoc, hag]; rfl
                        clear hag
                        go_wp2_with fail
                        refine HLe.out.mono ?_
                        rintro e w' ⟨rfl, rfl⟩
                        go_wp2_with fail
                        refine HIak.out.mono ?_
                        rintro e w' ⟨rfl, rfl⟩
                        go_wp2_with fail
                        refine HIbk.out.mono ?_
                        rintro e w' ⟨rfl, rfl⟩
                        go_wp2_with fail
                        go_round
                        case rel => exact ⟨k + 1, by omega, by go_num, by rw [HagF.out]⟩
                        case measure => simp [intOf]; omega
                    · obtain rfl : k = m := by omega
                      go_wp2_with fail
                      go_round
                      case rel => exact ⟨c + 1, by omega, by go_num, by rw [Hs.out, Hch.out]; simp⟩
                      case measure => simp [intOf]; omega
          · obtain rfl : c = len := by omega
            go_wp2_with fail
            go_ret2
            exact ⟨by rw [HRes.out]; rfl, hb1⟩

end Go.Proofs.YtjancemacdffbaaDoor
