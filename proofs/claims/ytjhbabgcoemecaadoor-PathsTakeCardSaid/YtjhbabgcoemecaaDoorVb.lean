/- Walk: Is, All, Eval of the reference. -/
import Derived.Test.YtjhbabgcoemecaaDoorVa
namespace Go.Proofs.YtjhbabgcoemecaaDoor
open Go.RowKit

def inG (n : Nat) (t : Int) : Bool := decide (0 ≤ t) && decide (t < n)
theorem isR86 {w : World} {r W : Nat} {L : List Nd} (h : RV w r W L) (t : Int) : Calls Tryd.prog 86 #[.pointer (some ⟨r, 0, none⟩), .int .i64 t] w fun e w' => e = .returned (.bool (inG L.length t)) ∧ w = w' := by
  obtain ⟨na, ncap, c2, _⟩ := h.nodes
  have HIN : Hid (inG L.length t = (decide (0 ≤ t) && decide (t < L.length))) := Lib.hid rfl
  clear h
  generalize inG L.length t = z at *
  by_cases h0 : 0 ≤ t
  · have d0 : decide (0 ≤ t) = true := decide_eq_true h0
    go_enter Tryd.func86, Tryd.ntmps86
    go_wp2_with fail
    go_ret
    exact ⟨by rw [HIN.out, d0, Bool.true_and]; rfl, rfl⟩
  · have d0 : decide (0 ≤ t) = false := decide_eq_false h0
    go_enter Tryd.func86, Tryd.ntmps86
    go_wp2_with fail
    go_ret
    exact ⟨by rw [HIN.out, d0, Bool.false_and]; rfl, rfl⟩

set_option maxRecDepth 100000 in
set_option maxHeartbeats 8000000 in
theorem all78 {w : World} {r W : Nat} {L : List Nd} (h : RV w r W L) (h1 : 1 ≤ W) (h2 : W ≤ 64) (hL : L.length ≤ 60) (t : Int) (vals : List Nat) {a a1 : Option Addr} {len cap c1 : Nat} (hlen : vals.length = len) (hvl : len ≤ 100) (hat : (Lay.int .u64).At 0 w a (intsN vals)) (hsm : ∀ v ∈ vals, v < 18446744073709551616) (hat1 : (Lay.int .i64).At 0 w a1 [t]) :
    Calls Tryd.prog 78 #[.pointer (some ⟨r, 0, none⟩), .slice a1 1 c1, .slice a len cap] w fun e w' => (if inG L.length t = true then ∃ v, e = .returned (.tuple #[v, .int .i64 0]) ∧ OwnU w' w.heap.size v [(valuesN W vals L).getD t.toNat 0] else e = .returned (.tuple #[.slice none 0 0, .int .i64 3])) ∧ Below w.heap.size w w' := by
  subst hlen
  have HR := Lib.hid h
  have HAT := Lib.hid hat
  have HSM := Lib.hid hsm
  have HAT1 := Lib.hid hat1
  clear h hat hsm hat1
  go_enter Tryd.func78, Tryd.ntmps78
  have HIS := Lib.hid (isR86 HR.out t)
  have HVC : Hid (Calls Tryd.prog 88 #[.pointer (some ⟨r, 0, none⟩), .slice a vals.length cap] w fun e w' => ∃ v, e = .returned v ∧ OwnU w' w.heap.size v (valuesN W vals L) ∧ Below w.heap.size w w') := Lib.hid (values88 (cap := cap) HR.out h1 h2 hL vals rfl hvl HAT.out HSM.out)
  have HGT : Hid (inG L.length t = true → t.toNat < L.length ∧ (t.toNat : Int) = t) := Lib.hid (fun h => by simp [inG] at h; omega)
  have HVL := Lib.hid (valuesN_len W vals L)
  obtain ⟨ib, io, rfl, hib, i0⟩ := HAT1.out.int (i := 0) (by simp)
  simp only [List.getD_cons_zero, Nat.add_zero] at i0
  generalize valuesN W vals L = V at *
  generalize hq : V.getD t.toNat 0 = q
  have HQQ := Lib.hid hq
  clear hq
  generalize inG L.length t = g at *
  go_wp2_with fail
  go_loopw [8] (fun i wr => ∃ k : Nat, k ≤ 1 ∧ i = .int .i64 k ∧ (k = 1 → g = true) ∧ Hid (wr = w)) (fun i _ => 1 - (intOf i).toNat)
  case atStart => exact ⟨0, by omega, rfl, fun h => by simp at h, Lib.hid rfl⟩
  case round =>
    obtain ⟨k, hk, rfl, hkg, hw⟩ := hrel
    obtain rfl := hw.out.symm
    by_cases hk0 : k = 0
    · subst hk0
      cases g with
      | false =>
        go_wp2_with (first
          | (go_at_call 86
             refine HIS.out.mono ?_
             rintro e wB ⟨rfl, rfl⟩))
        go_ret2
        exact ⟨rfl, Below.refl _ _⟩
      | true =>
        go_wp2_with (first
          | (go_at_call 86
             refine HIS.out.mono ?_
             rintro e wB ⟨rfl, rfl⟩))
        go_roundw
        case rel => exact ⟨1, by omega, by go_num, by first | exact fun _ => rfl | exact fun _ => trivial | trivial, by first | exact Lib.hid rfl | exact Lib.hid trivial⟩
        case measure => simp [intOf]
    · obtain rfl : k = 1 := by omega
      obtain rfl := hkg rfl
      obtain ⟨ht, hte⟩ := HGT.out rfl
      go_wp2_with (first
        | (go_at_call 88
           refine HVC.out.mono ?_
           rintro e wB ⟨v, rfl, hov, hbv⟩))
      have HOV := Lib.hid hov
      have hzB := hbv.size
      have HBV := Lib.hid hbv
      obtain ⟨av, cv, e5, hatv, _, _⟩ := HOV.out.at_
      rw [intsN_len, HVL.out] at e5
      subst e5
      obtain ⟨jb, jo, rfl, hjb, hj0⟩ := hatv.int (i := t.toNat) (by rw [intsN_len, HVL.out]; exact ht)
      rw [intsN_getD] at hj0
      clear hov hbv hatv
      have i1 := (HBV.out.cell (p := ⟨ib, io, none⟩) hib).trans i0
      rw [HQQ.out] at hj0
      have htl : t < L.length := by omega
      have ht0 : 0 ≤ t := by omega
      go_loopw [10, 11] (fun v i wi => ∃ k : Nat, k ≤ 1 ∧ i = .int .i64 k ∧ Hid ((Lay.int .u64).Own 33 wi wB.heap.size v (([(q : Int)]).take k)) ∧ Below wB.heap.size wB wi) (fun _ i _ => 1 - (intOf i).toNat)
      case atStart => exact ⟨0, by omega, rfl, Lib.hid (Lay.Own.nil _ _), Below.refl _ _⟩
      case round =>
        obtain ⟨k, hk, rfl, hown, hbi⟩ := hrel
        have HBI := Lib.hid hbi
        have hsi := hbi.size
        by_cases hk0 : k = 0
        · subst hk0
          have i2 := (hbi.cell (p := ⟨ib, io, none⟩) (by show ib < _; omega)).trans i1
          have j2 := (hbi.cell (p := ⟨jb, jo + t.toNat, none⟩) hjb).trans hj0
          clear hbi
          as_aux_lemma =>
            go_wp2_with (at_builtin; refine app_lay_new_g (base := wB.heap.size) Tryd.elemU [(q : Int)] rfl _ _ rfl rfl hown.out rfl (by simp) rfl (by simp) (by exact hsi) ?_)
            intro v' w5 r1 r2
            have HO5 := Lib.hid r1
            have HB5 := Lib.hid (HBI.out.trans r2)
            clear r1 r2
            go_wp2_with fail
            go_roundw
            case rel => exact ⟨1, by omega, by go_num, Lib.hid (by exact HO5.out), HB5.out⟩
            case measure => simp [intOf]
        · obtain rfl : k = 1 := by omega
          clear hbi
          go_wp2_with fail
          go_ret2
          have HF : Hid ((Lay.int .u64).Own 33 wr w.heap.size _ [(q : Int)]) := Lib.hid (hown.out.lower hzB)
          refine ⟨⟨_, rfl, ?_⟩, HBV.out.trans (HBI.out.mono hzB)⟩
          exact HF.out
end Go.Proofs.YtjhbabgcoemecaaDoor
