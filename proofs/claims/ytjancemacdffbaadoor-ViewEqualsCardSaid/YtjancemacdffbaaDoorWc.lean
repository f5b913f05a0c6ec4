/- Walks: Few, Short, Lattices; the law ViewEvents. -/
import Derived.Test.YtjancemacdffbaaDoorWb
namespace Go.Proofs.YtjancemacdffbaaDoor
open Go.RowKit

def fewB (a b c : Nat) : Bool := decide (a ≤ 30) && decide (b ≤ 40) && decide (c ≤ 30)
set_option maxHeartbeats 400000 in
theorem few_any (a b c : Option Addr) (la lb lc ca cb cc : Nat) (w : World) :
    Calls Tryd.prog 35 #[.slice a la ca, .slice b lb cb, .slice c lc cc] w fun e w' => e = .returned (.bool (fewB la lb lc)) ∧ w = w' := by
  by_cases h1 : (la : Int) ≤ 30
  · by_cases h2 : (lb : Int) ≤ 40
    · have e : Hid (fewB la lb lc = decide (lc ≤ 30)) := by (show _ = _); unfold fewB; rw [show decide (la ≤ 30) = true by simp; omega, show decide (lb ≤ 40) = true by simp; omega]; rfl
      have e2 : Hid (decide ((lc : Int) ≤ 30) = decide (lc ≤ 30)) := by (show _ = _); rw [Bool.eq_iff_iff]; simp; omega
      go_enter Tryd.func35, Tryd.ntmps35
      go_wp2_with fail
      go_ret
      exact ⟨by rw [e.out, ← e2.out]; rfl, rfl⟩
    · have h2' : decide ((lb : Int) ≤ 40) = false := by simpa using h2
      have e : Hid (fewB la lb lc = false) := by (show _ = _); unfold fewB; rw [show decide (lb ≤ 40) = false by simp; omega]; simp
      go_enter Tryd.func35, Tryd.ntmps35
      go_wp2_with fail
      go_ret
      exact ⟨by rw [e.out]; rfl, rfl⟩
  · have h1' : decide ((la : Int) ≤ 30) = false := by simpa using h1
    have e : Hid (fewB la lb lc = false) := by (show _ = _); unfold fewB; rw [show decide (la ≤ 30) = false by simp; omega]; simp
    go_enter Tryd.func35, Tryd.ntmps35
    go_wp2_with fail
    go_ret
    exact ⟨by rw [e.out]; rfl, rfl⟩

/-- a short list of short lists -/
def shortB (rows : List (List Int)) : Bool := decide (rows.length ≤ 40) && rows.all fun r => decide (r.length ≤ 20)
set_option maxHeartbeats 400000 in
theorem short_any (a : Option Addr) (len cap : Nat) (rows : List (List Int)) (w : World) (hlen : rows.length = len) (hat : RowsAt w a rows) :
    Calls Tryd.prog 41 #[.slice a len cap] w fun e w' => e = .returned (.bool (shortB rows)) ∧ w = w' := by
  have HA := Lib.hid hat
  have HLEN := Lib.hid hlen
  clear hat hlen
  by_cases h1 : (40 : Int) < len
  · have e : Hid (shortB rows = false) := by (show _ = _); unfold shortB; rw [HLEN.out, show decide (len ≤ 40) = false by simp; omega]; rfl
    go_enter Tryd.func41, Tryd.ntmps41
    go_wp2_with fail
    go_ret
    exact ⟨by rw [e.out]; rfl, rfl⟩
  · have HF : Hid (∀ i, i < len → ¬ (rows.getD i []).length ≤ 20 → shortB rows = false) := fun i hi h => by
      unfold shortB
      have : rows.all (fun r => decide (r.length ≤ 20)) = false := by
        rw [List.all_eq_false]
        exact ⟨_, getD_mem [] rows i (by rw [HLEN.out]; exact hi), by simpa using h⟩
      rw [this, Bool.and_false]
    have HT : Hid ((∀ i, i < len → (rows.getD i []).length ≤ 20) → shortB rows = true) := fun h => by
      unfold shortB
      have : rows.all (fun r => decide (r.length ≤ 20)) = true := by
        rw [List.all_eq_true]
        intro r hr
        obtain ⟨i, hi, e⟩ := List.getElem_of_mem hr
        have h2 := h i (by rw [← HLEN.out]; exact hi)
        rw [List.getD_eq_getElem?_getD, List.getElem?_eq_getElem hi] at h2
        simp only [Option.getD_some, e] at h2
        simpa using h2
      rw [this, HLEN.out, Bool.and_true]
      simp; omega
    go_enter Tryd.func41, Tryd.ntmps41
    go_wp2_with fail
    go_loop [3] (fun i => ∃ k : Nat, k ≤ len ∧ i = .int .i64 k ∧ Hid (∀ i, i < k → (rows.getD i []).length ≤ 20)) (fun i => len - (intOf i).toNat)
    case atStart => exact ⟨0, by omega, rfl, fun i hi => by omega⟩
    case round =>
      obtain ⟨k, hk, rfl, hall⟩ := hrel
      by_cases hlt : k < len
      · obtain ⟨pb, po, ra, rc, rfl, hpb, hp0, hra, hrl, hrc⟩ := HA.out k (by rw [HLEN.out]; exact hlt)
        have HFk := Lib.hid (HF.out k hlt)
        have HTk := Lib.hid (fun (e : (rows.getD k []).length ≤ 20) => (fun i hi => if h : i = k then by rw [h]; exact e else hall i (by omega) : ∀ i, i < k + 1 → (rows.getD i []).length ≤ 20))
        have hlt2 : (k : Int) < len := by omega
        clear hra
        generalize (rows.getD k []).length = m at *
        by_cases hm : (20 : Int) < m
        · have HRR := Lib.hid (HFk.out (by omega))
          go_wp2_with fail
          go_ret
          exact ⟨by rw [HRR.out]; rfl, rfl⟩
        · have Hall := Lib.hid (HTk.out (by omega))
          go_wp2_with fail
          go_round
          case rel => exact ⟨k + 1, by omega, by go_num, Hall.out⟩
          case measure => simp [intOf]; omega
      · have HRR := Lib.hid (HT.out (fun i hi => hall i (by omega)))
        go_wp2_with fail
        go_ret
        exact ⟨by rw [HRR.out]; rfl, rfl⟩

/-- what Lattices returns: both lattices, or none -/
def LatsPost (w : World) (ps : List (Int × Int)) (n : Int) (e : Ending) (w' : World) : Prop :=
  Below w.heap.size w w' ∧ (e = .returned (.tuple #[.pointer none, .pointer none, .bool true]) ∨
    ∃ (b xb N : Nat) (up dn : Nat → Nat), e = .returned (.tuple #[.pointer (some ⟨b, 0, none⟩), .pointer (some ⟨xb, 0, none⟩), .bool true]) ∧ (N : Int) = n ∧ N ≤ 32 ∧ b < w'.heap.size ∧ LatC w' b N up dn ∧ RefL w' xb N up ∧ IsLat N ps up dn)

set_option maxHeartbeats 400000 in
theorem lats_any (n : Int) (a : Option Addr) (len cap : Nat) (ps : List (Int × Int)) (w : World) (hT : Tab w) (h0 : 0 < w.heap.size) (hlen : ps.length = len) (hp : PairsAt w a ps) :
    Calls Tryd.prog 36 #[.int .i64 n, .slice a len cap] w (LatsPost w ps n) := by
  have HN := Lib.hid (new_all n a len cap w ps hlen hp hT h0)
  have HRN := Lib.hid (fun W (hb : Below w.heap.size w W) => rnew_all n a len cap W ps hlen (hp.below hb))
  clear hT h0 hlen hp
  by_cases hz : (newE n ps).1 = 0
  · have HZ := Lib.hid hz
    have hn : 1 ≤ n ∧ n ≤ 32 ∧ newE n ps = newL n.toNat ps := by
      unfold newE at hz ⊢
      by_cases h1 : n < 1 ∨ 32 < n
      · rw [if_pos h1] at hz; cases hz
      · rw [if_neg h1] at hz ⊢
        by_cases h2 : 1024 < ps.length
        · rw [if_pos h2] at hz; cases hz
        · rw [if_neg h2]; exact ⟨by omega, by omega, rfl⟩
    obtain ⟨hn1, hn2, he⟩ := hn
    obtain ⟨N, rfl⟩ := Int.eq_ofNat_of_zero_le (show 0 ≤ n by omega)
    have hI := (newL_zero (n := N) (ps := ps) (by omega) (by rw [Int.toNat_natCast] at he; rw [← he]; exact hz)).2
    have HI : Hid (IsLat N ps (newE N ps).2.1 (newE N ps).2.2) := by (show IsLat _ _ _ _); rw [he, Int.toNat_natCast]; exact hI
    clear hz he hI
    go_enter Tryd.func36, Tryd.ntmps36
    go_wp2_with fail
    refine HN.out.mono ?_
    rintro e w1 ⟨_, h2, hb1⟩
    obtain ⟨rfl, hL, hbs⟩ := h2 HZ.out
    rw [Int.toNat_natCast] at hL
    have HLt := Lib.hid hL
    clear hL h2
    generalize w.heap.size + 1 = b at *
    go_wp2_with fail
    refine (HRN.out _ hb1).mono ?_
    rintro e w2 ⟨_, h3, hb2⟩
    obtain ⟨rfl, hxs, g, rcap, r, M, hRC, hM⟩ := h3 HZ.out
    rw [Int.toNat_natCast] at hRC hM
    have HRL := Lib.hid (RefL.of hRC HI.out hM)
    have HL2 := Lib.hid (HLt.out.below hb2 hbs)
    have hbs2 : b < w2.heap.size := Nat.lt_of_lt_of_le hbs hb2.size
    have B2 := hb1.trans (hb2.mono hb1.size)
    clear h3 hRC hM HLt HRN HN hb1 hb2
    go_wp2_with fail
    exact bodyPost_ret (v := .tuple #[.pointer (some ⟨b, 0, none⟩), .pointer (some ⟨w1.heap.size, 0, none⟩), .bool true]) (by simp [results, Tryd.results36, go_sem]) rfl ⟨B2, Or.inr ⟨b, _, N, _, _, rfl, rfl, by omega, hbs2, HL2.out, HRL.out, HI.out⟩⟩
  · have HZ := Lib.hid hz
    clear hz
    go_enter Tryd.func36, Tryd.ntmps36
    go_wp2_with fail
    refine HN.out.mono ?_
    rintro e w1 ⟨h1, _, hb1⟩
    rw [h1 HZ.out]
    go_wp2_with fail
    refine (HRN.out _ hb1).mono ?_
    rintro e w2 ⟨h2, _, hb2⟩
    rw [h2 HZ.out]
    have B2 := hb1.trans (hb2.mono hb1.size)
    generalize (newE n ps).1 = c at *
    have hcc : ((c : Int) == c) = true := by simp
    clear h1 h2 HRN HN hb1 hb2
    go_wp2_with fail
    exact bodyPost_ret (v := .tuple #[.pointer none, .pointer none, .bool true]) (by simp [results, Tryd.results36, go_sem]) rfl ⟨B2, Or.inl rfl⟩

end Go.Proofs.YtjancemacdffbaaDoor
