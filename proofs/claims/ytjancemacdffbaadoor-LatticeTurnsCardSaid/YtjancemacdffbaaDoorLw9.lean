/- Walk of the law LatticeLoops. -/
import Derived.Test.YtjancemacdffbaaDoorLw8
import Derived.Deep.DeepCutAuto
namespace Go.Proofs.YtjancemacdffbaaDoor
open Go.RowKit

theorem newE_nat {n : Nat} {ps : List (Int × Int)} (h1 : 1 ≤ n) (h2 : n ≤ 32) (h3 : ps.length ≤ 1024) : newE n ps = newL n ps := by
  unfold newE; rw [if_neg (by omega), if_neg (by omega), Int.toNat_natCast]

theorem On.of {w w' : World} (h : On w w) (hb : Below w.heap.size w w') : On w w' := h.next hb
theorem PairsAt.take {w : World} {a : Option Addr} {ps : List (Int × Int)} (h : PairsAt w a ps) (k : Nat) : PairsAt w a (ps.take k) := fun i hi => by
  have hi2 : i < ps.length := by rw [List.length_take] at hi; omega
  have hi3 : i < k := by rw [List.length_take] at hi; omega
  have e : (ps.take k).getD i (0, 0) = ps.getD i (0, 0) := by simp [List.getD_eq_getElem?_getD, hi3]
  rw [e]; exact h i hi2
theorem chainL_take (m : Nat) : (chainL (m + 1)).take m = chainL m := by
  rw [chainL_succ, List.take_append_of_le_length (by rw [chainL_length]; omega), List.take_of_length_le (by rw [chainL_length]; omega)]

set_option maxHeartbeats 1000000 in
set_option maxRecDepth 100000 in
theorem loops_any (x f t : Int) (w : World) (hT : Tab w) (h0 : 0 < w.heap.size) :
    Calls Tryd.prog 6 #[.int .i64 x, .int .i64 f, .int .i64 t] w fun e w' => e = .returned (.bool true) ∧ Below w.heap.size w w' := by
  have O0 := On.refl hT h0
  clear hT h0
  obtain ⟨i0, hi, hz0, hz1, hz2⟩ := info_parts Tryd.info29
  go_enter Tryd.func6, Tryd.ntmps6
  go_wp2_with fail
  refine (mod_any x 31 _ (by omega) (by omega)).mono ?_
  rintro e w' ⟨rfl, rfl⟩
  have hx1 : 0 ≤ x % 31 := by omega
  have hx2 : x % 31 < 31 := by omega
  generalize x % 31 = y at *
  obtain ⟨y, rfl⟩ := Int.eq_ofNat_of_zero_le hx1
  go_wp2_with fail
  refine (mod_any f (2 + y) _ (by omega) (by omega)).mono ?_
  rintro e w' ⟨rfl, rfl⟩
  have hf1 : 0 ≤ f % (2 + y) := Int.emod_nonneg _ (by omega)
  have hf2 : f % (2 + y) < 2 + y := Int.emod_lt_of_pos _ (by omega)
  generalize f % (2 + (y : Int)) = f' at *
  obtain ⟨f', rfl⟩ := Int.eq_ofNat_of_zero_le hf1
  go_wp2_with fail
  refine (mod_any t (2 + y) _ (by omega) (by omega)).mono ?_
  rintro e w' ⟨rfl, rfl⟩
  have ht1 : 0 ≤ t % (2 + y) := Int.emod_nonneg _ (by omega)
  have ht2 : t % (2 + y) < 2 + y := Int.emod_lt_of_pos _ (by omega)
  generalize t % (2 + (y : Int)) = t' at *
  obtain ⟨t', rfl⟩ := Int.eq_ofNat_of_zero_le ht1
  go_upto_region 3 with (fail)
  go_cut [7, 8] (fun s7 s8 wx => ∃ p q : Nat, s7 = .int .i64 p ∧ s8 = .int .i64 q ∧ q ≤ p ∧ (p : Int) < 2 + y ∧ w = wx)
  case first =>
    go_wp2_with fail
    all_goals go_meet
    all_goals first
      | (refine ⟨f', t', rfl, rfl, ?_, ?_, rfl⟩ <;> omega)
      | (refine ⟨t', f', rfl, rfl, ?_, ?_, rfl⟩ <;> omega)
      | (refine ⟨f', f', rfl, rfl, ?_, ?_, rfl⟩ <;> omega)
      | (refine ⟨t', t', rfl, rfl, ?_, ?_, rfl⟩ <;> omega)
  case rest =>
    obtain ⟨p, q, rfl, rfl, hqp, hpy, rfl⟩ := hcut
    have hsame := fun h => Lib.hid (loops_same (n := y + 2) (a := p) (by omega) (by omega) h)
    have hcirc := fun h h' => Lib.hid (loops_circle (n := y + 2) (a := p) (b := q) (by omega) h h')
    have Hshort := Lib.hid (loops_short (n := y + 2) (by omega) (by omega))
    have Hsame := Lib.hid (hsame (by omega))
    have Hcirc := Lib.hid (hcirc (by omega))
    clear hsame hcirc
    go_wp2_with fail
    refine (chain_any (2 + y) _ (by omega)).mono ?_
    rintro e w1 ⟨v, rfl, hown, hb1⟩
    have O1 := O0.next hb1
    rw [show (2 + (y : Int)).toNat - 1 = y + 1 by omega] at hown
    have hsz1 := hb1.size
    go_wp2_with (at_builtin; refine wpList_append_own _ rfl _ _ 22 rfl w.heap.size 29 i0 _ 2 16 Tryd.underlying22 hi hz0 hz1 hz2 rfl (by decide) _ _ _ rfl (hown.alloc _) ⟨w1.heap.size, 0, none⟩ 1 1 [.int .i64 p, .int .i64 q] rfl rfl ?c1 ?c2 ?c3 ?c4 ?c5 ?_)
    case c1 =>
      intro j u hj
      match j, hj with
      | 0, hj => simp at hj; subst hj; simp [Addr.add]
      | 1, hj => simp at hj; subst hj; simp [Addr.add]
    case c2 => intro u hu; simp at hu; rcases hu with rfl | rfl <;> rfl
    case c3 => rw [chainL_length]; unfold maxLen; omega
    case c4 => rw [chainL_length]; omega
    case c5 => simp; omega
    intro v' w2 hown' hgrow _
    obtain ⟨r1, r2⟩ := OwnP.snoc (qs := [((p : Int), (q : Int))]) hown' rfl hown _ hgrow hsz1
    have O2 : On w w2 := O0.of (hb1.trans r2)
    clear hown' hgrow hown r2 O1
    obtain ⟨a2, cap2, rfl, P2, _, _⟩ := r1.pairs
    clear r1
    rw [show (chainL (y + 1) ++ [((p : Int), (q : Int))]).length = y + 2 by simp [chainL_length]]
    by_cases hpq : p = q
    · subst hpq
      go_wp2_with fail
      have He : (newE (2 + (y : Int)) (chainL (y + 1) ++ [((p : Int), (p : Int))])).1 = 0 := by
        rw [show (2 + (y : Int)) = ((y + 2 : Nat) : Int) by omega, newE_nat (by omega) (by omega) (by simp [chainL_length]; omega)]
        exact Hsame.out.out
      refine (new_ok (chainL (y + 1) ++ [((p : Int), (p : Int))]) He (by simp [chainL_length]) P2 O2.tab O2.pos).mono ?_
      rintro e w3 ⟨rfl, _, _, hb3⟩
      have O3 := O2.next hb3
      clear O2 P2
      go_wp2_with fail
      refine (chain_any (2 + y) _ (by omega)).mono ?_
      rintro e w4 ⟨v4, rfl, hown4, hb4⟩
      have O4 := O3.next hb4
      rw [show (2 + (y : Int)).toNat - 1 = y + 1 by omega] at hown4
      obtain ⟨a4, cap4, rfl, P4, hcap, _⟩ := hown4.pairs
      rw [chainL_length] at hcap
      rw [chainL_length]
      have P5 := P4.take y
      rw [chainL_take] at P5
      clear hown4 P4 O3
      have hcap2 : (y : Int) ≤ cap4 := by omega
      go_wp2_with fail
      have He4 : (newE (2 + (y : Int)) (chainL y)).1 = 4 := by
        rw [show (2 + (y : Int)) = ((y + 2 : Nat) : Int) by omega, newE_nat (by omega) (by omega) (by rw [chainL_length]; omega)]
        exact Hshort.out
      refine (fails_true (c := 4) (chainL y) He4 (by decide) (chainL_length y) P5 O4.tab O4.pos).mono ?_
      rintro e w5 ⟨rfl, hb5⟩
      have O5 := O4.next hb5
      clear P5 O4
      go_wp2_with fail
      refine (awake_any _ O5.tab O5.pos).mono ?_
      rintro e w6 ⟨rfl, hb6⟩
      go_wp2_with fail
      go_ret
      exact ⟨rfl, (O5.next hb6).below⟩
    · have hne : ((p : Int) == q) = false := by rw [beq_eq_false_iff_ne]; omega
      go_wp2_with fail
      have He : (newE (2 + (y : Int)) (chainL (y + 1) ++ [((p : Int), (q : Int))])).1 = 9 := by
        rw [show (2 + (y : Int)) = ((y + 2 : Nat) : Int) by omega, newE_nat (by omega) (by omega) (by simp [chainL_length]; omega)]
        exact (Hcirc.out (by omega)).out
      refine (fails_true (c := 9) (chainL (y + 1) ++ [((p : Int), (q : Int))]) He (by decide) (by simp [chainL_length]) P2 O2.tab O2.pos).mono ?_
      rintro e w3 ⟨rfl, hb3⟩
      have O3 := O2.next hb3
      clear O2 P2
      go_wp2_with fail
      refine (chain_any (2 + y) _ (by omega)).mono ?_
      rintro e w4 ⟨v4, rfl, hown4, hb4⟩
      have O4 := O3.next hb4
      rw [show (2 + (y : Int)).toNat - 1 = y + 1 by omega] at hown4
      obtain ⟨a4, cap4, rfl, P4, hcap, _⟩ := hown4.pairs
      rw [chainL_length] at hcap
      rw [chainL_length]
      have P5 := P4.take y
      rw [chainL_take] at P5
      clear hown4 P4 O3
      have hcap2 : (y : Int) ≤ cap4 := by omega
      go_wp2_with fail
      have He4 : (newE (2 + (y : Int)) (chainL y)).1 = 4 := by
        rw [show (2 + (y : Int)) = ((y + 2 : Nat) : Int) by omega, newE_nat (by omega) (by omega) (by rw [chainL_length]; omega)]
        exact Hshort.out
      refine (fails_true (c := 4) (chainL y) He4 (by decide) (chainL_length y) P5 O4.tab O4.pos).mono ?_
      rintro e w5 ⟨rfl, hb5⟩
      have O5 := O4.next hb5
      clear P5 O4
      go_wp2_with fail
      refine (awake_any _ O5.tab O5.pos).mono ?_
      rintro e w6 ⟨rfl, hb6⟩
      go_wp2_with fail
      go_ret
      exact ⟨rfl, (O5.next hb6).below⟩

end Go.Proofs.YtjancemacdffbaaDoor
