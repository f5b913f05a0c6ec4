/- Walks (part 11): made of weepholelaw27. -/
import Derived.Test.YtjancemacdffbaaDoorLw10
import Derived.Deep.CutBlock
import Derived.Deep.RegionWith
import Derived.Test.YtjancemacdffbaaDoorAp
namespace Go.Proofs.YtjancemacdffbaaDoor
open Go.RowKit

/-- what made returns: nothing; or a lattice with its pairs and the number of its levels -/
def MadePost (w : World) (e : Ending) (w' : World) : Prop :=
  Below w.heap.size w w' ∧
  (e = .returned (.tuple #[.pointer none, .slice none 0 0, .int .i64 0]) ∨
   ∃ (b N : Nat) (a : Option Addr) (cap : Nat) (ps : List (Int × Int)) (up dn : Nat → Nat),
     e = .returned (.tuple #[.pointer (some ⟨b, 0, none⟩), .slice a ps.length cap, .int .i64 N]) ∧ 1 ≤ N ∧ N ≤ 10 ∧ ps.length ≤ 250 ∧ b < w'.heap.size ∧
     LatC w' b N up dn ∧ IsLat N ps up dn ∧ PairsAt w' a ps ∧ ∀ p ∈ ps, okP N p = true)

set_option maxHeartbeats 1000000 in
set_option maxRecDepth 100000 in
theorem made_any (k : Nat) (n : Int) (a : Option Addr) (len cap : Nat) (ord : List (Int × Int)) (w : World) (hT : Tab w) (h0 : 0 < w.heap.size) (hp : PairsAt w a ord) (hlen : ord.length = len) (hk : k < 256) (hlm : len ≤ 9223372036854775807) :
    Calls Tryd.prog 16 #[.int .u8 k, .int .i64 n, .slice a len cap] w (MadePost w) := by
  have O0 := On.refl hT h0
  have HP := Lib.hid hp
  have HLEN := Lib.hid hlen
  clear hT h0 hp hlen
  go_enter Tryd.func16, Tryd.ntmps16
  go_upto_block 0 with (fail)
  go_cut [1, 9] (fun s1 s9 wx => ∃ (N : Nat) (ps : List (Int × Int)), 1 ≤ N ∧ N ≤ 10 ∧ ps.length ≤ 250 ∧ s1 = .int .i64 N ∧ OwnP wx w.heap.size s9 ps ∧ Below w.heap.size w wx)
  case first =>
    have hcases : k % 4 = 0 ∨ k % 4 = 1 ∨ k % 4 = 2 ∨ k % 4 = 3 := by omega
    rcases hcases with h4 | h4 | h4 | h4
    · have t0 : ((k : Int) % 4 == 0) = true := by rw [beq_iff_eq]; omega
      clear h4
      go_wp2_with fail
      refine (mod_any n 10 _ (by omega) (by omega)).mono ?_
      rintro e w' ⟨rfl, rfl⟩
      have hx1 : 0 ≤ n % 10 := by omega
      have hx2 : n % 10 < 10 := by omega
      generalize n % 10 = y at *
      obtain ⟨y, rfl⟩ := Int.eq_ofNat_of_zero_le hx1
      go_wp2_with fail
      refine (chain_any (1 + y) _ (by omega)).mono ?_
      rintro e w1 ⟨v, rfl, hown, hb1⟩
      rw [show (1 + (y : Int)).toNat - 1 = y by omega] at hown
      go_wp2_with fail
      go_meet
      exact ⟨1 + y, _, by omega, by omega, by rw [chainL_length]; omega, by go_num, hown, hb1⟩
    · have t0 : ((k : Int) % 4 == 0) = false := by rw [beq_eq_false_iff_ne]; omega
      have t1 : ((k : Int) % 4 == 1) = true := by rw [beq_iff_eq]; omega
      clear h4
      go_wp2_with fail
      refine (mod_any n 4 _ (by omega) (by omega)).mono ?_
      rintro e w' ⟨rfl, rfl⟩
      have hx1 : 0 ≤ n % 4 := by omega
      have hx2 : n % 4 < 4 := by omega
      generalize n % 4 = y at *
      obtain ⟨y, rfl⟩ := Int.eq_ofNat_of_zero_le hx1
      have hw := wrap_pow y (by omega)
      have hp : 2 ^ y ≤ 2 ^ 3 := Nat.pow_le_pow_right (by decide) (by omega)
      have hp1 : 1 ≤ 2 ^ y := Nat.one_le_two_pow
      generalize 2 ^ y = N at hw hp hp1
      go_wp2_with fail
      refine (cube_any y _ (by omega)).mono ?_
      rintro e w1 ⟨v, ps, hl, rfl, hown, hb1⟩
      go_wp2_with fail
      go_meet
      exact ⟨N, _, by omega, by omega, by omega, rfl, hown, hb1⟩
    · have t0 : ((k : Int) % 4 == 0) = false := by rw [beq_eq_false_iff_ne]; omega
      have t1 : ((k : Int) % 4 == 1) = false := by rw [beq_eq_false_iff_ne]; omega
      have t2 : ((k : Int) % 4 == 2) = true := by rw [beq_iff_eq]; omega
      clear h4
      go_wp2_with fail
      refine (mod_any n 8 _ (by omega) (by omega)).mono ?_
      rintro e w' ⟨rfl, rfl⟩
      have hx1 : 0 ≤ n % 8 := by omega
      have hx2 : n % 8 < 8 := by omega
      generalize n % 8 = y at *
      obtain ⟨y, rfl⟩ := Int.eq_ofNat_of_zero_le hx1
      go_wp2_with fail
      go_loopw [9, 11] (fun v i wr => ∃ (j : Nat) (ps : List (Int × Int)), 1 ≤ j ∧ j ≤ 2 + y ∧ ps.length ≤ 2 * j ∧ i = .int .i64 j ∧ OwnP wr w.heap.size v ps ∧ Below w.heap.size w wr) (fun _ i _ => 2 + y - (intOf i).toNat)
      case atStart => exact ⟨1, [], by omega, by omega, by simp, rfl, OwnP.nil _ _, Below.refl _ _⟩
      case round =>
        obtain ⟨j, ps, hj1, hj2, hl, rfl, hown, hbel⟩ := hrel
        have hsz := hbel.size
        by_cases hlt : j + 1 < 3 + y
        · go_wp2_with (at_builtin; refine app_new [(0, (j : Int)), ((j : Int), 3 + (y : Int) - 1)] rfl _ _ rfl rfl hown rfl rfl (by omega) hsz ?_)
          intro v' w1 r1 r2
          clear hown
          go_wp2_with fail
          go_roundw
          case rel => exact ⟨j + 1, _, by omega, by omega, by simp; omega, by go_num, r1, hbel.trans r2⟩
          case measure => simp [intOf]; omega
        · go_wp2_with fail
          go_meet
          exact ⟨3 + y, _, by omega, by omega, by omega, by go_num, hown, hbel⟩
    · have t0 : ((k : Int) % 4 == 0) = false := by rw [beq_eq_false_iff_ne]; omega
      have t1 : ((k : Int) % 4 == 1) = false := by rw [beq_eq_false_iff_ne]; omega
      have t2 : ((k : Int) % 4 == 2) = false := by rw [beq_eq_false_iff_ne]; omega
      clear h4
      go_wp2_with fail
      refine (mod_any n 6 _ (by omega) (by omega)).mono ?_
      rintro e w' ⟨rfl, rfl⟩
      have hx1 : 0 ≤ n % 6 := by omega
      have hx2 : n % 6 < 6 := by omega
      generalize n % 6 = y at *
      obtain ⟨y, rfl⟩ := Int.eq_ofNat_of_zero_le hx1
      go_wp2_with fail
      go_loopw [9, 12] (fun v i wr => ∃ (j : Nat) (ps : List (Int × Int)), j ≤ len ∧ j ≤ 12 ∧ ps.length ≤ 2 * j ∧ i = .int .i64 j ∧ OwnP wr w.heap.size v ps ∧ Below w.heap.size w wr) (fun _ i _ => 12 - (intOf i).toNat)
      case atStart => exact ⟨0, [], by omega, by omega, by simp, rfl, OwnP.nil _ _, Below.refl _ _⟩
      case round =>
        obtain ⟨j, ps, hj1, hj2, hl, rfl, hown, hbel⟩ := hrel
        have hsz := hbel.size
        by_cases hlt : j < len ∧ j < 12
        · obtain ⟨hlt1, hlt2⟩ := hlt
          obtain ⟨pb, po, rfl, hpb, hp0, hp1⟩ := HP.out j (by rw [HLEN.out]; exact hlt1)
          have hp0' := (hbel.cell (p := ⟨pb, po + j * 2, none⟩) hpb).trans hp0
          have hp1' := (hbel.cell (p := ⟨pb, po + j * 2 + 1, none⟩) hpb).trans hp1
          clear hp0 hp1
          generalize ord.getD j (0, 0) = pq at *
          obtain ⟨X, Y⟩ := pq
          simp only at hp0' hp1'
          have hj3 : (j : Int) < len := by omega
          have hm := Lib.hid (fun (z : Int) (W : World) => mod_any z (1 + (y : Int)) W (by omega) (by omega))
          have hm1 := Lib.hid (fun q => (hm.out X (wr.drewN q)).mono fun _ _ h => (show _ ∧ ∃ m, _ = wr.drewN m from ⟨h.1, q, h.2.symm⟩))
          have hm2 := Lib.hid (fun q => (hm.out Y (wr.drewN q)).mono fun _ _ h => (show _ ∧ ∃ m, _ = wr.drewN m from ⟨h.1, q, h.2.symm⟩))
          clear hm
          generalize X % (1 + (y : Int)) = x' at *
          generalize Y % (1 + (y : Int)) = y' at *
          go_wp2_with fail
          go_quiet (first | (go_at_call_of 18 (Value.int IntKind.i64 X); exact hm1.out _) | (go_at_call_of 18 (Value.int IntKind.i64 Y); exact hm2.out _))
          have hown2 : OwnP (wr.drewN nq) w.heap.size _ ps := hown
          have hbel2 : Below w.heap.size w (wr.drewN nq) := ⟨hbel.os, hbel.tape, hbel.output, hbel.size, hbel.block⟩
          have hsz2 : w.heap.size ≤ (wr.drewN nq).heap.size := hsz
          generalize wr.drewN nq = wq at *
          clear hown hbel hp0' hp1'
          rcases Int.lt_trichotomy x' y' with c | c | c
          · have cc : ¬ y' < x' := by omega
            go_wp2_with (at_builtin; refine app_new [(x', y')] rfl _ _ rfl rfl hown2 rfl rfl (by omega) hsz2 ?_)
            intro v' w1 r1 r2
            clear hown2
            go_wp2_with fail
            go_roundw
            case rel => exact ⟨j + 1, _, by omega, by omega, by simp; omega, by go_num, r1, hbel2.trans r2⟩
            case measure => simp [intOf]; omega

          · subst c
            go_wp2_with (at_builtin; refine app_new [(x', x')] rfl _ _ rfl rfl hown2 rfl rfl (by omega) hsz2 ?_)
            intro v' w1 r1 r2
            clear hown2
            go_wp2_with fail
            go_roundw
            case rel => exact ⟨j + 1, _, by omega, by omega, by simp; omega, by go_num, r1, hbel2.trans r2⟩
            case measure => simp [intOf]; omega

          · have cc : ¬ x' < y' := by omega
            go_wp2_with (at_builtin; refine app_new [(y', x')] rfl _ _ rfl rfl hown2 rfl rfl (by omega) hsz2 ?_)
            intro v' w1 r1 r2
            clear hown2
            go_wp2_with fail
            go_roundw
            case rel => exact ⟨j + 1, _, by omega, by omega, by simp; omega, by go_num, r1, hbel2.trans r2⟩
            case measure => simp [intOf]; omega

        · obtain ⟨i0, hi, hz0, hz1, hz2⟩ := info_parts Tryd.info29
          by_cases g1 : j < len
          · have g2 : decide ((j : Int) < 12) = false := by simp; omega
            clear hlt
            go_wp2_with fail
            refine (chain_any (1 + y) _ (by omega)).mono ?_
            rintro e w1 ⟨v, rfl, hown1, hb1⟩
            rw [show (1 + (y : Int)).toNat - 1 = y by omega] at hown1
            have hown := hown.grown hb1
            have hbel := hbel.trans (hb1.mono hsz)
            have hsz := hbel.size
            clear hb1
            obtain ⟨hl1, ⟨rfl, hn⟩ | ⟨g, cp, cur, rfl, hg⟩⟩ := id hown1
            · obtain rfl : y = 0 := by rw [chainL_length] at hn; exact hn
              clear hn hl1
              go_wp2_with (at_builtin; refine wpList_append_own_none rfl _ _ 22 rfl w.heap.size 29 i0 2 Tryd.underlying22 hi _ _ _ rfl hown rfl ?_)
              go_wp2_with fail
              go_meet
              exact ⟨1, _, by omega, by omega, by omega, rfl, hown, hbel⟩
            · have hcap : y ≤ cp := by have := hg.2.2.1; rw [chainL_length] at this; exact this
              rw [chainL_length]
              have hcells := World.ownsRow.cells hown1 (g := g) rfl
              clear hg hl1
              by_cases hy : 1 ≤ y
              · have hcap2 : (y : Int) - 1 ≤ cp := by omega
                have hnew : ∀ j u, (flat ((chainL y).take (y - 1)))[j]? = some u → w1.cell? ((⟨g, 0, none⟩ : Addr).add j) = some u := fun j u h => hcells j u (flat_take_get _ _ j u h)
                have hlen1 : ((chainL y).take (y - 1)).length = y - 1 := by rw [List.length_take, chainL_length]; omega
                have Hnew := Lib.hid hnew
                have Hlen1 := Lib.hid hlen1
                clear hnew hlen1 hcells
                go_wp2_with (at_builtin; refine app_pairs (qs := (chainL y).take (y - 1)) rfl _ _ rfl rfl hown rfl (Hlen1.out.trans (by omega)) Hnew.out (by omega) hsz ?_; intro v' w2 r1 r2)
                all_goals go_meet
                all_goals exact ⟨1 + y, _, by omega, by omega, by rw [List.length_append, Hlen1.out]; omega, by go_num, r1, hbel.trans r2⟩
              · obtain rfl : y = 0 := by omega
                clear hcells
                go_wp2_with (at_builtin; refine app_pairs (qs := []) rfl _ _ rfl rfl hown rfl rfl (fun j u h => by simp [flat] at h) (by omega) hsz ?_)
                intro v' w2 r1 r2
                go_wp2_with fail
                go_meet
                exact ⟨1, ps, by omega, by omega, by omega, rfl, r1, hbel.trans r2⟩
          · have g2 : decide ((j : Int) < len) = false := by simp; omega
            clear hlt
            go_wp2_with fail
            refine (chain_any (1 + y) _ (by omega)).mono ?_
            rintro e w1 ⟨v, rfl, hown1, hb1⟩
            rw [show (1 + (y : Int)).toNat - 1 = y by omega] at hown1
            have hown := hown.grown hb1
            have hbel := hbel.trans (hb1.mono hsz)
            have hsz := hbel.size
            clear hb1
            obtain ⟨hl1, ⟨rfl, hn⟩ | ⟨g, cp, cur, rfl, hg⟩⟩ := id hown1
            · obtain rfl : y = 0 := by rw [chainL_length] at hn; exact hn
              clear hn hl1
              go_wp2_with (at_builtin; refine wpList_append_own_none rfl _ _ 22 rfl w.heap.size 29 i0 2 Tryd.underlying22 hi _ _ _ rfl hown rfl ?_)
              go_wp2_with fail
              go_meet
              exact ⟨1, _, by omega, by omega, by omega, rfl, hown, hbel⟩
            · have hcap : y ≤ cp := by have := hg.2.2.1; rw [chainL_length] at this; exact this
              rw [chainL_length]
              have hcells := World.ownsRow.cells hown1 (g := g) rfl
              clear hg hl1
              by_cases hy : 1 ≤ y
              · have hcap2 : (y : Int) - 1 ≤ cp := by omega
                have hnew : ∀ j u, (flat ((chainL y).take (y - 1)))[j]? = some u → w1.cell? ((⟨g, 0, none⟩ : Addr).add j) = some u := fun j u h => hcells j u (flat_take_get _ _ j u h)
                have hlen1 : ((chainL y).take (y - 1)).length = y - 1 := by rw [List.length_take, chainL_length]; omega
                have Hnew := Lib.hid hnew
                have Hlen1 := Lib.hid hlen1
                clear hnew hlen1 hcells
                go_wp2_with (at_builtin; refine app_pairs (qs := (chainL y).take (y - 1)) rfl _ _ rfl rfl hown rfl (Hlen1.out.trans (by omega)) Hnew.out (by omega) hsz ?_; intro v' w2 r1 r2)
                all_goals go_meet
                all_goals exact ⟨1 + y, _, by omega, by omega, by rw [List.length_append, Hlen1.out]; omega, by go_num, r1, hbel.trans r2⟩
              · obtain rfl : y = 0 := by omega
                clear hcells
                go_wp2_with (at_builtin; refine app_pairs (qs := []) rfl _ _ rfl rfl hown rfl rfl (fun j u h => by simp [flat] at h) (by omega) hsz ?_)
                intro v' w2 r1 r2
                go_wp2_with fail
                go_meet
                exact ⟨1, ps, by omega, by omega, by omega, rfl, r1, hbel.trans r2⟩
  case rest =>
    obtain ⟨N, ps, hN1, hN2, hl, rfl, hown, hbel⟩ := hcut
    have O1 := O0.of hbel
    obtain ⟨a2, cap2, rfl, P2, _, _⟩ := hown.pairs
    clear hown
    have hE : newE (N : Int) ps = newL N ps := newE_nat hN1 (by omega) (by omega)
    by_cases hz : (newL N ps).1 = 0
    · have HZ := Lib.hid ((congrArg (·.1) hE).trans hz)
      have HL := Lib.hid (newL_zero (by omega) hz)
      have HE := Lib.hid hE
      clear hz hE
      go_wp2_with fail
      refine (new_ok ps HZ.out rfl P2 O1.tab O1.pos).mono ?_
      rintro e w3 ⟨rfl, hL3, hs3, hb3⟩
      rw [HE.out, Int.toNat_natCast] at hL3
      go_wp2_with fail
      go_ret3
      exact ⟨(O1.next hb3).below, Or.inr ⟨_, N, a2, cap2, ps, _, _, rfl, hN1, hN2, hl, hs3, hL3, HL.out.2, P2.below hb3, HL.out.1⟩⟩
    · have hc : (newE (N : Int) ps).1 = (newL N ps).1 := congrArg (·.1) hE
      generalize (newL N ps).1 = c at *
      have HC := Lib.hid hc
      have hcz : ((c : Int) != 0) = true := by rw [bne_iff_ne]; omega
      clear hE hc
      go_wp2_with fail
      refine (new_err ps HC.out hz rfl P2 O1.tab O1.pos).mono ?_
      rintro e w3 ⟨rfl, hb3⟩
      go_wp2_with fail
      go_ret3
      exact ⟨(O1.next hb3).below, Or.inl rfl⟩

end Go.Proofs.YtjancemacdffbaaDoor
