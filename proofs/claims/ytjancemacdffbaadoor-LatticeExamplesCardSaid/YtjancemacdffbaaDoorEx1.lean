/- Walk of the law LatticeExamples (part 1). -/
import Derived.Test.YtjancemacdffbaaDoorRf7
import Derived.Test.YtjancemacdffbaaDoorLw10
import Derived.Test.YtjancemacdffbaaDoorAp
namespace Go.Proofs.YtjancemacdffbaaDoor
open Go.RowKit

set_option maxHeartbeats 400000 in
theorem join_nil (x y : Int) (w : World) : Calls Tryd.prog 20 #[.pointer none, .int .i64 x, .int .i64 y] w fun e w' => e = .returned (.tuple #[.int .i64 0, .int .i64 1]) ∧ w = w' := by
  go_enter Tryd.func20, Tryd.ntmps20
  go_wp2_with fail
  go_ret2
  exact ⟨rfl, rfl⟩
set_option maxHeartbeats 400000 in
theorem meet_nil (x y : Int) (w : World) : Calls Tryd.prog 21 #[.pointer none, .int .i64 x, .int .i64 y] w fun e w' => e = .returned (.tuple #[.int .i64 0, .int .i64 1]) ∧ w = w' := by
  go_enter Tryd.func21, Tryd.ntmps21
  go_wp2_with fail
  go_ret2
  exact ⟨rfl, rfl⟩
set_option maxHeartbeats 400000 in
theorem le_nil (x y : Int) (w : World) : Calls Tryd.prog 19 #[.pointer none, .int .i64 x, .int .i64 y] w fun e w' => e = .returned (.bool false) ∧ w = w' := by
  go_enter Tryd.func19, Tryd.ntmps19
  go_wp2_with fail
  refine (is_nil x _).mono ?_
  rintro e w' ⟨rfl, rfl⟩
  go_wp2_with fail
  go_ret
  exact ⟨rfl, rfl⟩
theorem many_ok : (newE 1 (List.replicate 1024 (0, 0))).1 = 0 := by
  have e : newE ((1 : Nat) : Int) (List.replicate 1024 (0, 0)) = newL 1 (List.replicate 1024 (0, 0)) := newE_nat (by omega) (by omega) (by rw [List.length_replicate]; omega)
  have h := newL_all (n := 1) (ps := List.replicate 1024 (0, 0)) (by omega) (fun p hp => by rw [(List.mem_replicate.1 hp).2]; decide)
  have h2 := h.2.2 (fun i j hi hj _ _ => by omega) (fun i j hi hj => by
    obtain rfl : i = 0 := by omega
    obtain rfl : j = 0 := by omega
    exact ⟨⟨0, by omega, RT.refl _ _, RT.refl _ _, fun m hm h _ => h⟩, ⟨0, by omega, RT.refl _ _, RT.refl _ _, fun m hm h _ => h⟩⟩)
  rw [show (1 : Int) = ((1 : Nat) : Int) from rfl, e]
  exact h2.1
theorem many_long : (newE 1 (List.replicate 1025 (0, 0))).1 = 5 := by
  unfold newE; rw [if_neg (by omega), if_pos (by rw [List.length_replicate]; omega)]
theorem many_pairs (w : World) (FR : Array Value) (h : ∀ j, j < 2050 → FR[j]? = some (.int .i64 0)) (s m : Nat) (hs : s + m ≤ 1025) : PairsAt (w.alloc (.cells FR 29)) (some ⟨w.heap.size, s * 2, none⟩) (List.replicate m (0, 0)) := fun i hi => by
  rw [List.length_replicate] at hi
  have hg : (List.replicate m ((0 : Int), (0 : Int))).getD i (0, 0) = (0, 0) := by rw [List.getD_eq_getElem?_getD, List.getElem?_replicate, if_pos hi]; rfl
  rw [hg]
  exact ⟨_, _, rfl, by simp, by rw [World.cell?_alloc_new]; exact h _ (by omega), by rw [World.cell?_alloc_new]; exact h _ (by omega)⟩

set_option maxHeartbeats 2000000 in
set_option maxRecDepth 100000 in
theorem examples_any (w : World) (hT : Tab w) (h0 : 0 < w.heap.size) :
    Calls Tryd.prog 8 #[] w fun e w' => e = .returned (.bool true) ∧ Below w.heap.size w w' := by
  have O0 := On.refl hT h0
  have OW := Lib.hid O0
  clear hT h0
  go_enter Tryd.func8, Tryd.ntmps8
  go_wp2_with fail
  go_loopw [1] (fun v wr => ∃ i : Int, -1 ≤ i ∧ i ≤ 34 ∧ v = .int .i64 i ∧ On w wr) (fun v _ => (34 - intOf v).toNat)
  case atStart => exact ⟨-1, by omega, by omega, rfl, O0⟩
  case round =>
    clear O0
    obtain ⟨i, hi1, hi2, rfl, O1⟩ := hrel
    by_cases hlt : i < 34
    · go_wp2_with fail
      refine (chain_any i _ (by omega)).mono ?_
      rintro e w1 ⟨v, rfl, hown, hb1⟩
      have O2 := O1.next hb1
      obtain ⟨a1, cap1, rfl, P1, hl1, hc1⟩ := hown.pairs
      clear O1 hb1 hown
      unfold maxLen at hc1
      go_wp2_with fail
      refine (matches_any i a1 _ cap1 _ _ _ _ O2.tab O2.pos P1 rfl hl1 hc1).mono ?_
      rintro e w2 ⟨rfl, hb2⟩
      have O3 := O2.next hb2
      go_wp2_with fail
      refine (matches_any i none 0 0 [] _ _ _ O3.tab O3.pos (PairsAt.nil _ _) rfl (by omega) (by omega)).mono ?_
      rintro e w3 ⟨rfl, hb3⟩
      have O4 := O3.next hb3
      go_wp2_with fail
      go_roundw
      case rel => exact ⟨i + 1, by omega, by omega, rfl, O4⟩
      case measure => simp only [intOf]; omega
    · go_wp2_with fail
      go_loopw [2] (fun v wr => ∃ i : Nat, i ≤ 6 ∧ v = .int .i64 i ∧ On w wr) (fun v _ => 6 - (intOf v).toNat)
      case atStart => exact ⟨0, by omega, rfl, O1⟩
      case round =>
        clear O1
        obtain ⟨i, hi2, rfl, O1⟩ := hrel
        by_cases hlt : i < 6
        · have hw := wrap_pow i (by omega)
          generalize 2 ^ i = P at hw
          go_wp2_with fail
          refine (cube_any i _ (by omega)).mono ?_
          rintro e w1 ⟨v, ps, hps, rfl, hown, hb1⟩
          have O2 := O1.next hb1
          obtain ⟨a1, cap1, rfl, P1, hl1, hc1⟩ := hown.pairs
          clear O1 hb1 hown
          unfold maxLen at hc1
          go_wp2_with fail
          refine (matches_any _ a1 _ cap1 _ _ _ _ O2.tab O2.pos P1 rfl hl1 hc1).mono ?_
          rintro e w2 ⟨rfl, hb2⟩
          have O3 := O2.next hb2
          go_wp2_with fail
          refine (cube_any i _ (by omega)).mono ?_
          rintro e w3 ⟨v3, ps3, hps3, rfl, hown3, hb3⟩
          have O4 := O3.next hb3
          obtain ⟨a3, cap3, rfl, P3, hl3, hc3⟩ := hown3.pairs
          clear O3 hb3 hown3
          unfold maxLen at hc3
          go_wp2_with fail
          refine (matches_any _ a3 _ cap3 _ _ _ _ O4.tab O4.pos P3 rfl hl3 hc3).mono ?_
          rintro e w5 ⟨rfl, hb5⟩
          have O5 := O4.next hb5
          go_wp2_with fail
          go_roundw
          case rel => exact ⟨i + 1, by omega, by go_num, O5⟩
          case measure => simp [intOf]; omega
        · have hd6 : decide ((i : Int) < 6) = false := by simp; omega
          go_wp2_with fail
          go_loopw [3] (fun v wr => ∃ i : Nat, i ≤ 512 ∧ v = .int .i64 i ∧ On w wr) (fun v _ => 512 - (intOf v).toNat)
          case atStart => exact ⟨0, by omega, rfl, O1⟩
          case round =>
            clear O1
            obtain ⟨k, hk2, rfl, O1⟩ := hrel
            by_cases hlt3 : k < 512
            · have hdk : decide ((k : Int) < 512) = true := by simp; omega
              go_wp2_with fail
              go_loopw [4, 5] (fun v j wr => ∃ (q : Nat) (ps : List (Int × Int)), q ≤ 9 ∧ ps.length ≤ q ∧ j = .int .i64 q ∧ OwnP wr w.heap.size v ps ∧ On w wr) (fun _ j _ => 9 - (intOf j).toNat)
              case atStart => exact ⟨0, [], by omega, by simp, rfl, OwnP.nil _ _, O1⟩
              case round =>
                clear O1
                obtain ⟨q, ps, hq, hps, rfl, hown, O1⟩ := hrel
                have hsz := O1.below.size
                by_cases hltq : q < 9
                · cases hbit : (bits BinOp.and IntKind.i64 ((k : Int) / 2 ^ q) 1 == 1) with
                  | true =>
                    go_wp2_with (at_builtin; refine app_new [((q : Int) / 3, (q : Int) % 3)] rfl _ _ rfl rfl hown rfl rfl (by omega) hsz ?_)
                    intro v' w1 r1 r2
                    have O2 := OW.out.of (O1.below.trans r2)
                    clear hown
                    go_wp2_with fail
                    go_roundw
                    case rel => exact ⟨q + 1, _, by omega, by simp; omega, by go_num, r1, O2⟩
                    case measure => simp [intOf]; omega
                  | false =>
                    go_wp2_with fail
                    go_roundw
                    case rel => exact ⟨q + 1, _, by omega, by omega, by go_num, hown, O1⟩
                    case measure => simp [intOf]; omega
                · obtain ⟨a1, cap1, rfl, P1, hl1, hc1⟩ := hown.pairs
                  unfold maxLen at hc1
                  clear hown
                  go_wp2_with fail
                  refine (matches_any _ a1 _ cap1 _ _ _ _ O1.tab O1.pos P1 rfl hl1 hc1).mono ?_
                  rintro e w2 ⟨rfl, hb2⟩
                  have O3 := O1.next hb2
                  have P3 := P1.below hb2
                  go_wp2_with fail
                  refine (matches_any _ a1 _ cap1 _ _ _ _ O3.tab O3.pos P3 rfl hl1 hc1).mono ?_
                  rintro e w3 ⟨rfl, hb3⟩
                  have O4 := O3.next hb3
                  go_wp2_with fail
                  go_roundw
                  case rel => exact ⟨k + 1, by omega, by go_num, O4⟩
                  case measure => simp [intOf]; omega
            · have hd512 : decide ((k : Int) < 512) = false := by simp; omega
              obtain ⟨FR, hmk, hFR⟩ : ∃ FR : Array Value, (∀ W, (Instr.makeSlice 22 (.int .i64 1025) (.int .i64 1025)).run Tryd.prog W = .ok (.slice (some ⟨W.heap.size, 0, none⟩) 1025 1025) (W.alloc (.cells FR 29))) ∧ (∀ j, j < 2050 → FR[j]? = some (.int .i64 0)) := by
                obtain ⟨i9, q90, q91, q92, q93⟩ := info_parts Tryd.info29
                refine ⟨madeCells (Value.agg #[.int .i64 0, .int .i64 0]).cells (1025 * 2), fun W => ?_, fun j hj => ?_⟩
                · have := run_make (P := Tryd.prog) W 22 29 i9 _ Tryd.underlying22 q90 q91 .i64 .i64 1025 1025 (by omega) (by omega) (by rw [q93]; omega) (by omega)
                  rw [q92] at this
                  simpa using this
                · have : j % 2 = 0 ∨ j % 2 = 1 := by omega
                  rcases this with h | h <;> simp [madeCells, Value.cells, hj, h]
              have HFR := Lib.hid hFR
              clear hFR
              have PA := Lib.hid (many_pairs wr FR HFR.out 1 1024 (by omega))
              have PB := Lib.hid (many_pairs wr FR HFR.out 0 1025 (by omega))
              have O2 := O1.alloc (.cells FR 29)
              go_wp2_with fail
              clear hmk HFR
              generalize wr.heap.size = bm at *
              generalize wr.alloc (.cells FR 29) = w1 at *
              refine (new_ok (List.replicate 1024 (0, 0)) many_ok (List.length_replicate ..) PA.out O2.tab O2.pos).mono ?_
              rintro e w2 ⟨rfl, _, _, hb2⟩
              have O3 := O2.next hb2
              have PB2 := Lib.hid (PB.out.below hb2)
              clear PA PB O2 O1 hb2
              go_wp2_with fail
              refine (new_err (c := 5) (List.replicate 1025 (0, 0)) many_long (by decide) (List.length_replicate ..) PB2.out O3.tab O3.pos).mono ?_
              rintro e w3 ⟨rfl, hb3⟩
              have O4 := O3.next hb3
              clear PB2 O3 hb3
              go_wp2_with fail
              refine (join_nil _ _ _).mono ?_
              rintro e w' ⟨rfl, rfl⟩
              go_wp2_with fail
              refine (meet_nil _ _ _).mono ?_
              rintro e w' ⟨rfl, rfl⟩
              go_wp2_with fail
              refine (len_nil _).mono ?_
              rintro e w' ⟨rfl, rfl⟩
              go_wp2_with fail
              refine (le_nil _ _ _).mono ?_
              rintro e w' ⟨rfl, rfl⟩
              go_wp2_with fail
              have O5 := O4.alloc (.cells (flat [(4611686018427387904, 0)]).toArray 29)
              have P5 := PairsAt.made w3 [(4611686018427387904, 0)] 29
              refine (matches_any _ _ 1 1 [(4611686018427387904, 0)] _ _ _ O5.tab O5.pos P5 rfl (by omega) (by omega)).mono ?_
              rintro e w6 ⟨rfl, hb6⟩
              have O6 := O5.next hb6
              go_wp2_with fail
              refine (awake_any _ O6.tab O6.pos).mono ?_
              rintro e w7 ⟨rfl, hb7⟩
              go_wp2_with fail
              go_ret
              exact ⟨rfl, (O6.next hb7).below⟩

end Go.Proofs.YtjancemacdffbaaDoor
