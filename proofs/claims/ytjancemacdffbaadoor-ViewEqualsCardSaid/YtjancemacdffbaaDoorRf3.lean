/- Walk of the reference's New (part 1: the rows). -/
import Derived.Test.YtjancemacdffbaaDoorPl7
import Derived.Test.YtjancemacdffbaaDoorSt
import Derived.Deep.QuietTactic
import Derived.BigQuiet
import Derived.Test.YtjancemacdffbaaDoorLw3
import Derived.StillTailTactics
import Derived.Deep.RegionHeld3
import Derived.Deep.RegionLaw
import Derived.Test.YtjancemacdffbaaDoorAp
import Derived.Deep.AppendLies
namespace Go.Proofs.YtjancemacdffbaaDoor
open Go.RowKit

/-- the diagonal's first k bits -/
def dia (k : Nat) : Nat → Nat → Bool := fun i j => decide (i = j) && decide (i < k)

/-- what the reference's New returns -/
def RNewPost (n : Nat) (ps : List (Int × Int)) (w : World) (e : Ending) (w' : World) : Prop :=
  ((newL n ps).1 ≠ 0 → e = .returned (.tuple #[.pointer none, .int .i64 ((newL n ps).1 : Nat)])) ∧
  ((newL n ps).1 = 0 → e = .returned (.tuple #[.pointer (some ⟨w.heap.size, 0, none⟩), .int .i64 0]) ∧ w.heap.size < w'.heap.size ∧ ∃ g cap r M, RefC w' w.heap.size g cap n r M ∧ ∀ i j, i < n → j < n → (M i j = true ↔ RT ps i j)) ∧
  Below w.heap.size w w'
theorem RNewPost.err {n c : Nat} {ps : List (Int × Int)} {w w' : World} (h : (newL n ps).1 = c) (hc : c ≠ 0) (hb : Below w.heap.size w w') :
    RNewPost n ps w (.returned (.tuple #[.pointer none, .int .i64 c])) w' := by
  unfold RNewPost; rw [h]; exact ⟨fun _ => rfl, fun h => absurd h hc, hb⟩

set_option maxHeartbeats 4000000 in
set_option maxRecDepth 100000 in
theorem rnew_main (n : Nat) (a : Option Addr) (len cap : Nat) (w : World) (ps : List (Int × Int)) (h1 : 1 ≤ n) (h2 : n ≤ 32) (h : len ≤ 1024) (hlen : ps.length = len) (hp : PairsAt w a ps) :
    Calls Tryd.prog 29 #[.int .i64 n, .slice a len cap] w (RNewPost n ps w) := by
  obtain ⟨i4, q40, q41, q42, q43⟩ := info_parts Tryd.info4
  obtain ⟨i9, q90, q91, q92, q93⟩ := info_parts Tryd.info89
  have h3 : decide ((n : Int) < 1) = false := by simp; omega
  have h3' : decide ((32 : Int) < n) = false := by simp; omega
  have h4 : decide ((1024 : Int) < len) = false := by simp; omega
  have HP := Lib.hid hp
  have HLEN := Lib.hid hlen
  clear hp hlen
  obtain ⟨FR, hmk, hFR, hFS⟩ : ∃ FR : Array Value, (∀ W, (Instr.makeSlice 89 (.int .i64 n) (.int .i64 n)).run Tryd.prog W = .ok (.slice (some ⟨W.heap.size, 0, none⟩) n n) (W.alloc (.cells FR 4))) ∧ (∀ j, j < n → FR[j]? = some (.bool false)) ∧ FR.size = n := by
    refine ⟨madeCells (Value.bool false).cells (n * 1), fun W => ?_, fun j hj => by simp [madeCells, Value.cells, hj, Nat.mod_one], by simp [madeCells]⟩
    have := run_make (P := Tryd.prog) W 89 4 i4 (.bool false) Tryd.underlying89 q40 q41 .i64 .i64 n n (by omega) (by omega) (by rw [q43]; omega) (by omega)
    rw [q42] at this
    simpa using this
  have HFR := Lib.hid hFR
  have HFS := Lib.hid hFS
  clear hFR hFS
  go_enter Tryd.func29, Tryd.ntmps29
  go_wp2_with fail
  go_loopw [7] (fun i wr => ∃ (k : Nat) (v : Value) (r : Nat → Nat) (M : Nat → Nat → Bool), k ≤ n ∧ i = .int .i64 k ∧ RefB w wr n k v r M ∧ Hid (∀ i j, i < k → j < n → M i j = decide (i = j))) (fun i _ => n - (intOf i).toNat)
  case atStart => exact ⟨0, _, fun _ => 0, fun _ _ => false, by omega, rfl, RefB.start w n, fun i j h => by omega⟩
  case round =>
    obtain ⟨k, v, r, M, hk, rfl, hR, hM⟩ := hrel
    by_cases hlt : k < n
    · have hxc := hR.xc
      go_wp2_with fail
      have hxs : w.heap.size < wr.heap.size := hR.size
      have hne : v.ownBlock ≠ some w.heap.size := fun e => by have := hR.own.lt _ e; omega
      have hnews : ∀ j u, [rowV n wr.heap.size][j]? = some u → (((wr.alloc (.cells FR 4)).alloc (.cells #[rowV n wr.heap.size] 89)).drew).cell? ((⟨wr.heap.size + 1, 0, none⟩ : Addr).add j) = some u := fun j u hj => by
        match j, hj with
        | 0, hj => simp at hj; subst hj; simp [Addr.add]
      have Hnews := Lib.hid hnews
      have hxf : wr.frozen? ⟨w.heap.size, 0, none⟩ = false := hR.xf
      clear hnews
      have kA : ∀ (W : World) (c : Array Value) (t : TypeId), w.heap.size < W.heap.size → (W.cell? ⟨w.heap.size, 0, none⟩ = some v ∧ W.frozen? ⟨w.heap.size, 0, none⟩ = false) → ((W.alloc (.cells c t)).cell? ⟨w.heap.size, 0, none⟩ = some v ∧ (W.alloc (.cells c t)).frozen? ⟨w.heap.size, 0, none⟩ = false) := fun W c t hs hc =>
        ⟨(World.cell?_alloc_past _ _ _ hs).trans hc.1, (World.frozen?_alloc_past _ _ _ hs).trans hc.2⟩
      have k1 := kA wr FR 4 hxs ⟨hxc, hxf⟩
      have k2 := kA _ #[rowV n wr.heap.size] 89 (by simp; omega) k1
      have K1 := Lib.hid k1
      have K2 := Lib.hid k2
      clear kA k1 k2
      go_region_law ((refine step_append_lies _ (by rfl) _ _ _ (by rfl) (w.heap.size + 1) 89 i9 _ 1 24 Tryd.underlying86 q90 q91 q92 q93 rfl (by omega) v k _ (by rfl) (((hR.own.alloc _).alloc _).drew) ⟨wr.heap.size + 1, 0, none⟩ 1 1 [rowV n wr.heap.size] (by rfl) (by rfl) Hnews.out (by simp [rowV, Value.oneCell']) (by omega) (by unfold maxLen; omega) (by omega) (by simp; omega) (wr.heap.size + 2) (by simp) ?_; intro gg cap1 w1 hown1 hgrow hat hgl; have kc := (World.cell?_of_block (a := ⟨w.heap.size, 0, none⟩) (hgrow.block _ (by simp; omega) (Ne.symm hne))).trans K2.out.1; have kf := (World.frozen?_of_block (a := ⟨w.heap.size, 0, none⟩) (hgrow.block _ (by simp; omega) (Ne.symm hne))).trans K2.out.2))
      all_goals
        have hgg : gg < w1.heap.size := hgl
        have hStep := hR.step (w2 := (((wr.alloc (.cells FR 4)).alloc (.cells #[rowV n wr.heap.size] 89)).drew)) (((Below.refl _ _).alloc (Nat.le_refl _) _).alloc (by simp) _).drew (by simp; omega)
          (fun j hj => by have e1 : (((wr.alloc (.cells FR 4)).alloc (.cells #[rowV n wr.heap.size] 89)).drew).cell? ⟨wr.heap.size, j, none⟩ = FR[j]? := (World.cell?_alloc_past _ _ _ (by simp)).trans (World.cell?_alloc_new _ _ _ _)
                          exact e1.trans (HFR.out j hj))
          (fun j => (World.frozen?_alloc_past _ _ _ (by simp)).trans (World.frozen?_alloc_at _ _ _ _ rfl))
          hown1 hgrow (hat.elim (fun hat => Or.inl hat.symm) (fun hat => Or.inr (by rw [hat]; simp [Value.ownBlock])))
        have hrow : (w1.setCell ⟨w.heap.size, 0, none⟩ (.slice (some ⟨gg, 0, none⟩) (k + 1) cap1)).cell? ⟨gg, k, none⟩ = some (.slice (some ⟨wr.heap.size, 0, none⟩) n n) := by
          have := World.ownsRow.cells hStep.own (g := gg) rfl k (rowV n wr.heap.size) (by simp)
          rw [add_at, Nat.zero_add] at this
          exact this
        have hbt := hStep.bit k k (by omega) hlt
        have hfz := hStep.fz k k (by omega)
        have hxc4 := hStep.xc
        simp only [if_true] at hbt hfz
        have hset := hStep.setBit (a := k) (b := k) (by omega) hlt true
        simp only [if_true] at hset
        clear hown1 hgrow hat hgl kc kf hgg
        generalize w1.setCell ⟨w.heap.size, 0, none⟩ (.slice (some ⟨gg, 0, none⟩) (k + 1) cap1) = w4 at *
        have hk2 : (k : Int) < k + 1 := by omega
        have hk3 : (k : Int) < n := by omega
        have hM2 := Lib.hid (dia_step hM.out)
        go_wp2_with fail
        exact ⟨⟨k + 1, _, _, _, by omega, by go_num, hset, hM2⟩, by simp [intOf]; omega⟩
    · obtain rfl : k = n := by omega
      obtain ⟨g, cp, rfl⟩ := hR.form h1
      have hPM := PM.start (ps := ps) hM.out
      clear hM hk hlt hmk HFR HFS
      go_wp2_with fail
      have hR0 := hR
      clear hR
      go_loopw [8] (fun i wr => ∃ (q : Nat) (M : Nat → Nat → Bool), q ≤ len ∧ i = .int .i64 q ∧ RefB w wr k k (.slice (some ⟨g, 0, none⟩) k cp) r M ∧ PM k ps q M) (fun i _ => len - (intOf i).toNat)
      case atStart => exact ⟨0, M, by omega, rfl, hR0, hPM⟩
      case round =>
        clear hR0 hPM
        obtain ⟨q, M, hq, rfl, hR, hPM⟩ := hrel
        by_cases hlt : q < len
        · have hq' : q < ps.length := by rw [HLEN.out]; exact hlt
          obtain ⟨pb, po, rfl, hpb, hp0, hp1⟩ := HP.out q hq'
          have hp0' := (hR.below.cell (p := ⟨pb, po + q * 2, none⟩) hpb).trans hp0
          have hp1' := (hR.below.cell (p := ⟨pb, po + q * 2 + 1, none⟩) hpb).trans hp1
          have Hstep := Lib.hid (fun x y hx hy e => PM.step (x := x) (y := y) hPM hq' hx hy e)
          have Hbad : Hid (okP k (ps.getD q (0, 0)) = false → (newL k ps).1 = 3) := fun hb => by
            rw [newL_none (addPairs_none k ps _ _ (by rw [List.getD_eq_getElem?_getD, List.getElem?_eq_getElem hq']; exact List.getElem_mem hq') hb)]
          have hlt2 : (q : Int) < len := by omega
          clear hp0 hp1 hPM hq'
          generalize ps.getD q (0, 0) = pq at *
          obtain ⟨x, y⟩ := pq
          simp only at hp0' hp1'
          by_cases hok : 0 ≤ x ∧ x < k ∧ 0 ≤ y ∧ y < k
          · obtain ⟨x0, x1, y0, y1⟩ := hok
            obtain ⟨x, rfl⟩ := Int.eq_ofNat_of_zero_le x0
            obtain ⟨y, rfl⟩ := Int.eq_ofNat_of_zero_le y0
            have hn0 : decide ((x : Int) < 0) = false := by simp
            have hn1 : decide ((y : Int) < 0) = false := by simp
            have hn2 : decide ((k : Int) ≤ x) = false := by simp; omega
            have hn3 : decide ((k : Int) ≤ y) = false := by simp; omega
            have hxk : x < k := by omega
            have hyk : y < k := by omega
            have hC := hR.refC h2
            have hxc := hC.top
            have hrw := hC.row x hxk
            have hbt := hC.bit x y hxk hyk
            have hfz := hR.fz x y hxk
            have hset := (hR.setBit hxk hyk true)
            have Hpm := Lib.hid (Hstep.out x y hxk hyk rfl)
            clear hC
            go_wp2_with fail
            go_quiet (fail)
            go_wp2_with fail
            go_roundw
            case rel => exact ⟨q + 1, _, by omega, by go_num, hset.same ⟨_, rfl⟩, Hpm.out⟩
            case measure => simp [intOf]; omega
          · have Hres := Lib.hid (Hbad.out (okP_out k x y hok))
            have Hend := Lib.hid (fun W => RNewPost.err (w := w) (w' := W) Hres.out (by decide))
            have hbl := hR.below
            by_cases c1 : x < 0
            · go_wp2_with fail
              go_quiet (fail)
              go_wp2_with fail
              go_ret2
              exact Hend.out _ (hbl.trans (Same.below ⟨_, rfl⟩ _))
            · have hn0 : decide ((x : Int) < 0) = false := by simpa using c1
              by_cases c2 : (k : Int) ≤ x
              · go_wp2_with fail
                go_quiet (fail)
                go_wp2_with fail
                go_ret2
                exact Hend.out _ (hbl.trans (Same.below ⟨_, rfl⟩ _))
              · have hn2 : decide ((k : Int) ≤ x) = false := by simpa using c2
                by_cases c3 : y < 0
                · go_wp2_with fail
                  go_quiet (fail)
                  go_wp2_with fail
                  go_ret2
                  exact Hend.out _ (hbl.trans (Same.below ⟨_, rfl⟩ _))
                · have hn1 : decide ((y : Int) < 0) = false := by simpa using c3
                  have c4 : (k : Int) ≤ y := by omega
                  go_wp2_with fail
                  go_quiet (fail)
                  go_wp2_with fail
                  go_ret2
                  exact Hend.out _ (hbl.trans (Same.below ⟨_, rfl⟩ _))
        · obtain rfl : q = len := by omega
          have hCM : CM k ps 0 M := CM.start (by rw [HLEN.out]; exact hPM)
          clear hPM hq hlt
          go_wp2_with fail
          have hR0 := hR
          clear hR
          go_loopw [11] (fun v wr => ∃ (m : Nat) (M : Nat → Nat → Bool), m ≤ k ∧ v = .int .i64 m ∧ RefB w wr k k (.slice (some ⟨g, 0, none⟩) k cp) r M ∧ CM k ps m M) (fun v _ => k - (intOf v).toNat)
          case atStart => exact ⟨0, M, by omega, rfl, hR0, hCM⟩
          case round =>
            clear hR0 hCM
            obtain ⟨m, M, hm, rfl, hR, hCM⟩ := hrel
            by_cases hlt : m < k
            · go_wp2_with fail
              have hR0 := hR
              clear hR
              go_loopw [12] (fun v wr => ∃ (i : Nat), i ≤ k ∧ v = .int .i64 i ∧ RefB w wr k k (.slice (some ⟨g, 0, none⟩) k cp) r (clM M m i 0)) (fun v _ => k - (intOf v).toNat)
              case atStart => exact ⟨0, by omega, rfl, hR0.congr fun a b _ _ => (clM_zero M m a b).symm⟩
              case round =>
                clear hR0
                obtain ⟨i, hi, rfl, hR⟩ := hrel
                by_cases hlti : i < k
                · go_wp2_with fail
                  have hR0 := hR
                  clear hR
                  go_loopw [13] (fun v wr => ∃ (j : Nat), j ≤ k ∧ v = .int .i64 j ∧ RefB w wr k k (.slice (some ⟨g, 0, none⟩) k cp) r (clM M m i j)) (fun v _ => k - (intOf v).toNat)
                  case atStart => exact ⟨0, by omega, rfl, hR0⟩
                  case round =>
                    clear hR0
                    obtain ⟨j, hj, rfl, hR⟩ := hrel
                    by_cases hltj : j < k
                    · have hC := hR.refC h2
                      have hxc := hC.top
                      have hri := hC.row i hlti
                      have hrm := hC.row m hlt
                      have bij := hC.bit i j hlti hltj
                      have bim := hC.bit i m hlti hlt
                      have bmj := hC.bit m j hlt hltj
                      rw [clM_ij] at bij
                      rw [clM_ik] at bim
                      rw [clM_kj] at bmj
                      have hfz := hR.fz i j hlti
                      have hset := (hR.setBit hlti hltj (M i j || (M i m && M m j))).drew
                      rw [clM_step] at hset
                      have hi2 : (i : Int) < k := by omega
                      have hj2 : (j : Int) < k := by omega
                      have hm2 : (m : Int) < k := by omega
                      clear hC hR
                      cases e1 : M i j with
                      | true =>
                        rw [e1] at bij
                        have Hset := Lib.hid hset
                        rw [e1, Bool.true_or] at Hset
                        clear hset e1
                        go_wp2_with fail
                        refine wp_region_still_tail 43 (by kernel_rfl) (by kernel_rfl) ?_
                        simp only [List.take_succ_cons, List.take_zero, List.drop_succ_cons, List.drop_zero]
                        refine wpStill_of_quiet _ _ ?_
                        repeat (go_big_quiet_step (fail))
                        refine wpQuiet_nil ?_
                        go_wp2_with fail
                        go_roundw
                        case rel => exact ⟨j + 1, by omega, by go_num, Hset.out⟩
                        case measure => simp [intOf]; omega
                      | false =>
                        rw [e1] at bij
                        cases e2 : M i m with
                        | false =>
                          rw [e2] at bim
                          have Hset := Lib.hid hset
                          rw [e1, e2, Bool.false_or, Bool.false_and] at Hset
                          clear hset e1 e2
                          go_wp2_with fail
                          refine wp_region_still_tail 43 (by kernel_rfl) (by kernel_rfl) ?_
                          simp only [List.take_succ_cons, List.take_zero, List.drop_succ_cons, List.drop_zero]
                          refine wpStill_of_quiet _ _ ?_
                          repeat (go_big_quiet_step (fail))
                          refine wpQuiet_nil ?_
                          go_wp2_with fail
                          go_roundw
                          case rel => exact ⟨j + 1, by omega, by go_num, Hset.out⟩
                          case measure => simp [intOf]; omega
                        | true =>
                          rw [e2] at bim
                          have Hset := Lib.hid hset
                          rw [e1, e2, Bool.false_or, Bool.true_and] at Hset
                          clear hset e1 e2
                          go_wp2_with fail
                          refine wp_region_still_tail 43 (by kernel_rfl) (by kernel_rfl) ?_
                          simp only [List.take_succ_cons, List.take_zero, List.drop_succ_cons, List.drop_zero]
                          refine wpStill_of_quiet _ _ ?_
                          repeat (go_big_quiet_step (fail))
                          refine wpQuiet_nil ?_
                          go_wp2_with fail
                          go_roundw
                          case rel => exact ⟨j + 1, by omega, by go_num, Hset.out⟩
                          case measure => simp [intOf]; omega
                    · obtain rfl : j = k := by omega
                      go_wp2_with fail
                      go_roundw
                      case rel => exact ⟨i + 1, by omega, by go_num, hR.congr fun a b _ hb => clM_row M m i j a b hb⟩
                      case measure => simp [intOf]; omega
                · obtain rfl : i = k := by omega
                  have Hcm := Lib.hid (hCM.step hlt)
                  go_wp2_with fail
                  go_roundw
                  case rel => exact ⟨m + 1, _, by omega, by go_num, hR, Hcm.out⟩
                  case measure => simp [intOf]; omega
            · obtain rfl : m = k := by omega
              have HM : Hid (∀ i j, i < m → j < m → (M i j = true ↔ RT ps i j)) := fun i j hi hj => hCM.iff hi hj
              have HOK := Lib.hid hCM.ok
              clear hCM hlt hm
              have HC := Lib.hid (hR.refC h2)
              have hbel := hR.below
              have hsz := hR.size
              have Hall := Lib.hid (newL_all h2 HOK.out)
              clear hR HOK
              go_wp2_with fail
              go_loop [14] (fun v => ∃ i : Nat, i ≤ m ∧ v = .int .i64 i ∧ Hid (∀ x y, x < i → y < x → (M x y && M y x) = false)) (fun v => m - (intOf v).toNat)
              case atStart => exact ⟨0, by omega, rfl, fun x y hx => by omega⟩
              case round =>
                obtain ⟨i, hi, rfl, hno⟩ := hrel
                by_cases hlti : i < m
                · go_wp2_with fail
                  go_loop [15] (fun v => ∃ j : Nat, j ≤ i ∧ v = .int .i64 j ∧ Hid (∀ y, y < j → (M i y && M y i) = false)) (fun v => i - (intOf v).toNat)
                  case atStart => exact ⟨0, by omega, rfl, fun y hy => by omega⟩
                  case round =>
                    obtain ⟨j, hj, rfl, hnoj⟩ := hrel
                    by_cases hltj : j < i
                    · have hxc := HC.out.top
                      have hri := HC.out.row i hlti
                      have hrj := HC.out.row j (by omega)
                      have bij := HC.out.bit i j hlti (by omega)
                      have bji := HC.out.bit j i (by omega) hlti
                      have hi2 : (i : Int) < m := by omega
                      have hj2 : (j : Int) < m := by omega
                      cases e1 : M i j with
                      | false =>
                        rw [e1] at bij
                        have Hn : Hid (∀ y, y < j + 1 → (M i y && M y i) = false) := fun y hy => by
                          by_cases e : y = j
                          · subst e; rw [e1]; rfl
                          · exact hnoj.out y (by omega)
                        clear e1
                        go_wp2_with fail
                        go_round
                        case rel => exact ⟨j + 1, by omega, by go_num, Hn⟩
                        case measure => simp [intOf]; omega
                      | true =>
                        rw [e1] at bij
                        cases e2 : M j i with
                        | false =>
                          rw [e2] at bji
                          have Hn : Hid (∀ y, y < j + 1 → (M i y && M y i) = false) := fun y hy => by
                            by_cases e : y = j
                            · subst e; rw [e1, e2]; rfl
                            · exact hnoj.out y (by omega)
                          clear e1 e2
                          go_wp2_with fail
                          go_round
                          case rel => exact ⟨j + 1, by omega, by go_num, Hn⟩
                          case measure => simp [intOf]; omega
                        | true =>
                          rw [e2] at bji
                          have Hres : Hid ((newL m ps).1 = 9) := Hall.out.1 fun ha => by
                            have := ha i j hlti (by omega) ((HM.out i j hlti (by omega)).1 e1) ((HM.out j i (by omega) hlti).1 e2)
                            omega
                          clear e1 e2
                          go_wp2_with fail
                          go_ret2
                          exact RNewPost.err Hres.out (by decide) hbel
                    · obtain rfl : j = i := by omega
                      have Hn : Hid (∀ x y, x < j + 1 → y < x → (M x y && M y x) = false) := fun x y hx hy => by
                        by_cases e : x = j
                        · subst e; exact hnoj.out y hy
                        · exact hno.out x y (by omega) hy
                      go_wp2_with fail
                      go_round
                      case rel => exact ⟨j + 1, by omega, by go_num, Hn⟩
                      case measure => simp [intOf]; omega
                · obtain rfl : i = m := by omega
                  have HA : Hid (Anti ps i) := fun x y hx hy h1' h2' => by
                    rcases Nat.lt_trichotomy x y with c | c | c
                    · have := hno.out y x hy c
                      rw [(HM.out y x hy hx).2 h2', (HM.out x y hx hy).2 h1'] at this; cases this
                    · exact c
                    · have := hno.out x y hx c
                      rw [(HM.out y x hy hx).2 h2', (HM.out x y hx hy).2 h1'] at this; cases this
                  clear hno hi hlti
                  go_wp2_with fail
                  go_loop [16] (fun v => ∃ a : Nat, a ≤ i ∧ v = .int .i64 a ∧ Hid (∀ x y, x < a → y < i → (∃ c, IsJoin ps i x y c) ∧ ∃ c, IsMeet ps i x y c)) (fun v => i - (intOf v).toNat)
                  case atStart => exact ⟨0, by omega, rfl, fun x y hx => by omega⟩
                  case round =>
                    obtain ⟨a', ha, rfl, hf⟩ := hrel
                    by_cases hlta : a' < i
                    · go_wp2_with fail
                      go_loop [17] (fun v => ∃ b : Nat, b ≤ i ∧ v = .int .i64 b ∧ Hid (∀ y, y < b → (∃ c, IsJoin ps i a' y c) ∧ ∃ c, IsMeet ps i a' y c)) (fun v => i - (intOf v).toNat)
                      case atStart => exact ⟨0, by omega, rfl, fun y hy => by omega⟩
                      case round =>
                        obtain ⟨b, hb, rfl, hfb⟩ := hrel
                        by_cases hltb : b < i
                        · have c1 := Lib.hid (rjoin_any w.heap.size g cp i a' b r M wr HC.out hlta hltb)
                          have c2 := Lib.hid (rmeet_any w.heap.size g cp i a' b r M wr HC.out hlta hltb)
                          have nofull : Hid ((¬ ((∃ c, IsJoin ps i a' b c) ∧ ∃ c, IsMeet ps i a' b c)) → (newL i ps).1 = 4) := fun hn => Hall.out.2.1 HA.out fun hF => hn (hF a' b hlta hltb)
                          rcases rjoin_cases' HM.out hlta hltb with ⟨e1, hj1⟩ | ⟨c, e1, hj1⟩
                          · rw [e1] at c1
                            have Hres := Lib.hid (nofull.out fun h => by obtain ⟨⟨c, hc⟩, _⟩ := h; exact hj1 c hc)
                            clear e1 hj1
                            go_wp2_with fail
                            refine c1.out.mono ?_
                            rintro e w' ⟨rfl, rfl⟩
                            go_wp2_with fail
                            go_ret2
                            exact RNewPost.err Hres.out (by decide) hbel
                          · rw [e1] at c1
                            rcases rmeet_cases HM.out hlta hltb with ⟨e2, hj2⟩ | ⟨d, e2, hj2⟩
                            · rw [e2] at c2
                              have Hres := Lib.hid (nofull.out fun h => by obtain ⟨_, ⟨c, hc⟩⟩ := h; exact hj2 c hc)
                              have hd : decide ((c : Int) < 0) = false := by simp
                              clear e1 e2 hj1 hj2
                              go_wp2_with fail
                              refine c1.out.mono ?_
                              rintro e w' ⟨rfl, rfl⟩
                              go_wp2_with fail
                              refine c2.out.mono ?_
                              rintro e w' ⟨rfl, rfl⟩
                              go_wp2_with fail
                              go_ret2
                              exact RNewPost.err Hres.out (by decide) hbel
                            · rw [e2] at c2
                              have hd : decide ((c : Int) < 0) = false := by simp
                              have hd2 : decide ((d : Int) < 0) = false := by simp
                              have Hn : Hid (∀ y, y < b + 1 → (∃ c, IsJoin ps i a' y c) ∧ ∃ c, IsMeet ps i a' y c) := fun y hy => by
                                by_cases e : y = b
                                · subst e; exact ⟨⟨c, hj1⟩, ⟨d, hj2⟩⟩
                                · exact hfb.out y (by omega)
                              clear e1 e2 hj1 hj2
                              go_wp2_with fail
                              refine c1.out.mono ?_
                              rintro e w' ⟨rfl, rfl⟩
                              go_wp2_with fail
                              refine c2.out.mono ?_
                              rintro e w' ⟨rfl, rfl⟩
                              go_wp2_with fail
                              go_round
                              case rel => exact ⟨b + 1, by omega, by go_num, Hn⟩
                              case measure => simp [intOf]; omega
                        · obtain rfl : b = i := by omega
                          have Hn : Hid (∀ x y, x < a' + 1 → y < b → (∃ c, IsJoin ps b x y c) ∧ ∃ c, IsMeet ps b x y c) := fun x y hx hy => by
                            by_cases e : x = a'
                            · subst e; exact hfb.out y hy
                            · exact hf.out x y (by omega) hy
                          go_wp2_with fail
                          go_round
                          case rel => exact ⟨a' + 1, by omega, by go_num, Hn⟩
                          case measure => simp [intOf]; omega
                    · obtain rfl : a' = i := by omega
                      have HF : Hid (Full ps a') := fun x y hx hy => hf.out x y hx hy
                      have Hz := Lib.hid (Hall.out.2.2 HA.out HF.out).1
                      go_wp2_with fail
                      go_ret2
                      unfold RNewPost
                      rw [Hz.out]
                      exact ⟨fun h => absurd rfl h, fun _ => ⟨rfl, hsz, g, cp, r, M, HC.out, HM.out⟩, hbel⟩

end Go.Proofs.YtjancemacdffbaaDoor
