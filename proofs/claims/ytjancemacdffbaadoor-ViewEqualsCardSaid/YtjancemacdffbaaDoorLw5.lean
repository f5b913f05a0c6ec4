/- Walks of the functions of package lattice (part 5): New. -/
import Derived.Test.YtjancemacdffbaaDoorLw4
namespace Go.Proofs.YtjancemacdffbaaDoor
open Go.RowKit

theorem loop_ne_false {c d : Nat → Nat} {m : Nat} (h : okLoop c d m = true) : (((c m &&& d m : Nat) : Int) != 2 ^ m) = false := by
  unfold okLoop at h; rw [beq_iff_eq] at h; rw [h]; simp
theorem loop_ne_true {c d : Nat → Nat} {m : Nat} (h : okLoop c d m = false) : (((c m &&& d m : Nat) : Int) != 2 ^ m) = true := by
  unfold okLoop at h; rw [beq_eq_false_iff_ne] at h
  rw [bne_iff_ne]; intro e; apply h
  have : ((2 ^ m : Nat) : Int) = 2 ^ m := by simp
  rw [← this] at e; exact Int.ofNat.inj e

theorem LatW.same {w0 wr wr' : World} {B n : Nat} {up dn : Nat → Nat} (h : LatW w0 wr B n up dn) (s : Same wr wr') : LatW w0 wr' B n up dn := by
  obtain ⟨m, rfl⟩ := s; exact h.drewN

set_option maxHeartbeats 2000000 in
set_option maxRecDepth 100000 in
theorem new_main (n : Nat) (a : Option Addr) (len cap : Nat) (w : World) (ps : List (Int × Int)) (h1 : 1 ≤ n) (h2 : n ≤ 32) (h : len ≤ 1024) (hlen : ps.length = len) (hp : PairsAt w a ps) (hT : Tab w) (hsz0 : 0 < w.heap.size) :
    Calls Tryd.prog 24 #[.int .i64 n, .slice a len cap] w (NewPost n ps w) := by
  have h3 : decide ((n : Int) < 1) = false := by simp; omega
  have h3' : decide ((32 : Int) < n) = false := by simp; omega
  have h4 : decide ((1024 : Int) < len) = false := by simp; omega
  have HP := Lib.hid hp
  have HLEN := Lib.hid hlen
  have HT := Lib.hid hT
  clear hp hlen hT
  go_enter Tryd.func24, Tryd.ntmps24
  go_wp2_with fail
  go_loopw [29] (fun i wr => ∃ k : Nat, k ≤ n ∧ i = .int .i64 k ∧ LatW w wr w.heap.size n (up0 k) (fun _ => 0)) (fun i _ => n - (intOf i).toNat)
  case atStart => exact ⟨0, by omega, rfl, by rw [up0_zero]; exact LatW.start w n h2⟩
  case round =>
    obtain ⟨k, hk, rfl, hL⟩ := hrel
    by_cases hlt : k < n
    · have hi : (k : Int) < 32 := by omega
      have hi2 : k < 32 := by omega
      have hc := hL.lat.hup k (by omega)
      have hf := hL.fz (1 + k)
      have hsh := shl_u32 k hi2
      go_wp2_with fail
      go_still_tail 7, (by kernel_rfl)
      go_wp2_with fail
      go_roundw
      case rel => exact ⟨k + 1, by omega, by go_num, by have := (hL.setUp hi2 (pow_lt32 k hi2)).drew; rw [up0_succ] at this; exact this⟩
      case measure => simp [intOf]; omega
    · obtain rfl : k = n := by omega
      have hb := hL.box
      clear hk hlt
      go_wp2_with fail
      have hL0 := hL
      clear hL
      go_loopw [42] (fun i wr => ∃ j : Nat, j ≤ len ∧ i = .int .i64 j ∧ ∃ u, Hid (addPairs k ps (up0 k) = addPairs k (ps.drop j) u) ∧ LatW w wr w.heap.size k u (fun _ => 0)) (fun i _ => len - (intOf i).toNat)
      case atStart => exact ⟨0, by omega, rfl, _, rfl, hL0⟩
      case round =>
        clear hL0 hb
        obtain ⟨j, hj, rfl, u, hu, hL⟩ := hrel
        by_cases hlt : j < len
        · obtain ⟨pb, po, rfl, hpb, hp0, hp1⟩ := HP.out j (by rw [HLEN.out]; exact hlt)
          have hp0' := (hL.below.cell (p := ⟨pb, po + j * 2, none⟩) hpb).trans hp0
          have hp1' := (hL.below.cell (p := ⟨pb, po + j * 2 + 1, none⟩) hpb).trans hp1
          have hb := hL.box
          have hsz : w.heap.size < wr.heap.size := by have := hL.size; omega
          clear hp0 hp1
          have HU := Lib.hid (hu.out.trans (addPairs_step k ps u j (by rw [HLEN.out]; exact hlt)))
          clear hu
          generalize ps.getD j (0, 0) = pq at *
          obtain ⟨x, y⟩ := pq
          simp only at hp0' hp1'
          by_cases hok : 0 ≤ x ∧ x < k ∧ 0 ≤ y ∧ y < k
          · obtain ⟨x0, x1, y0, y1⟩ := hok
            obtain ⟨x, rfl⟩ := Int.eq_ofNat_of_zero_le x0
            obtain ⟨y, rfl⟩ := Int.eq_ofNat_of_zero_le y0
            have hx : (x : Int) < 32 := by omega
            have hy2 : y < 32 := by omega
            have hx2 : x < 32 := by omega
            have hn0 : decide ((x : Int) < 0) = false := by simp
            have hn1 : decide ((y : Int) < 0) = false := by simp
            have hn2 : decide ((k : Int) ≤ x) = false := by simp; omega
            have hn3 : decide ((k : Int) ≤ y) = false := by simp; omega
            have hc := hL.lat.hup x (by omega)
            have hbb := hL.lat.bup x (by omega)
            have hf := hL.fz (1 + x)
            have hsh := shl_u32 y hy2
            have hpl := pow_lt32 y hy2
            have hor := or_pow (u x) y hbb hy2
            have hsz2 : w.heap.size + 1 < wr.heap.size := hL.size
            go_wp2_with fail
            have hLa := hL.alloc (Obj.cells #[Value.int .i64 x, Value.int .i64 y] 29)
            have q0 : (wr.alloc (Obj.cells #[Value.int .i64 x, Value.int .i64 y] 29)).cell? ⟨wr.heap.size, 0, none⟩ = some (.int .i64 x) := by simp
            have q1 : (wr.alloc (Obj.cells #[Value.int .i64 x, Value.int .i64 y] 29)).cell? ⟨wr.heap.size, 1, none⟩ = some (.int .i64 y) := by simp
            generalize wr.alloc (Obj.cells #[Value.int .i64 x, Value.int .i64 y] 29) = W2 at hLa q0 q1 ⊢
            have hc2 := hLa.lat.hup x (by omega)
            have hf2 := hLa.fz (1 + x)
            go_still_tail 14, (by kernel_rfl)
            go_wp2_with fail
            go_roundw
            case rel => exact ⟨j + 1, by omega, by go_num, _, (HU.out.trans (by rw [okP_in k x y (by omega) (by omega)]; rfl)), (hLa.setUp hx2 (lor_lt _ _ hbb hpl)).drew⟩
            case measure => simp [intOf]; omega
          · have Hres := Lib.hid (newL_none (HU.out.trans (by rw [okP_out k x y hok]; rfl)))
            have Hend := Lib.hid (fun W => NewPost.err (w := w) (w' := W) Hres.out (by decide))
            have hbl := hL.below
            by_cases c1 : x < 0
            · go_wp2_with fail
              go_ret2
              exact Hend.out _ (hbl.alloc (by omega) _)
            · have hn0 : decide ((x : Int) < 0) = false := by simpa using c1
              by_cases c2 : (k : Int) ≤ x
              · go_wp2_with fail
                go_ret2
                exact Hend.out _ (hbl.alloc (by omega) _)
              · have hn2 : decide ((k : Int) ≤ x) = false := by simpa using c2
                by_cases c3 : y < 0
                · go_wp2_with fail
                  go_ret2
                  exact Hend.out _ (hbl.alloc (by omega) _)
                · have hn1 : decide ((y : Int) < 0) = false := by simpa using c3
                  have c4 : (k : Int) ≤ y := by omega
                  go_wp2_with fail
                  go_ret2
                  exact Hend.out _ (hbl.alloc (by omega) _)
        · have hu2 : addPairs k ps (up0 k) = some u := by
            rw [hu.out, List.drop_of_length_le (by rw [HLEN.out]; omega)]; rfl
          have HU := Lib.hid hu2
          have hb := hL.box
          clear hu2 hu hj
          go_wp2_with fail
          have hL0 := hL
          clear hL
          go_loopw [82] (fun i wr => ∃ j : Nat, j ≤ k ∧ i = .int .i64 j ∧ LatW w wr w.heap.size k (closeAll k u j) (fun _ => 0)) (fun i _ => k - (intOf i).toNat)
          case atStart => exact ⟨0, by omega, rfl, hL0⟩
          case round =>
            clear hL0 hb
            obtain ⟨j, hj, rfl, hL⟩ := hrel
            by_cases hlt : j < k
            · have hb := hL.box
              go_wp2_with fail
              have hL0 := hL
              clear hL hb
              go_loopw [86] (fun i wr => ∃ m : Nat, m ≤ k ∧ i = .int .i64 m ∧ LatW w wr w.heap.size k ((List.range m).foldl (stepC j) (closeAll k u j)) (fun _ => 0)) (fun i _ => k - (intOf i).toNat)
              case atStart => exact ⟨0, by omega, rfl, hL0⟩
              case round =>
                clear hL0
                obtain ⟨m, hm, rfl, hL⟩ := hrel
                by_cases hlt2 : m < k
                · have hsucc := Lib.hid (range_foldl_succ (stepC j) (closeAll k u j) m)
                  generalize (List.range m).foldl (stepC j) (closeAll k u j) = c at *
                  have hm2 : (m : Int) < 32 := by omega
                  have hj2 : (j : Int) < 32 := by omega
                  have hcm := hL.lat.hup m (by omega)
                  have hcj := hL.lat.hup j (by omega)
                  have bm := hL.lat.bup m (by omega)
                  have bj := hL.lat.bup j (by omega)
                  have hf := hL.fz (1 + m)
                  have hbt := bit_test (c m) j bm
                  cases hbit : (c m).testBit j with
                  | true =>
                    rw [hbit] at hbt
                    have hor := or_u32 (c m) (c j) bm bj
                    have Hst := Lib.hid (show stepC j c m = upd c m (c m ||| c j) by unfold stepC; rw [hbit]; rfl)
                    clear hbit
                    go_wp2_with fail
                    go_still_tail 16, (by kernel_rfl)
                    go_wp2_with fail
                    go_roundw
                    case rel => exact ⟨m + 1, by omega, by go_num, by rw [hsucc.out, Hst.out]; exact (hL.setUp (by omega) (lor_lt _ _ bm bj)).drew⟩
                    case measure => simp [intOf]; omega
                  | false =>
                    rw [hbit] at hbt
                    have Hst := Lib.hid (show stepC j c m = c by unfold stepC; rw [hbit]; rfl)
                    clear hbit
                    go_wp2_with fail
                    go_roundw
                    case rel => exact ⟨m + 1, by omega, by go_num, by rw [hsucc.out, Hst.out]; exact hL⟩
                    case measure => simp [intOf]; omega
                · obtain rfl : m = k := by omega
                  go_wp2_with fail
                  go_roundw
                  case rel => exact ⟨j + 1, by omega, by go_num, by unfold closeAll; rw [range_foldl_succ]; exact hL⟩
                  case measure => simp [intOf]; omega
            · obtain rfl : j = k := by omega
              have hb := hL.box
              clear hlt hj
              generalize hcl : closeAll j u j = c at *
              have Hcl := Lib.hid hcl
              clear hcl
              go_wp2_with fail
              have hL0 := hL
              clear hL hb
              go_loopw [118] (fun i wr => ∃ m : Nat, m ≤ j ∧ i = .int .i64 m ∧ LatW w wr w.heap.size j c (downAll j c m)) (fun i _ => j - (intOf i).toNat)
              case atStart => exact ⟨0, by omega, rfl, hL0⟩
              case round =>
                clear hL0
                obtain ⟨i, hi, rfl, hL⟩ := hrel
                by_cases hlt : i < j
                · have hb := hL.box
                  go_wp2_with fail
                  have hL0 := hL
                  clear hL hb
                  go_loopw [122] (fun v wr => ∃ m : Nat, m ≤ j ∧ v = .int .i64 m ∧ LatW w wr w.heap.size j c ((List.range m).foldl (stepD c i) (downAll j c i))) (fun v _ => j - (intOf v).toNat)
                  case atStart => exact ⟨0, by omega, rfl, hL0⟩
                  case round =>
                    clear hL0
                    obtain ⟨m, hm, rfl, hL⟩ := hrel
                    by_cases hlt2 : m < j
                    · have hsucc := Lib.hid (range_foldl_succ (stepD c i) (downAll j c i) m)
                      generalize (List.range m).foldl (stepD c i) (downAll j c i) = d at *
                      have hm2 : (m : Int) < 32 := by omega
                      have hi2 : (i : Int) < 32 := by omega
                      have hi3 : i < 32 := by omega
                      have hci := hL.lat.hup i (by omega)
                      have hdm := hL.lat.hdn m (by omega)
                      have bi := hL.lat.bup i (by omega)
                      have bm := hL.lat.bdn m (by omega)
                      have hf := hL.fz (33 + m)
                      have hsh := shl_u32 i hi3
                      have hbt := bit_test (c i) m bi
                      cases hbit : (c i).testBit m with
                      | true =>
                        rw [hbit] at hbt
                        have hor := or_pow (d m) i bm hi3
                        have Hst := Lib.hid (show stepD c i d m = upd d m (d m ||| 2 ^ i) by unfold stepD; rw [hbit]; rfl)
                        clear hbit
                        go_wp2_with fail
                        go_still_tail 12, (by kernel_rfl)
                        go_wp2_with fail
                        go_roundw
                        case rel => exact ⟨m + 1, by omega, by go_num, by rw [hsucc.out, Hst.out]; exact (hL.setDn (by omega) (lor_lt _ _ bm (pow_lt32 i hi3))).drew⟩
                        case measure => simp [intOf]; omega
                      | false =>
                        rw [hbit] at hbt
                        have Hst := Lib.hid (show stepD c i d m = d by unfold stepD; rw [hbit]; rfl)
                        clear hbit
                        go_wp2_with fail
                        go_roundw
                        case rel => exact ⟨m + 1, by omega, by go_num, by rw [hsucc.out, Hst.out]; exact hL⟩
                        case measure => simp [intOf]; omega
                    · obtain rfl : m = j := by omega
                      go_wp2_with fail
                      go_roundw
                      case rel => exact ⟨i + 1, by omega, by go_num, by unfold downAll; rw [range_foldl_succ]; exact hL⟩
                      case measure => simp [intOf]; omega
                · obtain rfl : i = j := by omega
                  have hb := hL.box
                  clear hlt hi
                  generalize hdl : downAll i c i = d at *
                  have Hdl := Lib.hid hdl
                  clear hdl
                  go_wp2_with fail
                  have hL0 := hL
                  clear hL hb
                  go_loopw [150] (fun v wr => ∃ m : Nat, m ≤ i ∧ v = .int .i64 m ∧ Hid ((List.range m).all (okLoop c d) = true) ∧ LatW w wr w.heap.size i c d) (fun v _ => i - (intOf v).toNat)
                  case atStart => exact ⟨0, by omega, rfl, rfl, hL0⟩
                  case round =>
                    clear hL0
                    obtain ⟨m, hm, rfl, hall, hL⟩ := hrel
                    by_cases hlt : m < i
                    · have hm2 : (m : Int) < 32 := by omega
                      have hm3 : m < 32 := by omega
                      have hci := hL.lat.hup m (by omega)
                      have hdm := hL.lat.hdn m (by omega)
                      have hand := and_u32 _ _ (hL.lat.bup m (by omega)) (hL.lat.bdn m (by omega))
                      have hsh := shl_u32 m hm3
                      cases hok : okLoop c d m with
                      | true =>
                        have ht : (((c m &&& d m : Nat) : Int) != 2 ^ m) = false := loop_ne_false hok
                        have Hok := Lib.hid hok
                        clear hok
                        go_wp2_with fail
                        go_quiet (fail)
                        go_wp2_with fail
                        go_roundw
                        case rel => exact ⟨m + 1, by omega, by go_num, by show _ = true; rw [range_all_succ, hall.out, Hok.out]; rfl, hL.drewN⟩
                        case measure => simp [intOf]; omega
                      | false =>
                        have ht : (((c m &&& d m : Nat) : Int) != 2 ^ m) = true := loop_ne_true hok
                        have Hres := Lib.hid (newL_loop HU.out (by rw [Hcl.out, Hdl.out]; exact range_all_false hlt hok))
                        clear hok
                        go_wp2_with fail
                        go_quiet (fail)
                        go_wp2_with fail
                        go_ret2
                        exact NewPost.err Hres.out (by decide) hL.drewN.below
                    · obtain rfl : m = i := by omega
                      have hT : Tab wr := fun i hi => (hL.below.cell (p := ⟨0, i, none⟩) hsz0).trans (HT.out i hi)
                      have hc1 := Lib.hid (fun W (hS : Same wr W) => whole_any (w.heap.size + 1) 1 w.heap.size m c W (hS.tab hT) hL.lat.n32 hL.lat.bup ((hS.cell _).trans hL.box) (fun i h => (hS.cell _).trans (hL.lat.hup i h)))
                      have hc2 := Lib.hid (fun W (hS : Same wr W) => whole_any (w.heap.size + 1) 33 w.heap.size m d W (hS.tab hT) hL.lat.n32 hL.lat.bdn ((hS.cell _).trans hL.box) (fun i h => (hS.cell _).trans (hL.lat.hdn i h)))
                      have Hform := Lib.hid (newL_form (n := m) (ps := ps) HU.out)
                      have Hok := Lib.hid (newL_ok (n := m) (ps := ps) HU.out)
                      rw [Hcl.out, Hdl.out] at Hform Hok
                      clear hT hlt hm
                      cases hw1 : whole m c with
                      | false =>
                        have Hres := Lib.hid (Hform.out hall.out (by rw [hw1]; rfl))
                        have Hw := Lib.hid hw1
                        clear hw1
                        go_wp2_with fail
                        refine (hc1.out _ (Same.refl _)).mono ?_
                        rintro e w' ⟨rfl, hS⟩
                        rw [Hw.out]
                        go_wp2_with fail
                        go_ret2
                        exact NewPost.err Hres.out (by decide) (hL.below.trans (hS.below _))
                      | true =>
                        cases hw2 : whole m d with
                        | false =>
                          have Hres := Lib.hid (Hform.out hall.out (by rw [hw1, hw2]; rfl))
                          have Hw := Lib.hid hw1
                          have Hw2 := Lib.hid hw2
                          clear hw1 hw2
                          go_wp2_with fail
                          refine (hc1.out _ (Same.refl _)).mono ?_
                          rintro e w' ⟨rfl, hS⟩
                          rw [Hw.out]
                          go_wp2_with fail
                          refine (hc2.out _ hS).mono ?_
                          rintro e w2 ⟨rfl, hS2⟩
                          rw [Hw2.out]
                          go_wp2_with fail
                          go_ret2
                          exact NewPost.err Hres.out (by decide) (hL.below.trans ((hS.trans hS2).below _))
                        | true =>
                          have Hres := Lib.hid (Hok.out hall.out (by rw [hw1, hw2]; rfl))
                          have Hw := Lib.hid hw1
                          have Hw2 := Lib.hid hw2
                          clear hw1 hw2
                          go_wp2_with fail
                          refine (hc1.out _ (Same.refl _)).mono ?_
                          rintro e w' ⟨rfl, hS⟩
                          rw [Hw.out]
                          go_wp2_with fail
                          refine (hc2.out _ hS).mono ?_
                          rintro e w2 ⟨rfl, hS2⟩
                          rw [Hw2.out]
                          go_wp2_with fail
                          go_ret2
                          exact NewPost.ok Hres.out (hL.same (hS.trans hS2))

end Go.Proofs.YtjancemacdffbaaDoor
