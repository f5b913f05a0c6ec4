/- Walk: Inputs. -/
import Derived.Test.YtjhbabgcoemecaaDoorPh
namespace Go.Proofs.YtjhbabgcoemecaaDoor
open Go.RowKit

theorem size_alloc1 (w : World) (o : Obj) : (w.alloc o).heap.size = w.heap.size + 1 := by simp

set_option maxHeartbeats 8000000 in
set_option maxRecDepth 100000 in
theorem ins25_ok (ch n : Nat) (a : Option Addr) (len cap : Nat) (xs : List Int) (w : World) (hlen : xs.length = len) (hat : (Lay.int .u64).At 0 w a xs) (h1 : 1 ≤ ch) (h2 : ch ≤ 32) (h3 : n ≤ 1000) :
    Calls Tryd.prog 25 #[.int .i64 ch, .int .i64 n, .slice a len cap] w (InsPost w (0, inRows ch n xs ch)) := by
  have HA := Lib.hid hat
  have HLEN := Lib.hid hlen
  clear hat hlen
  have d1 : decide ((ch : Int) < 1) = false := by simp; omega
  have d2 : decide (32 < (ch : Int)) = false := by simp; omega
  have d3 : decide ((n : Int) < 0) = false := by simp
  have d4 : decide (65536 < (n : Int)) = false := by simp; omega
  obtain ⟨i0, hi, hz0, hz1, hz2⟩ := info_parts Tryd.elemS.info
  go_enter Tryd.func25, Tryd.ntmps25
  go_wp2_with (at_make; refine wpList_make_full _ rfl _ _ 47 rfl w.heap.size 48 i0 _ 1 Tryd.underlying47 hi hz0 hz1 .i64 .i64 _ _ ch rfl rfl rfl rfl (by rw [hz2]; omega) (by unfold maxLen; omega) (Nat.le_refl _) ?_)
  intro w1 hown hg
  rw [toList_madeCells_one] at hown
  have hG : Grid w1 w.heap.size w.heap.size (List.replicate ch (none, 0, 0)) (List.replicate ch []) := Grid.made (by simpa using hown)
  have hb1 : Below w.heap.size w w1 := (Below.refl _ _).grown hg (Nat.le_refl _) (fun k hk => by cases hk)
  clear hown hg hi hz0 hz1 hz2
  generalize hB : w.heap.size = B at *
  have HB := Lib.hid hB
  clear hB
  go_wp2_with fail
  go_loopw [30] (fun i wr => ∃ (c : Nat) (hs : List Hdr) (rows : List (List Int)), c ≤ ch ∧ i = .int .i64 c ∧ InP ch n xs c 0 rows ∧ Grid wr B B hs rows ∧ Below B w wr) (fun i _ => ch - (intOf i).toNat)
  case atStart => exact ⟨0, _, _, by omega, rfl, InP.zero _ _ _, hG, hb1⟩
  case round =>
    clear hG hb1
    obtain ⟨c, hs, rows, hc, rfl, hP, hG, hbel⟩ := hrel
    have HP := Lib.hid hP
    have HG := Lib.hid hG
    clear hP hG
    by_cases hlt : c < ch
    · go_wp2_with fail
      go_loopw [34] (fun i wr => ∃ (k : Nat) (hs : List Hdr) (rows : List (List Int)), k ≤ n ∧ i = .int .i64 k ∧ Hid (InP ch n xs c k rows) ∧ Hid (Grid wr B B hs rows) ∧ Below B w wr) (fun i _ => n - (intOf i).toNat)
      case atStart => exact ⟨0, _, _, by omega, rfl, HP, HG, hbel⟩
      case round =>
        clear HP HG hbel
        obtain ⟨k, hs, rows, hk, rfl, HP, HG, hbel⟩ := hrel
        have hsz : B ≤ wr.heap.size := by have := hbel.size; have := HB.out; omega
        by_cases hlk : k < n
        · have hcr : c < rows.length := by rw [HP.out.1]; exact hlt
          obtain ⟨hrow, hP2⟩ := HP.out.step hlt
          have HP2 := Lib.hid hP2
          have hrl : (rows.getD c []).length ≤ 1000 := by rw [hrow, inRow_len]; omega
          obtain ⟨hcell, _⟩ := HG.out.cell hcr
          obtain ⟨hro, _⟩ := HG.out.row c hcr
          have HAr := Lib.hid (HA.out.below (w' := wr) (by rw [HB.out]; exact hbel))
          have HPUT := Lib.hid (fun (w' : World) (hd : Hdr) (r : List Int) h1 h2 h3 => (HG.out.below ((Below.refl wr.heap.size wr).alloc (Nat.le_refl _) (.cells ((Lay.int .u64).flat [xs.getD (2 * (k * ch + c)) 0]).toArray 33))).put (w' := w') (hd := hd) (r := r) hcr h1 h2 h3)
          have hm : (k : Int) * (ch : Int) = ((k * ch : Nat) : Int) := by simp
          have hm2 : k * ch ≤ 32000 := Nat.le_trans (Nat.mul_le_mul (show k ≤ 1000 by omega) h2) (by decide)
          have hg1 : ((2 * (k * ch + c) : Nat) : Int) = 2 * (((k * ch : Nat) : Int) + c) := by simp
          clear hP2 hrow
          generalize hs.getD c (none, 0, 0) = hd at *
          generalize rows.getD c [] = r at *
          generalize k * ch = m at *
          obtain ⟨ha, hl, hcp⟩ := hd
          have hcell' : wr.cell? ⟨B, c, none⟩ = some (.slice ha hl hcp) := hcell
          have hci : (c : Int) < ch := by omega
          clear hcell
          by_cases hN : 2 * (m + c) < len
          · obtain ⟨pb, po, rfl, hpb, hp0⟩ := HAr.out.int (i := 2 * (m + c)) (by rw [HLEN.out]; exact hN)
            have hNi : 2 * ((m : Int) + c) < len := by omega
            clear hN
            generalize xs.getD (2 * (m + c)) 0 = x at *
            go_wp2_with (at_builtin; refine app_lay_at2 Tryd.elemU [x] rfl _ _ rfl rfl hro rfl rfl (by omega) hsz ?_)
            intro v' w5 r1 r2 r3
            obtain ⟨a9, c9, hv9⟩ := r1.lenOf
            generalize (r ++ [x]).length = l9 at *
            subst hv9
            obtain ⟨q1, q2, q3, q4⟩ := HPUT.out w5 (a9, l9, c9) _ r1 r2 (by rw [size_alloc1]; exact r3)
            have q3' : w5.cell? ⟨B, c, none⟩ = some (.slice ha hl hcp) := q3
            have hb5 : Below B w w5 := (hbel.alloc hsz _).grown r2 (by simp; omega) (fun q hq => (World.ownsRow.lt hro q hq).1)
            have hs5 : B ≤ w5.heap.size := by have := r2.size; simp at this; omega
            have hb6 : Below B w (w5.setCell ⟨B, c, none⟩ (.slice a9 l9 c9)) := hb5.grown q2 hs5 (fun q hq => by injection hq with hq; omega)
            have HQ := Lib.hid q1
            clear q1 q2 q3 r1 r2 r3 hro HPUT hbel hb5 hcell'
            go_wp2_with fail
            go_roundw
            case rel => exact ⟨k + 1, _, _, by omega, by go_num, HP2, HQ, hb6⟩
            case measure => simp [intOf]; omega
          · have hx : xs.getD (2 * (m + c)) 0 = 0 := getD_ge _ _ _ (by rw [HLEN.out]; omega)
            rw [hx] at HPUT HP2
            have hNi : ¬ 2 * ((m : Int) + c) < len := by omega
            clear hN hx
            go_wp2_with (at_builtin; refine app_lay_at2 Tryd.elemU [0] rfl _ _ rfl rfl hro rfl rfl (by omega) hsz ?_)
            intro v' w5 r1 r2 r3
            obtain ⟨a9, c9, hv9⟩ := r1.lenOf
            generalize (r ++ [0]).length = l9 at *
            subst hv9
            obtain ⟨q1, q2, q3, q4⟩ := HPUT.out w5 (a9, l9, c9) _ r1 r2 (by rw [size_alloc1]; exact r3)
            have q3' : w5.cell? ⟨B, c, none⟩ = some (.slice ha hl hcp) := q3
            have hb5 : Below B w w5 := (hbel.alloc hsz _).grown r2 (by simp; omega) (fun q hq => (World.ownsRow.lt hro q hq).1)
            have hs5 : B ≤ w5.heap.size := by have := r2.size; simp at this; omega
            have hb6 : Below B w (w5.setCell ⟨B, c, none⟩ (.slice a9 l9 c9)) := hb5.grown q2 hs5 (fun q hq => by injection hq with hq; omega)
            have HQ := Lib.hid q1
            clear q1 q2 q3 r1 r2 r3 hro HPUT hbel hb5 hcell'
            go_wp2_with fail
            go_roundw
            case rel => exact ⟨k + 1, _, _, by omega, by go_num, HP2, HQ, hb6⟩
            case measure => simp [intOf]; omega
        · obtain rfl : k = n := by omega
          have HPn := Lib.hid HP.out.next
          clear HP
          go_wp2_with fail
          go_roundw
          case rel => exact ⟨c + 1, _, _, by omega, by go_num, HPn.out, HG.out, hbel⟩
          case measure => simp [intOf]; omega
    · obtain rfl : c = ch := by omega
      have hd := HP.out.done
      have hRO := HG.out.rowsOwn
      rw [hd] at hRO
      rw [inRows_len] at hRO
      clear HP HG hd
      go_wp2_with fail
      go_ret2
      exact ⟨_, _, rfl, by rw [HB.out]; exact hRO, by rw [HB.out]; exact hbel⟩

set_option maxHeartbeats 1000000 in
theorem ins25_bad (ch n : Int) (v : Value) (w : World) (hb : ch < 1 ∨ 32 < ch ∨ n < 0 ∨ 65536 < n) : Calls Tryd.prog 25 #[.int .i64 ch, .int .i64 n, v] w (InsPost w (3, [])) := by
  go_enter Tryd.func25, Tryd.ntmps25
  by_cases a0 : ch < 1
  · clear hb
    go_wp2_with fail
    go_ret2
    exact ⟨_, _, rfl, RowsOwn.nil _ _, Below.refl _ _⟩
  by_cases a1 : 32 < ch
  · clear hb
    go_wp2_with fail
    go_ret2
    exact ⟨_, _, rfl, RowsOwn.nil _ _, Below.refl _ _⟩
  by_cases a2 : n < 0
  · clear hb
    go_wp2_with fail
    go_ret2
    exact ⟨_, _, rfl, RowsOwn.nil _ _, Below.refl _ _⟩
  have a3 : 65536 < n := by omega
  clear hb
  go_wp2_with fail
  go_ret2
  exact ⟨_, _, rfl, RowsOwn.nil _ _, Below.refl _ _⟩
theorem ins25_any (ch n : Int) (a : Option Addr) (len cap : Nat) (xs : List Int) (w : World) (hlen : xs.length = len) (hat : (Lay.int .u64).At 0 w a xs) (hn : n ≤ 1000 ∨ 65536 < n) :
    Calls Tryd.prog 25 #[.int .i64 ch, .int .i64 n, .slice a len cap] w (InsPost w (insR ch n xs)) := by
  by_cases hb : ch < 1 ∨ 32 < ch ∨ n < 0 ∨ 65536 < n
  · have e : insR ch n xs = (3, []) := if_pos hb
    rw [e]
    exact ins25_bad ch n _ w hb
  · have e : insR ch n xs = (0, inRows ch.toNat n.toNat xs ch.toNat) := if_neg hb
    rw [e]
    have h := ins25_ok ch.toNat n.toNat a len cap xs w hlen hat (by omega) (by omega) (by omega)
    have e2 : ((ch.toNat : Nat) : Int) = ch := by omega
    have e3 : ((n.toNat : Nat) : Int) = n := by omega
    rw [e2, e3] at h
    exact h
end Go.Proofs.YtjhbabgcoemecaaDoor
