/- What Inputs computes; walks: Value and Inputs of the reference. -/
import Derived.Test.YtjhbabgcoemecaaDoorPd
namespace Go.Proofs.YtjhbabgcoemecaaDoor
open Go.RowKit

def inRow (ch n : Nat) (vals : List Int) (c : Nat) : List Int := (List.range n).map fun k => vals.getD (2 * (k * ch + c)) 0
def inRows (ch n : Nat) (vals : List Int) (m : Nat) : List (List Int) := (List.range m).map (inRow ch n vals)
theorem inRow_succ (ch n : Nat) (vals : List Int) (c : Nat) : inRow ch (n + 1) vals c = inRow ch n vals c ++ [vals.getD (2 * (n * ch + c)) 0] := by
  simp [inRow, List.range_succ]
theorem inRow_len (ch n : Nat) (vals : List Int) (c : Nat) : (inRow ch n vals c).length = n := by simp [inRow]
theorem inRows_succ (ch n : Nat) (vals : List Int) (m : Nat) : inRows ch n vals (m + 1) = inRows ch n vals m ++ [inRow ch n vals m] := by
  simp [inRows, List.range_succ]
theorem inRows_len (ch n : Nat) (vals : List Int) (m : Nat) : (inRows ch n vals m).length = m := by simp [inRows]
/-- what Inputs answers -/
def insR (ch n : Int) (vals : List Int) : Int × List (List Int) := if ch < 1 ∨ 32 < ch ∨ n < 0 ∨ 65536 < n then (3, []) else (0, inRows ch.toNat n.toNat vals ch.toNat)
def InsPost (w : World) (r : Int × List (List Int)) (e : Ending) (w' : World) : Prop := ∃ v hs, e = .returned (.tuple #[v, .int .i64 r.1]) ∧ RowsOwn w' w.heap.size v hs r.2 ∧ Below w.heap.size w w'

set_option maxHeartbeats 400000 in
theorem value_any (a : Option Addr) (len cap n : Nat) (xs : List Int) (w : World) (hlen : xs.length = len) (hat : (Lay.int .u64).At 0 w a xs) :
    Calls Tryd.prog 48 #[.slice a len cap, .int .i64 n] w fun e w' => e = .returned (.int .u64 (xs.getD n 0)) ∧ w = w' := by
  have hn0 : decide ((n : Int) < 0) = false := by simp
  by_cases h : n < len
  · obtain ⟨pb, po, rfl, hpb, hp0⟩ := hat.int (i := n) (by omega)
    have hi : (n : Int) < len := by omega
    have hi2 : decide (len ≤ n) = false := by simp; omega
    clear hat
    generalize xs.getD n 0 = x at *
    go_enter Tryd.func48, Tryd.ntmps48
    go_wp2_with fail
    go_ret
    exact ⟨rfl, rfl⟩
  · have e : xs.getD n 0 = 0 := getD_ge _ _ _ (by omega)
    have hi2 : decide (len ≤ n) = true := by simp; omega
    rw [e]
    clear hat
    go_enter Tryd.func48, Tryd.ntmps48
    go_wp2_with fail
    go_ret
    exact ⟨rfl, rfl⟩

set_option maxHeartbeats 8000000 in
set_option maxRecDepth 100000 in
theorem ins26_ok (ch n : Nat) (a : Option Addr) (len cap : Nat) (xs : List Int) (w : World) (hlen : xs.length = len) (hat : (Lay.int .u64).At 0 w a xs) (h1 : 1 ≤ ch) (h2 : ch ≤ 32) (h3 : n ≤ 1000) :
    Calls Tryd.prog 26 #[.int .i64 ch, .int .i64 n, .slice a len cap] w (InsPost w (0, inRows ch n xs ch)) := by
  have HA := Lib.hid hat
  have HLEN := Lib.hid hlen
  clear hat hlen
  have d1 : decide ((ch : Int) < 1) = false := by simp; omega
  have d2 : decide (32 < (ch : Int)) = false := by simp; omega
  have d3 : decide ((n : Int) < 0) = false := by simp
  have d4 : decide (65536 < (n : Int)) = false := by simp; omega
  go_enter Tryd.func26, Tryd.ntmps26
  go_wp2_with fail
  go_loopw [8, 9] (fun v i wr => ∃ (c : Nat) (hs : List Hdr), c ≤ ch ∧ i = .int .i64 c ∧ RowsOwn wr w.heap.size v hs (inRows ch n xs c) ∧ Below w.heap.size w wr) (fun _ i _ => ch - (intOf i).toNat)
  case atStart => exact ⟨0, [], by omega, rfl, RowsOwn.nil _ _, Below.refl _ _⟩
  case round =>
    obtain ⟨c, hs, hc, rfl, hown, hbel⟩ := hrel
    have hsz := hbel.size
    by_cases hlt : c < ch
    · have HOW := Lib.hid hown
      have hhl : hs.length ≤ 32 := by rw [hown.len, inRows_len]; omega
      have HRS := Lib.hid (inRows_succ ch n xs c)
      clear hown
      generalize inRows ch n xs c = rows at *
      generalize hB1 : wr.heap.size = B1 at *
      have HB1 := Lib.hid hB1
      clear hB1
      go_wp2_with fail
      go_loopw [10, 11] (fun v i w1 => ∃ k : Nat, k ≤ n ∧ i = .int .i64 k ∧ (Lay.int .u64).Own 33 w1 B1 v (inRow ch k xs c) ∧ Below B1 wr w1) (fun _ i _ => n - (intOf i).toNat)
      case atStart => exact ⟨0, by omega, rfl, Lay.Own.nil _ _, Below.refl _ _⟩
      case round =>
        obtain ⟨k, hk, rfl, hl, hbl⟩ := hrel
        have hB2 : B1 ≤ wr.heap.size := by have := hbl.size; have := HB1.out; omega
        by_cases hlk : k < n
        · have HIN := Lib.hid (inp_nat h1 h2 hlt (show k < 65536 by omega))
          have HRW := Lib.hid (inRow_succ ch k xs c)
          have hrl : (inRow ch k xs c).length ≤ 1000 := by rw [inRow_len]; omega
          have HAr := Lib.hid (HA.out.below (hbel.trans (hbl.mono (by omega))))
          generalize inRow ch k xs c = row at *
          generalize 2 * (k * ch + c) = N at *
          have HV := Lib.hid (value_any a len cap N xs wr HLEN.out HAr.out)
          clear HAr
          generalize xs.getD N 0 = x at *
          go_wp2_with fail
          refine (input12_any ch c k wr).mono ?_
          rw [HIN.out]
          rintro e w3 ⟨rfl, rfl⟩
          go_wp2_with fail
          refine HV.out.mono ?_
          rintro e w3 ⟨rfl, rfl⟩
          go_wp2_with (at_builtin; refine app_lay_new Tryd.elemU [x] rfl _ _ rfl rfl hl rfl rfl (by omega) hB2 ?_)
          intro v' w5 r1 r2
          clear hl
          go_wp2_with fail
          go_roundw
          case rel => exact ⟨k + 1, by omega, by go_num, by rw [HRW.out]; exact r1, hbl.trans r2⟩
          case measure => simp [intOf]; omega
        · obtain rfl : k = n := by omega
          have hrl : (inRow ch k xs c).length = k := inRow_len _ _ _ _
          have hbl0 := hbl
          rw [← HB1.out] at hbl0
          generalize inRow ch k xs c = row at *
          obtain ⟨a1, c1, hv1, hat1, hl1, hc1⟩ := hl.at_ (d := 0)
          rw [hrl] at hv1 hl1
          subst hv1
          have HOW1 := Lib.hid (HOW.out.below hbl0)
          have hap : Apart (hv (a1, k, c1)) u8 := by
            unfold Apart
            cases e2 : u8.ownBlock with
            | none => exact Or.inr (Or.inl rfl)
            | some g =>
              cases e1 : (hv (a1, k, c1)).ownBlock with
              | none => exact Or.inl rfl
              | some g' => exact Or.inr (Or.inr (fun e3 => by have h1 := HOW.out.own.lt g e2; have h2 := hl.lt g' e1; have h3 := HB1.out; simp at e3; omega))
          have HR := Lib.hid (hl.lower (b' := w.heap.size) (by have := HB1.out; omega))
          have HAp := Lib.hid hap
          have hbel1 := hbel.trans (hbl.mono (by have := HB1.out; omega))
          have hsz1 := hbel1.size
          clear hap hl hat1 hbl0 HOW
          go_wp2_with (at_builtin; refine app_lay_at2 Tryd.elemS [(a1, k, c1)] rfl _ _ rfl rfl HOW1.out.own rfl rfl (by simp; omega) hsz1 ?_)
          intro v' w2 ho2 hg2 hat2
          have B0 : Below wr.heap.size wr (wr.alloc (.cells (Lay.sl.flat [(a1, k, c1)]).toArray 48)) := (Below.refl _ _).alloc (Nat.le_refl _) _
          have HN := Lib.hid ((HOW1.out.below B0).snoc (hd := (a1, k, c1)) (HR.out.grown B0) HAp.out ho2 hg2 (by simpa using hat2))
          have hbel2 := (hbel1.trans (B0.mono hsz1)).grown hg2 (by simp; omega) (fun g hg => (HOW1.out.own.lt g hg).1)
          clear ho2 hg2 hat2 B0 HOW1 HR
          go_wp2_with fail
          go_roundw
          case rel => exact ⟨c + 1, _, by omega, by go_num, by rw [HRS.out]; exact HN.out, hbel2⟩
          case measure => simp [intOf]; omega
    · obtain rfl : c = ch := by omega
      go_wp2_with fail
      go_ret2
      exact ⟨_, _, rfl, hown, hbel⟩

set_option maxHeartbeats 1000000 in
theorem ins26_bad (ch n : Int) (v : Value) (w : World) (hb : ch < 1 ∨ 32 < ch ∨ n < 0 ∨ 65536 < n) : Calls Tryd.prog 26 #[.int .i64 ch, .int .i64 n, v] w (InsPost w (3, [])) := by
  go_enter Tryd.func26, Tryd.ntmps26
  by_cases a0 : ch < 1
  · clear hb
    go_wp2_with fail
    go_ret2
    exact ⟨_, _, rfl, RowsOwn.nil _ _, Below.refl _ _⟩
  by_cases a1 : 32 < ch
  · clear hb
    go_wp2_with fail
    go_ret2
    exact ⟨_, _, rfl, RowsOwn.nil _ _, Below.refl _ _⟩
  by_cases a2 : n < 0
  · clear hb
    go_wp2_with fail
    go_ret2
    exact ⟨_, _, rfl, RowsOwn.nil _ _, Below.refl _ _⟩
  have a3 : 65536 < n := by omega
  clear hb
  go_wp2_with fail
  go_ret2
  exact ⟨_, _, rfl, RowsOwn.nil _ _, Below.refl _ _⟩
theorem ins26_any (ch n : Int) (a : Option Addr) (len cap : Nat) (xs : List Int) (w : World) (hlen : xs.length = len) (hat : (Lay.int .u64).At 0 w a xs) (hn : n ≤ 1000 ∨ 65536 < n) :
    Calls Tryd.prog 26 #[.int .i64 ch, .int .i64 n, .slice a len cap] w (InsPost w (insR ch n xs)) := by
  by_cases hb : ch < 1 ∨ 32 < ch ∨ n < 0 ∨ 65536 < n
  · have e : insR ch n xs = (3, []) := if_pos hb
    rw [e]
    exact ins26_bad ch n _ w hb
  · have e : insR ch n xs = (0, inRows ch.toNat n.toNat xs ch.toNat) := if_neg hb
    rw [e]
    have h := ins26_ok ch.toNat n.toNat a len cap xs w hlen hat (by omega) (by omega) (by omega)
    have e2 : ((ch.toNat : Nat) : Int) = ch := by omega
    have e3 : ((n.toNat : Nat) : Int) = n := by omega
    rw [e2, e3] at h
    exact h
end Go.Proofs.YtjhbabgcoemecaaDoor
