/- Walks of the reference's lattice: Is, Le, Join, Meet. -/
import Derived.Test.YtjancemacdffbaaDoorLw4
import Derived.Deep.DeepCutAuto
import Derived.Deep.CutBlock
namespace Go.Proofs.YtjancemacdffbaaDoor
open Go.RowKit

/-- The reference's lattice lies in block xb: its rows' slices in block g, row i in block r i. -/
structure RefC (w : World) (xb g cap n : Nat) (r : Nat → Nat) (M : Nat → Nat → Bool) : Prop where
  top : w.cell? ⟨xb, 0, none⟩ = some (.slice (some ⟨g, 0, none⟩) n cap)
  row : ∀ i, i < n → w.cell? ⟨g, i, none⟩ = some (.slice (some ⟨r i, 0, none⟩) n n)
  bit : ∀ i j, i < n → j < n → w.cell? ⟨r i, j, none⟩ = some (.bool (M i j))
  n32 : n ≤ 32

set_option maxHeartbeats 400000 in
theorem rIs_any (xb g cap n : Nat) (r : Nat → Nat) (M : Nat → Nat → Bool) (a : Int) (w : World) (h : RefC w xb g cap n r M) :
    Calls Tryd.prog 55 #[.pointer (some ⟨xb, 0, none⟩), .int .i64 a] w fun e w' => e = .returned (.bool (isB n a)) ∧ w = w' := by
  have ht := h.top
  clear h
  by_cases h0 : 0 ≤ a
  · go_enter Tryd.func55, Tryd.ntmps55
    go_wp2
    go_ret
    exact ⟨by simp [isB, h0], rfl⟩
  · have h1 : decide (0 ≤ a) = false := by simpa using h0
    go_enter Tryd.func55, Tryd.ntmps55
    go_wp2
    go_ret
    exact ⟨by simp [isB]; omega, rfl⟩

def rleB (n : Nat) (M : Nat → Nat → Bool) (x y : Int) : Bool := isB n x && isB n y && M x.toNat y.toNat

set_option maxHeartbeats 400000 in
theorem rle_any (xb g cap n : Nat) (r : Nat → Nat) (M : Nat → Nat → Bool) (x y : Int) (w : World) (h : RefC w xb g cap n r M) :
    Calls Tryd.prog 32 #[.pointer (some ⟨xb, 0, none⟩), .int .i64 x, .int .i64 y] w fun e w' => e = .returned (.bool (rleB n M x y)) ∧ w = w' := by
  have H := Lib.hid h
  clear h
  cases hx : isB n x with
  | false =>
    have Hx := Lib.hid hx
    clear hx
    go_enter Tryd.func32, Tryd.ntmps32
    go_wp2_with fail
    refine (rIs_any xb g cap n r M x _ H.out).mono ?_
    rintro e w' ⟨rfl, rfl⟩
    rw [Hx.out]
    go_wp2_with fail
    go_ret
    exact ⟨by simp [rleB, Hx.out], rfl⟩
  | true =>
    cases hy : isB n y with
    | false =>
      have Hx := Lib.hid hx
      have Hy := Lib.hid hy
      clear hx hy
      go_enter Tryd.func32, Tryd.ntmps32
      go_wp2_with fail
      refine (rIs_any xb g cap n r M x _ H.out).mono ?_
      rintro e w' ⟨rfl, rfl⟩
      rw [Hx.out]
      go_wp2_with fail
      refine (rIs_any xb g cap n r M y _ H.out).mono ?_
      rintro e w' ⟨rfl, rfl⟩
      rw [Hy.out]
      go_wp2_with fail
      go_ret
      exact ⟨by simp [rleB, Hy.out], rfl⟩
    | true =>
      have Hx := Lib.hid hx
      have Hy := Lib.hid hy
      simp [isB] at hx hy
      obtain ⟨i, rfl⟩ := Int.eq_ofNat_of_zero_le hx.1
      obtain ⟨j, rfl⟩ := Int.eq_ofNat_of_zero_le hy.1
      have hi : i < n := by omega
      have hj : j < n := by omega
      have ht := H.out.top
      have hr := H.out.row i hi
      have hb := H.out.bit i j hi hj
      clear hx hy
      go_enter Tryd.func32, Tryd.ntmps32
      go_wp2_with fail
      refine (rIs_any xb g cap n r M _ _ H.out).mono ?_
      rintro e w' ⟨rfl, rfl⟩
      rw [Hx.out]
      go_wp2_with fail
      refine (rIs_any xb g cap n r M _ _ H.out).mono ?_
      rintro e w' ⟨rfl, rfl⟩
      rw [Hy.out]
      go_wp2_with fail
      go_ret
      exact ⟨by simp [rleB, Hx.out, Hy.out], rfl⟩

/-- what the reference's Join asks of a level c, and of each level d -/
def jok (M : Nat → Nat → Bool) (a b c d : Nat) : Bool := M c d || (!M a d || !M b d)
def jbase (M : Nat → Nat → Bool) (a b c : Nat) : Bool := M a c && M b c
def jgood (n : Nat) (M : Nat → Nat → Bool) (a b c : Nat) : Bool := jbase M a b c && (List.range n).all (jok M a b c)
/-- the first good level from c on -/
def firstFrom (p : Nat → Bool) : Nat → Nat → Int
  | 0, _ => -1
  | f + 1, c => if p c then (c : Int) else firstFrom p f (c + 1)
def rjoin (n : Nat) (M : Nat → Nat → Bool) (a b : Nat) : Int := firstFrom (jgood n M a b) n 0

theorem firstFrom_step {p : Nat → Bool} {n c : Nat} (h : c < n) : firstFrom p (n - c) c = if p c then (c : Int) else firstFrom p (n - (c + 1)) (c + 1) := by
  rw [show n - c = (n - (c + 1)) + 1 by omega, firstFrom]

set_option maxHeartbeats 1000000 in
set_option maxRecDepth 100000 in
theorem rjoin_any (xb g cap n a b : Nat) (r : Nat → Nat) (M : Nat → Nat → Bool) (w : World) (h : RefC w xb g cap n r M) (ha : a < n) (hb : b < n) :
    Calls Tryd.prog 53 #[.pointer (some ⟨xb, 0, none⟩), .int .i64 a, .int .i64 b] w fun e w' => e = .returned (.int .i64 (rjoin n M a b)) ∧ w = w' := by
  have H := Lib.hid h
  have ht := h.top
  have hra := h.row a ha
  have hrb := h.row b hb
  have hn := h.n32
  have ha2 : (a : Int) < n := by omega
  have hb2 : (b : Int) < n := by omega
  clear h
  go_enter Tryd.func53, Tryd.ntmps53
  go_wp2_with fail
  go_loop [7] (fun i => ∃ c : Nat, c ≤ n ∧ i = .int .i64 c ∧ Hid (rjoin n M a b = firstFrom (jgood n M a b) (n - c) c)) (fun i => n - (intOf i).toNat)
  case atStart => exact ⟨0, by omega, rfl, rfl⟩
  case round =>
    obtain ⟨c, hc, rfl, hf⟩ := hrel
    by_cases hlt : c < n
    · have hrc := H.out.row c hlt
      have hac := H.out.bit a c ha hlt
      have hbc := H.out.bit b c hb hlt
      have Hstep := Lib.hid (hf.out.trans (firstFrom_step hlt))
      clear hf
      have hc2 : (c : Int) < n := by omega
      go_upto_region 4 with (fail)
      go_cut [8] (fun s wx => s = .bool (jbase M a b c) ∧ w = wx)
      case first =>
        cases hA : M a c with
        | false =>
          rw [hA] at hac
          have Hb := Lib.hid (show jbase M a b c = false by simp [jbase, hA])
          clear hA
          go_wp2_with fail
          go_meet
          exact ⟨by rw [Hb.out], rfl⟩
        | true =>
          rw [hA] at hac
          cases hB : M b c with
          | false =>
            rw [hB] at hbc
            have Hb := Lib.hid (show jbase M a b c = false by simp [jbase, hB])
            clear hA hB
            go_wp2_with fail
            go_meet
            exact ⟨by rw [Hb.out], rfl⟩
          | true =>
            rw [hB] at hbc
            have Hb := Lib.hid (show jbase M a b c = true by simp [jbase, hA, hB])
            clear hA hB
            go_wp2_with fail
            go_meet
            exact ⟨by rw [Hb.out], rfl⟩
      case rest =>
        obtain ⟨rfl, rfl⟩ := hcut
        clear hac hbc
        go_upto_block 2 with (fail)
        go_cut [8] (fun s wx => s = .bool (jgood n M a b c) ∧ w = wx)
        case first =>
          go_wp2_with fail
          go_loop [8, 9] (fun l i => ∃ d : Nat, d ≤ n ∧ i = .int .i64 d ∧ l = .bool (jbase M a b c && (List.range d).all (jok M a b c))) (fun _ i => n - (intOf i).toNat)
          case atStart => exact ⟨0, by omega, rfl, by simp⟩
          case round =>
            obtain ⟨d, hd, rfl, rfl⟩ := hrel
            by_cases hlt2 : d < n
            · have hd2 : (d : Int) < n := by omega
              cases hL : (jbase M a b c && (List.range d).all (jok M a b c)) with
              | false =>
                have Hg : Hid (jgood n M a b c = false) := by
                  show jgood n M a b c = false
                  unfold jgood
                  rw [Bool.and_eq_false_iff] at hL ⊢
                  rcases hL with hL | hL
                  · exact Or.inl hL
                  · right
                    rw [List.all_eq_false] at hL ⊢
                    obtain ⟨x, hx, hx2⟩ := hL
                    exact ⟨x, List.mem_range.2 (by have := List.mem_range.1 hx; omega), hx2⟩
                clear hL
                go_wp2_with fail
                go_meet
                exact ⟨by rw [Hg.out], rfl⟩
              | true =>
                have hcd := H.out.bit c d hlt hlt2
                have had := H.out.bit a d ha hlt2
                have hbd := H.out.bit b d hb hlt2
                have Hsucc : Hid ((jbase M a b c && (List.range (d + 1)).all (jok M a b c)) = jok M a b c d) := by
                  show _ = _
                  rw [range_all_succ, ← Bool.and_assoc, hL, Bool.true_and]
                clear hL
                cases e1 : M c d with
                | true =>
                  rw [e1] at hcd
                  have Hj := Lib.hid (show jok M a b c d = true by simp [jok, e1])
                  clear e1
                  go_wp2_with fail
                  go_round
                  case rel => exact ⟨d + 1, by omega, by go_num, by rw [Hsucc.out, Hj.out]⟩
                  case measure => simp [intOf]; omega
                | false =>
                  rw [e1] at hcd
                  cases e2 : M a d with
                  | false =>
                    rw [e2] at had
                    have Hj := Lib.hid (show jok M a b c d = true by simp [jok, e2])
                    clear e1 e2
                    go_wp2_with fail
                    go_round
                    case rel => exact ⟨d + 1, by omega, by go_num, by rw [Hsucc.out, Hj.out]⟩
                    case measure => simp [intOf]; omega
                  | true =>
                    rw [e2] at had
                    cases e3 : M b d with
                    | false =>
                      rw [e3] at hbd
                      have Hj := Lib.hid (show jok M a b c d = true by simp [jok, e3])
                      clear e1 e2 e3
                      go_wp2_with fail
                      go_round
                      case rel => exact ⟨d + 1, by omega, by go_num, by rw [Hsucc.out, Hj.out]⟩
                      case measure => simp [intOf]; omega
                    | true =>
                      rw [e3] at hbd
                      have Hj := Lib.hid (show jok M a b c d = false by simp [jok, e1, e2, e3])
                      clear e1 e2 e3
                      go_wp2_with fail
                      go_round
                      case rel => exact ⟨d + 1, by omega, by go_num, by rw [Hsucc.out, Hj.out]⟩
                      case measure => simp [intOf]; omega
            · obtain rfl : d = n := by omega
              go_wp2_with fail
              go_meet
              exact ⟨rfl, rfl⟩
        case rest =>
          obtain ⟨rfl, rfl⟩ := hcut
          cases hg : jgood n M a b c with
          | true =>
            have Hfin : Hid (rjoin n M a b = c) := by rw [Hstep.out, hg]; rfl
            clear hg
            go_wp2_with fail
            go_ret
            exact ⟨by rw [Hfin.out]; rfl, rfl⟩
          | false =>
            have Hfin : Hid (rjoin n M a b = firstFrom (jgood n M a b) (n - (c + 1)) (c + 1)) := by rw [Hstep.out, hg]; rfl
            clear hg
            go_wp2_with fail
            go_round
            case rel => exact ⟨c + 1, by omega, by go_num, Hfin⟩
            case measure => simp [intOf]; omega
    · obtain rfl : c = n := by omega
      have Hfin : Hid (rjoin c M a b = -1) := by rw [hf.out, Nat.sub_self]; rfl
      go_wp2_with fail
      go_ret
      exact ⟨by rw [Hfin.out]; rfl, rfl⟩

/-- a matrix turned around -/
def tr (M : Nat → Nat → Bool) : Nat → Nat → Bool := fun i j => M j i

set_option maxHeartbeats 1000000 in
set_option maxRecDepth 100000 in
theorem rmeet_any (xb g cap n a b : Nat) (r : Nat → Nat) (M : Nat → Nat → Bool) (w : World) (h : RefC w xb g cap n r M) (ha : a < n) (hb : b < n) :
    Calls Tryd.prog 54 #[.pointer (some ⟨xb, 0, none⟩), .int .i64 a, .int .i64 b] w fun e w' => e = .returned (.int .i64 (rjoin n (tr M) a b)) ∧ w = w' := by
  have H := Lib.hid h
  have ht := h.top
  have hn := h.n32
  have ha2 : (a : Int) < n := by omega
  have hb2 : (b : Int) < n := by omega
  clear h
  go_enter Tryd.func54, Tryd.ntmps54
  go_wp2_with fail
  go_loop [7] (fun i => ∃ c : Nat, c ≤ n ∧ i = .int .i64 c ∧ Hid (rjoin n (tr M) a b = firstFrom (jgood n (tr M) a b) (n - c) c)) (fun i => n - (intOf i).toNat)
  case atStart => exact ⟨0, by omega, rfl, rfl⟩
  case round =>
    obtain ⟨c, hc, rfl, hf⟩ := hrel
    by_cases hlt : c < n
    · have hrc := H.out.row c hlt
      have hac := H.out.bit c a hlt ha
      have hbc := H.out.bit c b hlt hb
      have Hstep := Lib.hid (hf.out.trans (firstFrom_step hlt))
      clear hf
      have hc2 : (c : Int) < n := by omega
      go_upto_region 4 with (fail)
      go_cut [8] (fun s wx => s = .bool (jbase (tr M) a b c) ∧ w = wx)
      case first =>
        cases hA : M c a with
        | false =>
          rw [hA] at hac
          have Hb := Lib.hid (show jbase (tr M) a b c = false by simp [jbase, tr, hA])
          clear hA
          go_wp2_with fail
          go_meet
          exact ⟨by rw [Hb.out], rfl⟩
        | true =>
          rw [hA] at hac
          cases hB : M c b with
          | false =>
            rw [hB] at hbc
            have Hb := Lib.hid (show jbase (tr M) a b c = false by simp [jbase, tr, hB])
            clear hA hB
            go_wp2_with fail
            go_meet
            exact ⟨by rw [Hb.out], rfl⟩
          | true =>
            rw [hB] at hbc
            have Hb := Lib.hid (show jbase (tr M) a b c = true by simp [jbase, tr, hA, hB])
            clear hA hB
            go_wp2_with fail
            go_meet
            exact ⟨by rw [Hb.out], rfl⟩
      case rest =>
        obtain ⟨rfl, rfl⟩ := hcut
        clear hac hbc
        go_upto_block 2 with (fail)
        go_cut [8] (fun s wx => s = .bool (jgood n (tr M) a b c) ∧ w = wx)
        case first =>
          go_wp2_with fail
          go_loop [8, 9] (fun l i => ∃ d : Nat, d ≤ n ∧ i = .int .i64 d ∧ l = .bool (jbase (tr M) a b c && (List.range d).all (jok (tr M) a b c))) (fun _ i => n - (intOf i).toNat)
          case atStart => exact ⟨0, by omega, rfl, by simp⟩
          case round =>
            obtain ⟨d, hd, rfl, rfl⟩ := hrel
            by_cases hlt2 : d < n
            · have hd2 : (d : Int) < n := by omega
              cases hL : (jbase (tr M) a b c && (List.range d).all (jok (tr M) a b c)) with
              | false =>
                have Hg : Hid (jgood n (tr M) a b c = false) := by
                  show jgood n (tr M) a b c = false
                  unfold jgood
                  rw [Bool.and_eq_false_iff] at hL ⊢
                  rcases hL with hL | hL
                  · exact Or.inl hL
                  · right
                    rw [List.all_eq_false] at hL ⊢
                    obtain ⟨x, hx, hx2⟩ := hL
                    exact ⟨x, List.mem_range.2 (by have := List.mem_range.1 hx; omega), hx2⟩
                clear hL
                go_wp2_with fail
                go_meet
                exact ⟨by rw [Hg.out], rfl⟩
              | true =>
                have hcd := H.out.bit d c hlt2 hlt
                have had := H.out.bit d a hlt2 ha
                have hbd := H.out.bit d b hlt2 hb
                have hrd := H.out.row d hlt2
                have Hsucc : Hid ((jbase (tr M) a b c && (List.range (d + 1)).all (jok (tr M) a b c)) = jok (tr M) a b c d) := by
                  show _ = _
                  rw [range_all_succ, ← Bool.and_assoc, hL, Bool.true_and]
                clear hL
                cases e1 : M d c with
                | true =>
                  rw [e1] at hcd
                  have Hj := Lib.hid (show jok (tr M) a b c d = true by simp [jok, tr, e1])
                  clear e1
                  go_wp2_with fail
                  go_round
                  case rel => exact ⟨d + 1, by omega, by go_num, by rw [Hsucc.out, Hj.out]⟩
                  case measure => simp [intOf]; omega
                | false =>
                  rw [e1] at hcd
                  cases e2 : M d a with
                  | false =>
                    rw [e2] at had
                    have Hj := Lib.hid (show jok (tr M) a b c d = true by simp [jok, tr, e2])
                    clear e1 e2
                    go_wp2_with fail
                    go_round
                    case rel => exact ⟨d + 1, by omega, by go_num, by rw [Hsucc.out, Hj.out]⟩
                    case measure => simp [intOf]; omega
                  | true =>
                    rw [e2] at had
                    cases e3 : M d b with
                    | false =>
                      rw [e3] at hbd
                      have Hj := Lib.hid (show jok (tr M) a b c d = true by simp [jok, tr, e3])
                      clear e1 e2 e3
                      go_wp2_with fail
                      go_round
                      case rel => exact ⟨d + 1, by omega, by go_num, by rw [Hsucc.out, Hj.out]⟩
                      case measure => simp [intOf]; omega
                    | true =>
                      rw [e3] at hbd
                      have Hj := Lib.hid (show jok (tr M) a b c d = false by simp [jok, tr, e1, e2, e3])
                      clear e1 e2 e3
                      go_wp2_with fail
                      go_round
                      case rel => exact ⟨d + 1, by omega, by go_num, by rw [Hsucc.out, Hj.out]⟩
                      case measure => simp [intOf]; omega
            · obtain rfl : d = n := by omega
              go_wp2_with fail
              go_meet
              exact ⟨rfl, rfl⟩
        case rest =>
          obtain ⟨rfl, rfl⟩ := hcut
          cases hg : jgood n (tr M) a b c with
          | true =>
            have Hfin : Hid (rjoin n (tr M) a b = c) := by rw [Hstep.out, hg]; rfl
            clear hg
            go_wp2_with fail
            go_ret
            exact ⟨by rw [Hfin.out]; rfl, rfl⟩
          | false =>
            have Hfin : Hid (rjoin n (tr M) a b = firstFrom (jgood n (tr M) a b) (n - (c + 1)) (c + 1)) := by rw [Hstep.out, hg]; rfl
            clear hg
            go_wp2_with fail
            go_round
            case rel => exact ⟨c + 1, by omega, by go_num, Hfin⟩
            case measure => simp [intOf]; omega
    · obtain rfl : c = n := by omega
      have Hfin : Hid (rjoin c (tr M) a b = -1) := by rw [hf.out, Nat.sub_self]; rfl
      go_wp2_with fail
      go_ret
      exact ⟨by rw [Hfin.out]; rfl, rfl⟩

end Go.Proofs.YtjancemacdffbaaDoor
