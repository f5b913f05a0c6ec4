/- Walks (part 6): New for every input; Join and Meet for every input; bounds, fails, Mod. -/
import Derived.Test.YtjancemacdffbaaDoorLw5
namespace Go.Proofs.YtjancemacdffbaaDoor
open Go.RowKit

def newE (n : Int) (ps : List (Int × Int)) : Nat × (Nat → Nat) × (Nat → Nat) :=
  if n < 1 ∨ 32 < n then (3, fun _ => 0, fun _ => 0) else if 1024 < ps.length then (5, fun _ => 0, fun _ => 0) else newL n.toNat ps

theorem new_all (n : Int) (a : Option Addr) (len cap : Nat) (w : World) (ps : List (Int × Int)) (hlen : ps.length = len) (hp : PairsAt w a ps) (hT : Tab w) (hsz0 : 0 < w.heap.size) :
    Calls Tryd.prog 24 #[.int .i64 n, .slice a len cap] w fun e w' =>
      ((newE n ps).1 ≠ 0 → e = .returned (.tuple #[.pointer none, .int .i64 ((newE n ps).1 : Nat)])) ∧
      ((newE n ps).1 = 0 → e = .returned (.tuple #[.pointer (some ⟨w.heap.size + 1, 0, none⟩), .int .i64 0]) ∧ LatC w' (w.heap.size + 1) n.toNat (newE n ps).2.1 (newE n ps).2.2 ∧ w.heap.size + 1 < w'.heap.size) ∧
      Below w.heap.size w w' := by
  by_cases h1 : n < 1
  · have e : newE n ps = (3, fun _ => 0, fun _ => 0) := by unfold newE; rw [if_pos (Or.inl h1)]
    rw [e]
    exact (new_lo n _ w h1).mono fun e w' ⟨h, hb⟩ => ⟨fun _ => h, fun h => absurd h (by decide), hb⟩
  · by_cases h2 : 32 < n
    · have e : newE n ps = (3, fun _ => 0, fun _ => 0) := by unfold newE; rw [if_pos (Or.inr h2)]
      rw [e]
      exact (new_hi n _ w h2).mono fun e w' ⟨h, hb⟩ => ⟨fun _ => h, fun h => absurd h (by decide), hb⟩
    · by_cases h3 : 1024 < len
      · have e : newE n ps = (5, fun _ => 0, fun _ => 0) := by unfold newE; rw [if_neg (by omega), if_pos (by omega)]
        rw [e]
        exact (new_long n a len cap w (by omega) (by omega) h3).mono fun e w' ⟨h, hb⟩ => ⟨fun _ => h, fun h => absurd h (by decide), hb⟩
      · have e : newE n ps = newL n.toNat ps := by unfold newE; rw [if_neg (by omega), if_neg (by omega)]
        obtain ⟨k, rfl⟩ := Int.eq_ofNat_of_zero_le (show 0 ≤ n by omega)
        rw [e]
        exact (new_main k a len cap w ps (by omega) (by omega) (by omega) hlen hp hT hsz0).mono fun e w' h => h

theorem new_err {n : Int} {a : Option Addr} {len cap c : Nat} {w : World} (ps : List (Int × Int)) (he : (newE n ps).1 = c) (hc : c ≠ 0) (hlen : ps.length = len) (hp : PairsAt w a ps) (hT : Tab w) (hsz0 : 0 < w.heap.size) :
    Calls Tryd.prog 24 #[.int .i64 n, .slice a len cap] w fun e w' => e = .returned (.tuple #[.pointer none, .int .i64 c]) ∧ Below w.heap.size w w' :=
  (new_all n a len cap w ps hlen hp hT hsz0).mono fun _ _ ⟨h1, _, h3⟩ => ⟨by rw [← he]; exact h1 (by rw [he]; exact hc), h3⟩

theorem new_ok {n : Int} {a : Option Addr} {len cap : Nat} {w : World} (ps : List (Int × Int)) (he : (newE n ps).1 = 0) (hlen : ps.length = len) (hp : PairsAt w a ps) (hT : Tab w) (hsz0 : 0 < w.heap.size) :
    Calls Tryd.prog 24 #[.int .i64 n, .slice a len cap] w fun e w' => e = .returned (.tuple #[.pointer (some ⟨w.heap.size + 1, 0, none⟩), .int .i64 0]) ∧
      LatC w' (w.heap.size + 1) n.toNat (newE n ps).2.1 (newE n ps).2.2 ∧ w.heap.size + 1 < w'.heap.size ∧ Below w.heap.size w w' :=
  (new_all n a len cap w ps hlen hp hT hsz0).mono fun _ _ ⟨_, h2, h3⟩ => ⟨(h2 he).1, (h2 he).2.1, (h2 he).2.2, h3⟩

theorem Tab.below {w w' : World} (h : Tab w) (hb : Below w.heap.size w w') (h0 : 0 < w.heap.size) : Tab w' := fun i hi => (hb.cell (p := ⟨0, i, none⟩) h0).trans (h i hi)
theorem LatC.below {w w' : World} {b n : Nat} {up dn : Nat → Nat} (h : LatC w b n up dn) (hb : Below w.heap.size w w') (h0 : b < w.heap.size) : LatC w' b n up dn :=
  ⟨(hb.cell (p := ⟨b, _, none⟩) h0).trans h.hn, fun i hi => (hb.cell (p := ⟨b, _, none⟩) h0).trans (h.hup i hi), fun i hi => (hb.cell (p := ⟨b, _, none⟩) h0).trans (h.hdn i hi), h.bup, h.bdn, h.n32⟩
theorem PairsAt.below {w w' : World} {a : Option Addr} {ps : List (Int × Int)} (h : PairsAt w a ps) (hb : Below w.heap.size w w') : PairsAt w' a ps := fun i hi => by
  obtain ⟨b, o, e, h0, h1, h2⟩ := h i hi
  exact ⟨b, o, e, Nat.lt_of_lt_of_le h0 hb.size, (hb.cell (p := ⟨b, _, none⟩) h0).trans h1, (hb.cell (p := ⟨b, _, none⟩) h0).trans h2⟩
theorem PairsAt.nil (w : World) (a : Option Addr) : PairsAt w a [] := fun i hi => by simp at hi

set_option maxHeartbeats 400000 in
theorem join_out (b n : Nat) (x y : Int) (up dn : Nat → Nat) (w : World) (h : LatC w b n up dn) (hxy : (isB n x && isB n y) = false) :
    Calls Tryd.prog 20 #[.pointer (some ⟨b, 0, none⟩), .int .i64 x, .int .i64 y] w fun e w' => e = .returned (.tuple #[.int .i64 0, .int .i64 3]) ∧ w = w' := by
  have H := Lib.hid h
  clear h
  cases hx : isB n x with
  | false =>
    have Hx := Lib.hid hx
    clear hx hxy
    go_enter Tryd.func20, Tryd.ntmps20
    go_wp2_with fail
    refine (is_any _ n b _ H.out.hn).mono ?_
    rintro e w' ⟨rfl, rfl⟩
    rw [Hx.out]
    go_wp2_with fail
    go_ret2
    exact ⟨rfl, rfl⟩
  | true =>
    have Hx := Lib.hid hx
    have Hy := Lib.hid (show isB n y = false by rw [hx] at hxy; simpa using hxy)
    clear hx hxy
    go_enter Tryd.func20, Tryd.ntmps20
    go_wp2_with fail
    refine (is_any _ n b _ H.out.hn).mono ?_
    rintro e w' ⟨rfl, rfl⟩
    rw [Hx.out]
    go_wp2_with fail
    refine (is_any _ n b _ H.out.hn).mono ?_
    rintro e w' ⟨rfl, rfl⟩
    rw [Hy.out]
    go_wp2_with fail
    go_ret2
    exact ⟨rfl, rfl⟩

set_option maxHeartbeats 400000 in
theorem meet_out (b n : Nat) (x y : Int) (up dn : Nat → Nat) (w : World) (h : LatC w b n up dn) (hxy : (isB n x && isB n y) = false) :
    Calls Tryd.prog 21 #[.pointer (some ⟨b, 0, none⟩), .int .i64 x, .int .i64 y] w fun e w' => e = .returned (.tuple #[.int .i64 0, .int .i64 3]) ∧ w = w' := by
  have H := Lib.hid h
  clear h
  cases hx : isB n x with
  | false =>
    have Hx := Lib.hid hx
    clear hx hxy
    go_enter Tryd.func21, Tryd.ntmps21
    go_wp2_with fail
    refine (is_any _ n b _ H.out.hn).mono ?_
    rintro e w' ⟨rfl, rfl⟩
    rw [Hx.out]
    go_wp2_with fail
    go_ret2
    exact ⟨rfl, rfl⟩
  | true =>
    have Hx := Lib.hid hx
    have Hy := Lib.hid (show isB n y = false by rw [hx] at hxy; simpa using hxy)
    clear hx hxy
    go_enter Tryd.func21, Tryd.ntmps21
    go_wp2_with fail
    refine (is_any _ n b _ H.out.hn).mono ?_
    rintro e w' ⟨rfl, rfl⟩
    rw [Hx.out]
    go_wp2_with fail
    refine (is_any _ n b _ H.out.hn).mono ?_
    rintro e w' ⟨rfl, rfl⟩
    rw [Hy.out]
    go_wp2_with fail
    go_ret2
    exact ⟨rfl, rfl⟩

set_option maxHeartbeats 400000 in
theorem meet_in (b n i j : Nat) (up dn : Nat → Nat) (w : World) (hT : Tab w) (h : LatC w b n up dn) (hi : i < n) (hj : j < n) :
    Calls Tryd.prog 21 #[.pointer (some ⟨b, 0, none⟩), .int .i64 i, .int .i64 j] w fun e w' => e = .returned (.tuple #[.int .i64 (joinI dn i j), .int .i64 0]) ∧ ∃ k, w' = w.drewN k := by
  have Hx : Hid (isB n i = true) := by show isB n i = true; simp [isB]; exact hi
  have Hy : Hid (isB n j = true) := by show isB n j = true; simp [isB]; exact hj
  have H := Lib.hid h
  have HT := Lib.hid hT
  have hn := H.out.n32
  have hci := H.out.hdn i (by omega)
  have hcj := H.out.hdn j (by omega)
  have hbi := H.out.bdn i (by omega)
  have hbj := H.out.bdn j (by omega)
  have hand := and_u32 _ _ hbi hbj
  have hi2 : (i : Int) < 32 := by omega
  have hj2 : (j : Int) < 32 := by omega
  have hcall := Lib.hid (bound_q b 33 (dn i &&& dn j) dn w hT (and_lt32 _ _ hbi) h.bdn h.hdn)
  clear h hT
  go_enter Tryd.func21, Tryd.ntmps21
  go_wp2_with fail
  refine (is_any _ n b _ H.out.hn).mono ?_
  rintro e w' ⟨rfl, rfl⟩
  rw [Hx.out]
  go_wp2_with fail
  refine (is_any _ n b _ H.out.hn).mono ?_
  rintro e w' ⟨rfl, rfl⟩
  rw [Hy.out]
  go_wp2_with fail
  go_quiet ((go_at_call 51; exact hcall.out _))
  go_wp2_with fail
  go_ret2
  exact ⟨rfl, _, rfl⟩

/-- what Join returns: a level, or 0 and ErrRange -/
def jv (n : Nat) (s : Nat → Nat) (x y : Int) : Int := if isB n x && isB n y then joinI s x y else 0
def jc (n : Nat) (x y : Int) : Int := if isB n x && isB n y then 0 else 3
theorem isB_nat {n : Nat} {x : Int} (h : isB n x = true) : ∃ i : Nat, x = i ∧ i < n := by
  simp [isB] at h
  obtain ⟨i, rfl⟩ := Int.eq_ofNat_of_zero_le h.1
  exact ⟨i, rfl, by omega⟩

theorem join_any (b n : Nat) (x y : Int) (up dn : Nat → Nat) (w : World) (hT : Tab w) (h : LatC w b n up dn) :
    Calls Tryd.prog 20 #[.pointer (some ⟨b, 0, none⟩), .int .i64 x, .int .i64 y] w fun e w' => e = .returned (.tuple #[.int .i64 (jv n up x y), .int .i64 (jc n x y)]) ∧ Same w w' := by
  cases hxy : (isB n x && isB n y) with
  | false =>
    refine (join_out b n x y up dn w h hxy).mono ?_
    rintro e w' ⟨rfl, rfl⟩
    exact ⟨by simp [jv, jc, hxy], Same.refl _⟩
  | true =>
    have h2 := hxy
    rw [Bool.and_eq_true] at h2
    obtain ⟨i, rfl, hi⟩ := isB_nat h2.1
    obtain ⟨j, rfl, hj⟩ := isB_nat h2.2
    refine (join_in b n i j up dn w hT h hi hj).mono ?_
    rintro e w' ⟨rfl, hs⟩
    exact ⟨by simp [jv, jc, hxy], hs⟩
theorem meet_any (b n : Nat) (x y : Int) (up dn : Nat → Nat) (w : World) (hT : Tab w) (h : LatC w b n up dn) :
    Calls Tryd.prog 21 #[.pointer (some ⟨b, 0, none⟩), .int .i64 x, .int .i64 y] w fun e w' => e = .returned (.tuple #[.int .i64 (jv n dn x y), .int .i64 (jc n x y)]) ∧ Same w w' := by
  cases hxy : (isB n x && isB n y) with
  | false =>
    refine (meet_out b n x y up dn w h hxy).mono ?_
    rintro e w' ⟨rfl, rfl⟩
    exact ⟨by simp [jv, jc, hxy], Same.refl _⟩
  | true =>
    have h2 := hxy
    rw [Bool.and_eq_true] at h2
    obtain ⟨i, rfl, hi⟩ := isB_nat h2.1
    obtain ⟨j, rfl, hj⟩ := isB_nat h2.2
    refine (meet_in b n i j up dn w hT h hi hj).mono ?_
    rintro e w' ⟨rfl, hs⟩
    exact ⟨by simp [jv, jc, hxy], hs⟩

set_option maxHeartbeats 400000 in
theorem mod_any (n m : Int) (w : World) (h : 1 ≤ m) (h2 : m ≤ 1000000) :
    Calls Tryd.prog 18 #[.int .i64 n, .int .i64 m] w fun e w' => e = .returned (.int .i64 (n % m)) ∧ w = w' := by
  have b1 : -m < n.tmod m := by have := Int.lt_tmod_of_pos n (show 0 < m by omega); omega
  have b2 : n.tmod m < m := Int.tmod_lt_of_pos n (by omega)
  have e1 : (n.tmod m + m) % m = n % m := by
    rw [Int.add_emod_right, Int.tmod_def, Int.sub_mul_emod_self_left]
  have E1 := Lib.hid e1
  clear e1
  go_enter Tryd.func18, Tryd.ntmps18
  go_wp2_with fail
  go_ret
  exact ⟨by rw [← E1.out]; rfl, rfl⟩

end Go.Proofs.YtjancemacdffbaaDoor
