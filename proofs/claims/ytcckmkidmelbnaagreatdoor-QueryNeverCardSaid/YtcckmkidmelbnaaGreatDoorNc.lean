/- Walks: query.New, New of the reference. -/
import Derived.Test.YtcckmkidmelbnaaGreatDoorNb
namespace Go.Proofs.YtcckmkidmelbnaaGreatDoor
open Go.RowKit

def sideOk (n : Nat) (xs ys : List Int) : Bool := decide (1 ≤ xs.length) && decide (xs.length ≤ 32) && decide (ys.length ≤ 32) && (xs ++ ys).all (isB n)
def NewSP (w : World) (lb n : Nat) (xs ys : List Int) (e : Ending) (w' : World) : Prop :=
  Below w.heap.size w w' ∧ ((sideOk n xs ys = false ∧ e = .returned (.tuple #[.pointer none, .int .i64 3])) ∨
    (sideOk n xs ys = true ∧ ∃ sb ca cc sa sc, e = .returned (.tuple #[.pointer (some ⟨sb, 0, none⟩), .int .i64 0]) ∧ SideAt w' sb lb ca cc xs sa sc ys))
theorem sideOk_len {n : Nat} {xs ys : List Int} (h : ¬ (1 ≤ xs.length ∧ xs.length ≤ 32 ∧ ys.length ≤ 32)) : sideOk n xs ys = false := by
  unfold sideOk
  rw [Bool.eq_false_iff]
  intro e
  simp only [Bool.and_eq_true, decide_eq_true_eq] at e
  exact h ⟨e.1.1.1, e.1.1.2, e.1.2⟩
theorem sideOk_bad {n : Nat} {xs ys : List Int} {k : Nat} (hk : k < (xs ++ ys).length) (h : isB n ((xs ++ ys).getD k 0) = false) : sideOk n xs ys = false := by
  unfold sideOk
  have : (xs ++ ys).all (isB n) = false := List.all_eq_false.2 ⟨_, getD_mem 0 _ k hk, by rw [h]; decide⟩
  rw [this, Bool.and_false]
theorem sideOk_good {n : Nat} {xs ys : List Int} (h1 : 1 ≤ xs.length) (h2 : xs.length ≤ 32) (h3 : ys.length ≤ 32) (h : (xs ++ ys).all (isB n) = true) : sideOk n xs ys = true := by
  unfold sideOk
  rw [h]; simp [h1, h2, h3]
set_option maxRecDepth 100000 in
set_option maxHeartbeats 2000000 in
theorem new16 (lb n : Nat) (ca : Option Addr) (cc : Nat) (xs : List Int) (sa : Option Addr) (sc : Nat) (ys : List Int) (sens : Bool) (w : World) (hn : w.cell? ⟨lb, 0, none⟩ = some (.int .i64 n))
    (hx : (Lay.int .i64).At 0 w ca xs) (hxn : ca = none → cc = 0) (hy : (Lay.int .i64).At 0 w sa ys) (hyn : sa = none → sc = 0) (hxl : xs.length ≤ 1000) (hyl : ys.length ≤ 1000) :
    Calls Tryz.prog 16 #[.pointer (some ⟨lb, 0, none⟩), .slice ca xs.length cc, .slice sa ys.length sc, .bool sens] w (NewSP w lb n xs ys) := by
  by_cases hb : 1 ≤ xs.length ∧ xs.length ≤ 32 ∧ ys.length ≤ 32
  · obtain ⟨h1, h2, h3⟩ := hb
    have d1 : decide ((xs.length : Int) < 1) = false := by simp; omega
    have d2 : decide ((32 : Int) < (xs.length : Int)) = false := by simp; omega
    have d3 : decide ((32 : Int) < (ys.length : Int)) = false := by simp; omega
    have HX := Lib.hid hx
    have HY := Lib.hid hy
    have HXN := Lib.hid hxn
    have HYN := Lib.hid hyn
    have HLT : Hid (lb < w.heap.size) := Lib.hid (World.block_lt_of_cell? w _ hn)
    have HLN : Hid (xs.length ≤ 32 ∧ ys.length ≤ 32 ∧ 1 ≤ xs.length) := Lib.hid ⟨h2, h3, h1⟩
    clear hx hy hxn hyn h1 h2 h3 hxl hyl
    go_enter Tryz.func16, Tryz.ntmps16
    go_wp2_with (first
      | (at_builtin
         refine app_lay_at Tryz.elemI (d := 0) (qs := xs) rfl _ _ rfl rfl (Lay.Own.nil w w.heap.size) rfl HXN.out rfl HX.out (by have := HLN.out; show 0 + xs.length ≤ 1000000; omega) (Nat.le_refl _) ?_
         intro v1 w1 r1 r2
         rw [List.nil_append] at r1
         have HO1 := Lib.hid r1
         have HB1 := Lib.hid r2
         clear r1 r2)
      | (at_builtin
         refine app_lay_at Tryz.elemI (d := 0) (qs := ys) rfl _ _ rfl rfl HO1.out rfl HYN.out rfl (HY.out.below HB1.out) (by have := HLN.out; omega) HB1.out.size ?_
         intro v2 w2 r1 r2
         obtain ⟨va, vc, rfl, hvat, _, _⟩ := r1.at_ (d := 0)
         generalize hm : (xs ++ ys).length = m at *
         have HV2 := Lib.hid hvat
         have HB2 := Lib.hid (HB1.out.trans r2)
         clear r1 r2 hvat))
    have hn2 := (HB2.out.cell (p := ⟨lb, 0, none⟩) HLT.out).trans hn
    have HM : Hid (m ≤ 64) := Lib.hid (by rw [← hm, List.length_append]; have := HLN.out; omega)
    have HMM := Lib.hid hm
    have hm64 := HM.out
    have HTK : Hid (∀ k, k < m → (xs ++ ys).take (k + 1) = (xs ++ ys).take k ++ [(xs ++ ys).getD k 0]) := Lib.hid fun k hk => take_getD 0 _ k (by omega)
    have HBAD : Hid (∀ k, k < m → isB n ((xs ++ ys).getD k 0) = false → sideOk n xs ys = false) := Lib.hid fun k hk h => sideOk_bad (by omega) h
    have HGOOD : Hid ((xs ++ ys).all (isB n) = true → sideOk n xs ys = true) := Lib.hid fun h => sideOk_good HLN.out.2.2 HLN.out.1 HLN.out.2.1 h
    have HFU : Hid ((xs ++ ys).take m = xs ++ ys) := Lib.hid (by rw [← hm, List.take_length])
    clear hm
    go_wp2_with fail
    go_loop [32] (fun i => ∃ k : Nat, k ≤ m ∧ i = .int .i64 k ∧ Hid (((xs ++ ys).take k).all (isB n) = true)) (fun i => m - (intOf i).toNat)
    case atStart => exact ⟨0, by omega, rfl, Lib.hid (by simp)⟩
    case round =>
      obtain ⟨k, hk, rfl, HAL⟩ := hrel
      by_cases hlt : k < m
      · obtain ⟨pb, po, rfl, hpb, p0⟩ := HV2.out.int (i := k) (by rw [HMM.out]; exact hlt)
        have HT := Lib.hid (HTK.out k hlt)
        have HBD := Lib.hid (HBAD.out k hlt)
        have hki : (k : Int) < m := by omega
        clear hpb
        generalize (xs ++ ys).getD k 0 = x at *
        by_cases h0 : x < 0
        · have HR : Hid (sideOk n xs ys = false) := Lib.hid (HBD.out (by simp [isB]; omega))
          go_wp2_with fail
          go_ret2
          exact ⟨HB2.out, .inl ⟨HR.out, rfl⟩⟩
        · have h0' : decide (x < 0) = false := by simpa using h0
          have HC := Lib.hid (len_any lb n w2 hn2)
          by_cases h1 : (n : Int) ≤ x
          · have HR : Hid (sideOk n xs ys = false) := Lib.hid (HBD.out (by simp [isB]; omega))
            go_wp2_with fail
            refine HC.out.mono ?_
            rintro e w' ⟨rfl, rfl⟩
            go_wp2_with fail
            go_ret2
            exact ⟨HB2.out, .inl ⟨HR.out, rfl⟩⟩
          · have h1' : decide ((n : Int) ≤ x) = false := by simpa using h1
            have HR : Hid (isB n x = true) := Lib.hid (by simp [isB]; omega)
            go_wp2_with fail
            refine HC.out.mono ?_
            rintro e w' ⟨rfl, rfl⟩
            go_wp2_with fail
            go_round
            case rel => exact ⟨k + 1, by omega, by go_num, Lib.hid (by rw [HT.out, List.all_append, HAL.out]; simp [HR.out])⟩
            case measure => simp [intOf]; omega
      · obtain rfl : k = m := by omega
        rw [HFU.out] at HAL
        have HR := Lib.hid (HGOOD.out HAL.out)
        clear HAL
        go_wp2_with (at_builtin; refine app_lay_at Tryz.elemI (d := 0) (qs := xs) rfl _ _ rfl rfl (Lay.Own.nil w2 w.heap.size) rfl HXN.out rfl (HX.out.below HB2.out) (by have := HLN.out; show 0 + xs.length ≤ 1000000; omega) HB2.out.size ?_)
        intro v3 w3 r1 r2
        try rw [List.nil_append] at r1
        obtain ⟨xa, xc, rfl, hxat, _, _⟩ := r1.at_ (d := 0)
        have HX3 := Lib.hid hxat
        have HB3 := Lib.hid (HB2.out.trans r2)
        clear r1 r2 hxat
        go_wp2_with (at_builtin; refine app_lay_at Tryz.elemI (d := 0) (qs := ys) rfl _ _ rfl rfl (Lay.Own.nil w3 w3.heap.size) rfl HYN.out rfl (HY.out.below HB3.out) (by have := HLN.out; show 0 + ys.length ≤ 1000000; omega) (Nat.le_refl _) ?_)
        intro v4 w4 r1 r2
        try rw [List.nil_append] at r1
        obtain ⟨ya, yc, rfl, hyat, _, _⟩ := r1.at_ (d := 0)
        have HY4 := Lib.hid hyat
        have HX4 := Lib.hid (HX3.out.below r2)
        have HB4 := Lib.hid (HB3.out.trans (r2.mono HB3.out.size))
        clear r1 r2 hyat
        go_wp2_with fail
        go_ret2
        refine ⟨HB4.out.alloc HB4.out.size _, .inr ⟨HR.out, _, xa, xc, ya, yc, rfl, ?_, ?_, ?_, HX4.out.below ((Below.refl _ _).alloc (Nat.le_refl _) _), HY4.out.below ((Below.refl _ _).alloc (Nat.le_refl _) _)⟩⟩ <;> (rw [World.cell?_alloc_new]; rfl)
  · have HR := Lib.hid (sideOk_len (n := n) hb)
    clear hx hxn hy hyn
    generalize xs.length = l1 at *
    generalize ys.length = l2 at *
    by_cases c1 : l1 < 1
    · have d1 : decide ((l1 : Int) < 1) = true := by simp; omega
      clear hb
      go_enter Tryz.func16, Tryz.ntmps16
      go_wp2_with fail
      go_ret2
      exact ⟨Below.refl _ _, .inl ⟨HR.out, rfl⟩⟩
    · have d1 : decide ((l1 : Int) < 1) = false := by simp; omega
      by_cases c2 : 32 < l1
      · have d2 : decide ((32 : Int) < (l1 : Int)) = true := by simp; omega
        clear hb
        go_enter Tryz.func16, Tryz.ntmps16
        go_wp2_with fail
        go_ret2
        exact ⟨Below.refl _ _, .inl ⟨HR.out, rfl⟩⟩
      · have d2 : decide ((32 : Int) < (l1 : Int)) = false := by simp; omega
        have d3 : decide ((32 : Int) < (l2 : Int)) = true := by simp; omega
        clear hb
        go_enter Tryz.func16, Tryz.ntmps16
        go_wp2_with fail
        go_ret2
        exact ⟨Below.refl _ _, .inl ⟨HR.out, rfl⟩⟩
end Go.Proofs.YtcckmkidmelbnaaGreatDoor
namespace Go.Proofs.YtcckmkidmelbnaaGreatDoor
open Go.RowKit

theorem sideOk_ref {n : Nat} {xs ys : List Int} (h1 : 1 ≤ xs.length) (h2 : xs.length ≤ 32) (h3 : ys.length ≤ 32) : sideOk n xs ys = (mayB n 0 xs && mayB n 0 ys) := by
  unfold sideOk mayB
  simp only [h1, h2, h3, decide_true, Bool.true_and, List.all_append, List.all_cons]
  cases hn : isB n 0 with
  | true => simp
  | false =>
    match xs, h1 with
    | x :: xs, _ =>
      have : isB n x = false := by
        simp [isB] at hn ⊢
        omega
      simp [this]
set_option maxRecDepth 100000 in
set_option maxHeartbeats 4000000 in
theorem new21 (lb n : Nat) (up : Nat → Nat) (ca : Option Addr) (cc : Nat) (xs : List Int) (sa : Option Addr) (sc : Nat) (ys : List Int) (sens : Bool) (w : World) (hL : RefL w lb n up)
    (hx : (Lay.int .i64).At 0 w ca xs) (hy : (Lay.int .i64).At 0 w sa ys) (hxl : xs.length ≤ 1000) (hyl : ys.length ≤ 1000) :
    Calls Tryz.prog 21 #[.pointer (some ⟨lb, 0, none⟩), .slice ca xs.length cc, .slice sa ys.length sc, .bool sens] w (NewSP w lb n xs ys) := by
  by_cases hb : 1 ≤ xs.length ∧ xs.length ≤ 32 ∧ ys.length ≤ 32
  · obtain ⟨h1, h2, h3⟩ := hb
    have d1 : decide ((xs.length : Int) < 1) = false := by simp; omega
    have d2 : decide ((32 : Int) < (xs.length : Int)) = false := by simp; omega
    have d3 : decide ((32 : Int) < (ys.length : Int)) = false := by simp; omega
    have HX := Lib.hid hx
    have HY := Lib.hid hy
    have HSO := Lib.hid (sideOk_ref (n := n) h1 h2 h3)
    have HK1 := Lib.hid (known_any lb n up 0 ca xs.length cc xs w hL rfl hx (by omega))
    have HK2 : Hid (∀ w', Same w w' → Calls Tryz.prog 49 #[.pointer (some ⟨lb, 0, none⟩), .int .i64 0, .slice sa ys.length sc] w' fun e w'' => e = .returned (.bool (mayB n 0 ys)) ∧ Same w' w'') := Lib.hid fun w' hs => known_any lb n up 0 sa ys.length sc ys w' (hL.same hs) rfl (hy.same hs) (by omega)
    clear hx hy hL h1 h2 h3 hxl hyl
    cases hm1 : mayB n 0 xs with
    | false =>
      rw [hm1] at HK1 HSO
      clear hm1
      go_enter Tryz.func21, Tryz.ntmps21
      go_wp2_with (go_at_call 49; refine HK1.out.mono ?_; rintro e w1 ⟨rfl, hs1⟩; have HS1 := Lib.hid hs1; clear hs1)
      go_ret2
      exact ⟨HS1.out.below _, .inl ⟨by rw [HSO.out]; rfl, rfl⟩⟩
    | true =>
      rw [hm1] at HK1 HSO
      clear hm1
      cases hm2 : mayB n 0 ys with
      | false =>
        rw [hm2] at HK2 HSO
        clear hm2
        go_enter Tryz.func21, Tryz.ntmps21
        go_wp2_with (first | (go_at_call 49; refine (HK2.out _ HS1.out).mono ?_; rintro e w2 ⟨rfl, hs2⟩; have HS2 := Lib.hid (HS1.out.trans hs2); clear hs2) | (go_at_call 49; refine HK1.out.mono ?_; rintro e w1 ⟨rfl, hs1⟩; have HS1 := Lib.hid hs1; clear hs1))
        go_ret2
        exact ⟨HS2.out.below _, .inl ⟨by rw [HSO.out]; rfl, rfl⟩⟩
      | true =>
        rw [hm2] at HK2 HSO
        clear hm2
        go_enter Tryz.func21, Tryz.ntmps21
        go_wp2_with (first | (go_at_call 49; refine (HK2.out _ HS1.out).mono ?_; rintro e w2 ⟨rfl, hs2⟩; have HS2 := Lib.hid (HS1.out.trans hs2); clear hs2) | (go_at_call 49; refine HK1.out.mono ?_; rintro e w1 ⟨rfl, hs1⟩; have HS1 := Lib.hid hs1; clear hs1))
        go_ret2
        have HB := (HS2.out.below w.heap.size).alloc (HS2.out.below w.heap.size).size (.cells #[.pointer (some ⟨lb, 0, none⟩), .slice ca xs.length cc, .slice sa ys.length sc, .bool sens] 95)
        refine ⟨HB, .inr ⟨by rw [HSO.out]; rfl, _, ca, cc, sa, sc, rfl, ?_, ?_, ?_, HX.out.below HB, HY.out.below HB⟩⟩ <;> (rw [World.cell?_alloc_new]; rfl)
  · have HR := Lib.hid (sideOk_len (n := n) hb)
    clear hx hy hL
    generalize xs.length = l1 at *
    generalize ys.length = l2 at *
    by_cases c1 : l1 < 1
    · have d1 : decide ((l1 : Int) < 1) = true := by simp; omega
      clear hb
      go_enter Tryz.func21, Tryz.ntmps21
      go_wp2_with fail
      go_ret2
      exact ⟨Below.refl _ _, .inl ⟨HR.out, rfl⟩⟩
    · have d1 : decide ((l1 : Int) < 1) = false := by simp; omega
      by_cases c2 : 32 < l1
      · have d2 : decide ((32 : Int) < (l1 : Int)) = true := by simp; omega
        clear hb
        go_enter Tryz.func21, Tryz.ntmps21
        go_wp2_with fail
        go_ret2
        exact ⟨Below.refl _ _, .inl ⟨HR.out, rfl⟩⟩
      · have d2 : decide ((32 : Int) < (l1 : Int)) = false := by simp; omega
        have d3 : decide ((32 : Int) < (l2 : Int)) = true := by simp; omega
        clear hb
        go_enter Tryz.func21, Tryz.ntmps21
        go_wp2_with fail
        go_ret2
        exact ⟨Below.refl _ _, .inl ⟨HR.out, rfl⟩⟩
end Go.Proofs.YtcckmkidmelbnaaGreatDoor
