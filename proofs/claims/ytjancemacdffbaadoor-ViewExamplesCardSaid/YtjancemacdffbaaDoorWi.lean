/- Walk of the law ViewExamples. -/
import Derived.Test.YtjancemacdffbaaDoorVj
import Derived.Outline
namespace Go.Proofs.YtjancemacdffbaaDoor
open Go.RowKit

set_option maxHeartbeats 400000 in
theorem inputs_nil (level : Int) (x y z : Value) (w : World) :
    Calls Tryd.prog 42 #[.pointer none, .int .i64 level, x, y, z] w (InPost w (false, 1)) := by
  go_enter Tryd.func42, Tryd.ntmps42
  go_wp2_with fail
  go_ret2
  exact ⟨rfl, Below.refl _ _⟩

theorem prefix_q (a b : Option Addr) (la lb ca cb : Nat) (xs ys : List (Int × Int)) (w : World) (hla : xs.length = la) (hlb : ys.length = lb) (ha : Lay.ev.At (0, 0) w a xs) (hb : Lay.ev.At (0, 0) w b ys) (hsa : la ≤ 100000) (hsb : lb ≤ 100000) (r : Bool) (hr : preB xs ys = r) (m : Nat) :
    Calls Tryd.prog 45 #[.slice a la ca, .slice b lb cb] (w.drewN m) fun e w' => e = .returned (.bool r) ∧ ∃ k, w' = w.drewN k := by
  subst hr
  exact (prefix_any a b la lb ca cb xs ys _ hla hlb (ha.same ⟨m, rfl⟩) (hb.same ⟨m, rfl⟩) hsa hsb).mono fun e w' ⟨h1, h2⟩ => ⟨h1, (Same.trans ⟨m, rfl⟩ h2 : Same w w')⟩

theorem ev_ex1 : evR 2 up2 1 [0, 1] evs3 = (0, evs3) := by decide +kernel
theorem in_ex1 : inR 2 up2 0 [0, 1] [[1], [2]] [[1, 0], [3]] = (true, 0) := by decide +kernel
theorem ev_ex2 : evR 2 up2 2 [0, 1] [] = (3, []) := by decide +kernel
theorem ev_ex3 : evR 2 up2 0 [0, 1] [(2, 0)] = (3, []) := by decide +kernel
theorem pre1 : preB [(0, 5)] evs3 = true := by decide +kernel
theorem pre2 : preB [(0, 5)] [(0, 7)] = false := by decide +kernel
theorem pre3 : preB [] evs3 = true := by decide +kernel

set_option maxHeartbeats 2000000 in
set_option maxRecDepth 100000 in
theorem vexamples_law (w : World) (hT : Tab w) (h0 : 0 < w.heap.size) : Calls Tryd.prog 14 #[] w fun e w' => e = .returned (.bool true) ∧ Below w.heap.size w w' := by
  have O0 := On.refl hT h0
  clear hT h0
  go_enter Tryd.func14, Tryd.ntmps14
  go_wp2_with fail
  refine (two_any _ O0.tab O0.pos).mono ?_
  rintro e w1 ⟨b, rfl, hL, hbs, hb1⟩
  have O1 := O0.next hb1
  clear O0 hb1
  go_wp2_with fail
  have O2 := O1.alloc (.cells ((Lay.int .i64).flat [0, 1]).toArray 3)
  have L2 := hL.below ((Below.refl _ _).alloc (Nat.le_refl _) (.cells ((Lay.int .i64).flat [0, 1]).toArray 3)) hbs
  have A2 := Lay.At.made (L := Lay.int .i64) (d := 0) w1 [0, 1] 3
  have hbs2 : b < (w1.alloc (.cells ((Lay.int .i64).flat [0, 1]).toArray 3)).heap.size := by simp; omega
  refine (evs_any (w1.alloc (.cells ((Lay.int .i64).flat [0, 1]).toArray 3))).mono ?_
  generalize w1.alloc (.cells ((Lay.int .i64).flat [0, 1]).toArray 3) = w2 at *
  generalize w1.heap.size = g1 at *
  rintro e w3 ⟨rfl, rfl⟩
  have O3 := O2.alloc (.cells (Lay.ev.flat evs3).toArray 75)
  have L3 := L2.below ((Below.refl _ _).alloc (Nat.le_refl _) (.cells (Lay.ev.flat evs3).toArray 75)) hbs2
  have A3 := A2.alloc (.cells (Lay.ev.flat evs3).toArray 75)
  have E3 := Lay.At.made (L := Lay.ev) (d := (0, 0)) w2 evs3 75
  have hbs3 : b < (w2.alloc (.cells (Lay.ev.flat evs3).toArray 75)).heap.size := by simp; omega
  generalize w2.alloc (.cells (Lay.ev.flat evs3).toArray 75) = w3 at *
  generalize w2.heap.size = g2 at *
  clear O1 O2 hL L2 A2 hbs hbs2
  go_wp2_with fail
  refine (events_any b 2 up2 dn2 1 _ 2 2 [0, 1] _ 3 3 evs3 _ L3 rfl A3 (fun h => by cases h) (by omega) rfl E3 (by omega)).mono ?_
  rw [ev_ex1]
  rintro e w4 ⟨v4, rfl, ho4, hb4⟩
  obtain ⟨a4, c4, rfl, hat4, hl4, hc4⟩ := ho4.at_ (d := (0, 0))
  have O4 := O3.next hb4
  have L4 := L3.below hb4 hbs3
  have hbs4 : b < w4.heap.size := Nat.lt_of_lt_of_le hbs3 hb4.size
  clear O3 L3 A3 E3 hbs3 ho4 hb4 hl4 hc4
  go_wp2_with fail
  have B5 := litW_below w4
  have O5 := O4.next B5
  refine (inputs_any b 2 up2 dn2 0 _ 2 2 [0, 1] _ 2 2 [[1], [2]] _ 2 2 [[1, 0], [3]] (litW w4) (L4.below B5 hbs4) rfl (litW_levels w4) (fun h => by cases h) (by omega) rfl (litW_A w4) rows_okA rfl (litW_B w4) rows_okB).mono ?_
  rw [in_ex1]
  rintro e w6 ⟨rfl, hb6⟩
  have O6 := O5.next hb6
  have hat6 := (hat4.below B5).below hb6
  have L6 := (L4.below B5 hbs4).below hb6 (Nat.lt_of_lt_of_le hbs4 B5.size)
  have hbs6 : b < w6.heap.size := Nat.lt_of_lt_of_le hbs4 (Nat.le_trans B5.size hb6.size)
  clear O4 L4 hat4 hbs4 B5 O5 hb6
  go_wp2_with fail
  refine (evs_any w6).mono ?_
  rintro e w' ⟨rfl, rfl⟩
  have O7 := O6.alloc (.cells (Lay.ev.flat evs3).toArray 75)
  have L7 := L6.below ((Below.refl _ _).alloc (Nat.le_refl _) (.cells (Lay.ev.flat evs3).toArray 75)) hbs6
  have A7 := hat6.alloc (.cells (Lay.ev.flat evs3).toArray 75)
  have E7 := Lay.At.made (L := Lay.ev) (d := (0, 0)) w6 evs3 75
  have hbs7 : b < (w6.alloc (.cells (Lay.ev.flat evs3).toArray 75)).heap.size := by simp; omega
  generalize w6.alloc (.cells (Lay.ev.flat evs3).toArray 75) = w7 at *
  generalize w6.heap.size = g6 at *
  clear O6 hat6 L6 hbs6
  go_wp2_with fail
  refine (equalE_any a4 _ 3 3 c4 3 evs3 evs3 _ rfl rfl A7 E7 (by omega)).mono ?_
  rw [eqB_self]
  rintro e w8 ⟨rfl, hS⟩
  have O8 := O7.same hS
  have L8 := L7.same hS
  have hbs8 : b < w8.heap.size := by rw [hS.heap]; exact hbs7
  clear O7 A7 E7 L7 hS hbs7
  go_wp2_with fail
  refine (evs_any w8).mono ?_
  rintro e w' ⟨rfl, rfl⟩
  have O9 := O8.alloc (.cells (Lay.ev.flat evs3).toArray 75)
  have L9 := L8.below ((Below.refl _ _).alloc (Nat.le_refl _) (.cells (Lay.ev.flat evs3).toArray 75)) hbs8
  have E9 := Lay.At.made (L := Lay.ev) (d := (0, 0)) w8 evs3 75
  have hbs9 : b < (w8.alloc (.cells (Lay.ev.flat evs3).toArray 75)).heap.size := by simp; omega
  generalize w8.alloc (.cells (Lay.ev.flat evs3).toArray 75) = w9 at *
  generalize w8.heap.size = g8 at *
  clear O8 L8 hbs8
  have H1 := Lib.hid (prefix_q (some ⟨g8, 0, none⟩) (some ⟨g8, 0, none⟩) 1 3 3 3 [(0, 5)] evs3 w9 rfl rfl (E9.take 1) E9 (by omega) (by omega) true pre1)
  have H2 := Lib.hid (prefix_q (some ⟨g8, 0, none⟩) (some ⟨g8, 4, none⟩) 1 1 3 1 [(0, 5)] [(0, 7)] w9 rfl rfl (E9.take 1) (by have := E9.drop 2; exact this) (by omega) (by omega) false pre2)
  have H3 := Lib.hid (prefix_q none (some ⟨g8, 0, none⟩) 0 3 0 3 [] evs3 w9 rfl rfl Lay.At.nil E9 (by omega) (by omega) true pre3)
  clear E9
  go_wp2_with fail
  go_quiet ((first | (go_at_call 45; with_reducible exact H1.out _) | (go_at_call 45; with_reducible exact H2.out _) | (go_at_call 45; with_reducible exact H3.out _)))
  clear H1 H2 H3
  have OD := O9.same (Same.refl w9 |>.drewN nq)
  have LD := L9.same (Same.refl w9 |>.drewN nq)
  have hbsD : b < (w9.drewN nq).heap.size := hbs9
  generalize w9.drewN nq = w10 at *
  clear O9 L9 hbs9
  go_wp2_with fail
  have O11 := OD.alloc (.cells ((Lay.int .i64).flat [0, 1]).toArray 3)
  have L11 := LD.below ((Below.refl _ _).alloc (Nat.le_refl _) (.cells ((Lay.int .i64).flat [0, 1]).toArray 3)) hbsD
  have A11 := Lay.At.made (L := Lay.int .i64) (d := 0) w10 [0, 1] 3
  have hbs11 : b < (w10.alloc (.cells ((Lay.int .i64).flat [0, 1]).toArray 3)).heap.size := by simp; omega
  refine (events_any b 2 up2 dn2 2 _ 2 2 [0, 1] none 0 0 [] _ L11 rfl A11 (fun h => by cases h) (by omega) rfl Lay.At.nil (by omega)).mono ?_
  generalize w10.alloc (.cells ((Lay.int .i64).flat [0, 1]).toArray 3) = w11 at *
  rw [ev_ex2]
  rintro e w12 ⟨v12, rfl, ho12, hb12⟩
  obtain ⟨a12, c12, rfl, _, _, _⟩ := ho12.at_ (d := (0, 0))
  have O12 := O11.next hb12
  have L12 := L11.below hb12 hbs11
  have hbs12 : b < w12.heap.size := Nat.lt_of_lt_of_le hbs11 hb12.size
  clear OD LD hbsD O11 L11 A11 hbs11 ho12 hb12
  go_wp2_with fail
  have O13 := (O12.alloc (.cells ((Lay.int .i64).flat [0, 1]).toArray 3)).alloc (.cells (Lay.ev.flat [(2, 0)]).toArray 75)
  have B13 : Below w12.heap.size w12 ((w12.alloc (.cells ((Lay.int .i64).flat [0, 1]).toArray 3)).alloc (.cells (Lay.ev.flat [(2, 0)]).toArray 75)) := ((Below.refl _ _).alloc (Nat.le_refl _) _).alloc (by simp) _
  have L13 := L12.below B13 hbs12
  have A13 := (Lay.At.made (L := Lay.int .i64) (d := 0) w12 [0, 1] 3).alloc (.cells (Lay.ev.flat [(2, 0)]).toArray 75)
  have E13 := Lay.At.made_at (L := Lay.ev) (d := (0, 0)) (w12.alloc (.cells ((Lay.int .i64).flat [0, 1]).toArray 3)) [(2, 0)] 75 (g := w12.heap.size + 1) (by simp)
  refine (events_any b 2 up2 dn2 0 _ 2 2 [0, 1] _ 1 1 [(2, 0)] _ L13 rfl A13 (fun h => by cases h) (by omega) rfl E13 (by omega)).mono ?_
  generalize (w12.alloc (.cells ((Lay.int .i64).flat [0, 1]).toArray 3)).alloc (.cells (Lay.ev.flat [(2, 0)]).toArray 75) = w13 at *
  rw [ev_ex3]
  rintro e w14 ⟨v14, rfl, ho14, hb14⟩
  obtain ⟨a14, c14, rfl, _, _, _⟩ := ho14.at_ (d := (0, 0))
  have O14 := O13.next hb14
  clear O12 L12 hbs12 O13 B13 L13 A13 E13 ho14 hb14
  go_wp2_with fail
  refine (events_nil 0 none 0 0 (.slice none 0 0) _).mono ?_
  rintro e w15 ⟨v15, rfl, ho15, hb15⟩
  obtain ⟨a15, c15, rfl, _, _, _⟩ := ho15.at_ (d := (0, 0))
  have O15 := O14.next hb15
  clear O14 ho15 hb15
  go_wp2_with fail
  refine (inputs_nil 0 _ _ _ _).mono ?_
  rintro e w16 ⟨rfl, hb16⟩
  have O16 := O15.next hb16
  clear O15 hb16
  go_wp2_with fail
  refine (vawake_any _ O16.tab O16.pos).mono ?_
  rintro e w17 ⟨rfl, hb17⟩
  go_wp2_with fail
  go_ret
  exact ⟨rfl, (O16.next hb17).below⟩

end Go.Proofs.YtjancemacdffbaaDoor
