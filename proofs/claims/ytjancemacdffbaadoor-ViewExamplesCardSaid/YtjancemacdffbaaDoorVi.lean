/- Walks: Two, events, awake of weepholelaw33. -/
import Derived.Test.YtjancemacdffbaaDoorVh
namespace Go.Proofs.YtjancemacdffbaaDoor
open Go.RowKit

theorem Lay.At.made_at {α : Type} {L : Lay α} {d : α} (w : World) (xs : List α) (t : TypeId) {g : Nat} (hg : w.heap.size = g) : L.At d (w.alloc (.cells (L.flat xs).toArray t)) (some ⟨g, 0, none⟩) xs := by
  subst hg; exact Lay.At.made w xs t
theorem Lay.At.alloc {α : Type} {L : Lay α} {d : α} {w : World} {a : Option Addr} {xs : List α} (h : L.At d w a xs) (o : Obj) : L.At d (w.alloc o) a xs := h.below ((Below.refl _ _).alloc (Nat.le_refl _) _)
theorem RowsAt.alloc {w : World} {a : Option Addr} {rows : List (List Int)} (h : RowsAt w a rows) (o : Obj) : RowsAt (w.alloc o) a rows := h.below ((Below.refl _ _).alloc (Nat.le_refl _) _)
theorem RowsAt.two {w : World} {a a1 a2 : Option Addr} {n1 c1 n2 c2 : Nat} {r1 r2 : List Int} (h : Lay.sl.At (none, 0, 0) w a [(a1, n1, c1), (a2, n2, c2)]) (h1 : (Lay.int .u64).At 0 w a1 r1) (h2 : (Lay.int .u64).At 0 w a2 r2)
    (e1 : n1 = r1.length) (e2 : n2 = r2.length) (l1 : n1 ≤ c1) (l2 : n2 ≤ c2) (m1 : c1 ≤ 100) (m2 : c2 ≤ 100) : RowsAt w a [r1, r2] := fun i hi => by
  subst e1 e2
  match i, hi with
  | 0, _ =>
    obtain ⟨b, o, e, hb, hc⟩ := h.sl (i := 0) (by simp)
    exact ⟨b, o, a1, c1, e, hb, hc, h1, l1, by omega⟩
  | 1, _ =>
    obtain ⟨b, o, e, hb, hc⟩ := h.sl (i := 1) (by simp)
    exact ⟨b, o, a2, c2, e, hb, hc, h2, l2, by omega⟩

def up2 : Nat → Nat := (newE 2 [(0, 1)]).2.1
def dn2 : Nat → Nat := (newE 2 [(0, 1)]).2.2
theorem ex_two : (newE 2 [(0, 1)]).1 = 0 := by decide +kernel
def TwoPost (w : World) (e : Ending) (w' : World) : Prop := ∃ b, e = .returned (.pointer (some ⟨b, 0, none⟩)) ∧ LatC w' b 2 up2 dn2 ∧ b < w'.heap.size ∧ Below w.heap.size w w'

set_option maxHeartbeats 400000 in
theorem two_any (w : World) (hT : Tab w) (h0 : 0 < w.heap.size) : Calls Tryd.prog 48 #[] w (TwoPost w) := by
  have O0 := (On.refl hT h0).alloc (.cells (flat [(0, 1)]).toArray 29)
  have P0 := PairsAt.made w [(0, 1)] 29
  have B0 : Below w.heap.size w (w.alloc (.cells (flat [(0, 1)]).toArray 29)) := (Below.refl _ _).alloc (Nat.le_refl _) _
  clear hT h0
  go_enter Tryd.func48, Tryd.ntmps48
  go_wp2_with fail
  refine (new_ok [(0, 1)] ex_two rfl P0 O0.tab O0.pos).mono ?_
  generalize w.alloc (.cells (flat [(0, 1)]).toArray 29) = w1 at *
  rintro e w2 ⟨rfl, hL, hs, hb⟩
  have B1 := B0.trans (hb.mono B0.size)
  generalize w1.heap.size + 1 = b at *
  go_wp2_with fail
  go_ret
  exact ⟨b, rfl, hL, hs, B1⟩

def evs3 : List (Int × Int) := [(0, 5), (1, 6), (0, 7)]
set_option maxHeartbeats 400000 in
theorem evs_any (w : World) : Calls Tryd.prog 49 #[] w fun e w' => e = .returned (.slice (some ⟨w.heap.size, 0, none⟩) 3 3) ∧ w' = w.alloc (.cells (Lay.ev.flat evs3).toArray 75) := by
  go_enter Tryd.func49, Tryd.ntmps49
  go_wp2_with fail
  go_ret
  exact ⟨rfl, rfl⟩

theorem ev_ex : evR 2 up2 0 [0, 1] evs3 = (0, [(0, 5), (0, 7)]) := by decide +kernel
theorem in_ex : inR 2 up2 1 [0, 1] [[1], [2]] [[1, 0], [3]] = (false, 0) := by decide +kernel
theorem rows_okA : RowsOk [[1], [2]] := by unfold RowsOk; decide +kernel
theorem rows_okB : RowsOk [[1, 0], [3]] := by unfold RowsOk; decide +kernel
theorem eqB_self (xs : List (Int × Int)) : eqB xs xs = true := by
  unfold eqB
  rw [preB_true (fun j _ => (pe_iff _ _).2 rfl)]
  simp

/-- the lists of the examples, laid in new blocks -/
def litW (w : World) : World :=
  (((((((w.alloc (.cells #[.int .i64 0, .int .i64 1] 3)).alloc (.cells #[.int .u64 1] 72)).alloc (.cells #[.int .u64 2] 72)).alloc
    (.cells #[.slice (some ⟨w.heap.size + 1, 0, none⟩) 1 1, .slice (some ⟨w.heap.size + 1 + 1, 0, none⟩) 1 1] 73)).alloc
    (.cells #[.int .u64 1, .int .u64 0] 72)).alloc (.cells #[.int .u64 3] 72)).alloc
    (.cells #[.slice (some ⟨w.heap.size + 1 + 1 + 1 + 1, 0, none⟩) 2 2, .slice (some ⟨w.heap.size + 1 + 1 + 1 + 1 + 1, 0, none⟩) 1 1] 73))
theorem litW_below (w : World) : Below w.heap.size w (litW w) :=
  (((((((Below.refl _ _).alloc (Nat.le_refl _) _).alloc (by simp) _).alloc (by simp; omega) _).alloc (by simp; omega) _).alloc (by simp; omega) _).alloc (by simp; omega) _).alloc (by simp; omega) _
theorem litW_levels (w : World) : (Lay.int .i64).At 0 (litW w) (some ⟨w.heap.size, 0, none⟩) [0, 1] :=
  ((((((Lay.At.made (L := Lay.int .i64) (d := 0) w [0, 1] 3).alloc _).alloc _).alloc _).alloc _).alloc _).alloc _
theorem litW_A (w : World) : RowsAt (litW w) (some ⟨w.heap.size + 1 + 1 + 1, 0, none⟩) [[1], [2]] :=
  RowsAt.two (((Lay.At.made_at (L := Lay.sl) (d := (none, 0, 0)) (((w.alloc (.cells #[.int .i64 0, .int .i64 1] 3)).alloc (.cells #[.int .u64 1] 72)).alloc (.cells #[.int .u64 2] 72)) [(some ⟨w.heap.size + 1, 0, none⟩, 1, 1), (some ⟨w.heap.size + 1 + 1, 0, none⟩, 1, 1)] 73 (by simp)).alloc _).alloc _ |>.alloc _)
    (((((Lay.At.made_at (L := Lay.int .u64) (d := 0) (w.alloc (.cells #[.int .i64 0, .int .i64 1] 3)) [1] 72 (by simp)).alloc _).alloc _).alloc _).alloc _ |>.alloc _)
    ((((Lay.At.made_at (L := Lay.int .u64) (d := 0) ((w.alloc (.cells #[.int .i64 0, .int .i64 1] 3)).alloc (.cells #[.int .u64 1] 72)) [2] 72 (by simp)).alloc _).alloc _).alloc _ |>.alloc _) rfl rfl (by omega) (by omega) (by omega) (by omega)
theorem litW_B (w : World) : RowsAt (litW w) (some ⟨w.heap.size + 1 + 1 + 1 + 1 + 1 + 1, 0, none⟩) [[1, 0], [3]] :=
  RowsAt.two (Lay.At.made_at (L := Lay.sl) (d := (none, 0, 0)) _ [(some ⟨w.heap.size + 1 + 1 + 1 + 1, 0, none⟩, 2, 2), (some ⟨w.heap.size + 1 + 1 + 1 + 1 + 1, 0, none⟩, 1, 1)] 73 (by simp))
    (((Lay.At.made_at (L := Lay.int .u64) (d := 0) ((((w.alloc (.cells #[.int .i64 0, .int .i64 1] 3)).alloc (.cells #[.int .u64 1] 72)).alloc (.cells #[.int .u64 2] 72)).alloc (.cells #[.slice (some ⟨w.heap.size + 1, 0, none⟩) 1 1, .slice (some ⟨w.heap.size + 1 + 1, 0, none⟩) 1 1] 73)) [1, 0] 72 (by simp)).alloc _).alloc _)
    ((Lay.At.made_at (L := Lay.int .u64) (d := 0) (((((w.alloc (.cells #[.int .i64 0, .int .i64 1] 3)).alloc (.cells #[.int .u64 1] 72)).alloc (.cells #[.int .u64 2] 72)).alloc (.cells #[.slice (some ⟨w.heap.size + 1, 0, none⟩) 1 1, .slice (some ⟨w.heap.size + 1 + 1, 0, none⟩) 1 1] 73)).alloc (.cells #[.int .u64 1, .int .u64 0] 72)) [3] 72 (by simp)).alloc _) rfl rfl (by omega) (by omega) (by omega) (by omega)

set_option maxHeartbeats 1000000 in
set_option maxRecDepth 100000 in
theorem vawake_any (w : World) (hT : Tab w) (h0 : 0 < w.heap.size) : Calls Tryd.prog 37 #[] w fun e w' => e = .returned (.bool true) ∧ Below w.heap.size w w' := by
  have O0 := On.refl hT h0
  clear hT h0
  go_enter Tryd.func37, Tryd.ntmps37
  go_wp2_with fail
  refine (two_any _ O0.tab O0.pos).mono ?_
  rintro e w1 ⟨b, rfl, hL, hbs, hb1⟩
  have O1 := O0.next hb1
  clear O0 hb1
  go_wp2_with fail
  have O2 := O1.alloc (.cells ((Lay.int .i64).flat [0, 1]).toArray 3)
  have L2 := hL.below ((Below.refl _ _).alloc (Nat.le_refl _) (.cells ((Lay.int .i64).flat [0, 1]).toArray 3)) hbs
  have A2 := Lay.At.made (L := Lay.int .i64) (d := 0) w1 [0, 1] 3
  have hbs2 : b < (w1.alloc (.cells ((Lay.int .i64).flat [0, 1]).toArray 3)).heap.size := by simp; omega
  refine (evs_any (w1.alloc (.cells ((Lay.int .i64).flat [0, 1]).toArray 3))).mono ?_
  generalize w1.alloc (.cells ((Lay.int .i64).flat [0, 1]).toArray 3) = w2 at *
  generalize w1.heap.size = g1 at *
  rintro e w3 ⟨rfl, rfl⟩
  have O3 := O2.alloc (.cells (Lay.ev.flat evs3).toArray 75)
  have L3 := L2.below ((Below.refl _ _).alloc (Nat.le_refl _) (.cells (Lay.ev.flat evs3).toArray 75)) hbs2
  have A3 := A2.alloc (.cells (Lay.ev.flat evs3).toArray 75)
  have E3 := Lay.At.made (L := Lay.ev) (d := (0, 0)) w2 evs3 75
  have hbs3 : b < (w2.alloc (.cells (Lay.ev.flat evs3).toArray 75)).heap.size := by simp; omega
  generalize w2.alloc (.cells (Lay.ev.flat evs3).toArray 75) = w3 at *
  generalize w2.heap.size = g2 at *
  clear O1 O2 hL L2 A2 hbs hbs2
  go_wp2_with fail
  refine (events_any b 2 up2 dn2 0 _ 2 2 [0, 1] _ 3 3 evs3 _ L3 rfl A3 (fun h => by cases h) (by omega) rfl E3 (by omega)).mono ?_
  rw [ev_ex]
  rintro e w4 ⟨v4, rfl, ho4, hb4⟩
  obtain ⟨a4, c4, rfl, hat4, hl4, hc4⟩ := ho4.at_ (d := (0, 0))
  have O4 := O3.next hb4
  have L4 := L3.below hb4 hbs3
  have hbs4 : b < w4.heap.size := Nat.lt_of_lt_of_le hbs3 hb4.size
  clear O3 L3 A3 E3 hbs3 ho4 hb4 hl4 hc4
  go_wp2_with fail
  have B5 := litW_below w4
  have O5 := O4.next B5
  refine (inputs_any b 2 up2 dn2 1 _ 2 2 [0, 1] _ 2 2 [[1], [2]] _ 2 2 [[1, 0], [3]] (litW w4) (L4.below B5 hbs4) rfl (litW_levels w4) (fun h => by cases h) (by omega) rfl (litW_A w4) rows_okA rfl (litW_B w4) rows_okB).mono ?_
  rw [in_ex]
  rintro e w6 ⟨rfl, hb6⟩
  have O6 := O5.next hb6
  have hat6 := (hat4.below B5).below hb6
  clear O4 L4 hat4 hbs4 B5 O5 hb6
  go_wp2_with fail
  have O7 := O6.alloc (.cells (Lay.ev.flat [(0, 5), (0, 7)]).toArray 75)
  have A7 := hat6.alloc (.cells (Lay.ev.flat [(0, 5), (0, 7)]).toArray 75)
  have E7 := Lay.At.made (L := Lay.ev) (d := (0, 0)) w6 [(0, 5), (0, 7)] 75
  refine (equalE_any a4 _ 2 2 c4 2 [(0, 5), (0, 7)] [(0, 5), (0, 7)] _ rfl rfl A7 E7 (by omega)).mono ?_
  rw [eqB_self]
  rintro e w8 ⟨rfl, hS⟩
  have O8 := O7.same hS
  go_wp2_with fail
  go_ret
  exact ⟨rfl, O8.below⟩

end Go.Proofs.YtjancemacdffbaaDoor
