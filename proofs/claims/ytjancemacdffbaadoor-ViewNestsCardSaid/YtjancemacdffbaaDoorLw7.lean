/- Walks (part 7): bounds, fails, awake of weepholelaw27. -/
import Derived.Test.YtjancemacdffbaaDoorLw6
namespace Go.Proofs.YtjancemacdffbaaDoor
open Go.RowKit

set_option maxHeartbeats 400000 in
theorem bounds_true (b n : Nat) (x y j m : Int) (up dn : Nat → Nat) (w : World) (hT : Tab w) (h : LatC w b n up dn) (hj : jv n up x y = j) (hm : jv n dn x y = m) (hc : jc n x y = 0) :
    Calls Tryd.prog 25 #[.pointer (some ⟨b, 0, none⟩), .int .i64 x, .int .i64 y, .int .i64 j, .int .i64 m] w fun e w' => e = .returned (.bool true) ∧ Same w w' := by
  have H1 := Lib.hid (join_any b n x y up dn w hT h)
  have H2 := Lib.hid (fun W (hS : Same w W) => meet_any b n x y up dn W (hS.tab hT) (h.same hS))
  rw [hj, hc] at H1
  rw [hm, hc] at H2
  clear hj hm hc h hT
  go_enter Tryd.func25, Tryd.ntmps25
  go_wp2_with fail
  refine H1.out.mono ?_
  rintro e w1 ⟨rfl, hS⟩
  go_wp2_with fail
  refine (H2.out _ hS).mono ?_
  rintro e w2 ⟨rfl, hS2⟩
  go_wp2_with fail
  go_ret
  exact ⟨rfl, hS.trans hS2⟩

set_option maxHeartbeats 400000 in
theorem fails_true {n : Int} {a : Option Addr} {len cap c : Nat} {w : World} (ps : List (Int × Int)) (he : (newE n ps).1 = c) (hc : c ≠ 0) (hlen : ps.length = len) (hp : PairsAt w a ps) (hT : Tab w) (hsz0 : 0 < w.heap.size) :
    Calls Tryd.prog 27 #[.int .i64 n, .int .i64 c, .slice a len cap] w fun e w' => e = .returned (.bool true) ∧ Below w.heap.size w w' := by
  have H1 := Lib.hid (new_err (cap := cap) ps he hc hlen hp hT hsz0)
  clear hp hT hlen he hc
  go_enter Tryd.func27, Tryd.ntmps27
  go_wp2_with fail
  refine H1.out.mono ?_
  rintro e w1 ⟨rfl, hb⟩
  go_wp2_with fail
  go_ret
  exact ⟨rfl, hb⟩

/-- what a walk carries on: the table lies there, and nothing of the first world has changed -/
structure On (w w' : World) : Prop where
  below : Below w.heap.size w w'
  tab : Tab w'
  pos : 0 < w'.heap.size

theorem On.refl {w : World} (hT : Tab w) (h0 : 0 < w.heap.size) : On w w := ⟨Below.refl _ _, hT, h0⟩
theorem On.next {w w1 w2 : World} (h : On w w1) (hb : Below w1.heap.size w1 w2) : On w w2 :=
  ⟨h.below.trans (hb.mono h.below.size), h.tab.below hb h.pos, Nat.lt_of_lt_of_le h.pos hb.size⟩
theorem On.alloc {w w1 : World} (h : On w w1) (o : Obj) : On w (w1.alloc o) := h.next ((Below.refl _ _).alloc (Nat.le_refl _) _)
theorem On.same {w w1 w2 : World} (h : On w w1) (s : Same w1 w2) : On w w2 := h.next (s.below _)

def flat (ps : List (Int × Int)) : List Value := ps.flatMap fun p => [.int .i64 p.1, .int .i64 p.2]
theorem flat_length (ps : List (Int × Int)) : (flat ps).length = ps.length * 2 := by
  induction ps with
  | nil => rfl
  | cons p ps ih => simp only [flat, List.flatMap_cons, List.length_append, List.length_cons, List.length_nil] at ih ⊢; omega
theorem flat_at : ∀ (ps : List (Int × Int)) (i : Nat), i < ps.length → (flat ps)[i * 2]? = some (.int .i64 (ps.getD i (0, 0)).1) ∧ (flat ps)[i * 2 + 1]? = some (.int .i64 (ps.getD i (0, 0)).2)
  | [], i, h => by simp at h
  | p :: ps, 0, _ => by simp [flat]
  | p :: ps, i + 1, h => by
    have := flat_at ps i (by simpa using h)
    rw [show flat (p :: ps) = .int .i64 p.1 :: .int .i64 p.2 :: flat ps from rfl, show (i + 1) * 2 = i * 2 + 1 + 1 by omega, show i * 2 + 1 + 1 + 1 = (i * 2 + 1) + 1 + 1 by omega]
    simpa using this
/-- a new block that holds pairs -/
theorem PairsAt.made (w : World) (ps : List (Int × Int)) (t : TypeId) : PairsAt (w.alloc (.cells (flat ps).toArray t)) (some ⟨w.heap.size, 0, none⟩) ps := fun i hi => by
  obtain ⟨h1, h2⟩ := flat_at ps i hi
  exact ⟨_, _, rfl, by simp, by rw [World.cell?_alloc_new]; simpa using h1, by rw [World.cell?_alloc_new]; simpa using h2⟩

def p4 : List (Int × Int) := [(0, 1), (0, 2), (1, 3), (2, 3)]
def p6 : List (Int × Int) := [(0, 1), (0, 2), (1, 3), (1, 4), (2, 3), (2, 4), (3, 5), (4, 5)]
theorem ex1 : (newE 1 []).1 = 0 := by decide +kernel
theorem ex1j : jv 1 (newE 1 []).2.1 0 0 = 0 ∧ jv 1 (newE 1 []).2.2 0 0 = 0 ∧ jc 1 0 0 = 0 := by decide +kernel
theorem ex4 : (newE 4 p4).1 = 0 := by decide +kernel
theorem ex4j : jv 4 (newE 4 p4).2.1 1 2 = 3 ∧ jv 4 (newE 4 p4).2.2 1 2 = 0 ∧ jc 4 1 2 = 0 := by decide +kernel
theorem ex4l : leB 4 (newE 4 p4).2.1 0 3 = true ∧ leB 4 (newE 4 p4).2.1 1 2 = false := by decide +kernel
theorem ex2 : (newE 2 []).1 = 4 := by decide +kernel
theorem ex2l : (newE 2 [(0, 1), (1, 0)]).1 = 9 := by decide +kernel
theorem ex2r : (newE 2 [(0, 2)]).1 = 3 := by decide +kernel
theorem ex0 : (newE 0 []).1 = 3 := by decide +kernel
theorem ex33 : (newE 33 []).1 = 3 := by decide +kernel
theorem ex6 : (newE 6 p6).1 = 4 := by decide +kernel

set_option maxHeartbeats 1000000 in
set_option maxRecDepth 100000 in
theorem awake_any (w : World) (hT : Tab w) (h0 : 0 < w.heap.size) :
    Calls Tryd.prog 17 #[] w fun e w' => e = .returned (.bool true) ∧ Below w.heap.size w w' := by
  have O0 := On.refl hT h0
  clear hT h0
  go_enter Tryd.func17, Tryd.ntmps17
  go_wp2_with fail
  refine (new_ok [] ex1 rfl (PairsAt.nil _ _) O0.tab O0.pos).mono ?_
  rintro e w1 ⟨rfl, hL1, hs1, hb1⟩
  have O1 := O0.next hb1
  clear O0 hb1
  generalize w.heap.size + 1 = b1 at *
  go_wp2_with fail
  have O2 := O1.alloc (.cells (flat p4).toArray 29)
  have P2 := PairsAt.made w1 p4 29
  have hL1 := hL1.below ((Below.refl _ _).alloc (Nat.le_refl _) (.cells (flat p4).toArray 29)) hs1
  have hs1 : b1 < (w1.alloc (.cells (flat p4).toArray 29)).heap.size := by simp; omega
  refine (new_ok p4 ex4 rfl P2 O2.tab O2.pos).mono ?_
  generalize w1.alloc (.cells (flat p4).toArray 29) = w2 at *
  rintro e w3 ⟨rfl, hL3, hs3, hb3⟩
  have O3 := O2.next hb3
  have hL1 := hL1.below hb3 hs1
  clear O1 O2 P2 hb3
  generalize w2.heap.size + 1 = b3 at *
  go_wp2_with fail
  refine (bounds_true b1 1 0 0 0 0 _ _ _ O3.tab hL1 ex1j.1 ex1j.2.1 ex1j.2.2).mono ?_
  rintro e w4 ⟨rfl, hS⟩
  have O4 := O3.same hS
  have hL4 := hL3.same hS
  clear O3 hL3 hS hL1
  go_wp2_with fail
  refine (bounds_true b3 4 1 2 3 0 _ _ _ O4.tab hL4 ex4j.1 ex4j.2.1 ex4j.2.2).mono ?_
  rintro e w5 ⟨rfl, hS⟩
  have O5 := O4.same hS
  have hL5 := hL4.same hS
  clear O4 hL4 hS
  go_wp2_with fail
  refine (le_any b3 4 _ _ 0 3 _ hL5).mono ?_
  rintro e w6 ⟨rfl, rfl⟩
  rw [ex4l.1]
  go_wp2_with fail
  refine (le_any b3 4 _ _ 1 2 _ hL5).mono ?_
  rintro e w6 ⟨rfl, rfl⟩
  rw [ex4l.2]
  clear hL5
  go_wp2_with fail
  refine (fails_true (c := 4) [] ex2 (by decide) rfl (PairsAt.nil _ _) O5.tab O5.pos).mono ?_
  rintro e w6 ⟨rfl, hb⟩
  have O6 := O5.next hb
  clear O5 hb
  go_wp2_with fail
  have O7 := O6.alloc (.cells (flat [(0, 1), (1, 0)]).toArray 29)
  have P7 := PairsAt.made w6 [(0, 1), (1, 0)] 29
  refine (fails_true (c := 9) [(0, 1), (1, 0)] ex2l (by decide) rfl P7 O7.tab O7.pos).mono ?_
  generalize w6.alloc (.cells (flat [(0, 1), (1, 0)]).toArray 29) = w7 at *
  rintro e w8 ⟨rfl, hb⟩
  have O8 := O7.next hb
  clear O7 O6 P7 hb
  go_wp2_with fail
  have O9 := O8.alloc (.cells (flat [(0, 2)]).toArray 29)
  have P9 := PairsAt.made w8 [(0, 2)] 29
  refine (fails_true (c := 3) [(0, 2)] ex2r (by decide) rfl P9 O9.tab O9.pos).mono ?_
  generalize w8.alloc (.cells (flat [(0, 2)]).toArray 29) = w9 at *
  rintro e w10 ⟨rfl, hb⟩
  have O10 := O9.next hb
  clear O9 O8 P9 hb
  go_wp2_with fail
  refine (fails_true (c := 3) [] ex0 (by decide) rfl (PairsAt.nil _ _) O10.tab O10.pos).mono ?_
  rintro e w11 ⟨rfl, hb⟩
  have O11 := O10.next hb
  clear O10 hb
  go_wp2_with fail
  refine (fails_true (c := 3) [] ex33 (by decide) rfl (PairsAt.nil _ _) O11.tab O11.pos).mono ?_
  rintro e w12 ⟨rfl, hb⟩
  have O12 := O11.next hb
  clear O11 hb
  go_wp2_with fail
  have O13 := O12.alloc (.cells (flat p6).toArray 29)
  have P13 := PairsAt.made w12 p6 29
  refine (fails_true (c := 4) p6 ex6 (by decide) rfl P13 O13.tab O13.pos).mono ?_
  generalize w12.alloc (.cells (flat p6).toArray 29) = w13 at *
  rintro e w14 ⟨rfl, hb⟩
  have O14 := O13.next hb
  clear O13 O12 P13 hb
  go_wp2_with fail
  go_ret
  exact ⟨rfl, O14.below⟩

end Go.Proofs.YtjancemacdffbaaDoor
