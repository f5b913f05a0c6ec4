/- What Trace keeps: the block of the result, the block of the trace that grows. -/
import Derived.Test.YtjhbabgcoemecaaDoorUg
namespace Go.Proofs.YtjhbabgcoemecaaDoor
open Go.RowKit

theorem below_nil {w w' : World} (h : w.grownBy w' (Value.slice none 0 0).ownBlock) : Below w.heap.size w w' := (Below.refl _ _).grown h (Nat.le_refl _) fun k hk => by cases hk

theorem ResB.alloc {wX w' : World} {B : Nat} (h : ResB wX B w') (o : Obj) : ResB wX B (w'.alloc o) := h.below ((Below.refl _ _).alloc (Nat.le_refl _) o)
theorem ResB.setAt {wX w' : World} {B b8 : Nat} (h : ResB wX B w') (hb : wX.heap.size ≤ b8) (hne : B ≠ b8) (j : Nat) (v : Value) : ResB wX B (w'.setCell ⟨b8, j, none⟩ v) := by
  have hbl := (Below.refl b8 w').setCell (p := ⟨b8, j, none⟩) (Nat.le_refl _) v
  refine ⟨⟨hbl.os.trans h.mu.os, hbl.tape.trans h.mu.tape, hbl.output.trans h.mu.output, Nat.le_trans h.mu.size hbl.size, fun k hk hS => ?_⟩, by simpa using h.lt, fun k hk => ?_⟩
  · rw [← h.mu.block k hk hS]
    have : b8 ≠ k := by omega
    simp [World.setCell, Array.getElem?_modify, this]
  · obtain ⟨u, h1, h2⟩ := h.cells k hk
    exact ⟨u, (World.cell?_setCell_other _ _ _ _ (fun e => hne (by injection e with e; exact e.symm))).trans h1, by simp [h2]⟩
theorem ResB.sixAt {wX w' : World} {B b8 : Nat} (h : ResB wX B w') (hb : wX.heap.size ≤ b8) (hne : B ≠ b8) (x0 x1 x2 x3 x4 x5 : Value) : ResB wX B (sixW w' b8 x0 x1 x2 x3 x4 x5) :=
  (((((h.setAt hb hne 0 x0).setAt hb hne 1 x1).setAt hb hne 2 x2).setAt hb hne 3 x3).setAt hb hne 4 x4).setAt hb hne 5 x5

/-- a new block for a trace -/
def mk8 (w : World) : World := w.alloc (.cells #[.int .u8 0, .int .i64 0, .slice none 0 0, .slice none 0 0, .slice none 0 0, .slice none 0 0] 46)
theorem mk8_eq (w : World) : w.alloc (.cells #[.int .u8 0, .int .i64 0, .slice none 0 0, .slice none 0 0, .slice none 0 0, .slice none 0 0] 46) = mk8 w := rfl
theorem mk8_below (w : World) : Below w.heap.size w (mk8 w) := (Below.refl _ _).alloc (Nat.le_refl _) _
theorem mk8_drew (w : World) : Below (mk8 w).heap.size (mk8 w) (mk8 w).drew := (Below.refl _ _).drew
theorem mk8_size (w : World) : (mk8 w).heap.size = w.heap.size + 1 := by simp [mk8]
theorem ResB.mk8 {wX w' : World} {B : Nat} (h : ResB wX B w') : ResB wX B (mk8 w') := h.alloc _
theorem mk8_res (w : World) : ResB (mk8 w) w.heap.size (mk8 w) := by
  refine ⟨Mut.of_below (Below.refl _ _), by rw [mk8_size]; omega, fun k hk => ?_⟩
  have h1 := World.cell?_alloc_new w #[.int .u8 0, .int .i64 0, .slice none 0 0, .slice none 0 0, .slice none 0 0, .slice none 0 0] 46 k
  rw [Array.getElem?_eq_getElem (by simpa using hk)] at h1
  exact ⟨_, h1, World.frozen?_alloc_new w _ 46 k⟩
theorem new6 {w w' : World} (hB : Below (mk8 w).heap.size (mk8 w) w') : ResB (mk8 w) w.heap.size w' := (mk8_res w).below hB

/-- a list that lies elsewhere than in block b8 -/
def Kp {α : Type} (L : Lay α) (d : α) (B b8 : Nat) (w : World) (a : Option Addr) (xs : List α) : Prop := L.At d w a xs ∧ ∀ ad, a = some ad → ad.block ≠ b8 ∧ B < ad.block
theorem Kp.below {α : Type} {L : Lay α} {d : α} {B b8 : Nat} {w w' : World} {a : Option Addr} {xs : List α} (h : Kp L d B b8 w a xs) (hb : Below w.heap.size w w') : Kp L d B b8 w' a xs := ⟨h.1.below hb, h.2⟩
theorem Kp.set {α : Type} {L : Lay α} {d : α} {B b8 : Nat} {w : World} {a : Option Addr} {xs : List α} (h : Kp L d B b8 w a xs) (j : Nat) (v : Value) : Kp L d B b8 (w.setCell ⟨b8, j, none⟩ v) a xs :=
  ⟨At.keep h.1 (by simp) fun ad e _ => by
    have := (h.2 ad e).1
    simp [World.setCell, Array.getElem?_modify, Ne.symm this], h.2⟩
/-- the trace that grows, in block b8 -/
structure T8 (wA : World) (B b8 : Nat) (st sp : Int) (vo vr : Value) (av3 av4 : Option Addr) (cv3 cv4 : Nat) (bs : List Bool) (is : List Int) (w8 : World) : Prop where
  res : ResB wA B w8
  ne : B < b8
  le : wA.heap.size ≤ b8
  lt : b8 < w8.heap.size
  q0 : w8.cell? ⟨b8, 0, none⟩ = some (.int .u8 st)
  q1 : w8.cell? ⟨b8, 1, none⟩ = some (.int .i64 sp)
  q2 : w8.cell? ⟨b8, 2, none⟩ = some vo
  q3 : w8.cell? ⟨b8, 3, none⟩ = some vr
  q4 : w8.cell? ⟨b8, 4, none⟩ = some (.slice av3 bs.length cv3)
  q5 : w8.cell? ⟨b8, 5, none⟩ = some (.slice av4 is.length cv4)
  f2 : w8.frozen? ⟨b8, 2, none⟩ = false
  f3 : w8.frozen? ⟨b8, 3, none⟩ = false
  b : Kp Lay.bool false B b8 w8 av3 bs
  i : Kp (Lay.int .i64) 0 B b8 w8 av4 is
section
variable {wA w8 w' : World} {B b8 : Nat} {st sp : Int} {vo vr : Value} {av3 av4 : Option Addr} {cv3 cv4 : Nat} {bs : List Bool} {is : List Int}
theorem T8.below (h : T8 wA B b8 st sp vo vr av3 av4 cv3 cv4 bs is w8) (hb : Below w8.heap.size w8 w') : T8 wA B b8 st sp vo vr av3 av4 cv3 cv4 bs is w' :=
  ⟨h.res.below hb, h.ne, h.le, Nat.lt_of_lt_of_le h.lt hb.size, (hb.cell (p := ⟨b8, 0, none⟩) h.lt).trans h.q0, (hb.cell (p := ⟨b8, 1, none⟩) h.lt).trans h.q1, (hb.cell (p := ⟨b8, 2, none⟩) h.lt).trans h.q2, (hb.cell (p := ⟨b8, 3, none⟩) h.lt).trans h.q3, (hb.cell (p := ⟨b8, 4, none⟩) h.lt).trans h.q4, (hb.cell (p := ⟨b8, 5, none⟩) h.lt).trans h.q5,
    (hb.frozen (p := ⟨b8, 2, none⟩) h.lt).trans h.f2, (hb.frozen (p := ⟨b8, 3, none⟩) h.lt).trans h.f3, h.b.below hb, h.i.below hb⟩
theorem T8.set2 (h : T8 wA B b8 st sp vo vr av3 av4 cv3 cv4 bs is w8) (x : Value) : T8 wA B b8 st sp x vr av3 av4 cv3 cv4 bs is (w8.setCell ⟨b8, 2, none⟩ x) := by
  have o : ∀ j : Nat, 2 ≠ j → (w8.setCell ⟨b8, 2, none⟩ x).cell? ⟨b8, j, none⟩ = w8.cell? ⟨b8, j, none⟩ := fun j hij => World.cell?_setCell_other _ _ _ _ (fun e => hij (by injection e))
  exact ⟨h.res.setAt h.le (Nat.ne_of_lt h.ne) 2 x, h.ne, h.le, by simpa using h.lt, (o 0 (by decide)).trans h.q0, (o 1 (by decide)).trans h.q1, World.cell?_setCell_same _ _ _ h.q2, (o 3 (by decide)).trans h.q3, (o 4 (by decide)).trans h.q4, (o 5 (by decide)).trans h.q5, by simp [h.f2], by simp [h.f3], h.b.set 2 x, h.i.set 2 x⟩
theorem T8.set3 (h : T8 wA B b8 st sp vo vr av3 av4 cv3 cv4 bs is w8) (x : Value) : T8 wA B b8 st sp vo x av3 av4 cv3 cv4 bs is (w8.setCell ⟨b8, 3, none⟩ x) := by
  have o : ∀ j : Nat, 3 ≠ j → (w8.setCell ⟨b8, 3, none⟩ x).cell? ⟨b8, j, none⟩ = w8.cell? ⟨b8, j, none⟩ := fun j hij => World.cell?_setCell_other _ _ _ _ (fun e => hij (by injection e))
  exact ⟨h.res.setAt h.le (Nat.ne_of_lt h.ne) 3 x, h.ne, h.le, by simpa using h.lt, (o 0 (by decide)).trans h.q0, (o 1 (by decide)).trans h.q1, (o 2 (by decide)).trans h.q2, World.cell?_setCell_same _ _ _ h.q3, (o 4 (by decide)).trans h.q4, (o 5 (by decide)).trans h.q5, by simp [h.f2], by simp [h.f3], h.b.set 3 x, h.i.set 3 x⟩
theorem T8.one {wF : World} (KF : ResB wA B wF) (hb : Lay.bool.At false wF av3 bs) (hi : (Lay.int .i64).At 0 wF av4 is) (nb : ∀ ad, av3 = some ad → ad.block < wF.heap.size ∧ B < ad.block) (ni : ∀ ad, av4 = some ad → ad.block < wF.heap.size ∧ B < ad.block) :
    T8 wA B wF.heap.size st sp (.slice none 0 0) (.slice none 0 0) av3 av4 cv3 cv4 bs is (wF.alloc (.cells #[.int .u8 st, .int .i64 sp, .slice none 0 0, .slice none 0 0, .slice av3 bs.length cv3, .slice av4 is.length cv4] 46)) := by
  have hbl := (Below.refl wF.heap.size wF).alloc (Nat.le_refl _) (.cells #[.int .u8 st, .int .i64 sp, .slice none 0 0, .slice none 0 0, .slice av3 bs.length cv3, .slice av4 is.length cv4] 46)
  exact ⟨KF.below hbl, KF.lt, KF.mu.size, by simp, World.cell?_alloc_new _ _ _ 0, World.cell?_alloc_new _ _ _ 1, World.cell?_alloc_new _ _ _ 2, World.cell?_alloc_new _ _ _ 3, World.cell?_alloc_new _ _ _ 4, World.cell?_alloc_new _ _ _ 5, World.frozen?_alloc_new _ _ _ 2, World.frozen?_alloc_new _ _ _ 3, ⟨hb.below hbl, fun ad e => ⟨Nat.ne_of_lt (nb ad e).1, (nb ad e).2⟩⟩, hi.below hbl, fun ad e => ⟨Nat.ne_of_lt (ni ad e).1, (ni ad e).2⟩⟩
theorem T8.two {wF wX : World} (KF : ResB wA B wF) (R8 : ResB wX b8 wF) (hle : wA.heap.size ≤ b8) (hne : B < b8) (hb : Lay.bool.At false wF av3 bs) (hi : (Lay.int .i64).At 0 wF av4 is) (nb : ∀ ad, av3 = some ad → ad.block ≠ b8 ∧ B < ad.block) (ni : ∀ ad, av4 = some ad → ad.block ≠ b8 ∧ B < ad.block) :
    T8 wA B b8 st sp (.slice none 0 0) (.slice none 0 0) av3 av4 cv3 cv4 bs is (sixW wF b8 (.int .u8 st) (.int .i64 sp) (.slice none 0 0) (.slice none 0 0) (.slice av3 bs.length cv3) (.slice av4 is.length cv4)) := by
  obtain ⟨q0, q1, q2, q3, q4, q5⟩ := R8.got (.int .u8 st) (.int .i64 sp) (.slice none 0 0) (.slice none 0 0) (.slice av3 bs.length cv3) (.slice av4 is.length cv4)
  have r6 := R8.six (.int .u8 st) (.int .i64 sp) (.slice none 0 0) (.slice none 0 0) (.slice av3 bs.length cv3) (.slice av4 is.length cv4)
  have kb : Kp Lay.bool false B b8 wF av3 bs := ⟨hb, nb⟩
  have ki : Kp (Lay.int .i64) 0 B b8 wF av4 is := ⟨hi, ni⟩
  exact ⟨KF.sixAt hle (Nat.ne_of_lt hne) _ _ _ _ _ _, hne, hle, r6.lt, q0, q1, q2, q3, q4, q5, (r6.cells 2 (by decide)).elim fun _ h => h.2, (r6.cells 3 (by decide)).elim fun _ h => h.2, (((((kb.set 0 _).set 1 _).set 2 _).set 3 _).set 4 _).set 5 _, (((((ki.set 0 _).set 1 _).set 2 _).set 3 _).set 4 _).set 5 _⟩
theorem Kp.six {α : Type} {L : Lay α} {d : α} {wX : World} {a : Option Addr} {xs : List α} (h : Kp L d B b8 w8 a xs) (hr : ResB wX B w8) (x0 x1 x2 x3 x4 x5 : Value) : L.At d (sixW w8 B x0 x1 x2 x3 x4 x5) a xs :=
  (hr.new.six x0 x1 x2 x3 x4 x5).at_ h.1 fun ad e => (h.2 ad e).2
end
theorem below_grown2 {B : Nat} {w X w5 : World} {row : Option Nat} (hb : Below B w X) (hB : B ≤ w.heap.size) (hg : X.grownBy w5 row) (hr : ∀ k, row = some k → B ≤ k) : Below B w w5 := hb.grown hg (Nat.le_trans hB hb.size) hr
@[go_sem] theorem Tryd.ix0 (a b : Option Addr) (l m c d : Nat) (w : World) : (Instr.index 127 (.agg #[.slice a l c, .slice b m d]) (.int .i64 0)).run Tryd.prog w = .ok (.slice a l c) w := by
  kernel_rfl
@[go_sem] theorem Tryd.ix1 (a b : Option Addr) (l m c d : Nat) (w : World) : (Instr.index 127 (.agg #[.slice a l c, .slice b m d]) (.int .i64 1)).run Tryd.prog w = .ok (.slice b m d) w := by
  kernel_rfl
end Go.Proofs.YtjhbabgcoemecaaDoor
