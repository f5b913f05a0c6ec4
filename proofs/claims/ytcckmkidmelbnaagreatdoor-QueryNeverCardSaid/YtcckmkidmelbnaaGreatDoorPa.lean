/- Paths in memory; walk: Short. -/
import Derived.Test.YtcckmkidmelbnaaGreatDoorGh
namespace Go.Proofs.YtcckmkidmelbnaaGreatDoor
open Go.RowKit
def Lay.bool : Lay Bool := ⟨1, fun b => [.bool b], fun _ => rfl, fun x u hu => by simp at hu; subst hu; rfl, by decide⟩
def Lay.sev : Lay (Int × Int) := ⟨2, fun p => [.int .i64 p.1, .int .i64 p.2], fun _ => rfl, fun x u hu => by simp at hu; rcases hu with rfl | rfl <;> rfl, by decide⟩
theorem Lay.At.sev {w : World} {a : Option Addr} {xs : List (Int × Int)} (h : Lay.sev.At (0, 0) w a xs) {i : Nat} (hi : i < xs.length) :
    ∃ b o, a = some ⟨b, o, none⟩ ∧ b < w.heap.size ∧ w.cell? ⟨b, o + i * 2, none⟩ = some (.int .i64 (xs.getD i (0, 0)).1) ∧ w.cell? ⟨b, o + i * 2 + 1, none⟩ = some (.int .i64 (xs.getD i (0, 0)).2) := by
  obtain ⟨b, o, e, h0, h1⟩ := h i hi
  have e0 := h1 0 (by decide)
  have e1 := h1 1 (by decide)
  simp only [Lay.sev, Nat.add_zero] at e0 e1
  exact ⟨b, o, e, h0, by simpa using e0, by simpa using e1⟩
theorem Lay.At.bool {w : World} {a : Option Addr} {xs : List Bool} (h : Lay.bool.At false w a xs) {i : Nat} (hi : i < xs.length) :
    ∃ b o, a = some ⟨b, o, none⟩ ∧ b < w.heap.size ∧ w.cell? ⟨b, o + i, none⟩ = some (.bool (xs.getD i false)) := by
  obtain ⟨b, o, e, h0, h1⟩ := h i hi
  have := h1 0 (by decide)
  simp only [Lay.bool, Nat.mul_one, Nat.add_zero] at this
  exact ⟨b, o, e, h0, by simpa using this⟩
/-- a path: where its lists lie, and what they hold -/
structure PathN where
  ca : Option Addr
  cc : Nat
  cs : List Int
  st : Int
  sp : Int
  oa : Option Addr
  oc : Nat
  os : List (Int × Int)
  ra : Option Addr
  rc : Nat
  rs : List (Int × Int)
  ba : Option Addr
  bc : Nat
  bs : List Bool
  ia : Option Addr
  ic : Nat
  is : List Int
instance : Inhabited PathN := ⟨⟨none, 0, [], 0, 0, none, 0, [], none, 0, [], none, 0, [], none, 0, []⟩⟩
def Lay.path : Lay PathN := ⟨7, fun p => [.slice p.ca p.cs.length p.cc, .int .u8 p.st, .int .i64 p.sp, .slice p.oa p.os.length p.oc, .slice p.ra p.rs.length p.rc, .slice p.ba p.bs.length p.bc, .slice p.ia p.is.length p.ic], fun _ => rfl, fun x u hu => by simp at hu; rcases hu with rfl | rfl | rfl | rfl | rfl | rfl | rfl <;> rfl, by decide⟩
def PathN.v (p : PathN) : Value := .agg #[.slice p.ca p.cs.length p.cc, .int .u8 p.st, .int .i64 p.sp, .slice p.oa p.os.length p.oc, .slice p.ra p.rs.length p.rc, .slice p.ba p.bs.length p.bc, .slice p.ia p.is.length p.ic]
/-- what its lists hold lies there -/
structure PathN.Ok (w : World) (p : PathN) : Prop where
  c : (Lay.int .i64).At 0 w p.ca p.cs
  o : Lay.sev.At (0, 0) w p.oa p.os
  r : Lay.sev.At (0, 0) w p.ra p.rs
  b : Lay.bool.At false w p.ba p.bs
  i : (Lay.int .i64).At 0 w p.ia p.is
  bn : p.ba = none → p.bc = 0
  cn : p.ca = none → p.cc = 0
  in_ : p.ia = none → p.ic = 0
theorem PathN.Ok.below {w w' : World} {p : PathN} (h : p.Ok w) (hb : Below w.heap.size w w') : p.Ok w' := ⟨h.c.below hb, h.o.below hb, h.r.below hb, h.b.below hb, h.i.below hb, h.bn, h.cn, h.in_⟩
/-- as Short asks -/
def PathN.short (p : PathN) : Prop := p.cs.length ≤ 12 ∧ p.os.length ≤ 12 ∧ p.rs.length ≤ 12 ∧ p.bs.length ≤ 40 ∧ p.is.length ≤ 40
theorem path_cells {w : World} {a : Option Addr} {ps : List PathN} (h : Lay.path.At default w a ps) {i : Nat} (hi : i < ps.length) : ∃ b o, a = some ⟨b, o, none⟩ ∧ b < w.heap.size ∧ w.cell? ⟨b, o + i * 7, none⟩ = some (.slice (ps.getD i default).ca (ps.getD i default).cs.length (ps.getD i default).cc) ∧ w.cell? ⟨b, o + i * 7 + 1, none⟩ = some (.int .u8 (ps.getD i default).st) ∧ w.cell? ⟨b, o + i * 7 + 2, none⟩ = some (.int .i64 (ps.getD i default).sp) ∧
    w.cell? ⟨b, o + i * 7 + 3, none⟩ = some (.slice (ps.getD i default).oa (ps.getD i default).os.length (ps.getD i default).oc) ∧ w.cell? ⟨b, o + i * 7 + 4, none⟩ = some (.slice (ps.getD i default).ra (ps.getD i default).rs.length (ps.getD i default).rc) ∧ w.cell? ⟨b, o + i * 7 + 5, none⟩ = some (.slice (ps.getD i default).ba (ps.getD i default).bs.length (ps.getD i default).bc) ∧ w.cell? ⟨b, o + i * 7 + 6, none⟩ = some (.slice (ps.getD i default).ia (ps.getD i default).is.length (ps.getD i default).ic) := by
  obtain ⟨b, o, e, h0, h1⟩ := h i hi
  have e0 := h1 0 (by decide)
  have e1 := h1 1 (by decide)
  have e2 := h1 2 (by decide)
  have e3 := h1 3 (by decide)
  have e4 := h1 4 (by decide)
  have e5 := h1 5 (by decide)
  have e6 := h1 6 (by decide)
  exact ⟨b, o, e, h0, e0, e1, e2, e3, e4, e5, e6⟩
theorem short28 (w : World) (p : PathN) : Calls Tryz.prog 19 #[p.v] w fun e w' => (∃ g, e = .returned (.bool g) ∧ (g = true ↔ p.short)) ∧ Below w.heap.size w w' := by
  obtain ⟨ca, cc, cs, st, sp, oa, oc, os, ra, rc, rs, ba, bc, bs, ia, ic, is⟩ := p
  have HBA : Hid (Below w.heap.size w (w.alloc (.cells #[.slice ca cs.length cc, .int .u8 st, .int .i64 sp, .slice oa os.length oc, .slice ra rs.length rc, .slice ba bs.length bc, .slice ia is.length ic] 28))) := Lib.hid ((Below.refl _ _).alloc (Nat.le_refl _) _)
  simp only [PathN.v, PathN.short]
  generalize cs.length = l1 at *
  generalize os.length = l2 at *
  generalize rs.length = l3 at *
  generalize bs.length = l4 at *
  generalize is.length = l5 at *
  by_cases c1 : l1 ≤ 12
  · by_cases c2 : l2 ≤ 12
    · by_cases c3 : l3 ≤ 12
      · by_cases c4 : l4 ≤ 40
        · by_cases c5 : l5 ≤ 40
          · have d1 : decide ((l1 : Int) ≤ 12) = true := by simp; omega
            have d2 : decide ((l2 : Int) ≤ 12) = true := by simp; omega
            have d3 : decide ((l3 : Int) ≤ 12) = true := by simp; omega
            have d4 : decide ((l4 : Int) ≤ 40) = true := by simp; omega
            have d5 : decide ((l5 : Int) ≤ 40) = true := by simp; omega
            have HG : Hid (l1 ≤ 12 ∧ l2 ≤ 12 ∧ l3 ≤ 12 ∧ l4 ≤ 40 ∧ l5 ≤ 40) := Lib.hid ⟨c1, c2, c3, c4, c5⟩
            clear c1 c2 c3 c4 c5
            go_enter Tryz.func19, Tryz.ntmps19
            go_wp2_with fail
            go_ret
            exact ⟨⟨true, rfl, fun _ => HG.out, fun _ => rfl⟩, HBA.out⟩
          · have d1 : decide ((l1 : Int) ≤ 12) = true := by simp; omega
            have d2 : decide ((l2 : Int) ≤ 12) = true := by simp; omega
            have d3 : decide ((l3 : Int) ≤ 12) = true := by simp; omega
            have d4 : decide ((l4 : Int) ≤ 40) = true := by simp; omega
            have d5 : decide ((l5 : Int) ≤ 40) = false := by simp; omega
            have HG := Lib.hid c5
            clear c1 c2 c3 c4 c5
            go_enter Tryz.func19, Tryz.ntmps19
            go_wp2_with fail
            go_ret
            exact ⟨⟨false, rfl, fun h => (by cases h), fun h => absurd h.2.2.2.2 HG.out⟩, HBA.out⟩
        · have d1 : decide ((l1 : Int) ≤ 12) = true := by simp; omega
          have d2 : decide ((l2 : Int) ≤ 12) = true := by simp; omega
          have d3 : decide ((l3 : Int) ≤ 12) = true := by simp; omega
          have d4 : decide ((l4 : Int) ≤ 40) = false := by simp; omega
          have HG := Lib.hid c4
          clear c1 c2 c3 c4
          go_enter Tryz.func19, Tryz.ntmps19
          go_wp2_with fail
          go_ret
          exact ⟨⟨false, rfl, fun h => (by cases h), fun h => absurd h.2.2.2.1 HG.out⟩, HBA.out⟩
      · have d1 : decide ((l1 : Int) ≤ 12) = true := by simp; omega
        have d2 : decide ((l2 : Int) ≤ 12) = true := by simp; omega
        have d3 : decide ((l3 : Int) ≤ 12) = false := by simp; omega
        have HG := Lib.hid c3
        clear c1 c2 c3
        go_enter Tryz.func19, Tryz.ntmps19
        go_wp2_with fail
        go_ret
        exact ⟨⟨false, rfl, fun h => (by cases h), fun h => absurd h.2.2.1 HG.out⟩, HBA.out⟩
    · have d1 : decide ((l1 : Int) ≤ 12) = true := by simp; omega
      have d2 : decide ((l2 : Int) ≤ 12) = false := by simp; omega
      have HG := Lib.hid c2
      clear c1 c2
      go_enter Tryz.func19, Tryz.ntmps19
      go_wp2_with fail
      go_ret
      exact ⟨⟨false, rfl, fun h => (by cases h), fun h => absurd h.2.1 HG.out⟩, HBA.out⟩
  · have d1 : decide ((l1 : Int) ≤ 12) = false := by simp; omega
    have HG := Lib.hid c1
    clear c1
    go_enter Tryz.func19, Tryz.ntmps19
    go_wp2_with fail
    go_ret
    exact ⟨⟨false, rfl, fun h => (by cases h), fun h => absurd h.1 HG.out⟩, HBA.out⟩
end Go.Proofs.YtcckmkidmelbnaaGreatDoor
