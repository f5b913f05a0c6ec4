/- Walk: Make (the objects of a case). -/
import Derived.Test.YtcckmkidmelbnaaGreatDoorNq
import Derived.Test.YtcckmkidmelbnaaGreatDoorNc
namespace Go.Proofs.YtcckmkidmelbnaaGreatDoor
open Go Go.RowKit

/-- a case: where its lists lie, and what they hold -/
structure CaseN where
  Wd : Int
  na : Option Addr
  nc : Nat
  qs : List RawN
  lv : Int
  oa : Option Addr
  oc : Nat
  ord : List (Int × Int)
  ca : Option Addr
  cc : Nat
  xs : List Int
  sa : Option Addr
  sc : Nat
  ys : List Int
  sens : Bool
  level : Int
  p : PathN
  q : PathN
def PathN.l (p : PathN) : List Value := [.slice p.ca p.cs.length p.cc, .int .u8 p.st, .int .i64 p.sp, .slice p.oa p.os.length p.oc, .slice p.ra p.rs.length p.rc, .slice p.ba p.bs.length p.bc, .slice p.ia p.is.length p.ic]
def CaseN.l (x : CaseN) : List Value := [.int .i64 x.Wd, .slice x.na x.qs.length x.nc, .int .i64 x.lv, .slice x.oa x.ord.length x.oc, .slice x.ca x.xs.length x.cc, .slice x.sa x.ys.length x.sc, .bool x.sens, .int .i64 x.level] ++ x.p.l ++ x.q.l
def CaseN.v (x : CaseN) : Value := .agg ⟨x.l⟩
structure CaseN.Ok (w : World) (x : CaseN) : Prop where
  raw : Lay.raw.At default w x.na x.qs
  rb : ∀ q ∈ x.qs, q.2.1 < 256 ∧ q.2.2.1 < 18446744073709551616 ∧ q.2.2.2.1 < 65536 ∧ q.2.2.2.2 < 65536
  ord : PairsAt w x.oa x.ord
  cx : (Lay.int .i64).At 0 w x.ca x.xs
  cn : x.ca = none → x.cc = 0
  sy : (Lay.int .i64).At 0 w x.sa x.ys
  sn : x.sa = none → x.sc = 0
  p : x.p.Ok w
  q : x.q.Ok w
/-- what is made when a case fits -/
def MadeP (w' : World) (x : CaseN) (v0 v1 v2 v3 : Option Addr) : Prop :=
  ∃ sb lb rb xb g r N W : Nat, ∃ (ca1 : Option Addr) (cc1 : Nat) (sa1 : Option Addr) (sc1 : Nat) (ca2 : Option Addr) (cc2 : Nat) (sa2 : Option Addr) (sc2 : Nat) (up dn : Nat → Nat) (L : List Nd),
    v0 = some ⟨sb, 0, none⟩ ∧ v1 = some ⟨rb, 0, none⟩ ∧ v2 = some ⟨g, 0, none⟩ ∧ v3 = some ⟨r, 0, none⟩ ∧ SideAt w' sb lb ca1 cc1 x.xs sa1 sc1 x.ys ∧ LatC w' lb N up dn ∧ SideAt w' rb xb ca2 cc2 x.xs sa2 sc2 x.ys ∧ RefL w' xb N up ∧
    RV w' g W L ∧ RV w' r W L ∧ VOk L ∧ L.length ≤ 100 ∧ x.xs.length ≤ 32 ∧ x.p.short ∧ x.q.short
def MakeP (w : World) (x : CaseN) (e : Ending) (w' : World) : Prop :=
  ∃ (fits : Bool) (v0 v1 v2 v3 : Option Addr), e = .returned (.tuple #[.agg #[.pointer v0, .pointer v1, .pointer v2, .pointer v3], .bool fits, .bool true]) ∧ Below w.heap.size w w' ∧ (fits = true → MadeP w' x v0 v1 v2 v3)
theorem short_yes (w : World) (p : PathN) (h : p.short) : Calls Tryz.prog 19 #[p.v] w fun e w' => e = .returned (.bool true) ∧ Below w.heap.size w w' :=
  (short28 w p).mono fun e w' ⟨⟨g, h1, h2⟩, h3⟩ => ⟨by rw [h1, h2.2 h], h3⟩
theorem short_no (w : World) (p : PathN) (h : ¬ p.short) : Calls Tryz.prog 19 #[p.v] w fun e w' => e = .returned (.bool false) ∧ Below w.heap.size w w' :=
  (short28 w p).mono fun e w' ⟨⟨g, h1, h2⟩, h3⟩ => ⟨by cases g with | false => exact h1 | true => exact absurd (h2.1 rfl) h, h3⟩
abbrev ptrs (v0 v1 v2 v3 : Option Addr) : Obj := .cells #[.pointer v0, .pointer v1, .pointer v2, .pointer v3] 37
theorem ptr_cells {w : World} {b : Nat} {v0 v1 v2 v3 : Option Addr} (h : w.heap[b]? = some (.cells #[.pointer v0, .pointer v1, .pointer v2, .pointer v3] 37 (0, 0))) :
    w.cell? ⟨b, 0, none⟩ = some (.pointer v0) ∧ w.cell? ⟨b, 1, none⟩ = some (.pointer v1) ∧ w.cell? ⟨b, 2, none⟩ = some (.pointer v2) ∧ w.cell? ⟨b, 3, none⟩ = some (.pointer v3) ∧ w.frozen? ⟨b, 0, none⟩ = false ∧ w.frozen? ⟨b, 1, none⟩ = false ∧ w.frozen? ⟨b, 2, none⟩ = false ∧ w.frozen? ⟨b, 3, none⟩ = false := by
  refine ⟨?_, ?_, ?_, ?_, ?_, ?_, ?_, ?_⟩ <;> simp [World.cell?, World.frozen?, h]
/-- the whole stored into itself -/
theorem ptr_again {w : World} {b : Nat} {v0 v1 v2 v3 : Option Addr} (h : w.heap[b]? = some (.cells #[.pointer v0, .pointer v1, .pointer v2, .pointer v3] 37 (0, 0))) :
    (((w.setCell ⟨b, 0, none⟩ (.pointer v0)).setCell ⟨b, 1, none⟩ (.pointer v1)).setCell ⟨b, 2, none⟩ (.pointer v2)).setCell ⟨b, 3, none⟩ (.pointer v3) = w := by
  have hlt : b < w.heap.size := (Array.getElem?_eq_some_iff.1 h).1
  have hg : w.heap[b] = .cells #[.pointer v0, .pointer v1, .pointer v2, .pointer v3] 37 (0, 0) := by
    rw [Array.getElem?_eq_getElem hlt] at h; injection h
  cases w
  simp only [World.setCell] at *
  congr 1
  apply Array.ext_getElem?
  intro i
  simp only [Array.getElem?_modify]
  by_cases e : b = i
  · subst e; simp [h]
  · simp [e]
theorem ptr_not {w : World} {b : Nat} {v0 v1 v2 v3 : Option Addr} (h : w.heap[b]? = some (.cells #[.pointer v0, .pointer v1, .pointer v2, .pointer v3] 37 (0, 0))) {o : Nat} {v : Value} (hv : w.cell? ⟨b, o, none⟩ = some v) : ∃ a, v = .pointer a := by
  simp only [World.cell?, h] at hv
  rcases o with _ | _ | _ | _ | o
  · exact ⟨_, by simpa using hv.symm⟩
  · exact ⟨_, by simpa using hv.symm⟩
  · exact ⟨_, by simpa using hv.symm⟩
  · exact ⟨_, by simpa using hv.symm⟩
  · simp at hv
theorem ptr_set0 {w : World} {b : Nat} {v0 v1 v2 v3 : Option Addr} (a : Option Addr) (h : w.heap[b]? = some (.cells #[.pointer v0, .pointer v1, .pointer v2, .pointer v3] 37 (0, 0))) : (w.setCell ⟨b, 0, none⟩ (.pointer a)).heap[b]? = some (.cells #[.pointer a, .pointer v1, .pointer v2, .pointer v3] 37 (0, 0)) := by
  simp [World.setCell, Array.getElem?_modify, h]
theorem ptr_set1 {w : World} {b : Nat} {v0 v1 v2 v3 : Option Addr} (a : Option Addr) (h : w.heap[b]? = some (.cells #[.pointer v0, .pointer v1, .pointer v2, .pointer v3] 37 (0, 0))) : (w.setCell ⟨b, 1, none⟩ (.pointer a)).heap[b]? = some (.cells #[.pointer v0, .pointer a, .pointer v2, .pointer v3] 37 (0, 0)) := by
  simp [World.setCell, Array.getElem?_modify, h]
theorem ptr_set2 {w : World} {b : Nat} {v0 v1 v2 v3 : Option Addr} (a : Option Addr) (h : w.heap[b]? = some (.cells #[.pointer v0, .pointer v1, .pointer v2, .pointer v3] 37 (0, 0))) : (w.setCell ⟨b, 2, none⟩ (.pointer a)).heap[b]? = some (.cells #[.pointer v0, .pointer v1, .pointer a, .pointer v3] 37 (0, 0)) := by
  simp [World.setCell, Array.getElem?_modify, h]
theorem ptr_set3 {w : World} {b : Nat} {v0 v1 v2 v3 : Option Addr} (a : Option Addr) (h : w.heap[b]? = some (.cells #[.pointer v0, .pointer v1, .pointer v2, .pointer v3] 37 (0, 0))) : (w.setCell ⟨b, 3, none⟩ (.pointer a)).heap[b]? = some (.cells #[.pointer v0, .pointer v1, .pointer v2, .pointer a] 37 (0, 0)) := by
  simp [World.setCell, Array.getElem?_modify, h]
/-- all cells outside block b, and all of it that are no pointers, are kept -/
structure Kept (b : Nat) (w w' : World) : Prop where
  sz : w.heap.size ≤ w'.heap.size
  c : ∀ p v, w.cell? p = some v → (p.block ≠ b ∨ ∀ a, v ≠ .pointer a) → w'.cell? p = some v
theorem Kept.trans {b : Nat} {w w' w'' : World} (h : Kept b w w') (k : Kept b w' w'') : Kept b w w'' := ⟨Nat.le_trans h.sz k.sz, fun p v h1 h2 => k.c p v (h.c p v h1 h2) h2⟩
theorem Below.kept {b : Nat} {w w' : World} (h : Below w.heap.size w w') : Kept b w w' := ⟨h.size, fun p _ h1 _ => (h.cell (p := p) (World.block_lt_of_cell? w _ h1)).trans h1⟩
theorem Kept.set {w : World} {b : Nat} {v0 v1 v2 v3 : Option Addr} (h : w.heap[b]? = some (.cells #[.pointer v0, .pointer v1, .pointer v2, .pointer v3] 37 (0, 0))) (o : Nat) (a : Option Addr) : Kept b w (w.setCell ⟨b, o, none⟩ (.pointer a)) := by
  refine ⟨by simp [World.setCell], fun p v h1 h2 => ?_⟩
  have e : p.block ≠ b := by
    rcases h2 with h2 | h2
    · exact h2
    · intro e
      obtain ⟨pb, po, ps⟩ := p
      obtain rfl : pb = b := e
      cases ps with
      | none => obtain ⟨x, hx⟩ := ptr_not h h1; exact h2 x hx
      | some s => simp [World.cell?, h] at h1
  rw [World.cell?_setCell_other]
  · exact h1
  · intro e'; exact e (by rw [← e'])
theorem Kept.ints {b : Nat} {w w' : World} {a : Option Addr} {xs : List Int} (k : Kept b w w') (h : (Lay.int .i64).At 0 w a xs) : (Lay.int .i64).At 0 w' a xs := fun i hi => by
  obtain ⟨b, o, e, h0, h1⟩ := h i hi
  refine ⟨b, o, e, Nat.lt_of_lt_of_le h0 k.sz, fun j hj => ?_⟩
  obtain rfl : j = 0 := by simp [Lay.int] at hj; exact hj
  exact k.c _ (.int .i64 (xs.getD i 0)) (h1 0 hj) (.inr fun a h => by cases h)
theorem Kept.lat {b' : Nat} {w w' : World} {b n : Nat} {up dn : Nat → Nat} (k : Kept b' w w') (h : LatC w b n up dn) : LatC w' b n up dn :=
  ⟨k.c _ _ h.hn (.inr fun a h => by cases h), fun i hi => k.c _ _ (h.hup i hi) (.inr fun a h => by cases h), fun i hi => k.c _ _ (h.hdn i hi) (.inr fun a h => by cases h), h.bup, h.bdn, h.n32⟩
theorem Kept.ref {b' : Nat} {w w' : World} {xb n : Nat} {up : Nat → Nat} (k : Kept b' w w') (h : RefL w xb n up) : RefL w' xb n up := by
  obtain ⟨g, cap, r, M, h1, h2⟩ := h
  exact ⟨g, cap, r, M, ⟨k.c _ _ h1.top (.inr fun a h => by cases h), fun i hi => k.c _ _ (h1.row i hi) (.inr fun a h => by cases h), fun i j hi hj => k.c _ _ (h1.bit i j hi hj) (.inr fun a h => by cases h), h1.n32⟩, h2⟩
theorem Kept.side {b : Nat} {w w' : World} {sb lb : Nat} {ca : Option Addr} {cc : Nat} {xs : List Int} {sa : Option Addr} {sc : Nat} {ys : List Int} {v0 v1 v2 v3 : Option Addr} (k : Kept b w w') (hb : w.heap[b]? = some (.cells #[.pointer v0, .pointer v1, .pointer v2, .pointer v3] 37 (0, 0))) (h : SideAt w sb lb ca cc xs sa sc ys) : SideAt w' sb lb ca cc xs sa sc ys := by
  have hne : sb ≠ b := by
    rintro rfl
    obtain ⟨a, ha⟩ := ptr_not hb h.c1
    cases ha
  exact ⟨k.c _ _ h.l (.inl hne), k.c _ _ h.c1 (.inl hne), k.c _ _ h.c2 (.inl hne), k.ints h.x, k.ints h.y⟩
theorem Kept.rv {b : Nat} {w w' : World} {r W : Nat} {L : List Nd} (k : Kept b w w') (h : RV w r W L) : RV w' r W L := by
  obtain ⟨a, cap, h1, h2⟩ := h.nodes
  refine ⟨Nat.lt_of_lt_of_le h.low k.sz, k.c _ _ h.c0 (.inr fun a h => by cases h), ⟨a, cap, k.c _ _ h1 (.inr fun a h => by cases h), fun i hi => ?_⟩, h.ok⟩
  obtain ⟨b, ha, hc, e, hlt, y0, y1, y2, hat, hno⟩ := h2 i hi
  exact ⟨b, ha, hc, e, Nat.lt_of_lt_of_le hlt k.sz, k.c _ _ y0 (.inr fun a h => by cases h), k.c _ _ y1 (.inr fun a h => by cases h), k.c _ _ y2 (.inr fun a h => by cases h), k.ints hat, hno⟩
end Go.Proofs.YtcckmkidmelbnaaGreatDoor
