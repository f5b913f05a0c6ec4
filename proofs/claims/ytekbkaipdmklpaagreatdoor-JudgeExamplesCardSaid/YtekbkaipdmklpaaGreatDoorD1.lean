/- The first memory of the run: eight laid variables. (and what follows on it). -/
import Derived.Test.YtekbkaipdmklpaaGreatDoorK4
import Derived.Test.YtekbkaipdmklpaaGreatDoorProg
import Derived.WalkKit
import Derived.Below
import Derived.Lib.Hide
import Derived.BigQuiet
import Derived.Deep.QuietTactic
import Derived.KernelRfl
import Derived.Maps.AppendAt
import Derived.Laws.AppendOwn
import Derived.Laws.AppendOwnNone
import Derived.Lib.Strings
import Derived.Lib.Slices
import Derived.Lib.Walk
import Derived.Lib.Bytealg
namespace Go.Proofs.YtekbkaipdmklpaaGreatDoor
namespace Cr
open Go Go.RowKit

noncomputable abbrev PR : Program := Tryz.prog
abbrev GG : Nat := 9
def fnv (n : Nat) : Value := .func (.func n) #[] #[]
def bv (b : Bool) : Value := .bool b
def iv (n : Nat) : Value := .int .i64 (.ofNat n)
def sv (l : List Nat) : Value := .string ⟨⟨l.map UInt8.ofNat⟩⟩
def knd : List Value := [sv [108, 101, 118, 101, 108], bv true, fnv 383, sv [111, 114, 100, 101, 114], bv true, fnv 386, sv [99, 104, 97, 110], bv true, fnv 388, sv [115, 105, 116, 101], bv true, fnv 390, sv [109, 111, 100, 101], bv false, fnv 391, sv [115, 116, 101, 112, 115], bv false, fnv 393, sv [112, 97, 116, 104, 115], bv false, fnv 395, sv [110, 111, 100, 101, 115], bv false, fnv 396, sv [99, 111, 110, 102, 108, 105, 99, 116, 115], bv false, fnv 397]
def stp0 : List (Value × Value) := [(.int .u8 (.ofNat 0), fnv 399), (.int .u8 (.ofNat 1), fnv 400), (.int .u8 (.ofNat 2), fnv 401), (.int .u8 (.ofNat 3), fnv 402), (.int .u8 (.ofNat 4), fnv 403), (.int .u8 (.ofNat 5), fnv 404), (.int .u8 (.ofNat 6), fnv 405), (.int .u8 (.ofNat 7), fnv 406), (.int .u8 (.ofNat 8), fnv 407), (.int .u8 (.ofNat 9), fnv 408)]
def shps : List Value := [bv true, bv true, bv false, iv 0, bv true, bv true, bv true, iv 0, bv true, bv true, bv false, iv 1, bv false, bv true, bv true, iv 1, bv true, bv false, bv false, iv 2, bv false, bv true, bv false, iv 2, bv true, bv true, bv false, iv 3, bv false, bv false, bv false, iv 4, bv false, bv true, bv false, iv 4, bv false, bv false, bv false, iv 0]
def dbr : List Value := [0, 1, 28, 2, 29, 14, 24, 3, 30, 22, 20, 15, 25, 17, 4, 8, 31, 27, 13, 23, 21, 19, 16, 7, 26, 12, 18, 6, 11, 5, 10, 9].map fun (n : Nat) => .int .u8 (.ofNat n)
def cmps : List Value := [fnv 430, fnv 431]
def kws : List Value := [sv [119, 105, 100, 116, 104], sv [99, 104, 97, 110], sv [97, 114, 114, 97, 121], sv [102, 117, 110, 99], sv [109, 97, 105, 110], sv [101, 110, 100], sv [108, 111, 97, 100], sv [115, 116, 111, 114, 101], sv [99, 97, 108, 108], sv [105, 110], sv [111, 117, 116], sv [114, 101, 108, 101, 97, 115, 101], sv [106, 117, 109, 112], sv [105, 102], sv [104, 97, 108, 116], sv [114, 101, 116]]
def frms : List Value := [bv true, bv false, iv 1, bv true, bv false, iv 0, bv true, bv true, iv 1, bv false, bv true, iv 2, bv true, bv true, .int .i64 (.negSucc 0), bv true, bv true, iv 0, bv false, bv true, iv 1, bv true, bv true, iv 1, bv false, bv true, iv 0, bv false, bv true, iv 1, bv false, bv true, iv 0, bv false, bv false, iv 0, bv false, bv false, iv 1]
def mchs : List Value := [fnv 432, fnv 433, fnv 434, fnv 435, fnv 436, fnv 437, fnv 438, fnv 439, fnv 440, fnv 441]
def firstL : List (Nat × Lb) := [(0, .c false 1 [.slice (some ⟨10, 0, none⟩) 9 9]), (1, .c false 1 [.map (some 9)]), (2, .c false 40 shps), (4, .c false 32 dbr), (5, .c false 2 cmps), (6, .c false 1 [.slice (some ⟨11, 0, none⟩) 16 16]), (7, .c false 39 frms), (8, .c false 10 mchs), (9, .m false stp0), (10, .c false 27 knd), (11, .c false 16 kws)]
noncomputable def H0 : AH := litH firstL 12
/-- cells that hold a list -/
def CellsAt (w : World) (b o : Nat) (l : List Value) : Prop := ∃ cs e f, w.heap[b]? = some (.cells cs e f) ∧ ∀ k, k < l.length → cs[o + k]? = l[k]?
/-- the laid variables of the program -/
structure Laid (w : World) : Prop where
  kinds : ∃ b o, CellsAt w 0 0 [.slice (some ⟨b, o, none⟩) 9 9] ∧ CellsAt w b o knd
  steps : ∃ b ents clock, CellsAt w 1 0 [.map (some b)] ∧ w.heap[b]? = some (.map ents clock) ∧ List.Perm stp0 (ents.toList.map fun x => (x.key, x.val))
  shapes : CellsAt w 2 0 shps
  bits : CellsAt w 4 0 dbr
  compare : CellsAt w 5 0 cmps
  words : ∃ b o, CellsAt w 6 0 [.slice (some ⟨b, o, none⟩) 16 16] ∧ CellsAt w b o kws
  forms : CellsAt w 7 0 frms
  mach : CellsAt w 8 0 mchs
theorem CellsAt.br {w : World} {b o B T n : Nat} {μ : Mu} {l l0 : List Value} (h : CellsAt w b o l) (hn : l0.length = n) (hl : LR μ l0 l) : BR B μ w b o T (Lb.c false n l0).blk := by
  obtain ⟨cs, e, f, h1, h2⟩ := h
  have hlen := hl.len
  refine ⟨cs, e, f, h1, fun e => (by cases e), fun k hk => ?_⟩
  have hk0 : k < l0.length := by omega
  have hk1 : k < l.length := by omega
  refine ⟨l[k], by rw [h2 k hk1, List.getElem?_eq_getElem hk1], ?_⟩
  have e : cellv n l0 .nil k = l0[k] := by
    show nth l0 (Nat.mod k n) = _
    rw [nth_eq]
    have : Nat.mod k n = k := Nat.mod_eq_of_lt hk
    rw [this, List.getD_eq_getElem?_getD, List.getElem?_eq_getElem hk0]; rfl
  rw [e]
  exact hl.at_ k hk0 hk1
def mu0 (bm bk ok bw ow : Nat) : Mu := ⟨fun i => if i = 11 then some (bw, ow) else if i = 10 then some (bk, ok) else if i = 9 then some (bm, 0) else if i < 9 then some (i, 0) else none, fun _ => 0, fun _ => .deferred none⟩
theorem Laid.hr {w : World} (h : Laid w) : ∃ μ, HR GG w.heap.size w H0 μ w := by
  obtain ⟨⟨bk, ok, k1, k2⟩, ⟨bm, ents, clock, s1, s2, s3⟩, h3, h4, h5, ⟨bw, ow, w1, w2⟩, h7, h8⟩ := h
  have hlt : ∀ p ∈ firstL, p.1 < 1000000000000 := by decide
  have hst : ∀ {l : List Value}, l.all scalar = true → ∀ {l' : List Value}, List.Perm l l' → LR (mu0 bm bk ok bw ow) l' l' := fun hl _ hp' => LR.scalars (List.all_eq_true.2 fun x hx => List.all_eq_true.1 hl x (hp'.mem_iff.2 hx))
  have hblk : ∀ i x, H0.get i = some x → ∀ b o, mu0 bm bk ok bw ow i = some (b, o) → BR w.heap.size (mu0 bm bk ok bw ow) w b o ((mu0 bm bk ok bw ow).tot i) x := by
    intro i x hx b o hm
    obtain ⟨s, hs, rfl⟩ := litT_get hlt hx
    simp only [firstL, List.mem_cons, List.not_mem_nil, or_false, Prod.mk.injEq] at hs
    rcases hs with ⟨rfl, rfl⟩ | ⟨rfl, rfl⟩ | ⟨rfl, rfl⟩ | ⟨rfl, rfl⟩ | ⟨rfl, rfl⟩ | ⟨rfl, rfl⟩ | ⟨rfl, rfl⟩ | ⟨rfl, rfl⟩ | ⟨rfl, rfl⟩ | ⟨rfl, rfl⟩ | ⟨rfl, rfl⟩ <;> (injection (show some _ = some (b, o) from hm) with hm; injection hm with e1 e2; subst e1 e2)
    · exact k1.br rfl (LR.cons (VR.sl 10 bk ok 0 9 9 9 rfl (.inl ⟨by decide, rfl⟩)) (LR.nil _))
    · exact s1.br rfl (LR.cons (VR.map 9 bm rfl) (LR.nil _))
    · exact h3.br rfl (LR.scalars (by decide))
    · exact h4.br rfl (LR.scalars (by decide))
    · exact h5.br rfl (LR.scalars (by decide))
    · exact w1.br rfl (LR.cons (VR.sl 11 bw ow 0 16 16 16 rfl (.inl ⟨by decide, rfl⟩)) (LR.nil _))
    · exact h7.br rfl (LR.scalars (by decide))
    · exact h8.br rfl (LR.scalars (by decide))
    · refine ⟨rfl, _, ents, clock, ⟨s3, ⟨.u8, ?_⟩, ?_⟩, s2, (fun e => (by cases e)), ?_, ?_⟩
      · intro x hx
        simp only [stp0, List.mem_cons, List.not_mem_nil, or_false] at hx
        rcases hx with rfl | rfl | rfl | rfl | rfl | rfl | rfl | rfl | rfl | rfl <;> exact ⟨_, rfl⟩
      · have hk : (stp0.map (·.1)) = (List.range 10).map fun n => .int .u8 (.ofNat n) := rfl
        have : (stp0.map (·.1)).Pairwise (· ≠ ·) := by
          rw [hk, List.pairwise_map]
          refine List.Pairwise.imp (R := (· ≠ ·)) ?_ (by decide)
          intro a b h e
          injection e with _ e
          injection e with e
          exact h e
        rw [List.pairwise_map] at this
        exact this
      · have := hst (l := stp0.map (·.1)) (by decide) (s3.map (·.1))
        rw [List.map_map] at this ⊢
        exact this
      · have := hst (l := stp0.map (·.2)) (by decide) (s3.map (·.2))
        rw [List.map_map] at this ⊢
        exact this
    · exact k2.br rfl (LR.scalars (by decide))
    · exact w2.br rfl (LR.scalars (by decide))
  refine ⟨mu0 bm bk ok bw ow, hblk, ?_, ?_, ?_, ?_, (by show (12 : Nat) < _; decide), Below.refl _ _, Nat.le_refl _⟩
  · intro i j x y hx hy hne b o b' o' hm hm' hab
    have := (hblk i x hx b o hm).lt
    have := (hblk j y hy b' o' hm').lt
    omega
  · intro i x hx
    obtain ⟨s, hs, rfl⟩ := litT_get hlt hx
    have : ∀ p ∈ firstL, p.1 < 12 := by decide
    exact this _ hs
  · intro i p hp
    show i < 12
    simp only [mu0] at hp
    split at hp
    · omega
    · split at hp
      · omega
      · split at hp
        · omega
        · split at hp
          · omega
          · cases hp
  · intro g hg
    have hg : g < 9 := hg
    show (if g = 11 then some (bw, ow) else if g = 10 then some (bk, ok) else if g = 9 then some (bm, 0) else if g < 9 then some (g, 0) else none) = _
    rw [if_neg (by omega), if_neg (by omega), if_neg (by omega), if_pos hg]
end Cr
end Go.Proofs.YtekbkaipdmklpaaGreatDoor
namespace Go.Proofs.YtekbkaipdmklpaaGreatDoor
open Go.RowKit

theorem add_at (g o j : Nat) : (⟨g, o, none⟩ : Addr).add j = ⟨g, o + j, none⟩ := by
  unfold Addr.add
  split
  · simp_all
  · rfl
/-- how an element lies in memory -/
structure Lay (α : Type) where
  sz : Nat
  f : α → List Value
  len : ∀ x, (f x).length = sz
  one : ∀ x, ∀ u ∈ f x, u.oneCell' = true
  pos : 0 < sz
def Lay.int (k : IntKind) : Lay Int := ⟨1, fun n => [.int k n], fun _ => rfl, fun x u hu => by simp at hu; subst hu; rfl, by decide⟩
def Lay.ev : Lay (Int × Int) := ⟨2, fun p => [.int .i64 p.1, .int .u64 p.2], fun _ => rfl, fun x u hu => by simp at hu; rcases hu with rfl | rfl <;> rfl, by decide⟩
def Lay.sl : Lay (Option Addr × Nat × Nat) := ⟨1, fun p => [.slice p.1 p.2.1 p.2.2], fun _ => rfl, fun x u hu => by simp at hu; subst hu; rfl, by decide⟩
section
variable {α : Type} (L : Lay α)
def Lay.flat (xs : List α) : List Value := xs.flatMap L.f
theorem Lay.flat_append (a b : List α) : L.flat (a ++ b) = L.flat a ++ L.flat b := by simp [Lay.flat]
theorem Lay.flat_length (xs : List α) : (L.flat xs).length = xs.length * L.sz := by
  induction xs with
  | nil => simp [Lay.flat]
  | cons p ps ih => simp only [Lay.flat, List.flatMap_cons, List.length_append, List.length_cons, L.len] at ih ⊢; rw [ih, Nat.add_mul]; omega
theorem Lay.flat_one (xs : List α) : ∀ u ∈ L.flat xs, u.oneCell' = true := fun u hu => by
  simp only [Lay.flat, List.mem_flatMap] at hu
  obtain ⟨p, _, hu⟩ := hu
  exact L.one p u hu
theorem Lay.flat_at (d : α) : ∀ (xs : List α) (i j : Nat), i < xs.length → j < L.sz → (L.flat xs)[i * L.sz + j]? = (L.f (xs.getD i d))[j]?
  | [], i, j, h, _ => by simp at h
  | p :: ps, 0, j, _, hj => by
    simp only [Lay.flat, List.flatMap_cons, Nat.zero_mul, Nat.zero_add, List.getD_cons_zero]
    rw [List.getElem?_append_left (by rw [L.len]; exact hj)]
  | p :: ps, i + 1, j, h, hj => by
    have := Lay.flat_at d ps i j (by simpa using h) hj
    simp only [Lay.flat, List.flatMap_cons, List.getD_cons_succ] at this ⊢
    rw [List.getElem?_append_right (by rw [L.len, Nat.add_mul]; omega), L.len, ← this]
    congr 1
    rw [Nat.add_mul]; omega
/-- a list lies in memory, at the address of a slice -/
def Lay.At (d : α) (w : World) (a : Option Addr) (xs : List α) : Prop :=
  ∀ i, i < xs.length → ∃ b o, a = some ⟨b, o, none⟩ ∧ b < w.heap.size ∧ ∀ j, j < L.sz → w.cell? ⟨b, o + i * L.sz + j, none⟩ = (L.f (xs.getD i d))[j]?
variable {L} {d : α} {w w' : World} {a : Option Addr} {xs : List α}
theorem Lay.At.nil : L.At d w a [] := fun i hi => by simp at hi
theorem Lay.At.below (h : L.At d w a xs) (hb : Below w.heap.size w w') : L.At d w' a xs := fun i hi => by
  obtain ⟨b, o, e, h0, h1⟩ := h i hi
  exact ⟨b, o, e, Nat.lt_of_lt_of_le h0 hb.size, fun j hj => (hb.cell (p := ⟨b, _, none⟩) h0).trans (h1 j hj)⟩
theorem Lay.At.take (h : L.At d w a xs) (k : Nat) : L.At d w a (xs.take k) := fun i hi => by
  rw [List.length_take] at hi
  obtain ⟨b, o, e, h0, h1⟩ := h i (by omega)
  refine ⟨b, o, e, h0, fun j hj => ?_⟩
  rw [h1 j hj, List.getD_eq_getElem?_getD, List.getD_eq_getElem?_getD, List.getElem?_take_of_lt (by omega)]
/-- the list from k on -/
theorem Lay.At.drop {b o : Nat} (h : L.At d w (some ⟨b, o, none⟩) xs) (k : Nat) : L.At d w (some ⟨b, o + k * L.sz, none⟩) (xs.drop k) := fun i hi => by
  rw [List.length_drop] at hi
  obtain ⟨b', o', e, h0, h1⟩ := h (k + i) (by omega)
  injection e with e; injection e with e1 e2; subst e1 e2
  refine ⟨b, _, rfl, h0, fun j hj => ?_⟩
  have e3 : o + k * L.sz + i * L.sz + j = o + (k + i) * L.sz + j := by rw [Nat.add_mul]; omega
  rw [e3, h1 j hj, List.getD_eq_getElem?_getD, List.getD_eq_getElem?_getD, List.getElem?_drop]
/-- a new block that holds a list -/
theorem Lay.At.made (w : World) (xs : List α) (t : TypeId) : L.At d (w.alloc (.cells (L.flat xs).toArray t)) (some ⟨w.heap.size, 0, none⟩) xs := fun i hi =>
  ⟨_, _, rfl, by simp, fun j hj => by rw [World.cell?_alloc_new, ← L.flat_at d xs i j hi hj]; simp⟩
/-- a slice that the call owns -/
def Lay.Own (L : Lay α) (e : TypeId) (w : World) (base : Nat) (v : Value) (xs : List α) : Prop := w.ownsRow base e L.sz v xs.length (L.flat xs)
theorem Lay.Own.nil {e : TypeId} (w : World) (base : Nat) : L.Own e w base (.slice none 0 0) [] := World.ownsRow_nil w base e L.sz
theorem Lay.Own.at_ {e base : Nat} {v : Value} (h : L.Own e w base v xs) : ∃ a cap, v = .slice a xs.length cap ∧ L.At d w a xs ∧ xs.length ≤ cap ∧ cap ≤ maxLen := by
  obtain ⟨hl, h | ⟨g, cap, cur, rfl, hg, hh, hn, hm, hs, ht⟩⟩ := h
  · refine ⟨none, 0, by rw [h.1, h.2], ?_, by omega, by decide⟩
    have : xs = [] := List.eq_nil_of_length_eq_zero h.2
    subst this
    exact Lay.At.nil
  · refine ⟨_, cap, rfl, ?_, hn, hm⟩
    intro i hi
    have hlt : g < w.heap.size := (Array.getElem?_eq_some_iff.1 hh).1
    have hc : ∀ j, j < xs.length * L.sz → w.cell? ⟨g, 0 + j, none⟩ = (L.flat xs)[j]? := fun j hj => by
      have : w.cell? ⟨g, 0 + j, none⟩ = cur[j]? := by simp [World.cell?, hh]
      rw [this, ← ht, List.getElem?_take_of_lt hj]; simp
    refine ⟨g, 0, rfl, hlt, fun j hj => ?_⟩
    have hlt2 : i * L.sz + j < xs.length * L.sz := by
      have : (i + 1) * L.sz ≤ xs.length * L.sz := Nat.mul_le_mul_right _ hi
      rw [Nat.add_mul] at this; omega
    rw [Nat.add_assoc, hc _ hlt2, L.flat_at d xs i j hi hj]
theorem Lay.Own.grown {e base : Nat} {v : Value} (h : L.Own e w base v xs) (hb : Below w.heap.size w w') : L.Own e w' base v xs := by
  refine World.ownsRow.kept (row := none) h ⟨hb.os, hb.tape, hb.output, hb.size, fun k hk _ => hb.block k hk⟩ ?_
  cases hv : v.ownBlock <;> simp
theorem Lay.Own.alloc {e base : Nat} {v : Value} (h : L.Own e w base v xs) (o : Obj) : L.Own e (w.alloc o) base v xs := World.ownsRow.alloc h o
/-- a slice literal: a new block, full -/
theorem Lay.Own.made {e base : Nat} (w : World) (xs : List α) (hb : base ≤ w.heap.size) (hl : xs.length ≤ 1000000) : L.Own e (w.alloc (.cells (L.flat xs).toArray e)) base (.slice (some ⟨w.heap.size, 0, none⟩) xs.length xs.length) xs :=
  ⟨L.flat_length xs, .inr ⟨w.heap.size, xs.length, _, rfl, hb, heap_alloc_new w _, Nat.le_refl _, by unfold maxLen; omega, by simp [L.flat_length], by rw [← L.flat_length xs]; simp⟩⟩
/-- the facts of a slice's type -/
structure ElemT (P : Program) (L : Lay α) (t e : TypeId) (z : Value) (bytes : Nat) : Prop where
  und : P.underlying t = some (.slice e)
  info : (P.info? e).map (fun i => (i.zero, i.size, i.bytes)) = some (some z, L.sz, bytes)
  zs : z.cells.size = L.sz
  by_ : bytes ≤ 100
variable {P : Program} {t e : TypeId} {z : Value} {bytes : Nat}
theorem app_lay (T : ElemT P L t e z bytes) {ops : Array Oper} {rest : List Oper} {o : Oper} {a : Act} {Q : Exit → Act → World → Prop} (hgd : o.guard = none) (s x : Operand)
    (ho : o.op = .call { callee := .builtin .append, args := #[s, x], argTypes := #[t, t] }) {base : Nat} {v : Value} {ps qs : List α} {ad : Addr} {m c : Nat}
    (hs : a.eval s = v) (hown : L.Own e w base v ps) (hx : a.eval x = .slice (some ad) m c) (hm : qs.length = m) (hnews : ∀ j u, (L.flat qs)[j]? = some u → w.cell? (ad.add j) = some u)
    (hl : ps.length + m ≤ 1000000) (hbase : base ≤ w.heap.size)
    (h : ∀ v' w', L.Own e w' base v' (ps ++ qs) → Below base w w' → wpList P ops Q rest (a.put o.dst v') w') : wpList P ops Q (o :: rest) a w := by
  obtain ⟨i0, hi, hz0, hz1, hz2⟩ := info_parts T.info
  subst hm
  have hb := T.by_
  have hbs : (ps.length + qs.length) * bytes ≤ 140737488355328 := by
    have := Nat.mul_le_mul hl hb
    omega
  refine wpList_append_own w hgd s x t ho base e i0 _ L.sz bytes T.und hi hz0 hz1 hz2 T.zs L.pos v ps.length (L.flat ps) hs hown ad qs.length c (L.flat qs) hx (L.flat_length qs) hnews (L.flat_one qs) (by unfold maxLen; omega) hbs hbase ?_
  intro v' w' hown' hg _
  refine h v' w' ?_ ((Below.refl _ _).grown hg hbase fun k hk => (hown.lt k hk).1)
  unfold Lay.Own
  rw [L.flat_append, List.length_append]
  exact hown'
theorem lay_new_cells (w : World) (qs : List α) (t : TypeId) : ∀ j u, (L.flat qs)[j]? = some u → (w.alloc (.cells (L.flat qs).toArray t)).cell? ((⟨w.heap.size, 0, none⟩ : Addr).add j) = some u := fun j u hj => by
  rw [add_at, Nat.zero_add, World.cell?_alloc_new]
  simpa using hj
/-- 'append(l, qs...)' where the elements were laid in a new block for it -/
theorem app_lay_new (T : ElemT P L t e z bytes) {ops : Array Oper} {rest : List Oper} {o : Oper} {a : Act} {Q : Exit → Act → World → Prop} (qs : List α) (hgd : o.guard = none) (s x : Operand)
    (ho : o.op = .call { callee := .builtin .append, args := #[s, x], argTypes := #[t, t] }) {base : Nat} {v : Value} {ps : List α} {m c : Nat}
    (hs : a.eval s = v) (hown : L.Own e w base v ps) (hx : a.eval x = .slice (some ⟨w.heap.size, 0, none⟩) m c) (hm : qs.length = m)
    (hl : ps.length + m ≤ 1000000) (hbase : base ≤ w.heap.size)
    (h : ∀ v' w', L.Own e w' base v' (ps ++ qs) → Below base w w' → wpList P ops Q rest (a.put o.dst v') w') : wpList P ops Q (o :: rest) a (w.alloc (.cells (L.flat qs).toArray e)) :=
  app_lay T hgd s x ho hs (hown.alloc _) hx hm (lay_new_cells w qs e) hl (by simp; omega) fun v' w' h1 h2 => h v' w' h1 (((Below.refl _ _).alloc hbase _).trans h2)
theorem app_lay_new_g (T : ElemT P L t e z bytes) {ops : Array Oper} {rest : List Oper} {o : Oper} {a : Act} {Q : Exit → Act → World → Prop} (qs : List α) (hgd : o.guard = none) (s x : Operand)
    (ho : o.op = .call { callee := .builtin .append, args := #[s, x], argTypes := #[t, t] }) {base g : Nat} {v : Value} {ps : List α} {m c : Nat}
    (hs : a.eval s = v) (hown : L.Own e w base v ps) (hx : a.eval x = .slice (some ⟨g, 0, none⟩) m c) (hg : g = w.heap.size) (hm : qs.length = m)
    (hl : ps.length + m ≤ 1000000) (hbase : base ≤ w.heap.size)
    (h : ∀ v' w', L.Own e w' base v' (ps ++ qs) → Below base w w' → wpList P ops Q rest (a.put o.dst v') w') : wpList P ops Q (o :: rest) a (w.alloc (.cells (L.flat qs).toArray e)) :=
  app_lay_new T qs hgd s x ho hs hown (by rw [hx, hg]) hm hl hbase h
/-- 'append(l, xs...)' of a slice that is there, nil or not -/
theorem app_lay_at (T : ElemT P L t e z bytes) {ops : Array Oper} {rest : List Oper} {o : Oper} {a : Act} {Q : Exit → Act → World → Prop} (hgd : o.guard = none) (s x : Operand)
    (ho : o.op = .call { callee := .builtin .append, args := #[s, x], argTypes := #[t, t] }) {base : Nat} {v : Value} {ps qs : List α} {A : Option Addr} {m c : Nat}
    (hs : a.eval s = v) (hown : L.Own e w base v ps) (hx : a.eval x = .slice A m c) (hA : A = none → c = 0) (hm : qs.length = m) (hat : L.At d w A qs)
    (hl : ps.length + m ≤ 1000000) (hbase : base ≤ w.heap.size)
    (h : ∀ v' w', L.Own e w' base v' (ps ++ qs) → Below base w w' → wpList P ops Q rest (a.put o.dst v') w') : wpList P ops Q (o :: rest) a w := by
  cases A with
  | none =>
    have hq : qs = [] := by
      cases qs with
      | nil => rfl
      | cons q qs => obtain ⟨b, o, e, _⟩ := hat 0 (by simp); cases e
    subst hq
    obtain rfl := hA rfl
    simp at hm
    subst hm
    obtain ⟨i0, hi, hz0, hz1, hz2⟩ := info_parts T.info
    refine wpList_append_own_none hgd s x t ho base e i0 L.sz T.und hi v ps.length (L.flat ps) hs hown hx (h v w ?_ (Below.refl _ _))
    rw [List.append_nil]
    exact hown
  | some ad =>
    refine app_lay T hgd s x ho hs hown hx hm (fun j u hj => ?_) hl hbase h
    have hj' := (List.getElem?_eq_some_iff.1 hj).1
    rw [L.flat_length] at hj'
    have hp := L.pos
    have hi : j / L.sz < qs.length := Nat.div_lt_of_lt_mul (by rw [Nat.mul_comm]; exact hj')
    obtain ⟨b, o, e, _, h1⟩ := hat (j / L.sz) hi
    injection e with e; subst e
    have hm := Nat.mod_lt j hp
    have e2 : j / L.sz * L.sz + j % L.sz = j := by rw [Nat.mul_comm]; exact Nat.div_add_mod j L.sz
    have := h1 (j % L.sz) hm
    rw [Nat.add_assoc, e2, ← L.flat_at d qs _ _ hi hm, e2] at this
    rw [add_at, this, hj]
end

/-- lists of integers -/
theorem Lay.At.int {k : IntKind} {w : World} {a : Option Addr} {xs : List Int} (h : (Lay.int k).At 0 w a xs) {i : Nat} (hi : i < xs.length) :
    ∃ b o, a = some ⟨b, o, none⟩ ∧ b < w.heap.size ∧ w.cell? ⟨b, o + i, none⟩ = some (.int k (xs.getD i 0)) := by
  obtain ⟨b, o, e, h0, h1⟩ := h i hi
  have := h1 0 (Lay.int k).pos
  simp only [Lay.int, Nat.mul_one, Nat.add_zero] at this
  exact ⟨b, o, e, h0, by simpa using this⟩
theorem Lay.At.ev {w : World} {a : Option Addr} {xs : List (Int × Int)} (h : Lay.ev.At (0, 0) w a xs) {i : Nat} (hi : i < xs.length) :
    ∃ b o, a = some ⟨b, o, none⟩ ∧ b < w.heap.size ∧ w.cell? ⟨b, o + i * 2, none⟩ = some (.int .i64 (xs.getD i (0, 0)).1) ∧ w.cell? ⟨b, o + i * 2 + 1, none⟩ = some (.int .u64 (xs.getD i (0, 0)).2) := by
  obtain ⟨b, o, e, h0, h1⟩ := h i hi
  have e0 := h1 0 (by decide)
  have e1 := h1 1 (by decide)
  simp only [Lay.ev, Nat.add_zero] at e0 e1
  exact ⟨b, o, e, h0, by simpa using e0, by simpa using e1⟩
theorem Lay.At.sl {w : World} {a : Option Addr} {xs : List (Option Addr × Nat × Nat)} (h : Lay.sl.At (none, 0, 0) w a xs) {i : Nat} (hi : i < xs.length) :
    ∃ b o, a = some ⟨b, o, none⟩ ∧ b < w.heap.size ∧ w.cell? ⟨b, o + i, none⟩ = some (.slice (xs.getD i (none, 0, 0)).1 (xs.getD i (none, 0, 0)).2.1 (xs.getD i (none, 0, 0)).2.2) := by
  obtain ⟨b, o, e, h0, h1⟩ := h i hi
  have := h1 0 (by decide)
  simp only [Lay.sl, Nat.mul_one, Nat.add_zero] at this
  exact ⟨b, o, e, h0, by simpa using this⟩
theorem Tryz.elemI : ElemT Tryz.prog (Lay.int .i64) 35 3 (.int .i64 0) 8 := ⟨Tryz.underlying35, by kernel_rfl, rfl, by decide⟩
end Go.Proofs.YtekbkaipdmklpaaGreatDoor
namespace Go.Proofs.YtekbkaipdmklpaaGreatDoor
set_option maxHeartbeats 1000000 in
set_option maxRecDepth 100000 in
theorem stringslite_IndexByte (s : ByteArray) (c : Int) (w : World) :
    Calls Tryz.prog 197 #[.string s, .int .u8 c] w fun e w' => e = .returned (.int .i64 (Lib.indexByte s.data.toList c.toNat.toUInt8)) ∧ w' = w := by
  go_enter Tryz.func197, Tryz.ntmps197
  go_wp2
  rw [run_callFunc_extern Tryz.func244 (by kernel_rfl) (by kernel_rfl) (by kernel_rfl) (e := Extern.BytealgIndexByte.indexByte) (by kernel_rfl), Lib.run_indexByteString]
  simp only [Result.andThen]
  rw [Oper.upon_value]
  go_wp2
  go_ret
  exact ⟨rfl, rfl⟩
set_option maxHeartbeats 1000000 in
set_option maxRecDepth 100000 in
theorem strings_Count_one (s : ByteArray) (c : UInt8) (w : World) :
    Calls Tryz.prog 31 #[.string s, .string ⟨#[c]⟩] w fun e w' => e = .returned (.int .i64 (Lib.countByte s.data.toList c)) ∧ w' = w := by
  go_enter Tryz.func31, Tryz.ntmps31
  go_wp2
  rw [run_callFunc_extern Tryz.func73 (by kernel_rfl) (by kernel_rfl) (by kernel_rfl) (e := Extern.BytealgCount.count) (by kernel_rfl), Lib.run_countString]
  simp only [Result.andThen]
  rw [Oper.upon_value]
  go_wp2
  go_ret
  exact ⟨rfl, rfl⟩
namespace Cr
open Go Go.RowKit
def cntL : List UInt8 → Nat → Nat → Nat
  | [], _, n => n
  | b :: l, c, n => bif Nat.beq b.toNat c then cntL l c (Nat.succ n) else cntL l c n
theorem cntL_eq (c : UInt8) : ∀ (l : List UInt8) (n : Nat), cntL l c.toNat n = n + l.count c
  | [], n => rfl
  | b :: l, n => by
    unfold cntL
    rw [List.count_cons]
    cases hb : Nat.beq b.toNat c.toNat with
    | true =>
      have e : b = c := UInt8.toNat_inj.1 (Nat.eq_of_beq_eq_true hb)
      subst e
      simp only [cond_true, cntL_eq b l, beq_self_eq_true, if_true]
      omega
    | false =>
      have e : (b == c) = false := by
        rw [beq_eq_false_iff_ne]
        intro h
        subst h
        exact Nat.ne_of_beq_eq_false hb rfl
      simp only [cond_false, cntL_eq c l, e, Bool.false_eq_true, if_false]
      omega
noncomputable def spCnt (args : List Value) (H : AH) : Rs :=
  match args with
  | [.string s, .string ⟨⟨[b]⟩⟩] => forceN (cntL s.data.toList b.toNat 0) fun n => .ok (.int .i64 (.ofNat n)) H
  | _ => .bad
theorem cnt_calls {G B : Nat} {w0 : W0} {args : List Value} {H H' : AH} {v : Value} (hrun : spCnt args H = .ok v H') {μ : Mu} {w : World} {args' : List Value} (hargs : LR μ args args') (hr : HR G B w0 H μ w) :
    Calls Tryz.prog 31 ⟨args'⟩ w fun e w' => ∃ v' μ', e = .returned v' ∧ VR μ' v v' ∧ Nx G B w0 H μ H' μ' w' := by
  unfold spCnt at hrun
  split at hrun
  · rename_i s b
    obtain ⟨x, r1, rfl, hx, h1⟩ := hargs.cons_inv
    obtain ⟨y, r2, rfl, hy, h2⟩ := h1.cons_inv
    obtain rfl := h2.nil_inv
    cases hx
    cases hy
    rw [forceN_eq, Rs.ok.injEq] at hrun
    obtain ⟨rfl, rfl⟩ := hrun
    refine (strings_Count_one s b w).mono ?_
    rintro e w' ⟨rfl, rfl⟩
    refine ⟨_, μ, rfl, ?_, Nx.refl hr⟩
    rw [cntL_eq, Nat.zero_add]
    exact .int _ _
  · cases hrun
end Cr
end Go.Proofs.YtekbkaipdmklpaaGreatDoor
namespace Go.Proofs.YtekbkaipdmklpaaGreatDoor
namespace Cr
open Go Go.RowKit

/-- the cells of a slice of the machine whose elements have k cells -/
noncomputable def sliceK (H : AH) (k : Nat) (x : Value) : Option (List Value) :=
  match x with
  | .slice (some ⟨i, o, none⟩) n _ => match H.get i with
    | some (.cells _ m zl zs t) => bif Nat.ble (Nat.add o (Nat.mul k n)) m then some (cellsL zl zs t (Nat.mul k n) o) else none
    | _ => none
  | _ => none
def isF : Option Bool → Bool
  | some false => true
  | _ => false
/-- keys that are no others' -/
def apartK (ks : List Nat) (agg : Bool) : List (Value × Value) → Bool
  | [] => true
  | e :: r => keyOk ks agg e.1 && ((r.all fun f => isF (keyEq ks agg e.1 f.1) && isF (keyEq ks agg f.1 e.1)) && apartK ks agg r)
def isI : Value → Bool
  | .int .i64 _ => true
  | _ => false
def keyI : Value → Bool
  | .agg ⟨[.int .u8 _, .int .u64 _, .int .i64 _, .int .i64 _, .int .i64 _]⟩ => true
  | _ => false
noncomputable def spCopy (args : List Value) (H : AH) : Rs :=
  match args with
  | [.pointer (some ⟨i, 0, none⟩)] => bif Nat.blt H.next 900000000000 then
      match H.get i with
      | some (.cells _ 4 zl zs t) => match cellv zl zs t 2 with
        | .slice (some a) n c => bif Nat.blt 0 n && Nat.blt n 1000 then
            match sliceK H 3 (.slice (some a) n c) with
            | none => .bad
            | some cs => match cellv zl zs t 3 with
              | .map (some mb) => match H.get mb with
                | some (.map true es) => bif isI (cellv zl zs t 0) && (isI (cellv zl zs t 1) && (cs.all one && (es.all (fun e => keyI e.1) && apartK [0, 0, 0, 0, 0] true es))) then
                    forceN H.next fun b1 => forceN (Nat.succ b1) fun b2 => forceN (Nat.succ b2) fun b3 => forceN (Nat.mul 3 n) fun N => forceN (Nat.add 73786976294838206464 n) fun c =>
                      forceH (((H.push (.cells true N N cs .nil)).push (.dfr (.pmap es))).push (.cells true 4 4 [cellv zl zs t 0, cellv zl zs t 1, .slice (some ⟨b1, 0, none⟩) n c, .map (some b2)] .nil)) fun H' => .ok (.pointer (some ⟨b3, 0, none⟩)) H'
                  else .bad
                | _ => .bad
              | _ => .bad
          else .bad
        | _ => .bad
      | _ => .bad
    else .bad
  | _ => .bad

/-! ### the machine -/
noncomputable def sp0 : Spec := fun _ => none
noncomputable def callA : Nat → List Value → AH → Rs := callF PR sp0 (ev PR sp0 GG (comp PR) (drwE GG (comp PR)) 1000000)
noncomputable def spX : Spec := fun g => bif Nat.beq g 103 then some (spVars callA 148 149) else bif Nat.beq g 23 then some spCopy else bif Nat.beq g 197 then some spIdx else bif Nat.beq g 31 then some spCnt else none
noncomputable def selfX : Self := ev PR spX GG (comp PR) (drwE GG (comp PR)) 1000000
noncomputable def callX : Nat → List Value → AH → Rs := callF PR spX selfX
noncomputable def cM (O : List Nat) (L : List Memo) : Nat → List Value → AH → Rs := callM PR GG spX selfX O L
noncomputable def sM (O : List Nat) (L : List Memo) : Self := selfM PR GG spX selfX O L
end Cr
end Go.Proofs.YtekbkaipdmklpaaGreatDoor
