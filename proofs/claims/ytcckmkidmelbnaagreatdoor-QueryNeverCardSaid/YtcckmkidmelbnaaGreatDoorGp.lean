/- Graphs of terms in memory, of the code and of the reference. -/
import Derived.Test.YtcckmkidmelbnaaGreatDoorGm
import Derived.Test.YtcckmkidmelbnaaGreatDoorPb
namespace Go.Proofs.YtcckmkidmelbnaaGreatDoor
open Go.RowKit

/-- a node as it lies: operator, number, the slice of its arguments -/
abbrev NdH := Nat × Nat × (Option Addr × Nat × Nat)
def Lay.nd : Lay NdH := ⟨3, fun p => [.int .u8 (p.1 : Int), .int .u64 (p.2.1 : Int), .slice p.2.2.1 p.2.2.2.1 p.2.2.2.2], fun _ => rfl, fun x u hu => by simp at hu; rcases hu with rfl | rfl | rfl <;> rfl, by decide⟩
theorem Tryz.elemN : ElemT Tryz.prog Lay.nd 131 141 (.agg #[.int .u8 0, .int .u64 0, .slice none 0 0]) 40 := ⟨Tryz.underlying131, by kernel_rfl, rfl, by decide⟩
theorem gmT : GmT Tryz.prog 195 250 3 ((Tryz.prog.underlying 250).getD .bool) 6 := ⟨by kernel_rfl, by kernel_rfl, by kernel_rfl, by decide, by kernel_rfl, fun w => by kernel_rfl⟩
def intsN (l : List Nat) : List Int := l.map fun (n : Nat) => (n : Int)
/-- arguments lie at a slice, in one of these blocks -/
structure HdAt (w : World) (A : Nat → Prop) (h : Option Addr × Nat × Nat) (args : List Nat) : Prop where
  len : h.2.1 = args.length
  at_ : (Lay.int .i64).At 0 w h.1 (intsN args)
  blk : ∀ a, h.1 = some a → A a.block
  non : h.1 = none → h.2.2 = 0
/-- nodes, as they lie -/
structure NdsOk (w : World) (A : Nat → Prop) (xs : List NdH) (L : List Nd) : Prop where
  len : xs.length = L.length
  at_ : ∀ i, i < L.length → (xs.getD i default).1 = (L.getD i default).op ∧ (xs.getD i default).2.1 = (L.getD i default).num ∧ HdAt w A (xs.getD i default).2.2 (L.getD i default).args
/-- the blocks that a graph writes: its struct, its map (if it has one), its nodes -/
def MutB (gb : Nat) (mb : Option Nat) (nv : Value) (k : Nat) : Prop := k = gb ∨ mb = some k ∨ nv.ownBlock = some k
/-- a graph of the code -/
structure PG (w : World) (B : Nat) (A : Nat → Prop) (gb mb : Nat) (nv : Value) (W : Nat) (L : List Nd) : Prop where
  blk : w.heap[gb]? = some (.cells #[.int .i64 W, .int .i64 1000, nv, .map (some mb)] 197 (0, 0))
  map : GmAt w mb L
  nds : ∃ xs, Lay.nd.Own 141 w B nv xs ∧ NdsOk w A xs L
  ok : GOk W L
  lo : ∀ k, MutB gb (some mb) nv k → B ≤ k ∧ k < w.heap.size
  ne : gb ≠ mb ∧ nv.ownBlock ≠ some gb ∧ nv.ownBlock ≠ some mb
  ar : ∀ k, A k → B ≤ k ∧ k < w.heap.size ∧ ¬ MutB gb (some mb) nv k
/-- a graph of the reference -/
structure RG (w : World) (B : Nat) (A : Nat → Prop) (gb : Nat) (nv : Value) (W : Nat) (L : List Nd) : Prop where
  blk : w.heap[gb]? = some (.cells #[.int .i64 W, .int .i64 1000, nv] 133 (0, 0))
  nds : ∃ xs, Lay.nd.Own 141 w B nv xs ∧ NdsOk w A xs L
  ok : GOk W L
  lo : ∀ k, MutB gb none nv k → B ≤ k ∧ k < w.heap.size
  ne : nv.ownBlock ≠ some gb
  ar : ∀ k, A k → B ≤ k ∧ k < w.heap.size ∧ ¬ MutB gb none nv k
/-- only these blocks were written -/
structure Mut (S : Nat → Prop) (w w' : World) : Prop where
  os : w'.os = w.os
  tape : w'.tape = w.tape
  output : w'.output = w.output
  size : w.heap.size ≤ w'.heap.size
  block : ∀ k, k < w.heap.size → ¬ S k → w'.heap[k]? = w.heap[k]?
theorem Mut.below {S : Nat → Prop} {B : Nat} {w w' : World} (h : Mut S w w') (hS : ∀ k, S k → B ≤ k) (hB : B ≤ w.heap.size) : Below B w w' :=
  ⟨h.os, h.tape, h.output, h.size, fun k hk => h.block k (by omega) (fun hs => by have := hS k hs; omega)⟩
theorem Mut.of_below {S : Nat → Prop} {w w' : World} (h : Below w.heap.size w w') : Mut S w w' := ⟨h.os, h.tape, h.output, h.size, fun k hk _ => h.block k hk⟩
theorem Mut.trans {S : Nat → Prop} {a b c : World} (h : Mut S a b) (k : Mut S b c) : Mut S a c :=
  ⟨k.os.trans h.os, k.tape.trans h.tape, k.output.trans h.output, Nat.le_trans h.size k.size, fun i hi hs => (k.block i (Nat.lt_of_lt_of_le hi h.size) hs).trans (h.block i hi hs)⟩
theorem Mut.grown {S : Nat → Prop} {w w' : World} {row : Option Nat} (h : w.grownBy w' row) (hr : ∀ k, row = some k → S k) : Mut S w w' :=
  ⟨h.os, h.tape, h.output, h.size, fun k hk hs => h.block k hk fun e => hs (hr k e.symm)⟩
theorem At.frame {α : Type} {L : Lay α} {d : α} {w w' : World} {a : Option Addr} {xs : List α} (h : L.At d w a xs) (hs : w.heap.size ≤ w'.heap.size) (hk : ∀ ad, a = some ad → w'.heap[ad.block]? = w.heap[ad.block]?) : L.At d w' a xs := fun i hi => by
  obtain ⟨b, o, e, h0, h1⟩ := h i hi
  exact ⟨b, o, e, Nat.lt_of_lt_of_le h0 hs, fun j hj => (World.cell?_of_block (a := ⟨b, o + i * L.sz + j, none⟩) (hk ⟨b, o, none⟩ e)).trans (h1 j hj)⟩
theorem HdAt.frame {w w' : World} {A : Nat → Prop} {h : Option Addr × Nat × Nat} {args : List Nat} (hh : HdAt w A h args) (hs : w.heap.size ≤ w'.heap.size) (hk : ∀ k, A k → w'.heap[k]? = w.heap[k]?) : HdAt w' A h args :=
  ⟨hh.len, At.frame hh.at_ hs fun ad e => hk _ (hh.blk ad e), hh.blk, hh.non⟩
theorem HdAt.mono {w : World} {A A' : Nat → Prop} {h : Option Addr × Nat × Nat} {args : List Nat} (hh : HdAt w A h args) (hk : ∀ k, A k → A' k) : HdAt w A' h args :=
  ⟨hh.len, hh.at_, fun a e => hk _ (hh.blk a e), hh.non⟩
theorem NdsOk.frame {w w' : World} {A : Nat → Prop} {xs : List NdH} {L : List Nd} (h : NdsOk w A xs L) (hs : w.heap.size ≤ w'.heap.size) (hk : ∀ k, A k → w'.heap[k]? = w.heap[k]?) : NdsOk w' A xs L :=
  ⟨h.len, fun i hi => ⟨(h.at_ i hi).1, (h.at_ i hi).2.1, (h.at_ i hi).2.2.frame hs hk⟩⟩
theorem NdsOk.snoc {w : World} {A A' : Nat → Prop} {xs : List NdH} {L : List Nd} (h : NdsOk w A xs L) (hA : ∀ k, A k → A' k) {n : Nd} {hd : Option Addr × Nat × Nat} (hh : HdAt w A' hd n.args) : NdsOk w A' (xs ++ [(n.op, n.num, hd)]) (L ++ [n]) := by
  refine ⟨by simp [h.len], fun i hi => ?_⟩
  simp only [List.length_append, List.length_singleton] at hi
  by_cases e : i < L.length
  · have h1 : (xs ++ [(n.op, n.num, hd)]).getD i default = xs.getD i default := by
      rw [List.getD_eq_getElem?_getD, List.getD_eq_getElem?_getD, List.getElem?_append_left (by rw [h.len]; exact e)]
    have h2 : (L ++ [n]).getD i default = L.getD i default := by
      rw [List.getD_eq_getElem?_getD, List.getD_eq_getElem?_getD, List.getElem?_append_left e]
    rw [h1, h2]
    exact ⟨(h.at_ i e).1, (h.at_ i e).2.1, (h.at_ i e).2.2.mono hA⟩
  · have e2 : i = L.length := by omega
    subst e2
    have h1 : (xs ++ [(n.op, n.num, hd)]).getD L.length default = (n.op, n.num, hd) := by
      rw [List.getD_eq_getElem?_getD, List.getElem?_append_right (by rw [h.len]; exact Nat.le_refl _), h.len]; simp
    have h2 : (L ++ [n]).getD L.length default = n := by
      rw [List.getD_eq_getElem?_getD, List.getElem?_append_right (Nat.le_refl _)]; simp
    rw [h1, h2]
    exact ⟨rfl, rfl, hh⟩
theorem own_frame {w w' : World} {B : Nat} {nv : Value} {xs : List NdH} (h : Lay.nd.Own 141 w B nv xs) (hk : ∀ k, nv.ownBlock = some k → w'.heap[k]? = w.heap[k]?) : Lay.nd.Own 141 w' B nv xs := by
  obtain ⟨hl, h | ⟨g, cap, cur, rfl, hg, hh, hn, hm, hs, ht⟩⟩ := h
  · exact ⟨hl, .inl h⟩
  · exact ⟨hl, .inr ⟨g, cap, cur, rfl, hg, (hk g rfl).trans hh, hn, hm, hs, ht⟩⟩
theorem GmAt.frame {w w' : World} {mb : Nat} {L : List Nd} (h : GmAt w mb L) (hk : w'.heap[mb]? = w.heap[mb]?) : GmAt w' mb L := by
  obtain ⟨es, clock, h1, h2⟩ := h.ents
  exact ⟨⟨es, clock, hk.trans h1, h2⟩⟩
section
variable {w w' : World} {B : Nat} {A : Nat → Prop} {gb mb : Nat} {nv : Value} {W : Nat} {L : List Nd}
theorem PG.frame (h : PG w B A gb mb nv W L) (hs : w.heap.size ≤ w'.heap.size) (hk : ∀ k, MutB gb (some mb) nv k ∨ A k → w'.heap[k]? = w.heap[k]?) : PG w' B A gb mb nv W L := by
  obtain ⟨xs, h1, h2⟩ := h.nds
  exact ⟨(hk gb (.inl (.inl rfl))).trans h.blk, h.map.frame (hk mb (.inl (.inr (.inl rfl)))), ⟨xs, own_frame h1 fun k e => hk k (.inl (.inr (.inr e))), h2.frame hs fun k a => hk k (.inr a)⟩, h.ok,
    fun k m => ⟨(h.lo k m).1, Nat.lt_of_lt_of_le (h.lo k m).2 hs⟩, h.ne, fun k a => ⟨(h.ar k a).1, Nat.lt_of_lt_of_le (h.ar k a).2.1 hs, (h.ar k a).2.2⟩⟩
theorem RG.frame (h : RG w B A gb nv W L) (hs : w.heap.size ≤ w'.heap.size) (hk : ∀ k, MutB gb none nv k ∨ A k → w'.heap[k]? = w.heap[k]?) : RG w' B A gb nv W L := by
  obtain ⟨xs, h1, h2⟩ := h.nds
  exact ⟨(hk gb (.inl (.inl rfl))).trans h.blk, ⟨xs, own_frame h1 fun k e => hk k (.inl (.inr (.inr e))), h2.frame hs fun k a => hk k (.inr a)⟩, h.ok,
    fun k m => ⟨(h.lo k m).1, Nat.lt_of_lt_of_le (h.lo k m).2 hs⟩, h.ne, fun k a => ⟨(h.ar k a).1, Nat.lt_of_lt_of_le (h.ar k a).2.1 hs, (h.ar k a).2.2⟩⟩
theorem PG.below (h : PG w B A gb mb nv W L) (hb : Below w.heap.size w w') : PG w' B A gb mb nv W L :=
  h.frame hb.size fun k hk => hb.block k (by rcases hk with m | a; exact (h.lo k m).2; exact (h.ar k a).2.1)
theorem RG.below (h : RG w B A gb nv W L) (hb : Below w.heap.size w w') : RG w' B A gb nv W L :=
  h.frame hb.size fun k hk => hb.block k (by rcases hk with m | a; exact (h.lo k m).2; exact (h.ar k a).2.1)
/-- the cells of a node -/
theorem PG.slice (h : PG w B A gb mb nv W L) : ∃ a cap, nv = .slice a L.length cap ∧ L.length ≤ cap ∧ cap ≤ maxLen := by
  obtain ⟨xs, h1, h2⟩ := h.nds
  obtain ⟨a, cap, rfl, _, h3, h4⟩ := h1.at_ (d := default)
  exact ⟨a, cap, by rw [h2.len], by rw [← h2.len]; exact h3, h4⟩
theorem RG.slice (h : RG w B A gb nv W L) : ∃ a cap, nv = .slice a L.length cap ∧ L.length ≤ cap ∧ cap ≤ maxLen := by
  obtain ⟨xs, h1, h2⟩ := h.nds
  obtain ⟨a, cap, rfl, _, h3, h4⟩ := h1.at_ (d := default)
  exact ⟨a, cap, by rw [h2.len], by rw [← h2.len]; exact h3, h4⟩
theorem nds_cells {xs : List NdH} (h1 : Lay.nd.Own 141 w B nv xs) (h2 : NdsOk w A xs L) {i : Nat} (hi : i < L.length) : ∃ b cap ha hc, nv = .slice (some ⟨b, 0, none⟩) L.length cap ∧ b < w.heap.size ∧ nv.ownBlock = some b ∧ w.cell? ⟨b, i * 3, none⟩ = some (.int .u8 ((L.getD i default).op : Int)) ∧ w.cell? ⟨b, i * 3 + 1, none⟩ = some (.int .u64 ((L.getD i default).num : Int)) ∧
    w.cell? ⟨b, i * 3 + 2, none⟩ = some (.slice ha (L.getD i default).args.length hc) ∧ (Lay.int .i64).At 0 w ha (intsN (L.getD i default).args) ∧ (ha = none → hc = 0) ∧ ∀ a, ha = some a → A a.block := by
  obtain ⟨e1, e2, hd⟩ := h2.at_ i hi
  have hl := h2.len
  obtain ⟨_, hh | ⟨g, cap, cur, rfl, hg, hh, hn, hm, hs, ht⟩⟩ := h1
  · omega
  · have h3 := World.ownsRow.cells (w := w) (base := B) (e := 141) (size := Lay.nd.sz) (n := xs.length) (xs := Lay.nd.flat xs) ⟨Lay.nd.flat_length xs, .inr ⟨g, cap, cur, rfl, hg, hh, hn, hm, hs, ht⟩⟩ (g := g) rfl
    have hc : ∀ j, j < 3 → w.cell? ⟨g, i * 3 + j, none⟩ = (Lay.nd.f (xs.getD i default))[j]? := fun j hj => by
      have h4 := Lay.nd.flat_at default xs i j (by omega) hj
      have h5 : (Lay.nd.f (xs.getD i default)).length = 3 := rfl
      have h6 : (Lay.nd.flat xs)[i * 3 + j]? = some ((Lay.nd.f (xs.getD i default))[j]'(by omega)) := by
        rw [← List.getElem?_eq_getElem (by omega)]; exact h4
      have h7 := h3 _ _ h6
      rw [add_at, Nat.zero_add] at h7
      rw [h7, List.getElem?_eq_getElem (by omega)]
    refine ⟨g, cap, (xs.getD i default).2.2.1, (xs.getD i default).2.2.2.2, by rw [hl], (Array.getElem?_eq_some_iff.1 hh).1, rfl, ?_, ?_, ?_, hd.at_, hd.non, hd.blk⟩
    · have := hc 0 (by decide)
      rw [Nat.add_zero] at this
      rw [this, ← e1]; rfl
    · rw [hc 1 (by decide), ← e2]; rfl
    · rw [hc 2 (by decide), ← hd.len]; rfl
end
end Go.Proofs.YtcckmkidmelbnaaGreatDoor
