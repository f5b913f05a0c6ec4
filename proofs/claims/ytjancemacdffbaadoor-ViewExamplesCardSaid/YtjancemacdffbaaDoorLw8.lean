/- Walks (part 8): Chain, Cube of weepholelaw27. -/
import Derived.Test.YtjancemacdffbaaDoorLw7
import Derived.Test.YtjancemacdffbaaDoorPl5
namespace Go.Proofs.YtjancemacdffbaaDoor
open Go.RowKit

theorem flat_append (a b : List (Int × Int)) : flat (a ++ b) = flat a ++ flat b := by simp [flat]

theorem Tryd.info29 : (Tryd.prog.info? 29).map (fun i => (i.zero, i.size, i.bytes)) = some (some (.agg #[.int .i64 0, .int .i64 0]), 2, 16) := by kernel_rfl

/-- a slice of pairs that the call owns -/
def OwnP (w : World) (base : Nat) (v : Value) (ps : List (Int × Int)) : Prop := w.ownsRow base 29 2 v ps.length (flat ps)

theorem OwnP.nil (w : World) (base : Nat) : OwnP w base (.slice none 0 0) [] := World.ownsRow_nil w base 29 2
theorem OwnP.pairs {w : World} {base : Nat} {v : Value} {ps : List (Int × Int)} (h : OwnP w base v ps) : ∃ a cap, v = .slice a ps.length cap ∧ PairsAt w a ps ∧ ps.length ≤ cap ∧ cap ≤ maxLen := by
  obtain ⟨hl, h | ⟨g, cap, cur, rfl, hg, hh, hn, hm, hs, ht⟩⟩ := h
  · refine ⟨none, 0, by rw [h.1, h.2], ?_, by omega, by decide⟩
    have : ps = [] := List.eq_nil_of_length_eq_zero h.2
    subst this
    exact PairsAt.nil _ _
  · refine ⟨_, cap, rfl, ?_, hn, hm⟩
    intro i hi
    obtain ⟨h1, h2⟩ := flat_at ps i hi
    have hlt : g < w.heap.size := (Array.getElem?_eq_some_iff.1 hh).1
    have hc : ∀ j, j < ps.length * 2 → w.cell? ⟨g, 0 + j, none⟩ = (flat ps)[j]? := fun j hj => by
      have : w.cell? ⟨g, 0 + j, none⟩ = cur[j]? := by simp [World.cell?, hh]
      rw [this, ← ht, List.getElem?_take_of_lt hj]; simp
    refine ⟨g, 0, rfl, hlt, ?_, ?_⟩
    · rw [hc _ (by omega)]; exact h1
    · rw [Nat.add_assoc, hc _ (by omega)]; exact h2
theorem OwnP.grown {w w' : World} {base : Nat} {v : Value} {ps : List (Int × Int)} (h : OwnP w base v ps) (hb : Below w.heap.size w w') : OwnP w' base v ps := by
  refine World.ownsRow.kept (row := none) h ⟨hb.os, hb.tape, hb.output, hb.size, fun k hk _ => hb.block k hk⟩ ?_
  cases hv : v.ownBlock <;> simp
theorem OwnP.below {w w' : World} {base : Nat} {v : Value} {ps : List (Int × Int)} (h : OwnP w base v ps) (hg : w.grownBy w' v.ownBlock) (hB : base ≤ w.heap.size) : Below base w w' :=
  (Below.refl _ _).grown hg hB fun k hk => (h.lt k hk).1

theorem OwnP.snoc {w w1 : World} {base m : Nat} {v v' : Value} {ps qs : List (Int × Int)} (h : w1.ownsRow base 29 2 v' (ps.length + m) (flat ps ++ flat qs)) (hm : qs.length = m)
    (hown : OwnP w base v ps) (o : Obj) (hg : (w.alloc o).grownBy w1 v.ownBlock) (hB : base ≤ w.heap.size) : OwnP w1 base v' (ps ++ qs) ∧ Below base w w1 := by
  subst hm
  refine ⟨?_, ((Below.refl _ _).alloc hB o).grown hg (by simp; omega) fun k hk => (hown.lt k hk).1⟩
  unfold OwnP; rw [flat_append, List.length_append]; exact h

def OwnRet (w : World) (ps : List (Int × Int)) (e : Ending) (w' : World) : Prop := ∃ v, e = .returned v ∧ OwnP w' w.heap.size v ps ∧ Below w.heap.size w w'

set_option maxHeartbeats 400000 in
theorem chain_any (n : Int) (w : World) (hn : n ≤ 1000000) :
    Calls Tryd.prog 26 #[.int .i64 n] w (OwnRet w (chainL (n.toNat - 1))) := by
  obtain ⟨i0, hi, hz0, hz1, hz2⟩ := info_parts Tryd.info29
  go_enter Tryd.func26, Tryd.ntmps26
  go_wp2_with fail
  go_loopw [3, 4] (fun v i wr => ∃ k : Nat, k ≤ (n.toNat - 1) ∧ i = .int .i64 k ∧ OwnP wr w.heap.size v (chainL k) ∧ Below w.heap.size w wr) (fun _ i _ => (n.toNat - 1) - (intOf i).toNat)
  case atStart => exact ⟨0, by omega, rfl, OwnP.nil _ _, Below.refl _ _⟩
  case round =>
    obtain ⟨k, hk, rfl, hown, hbel⟩ := hrel
    have hsz := hbel.size
    by_cases hlt : (k : Int) + 1 < n
    · go_wp2_with (at_builtin; refine wpList_append_own _ rfl _ _ 22 rfl w.heap.size 29 i0 _ 2 16 Tryd.underlying22 hi hz0 hz1 hz2 rfl (by decide) _ _ _ rfl (hown.alloc _) ⟨wr.heap.size, 0, none⟩ 1 1 [.int .i64 k, .int .i64 (k + 1)] rfl rfl ?c1 ?c2 ?c3 ?c4 ?c5 ?_)
      case c1 => 
        intro j u hj
        match j, hj with
        | 0, hj => simp at hj; subst hj; simp [Addr.add]
        | 1, hj => simp at hj; subst hj; simp [Addr.add]
      case c2 => intro u hu; simp at hu; rcases hu with rfl | rfl <;> rfl
      case c3 => rw [chainL_length]; unfold maxLen; omega
      case c4 => rw [chainL_length]; omega
      case c5 => simp; omega
      intro v' w1 hown' hgrow _
      obtain ⟨r1, r2⟩ := OwnP.snoc (qs := [((k : Int), (k : Int) + 1)]) hown' rfl hown _ hgrow hsz
      clear hown' hgrow hown
      go_wp2_with fail
      go_roundw
      case rel => exact ⟨k + 1, by omega, by go_num, by rw [chainL_succ]; exact r1, hbel.trans r2⟩
      case measure => simp [intOf]; omega
    · obtain rfl : k = (n.toNat - 1) := by omega
      go_wp2_with fail
      go_ret
      exact ⟨_, rfl, hown, hbel⟩

end Go.Proofs.YtjancemacdffbaaDoor
