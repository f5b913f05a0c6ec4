/- An append to a slice that the call owns leaves what the old value owned as it was: as a step of a region that draws its order. -/
import Derived.Test.YtjancemacdffbaaDoorAp
import Derived.Maps.AppendAt
import Derived.Deep.RegionHeld3
import Derived.Deep.RegionLaw
namespace Go.Proofs.YtjancemacdffbaaDoor
open Go.RowKit

section
variable {P : Program} (w : World)
theorem run_append_keep (base : Nat) (t ty e : TypeId) (i : TypeInfo) (z : Value) (size bytes : Nat) (ht : P.underlying t = some (.slice e)) (hi : P.info? e = some i) (hz : i.zero = some z)
    (hsize : i.size = size) (hby : i.bytes = bytes) (hzs : z.cells.size = size) (hsz : 0 < size)
    (v : Value) (n : Nat) (xs : List Value) (hown : w.ownsRow base e size v n xs)
    (a : Addr) (m c : Nat) (news : List Value) (hl : news.length = m * size) (hnews : ∀ j u, news[j]? = some u → w.cell? (a.add j) = some u) (h1 : ∀ u ∈ news, u.oneCell' = true)
    (h63 : n + m ≤ maxLen) (hbytes : (n + m) * bytes ≤ 140737488355328) (hbase : base ≤ w.heap.size) :
    ∃ v' w', (Builtin.append_ #[t, t] ty #[v, .slice (some a) m c]).run P w = .ok v' w' ∧ w'.ownsRow base e size v' (n + m) (xs ++ news) ∧ w.grownBy w' v.ownBlock ∧
      (v'.ownBlock = v.ownBlock ∨ v'.ownBlock = some w.heap.size) ∧ w'.ownsRow base e size v n xs := by
  obtain ⟨v', w', hr, h2, h3, _, h5⟩ := run_append_own_at (P := P) w base t ty e i z size bytes ht hi hz hsize hby hzs hsz v n xs hown a m c news hl hnews h1 h63 hbytes hbase
  refine ⟨v', w', hr, h2, h3, h5, ?_⟩
  subst hsize
  subst hby
  have hsmall : n + m ≤ 9223372036854775807 := by simp only [maxLen] at h63; omega
  rcases hown.2 with ⟨rfl, rfl⟩ | ⟨g, cap, cur, rfl, hbg, hg, hnc, hcm, hcs, htake⟩
  · exact hown.kept h3 (Or.inl rfl)
  · by_cases hroom : n + m ≤ cap
    · have hfit : n * i.size + news.length ≤ cur.size := by rw [hl, hcs, ← Nat.add_mul]; exact Nat.mul_le_mul_right _ hroom
      have hr' := run_append_room (P := P) w t ty e i ht hi g n cap cur hg a m c news hl hnews h1 hroom hfit
      rw [hr] at hr'
      injection hr' with hv hw
      subst hw
      refine ⟨hown.1, .inr ⟨g, cap, _, rfl, hbg, setRow_heap w g cur _ e _ hg, hnc, hcm, ?_, ?_⟩⟩
      · simp only [List.size_toArray, List.length_append, List.length_take, List.length_drop, Array.length_toList]
        omega
      · rw [htake, ← hown.1, List.append_assoc]
        exact List.take_left
    · have holds : ∀ j u, xs[j]? = some u → w.cell? ((⟨g, 0, none⟩ : Addr).add j) = some u := hown.cells (g := g) rfl
      have hr' := run_append_grow (P := P) w t ty e i z ht hi hz ⟨g, 0, none⟩ n cap xs hown.1 holds a m c news hl hnews (by omega) (by omega) (growslice_fits (by omega) hbytes)
      rw [hr] at hr'
      injection hr' with hv hw
      subst hw
      exact World.ownsRow.alloc (w := w.drew) hown _

theorem step_append_keep {ops : Array Oper} {o : Oper} {a : Act} {K : Act → World → Prop} {Q : Exit → Act → World → Prop} {E : Prop} (hgd : o.guard = none) (s x : Operand) (t : TypeId)
    (ho : o.op = .call { callee := .builtin .append, args := #[s, x], argTypes := #[t, t] })
    (base : Nat) (e : TypeId) (i : TypeInfo) (z : Value) (size bytes : Nat) (ht : P.underlying t = some (.slice e)) (hi : P.info? e = some i) (hz : i.zero = some z)
    (hsize : i.size = size) (hby : i.bytes = bytes) (hzs : z.cells.size = size) (hsz : 0 < size)
    (v : Value) (n : Nat) (xs : List Value) (hs : a.eval s = v) (hown : w.ownsRow base e size v n xs)
    (ad : Addr) (m c : Nat) (news : List Value) (hx : a.eval x = .slice (some ad) m c) (hl : news.length = m * size) (hnews : ∀ j u, news[j]? = some u → w.cell? (ad.add j) = some u) (h1 : ∀ u ∈ news, u.oneCell' = true)
    (h63 : n + m ≤ maxLen) (hbytes : (n + m) * bytes ≤ 140737488355328) (hbase : base ≤ w.heap.size)
    (h : ∀ v' w', w'.ownsRow base e size v' (n + m) (xs ++ news) → w.grownBy w' v.ownBlock → (v'.ownBlock = v.ownBlock ∨ v'.ownBlock = some w.heap.size) → w'.ownsRow base e size v n xs → K (a.put o.dst v') w') :
    if Region.wanted o (yielded ops a.tmps) = true then Oper.wp P o a w K Q else E := by
  have hw : Region.wanted o (yielded ops a.tmps) = true := by simp [Region.wanted, hgd]
  rw [if_pos hw]
  obtain ⟨v', w', hr, h2, h3, h4, h5⟩ := run_append_keep (P := P) w base t o.type e i z size bytes ht hi hz hsize hby hzs hsz v n xs hown ad m c news hl hnews h1 h63 hbytes hbase
  unfold Oper.wp execOp
  simp only [ho, resolve, invoke, builtin, Sem.run_bind, Sem.run_pure, Result.andThen_ok, List.map_toArray, List.map_cons, List.map_nil, hs, hx, hr]
  exact h v' w' h2 h3 h4 h5
end

/-- the cells of pairs lie in a block -/
def CellsAt (w : World) (ad : Addr) (qs : List (Int × Int)) : Prop := ∀ j u, (flat qs)[j]? = some u → w.cell? (ad.add j) = some u
theorem CellsAt.new (w : World) (qs : List (Int × Int)) (t : TypeId) : CellsAt (w.alloc (.cells (flat qs).toArray t)) ⟨w.heap.size, 0, none⟩ qs := new_cells w qs t
theorem CellsAt.keep {w w' : World} {g : Nat} {qs : List (Int × Int)} (h : CellsAt w ⟨g, 0, none⟩ qs) (e : w'.heap[g]? = w.heap[g]?) : CellsAt w' ⟨g, 0, none⟩ qs := fun j u hj => by
  have := h j u hj
  rw [add_at] at this ⊢
  exact (World.cell?_of_block (a := ⟨g, 0 + j, none⟩) e).trans this
theorem CellsAt.alloc {w : World} {g : Nat} {qs : List (Int × Int)} (h : CellsAt w ⟨g, 0, none⟩ qs) (hg : g < w.heap.size) (o : Obj) : CellsAt (w.alloc o) ⟨g, 0, none⟩ qs := h.keep ((World.grownBy_alloc w o none).block g hg (by simp))
theorem CellsAt.grown {w w' : World} {g : Nat} {qs : List (Int × Int)} {row : Option Nat} (h : CellsAt w ⟨g, 0, none⟩ qs) (hg : g < w.heap.size) (hgr : w.grownBy w' row) (hne : some g ≠ row) : CellsAt w' ⟨g, 0, none⟩ qs := h.keep (hgr.block g hg hne)

theorem CellsAt.drew {w : World} {ad : Addr} {qs : List (Int × Int)} (h : CellsAt w ad qs) : CellsAt w.drew ad qs := h
theorem CellsAt.at_ {w : World} {g : Nat} (qs : List (Int × Int)) (t : TypeId) (hg : w.heap.size = g) : CellsAt (w.alloc (.cells (flat qs).toArray t)) ⟨g, 0, none⟩ qs := by subst hg; exact CellsAt.new w qs t

/-- two slices of pairs that the call owns, apart from each other -/
structure Two (w : World) (B : Nat) (v1 : Value) (p1 : List (Int × Int)) (v2 : Value) (p2 : List (Int × Int)) (W : World) : Prop where
  a : OwnP W B v1 p1
  b : OwnP W B v2 p2
  below : Below B w W
  base : B ≤ W.heap.size
def Apart (v1 v2 : Value) : Prop := v1.ownBlock = none ∨ v2.ownBlock = none ∨ v1.ownBlock ≠ v2.ownBlock
theorem Apart.symm {v1 v2 : Value} (h : Apart v1 v2) : Apart v2 v1 := by
  rcases h with h | h | h
  · exact Or.inr (Or.inl h)
  · exact Or.inl h
  · exact Or.inr (Or.inr (Ne.symm h))
theorem Apart.ne {v1 v2 : Value} (h : Apart v1 v2) : v1.ownBlock = none ∨ v1.ownBlock ≠ v2.ownBlock := by
  rcases h with h | h | h
  · exact Or.inl h
  · cases e : v1.ownBlock with
    | none => exact Or.inl rfl
    | some k => rw [h]; exact Or.inr (by simp)
  · exact Or.inr h
section
variable {w W W' : World} {B : Nat} {v1 v2 v' : Value} {p1 p2 q : List (Int × Int)}
theorem Two.alloc (h : Two w B v1 p1 v2 p2 W) (o : Obj) : Two w B v1 p1 v2 p2 (W.alloc o) :=
  ⟨World.ownsRow.alloc h.a o, World.ownsRow.alloc h.b o, h.below.alloc h.base o, by simp; have := h.base; omega⟩
theorem Two.drew (h : Two w B v1 p1 v2 p2 W) : Two w B v1 p1 v2 p2 W.drew := ⟨h.a, h.b, h.below.drew, h.base⟩
theorem Two.symm (h : Two w B v1 p1 v2 p2 W) : Two w B v2 p2 v1 p1 W := ⟨h.b, h.a, h.below, h.base⟩
/-- behind an append to the first one -/
theorem Two.app (h : Two w B v1 p1 v2 p2 W) (ap : Apart v1 v2) (hg : W.grownBy W' v1.ownBlock) (hold : OwnP W' B v1 p1) : Two w B v1 p1 v2 p2 W' :=
  ⟨hold, World.ownsRow.kept h.b hg ap.symm.ne, h.below.grown hg h.base fun k hk => (h.a.lt k hk).1, Nat.le_trans h.base hg.size⟩
theorem Two.new (h : Two w B v1 p1 v2 p2 W) (ap : Apart v1 v2) (hg : W.grownBy W' v1.ownBlock) (hold : OwnP W' B v1 p1) (hn : OwnP W' B v' q) : Two w B v' q v2 p2 W' :=
  ⟨hn, (h.app ap hg hold).b, (h.app ap hg hold).below, (h.app ap hg hold).base⟩
theorem Apart.new (h : Two w B v1 p1 v2 p2 W) (ap : Apart v1 v2) (hat : v'.ownBlock = v1.ownBlock ∨ v'.ownBlock = some W.heap.size) : Apart v' v2 := by
  rcases hat with hat | hat
  · unfold Apart; rw [hat]; exact ap
  · unfold Apart; rw [hat]
    cases e : v2.ownBlock with
    | none => exact Or.inr (Or.inl rfl)
    | some k => exact Or.inr (Or.inr (by intro e2; simp at e2; have := h.b.lt k e; omega))
end

/-- 'append(l, qs...)' as a step of a region that draws, for pairs -/
theorem step_pairs {W : World} {ops : Array Oper} {o : Oper} {a : Act} {K : Act → World → Prop} {Q : Exit → Act → World → Prop} {E : Prop} (hgd : o.guard = none) (s x : Operand)
    (ho : o.op = .call { callee := .builtin .append, args := #[s, x], argTypes := #[22, 22] }) {base : Nat} {v : Value} {ps : List (Int × Int)} (qs : List (Int × Int)) {ad : Addr} {m c : Nat}
    (hs : a.eval s = v) (hown : OwnP W base v ps) (hx : a.eval x = .slice (some ad) m c) (hm : qs.length = m) (hnews : CellsAt W ad qs)
    (hl : ps.length + m ≤ 1000000) (hbase : base ≤ W.heap.size)
    (h : ∀ v' w', OwnP w' base v' (ps ++ qs) → W.grownBy w' v.ownBlock → (v'.ownBlock = v.ownBlock ∨ v'.ownBlock = some W.heap.size) → OwnP w' base v ps → K (a.put o.dst v') w') :
    if Region.wanted o (yielded ops a.tmps) = true then Oper.wp Tryd.prog o a W K Q else E := by
  obtain ⟨i0, hi, hz0, hz1, hz2⟩ := info_parts Tryd.info29
  subst hm
  refine step_append_keep W hgd s x 22 ho base 29 i0 _ 2 16 Tryd.underlying22 hi hz0 hz1 hz2 rfl (by decide) v ps.length (flat ps) hs hown ad qs.length c (flat qs) hx (flat_length qs) hnews (flat_one qs) (by unfold maxLen; omega) (by omega) hbase ?_
  intro v' w' hown' hg hat hold
  refine h v' w' ?_ hg hat hold
  unfold OwnP
  rw [flat_append, List.length_append]
  exact hown'

/-- 'append(l, qs...)' to the second of two slices of pairs, where the pairs were laid in a new block for it -/
theorem app_two {w W : World} {ops : Array Oper} {rest : List Oper} {o : Oper} {a : Act} {Q : Exit → Act → World → Prop} (qs : List (Int × Int)) (hgd : o.guard = none) (s x : Operand)
    (ho : o.op = .call { callee := .builtin .append, args := #[s, x], argTypes := #[22, 22] }) {B : Nat} {v1 v2 : Value} {p1 p2 : List (Int × Int)} {m c : Nat}
    (hs : a.eval s = v2) (hT : Two w B v1 p1 v2 p2 W) (ap : Apart v1 v2) (hx : a.eval x = .slice (some ⟨W.heap.size, 0, none⟩) m c) (hm : qs.length = m)
    (hl : p2.length + m ≤ 1000000)
    (h : ∀ v' w', Two w B v1 p1 v' (p2 ++ qs) w' → Apart v1 v' → wpList Tryd.prog ops Q rest (a.put o.dst v') w') : wpList Tryd.prog ops Q (o :: rest) a (W.alloc (.cells (flat qs).toArray 29)) := by
  obtain ⟨i0, hi, hz0, hz1, hz2⟩ := info_parts Tryd.info29
  subst hm
  have hT' := hT.alloc (.cells (flat qs).toArray 29)
  refine wpList_append_own_at _ hgd s x 22 ho B 29 i0 _ 2 16 Tryd.underlying22 hi hz0 hz1 hz2 rfl (by decide) v2 p2.length (flat p2) hs hT'.b ⟨W.heap.size, 0, none⟩ qs.length c (flat qs) hx (flat_length qs) (new_cells W qs 29) (flat_one qs) (by unfold maxLen; omega) (by omega) hT'.base ?_
  intro v' w' hown' hg _ hat
  have hn : OwnP w' B v' (p2 ++ qs) := by unfold OwnP; rw [flat_append, List.length_append]; exact hown'
  exact h v' w' ⟨World.ownsRow.kept hT'.a hg ap.ne, hn, hT'.below.grown hg hT'.base fun k hk => (hT'.b.lt k hk).1, Nat.le_trans hT'.base hg.size⟩ (Apart.new hT'.symm ap.symm hat).symm

end Go.Proofs.YtjancemacdffbaaDoor
