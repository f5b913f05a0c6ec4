/- Appends to slices of pairs that the call owns, as laws for the walk. -/
import Derived.Test.YtjancemacdffbaaDoorLw8
import Derived.Laws.AppendOwnNone
namespace Go.Proofs.YtjancemacdffbaaDoor
open Go.RowKit

theorem flat_one (ps : List (Int × Int)) : ∀ u ∈ flat ps, u.oneCell' = true := fun u hu => by
  simp only [flat, List.mem_flatMap] at hu
  obtain ⟨p, _, hu⟩ := hu
  simp at hu
  rcases hu with rfl | rfl <;> rfl

/-- 'append(l, qs...)': the pairs qs lie from the address on. -/
theorem app_pairs {w : World} {ops : Array Oper} {rest : List Oper} {o : Oper} {a : Act} {Q : Exit → Act → World → Prop} (hgd : o.guard = none) (s x : Operand)
    (ho : o.op = .call { callee := .builtin .append, args := #[s, x], argTypes := #[22, 22] }) {base : Nat} {v : Value} {ps qs : List (Int × Int)} {ad : Addr} {m c : Nat}
    (hs : a.eval s = v) (hown : OwnP w base v ps) (hx : a.eval x = .slice (some ad) m c) (hm : qs.length = m) (hnews : ∀ j u, (flat qs)[j]? = some u → w.cell? (ad.add j) = some u)
    (hl : ps.length + m ≤ 1000000) (hbase : base ≤ w.heap.size)
    (h : ∀ v' w', OwnP w' base v' (ps ++ qs) → Below base w w' → wpList Tryd.prog ops Q rest (a.put o.dst v') w') : wpList Tryd.prog ops Q (o :: rest) a w := by
  obtain ⟨i0, hi, hz0, hz1, hz2⟩ := info_parts Tryd.info29
  subst hm
  refine wpList_append_own w hgd s x 22 ho base 29 i0 _ 2 16 Tryd.underlying22 hi hz0 hz1 hz2 rfl (by decide) v ps.length (flat ps) hs hown ad qs.length c (flat qs) hx (flat_length qs) hnews (flat_one qs) (by unfold maxLen; omega) (by omega) hbase ?_
  intro v' w' hown' hg _
  refine h v' w' ?_ ((Below.refl _ _).grown hg hbase fun k hk => (hown.lt k hk).1)
  unfold OwnP
  rw [flat_append, List.length_append]
  exact hown'

theorem add_at (g o j : Nat) : (⟨g, o, none⟩ : Addr).add j = ⟨g, o + j, none⟩ := by
  unfold Addr.add
  split
  · simp_all
  · rfl
/-- the cells of a new block of pairs -/
theorem new_cells (w : World) (qs : List (Int × Int)) (t : TypeId) : ∀ j u, (flat qs)[j]? = some u → (w.alloc (.cells (flat qs).toArray t)).cell? ((⟨w.heap.size, 0, none⟩ : Addr).add j) = some u := fun j u hj => by
  rw [add_at, Nat.zero_add, World.cell?_alloc_new]
  simpa using hj

theorem flat_take_get (ps : List (Int × Int)) (k j : Nat) (u : Value) (h : (flat (ps.take k))[j]? = some u) : (flat ps)[j]? = some u := by
  have e : flat ps = flat (ps.take k) ++ flat (ps.drop k) := by rw [← flat_append, List.take_append_drop]
  rw [e, List.getElem?_append_left (List.getElem?_eq_some_iff.1 h).1]
  exact h

/-- 'append(l, qs...)' where the pairs were laid in a new block for it -/
theorem app_new {w : World} {ops : Array Oper} {rest : List Oper} {o : Oper} {a : Act} {Q : Exit → Act → World → Prop} (qs : List (Int × Int)) (hgd : o.guard = none) (s x : Operand)
    (ho : o.op = .call { callee := .builtin .append, args := #[s, x], argTypes := #[22, 22] }) {base : Nat} {v : Value} {ps : List (Int × Int)} {m c : Nat}
    (hs : a.eval s = v) (hown : OwnP w base v ps) (hx : a.eval x = .slice (some ⟨w.heap.size, 0, none⟩) m c) (hm : qs.length = m)
    (hl : ps.length + m ≤ 1000000) (hbase : base ≤ w.heap.size)
    (h : ∀ v' w', OwnP w' base v' (ps ++ qs) → Below base w w' → wpList Tryd.prog ops Q rest (a.put o.dst v') w') : wpList Tryd.prog ops Q (o :: rest) a (w.alloc (.cells (flat qs).toArray 29)) :=
  app_pairs hgd s x ho hs (hown.alloc _) hx hm (new_cells w qs 29) hl (by simp; omega) fun v' w' h1 h2 => h v' w' h1 (((Below.refl _ _).alloc hbase _).trans h2)

end Go.Proofs.YtjancemacdffbaaDoor
