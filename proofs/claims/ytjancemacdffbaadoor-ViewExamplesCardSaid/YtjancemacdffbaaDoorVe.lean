/- Walks of package view (part 4): a map of inputs. -/
import Derived.Test.YtjancemacdffbaaDoorVd
import Derived.Maps.OwnOps
import Derived.Maps.RangeWalk
import Derived.Maps.OwnSet
import Derived.Maps.Views
namespace Go.Proofs.YtjancemacdffbaaDoor
open Go.RowKit

def updI (f : Int → Int) (x c : Int) : Int → Int := fun y => if y = x then c else f y
/-- a map[int]uint64 in block b: what its keys hold, 0 where they are not there -/
def MapF (w : World) (b n : Nat) (f : Int → Int) : Prop :=
  ∃ D : DataW Unit, w.ownsMap Tryd.prog 3 (plainElem Tryd.prog 72) b n D ∧ ∀ x, (Lit.int .i64 x).wf = true → D.atKey (.int .i64 x) (.lit (.int .u64 0)) = .lit (.int .u64 (f x))
/-- a loop over such a map: what has come so far was 0 -/
def RangeF (w : World) (b r n : Nat) (f : Int → Int) (cnt : Nat) : Prop :=
  ∃ (D : DataW Unit) (left : Lit → Bool), w.ranges Tryd.prog 3 (plainElem Tryd.prog 72) b r n D left cnt ∧ (∀ x, (Lit.int .i64 x).wf = true → D.atKey (.int .i64 x) (.lit (.int .u64 0)) = .lit (.int .u64 (f x))) ∧ ∀ x, (Lit.int .i64 x).wf = true → f x ≠ 0 → left (.int .i64 x) = true

theorem keyed3 : Maps.Keyed Tryd.prog 3 := Maps.int_keyed Tryd.underlying3
theorem key3 {x : Int} (h : (Lit.int .i64 x).wf = true) : keyOf Tryd.prog 3 (.int .i64 x) = some (.int .i64 x) := by
  simp [keyOf, Tryd.underlying3, mapKey, h]
theorem zero72 (w : World) : (zeroValue 72).run Tryd.prog w = .ok (.int .u64 0) w := by kernel_rfl
theorem wf64 {x : Int} (h0 : 0 ≤ x) (h1 : x ≤ 9223372036854775807) : (Lit.int .i64 x).wf = true := by
  simp [Lit.wf, IntKind.min, IntKind.max, IntKind.signed, IntKind.bits]; omega
theorem lit_ne {x y : Int} (h : y ≠ x) : (Lit.int .i64 y) ≠ .int .i64 x := fun e => h (by injection e)

theorem MapF.made (w : World) : MapF (w.alloc (.map #[] 0)) w.heap.size 0 (fun _ => 0) :=
  ⟨.map [], World.ownsMap_made _ _ _ _, fun _ _ => rfl⟩
theorem MapF.lt {w : World} {b n : Nat} {f : Int → Int} (h : MapF w b n f) : b < w.heap.size := let ⟨_, h, _⟩ := h; h.lt
theorem MapF.congr {w : World} {b n : Nat} {f g : Int → Int} (h : MapF w b n f) (e : ∀ x, (Lit.int .i64 x).wf = true → f x = g x) : MapF w b n g := by
  obtain ⟨D, h1, h2⟩ := h
  exact ⟨D, h1, fun x hx => by rw [h2 x hx, e x hx]⟩
theorem MapF.mono {w : World} {b n n' : Nat} {f : Int → Int} (h : MapF w b n f) (hn : n ≤ n') : MapF w b n' f := by
  obtain ⟨D, h1, h2⟩ := h
  exact ⟨D, h1.mono hn, h2⟩
theorem grownBy_turned {w w' : World} {b : Nat} (h : w.mapTurned w' b) : w.grownBy w' (some b) := h.grown

section
variable {w : World} {ops : Array Oper} {rest : List Oper} {o : Oper} {a : Act} {Q : Exit → Act → World → Prop} {b n : Nat} {f : Int → Int}
theorem mapF_update (hg : o.guard = none) (m x v : Operand) (hop : o.op = Op.mapUpdate 94 m x v) (hm : a.eval m = .map (some b)) (h : MapF w b n f) (hn : n ≤ 1000000) {i c : Int}
    (hx : a.eval x = .int .i64 i) (hv : a.eval v = .int .u64 c) (hi : (Lit.int .i64 i).wf = true) (hc : (Lit.int .u64 c).wf = true)
    (hK : ∀ w', MapF w' b (n + 1) (updI f i c) → w.grownBy w' (some b) → wpList Tryd.prog ops Q rest (a.put o.dst undef) w') : wpList Tryd.prog ops Q (o :: rest) a w := by
  obtain ⟨D, h1, h2⟩ := h
  refine wpList_mapUpdate_own (H := Unit) w hg m x v 94 hop 3 72 keyed3 Tryd.underlying94 _ b n D hm h1 (by unfold maxLen; omega) _ _ _ hx hv (key3 hi) _ [] (plainElem_int Tryd.underlying72 hc) ?_
  intro w' h1' hg'
  refine hK w' ⟨_, h1', fun y hy => ?_⟩ hg'
  unfold updI
  by_cases e : y = i
  · subst e
    rw [if_pos rfl, Maps.atKey_put_same _ (by trivial)]
    obtain ⟨es, he, _⟩ := h1.entries keyed3
    exact ⟨es, he⟩
  · rw [if_neg e, Maps.atKey_put_other (lit_ne e), h2 y hy]
theorem mapF_lookup (hg : o.guard = none) (m x : Operand) (hop : o.op = Op.lookup 94 m x false) (hm : a.eval m = .map (some b)) (h : MapF w b n f) {i : Int}
    (hx : a.eval x = .int .i64 i) (hi : (Lit.int .i64 i).wf = true)
    (hK : wpList Tryd.prog ops Q rest (a.put o.dst (.int .u64 (f i))) w) : wpList Tryd.prog ops Q (o :: rest) a w := by
  obtain ⟨D, h1, h2⟩ := h
  refine wpList_lookup_own_int (H := Unit) w hg m x 94 hop 3 72 .u64 keyed3 Tryd.underlying94 Tryd.underlying72 (zero72 w) b n D hm h1 _ _ hx (key3 hi) ?_
  intro c hc _
  rw [h2 i hi] at hc
  injection hc with hc; injection hc with _ hc
  rw [← hc]; exact hK
theorem mapF_delete (hg : o.guard = none) (m x : Operand) (hop : o.op = Op.call { callee := Callee.builtin Builtin.delete, args := #[m, x], argTypes := #[94, 3] }) (hm : a.eval m = .map (some b)) (h : MapF w b n f) {i : Int}
    (hx : a.eval x = .int .i64 i) (hi : (Lit.int .i64 i).wf = true)
    (hK : ∀ w', MapF w' b n (updI f i 0) → w.grownBy w' (some b) → wpList Tryd.prog ops Q rest (a.put o.dst (.tuple #[])) w') : wpList Tryd.prog ops Q (o :: rest) a w := by
  obtain ⟨D, h1, h2⟩ := h
  refine wpList_delete_own (H := Unit) w hg m x 94 3 hop 72 keyed3 Tryd.underlying94 _ b n D hm h1 _ _ hx (key3 hi) ?_
  intro w' h1' hg'
  refine hK w' ⟨_, h1', fun y hy => ?_⟩ (grownBy_turned hg')
  unfold updI
  by_cases e : y = i
  · subst e; rw [if_pos rfl, Maps.atKey_del_same]
  · rw [if_neg e, Maps.atKey_del_other (lit_ne e), h2 y hy]
theorem mapF_range (hg : o.guard = none) (m : Operand) (hop : o.op = Op.range 94 m) (hm : a.eval m = .map (some b)) (h : MapF w b n f)
    (hK : ∀ w' cnt, RangeF w' b w.heap.size n f cnt → w.grownBy w' none → wpList Tryd.prog ops Q rest (a.put o.dst (.pointer (some ⟨w.heap.size, 0, none⟩))) w') : wpList Tryd.prog ops Q (o :: rest) a w := by
  obtain ⟨D, h1, h2⟩ := h
  refine wpList_range_own (H := Unit) w hg m 94 hop 3 72 keyed3 Tryd.underlying94 _ b n D hm h1 ?_
  intro w' hr hg' _
  refine hK w' _ ⟨D, _, hr, h2, fun x hx hne => ?_⟩ hg'
  cases e : Maps.has D (.int .i64 x) with
  | true => rfl
  | false =>
    have := h2 x hx
    rw [Maps.atKey_of_not_has e] at this
    injection this with this; injection this with _ this
    exact absurd this.symm hne
theorem mapF_next {r cnt : Nat} (hg : o.guard = none) (it : Operand) (hop : o.op = Op.next it false) (hit : a.eval it = .pointer (some ⟨r, 0, none⟩)) (h : RangeF w b r n f cnt)
    (hDone : (∀ x, (Lit.int .i64 x).wf = true → f x = 0) → wpList Tryd.prog ops Q rest (a.put o.dst (.tuple #[.bool false])) w)
    (hMore : ∀ (x : Int) (w' : World) (cnt' : Nat), (Lit.int .i64 x).wf = true → (f x = 0 → RangeF w' b r n f cnt') → cnt' < cnt → w.grownBy w' (some r) →
      (Instr.entry (.pointer (some ⟨r, 0, none⟩))).run Tryd.prog w' = .ok (.tuple #[.int .i64 x, .int .u64 (f x)]) w' → wpList Tryd.prog ops Q rest (a.put o.dst (.tuple #[.bool true, .int .i64 x, .int .u64 (f x)])) w') :
    wpList Tryd.prog ops Q (o :: rest) a w := by
  obtain ⟨D, left, h1, h2, h3⟩ := h
  refine wpList_next_ranges_ii (H := Unit) w hg it hop 3 72 .i64 .u64 keyed3 Tryd.underlying3 Tryd.underlying72 b r n D left cnt hit h1 ?_ ?_
  · intro _ hl
    refine hDone fun x hx => ?_
    rcases Decidable.em (f x = 0) with h | h
    · exact h
    · have := h3 x hx h
      rw [hl] at this; cases this
  · intro x c w' cnt' hx hc _ hat hr hlt hg' _ hen
    have e := h2 x hx
    rw [hat] at e
    injection e with e; injection e with _ e
    subst e
    refine hMore x w' cnt' hx (fun h0 => ⟨D, _, hr, h2, fun y hy hne => ?_⟩) hlt hg' hen
    have hyx : y ≠ x := fun e => hne (by rw [e]; exact h0)
    simp only [h3 y hy hne, Maps.sameKey_ne (lit_ne hyx), Bool.not_false, Bool.and_self]
end
theorem RangeF.left_eq {w : World} {b r n cnt : Nat} {f : Int → Int} (h : RangeF w b r n f cnt) : w.rangeLeft b r = cnt := let ⟨_, _, h, _⟩ := h; h.left_eq

end Go.Proofs.YtjancemacdffbaaDoor
