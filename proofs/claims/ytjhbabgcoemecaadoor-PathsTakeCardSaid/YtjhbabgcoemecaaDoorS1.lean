/- Lists in memory, whatever their elements are laid as; slices that the call owns; appends. (and what follows on it). -/
import Derived.Test.YtjhbabgcoemecaaDoorProg
import Derived.Test.YtjhbabgcoemecaaDoorK3
import Derived.Test.YtjhbabgcoemecaaDoorF2
import Derived.WalkKit
import Derived.Below
import Derived.Lib.Hide
import Derived.BigQuiet
import Derived.Deep.QuietTactic
import Derived.KernelRfl
import Derived.Maps.AppendAt
import Derived.Laws.AppendOwn
import Derived.Laws.AppendOwnNone
namespace Go.Proofs.YtjhbabgcoemecaaDoor
open Go.RowKit

theorem add_at (g o j : Nat) : (⟨g, o, none⟩ : Addr).add j = ⟨g, o + j, none⟩ := by
  unfold Addr.add
  split
  · simp_all
  · rfl
/-- how an element lies in memory -/
structure Lay (α : Type) where
  sz : Nat
  f : α → List Value
  len : ∀ x, (f x).length = sz
  one : ∀ x, ∀ u ∈ f x, u.oneCell' = true
  pos : 0 < sz

def Lay.int (k : IntKind) : Lay Int := ⟨1, fun n => [.int k n], fun _ => rfl, fun x u hu => by simp at hu; subst hu; rfl, by decide⟩
def Lay.ev : Lay (Int × Int) := ⟨2, fun p => [.int .i64 p.1, .int .u64 p.2], fun _ => rfl, fun x u hu => by simp at hu; rcases hu with rfl | rfl <;> rfl, by decide⟩
def Lay.sl : Lay (Option Addr × Nat × Nat) := ⟨1, fun p => [.slice p.1 p.2.1 p.2.2], fun _ => rfl, fun x u hu => by simp at hu; subst hu; rfl, by decide⟩

section
variable {α : Type} (L : Lay α)
def Lay.flat (xs : List α) : List Value := xs.flatMap L.f
theorem Lay.flat_append (a b : List α) : L.flat (a ++ b) = L.flat a ++ L.flat b := by simp [Lay.flat]
theorem Lay.flat_length (xs : List α) : (L.flat xs).length = xs.length * L.sz := by
  induction xs with
  | nil => simp [Lay.flat]
  | cons p ps ih => simp only [Lay.flat, List.flatMap_cons, List.length_append, List.length_cons, L.len] at ih ⊢; rw [ih, Nat.add_mul]; omega
theorem Lay.flat_one (xs : List α) : ∀ u ∈ L.flat xs, u.oneCell' = true := fun u hu => by
  simp only [Lay.flat, List.mem_flatMap] at hu
  obtain ⟨p, _, hu⟩ := hu
  exact L.one p u hu
theorem Lay.flat_at (d : α) : ∀ (xs : List α) (i j : Nat), i < xs.length → j < L.sz → (L.flat xs)[i * L.sz + j]? = (L.f (xs.getD i d))[j]?
  | [], i, j, h, _ => by simp at h
  | p :: ps, 0, j, _, hj => by
    simp only [Lay.flat, List.flatMap_cons, Nat.zero_mul, Nat.zero_add, List.getD_cons_zero]
    rw [List.getElem?_append_left (by rw [L.len]; exact hj)]
  | p :: ps, i + 1, j, h, hj => by
    have := Lay.flat_at d ps i j (by simpa using h) hj
    simp only [Lay.flat, List.flatMap_cons, List.getD_cons_succ] at this ⊢
    rw [List.getElem?_append_right (by rw [L.len, Nat.add_mul]; omega), L.len, ← this]
    congr 1
    rw [Nat.add_mul]; omega

/-- a list lies in memory, at the address of a slice -/
def Lay.At (d : α) (w : World) (a : Option Addr) (xs : List α) : Prop :=
  ∀ i, i < xs.length → ∃ b o, a = some ⟨b, o, none⟩ ∧ b < w.heap.size ∧ ∀ j, j < L.sz → w.cell? ⟨b, o + i * L.sz + j, none⟩ = (L.f (xs.getD i d))[j]?

variable {L} {d : α} {w w' : World} {a : Option Addr} {xs : List α}
theorem Lay.At.nil : L.At d w a [] := fun i hi => by simp at hi
theorem Lay.At.below (h : L.At d w a xs) (hb : Below w.heap.size w w') : L.At d w' a xs := fun i hi => by
  obtain ⟨b, o, e, h0, h1⟩ := h i hi
  exact ⟨b, o, e, Nat.lt_of_lt_of_le h0 hb.size, fun j hj => (hb.cell (p := ⟨b, _, none⟩) h0).trans (h1 j hj)⟩
theorem Lay.At.take (h : L.At d w a xs) (k : Nat) : L.At d w a (xs.take k) := fun i hi => by
  rw [List.length_take] at hi
  obtain ⟨b, o, e, h0, h1⟩ := h i (by omega)
  refine ⟨b, o, e, h0, fun j hj => ?_⟩
  rw [h1 j hj, List.getD_eq_getElem?_getD, List.getD_eq_getElem?_getD, List.getElem?_take_of_lt (by omega)]
/-- the list from k on -/
theorem Lay.At.drop {b o : Nat} (h : L.At d w (some ⟨b, o, none⟩) xs) (k : Nat) : L.At d w (some ⟨b, o + k * L.sz, none⟩) (xs.drop k) := fun i hi => by
  rw [List.length_drop] at hi
  obtain ⟨b', o', e, h0, h1⟩ := h (k + i) (by omega)
  injection e with e; injection e with e1 e2; subst e1 e2
  refine ⟨b, _, rfl, h0, fun j hj => ?_⟩
  have e3 : o + k * L.sz + i * L.sz + j = o + (k + i) * L.sz + j := by rw [Nat.add_mul]; omega
  rw [e3, h1 j hj, List.getD_eq_getElem?_getD, List.getD_eq_getElem?_getD, List.getElem?_drop]

/-- a new block that holds a list -/
theorem Lay.At.made (w : World) (xs : List α) (t : TypeId) : L.At d (w.alloc (.cells (L.flat xs).toArray t)) (some ⟨w.heap.size, 0, none⟩) xs := fun i hi =>
  ⟨_, _, rfl, by simp, fun j hj => by rw [World.cell?_alloc_new, ← L.flat_at d xs i j hi hj]; simp⟩

/-- a slice that the call owns -/
def Lay.Own (L : Lay α) (e : TypeId) (w : World) (base : Nat) (v : Value) (xs : List α) : Prop := w.ownsRow base e L.sz v xs.length (L.flat xs)
theorem Lay.Own.nil {e : TypeId} (w : World) (base : Nat) : L.Own e w base (.slice none 0 0) [] := World.ownsRow_nil w base e L.sz
theorem Lay.Own.at_ {e base : Nat} {v : Value} (h : L.Own e w base v xs) : ∃ a cap, v = .slice a xs.length cap ∧ L.At d w a xs ∧ xs.length ≤ cap ∧ cap ≤ maxLen := by
  obtain ⟨hl, h | ⟨g, cap, cur, rfl, hg, hh, hn, hm, hs, ht⟩⟩ := h
  · refine ⟨none, 0, by rw [h.1, h.2], ?_, by omega, by decide⟩
    have : xs = [] := List.eq_nil_of_length_eq_zero h.2
    subst this
    exact Lay.At.nil
  · refine ⟨_, cap, rfl, ?_, hn, hm⟩
    intro i hi
    have hlt : g < w.heap.size := (Array.getElem?_eq_some_iff.1 hh).1
    have hc : ∀ j, j < xs.length * L.sz → w.cell? ⟨g, 0 + j, none⟩ = (L.flat xs)[j]? := fun j hj => by
      have : w.cell? ⟨g, 0 + j, none⟩ = cur[j]? := by simp [World.cell?, hh]
      rw [this, ← ht, List.getElem?_take_of_lt hj]; simp
    refine ⟨g, 0, rfl, hlt, fun j hj => ?_⟩
    have hlt2 : i * L.sz + j < xs.length * L.sz := by
      have : (i + 1) * L.sz ≤ xs.length * L.sz := Nat.mul_le_mul_right _ hi
      rw [Nat.add_mul] at this; omega
    rw [Nat.add_assoc, hc _ hlt2, L.flat_at d xs i j hi hj]
theorem Lay.Own.grown {e base : Nat} {v : Value} (h : L.Own e w base v xs) (hb : Below w.heap.size w w') : L.Own e w' base v xs := by
  refine World.ownsRow.kept (row := none) h ⟨hb.os, hb.tape, hb.output, hb.size, fun k hk _ => hb.block k hk⟩ ?_
  cases hv : v.ownBlock <;> simp
theorem Lay.Own.alloc {e base : Nat} {v : Value} (h : L.Own e w base v xs) (o : Obj) : L.Own e (w.alloc o) base v xs := World.ownsRow.alloc h o

/-- a slice literal: a new block, full -/
theorem Lay.Own.made {e base : Nat} (w : World) (xs : List α) (hb : base ≤ w.heap.size) (hl : xs.length ≤ 1000000) : L.Own e (w.alloc (.cells (L.flat xs).toArray e)) base (.slice (some ⟨w.heap.size, 0, none⟩) xs.length xs.length) xs :=
  ⟨L.flat_length xs, .inr ⟨w.heap.size, xs.length, _, rfl, hb, heap_alloc_new w _, Nat.le_refl _, by unfold maxLen; omega, by simp [L.flat_length], by rw [← L.flat_length xs]; simp⟩⟩

/-- the facts of a slice's type -/
structure ElemT (P : Program) (L : Lay α) (t e : TypeId) (z : Value) (bytes : Nat) : Prop where
  und : P.underlying t = some (.slice e)
  info : (P.info? e).map (fun i => (i.zero, i.size, i.bytes)) = some (some z, L.sz, bytes)
  zs : z.cells.size = L.sz
  by_ : bytes ≤ 100

variable {P : Program} {t e : TypeId} {z : Value} {bytes : Nat}
theorem app_lay (T : ElemT P L t e z bytes) {ops : Array Oper} {rest : List Oper} {o : Oper} {a : Act} {Q : Exit → Act → World → Prop} (hgd : o.guard = none) (s x : Operand)
    (ho : o.op = .call { callee := .builtin .append, args := #[s, x], argTypes := #[t, t] }) {base : Nat} {v : Value} {ps qs : List α} {ad : Addr} {m c : Nat}
    (hs : a.eval s = v) (hown : L.Own e w base v ps) (hx : a.eval x = .slice (some ad) m c) (hm : qs.length = m) (hnews : ∀ j u, (L.flat qs)[j]? = some u → w.cell? (ad.add j) = some u)
    (hl : ps.length + m ≤ 1000000) (hbase : base ≤ w.heap.size)
    (h : ∀ v' w', L.Own e w' base v' (ps ++ qs) → Below base w w' → wpList P ops Q rest (a.put o.dst v') w') : wpList P ops Q (o :: rest) a w := by
  obtain ⟨i0, hi, hz0, hz1, hz2⟩ := info_parts T.info
  subst hm
  have hb := T.by_
  have hbs : (ps.length + qs.length) * bytes ≤ 140737488355328 := by
    have := Nat.mul_le_mul hl hb
    omega
  refine wpList_append_own w hgd s x t ho base e i0 _ L.sz bytes T.und hi hz0 hz1 hz2 T.zs L.pos v ps.length (L.flat ps) hs hown ad qs.length c (L.flat qs) hx (L.flat_length qs) hnews (L.flat_one qs) (by unfold maxLen; omega) hbs hbase ?_
  intro v' w' hown' hg _
  refine h v' w' ?_ ((Below.refl _ _).grown hg hbase fun k hk => (hown.lt k hk).1)
  unfold Lay.Own
  rw [L.flat_append, List.length_append]
  exact hown'
theorem lay_new_cells (w : World) (qs : List α) (t : TypeId) : ∀ j u, (L.flat qs)[j]? = some u → (w.alloc (.cells (L.flat qs).toArray t)).cell? ((⟨w.heap.size, 0, none⟩ : Addr).add j) = some u := fun j u hj => by
  rw [add_at, Nat.zero_add, World.cell?_alloc_new]
  simpa using hj
/-- 'append(l, qs...)' where the elements were laid in a new block for it -/
theorem app_lay_new (T : ElemT P L t e z bytes) {ops : Array Oper} {rest : List Oper} {o : Oper} {a : Act} {Q : Exit → Act → World → Prop} (qs : List α) (hgd : o.guard = none) (s x : Operand)
    (ho : o.op = .call { callee := .builtin .append, args := #[s, x], argTypes := #[t, t] }) {base : Nat} {v : Value} {ps : List α} {m c : Nat}
    (hs : a.eval s = v) (hown : L.Own e w base v ps) (hx : a.eval x = .slice (some ⟨w.heap.size, 0, none⟩) m c) (hm : qs.length = m)
    (hl : ps.length + m ≤ 1000000) (hbase : base ≤ w.heap.size)
    (h : ∀ v' w', L.Own e w' base v' (ps ++ qs) → Below base w w' → wpList P ops Q rest (a.put o.dst v') w') : wpList P ops Q (o :: rest) a (w.alloc (.cells (L.flat qs).toArray e)) :=
  app_lay T hgd s x ho hs (hown.alloc _) hx hm (lay_new_cells w qs e) hl (by simp; omega) fun v' w' h1 h2 => h v' w' h1 (((Below.refl _ _).alloc hbase _).trans h2)
theorem app_lay_new_g (T : ElemT P L t e z bytes) {ops : Array Oper} {rest : List Oper} {o : Oper} {a : Act} {Q : Exit → Act → World → Prop} (qs : List α) (hgd : o.guard = none) (s x : Operand)
    (ho : o.op = .call { callee := .builtin .append, args := #[s, x], argTypes := #[t, t] }) {base g : Nat} {v : Value} {ps : List α} {m c : Nat}
    (hs : a.eval s = v) (hown : L.Own e w base v ps) (hx : a.eval x = .slice (some ⟨g, 0, none⟩) m c) (hg : g = w.heap.size) (hm : qs.length = m)
    (hl : ps.length + m ≤ 1000000) (hbase : base ≤ w.heap.size)
    (h : ∀ v' w', L.Own e w' base v' (ps ++ qs) → Below base w w' → wpList P ops Q rest (a.put o.dst v') w') : wpList P ops Q (o :: rest) a (w.alloc (.cells (L.flat qs).toArray e)) :=
  app_lay_new T qs hgd s x ho hs hown (by rw [hx, hg]) hm hl hbase h
/-- 'append(l, xs...)' of a slice that is there, nil or not -/
theorem app_lay_at (T : ElemT P L t e z bytes) {ops : Array Oper} {rest : List Oper} {o : Oper} {a : Act} {Q : Exit → Act → World → Prop} (hgd : o.guard = none) (s x : Operand)
    (ho : o.op = .call { callee := .builtin .append, args := #[s, x], argTypes := #[t, t] }) {base : Nat} {v : Value} {ps qs : List α} {A : Option Addr} {m c : Nat}
    (hs : a.eval s = v) (hown : L.Own e w base v ps) (hx : a.eval x = .slice A m c) (hA : A = none → c = 0) (hm : qs.length = m) (hat : L.At d w A qs)
    (hl : ps.length + m ≤ 1000000) (hbase : base ≤ w.heap.size)
    (h : ∀ v' w', L.Own e w' base v' (ps ++ qs) → Below base w w' → wpList P ops Q rest (a.put o.dst v') w') : wpList P ops Q (o :: rest) a w := by
  cases A with
  | none =>
    have hq : qs = [] := by
      cases qs with
      | nil => rfl
      | cons q qs => obtain ⟨b, o, e, _⟩ := hat 0 (by simp); cases e
    subst hq
    obtain rfl := hA rfl
    simp at hm
    subst hm
    obtain ⟨i0, hi, hz0, hz1, hz2⟩ := info_parts T.info
    refine wpList_append_own_none hgd s x t ho base e i0 L.sz T.und hi v ps.length (L.flat ps) hs hown hx (h v w ?_ (Below.refl _ _))
    rw [List.append_nil]
    exact hown
  | some ad =>
    refine app_lay T hgd s x ho hs hown hx hm (fun j u hj => ?_) hl hbase h
    have hj' := (List.getElem?_eq_some_iff.1 hj).1
    rw [L.flat_length] at hj'
    have hp := L.pos
    have hi : j / L.sz < qs.length := Nat.div_lt_of_lt_mul (by rw [Nat.mul_comm]; exact hj')
    obtain ⟨b, o, e, _, h1⟩ := hat (j / L.sz) hi
    injection e with e; subst e
    have hm := Nat.mod_lt j hp
    have e2 : j / L.sz * L.sz + j % L.sz = j := by rw [Nat.mul_comm]; exact Nat.div_add_mod j L.sz
    have := h1 (j % L.sz) hm
    rw [Nat.add_assoc, e2, ← L.flat_at d qs _ _ hi hm, e2] at this
    rw [add_at, this, hj]
end

/-- lists of integers -/
theorem Lay.At.int {k : IntKind} {w : World} {a : Option Addr} {xs : List Int} (h : (Lay.int k).At 0 w a xs) {i : Nat} (hi : i < xs.length) :
    ∃ b o, a = some ⟨b, o, none⟩ ∧ b < w.heap.size ∧ w.cell? ⟨b, o + i, none⟩ = some (.int k (xs.getD i 0)) := by
  obtain ⟨b, o, e, h0, h1⟩ := h i hi
  have := h1 0 (Lay.int k).pos
  simp only [Lay.int, Nat.mul_one, Nat.add_zero] at this
  exact ⟨b, o, e, h0, by simpa using this⟩
theorem Lay.At.ev {w : World} {a : Option Addr} {xs : List (Int × Int)} (h : Lay.ev.At (0, 0) w a xs) {i : Nat} (hi : i < xs.length) :
    ∃ b o, a = some ⟨b, o, none⟩ ∧ b < w.heap.size ∧ w.cell? ⟨b, o + i * 2, none⟩ = some (.int .i64 (xs.getD i (0, 0)).1) ∧ w.cell? ⟨b, o + i * 2 + 1, none⟩ = some (.int .u64 (xs.getD i (0, 0)).2) := by
  obtain ⟨b, o, e, h0, h1⟩ := h i hi
  have e0 := h1 0 (by decide)
  have e1 := h1 1 (by decide)
  simp only [Lay.ev, Nat.add_zero] at e0 e1
  exact ⟨b, o, e, h0, by simpa using e0, by simpa using e1⟩
theorem Lay.At.sl {w : World} {a : Option Addr} {xs : List (Option Addr × Nat × Nat)} (h : Lay.sl.At (none, 0, 0) w a xs) {i : Nat} (hi : i < xs.length) :
    ∃ b o, a = some ⟨b, o, none⟩ ∧ b < w.heap.size ∧ w.cell? ⟨b, o + i, none⟩ = some (.slice (xs.getD i (none, 0, 0)).1 (xs.getD i (none, 0, 0)).2.1 (xs.getD i (none, 0, 0)).2.2) := by
  obtain ⟨b, o, e, h0, h1⟩ := h i hi
  have := h1 0 (by decide)
  simp only [Lay.sl, Nat.mul_one, Nat.add_zero] at this
  exact ⟨b, o, e, h0, by simpa using this⟩

theorem Tryd.elemI : ElemT Tryd.prog (Lay.int .i64) 28 3 (.int .i64 0) 8 := ⟨Tryd.underlying28, by kernel_rfl, rfl, by decide⟩
theorem Tryd.elemU : ElemT Tryd.prog (Lay.int .u64) 48 33 (.int .u64 0) 8 := ⟨Tryd.underlying48, by kernel_rfl, rfl, by decide⟩
end Go.Proofs.YtjhbabgcoemecaaDoor
namespace Go.Proofs.YtjhbabgcoemecaaDoor
namespace Cr
open Go Go.RowKit
open Go.ChangeMaps (setBlock)

theorem varNums_cons {e : Value × Value} {es : List (Value × Value)} {r : List Value} (h : varNums (e :: es) = some r) :
    ∃ (op num : Nat) (a : Option Addr × Nat × Nat) (rs : List Value), e.2 = .agg ⟨[.int .u8 (.ofNat op), .int .u64 (.ofNat num), .slice a.1 a.2.1 a.2.2]⟩ ∧ varNums es = some rs ∧ ((op = 1 ∧ num ≤ 9223372036854775807 ∧ r = .int .i64 (.ofNat num) :: rs) ∨ (op ≠ 1 ∧ r = rs)) := by
  unfold varNums at h
  split at h
  · rename_i op num a1 a2 a3 he
    split at h
    · cases h
    · rename_i rs hrs
      refine ⟨op, num, (a1, a2, a3), rs, he, hrs, ?_⟩
      cases hb : Nat.beq op 1 with
      | false =>
        rw [hb] at h
        simp only [cond_false, Option.some.injEq] at h
        exact .inr ⟨fun e => (by rw [e] at hb; cases hb), h.symm⟩
      | true =>
        rw [hb, cond_true] at h
        cases hl : Nat.ble num 9223372036854775807 with
        | false => rw [hl] at h; cases h
        | true =>
          rw [hl] at h
          simp only [cond_true, Option.some.injEq] at h
          exact .inl ⟨Nat.eq_of_beq_eq_true hb, Nat.le_of_ble_eq_true hl, h.symm⟩
  · cases h
def NodeAt (es : List (Value × Value)) (j op num : Nat) : Prop := ∃ (k : Value) (a : Option Addr × Nat × Nat), es[j]? = some (k, .agg ⟨[.int .u8 (.ofNat op), .int .u64 (.ofNat num), .slice a.1 a.2.1 a.2.2]⟩)
theorem vars_none : ∀ {es : List (Value × Value)}, varNums es = some [] → ∀ j, j < es.length → ∃ op num, op ≠ 1 ∧ NodeAt es j op num
  | [], _, j, h => by simp at h
  | e :: es, h, j, hj => by
    obtain ⟨op, num, a, rs, h1, h2, h3⟩ := varNums_cons h
    rcases h3 with ⟨_, _, h3⟩ | ⟨h3, h4⟩
    · cases h3
    · subst h4
      cases j with
      | zero => exact ⟨op, num, h3, e.1, a, by rw [← h1]; rfl⟩
      | succ j =>
        obtain ⟨op, num, a, k, b, g⟩ := vars_none h2 j (by simpa using hj)
        exact ⟨op, num, a, k, b, by simpa using g⟩
theorem vars_one : ∀ {es : List (Value × Value)} {n : Value}, varNums es = some [n] → ∃ j0 num, j0 < es.length ∧ num ≤ 9223372036854775807 ∧ n = .int .i64 (.ofNat num) ∧ NodeAt es j0 1 num ∧ ∀ j, j < es.length → j ≠ j0 → ∃ op num, op ≠ 1 ∧ NodeAt es j op num
  | [], _, h => by cases h
  | e :: es, n, h => by
    obtain ⟨op, num, a, rs, h1, h2, h3⟩ := varNums_cons h
    rcases h3 with ⟨h3, h5, h4⟩ | ⟨h3, h4⟩
    · injection h4 with h4 h6
      subst h4 h6
      refine ⟨0, num, by simp, h5, rfl, ⟨e.1, a, by rw [h3] at h1; rw [← h1]; rfl⟩, fun j hj hne => ?_⟩
      cases j with
      | zero => exact absurd rfl hne
      | succ j =>
        obtain ⟨op, num, a, k, b, g⟩ := vars_none h2 j (by simpa using hj)
        exact ⟨op, num, a, k, b, by simpa using g⟩
    · subst h4
      obtain ⟨j0, nm, a1, a2, a3, ⟨k, b, a4⟩, a5⟩ := vars_one h2
      refine ⟨j0 + 1, nm, by simpa using a1, a2, a3, ⟨k, b, by simpa using a4⟩, fun j hj hne => ?_⟩
      cases j with
      | zero => exact ⟨op, num, h3, e.1, a, by rw [← h1]; rfl⟩
      | succ j =>
        obtain ⟨op, num, c1, k, b, g⟩ := a5 j (by simpa using hj) (by omega)
        exact ⟨op, num, c1, k, b, by simpa using g⟩

/-- an entry of the loop is a node -/
theorem node_of {es : List (Value × Value)} {ents : Array MapEntry} {clock : Nat} (hb : Bn ents clock) {μ : Mu} (h3 : LR μ (es.map (·.1)) (ents.toList.map (·.key))) (h4 : LR μ (es.map (·.2)) (ents.toList.map (·.val))) {e : MapEntry} (he : e ∈ ents.toList) :
    e.born < es.length ∧ ∀ op num, NodeAt es e.born op num → ∃ ad n c, e.val = .agg ⟨[.int .u8 (.ofNat op), .int .u64 (.ofNat num), .slice ad n c]⟩ := by
  obtain ⟨j, hj, rfl⟩ := List.getElem_of_mem he
  have hj' : j < ents.size := by simpa using hj
  have hbj := hb.born j _ (Array.getElem?_eq_getElem hj')
  have hlen := (hb.size h3).2
  have e0 : ents.toList[j] = ents[j] := by simp
  rw [e0, hbj]
  refine ⟨by omega, fun op num hn => ?_⟩
  obtain ⟨k, a, hk⟩ := hn
  obtain ⟨e', g1, g2, g3, g4⟩ := entry_at hb h3 h4 hk
  rw [Array.getElem?_eq_getElem hj'] at g1
  injection g1 with g1
  subst g1
  revert g4
  generalize ents[j].val = v'
  intro g4
  cases g4 with
  | agg c c' hl hh =>
    have hlr : LR μ [.int .u8 (.ofNat op), .int .u64 (.ofNat num), .slice a.1 a.2.1 a.2.2] c' := ⟨hl, hh⟩
    obtain ⟨v1, r1, rfl, k1, hlr⟩ := hlr.cons_inv
    obtain ⟨v2, r2, rfl, k2, hlr⟩ := hlr.cons_inv
    obtain ⟨v3, r3, rfl, k3, hlr⟩ := hlr.cons_inv
    obtain rfl := hlr.nil_inv
    cases k1
    cases k2
    obtain ⟨a1, a2, a3⟩ := a
    cases k3 <;> exact ⟨_, _, _, rfl⟩

theorem tuple_map_inv {μ : Mu} {r : Nat} {v : Value} (h : VR μ (.tuple ⟨[.map (some r), .int .i64 (.ofNat 0)]⟩) v) : ∃ b, v = .tuple #[.map (some b), .int .i64 0] ∧ μ r = some (b, 0) := by
  cases h with
  | tuple c c' hl hh =>
    have hlr : LR μ [.map (some r), .int .i64 (.ofNat 0)] c' := ⟨hl, hh⟩
    obtain ⟨v1, r1, rfl, k1, hlr⟩ := hlr.cons_inv
    obtain ⟨v2, r2, rfl, k2, hlr⟩ := hlr.cons_inv
    obtain rfl := hlr.nil_inv
    cases k1 with
    | map _ b hm =>
      cases k2
      exact ⟨b, rfl, hm⟩

/-- what the loop keeps -/
structure VarsInv (R : Nat) (w1 : World) (bm clock j0 num : Nat) (v : Value) (wr : World) : Prop where
  it : ∃ seen last, wr.heap[R]? = some (.mapIter (some bm) clock seen last) ∧ clock ≤ last ∧ (Lay.int .i64).Own 3 wr (R + 1) v (if seen.contains j0 then [(num : Int)] else [])
  below : Below R w1 wr
  size : R < wr.heap.size
def leftIn (ents : Array MapEntry) (r : Nat) (wr : World) : Nat := match wr.heap[r]? with
  | some (.mapIter _ _ seen _) => (leftOf ents seen).size
  | _ => 0theorem leftIn_of {ents : Array MapEntry} {R m c l : Nat} {seen : Array Nat} {wr : World} (h : wr.heap[R]? = some (.mapIter (some m) c seen l)) : leftIn ents R wr = (leftOf ents seen).size := by unfold leftIn; rw [h]
theorem seen_push {seen : Array Nat} {b j : Nat} (h : b ≠ j) : (seen.push b).contains j = seen.contains j := by
  simp [Ne.symm h]
theorem seen_last {seen : Array Nat} {b : Nat} : (seen.push b).contains b = true := by simp

set_option maxHeartbeats 4000000 in
set_option maxRecDepth 100000 in
theorem vars_calls {G B : Nat} {w0 : World} {call : Nat → List Value → AH → Rs} (hcall : CallOk Tryd.prog G B w0 call) {args : List Value} {H H' : AH} {v : Value} (hrun : spVars call 194 195 args H = .ok v H')
    {μ : Mu} {w : World} {args' : List Value} (hargs : LR μ args args') (hr : HR G B w0 H μ w) :
    Calls Tryd.prog 187 ⟨args'⟩ w fun e w' => ∃ v' μ', e = .returned v' ∧ VR μ' v v' ∧ Nx G B w0 H μ H' μ' w' := by
  unfold spVars at hrun
  split at hrun
  · rename_i x y
    obtain ⟨x', r1, rfl, hx, hl1⟩ := hargs.cons_inv
    obtain ⟨y', r2, rfl, hy, hl2⟩ := hl1.cons_inv
    obtain rfl := hl2.nil_inv
    clear hl1 hl2
    split at hrun
    · rename_i r H1 hocc
      split at hrun
      · rename_i es hgr
        split at hrun
        · rename_i n hvn
          rw [forceN_eq] at hrun
          cases hlt : Nat.blt H1.next 900000000000 with
          | false => rw [hlt] at hrun; cases hrun
          | true =>
            rw [hlt, cond_true, forceH_eq] at hrun
            split at hrun
            · rename_i v3 H3 hsrt
              simp only [Rs.ok.injEq] at hrun
              obtain ⟨rfl, rfl⟩ := hrun
              have hlt' : H1.next < 900000000000 := by simpa [Nat.blt_eq] using hlt
              obtain ⟨j0, num, g1, g2, rfl, g3, g4⟩ := vars_one hvn
              have HC := Lib.hid (calls_of_call hcall hocc hargs hr)
              have HS := Lib.hid hsrt
              clear hocc hsrt hvn hlt hargs hr hx hy
              go_enter Tryd.func187, Tryd.ntmps187
              go_wp2_with fail
              refine HC.out.mono ?_
              rintro e w1 ⟨v1, μ1, rfl, hv1, nx1⟩
              obtain ⟨bm, rfl, hm⟩ := tuple_map_inv hv1
              have hr1 := nx1.hr
              obtain ⟨_, es2, ents, clock, qm, q1, q2, q3, q4⟩ := hr1.blk r _ hgr bm 0 hm
              obtain rfl : es = es2 := Eq.symm qm
              obtain ⟨hB, hbn⟩ := q2 rfl
              clear HC hv1 q2 qm
              go_wp2_with (at_range; refine wpList_range_at rfl _ _ rfl Tryd.underlying266 rfl q1 ?_)
              have HQ1 := Lib.hid q1
              have HN := Lib.hid (fun e he => node_of (e := e) hbn q3 q4 he)
              have HBo : ∀ x ∈ ents.toList, x.born < clock := fun x hx => by have := (HN.out x hx).1; rw [(hbn.size q3).1]; exact this
              have hND := hbn.nodup
              have hcl := Lib.hid (hbn.size q3).1
              have hsz := (hbn.size q3).2
              have HJ : Hid (∃ e0 ∈ ents.toList, e0.born = j0) := by
                obtain ⟨_, a, hj⟩ := g3
                obtain ⟨e', k1, k2, _, _⟩ := entry_at hbn q3 q4 hj
                exact ⟨e', Array.mem_toList_iff.2 (Array.mem_of_getElem? k1), k2⟩
              have hbmw : bm < w1.heap.size := (Array.getElem?_eq_some_iff.1 q1).1
              clear hbn q3 q4 q1
              intro w2 hw2
              replace hw2 := hw2.out
              generalize hR : w1.heap.size = R at *
              have hR2 : w2.heap[R]? = some (.mapIter (some bm) clock #[] clock) := by subst hR; rw [hw2]; exact heap_alloc_new w1 _
              have hB2 : Below R w1 w2 := by subst hR; rw [hw2]; exact (Below.refl _ _).alloc (Nat.le_refl _) _
              have hs2 : w2.heap.size = R + 1 := by rw [hw2]; simp [hR]
              clear hw2
              go_wp2_with fail
              go_loopw [8] (fun v wr => VarsInv R w1 bm clock j0 num v wr) (fun _ wr => leftIn ents R wr)
              case atStart => exact ⟨⟨#[], clock, hR2, Nat.le_refl _, by simpa using Lay.Own.nil w2 (R + 1)⟩, hB2, by omega⟩
              case round =>
                obtain ⟨⟨seen, last, hrr, hll, hown⟩, hbel, hszr⟩ := hrel
                clear hR2 hB2 hs2
                have hbm' : wr.heap[bm]? = some (.map ents clock) := (hbel.block bm hbmw).trans HQ1.out
                go_wp2_with (at_next; refine wpList_next_at rfl _ rfl (by rfl) hrr hbm' HBo hll ?_ ?_)
                · intro hdone
                  obtain ⟨e0, he0, hb0⟩ := HJ.out
                  have hin := all_seen ents seen (by rw [hdone.out]; rfl) e0 he0
                  rw [hb0] at hin
                  rw [if_pos hin] at hown
                  obtain ⟨g, cap, cur, rfl, k1, k2, k3, k4, k5, k6⟩ : ∃ g cap cur, u8 = .slice (some ⟨g, 0, none⟩) 1 cap ∧ R + 1 ≤ g ∧ wr.heap[g]? = some (.cells cur 3 (0, 0)) ∧ 1 ≤ cap ∧ cap ≤ maxLen ∧ cur.size = cap ∧ cur[0]? = some (.int .i64 num) := by
                    obtain ⟨_, h | ⟨g, cap, cur, h1, h2, h3, h4, h5, h6, h7⟩⟩ := hown
                    · cases h.2
                    · refine ⟨g, cap, cur, h1, h2, h3, h4, h5, by simpa [Lay.int] using h6, ?_⟩
                      have : (cur.toList.take 1)[0]? = some (.int .i64 num) := by
                        have h7' : cur.toList.take 1 = [.int .i64 num] := h7
                        rw [h7']; rfl
                      rw [List.getElem?_take_of_lt (by omega)] at this
                      simpa using this
                  have nxb := hr1.born (x := .cells true 1 1 [.int .i64 (.ofNat num)] .nil) (c := g) (T := cap) (by omega) (w' := wr) (by rw [hR]; exact hbel) (by omega)
                    ⟨cur, 3, (0, 0), k2, fun _ => ⟨rfl, by have := hr1.base; omega, by omega⟩, fun k hk => by
                      obtain rfl : k = 0 := by omega
                      exact ⟨_, k6, VR.int _ _⟩⟩
                  have hvs : VR (μ1.bind H1.next (g, 0) cap) (.slice (some ⟨H1.next, 0, none⟩) 1 36893488147419103233) (.slice (some ⟨g, 0, none⟩) 1 cap) :=
                    VR.sl H1.next g 0 0 1 _ cap Mu.bind_same (.inr ⟨by decide, by rw [lb_eq]; exact k3, by rw [Mu.tot_same, es_eq]; simp⟩)
                  have HCS := Lib.hid (calls_of_call hcall HS.out (LR.cons hvs (LR.nil _)) nxb.hr)
                  clear HS hown
                  go_wp2_with fail
                  refine HCS.out.mono ?_
                  rintro e w3 ⟨v3', μ3, rfl, hv3, nx3⟩
                  go_wp2_with fail
                  go_ret2
                  exact ⟨_, μ3, rfl, VR.tuple_of (LR.cons (hvs.ext nx3.ext) (LR.cons (VR.int _ _) (LR.nil _))), (nx1.trans nxb).trans nx3⟩
                · intro e he w3 w4 hw3 hw4
                  replace hw4 := hw4.out
                  replace he : e ∈ (leftOf ents seen).toList := by simpa using he
                  obtain ⟨he1, he2⟩ := mem_left he
                  have h3 : wr.grownBy w3 none := by
                    rcases hw3 with rfl | rfl
                    · exact World.grownBy.refl _ _
                    · exact ⟨rfl, rfl, rfl, Nat.le_refl _, fun _ _ _ => rfl⟩
                  have h34 : w3.heap.size = wr.heap.size := by rcases hw3 with rfl | rfl <;> rfl
                  have hg4 : wr.grownBy w4 (some R) := by
                    rw [hw4]
                    refine ⟨h3.os, h3.tape, h3.output, by simpa [setBlock] using h3.size, fun k hk hne => ?_⟩
                    show (w3.heap.setIfInBounds R _)[k]? = _
                    rw [Array.getElem?_setIfInBounds_ne (by intro e; exact hne (by rw [e]))]
                    exact h3.block k hk (by simp)
                  have hr4 : w4.heap[R]? = some (.mapIter (some bm) clock (seen.push e.born) clock) := by
                    rw [hw4]
                    show (w3.heap.setIfInBounds R _)[R]? = _
                    rw [Array.getElem?_setIfInBounds_self_of_lt (by omega)]
                  have hb4 : Below R w1 w4 := hbel.grown hg4 (by omega) (fun k hk => by injection hk with hk; omega)
                  have hbm4 : w4.heap[bm]? = some (.map ents clock) := (hb4.block bm hbmw).trans HQ1.out
                  have hen := run_entry_at (P := Tryd.prog) w4 R bm clock seen ents clock e hr4 hbm4 he1 hND
                  have hs4 : R < w4.heap.size := by have := hg4.size; omega
                  have hown4 : (Lay.int .i64).Own 3 w4 (R + 1) u8 (if seen.contains j0 then [(num : Int)] else []) := World.ownsRow.kept (row := some R) hown hg4 (by
                    cases hk : u8.ownBlock with
                    | none => exact .inl rfl
                    | some k => exact .inr (fun e => by injection e with e; have := (World.ownsRow.lt hown k hk).1; omega))
                  have hmes := left_shrinks ents seen e he
                  have hL0 : leftIn ents R wr = (leftOf ents seen).size := by unfold leftIn; rw [hrr]
                  obtain ⟨hlt, hnode⟩ := HN.out e he1
                  clear hw4 hw3 hown hrr hbm' he HJ h3 h34 hg4
                  by_cases hj : e.born = j0
                  · obtain ⟨ad, an, ac, ha⟩ := hnode 1 num (hj ▸ g3)
                    rw [hj] at he2
                    rw [if_neg (by rw [he2]; exact Bool.false_ne_true)] at hown4
                    rw [ha] at hen ⊢
                    clear ha hnode
                    have hm4 : leftIn ents R w4 = (leftOf ents (seen.push e.born)).size := leftIn_of hr4
                    have hin : (seen.push e.born).contains j0 = true := by rw [← hj]; exact seen_last
                    generalize seen.push e.born = sn at *
                    generalize e.key = ky at *
                    go_wp2_with (at_builtin; refine app_lay_new_g Tryd.elemI [(num : Int)] rfl _ _ rfl rfl (hown4.alloc _) rfl (by simp) rfl (by simp) (by simp; omega) ?_)
                    intro v5 w5 hown5 hb5
                    go_wp2_with fail
                    go_roundw
                    case rel =>
                      refine ⟨⟨sn, clock, ((hb5.block R (by omega)).trans (Below.heap_alloc w4 _ R hs4)).trans hr4, Nat.le_refl _, ?_⟩, (hb4.alloc (by omega) _).trans (hb5.mono (by omega)), by have := hb5.size; simp at this; omega⟩
                      rw [if_pos hin]
                      exact hown5
                    case measure =>
                      rw [leftIn_of (((hb5.block R (by omega)).trans (Below.heap_alloc w4 _ R hs4)).trans hr4), hL0]
                      exact hmes
                  · obtain ⟨op, nm, hop, hn⟩ := g4 e.born hlt hj
                    obtain ⟨ad, an, ac, ha⟩ := hnode op nm hn
                    have hop' : (((op : Nat) : Int) == 1) = false := by simp; omega
                    rw [ha] at hen ⊢
                    clear ha hn hop hnode
                    rw [← seen_push hj (seen := seen)] at hown4
                    have hm4 : leftIn ents R w4 = (leftOf ents (seen.push e.born)).size := leftIn_of hr4
                    generalize seen.push e.born = sn at *
                    generalize e.key = ky at *
                    go_wp2_with fail
                    go_roundw
                    case rel => exact ⟨⟨sn, clock, (Below.heap_alloc w4 _ R hs4).trans hr4, Nat.le_refl _, hown4.alloc _⟩, hb4.alloc (by omega) _, by simp; omega⟩
                    case measure =>
                      rw [leftIn_of ((Below.heap_alloc w4 _ R hs4).trans hr4), hL0]
                      exact hmes
            · cases hrun
        · cases hrun
      · cases hrun
    · cases hrun
  · cases hrun
end Cr
end Go.Proofs.YtjhbabgcoemecaaDoor
namespace Go.Proofs.YtjhbabgcoemecaaDoor
namespace Cr
open Go Go.RowKit

theorem vars_ok {G B : Nat} {w0 : World} {call : Nat → List Value → AH → Rs} (hcall : CallOk Tryd.prog G B w0 call) : CallOk Tryd.prog G B w0 (fun g args H => bif Nat.beq g 187 then spVars call 194 195 args H else .bad) := by
  intro g args H v H' h μ args' w hl hr cs
  change (bif Nat.beq g 187 then spVars call 194 195 args H else .bad) = _ at h
  cases hb : Nat.beq g 187 with
  | false => rw [hb] at h; cases h
  | true =>
    rw [hb, cond_true] at h
    have := Nat.eq_of_beq_eq_true hb
    subst this
    exact ends_of_calls (c := Tryd.f187.body.getD .skip) Tryd.func187 (by kernel_rfl) (by kernel_rfl) (vars_calls hcall h hl hr) cs

noncomputable def sp0 : Spec := fun _ => none
theorem sp0_ok {G B : Nat} {w0 : World} : SpOk Tryd.prog G B w0 sp0 := fun _ _ h => by cases h
noncomputable def spA : Spec := xsp Tryd.prog 2 (comp Tryd.prog) tabX sp0 40
noncomputable def callA : Nat → List Value → AH → Rs := callF Tryd.prog spA (ev Tryd.prog spA 2 (comp Tryd.prog) (drwE 2 (comp Tryd.prog)) 1000000)
noncomputable def spB : Spec := fun g => bif Nat.beq g 187 then some (spVars callA 194 195) else none
noncomputable def spX (n : Nat) : Spec := xsp Tryd.prog 2 (comp Tryd.prog) tabX spB n
theorem mixed : Tryd.prog.follows .mixedOrders = true := by kernel_rfl
theorem spA_ok {B : Nat} {w0 : World} : SpOk Tryd.prog 2 B w0 spA := xsp_ok (comp_ok _) (drwE_ok (comp_ok _) mixed) tabX sp0_ok 40
theorem callA_ok {B : Nat} {w0 : World} : CallOk Tryd.prog 2 B w0 callA := callF_ok (ev_ok (comp_ok _) spA_ok (drwE_ok (comp_ok _) mixed) 1000000) spA_ok
theorem spB_ok {B : Nat} {w0 : World} : SpOk Tryd.prog 2 B w0 spB := by
  intro g h hg
  unfold spB at hg
  cases hb : Nat.beq g 187 with
  | false => rw [hb] at hg; cases hg
  | true =>
    rw [hb] at hg
    simp only [cond_true, Option.some.injEq] at hg
    have := Nat.eq_of_beq_eq_true hb
    subst this
    subst hg
    exact vars_ok callA_ok
theorem spX_ok {B : Nat} {w0 : World} (n : Nat) : SpOk Tryd.prog 2 B w0 (spX n) := xsp_ok (comp_ok _) (drwE_ok (comp_ok _) mixed) tabX spB_ok n

/-! ### the first memory -/
def fnv (n : Nat) : Value := .func (.func n) #[] #[]
def bv (b : Bool) : Value := .bool b
def iv (n : Nat) : Value := .int .i64 (.ofNat n)
def shps : List Value := [bv true, bv true, bv false, iv 0, bv true, bv true, bv true, iv 0, bv true, bv true, bv false, iv 1, bv false, bv true, bv true, iv 1, bv true, bv false, bv false, iv 2, bv false, bv true, bv false, iv 2, bv true, bv true, bv false, iv 3, bv false, bv false, bv false, iv 4, bv false, bv true, bv false, iv 4, bv false, bv false, bv false, iv 0]
def stp0 : List (Value × Value) := [(.int .u8 (.ofNat 0), fnv 137), (.int .u8 (.ofNat 1), fnv 138), (.int .u8 (.ofNat 2), fnv 139), (.int .u8 (.ofNat 3), fnv 140), (.int .u8 (.ofNat 4), fnv 141), (.int .u8 (.ofNat 5), fnv 142), (.int .u8 (.ofNat 6), fnv 143), (.int .u8 (.ofNat 7), fnv 144), (.int .u8 (.ofNat 8), fnv 145), (.int .u8 (.ofNat 9), fnv 146)]
/-- the laid variables of the program: the steps of the explorer (a map, its entries in any order), the shapes of instructions -/
structure Laid (w : World) : Prop where
  steps : ∃ b cs e f ents clock, w.heap[0]? = some (.cells cs e f) ∧ cs[0]? = some (.map (some b)) ∧ w.heap[b]? = some (.map ents clock) ∧ List.Perm stp0 (ents.toList.map fun x => (x.key, x.val))
  shapes : ∃ cs e f, w.heap[1]? = some (.cells cs e f) ∧ ∀ k, k < 40 → cs[k]? = shps[k]?
theorem Laid.pos {w : World} (h : Laid w) : 1 < w.heap.size := by
  obtain ⟨cs, e, f, h, _⟩ := h.shapes
  exact (Array.getElem?_eq_some_iff.1 h).1
theorem Laid.below {w w' : World} (h : Laid w) (hb : Below w.heap.size w w') : Laid w' := by
  have h1 := h.pos
  obtain ⟨⟨b, cs, e, f, ents, clock, a1, a2, a3, a4⟩, ⟨cs', e', f', b1, b2⟩⟩ := h
  exact ⟨⟨b, cs, e, f, ents, clock, (hb.block 0 (by omega)).trans a1, a2, (hb.block b (Array.getElem?_eq_some_iff.1 a3).1).trans a3, a4⟩, ⟨cs', e', f', (hb.block 1 h1).trans b1, b2⟩⟩
noncomputable def H0 : AH := first 40 shps stp0
theorem Laid.hr {w : World} (h : Laid w) : ∃ μ, HR 2 w.heap.size w H0 μ w := by
  obtain ⟨⟨b, cs, e, f, ents, clock, a1, a2, a3, a4⟩, ⟨cs', e', f', b1, b2⟩⟩ := h
  refine ⟨firstMu b, first_ok a1 a2 b1 b2 rfl (by decide) a3 a4 (by decide) (by decide) ⟨.u8, ?_⟩ ?_⟩
  · intro x hx
    simp only [stp0, List.mem_cons, List.not_mem_nil, or_false] at hx
    rcases hx with rfl | rfl | rfl | rfl | rfl | rfl | rfl | rfl | rfl | rfl <;> exact ⟨_, rfl⟩
  · have hk : (stp0.map (·.1)) = (List.range 10).map fun n => .int .u8 (.ofNat n) := rfl
    have : (stp0.map (·.1)).Pairwise (· ≠ ·) := by
      rw [hk, List.pairwise_map]
      refine List.Pairwise.imp (R := (· ≠ ·)) ?_ (by decide)
      intro a b h e
      injection e with _ e
      injection e with e
      exact h e
    rw [List.pairwise_map] at this
    exact this

/-! ### runs -/
noncomputable def isOk (r : Rs) : Bool := Rs.rec (motive := fun _ => Bool) false (fun v _ => VB.rec (motive := fun _ => Bool) false false true (asB v)) r
noncomputable def runX (f : Nat) : Bool := forceH H0 fun H => Option.rec (motive := fun _ => Bool) false (fun h => isOk (h [] H)) (spX 60 f)
theorem isOk_eq {r : Rs} (h : isOk r = true) : ∃ H, r = .ok (.bool true) H := by
  cases r with
  | bad => cases h
  | ok v H =>
    cases ha : asB v with
    | t => exact ⟨H, by rw [asB_t ha]⟩
    | no =>
      change VB.rec (motive := fun _ => Bool) false false true (asB v) = true at h
      rw [ha] at h; cases h
    | f =>
      change VB.rec (motive := fun _ => Bool) false false true (asB v) = true at h
      rw [ha] at h; cases h
/-- a run without arguments that answers 'true': a contract -/
theorem of_run {f : Nat} (h : runX f = true) {w : World} (hw : Laid w) : Calls Tryd.prog f #[] w fun e w' => e = .returned (.bool true) ∧ Below w.heap.size w w' := by
  unfold runX at h
  rw [forceH_eq] at h
  cases hs : spX 60 f with
  | none => rw [hs] at h; cases h
  | some g =>
    rw [hs] at h
    obtain ⟨H', hr⟩ := isOk_eq h
    obtain ⟨μ, hm⟩ := hw.hr
    exact calls_true (spX_ok 60) hs hr hm
end Cr
end Go.Proofs.YtjhbabgcoemecaaDoor
