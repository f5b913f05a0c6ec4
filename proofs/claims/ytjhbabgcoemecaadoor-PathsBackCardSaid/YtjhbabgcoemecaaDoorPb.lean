/- Lists of lists in memory: copies, comparisons (package weepholekit). -/
import Derived.Test.YtjhbabgcoemecaaDoorS1
import Derived.Outline
import Derived.Deep.CutBlock
import Derived.Deep.Draws
namespace Go.Proofs.YtjhbabgcoemecaaDoor
open Go.RowKit

/-- the same world, but for draws -/
def Same (w w' : World) : Prop := ∃ m, w' = w.drewN m
theorem Same.refl (w : World) : Same w w := ⟨0, rfl⟩
theorem Same.drewN {w w' : World} (h : Same w w') (n : Nat) : Same w (w'.drewN n) := by
  obtain ⟨m, rfl⟩ := h; exact ⟨m + n, World.drewN_drewN ..⟩
theorem Same.drew {w w' : World} (h : Same w w') : Same w w'.drew := h.drewN 1
theorem Same.trans {a b c : World} (h : Same a b) (k : Same b c) : Same a c := by
  obtain ⟨m, rfl⟩ := h; obtain ⟨n, rfl⟩ := k; exact ⟨m + n, World.drewN_drewN ..⟩
theorem Same.cell {w w' : World} (h : Same w w') (a : Addr) : w'.cell? a = w.cell? a := by obtain ⟨m, rfl⟩ := h; rfl
theorem Same.frozen {w w' : World} (h : Same w w') (a : Addr) : w'.frozen? a = w.frozen? a := by obtain ⟨m, rfl⟩ := h; rfl
theorem Same.heap {w w' : World} (h : Same w w') : w'.heap = w.heap := by obtain ⟨m, rfl⟩ := h; rfl
theorem Same.below {w w' : World} (h : Same w w') (B : Nat) : Below B w w' := by obtain ⟨m, rfl⟩ := h; exact ⟨rfl, rfl, rfl, Nat.le_refl _, fun _ _ => rfl⟩
theorem Lay.At.same {α : Type} {L : Lay α} {d : α} {w w' : World} {a : Option Addr} {xs : List α} (h : L.At d w a xs) (s : Same w w') : L.At d w' a xs := h.below (s.below _)
/-- lists of inputs in memory -/
def RowsAt (w : World) (a : Option Addr) (rows : List (List Int)) : Prop :=
  ∀ i, i < rows.length → ∃ b o a' cap', a = some ⟨b, o, none⟩ ∧ b < w.heap.size ∧ w.cell? ⟨b, o + i, none⟩ = some (.slice a' (rows.getD i []).length cap') ∧ (Lay.int .u64).At 0 w a' (rows.getD i []) ∧ (rows.getD i []).length ≤ cap' ∧ cap' ≤ 9223372036854775807
theorem RowsAt.nil {w : World} {a : Option Addr} : RowsAt w a [] := fun i hi => by simp at hi
theorem RowsAt.below {w w' : World} {a : Option Addr} {rows : List (List Int)} (h : RowsAt w a rows) (hb : Below w.heap.size w w') : RowsAt w' a rows := fun i hi => by
  obtain ⟨b, o, a', c', e, h0, h1, h2, h3⟩ := h i hi
  exact ⟨b, o, a', c', e, Nat.lt_of_lt_of_le h0 hb.size, (hb.cell (p := ⟨b, _, none⟩) h0).trans h1, h2.below hb, h3⟩
def RowsOk (rows : List (List Int)) : Prop := ∀ r ∈ rows, r.length ≤ 100000 ∧ ∀ v ∈ r, (Lit.int .u64 v).wf = true
theorem getD_mem {α : Type} (d : α) (xs : List α) (i : Nat) (h : i < xs.length) : xs.getD i d ∈ xs := by
  rw [List.getD_eq_getElem?_getD, List.getElem?_eq_getElem h]; exact List.getElem_mem h
theorem getD_ge {α : Type} (d : α) (xs : List α) (i : Nat) (h : xs.length ≤ i) : xs.getD i d = d := by
  rw [List.getD_eq_getElem?_getD, List.getElem?_eq_none h]; rfl

theorem RowsOk.len {rows : List (List Int)} (h : RowsOk rows) (c : Nat) : (rows.getD c []).length ≤ 100000 := by
  by_cases hc : c < rows.length
  · exact (h _ (getD_mem [] rows c hc)).1
  · rw [getD_ge _ _ _ (by omega)]; simp

theorem take_getD {α : Type} (d : α) (ps : List α) (q : Nat) (h : q < ps.length) : ps.take (q + 1) = ps.take q ++ [ps.getD q d] := by
  rw [List.take_succ_eq_append_getElem h, List.getD_eq_getElem?_getD, List.getElem?_eq_getElem h]; rfl

theorem Lay.Own.lower {α : Type} {L : Lay α} {e : TypeId} {w : World} {b b' : Nat} {v : Value} {xs : List α} (h : L.Own e w b v xs) (hb : b' ≤ b) : L.Own e w b' v xs :=
  ⟨h.1, h.2.imp id fun ⟨g, cap, cur, e, hg, r⟩ => ⟨g, cap, cur, e, Nat.le_trans hb hg, r⟩⟩
def Apart (v1 v2 : Value) : Prop := v1.ownBlock = none ∨ v2.ownBlock = none ∨ v1.ownBlock ≠ v2.ownBlock
theorem Apart.symm {v1 v2 : Value} (h : Apart v1 v2) : Apart v2 v1 := by
  rcases h with h | h | h
  · exact Or.inr (Or.inl h)
  · exact Or.inl h
  · exact Or.inr (Or.inr (Ne.symm h))
theorem Apart.ne {v1 v2 : Value} (h : Apart v1 v2) : v1.ownBlock = none ∨ v1.ownBlock ≠ v2.ownBlock := by
  rcases h with h | h | h
  · exact Or.inl h
  · cases e : v1.ownBlock with
    | none => exact Or.inl rfl
    | some k => rw [h]; exact Or.inr (by simp)
  · exact Or.inr h
def OwnRetU (w : World) (xs : List Int) (e : Ending) (w' : World) : Prop := ∃ v, e = .returned v ∧ (Lay.int .u64).Own 33 w' w.heap.size v xs ∧ Below w.heap.size w w'

set_option maxHeartbeats 400000 in
theorem copyU_any (a : Option Addr) (len cap : Nat) (xs : List Int) (w : World) (hlen : xs.length = len) (hat : (Lay.int .u64).At 0 w a xs) (hsm : len ≤ 100000) :
    Calls Tryd.prog 27 #[.slice a len cap] w (OwnRetU w xs) := by
  have HA := Lib.hid hat
  have HLEN := Lib.hid hlen
  clear hat hlen
  go_enter Tryd.func27, Tryd.ntmps27
  go_wp2_with fail
  go_loopw [3, 4] (fun v i wr => ∃ k : Nat, k ≤ len ∧ i = .int .i64 k ∧ (Lay.int .u64).Own 33 wr w.heap.size v (xs.take k) ∧ Below w.heap.size w wr) (fun _ i _ => len - (intOf i).toNat)
  case atStart => exact ⟨0, by omega, rfl, Lay.Own.nil _ _, Below.refl _ _⟩
  case round =>
    obtain ⟨k, hk, rfl, hown, hbel⟩ := hrel
    have hsz := hbel.size
    by_cases hlt : k < len
    · have hq : k < xs.length := by rw [HLEN.out]; exact hlt
      obtain ⟨pb, po, rfl, hpb, hp0⟩ := HA.out.int hq
      have hp0' := (hbel.cell (p := ⟨pb, po + k, none⟩) hpb).trans hp0
      have Ht := Lib.hid (take_getD 0 xs k hq)
      have hlt2 : (xs.take k).length ≤ 100000 := by rw [List.length_take]; omega
      clear hp0 hq
      generalize xs.getD k 0 = x at *
      go_wp2_with (at_builtin; refine app_lay_new Tryd.elemU [x] rfl _ _ rfl rfl hown rfl rfl (by omega) hsz ?_)
      intro v' w1 r1 r2
      clear hown
      go_wp2_with fail
      go_roundw
      case rel => exact ⟨k + 1, by omega, by go_num, by rw [Ht.out]; exact r1, hbel.trans r2⟩
      case measure => simp [intOf]; omega
    · obtain rfl : k = len := by omega
      have hown2 : (Lay.int .u64).Own 33 wr w.heap.size u3 xs := by rw [← HLEN.out, List.take_length] at hown; exact hown
      clear hown
      go_wp2_with fail
      go_ret
      exact ⟨_, rfl, hown2, hbel⟩

section
variable {α : Type} {L : Lay α} {w : World} {P : Program} {t e : TypeId} {z : Value} {bytes : Nat}
/-- an append, and where the new slice lies -/
theorem app_lay_at2 (T : ElemT P L t e z bytes) {ops : Array Oper} {rest : List Oper} {o : Oper} {a : Act} {Q : Exit → Act → World → Prop} (qs : List α) (hgd : o.guard = none) (s x : Operand)
    (ho : o.op = .call { callee := .builtin .append, args := #[s, x], argTypes := #[t, t] }) {base : Nat} {v : Value} {ps : List α} {m c : Nat}
    (hs : a.eval s = v) (hown : L.Own e w base v ps) (hx : a.eval x = .slice (some ⟨w.heap.size, 0, none⟩) m c) (hm : qs.length = m)
    (hl : ps.length + m ≤ 1000000) (hbase : base ≤ w.heap.size)
    (h : ∀ v' w', L.Own e w' base v' (ps ++ qs) → (w.alloc (.cells (L.flat qs).toArray e)).grownBy w' v.ownBlock → (v'.ownBlock = v.ownBlock ∨ v'.ownBlock = some (w.heap.size + 1)) → wpList P ops Q rest (a.put o.dst v') w') : wpList P ops Q (o :: rest) a (w.alloc (.cells (L.flat qs).toArray e)) := by
  obtain ⟨i0, hi, hz0, hz1, hz2⟩ := info_parts T.info
  subst hm
  have hb := T.by_
  have hbs : (ps.length + qs.length) * bytes ≤ 140737488355328 := by
    have := Nat.mul_le_mul hl hb
    omega
  refine wpList_append_own_at _ hgd s x t ho base e i0 _ L.sz bytes T.und hi hz0 hz1 hz2 T.zs L.pos v ps.length (L.flat ps) hs (hown.alloc _) ⟨w.heap.size, 0, none⟩ qs.length c (L.flat qs) hx (L.flat_length qs) (lay_new_cells w qs e) (L.flat_one qs) (by unfold maxLen; omega) hbs (by simp; omega) ?_
  intro v' w' hown' hg _ hat
  refine h v' w' ?_ hg (by simpa using hat)
  unfold Lay.Own
  rw [L.flat_append, List.length_append]
  exact hown'
end

abbrev Hdr := Option Addr × Nat × Nat
def hv (h : Hdr) : Value := .slice h.1 h.2.1 h.2.2
/-- rows that the call owns, and the slice of their headers -/
structure RowsOwn (w : World) (B : Nat) (v : Value) (hs : List Hdr) (rows : List (List Int)) : Prop where
  own : Lay.sl.Own 48 w B v hs
  len : hs.length = rows.length
  row : ∀ i, i < rows.length → (Lay.int .u64).Own 33 w B (hv (hs.getD i (none, 0, 0))) (rows.getD i []) ∧ Apart (hv (hs.getD i (none, 0, 0))) v
theorem RowsOwn.nil (w : World) (B : Nat) : RowsOwn w B (.slice none 0 0) [] [] := ⟨Lay.Own.nil _ _, rfl, fun i hi => by simp at hi⟩
theorem RowsOwn.rowsAt {w : World} {B : Nat} {v : Value} {hs : List Hdr} {rows : List (List Int)} (h : RowsOwn w B v hs rows) : ∃ a cap, v = .slice a rows.length cap ∧ RowsAt w a rows ∧ rows.length ≤ cap ∧ cap ≤ maxLen := by
  obtain ⟨a, cap, rfl, hat, h1, h2⟩ := h.own.at_ (d := (none, 0, 0))
  rw [h.len] at h1
  refine ⟨a, cap, by rw [h.len], fun i hi => ?_, h1, h2⟩
  obtain ⟨b, o, e, hb, hc⟩ := hat.sl (i := i) (by rw [h.len]; exact hi)
  obtain ⟨r1, r2⟩ := h.row i hi
  obtain ⟨a', c', e', hat', k1, k2⟩ := r1.at_ (d := 0)
  generalize hs.getD i (none, 0, 0) = hd at *
  obtain ⟨x, y, z⟩ := hd
  simp only [hv, Value.slice.injEq] at e'
  obtain ⟨rfl, rfl, rfl⟩ := e'
  exact ⟨b, o, x, z, e, hb, hc, hat', k1, k2⟩
theorem RowsOwn.below {w w' : World} {B : Nat} {v : Value} {hs : List Hdr} {rows : List (List Int)} (h : RowsOwn w B v hs rows) (hb : Below w.heap.size w w') : RowsOwn w' B v hs rows :=
  ⟨h.own.grown hb, h.len, fun i hi => ⟨(h.row i hi).1.grown hb, (h.row i hi).2⟩⟩
theorem getD_left {α : Type} (d : α) (xs ys : List α) (i : Nat) (h : i < xs.length) : (xs ++ ys).getD i d = xs.getD i d := by
  rw [List.getD_eq_getElem?_getD, List.getD_eq_getElem?_getD, List.getElem?_append_left h]
theorem getD_last {α : Type} (d x : α) (xs : List α) (i : Nat) (h : i = xs.length) : (xs ++ [x]).getD i d = x := by
  subst h; rw [List.getD_eq_getElem?_getD, List.getElem?_append_right (Nat.le_refl _)]; simp
/-- a row more -/
theorem RowsOwn.snoc {w w' : World} {B : Nat} {v v' : Value} {hs : List Hdr} {rows : List (List Int)} {hd : Hdr} {r : List Int} (h : RowsOwn w B v hs rows) (hr : (Lay.int .u64).Own 33 w B (hv hd) r) (hap : Apart (hv hd) v)
    (hown : Lay.sl.Own 48 w' B v' (hs ++ [hd])) (hg : w.grownBy w' v.ownBlock) (hat : v'.ownBlock = v.ownBlock ∨ v'.ownBlock = some w.heap.size) : RowsOwn w' B v' (hs ++ [hd]) (rows ++ [r]) := by
  have key : ∀ (x : Value) (ys : List Int), (Lay.int .u64).Own 33 w B x ys → Apart x v → (Lay.int .u64).Own 33 w' B x ys ∧ Apart x v' := fun x ys ho ha =>
    ⟨World.ownsRow.kept ho hg ha.ne, by
      unfold Apart
      rcases hat with e | e
      · rw [e]; exact ha
      · rw [e]
        cases e2 : x.ownBlock with
        | none => exact Or.inl rfl
        | some k => exact Or.inr (Or.inr (fun e3 => by have := ho.lt k e2; simp at e3; omega))⟩
  refine ⟨hown, by simp [h.len], fun i hi => ?_⟩
  rw [List.length_append, List.length_singleton] at hi
  by_cases hlt : i < rows.length
  · rw [getD_left _ _ _ _ (by rw [h.len]; exact hlt), getD_left _ _ _ _ hlt]
    exact key _ _ (h.row i hlt).1 (h.row i hlt).2
  · obtain rfl : i = rows.length := by omega
    rw [getD_last _ _ _ _ h.len.symm, getD_last _ _ _ _ rfl]
    exact key _ _ hr hap

def OwnRetR (w : World) (rows : List (List Int)) (e : Ending) (w' : World) : Prop := ∃ v hs, e = .returned v ∧ RowsOwn w' w.heap.size v hs rows ∧ Below w.heap.size w w'

set_option maxHeartbeats 400000 in
theorem copyR_any (a : Option Addr) (len cap : Nat) (rows : List (List Int)) (w : World) (hlen : rows.length = len) (hat : RowsAt w a rows) (hok : RowsOk rows) (hsm : len ≤ 100000) :
    Calls Tryd.prog 19 #[.slice a len cap] w (OwnRetR w rows) := by
  have HA := Lib.hid hat
  have HLEN := Lib.hid hlen
  have HOK := Lib.hid hok
  clear hat hlen hok
  go_enter Tryd.func19, Tryd.ntmps19
  go_wp2_with fail
  go_loopw [3, 4] (fun v i wr => ∃ (k : Nat) (hs : List Hdr), k ≤ len ∧ i = .int .i64 k ∧ RowsOwn wr w.heap.size v hs (rows.take k) ∧ Below w.heap.size w wr) (fun _ i _ => len - (intOf i).toNat)
  case atStart => exact ⟨0, [], by omega, rfl, RowsOwn.nil _ _, Below.refl _ _⟩
  case round =>
    obtain ⟨k, hs, hk, rfl, hown, hbel⟩ := hrel
    have hsz := hbel.size
    by_cases hlt : k < len
    · have hq : k < rows.length := by rw [HLEN.out]; exact hlt
      obtain ⟨pb, po, ra, rc, rfl, hpb, hp0, hra, hrl, hrc⟩ := HA.out k hq
      have hp0' := (hbel.cell (p := ⟨pb, po + k, none⟩) hpb).trans hp0
      have Ht := Lib.hid (take_getD [] rows k hq)
      have hlt2 : (rows.take k).length ≤ 100000 := by rw [List.length_take]; omega
      have hhl : hs.length ≤ 100000 := by rw [hown.len]; exact hlt2
      have HC := Lib.hid (copyU_any ra _ rc (rows.getD k []) wr rfl ((hra.below (w' := wr) hbel)) (HOK.out.len k))
      have HOW := Lib.hid hown
      clear hp0 hq hown hra
      generalize rows.getD k [] = r at *
      go_wp2_with fail
      refine HC.out.mono ?_
      rintro e w1 ⟨v1, rfl, ho1, hb1⟩
      obtain ⟨a1, c1, rfl, hat1, hl1, hc1⟩ := ho1.at_ (d := 0)
      have HOW1 := Lib.hid (HOW.out.below hb1)
      have hbel1 := hbel.trans (hb1.mono hsz)
      have hsz1 := hbel1.size
      have hap : Apart (hv (a1, r.length, c1)) u3 := by
        unfold Apart
        cases e2 : u3.ownBlock with
        | none => exact Or.inr (Or.inl rfl)
        | some g =>
          cases e1 : (hv (a1, r.length, c1)).ownBlock with
          | none => exact Or.inl rfl
          | some g' => exact Or.inr (Or.inr (fun e3 => by have h1 := HOW.out.own.lt g e2; have h2 := ho1.lt g' e1; simp at e3; omega))
      have HR := Lib.hid (ho1.lower (b' := w.heap.size) (by have := hbel.size; omega))
      have HAp := Lib.hid hap
      clear hap ho1 hat1 hb1 HOW
      go_wp2_with (at_builtin; refine app_lay_at2 Tryd.elemS [(a1, r.length, c1)] rfl _ _ rfl rfl HOW1.out.own rfl rfl (by simp; omega) hsz1 ?_)
      intro v' w2 ho2 hg2 hat2
      have B0 : Below w1.heap.size w1 (w1.alloc (.cells (Lay.sl.flat [(a1, r.length, c1)]).toArray 48)) := (Below.refl _ _).alloc (Nat.le_refl _) _
      have HN := Lib.hid ((HOW1.out.below B0).snoc (hd := (a1, r.length, c1)) (HR.out.grown B0) HAp.out ho2 hg2 (by simpa using hat2))
      have hbel2 := (hbel1.trans (B0.mono hsz1)).grown hg2 (by simp; omega) (fun g hg => (HOW1.out.own.lt g hg).1)
      clear ho2 hg2 hat2 B0 HOW1 HR
      go_wp2_with fail
      go_roundw
      case rel => exact ⟨k + 1, _, by omega, by go_num, by rw [Ht.out]; exact HN.out, hbel2⟩
      case measure => simp [intOf]; omega
    · obtain rfl : k = len := by omega
      have hown2 : RowsOwn wr w.heap.size u3 hs rows := by rw [← HLEN.out, List.take_length] at hown; exact hown
      clear hown
      go_wp2_with fail
      go_ret
      exact ⟨_, _, rfl, hown2, hbel⟩

end Go.Proofs.YtjhbabgcoemecaaDoor
