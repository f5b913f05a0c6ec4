/- Walks: copies of booleans and numbers; equal lists of booleans and events. -/
import Derived.Test.YtjhbabgcoemecaaDoorVf
import Derived.Laws.StructEq
namespace Go.Proofs.YtjhbabgcoemecaaDoor
open Go.RowKit

theorem fields80 : Tryd.prog.underlying 80 = some (.struct (Tryd.prog.fieldsOf 80)) := by kernel_rfl
theorem stood80 : Tryd.prog.stoodInHeld 80 = false := by kernel_rfl
theorem fl80 : ((Tryd.prog.fieldsOf 80).toList.map fun f => (f.name, f.type, f.offset)) = [("N", 3, 0), ("Value", 33, 1)] := by kernel_rfl
theorem eqFields_map (d : Nat) (xs ys : Array Value) : ∀ (fs gs : List Field), fs.map (fun f => (f.name, f.type, f.offset)) = gs.map (fun f => (f.name, f.type, f.offset)) → Op.eqFields d xs ys fs = Op.eqFields d xs ys gs
  | [], [], _ => rfl
  | [], g :: gs, h => by simp at h
  | f :: fs, [], h => by simp at h
  | f :: fs, g :: gs, h => by
    simp only [List.map_cons, List.cons.injEq, Prod.mk.injEq] at h
    obtain ⟨⟨h1, h2, h3⟩, h4⟩ := h
    unfold Op.eqFields
    rw [h1, h2, h3, eqFields_map d xs ys fs gs h4]
theorem eq_ev (x y x' y' : Int) (W : World) : (Op.equalIn 10000 80 (.agg #[.int .i64 x, .int .u64 y]) (.agg #[.int .i64 x', .int .u64 y'])).run Tryd.prog W = .ok (x == x' && y == y') W := by
  rw [show (10000 : Nat) = 9998 + 1 + 1 from rfl, run_equalIn_struct W _ 80 _ _ fields80 stood80,
    eqFields_map _ _ _ _ [⟨"N", 3, 0, false, "", "", 0⟩, ⟨"Value", 33, 1, false, "", "", 8⟩] fl80]
  cases hx : (x == x') <;> cases hy : (y == y') <;>
    simp [Op.eqFields, part, isAgg, run_underlying Tryd.underlying3, run_underlying Tryd.underlying33, run_equalIn_int, Tryd.underlying3, Tryd.underlying33, hx, hy]
theorem neq_ev (x y x' y' : Int) (W : World) : (binOp .neq 80 (.agg #[.int .i64 x, .int .u64 y]) (.agg #[.int .i64 x', .int .u64 y'])).run Tryd.prog W = .ok (.bool (!(x == x' && y == y'))) W := by
  rw [run_neq_struct, eq_ev]; rfl


def Lay.sev : Lay (Int × Int) := ⟨2, fun p => [.int .i64 p.1, .int .i64 p.2], fun _ => rfl, fun x u hu => by simp at hu; rcases hu with rfl | rfl <;> rfl, by decide⟩
theorem Lay.At.sev {w : World} {a : Option Addr} {xs : List (Int × Int)} (h : Lay.sev.At (0, 0) w a xs) {i : Nat} (hi : i < xs.length) :
    ∃ b o, a = some ⟨b, o, none⟩ ∧ b < w.heap.size ∧ w.cell? ⟨b, o + i * 2, none⟩ = some (.int .i64 (xs.getD i (0, 0)).1) ∧ w.cell? ⟨b, o + i * 2 + 1, none⟩ = some (.int .i64 (xs.getD i (0, 0)).2) := by
  obtain ⟨b, o, e, h0, h1⟩ := h i hi
  have e0 := h1 0 (by decide)
  have e1 := h1 1 (by decide)
  simp only [Lay.sev, Nat.add_zero] at e0 e1
  exact ⟨b, o, e, h0, by simpa using e0, by simpa using e1⟩
theorem Lay.At.bool {w : World} {a : Option Addr} {xs : List Bool} (h : Lay.bool.At false w a xs) {i : Nat} (hi : i < xs.length) :
    ∃ b o, a = some ⟨b, o, none⟩ ∧ b < w.heap.size ∧ w.cell? ⟨b, o + i, none⟩ = some (.bool (xs.getD i false)) := by
  obtain ⟨b, o, e, h0, h1⟩ := h i hi
  have := h1 0 (by decide)
  simp only [Lay.bool, Nat.mul_one, Nat.add_zero] at this
  exact ⟨b, o, e, h0, by simpa using this⟩

set_option maxHeartbeats 400000 in
theorem copyI62 (a : Option Addr) (len cap : Nat) (xs : List Int) (w : World) (hlen : xs.length = len) (hat : (Lay.int .i64).At 0 w a xs) (hsm : len ≤ 100000) :
    Calls Tryd.prog 62 #[.slice a len cap] w fun e w' => ∃ v, e = .returned v ∧ (Lay.int .i64).Own 3 w' w.heap.size v xs ∧ Below w.heap.size w w' := by
  have HA := Lib.hid hat
  have HLEN := Lib.hid hlen
  clear hat hlen
  go_enter Tryd.func62, Tryd.ntmps62
  go_wp2_with fail
  go_loopw [3, 4] (fun v i wr => ∃ k : Nat, k ≤ len ∧ i = .int .i64 k ∧ (Lay.int .i64).Own 3 wr w.heap.size v (xs.take k) ∧ Below w.heap.size w wr) (fun _ i _ => len - (intOf i).toNat)
  case atStart => exact ⟨0, by omega, rfl, Lay.Own.nil _ _, Below.refl _ _⟩
  case round =>
    obtain ⟨k, hk, rfl, hown, hbel⟩ := hrel
    have hsz := hbel.size
    by_cases hlt : k < len
    · have hq : k < xs.length := by rw [HLEN.out]; exact hlt
      obtain ⟨pb, po, rfl, hpb, hp0⟩ := HA.out.int hq
      have hp0' := (hbel.cell (p := ⟨pb, po + k, none⟩) hpb).trans hp0
      have Ht := Lib.hid (take_getD 0 xs k hq)
      have hlt2 : (xs.take k).length ≤ 100000 := by rw [List.length_take]; omega
      clear hp0 hq
      generalize xs.getD k 0 = x at *
      go_wp2_with (at_builtin; refine app_lay_new Tryd.elemI [x] rfl _ _ rfl rfl hown rfl rfl (by omega) hsz ?_)
      intro v' w1 r1 r2
      clear hown
      go_wp2_with fail
      go_roundw
      case rel => exact ⟨k + 1, by omega, by go_num, by rw [Ht.out]; exact r1, hbel.trans r2⟩
      case measure => simp [intOf]; omega
    · obtain rfl : k = len := by omega
      have hown2 : (Lay.int .i64).Own 3 wr w.heap.size u3 xs := by rw [← HLEN.out, List.take_length] at hown; exact hown
      clear hown
      go_wp2_with fail
      go_ret
      exact ⟨_, rfl, hown2, hbel⟩
set_option maxHeartbeats 400000 in
theorem copyB61 (a : Option Addr) (len cap : Nat) (xs : List Bool) (w : World) (hlen : xs.length = len) (hat : Lay.bool.At false w a xs) (hsm : len ≤ 100000) :
    Calls Tryd.prog 61 #[.slice a len cap] w fun e w' => ∃ v, e = .returned v ∧ Lay.bool.Own 4 w' w.heap.size v xs ∧ Below w.heap.size w w' := by
  have HA := Lib.hid hat
  have HLEN := Lib.hid hlen
  clear hat hlen
  go_enter Tryd.func61, Tryd.ntmps61
  go_wp2_with fail
  go_loopw [3, 4] (fun v i wr => ∃ k : Nat, k ≤ len ∧ i = .int .i64 k ∧ Lay.bool.Own 4 wr w.heap.size v (xs.take k) ∧ Below w.heap.size w wr) (fun _ i _ => len - (intOf i).toNat)
  case atStart => exact ⟨0, by omega, rfl, Lay.Own.nil _ _, Below.refl _ _⟩
  case round =>
    obtain ⟨k, hk, rfl, hown, hbel⟩ := hrel
    have hsz := hbel.size
    by_cases hlt : k < len
    · have hq : k < xs.length := by rw [HLEN.out]; exact hlt
      obtain ⟨pb, po, rfl, hpb, hp0⟩ := HA.out.bool hq
      have hp0' := (hbel.cell (p := ⟨pb, po + k, none⟩) hpb).trans hp0
      have Ht := Lib.hid (take_getD false xs k hq)
      have hlt2 : (xs.take k).length ≤ 100000 := by rw [List.length_take]; omega
      clear hp0 hq
      generalize xs.getD k false = x at *
      go_wp2_with (at_builtin; refine app_lay_new Tryd.elemB [x] rfl _ _ rfl rfl hown rfl rfl (by omega) hsz ?_)
      intro v' w1 r1 r2
      clear hown
      go_wp2_with fail
      go_roundw
      case rel => exact ⟨k + 1, by omega, by go_num, by rw [Ht.out]; exact r1, hbel.trans r2⟩
      case measure => simp [intOf]; omega
    · obtain rfl : k = len := by omega
      have hown2 : Lay.bool.Own 4 wr w.heap.size u3 xs := by rw [← HLEN.out, List.take_length] at hown; exact hown
      clear hown
      go_wp2_with fail
      go_ret
      exact ⟨_, rfl, hown2, hbel⟩

set_option maxHeartbeats 400000 in
theorem same44 (a b : Option Addr) (la ca cb : Nat) (xs : List Bool) (w : World) (hla : xs.length = la) (ha : Lay.bool.At false w a xs) (hb : Lay.bool.At false w b xs) (hsa : la ≤ 1000) :
    Calls Tryd.prog 44 #[.slice a la ca, .slice b la cb] w fun e w' => e = .returned (.bool true) ∧ Same w w' := by
  have HA := Lib.hid ha
  have HB := Lib.hid hb
  have HLA := Lib.hid hla
  clear ha hb hla
  go_enter Tryd.func44, Tryd.ntmps44
  go_wp2_with fail
  go_loopw [5] (fun i wr => ∃ k : Nat, k ≤ la ∧ i = .int .i64 k ∧ Same w wr) (fun i _ => la - (intOf i).toNat)
  case atStart => exact ⟨0, by omega, rfl, Same.refl _⟩
  case round =>
    obtain ⟨k, hk, rfl, hS⟩ := hrel
    by_cases hlt : k < la
    · have hq1 : k < xs.length := by rw [HLA.out]; exact hlt
      obtain ⟨pb, po, rfl, hpb, hp0⟩ := HA.out.bool hq1
      obtain ⟨qb, qo, rfl, hqb, hq0⟩ := HB.out.bool hq1
      have hp0' := (hS.cell ⟨pb, po + k, none⟩).trans hp0
      have hq0' := (hS.cell ⟨qb, qo + k, none⟩).trans hq0
      have hi1 : (k : Int) < la := by omega
      clear hp0 hq0 hq1
      generalize xs.getD k false = x at *
      have hn : (x != x) = false := by simp
      go_wp2_with fail
      go_quiet (fail)
      go_wp2_with fail
      go_roundw
      case rel => exact ⟨k + 1, by omega, by go_num, hS.drewN _⟩
      case measure => simp [intOf]; omega
    · go_wp2_with fail
      go_ret
      exact ⟨rfl, hS⟩
set_option maxHeartbeats 400000 in
theorem same63 (a b : Option Addr) (la ca cb : Nat) (xs : List (Int × Int)) (w : World) (hla : xs.length = la) (ha : Lay.ev.At (0, 0) w a xs) (hb : Lay.ev.At (0, 0) w b xs) (hsa : la ≤ 1000) :
    Calls Tryd.prog 63 #[.slice a la ca, .slice b la cb] w fun e w' => e = .returned (.bool true) ∧ Same w w' := by
  have HA := Lib.hid ha
  have HB := Lib.hid hb
  have HLA := Lib.hid hla
  clear ha hb hla
  go_enter Tryd.func63, Tryd.ntmps63
  go_wp2_with fail
  go_loopw [5] (fun i wr => ∃ k : Nat, k ≤ la ∧ i = .int .i64 k ∧ Same w wr) (fun i _ => la - (intOf i).toNat)
  case atStart => exact ⟨0, by omega, rfl, Same.refl _⟩
  case round =>
    obtain ⟨k, hk, rfl, hS⟩ := hrel
    by_cases hlt : k < la
    · have hq1 : k < xs.length := by rw [HLA.out]; exact hlt
      obtain ⟨pb, po, rfl, hpb, hp0, hp1⟩ := HA.out.ev hq1
      obtain ⟨qb, qo, rfl, hqb, hq0, hq2⟩ := HB.out.ev hq1
      have hp0' := (hS.cell ⟨pb, po + k * 2, none⟩).trans hp0
      have hq0' := (hS.cell ⟨qb, qo + k * 2, none⟩).trans hq0
      have hp1' := (hS.cell ⟨pb, po + k * 2 + 1, none⟩).trans hp1
      have hq1' := (hS.cell ⟨qb, qo + k * 2 + 1, none⟩).trans hq2
      have hi1 : (k : Int) < la := by omega
      clear hp0 hq0 hq1 hp1 hq2
      generalize (xs.getD k (0, 0)).1 = x at *
      generalize (xs.getD k (0, 0)).2 = y at *
      have hnq : ∀ W, (binOp .neq 80 (.agg #[.int .i64 x, .int .u64 y]) (.agg #[.int .i64 x, .int .u64 y])).run Tryd.prog W = .ok (.bool false) W := fun W => (neq_ev x y x y W).trans (by simp)
      go_wp2_with fail
      go_quiet (fail)
      go_wp2_with fail
      go_roundw
      case rel => exact ⟨k + 1, by omega, by go_num, hS.drewN _⟩
      case measure => simp [intOf]; omega
    · go_wp2_with fail
      go_ret
      exact ⟨rfl, hS⟩
end Go.Proofs.YtjhbabgcoemecaaDoor
namespace Go.Proofs.YtjhbabgcoemecaaDoor
open Go.RowKit

section
variable {α : Type} {L : Lay α} {d : α} {t e : TypeId} {z : Value} {bytes : Nat}
theorem run_some (T : ElemT Tryd.prog L t e z bytes) {w : World} {base : Nat} {v : Value} {ps qs : List α} {ad : Addr} {m c : Nat} (hown : L.Own e w base v ps) (hm : qs.length = m) (hnews : ∀ j u, (L.flat qs)[j]? = some u → w.cell? (ad.add j) = some u)
    (hl : ps.length + m ≤ 1000000) (hbase : base ≤ w.heap.size) (ty : TypeId) :
    ∃ v' w', (Builtin.append_ #[t, t] ty #[v, .slice (some ad) m c]).run Tryd.prog w = .ok v' w' ∧ L.Own e w' base v' (ps ++ qs) ∧ w.grownBy w' v.ownBlock ∧ (v'.ownBlock = v.ownBlock ∨ v'.ownBlock = some w.heap.size) := by
  obtain ⟨i0, hi, hz0, hz1, hz2⟩ := info_parts T.info
  subst hm
  have hb := T.by_
  have hbs : (ps.length + qs.length) * bytes ≤ 140737488355328 := by
    have := Nat.mul_le_mul hl hb
    omega
  obtain ⟨v', w', hr, h1, h2, _, h4⟩ := run_append_own_at (P := Tryd.prog) w base t ty e i0 _ L.sz bytes T.und hi hz0 hz1 hz2 T.zs L.pos v ps.length (L.flat ps) hown ad qs.length c (L.flat qs) (L.flat_length qs) hnews (L.flat_one qs) (by unfold maxLen; omega) hbs hbase
  refine ⟨v', w', hr, ?_, h2, h4⟩
  unfold Lay.Own
  rw [L.flat_append, List.length_append]
  exact h1
theorem run_at (T : ElemT Tryd.prog L t e z bytes) {w : World} {base : Nat} {v : Value} {ps qs : List α} {A : Option Addr} {m c : Nat} (hown : L.Own e w base v ps) (hA : A = none → c = 0) (hm : qs.length = m) (hat : L.At d w A qs)
    (hl : ps.length + m ≤ 1000000) (hbase : base ≤ w.heap.size) (ty : TypeId) :
    ∃ v' w', (Builtin.append_ #[t, t] ty #[v, .slice A m c]).run Tryd.prog w = .ok v' w' ∧ L.Own e w' base v' (ps ++ qs) ∧ w.grownBy w' v.ownBlock ∧ (v'.ownBlock = v.ownBlock ∨ v'.ownBlock = some w.heap.size) := by
  cases A with
  | none =>
    have hq : qs = [] := by
      cases qs with
      | nil => rfl
      | cons q qs => obtain ⟨b, o, e, _⟩ := hat 0 (by simp); cases e
    subst hq
    obtain rfl := hA rfl
    simp at hm
    subst hm
    obtain ⟨i0, hi, hz0, hz1, hz2⟩ := info_parts T.info
    refine ⟨v, w, run_append_owned_none (P := Tryd.prog) (w := w) base t ty e i0 L.sz T.und hi v ps.length (L.flat ps) hown, ?_, World.grownBy.refl w _, .inl rfl⟩
    rw [List.append_nil]
    exact hown
  | some ad =>
    refine run_some T hown hm (fun j u hj => ?_) hl hbase ty
    have hj' := (List.getElem?_eq_some_iff.1 hj).1
    rw [L.flat_length] at hj'
    have hp := L.pos
    have hi : j / L.sz < qs.length := Nat.div_lt_of_lt_mul (by rw [Nat.mul_comm]; exact hj')
    obtain ⟨b, o, e, _, h1⟩ := hat (j / L.sz) hi
    injection e with e; subst e
    have hm := Nat.mod_lt j hp
    have e2 : j / L.sz * L.sz + j % L.sz = j := by rw [Nat.mul_comm]; exact Nat.div_add_mod j L.sz
    have := h1 (j % L.sz) hm
    rw [Nat.add_assoc, e2, ← L.flat_at d qs _ _ hi hm, e2] at this
    rw [add_at, this, hj]
/-- 'append(l, s...)' in a region that draws -/
theorem step_at (T : ElemT Tryd.prog L t e z bytes) {W : World} {ops : Array Oper} {o : Oper} {a : Act} {K : Act → World → Prop} {Q : Exit → Act → World → Prop} {E : Prop} (hgd : o.guard = none) (s x : Operand)
    (ho : o.op = .call { callee := .builtin .append, args := #[s, x], argTypes := #[t, t] }) {base : Nat} {v : Value} {ps qs : List α} {A : Option Addr} {m c : Nat}
    (hs : a.eval s = v) (hown : L.Own e W base v ps) (hx : a.eval x = .slice A m c) (hA : A = none → c = 0) (hm : qs.length = m) (hat : L.At d W A qs)
    (hl : ps.length + m ≤ 1000000) (hbase : base ≤ W.heap.size)
    (h : ∀ v' w', L.Own e w' base v' (ps ++ qs) → W.grownBy w' v.ownBlock → (v'.ownBlock = v.ownBlock ∨ v'.ownBlock = some W.heap.size) → K (a.put o.dst v') w') :
    if Region.wanted o (yielded ops a.tmps) = true then Oper.wp Tryd.prog o a W K Q else E := by
  have hw : Region.wanted o (yielded ops a.tmps) = true := by simp [Region.wanted, hgd]
  rw [if_pos hw]
  obtain ⟨v', w', hr, h1, h2, h3⟩ := run_at T hown hA hm hat hl hbase o.type
  exact Lib.wp_append_run W s x t t ho v _ hs hx v' w' hr (h v' w' h1 h2 h3)
/-- 'append(l, q)' in a region that draws -/
theorem step_one (T : ElemT Tryd.prog L t e z bytes) {W : World} {ops : Array Oper} {o : Oper} {a : Act} {K : Act → World → Prop} {Q : Exit → Act → World → Prop} {E : Prop} (hgd : o.guard = none) (s x : Operand)
    (ho : o.op = .call { callee := .builtin .append, args := #[s, x], argTypes := #[t, t] }) {base : Nat} {v : Value} {ps : List α} (q : α) {ad : Addr} {c : Nat}
    (hs : a.eval s = v) (hown : L.Own e W base v ps) (hx : a.eval x = .slice (some ad) 1 c) (hnews : ∀ j u, (L.flat [q])[j]? = some u → W.cell? (ad.add j) = some u)
    (hl : ps.length ≤ 1000) (hbase : base ≤ W.heap.size)
    (h : ∀ v' w', L.Own e w' base v' (ps ++ [q]) → W.grownBy w' v.ownBlock → (v'.ownBlock = v.ownBlock ∨ v'.ownBlock = some W.heap.size) → K (a.put o.dst v') w') :
    if Region.wanted o (yielded ops a.tmps) = true then Oper.wp Tryd.prog o a W K Q else E := by
  have hw : Region.wanted o (yielded ops a.tmps) = true := by simp [Region.wanted, hgd]
  rw [if_pos hw]
  obtain ⟨v', w', hr, h1, h2, h3⟩ := run_some T (c := c) hown (qs := [q]) rfl hnews (by simp; omega) hbase o.type
  exact Lib.wp_append_run W s x t t ho v _ hs hx v' w' hr (h v' w' h1 h2 h3)
/-- 'make([]T, 0, n)' -/
theorem make_room {P : Program} (T : ElemT P L t e z bytes) {w : World} {ops : Array Oper} {rest : List Oper} {o : Oper} {a : Act} {Q : Exit → Act → World → Prop} (hg : o.guard = none) (l c : Operand) (hop : o.op = Op.makeSlice t l c)
    (base n : Nat) (x : Int) (hl : a.eval l = .int .i64 0) (hc : a.eval c = .int .i64 x) (hx : x = (n : Int)) (hn : n ≤ 100000) (g : Nat) (hgz : w.heap.size = g) (hb : base ≤ g)
    (hK : ∀ w', L.Own e w' base (.slice (some ⟨g, 0, none⟩) 0 n) [] → Below base w w' → wpList P ops Q rest (a.put o.dst (.slice (some ⟨g, 0, none⟩) 0 n)) w') : wpList P ops Q (o :: rest) a w := by
  subst hgz
  obtain ⟨i0, hi, hz0, hz1, hz2⟩ := info_parts T.info
  have hby := T.by_
  refine wpList_make_own w hg l c t hop base e i0 z L.sz T.und hi hz0 hz1 .i64 .i64 x n hl hc hx (by rw [hz2]; have : bytes * n ≤ 100 * 100000 := Nat.mul_le_mul hby hn; omega) (by unfold maxLen; omega) hb ?_
  intro w' h1 h2
  exact hK w' h1 ((Below.refl base w).grown h2 hb (fun k hk => by cases hk))
end
end Go.Proofs.YtjhbabgcoemecaaDoor
