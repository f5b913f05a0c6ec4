/- Walks: Prefix, EqualEvents, CopyEvents, CopyNums, CopyInputs. -/
import Derived.Test.YtjancemacdffbaaDoorVf
import Derived.Laws.StructEq
namespace Go.Proofs.YtjancemacdffbaaDoor
open Go.RowKit

theorem fields75 : Tryd.prog.underlying 75 = some (.struct (Tryd.prog.fieldsOf 75)) := by kernel_rfl
theorem stood75 : Tryd.prog.stoodInHeld 75 = false := by kernel_rfl
theorem fl75 : ((Tryd.prog.fieldsOf 75).toList.map fun f => (f.name, f.type, f.offset)) = [("N", 3, 0), ("Value", 72, 1)] := by kernel_rfl
theorem eqFields_map (d : Nat) (xs ys : Array Value) : ∀ (fs gs : List Field), fs.map (fun f => (f.name, f.type, f.offset)) = gs.map (fun f => (f.name, f.type, f.offset)) → Op.eqFields d xs ys fs = Op.eqFields d xs ys gs
  | [], [], _ => rfl
  | [], g :: gs, h => by simp at h
  | f :: fs, [], h => by simp at h
  | f :: fs, g :: gs, h => by
    simp only [List.map_cons, List.cons.injEq, Prod.mk.injEq] at h
    obtain ⟨⟨h1, h2, h3⟩, h4⟩ := h
    unfold Op.eqFields
    rw [h1, h2, h3, eqFields_map d xs ys fs gs h4]
theorem eq_ev (x y x' y' : Int) (W : World) : (Op.equalIn 10000 75 (.agg #[.int .i64 x, .int .u64 y]) (.agg #[.int .i64 x', .int .u64 y'])).run Tryd.prog W = .ok (x == x' && y == y') W := by
  rw [show (10000 : Nat) = 9998 + 1 + 1 from rfl, run_equalIn_struct W _ 75 _ _ fields75 stood75,
    eqFields_map _ _ _ _ [⟨ "N", 3, 0, false, "", "", 0⟩, ⟨ "Value", 72, 1, false, "", "", 8⟩] fl75]
  cases hx : (x == x') <;> cases hy : (y == y') <;>
    simp [Op.eqFields, part, isAgg, run_underlying Tryd.underlying3, run_underlying Tryd.underlying72, run_equalIn_int, Tryd.underlying3, Tryd.underlying72, hx, hy]
theorem neq_ev (x y x' y' : Int) (W : World) : (binOp .neq 75 (.agg #[.int .i64 x, .int .u64 y]) (.agg #[.int .i64 x', .int .u64 y'])).run Tryd.prog W = .ok (.bool (!(x == x' && y == y'))) W := by
  rw [run_neq_struct, eq_ev]; rfl

/-- two events are the same -/
def pe (p q : Int × Int) : Bool := p.1 == q.1 && p.2 == q.2
theorem pe_iff (p q : Int × Int) : pe p q = true ↔ p = q := by
  obtain ⟨a, b⟩ := p; obtain ⟨c, d⟩ := q
  simp [pe]
/-- one list is a beginning of the other one -/
def preB (xs ys : List (Int × Int)) : Bool := (List.range (min xs.length ys.length)).all fun i => pe (xs.getD i (0, 0)) (ys.getD i (0, 0))
def eqB (xs ys : List (Int × Int)) : Bool := decide (xs.length = ys.length) && preB xs ys
theorem preB_false {xs ys : List (Int × Int)} {k : Nat} (hk : k < min xs.length ys.length) (h : pe (xs.getD k (0, 0)) (ys.getD k (0, 0)) = false) : preB xs ys = false := range_all_false hk h
theorem preB_true {xs ys : List (Int × Int)} (h : ∀ j, j < min xs.length ys.length → pe (xs.getD j (0, 0)) (ys.getD j (0, 0)) = true) : preB xs ys = true := List.all_eq_true.2 fun j hj => h j (List.mem_range.1 hj)

set_option maxHeartbeats 400000 in
theorem prefix_any (a b : Option Addr) (la lb ca cb : Nat) (xs ys : List (Int × Int)) (w : World) (hla : xs.length = la) (hlb : ys.length = lb) (ha : Lay.ev.At (0, 0) w a xs) (hb : Lay.ev.At (0, 0) w b ys) (hsa : la ≤ 100000) (hsb : lb ≤ 100000) :
    Calls Tryd.prog 45 #[.slice a la ca, .slice b lb cb] w fun e w' => e = .returned (.bool (preB xs ys)) ∧ Same w w' := by
  have HA := Lib.hid ha
  have HB := Lib.hid hb
  have HLA := Lib.hid hla
  have HLB := Lib.hid hlb
  have HF := Lib.hid (fun k hk h => preB_false (xs := xs) (ys := ys) (k := k) (by rw [hla, hlb]; exact hk) h)
  have HT := Lib.hid (fun h => preB_true (xs := xs) (ys := ys) (by rw [hla, hlb]; exact h))
  clear ha hb hla hlb
  by_cases hle : lb < la
  all_goals
    go_enter Tryd.func45, Tryd.ntmps45
    go_wp2_with fail
    go_loopw [11] (fun i wr => ∃ k : Nat, k ≤ min la lb ∧ i = .int .i64 k ∧ Same w wr ∧ Hid (∀ j, j < k → pe (xs.getD j (0, 0)) (ys.getD j (0, 0)) = true)) (fun i _ => min la lb - (intOf i).toNat)
    case atStart => exact ⟨0, by omega, rfl, Same.refl _, fun j hj => by omega⟩
    case round =>
      obtain ⟨k, hk, rfl, hS, hall⟩ := hrel
      by_cases hlt : k < la ∧ k < lb
      · obtain ⟨hl1, hl2⟩ := hlt
        have hq1 : k < xs.length := by rw [HLA.out]; exact hl1
        have hq2 : k < ys.length := by rw [HLB.out]; exact hl2
        obtain ⟨pb, po, rfl, hpb, hp0, hp1⟩ := HA.out.ev hq1
        obtain ⟨qb, qo, rfl, hqb, hq0, hq1'⟩ := HB.out.ev hq2
        have hp0' := (hS.cell ⟨pb, po + k * 2, none⟩).trans hp0
        have hp1' := (hS.cell ⟨pb, po + k * 2 + 1, none⟩).trans hp1
        have hq0' := (hS.cell ⟨qb, qo + k * 2, none⟩).trans hq0
        have hq1'' := (hS.cell ⟨qb, qo + k * 2 + 1, none⟩).trans hq1'
        have hi1 : (k : Int) < la := by omega
        have hi2 : (k : Int) < lb := by omega
        have hi3 : k < min la lb := by omega
        have HFk := Lib.hid (HF.out k (by omega))
        have HTk := Lib.hid (fun (e : pe (xs.getD k (0, 0)) (ys.getD k (0, 0)) = true) => (fun j hj => if h : j = k then by rw [h]; exact e else hall j (by omega) : ∀ j, j < k + 1 → pe (xs.getD j (0, 0)) (ys.getD j (0, 0)) = true))
        clear hp0 hp1 hq0 hq1' hq1 hq2
        generalize xs.getD k (0, 0) = X at *
        generalize ys.getD k (0, 0) = Y at *
        obtain ⟨x, y⟩ := X
        obtain ⟨x', y'⟩ := Y
        simp only at hp0' hp1' hq0' hq1''
        cases hpe : pe (x, y) (x', y') with
        | true =>
          have Hall := Lib.hid (HTk.out hpe)
          have hnq : ∀ W, (binOp .neq 75 (.agg #[.int .i64 x, .int .u64 y]) (.agg #[.int .i64 x', .int .u64 y'])).run Tryd.prog W = .ok (.bool false) W := fun W => (neq_ev x y x' y' W).trans (by unfold pe at hpe; rw [hpe]; rfl)
          clear hpe
          go_wp2_with fail
          go_quiet (fail)
          go_wp2_with fail
          go_roundw
          case rel => exact ⟨k + 1, by omega, by go_num, hS.drewN _, Hall.out⟩
          case measure => simp [intOf]; omega
        | false =>
          have HRR := Lib.hid (HFk.out hpe)
          have hnq : ∀ W, (binOp .neq 75 (.agg #[.int .i64 x, .int .u64 y]) (.agg #[.int .i64 x', .int .u64 y'])).run Tryd.prog W = .ok (.bool true) W := fun W => (neq_ev x y x' y' W).trans (by unfold pe at hpe; rw [hpe]; rfl)
          clear hpe
          go_wp2_with fail
          go_quiet (fail)
          go_wp2_with fail
          go_ret
          exact ⟨by rw [HRR.out]; rfl, hS.drewN _⟩
      · have hk2 : k = min la lb := by omega
        have HRR := Lib.hid (HT.out (fun j hj => hall j (by omega)))
        (try (have hge1 : ¬ k < la := by omega))
        (try (have hge2 : ¬ k < lb := by omega))
        go_wp2_with fail
        go_ret
        exact ⟨by rw [HRR.out]; rfl, hS⟩

set_option maxHeartbeats 400000 in
theorem rprefix_any (a b : Option Addr) (la lb ca cb : Nat) (xs ys : List (Int × Int)) (w : World) (hla : xs.length = la) (hlb : ys.length = lb) (ha : Lay.ev.At (0, 0) w a xs) (hb : Lay.ev.At (0, 0) w b ys) (hsa : la ≤ 100000) (hsb : lb ≤ 100000) :
    Calls Tryd.prog 47 #[.slice a la ca, .slice b lb cb] w fun e w' => e = .returned (.bool (preB xs ys)) ∧ Same w w' := by
  have HA := Lib.hid ha
  have HB := Lib.hid hb
  have HLA := Lib.hid hla
  have HLB := Lib.hid hlb
  have HF := Lib.hid (fun k hk h => preB_false (xs := xs) (ys := ys) (k := k) (by rw [hla, hlb]; exact hk) h)
  have HT := Lib.hid (fun h => preB_true (xs := xs) (ys := ys) (by rw [hla, hlb]; exact h))
  clear ha hb hla hlb
  go_enter Tryd.func47, Tryd.ntmps47
  go_wp2_with fail
  go_loopw [5] (fun i wr => ∃ k : Nat, k ≤ min la lb ∧ i = .int .i64 k ∧ Same w wr ∧ Hid (∀ j, j < k → pe (xs.getD j (0, 0)) (ys.getD j (0, 0)) = true)) (fun i _ => min la lb - (intOf i).toNat)
  case atStart => exact ⟨0, by omega, rfl, Same.refl _, fun j hj => by omega⟩
  case round =>
    obtain ⟨k, hk, rfl, hS, hall⟩ := hrel
    by_cases hlt : k < la ∧ k < lb
    · obtain ⟨hl1, hl2⟩ := hlt
      have hq1 : k < xs.length := by rw [HLA.out]; exact hl1
      have hq2 : k < ys.length := by rw [HLB.out]; exact hl2
      obtain ⟨pb, po, rfl, hpb, hp0, hp1⟩ := HA.out.ev hq1
      obtain ⟨qb, qo, rfl, hqb, hq0, hq1'⟩ := HB.out.ev hq2
      have hp0' := (hS.cell ⟨pb, po + k * 2, none⟩).trans hp0
      have hp1' := (hS.cell ⟨pb, po + k * 2 + 1, none⟩).trans hp1
      have hq0' := (hS.cell ⟨qb, qo + k * 2, none⟩).trans hq0
      have hq1'' := (hS.cell ⟨qb, qo + k * 2 + 1, none⟩).trans hq1'
      have hi1 : (k : Int) < la := by omega
      have hi2 : (k : Int) < lb := by omega
      have hi3 : k < min la lb := by omega
      have hi4 : (k : Int) < min (la : Int) (lb : Int) := by omega
      have HFk := Lib.hid (HF.out k (by omega))
      have HTk := Lib.hid (fun (e : pe (xs.getD k (0, 0)) (ys.getD k (0, 0)) = true) => (fun j hj => if h : j = k then by rw [h]; exact e else hall j (by omega) : ∀ j, j < k + 1 → pe (xs.getD j (0, 0)) (ys.getD j (0, 0)) = true))
      clear hp0 hp1 hq0 hq1' hq1 hq2
      generalize xs.getD k (0, 0) = X at *
      generalize ys.getD k (0, 0) = Y at *
      obtain ⟨x, y⟩ := X
      obtain ⟨x', y'⟩ := Y
      simp only at hp0' hp1' hq0' hq1''
      cases hpe : pe (x, y) (x', y') with
      | true =>
        have Hall := Lib.hid (HTk.out hpe)
        have hnq : ∀ W, (binOp .neq 75 (.agg #[.int .i64 x, .int .u64 y]) (.agg #[.int .i64 x', .int .u64 y'])).run Tryd.prog W = .ok (.bool false) W := fun W => (neq_ev x y x' y' W).trans (by unfold pe at hpe; rw [hpe]; rfl)
        clear hpe
        go_wp2_with fail
        go_quiet (fail)
        go_wp2_with fail
        go_roundw
        case rel => exact ⟨k + 1, by omega, by go_num, hS.drewN _, Hall.out⟩
        case measure => simp [intOf]; omega
      | false =>
        have HRR := Lib.hid (HFk.out hpe)
        have hnq : ∀ W, (binOp .neq 75 (.agg #[.int .i64 x, .int .u64 y]) (.agg #[.int .i64 x', .int .u64 y'])).run Tryd.prog W = .ok (.bool true) W := fun W => (neq_ev x y x' y' W).trans (by unfold pe at hpe; rw [hpe]; rfl)
        clear hpe
        go_wp2_with fail
        go_quiet (fail)
        go_wp2_with fail
        go_ret
        exact ⟨by rw [HRR.out]; rfl, hS.drewN _⟩
    · have hk2 : k = min la lb := by omega
      have HRR := Lib.hid (HT.out (fun j hj => hall j (by omega)))
      by_cases h1 : k < la
      · have h2 : ¬ k < lb := by omega
        go_wp2_with fail
        go_ret
        exact ⟨by rw [HRR.out]; rfl, hS⟩
      · have h1' : decide (k < la) = false := by simpa using h1
        go_wp2_with fail
        go_ret
        exact ⟨by rw [HRR.out]; rfl, hS⟩

set_option maxHeartbeats 400000 in
theorem equalE_eq (a b : Option Addr) (la lb ca cb : Nat) (xs ys : List (Int × Int)) (w : World) (hla : xs.length = la) (hlb : ys.length = lb) (ha : Lay.ev.At (0, 0) w a xs) (hb : Lay.ev.At (0, 0) w b ys) (hsa : la ≤ 100000) (hll : la = lb):
    Calls Tryd.prog 40 #[.slice a la ca, .slice b lb cb] w fun e w' => e = .returned (.bool (eqB xs ys)) ∧ Same w w' := by
  have HA := Lib.hid ha
  have HB := Lib.hid hb
  have HLA := Lib.hid hla
  have HLB := Lib.hid hlb
  have HF := Lib.hid (fun k hk h => (show eqB xs ys = false by unfold eqB; rw [preB_false (xs := xs) (ys := ys) (k := k) (by rw [hla, hlb]; exact hk) h, Bool.and_false]))
  have HT := Lib.hid (fun h => (show eqB xs ys = true by unfold eqB; rw [preB_true (xs := xs) (ys := ys) (by rw [hla, hlb]; exact h), hla, hlb, hll]; simp))
  have hne : ((la : Int) != lb) = false := by simp; omega
  clear ha hb hla hlb
  go_enter Tryd.func40, Tryd.ntmps40
  go_wp2_with fail
  go_loopw [5] (fun i wr => ∃ k : Nat, k ≤ min la lb ∧ i = .int .i64 k ∧ Same w wr ∧ Hid (∀ j, j < k → pe (xs.getD j (0, 0)) (ys.getD j (0, 0)) = true)) (fun i _ => min la lb - (intOf i).toNat)
  case atStart => exact ⟨0, by omega, rfl, Same.refl _, fun j hj => by omega⟩
  case round =>
    obtain ⟨k, hk, rfl, hS, hall⟩ := hrel
    by_cases hlt : k < la ∧ k < lb
    · obtain ⟨hl1, hl2⟩ := hlt
      have hq1 : k < xs.length := by rw [HLA.out]; exact hl1
      have hq2 : k < ys.length := by rw [HLB.out]; exact hl2
      obtain ⟨pb, po, rfl, hpb, hp0, hp1⟩ := HA.out.ev hq1
      obtain ⟨qb, qo, rfl, hqb, hq0, hq1'⟩ := HB.out.ev hq2
      have hp0' := (hS.cell ⟨pb, po + k * 2, none⟩).trans hp0
      have hp1' := (hS.cell ⟨pb, po + k * 2 + 1, none⟩).trans hp1
      have hq0' := (hS.cell ⟨qb, qo + k * 2, none⟩).trans hq0
      have hq1'' := (hS.cell ⟨qb, qo + k * 2 + 1, none⟩).trans hq1'
      have hi1 : (k : Int) < la := by omega
      have hi2 : (k : Int) < lb := by omega
      have hi3 : k < min la lb := by omega
      have hi4 : (k : Int) < min (la : Int) (lb : Int) := by omega
      have HFk := Lib.hid (HF.out k (by omega))
      have HTk := Lib.hid (fun (e : pe (xs.getD k (0, 0)) (ys.getD k (0, 0)) = true) => (fun j hj => if h : j = k then by rw [h]; exact e else hall j (by omega) : ∀ j, j < k + 1 → pe (xs.getD j (0, 0)) (ys.getD j (0, 0)) = true))
      clear hp0 hp1 hq0 hq1' hq1 hq2
      generalize xs.getD k (0, 0) = X at *
      generalize ys.getD k (0, 0) = Y at *
      obtain ⟨x, y⟩ := X
      obtain ⟨x', y'⟩ := Y
      simp only at hp0' hp1' hq0' hq1''
      cases hpe : pe (x, y) (x', y') with
      | true =>
        have Hall := Lib.hid (HTk.out hpe)
        have hnq : ∀ W, (binOp .neq 75 (.agg #[.int .i64 x, .int .u64 y]) (.agg #[.int .i64 x', .int .u64 y'])).run Tryd.prog W = .ok (.bool false) W := fun W => (neq_ev x y x' y' W).trans (by unfold pe at hpe; rw [hpe]; rfl)
        clear hpe
        go_wp2_with fail
        go_quiet (fail)
        go_wp2_with fail
        go_roundw
        case rel => exact ⟨k + 1, by omega, by go_num, hS.drewN _, Hall.out⟩
        case measure => simp [intOf]; omega
      | false =>
        have HRR := Lib.hid (HFk.out hpe)
        have hnq : ∀ W, (binOp .neq 75 (.agg #[.int .i64 x, .int .u64 y]) (.agg #[.int .i64 x', .int .u64 y'])).run Tryd.prog W = .ok (.bool true) W := fun W => (neq_ev x y x' y' W).trans (by unfold pe at hpe; rw [hpe]; rfl)
        clear hpe
        go_wp2_with fail
        go_quiet (fail)
        go_wp2_with fail
        go_ret
        exact ⟨by rw [HRR.out]; rfl, hS.drewN _⟩
    · have hk2 : k = min la lb := by omega
      have HRR := Lib.hid (HT.out (fun j hj => hall j (by omega)))
      have h1 : ¬ k < la := by omega
      go_wp2_with fail
      go_ret
      exact ⟨by rw [HRR.out]; rfl, hS⟩

set_option maxHeartbeats 400000 in
theorem equalE_any (a b : Option Addr) (la lb ca cb : Nat) (xs ys : List (Int × Int)) (w : World) (hla : xs.length = la) (hlb : ys.length = lb) (ha : Lay.ev.At (0, 0) w a xs) (hb : Lay.ev.At (0, 0) w b ys) (hsa : la ≤ 100000) :
    Calls Tryd.prog 40 #[.slice a la ca, .slice b lb cb] w fun e w' => e = .returned (.bool (eqB xs ys)) ∧ Same w w' := by
  by_cases h : la = lb
  · exact equalE_eq a b la lb ca cb xs ys w hla hlb ha hb hsa h
  · have HR : Hid (eqB xs ys = false) := by show _ = _; unfold eqB; rw [hla, hlb]; simp [h]
    have hne : ((la : Int) != lb) = true := by simp; omega
    clear hla hlb ha hb
    go_enter Tryd.func40, Tryd.ntmps40
    go_wp2_with fail
    go_ret
    exact ⟨by rw [HR.out]; rfl, Same.refl _⟩

end Go.Proofs.YtjancemacdffbaaDoor
