/- Walks: equal lists of numbers, equal nodes. -/
import Derived.Test.YtcckmkidmelbnaaGreatDoorGp
import Derived.Test.YtcckmkidmelbnaaGreatDoorPb
namespace Go.Proofs.YtcckmkidmelbnaaGreatDoor
open Go.RowKit
set_option maxHeartbeats 400000 in
theorem eqI_any (a b : Option Addr) (la lb ca cb : Nat) (xs ys : List Int) (w : World) (hla : xs.length = la) (hlb : ys.length = lb) (ha : (Lay.int .i64).At 0 w a xs) (hb : (Lay.int .i64).At 0 w b ys) (hsa : la ≤ 1000000) :
    Calls Tryz.prog 164 #[.slice a la ca, .slice b lb cb] w fun e w' => e = .returned (.bool (eqU xs ys)) ∧ Same w w' := by
  by_cases hll : la = lb
  · have HA := Lib.hid ha
    have HB := Lib.hid hb
    have HLA := Lib.hid hla
    have HLB := Lib.hid hlb
    have HF := Lib.hid (fun k h => eqU_false (xs := xs) (ys := ys) (k := k) h)
    have HT := Lib.hid (fun h => eqU_true (xs := xs) (ys := ys) (by rw [hla, hlb]; exact hll) h)
    have hne : ((la : Int) != lb) = false := by simp; omega
    clear ha hb hla hlb
    go_enter Tryz.func164, Tryz.ntmps164
    go_wp2_with fail
    go_loopw [5] (fun i wr => ∃ k : Nat, k ≤ la ∧ i = .int .i64 k ∧ Same w wr ∧ Hid (∀ j, j < k → xs.getD j 0 = ys.getD j 0)) (fun i _ => la - (intOf i).toNat)
    case atStart => exact ⟨0, by omega, rfl, Same.refl _, fun j hj => by omega⟩
    case round =>
      obtain ⟨k, hk, rfl, hS, hall⟩ := hrel
      by_cases hlt : k < la
      · have hq1 : k < xs.length := by rw [HLA.out]; exact hlt
        have hq2 : k < ys.length := by rw [HLB.out]; omega
        obtain ⟨pb, po, rfl, hpb, hp0⟩ := HA.out.int hq1
        obtain ⟨qb, qo, rfl, hqb, hq0⟩ := HB.out.int hq2
        have hp0' := (hS.cell ⟨pb, po + k, none⟩).trans hp0
        have hq0' := (hS.cell ⟨qb, qo + k, none⟩).trans hq0
        have hi1 : (k : Int) < la := by omega
        have hi2 : (k : Int) < lb := by omega
        have hi3 : k < lb := by omega
        have HFk := Lib.hid (HF.out k)
        have HTk := Lib.hid (fun (e : xs.getD k 0 = ys.getD k 0) => (fun j hj => if h : j = k then by rw [h]; exact e else hall j (by omega) : ∀ j, j < k + 1 → xs.getD j 0 = ys.getD j 0))
        clear hp0 hq0 hq1 hq2
        generalize xs.getD k 0 = x at *
        generalize ys.getD k 0 = y at *
        by_cases hxy : x = y
        · have Hall := Lib.hid (HTk.out hxy)
          have hn : (x != y) = false := by simpa using hxy
          clear hxy
          go_wp2_with fail
          go_quiet (fail)
          go_wp2_with fail
          go_roundw
          case rel => exact ⟨k + 1, by omega, by go_num, hS.drewN _, Hall.out⟩
          case measure => simp [intOf]; omega
        · have HRR := Lib.hid (HFk.out hxy)
          have hn : (x != y) = true := by simpa using hxy
          clear hxy
          go_wp2_with fail
          go_quiet (fail)
          go_wp2_with fail
          go_ret
          exact ⟨by rw [HRR.out]; rfl, hS.drewN _⟩
      · have HRR := Lib.hid (HT.out (fun j hj => hall j (by rw [HLA.out] at hj; omega)))
        go_wp2_with fail
        go_ret
        exact ⟨by rw [HRR.out]; rfl, hS⟩
  · have HR : Hid (eqU xs ys = false) := decide_eq_false fun e => hll (by rw [← hla, ← hlb, e])
    have hne : ((la : Int) != lb) = true := by simp; omega
    clear hla hlb ha hb
    go_enter Tryz.func164, Tryz.ntmps164
    go_wp2_with fail
    go_ret
    exact ⟨by rw [HR.out]; rfl, Same.refl _⟩
/-- whether nodes are equal, as the reference asks -/
theorem eqN_dec (n m : Nd) : decide (n = m) = (decide (n.op = m.op) && (decide (n.num = m.num) && decide (n.args = m.args))) := by
  obtain ⟨o, u, l⟩ := n
  obtain ⟨p, v, r⟩ := m
  by_cases h1 : o = p <;> by_cases h2 : u = v <;> by_cases h3 : l = r <;> simp [h1, h2, h3]
theorem eqU_ints (l r : List Nat) : eqU (intsN l) (intsN r) = decide (l = r) := by
  unfold eqU intsN
  apply decide_eq_decide.2
  constructor
  · intro h
    have := congrArg (List.map Int.toNat) h
    simpa [List.map_map, Function.comp_def] using this
  · rintro rfl; rfl
def EqPost (b : Bool) (w : World) (e : Ending) (w' : World) : Prop := e = .returned (.bool b) ∧ Below w.heap.size w w'
set_option maxHeartbeats 1000000 in
theorem eqN83 (n m : Nd) (a b : Option Addr) (ca cb : Nat) (w : World) (ha : (Lay.int .i64).At 0 w a (intsN n.args)) (hb : (Lay.int .i64).At 0 w b (intsN m.args)) (hl : n.args.length ≤ 1000) :
    Calls Tryz.prog 118 #[.agg #[.int .u8 n.op, .int .u64 n.num, .slice a n.args.length ca], .agg #[.int .u8 m.op, .int .u64 m.num, .slice b m.args.length cb]] w (EqPost (decide (n = m)) w) := by
  have HA := Lib.hid ha
  have HB := Lib.hid hb
  have HQ := Lib.hid (eqN_dec n m)
  have HL := Lib.hid hl
  have HE : Hid (∀ w', Below w.heap.size w w' → Calls Tryz.prog 164 #[.slice a n.args.length ca, .slice b m.args.length cb] w' fun e w'' => e = .returned (.bool (decide (n.args = m.args))) ∧ Same w' w'') := Lib.hid fun w' hb' => by
    have := eqI_any a b n.args.length m.args.length ca cb (intsN n.args) (intsN m.args) w' (by simp [intsN]) (by simp [intsN]) (ha.below hb') (hb.below hb') (by omega)
    rwa [eqU_ints] at this
  clear ha hb hl
  by_cases h1 : n.op = m.op
  · rw [decide_eq_true h1, Bool.true_and] at HQ
    have d1 : ((n.op : Int) == m.op) = true := by simp; omega
    clear h1
    by_cases h2 : n.num = m.num
    · rw [decide_eq_true h2, Bool.true_and] at HQ
      have d2 : ((n.num : Int) == m.num) = true := by simp; omega
      clear h2
      generalize n.args.length = l1 at *
      generalize m.args.length = l2 at *
      go_enter Tryz.func118, Tryz.ntmps118
      go_wp2_with (go_at_call 164; refine (HE.out _ (((Below.refl _ _).alloc (Nat.le_refl _) _).alloc (by simp) _)).mono ?_; rintro e w3 ⟨rfl, hs3⟩)
      go_ret
      refine ⟨by rw [HQ.out]; rfl, ?_⟩
      obtain ⟨q, rfl⟩ := hs3
      have := (((Below.refl w.heap.size w).alloc (Nat.le_refl _) (Obj.cells #[Value.int IntKind.u8 n.op, Value.int IntKind.u64 n.num, Value.slice a l1 ca] 141)).alloc (by simp) (Obj.cells #[Value.int IntKind.u8 m.op, Value.int IntKind.u64 m.num, Value.slice b l2 cb] 141))
      exact ⟨this.os, this.tape, this.output, this.size, this.block⟩
    · rw [decide_eq_false h2, Bool.false_and] at HQ
      have d2 : ((n.num : Int) == m.num) = false := by simp; omega
      clear h2
      go_enter Tryz.func118, Tryz.ntmps118
      go_wp2_with fail
      go_ret
      exact ⟨by rw [HQ.out]; rfl, ((Below.refl _ _).alloc (Nat.le_refl _) _).alloc (by simp) _⟩
  · rw [decide_eq_false h1, Bool.false_and] at HQ
    have d1 : ((n.op : Int) == m.op) = false := by simp; omega
    clear h1
    go_enter Tryz.func118, Tryz.ntmps118
    go_wp2_with fail
    go_ret
    exact ⟨by rw [HQ.out]; rfl, ((Below.refl _ _).alloc (Nat.le_refl _) _).alloc (by simp) _⟩
end Go.Proofs.YtcckmkidmelbnaaGreatDoor
