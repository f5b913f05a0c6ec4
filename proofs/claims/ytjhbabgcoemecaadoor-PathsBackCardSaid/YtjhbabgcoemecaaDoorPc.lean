/- Walks: EqualNums, EqualInputs. -/
import Derived.Test.YtjhbabgcoemecaaDoorPb
namespace Go.Proofs.YtjhbabgcoemecaaDoor
open Go.RowKit

def eqU (xs ys : List Int) : Bool := decide (xs = ys)
theorem eqU_true {xs ys : List Int} (hl : xs.length = ys.length) (h : ∀ j, j < xs.length → xs.getD j 0 = ys.getD j 0) : eqU xs ys = true := by
  apply decide_eq_true
  apply List.ext_getElem hl
  intro i h1 h2
  have := h i h1
  rw [List.getD_eq_getElem?_getD, List.getD_eq_getElem?_getD, List.getElem?_eq_getElem h1, List.getElem?_eq_getElem h2] at this
  exact this
theorem eqU_false {xs ys : List Int} {k : Nat} (h : xs.getD k 0 ≠ ys.getD k 0) : eqU xs ys = false := decide_eq_false fun e => h (by rw [e])

set_option maxHeartbeats 400000 in
theorem eqU_any (a b : Option Addr) (la lb ca cb : Nat) (xs ys : List Int) (w : World) (hla : xs.length = la) (hlb : ys.length = lb) (ha : (Lay.int .u64).At 0 w a xs) (hb : (Lay.int .u64).At 0 w b ys) (hsa : la ≤ 1000000) :
    Calls Tryd.prog 23 #[.slice a la ca, .slice b lb cb] w fun e w' => e = .returned (.bool (eqU xs ys)) ∧ Same w w' := by
  by_cases hll : la = lb
  · have HA := Lib.hid ha
    have HB := Lib.hid hb
    have HLA := Lib.hid hla
    have HLB := Lib.hid hlb
    have HF := Lib.hid (fun k h => eqU_false (xs := xs) (ys := ys) (k := k) h)
    have HT := Lib.hid (fun h => eqU_true (xs := xs) (ys := ys) (by rw [hla, hlb]; exact hll) h)
    have hne : ((la : Int) != lb) = false := by simp; omega
    clear ha hb hla hlb
    go_enter Tryd.func23, Tryd.ntmps23
    go_wp2_with fail
    go_loopw [5] (fun i wr => ∃ k : Nat, k ≤ la ∧ i = .int .i64 k ∧ Same w wr ∧ Hid (∀ j, j < k → xs.getD j 0 = ys.getD j 0)) (fun i _ => la - (intOf i).toNat)
    case atStart => exact ⟨0, by omega, rfl, Same.refl _, fun j hj => by omega⟩
    case round =>
      obtain ⟨k, hk, rfl, hS, hall⟩ := hrel
      by_cases hlt : k < la
      · have hq1 : k < xs.length := by rw [HLA.out]; exact hlt
        have hq2 : k < ys.length := by rw [HLB.out]; omega
        obtain ⟨pb, po, rfl, hpb, hp0⟩ := HA.out.int hq1
        obtain ⟨qb, qo, rfl, hqb, hq0⟩ := HB.out.int hq2
        have hp0' := (hS.cell ⟨pb, po + k, none⟩).trans hp0
        have hq0' := (hS.cell ⟨qb, qo + k, none⟩).trans hq0
        have hi1 : (k : Int) < la := by omega
        have hi2 : (k : Int) < lb := by omega
        have hi3 : k < lb := by omega
        have HFk := Lib.hid (HF.out k)
        have HTk := Lib.hid (fun (e : xs.getD k 0 = ys.getD k 0) => (fun j hj => if h : j = k then by rw [h]; exact e else hall j (by omega) : ∀ j, j < k + 1 → xs.getD j 0 = ys.getD j 0))
        clear hp0 hq0 hq1 hq2
        generalize xs.getD k 0 = x at *
        generalize ys.getD k 0 = y at *
        by_cases hxy : x = y
        · have Hall := Lib.hid (HTk.out hxy)
          have hn : (x != y) = false := by simpa using hxy
          clear hxy
          go_wp2_with fail
          go_quiet (fail)
          go_wp2_with fail
          go_roundw
          case rel => exact ⟨k + 1, by omega, by go_num, hS.drewN _, Hall.out⟩
          case measure => simp [intOf]; omega
        · have HRR := Lib.hid (HFk.out hxy)
          have hn : (x != y) = true := by simpa using hxy
          clear hxy
          go_wp2_with fail
          go_quiet (fail)
          go_wp2_with fail
          go_ret
          exact ⟨by rw [HRR.out]; rfl, hS.drewN _⟩
      · have HRR := Lib.hid (HT.out (fun j hj => hall j (by rw [HLA.out] at hj; omega)))
        go_wp2_with fail
        go_ret
        exact ⟨by rw [HRR.out]; rfl, hS⟩
  · have HR : Hid (eqU xs ys = false) := decide_eq_false fun e => hll (by rw [← hla, ← hlb, e])
    have hne : ((la : Int) != lb) = true := by simp; omega
    clear hla hlb ha hb
    go_enter Tryd.func23, Tryd.ntmps23
    go_wp2_with fail
    go_ret
    exact ⟨by rw [HR.out]; rfl, Same.refl _⟩
end Go.Proofs.YtjhbabgcoemecaaDoor
