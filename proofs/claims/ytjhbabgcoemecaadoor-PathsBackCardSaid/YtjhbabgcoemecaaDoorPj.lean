/- Walk: EqualInputs. -/
import Derived.Test.YtjhbabgcoemecaaDoorPc
namespace Go.Proofs.YtjhbabgcoemecaaDoor
open Go.RowKit

theorem eqU_q (a b : Option Addr) (la lb ca cb : Nat) (xs ys : List Int) (w : World) (hla : xs.length = la) (hlb : ys.length = lb) (ha : (Lay.int .u64).At 0 w a xs) (hb : (Lay.int .u64).At 0 w b ys) (hsa : la ≤ 1000000) (m : Nat) :
    Calls Tryd.prog 23 #[.slice a la ca, .slice b lb cb] (w.drewN m) fun e w' => e = .returned (.bool (eqU xs ys)) ∧ ∃ k, w' = w.drewN k := by
  have hs : Same w (w.drewN m) := ⟨m, rfl⟩
  refine (eqU_any a b la lb ca cb xs ys _ hla hlb (ha.same hs) (hb.same hs) hsa).mono ?_
  rintro e w' ⟨rfl, h⟩
  exact ⟨rfl, hs.trans h⟩
def eqR (A B : List (List Int)) : Bool := decide (A = B)
theorem eqR_true {A B : List (List Int)} (hl : A.length = B.length) (h : ∀ j, j < A.length → A.getD j [] = B.getD j []) : eqR A B = true := by
  apply decide_eq_true
  apply List.ext_getElem hl
  intro i h1 h2
  have := h i h1
  rw [List.getD_eq_getElem?_getD, List.getD_eq_getElem?_getD, List.getElem?_eq_getElem h1, List.getElem?_eq_getElem h2] at this
  exact this
theorem eqR_false {A B : List (List Int)} {k : Nat} (h : A.getD k [] ≠ B.getD k []) : eqR A B = false := decide_eq_false fun e => h (by rw [e])
theorem RowsAt.same {w w' : World} {a : Option Addr} {rows : List (List Int)} (h : RowsAt w a rows) (s : Same w w') : RowsAt w' a rows := h.below (s.below _)

set_option maxHeartbeats 1000000 in
theorem eqR_any (a b : Option Addr) (la lb ca cb : Nat) (A B : List (List Int)) (w : World) (hla : A.length = la) (hlb : B.length = lb) (ha : RowsAt w a A) (hb : RowsAt w b B) (hsa : la ≤ 1000000) (hA : ∀ c, (A.getD c []).length ≤ 100000) :
    Calls Tryd.prog 24 #[.slice a la ca, .slice b lb cb] w fun e w' => e = .returned (.bool (eqR A B)) ∧ Same w w' := by
  by_cases hll : la = lb
  · have HA := Lib.hid ha
    have HB := Lib.hid hb
    have HLA := Lib.hid hla
    have HLB := Lib.hid hlb
    have HAL := Lib.hid hA
    have HF := Lib.hid (fun k h => eqR_false (A := A) (B := B) (k := k) h)
    have HT := Lib.hid (fun h => eqR_true (A := A) (B := B) (by rw [hla, hlb]; exact hll) h)
    have hne : ((la : Int) != lb) = false := by simp; omega
    clear ha hb hla hlb hA
    go_enter Tryd.func24, Tryd.ntmps24
    go_wp2_with fail
    go_loopw [5] (fun i wr => ∃ k : Nat, k ≤ la ∧ i = .int .i64 k ∧ Same w wr ∧ Hid (∀ j, j < k → A.getD j [] = B.getD j [])) (fun i _ => la - (intOf i).toNat)
    case atStart => exact ⟨0, by omega, rfl, Same.refl _, fun j hj => by omega⟩
    case round =>
      obtain ⟨k, hk, rfl, hS, hall⟩ := hrel
      by_cases hlt : k < la
      · have hq1 : k < A.length := by rw [HLA.out]; exact hlt
        have hq2 : k < B.length := by rw [HLB.out]; omega
        obtain ⟨pb, po, ra, rac, rfl, hpb, hp0, hra, hrl, hrc⟩ := HA.out k hq1
        obtain ⟨qb, qo, rb, rbc, rfl, hqb, hq0, hrb, hsl, hsc⟩ := HB.out k hq2
        have hp0' := (hS.cell ⟨pb, po + k, none⟩).trans hp0
        have hq0' := (hS.cell ⟨qb, qo + k, none⟩).trans hq0
        have hi1 : (k : Int) < la := by omega
        have hi2 : (k : Int) < lb := by omega
        have hi3 : k < lb := by omega
        have HQ := Lib.hid (eqU_q ra rb _ _ rac rbc (A.getD k []) (B.getD k []) wr rfl rfl (hra.same hS) (hrb.same hS) (by have := HAL.out k; omega))
        have HFk := Lib.hid (HF.out k)
        have HTk := Lib.hid (fun (e : A.getD k [] = B.getD k []) => (fun j hj => if h : j = k then by rw [h]; exact e else hall j (by omega) : ∀ j, j < k + 1 → A.getD j [] = B.getD j []))
        clear hp0 hq0 hq1 hq2 hra hrb
        generalize A.getD k [] = x at *
        generalize B.getD k [] = y at *
        by_cases hxy : x = y
        · have Hall := Lib.hid (HTk.out hxy)
          have hn : eqU x y = true := decide_eq_true hxy
          rw [hn] at HQ
          clear hxy hn
          go_wp2_with fail
          go_quiet ((go_at_call 23; exact HQ.out _))
          go_wp2_with fail
          go_roundw
          case rel => exact ⟨k + 1, by omega, by go_num, hS.drewN _, Hall.out⟩
          case measure => simp [intOf]; omega
        · have HRR := Lib.hid (HFk.out hxy)
          have hn : eqU x y = false := decide_eq_false hxy
          rw [hn] at HQ
          clear hxy hn
          go_wp2_with fail
          go_quiet ((go_at_call 23; exact HQ.out _))
          go_wp2_with fail
          go_ret
          exact ⟨by rw [HRR.out]; rfl, hS.drewN _⟩
      · have HRR := Lib.hid (HT.out (fun j hj => hall j (by rw [HLA.out] at hj; omega)))
        go_wp2_with fail
        go_ret
        exact ⟨by rw [HRR.out]; rfl, hS⟩
  · have HR : Hid (eqR A B = false) := decide_eq_false fun e => hll (by rw [← hla, ← hlb, e])
    have hne : ((la : Int) != lb) = true := by simp; omega
    clear hla hlb ha hb hA
    go_enter Tryd.func24, Tryd.ntmps24
    go_wp2_with fail
    go_ret
    exact ⟨by rw [HR.out]; rfl, Same.refl _⟩

theorem mem_getD' {α : Type} (d : α) (xs : List α) (v : α) (h : v ∈ xs) : ∃ i, i < xs.length ∧ xs.getD i d = v := by
  obtain ⟨i, hi, e⟩ := List.getElem_of_mem h
  exact ⟨i, hi, by rw [List.getD_eq_getElem?_getD, List.getElem?_eq_getElem hi]; exact e⟩
/-- what 'small' says -/
def smallB (rows : List (List Int)) (nv : Nat) : Bool := decide (rows.length ≤ 40) && decide (nv ≤ 100) && rows.all fun r => decide (r.length ≤ 20)
set_option maxHeartbeats 1000000 in
theorem small_any (a b : Option Addr) (la lb ca cb : Nat) (A : List (List Int)) (w : World) (hla : A.length = la) (ha : RowsAt w a A) :
    Calls Tryd.prog 21 #[.slice a la ca, .slice b lb cb] w fun e w' => e = .returned (.bool (smallB A lb)) ∧ w = w' := by
  by_cases h1 : 40 < la
  · have HR : Hid (smallB A lb = false) := by
      show _ = _
      unfold smallB
      rw [hla, decide_eq_false (by omega), Bool.false_and, Bool.false_and]
    clear hla ha
    go_enter Tryd.func21, Tryd.ntmps21
    go_wp2_with fail
    go_ret
    exact ⟨by rw [HR.out]; rfl, rfl⟩
  by_cases h2 : 100 < lb
  · have HR : Hid (smallB A lb = false) := by
      show _ = _
      unfold smallB
      rw [decide_eq_false (p := lb ≤ 100) (by omega), Bool.and_false, Bool.false_and]
    clear hla ha
    go_enter Tryd.func21, Tryd.ntmps21
    go_wp2_with fail
    go_ret
    exact ⟨by rw [HR.out]; rfl, rfl⟩
  have HA := Lib.hid ha
  have HLA := Lib.hid hla
  have HB : Hid (smallB A lb = A.all fun r => decide (r.length ≤ 20)) := by
    show _ = _
    unfold smallB
    rw [hla, decide_eq_true (p := la ≤ 40) (by omega), decide_eq_true (p := lb ≤ 100) (by omega), Bool.true_and, Bool.true_and]
  clear ha hla
  go_enter Tryd.func21, Tryd.ntmps21
  go_wp2_with fail
  go_loopw [5] (fun i wr => ∃ k : Nat, k ≤ la ∧ i = .int .i64 k ∧ Hid (wr = w) ∧ Hid (∀ j, j < k → (A.getD j []).length ≤ 20)) (fun i _ => la - (intOf i).toNat)
  case atStart => exact ⟨0, by omega, rfl, Lib.hid rfl, fun j hj => by omega⟩
  case round =>
    obtain ⟨k, hk, rfl, hw, hall⟩ := hrel
    obtain rfl := hw.out.symm
    clear hw
    by_cases hlt : k < la
    · have hq1 : k < A.length := by rw [HLA.out]; exact hlt
      obtain ⟨pb, po, ra, rac, rfl, hpb, hp0, hra, hrl, hrc⟩ := HA.out k hq1
      have hi1 : (k : Int) < la := by omega
      have HTk := Lib.hid (fun (e : (A.getD k []).length ≤ 20) => (fun j hj => if h : j = k then by rw [h]; exact e else hall j (by omega) : ∀ j, j < k + 1 → (A.getD j []).length ≤ 20))
      have HFk : Hid (20 < (A.getD k []).length → smallB A lb = false) := fun h => by
        rw [HB.out]
        rw [List.all_eq_false]
        exact ⟨_, getD_mem [] A k hq1, by rw [decide_eq_true_eq]; omega⟩
      clear hra
      generalize (A.getD k []).length = n at *
      by_cases hn : 20 < n
      · have HR := Lib.hid (HFk.out hn)
        clear HFk HTk
        go_wp2_with fail
        go_ret
        exact ⟨by rw [HR.out]; rfl, by first | trivial | rfl⟩
      · have Hall := Lib.hid (HTk.out (by omega))
        clear HFk HTk
        go_wp2_with fail
        go_roundw
        case rel => exact ⟨k + 1, by omega, by go_num, by first | trivial | exact Lib.hid rfl, Hall.out⟩
        case measure => simp [intOf]; omega
    · have HR : Hid (smallB A lb = true) := by
        show _ = _
        rw [HB.out, List.all_eq_true]
        intro r hr
        obtain ⟨i, hi, e⟩ := List.getElem_of_mem hr
        have := hall.out i (by rw [HLA.out] at hi; omega)
        rw [List.getD_eq_getElem?_getD, List.getElem?_eq_getElem hi, e] at this
        simpa using this
      go_wp2_with fail
      go_ret
      exact ⟨by rw [HR.out]; rfl, by first | trivial | rfl⟩
end Go.Proofs.YtjhbabgcoemecaaDoor
