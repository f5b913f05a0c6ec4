/- The plain laws of views, and the walks of the laws ViewInputs and ViewEquals. -/
import Derived.Test.YtjancemacdffbaaDoorWe
namespace Go.Proofs.YtjancemacdffbaaDoor
open Go.RowKit

theorem sameRow_symm (a b : List Int) : sameRow a b = sameRow b a := by
  rw [Bool.eq_iff_iff, sameRow_iff, sameRow_iff]
  exact ⟨fun h i => (h i).symm, fun h i => (h i).symm⟩
theorem chanOk_symm (n : Nat) (up : Nat → Nat) (level : Int) (xs : List Int) (A B : List (List Int)) (c : Nat) : chanOk n up level xs A B c = chanOk n up level xs B A c := by
  unfold chanOk; rw [sameRow_symm]
/-- the lists are as they must be -/
def inOk (n : Nat) (level : Int) (xs : List Int) (A : List (List Int)) : Bool := mayB n level xs && decide (A.length ≤ xs.length)
theorem inR_eq (n : Nat) (up : Nat → Nat) (level : Int) (xs : List Int) (A B : List (List Int)) : inR n up level xs A B = if inOk n level xs A && inOk n level xs B then ((List.range xs.length).all (chanOk n up level xs A B), 0) else (false, 3) := by
  unfold inR inOk
  cases mayB n level xs with
  | false => rfl
  | true =>
    by_cases h1 : A.length ≤ xs.length
    · by_cases h2 : B.length ≤ xs.length
      · rw [show decide (xs.length < A.length) = false by simp; omega, show decide (xs.length < B.length) = false by simp; omega, show decide (A.length ≤ xs.length) = true by simp [h1], show decide (B.length ≤ xs.length) = true by simp [h2]]; rfl
      · rw [show decide (xs.length < B.length) = true by simp; omega, show decide (B.length ≤ xs.length) = false by simp; omega]; simp
    · rw [show decide (xs.length < A.length) = true by simp; omega, show decide (A.length ≤ xs.length) = false by simp; omega]; simp
section
variable {n : Nat} {up : Nat → Nat} {level : Int} {xs : List Int} {A B C : List (List Int)}
theorem inR_symm : inR n up level xs A B = inR n up level xs B A := by
  rw [inR_eq, inR_eq, Bool.and_comm]
  rw [show chanOk n up level xs A B = chanOk n up level xs B A from funext (chanOk_symm n up level xs A B)]
theorem inR_code : ((inR n up level xs A B).2 = 0 ∧ inOk n level xs A = true ∧ inOk n level xs B = true) ∨ (inR n up level xs A B).2 = 3 := by
  rw [inR_eq]
  cases h1 : inOk n level xs A with
  | false => right; rfl
  | true =>
    cases h2 : inOk n level xs B with
    | false => right; rfl
    | true => left; exact ⟨rfl, rfl, rfl⟩
theorem inR_ok (h1 : inOk n level xs A = true) (h2 : inOk n level xs B = true) : inR n up level xs A B = ((List.range xs.length).all (chanOk n up level xs A B), 0) := by
  rw [inR_eq, h1, h2]; rfl
theorem inR_self (h1 : inOk n level xs A = true) : inR n up level xs A A = (true, 0) := by
  rw [inR_ok h1 h1]
  congr 1
  rw [List.all_eq_true]
  intro c _
  exact chan_true fun _ => rfl
theorem inR_trans (h1 : inOk n level xs A = true) (h2 : inOk n level xs B = true) (h3 : inOk n level xs C = true) (e1 : (inR n up level xs A B).1 = true) (e2 : (inR n up level xs B C).1 = true) : (inR n up level xs A C).1 = true := by
  rw [inR_ok h1 h2] at e1
  rw [inR_ok h2 h3] at e2
  rw [inR_ok h1 h3]
  simp only [List.all_eq_true] at *
  intro c hc
  have k1 := e1 c hc
  have k2 := e2 c hc
  unfold chanOk at *
  cases hl : leB n up (xs.getD c 0) level with
  | false => rfl
  | true =>
    rw [hl] at k1 k2
    simp only [Bool.not_true, Bool.false_or] at *
    rw [sameRow_iff] at *
    intro i
    rw [k1 i, k2 i]
end

theorem shortB_ok {rows : List (List Int)} (h : shortB rows = true) (hw : ∀ r ∈ rows, ∀ v ∈ r, (Lit.int .u64 v).wf = true) : rows.length ≤ 40 ∧ RowsOk rows := by
  unfold shortB at h
  rw [Bool.and_eq_true, List.all_eq_true] at h
  refine ⟨by simpa using h.1, fun r hr => ⟨?_, hw r hr⟩⟩
  have := h.2 r hr
  simp at this
  omega

set_option maxHeartbeats 1000000 in
theorem vinputs_law (n : Int) (oa : Option Addr) (olen ocap : Nat) (ps : List (Int × Int)) (level : Int) (a : Option Addr) (len cap : Nat) (xs : List Int) (aa : Option Addr) (alen acap : Nat) (A : List (List Int)) (ba : Option Addr) (blen bcap : Nat) (B : List (List Int)) (w : World)
    (hT : Tab w) (h0 : 0 < w.heap.size) (hol : ps.length = olen) (hop : PairsAt w oa ps) (hlen : xs.length = len) (hat : (Lay.int .i64).At 0 w a xs) (hcap : a = none → cap = 0)
    (hal : A.length = alen) (hA : RowsAt w aa A) (hAw : ∀ r ∈ A, ∀ v ∈ r, (Lit.int .u64 v).wf = true) (hbl : B.length = blen) (hB : RowsAt w ba B) (hBw : ∀ r ∈ B, ∀ v ∈ r, (Lit.int .u64 v).wf = true) :
    Calls Tryd.prog 10 #[.int .i64 n, .slice oa olen ocap, .int .i64 level, .slice a len cap, .slice aa alen acap, .slice ba blen bcap] w fun e w' => e = .returned (.bool true) ∧ Below w.heap.size w w' := by
  have O0 := On.refl hT h0
  have HL := Lib.hid (lats_any n oa olen ocap ps w hT h0 hol hop)
  have HLEN := Lib.hid hlen
  have HAT := Lib.hid hat
  have HCAP := Lib.hid hcap
  have HAL := Lib.hid hal
  have HA := Lib.hid hA
  have HAW := Lib.hid hAw
  have HBL := Lib.hid hbl
  have HB := Lib.hid hB
  have HBW := Lib.hid hBw
  clear hT h0 hol hop hlen hat hcap hal hA hAw hbl hB hBw
  go_enter Tryd.func10, Tryd.ntmps10
  go_wp2_with fail
  refine (few_any oa a none olen len 0 ocap cap 0 _).mono ?_
  rintro e w' ⟨rfl, rfl⟩
  cases hf : fewB olen len 0 with
  | false =>
    go_wp2_with fail
    go_ret
    exact ⟨rfl, Below.refl _ _⟩
  | true =>
    obtain ⟨f1, f2, _⟩ := fewB_iff hf
    clear hf
    go_wp2_with fail
    refine (short_any aa alen acap A _ HAL.out HA.out).mono ?_
    rintro e w' ⟨rfl, rfl⟩
    cases hsA : shortB A with
    | false =>
      go_wp2_with fail
      go_ret
      exact ⟨rfl, Below.refl _ _⟩
    | true =>
      obtain ⟨la, hAo⟩ := shortB_ok hsA HAW.out
      have HAO := Lib.hid hAo
      rw [HAL.out] at la
      clear hsA hAo
      go_wp2_with fail
      refine (short_any ba blen bcap B _ HBL.out HB.out).mono ?_
      rintro e w' ⟨rfl, rfl⟩
      cases hsB : shortB B with
      | false =>
        go_wp2_with fail
        go_ret
        exact ⟨rfl, Below.refl _ _⟩
      | true =>
        obtain ⟨lb, hBo⟩ := shortB_ok hsB HBW.out
        have HBO := Lib.hid hBo
        rw [HBL.out] at lb
        clear hsB hBo
        go_wp2_with fail
        refine HL.out.mono ?_
        rintro e w1 ⟨hb1, rfl | ⟨b, xb, N, up, dn, rfl, hN, hN32, hbs, hL1, hR1, hI⟩⟩
        · have O1 := O0.next hb1
          go_wp2_with fail
          refine (vawake_any _ O1.tab O1.pos).mono ?_
          rintro e w2 ⟨rfl, hb2⟩
          go_wp2_with fail
          go_ret
          exact ⟨rfl, (O1.next hb2).below⟩
        · have O1 := O0.next hb1
          have HR1 := Lib.hid hR1
          have HL1 := Lib.hid hL1
          have HAT1 := Lib.hid (HAT.out.below hb1)
          have HA1 := Lib.hid (HA.out.below hb1)
          have HB1 := Lib.hid (HB.out.below hb1)
          clear HAT HA HB hR1 hL1 hI HL hN
          go_wp2_with fail
          refine (copyR_any aa alen acap A _ HAL.out HA1.out HAO.out (by omega)).mono ?_
          rintro e w2 ⟨v2, hs2, rfl, ho2, hb2⟩
          obtain ⟨a2, c2, rfl, hr2, hl2, hc2⟩ := ho2.rowsAt
          rw [HAL.out]
          have O2 := O1.next hb2
          have HX2 := Lib.hid hr2
          have HB2 := Lib.hid (HB1.out.below hb2)
          have HA2 := Lib.hid (HA1.out.below hb2)
          have HR2 := Lib.hid (HR1.out.below hb2)
          have HL2 := Lib.hid (HL1.out.below hb2 hbs)
          have HAT2 := Lib.hid (HAT1.out.below hb2)
          have hbs2 : b < w2.heap.size := Nat.lt_of_lt_of_le hbs hb2.size
          clear ho2 hr2 hl2 hc2 HB1 HA1 HR1 HL1 HAT1 hb2 hbs O1
          go_wp2_with fail
          refine (copyR_any ba blen bcap B _ HBL.out HB2.out HBO.out (by omega)).mono ?_
          rintro e w3 ⟨v3, hs3, rfl, ho3, hb3⟩
          obtain ⟨a3, c3, rfl, hr3, hl3, hc3⟩ := ho3.rowsAt
          rw [HBL.out]
          have O3 := O2.next hb3
          have HX3 := Lib.hid (HX2.out.below hb3)
          have HY3 := Lib.hid hr3
          have HB3 := Lib.hid (HB2.out.below hb3)
          have HA3 := Lib.hid (HA2.out.below hb3)
          have HR3 := Lib.hid (HR2.out.below hb3)
          have HL3 := Lib.hid (HL2.out.below hb3 hbs2)
          have HAT3 := Lib.hid (HAT2.out.below hb3)
          clear ho3 hr3 hl3 hc3 HX2 HB2 HA2 HR2 HL2 HAT2 hb3 hbs2 O2
          go_wp2_with fail
          refine (inputs_any b N up dn level a len cap xs a2 alen c2 A a3 blen c3 B _ HL3.out HLEN.out HAT3.out HCAP.out (by omega) HAL.out HX3.out HAO.out HBL.out HY3.out HBO.out).mono ?_
          rintro e w4 ⟨rfl, hb4⟩
          have O4 := O3.next hb4
          have HB4 := Lib.hid (HB3.out.below hb4)
          have HA4 := Lib.hid (HA3.out.below hb4)
          have HR4 := Lib.hid (HR3.out.below hb4)
          have HAT4 := Lib.hid (HAT3.out.below hb4)
          clear HX3 HY3 HB3 HA3 HR3 HL3 HAT3 hb4 O3
          go_wp2_with fail
          refine (rinputs_any xb N up level a len cap xs aa alen acap A ba blen bcap B _ HR4.out HLEN.out HAT4.out (by omega) HAL.out HA4.out HAO.out HBL.out HB4.out HBO.out).mono ?_
          rintro e w5 ⟨rfl, hb5⟩
          have O5 := O4.next hb5
          generalize inR N up level xs A B = r at *
          obtain ⟨r1, r2⟩ := r
          simp only at *
          have e1 : (r1 == r1) = true := by simp
          have e2 : (r2 == r2) = true := by simp
          clear HB4 HA4 HR4 HAT4 hb5 O4
          go_wp2_with fail
          refine (vawake_any _ O5.tab O5.pos).mono ?_
          rintro e w6 ⟨rfl, hb6⟩
          go_wp2_with fail
          go_ret
          exact ⟨rfl, (O5.next hb6).below⟩

end Go.Proofs.YtjancemacdffbaaDoor
