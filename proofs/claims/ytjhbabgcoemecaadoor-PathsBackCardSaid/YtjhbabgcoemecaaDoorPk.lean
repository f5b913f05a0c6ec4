/- The law PathsVals. -/
import Derived.Test.YtjhbabgcoemecaaDoorR32
import Derived.Test.YtjhbabgcoemecaaDoorPe
import Derived.Test.YtjhbabgcoemecaaDoorPf
import Derived.Test.YtjhbabgcoemecaaDoorPi
import Derived.Test.YtjhbabgcoemecaaDoorPj
namespace Go.Proofs.YtjhbabgcoemecaaDoor
open Go.RowKit

theorem smallB_len {A : List (List Int)} {nv : Nat} (h : smallB A nv = true) : A.length ≤ 40 ∧ nv ≤ 100 ∧ ∀ c, (A.getD c []).length ≤ 20 := by
  unfold smallB at h
  simp only [Bool.and_eq_true, decide_eq_true_eq, List.all_eq_true] at h
  refine ⟨h.1.1, h.1.2, fun c => ?_⟩
  by_cases hc : c < A.length
  · exact h.2 _ (getD_mem [] A c hc)
  · rw [getD_ge _ _ _ (by omega)]; simp
theorem eqU_self (xs : List Int) : eqU xs xs = true := decide_eq_true rfl
theorem eqR_self (A : List (List Int)) : eqR A A = true := decide_eq_true rfl

theorem valsR_len {ch : Int} {A : List (List Int)} (hr : ∀ c, (A.getD c []).length ≤ 100) : (valsR ch A).2.length ≤ 6400 := by
  unfold valsR
  split
  · simp
  · exact valC_len (by omega) hr _ (by omega)
theorem insR_len {ch n : Int} {xs : List Int} : (insR ch n xs).2.length ≤ 32 ∧ ∀ c, ((insR ch n xs).2.getD c []).length ≤ 100000 := by
  unfold insR
  split
  · exact ⟨by simp, fun c => by simp⟩
  · refine ⟨by simp only [inRows_len]; omega, fun c => ?_⟩
    show ((inRows ch.toNat n.toNat xs ch.toNat).getD c []).length ≤ 100000
    by_cases hc : c < (inRows ch.toNat n.toNat xs ch.toNat).length
    · have := getD_mem [] _ c hc
      simp only [inRows, List.mem_map] at this
      obtain ⟨i, _, e⟩ := this
      simp only [inRows]
      rw [← e, inRow_len]; omega
    · rw [getD_ge _ _ _ (by omega)]; simp

set_option maxHeartbeats 8000000 in
theorem pathsVals_law (ch n : Int) (a b : Option Addr) (la ca lb cb : Nat) (A : List (List Int)) (xs : List Int) (w : World) (hL : Cr.Laid w) (hla : A.length = la) (hA : RowsAt w a A) (hlb : xs.length = lb) (hX : (Lay.int .u64).At 0 w b xs)
    (hwf : ∀ r ∈ A, ∀ v ∈ r, (Lit.int .u64 v).wf = true) :
    Calls Tryd.prog 6 #[.int .i64 ch, .int .i64 n, .slice a la ca, .slice b lb cb] w fun e w' => e = .returned (.bool true) ∧ Below w.heap.size w w' := by
  have HL := Lib.hid hL
  have HLA := Lib.hid hla
  have HA := Lib.hid hA
  have HLB := Lib.hid hlb
  have HX := Lib.hid hX
  have HWF := Lib.hid hwf
  clear hL hla hA hlb hX hwf
  go_enter Tryd.func6, Tryd.ntmps6
  go_wp2_with fail
  refine (small_any a b la lb ca cb A w HLA.out HA.out).mono ?_
  rintro e w1 ⟨rfl, rfl⟩
  cases hs : smallB A lb with
  | false =>
    clear hs
    go_wp2_with fail
    go_ret
    exact ⟨rfl, Below.refl _ _⟩
  | true =>
    obtain ⟨s1, s2, s3⟩ := smallB_len hs
    rw [HLA.out] at s1
    have HR := Lib.hid s3
    clear hs s3
    by_cases hn : 40 < n ∧ n ≤ 65536
    · obtain ⟨n1, n2⟩ := hn
      go_wp2_with fail
      go_ret
      exact ⟨rfl, Below.refl _ _⟩
    · have HN : Hid (n ≤ 1000 ∨ 65536 < n) := by show _ ∨ _; omega
      by_cases n1 : 40 < n
      all_goals
        (try (have n2 : 65536 < n := by omega))
        clear hn
        go_wp2_with fail
        refine (copyR_any a la ca A w HLA.out HA.out (fun r hr => ⟨by obtain ⟨i, hi, e⟩ := mem_getD' [] A r hr; have := HR.out i; rw [e] at this; omega, HWF.out r hr⟩) (by omega)).mono ?_
        rintro e w1 ⟨v1, hs1, rfl, hown1, hb1⟩
        obtain ⟨a1, c1, hv1, hat1, hl1, hc1⟩ := hown1.rowsAt
        clear hown1
        rw [HLA.out] at hv1 hl1
        subst hv1
        have HA1 := Lib.hid hat1
        clear hat1
        go_wp2_with fail
        refine (vals20_any ch a1 la c1 A w1 HLA.out HA1.out (fun c => by have := HR.out c; omega)).mono ?_
        rintro e w2 ⟨v2, rfl, hown2, hb2⟩
        have hb02 := hb1.trans (hb2.mono hb1.size)
        obtain ⟨a2, c2, rfl, hat2, hl2, hc2⟩ := hown2.at_ (d := 0)
        have HV2 := Lib.hid hat2
        clear hown2 hat2
        go_wp2_with fail
        refine (vals22_any ch a la ca A w2 HLA.out (HA.out.below hb02) (fun c => by have := HR.out c; omega)).mono ?_
        rintro e w3 ⟨v3, rfl, hown3, hb3⟩
        have hb03 := hb02.trans (hb3.mono hb02.size)
        obtain ⟨a3, c3, rfl, hat3, hl3, hc3⟩ := hown3.at_ (d := 0)
        have HV3 := Lib.hid hat3
        have HV2' := Lib.hid (HV2.out.below hb3)
        have hlen := Lib.hid (valsR_len (ch := ch) (A := A) (fun c => by have := HR.out c; omega))
        clear hown3 hat3 HV2
        generalize valsR ch A = R at *
        obtain ⟨e0, l0⟩ := R
        have HE := Lib.hid (eqU_any a2 a3 _ _ c2 c3 l0 l0 w3 rfl rfl HV2'.out HV3.out (by have : l0.length ≤ 6400 := hlen.out; omega))
        rw [eqU_self] at HE
        clear HV2' HV3
        go_wp2_with fail
        refine HE.out.mono ?_
        rintro e w4 ⟨rfl, hS4⟩
        have hb4 := hS4.below w3.heap.size
        have hb04 := hb03.trans (hb4.mono hb03.size)
        have HE2 := Lib.hid (eqR_any a1 a la la c1 ca A A w4 HLA.out HLA.out (HA1.out.below ((hb2.trans (hb3.mono hb2.size)).trans (hb4.mono (by have := hb2.size; have := hb3.size; omega)))) (HA.out.below hb04) (by omega) (fun c => by have := HR.out c; omega))
        rw [eqR_self] at HE2
        clear HE
        go_wp2_with fail
        refine HE2.out.mono ?_
        rintro e w5 ⟨rfl, hS5⟩
        have hb05 := hb04.trans ((hS5.below w4.heap.size).mono hb04.size)
        clear HE2 hb1 hb2 hb3 hb02 hb03 hb4 hb04 hS4 hS5 hlen
        go_wp2_with fail
        refine (ins25_any ch n b lb cb xs w5 HLB.out (HX.out.below hb05) HN.out).mono ?_
        rintro e w6 ⟨v6, hs6, rfl, hown6, hb6⟩
        have hb06 := hb05.trans (hb6.mono hb05.size)
        obtain ⟨a6, c6, rfl, hat6, hl6, hc6⟩ := hown6.rowsAt
        have HV6 := Lib.hid hat6
        clear hown6 hat6
        go_wp2_with fail
        refine (ins26_any ch n b lb cb xs w6 HLB.out (HX.out.below hb06) HN.out).mono ?_
        rintro e w7 ⟨v7, hs7, rfl, hown7, hb7⟩
        have hb07 := hb06.trans (hb7.mono hb06.size)
        obtain ⟨a7, c7, rfl, hat7, hl7, hc7⟩ := hown7.rowsAt
        have HI := Lib.hid (insR_len (ch := ch) (n := n) (xs := xs))
        have HV7 := Lib.hid hat7
        have HV6' := Lib.hid (HV6.out.below hb7)
        clear hown7 hat7 HV6
        generalize insR ch n xs = R at *
        obtain ⟨e1, l1⟩ := R
        have HE3 := Lib.hid (eqR_any a6 a7 _ _ c6 c7 l1 l1 w7 rfl rfl HV6'.out HV7.out (by have : l1.length ≤ 32 := HI.out.1; omega) HI.out.2)
        rw [eqR_self] at HE3
        clear HV6' HV7 HI
        go_wp2_with fail
        refine HE3.out.mono ?_
        rintro e w8 ⟨rfl, hS8⟩
        have hb08 := hb07.trans ((hS8.below w7.heap.size).mono hb07.size)
        have HAW := Lib.hid (Cr.of_run Cr.run18 (HL.out.below hb08))
        clear HE3 hb6 hb06 hb7 hb07 hS8 hb05
        go_wp2_with fail
        refine HAW.out.mono ?_
        rintro e w9 ⟨rfl, hb9⟩
        go_wp2_with fail
        go_ret
        exact ⟨rfl, hb08.trans (hb9.mono hb08.size)⟩
end Go.Proofs.YtjhbabgcoemecaaDoor
