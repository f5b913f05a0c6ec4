/- The law PathsBack. -/
import Derived.Test.YtjhbabgcoemecaaDoorPk
import Derived.Test.YtjhbabgcoemecaaDoorPq
import Derived.Test.YtjhbabgcoemecaaDoorPr
import Derived.Test.YtjhbabgcoemecaaDoorPo
import Derived.Deep.RegionHeld3
namespace Go.Proofs.YtjhbabgcoemecaaDoor
open Go.RowKit

theorem insR_nat {la n : Nat} {xs : List Int} (h1 : 1 ≤ la) (h2 : la ≤ 32) (h3 : n ≤ 65536) : insR (la : Int) (n : Int) xs = (0, inRows la n xs la) := by
  unfold insR
  rw [if_neg (by omega)]
  simp
def maxLen0 (A : List (List Int)) : Nat → Nat
  | 0 => 0
  | c + 1 => max (maxLen0 A c) (A.getD c []).length

set_option maxHeartbeats 4000000 in
set_option maxRecDepth 100000 in
theorem pathsBack_law (a : Option Addr) (la ca : Nat) (A : List (List Int)) (k1 : Nat) (w : World) (hL : Cr.Laid w) (h1 : k1 < 256) (hla : A.length = la) (hA : RowsAt w a A) :
    Calls Tryd.prog 7 #[.slice a la ca, .int .u8 k1] w fun e w' => e = .returned (.bool true) ∧ Below w.heap.size w w' := by
  have HL := Lib.hid hL
  have HLA := Lib.hid hla
  have HA := Lib.hid hA
  have HAW := Lib.hid (Cr.of_run Cr.run18 hL)
  clear hL hla hA
  by_cases c1 : la < 1
  · go_enter Tryd.func7, Tryd.ntmps7
    go_wp2_with fail
    refine HAW.out.mono ?_
    rintro e w9 ⟨rfl, hb9⟩
    go_wp2_with fail
    go_ret
    exact ⟨rfl, hb9⟩
  by_cases c2 : 10 < la
  · go_enter Tryd.func7, Tryd.ntmps7
    go_wp2_with fail
    refine HAW.out.mono ?_
    rintro e w9 ⟨rfl, hb9⟩
    go_wp2_with fail
    go_ret
    exact ⟨rfl, hb9⟩
  have d1 : decide ((la : Int) < 1) = false := by simp; omega
  have d2 : decide (10 < (la : Int)) = false := by simp; omega
  go_enter Tryd.func7, Tryd.ntmps7
  go_wp2_with fail
  go_loopw [5, 6] (fun v i wr => ∃ k : Nat, k ≤ la ∧ i = .int .i64 k ∧ (∃ n : Nat, v = .int .i64 n ∧ n ≤ 20 ∧ Hid (∀ j, j < k → (A.getD j []).length ≤ n)) ∧ Hid (wr = w)) (fun _ i _ => la - (intOf i).toNat)
  case atStart => exact ⟨0, by omega, rfl, ⟨0, rfl, by omega, fun j hj => by omega⟩, Lib.hid rfl⟩
  case round =>
    obtain ⟨k, hk, rfl, ⟨n, rfl, hn20, hall⟩, hw⟩ := hrel
    obtain rfl := hw.out.symm
    clear hw
    by_cases hlt : k < la
    · have hq1 : k < A.length := by rw [HLA.out]; exact hlt
      obtain ⟨pb, po, ra, rac, rfl, hpb, hp0, hra, hrl, hrc⟩ := HA.out k hq1
      have hi1 : (k : Int) < la := by omega
      have HTk := Lib.hid (fun j (hj : j < k + 1) => show (A.getD j []).length ≤ max n (A.getD k []).length from if h : j = k then by rw [h]; omega else by have := hall.out j (by omega); omega)
      clear hra
      generalize (A.getD k []).length = m at *
      by_cases hm : 20 < m
      · clear HTk
        go_wp2_with fail
        refine HAW.out.mono ?_
        rintro e w9 ⟨rfl, hb9⟩
        go_wp2_with fail
        go_ret
        exact ⟨rfl, hb9⟩
      · go_wp2_with fail
        go_roundw
        case rel => exact ⟨k + 1, by omega, by go_num, ⟨max n m, by first | (go_num; done) | (congr 1; omega) | (simp; omega), by omega, HTk.out⟩, by first | trivial | exact Lib.hid rfl⟩
        case measure => simp [intOf]; omega
    · have HR : Hid (∀ c, (A.getD c []).length ≤ n) := fun c => by
        by_cases hc : c < A.length
        · exact hall.out c (by rw [HLA.out] at hc; omega)
        · rw [getD_ge _ _ _ (by omega)]; simp
      clear hall hk
      go_wp2_with fail
      refine (vals20_any la a la ca A w HLA.out HA.out (fun c => by have := HR.out c; omega)).mono ?_
      rw [valsR_nat HLA.out (by omega) (by omega)]
      rintro e w3 ⟨v3, rfl, hown3, hb3⟩
      obtain ⟨a3, c3, rfl, hat3, hl3, hc3⟩ := hown3.at_ (d := 0)
      clear hown3
      have hq : (n : Int) + (k1 : Int) % 6 = ((n + k1 % 6 : Nat) : Int) := by simp
      have hN : n + k1 % 6 ≤ 25 := by omega
      have HNn : Hid (n ≤ n + k1 % 6) := by show _ ≤ _; omega
      generalize n + k1 % 6 = N at *
      go_wp2_with fail
      have hNle : (N : Int) = N := rfl
      refine (ins25_any la N a3 _ c3 _ w3 rfl hat3 (by omega)).mono ?_
      rw [insR_nat (by omega) (by omega) (by omega)]
      rintro e w4 ⟨v4, hs4, rfl, hown4, hb4⟩
      have hb04 := hb3.trans (hb4.mono hb3.size)
      obtain ⟨a4, c4, hv4, hat4, hl4, hc4⟩ := hown4.rowsAt
      rw [inRows_len] at hv4 hl4
      subst hv4
      have HAT4 := Lib.hid hat4
      have HBR := Lib.hid (fun c (hc : c < la) => back_row (ch := la) (c := c) (n := N) (rows := A) hc (by have := HR.out c; have := HNn.out; omega))
      have HB04 := Lib.hid hb04
      have hsz4 := hb04.size
      have HAW4 := Lib.hid (fun w' (hb : Below w.heap.size w w') => Cr.of_run Cr.run18 (HL.out.below hb))
      clear hown4 hat4 hat3 hb3 hb4 hl3 hc3 hlt hb04
      have hii : ((0 : Int) != 0) = false := rfl
      generalize hX : inRows la N (valC la A la) la = X at *
      have HX : Hid (∀ c, c < la → X.getD c [] = A.getD c [] ++ List.replicate (N - (A.getD c []).length) 0) := fun c hc => by
        rw [← hX]
        have e : (inRows la N (valC la A la) la).getD c [] = inRow la N (valC la A la) c := by
          rw [List.getD_eq_getElem?_getD, inRows, List.getElem?_map, List.getElem?_range hc]; rfl
        rw [e]
        exact HBR.out c hc
      have HXL : Hid (X.length = la) := by show _ = _; rw [← hX]; exact inRows_len _ _ _ _
      clear hX HBR hii hNle
      go_wp2_with fail
      go_loopw [10] (fun i wr => ∃ k : Nat, k ≤ la ∧ i = .int .i64 k ∧ Hid (Below w.heap.size w wr) ∧ Hid (Below w4.heap.size w4 wr)) (fun i _ => la - (intOf i).toNat)
      case atStart => exact ⟨0, by omega, rfl, HB04, Below.refl _ _⟩
      case round =>
        obtain ⟨k, hk, rfl, HB, HB4⟩ := hrel
        by_cases hlt : k < la
        · have hq1 : k < A.length := by rw [HLA.out]; exact hlt
          have hi1 : (k : Int) < la := by omega
          obtain ⟨pb, po, ra, rac, rfl, hpb, hp0, hra, hrl, hrc⟩ := HA.out k hq1
          have hp0' := (HB.out.cell (p := ⟨pb, po + k, none⟩) hpb).trans hp0
          have HRA := Lib.hid (hra.below HB.out)
          have HXk := Lib.hid (HX.out k hlt)
          have HRk := Lib.hid (HR.out k)
          have hx1 : k < X.length := by rw [HXL.out]; exact hlt
          obtain ⟨qb, qo, rb, rbc, rfl, hqb, hq0, hrb, hsl, hsc⟩ := HAT4.out k hx1
          have hq0' := (HB4.out.cell (p := ⟨qb, qo + k, none⟩) hqb).trans hq0
          have HRB := Lib.hid (hrb.below HB4.out)
          clear hp0 hra hq0 hrb
          generalize A.getD k [] = r at *
          generalize X.getD k [] = x at *
          have hrn : r.length ≤ N := by have := HRk.out; have := HNn.out; omega
          have hr25 : r.length ≤ 25 := by omega
          have HS := Lib.hid (fun W (hb : Below wr.heap.size wr W) => (⟨(hb.cell (p := ⟨pb, po + k, none⟩) (Nat.lt_of_lt_of_le hpb HB.out.size)).trans hp0', hb⟩ : W.cell? ⟨pb, po + k, none⟩ = some (.slice ra r.length rac) ∧ Below wr.heap.size wr W))
          have hsub : (N : Int) - (r.length : Int) = ((N - r.length : Nat) : Int) := by omega
          have hwr : IntKind.i64.wrap ((N : Int) - (r.length : Int)) = ((N - r.length : Nat) : Int) := by rw [IntKind.wrap_i64]; omega
          have HWR := Lib.hid hwr
          have HW64 : Hid (IntKind.i64.wrap ((N - r.length : Nat) : Int) = ((N - r.length : Nat) : Int)) := by show _ = _; rw [IntKind.wrap_i64]; omega
          clear hwr
          go_wp2_with fail
          go_region_held3 (fun W => W.cell? ⟨pb, po + k, none⟩ = some (.slice ra r.length rac) ∧ Below wr.heap.size wr W)
            (first | exact HS.out _ (Below.refl _ _) | exact HS.out _ (Below.refl _ _).drew | exact HS.out _ KB2.out | exact HS.out _ KB.out)
            (first
              | (go_at_call 27
                 refine (copyU_any ra r.length rac r _ rfl (HRA.out.below (‹_ ∧ Below _ _ _›).2) (by omega)).mono ?_
                 rintro e wA ⟨vA, rfl, hoA, hbA⟩
                 have KB := Lib.hid ((‹_ ∧ Below _ _ _›).2.trans (hbA.mono (‹_ ∧ Below _ _ _›).2.size))
                 have KO := Lib.hid (hoA.lower (b' := wr.heap.size) ((‹_ ∧ Below _ _ _›).2.size)))
              | (refine step_zeros (by rfl) _ _ (by rfl) (N - r.length) (by rfl) KO.out (by first | exact congrArg (Value.int .i64) HWR.out | exact congrArg (Value.int .i64) HW64.out | rfl) (by omega) (by omega) ((‹_ ∧ Below _ _ _›).2.size) ?_
                 intro vB wB hoB hbB
                 have KB2 := Lib.hid ((‹_ ∧ Below _ _ _›).2.trans hbB)
                 have KO2 := Lib.hid hoB))
          clear HWR HW64
          have hbB := KB2.out
          have HBB := Lib.hid (HB.out.trans (hbB.mono HB.out.size))
          have HB4B := Lib.hid (HB4.out.trans (hbB.mono HB4.out.size))
          have hq0'' := (hbB.cell (p := ⟨qb, qo + k, none⟩) (Nat.lt_of_lt_of_le hqb HB4.out.size)).trans hq0'
          obtain ⟨a9, c9, hv9, hat9, _, _⟩ := KO2.out.at_ (d := 0)
          have HE := Lib.hid (eqU_any rb a9 _ _ rbc c9 x x wB rfl rfl (HRB.out.below hbB) (by rw [HXk.out]; exact hat9) (by rw [HXk.out]; simp; omega))
          rw [eqU_self] at HE
          rw [← HXk.out] at hv9
          subst hv9
          clear hq0' hat9 HRB HRA KO KO2 KB KB2 HS HXk hp0' hsub
          go_wp2_with fail
          refine HE.out.mono ?_
          rintro e wE ⟨rfl, hSE⟩
          have HBE := Lib.hid (HBB.out.trans ((hSE.below wB.heap.size).mono HBB.out.size))
          have HB4E := Lib.hid (HB4B.out.trans ((hSE.below wB.heap.size).mono HB4B.out.size))
          clear HE
          go_wp2_with fail
          go_roundw
          case rel => exact ⟨k + 1, by omega, by go_num, HBE, HB4E⟩
          case measure => simp [intOf]; omega
        · have HF := Lib.hid (HAW4.out _ HB.out)
          go_wp2_with fail
          refine HF.out.mono ?_
          rintro e w9 ⟨rfl, hb9⟩
          go_wp2_with fail
          go_ret
          exact ⟨rfl, HB.out.trans (hb9.mono HB.out.size)⟩
end Go.Proofs.YtjhbabgcoemecaaDoor
