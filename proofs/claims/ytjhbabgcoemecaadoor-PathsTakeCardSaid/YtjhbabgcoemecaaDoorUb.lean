/- Walks: Holds, of the code and of the reference. -/
import Derived.Test.YtjhbabgcoemecaaDoorVi
import Derived.Test.YtjhbabgcoemecaaDoorUa
namespace Go.Proofs.YtjhbabgcoemecaaDoor
open Go.RowKit

/-- what Holds answers, V being the values of all terms -/
def holdsV (n : Nat) (V : List Nat) (cs : List Int) : Value := if cs.all (fun t => inG n t) = true then .tuple #[.bool (cs.all fun t => V.getD t.toNat 0 != 0), .int .i64 0] else .tuple #[.bool false, .int .i64 3]
theorem all_getD {α : Type} (d : α) (p : α → Bool) (l : List α) : (∀ j, j < l.length → p (l.getD j d) = true) → l.all p = true := fun h => List.all_eq_true.2 fun x hx => by
  obtain ⟨i, hi, rfl⟩ := List.getElem_of_mem hx
  have := h i hi
  rwa [List.getD_eq_getElem?_getD, List.getElem?_eq_getElem hi] at this
theorem all_false {α : Type} (d : α) (p : α → Bool) (l : List α) {j : Nat} (hj : j < l.length) (h : p (l.getD j d) = false) : l.all p = false := List.all_eq_false.2 ⟨l.getD j d, getD_mem d l j hj, by rw [h]; simp⟩
theorem all_snoc {α : Type} (d : α) (p : α → Bool) (l : List α) {j : Nat} (hj : j < l.length) : (l.take (j + 1)).all p = ((l.take j).all p && p (l.getD j d)) := by
  rw [take_snoc' d l hj, List.all_append]; simp

set_option maxRecDepth 100000 in
set_option maxHeartbeats 4000000 in
theorem holds30 {w : World} {r W : Nat} {L : List Nd} (h : RV w r W L) (h1 : 1 ≤ W) (h2 : W ≤ 64) (hL : L.length ≤ 60) (vals : List Nat) {b : Option Addr} {l d : Nat} (hlen : vals.length = l) (hvl : l ≤ 100) (hatv : (Lay.int .u64).At 0 w b (intsN vals)) (hsm : ∀ v ∈ vals, v < 18446744073709551616)
    (cs : List Int) {a : Option Addr} {cl cc : Nat} (hcl : cs.length = cl) (hc12 : cl ≤ 12) (hat : (Lay.int .i64).At 0 w a cs) (st sp : Int) (oa ra ba ia : Option Addr) (ol oc rl rc bl bc il ic : Nat) :
    Calls Tryd.prog 30 #[.pointer (some ⟨r, 0, none⟩), .agg #[.slice a cl cc, .int .u8 st, .int .i64 sp, .slice oa ol oc, .slice ra rl rc, .slice ba bl bc, .slice ia il ic], .slice b l d] w fun e w' => e = .returned (holdsV L.length (valuesN W vals L) cs) ∧ Below w.heap.size w w' := by
  subst hcl
  have HV : Hid (holdsV L.length (valuesN W vals L) cs = if cs.all (fun t => inG L.length t) = true then .tuple #[.bool (cs.all fun t => (valuesN W vals L).getD t.toNat 0 != 0), .int .i64 0] else .tuple #[.bool false, .int .i64 3]) := Lib.hid rfl
  by_cases hg : ∀ t ∈ cs, inG L.length t = true
  · have HC : Hid (∀ w', Below w.heap.size w w' → Calls Tryd.prog 56 #[.pointer (some ⟨r, 0, none⟩), .slice a cs.length cc, .slice b l d] w' fun e w'' => ∃ v, e = .returned (.tuple #[v, .int .i64 0]) ∧ (Lay.int .u64).Own 33 w'' w'.heap.size v (intsN (cs.map fun t => (valuesN W vals L).getD t.toNat 0)) ∧ Below w'.heap.size w' w'') :=
      Lib.hid fun w' hb => all56 (h.below hb) h1 h2 cs rfl (by omega) (hat.below hb) hg hL vals hlen hvl (hatv.below hb) hsm
    rw [if_pos (List.all_eq_true.2 hg), show (cs.all fun t => (valuesN W vals L).getD t.toNat 0 != 0) = (cs.map fun t => (valuesN W vals L).getD t.toNat 0).all fun x => x != 0 by rw [List.all_map]; rfl] at HV
    have HF : Hid ((cs.map fun t => (valuesN W vals L).getD t.toNat 0).length = cs.length) := Lib.hid (List.length_map _)
    generalize holdsV L.length (valuesN W vals L) cs = hv at *
    generalize (cs.map fun t => (valuesN W vals L).getD t.toNat 0) = F at *
    generalize cs.length = cl at *
    obtain rfl := HV.out
    clear h hat hatv hsm hg hlen hvl HV
    have HBA : Hid (Below w.heap.size w (w.alloc (.cells #[.slice a cl cc, .int .u8 st, .int .i64 sp, .slice oa ol oc, .slice ra rl rc, .slice ba bl bc, .slice ia il ic] 43))) := Lib.hid ((Below.refl _ _).alloc (Nat.le_refl _) _)
    have HAT : Hid (∀ k, k < F.length → F.getD k 0 = 0 → (F.all fun x => x != 0) = false) := Lib.hid fun k hk e => all_false 0 _ F hk (by rw [e]; rfl)
    have HAA : Hid ((∀ k, k < F.length → F.getD k 0 ≠ 0) → (F.all fun x => x != 0) = true) := Lib.hid fun h => all_getD 0 _ F fun j hj => by simpa using h j hj
    generalize (F.all fun x => x != 0) = z at *
    go_enter Tryd.func30, Tryd.ntmps30
    go_wp2_with (first
      | (go_at_call 56
         refine (HC.out _ HBA.out).mono ?_
         rintro e wB ⟨v, rfl, hov, hB⟩
         have HB := Lib.hid (HBA.out.trans (hB.mono HBA.out.size))
         obtain ⟨av, cv, e5, hatv, _, _⟩ := hov.at_ (d := 0)
         rw [intsN_len, HF.out] at e5
         subst e5
         have HATV := Lib.hid hatv
         clear hov hatv hB))
    go_loopw [25] (fun i wr => ∃ k : Nat, k ≤ cl ∧ i = .int .i64 k ∧ Hid (∀ j, j < k → F.getD j 0 ≠ 0) ∧ Hid (wr = wB)) (fun i _ => cl - (intOf i).toNat)
    case atStart => exact ⟨0, by omega, rfl, Lib.hid fun j hj => absurd hj (by omega), Lib.hid rfl⟩
    case round =>
      obtain ⟨k, hk, rfl, hall, hw⟩ := hrel
      obtain rfl := hw.out.symm
      by_cases hlk : k < cl
      · obtain ⟨ib, io, rfl, hib, i0⟩ := HATV.out.int (i := k) (by rw [intsN_len, HF.out]; exact hlk)
        rw [intsN_getD] at i0
        have HALL := Lib.hid hall.out
        have HZ := Lib.hid (HAT.out k (by rw [HF.out]; exact hlk))
        have hki : (k : Int) < cl := by omega
        clear hall
        generalize hx : F.getD k 0 = x at *
        have HX := Lib.hid hx
        clear hx
        by_cases hx0 : x = 0
        · subst hx0
          have hz := HZ.out rfl
          subst hz
          go_wp2_with fail
          go_ret2
          exact ⟨rfl, HB.out⟩
        · have d0 : ((x : Int) == 0) = false := by simp; omega
          have HX0 := Lib.hid hx0
          go_wp2_with fail
          go_roundw
          case rel => exact ⟨k + 1, by omega, by go_num, Lib.hid fun j hj => by
            by_cases e : j = k
            · subst e; rw [HX.out]; exact HX0.out
            · exact HALL.out j (by omega), by first | exact Lib.hid rfl | exact Lib.hid trivial⟩
          case measure => simp [intOf]; omega
      · obtain rfl : k = cl := by omega
        have hz := HAA.out (fun k hk => hall.out k (by rw [HF.out] at hk; exact hk))
        subst hz
        go_wp2_with fail
        go_ret2
        exact ⟨rfl, HB.out⟩
  · have HC : Hid (∀ w', Below w.heap.size w w' → Calls Tryd.prog 56 #[.pointer (some ⟨r, 0, none⟩), .slice a cs.length cc, .slice b l d] w' fun e w'' => e = .returned (.tuple #[.slice none 0 0, .int .i64 3]) ∧ Below w'.heap.size w' w'') :=
      Lib.hid fun w' hb => all56_bad (h.below hb) cs rfl (by omega) (hat.below hb) hg
    rw [if_neg (fun e => hg (List.all_eq_true.1 e))] at HV
    generalize holdsV L.length (valuesN W vals L) cs = hv at *
    generalize cs.length = cl at *
    obtain rfl := HV.out
    clear h hat hatv hsm hg hlen hvl HV
    have HBA : Hid (Below w.heap.size w (w.alloc (.cells #[.slice a cl cc, .int .u8 st, .int .i64 sp, .slice oa ol oc, .slice ra rl rc, .slice ba bl bc, .slice ia il ic] 43))) := Lib.hid ((Below.refl _ _).alloc (Nat.le_refl _) _)
    go_enter Tryd.func30, Tryd.ntmps30
    go_wp2_with (first
      | (go_at_call 56
         refine (HC.out _ HBA.out).mono ?_
         rintro e wB ⟨rfl, hB⟩
         have HB := Lib.hid (HBA.out.trans (hB.mono HBA.out.size))
         clear hB))
    go_ret2
    exact ⟨rfl, HB.out⟩

set_option maxRecDepth 100000 in
set_option maxHeartbeats 4000000 in
theorem holds31 {w : World} {r W : Nat} {L : List Nd} (h : RV w r W L) (h1 : 1 ≤ W) (h2 : W ≤ 64) (hL : L.length ≤ 60) (vals : List Nat) {b : Option Addr} {l d : Nat} (hlen : vals.length = l) (hvl : l ≤ 100) (hatv : (Lay.int .u64).At 0 w b (intsN vals)) (hsm : ∀ v ∈ vals, v < 18446744073709551616)
    (cs : List Int) {a : Option Addr} {cl cc : Nat} (hcl : cs.length = cl) (hc12 : cl ≤ 12) (hat : (Lay.int .i64).At 0 w a cs) (st sp : Int) (oa ra ba ia : Option Addr) (ol oc rl rc bl bc il ic : Nat) :
    Calls Tryd.prog 31 #[.pointer (some ⟨r, 0, none⟩), .agg #[.slice a cl cc, .int .u8 st, .int .i64 sp, .slice oa ol oc, .slice ra rl rc, .slice ba bl bc, .slice ia il ic], .slice b l d] w fun e w' => e = .returned (holdsV L.length (valuesN W vals L) cs) ∧ Below w.heap.size w w' := by
  subst hcl
  have HV : Hid (holdsV L.length (valuesN W vals L) cs = if cs.all (fun t => inG L.length t) = true then .tuple #[.bool (cs.all fun t => (valuesN W vals L).getD t.toNat 0 != 0), .int .i64 0] else .tuple #[.bool false, .int .i64 3]) := Lib.hid rfl
  have HC : Hid (∀ w' t, Below w.heap.size w w' → Calls Tryd.prog 57 #[.pointer (some ⟨r, 0, none⟩), .int .i64 t, .slice b l d] w' fun e w'' => e = .returned (evN L.length (valuesN W vals L) t) ∧ Below w'.heap.size w' w'') :=
    Lib.hid fun w' t hb => eval57 (h.below hb) h1 h2 hL t vals hlen hvl (hatv.below hb) hsm
  have HA := Lib.hid hat
  generalize valuesN W vals L = V at *
  generalize L.length = n at *
  have HEV : Hid (∀ t, inG n t = true → evN n V t = .tuple #[.int .u64 (V.getD t.toNat 0 : Nat), .int .i64 0]) := Lib.hid fun t e => if_pos e
  have HEB : Hid (∀ t, inG n t = false → evN n V t = .tuple #[.int .u64 0, .int .i64 3]) := Lib.hid fun t e => if_neg (by rw [e]; simp)
  have HBAD : Hid (∀ k, k < cs.length → inG n (cs.getD k 0) = false → holdsV n V cs = .tuple #[.bool false, .int .i64 3]) := Lib.hid fun k hk e => by rw [HV.out, if_neg]; rw [all_false 0 _ cs hk e]; simp
  have HGOOD : Hid ((∀ k, k < cs.length → inG n (cs.getD k 0) = true) → holdsV n V cs = .tuple #[.bool ((cs.take cs.length).all fun t => V.getD t.toNat 0 != 0), .int .i64 0]) := Lib.hid fun e => by rw [HV.out, if_pos (all_getD 0 _ cs e), List.take_length]
  have HTK : Hid (∀ k, k < cs.length → ((cs.take (k + 1)).all fun t => V.getD t.toNat 0 != 0) = (((cs.take k).all fun t => V.getD t.toNat 0 != 0) && (V.getD (cs.getD k 0).toNat 0 != 0))) := Lib.hid fun k hk => all_snoc 0 _ cs hk
  generalize holdsV n V cs = hv at *
  clear h hat hatv hsm hlen hvl HV
  have HBA : Hid (Below w.heap.size w (w.alloc (.cells #[.slice a cs.length cc, .int .u8 st, .int .i64 sp, .slice oa ol oc, .slice ra rl rc, .slice ba bl bc, .slice ia il ic] 43))) := Lib.hid ((Below.refl _ _).alloc (Nat.le_refl _) _)
  have x0 : (w.alloc (.cells #[.slice a cs.length cc, .int .u8 st, .int .i64 sp, .slice oa ol oc, .slice ra rl rc, .slice ba bl bc, .slice ia il ic] 43)).cell? ⟨w.heap.size, 0, none⟩ = some (.slice a cs.length cc) := by rw [World.cell?_alloc_new]; rfl
  have hz0 : w.heap.size < (w.alloc (.cells #[.slice a cs.length cc, .int .u8 st, .int .i64 sp, .slice oa ol oc, .slice ra rl rc, .slice ba bl bc, .slice ia il ic] 43)).heap.size := by simp
  go_enter Tryd.func31, Tryd.ntmps31
  go_wp2_with fail
  generalize (w.alloc (.cells #[.slice a cs.length cc, .int .u8 st, .int .i64 sp, .slice oa ol oc, .slice ra rl rc, .slice ba bl bc, .slice ia il ic] 43)) = wA at *
  go_loopw [8, 9] (fun g i wr => ∃ k : Nat, k ≤ cs.length ∧ g = .bool ((cs.take k).all fun t => V.getD t.toNat 0 != 0) ∧ i = .int .i64 k ∧ Hid (∀ j, j < k → inG n (cs.getD j 0) = true) ∧ Below wA.heap.size wA wr) (fun _ i _ => cs.length - (intOf i).toNat)
  case atStart => exact ⟨0, by omega, rfl, rfl, Lib.hid fun j hj => absurd hj (by omega), Below.refl _ _⟩
  case round =>
    obtain ⟨k, hk, rfl, rfl, hall, hb⟩ := hrel
    have x1 := (hb.cell (p := ⟨w.heap.size, 0, none⟩) hz0).trans x0
    have HB := Lib.hid (HBA.out.trans (hb.mono HBA.out.size))
    have HBW := Lib.hid hb
    have hzw := HB.out.size
    have hzb := hb.size
    clear hb
    have HALL := Lib.hid hall.out
    clear hall
    by_cases hlk : k < cs.length
    · obtain ⟨ib, io, rfl, hib, i0⟩ := HA.out.int (i := k) hlk
      have i1 := (HB.out.cell (p := ⟨ib, io + k, none⟩) hib).trans i0
      have hki : (k : Int) < cs.length := by omega
      have HT := Lib.hid (HTK.out k hlk)
      have HBD := Lib.hid (HBAD.out k hlk)
      clear i0
      generalize hx : cs.getD k 0 = x at *
      have HX := Lib.hid hx
      clear hx
      have HCX := Lib.hid (HC.out wr x HB.out)
      cases hin : inG n x with
      | false =>
        have hv3 := HBD.out hin
        subst hv3
        rw [HEB.out x hin] at HCX
        clear hin
        go_wp2_with (first
          | (go_at_call 57
             refine HCX.out.mono ?_
             rintro e wB ⟨rfl, hB⟩
             have HBB := Lib.hid (HB.out.trans (hB.mono hzw))
             clear hB))
        go_ret2
        exact ⟨rfl, HBB.out⟩
      | true =>
        rw [HEV.out x hin] at HCX
        have HIN := Lib.hid hin
        clear hin
        generalize V.getD x.toNat 0 = y at *
        have HAL2 : Hid (∀ j, j < k + 1 → inG n (cs.getD j 0) = true) := Lib.hid fun j hj => by
          by_cases e : j = k
          · subst e; rw [HX.out]; exact HIN.out
          · exact HALL.out j (by omega)
        generalize ((cs.take k).all fun t => V.getD t.toNat 0 != 0) = g at *
        cases g with
        | false =>
          have HT2 : Hid (((cs.take (k + 1)).all fun t => V.getD t.toNat 0 != 0) = false) := Lib.hid HT.out
          go_wp2_with (first
            | (go_at_call 57
               refine HCX.out.mono ?_
               rintro e wB ⟨rfl, hB⟩
               have HBB := Lib.hid (HBW.out.trans (hB.mono hzb))
               clear hB))
          go_roundw
          case rel => exact ⟨k + 1, by omega, by rw [HT2.out], by go_num, Lib.hid HAL2.out, HBB.out⟩
          case measure => simp [intOf]; omega
        | true =>
          by_cases hy : y = 0
          · subst hy
            have HT2 : Hid (((cs.take (k + 1)).all fun t => V.getD t.toNat 0 != 0) = false) := Lib.hid HT.out
            go_wp2_with (first
              | (go_at_call 57
                 refine HCX.out.mono ?_
                 rintro e wB ⟨rfl, hB⟩
                 have HBB := Lib.hid (HBW.out.trans (hB.mono hzb))
                 clear hB))
            go_roundw
            case rel => exact ⟨k + 1, by omega, by rw [HT2.out], by go_num, Lib.hid HAL2.out, HBB.out⟩
            case measure => simp [intOf]; omega
          · have HT2 : Hid (((cs.take (k + 1)).all fun t => V.getD t.toNat 0 != 0) = true) := Lib.hid (by rw [HT.out]; simp; exact hy)
            have dy : ((y : Int) != 0) = true := by simp; omega
            go_wp2_with (first
              | (go_at_call 57
                 refine HCX.out.mono ?_
                 rintro e wB ⟨rfl, hB⟩
                 have HBB := Lib.hid (HBW.out.trans (hB.mono hzb))
                 clear hB))
            go_roundw
            case rel => exact ⟨k + 1, by omega, by rw [HT2.out], by go_num, Lib.hid HAL2.out, HBB.out⟩
            case measure => simp [intOf]; omega
    · obtain rfl : k = cs.length := by omega
      have hv3 := HGOOD.out fun k hk => HALL.out k hk
      subst hv3
      go_wp2_with fail
      go_ret2
      exact ⟨rfl, HB.out⟩
end Go.Proofs.YtjhbabgcoemecaaDoor
