/- Walk: Vars of the code. -/
import Derived.Test.YtcckmkidmelbnaaGreatDoorNv
import Derived.Test.YtcckmkidmelbnaaGreatDoorNs
import Derived.Sort.OwnSortedInts
namespace Go.Proofs.YtcckmkidmelbnaaGreatDoor
open Go Go.RowKit
open Go.Proofs.YtcckmkidmelbnaaGreatDoor.Cr
open Go.ChangeMaps (setBlock)

theorem flat_int (xs : List Int) : (Lay.int .i64).flat xs = xs.map (Value.int .i64) := by
  induction xs with
  | nil => rfl
  | cons x xs ih => simp only [Lay.flat, Lay.int, List.flatMap_cons, List.map_cons] at ih ⊢; rw [ih]; rfl
theorem sort60 {w : World} {base : Nat} {v : Value} {xs : List Int} (h : (Lay.int .i64).Own 3 w base v xs) (hb : base ≤ w.heap.size) (hl : xs.length ≤ 100000) :
    Calls Tryz.prog 60 #[v] w fun e w' => e = .returned (.tuple #[]) ∧ ∃ ys : List Int, ys.Perm xs ∧ (Lay.int .i64).Own 3 w' base v ys ∧ Below base w w' := by
  obtain ⟨h0, h | ⟨g, cap, cur, rfl, hg, hh, hn, hm, hs, ht⟩⟩ := h
  · obtain ⟨rfl, h2⟩ := h
    have : xs = [] := List.eq_nil_of_length_eq_zero h2
    subst this
    exact (Tryz.slices_Sort_int_none none 0 w).mono fun e w' ⟨h1, h2⟩ => by subst h2; exact ⟨h1, [], List.Perm.refl _, Lay.Own.nil _ _, Below.refl _ _⟩
  · have ht' : cur.toList.take xs.length = xs.map (Value.int .i64) := by
      rw [← flat_int, ← ht]; simp [Lay.int]
    have hlt : g < w.heap.size := (Array.getElem?_eq_some_iff.1 hh).1
    refine (Tryz.slices_Sort_int g 0 cap xs w (holds_of_blockI hh ht') hlt (by omega)).mono fun e w' ⟨h1, n, os, h2⟩ => ?_
    subst h2
    have hp : (xs.mergeSort fun x y => decide (x ≤ y)).Perm xs := List.mergeSort_perm _ _
    refine ⟨h1, _, hp, ?_, (Below.refl _ _).grown (grownBy_sortedI _) hb fun k hk => by injection hk with hk; omega⟩
    have := ownsRow_sortedI (n := n) (os := os) (ts := xs.mergeSort fun x y => decide (x ≤ y)) hp.length_eq hg hh hn hm (by simpa [Lay.int] using hs)
    unfold Lay.Own
    rw [flat_int, hp.length_eq]
    exact this
/-- what the loop over the map keeps -/
structure VarsP (R : Nat) (w1 : World) (mb clock : Nat) (f : Nat → Option Nat) (len : Nat) (v : Value) (wr : World) : Prop where
  it : ∃ seen last L, wr.heap[R]? = some (.mapIter (some mb) clock seen last) ∧ clock ≤ last ∧ (Lay.int .i64).Own 3 wr (R + 1) v L ∧ SeenVars f len seen L
  below : Below R w1 wr
  size : R < wr.heap.size
def VarsR (w : World) (L : List Nd) (t : Nat) (e : Ending) (w' : World) : Prop := ∃ v xs, e = .returned (.tuple #[v, .int .i64 0]) ∧ (Lay.int .i64).Own 3 w' w.heap.size v xs ∧ (∀ n, n ∈ xs ↔ VarIn L t n) ∧ xs.length ≤ 1000 ∧ Below w.heap.size w w'
def fvar (L : List Nd) (S : List Nat) (j : Nat) : Option Nat := if (L.getD (S.getD j 0) default).op = 1 then some (L.getD (S.getD j 0) default).num else none
theorem seenVars_le {f : Nat → Option Nat} {len : Nat} {seen : Array Nat} {L : List Int} (h : SeenVars f len seen L) : L.length ≤ len := by
  have := h.length
  have h2 : ((List.range len).filterMap f).length ≤ len := by
    have := List.length_filterMap_le f (List.range len)
    simpa using this
  omega
theorem fvar_mem {L : List Nd} {t : Nat} {S : List Nat} {l : List Int} (hS : ∀ j, j ∈ S ↔ Occ L t j) (hp : l.Perm (((List.range S.length).filterMap (fvar L S)).map fun (n : Nat) => (n : Int))) (n : Int) : n ∈ l ↔ VarIn L t n := by
  rw [hp.mem_iff]
  simp only [List.mem_map, List.mem_filterMap, List.mem_range, fvar]
  constructor
  · rintro ⟨k, ⟨j, hj, hk⟩, rfl⟩
    split at hk
    · rename_i h1
      injection hk with hk
      exact ⟨S.getD j 0, (hS _).1 (getD_mem 0 S j hj), h1, by rw [hk]⟩
    · cases hk
  · rintro ⟨j, ho, h1, h2⟩
    obtain ⟨i, hi, e⟩ := List.getElem_of_mem ((hS j).2 ho)
    refine ⟨(L.getD j default).num, ⟨i, hi, ?_⟩, h2⟩
    have : S.getD i 0 = j := by rw [List.getD_eq_getElem?_getD, List.getElem?_eq_getElem hi]; exact e
    rw [this, if_pos h1]
set_option maxRecDepth 100000 in
set_option maxHeartbeats 8000000 in
theorem vars24 {w : World} {r W : Nat} {L : List Nd} (h : RV w r W L) (hvo : VOk L) (t : Nat) (ht : t < L.length) (hL : L.length ≤ 100) (tb to_ c : Nat) (htb : tb < w.heap.size) (hc : w.cell? ⟨tb, to_, none⟩ = some (.int .i64 (t : Int))) :
    Calls Tryz.prog 24 #[.pointer (some ⟨r, 0, none⟩), .slice (some ⟨tb, to_, none⟩) 1 c] w (VarsR w L t) := by
  have HO := Lib.hid (occur59 h t ht hL tb to_ c htb hc)
  have HVO := Lib.hid hvo
  have HGO := Lib.hid h.ok
  have HTL : Hid (t < L.length) := Lib.hid ht
  have HLL : Hid (L.length ≤ 100) := Lib.hid hL
  clear h hvo ht hL htb hc
  go_enter Tryz.func24, Tryz.ntmps24
  go_wp2_with fail
  refine HO.out.mono ?_
  rintro e w1 ⟨mb, S, rfl, hsa, hocc, hnd, hlo, hlt, hb1⟩
  obtain ⟨es, clock, q1, q2, q3⟩ := hsa.ents
  have HQ2 := Lib.hid q2
  clear q2
  have HSL : Hid (S.length ≤ 100) := Lib.hid (Nat.le_trans (nodup_len hnd fun x hx => ((hocc x).1 hx).lt HGO.out HTL.out) HLL.out)
  go_wp2_with (at_range; refine wpList_range_at rfl _ _ rfl und137 rfl q1 ?_)
  have hlen := q3.len
  have hbn : Bn es clock := ⟨by rw [HQ2.out, ← hlen]; simp, fun j e he => by have := q3.born j e (by simpa using he); omega⟩
  have HQ1 := Lib.hid q1
  have HN : Hid (∀ e ∈ es.toList, e.born < S.length ∧ ∃ a n c, e.val = ndV (L.getD (S.getD e.born 0) default).op (L.getD (S.getD e.born 0) default).num a n c) := Lib.hid fun e he => by
    obtain ⟨j, hj, _, h2, h3⟩ := q3.at_ e he
    rw [Nat.zero_add] at h2
    rw [h2]
    exact ⟨hj, h3⟩
  have HBo : ∀ x ∈ es.toList, x.born < clock := fun x hx => by have := (HN.out x hx).1; rw [HQ2.out]; exact this
  have hND := hbn.nodup
  have HJ : Hid (∀ b, b < S.length → ∃ e0 ∈ es.toList, e0.born = b) := Lib.hid (fun b hb => by
    have hb' : b < es.size := by simp at hlen; omega
    exact ⟨es[b], by simp, hbn.born b _ (Array.getElem?_eq_getElem hb')⟩)
  have HOCC := Lib.hid hocc
  have HB1 := Lib.hid hb1
  have hmbl : mb < w1.heap.size := hlt
  clear hbn q3 q1 hlen hsa hocc hnd hb1 hlt HO
  intro w2 hw2
  replace hw2 := hw2.out
  generalize hR : w1.heap.size = R at *
  have hR2 : w2.heap[R]? = some (.mapIter (some mb) clock #[] clock) := by subst hR; rw [hw2]; exact heap_alloc_new w1 _
  have hB2 : Below R w1 w2 := by subst hR; rw [hw2]; exact (Below.refl _ _).alloc (Nat.le_refl _) _
  have hs2 : w2.heap.size = R + 1 := by rw [hw2]; simp [hR]
  have HRR : Hid (w.heap.size ≤ R) := Lib.hid (by rw [← hR]; exact HB1.out.size)
  clear hw2 hlo
  go_wp2_with fail
  go_loopw [8] (fun v wr => VarsP R w1 mb clock (fvar L S) S.length v wr) (fun _ wr => leftIn es R wr)
  case atStart => exact ⟨⟨#[], clock, [], hR2, Nat.le_refl _, Lay.Own.nil w2 (R + 1), SeenVars.nil _ _⟩, hB2, by omega⟩
  case round =>
    obtain ⟨⟨seen, last, Q, hrr, hll, hown, hsv⟩, hbel, hszr⟩ := hrel
    clear hR2 hB2 hs2
    have hbm' : wr.heap[mb]? = some (.map es clock) := (hbel.block mb hmbl).trans HQ1.out
    go_wp2_with (at_next; refine wpList_next_at rfl _ rfl (by rfl) hrr hbm' HBo hll ?_ ?_)
    · intro hdone
      have hperm := hsv.perm fun b hb => by
        obtain ⟨e0, he0, hb0⟩ := HJ.out b hb
        have := all_seen es seen (by rw [hdone.out]; rfl) e0 he0
        rwa [hb0] at this
      have HMEM := Lib.hid (fvar_mem HOCC.out hperm)
      have HQL : Hid (Q.length ≤ 100) := Lib.hid (Nat.le_trans (seenVars_le hsv) HSL.out)
      have HSO := Lib.hid (sort60 hown (by omega) (by have := HQL.out; omega))
      have HBW : Hid (Below w.heap.size w wr) := Lib.hid (HB1.out.trans (hbel.mono HRR.out))
      clear hown hperm hsv hrr hbm' hdone hll hND HBo
      go_wp2_with fail
      refine HSO.out.mono ?_
      rintro e w3 ⟨rfl, ys, hp, hown3, hb3⟩
      have HOW3 := Lib.hid hown3
      have HB3 := Lib.hid hb3
      have HPP := Lib.hid hp
      clear hown3 hb3 hp
      go_wp2_with fail
      go_ret2
      exact ⟨_, ys, rfl, HOW3.out.lower (by have := HRR.out; omega), fun n => (HPP.out.mem_iff).trans (HMEM.out n), by rw [HPP.out.length_eq]; have := HQL.out; omega, HBW.out.trans (HB3.out.mono (by have := HRR.out; omega))⟩
    · intro e he w3 w4 hw3 hw4
      replace hw4 := hw4.out
      replace he : e ∈ (leftOf es seen).toList := by simpa using he
      obtain ⟨he1, he2⟩ := mem_left he
      have h3 : wr.grownBy w3 none := by
        rcases hw3 with rfl | rfl
        · exact World.grownBy.refl _ _
        · exact ⟨rfl, rfl, rfl, Nat.le_refl _, fun _ _ _ => rfl⟩
      have h34 : w3.heap.size = wr.heap.size := by rcases hw3 with rfl | rfl <;> rfl
      have hg4 : wr.grownBy w4 (some R) := by
        rw [hw4]
        refine ⟨h3.os, h3.tape, h3.output, by simpa [setBlock] using h3.size, fun k hk hne => ?_⟩
        show (w3.heap.setIfInBounds R _)[k]? = _
        rw [Array.getElem?_setIfInBounds_ne (by intro e; exact hne (by rw [e]))]
        exact h3.block k hk (by simp)
      have hr4 : w4.heap[R]? = some (.mapIter (some mb) clock (seen.push e.born) clock) := by
        rw [hw4]
        show (w3.heap.setIfInBounds R _)[R]? = _
        rw [Array.getElem?_setIfInBounds_self_of_lt (by omega)]
      have hb4 : Below R w1 w4 := hbel.grown hg4 (by omega) (fun k hk => by injection hk with hk; omega)
      have hbm4 : w4.heap[mb]? = some (.map es clock) := (hb4.block mb hmbl).trans HQ1.out
      have hen := run_entry_at (P := Tryz.prog) w4 R mb clock seen es clock e hr4 hbm4 he1 hND
      have hs4 : R < w4.heap.size := by have := hg4.size; omega
      have hown4 : (Lay.int .i64).Own 3 w4 (R + 1) u8 Q := World.ownsRow.kept (row := some R) hown hg4 (by
        cases hk : u8.ownBlock with
        | none => exact .inl rfl
        | some k => exact .inr (fun e => by injection e with e; have := (World.ownsRow.lt hown k hk).1; omega))
      have hmes := left_shrinks es seen e he
      have hL0 : leftIn es R wr = (leftOf es seen).size := leftIn_of hrr
      obtain ⟨hlt, aa, an, ac, hval⟩ := HN.out e he1
      have hec : seen.contains e.born = false := he2
      have hQl := seenVars_le hsv
      have hSl := HSL.out
      clear hw4 hw3 hown hrr hbm' he h3 h34 hg4 he2
      have hvo' := HVO.out (S.getD e.born 0)
      have hfv : fvar L S e.born = if (L.getD (S.getD e.born 0) default).op = 1 then some (L.getD (S.getD e.born 0) default).num else none := rfl
      rw [hval] at hen ⊢
      unfold ndV at hen ⊢
      generalize (L.getD (S.getD e.born 0) default).op = op at *
      generalize (L.getD (S.getD e.born 0) default).num = num at *
      clear hval
      have hm4 : leftIn es R w4 = (leftOf es (seen.push e.born)).size := leftIn_of hr4
      by_cases hop : op = 1
      · subst hop
        rw [if_pos rfl] at hfv
        have hnum := hvo' rfl
        have hsv4 := hsv.take hlt hec hfv
        clear hfv hec hlt hsv hvo'
        generalize seen.push e.born = sn at *
        generalize e.key = ky at *
        have hnw : (num : Int) < 9223372036854775808 := by omega
        go_wp2_with (at_builtin; refine app_lay_new_g Tryz.elemI [(num : Int)] rfl _ _ rfl rfl (hown4.alloc _) rfl (by simp) rfl (by simp; omega) (by simp; omega) ?_)
        intro v5 w5 hown5 hb5
        go_wp2_with fail
        go_roundw
        case rel =>
          refine ⟨⟨sn, clock, Q ++ [(num : Int)], ((hb5.block R (by omega)).trans (Below.heap_alloc w4 _ R hs4)).trans hr4, Nat.le_refl _, hown5, hsv4⟩, (hb4.alloc (by omega) _).trans (hb5.mono (by omega)), by have := hb5.size; simp at this; omega⟩
        case measure =>
          rw [leftIn_of (((hb5.block R (by omega)).trans (Below.heap_alloc w4 _ R hs4)).trans hr4), hL0]
          exact hmes
      · have hop' : ((op : Int) == 1) = false := by simp; omega
        rw [if_neg hop] at hfv
        have hsv4 := hsv.skip hlt hec hfv
        clear hfv hec hlt hsv hop hvo'
        generalize seen.push e.born = sn at *
        generalize e.key = ky at *
        go_wp2_with fail
        go_roundw
        case rel => exact ⟨⟨sn, clock, Q, (Below.heap_alloc w4 _ R hs4).trans hr4, Nat.le_refl _, hown4.alloc _, hsv4⟩, hb4.alloc (by omega) _, by simp; omega⟩
        case measure =>
          rw [leftIn_of ((Below.heap_alloc w4 _ R hs4).trans hr4), hL0]
          exact hmes
end Go.Proofs.YtcckmkidmelbnaaGreatDoor
