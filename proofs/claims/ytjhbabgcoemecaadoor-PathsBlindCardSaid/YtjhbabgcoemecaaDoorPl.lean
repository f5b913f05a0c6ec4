/- The law PathsBlind. -/
import Derived.Test.YtjhbabgcoemecaaDoorR32
import Derived.Test.YtjhbabgcoemecaaDoorPi
import Derived.Test.YtjhbabgcoemecaaDoorPk
namespace Go.Proofs.YtjhbabgcoemecaaDoor
open Go.RowKit

theorem getD_pad (xs : List Int) (m j : Nat) : (xs ++ List.replicate m 0).getD j 0 = xs.getD j 0 := by
  by_cases h : j < xs.length
  · exact getD_left 0 xs _ j h
  · rw [getD_ge 0 xs j (by omega), List.getD_eq_getElem?_getD, List.getElem?_append_right (by omega), List.getElem?_replicate]
    split <;> rfl
theorem inRows_congr {ch n m : Nat} {xs ys : List Int} (h : ∀ j, xs.getD (2 * j) 0 = ys.getD (2 * j) 0) : inRows ch n xs m = inRows ch n ys m := by
  unfold inRows inRow
  exact List.map_congr_left fun c _ => List.map_congr_left fun k _ => h _
/-- the values with an odd one changed -/
def blindV (xs : List Int) (i : Nat) (tv : Int) : List Int := if i < xs.length + 3 then (xs ++ [0, 0, 0]).set i tv else xs ++ [0, 0, 0]
theorem blind_even {xs : List Int} {i : Nat} (hi : i % 2 = 1) (tv : Int) (j : Nat) : (blindV xs i tv).getD (2 * j) 0 = xs.getD (2 * j) 0 := by
  have e : xs ++ [0, 0, 0] = xs ++ List.replicate 3 (0 : Int) := rfl
  unfold blindV
  split
  · rw [getD_set_ne _ _ _ _ _ (by omega), e, getD_pad]
  · rw [e, getD_pad]

theorem insR_blind (k0 k1 : Nat) (xs : List Int) : insR (1 + (k0 : Int) % 6) ((k1 : Int) % 7) xs = (0, inRows (1 + k0 % 6) (k1 % 7) xs (1 + k0 % 6)) := by
  unfold insR
  rw [if_neg (by omega)]
  have e1 : (1 + (k0 : Int) % 6).toNat = 1 + k0 % 6 := by omega
  have e2 : ((k1 : Int) % 7).toNat = k1 % 7 := by omega
  rw [e1, e2]
theorem eqR_of {A B : List (List Int)} (h : A = B) : eqR A B = true := decide_eq_true h

set_option maxHeartbeats 8000000 in
set_option maxRecDepth 100000 in
theorem pathsBlind_law (k0 k1 k3 : Nat) (tv : Int) (b : Option Addr) (lb cb : Nat) (xs : List Int) (w : World) (hL : Cr.Laid w) (h0 : k0 < 256) (h1 : k1 < 256) (h3 : k3 < 256) (hlb : xs.length = lb) (hX : (Lay.int .u64).At 0 w b xs) :
    Calls Tryd.prog 8 #[.int .u8 k0, .int .u8 k1, .slice b lb cb, .int .u8 k3, .int .u64 tv] w fun e w' => e = .returned (.bool true) ∧ Below w.heap.size w w' := by
  have HL := Lib.hid hL
  have HLB := Lib.hid hlb
  have HX := Lib.hid hX
  clear hL hlb hX
  by_cases hs : 100 < lb
  · have HAW := Lib.hid (Cr.of_run Cr.run18 HL.out)
    go_enter Tryd.func8, Tryd.ntmps8
    go_wp2_with fail
    refine HAW.out.mono ?_
    rintro e w9 ⟨rfl, hb9⟩
    go_wp2_with fail
    go_ret
    exact ⟨rfl, hb9⟩
  · go_enter Tryd.func8, Tryd.ntmps8
    go_wp2_with fail
    refine (ins25_any (1 + (k0 : Int) % 6) ((k1 : Int) % 7) b lb cb xs w HLB.out HX.out (by omega)).mono ?_
    rw [insR_blind]
    rintro e w1 ⟨v1, hs1, rfl, hown1, hb1⟩
    obtain ⟨a1, c1, rfl, hat1, hl1, hc1⟩ := hown1.rowsAt
    have HA1 := Lib.hid hat1
    clear hown1 hat1
    go_wp2_with fail
    refine (copyU_any b lb cb xs w1 HLB.out (HX.out.below hb1) (by omega)).mono ?_
    rintro e w2 ⟨v2, rfl, hown2, hb2⟩
    have hb02 := hb1.trans (hb2.mono hb1.size)
    have hsz2 := hb2.size
    have hlx : xs.length ≤ 100 := by rw [HLB.out]; omega
    go_wp2_with (at_builtin; refine app_lay_new Tryd.elemU [0, 0, 0] rfl _ _ rfl rfl hown2 rfl rfl (by omega) hsz2 ?_)
    intro v3 w3 r1 r2
    have hb3 := hb2.trans (r2.mono (Nat.le_refl _))
    have hsz3 := hb3.size
    clear hown2 r2 hb2
    obtain ⟨a3, c3, hv3⟩ := r1.lenOf
    have hL3 : (xs ++ [0, 0, 0]).length = lb + 3 := by rw [List.length_append, HLB.out]; rfl
    rw [hL3] at hv3
    subst hv3
    have hq : (k3 : Int) % 50 = ((k3 % 50 : Nat) : Int) := by simp
    have HEV := Lib.hid (fun m => inRows_congr (ch := 1 + k0 % 6) (n := k1 % 7) (m := m) (fun j => blind_even (xs := xs) (i := 2 * (k3 % 50) + 1) (by omega) tv j))
    have HBV : Hid (blindV xs (2 * (k3 % 50) + 1) tv = if 2 * (k3 % 50) + 1 < lb + 3 then (xs ++ [0, 0, 0]).set (2 * (k3 % 50) + 1) tv else xs ++ [0, 0, 0]) := by show _ = _; unfold blindV; rw [HLB.out]
    generalize k3 % 50 = q at *
    by_cases hI : 2 * q + 1 < lb + 3
    · rw [if_pos hI] at HBV
      obtain ⟨g, cap3, u, hv, hg, hcl, hfz, hown4, hgr⟩ := r1.put (j := 2 * q + 1) (by rw [hL3]; exact hI) tv
      rw [hL3] at hv
      injection hv with hv1 hv2 hv3
      subst hv1
      have hI2 : 2 * (q : Int) + 1 < lb + 3 := by omega
      subst hv3
      rw [← HBV.out] at hown4
      have hgb : w1.heap.size ≤ g := hg
      have hbW : Below w1.heap.size w1 (w3.setCell ⟨g, 2 * q + 1, none⟩ (.int .u64 tv)) := hb3.grown hgr hsz3 (fun k hk => by injection hk with hk; omega)
      clear r1 hL3 hI hv2
      go_wp2_with fail
      generalize w3.setCell ⟨g, 2 * q + 1, none⟩ (.int .u64 tv) = w4 at *
      have hb4 : Below w.heap.size w w4 := hb1.trans (hbW.mono hb1.size)
      have hat5 : (Lay.int .u64).At 0 w4 (some ⟨g, 0, none⟩) (blindV xs (2 * q + 1) tv) := by
        obtain ⟨a4, c4, e4, h4, _⟩ := hown4.at_ (d := 0)
        injection e4 with e5 e6 e7
        rw [e5]; exact h4
      have hl5 : (blindV xs (2 * q + 1) tv).length = lb + 3 := by
        rw [HBV.out]; simp [HLB.out]
      have hA1 : RowsAt w4 a1 (inRows (1 + k0 % 6) (k1 % 7) xs (1 + k0 % 6)) := HA1.out.below hbW
      refine (ins25_any (1 + (k0 : Int) % 6) ((k1 : Int) % 7) (some ⟨g, 0, none⟩) (lb + 3) c3 _ w4 hl5 hat5 (by omega)).mono ?_
      rw [insR_blind]
      rintro e w5 ⟨v5, hs5, rfl, hown5, hb5⟩
      have hb05 := hb4.trans (hb5.mono hb4.size)
      obtain ⟨a5, c5, rfl, hat6, hl6, hc6⟩ := hown5.rowsAt
      have HE := Lib.hid (eqR_any a1 a5 _ _ c1 c5 _ _ w5 rfl rfl (hA1.below hb5) hat6 (by rw [inRows_len]; omega) (fun c => by have := (insR_len (ch := 1 + (k0 : Int) % 6) (n := (k1 : Int) % 7) (xs := xs)).2 c; rw [insR_blind] at this; exact this))
      rw [eqR_of (HEV.out _).symm] at HE
      clear hown5 hat6 hat5 hA1 hown4
      go_wp2_with fail
      refine HE.out.mono ?_
      rintro e w6 ⟨rfl, hS6⟩
      have hb06 := hb05.trans ((hS6.below w5.heap.size).mono hb05.size)
      have HAW := Lib.hid (Cr.of_run Cr.run18 (HL.out.below hb06))
      clear HE
      go_wp2_with fail
      refine HAW.out.mono ?_
      rintro e w9 ⟨rfl, hb9⟩
      go_wp2_with fail
      go_ret
      exact ⟨rfl, hb06.trans (hb9.mono hb06.size)⟩
    · rw [if_neg hI] at HBV
      have hI2 : ¬ 2 * (q : Int) + 1 < lb + 3 := by omega
      have hown4 := r1
      rw [← HBV.out] at hown4
      clear r1 hL3 hI
      go_wp2_with fail
      have hb4 : Below w.heap.size w w3 := hb1.trans (hb3.mono hb1.size)
      have hat5 : (Lay.int .u64).At 0 w3 a3 (blindV xs (2 * q + 1) tv) := by
        obtain ⟨a4, c4, e4, h4, _⟩ := hown4.at_ (d := 0)
        injection e4 with e5 e6 e7
        rw [e5]; exact h4
      have hl5 : (blindV xs (2 * q + 1) tv).length = lb + 3 := by
        rw [HBV.out]; simp [HLB.out]
      have hA1 : RowsAt w3 a1 (inRows (1 + k0 % 6) (k1 % 7) xs (1 + k0 % 6)) := HA1.out.below hb3
      refine (ins25_any (1 + (k0 : Int) % 6) ((k1 : Int) % 7) a3 (lb + 3) c3 _ w3 hl5 hat5 (by omega)).mono ?_
      rw [insR_blind]
      rintro e w5 ⟨v5, hs5, rfl, hown5, hb5⟩
      have hb05 := hb4.trans (hb5.mono hb4.size)
      obtain ⟨a5, c5, rfl, hat6, hl6, hc6⟩ := hown5.rowsAt
      have HE := Lib.hid (eqR_any a1 a5 _ _ c1 c5 _ _ w5 rfl rfl (hA1.below hb5) hat6 (by rw [inRows_len]; omega) (fun c => by have := (insR_len (ch := 1 + (k0 : Int) % 6) (n := (k1 : Int) % 7) (xs := xs)).2 c; rw [insR_blind] at this; exact this))
      rw [eqR_of (HEV.out _).symm] at HE
      clear hown5 hat6 hat5 hA1 hown4
      go_wp2_with fail
      refine HE.out.mono ?_
      rintro e w6 ⟨rfl, hS6⟩
      have hb06 := hb05.trans ((hS6.below w5.heap.size).mono hb05.size)
      have HAW := Lib.hid (Cr.of_run Cr.run18 (HL.out.below hb06))
      clear HE
      go_wp2_with fail
      refine HAW.out.mono ?_
      rintro e w9 ⟨rfl, hb9⟩
      go_wp2_with fail
      go_ret
      exact ⟨rfl, hb06.trans (hb9.mono hb06.size)⟩
end Go.Proofs.YtjhbabgcoemecaaDoor
