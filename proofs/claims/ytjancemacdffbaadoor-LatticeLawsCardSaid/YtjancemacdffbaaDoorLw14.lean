/- Walk of the law LatticeLaws. -/
import Derived.Test.YtjancemacdffbaaDoorLw11
import Derived.Test.YtjancemacdffbaaDoorLw13
namespace Go.Proofs.YtjancemacdffbaaDoor
open Go.RowKit

/-- a lattice in block b, a variable that points to it in block lb -/
structure LW (w : World) (lb b n : Nat) (up dn : Nat → Nat) : Prop where
  tab : Tab w
  lat : LatC w b n up dn
  cell : w.cell? ⟨lb, 0, none⟩ = some (.pointer (some ⟨b, 0, none⟩))
theorem LW.same {w w' : World} {lb b n : Nat} {up dn : Nat → Nat} (h : LW w lb b n up dn) (s : Same w w') : LW w' lb b n up dn := ⟨s.tab h.tab, h.lat.same s, (s.cell _).trans h.cell⟩
theorem LW.join {w : World} {lb b n : Nat} {up dn : Nat → Nat} (h : LW w lb b n up dn) {x y : Int} (z : Int) (e : jv n up x y = z) :
    Calls Tryd.prog 22 #[.int .i64 x, .int .i64 y, .pointer (some ⟨lb, 0, none⟩)] w fun e w' => e = .returned (.int .i64 z) ∧ Same w w' ∧ LW w' lb b n up dn := by
  subst e; exact (join_cl lb b n x y up dn w h.tab h.lat h.cell).mono fun _ _ k => ⟨k.1, k.2, h.same k.2⟩
theorem LW.meet {w : World} {lb b n : Nat} {up dn : Nat → Nat} (h : LW w lb b n up dn) {x y : Int} (z : Int) (e : jv n dn x y = z) :
    Calls Tryd.prog 23 #[.int .i64 x, .int .i64 y, .pointer (some ⟨lb, 0, none⟩)] w fun e w' => e = .returned (.int .i64 z) ∧ Same w w' ∧ LW w' lb b n up dn := by
  subst e; exact (meet_cl lb b n x y up dn w h.tab h.lat h.cell).mono fun _ _ k => ⟨k.1, k.2, h.same k.2⟩

set_option maxHeartbeats 4000000 in
set_option maxRecDepth 100000 in
theorem laws_any (k : Nat) (n : Int) (a : Option Addr) (len cap : Nat) (ord : List (Int × Int)) (xa xb xc : Int) (w : World) (hT : Tab w) (h0 : 0 < w.heap.size) (hp : PairsAt w a ord) (hlen : ord.length = len) (hk : k < 256) (hlm : len ≤ 9223372036854775807) :
    Calls Tryd.prog 4 #[.int .u8 k, .int .i64 n, .slice a len cap, .int .i64 xa, .int .i64 xb, .int .i64 xc] w fun e w' => e = .returned (.bool true) ∧ Below w.heap.size w w' := by
  have O0 := On.refl hT h0
  have Hmade := Lib.hid (made_any k n a len cap ord w hT h0 hp hlen hk hlm)
  clear hT h0 hp hlen
  go_enter Tryd.func4, Tryd.ntmps4
  go_wp2_with fail
  refine Hmade.out.mono ?_
  rintro e w1 ⟨hb1, rfl | ⟨b, N, a1, cap1, ps, up, dn, rfl, hN1, hN2, hl, hbs, hL, hI, hP, hok⟩⟩
  · have O1 := O0.of hb1
    clear hb1 O0
    go_wp2_with fail
    have O2 := O1.alloc (.cells #[.pointer none] 23)
    refine (awake_any _ O2.tab O2.pos).mono ?_
    rintro e w2 ⟨rfl, hb2⟩
    go_wp2_with fail
    go_ret
    exact ⟨rfl, (O2.next hb2).below⟩
  · have O1 := O0.of hb1
    have HI := Lib.hid hI
    have O2 := O1.alloc (.cells #[.pointer (some ⟨b, 0, none⟩)] 23)
    have HW := Lib.hid (show LW (w1.alloc (.cells #[.pointer (some ⟨b, 0, none⟩)] 23)) w1.heap.size b N up dn from ⟨O2.tab, hL.below ((Below.refl _ _).alloc (Nat.le_refl _) _) hbs, by simp⟩)
    clear hb1 O0 hI hL hP hok Hmade O1
    go_upto_region 4 with (fail)
    generalize w1.heap.size = lb at *
    generalize w1.alloc (.cells #[.pointer (some ⟨b, 0, none⟩)] 23) = w2 at *
    go_wp2_with fail
    refine (mod_any xa N _ (by omega) (by omega)).mono ?_
    rintro e w' ⟨rfl, rfl⟩
    have hx1 : 0 ≤ xa % N := Int.emod_nonneg _ (by omega)
    have hx2 : xa % N < N := Int.emod_lt_of_pos _ (by omega)
    generalize xa % (N : Int) = A at *
    obtain ⟨A, rfl⟩ := Int.eq_ofNat_of_zero_le hx1
    go_wp2_with fail
    refine (mod_any xb N _ (by omega) (by omega)).mono ?_
    rintro e w' ⟨rfl, rfl⟩
    have hy1 : 0 ≤ xb % N := Int.emod_nonneg _ (by omega)
    have hy2 : xb % N < N := Int.emod_lt_of_pos _ (by omega)
    generalize xb % (N : Int) = B at *
    obtain ⟨B, rfl⟩ := Int.eq_ofNat_of_zero_le hy1
    go_wp2_with fail
    refine (mod_any xc N _ (by omega) (by omega)).mono ?_
    rintro e w' ⟨rfl, rfl⟩
    have hz1 : 0 ≤ xc % N := Int.emod_nonneg _ (by omega)
    have hz2 : xc % N < N := Int.emod_lt_of_pos _ (by omega)
    generalize xc % (N : Int) = C at *
    obtain ⟨C, rfl⟩ := Int.eq_ofNat_of_zero_le hz1
    have hA : A < N := by omega
    have hB : B < N := by omega
    have hC : C < N := by omega
    have h32 : N ≤ 32 := by omega
    clear hx1 hx2 hy1 hy2 hz1 hz2
    obtain ⟨J, hJ⟩ := ex_join HI.out hA hB
    obtain ⟨M, hM⟩ := ex_meet HI.out hA hB
    obtain ⟨E, hE⟩ := ex_join HI.out hJ.1 hC
    obtain ⟨F, hF⟩ := ex_join HI.out hB hC
    obtain ⟨G, hG⟩ := ex_meet HI.out hM.1 hC
    obtain ⟨D, hD⟩ := ex_meet HI.out hB hC
    have Jab := Lib.hid (join_lev h32 HI.out hA hB hJ)
    have Jba := Lib.hid (join_lev h32 HI.out hB hA hJ.comm)
    have Mab := Lib.hid (meet_lev h32 HI.out hA hB hM)
    have Mba := Lib.hid (meet_lev h32 HI.out hB hA hM.comm)
    have Jaa := Lib.hid (join_lev h32 HI.out hA hA (isJoin_le hA (RT.refl _ _)))
    have Maa := Lib.hid (meet_lev h32 HI.out hA hA (isMeet_le hA (RT.refl _ _)))
    have JJc := Lib.hid (join_lev h32 HI.out hJ.1 hC hE)
    have Jbc := Lib.hid (join_lev h32 HI.out hB hC hF)
    have JaF := Lib.hid (join_lev h32 HI.out hA hF.1 (hJ.assoc hE hF))
    have MMc := Lib.hid (meet_lev h32 HI.out hM.1 hC hG)
    have Mbc := Lib.hid (meet_lev h32 HI.out hB hC hD)
    have MaD := Lib.hid (meet_lev h32 HI.out hA hD.1 (hM.assoc hG hD))
    have JaM := Lib.hid (join_lev h32 HI.out hA hM.1 (IsJoin.absorb hA hM))
    have MaJ := Lib.hid (meet_lev h32 HI.out hA hJ.1 (IsMeet.absorb hA hJ))
    clear hJ hM hE hF hG hD
    go_upto_region 7 with (fail)
    go_cut [133] (fun s wx => s = .bool false ∧ Same w2 wx)
    case first =>
      as_aux_lemma =>
        have HS := Same.refl w2
        go_wp2_with fail
        refine (HW.out.join (J : Int) Jab.out).mono ?_
        rintro e w3 ⟨rfl, hS3, hW3⟩
        have HS3 := HS.trans hS3
        have HW3 := Lib.hid hW3
        clear HS HW hS3 hW3
        have HS := HS3
        have HW := HW3
        clear HS3 HW3
        go_wp2_with fail
        refine (HW.out.join (J : Int) Jba.out).mono ?_
        rintro e w3 ⟨rfl, hS3, hW3⟩
        have HS3 := HS.trans hS3
        have HW3 := Lib.hid hW3
        clear HS HW hS3 hW3
        have HS := HS3
        have HW := HW3
        clear HS3 HW3
        go_wp2_with fail
        refine (HW.out.meet (M : Int) Mab.out).mono ?_
        rintro e w3 ⟨rfl, hS3, hW3⟩
        have HS3 := HS.trans hS3
        have HW3 := Lib.hid hW3
        clear HS HW hS3 hW3
        have HS := HS3
        have HW := HW3
        clear HS3 HW3
        go_wp2_with fail
        refine (HW.out.meet (M : Int) Mba.out).mono ?_
        rintro e w3 ⟨rfl, hS3, hW3⟩
        have HS3 := HS.trans hS3
        have HW3 := Lib.hid hW3
        clear HS HW hS3 hW3
        have HS := HS3
        have HW := HW3
        clear HS3 HW3
        go_wp2_with fail
        refine (HW.out.join (A : Int) Jaa.out).mono ?_
        rintro e w3 ⟨rfl, hS3, hW3⟩
        have HS3 := HS.trans hS3
        have HW3 := Lib.hid hW3
        clear HS HW hS3 hW3
        have HS := HS3
        have HW := HW3
        clear HS3 HW3
        go_wp2_with fail
        refine (HW.out.meet (A : Int) Maa.out).mono ?_
        rintro e w3 ⟨rfl, hS3, hW3⟩
        have HS3 := HS.trans hS3
        have HW3 := Lib.hid hW3
        clear HS HW hS3 hW3
        have HS := HS3
        have HW := HW3
        clear HS3 HW3
        go_wp2_with fail
        refine (HW.out.join (J : Int) Jab.out).mono ?_
        rintro e w3 ⟨rfl, hS3, hW3⟩
        have HS3 := HS.trans hS3
        have HW3 := Lib.hid hW3
        clear HS HW hS3 hW3
        have HS := HS3
        have HW := HW3
        clear HS3 HW3
        go_wp2_with fail
        refine (HW.out.join (E : Int) JJc.out).mono ?_
        rintro e w3 ⟨rfl, hS3, hW3⟩
        have HS3 := HS.trans hS3
        have HW3 := Lib.hid hW3
        clear HS HW hS3 hW3
        have HS := HS3
        have HW := HW3
        clear HS3 HW3
        go_wp2_with fail
        refine (HW.out.join (F : Int) Jbc.out).mono ?_
        rintro e w3 ⟨rfl, hS3, hW3⟩
        have HS3 := HS.trans hS3
        have HW3 := Lib.hid hW3
        clear HS HW hS3 hW3
        have HS := HS3
        have HW := HW3
        clear HS3 HW3
        go_wp2_with fail
        refine (HW.out.join (E : Int) JaF.out).mono ?_
        rintro e w3 ⟨rfl, hS3, hW3⟩
        have HS3 := HS.trans hS3
        have HW3 := Lib.hid hW3
        clear HS HW hS3 hW3
        have HS := HS3
        have HW := HW3
        clear HS3 HW3
        go_wp2_with fail
        refine (HW.out.meet (M : Int) Mab.out).mono ?_
        rintro e w3 ⟨rfl, hS3, hW3⟩
        have HS3 := HS.trans hS3
        have HW3 := Lib.hid hW3
        clear HS HW hS3 hW3
        have HS := HS3
        have HW := HW3
        clear HS3 HW3
        go_wp2_with fail
        refine (HW.out.meet (G : Int) MMc.out).mono ?_
        rintro e w3 ⟨rfl, hS3, hW3⟩
        have HS3 := HS.trans hS3
        have HW3 := Lib.hid hW3
        clear HS HW hS3 hW3
        have HS := HS3
        have HW := HW3
        clear HS3 HW3
        go_wp2_with fail
        refine (HW.out.meet (D : Int) Mbc.out).mono ?_
        rintro e w3 ⟨rfl, hS3, hW3⟩
        have HS3 := HS.trans hS3
        have HW3 := Lib.hid hW3
        clear HS HW hS3 hW3
        have HS := HS3
        have HW := HW3
        clear HS3 HW3
        go_wp2_with fail
        refine (HW.out.meet (G : Int) MaD.out).mono ?_
        rintro e w3 ⟨rfl, hS3, hW3⟩
        have HS3 := HS.trans hS3
        have HW3 := Lib.hid hW3
        clear HS HW hS3 hW3
        have HS := HS3
        have HW := HW3
        clear HS3 HW3
        go_wp2_with fail
        refine (HW.out.meet (M : Int) Mab.out).mono ?_
        rintro e w3 ⟨rfl, hS3, hW3⟩
        have HS3 := HS.trans hS3
        have HW3 := Lib.hid hW3
        clear HS HW hS3 hW3
        have HS := HS3
        have HW := HW3
        clear HS3 HW3
        go_wp2_with fail
        refine (HW.out.join (A : Int) JaM.out).mono ?_
        rintro e w3 ⟨rfl, hS3, hW3⟩
        have HS3 := HS.trans hS3
        have HW3 := Lib.hid hW3
        clear HS HW hS3 hW3
        have HS := HS3
        have HW := HW3
        clear HS3 HW3
        go_wp2_with fail
        refine (HW.out.join (J : Int) Jab.out).mono ?_
        rintro e w3 ⟨rfl, hS3, hW3⟩
        have HS3 := HS.trans hS3
        have HW3 := Lib.hid hW3
        clear HS HW hS3 hW3
        have HS := HS3
        have HW := HW3
        clear HS3 HW3
        go_wp2_with fail
        refine (HW.out.meet (A : Int) MaJ.out).mono ?_
        rintro e w3 ⟨rfl, hS3, hW3⟩
        have HS3 := HS.trans hS3
        have HW3 := Lib.hid hW3
        clear HS HW hS3 hW3
        have HS := HS3
        have HW := HW3
        clear HS3 HW3
        go_wp2_with fail
        go_meet
        exact ⟨rfl, HS⟩
    case rest =>
      as_aux_lemma =>
        obtain ⟨rfl, hSc⟩ := hcut
        have HW2 := Lib.hid (HW.out.same hSc)
        have O3 := O2.same hSc
        clear HW O2 hSc Jab Jba Mab Mba Jaa Maa JJc Jbc JaF MMc Mbc MaD JaM MaJ
        go_wp2_with fail
        go_loopw [17, 18, 19] (fun lo hi i wr => ∃ j l h : Nat, j ≤ N ∧ l < N ∧ h < N ∧ i = .int .i64 j ∧ lo = .int .i64 l ∧ hi = .int .i64 h ∧ Hid (∀ q, q < j → RT ps l q ∧ RT ps q h) ∧ Same wc wr) (fun _ _ i _ => N - (intOf i).toNat)
        case atStart => exact ⟨0, 0, 0, by omega, by omega, by omega, rfl, rfl, rfl, fun q h => by omega, Same.refl _⟩
        case round =>
          obtain ⟨j, l, h, hj, hl0, hh0, rfl, rfl, rfl, hall, hS⟩ := hrel
          have HW3 := Lib.hid (HW2.out.same hS)
          by_cases hlt : j < N
          · obtain ⟨l', hl'⟩ := ex_meet HI.out hl0 hlt
            obtain ⟨h', hh'⟩ := ex_join HI.out hh0 hlt
            have e1 := Lib.hid (meet_lev h32 HI.out hl0 hlt hl')
            have e2 := Lib.hid (join_lev h32 HI.out hh0 hlt hh')
            have hall2 : Hid (∀ q, q < j + 1 → RT ps l' q ∧ RT ps q h') := fun q hq => by
              by_cases e : q = j
              · subst e; exact ⟨hl'.2.2.1, hh'.2.2.1⟩
              · have := hall.out q (by omega); exact ⟨hl'.2.1.trans this.1, this.2.trans hh'.2.1⟩
            have hl1 := hl'.1
            have hh1 := hh'.1
            clear hl' hh' hall
            go_wp2_with fail
            refine (HW3.out.meet (l' : Int) e1.out).mono ?_
            rintro e w3 ⟨rfl, hS3, hW3⟩
            have HW4 := Lib.hid hW3
            clear hW3 HW3
            go_wp2_with fail
            refine (HW4.out.join (h' : Int) e2.out).mono ?_
            rintro e w4 ⟨rfl, hS4, _⟩
            go_wp2_with fail
            go_roundw
            case rel => exact ⟨j + 1, l', h', by omega, hl1, hh1, by go_num, rfl, rfl, hall2, (hS.trans hS3).trans hS4⟩
            case measure => simp [intOf]; omega
          · obtain rfl : j = N := by omega
            have O4 := O3.same hS
            have e1 := Lib.hid ((leB_iff HI.out hl0 hA).2 (hall.out A hA).1)
            have e2 := Lib.hid ((leB_iff HI.out hA hh0).2 (hall.out A hA).2)
            have hcell := HW3.out.cell
            clear hall hS
            go_wp2_with fail
            refine (le_any b j up dn _ _ _ HW3.out.lat).mono ?_
            rintro e w' ⟨rfl, rfl⟩
            rw [e1.out]
            go_wp2_with fail
            refine (le_any b j up dn _ _ _ HW3.out.lat).mono ?_
            rintro e w' ⟨rfl, rfl⟩
            rw [e2.out]
            go_wp2_with fail
            refine (awake_any _ O4.tab O4.pos).mono ?_
            rintro e w5 ⟨rfl, hb5⟩
            go_wp2_with fail
            go_ret
            exact ⟨rfl, (O4.next hb5).below⟩

end Go.Proofs.YtjancemacdffbaaDoor
