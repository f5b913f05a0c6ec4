/- Walks of the laws ViewPrefix, ViewBegins, ViewExamples. -/
import Derived.Test.YtjancemacdffbaaDoorVi
namespace Go.Proofs.YtjancemacdffbaaDoor
open Go.RowKit

theorem preB_comm (xs ys : List (Int × Int)) : preB xs ys = preB ys xs := by
  rw [Bool.eq_iff_iff]
  have key : ∀ xs ys : List (Int × Int), preB xs ys = true → preB ys xs = true := fun xs ys h => by
    refine preB_true fun j hj => ?_
    have := List.all_eq_true.1 h j (List.mem_range.2 (by omega))
    rw [pe_iff] at this ⊢
    exact this.symm
  exact ⟨key xs ys, key ys xs⟩
theorem preB_app (xs ys : List (Int × Int)) : preB xs (xs ++ ys) = true := by
  refine preB_true fun j hj => ?_
  rw [pe_iff, getD_left _ _ _ _ (by omega)]
theorem eqB_len {xs ys : List (Int × Int)} (h : xs.length = ys.length) : eqB xs ys = preB xs ys := by
  unfold eqB; rw [h]; simp

set_option maxHeartbeats 400000 in
theorem vprefix_law (a b : Option Addr) (la lb ca cb : Nat) (xs ys : List (Int × Int)) (w : World) (hT : Tab w) (h0 : 0 < w.heap.size) (hla : xs.length = la) (hlb : ys.length = lb) (ha : Lay.ev.At (0, 0) w a xs) (hb : Lay.ev.At (0, 0) w b ys) :
    Calls Tryd.prog 13 #[.slice a la ca, .slice b lb cb] w fun e w' => e = .returned (.bool true) ∧ Below w.heap.size w w' := by
  have O0 := On.refl hT h0
  have HA := Lib.hid ha
  have HB := Lib.hid hb
  have HLA := Lib.hid hla
  have HLB := Lib.hid hlb
  clear hT h0 ha hb hla hlb
  by_cases h1 : (30 : Int) < la
  · go_enter Tryd.func13, Tryd.ntmps13
    go_wp2_with fail
    go_ret
    exact ⟨rfl, Below.refl _ _⟩
  · have h1' : decide ((30 : Int) < la) = false := by simpa using h1
    by_cases h2 : (30 : Int) < lb
    · go_enter Tryd.func13, Tryd.ntmps13
      go_wp2_with fail
      go_ret
      exact ⟨rfl, Below.refl _ _⟩
    · have h2' : decide ((30 : Int) < lb) = false := by simpa using h2
      go_enter Tryd.func13, Tryd.ntmps13
      go_wp2_with fail
      refine (copyE_any a la ca xs _ HLA.out HA.out (by omega)).mono ?_
      rintro e w1 ⟨v1, rfl, ho1, hb1⟩
      obtain ⟨a1, c1, rfl, hat1, hl1, hc1⟩ := ho1.at_ (d := (0, 0))
      rw [HLA.out]
      have O1 := O0.next hb1
      have HA1 := Lib.hid (HA.out.below hb1)
      have HB1 := Lib.hid (HB.out.below hb1)
      clear hb1 HA HB ho1
      go_wp2_with fail
      refine (copyE_any b lb cb ys _ HLB.out HB1.out (by omega)).mono ?_
      rintro e w2 ⟨v2, rfl, ho2, hb2⟩
      obtain ⟨a2, c2, rfl, hat2, hl2, hc2⟩ := ho2.at_ (d := (0, 0))
      rw [HLB.out]
      have O2 := O1.next hb2
      have HA2 := Lib.hid (HA1.out.below hb2)
      have HB2 := Lib.hid (HB1.out.below hb2)
      have hat1' := Lib.hid (hat1.below hb2)
      have hat2' := Lib.hid hat2
      clear hb2 HA1 HB1 ho2 hat1 hat2 hl1 hc1 hl2 hc2 O0 O1
      go_wp2_with fail
      refine (prefix_any a1 a2 la lb c1 c2 xs ys _ HLA.out HLB.out hat1'.out hat2'.out (by omega) (by omega)).mono ?_
      rintro e w3 ⟨rfl, hS3⟩
      have O3 := O2.same hS3
      have HA3 := Lib.hid (HA2.out.same hS3)
      have HB3 := Lib.hid (HB2.out.same hS3)
      clear HA2 HB2 hat1' hat2' hS3 O2
      go_wp2_with fail
      refine (rprefix_any a b la lb ca cb xs ys _ HLA.out HLB.out HA3.out HB3.out (by omega) (by omega)).mono ?_
      rintro e w4 ⟨rfl, hS4⟩
      have O4 := O3.same hS4
      clear HA3 HB3 hS4 O3
      generalize preB xs ys = p
      have hpp : (p == p) = true := by simp
      go_wp2_with fail
      refine (vawake_any _ O4.tab O4.pos).mono ?_
      rintro e w5 ⟨rfl, hb5⟩
      go_wp2_with fail
      go_ret
      exact ⟨rfl, (O4.next hb5).below⟩

set_option maxHeartbeats 1000000 in
theorem vbegins_law (a b m : Option Addr) (la lb lm ca cb cm : Nat) (xs ys ms : List (Int × Int)) (w : World) (hT : Tab w) (h0 : 0 < w.heap.size) (hla : xs.length = la) (hlb : ys.length = lb) (hlm : ms.length = lm)
    (ha : Lay.ev.At (0, 0) w a xs) (hb : Lay.ev.At (0, 0) w b ys) (hm : Lay.ev.At (0, 0) w m ms) (hcm : m = none → cm = 0) :
    Calls Tryd.prog 15 #[.slice a la ca, .slice b lb cb, .slice m lm cm] w fun e w' => e = .returned (.bool true) ∧ Below w.heap.size w w' := by
  have O0 := On.refl hT h0
  have HA := Lib.hid ha
  have HB := Lib.hid hb
  have HM := Lib.hid hm
  have HLA := Lib.hid hla
  have HLB := Lib.hid hlb
  have HLM := Lib.hid hlm
  have HCM := Lib.hid hcm
  clear hT h0 ha hb hm hla hlb hlm hcm
  by_cases h1 : (30 : Int) < la
  · go_enter Tryd.func15, Tryd.ntmps15
    go_wp2_with fail
    go_ret
    exact ⟨rfl, Below.refl _ _⟩
  · have h1' : decide ((30 : Int) < la) = false := by simpa using h1
    by_cases h2 : (30 : Int) < lb
    · go_enter Tryd.func15, Tryd.ntmps15
      go_wp2_with fail
      go_ret
      exact ⟨rfl, Below.refl _ _⟩
    · have h2' : decide ((30 : Int) < lb) = false := by simpa using h2
      by_cases h3 : (10 : Int) < lm
      · go_enter Tryd.func15, Tryd.ntmps15
        go_wp2_with fail
        go_ret
        exact ⟨rfl, Below.refl _ _⟩
      · have h3' : decide ((10 : Int) < lm) = false := by simpa using h3
        go_enter Tryd.func15, Tryd.ntmps15
        go_wp2_with fail
        refine (copyE_any a la ca xs _ HLA.out HA.out (by omega)).mono ?_
        rintro e w1 ⟨v1, rfl, ho1, hb1⟩
        have O1 := O0.next hb1
        have HM1 := Lib.hid (HM.out.below hb1)
        have hsz1 := hb1.size
        have hxl : xs.length ≤ 30 := by rw [HLA.out]; omega
        have HO1 := Lib.hid ho1
        clear hb1 HM ho1
        go_wp2_with (at_builtin; refine app_lay_at (d := (0, 0)) Tryd.elemE rfl _ _ rfl rfl HO1.out rfl HCM.out HLM.out HM1.out (by omega) hsz1 ?_)
        intro v2 w2 ho2 hb2
        obtain ⟨a2, c2, rfl, hat2, hl2, hc2⟩ := ho2.at_ (d := (0, 0))
        have B2 := O1.below.trans hb2
        have O2 := O0.next B2
        have HA2 := Lib.hid (HA.out.below B2)
        have HB2 := Lib.hid (HB.out.below B2)
        have HX2 := Lib.hid hat2
        have HLX : Hid ((xs ++ ms).length = la + lm) := by show _ = _; rw [List.length_append, HLA.out, HLM.out]
        have Hp1 := Lib.hid (preB_app xs ms)
        have Hp2 := Lib.hid ((preB_comm (xs ++ ms) xs).trans (preB_app xs ms))
        have Hpc := Lib.hid (preB_comm ys xs)
        rw [HLX.out]
        clear HA HB ho2 hb2 hat2 B2 O0 O1 HO1 HM1 hl2 hc2
        go_wp2_with fail
        refine (prefix_any a b la lb ca cb xs ys _ HLA.out HLB.out HA2.out HB2.out (by omega) (by omega)).mono ?_
        rintro e w3 ⟨rfl, hS3⟩
        have O3 := O2.same hS3
        have HA3 := Lib.hid (HA2.out.same hS3)
        have HB3 := Lib.hid (HB2.out.same hS3)
        have HX3 := Lib.hid (HX2.out.same hS3)
        clear HA2 HB2 HX2 hS3 O2
        go_wp2_with fail
        refine (prefix_any b a lb la cb ca ys xs _ HLB.out HLA.out HB3.out HA3.out (by omega) (by omega)).mono ?_
        rintro e w4 ⟨rfl, hS4⟩
        have O4 := O3.same hS4
        have HA4 := Lib.hid (HA3.out.same hS4)
        have HB4 := Lib.hid (HB3.out.same hS4)
        have HX4 := Lib.hid (HX3.out.same hS4)
        clear HA3 HB3 HX3 hS4 O3
        rw [Hpc.out]
        have HEL := Lib.hid (fun h => eqB_len (xs := xs) (ys := ys) h)
        generalize preB xs ys = p at *
        have hpp : (p == p) = true := by simp
        go_wp2_with fail
        refine (prefix_any a a2 la (la + lm) ca c2 xs (xs ++ ms) _ HLA.out HLX.out HA4.out HX4.out (by omega) (by omega)).mono ?_
        rintro e w5 ⟨rfl, hS5⟩
        have O5 := O4.same hS5
        have HA5 := Lib.hid (HA4.out.same hS5)
        have HB5 := Lib.hid (HB4.out.same hS5)
        have HX5 := Lib.hid (HX4.out.same hS5)
        clear HA4 HB4 HX4 hS5 O4
        rw [Hp1.out]
        go_wp2_with fail
        refine (prefix_any a2 a (la + lm) la c2 ca (xs ++ ms) xs _ HLX.out HLA.out HX5.out HA5.out (by omega) (by omega)).mono ?_
        rintro e w6 ⟨rfl, hS6⟩
        have O6 := O5.same hS6
        have HA6 := Lib.hid (HA5.out.same hS6)
        have HB6 := Lib.hid (HB5.out.same hS6)
        clear HA5 HB5 HX5 hS6 O5
        rw [Hp2.out]
        by_cases hll : la = lb
        · subst hll
          have hne : ((la : Int) != la) = false := by simp
          go_wp2_with fail
          refine (equalE_any a b la la ca cb xs ys _ HLA.out HLB.out HA6.out HB6.out (by omega)).mono ?_
          rintro e w7 ⟨rfl, hS7⟩
          have O7 := O6.same hS7
          rw [HEL.out (by rw [HLA.out, HLB.out])]
          clear HA6 HB6 hS7 O6
          go_wp2_with fail
          refine (vawake_any _ O7.tab O7.pos).mono ?_
          rintro e w8 ⟨rfl, hb8⟩
          go_wp2_with fail
          go_ret
          exact ⟨rfl, (O7.next hb8).below⟩
        · have hne : ((la : Int) != lb) = true := by simp; omega
          go_wp2_with fail
          refine (vawake_any _ O6.tab O6.pos).mono ?_
          rintro e w8 ⟨rfl, hb8⟩
          go_wp2_with fail
          go_ret
          exact ⟨rfl, (O6.next hb8).below⟩

end Go.Proofs.YtjancemacdffbaaDoor
