/- Walk: Trace. -/
import Derived.Test.YtjhbabgcoemecaaDoorUi
namespace Go.Proofs.YtjhbabgcoemecaaDoor
open Go.RowKit

set_option maxRecDepth 100000 in
set_option maxHeartbeats 8000000 in
theorem trace32 {w : World} {r W : Nat} {L : List Nd} (h : RV w r W L) (h1 : 1 ≤ W) (h2 : W ≤ 64) (hL : L.length ≤ 60) (vals : List Nat) {b : Option Addr} {l d : Nat} (hlen : vals.length = l) (hvl : l ≤ 100) (hatv : (Lay.int .u64).At 0 w b (intsN vals)) (hsm : ∀ v ∈ vals, v < 18446744073709551616)
    (p : PathN) (hok : p.Ok w) (hsh : p.short) : Calls Tryd.prog 32 #[.pointer (some ⟨r, 0, none⟩), p.v, .slice b l d] w (TrP w (traceN L.length (valuesN W vals L) p)) := by
  obtain ⟨ca, cc, cs, st, sp, oa, oc, os, ra, rc, rs, ba, bc, bs, ia, ic, is⟩ := p
  have HOK := Lib.hid hok
  have HSH := Lib.hid hsh
  clear hok hsh
  simp only [PathN.v]
  have HB2 : Hid (Below w.heap.size w ((w.alloc (.cells #[.slice ca cs.length cc, .int .u8 st, .int .i64 sp, .slice oa os.length oc, .slice ra rs.length rc, .slice ba bs.length bc, .slice ia is.length ic] 43)).alloc (.cells #[.int .u8 0, .int .i64 0, .slice none 0 0, .slice none 0 0, .slice none 0 0, .slice none 0 0] 46))) := Lib.hid (((Below.refl _ _).alloc (Nat.le_refl _) _).alloc (by simp) _)
  obtain ⟨k1, k2⟩ := two_boxes2 w #[.slice ca cs.length cc, .int .u8 st, .int .i64 sp, .slice oa os.length oc, .slice ra rs.length rc, .slice ba bs.length bc, .slice ia is.length ic] #[.int .u8 0, .int .i64 0, .slice none 0 0, .slice none 0 0, .slice none 0 0, .slice none 0 0] 43 46 rfl
  have K1 := Lib.hid k1
  have KS := Lib.hid k2
  clear k1 k2
  have hzA : ((w.alloc (.cells #[.slice ca cs.length cc, .int .u8 st, .int .i64 sp, .slice oa os.length oc, .slice ra rs.length rc, .slice ba bs.length bc, .slice ia is.length ic] 43)).alloc (.cells #[.int .u8 0, .int .i64 0, .slice none 0 0, .slice none 0 0, .slice none 0 0, .slice none 0 0] 46)).heap.size = w.heap.size + 2 := by simp
  have HTR : Hid (traceN L.length (valuesN W vals L) ⟨ca, cc, cs, st, sp, oa, oc, os, ra, rc, rs, ba, bc, bs, ia, ic, is⟩ = if ((os.all fun x => inG L.length x.2) && (rs.all fun x => inG L.length x.2)) = true then ⟨st, sp, evs (valuesN W vals L) os, evs (valuesN W vals L) rs, bs, is, 0⟩ else ⟨0, 0, [], [], [], [], 3⟩) := Lib.hid rfl
  generalize traceN L.length (valuesN W vals L) ⟨ca, cc, cs, st, sp, oa, oc, os, ra, rc, rs, ba, bc, bs, ia, ic, is⟩ = tr at *
  have HT59 : Hid (∀ (xs : List (Int × Int)) (a : Option Addr) (c : Nat), xs.length ≤ 12 → Lay.sev.At (0, 0) w a xs → ∀ w', Below w.heap.size w w' → Calls Tryd.prog 59 #[.func (.func 58) #[] #[], .slice a xs.length c] w' fun e w'' => ∃ a5 c5, e = .returned (.slice a5 xs.length c5) ∧ (Lay.int .i64).At 0 w'' a5 (xs.map (·.2)) ∧ Below w'.heap.size w' w'') := Lib.hid fun xs a c hx ha w' hb =>
    (collect59 w' xs (cap := c) rfl (by omega) (ha.below hb)).mono fun e w'' h => by
      obtain ⟨v, e1, e2, e3⟩ := h
      obtain ⟨a5, c5, e4, h4, _, _⟩ := e2.at_ (d := 0)
      rw [List.length_map] at e4
      subst e4
      exact ⟨a5, c5, e1, h4, e3⟩
  have HG56 : Hid (∀ (xs : List (Int × Int)), xs.length ≤ 12 → (∀ x ∈ xs, inG L.length x.2 = true) → ∀ w' a c, Below w.heap.size w w' → (Lay.int .i64).At 0 w' a (xs.map (·.2)) → Calls Tryd.prog 56 #[.pointer (some ⟨r, 0, none⟩), .slice a xs.length c, .slice b l d] w' fun e w'' => ∃ a6 c6, e = .returned (.tuple #[.slice a6 xs.length c6, .int .i64 0]) ∧ (Lay.int .u64).At 0 w'' a6 (intsN (xs.map fun x => (valuesN W vals L).getD x.2.toNat 0)) ∧ Below w'.heap.size w' w'') := Lib.hid fun xs hx hg w' a c hb ha =>
    (all56 (c := c) (d := d) (h.below hb) h1 h2 (xs.map (·.2)) (List.length_map _) (by omega) ha (by intro t ht; obtain ⟨x, hx, rfl⟩ := List.mem_map.1 ht; exact hg x hx) hL vals hlen hvl (hatv.below hb) hsm).mono fun e w'' h => by
      obtain ⟨v, e1, e2, e3⟩ := h
      obtain ⟨a6, c6, e4, h4, _, _⟩ := e2.at_ (d := 0)
      rw [intsN_len, List.length_map, List.length_map] at e4
      subst e4
      rw [List.map_map] at h4
      exact ⟨a6, c6, e1, h4, e3⟩
  have HB56 : Hid (∀ (xs : List (Int × Int)), xs.length ≤ 12 → (¬ ∀ x ∈ xs, inG L.length x.2 = true) → ∀ w' a c, Below w.heap.size w w' → (Lay.int .i64).At 0 w' a (xs.map (·.2)) → Calls Tryd.prog 56 #[.pointer (some ⟨r, 0, none⟩), .slice a xs.length c, .slice b l d] w' fun e w'' => e = .returned (.tuple #[.slice none 0 0, .int .i64 3]) ∧ Below w'.heap.size w' w'') := Lib.hid fun xs hx hg w' a c hb ha =>
    all56_bad (c := c) (b := b) (l := l) (d := d) (h.below hb) (xs.map (·.2)) (List.length_map _) (by omega) ha (fun hh => hg fun x hx => hh _ (List.mem_map.2 ⟨x, hx, rfl⟩))
  have HOL : os.length ≤ 12 := HSH.out.2.1
  have HRL : rs.length ≤ 12 := HSH.out.2.2.1
  clear h hatv hsm hlen hvl
  generalize valuesN W vals L = V at *
  generalize L.length = n at *
  go_enter Tryd.func32, Tryd.ntmps32
  go_wp2_with fail
  generalize ((w.alloc (.cells #[.slice ca cs.length cc, .int .u8 st, .int .i64 sp, .slice oa os.length oc, .slice ra rs.length rc, .slice ba bs.length bc, .slice ia is.length ic] 43)).alloc (.cells #[.int .u8 0, .int .i64 0, .slice none 0 0, .slice none 0 0, .slice none 0 0, .slice none 0 0] 46)) = wA at *
  have HLE : Hid (∀ w', ResB wA (w.heap.size + 1) w' → Below w.heap.size w w') := Lib.hid fun w' h => HB2.out.trans ((h.low (Nat.le_of_lt KS.out.lt)).mono (by omega))
  have HS : Hid (∀ w', ResB wA (w.heap.size + 1) w' → w'.cell? ⟨w.heap.size, 1, none⟩ = some (.int .u8 st) ∧ w'.cell? ⟨w.heap.size, 2, none⟩ = some (.int .i64 sp) ∧ w'.cell? ⟨w.heap.size, 5, none⟩ = some (.slice ba bs.length bc) ∧ w'.cell? ⟨w.heap.size, 6, none⟩ = some (.slice ia is.length ic) ∧ ResB wA (w.heap.size + 1) w') := Lib.hid fun w' h =>
    ⟨h.cell (K1.out 1) (by omega) (by omega), h.cell (K1.out 2) (by omega) (by omega), h.cell (K1.out 5) (by omega) (by omega), h.cell (K1.out 6) (by omega) (by omega), h⟩
  have HZA := Lib.hid hzA
  clear hzA
  have HX34 : Hid (∀ w', ResB wA (w.heap.size + 1) w' → w'.cell? ⟨w.heap.size, 3, none⟩ = some (.slice oa os.length oc) ∧ w'.cell? ⟨w.heap.size, 4, none⟩ = some (.slice ra rs.length rc)) := Lib.hid fun w' h => ⟨h.cell (K1.out 3) (by have := HZA.out; omega) (by omega), h.cell (K1.out 4) (by have := HZA.out; omega) (by omega)⟩
  rename_i K hK
  have KEY : Hid (∀ (w8 : World) (b8 : Nat) (av3 av4 : Option Addr) (cv3 cv4 : Nat), Hid (T8 wA (w.heap.size + 1) b8 st sp (.slice none 0 0) (.slice none 0 0) av3 av4 cv3 cv4 bs is w8) → K { tmps := #[.pointer (some ⟨r, 0, none⟩), .agg #[.slice ca cs.length cc, .int .u8 st, .int .i64 sp, .slice oa os.length oc, .slice ra rs.length rc, .slice ba bs.length bc, .slice ia is.length ic], .slice b l d, undef, .pointer (some ⟨w.heap.size, 0, none⟩), undef, .pointer (some ⟨w.heap.size + 1, 0, none⟩), .int .i64 0, .pointer (some ⟨b8, 0, none⟩), undef, undef, undef, undef, undef, undef, undef, .pointer (some ⟨w.heap.size, 1, none⟩), .int .u8 st, .pointer (some ⟨w.heap.size, 2, none⟩), .int .i64 sp, .pointer (some ⟨w.heap.size, 5, none⟩), .slice ba bs.length bc, .slice av3 bs.length cv3, .pointer (some ⟨w.heap.size, 6, none⟩), .slice ia is.length ic, .slice av4 is.length cv4, .agg #[.int .u8 st, .int .i64 sp, .slice none 0 0, .slice none 0 0, .slice av3 bs.length cv3, .slice av4 is.length cv4], undef, undef, undef, undef, undef, undef, undef, undef, undef, undef, undef, undef, undef, undef, undef, undef, undef, undef, undef, undef, undef, undef, undef, undef, undef, undef, undef, undef, undef, undef, undef, undef, undef, undef, undef, undef, undef, undef, undef, undef, undef, undef, undef, undef, undef, undef, undef, undef, undef, undef, undef, undef], defers := [] } w8) := by
    refine Lib.hid ?_
    intro w8 b8 av3 av4 cv3 cv4 HT8
    refine hK _ _ ?_
    obtain ⟨x3, x4⟩ := HX34.out _ HT8.out.res
    clear HX34 HS K1 KS
    go_wp2_with fail
    clear x3 x4
    go_loopw [32] (fun i wi => ∃ (k : Nat) (ho hr : Hdr), k ≤ 2 ∧ i = .int .i64 k ∧ Hid (T8 wA (w.heap.size + 1) b8 st sp (hv ho) (hv hr) av3 av4 cv3 cv4 bs is wi) ∧ Hid (1 ≤ k → (∀ x ∈ os, inG n x.2 = true) ∧ ho.2.1 = os.length ∧ Kp Lay.ev (0, 0) (w.heap.size + 1) b8 wi ho.1 (evs V os)) ∧ Hid (2 ≤ k → (∀ x ∈ rs, inG n x.2 = true) ∧ hr.2.1 = rs.length ∧ Kp Lay.ev (0, 0) (w.heap.size + 1) b8 wi hr.1 (evs V rs))) (fun i _ => 2 - (intOf i).toNat)
    case atStart => exact ⟨0, (none, 0, 0), (none, 0, 0), by omega, rfl, Lib.hid HT8.out, Lib.hid fun h => absurd h (by omega), Lib.hid fun h => absurd h (by omega)⟩
    case round =>
      clear HT8
      obtain ⟨k, ho, hr, hk, rfl, ht8, hor, hrr⟩ := hrel
      have HT := Lib.hid ht8.out
      have HOR := Lib.hid hor.out
      have HRR := Lib.hid hrr.out
      have HBW := Lib.hid (HLE.out _ HT.out.res)
      clear ht8 hor hrr
      rcases (by omega : k = 0 ∨ k = 1 ∨ k = 2) with rfl | rfl | rfl
      · by_cases hgo : ∀ x ∈ os, inG n x.2 = true
        · have HC59 := Lib.hid (HT59.out os oa oc HOL HOK.out.o)
          have HC56 := Lib.hid (HG56.out os HOL hgo)
          have HGO := Lib.hid hgo
          have HVL : Hid ((os.map fun x => V.getD x.2.toNat 0).length = os.length) := Lib.hid (List.length_map _)
          have HEL : Hid ((evs V os).length = os.length) := Lib.hid (List.length_map _)
          have HEJ : Hid (∀ j, j < os.length → (evs V os).take (j + 1) = (evs V os).take j ++ [((os.getD j (0, 0)).1, (((os.map fun x => V.getD x.2.toNat 0).getD j 0 : Nat) : Int))]) := Lib.hid fun j hj => by
            rw [take_getD (0, 0) _ j (by rw [HEL.out]; exact hj)]
            congr 2
            rw [List.getD_eq_getElem?_getD, List.getD_eq_getElem?_getD, List.getD_eq_getElem?_getD, List.getElem?_map]
            unfold evs
            rw [List.getElem?_map, List.getElem?_eq_getElem hj]; rfl
          clear hgo
          generalize hEX : evs V os = EX at HEL HEJ
          have HEX := Lib.hid hEX
          generalize (os.map fun x => V.getD x.2.toNat 0) = VX at *
          clear hEX
          go_wp2_with (first
            | (go_at_call 59
               refine (HC59.out _ HBW.out).mono ?_
               rintro e wB ⟨a5, c5, rfl, hat5, hB⟩
               have HA5 := Lib.hid hat5
               have HTB := Lib.hid (HT.out.below hB)
               have HPB := Lib.hid hB
               clear hat5 hB)
            | (go_at_call 56
               refine (HC56.out _ a5 c5 (HLE.out _ HTB.out.res) HA5.out).mono ?_
               rintro e wC ⟨a6, c6, rfl, hat6, hC⟩
               have HA6 := Lib.hid hat6
               have HTC := Lib.hid (HTB.out.below hC)
               have HPC := Lib.hid (HPB.out.trans (hC.mono HPB.out.size))
               clear hat6 hC)
            | (refine make_room Tryd.elemE rfl _ _ rfl wC.heap.size os.length _ rfl rfl rfl (by omega) wC.heap.size rfl (Nat.le_refl _) ?_
               intro wM hoM hbM
               have HOM := Lib.hid hoM
               have HBM := Lib.hid hbM
               clear hoM hbM))
          go_loopw [14, 54] (fun v i wi => ∃ j : Nat, j ≤ os.length ∧ i = .int .i64 j ∧ Hid (Lay.ev.Own 80 wi wC.heap.size v (EX.take j)) ∧ Below wC.heap.size wC wi) (fun _ i _ => os.length - (intOf i).toNat)
          case atStart => exact ⟨0, by omega, rfl, Lib.hid HOM.out, HBM.out⟩
          case round =>
            clear HOM HBM
            obtain ⟨j, hj, rfl, hown, hbi⟩ := hrel
            have HBI := Lib.hid hbi
            have hsz := hbi.size
            have HOWN := Lib.hid hown.out
            clear hown hbi
            by_cases hjl : j < os.length
            · obtain ⟨ib, io, rfl, hib, p0, p1⟩ := HOK.out.o.sev hjl
              have c0 := ((HLE.out _ HTC.out.res).trans (HBI.out.mono (HLE.out _ HTC.out.res).size)).cell (p := ⟨ib, io + j * 2, none⟩) hib |>.trans p0
              have c1 := ((HLE.out _ HTC.out.res).trans (HBI.out.mono (HLE.out _ HTC.out.res).size)).cell (p := ⟨ib, io + j * 2 + 1, none⟩) hib |>.trans p1
              obtain ⟨jb, jo, rfl, hjb, v0⟩ := HA6.out.int (i := j) (by rw [intsN_len, HVL.out]; exact hjl)
              rw [intsN_getD] at v0
              have v1 := (HBI.out.cell (p := ⟨jb, jo + j, none⟩) hjb).trans v0
              have HJ := Lib.hid (HEJ.out j hjl)
              have HTL : Hid ((EX.take j).length ≤ 1000) := Lib.hid (by rw [List.length_take]; omega)
              have hji : (j : Int) < os.length := by omega
              have htl := HTL.out
              clear p0 p1 v0
              generalize (os.getD j (0, 0)).1 = N at *
              generalize (os.getD j (0, 0)).2 = tt at *
              generalize VX.getD j 0 = y at *
              go_wp2_with fail
              go_region_law (refine step_one Tryd.elemE rfl (.tmp 57) (.tmp 68) rfl (N, (y : Int)) rfl (by first | exact HOWN.out.alloc _ | exact (show Lay.ev.Own 80 _ wC.heap.size _ _ from HOWN.out).alloc _) rfl (by first | exact lay_new_cells _ [(N, (y : Int))] 80) (by omega) (by first | (simp; done) | (simp; omega) | omega) ?_; intro v' w5 ho5 hg5 hv5; have HO5 := Lib.hid ho5; have HB5 : Hid (Below wC.heap.size wC w5) := Lib.hid (below_grown2 (by first | exact HBI.out.alloc hsz _ | exact HBI.out.drew.alloc hsz _ | exact (below_drewN HBI.out _).alloc hsz _) (Nat.le_refl _) hg5 (fun k e => (HOWN.out.lt k e).1)); clear ho5 hg5 hv5)
              all_goals
                as_aux_lemma =>
                  go_wp2_with fail
                  go_roundw
                  case rel => exact ⟨j + 1, by omega, by go_num, Lib.hid (by rw [HJ.out]; exact HO5.out), HB5.out⟩
                  case measure => simp [intOf] <;> omega
            · obtain rfl : j = os.length := by omega
              obtain ⟨av7, cv7, e7, hat7, hbv7⟩ := HOWN.out.atBase (d := (0, 0))
              have htk : EX.take os.length = EX := by rw [← HEL.out]; exact List.take_length
              rw [htk] at e7 hat7
              rw [HEL.out] at e7
              subst e7
              have HTW := Lib.hid (HTC.out.below HBI.out)
              have HK7 : Hid (Kp Lay.ev (0, 0) (w.heap.size + 1) b8 wr av7 EX) := Lib.hid ⟨hat7, fun ad e => by have g1 := hbv7 ad e; have g2 := HTC.out.lt; have g3 := HTC.out.ne; exact ⟨by omega, by omega⟩⟩
              have q9 := HTW.out.q2
              have f9 := HTW.out.f2
              have HT3 := Lib.hid (HTW.out.set2 (.slice av7 os.length cv7))
              clear hat7 hbv7 htk HOWN
              go_wp2_with fail
              go_roundw
              case rel => exact ⟨1, (av7, os.length, cv7), hr, by omega, by first | rfl | go_num, Lib.hid HT3.out, Lib.hid fun _ => ⟨HGO.out, rfl, by first | exact HK7.out.set 2 _ | exact HK7.out.set 3 _ | (rw [HEX.out]; exact HK7.out.set 2 _)⟩, Lib.hid fun h => absurd h (by omega)⟩
              case measure => simp [intOf]
        · have HC59 := Lib.hid (HT59.out os oa oc HOL HOK.out.o)
          have HC56 := Lib.hid (HB56.out os HOL hgo)
          have hte : tr = ⟨0, 0, [], [], [], [], 3⟩ := by rw [HTR.out, if_neg]; rw [show (os.all fun x => inG n x.2) = false from Bool.eq_false_iff.2 fun e => hgo (List.all_eq_true.1 e)]; simp
          subst hte
          go_wp2_with (first
            | (go_at_call 59
               refine (HC59.out _ HBW.out).mono ?_
               rintro e wB ⟨a5, c5, rfl, hat5, hB⟩
               have HA5 := Lib.hid hat5
               have HTB := Lib.hid (HT.out.below hB)
               clear hat5 hB)
            | (go_at_call 56
               refine (HC56.out _ a5 c5 (HLE.out _ HTB.out.res) HA5.out).mono ?_
               rintro e wC ⟨rfl, hC⟩
               have KR := Lib.hid (HTB.out.below hC).res
               obtain ⟨u0, g0, f0⟩ := KR.out.cells 0 (by decide)
               obtain ⟨u1, g1, f1⟩ := KR.out.cells 1 (by decide)
               obtain ⟨u2, g2, f2⟩ := KR.out.cells 2 (by decide)
               obtain ⟨u3, g3, f3⟩ := KR.out.cells 3 (by decide)
               obtain ⟨u4, g4, f4⟩ := KR.out.cells 4 (by decide)
               obtain ⟨u5, g5, f5⟩ := KR.out.cells 5 (by decide)
               clear hC))
          (try simp only [Exit.inBlock, Exit.then])
          rw [sixW_eq]
          obtain ⟨q0, q1, q2, q3, q4, q5⟩ := KR.out.got (.int .u8 0) (.int .i64 0) (.slice none 0 0) (.slice none 0 0) (.slice none 0 0) (.slice none 0 0)
          have KQ := Lib.hid (KR.out.six (.int .u8 0) (.int .i64 0) (.slice none 0 0) (.slice none 0 0) (.slice none 0 0) (.slice none 0 0))
          refine bodyPost_ret (by simp [results, Tryd.results32, go_sem, q0, q1, q2, q3, q4, q5, Result.andThen]; try rfl) rfl ?_
          exact ⟨_, rfl, ⟨_, _, _, _, _, _, _, _, rfl, Lay.At.nil, Lay.At.nil, Lay.At.nil, Lay.At.nil⟩, HLE.out _ KQ.out⟩
      · by_cases hgo : ∀ x ∈ rs, inG n x.2 = true
        · have HC59 := Lib.hid (HT59.out rs ra rc HRL HOK.out.r)
          have HC56 := Lib.hid (HG56.out rs HRL hgo)
          have HGO := Lib.hid hgo
          have HVL : Hid ((rs.map fun x => V.getD x.2.toNat 0).length = rs.length) := Lib.hid (List.length_map _)
          have HEL : Hid ((evs V rs).length = rs.length) := Lib.hid (List.length_map _)
          have HEJ : Hid (∀ j, j < rs.length → (evs V rs).take (j + 1) = (evs V rs).take j ++ [((rs.getD j (0, 0)).1, (((rs.map fun x => V.getD x.2.toNat 0).getD j 0 : Nat) : Int))]) := Lib.hid fun j hj => by
            rw [take_getD (0, 0) _ j (by rw [HEL.out]; exact hj)]
            congr 2
            rw [List.getD_eq_getElem?_getD, List.getD_eq_getElem?_getD, List.getD_eq_getElem?_getD, List.getElem?_map]
            unfold evs
            rw [List.getElem?_map, List.getElem?_eq_getElem hj]; rfl
          clear hgo
          generalize hEX : evs V rs = EX at HEL HEJ
          have HEX := Lib.hid hEX
          generalize (rs.map fun x => V.getD x.2.toNat 0) = VX at *
          clear hEX
          go_wp2_with (first
            | (go_at_call 59
               refine (HC59.out _ HBW.out).mono ?_
               rintro e wB ⟨a5, c5, rfl, hat5, hB⟩
               have HA5 := Lib.hid hat5
               have HTB := Lib.hid (HT.out.below hB)
               have HPB := Lib.hid hB
               clear hat5 hB)
            | (go_at_call 56
               refine (HC56.out _ a5 c5 (HLE.out _ HTB.out.res) HA5.out).mono ?_
               rintro e wC ⟨a6, c6, rfl, hat6, hC⟩
               have HA6 := Lib.hid hat6
               have HTC := Lib.hid (HTB.out.below hC)
               have HPC := Lib.hid (HPB.out.trans (hC.mono HPB.out.size))
               clear hat6 hC)
            | (refine make_room Tryd.elemE rfl _ _ rfl wC.heap.size rs.length _ rfl rfl rfl (by omega) wC.heap.size rfl (Nat.le_refl _) ?_
               intro wM hoM hbM
               have HOM := Lib.hid hoM
               have HBM := Lib.hid hbM
               clear hoM hbM))
          go_loopw [14, 54] (fun v i wi => ∃ j : Nat, j ≤ rs.length ∧ i = .int .i64 j ∧ Hid (Lay.ev.Own 80 wi wC.heap.size v (EX.take j)) ∧ Below wC.heap.size wC wi) (fun _ i _ => rs.length - (intOf i).toNat)
          case atStart => exact ⟨0, by omega, rfl, Lib.hid HOM.out, HBM.out⟩
          case round =>
            clear HOM HBM
            obtain ⟨j, hj, rfl, hown, hbi⟩ := hrel
            have HBI := Lib.hid hbi
            have hsz := hbi.size
            have HOWN := Lib.hid hown.out
            clear hown hbi
            by_cases hjl : j < rs.length
            · obtain ⟨ib, io, rfl, hib, p0, p1⟩ := HOK.out.r.sev hjl
              have c0 := ((HLE.out _ HTC.out.res).trans (HBI.out.mono (HLE.out _ HTC.out.res).size)).cell (p := ⟨ib, io + j * 2, none⟩) hib |>.trans p0
              have c1 := ((HLE.out _ HTC.out.res).trans (HBI.out.mono (HLE.out _ HTC.out.res).size)).cell (p := ⟨ib, io + j * 2 + 1, none⟩) hib |>.trans p1
              obtain ⟨jb, jo, rfl, hjb, v0⟩ := HA6.out.int (i := j) (by rw [intsN_len, HVL.out]; exact hjl)
              rw [intsN_getD] at v0
              have v1 := (HBI.out.cell (p := ⟨jb, jo + j, none⟩) hjb).trans v0
              have HJ := Lib.hid (HEJ.out j hjl)
              have HTL : Hid ((EX.take j).length ≤ 1000) := Lib.hid (by rw [List.length_take]; omega)
              have hji : (j : Int) < rs.length := by omega
              have htl := HTL.out
              clear p0 p1 v0
              generalize (rs.getD j (0, 0)).1 = N at *
              generalize (rs.getD j (0, 0)).2 = tt at *
              generalize VX.getD j 0 = y at *
              go_wp2_with fail
              go_region_law (refine step_one Tryd.elemE rfl (.tmp 57) (.tmp 68) rfl (N, (y : Int)) rfl (by first | exact HOWN.out.alloc _ | exact (show Lay.ev.Own 80 _ wC.heap.size _ _ from HOWN.out).alloc _) rfl (by first | exact lay_new_cells _ [(N, (y : Int))] 80) (by omega) (by first | (simp; done) | (simp; omega) | omega) ?_; intro v' w5 ho5 hg5 hv5; have HO5 := Lib.hid ho5; have HB5 : Hid (Below wC.heap.size wC w5) := Lib.hid (below_grown2 (by first | exact HBI.out.alloc hsz _ | exact HBI.out.drew.alloc hsz _ | exact (below_drewN HBI.out _).alloc hsz _) (Nat.le_refl _) hg5 (fun k e => (HOWN.out.lt k e).1)); clear ho5 hg5 hv5)
              all_goals
                as_aux_lemma =>
                  go_wp2_with fail
                  go_roundw
                  case rel => exact ⟨j + 1, by omega, by go_num, Lib.hid (by rw [HJ.out]; exact HO5.out), HB5.out⟩
                  case measure => simp [intOf] <;> omega
            · obtain rfl : j = rs.length := by omega
              obtain ⟨av7, cv7, e7, hat7, hbv7⟩ := HOWN.out.atBase (d := (0, 0))
              have htk : EX.take rs.length = EX := by rw [← HEL.out]; exact List.take_length
              rw [htk] at e7 hat7
              rw [HEL.out] at e7
              subst e7
              have HTW := Lib.hid (HTC.out.below HBI.out)
              have HK7 : Hid (Kp Lay.ev (0, 0) (w.heap.size + 1) b8 wr av7 EX) := Lib.hid ⟨hat7, fun ad e => by have g1 := hbv7 ad e; have g2 := HTC.out.lt; have g3 := HTC.out.ne; exact ⟨by omega, by omega⟩⟩
              have HKO := Lib.hid (((HOR.out (by omega)).2.2.below HPC.out).below HBI.out)
              have q9 := HTW.out.q3
              have f9 := HTW.out.f3
              have HT3 := Lib.hid (HTW.out.set3 (.slice av7 rs.length cv7))
              clear hat7 hbv7 htk HOWN
              go_wp2_with fail
              go_roundw
              case rel => exact ⟨2, ho, (av7, rs.length, cv7), by omega, by first | rfl | go_num, Lib.hid HT3.out, Lib.hid fun _ => ⟨(HOR.out (by omega)).1, (HOR.out (by omega)).2.1, HKO.out.set 3 _⟩, Lib.hid fun _ => ⟨HGO.out, rfl, by first | exact HK7.out.set 2 _ | exact HK7.out.set 3 _ | (rw [HEX.out]; exact HK7.out.set 3 _)⟩⟩
              case measure => simp [intOf]
        · have HC59 := Lib.hid (HT59.out rs ra rc HRL HOK.out.r)
          have HC56 := Lib.hid (HB56.out rs HRL hgo)
          have hte : tr = ⟨0, 0, [], [], [], [], 3⟩ := by rw [HTR.out, if_neg]; rw [show (rs.all fun x => inG n x.2) = false from Bool.eq_false_iff.2 fun e => hgo (List.all_eq_true.1 e)]; simp
          subst hte
          go_wp2_with (first
            | (go_at_call 59
               refine (HC59.out _ HBW.out).mono ?_
               rintro e wB ⟨a5, c5, rfl, hat5, hB⟩
               have HA5 := Lib.hid hat5
               have HTB := Lib.hid (HT.out.below hB)
               clear hat5 hB)
            | (go_at_call 56
               refine (HC56.out _ a5 c5 (HLE.out _ HTB.out.res) HA5.out).mono ?_
               rintro e wC ⟨rfl, hC⟩
               have KR := Lib.hid (HTB.out.below hC).res
               obtain ⟨u0, g0, f0⟩ := KR.out.cells 0 (by decide)
               obtain ⟨u1, g1, f1⟩ := KR.out.cells 1 (by decide)
               obtain ⟨u2, g2, f2⟩ := KR.out.cells 2 (by decide)
               obtain ⟨u3, g3, f3⟩ := KR.out.cells 3 (by decide)
               obtain ⟨u4, g4, f4⟩ := KR.out.cells 4 (by decide)
               obtain ⟨u5, g5, f5⟩ := KR.out.cells 5 (by decide)
               clear hC))
          (try simp only [Exit.inBlock, Exit.then])
          rw [sixW_eq]
          obtain ⟨q0, q1, q2, q3, q4, q5⟩ := KR.out.got (.int .u8 0) (.int .i64 0) (.slice none 0 0) (.slice none 0 0) (.slice none 0 0) (.slice none 0 0)
          have KQ := Lib.hid (KR.out.six (.int .u8 0) (.int .i64 0) (.slice none 0 0) (.slice none 0 0) (.slice none 0 0) (.slice none 0 0))
          refine bodyPost_ret (by simp [results, Tryd.results32, go_sem, q0, q1, q2, q3, q4, q5, Result.andThen]; try rfl) rfl ?_
          exact ⟨_, rfl, ⟨_, _, _, _, _, _, _, _, rfl, Lay.At.nil, Lay.At.nil, Lay.At.nil, Lay.At.nil⟩, HLE.out _ KQ.out⟩
      · have hte : tr = ⟨st, sp, evs V os, evs V rs, bs, is, 0⟩ := by
          rw [HTR.out, if_pos]
          rw [List.all_eq_true.2 (HOR.out (by omega)).1, List.all_eq_true.2 (HRR.out (by omega)).1]; rfl
        subst hte
        obtain ⟨oa7, ol7, oc7⟩ := ho
        obtain ⟨ra7, rl7, rc7⟩ := hr
        obtain ⟨_, e1, ko⟩ := HOR.out (by omega)
        obtain ⟨_, e2, kr⟩ := HRR.out (by omega)
        simp only at e1 e2
        subst e1 e2
        have KO := Lib.hid ko
        have KR2 := Lib.hid kr
        have q0 := HT.out.q0
        have q1 := HT.out.q1
        have q2 := HT.out.q2
        have q3 := HT.out.q3
        have q4 := HT.out.q4
        have q5 := HT.out.q5
        simp only [hv] at q2 q3
        obtain ⟨u0, g0, f0⟩ := HT.out.res.cells 0 (by decide)
        obtain ⟨u1, g1, f1⟩ := HT.out.res.cells 1 (by decide)
        obtain ⟨u2, g2, f2⟩ := HT.out.res.cells 2 (by decide)
        obtain ⟨u3, g3, f3⟩ := HT.out.res.cells 3 (by decide)
        obtain ⟨u4, g4, f4⟩ := HT.out.res.cells 4 (by decide)
        obtain ⟨u5, g5, f5⟩ := HT.out.res.cells 5 (by decide)
        clear ko kr
        go_wp2_with fail
        (try simp only [Exit.inBlock, Exit.then])
        rw [sixW_eq]
        obtain ⟨p0, p1, p2, p3, p4, p5⟩ := HT.out.res.got (.int .u8 st) (.int .i64 sp) (.slice oa7 os.length oc7) (.slice ra7 rs.length rc7) (.slice av3 bs.length cv3) (.slice av4 is.length cv4)
        have KQ := Lib.hid (HT.out.res.six (.int .u8 st) (.int .i64 sp) (.slice oa7 os.length oc7) (.slice ra7 rs.length rc7) (.slice av3 bs.length cv3) (.slice av4 is.length cv4))
        refine bodyPost_ret (by simp [results, Tryd.results32, go_sem, p0, p1, p2, p3, p4, p5, Result.andThen]; try rfl) rfl ?_
        exact ⟨_, rfl, ⟨oa7, oc7, ra7, rc7, av3, cv3, av4, cv4, by simp only [evs, List.length_map], KO.out.six HT.out.res _ _ _ _ _ _, KR2.out.six HT.out.res _ _ _ _ _ _, HT.out.b.six HT.out.res _ _ _ _ _ _, HT.out.i.six HT.out.res _ _ _ _ _ _⟩, HLE.out _ KQ.out⟩
  go_region_held3 (fun w' => w'.cell? ⟨w.heap.size, 1, none⟩ = some (.int .u8 st) ∧ w'.cell? ⟨w.heap.size, 2, none⟩ = some (.int .i64 sp) ∧ w'.cell? ⟨w.heap.size, 5, none⟩ = some (.slice ba bs.length bc) ∧ w'.cell? ⟨w.heap.size, 6, none⟩ = some (.slice ia is.length ic) ∧ ResB wA (w.heap.size + 1) w')
    (first | (rw [sixW_eq]; refine HS.out _ ?_; exact KF.out.sixAt (by first | exact KF.out.mu.size | exact KD.out.mu.size | exact KI.out.mu.size | exact KS.out.mu.size) (by first | exact Nat.ne_of_lt KF.out.lt | exact Nat.ne_of_lt KD.out.lt | exact Nat.ne_of_lt KI.out.lt | exact Nat.ne_of_lt KS.out.lt) _ _ _ _ _ _) | (rw [mk8_eq]; refine HS.out _ ?_; first | exact KF.out.mk8 | exact KD.out.mk8 | exact KI.out.mk8 | exact KS.out.mk8 | exact KF.out.drew.mk8 | exact KD.out.drew.mk8 | exact KI.out.drew.mk8 | exact KS.out.drew.mk8 | exact KF.out.mk8.drew | exact KD.out.mk8.drew | exact KI.out.mk8.drew | exact KS.out.mk8.drew) | (refine HS.out _ ?_; first | exact KF.out | exact KF.out.alloc _ | exact KD.out | exact KI.out | exact KS.out | exact KF.out.drew | exact KD.out.drew | exact KI.out.drew | exact KS.out.drew | exact (‹_ ∧ _ ∧ _ ∧ _ ∧ ResB _ _ _›).2.2.2.2 | exact (‹_ ∧ _ ∧ _ ∧ _ ∧ ResB _ _ _›).2.2.2.2.drew))
    (first
      | (have hother := HI3
         clear hother
         refine step_at Tryd.elemB (d := false) (by rfl) _ _ (by rfl) (by rfl) (Lay.Own.nil _ _) (by rfl) HOK.out.bn rfl (HOK.out.b.below (HLE.out _ (‹_ ∧ _ ∧ _ ∧ _ ∧ ResB _ _ _›).2.2.2.2)) (by have := HSH.out.2.2.2.1; simp only at this; simp; omega) (Nat.le_refl _) ?_
         intro v wF hov hgB hvB
         rw [List.nil_append] at hov
         have hB := below_nil hgB
         obtain ⟨av3, cv3, e5, hav, hbv⟩ := hov.atBase (d := false)
         subst e5
         have HB4 := Lib.hid hav
         have HBR := Lib.hid (fun ad (e : av3 = some ad) => hov.lt ad.block (by rw [e]; rfl))
         have KF := Lib.hid ((‹_ ∧ _ ∧ _ ∧ _ ∧ ResB _ _ _›).2.2.2.2.below hB)
         have HZ3 := Lib.hid hB.size
         first | (rw [mk8_eq] at hB; have R8 := Lib.hid (new6 hB); have HI4 : Hid ((Lay.int .i64).At 0 wF av4 is) := Lib.hid (HI3.out.below ((mk8_below _).trans (hB.mono (by rw [mk8_size]; omega)))); obtain ⟨u0, g0, f0⟩ := R8.out.cells 0 (by decide); obtain ⟨u1, g1, f1⟩ := R8.out.cells 1 (by decide); obtain ⟨u2, g2, f2⟩ := R8.out.cells 2 (by decide); obtain ⟨u3, g3, f3⟩ := R8.out.cells 3 (by decide); obtain ⟨u4, g4, f4⟩ := R8.out.cells 4 (by decide); obtain ⟨u5, g5, f5⟩ := R8.out.cells 5 (by decide)) | (have R8 := Lib.hid (R8.out.below hB); have HI4 : Hid ((Lay.int .i64).At 0 wF av4 is) := Lib.hid (HI3.out.below hB); obtain ⟨u0, g0, f0⟩ := R8.out.cells 0 (by decide); obtain ⟨u1, g1, f1⟩ := R8.out.cells 1 (by decide); obtain ⟨u2, g2, f2⟩ := R8.out.cells 2 (by decide); obtain ⟨u3, g3, f3⟩ := R8.out.cells 3 (by decide); obtain ⟨u4, g4, f4⟩ := R8.out.cells 4 (by decide); obtain ⟨u5, g5, f5⟩ := R8.out.cells 5 (by decide)) | (have HI4 : Hid ((Lay.int .i64).At 0 wF av4 is) := Lib.hid (HI3.out.below hB))
         clear hov hav hbv hB hgB hvB)
      | (have hother := HB3
         clear hother
         refine step_at Tryd.elemI (d := 0) (by rfl) _ _ (by rfl) (by rfl) (Lay.Own.nil _ _) (by rfl) HOK.out.in_ rfl (HOK.out.i.below (HLE.out _ (‹_ ∧ _ ∧ _ ∧ _ ∧ ResB _ _ _›).2.2.2.2)) (by have := HSH.out.2.2.2.2; simp only at this; simp; omega) (Nat.le_refl _) ?_
         intro v wF hov hgB hvB
         rw [List.nil_append] at hov
         have hB := below_nil hgB
         obtain ⟨av4, cv4, e5, hav, hbv⟩ := hov.atBase (d := 0)
         subst e5
         have HI4 := Lib.hid hav
         have HIR := Lib.hid (fun ad (e : av4 = some ad) => hov.lt ad.block (by rw [e]; rfl))
         have KF := Lib.hid ((‹_ ∧ _ ∧ _ ∧ _ ∧ ResB _ _ _›).2.2.2.2.below hB)
         have HZ4 := Lib.hid hB.size
         first | (rw [mk8_eq] at hB; have R8 := Lib.hid (new6 hB); have HB4 : Hid (Lay.bool.At false wF av3 bs) := Lib.hid (HB3.out.below ((mk8_below _).trans (hB.mono (by rw [mk8_size]; omega)))); obtain ⟨u0, g0, f0⟩ := R8.out.cells 0 (by decide); obtain ⟨u1, g1, f1⟩ := R8.out.cells 1 (by decide); obtain ⟨u2, g2, f2⟩ := R8.out.cells 2 (by decide); obtain ⟨u3, g3, f3⟩ := R8.out.cells 3 (by decide); obtain ⟨u4, g4, f4⟩ := R8.out.cells 4 (by decide); obtain ⟨u5, g5, f5⟩ := R8.out.cells 5 (by decide)) | (have R8 := Lib.hid (R8.out.below hB); have HB4 : Hid (Lay.bool.At false wF av3 bs) := Lib.hid (HB3.out.below hB); obtain ⟨u0, g0, f0⟩ := R8.out.cells 0 (by decide); obtain ⟨u1, g1, f1⟩ := R8.out.cells 1 (by decide); obtain ⟨u2, g2, f2⟩ := R8.out.cells 2 (by decide); obtain ⟨u3, g3, f3⟩ := R8.out.cells 3 (by decide); obtain ⟨u4, g4, f4⟩ := R8.out.cells 4 (by decide); obtain ⟨u5, g5, f5⟩ := R8.out.cells 5 (by decide)) | (have HB4 : Hid (Lay.bool.At false wF av3 bs) := Lib.hid (HB3.out.below hB))
         clear hov hav hbv hB hgB hvB)
      | (refine step_at Tryd.elemB (d := false) (by rfl) _ _ (by rfl) (by rfl) (Lay.Own.nil _ _) (by rfl) HOK.out.bn rfl (HOK.out.b.below (HLE.out _ (‹_ ∧ _ ∧ _ ∧ _ ∧ ResB _ _ _›).2.2.2.2)) (by have := HSH.out.2.2.2.1; simp only at this; simp; omega) (Nat.le_refl _) ?_
         intro v wD hov hgB hvB
         rw [List.nil_append] at hov
         have hB := below_nil hgB
         obtain ⟨av3, cv3, e5, hav, hbv⟩ := hov.atBase (d := false)
         subst e5
         have HB3 := Lib.hid hav
         have HBR := Lib.hid (fun ad (e : av3 = some ad) => hov.lt ad.block (by rw [e]; rfl))
         have KD := Lib.hid ((‹_ ∧ _ ∧ _ ∧ _ ∧ ResB _ _ _›).2.2.2.2.below hB)
         have HZ3 := Lib.hid hB.size
         first | (rw [mk8_eq] at hB; first | (have R8 : Hid (ResB _ wA.heap.size wD) := Lib.hid (new6 ((mk8_drew _).trans hB))) | (have R8 : Hid (ResB _ wA.heap.size wD) := Lib.hid (new6 hB))) | skip
         clear hov hav hbv hB hgB hvB)
      | (refine step_at Tryd.elemI (d := 0) (by rfl) _ _ (by rfl) (by rfl) (Lay.Own.nil _ _) (by rfl) HOK.out.in_ rfl (HOK.out.i.below (HLE.out _ (‹_ ∧ _ ∧ _ ∧ _ ∧ ResB _ _ _›).2.2.2.2)) (by have := HSH.out.2.2.2.2; simp only at this; simp; omega) (Nat.le_refl _) ?_
         intro v wI hov hgB hvB
         rw [List.nil_append] at hov
         have hB := below_nil hgB
         obtain ⟨av4, cv4, e5, hav, hbv⟩ := hov.atBase (d := 0)
         subst e5
         have HI3 := Lib.hid hav
         have HIR := Lib.hid (fun ad (e : av4 = some ad) => hov.lt ad.block (by rw [e]; rfl))
         have KI := Lib.hid ((‹_ ∧ _ ∧ _ ∧ _ ∧ ResB _ _ _›).2.2.2.2.below hB)
         have HZ4 := Lib.hid hB.size
         first | (rw [mk8_eq] at hB; first | (have R8 : Hid (ResB _ wA.heap.size wI) := Lib.hid (new6 ((mk8_drew _).trans hB))) | (have R8 : Hid (ResB _ wA.heap.size wI) := Lib.hid (new6 hB))) | skip
         clear hov hav hbv hB hgB hvB))
  all_goals
    first
    | (rw [sixW_eq]
       first
       | (have HT8 : Hid (T8 wA (w.heap.size + 1) wD.heap.size st sp (.slice none 0 0) (.slice none 0 0) av3 av4 cv3 cv4 bs is (sixW wF wD.heap.size (.int .u8 st) (.int .i64 sp) (.slice none 0 0) (.slice none 0 0) (.slice av3 bs.length cv3) (.slice av4 is.length cv4))) := Lib.hid (T8.two KF.out R8.out KD.out.mu.size KD.out.lt HB4.out HI4.out (fun ad e => by have g1 := HBR.out ad e; have g3 := HZ3.out; have g4 := HZ4.out; have g5 := HZA.out; (try simp at g1 g3 g4); refine ⟨?_, ?_⟩ <;> omega) (fun ad e => by have g1 := HIR.out ad e; have g3 := HZ3.out; have g4 := HZ4.out; have g5 := HZA.out; (try simp at g1 g3 g4); refine ⟨?_, ?_⟩ <;> omega)))
       | (have HT8 : Hid (T8 wA (w.heap.size + 1) wA.heap.size st sp (.slice none 0 0) (.slice none 0 0) av3 av4 cv3 cv4 bs is (sixW wF wA.heap.size (.int .u8 st) (.int .i64 sp) (.slice none 0 0) (.slice none 0 0) (.slice av3 bs.length cv3) (.slice av4 is.length cv4))) := Lib.hid (T8.two KF.out R8.out (Nat.le_refl _) KS.out.lt HB4.out HI4.out (fun ad e => by have g1 := HBR.out ad e; have g3 := HZ3.out; have g4 := HZ4.out; have g5 := HZA.out; (try simp at g1 g3 g4); refine ⟨?_, ?_⟩ <;> omega) (fun ad e => by have g1 := HIR.out ad e; have g3 := HZ3.out; have g4 := HZ4.out; have g5 := HZA.out; (try simp at g1 g3 g4); refine ⟨?_, ?_⟩ <;> omega))))
    | (have HT8 : Hid (T8 wA (w.heap.size + 1) wF.heap.size st sp (.slice none 0 0) (.slice none 0 0) av3 av4 cv3 cv4 bs is (wF.alloc (.cells #[.int .u8 st, .int .i64 sp, .slice none 0 0, .slice none 0 0, .slice av3 bs.length cv3, .slice av4 is.length cv4] 46))) := Lib.hid (T8.one KF.out HB4.out HI4.out (fun ad e => by have g1 := HBR.out ad e; have g3 := HZ3.out; have g4 := HZ4.out; have g5 := HZA.out; (try simp at g1 g3 g4); refine ⟨?_, ?_⟩ <;> omega) (fun ad e => by have g1 := HIR.out ad e; have g3 := HZ3.out; have g4 := HZ4.out; have g5 := HZA.out; (try simp at g1 g3 g4); refine ⟨?_, ?_⟩ <;> omega)))
  all_goals
    (try simp only [Exit.then])
    exact KEY.out _ _ _ _ _ _ HT8
end Go.Proofs.YtjhbabgcoemecaaDoor
