/- Walks: seen of code and reference. -/
import Derived.Test.YtcckmkidmelbnaaGreatDoorPa
import Derived.Test.YtcckmkidmelbnaaGreatDoorLT4
namespace Go.Proofs.YtcckmkidmelbnaaGreatDoor
open Go.RowKit

theorem Tryz.elemE : ElemT Tryz.prog Lay.sev 25 83 (.agg #[.int .i64 0, .int .i64 0]) 16 := ⟨Tryz.underlying25, by kernel_rfl, rfl, by decide⟩
/-- a side in memory (of code and reference alike) -/
structure SideAt (w : World) (sb lb : Nat) (ca : Option Addr) (cc : Nat) (xs : List Int) (sa : Option Addr) (sc : Nat) (ys : List Int) : Prop where
  l : w.cell? ⟨sb, 0, none⟩ = some (.pointer (some ⟨lb, 0, none⟩))
  c1 : w.cell? ⟨sb, 1, none⟩ = some (.slice ca xs.length cc)
  c2 : w.cell? ⟨sb, 2, none⟩ = some (.slice sa ys.length sc)
  x : (Lay.int .i64).At 0 w ca xs
  y : (Lay.int .i64).At 0 w sa ys
theorem SideAt.lt {w : World} {sb lb : Nat} {ca : Option Addr} {cc : Nat} {xs : List Int} {sa : Option Addr} {sc : Nat} {ys : List Int} (h : SideAt w sb lb ca cc xs sa sc ys) : sb < w.heap.size := World.block_lt_of_cell? w _ h.l
theorem SideAt.below {w w' : World} {sb lb : Nat} {ca : Option Addr} {cc : Nat} {xs : List Int} {sa : Option Addr} {sc : Nat} {ys : List Int} (h : SideAt w sb lb ca cc xs sa sc ys) (hb : Below w.heap.size w w') : SideAt w' sb lb ca cc xs sa sc ys :=
  ⟨(hb.cell (p := ⟨sb, 0, none⟩) h.lt).trans h.l, (hb.cell (p := ⟨sb, 1, none⟩) h.lt).trans h.c1, (hb.cell (p := ⟨sb, 2, none⟩) h.lt).trans h.c2, h.x.below hb, h.y.below hb⟩
theorem LatC.below' {w w' : World} {b n : Nat} {up dn : Nat → Nat} (h : LatC w b n up dn) (hb : Below w.heap.size w w') : LatC w' b n up dn :=
  have hl : b < w.heap.size := World.block_lt_of_cell? w _ h.hn
  ⟨(hb.cell (p := ⟨b, 0, none⟩) hl).trans h.hn, fun i hi => (hb.cell (p := ⟨b, 1 + i, none⟩) hl).trans (h.hup i hi), fun i hi => (hb.cell (p := ⟨b, 33 + i, none⟩) hl).trans (h.hdn i hi), h.bup, h.bdn, h.n32⟩
theorem seen_take (n : Nat) (up : Nat → Nat) (level : Int) (xs : List Int) (es : List (Int × Int)) (k : Nat) (hq : k < es.length) : seen n up level xs (es.take (k + 1)) = seen n up level xs (es.take k) ++ if leB n up (xs.getD (es.getD k (0, 0)).1.toNat 0) level then [es.getD k (0, 0)] else [] := take_filter (0, 0) _ es k hq
theorem seen_len (n : Nat) (up : Nat → Nat) (level : Int) (xs : List Int) (es : List (Int × Int)) (k : Nat) : (seen n up level xs (es.take k)).length ≤ k := Nat.le_trans (List.length_filter_le _ _) (List.length_take_le _ _)
theorem seen_mem {n : Nat} {up : Nat → Nat} {level : Int} {xs : List Int} {es : List (Int × Int)} {p : Int × Int} (h : p ∈ seen n up level xs es) : p ∈ es := (List.mem_filter.1 h).1
set_option maxRecDepth 100000 in
set_option maxHeartbeats 2000000 in
theorem seen29 {sb lb : Nat} {ca : Option Addr} {cc : Nat} {xs : List Int} {sa : Option Addr} {sc : Nat} {ys : List Int} (n : Nat) (up dn : Nat → Nat) (level : Int) (ea : Option Addr) (ecap : Nat) (es : List (Int × Int)) (w : World)
    (hs : SideAt w sb lb ca cc xs sa sc ys) (hL : LatC w lb n up dn) (hin : ∀ p ∈ es, 0 ≤ p.1 ∧ p.1 < xs.length) (hea : Lay.sev.At (0, 0) w ea es) (hsm : es.length ≤ 1000) :
    Calls Tryz.prog 29 #[.pointer (some ⟨sb, 0, none⟩), .int .i64 level, .slice ca xs.length cc, .slice ea es.length ecap] w fun e w' => ∃ v, e = .returned v ∧ Lay.sev.Own 83 w' w.heap.size v (seen n up level xs es) ∧ Below w.heap.size w w' := by
  have HS := Lib.hid hs
  have HL := Lib.hid hL
  have HIN := Lib.hid hin
  have HE := Lib.hid hea
  have HT := Lib.hid (seen_take n up level xs es)
  have HTL := Lib.hid (seen_len n up level xs es)
  have HF : Hid (es.take es.length = es) := Lib.hid List.take_length
  clear hs hL hin hea
  generalize hlen : es.length = elen at *
  have HLEN := Lib.hid hlen
  generalize hxl : xs.length = xl at *
  have HXL := Lib.hid hxl
  clear hlen hxl
  go_enter Tryz.func29, Tryz.ntmps29
  go_wp2_with fail
  go_loopw [9, 14] (fun v i wr => ∃ k : Nat, k ≤ elen ∧ i = .int .i64 k ∧ Hid (Lay.sev.Own 83 wr w.heap.size v (seen n up level xs (es.take k))) ∧ Below w.heap.size w wr) (fun _ i _ => elen - (intOf i).toNat)
  case atStart => exact ⟨0, by omega, rfl, Lib.hid (Lay.Own.nil _ _), Below.refl _ _⟩
  case round =>
    obtain ⟨k, hk, rfl, hown, hbel⟩ := hrel
    have HOW := Lib.hid hown.out
    have HBE := Lib.hid hbel
    have hsz := hbel.size
    clear hown hbel
    by_cases hlt : k < elen
    · have hq : k < es.length := by rw [HLEN.out]; exact hlt
      obtain ⟨pb, po, rfl, hpb, p0, p1⟩ := HE.out.sev hq
      have c0 := (HBE.out.cell (p := ⟨pb, po + k * 2, none⟩) hpb).trans p0
      have c1 := (HBE.out.cell (p := ⟨pb, po + k * 2 + 1, none⟩) hpb).trans p1
      obtain ⟨o1, o2⟩ := HIN.out _ (getD_mem (0, 0) es k hq)
      have HTK := Lib.hid (HT.out k hlt)
      have hbl := HTL.out k
      have HBL := Lib.hid hbl
      have hki : (k : Int) < elen := by omega
      clear p0 p1 hq hbl
      generalize es.getD k (0, 0) = ev at *
      obtain ⟨N, T⟩ := ev
      simp only at c0 c1 o1 o2 HTK
      obtain ⟨N, rfl⟩ := Int.eq_ofNat_of_zero_le o1
      rw [Int.toNat_natCast] at HTK
      have BX : Below wr.heap.size wr (wr.alloc (.cells #[.int .i64 N, .int .i64 T] 83)) := (Below.refl _ _).alloc (Nat.le_refl _) _
      have BX0 := HBE.out.trans (BX.mono hsz)
      have q0 : (wr.alloc (.cells #[.int .i64 N, .int .i64 T] 83)).cell? ⟨wr.heap.size, 0, none⟩ = some (.int .i64 N) := by rw [World.cell?_alloc_new]; rfl
      have q1 : (wr.alloc (.cells #[.int .i64 N, .int .i64 T] 83)).cell? ⟨wr.heap.size, 1, none⟩ = some (.int .i64 T) := by rw [World.cell?_alloc_new]; rfl
      have s2 := HS.out.below BX0
      obtain ⟨lvb, lvo, rfl, hlvb, l0⟩ := s2.x.int (i := N) (by rw [HXL.out]; omega)
      have s0 := s2.l
      have HC := Lib.hid (fun m => le_q lb n up dn (xs.getD N 0) level _ (HL.out.below' BX0) m)
      have hown2 := HOW.out.grown BX
      have HO2 := Lib.hid hown2
      have HBX := Lib.hid BX
      have HBX0 := Lib.hid BX0
      have hsz2 := BX0.size
      have hN : (N : Int) < xl := by omega
      clear s2 hown2 BX BX0
      generalize xs.getD N 0 = lv at *
      cases hc : leB n up lv level with
      | true =>
        rw [hc] at HC HTK
        clear hc
        go_wp2_with fail
        generalize wr.alloc (.cells #[.int .i64 N, .int .i64 T] 83) = w2 at *
        go_quiet ((go_at_call 40; exact HC.out _))
        go_wp2_with (at_builtin; refine app_lay_new_g Tryz.elemE [((N : Int), T)] rfl _ _ rfl rfl (HO2.out.grown (below_drewN (Below.refl _ _) _)) rfl (by first | rfl | simp) rfl (by have := HBL.out; omega) (by first | exact hsz2 | (simp; omega)) ?_)
        intro v' w3 r1 r2
        go_wp2_with fail
        go_roundw
        case rel => exact ⟨k + 1, by omega, by go_num, Lib.hid (by rw [HTK.out]; exact r1), (below_drewN HBX0.out _).trans r2⟩
        case measure => simp [intOf] <;> omega
      | false =>
        rw [hc] at HC HTK
        clear hc
        go_wp2_with fail
        generalize wr.alloc (.cells #[.int .i64 N, .int .i64 T] 83) = w2 at *
        go_quiet ((go_at_call 40; exact HC.out _))
        go_wp2_with fail
        go_roundw
        case rel => exact ⟨k + 1, by omega, by go_num, Lib.hid (by rw [HTK.out]; simpa using HO2.out.grown (below_drewN (Below.refl _ _) _)), below_drewN HBX0.out _⟩
        case measure => simp [intOf] <;> omega
    · obtain rfl : k = elen := by omega
      rw [HF.out] at HOW
      go_wp2_with fail
      go_ret
      exact ⟨_, rfl, HOW.out, HBE.out⟩
set_option maxRecDepth 100000 in
set_option maxHeartbeats 2000000 in
theorem seen41 {sb lb : Nat} {ca : Option Addr} {cc : Nat} {xs : List Int} {sa : Option Addr} {sc : Nat} {ys : List Int} (n : Nat) (up : Nat → Nat) (level : Int) (ea : Option Addr) (ecap : Nat) (es : List (Int × Int)) (w : World)
    (hs : SideAt w sb lb ca cc xs sa sc ys) (hL : RefL w lb n up) (hin : ∀ p ∈ es, 0 ≤ p.1 ∧ p.1 < xs.length) (hea : Lay.sev.At (0, 0) w ea es) (hsm : es.length ≤ 1000) :
    Calls Tryz.prog 41 #[.pointer (some ⟨sb, 0, none⟩), .int .i64 level, .slice ea es.length ecap] w fun e w' => ∃ v, e = .returned v ∧ Lay.sev.Own 83 w' w.heap.size v (seen n up level xs es) ∧ Below w.heap.size w w' := by
  have HS := Lib.hid hs
  have HL := Lib.hid hL
  have HIN := Lib.hid hin
  have HE := Lib.hid hea
  have HT := Lib.hid (seen_take n up level xs es)
  have HTL := Lib.hid (seen_len n up level xs es)
  have HF : Hid (es.take es.length = es) := Lib.hid List.take_length
  clear hs hL hin hea
  generalize hlen : es.length = elen at *
  have HLEN := Lib.hid hlen
  have HXL : Hid (∀ N : Nat, (N : Int) < xs.length → N < xs.length) := Lib.hid fun N h => by omega
  clear hlen
  go_enter Tryz.func41, Tryz.ntmps41
  go_wp2_with fail
  go_loopw [7, 8] (fun v i wr => ∃ k : Nat, k ≤ elen ∧ i = .int .i64 k ∧ Hid (Lay.sev.Own 83 wr w.heap.size v (seen n up level xs (es.take k))) ∧ Below w.heap.size w wr) (fun _ i _ => elen - (intOf i).toNat)
  case atStart => exact ⟨0, by omega, rfl, Lib.hid (Lay.Own.nil _ _), Below.refl _ _⟩
  case round =>
    obtain ⟨k, hk, rfl, hown, hbel⟩ := hrel
    have HOW := Lib.hid hown.out
    have HBE := Lib.hid hbel
    have hsz := hbel.size
    clear hown hbel
    by_cases hlt : k < elen
    · have hq : k < es.length := by rw [HLEN.out]; exact hlt
      obtain ⟨pb, po, rfl, hpb, p0, p1⟩ := HE.out.sev hq
      have c0 := (HBE.out.cell (p := ⟨pb, po + k * 2, none⟩) hpb).trans p0
      have c1 := (HBE.out.cell (p := ⟨pb, po + k * 2 + 1, none⟩) hpb).trans p1
      obtain ⟨o1, o2⟩ := HIN.out _ (getD_mem (0, 0) es k hq)
      have HTK := Lib.hid (HT.out k hlt)
      have HBL := Lib.hid (HTL.out k)
      have hki : (k : Int) < elen := by omega
      clear p0 p1 hq
      generalize es.getD k (0, 0) = ev at *
      obtain ⟨N, T⟩ := ev
      simp only at c0 c1 o1 o2 HTK
      obtain ⟨N, rfl⟩ := Int.eq_ofNat_of_zero_le o1
      rw [Int.toNat_natCast] at HTK
      have s2 := HS.out.below HBE.out
      obtain ⟨lvb, lvo, rfl, hlvb, l0⟩ := s2.x.int (i := N) (HXL.out N o2)
      have s0 := s2.l
      have s1 := s2.c1
      have HC : Hid (∀ m, Calls Tryz.prog 42 #[.pointer (some ⟨lb, 0, none⟩), .int .i64 (xs.getD N 0), .int .i64 level] (wr.drewN m) fun e w' => e = .returned (.bool (leB n up (xs.getD N 0) level)) ∧ ∃ k, w' = wr.drewN k) :=
        Lib.hid fun m => (rle_eq lb n up (xs.getD N 0) level _ ((HL.out.below HBE.out).same ⟨m, rfl⟩)).mono fun _ _ h => ⟨h.1, m, h.2.symm⟩
      clear s2
      generalize xs.length = xl at *
      generalize xs.getD N 0 = lv at *
      cases hc : leB n up lv level with
      | true =>
        rw [hc] at HC HTK
        clear hc
        go_wp2_with fail
        go_quiet ((go_at_call 42; exact HC.out _))
        go_wp2_with (at_builtin; refine app_lay_new_g Tryz.elemE [((N : Int), T)] rfl _ _ rfl rfl (HOW.out.grown (below_drewN (Below.refl _ _) _)) rfl (by first | rfl | simp) rfl (by have := HBL.out; omega) (by first | exact hsz | (simp; omega)) ?_)
        intro v' w3 r1 r2
        go_wp2_with fail
        go_roundw
        case rel => exact ⟨k + 1, by omega, by go_num, Lib.hid (by rw [HTK.out]; exact r1), (below_drewN HBE.out _).trans r2⟩
        case measure => simp [intOf] <;> omega
      | false =>
        rw [hc] at HC HTK
        clear hc
        go_wp2_with fail
        go_quiet ((go_at_call 42; exact HC.out _))
        go_wp2_with fail
        go_roundw
        case rel => exact ⟨k + 1, by omega, by go_num, Lib.hid (by rw [HTK.out]; simpa using HOW.out.grown (below_drewN (Below.refl _ _) _)), below_drewN HBE.out _⟩
        case measure => simp [intOf] <;> omega
    · obtain rfl : k = elen := by omega
      rw [HF.out] at HOW
      go_wp2_with fail
      go_ret
      exact ⟨_, rfl, HOW.out, HBE.out⟩
end Go.Proofs.YtcckmkidmelbnaaGreatDoor
