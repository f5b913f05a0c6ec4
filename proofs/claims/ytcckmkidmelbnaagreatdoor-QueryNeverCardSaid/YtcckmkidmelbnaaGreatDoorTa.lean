/- Walk: terms of a path. -/
import Derived.Test.YtcckmkidmelbnaaGreatDoorPa
namespace Go.Proofs.YtcckmkidmelbnaaGreatDoor
open Go.RowKit

set_option maxRecDepth 100000 in
set_option maxHeartbeats 4000000 in
theorem terms25 (w : World) (p : PathN) (hok : p.Ok w) (hsh : p.short) :
    Calls Tryz.prog 25 #[p.v] w fun e w' => ∃ v, e = .returned v ∧ (Lay.int .i64).Own 3 w' w.heap.size v (p.cs ++ p.os.map (·.2) ++ p.rs.map (·.2)) ∧ Below w.heap.size w w' := by
  obtain ⟨ca, cc, cs, st, sp, oa, oc, os, ra, rc, rs, ba, bc, bs, ia, ic, is⟩ := p
  have HOK := Lib.hid hok
  have hl1 : cs.length ≤ 12 := hsh.1
  have hl2 : os.length ≤ 12 := hsh.2.1
  have hl3 : rs.length ≤ 12 := hsh.2.2.1
  clear hok hsh
  simp only [PathN.v]
  have HBA : Hid (Below w.heap.size w (w.alloc (.cells #[.slice ca cs.length cc, .int .u8 st, .int .i64 sp, .slice oa os.length oc, .slice ra rs.length rc, .slice ba bs.length bc, .slice ia is.length ic] 28))) := Lib.hid ((Below.refl _ _).alloc (Nat.le_refl _) _)
  have HAC := Lib.hid (HOK.out.c.below HBA.out)
  have HCN : Hid (ca = none → cc = 0) := Lib.hid HOK.out.cn
  go_enter Tryz.func25, Tryz.ntmps25
  go_wp2_with (first
    | (at_builtin
       refine app_lay_at Tryz.elemI (d := 0) (qs := cs) rfl _ _ rfl rfl (Lay.Own.nil _ (w.heap.size + 1)) rfl HCN.out rfl HAC.out (by show 0 + cs.length ≤ 1000000; omega) (by simp) ?_
       intro v1 w1 r1 r2
       have HO1 := Lib.hid r1
       have HB1 := Lib.hid r2
       have b0 := (r2.cell (p := ⟨w.heap.size, 3, none⟩) (Nat.lt_succ_self _)).trans (show World.cell? _ _ = some (.slice oa os.length oc) by rw [World.cell?_alloc_new]; rfl)
       have b4 := (r2.cell (p := ⟨w.heap.size, 4, none⟩) (Nat.lt_succ_self _)).trans (show World.cell? _ _ = some (.slice ra rs.length rc) by rw [World.cell?_alloc_new]; rfl)
       have hz1 := r2.size
       simp at hz1
       clear r1 r2))
  have HB4 := Lib.hid b4
  clear b0 b4
  have HT1 : Hid (∀ k, k < os.length → (os.map (·.2)).take (k + 1) = (os.map (·.2)).take k ++ [(os.getD k (0, 0)).2]) := Lib.hid fun k hk => by
    rw [take_getD 0 _ k (by simpa using hk)]
    congr 2
    rw [List.getD_eq_getElem?_getD, List.getD_eq_getElem?_getD, List.getElem?_map, List.getElem?_eq_getElem hk]; rfl
  have HT2 : Hid (∀ k, k < rs.length → (rs.map (·.2)).take (k + 1) = (rs.map (·.2)).take k ++ [(rs.getD k (0, 0)).2]) := Lib.hid fun k hk => by
    rw [take_getD 0 _ k (by simpa using hk)]
    congr 2
    rw [List.getD_eq_getElem?_getD, List.getD_eq_getElem?_getD, List.getElem?_map, List.getElem?_eq_getElem hk]; rfl
  have HL1 : Hid (∀ k, (cs ++ (os.map (·.2)).take k).length ≤ 24) := Lib.hid fun k => by rw [List.length_append, List.length_take, List.length_map]; omega
  have HL2 : Hid (∀ k, (cs ++ os.map (·.2) ++ (rs.map (·.2)).take k).length ≤ 36) := Lib.hid fun k => by rw [List.length_append, List.length_append, List.length_take, List.length_map, List.length_map]; omega
  have HE1 : Hid ((os.map (·.2)).take os.length = os.map (·.2)) := Lib.hid (List.take_of_length_le (by simp))
  have HE2 : Hid ((rs.map (·.2)).take rs.length = rs.map (·.2)) := Lib.hid (List.take_of_length_le (by simp))
  go_loopw [3, 14] (fun v i wr => ∃ k : Nat, k ≤ os.length ∧ i = .int .i64 k ∧ Hid ((Lay.int .i64).Own 3 wr (w.heap.size + 1) v (cs ++ (os.map (·.2)).take k)) ∧ Below (w.heap.size + 1) w1 wr) (fun _ i _ => os.length - (intOf i).toNat)
  case atStart => exact ⟨0, by omega, rfl, Lib.hid (by simpa using HO1.out), Below.refl _ _⟩
  case round =>
    obtain ⟨k, hk, rfl, hown, hb⟩ := hrel
    have HB := Lib.hid hb
    have HOW := Lib.hid hown.out
    have hzw := hb.size
    have HBW := Lib.hid (HBA.out.trans ((HB1.out.trans HB.out).mono (Nat.le_succ _)))
    clear hb hown
    by_cases hlt : k < os.length
    · obtain ⟨pb, po, rfl, hpb, p0, p1⟩ := HOK.out.o.sev hlt
      have c0 := (HBW.out.cell (p := ⟨pb, po + k * 2, none⟩) hpb).trans p0
      have c1 := (HBW.out.cell (p := ⟨pb, po + k * 2 + 1, none⟩) hpb).trans p1
      have HTK := Lib.hid (HT1.out k hlt)
      have hki : (k : Int) < os.length := by omega
      have hlk := HL1.out k
      have HLK := Lib.hid hlk
      clear p0 p1 hlk
      generalize (os.getD k (0, 0)).1 = n at *
      generalize (os.getD k (0, 0)).2 = t at *
      go_wp2_with (first
        | (at_builtin
           refine app_lay_new_g Tryz.elemI [t] rfl _ _ rfl rfl (HOW.out.alloc _) rfl (by simp) rfl (by have := HLK.out; show _ + 1 ≤ 1000000; omega) (by simp; omega) ?_
           intro v' w5 r1 r2
           have HO5 := Lib.hid r1
           have HB5 := Lib.hid ((HB.out.alloc (by omega) _).trans r2)
           clear r1 r2))
      go_roundw
      case rel => exact ⟨k + 1, by omega, by go_num, Lib.hid (by rw [HTK.out, ← List.append_assoc]; exact HO5.out), HB5.out⟩
      case measure => simp [intOf] <;> omega
    · obtain rfl : k = os.length := by omega
      have b4 := (HB.out.cell (p := ⟨w.heap.size, 4, none⟩) (Nat.lt_succ_self _)).trans HB4.out
      rw [HE1.out] at HOW
      go_wp2_with fail
      clear b4
      have hz2 := HB.out.size
      generalize wr = w2 at *
      go_loopw [3, 27] (fun v i wr => ∃ k : Nat, k ≤ rs.length ∧ i = .int .i64 k ∧ Hid ((Lay.int .i64).Own 3 wr (w.heap.size + 1) v (cs ++ os.map (·.2) ++ (rs.map (·.2)).take k)) ∧ Below (w.heap.size + 1) w2 wr) (fun _ i _ => rs.length - (intOf i).toNat)
      case atStart => exact ⟨0, by omega, rfl, Lib.hid (by simpa using HOW.out), Below.refl _ _⟩
      case round =>
        obtain ⟨k, hk, rfl, hown, hb⟩ := hrel
        have HB' := Lib.hid hb
        have HOX := Lib.hid hown.out
        have hzx := hb.size
        have HBX := Lib.hid (HBA.out.trans ((HB1.out.trans (HB.out.trans HB'.out)).mono (Nat.le_succ _)))
        clear hb hown
        by_cases hlt : k < rs.length
        · obtain ⟨pb, po, rfl, hpb, p0, p1⟩ := HOK.out.r.sev hlt
          have c0 := (HBX.out.cell (p := ⟨pb, po + k * 2, none⟩) hpb).trans p0
          have c1 := (HBX.out.cell (p := ⟨pb, po + k * 2 + 1, none⟩) hpb).trans p1
          have HTK := Lib.hid (HT2.out k hlt)
          have hki : (k : Int) < rs.length := by omega
          have HLK := Lib.hid (HL2.out k)
          clear p0 p1
          generalize (rs.getD k (0, 0)).1 = n at *
          generalize (rs.getD k (0, 0)).2 = t at *
          go_wp2_with (first
            | (at_builtin
               refine app_lay_new_g Tryz.elemI [t] rfl _ _ rfl rfl (HOX.out.alloc _) rfl (by simp) rfl (by have := HLK.out; show _ + 1 ≤ 1000000; omega) (by simp; omega) ?_
               intro v' w5 r1 r2
               have HO5 := Lib.hid r1
               have HB5 := Lib.hid ((HB'.out.alloc (by omega) _).trans r2)
               clear r1 r2))
          go_roundw
          case rel => exact ⟨k + 1, by omega, by go_num, Lib.hid (by rw [HTK.out, ← List.append_assoc]; exact HO5.out), HB5.out⟩
          case measure => simp [intOf] <;> omega
        · obtain rfl : k = rs.length := by omega
          rw [HE2.out] at HOX
          go_wp2_with fail
          go_ret
          exact ⟨_, rfl, by first | exact HOX.out.lower (Nat.le_succ _) | (rw [← List.append_assoc]; exact HOX.out.lower (Nat.le_succ _)), HBX.out⟩
end Go.Proofs.YtcckmkidmelbnaaGreatDoor
