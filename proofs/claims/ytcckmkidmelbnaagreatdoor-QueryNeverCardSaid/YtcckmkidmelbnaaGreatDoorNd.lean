/- Walk: may of the code (what both paths must be). -/
import Derived.Test.YtcckmkidmelbnaaGreatDoorTa
import Derived.Test.YtcckmkidmelbnaaGreatDoorNn
namespace Go.Proofs.YtcckmkidmelbnaaGreatDoor
open Go.RowKit

def inB (m : Nat) (p : Int × Int) : Bool := decide (0 ≤ p.1) && decide (p.1 < m)
/-- a path of this side and graph -/
def pathOk (nl nx ny : Nat) (p : PathN) : Bool := p.os.all (inB nx) && p.rs.all (inB ny) && (p.cs ++ p.os.map (·.2) ++ p.rs.map (·.2)).all (isB nl)
section
variable {nl nx ny : Nat} {p : PathN}
theorem pathOk_outs {o : Int × Int} (h : o ∈ p.os) (hb : inB nx o = false) : pathOk nl nx ny p = false := by
  unfold pathOk
  rw [show p.os.all (inB nx) = false from List.all_eq_false.2 ⟨o, h, by rw [hb]; decide⟩]; rfl
theorem pathOk_rels {o : Int × Int} (h : o ∈ p.rs) (hb : inB ny o = false) : pathOk nl nx ny p = false := by
  unfold pathOk
  rw [show p.rs.all (inB ny) = false from List.all_eq_false.2 ⟨o, h, by rw [hb]; decide⟩]; simp
theorem pathOk_terms {t : Int} (h : t ∈ p.cs ++ p.os.map (·.2) ++ p.rs.map (·.2)) (hb : isB nl t = false) : pathOk nl nx ny p = false := by
  unfold pathOk
  rw [show (p.cs ++ p.os.map (·.2) ++ p.rs.map (·.2)).all (isB nl) = false from List.all_eq_false.2 ⟨t, h, by rw [hb]; decide⟩]; simp
theorem pathOk_all (h1 : p.os.all (inB nx) = true) (h2 : p.rs.all (inB ny) = true) (h3 : (p.cs ++ p.os.map (·.2) ++ p.rs.map (·.2)).all (isB nl) = true) : pathOk nl nx ny p = true := by
  unfold pathOk
  rw [h1, h2, h3]; rfl
end
def mayR (b : Bool) : Int := if b then 0 else 3
set_option maxRecDepth 100000 in
set_option maxHeartbeats 8000000 in
theorem may23 {sb lb : Nat} {ca0 : Option Addr} {cc0 : Nat} {xs : List Int} {sa0 : Option Addr} {sc0 : Nat} {ys : List Int} (n gb nl : Nat) {na : Option Addr} {nc : Nat} (level : Int) (pa : Option Addr) (pc : Nat) (ps : List PathN) (w : World)
    (hs : SideAt w sb lb ca0 cc0 xs sa0 sc0 ys) (hn : w.cell? ⟨lb, 0, none⟩ = some (.int .i64 n)) (hg : w.cell? ⟨gb, 2, none⟩ = some (.slice na nl nc)) (hp : Lay.path.At default w pa ps) (hok : ∀ p ∈ ps, p.Ok w ∧ p.short) (hpl : ps.length ≤ 1000) :
    Calls Tryz.prog 23 #[.pointer (some ⟨sb, 0, none⟩), .pointer (some ⟨gb, 0, none⟩), .int .i64 level, .slice pa ps.length pc] w fun e w' => e = .returned (.int .i64 (mayR (isB n level && ps.all (pathOk nl xs.length ys.length)))) ∧ Below w.heap.size w w' := by
  have HS := Lib.hid hs
  have HP := Lib.hid hp
  have HOK := Lib.hid hok
  have HG2 := Lib.hid hg
  have HGL : Hid (gb < w.heap.size) := Lib.hid (World.block_lt_of_cell? w _ hg)
  have s0 := hs.l
  have HN := Lib.hid (len_any lb n w hn)
  clear hs hp hok hg hn
  generalize hnx : xs.length = nx at *
  generalize hny : ys.length = ny at *
  have HNX := Lib.hid hnx
  have HNY := Lib.hid hny
  clear hnx hny
  by_cases h0 : level < 0
  · have HR : Hid (isB n level = false) := Lib.hid (by simp [isB]; omega)
    generalize ps.length = m at *
    go_enter Tryz.func23, Tryz.ntmps23
    go_wp2_with fail
    go_ret
    exact ⟨by rw [HR.out]; rfl, Below.refl _ _⟩
  · have h0' : decide (level < 0) = false := by simpa using h0
    by_cases h1 : (n : Int) ≤ level
    · have HR : Hid (isB n level = false) := Lib.hid (by simp [isB]; omega)
      generalize ps.length = m at *
      go_enter Tryz.func23, Tryz.ntmps23
      go_wp2_with fail
      refine HN.out.mono ?_
      rintro e w' ⟨rfl, rfl⟩
      go_wp2_with fail
      go_ret
      exact ⟨by rw [HR.out]; rfl, Below.refl _ _⟩
    · have h1' : decide ((n : Int) ≤ level) = false := by simpa using h1
      have HR : Hid (isB n level = true) := Lib.hid (by simp [isB]; omega)
      generalize hm : ps.length = m at *
      have HM := Lib.hid hm
      have HTP : Hid (∀ k, k < m → ps.take (k + 1) = ps.take k ++ [ps.getD k default]) := Lib.hid fun k hk => take_getD default ps k (by omega)
      have HFP : Hid (ps.take m = ps) := Lib.hid (by rw [← hm, List.take_length])
      clear hm
      go_enter Tryz.func23, Tryz.ntmps23
      go_wp2_with fail
      refine HN.out.mono ?_
      rintro e w' ⟨rfl, rfl⟩
      go_wp2_with fail
      go_loopw [36] (fun i wr => ∃ k : Nat, k ≤ m ∧ i = .int .i64 k ∧ Hid ((ps.take k).all (pathOk nl nx ny) = true) ∧ Below w.heap.size w wr) (fun i _ => m - (intOf i).toNat)
      case atStart => exact ⟨0, by omega, rfl, Lib.hid (by simp), Below.refl _ _⟩
      case round =>
        obtain ⟨k, hk, rfl, HAL, hbel⟩ := hrel
        have HBE := Lib.hid hbel
        have hsz := hbel.size
        clear hbel
        by_cases hlt : k < m
        · have hq : k < ps.length := by rw [HM.out]; exact hlt
          obtain ⟨pb, po, rfl, hpb, k0, k1, k2, k3, k4, k5, k6⟩ := path_cells (HP.out.below HBE.out) hq
          have hmem := getD_mem default ps k hq
          have HTK := Lib.hid (HTP.out k hlt)
          have HFAIL : Hid (pathOk nl nx ny (ps.getD k default) = false → mayR (isB n level && ps.all (pathOk nl nx ny)) = 3) := Lib.hid fun h => by
            rw [show ps.all (pathOk nl nx ny) = false from List.all_eq_false.2 ⟨_, hmem, by rw [h]; decide⟩, Bool.and_false]; rfl
          obtain ⟨p1, p2⟩ := HOK.out _ hmem
          have HPK := Lib.hid p1
          have HSH := Lib.hid p2
          have hki : (k : Int) < m := by omega
          clear p1 p2 hmem hq
          generalize ps.getD k default = p at *
          obtain ⟨ca, cc, cs, st, sp, oa, oc, os, ra, rc, rs, ba, bc, bs, ia, ic, is⟩ := p
          simp only at k0 k1 k2 k3 k4 k5 k6
          have HFO : Hid (∀ o, o ∈ os → inB nx o = false → mayR (isB n level && ps.all (pathOk nl nx ny)) = 3) := Lib.hid fun o ho h => HFAIL.out (pathOk_outs ho h)
          have HFR : Hid (∀ o, o ∈ rs → inB ny o = false → mayR (isB n level && ps.all (pathOk nl nx ny)) = 3) := Lib.hid fun o ho h => HFAIL.out (pathOk_rels ho h)
          have HFT : Hid (∀ t, t ∈ cs ++ os.map (·.2) ++ rs.map (·.2) → isB nl t = false → mayR (isB n level && ps.all (pathOk nl nx ny)) = 3) := Lib.hid fun t ht h => HFAIL.out (pathOk_terms ht h)
          have HGD := Lib.hid (fun (h1 : os.all (inB nx) = true) (h2 : rs.all (inB ny) = true) (h3 : (cs ++ os.map (·.2) ++ rs.map (·.2)).all (isB nl) = true) => pathOk_all (p := ⟨ca, cc, cs, st, sp, oa, oc, os, ra, rc, rs, ba, bc, bs, ia, ic, is⟩) h1 h2 h3)
          have hos : os.length ≤ 12 := HSH.out.2.1
          have hrs : rs.length ≤ 12 := HSH.out.2.2.1
          have BP : Below wr.heap.size wr (wr.alloc (.cells #[.slice ca cs.length cc, .int .u8 st, .int .i64 sp, .slice oa os.length oc, .slice ra rs.length rc, .slice ba bs.length bc, .slice ia is.length ic] 28)) := (Below.refl _ _).alloc (Nat.le_refl _) _
          have HBP := Lib.hid (HBE.out.trans (BP.mono hsz))
          have hgp : wr.heap.size < (wr.alloc (.cells #[.slice ca cs.length cc, .int .u8 st, .int .i64 sp, .slice oa os.length oc, .slice ra rs.length rc, .slice ba bs.length bc, .slice ia is.length ic] 28)).heap.size := by simp
          have g0 : (wr.alloc (.cells #[.slice ca cs.length cc, .int .u8 st, .int .i64 sp, .slice oa os.length oc, .slice ra rs.length rc, .slice ba bs.length bc, .slice ia is.length ic] 28)).cell? ⟨wr.heap.size, 0, none⟩ = some (.slice ca cs.length cc) := by rw [World.cell?_alloc_new]; rfl
          have g1 : (wr.alloc (.cells #[.slice ca cs.length cc, .int .u8 st, .int .i64 sp, .slice oa os.length oc, .slice ra rs.length rc, .slice ba bs.length bc, .slice ia is.length ic] 28)).cell? ⟨wr.heap.size, 1, none⟩ = some (.int .u8 st) := by rw [World.cell?_alloc_new]; rfl
          have g2 : (wr.alloc (.cells #[.slice ca cs.length cc, .int .u8 st, .int .i64 sp, .slice oa os.length oc, .slice ra rs.length rc, .slice ba bs.length bc, .slice ia is.length ic] 28)).cell? ⟨wr.heap.size, 2, none⟩ = some (.int .i64 sp) := by rw [World.cell?_alloc_new]; rfl
          have g3 : (wr.alloc (.cells #[.slice ca cs.length cc, .int .u8 st, .int .i64 sp, .slice oa os.length oc, .slice ra rs.length rc, .slice ba bs.length bc, .slice ia is.length ic] 28)).cell? ⟨wr.heap.size, 3, none⟩ = some (.slice oa os.length oc) := by rw [World.cell?_alloc_new]; rfl
          have g4 : (wr.alloc (.cells #[.slice ca cs.length cc, .int .u8 st, .int .i64 sp, .slice oa os.length oc, .slice ra rs.length rc, .slice ba bs.length bc, .slice ia is.length ic] 28)).cell? ⟨wr.heap.size, 4, none⟩ = some (.slice ra rs.length rc) := by rw [World.cell?_alloc_new]; rfl
          have g5 : (wr.alloc (.cells #[.slice ca cs.length cc, .int .u8 st, .int .i64 sp, .slice oa os.length oc, .slice ra rs.length rc, .slice ba bs.length bc, .slice ia is.length ic] 28)).cell? ⟨wr.heap.size, 5, none⟩ = some (.slice ba bs.length bc) := by rw [World.cell?_alloc_new]; rfl
          have g6 : (wr.alloc (.cells #[.slice ca cs.length cc, .int .u8 st, .int .i64 sp, .slice oa os.length oc, .slice ra rs.length rc, .slice ba bs.length bc, .slice ia is.length ic] 28)).cell? ⟨wr.heap.size, 6, none⟩ = some (.slice ia is.length ic) := by rw [World.cell?_alloc_new]; rfl
          clear BP
          go_wp2_with fail
          generalize wr.alloc (.cells #[.slice ca cs.length cc, .int .u8 st, .int .i64 sp, .slice oa os.length oc, .slice ra rs.length rc, .slice ba bs.length bc, .slice ia is.length ic] 28) = wp at *
          generalize wr.heap.size = gp at *
          go_loopw [43] (fun i wr => ∃ j : Nat, j ≤ os.length ∧ i = .int .i64 j ∧ Hid ((os.take j).all (inB nx) = true) ∧ Below wp.heap.size wp wr) (fun i _ => os.length - (intOf i).toNat)
          case atStart => exact ⟨0, by omega, rfl, Lib.hid (by simp), Below.refl _ _⟩
          case round =>
            obtain ⟨j, hj, rfl, HAJ, hbx⟩ := hrel
            have HBX := Lib.hid hbx
            have hszx := hbx.size
            clear hbx
            by_cases hlj : j < os.length
            · obtain ⟨qb, qo, rfl, hqb, q0, q1⟩ := (HPK.out.o.below HBP.out).sev hlj
              have c0 := (HBX.out.cell (p := ⟨qb, qo + j * 2, none⟩) hqb).trans q0
              have c1 := (HBX.out.cell (p := ⟨qb, qo + j * 2 + 1, none⟩) hqb).trans q1
              have HTJ := Lib.hid (take_getD (0, 0) os j hlj)
              have HBJ := Lib.hid (HFO.out _ (getD_mem (0, 0) os j hlj))
              have hji : (j : Int) < os.length := by omega
              clear q0 q1
              generalize os.getD j (0, 0) = ev at *
              obtain ⟨N, T⟩ := ev
              simp only at c0 c1
              have BY : Below wr.heap.size wr (wr.alloc (.cells #[.int .i64 N, .int .i64 T] 83)) := (Below.refl _ _).alloc (Nat.le_refl _) _
              have hY : Below wp.heap.size wp (wr.alloc (.cells #[.int .i64 N, .int .i64 T] 83)) := HBX.out.trans (BY.mono hszx)
              have y0 : (wr.alloc (.cells #[.int .i64 N, .int .i64 T] 83)).cell? ⟨wr.heap.size, 0, none⟩ = some (.int .i64 N) := by rw [World.cell?_alloc_new]; rfl
              have s1 := (HS.out.below (HBP.out.trans (hY.mono HBP.out.size))).c1
              rw [HNX.out] at s1
              have HY := Lib.hid hY
              clear BY hY
              by_cases h0 : N < 0
              · have HR := Lib.hid (HBJ.out (by simp [inB]; omega))
                go_wp2_with fail
                generalize wr.alloc (.cells #[.int .i64 N, .int .i64 T] 83) = wy at *
                go_quiet (fail)
                go_wp2_with fail
                go_ret
                exact ⟨(by rw [HR.out]; first | done | rfl), below_drewN (HBP.out.trans (HY.out.mono HBP.out.size)) _⟩
              · have h0' : decide (N < 0) = false := by simpa using h0
                by_cases h1 : (nx : Int) ≤ N
                · have HR := Lib.hid (HBJ.out (by simp [inB]; omega))
                  go_wp2_with fail
                  generalize wr.alloc (.cells #[.int .i64 N, .int .i64 T] 83) = wy at *
                  go_quiet (fail)
                  go_wp2_with fail
                  go_ret
                  exact ⟨(by rw [HR.out]; first | done | rfl), below_drewN (HBP.out.trans (HY.out.mono HBP.out.size)) _⟩
                · have h1' : decide ((nx : Int) ≤ N) = false := by simpa using h1
                  have HI : Hid (inB nx (N, T) = true) := Lib.hid (by simp [inB]; omega)
                  go_wp2_with fail
                  generalize wr.alloc (.cells #[.int .i64 N, .int .i64 T] 83) = wy at *
                  go_quiet (fail)
                  go_wp2_with fail
                  go_roundw
                  case rel => exact ⟨j + 1, by omega, by go_num, Lib.hid (by rw [HTJ.out, List.all_append, HAJ.out]; simp [HI.out]), below_drewN HY.out _⟩
                  case measure => simp [intOf] <;> omega
            · obtain rfl : j = os.length := by omega
              have HAos : Hid (os.all (inB nx) = true) := Lib.hid (by have := HAJ.out; rwa [List.take_length] at this)
              clear HAJ hj
              have HBR := Lib.hid (HBP.out.trans (HBX.out.mono HBP.out.size))
              have d0 := (HBX.out.cell (p := ⟨gp, 0, none⟩) hgp).trans g0
              have d1 := (HBX.out.cell (p := ⟨gp, 1, none⟩) hgp).trans g1
              have d2 := (HBX.out.cell (p := ⟨gp, 2, none⟩) hgp).trans g2
              have d3 := (HBX.out.cell (p := ⟨gp, 3, none⟩) hgp).trans g3
              have d4 := (HBX.out.cell (p := ⟨gp, 4, none⟩) hgp).trans g4
              have d5 := (HBX.out.cell (p := ⟨gp, 5, none⟩) hgp).trans g5
              have d6 := (HBX.out.cell (p := ⟨gp, 6, none⟩) hgp).trans g6
              have hgr : gp < wr.heap.size := Nat.lt_of_lt_of_le hgp hszx
              clear HBX hszx g0 g1 g2 g3 g4 g5 g6
              generalize wr = wq at *
              go_wp2_with fail
              go_loopw [64] (fun i wr => ∃ j : Nat, j ≤ rs.length ∧ i = .int .i64 j ∧ Hid ((rs.take j).all (inB ny) = true) ∧ Below wq.heap.size wq wr) (fun i _ => rs.length - (intOf i).toNat)
              case atStart => exact ⟨0, by omega, rfl, Lib.hid (by simp), Below.refl _ _⟩
              case round =>
                obtain ⟨j, hj, rfl, HAJ, hbx⟩ := hrel
                have HBX := Lib.hid hbx
                have hszx := hbx.size
                clear hbx
                by_cases hlj : j < rs.length
                · obtain ⟨qb, qo, rfl, hqb, q0, q1⟩ := (HPK.out.r.below HBR.out).sev hlj
                  have c0 := (HBX.out.cell (p := ⟨qb, qo + j * 2, none⟩) hqb).trans q0
                  have c1 := (HBX.out.cell (p := ⟨qb, qo + j * 2 + 1, none⟩) hqb).trans q1
                  have HTJ := Lib.hid (take_getD (0, 0) rs j hlj)
                  have HBJ := Lib.hid (HFR.out _ (getD_mem (0, 0) rs j hlj))
                  have hji : (j : Int) < rs.length := by omega
                  clear q0 q1
                  generalize rs.getD j (0, 0) = ev at *
                  obtain ⟨N, T⟩ := ev
                  simp only at c0 c1
                  have BY : Below wr.heap.size wr (wr.alloc (.cells #[.int .i64 N, .int .i64 T] 83)) := (Below.refl _ _).alloc (Nat.le_refl _) _
                  have hY : Below wq.heap.size wq (wr.alloc (.cells #[.int .i64 N, .int .i64 T] 83)) := HBX.out.trans (BY.mono hszx)
                  have y0 : (wr.alloc (.cells #[.int .i64 N, .int .i64 T] 83)).cell? ⟨wr.heap.size, 0, none⟩ = some (.int .i64 N) := by rw [World.cell?_alloc_new]; rfl
                  have s1 := (HS.out.below (HBR.out.trans (hY.mono HBR.out.size))).c2
                  rw [HNY.out] at s1
                  have HY := Lib.hid hY
                  clear BY hY
                  by_cases h0 : N < 0
                  · have HR := Lib.hid (HBJ.out (by simp [inB]; omega))
                    go_wp2_with fail
                    generalize wr.alloc (.cells #[.int .i64 N, .int .i64 T] 83) = wy at *
                    go_quiet (fail)
                    go_wp2_with fail
                    go_ret
                    exact ⟨(by rw [HR.out]; first | done | rfl), below_drewN (HBR.out.trans (HY.out.mono HBR.out.size)) _⟩
                  · have h0' : decide (N < 0) = false := by simpa using h0
                    by_cases h1 : (ny : Int) ≤ N
                    · have HR := Lib.hid (HBJ.out (by simp [inB]; omega))
                      go_wp2_with fail
                      generalize wr.alloc (.cells #[.int .i64 N, .int .i64 T] 83) = wy at *
                      go_quiet (fail)
                      go_wp2_with fail
                      go_ret
                      exact ⟨(by rw [HR.out]; first | done | rfl), below_drewN (HBR.out.trans (HY.out.mono HBR.out.size)) _⟩
                    · have h1' : decide ((ny : Int) ≤ N) = false := by simpa using h1
                      have HI : Hid (inB ny (N, T) = true) := Lib.hid (by simp [inB]; omega)
                      go_wp2_with fail
                      generalize wr.alloc (.cells #[.int .i64 N, .int .i64 T] 83) = wy at *
                      go_quiet (fail)
                      go_wp2_with fail
                      go_roundw
                      case rel => exact ⟨j + 1, by omega, by go_num, Lib.hid (by rw [HTJ.out, List.all_append, HAJ.out]; simp [HI.out]), below_drewN HY.out _⟩
                      case measure => simp [intOf] <;> omega
                · obtain rfl : j = rs.length := by omega
                  have HArs : Hid (rs.all (inB ny) = true) := Lib.hid (by have := HAJ.out; rwa [List.take_length] at this)
                  clear HAJ hj
                  have HBT := Lib.hid (HBR.out.trans (HBX.out.mono HBR.out.size))
                  have HTC : Hid (Calls Tryz.prog 25 #[.agg #[.slice ca cs.length cc, .int .u8 st, .int .i64 sp, .slice oa os.length oc, .slice ra rs.length rc, .slice ba bs.length bc, .slice ia is.length ic]] wr _) := Lib.hid (terms25 wr ⟨ca, cc, cs, st, sp, oa, oc, os, ra, rc, rs, ba, bc, bs, ia, ic, is⟩ (HPK.out.below HBT.out) HSH.out)
                  have e0 := (HBX.out.cell (p := ⟨gp, 0, none⟩) hgr).trans d0
                  have e1 := (HBX.out.cell (p := ⟨gp, 1, none⟩) hgr).trans d1
                  have e2 := (HBX.out.cell (p := ⟨gp, 2, none⟩) hgr).trans d2
                  have e3 := (HBX.out.cell (p := ⟨gp, 3, none⟩) hgr).trans d3
                  have e4 := (HBX.out.cell (p := ⟨gp, 4, none⟩) hgr).trans d4
                  have e5 := (HBX.out.cell (p := ⟨gp, 5, none⟩) hgr).trans d5
                  have e6 := (HBX.out.cell (p := ⟨gp, 6, none⟩) hgr).trans d6
                  clear HBX d0 d1 d2 d3 d4 d5 d6
                  go_wp2_with fail
                  refine HTC.out.mono ?_
                  rintro e w5 ⟨v5, rfl, ho5, hb5⟩
                  obtain ⟨ta, tc, rfl, hta, _, _⟩ := ho5.at_ (d := 0)
                  have HTA := Lib.hid hta
                  have HB5 := Lib.hid (HBT.out.trans (hb5.mono HBT.out.size))
                  have hg5 := (HB5.out.cell (p := ⟨gb, 2, none⟩) HGL.out).trans HG2.out
                  have HC := Lib.hid (len58 gb nl w5 hg5)
                  have HTL : Hid ((cs ++ os.map (·.2) ++ rs.map (·.2)).length ≤ 100) := Lib.hid (by have := HSH.out; simp only [PathN.short] at this; simp only [List.length_append, List.length_map]; omega)
                  have HTT : Hid (∀ j, j < (cs ++ os.map (·.2) ++ rs.map (·.2)).length → (cs ++ os.map (·.2) ++ rs.map (·.2)).take (j + 1) = (cs ++ os.map (·.2) ++ rs.map (·.2)).take j ++ [(cs ++ os.map (·.2) ++ rs.map (·.2)).getD j 0]) := Lib.hid fun j hj => take_getD 0 _ j hj
                  have HBC : Hid (∀ j, j < (cs ++ os.map (·.2) ++ rs.map (·.2)).length → isB nl ((cs ++ os.map (·.2) ++ rs.map (·.2)).getD j 0) = false → mayR (isB n level && ps.all (pathOk nl nx ny)) = 3) := Lib.hid fun j hj h => HFT.out _ (getD_mem 0 _ j hj) h
                  have HGC := Lib.hid (fun h => HGD.out HAos.out HArs.out h)
                  clear ho5 hb5 hta e0 e1 e2 e3 e4 e5 e6 HTC
                  generalize cs ++ os.map (·.2) ++ rs.map (·.2) = ts at *
                  have HFT : Hid (ts.take ts.length = ts) := Lib.hid List.take_length
                  go_wp2_with fail
                  have htl := HTL.out
                  go_loop [85] (fun i => ∃ j : Nat, j ≤ ts.length ∧ i = .int .i64 j ∧ Hid ((ts.take j).all (isB nl) = true)) (fun i => ts.length - (intOf i).toNat)
                  case atStart => exact ⟨0, by omega, rfl, Lib.hid (by simp)⟩
                  case round =>
                    obtain ⟨j, hj, rfl, HAJ⟩ := hrel
                    by_cases hlj : j < ts.length
                    · obtain ⟨qb, qo, rfl, hqb, q0⟩ := HTA.out.int hlj
                      have HTJ := Lib.hid (HTT.out j hlj)
                      have HBJ := Lib.hid (HBC.out j hlj)
                      have hji : (j : Int) < ts.length := by omega
                      clear hqb
                      generalize ts.getD j 0 = t at *
                      by_cases h0 : t < 0
                      · have HR := Lib.hid (HBJ.out (by simp [isB]; omega))
                        go_wp2_with fail
                        go_ret
                        exact ⟨(by rw [HR.out]; first | done | rfl), HB5.out⟩
                      · have h0' : decide (t < 0) = false := by simpa using h0
                        by_cases h1 : (nl : Int) ≤ t
                        · have HR := Lib.hid (HBJ.out (by simp [isB]; omega))
                          go_wp2_with fail
                          refine HC.out.mono ?_
                          rintro e w' ⟨rfl, rfl⟩
                          go_wp2_with fail
                          go_ret
                          exact ⟨(by rw [HR.out]; first | done | rfl), HB5.out⟩
                        · have h1' : decide ((nl : Int) ≤ t) = false := by simpa using h1
                          have HI : Hid (isB nl t = true) := Lib.hid (by simp [isB]; omega)
                          go_wp2_with fail
                          refine HC.out.mono ?_
                          rintro e w' ⟨rfl, rfl⟩
                          go_wp2_with fail
                          go_round
                          case rel => exact ⟨j + 1, by omega, by go_num, Lib.hid (by rw [HTJ.out, List.all_append, HAJ.out]; simp [HI.out])⟩
                          case measure => simp [intOf] <;> omega
                    · obtain rfl : j = ts.length := by omega
                      rw [HFT.out] at HAJ
                      have HPG := Lib.hid (HGC.out HAJ.out)
                      go_wp2_with fail
                      go_roundw
                      case rel => exact ⟨k + 1, by omega, by go_num, Lib.hid (by rw [HTK.out, List.all_append, HAL.out]; simp [HPG.out]), HB5.out⟩
                      case measure => simp [intOf] <;> omega
        · obtain rfl : k = m := by omega
          rw [HFP.out] at HAL
          go_wp2_with fail
          go_ret
          exact ⟨by rw [HAL.out, HR.out]; rfl, HBE.out⟩
end Go.Proofs.YtcckmkidmelbnaaGreatDoor
