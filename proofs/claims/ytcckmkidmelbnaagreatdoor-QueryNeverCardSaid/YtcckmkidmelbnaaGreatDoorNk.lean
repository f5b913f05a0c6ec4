/- Walk: Check of the reference. -/
import Derived.Test.YtcckmkidmelbnaaGreatDoorNf
namespace Go.Proofs.YtcckmkidmelbnaaGreatDoor
open Go.RowKit

set_option maxRecDepth 100000 in
set_option maxHeartbeats 8000000 in
theorem check9 {w : World} {r W : Nat} {L : List Nd} (h : RV w r W L) {sb lb : Nat} {ca0 : Option Addr} {cc0 : Nat} {xs : List Int} {sa0 : Option Addr} {sc0 : Nat} {ys : List Int} (hs : SideAt w sb lb ca0 cc0 xs sa0 sc0 ys) (n : Nat) (ga : Option Addr) (gc : Nat) (hn : w.cell? ⟨lb, 0, none⟩ = some (.slice ga n gc)) (level : Int) (p q : PathN) (hp : p.Ok w) (hps : p.short) (hq : q.Ok w) (hqs : q.short) :
    Calls Tryz.prog 9 #[.pointer (some ⟨sb, 0, none⟩), .pointer (some ⟨r, 0, none⟩), .int .i64 level, p.v, q.v] w fun e w' => e = .returned (.int .i64 (errB (isB n level && ([p, q].all (pathOk L.length xs.length ys.length))))) ∧ Below w.heap.size w w' := by
  have HP : Hid (∀ w', Below w.heap.size w w' → Calls Tryz.prog 33 #[.pointer (some ⟨sb, 0, none⟩), .pointer (some ⟨r, 0, none⟩), p.v] w' fun e w'' => e = .returned (.bool (rpathOk L.length xs.length ys.length p)) ∧ Below w'.heap.size w' w'') := Lib.hid fun w' hb => path33 (h.below hb) (hs.below hb) p (hp.below hb) hps
  have HQ : Hid (∀ w', Below w.heap.size w w' → Calls Tryz.prog 33 #[.pointer (some ⟨sb, 0, none⟩), .pointer (some ⟨r, 0, none⟩), q.v] w' fun e w'' => e = .returned (.bool (rpathOk L.length xs.length ys.length q)) ∧ Below w'.heap.size w' w'') := Lib.hid fun w' hb => path33 (h.below hb) (hs.below hb) q (hq.below hb) hqs
  rw [rpathOk_eq] at HP HQ
  simp only [List.all_cons, List.all_nil, Bool.and_true]
  have s0 := hs.l
  have hsl := hs.lt
  have hlb := World.block_lt_of_cell? w _ hn
  clear h hs hp hps hq hqs
  generalize pathOk L.length xs.length ys.length p = b1 at *
  generalize pathOk L.length xs.length ys.length q = b2 at *
  obtain ⟨pca, pcc, pcs, pst, psp, poa, poc, pos, pra, prc, prs, pba, pbc, pbs, pia, pic, pis⟩ := p
  obtain ⟨qca, qcc, qcs, qst, qsp, qoa, qoc, qos, qra, qrc, qrs, qba, qbc, qbs, qia, qic, qis⟩ := q
  simp only [PathN.v] at *
  have hb2 : Below w.heap.size w ((w.alloc (.cells #[.slice pca pcs.length pcc, .int .u8 pst, .int .i64 psp, .slice poa pos.length poc, .slice pra prs.length prc, .slice pba pbs.length pbc, .slice pia pis.length pic] 28)).alloc (.cells #[.slice qca qcs.length qcc, .int .u8 qst, .int .i64 qsp, .slice qoa qos.length qoc, .slice qra qrs.length qrc, .slice qba qbs.length qbc, .slice qia qis.length qic] 28)) := ((Below.refl _ _).alloc (Nat.le_refl _) _).alloc (by simp) _
  have k0 := (hb2.cell (p := ⟨sb, 0, none⟩) hsl).trans s0
  have k1 := (hb2.cell (p := ⟨lb, 0, none⟩) hlb).trans hn
  have hz2 : ((w.alloc (.cells #[.slice pca pcs.length pcc, .int .u8 pst, .int .i64 psp, .slice poa pos.length poc, .slice pra prs.length prc, .slice pba pbs.length pbc, .slice pia pis.length pic] 28)).alloc (.cells #[.slice qca qcs.length qcc, .int .u8 qst, .int .i64 qsp, .slice qoa qos.length qoc, .slice qra qrs.length qrc, .slice qba qbs.length qbc, .slice qia qis.length qic] 28)).heap.size = w.heap.size + 2 := by simp
  have g0 : ((w.alloc (.cells #[.slice pca pcs.length pcc, .int .u8 pst, .int .i64 psp, .slice poa pos.length poc, .slice pra prs.length prc, .slice pba pbs.length pbc, .slice pia pis.length pic] 28)).alloc (.cells #[.slice qca qcs.length qcc, .int .u8 qst, .int .i64 qsp, .slice qoa qos.length qoc, .slice qra qrs.length qrc, .slice qba qbs.length qbc, .slice qia qis.length qic] 28)).cell? ⟨w.heap.size, 0, none⟩ = some (.slice pca pcs.length pcc) := by rw [World.cell?_alloc_past _ _ _ (by simp), World.cell?_alloc_new]; rfl
  have g1 : ((w.alloc (.cells #[.slice pca pcs.length pcc, .int .u8 pst, .int .i64 psp, .slice poa pos.length poc, .slice pra prs.length prc, .slice pba pbs.length pbc, .slice pia pis.length pic] 28)).alloc (.cells #[.slice qca qcs.length qcc, .int .u8 qst, .int .i64 qsp, .slice qoa qos.length qoc, .slice qra qrs.length qrc, .slice qba qbs.length qbc, .slice qia qis.length qic] 28)).cell? ⟨w.heap.size, 1, none⟩ = some (.int .u8 pst) := by rw [World.cell?_alloc_past _ _ _ (by simp), World.cell?_alloc_new]; rfl
  have g2 : ((w.alloc (.cells #[.slice pca pcs.length pcc, .int .u8 pst, .int .i64 psp, .slice poa pos.length poc, .slice pra prs.length prc, .slice pba pbs.length pbc, .slice pia pis.length pic] 28)).alloc (.cells #[.slice qca qcs.length qcc, .int .u8 qst, .int .i64 qsp, .slice qoa qos.length qoc, .slice qra qrs.length qrc, .slice qba qbs.length qbc, .slice qia qis.length qic] 28)).cell? ⟨w.heap.size, 2, none⟩ = some (.int .i64 psp) := by rw [World.cell?_alloc_past _ _ _ (by simp), World.cell?_alloc_new]; rfl
  have g3 : ((w.alloc (.cells #[.slice pca pcs.length pcc, .int .u8 pst, .int .i64 psp, .slice poa pos.length poc, .slice pra prs.length prc, .slice pba pbs.length pbc, .slice pia pis.length pic] 28)).alloc (.cells #[.slice qca qcs.length qcc, .int .u8 qst, .int .i64 qsp, .slice qoa qos.length qoc, .slice qra qrs.length qrc, .slice qba qbs.length qbc, .slice qia qis.length qic] 28)).cell? ⟨w.heap.size, 3, none⟩ = some (.slice poa pos.length poc) := by rw [World.cell?_alloc_past _ _ _ (by simp), World.cell?_alloc_new]; rfl
  have g4 : ((w.alloc (.cells #[.slice pca pcs.length pcc, .int .u8 pst, .int .i64 psp, .slice poa pos.length poc, .slice pra prs.length prc, .slice pba pbs.length pbc, .slice pia pis.length pic] 28)).alloc (.cells #[.slice qca qcs.length qcc, .int .u8 qst, .int .i64 qsp, .slice qoa qos.length qoc, .slice qra qrs.length qrc, .slice qba qbs.length qbc, .slice qia qis.length qic] 28)).cell? ⟨w.heap.size, 4, none⟩ = some (.slice pra prs.length prc) := by rw [World.cell?_alloc_past _ _ _ (by simp), World.cell?_alloc_new]; rfl
  have g5 : ((w.alloc (.cells #[.slice pca pcs.length pcc, .int .u8 pst, .int .i64 psp, .slice poa pos.length poc, .slice pra prs.length prc, .slice pba pbs.length pbc, .slice pia pis.length pic] 28)).alloc (.cells #[.slice qca qcs.length qcc, .int .u8 qst, .int .i64 qsp, .slice qoa qos.length qoc, .slice qra qrs.length qrc, .slice qba qbs.length qbc, .slice qia qis.length qic] 28)).cell? ⟨w.heap.size, 5, none⟩ = some (.slice pba pbs.length pbc) := by rw [World.cell?_alloc_past _ _ _ (by simp), World.cell?_alloc_new]; rfl
  have g6 : ((w.alloc (.cells #[.slice pca pcs.length pcc, .int .u8 pst, .int .i64 psp, .slice poa pos.length poc, .slice pra prs.length prc, .slice pba pbs.length pbc, .slice pia pis.length pic] 28)).alloc (.cells #[.slice qca qcs.length qcc, .int .u8 qst, .int .i64 qsp, .slice qoa qos.length qoc, .slice qra qrs.length qrc, .slice qba qbs.length qbc, .slice qia qis.length qic] 28)).cell? ⟨w.heap.size, 6, none⟩ = some (.slice pia pis.length pic) := by rw [World.cell?_alloc_past _ _ _ (by simp), World.cell?_alloc_new]; rfl
  have f0 : ((w.alloc (.cells #[.slice pca pcs.length pcc, .int .u8 pst, .int .i64 psp, .slice poa pos.length poc, .slice pra prs.length prc, .slice pba pbs.length pbc, .slice pia pis.length pic] 28)).alloc (.cells #[.slice qca qcs.length qcc, .int .u8 qst, .int .i64 qsp, .slice qoa qos.length qoc, .slice qra qrs.length qrc, .slice qba qbs.length qbc, .slice qia qis.length qic] 28)).cell? ⟨w.heap.size + 1, 0, none⟩ = some (.slice qca qcs.length qcc) := by
    have := World.cell?_alloc_new (w.alloc (.cells #[.slice pca pcs.length pcc, .int .u8 pst, .int .i64 psp, .slice poa pos.length poc, .slice pra prs.length prc, .slice pba pbs.length pbc, .slice pia pis.length pic] 28)) #[.slice qca qcs.length qcc, .int .u8 qst, .int .i64 qsp, .slice qoa qos.length qoc, .slice qra qrs.length qrc, .slice qba qbs.length qbc, .slice qia qis.length qic] 28 0
    rw [show (w.alloc (.cells #[.slice pca pcs.length pcc, .int .u8 pst, .int .i64 psp, .slice poa pos.length poc, .slice pra prs.length prc, .slice pba pbs.length pbc, .slice pia pis.length pic] 28)).heap.size = w.heap.size + 1 by simp] at this
    rw [this]; rfl
  have f1 : ((w.alloc (.cells #[.slice pca pcs.length pcc, .int .u8 pst, .int .i64 psp, .slice poa pos.length poc, .slice pra prs.length prc, .slice pba pbs.length pbc, .slice pia pis.length pic] 28)).alloc (.cells #[.slice qca qcs.length qcc, .int .u8 qst, .int .i64 qsp, .slice qoa qos.length qoc, .slice qra qrs.length qrc, .slice qba qbs.length qbc, .slice qia qis.length qic] 28)).cell? ⟨w.heap.size + 1, 1, none⟩ = some (.int .u8 qst) := by
    have := World.cell?_alloc_new (w.alloc (.cells #[.slice pca pcs.length pcc, .int .u8 pst, .int .i64 psp, .slice poa pos.length poc, .slice pra prs.length prc, .slice pba pbs.length pbc, .slice pia pis.length pic] 28)) #[.slice qca qcs.length qcc, .int .u8 qst, .int .i64 qsp, .slice qoa qos.length qoc, .slice qra qrs.length qrc, .slice qba qbs.length qbc, .slice qia qis.length qic] 28 1
    rw [show (w.alloc (.cells #[.slice pca pcs.length pcc, .int .u8 pst, .int .i64 psp, .slice poa pos.length poc, .slice pra prs.length prc, .slice pba pbs.length pbc, .slice pia pis.length pic] 28)).heap.size = w.heap.size + 1 by simp] at this
    rw [this]; rfl
  have f2 : ((w.alloc (.cells #[.slice pca pcs.length pcc, .int .u8 pst, .int .i64 psp, .slice poa pos.length poc, .slice pra prs.length prc, .slice pba pbs.length pbc, .slice pia pis.length pic] 28)).alloc (.cells #[.slice qca qcs.length qcc, .int .u8 qst, .int .i64 qsp, .slice qoa qos.length qoc, .slice qra qrs.length qrc, .slice qba qbs.length qbc, .slice qia qis.length qic] 28)).cell? ⟨w.heap.size + 1, 2, none⟩ = some (.int .i64 qsp) := by
    have := World.cell?_alloc_new (w.alloc (.cells #[.slice pca pcs.length pcc, .int .u8 pst, .int .i64 psp, .slice poa pos.length poc, .slice pra prs.length prc, .slice pba pbs.length pbc, .slice pia pis.length pic] 28)) #[.slice qca qcs.length qcc, .int .u8 qst, .int .i64 qsp, .slice qoa qos.length qoc, .slice qra qrs.length qrc, .slice qba qbs.length qbc, .slice qia qis.length qic] 28 2
    rw [show (w.alloc (.cells #[.slice pca pcs.length pcc, .int .u8 pst, .int .i64 psp, .slice poa pos.length poc, .slice pra prs.length prc, .slice pba pbs.length pbc, .slice pia pis.length pic] 28)).heap.size = w.heap.size + 1 by simp] at this
    rw [this]; rfl
  have f3 : ((w.alloc (.cells #[.slice pca pcs.length pcc, .int .u8 pst, .int .i64 psp, .slice poa pos.length poc, .slice pra prs.length prc, .slice pba pbs.length pbc, .slice pia pis.length pic] 28)).alloc (.cells #[.slice qca qcs.length qcc, .int .u8 qst, .int .i64 qsp, .slice qoa qos.length qoc, .slice qra qrs.length qrc, .slice qba qbs.length qbc, .slice qia qis.length qic] 28)).cell? ⟨w.heap.size + 1, 3, none⟩ = some (.slice qoa qos.length qoc) := by
    have := World.cell?_alloc_new (w.alloc (.cells #[.slice pca pcs.length pcc, .int .u8 pst, .int .i64 psp, .slice poa pos.length poc, .slice pra prs.length prc, .slice pba pbs.length pbc, .slice pia pis.length pic] 28)) #[.slice qca qcs.length qcc, .int .u8 qst, .int .i64 qsp, .slice qoa qos.length qoc, .slice qra qrs.length qrc, .slice qba qbs.length qbc, .slice qia qis.length qic] 28 3
    rw [show (w.alloc (.cells #[.slice pca pcs.length pcc, .int .u8 pst, .int .i64 psp, .slice poa pos.length poc, .slice pra prs.length prc, .slice pba pbs.length pbc, .slice pia pis.length pic] 28)).heap.size = w.heap.size + 1 by simp] at this
    rw [this]; rfl
  have f4 : ((w.alloc (.cells #[.slice pca pcs.length pcc, .int .u8 pst, .int .i64 psp, .slice poa pos.length poc, .slice pra prs.length prc, .slice pba pbs.length pbc, .slice pia pis.length pic] 28)).alloc (.cells #[.slice qca qcs.length qcc, .int .u8 qst, .int .i64 qsp, .slice qoa qos.length qoc, .slice qra qrs.length qrc, .slice qba qbs.length qbc, .slice qia qis.length qic] 28)).cell? ⟨w.heap.size + 1, 4, none⟩ = some (.slice qra qrs.length qrc) := by
    have := World.cell?_alloc_new (w.alloc (.cells #[.slice pca pcs.length pcc, .int .u8 pst, .int .i64 psp, .slice poa pos.length poc, .slice pra prs.length prc, .slice pba pbs.length pbc, .slice pia pis.length pic] 28)) #[.slice qca qcs.length qcc, .int .u8 qst, .int .i64 qsp, .slice qoa qos.length qoc, .slice qra qrs.length qrc, .slice qba qbs.length qbc, .slice qia qis.length qic] 28 4
    rw [show (w.alloc (.cells #[.slice pca pcs.length pcc, .int .u8 pst, .int .i64 psp, .slice poa pos.length poc, .slice pra prs.length prc, .slice pba pbs.length pbc, .slice pia pis.length pic] 28)).heap.size = w.heap.size + 1 by simp] at this
    rw [this]; rfl
  have f5 : ((w.alloc (.cells #[.slice pca pcs.length pcc, .int .u8 pst, .int .i64 psp, .slice poa pos.length poc, .slice pra prs.length prc, .slice pba pbs.length pbc, .slice pia pis.length pic] 28)).alloc (.cells #[.slice qca qcs.length qcc, .int .u8 qst, .int .i64 qsp, .slice qoa qos.length qoc, .slice qra qrs.length qrc, .slice qba qbs.length qbc, .slice qia qis.length qic] 28)).cell? ⟨w.heap.size + 1, 5, none⟩ = some (.slice qba qbs.length qbc) := by
    have := World.cell?_alloc_new (w.alloc (.cells #[.slice pca pcs.length pcc, .int .u8 pst, .int .i64 psp, .slice poa pos.length poc, .slice pra prs.length prc, .slice pba pbs.length pbc, .slice pia pis.length pic] 28)) #[.slice qca qcs.length qcc, .int .u8 qst, .int .i64 qsp, .slice qoa qos.length qoc, .slice qra qrs.length qrc, .slice qba qbs.length qbc, .slice qia qis.length qic] 28 5
    rw [show (w.alloc (.cells #[.slice pca pcs.length pcc, .int .u8 pst, .int .i64 psp, .slice poa pos.length poc, .slice pra prs.length prc, .slice pba pbs.length pbc, .slice pia pis.length pic] 28)).heap.size = w.heap.size + 1 by simp] at this
    rw [this]; rfl
  have f6 : ((w.alloc (.cells #[.slice pca pcs.length pcc, .int .u8 pst, .int .i64 psp, .slice poa pos.length poc, .slice pra prs.length prc, .slice pba pbs.length pbc, .slice pia pis.length pic] 28)).alloc (.cells #[.slice qca qcs.length qcc, .int .u8 qst, .int .i64 qsp, .slice qoa qos.length qoc, .slice qra qrs.length qrc, .slice qba qbs.length qbc, .slice qia qis.length qic] 28)).cell? ⟨w.heap.size + 1, 6, none⟩ = some (.slice qia qis.length qic) := by
    have := World.cell?_alloc_new (w.alloc (.cells #[.slice pca pcs.length pcc, .int .u8 pst, .int .i64 psp, .slice poa pos.length poc, .slice pra prs.length prc, .slice pba pbs.length pbc, .slice pia pis.length pic] 28)) #[.slice qca qcs.length qcc, .int .u8 qst, .int .i64 qsp, .slice qoa qos.length qoc, .slice qra qrs.length qrc, .slice qba qbs.length qbc, .slice qia qis.length qic] 28 6
    rw [show (w.alloc (.cells #[.slice pca pcs.length pcc, .int .u8 pst, .int .i64 psp, .slice poa pos.length poc, .slice pra prs.length prc, .slice pba pbs.length pbc, .slice pia pis.length pic] 28)).heap.size = w.heap.size + 1 by simp] at this
    rw [this]; rfl
  have HB2 := Lib.hid hb2
  have HZ2 := Lib.hid hz2
  clear hb2 s0 hn
  by_cases h0 : level < 0
  · have HR : Hid (isB n level = false) := Lib.hid (by simp [isB]; omega)
    go_enter Tryz.func9, Tryz.ntmps9
    go_wp2_with fail
    go_ret
    exact ⟨by rw [HR.out]; rfl, HB2.out⟩
  · have h0' : decide (level < 0) = false := by simpa using h0
    by_cases h1 : (n : Int) ≤ level
    · have HR : Hid (isB n level = false) := Lib.hid (by simp [isB]; omega)
      go_enter Tryz.func9, Tryz.ntmps9
      go_wp2_with fail
      go_ret
      exact ⟨by rw [HR.out]; rfl, HB2.out⟩
    · have h1' : decide ((n : Int) ≤ level) = false := by simpa using h1
      have HR : Hid (isB n level = true) := Lib.hid (by simp [isB]; omega)
      cases b1 with
      | false =>
        go_enter Tryz.func9, Tryz.ntmps9
        go_wp2_with (go_at_call 33; refine (HP.out _ HB2.out).mono ?_; rintro e w5 ⟨rfl, hb5⟩; have HK0 := Lib.hid (HB2.out.trans (hb5.mono HB2.out.size)); have h0 := (hb5.cell (p := ⟨w.heap.size + 1, 0, none⟩) (by show w.heap.size + 1 < _; have := HZ2.out; omega)).trans f0; have h1 := (hb5.cell (p := ⟨w.heap.size + 1, 1, none⟩) (by show w.heap.size + 1 < _; have := HZ2.out; omega)).trans f1; have h2 := (hb5.cell (p := ⟨w.heap.size + 1, 2, none⟩) (by show w.heap.size + 1 < _; have := HZ2.out; omega)).trans f2; have h3 := (hb5.cell (p := ⟨w.heap.size + 1, 3, none⟩) (by show w.heap.size + 1 < _; have := HZ2.out; omega)).trans f3; have h4 := (hb5.cell (p := ⟨w.heap.size + 1, 4, none⟩) (by show w.heap.size + 1 < _; have := HZ2.out; omega)).trans f4; have h5 := (hb5.cell (p := ⟨w.heap.size + 1, 5, none⟩) (by show w.heap.size + 1 < _; have := HZ2.out; omega)).trans f5; have h6 := (hb5.cell (p := ⟨w.heap.size + 1, 6, none⟩) (by show w.heap.size + 1 < _; have := HZ2.out; omega)).trans f6; clear hb5)
        go_ret
        exact ⟨by rw [HR.out]; rfl, HK0.out⟩
      | true =>
        cases b2 with
        | false =>
          go_enter Tryz.func9, Tryz.ntmps9
          go_wp2_with (first | (go_at_call 33; refine (HQ.out _ HK0.out).mono ?_; rintro e w6 ⟨rfl, hb6⟩; have HK6 := Lib.hid (HK0.out.trans (hb6.mono HK0.out.size)); clear hb6) | (go_at_call 33; refine (HP.out _ HB2.out).mono ?_; rintro e w5 ⟨rfl, hb5⟩; have HK0 := Lib.hid (HB2.out.trans (hb5.mono HB2.out.size)); have h0 := (hb5.cell (p := ⟨w.heap.size + 1, 0, none⟩) (by show w.heap.size + 1 < _; have := HZ2.out; omega)).trans f0; have h1 := (hb5.cell (p := ⟨w.heap.size + 1, 1, none⟩) (by show w.heap.size + 1 < _; have := HZ2.out; omega)).trans f1; have h2 := (hb5.cell (p := ⟨w.heap.size + 1, 2, none⟩) (by show w.heap.size + 1 < _; have := HZ2.out; omega)).trans f2; have h3 := (hb5.cell (p := ⟨w.heap.size + 1, 3, none⟩) (by show w.heap.size + 1 < _; have := HZ2.out; omega)).trans f3; have h4 := (hb5.cell (p := ⟨w.heap.size + 1, 4, none⟩) (by show w.heap.size + 1 < _; have := HZ2.out; omega)).trans f4; have h5 := (hb5.cell (p := ⟨w.heap.size + 1, 5, none⟩) (by show w.heap.size + 1 < _; have := HZ2.out; omega)).trans f5; have h6 := (hb5.cell (p := ⟨w.heap.size + 1, 6, none⟩) (by show w.heap.size + 1 < _; have := HZ2.out; omega)).trans f6; clear hb5))
          go_ret
          exact ⟨by rw [HR.out]; rfl, HK6.out⟩
        | true =>
          go_enter Tryz.func9, Tryz.ntmps9
          go_wp2_with (first | (go_at_call 33; refine (HQ.out _ HK0.out).mono ?_; rintro e w6 ⟨rfl, hb6⟩; have HK6 := Lib.hid (HK0.out.trans (hb6.mono HK0.out.size)); clear hb6) | (go_at_call 33; refine (HP.out _ HB2.out).mono ?_; rintro e w5 ⟨rfl, hb5⟩; have HK0 := Lib.hid (HB2.out.trans (hb5.mono HB2.out.size)); have h0 := (hb5.cell (p := ⟨w.heap.size + 1, 0, none⟩) (by show w.heap.size + 1 < _; have := HZ2.out; omega)).trans f0; have h1 := (hb5.cell (p := ⟨w.heap.size + 1, 1, none⟩) (by show w.heap.size + 1 < _; have := HZ2.out; omega)).trans f1; have h2 := (hb5.cell (p := ⟨w.heap.size + 1, 2, none⟩) (by show w.heap.size + 1 < _; have := HZ2.out; omega)).trans f2; have h3 := (hb5.cell (p := ⟨w.heap.size + 1, 3, none⟩) (by show w.heap.size + 1 < _; have := HZ2.out; omega)).trans f3; have h4 := (hb5.cell (p := ⟨w.heap.size + 1, 4, none⟩) (by show w.heap.size + 1 < _; have := HZ2.out; omega)).trans f4; have h5 := (hb5.cell (p := ⟨w.heap.size + 1, 5, none⟩) (by show w.heap.size + 1 < _; have := HZ2.out; omega)).trans f5; have h6 := (hb5.cell (p := ⟨w.heap.size + 1, 6, none⟩) (by show w.heap.size + 1 < _; have := HZ2.out; omega)).trans f6; clear hb5))
          go_ret
          exact ⟨by rw [HR.out]; rfl, HK6.out⟩
end Go.Proofs.YtcckmkidmelbnaaGreatDoor
