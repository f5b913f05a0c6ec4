/- Walk: Never of the code. -/
import Derived.Test.YtcckmkidmelbnaaGreatDoorNw
import Derived.Test.YtcckmkidmelbnaaGreatDoorNo
import Derived.Laws.StructEq
import Derived.Deep.RegionHeld3
namespace Go.Proofs.YtcckmkidmelbnaaGreatDoor
open Go Go.RowKit

theorem fields83 : Tryz.prog.underlying 83 = some (.struct (Tryz.prog.fieldsOf 83)) := by kernel_rfl
theorem stood83 : Tryz.prog.stoodInHeld 83 = false := by kernel_rfl
theorem fl83 : ((Tryz.prog.fieldsOf 83).toList.map fun f => (f.name, f.type, f.offset)) = [("N", 3, 0), ("Term", 3, 1)] := by kernel_rfl
theorem eqFields_map' (d : Nat) (xs ys : Array Value) : ∀ (fs gs : List Field), fs.map (fun f => (f.name, f.type, f.offset)) = gs.map (fun f => (f.name, f.type, f.offset)) → Op.eqFields d xs ys fs = Op.eqFields d xs ys gs
  | [], [], _ => rfl
  | [], g :: gs, h => by simp at h
  | f :: fs, [], h => by simp at h
  | f :: fs, g :: gs, h => by
    simp only [List.map_cons, List.cons.injEq, Prod.mk.injEq] at h
    obtain ⟨⟨h1, h2, h3⟩, h4⟩ := h
    unfold Op.eqFields
    rw [h1, h2, h3, eqFields_map' d xs ys fs gs h4]
theorem eq_sev (x y x' y' : Int) (W : World) : (Op.equalIn 10000 83 (.agg #[.int .i64 x, .int .i64 y]) (.agg #[.int .i64 x', .int .i64 y'])).run Tryz.prog W = .ok (x == x' && y == y') W := by
  rw [show (10000 : Nat) = 9998 + 1 + 1 from rfl, run_equalIn_struct W _ 83 _ _ fields83 stood83,
    eqFields_map' _ _ _ _ [⟨"N", 3, 0, false, "", "", 0⟩, ⟨"Term", 3, 1, false, "", "", 8⟩] fl83]
  cases hx : (x == x') <;> cases hy : (y == y') <;>
    simp [Op.eqFields, part, isAgg, run_underlying Tryz.underlying3, run_equalIn_int, Tryz.underlying3, hx, hy]
theorem neq_sev (x y x' y' : Int) (W : World) : (binOp .neq 83 (.agg #[.int .i64 x, .int .i64 y]) (.agg #[.int .i64 x', .int .i64 y'])).run Tryz.prog W = .ok (.bool (!(x == x' && y == y'))) W := by
  rw [run_neq_struct, eq_sev]; rfl
set_option maxRecDepth 100000 in
set_option maxHeartbeats 16000000 in
theorem never13 {w : World} {gb W : Nat} {L : List Nd} (hg : RV w gb W L) (hvo : VOk L) (hLl : L.length ≤ 100) {sb lb : Nat} {ca0 : Option Addr} {cc0 : Nat} {xs : List Int} {sa0 : Option Addr} {sc0 : Nat} {ys : List Int} (hs : SideAt w sb lb ca0 cc0 xs sa0 sc0 ys) (N : Nat) (up dn : Nat → Nat) (hL : LatC w lb N up dn) (hxl : xs.length ≤ 32) (level : Int) (p q : PathN) (hp : p.Ok w) (hps : p.short) (hq : q.Ok w) (hqs : q.short) :
    Calls Tryz.prog 13 #[.pointer (some ⟨sb, 0, none⟩), .pointer (some ⟨gb, 0, none⟩), .int .i64 level, p.v, q.v] w fun e w' => e = .returned (.tuple #[.bool ((isB N level && [p, q].all (pathOk L.length xs.length ys.length)) && nevB L N up xs level p q), .int .i64 (mayR (isB N level && [p, q].all (pathOk L.length xs.length ys.length)))]) ∧ Below w.heap.size w w' := by
  obtain ⟨na, nc, hgn, _⟩ := hg.nodes
  have hev : ∀ r : PathN, pathOk L.length xs.length ys.length r = true → (∀ o ∈ r.os, 0 ≤ o.1 ∧ o.1 < xs.length) ∧ ∀ o ∈ r.os, isB L.length o.2 = true := fun r hr => by
    unfold pathOk at hr
    simp only [Bool.and_eq_true, List.all_append, List.all_eq_true] at hr
    obtain ⟨⟨h1, _⟩, ⟨_, h2⟩, _⟩ := hr
    refine ⟨fun o ho => ?_, fun o ho => h2 o.2 (List.mem_map.2 ⟨o, ho, rfl⟩)⟩
    have := h1 o ho
    simpa [inB] using this
  have HMAY : Hid (∀ w' a, Below w.heap.size w w' → Lay.path.At default w' a [p, q] → Calls Tryz.prog 23 #[.pointer (some ⟨sb, 0, none⟩), .pointer (some ⟨gb, 0, none⟩), .int .i64 level, .slice a 2 2] w' fun e w'' => e = .returned (.int .i64 (mayR (isB N level && [p, q].all (pathOk L.length xs.length ys.length)))) ∧ Below w'.heap.size w' w'') := Lib.hid fun w' a hb ha =>
    may23 N gb L.length level a 2 [p, q] w' (hs.below hb) ((hL.below' hb).hn) ((hb.cell (p := ⟨gb, 2, none⟩) hg.low).trans hgn) ha (fun r hr => by simp at hr; rcases hr with rfl | rfl; exact ⟨hp.below hb, hps⟩; exact ⟨hq.below hb, hqs⟩) (by simp)
  have HSP : Hid ((isB N level && [p, q].all (pathOk L.length xs.length ys.length)) = true → ∀ w', Below w.heap.size w w' → Calls Tryz.prog 29 #[.pointer (some ⟨sb, 0, none⟩), .int .i64 level, .slice ca0 xs.length cc0, .slice p.oa p.os.length p.oc] w' fun e w'' => ∃ v, e = .returned v ∧ Lay.sev.Own 83 w'' w'.heap.size v (seen N up level xs p.os) ∧ Below w'.heap.size w' w'') := Lib.hid fun hk w' hb => by
    simp only [Bool.and_eq_true, List.all_cons, List.all_nil] at hk
    exact seen29 N up dn level p.oa p.oc p.os w' (hs.below hb) (hL.below' hb) (hev p hk.2.1).1 (hp.o.below hb) (by have := hps.2.1; omega)
  have HSQ : Hid ((isB N level && [p, q].all (pathOk L.length xs.length ys.length)) = true → ∀ w', Below w.heap.size w w' → Calls Tryz.prog 29 #[.pointer (some ⟨sb, 0, none⟩), .int .i64 level, .slice ca0 xs.length cc0, .slice q.oa q.os.length q.oc] w' fun e w'' => ∃ v, e = .returned v ∧ Lay.sev.Own 83 w'' w'.heap.size v (seen N up level xs q.os) ∧ Below w'.heap.size w' w'') := Lib.hid fun hk w' hb => by
    simp only [Bool.and_eq_true, List.all_cons, List.all_nil] at hk
    exact seen29 N up dn level q.oa q.oc q.os w' (hs.below hb) (hL.below' hb) (hev q hk.2.2.1).1 (hq.o.below hb) (by have := hqs.2.1; omega)
  have HXR : Hid ((isB N level && [p, q].all (pathOk L.length xs.length ys.length)) = true → ∀ o ∈ seen N up level xs p.os, isB L.length o.2 = true) := Lib.hid fun hk o ho => by
    simp only [Bool.and_eq_true, List.all_cons, List.all_nil] at hk
    exact (hev p hk.2.1).2 o (seen_mem ho)
  have HNE : Hid ((isB N level && [p, q].all (pathOk L.length xs.length ys.length)) = true → 0 < (seen N up level xs p.os).length → 0 < xs.length) := Lib.hid fun hk h0 => by
    simp only [Bool.and_eq_true, List.all_cons, List.all_nil] at hk
    have hm := getD_mem (0, 0) _ 0 h0
    have := (hev p hk.2.1).1 _ (seen_mem hm)
    omega
  have HF1 : Hid (¬ (p.st = q.st ∧ p.st ≠ 2) → nevB L N up xs level p q = false) := Lib.hid nevB_st
  have HF2 : Hid ((seen N up level xs p.os).length ≠ (seen N up level xs q.os).length → nevB L N up xs level p q = false) := Lib.hid nevB_len
  have HF3 : Hid (∀ k, (seen N up level xs p.os).getD k (0, 0) ≠ (seen N up level xs q.os).getD k (0, 0) → nevB L N up xs level p q = false) := Lib.hid fun k h => nevB_ne h
  have HF4 : Hid (∀ k, k < (seen N up level xs p.os).length → okT L N up xs level ((seen N up level xs p.os).getD k (0, 0)).2 = false → nevB L N up xs level p q = false) := Lib.hid fun k h1 h2 => nevB_bad h1 h2
  have HF5 : Hid (p.st = q.st → p.st ≠ 2 → (seen N up level xs p.os).length = (seen N up level xs q.os).length → (∀ k, k < (seen N up level xs p.os).length → (seen N up level xs p.os).getD k (0, 0) = (seen N up level xs q.os).getD k (0, 0) ∧ okT L N up xs level ((seen N up level xs p.os).getD k (0, 0)).2 = true) → nevB L N up xs level p q = true) := Lib.hid nevB_good
  have HXL : Hid ((seen N up level xs p.os).length ≤ 12 ∧ (seen N up level xs q.os).length ≤ 12) := Lib.hid ⟨Nat.le_trans (List.length_filter_le _ _) hps.2.1, Nat.le_trans (List.length_filter_le _ _) hqs.2.1⟩
  have HVA : Hid (∀ w' (t tb to_ c : Nat), Below w.heap.size w w' → t < L.length → tb < w'.heap.size → w'.cell? ⟨tb, to_, none⟩ = some (.int .i64 (t : Int)) → Calls Tryz.prog 24 #[.pointer (some ⟨gb, 0, none⟩), .slice (some ⟨tb, to_, none⟩) 1 c] w' (VarsR w' L t)) := Lib.hid fun w' t tb to_ c hb ht h1 h2 => vars24 (hg.below hb) hvo t ht hLl tb to_ c h1 h2
  have HLE : Hid (∀ w' (x : Int), Below w.heap.size w w' → ∀ m, Calls Tryz.prog 40 #[.pointer (some ⟨lb, 0, none⟩), .int .i64 x, .int .i64 level] (w'.drewN m) fun e w'' => e = .returned (.bool (leB N up x level)) ∧ ∃ k, w'' = w'.drewN k) := Lib.hid fun w' x hb m => le_q lb N up dn x level w' (hL.below' hb) m
  have HSI : Hid (∀ w', Below w.heap.size w w' → w'.cell? ⟨sb, 0, none⟩ = some (.pointer (some ⟨lb, 0, none⟩)) ∧ w'.cell? ⟨sb, 1, none⟩ = some (.slice ca0 xs.length cc0) ∧ (Lay.int .i64).At 0 w' ca0 xs) := Lib.hid fun w' hb => ⟨(hs.below hb).l, (hs.below hb).c1, (hs.below hb).x⟩
  have HVO := Lib.hid hvo
  have HPO := Lib.hid hp
  have HQO := Lib.hid hq
  clear hev hg hvo hs hL hp hps hq hqs hgn
  generalize hX : seen N up level xs p.os = X at *
  generalize hY : seen N up level xs q.os = Y at *
  clear hX hY
  generalize nevB L N up xs level p q = nb at *
  generalize (isB N level && [p, q].all (pathOk L.length xs.length ys.length)) = okA at *
  have HFL : Hid ((Lay.path.flat [p, q]).toArray = (Lay.path.f p ++ Lay.path.f q).toArray) := Lib.hid (by simp [Lay.flat])
  have HPA : Hid (∀ w' : World, Lay.path.At default (w'.alloc (.cells (Lay.path.f p ++ Lay.path.f q).toArray 28)) (some ⟨w'.heap.size, 0, none⟩) [p, q]) := Lib.hid fun w' => by rw [← HFL.out]; exact Lay.At.made (L := Lay.path) (d := default) w' [p, q] 28
  clear HFL
  obtain ⟨pca, pcc, pcs, pst, psp, poa, poc, pos, pra, prc, prs, pba, pbc, pbs, pia, pic, pis⟩ := p
  obtain ⟨qca, qcc, qcs, qst, qsp, qoa, qoc, qos, qra, qrc, qrs, qba, qbc, qbs, qia, qic, qis⟩ := q
  simp only [PathN.v] at *
  have hb2 : Below w.heap.size w ((w.alloc (.cells #[.slice pca pcs.length pcc, .int .u8 pst, .int .i64 psp, .slice poa pos.length poc, .slice pra prs.length prc, .slice pba pbs.length pbc, .slice pia pis.length pic] 28)).alloc (.cells #[.slice qca qcs.length qcc, .int .u8 qst, .int .i64 qsp, .slice qoa qos.length qoc, .slice qra qrs.length qrc, .slice qba qbs.length qbc, .slice qia qis.length qic] 28)) := ((Below.refl _ _).alloc (Nat.le_refl _) _).alloc (by simp) _
  have hz2 : ((w.alloc (.cells #[.slice pca pcs.length pcc, .int .u8 pst, .int .i64 psp, .slice poa pos.length poc, .slice pra prs.length prc, .slice pba pbs.length pbc, .slice pia pis.length pic] 28)).alloc (.cells #[.slice qca qcs.length qcc, .int .u8 qst, .int .i64 qsp, .slice qoa qos.length qoc, .slice qra qrs.length qrc, .slice qba qbs.length qbc, .slice qia qis.length qic] 28)).heap.size = w.heap.size + 2 := by simp
  have g0 : ((w.alloc (.cells #[.slice pca pcs.length pcc, .int .u8 pst, .int .i64 psp, .slice poa pos.length poc, .slice pra prs.length prc, .slice pba pbs.length pbc, .slice pia pis.length pic] 28)).alloc (.cells #[.slice qca qcs.length qcc, .int .u8 qst, .int .i64 qsp, .slice qoa qos.length qoc, .slice qra qrs.length qrc, .slice qba qbs.length qbc, .slice qia qis.length qic] 28)).cell? ⟨w.heap.size, 0, none⟩ = some (.slice pca pcs.length pcc) := by rw [World.cell?_alloc_past _ _ _ (by simp), World.cell?_alloc_new]; rfl
  have g1 : ((w.alloc (.cells #[.slice pca pcs.length pcc, .int .u8 pst, .int .i64 psp, .slice poa pos.length poc, .slice pra prs.length prc, .slice pba pbs.length pbc, .slice pia pis.length pic] 28)).alloc (.cells #[.slice qca qcs.length qcc, .int .u8 qst, .int .i64 qsp, .slice qoa qos.length qoc, .slice qra qrs.length qrc, .slice qba qbs.length qbc, .slice qia qis.length qic] 28)).cell? ⟨w.heap.size, 1, none⟩ = some (.int .u8 pst) := by rw [World.cell?_alloc_past _ _ _ (by simp), World.cell?_alloc_new]; rfl
  have g2 : ((w.alloc (.cells #[.slice pca pcs.length pcc, .int .u8 pst, .int .i64 psp, .slice poa pos.length poc, .slice pra prs.length prc, .slice pba pbs.length pbc, .slice pia pis.length pic] 28)).alloc (.cells #[.slice qca qcs.length qcc, .int .u8 qst, .int .i64 qsp, .slice qoa qos.length qoc, .slice qra qrs.length qrc, .slice qba qbs.length qbc, .slice qia qis.length qic] 28)).cell? ⟨w.heap.size, 2, none⟩ = some (.int .i64 psp) := by rw [World.cell?_alloc_past _ _ _ (by simp), World.cell?_alloc_new]; rfl
  have g3 : ((w.alloc (.cells #[.slice pca pcs.length pcc, .int .u8 pst, .int .i64 psp, .slice poa pos.length poc, .slice pra prs.length prc, .slice pba pbs.length pbc, .slice pia pis.length pic] 28)).alloc (.cells #[.slice qca qcs.length qcc, .int .u8 qst, .int .i64 qsp, .slice qoa qos.length qoc, .slice qra qrs.length qrc, .slice qba qbs.length qbc, .slice qia qis.length qic] 28)).cell? ⟨w.heap.size, 3, none⟩ = some (.slice poa pos.length poc) := by rw [World.cell?_alloc_past _ _ _ (by simp), World.cell?_alloc_new]; rfl
  have g4 : ((w.alloc (.cells #[.slice pca pcs.length pcc, .int .u8 pst, .int .i64 psp, .slice poa pos.length poc, .slice pra prs.length prc, .slice pba pbs.length pbc, .slice pia pis.length pic] 28)).alloc (.cells #[.slice qca qcs.length qcc, .int .u8 qst, .int .i64 qsp, .slice qoa qos.length qoc, .slice qra qrs.length qrc, .slice qba qbs.length qbc, .slice qia qis.length qic] 28)).cell? ⟨w.heap.size, 4, none⟩ = some (.slice pra prs.length prc) := by rw [World.cell?_alloc_past _ _ _ (by simp), World.cell?_alloc_new]; rfl
  have g5 : ((w.alloc (.cells #[.slice pca pcs.length pcc, .int .u8 pst, .int .i64 psp, .slice poa pos.length poc, .slice pra prs.length prc, .slice pba pbs.length pbc, .slice pia pis.length pic] 28)).alloc (.cells #[.slice qca qcs.length qcc, .int .u8 qst, .int .i64 qsp, .slice qoa qos.length qoc, .slice qra qrs.length qrc, .slice qba qbs.length qbc, .slice qia qis.length qic] 28)).cell? ⟨w.heap.size, 5, none⟩ = some (.slice pba pbs.length pbc) := by rw [World.cell?_alloc_past _ _ _ (by simp), World.cell?_alloc_new]; rfl
  have g6 : ((w.alloc (.cells #[.slice pca pcs.length pcc, .int .u8 pst, .int .i64 psp, .slice poa pos.length poc, .slice pra prs.length prc, .slice pba pbs.length pbc, .slice pia pis.length pic] 28)).alloc (.cells #[.slice qca qcs.length qcc, .int .u8 qst, .int .i64 qsp, .slice qoa qos.length qoc, .slice qra qrs.length qrc, .slice qba qbs.length qbc, .slice qia qis.length qic] 28)).cell? ⟨w.heap.size, 6, none⟩ = some (.slice pia pis.length pic) := by rw [World.cell?_alloc_past _ _ _ (by simp), World.cell?_alloc_new]; rfl
  have f0 : ((w.alloc (.cells #[.slice pca pcs.length pcc, .int .u8 pst, .int .i64 psp, .slice poa pos.length poc, .slice pra prs.length prc, .slice pba pbs.length pbc, .slice pia pis.length pic] 28)).alloc (.cells #[.slice qca qcs.length qcc, .int .u8 qst, .int .i64 qsp, .slice qoa qos.length qoc, .slice qra qrs.length qrc, .slice qba qbs.length qbc, .slice qia qis.length qic] 28)).cell? ⟨w.heap.size + 1, 0, none⟩ = some (.slice qca qcs.length qcc) := by
    have := World.cell?_alloc_new (w.alloc (.cells #[.slice pca pcs.length pcc, .int .u8 pst, .int .i64 psp, .slice poa pos.length poc, .slice pra prs.length prc, .slice pba pbs.length pbc, .slice pia pis.length pic] 28)) #[.slice qca qcs.length qcc, .int .u8 qst, .int .i64 qsp, .slice qoa qos.length qoc, .slice qra qrs.length qrc, .slice qba qbs.length qbc, .slice qia qis.length qic] 28 0
    rw [show (w.alloc (.cells #[.slice pca pcs.length pcc, .int .u8 pst, .int .i64 psp, .slice poa pos.length poc, .slice pra prs.length prc, .slice pba pbs.length pbc, .slice pia pis.length pic] 28)).heap.size = w.heap.size + 1 by simp] at this
    rw [this]; rfl
  have f1 : ((w.alloc (.cells #[.slice pca pcs.length pcc, .int .u8 pst, .int .i64 psp, .slice poa pos.length poc, .slice pra prs.length prc, .slice pba pbs.length pbc, .slice pia pis.length pic] 28)).alloc (.cells #[.slice qca qcs.length qcc, .int .u8 qst, .int .i64 qsp, .slice qoa qos.length qoc, .slice qra qrs.length qrc, .slice qba qbs.length qbc, .slice qia qis.length qic] 28)).cell? ⟨w.heap.size + 1, 1, none⟩ = some (.int .u8 qst) := by
    have := World.cell?_alloc_new (w.alloc (.cells #[.slice pca pcs.length pcc, .int .u8 pst, .int .i64 psp, .slice poa pos.length poc, .slice pra prs.length prc, .slice pba pbs.length pbc, .slice pia pis.length pic] 28)) #[.slice qca qcs.length qcc, .int .u8 qst, .int .i64 qsp, .slice qoa qos.length qoc, .slice qra qrs.length qrc, .slice qba qbs.length qbc, .slice qia qis.length qic] 28 1
    rw [show (w.alloc (.cells #[.slice pca pcs.length pcc, .int .u8 pst, .int .i64 psp, .slice poa pos.length poc, .slice pra prs.length prc, .slice pba pbs.length pbc, .slice pia pis.length pic] 28)).heap.size = w.heap.size + 1 by simp] at this
    rw [this]; rfl
  have f2 : ((w.alloc (.cells #[.slice pca pcs.length pcc, .int .u8 pst, .int .i64 psp, .slice poa pos.length poc, .slice pra prs.length prc, .slice pba pbs.length pbc, .slice pia pis.length pic] 28)).alloc (.cells #[.slice qca qcs.length qcc, .int .u8 qst, .int .i64 qsp, .slice qoa qos.length qoc, .slice qra qrs.length qrc, .slice qba qbs.length qbc, .slice qia qis.length qic] 28)).cell? ⟨w.heap.size + 1, 2, none⟩ = some (.int .i64 qsp) := by
    have := World.cell?_alloc_new (w.alloc (.cells #[.slice pca pcs.length pcc, .int .u8 pst, .int .i64 psp, .slice poa pos.length poc, .slice pra prs.length prc, .slice pba pbs.length pbc, .slice pia pis.length pic] 28)) #[.slice qca qcs.length qcc, .int .u8 qst, .int .i64 qsp, .slice qoa qos.length qoc, .slice qra qrs.length qrc, .slice qba qbs.length qbc, .slice qia qis.length qic] 28 2
    rw [show (w.alloc (.cells #[.slice pca pcs.length pcc, .int .u8 pst, .int .i64 psp, .slice poa pos.length poc, .slice pra prs.length prc, .slice pba pbs.length pbc, .slice pia pis.length pic] 28)).heap.size = w.heap.size + 1 by simp] at this
    rw [this]; rfl
  have f3 : ((w.alloc (.cells #[.slice pca pcs.length pcc, .int .u8 pst, .int .i64 psp, .slice poa pos.length poc, .slice pra prs.length prc, .slice pba pbs.length pbc, .slice pia pis.length pic] 28)).alloc (.cells #[.slice qca qcs.length qcc, .int .u8 qst, .int .i64 qsp, .slice qoa qos.length qoc, .slice qra qrs.length qrc, .slice qba qbs.length qbc, .slice qia qis.length qic] 28)).cell? ⟨w.heap.size + 1, 3, none⟩ = some (.slice qoa qos.length qoc) := by
    have := World.cell?_alloc_new (w.alloc (.cells #[.slice pca pcs.length pcc, .int .u8 pst, .int .i64 psp, .slice poa pos.length poc, .slice pra prs.length prc, .slice pba pbs.length pbc, .slice pia pis.length pic] 28)) #[.slice qca qcs.length qcc, .int .u8 qst, .int .i64 qsp, .slice qoa qos.length qoc, .slice qra qrs.length qrc, .slice qba qbs.length qbc, .slice qia qis.length qic] 28 3
    rw [show (w.alloc (.cells #[.slice pca pcs.length pcc, .int .u8 pst, .int .i64 psp, .slice poa pos.length poc, .slice pra prs.length prc, .slice pba pbs.length pbc, .slice pia pis.length pic] 28)).heap.size = w.heap.size + 1 by simp] at this
    rw [this]; rfl
  have f4 : ((w.alloc (.cells #[.slice pca pcs.length pcc, .int .u8 pst, .int .i64 psp, .slice poa pos.length poc, .slice pra prs.length prc, .slice pba pbs.length pbc, .slice pia pis.length pic] 28)).alloc (.cells #[.slice qca qcs.length qcc, .int .u8 qst, .int .i64 qsp, .slice qoa qos.length qoc, .slice qra qrs.length qrc, .slice qba qbs.length qbc, .slice qia qis.length qic] 28)).cell? ⟨w.heap.size + 1, 4, none⟩ = some (.slice qra qrs.length qrc) := by
    have := World.cell?_alloc_new (w.alloc (.cells #[.slice pca pcs.length pcc, .int .u8 pst, .int .i64 psp, .slice poa pos.length poc, .slice pra prs.length prc, .slice pba pbs.length pbc, .slice pia pis.length pic] 28)) #[.slice qca qcs.length qcc, .int .u8 qst, .int .i64 qsp, .slice qoa qos.length qoc, .slice qra qrs.length qrc, .slice qba qbs.length qbc, .slice qia qis.length qic] 28 4
    rw [show (w.alloc (.cells #[.slice pca pcs.length pcc, .int .u8 pst, .int .i64 psp, .slice poa pos.length poc, .slice pra prs.length prc, .slice pba pbs.length pbc, .slice pia pis.length pic] 28)).heap.size = w.heap.size + 1 by simp] at this
    rw [this]; rfl
  have f5 : ((w.alloc (.cells #[.slice pca pcs.length pcc, .int .u8 pst, .int .i64 psp, .slice poa pos.length poc, .slice pra prs.length prc, .slice pba pbs.length pbc, .slice pia pis.length pic] 28)).alloc (.cells #[.slice qca qcs.length qcc, .int .u8 qst, .int .i64 qsp, .slice qoa qos.length qoc, .slice qra qrs.length qrc, .slice qba qbs.length qbc, .slice qia qis.length qic] 28)).cell? ⟨w.heap.size + 1, 5, none⟩ = some (.slice qba qbs.length qbc) := by
    have := World.cell?_alloc_new (w.alloc (.cells #[.slice pca pcs.length pcc, .int .u8 pst, .int .i64 psp, .slice poa pos.length poc, .slice pra prs.length prc, .slice pba pbs.length pbc, .slice pia pis.length pic] 28)) #[.slice qca qcs.length qcc, .int .u8 qst, .int .i64 qsp, .slice qoa qos.length qoc, .slice qra qrs.length qrc, .slice qba qbs.length qbc, .slice qia qis.length qic] 28 5
    rw [show (w.alloc (.cells #[.slice pca pcs.length pcc, .int .u8 pst, .int .i64 psp, .slice poa pos.length poc, .slice pra prs.length prc, .slice pba pbs.length pbc, .slice pia pis.length pic] 28)).heap.size = w.heap.size + 1 by simp] at this
    rw [this]; rfl
  have f6 : ((w.alloc (.cells #[.slice pca pcs.length pcc, .int .u8 pst, .int .i64 psp, .slice poa pos.length poc, .slice pra prs.length prc, .slice pba pbs.length pbc, .slice pia pis.length pic] 28)).alloc (.cells #[.slice qca qcs.length qcc, .int .u8 qst, .int .i64 qsp, .slice qoa qos.length qoc, .slice qra qrs.length qrc, .slice qba qbs.length qbc, .slice qia qis.length qic] 28)).cell? ⟨w.heap.size + 1, 6, none⟩ = some (.slice qia qis.length qic) := by
    have := World.cell?_alloc_new (w.alloc (.cells #[.slice pca pcs.length pcc, .int .u8 pst, .int .i64 psp, .slice poa pos.length poc, .slice pra prs.length prc, .slice pba pbs.length pbc, .slice pia pis.length pic] 28)) #[.slice qca qcs.length qcc, .int .u8 qst, .int .i64 qsp, .slice qoa qos.length qoc, .slice qra qrs.length qrc, .slice qba qbs.length qbc, .slice qia qis.length qic] 28 6
    rw [show (w.alloc (.cells #[.slice pca pcs.length pcc, .int .u8 pst, .int .i64 psp, .slice poa pos.length poc, .slice pra prs.length prc, .slice pba pbs.length pbc, .slice pia pis.length pic] 28)).heap.size = w.heap.size + 1 by simp] at this
    rw [this]; rfl
  have HB2 := Lib.hid hb2
  have HZ2 := Lib.hid hz2
  clear hb2
  have HM3 : Hid (∀ w', Hid (w' = ((w.alloc (.cells #[.slice pca pcs.length pcc, .int .u8 pst, .int .i64 psp, .slice poa pos.length poc, .slice pra prs.length prc, .slice pba pbs.length pbc, .slice pia pis.length pic] 28)).alloc (.cells #[.slice qca qcs.length qcc, .int .u8 qst, .int .i64 qsp, .slice qoa qos.length qoc, .slice qra qrs.length qrc, .slice qba qbs.length qbc, .slice qia qis.length qic] 28))) → Calls Tryz.prog 23 #[.pointer (some ⟨sb, 0, none⟩), .pointer (some ⟨gb, 0, none⟩), .int .i64 level, .slice (some ⟨w'.heap.size, 0, none⟩) 2 2] (w'.alloc (.cells #[.slice pca pcs.length pcc, .int .u8 pst, .int .i64 psp, .slice poa pos.length poc, .slice pra prs.length prc, .slice pba pbs.length pbc, .slice pia pis.length pic, .slice qca qcs.length qcc, .int .u8 qst, .int .i64 qsp, .slice qoa qos.length qoc, .slice qra qrs.length qrc, .slice qba qbs.length qbc, .slice qia qis.length qic] 28)) fun e w'' => e = .returned (.int .i64 (mayR okA)) ∧ Below (w'.alloc (.cells #[.slice pca pcs.length pcc, .int .u8 pst, .int .i64 psp, .slice poa pos.length poc, .slice pra prs.length prc, .slice pba pbs.length pbc, .slice pia pis.length pic, .slice qca qcs.length qcc, .int .u8 qst, .int .i64 qsp, .slice qoa qos.length qoc, .slice qra qrs.length qrc, .slice qba qbs.length qbc, .slice qia qis.length qic] 28)).heap.size (w'.alloc (.cells #[.slice pca pcs.length pcc, .int .u8 pst, .int .i64 psp, .slice poa pos.length poc, .slice pra prs.length prc, .slice pba pbs.length pbc, .slice pia pis.length pic, .slice qca qcs.length qcc, .int .u8 qst, .int .i64 qsp, .slice qoa qos.length qoc, .slice qra qrs.length qrc, .slice qba qbs.length qbc, .slice qia qis.length qic] 28)) w'') := Lib.hid fun w' hw => by
    have hb : Below w.heap.size w (w'.alloc (.cells #[.slice pca pcs.length pcc, .int .u8 pst, .int .i64 psp, .slice poa pos.length poc, .slice pra prs.length prc, .slice pba pbs.length pbc, .slice pia pis.length pic, .slice qca qcs.length qcc, .int .u8 qst, .int .i64 qsp, .slice qoa qos.length qoc, .slice qra qrs.length qrc, .slice qba qbs.length qbc, .slice qia qis.length qic] 28)) := by rw [hw.out]; exact HB2.out.alloc HB2.out.size _
    exact HMAY.out _ _ hb (HPA.out w')
  have HM4 := Lib.hid (HM3.out _ (Lib.hid rfl))
  have HB3 : Hid (Below w.heap.size w (((w.alloc (.cells #[.slice pca pcs.length pcc, .int .u8 pst, .int .i64 psp, .slice poa pos.length poc, .slice pra prs.length prc, .slice pba pbs.length pbc, .slice pia pis.length pic] 28)).alloc (.cells #[.slice qca qcs.length qcc, .int .u8 qst, .int .i64 qsp, .slice qoa qos.length qoc, .slice qra qrs.length qrc, .slice qba qbs.length qbc, .slice qia qis.length qic] 28)).alloc (.cells #[.slice pca pcs.length pcc, .int .u8 pst, .int .i64 psp, .slice poa pos.length poc, .slice pra prs.length prc, .slice pba pbs.length pbc, .slice pia pis.length pic, .slice qca qcs.length qcc, .int .u8 qst, .int .i64 qsp, .slice qoa qos.length qoc, .slice qra qrs.length qrc, .slice qba qbs.length qbc, .slice qia qis.length qic] 28))) := Lib.hid (HB2.out.alloc HB2.out.size _)
  have HK3 : Hid (∀ b j, b < w.heap.size + 2 → (((w.alloc (.cells #[.slice pca pcs.length pcc, .int .u8 pst, .int .i64 psp, .slice poa pos.length poc, .slice pra prs.length prc, .slice pba pbs.length pbc, .slice pia pis.length pic] 28)).alloc (.cells #[.slice qca qcs.length qcc, .int .u8 qst, .int .i64 qsp, .slice qoa qos.length qoc, .slice qra qrs.length qrc, .slice qba qbs.length qbc, .slice qia qis.length qic] 28)).alloc (.cells #[.slice pca pcs.length pcc, .int .u8 pst, .int .i64 psp, .slice poa pos.length poc, .slice pra prs.length prc, .slice pba pbs.length pbc, .slice pia pis.length pic, .slice qca qcs.length qcc, .int .u8 qst, .int .i64 qsp, .slice qoa qos.length qoc, .slice qra qrs.length qrc, .slice qba qbs.length qbc, .slice qia qis.length qic] 28)).cell? ⟨b, j, none⟩ = ((w.alloc (.cells #[.slice pca pcs.length pcc, .int .u8 pst, .int .i64 psp, .slice poa pos.length poc, .slice pra prs.length prc, .slice pba pbs.length pbc, .slice pia pis.length pic] 28)).alloc (.cells #[.slice qca qcs.length qcc, .int .u8 qst, .int .i64 qsp, .slice qoa qos.length qoc, .slice qra qrs.length qrc, .slice qba qbs.length qbc, .slice qia qis.length qic] 28)).cell? ⟨b, j, none⟩) := Lib.hid fun b j hb => ((Below.refl ((w.alloc (.cells #[.slice pca pcs.length pcc, .int .u8 pst, .int .i64 psp, .slice poa pos.length poc, .slice pra prs.length prc, .slice pba pbs.length pbc, .slice pia pis.length pic] 28)).alloc (.cells #[.slice qca qcs.length qcc, .int .u8 qst, .int .i64 qsp, .slice qoa qos.length qoc, .slice qra qrs.length qrc, .slice qba qbs.length qbc, .slice qia qis.length qic] 28)).heap.size _).alloc (Nat.le_refl _) _).cell (p := ⟨b, j, none⟩) (by rw [HZ2.out]; exact hb)
  have HZ3 : Hid ((((w.alloc (.cells #[.slice pca pcs.length pcc, .int .u8 pst, .int .i64 psp, .slice poa pos.length poc, .slice pra prs.length prc, .slice pba pbs.length pbc, .slice pia pis.length pic] 28)).alloc (.cells #[.slice qca qcs.length qcc, .int .u8 qst, .int .i64 qsp, .slice qoa qos.length qoc, .slice qra qrs.length qrc, .slice qba qbs.length qbc, .slice qia qis.length qic] 28)).alloc (.cells #[.slice pca pcs.length pcc, .int .u8 pst, .int .i64 psp, .slice poa pos.length poc, .slice pra prs.length prc, .slice pba pbs.length pbc, .slice pia pis.length pic, .slice qca qcs.length qcc, .int .u8 qst, .int .i64 qsp, .slice qoa qos.length qoc, .slice qra qrs.length qrc, .slice qba qbs.length qbc, .slice qia qis.length qic] 28)).heap.size = w.heap.size + 3) := Lib.hid (by simp)
  clear HM3 HMAY HPA
  rw [HZ2.out] at HM4
  cases okA with
  | false =>
    go_enter Tryz.func13, Tryz.ntmps13
    go_wp2_with (go_at_call 23; refine HM4.out.mono ?_; rintro e w5 ⟨rfl, hb5⟩; have HB5 := Lib.hid (HB3.out.trans (hb5.mono HB3.out.size)); clear hb5)
    go_ret2
    exact ⟨rfl, HB5.out⟩
  | true =>
    have HSP1 := Lib.hid (HSP.out rfl)
    have HSQ1 := Lib.hid (HSQ.out rfl)
    have HXR1 := Lib.hid (HXR.out rfl)
    have HNE1 := Lib.hid (HNE.out rfl)
    clear HSP HSQ HXR HNE
    have HK5 : Hid (∀ w5 b j, Below ((((w.alloc (.cells #[.slice pca pcs.length pcc, .int .u8 pst, .int .i64 psp, .slice poa pos.length poc, .slice pra prs.length prc, .slice pba pbs.length pbc, .slice pia pis.length pic] 28)).alloc (.cells #[.slice qca qcs.length qcc, .int .u8 qst, .int .i64 qsp, .slice qoa qos.length qoc, .slice qra qrs.length qrc, .slice qba qbs.length qbc, .slice qia qis.length qic] 28)).alloc (.cells #[.slice pca pcs.length pcc, .int .u8 pst, .int .i64 psp, .slice poa pos.length poc, .slice pra prs.length prc, .slice pba pbs.length pbc, .slice pia pis.length pic, .slice qca qcs.length qcc, .int .u8 qst, .int .i64 qsp, .slice qoa qos.length qoc, .slice qra qrs.length qrc, .slice qba qbs.length qbc, .slice qia qis.length qic] 28))).heap.size (((w.alloc (.cells #[.slice pca pcs.length pcc, .int .u8 pst, .int .i64 psp, .slice poa pos.length poc, .slice pra prs.length prc, .slice pba pbs.length pbc, .slice pia pis.length pic] 28)).alloc (.cells #[.slice qca qcs.length qcc, .int .u8 qst, .int .i64 qsp, .slice qoa qos.length qoc, .slice qra qrs.length qrc, .slice qba qbs.length qbc, .slice qia qis.length qic] 28)).alloc (.cells #[.slice pca pcs.length pcc, .int .u8 pst, .int .i64 psp, .slice poa pos.length poc, .slice pra prs.length prc, .slice pba pbs.length pbc, .slice pia pis.length pic, .slice qca qcs.length qcc, .int .u8 qst, .int .i64 qsp, .slice qoa qos.length qoc, .slice qra qrs.length qrc, .slice qba qbs.length qbc, .slice qia qis.length qic] 28)) w5 → b < w.heap.size + 2 → w5.cell? ⟨b, j, none⟩ = ((w.alloc (.cells #[.slice pca pcs.length pcc, .int .u8 pst, .int .i64 psp, .slice poa pos.length poc, .slice pra prs.length prc, .slice pba pbs.length pbc, .slice pia pis.length pic] 28)).alloc (.cells #[.slice qca qcs.length qcc, .int .u8 qst, .int .i64 qsp, .slice qoa qos.length qoc, .slice qra qrs.length qrc, .slice qba qbs.length qbc, .slice qia qis.length qic] 28)).cell? ⟨b, j, none⟩) := Lib.hid fun w5 b j hb hl => (hb.cell (p := ⟨b, j, none⟩) (by rw [HZ3.out]; show b < _; omega)).trans (HK3.out b j hl)
    go_enter Tryz.func13, Tryz.ntmps13
    go_wp2_with (go_at_call 23; refine HM4.out.mono ?_; rintro e w5 ⟨rfl, hb5⟩; have HB5 := Lib.hid (HB3.out.trans (hb5.mono HB3.out.size)); have HZ5 : Hid (w.heap.size + 3 ≤ w5.heap.size) := Lib.hid (by rw [← HZ3.out]; exact hb5.size); have P1 := (HK5.out w5 w.heap.size 1 hb5 (by omega)).trans g1; have P3 := (HK5.out w5 w.heap.size 3 hb5 (by omega)).trans g3; have Q1 := (HK5.out w5 (w.heap.size + 1) 1 hb5 (by omega)).trans f1; have Q3 := (HK5.out w5 (w.heap.size + 1) 3 hb5 (by omega)).trans f3; clear hb5)
    clear g0 g1 g2 g3 g4 g5 g6 f0 f1 f2 f3 f4 f5 f6 hz2
    have hl5 : w.heap.size < w5.heap.size := by have := HZ5.out; omega
    have hl6 : w.heap.size + 1 < w5.heap.size := by have := HZ5.out; omega
    have HS : Hid (∀ w', Below w5.heap.size w5 w' → w'.cell? ⟨sb, 1, none⟩ = some (.slice ca0 xs.length cc0) ∧ w'.cell? ⟨w.heap.size, 3, none⟩ = some (.slice poa pos.length poc) ∧ w'.cell? ⟨w.heap.size + 1, 3, none⟩ = some (.slice qoa qos.length qoc) ∧ Below w5.heap.size w5 w') := Lib.hid fun w' hb =>
      ⟨(HSI.out w' (HB5.out.trans (hb.mono HB5.out.size))).2.1, (hb.cell (p := ⟨w.heap.size, 3, none⟩) hl5).trans P3, (hb.cell (p := ⟨w.heap.size + 1, 3, none⟩) hl6).trans Q3, hb⟩
    go_region_held3 (fun w' => w'.cell? ⟨sb, 1, none⟩ = some (.slice ca0 xs.length cc0) ∧ w'.cell? ⟨w.heap.size, 3, none⟩ = some (.slice poa pos.length poc) ∧ w'.cell? ⟨w.heap.size + 1, 3, none⟩ = some (.slice qoa qos.length qoc) ∧ Below w5.heap.size w5 w')
      (first | exact HS.out _ (Below.refl _ _) | exact HS.out _ (Below.refl _ _).drew | exact HS.out _ KB.out | exact HS.out _ KB.out.drew | exact HS.out _ KA.out | exact HS.out _ KA.out.drew | exact HS.out _ (‹_ ∧ _ ∧ _ ∧ Below _ _ _›).2.2.2 | exact HS.out _ (‹_ ∧ _ ∧ _ ∧ Below _ _ _›).2.2.2.drew)
      (first
        | (go_at_call 29
           refine (HSQ1.out _ (HB5.out.trans (KA.out.mono HB5.out.size))).mono ?_
           rintro e wB ⟨vy, rfl, oy, hB⟩
           have KB := Lib.hid (KA.out.trans (hB.mono KA.out.size))
           have OX2 := Lib.hid (OX.out.grown hB)
           have OY := Lib.hid (oy.lower KA.out.size))
        | (go_at_call 29
           refine (HSP1.out _ (HB5.out.trans ((‹_ ∧ _ ∧ _ ∧ Below _ _ _›).2.2.2.mono HB5.out.size))).mono ?_
           rintro e wA ⟨vx, rfl, ox, hA⟩
           have KA := Lib.hid ((‹_ ∧ _ ∧ _ ∧ Below _ _ _›).2.2.2.trans (hA.mono (‹_ ∧ _ ∧ _ ∧ Below _ _ _›).2.2.2.size))
           have OX := Lib.hid (ox.lower (‹_ ∧ _ ∧ _ ∧ Below _ _ _›).2.2.2.size)))
    obtain ⟨xa, xc, rfl, hxa, _, _⟩ := OX2.out.at_ (d := (0, 0))
    obtain ⟨ya, yc, rfl, hya, _, _⟩ := OY.out.at_ (d := (0, 0))
    have HXA := Lib.hid hxa
    have HYA := Lib.hid hya
    have P1B := (KB.out.cell (p := ⟨w.heap.size, 1, none⟩) hl5).trans P1
    have Q1B := (KB.out.cell (p := ⟨w.heap.size + 1, 1, none⟩) hl6).trans Q1
    have HBW := Lib.hid (HB5.out.trans (KB.out.mono HB5.out.size))
    clear hxa hya P1 P3 Q1 Q3 hl5 hl6 HS OX2 OY OX
    (try clear KA)
    by_cases hst : pst = qst
    · subst hst
      by_cases hs2 : pst = 2
      · have HR := Lib.hid (HF1.out (fun h => h.2 hs2))
        subst hs2
        go_wp2_with fail
        go_ret2
        exact ⟨by rw [HR.out]; rfl, by first | exact HBW.out | exact below_drewN HBW.out _⟩
      · have ds : (pst == 2) = false := by simpa using hs2
        have HS2 := Lib.hid hs2
        clear hs2
        by_cases hlen : X.length = Y.length
        · have HLN := Lib.hid hlen
          have HF := Lib.hid (HF5.out rfl HS2.out hlen)
          have hm12 := HXL.out.1
          obtain ⟨m, hm⟩ : ∃ m, Y.length = m := ⟨_, rfl⟩
          have HMY := Lib.hid hm
          have HMX : Hid (X.length = m) := Lib.hid (hlen.trans hm)
          rw [HMX.out] at hm12
          rw [HMX.out, hm]
          clear hlen hm
          go_wp2_with fail
          clear P1B Q1B
          go_loopw [67] (fun i wr => ∃ k : Nat, k ≤ m ∧ i = .int .i64 k ∧ Hid (∀ j, j < k → X.getD j (0, 0) = Y.getD j (0, 0) ∧ okT L N up xs level (X.getD j (0, 0)).2 = true) ∧ Below wB.heap.size wB wr) (fun i _ => m - (intOf i).toNat)
          case atStart => exact ⟨0, by omega, rfl, Lib.hid (fun j hj => by omega), by first | exact Below.refl _ _ | exact below_drewN (Below.refl _ _) _⟩
          case round =>
            obtain ⟨k, hk, rfl, HALL, hbel⟩ := hrel
            have HBE := Lib.hid hbel
            have HBV := Lib.hid (HBW.out.trans (hbel.mono HBW.out.size))
            clear hbel
            by_cases hkm : k < m
            · have hki : (k : Int) < m := by omega
              obtain ⟨pb, po, rfl, hpb, p0, p1⟩ := HXA.out.sev (i := k) (by rw [HMX.out]; exact hkm)
              obtain ⟨qb, qo, rfl, hqb, q0, q1⟩ := HYA.out.sev (i := k) (by rw [HMY.out]; exact hkm)
              have c0 := (HBE.out.cell (p := ⟨pb, po + k * 2, none⟩) hpb).trans p0
              have c1 := (HBE.out.cell (p := ⟨pb, po + k * 2 + 1, none⟩) hpb).trans p1
              have e0 := (HBE.out.cell (p := ⟨qb, qo + k * 2, none⟩) hqb).trans q0
              have e1 := (HBE.out.cell (p := ⟨qb, qo + k * 2 + 1, none⟩) hqb).trans q1
              have HXK := Lib.hid (HXR1.out _ (getD_mem (0, 0) X k (by rw [HMX.out]; exact hkm)))
              have HXN := Lib.hid (HNE1.out (by rw [HMX.out]; omega))
              have HF3K := Lib.hid (HF3.out k)
              have HF4K := Lib.hid (HF4.out k (by rw [HMX.out]; exact hkm))
              have HNX : Hid (X.getD k (0, 0) = Y.getD k (0, 0) → okT L N up xs level (X.getD k (0, 0)).2 = true → ∀ j, j < k + 1 → X.getD j (0, 0) = Y.getD j (0, 0) ∧ okT L N up xs level (X.getD j (0, 0)).2 = true) := Lib.hid fun h1 h2 j hj => by
                by_cases e : j = k
                · subst e; exact ⟨h1, h2⟩
                · exact HALL.out j (by omega)
              clear p0 p1 q0 q1 hpb hqb
              generalize X.getD k (0, 0) = ev at *
              generalize Y.getD k (0, 0) = fv at *
              obtain ⟨V, T⟩ := ev
              obtain ⟨V', T'⟩ := fv
              simp only at c0 c1 e0 e1
              by_cases hev : V = V' ∧ T = T'
              · obtain ⟨rfl, rfl⟩ := hev
                obtain ⟨t, ht1, ht2⟩ := isB_nat HXK.out
                obtain rfl : T = (t : Int) := ht1
                have HTL := Lib.hid ht2
                have hnq : ∀ W, (binOp .neq 83 (.agg #[.int .i64 V, .int .i64 (t : Int)]) (.agg #[.int .i64 V, .int .i64 (t : Int)])).run Tryz.prog W = .ok (.bool false) W := fun W => (neq_sev V t V t W).trans (by simp)
                clear ht2
                go_wp2_with fail
                go_quiet (fail)
                have HBQ := Lib.hid (fun n => (below_drewN HBV.out n).alloc (by exact HBV.out.size) (.cells #[.int .i64 (t : Int)] 3))
                have HBQ2 : Hid (∀ n, Below wr.heap.size wr ((wr.drewN n).alloc (.cells #[.int .i64 (t : Int)] 3))) := Lib.hid fun n => (below_drewN (Below.refl _ _) n).alloc (by exact Nat.le_refl _) _
                have HCQ : Hid (∀ n, ((wr.drewN n).alloc (.cells #[.int .i64 (t : Int)] 3)).cell? ⟨wr.heap.size, 0, none⟩ = some (.int .i64 (t : Int))) := Lib.hid fun n => World.cell?_alloc_new (wr.drewN n) _ _ 0
                have HZQ : Hid (∀ n, wr.heap.size < ((wr.drewN n).alloc (.cells #[.int .i64 (t : Int)] 3)).heap.size) := Lib.hid fun n => by simp
                go_wp2_with (go_at_call 24; refine (HVA.out _ t wr.heap.size 0 1 (HBQ.out _) HTL.out (HZQ.out _) (HCQ.out _)).mono ?_; rintro e w6 ⟨v6, vs, rfl, ov, hmem, hvl, hb6⟩; obtain ⟨va, vc, rfl, hva, _, _⟩ := ov.at_ (d := 0); have HVA6 := Lib.hid hva; have HMEM := Lib.hid hmem; have HB6 := Lib.hid (hb6.mono (HBQ2.out _).size); have HBB := Lib.hid ((HBQ2.out _).trans HB6.out); have HVL := Lib.hid hvl; clear ov hva hmem hvl hb6)
                have HOK := Lib.hid (okT_eq (N := N) (up := up) (xs := xs) (level := level) HMEM.out)
                have HNUM : Hid (∀ x ∈ vs, ∃ mv : Nat, x = (mv : Int) ∧ mv < 12) := Lib.hid fun x hx => by
                  obtain ⟨j, _, h1, h2⟩ := (HMEM.out x).1 hx
                  exact ⟨_, h2.symm, HVO.out j h1⟩
                have HBV6 := Lib.hid (HBV.out.trans (HBB.out.mono HBV.out.size))
                have HBE6 := Lib.hid (HBE.out.trans (HBB.out.mono HBE.out.size))
                clear HBQ HBQ2 HCQ HZQ HMEM
                obtain ⟨lv, hlv⟩ : ∃ lv, vs.length = lv := ⟨_, rfl⟩
                have HLV := Lib.hid hlv
                have hlvm : lv ≤ 1000 := by rw [← hlv]; exact HVL.out
                rw [hlv]
                clear hlv
                go_wp2_with fail
                go_loopw [95] (fun i wr => ∃ j : Nat, j ≤ lv ∧ i = .int .i64 j ∧ Hid (∀ i, i < j → goodV N up xs level (vs.getD i 0) = true) ∧ Hid (Same w6 wr)) (fun i _ => lv - (intOf i).toNat)
                case atStart => exact ⟨0, by omega, rfl, Lib.hid (fun i hi => by omega), Lib.hid (Same.refl _)⟩
                case round =>
                  obtain ⟨j, hj, rfl, HAJ, HSM⟩ := hrel
                  have HBX := Lib.hid (HBV6.out.trans (HSM.out.below _))
                  by_cases hjl : j < lv
                  · have hji : (j : Int) < lv := by omega
                    obtain ⟨zb, zo, rfl, hzb, z0⟩ := HVA6.out.int (i := j) (by rw [HLV.out]; exact hjl)
                    have z1 := (HSM.out.cell ⟨zb, zo + j, none⟩).trans z0
                    obtain ⟨mv, hmv, hm12⟩ := HNUM.out _ (getD_mem 0 vs j (by rw [HLV.out]; exact hjl))
                    have HBJ : Hid (goodV N up xs level (vs.getD j 0) = false → nb = false) := Lib.hid fun h => HF4K.out (by
                      show okT L N up xs level (t : Int) = false
                      rw [HOK.out]
                      exact List.all_eq_false.2 ⟨_, getD_mem 0 vs j (by rw [HLV.out]; exact hjl), by rw [h]; decide⟩)
                    have HNJ : Hid (goodV N up xs level (vs.getD j 0) = true → ∀ i, i < j + 1 → goodV N up xs level (vs.getD i 0) = true) := Lib.hid fun h i hi => by
                      by_cases e : i = j
                      · subst e; exact h
                      · exact HAJ.out i (by omega)
                    rw [hmv] at z1 HBJ HNJ
                    clear z0 hzb hmv
                    have hxp : 0 < xs.length := HXN.out
                    have HGV : Hid (goodV N up xs level (mv : Int) = (!(decide (mv % 2 = 1)) && leB N up (xs.getD (mv / 2 % xs.length) 0) level)) := Lib.hid (by
                      unfold goodV
                      rw [show (mv : Int) / 2 = ((mv / 2 : Nat) : Int) by omega, ← Int.natCast_emod, Int.toNat_natCast]
                      congr 2
                      rw [Bool.eq_iff_iff, beq_iff_eq, decide_eq_true_eq]; omega)
                    by_cases hodd : mv % 2 = 1
                    · have HR := Lib.hid (HBJ.out (by rw [HGV.out, decide_eq_true hodd]; rfl))
                      have t1 : Int.tmod (mv : Int) 2 = 1 := by rw [Int.tmod_eq_emod_of_nonneg (by omega)]; omega
                      have t2 : (mv : Int) % 2 = 1 := by omega
                      clear hodd
                      go_wp2_with fail
                      go_quiet (fail)
                      go_wp2_with fail
                      go_ret2
                      exact ⟨by rw [HR.out]; rfl, below_drewN HBX.out _⟩
                    · have t1 : Int.tmod (mv : Int) 2 = 0 := by rw [Int.tmod_eq_emod_of_nonneg (by omega)]; omega
                      have t2 : (mv : Int) % 2 = 0 := by omega
                      rw [decide_eq_false hodd, Bool.not_false, Bool.true_and] at HGV
                      obtain ⟨d, hd⟩ : ∃ d, mv / 2 = d := ⟨_, rfl⟩
                      obtain ⟨c, hc⟩ : ∃ c, d % xs.length = c := ⟨_, rfl⟩
                      rw [hd, hc] at HGV
                      have hcl : c < xs.length := by rw [← hc]; exact Nat.mod_lt _ hxp
                      have t3 : Int.tdiv (mv : Int) 2 = (d : Int) := by rw [Int.tdiv_eq_ediv_of_nonneg (by omega)]; omega
                      have t4 : (mv : Int) / 2 = (d : Int) := by omega
                      have t5 : Int.tmod (d : Int) (xs.length : Int) = (c : Int) := by rw [Int.tmod_eq_emod_of_nonneg (by omega), ← hc, Int.natCast_emod]
                      have t6 : (d : Int) % (xs.length : Int) = (c : Int) := by rw [← hc, Int.natCast_emod]
                      have t7 : (xs.length : Int) ≠ 0 := by omega
                      have t8 : (c : Int) < xs.length := by omega
                      have t9 : IntKind.i64.wrap (d : Int) = (d : Int) := by rw [IntKind.wrap_i64]; omega
                      have t10 : IntKind.i64.wrap (c : Int) = (c : Int) := by rw [IntKind.wrap_i64]; omega
                      obtain ⟨s0, s1, s2⟩ := HSI.out wr HBX.out
                      obtain ⟨lvb, lvo, rfl, hlvb, l0⟩ := s2.int (i := c) hcl
                      have HC := Lib.hid (HLE.out wr (xs.getD c 0) HBX.out)
                      clear hd hc hodd s2 hlvb hcl
                      generalize xs.getD c 0 = lvl at *
                      generalize hxn : xs.length = xn at *
                      cases hle : leB N up lvl level with
                      | true =>
                        rw [hle] at HC HGV
                        clear hle
                        have HNX2 := Lib.hid (HNJ.out HGV.out)
                        go_wp2_with fail
                        go_quiet ((go_at_call 40; exact HC.out _))
                        go_wp2_with fail
                        go_roundw
                        case rel => exact ⟨j + 1, by omega, by go_num, HNX2, Lib.hid (HSM.out.drewN _)⟩
                        case measure => simp [intOf] <;> omega
                      | false =>
                        rw [hle] at HC HGV
                        clear hle
                        have HR := Lib.hid (HBJ.out HGV.out)
                        go_wp2_with fail
                        go_quiet ((go_at_call 40; exact HC.out _))
                        go_wp2_with fail
                        go_ret2
                        exact ⟨by rw [HR.out]; rfl, below_drewN HBX.out _⟩
                  · obtain rfl : j = lv := by omega
                    have HGO : Hid (okT L N up xs level (t : Int) = true) := Lib.hid (by
                      rw [HOK.out, List.all_eq_true]
                      intro x hx
                      obtain ⟨i, hi, rfl⟩ := List.getElem_of_mem hx
                      have := HAJ.out i (by rw [← HLV.out]; exact hi)
                      simpa [List.getD_eq_getElem?_getD, List.getElem?_eq_getElem hi] using this)
                    have HNA := Lib.hid (HNX.out (by first | exact trivial | rfl) HGO.out)
                    go_wp2_with fail
                    go_roundw
                    case rel => exact ⟨k + 1, by omega, by go_num, HNA, HBE6.out.trans (HSM.out.below _)⟩
                    case measure => simp [intOf] <;> omega
              · have HR := Lib.hid (HF3K.out (fun h => hev (by injection h with h1 h2; exact ⟨h1, h2⟩)))
                have hnq : ∀ W, (binOp .neq 83 (.agg #[.int .i64 V, .int .i64 T]) (.agg #[.int .i64 V', .int .i64 T'])).run Tryz.prog W = .ok (.bool true) W := fun W => (neq_sev V T V' T' W).trans (by
                  have : (V == V' && T == T') = false := by
                    rw [Bool.eq_false_iff]
                    intro h
                    simp only [Bool.and_eq_true, beq_iff_eq] at h
                    exact hev h
                  rw [this]; rfl)
                clear hev
                go_wp2_with fail
                go_quiet (fail)
                go_wp2_with fail
                go_ret2
                exact ⟨by rw [HR.out]; rfl, below_drewN HBV.out _⟩
            · obtain rfl : k = m := by omega
              have HR := Lib.hid (HF.out (fun j hj => HALL.out j (by rw [HMX.out] at hj; exact hj)))
              go_wp2_with fail
              go_ret2
              exact ⟨by rw [HR.out]; rfl, HBV.out⟩
        · have HR := Lib.hid (HF2.out hlen)
          have dl : ((X.length : Int) != (Y.length : Int)) = true := by simp; omega
          clear hlen
          generalize X.length = lx at *
          generalize Y.length = ly at *
          go_wp2_with fail
          go_ret2
          exact ⟨by rw [HR.out]; rfl, by first | exact HBW.out | exact below_drewN HBW.out _⟩

    · have HR := Lib.hid (HF1.out (fun h => hst h.1))
      have ds : (pst != qst) = true := by simpa using hst
      clear hst
      go_wp2_with fail
      go_ret2
      exact ⟨by rw [HR.out]; rfl, by first | exact HBW.out | exact below_drewN HBW.out _⟩
end Go.Proofs.YtcckmkidmelbnaaGreatDoor
