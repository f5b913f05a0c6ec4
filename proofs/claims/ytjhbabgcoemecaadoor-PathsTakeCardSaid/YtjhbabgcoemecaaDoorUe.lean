/- Traces in memory; walk: EqualTrace of traces that are the same. -/
import Derived.Test.YtjhbabgcoemecaaDoorUa
import Derived.Test.YtjhbabgcoemecaaDoorGb
namespace Go.Proofs.YtjhbabgcoemecaaDoor
open Go.RowKit

/-- a trace, and the error -/
structure TrN where
  st : Int
  sp : Int
  os : List (Int × Int)
  rs : List (Int × Int)
  bs : List Bool
  is : List Int
  code : Int
def TrAt (w : World) (t : TrN) (v : Value) : Prop := ∃ oa oc ra rc ba bc ia ic, v = .agg #[.int .u8 t.st, .int .i64 t.sp, .slice oa t.os.length oc, .slice ra t.rs.length rc, .slice ba t.bs.length bc, .slice ia t.is.length ic] ∧
  Lay.ev.At (0, 0) w oa t.os ∧ Lay.ev.At (0, 0) w ra t.rs ∧ Lay.bool.At false w ba t.bs ∧ (Lay.int .i64).At 0 w ia t.is
theorem TrAt.below {w w' : World} {t : TrN} {v : Value} (h : TrAt w t v) (hb : Below w.heap.size w w') : TrAt w' t v := by
  obtain ⟨oa, oc, ra, rc, ba, bc, ia, ic, e, h1, h2, h3, h4⟩ := h
  exact ⟨oa, oc, ra, rc, ba, bc, ia, ic, e, h1.below hb, h2.below hb, h3.below hb, h4.below hb⟩

theorem two_boxes {w w' : World} {x y : Array Value} {t : TypeId} (hb : Below (w.heap.size + 2) ((w.alloc (.cells x t)).alloc (.cells y t)) w') : (∀ k, w'.cell? ⟨w.heap.size, k, none⟩ = x[k]?) ∧ (∀ k, w'.cell? ⟨w.heap.size + 1, k, none⟩ = y[k]?) := by
  have hz : (w.alloc (.cells x t)).heap.size = w.heap.size + 1 := by simp
  refine ⟨fun k => ?_, fun k => ?_⟩
  · rw [hb.cell (p := ⟨w.heap.size, k, none⟩) (by show w.heap.size < _; omega), World.cell?_alloc_past _ _ _ (by simp), World.cell?_alloc_new]
  · rw [hb.cell (p := ⟨w.heap.size + 1, k, none⟩) (by show w.heap.size + 1 < _; omega)]
    have := World.cell?_alloc_new (w.alloc (.cells x t)) y t k
    rw [hz] at this
    rw [this]

set_option maxRecDepth 100000 in
set_option maxHeartbeats 4000000 in
theorem same34 {w : World} {t : TrN} {v1 v2 : Value} (h1 : TrAt w t v1) (h2 : TrAt w t v2) (l1 : t.os.length ≤ 1000) (l2 : t.rs.length ≤ 1000) (l3 : t.bs.length ≤ 1000) (l4 : t.is.length ≤ 1000) :
    Calls Tryd.prog 34 #[v1, v2] w fun e w' => e = .returned (.bool true) ∧ Below w.heap.size w w' := by
  obtain ⟨oa, oc, ra, rc, ba, bc, ia, ic, rfl, o1, r1, b1, i1⟩ := h1
  obtain ⟨oa', oc', ra', rc', ba', bc', ia', ic', rfl, o2, r2, b2, i2⟩ := h2
  have sb : ∀ {w' w'' : World}, Same w' w'' → Below w'.heap.size w' w'' := fun h => by obtain ⟨m, rfl⟩ := h; exact ⟨rfl, rfl, rfl, Nat.le_refl _, fun _ _ => rfl⟩
  have HO : Hid (∀ w', Below w.heap.size w w' → Calls Tryd.prog 63 #[.slice oa t.os.length oc, .slice oa' t.os.length oc'] w' fun e w'' => e = .returned (.bool true) ∧ Below w'.heap.size w' w'') := Lib.hid fun w' hb =>
    (same63 oa oa' _ oc oc' t.os w' rfl (o1.below hb) (o2.below hb) l1).mono fun e w'' h => ⟨h.1, sb h.2⟩
  have HR : Hid (∀ w', Below w.heap.size w w' → Calls Tryd.prog 63 #[.slice ra t.rs.length rc, .slice ra' t.rs.length rc'] w' fun e w'' => e = .returned (.bool true) ∧ Below w'.heap.size w' w'') := Lib.hid fun w' hb =>
    (same63 ra ra' _ rc rc' t.rs w' rfl (r1.below hb) (r2.below hb) l2).mono fun e w'' h => ⟨h.1, sb h.2⟩
  have HB : Hid (∀ w', Below w.heap.size w w' → Calls Tryd.prog 44 #[.slice ba t.bs.length bc, .slice ba' t.bs.length bc'] w' fun e w'' => e = .returned (.bool true) ∧ Below w'.heap.size w' w'') := Lib.hid fun w' hb =>
    (same44 ba ba' _ bc bc' t.bs w' rfl (b1.below hb) (b2.below hb) l3).mono fun e w'' h => ⟨h.1, sb h.2⟩
  have HI : Hid (∀ w', Below w.heap.size w w' → Calls Tryd.prog 45 #[.slice ia t.is.length ic, .slice ia' t.is.length ic'] w' fun e w'' => e = .returned (.bool true) ∧ Below w'.heap.size w' w'') := Lib.hid fun w' hb =>
    (eqI_any ia ia' _ _ ic ic' t.is t.is w' rfl rfl (i1.below hb) (i2.below hb) (by omega)).mono fun e w'' h => ⟨by rw [h.1]; unfold eqU; rw [decide_eq_true rfl], sb h.2⟩
  obtain ⟨st, sp, os, rs, bs, is, cd⟩ := t
  simp only at HO HR HB HI
  clear o1 r1 b1 i1 o2 r2 b2 i2 l1 l2 l3 l4 sb
  generalize os.length = lo at *
  generalize rs.length = lr at *
  generalize bs.length = lb at *
  generalize is.length = li at *
  simp only
  have HBA : Hid (Below w.heap.size w ((w.alloc (.cells #[.int .u8 st, .int .i64 sp, .slice oa lo oc, .slice ra lr rc, .slice ba lb bc, .slice ia li ic] 46)).alloc (.cells #[.int .u8 st, .int .i64 sp, .slice oa' lo oc', .slice ra' lr rc', .slice ba' lb bc', .slice ia' li ic'] 46))) := Lib.hid (((Below.refl _ _).alloc (Nat.le_refl _) _).alloc (by simp) _)
  have hz : ((w.alloc (.cells #[.int .u8 st, .int .i64 sp, .slice oa lo oc, .slice ra lr rc, .slice ba lb bc, .slice ia li ic] 46)).alloc (.cells #[.int .u8 st, .int .i64 sp, .slice oa' lo oc', .slice ra' lr rc', .slice ba' lb bc', .slice ia' li ic'] 46)).heap.size = w.heap.size + 2 := by simp
  have HCE : Hid (∀ w', Below (w.heap.size + 2) ((w.alloc (.cells #[.int .u8 st, .int .i64 sp, .slice oa lo oc, .slice ra lr rc, .slice ba lb bc, .slice ia li ic] 46)).alloc (.cells #[.int .u8 st, .int .i64 sp, .slice oa' lo oc', .slice ra' lr rc', .slice ba' lb bc', .slice ia' li ic'] 46)) w' →
      (w'.cell? ⟨w.heap.size, 3, none⟩ = some (.slice ra lr rc) ∧ w'.cell? ⟨w.heap.size, 4, none⟩ = some (.slice ba lb bc) ∧ w'.cell? ⟨w.heap.size, 5, none⟩ = some (.slice ia li ic)) ∧
      (w'.cell? ⟨w.heap.size + 1, 3, none⟩ = some (.slice ra' lr rc') ∧ w'.cell? ⟨w.heap.size + 1, 4, none⟩ = some (.slice ba' lb bc') ∧ w'.cell? ⟨w.heap.size + 1, 5, none⟩ = some (.slice ia' li ic'))) := Lib.hid fun w' hb => by
    obtain ⟨q, q'⟩ := two_boxes hb
    exact ⟨⟨q 3, q 4, q 5⟩, q' 3, q' 4, q' 5⟩
  go_enter Tryd.func34, Tryd.ntmps34
  go_wp2_with (first
    | (go_at_call 63
       refine (HR.out _ KW.out).mono ?_
       rintro e wC ⟨rfl, hC⟩
       have KC := Lib.hid (KB.out.trans (hC.mono (by have := KB.out.size; omega)))
       obtain ⟨⟨g1, g2, g3⟩, g4, g5, g6⟩ := HCE.out _ KC.out
       have KX := Lib.hid (KW.out.trans (hC.mono KW.out.size))
       clear hC)
    | (go_at_call 63
       refine (HO.out _ HBA.out).mono ?_
       rintro e wB ⟨rfl, hB⟩
       have KB := Lib.hid (hB.mono (Nat.le_of_eq hz.symm))
       obtain ⟨⟨g1, g2, g3⟩, g4, g5, g6⟩ := HCE.out _ KB.out
       have KW := Lib.hid (HBA.out.trans (hB.mono HBA.out.size))
       clear hB)
    | (go_at_call 44
       refine (HB.out _ KX.out).mono ?_
       rintro e wD ⟨rfl, hD⟩
       have KD := Lib.hid (KC.out.trans (hD.mono (by have := KC.out.size; omega)))
       obtain ⟨⟨g1, g2, g3⟩, g4, g5, g6⟩ := HCE.out _ KD.out
       have KY := Lib.hid (KX.out.trans (hD.mono KX.out.size))
       clear hD)
    | (go_at_call 45
       refine (HI.out _ KY.out).mono ?_
       rintro e wE ⟨rfl, hE⟩
       have KZ := Lib.hid (KY.out.trans (hE.mono KY.out.size))
       clear hE))
  go_ret
  exact ⟨rfl, KZ.out⟩
end Go.Proofs.YtjhbabgcoemecaaDoor
