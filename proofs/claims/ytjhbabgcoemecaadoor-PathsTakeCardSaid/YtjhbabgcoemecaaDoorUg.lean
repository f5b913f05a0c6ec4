/- A result that lies in a block of six cells; walk: Trace of the reference. -/
import Derived.Test.YtjhbabgcoemecaaDoorUc
import Derived.Test.YtjhbabgcoemecaaDoorUe
import Derived.Test.YtjhbabgcoemecaaDoorUf
import Derived.Handy
namespace Go.Proofs.YtjhbabgcoemecaaDoor
open Go.RowKit

/-- a block B of six cells that may be written; all else is as it was -/
structure ResB (wX : World) (B : Nat) (w' : World) : Prop where
  mu : Mut (fun k => k = B) wX w'
  lt : B < w'.heap.size
  cells : ∀ k, k < 6 → ∃ u, w'.cell? ⟨B, k, none⟩ = some u ∧ w'.frozen? ⟨B, k, none⟩ = false
section
variable {wX w' w'' : World} {B : Nat}
theorem ResB.below (h : ResB wX B w') (hb : Below w'.heap.size w' w'') : ResB wX B w'' :=
  ⟨h.mu.trans (Mut.of_below hb), Nat.lt_of_lt_of_le h.lt hb.size, fun k hk => by
    obtain ⟨u, h1, h2⟩ := h.cells k hk
    exact ⟨u, (hb.cell (p := ⟨B, k, none⟩) h.lt).trans h1, (hb.frozen (p := ⟨B, k, none⟩) h.lt).trans h2⟩⟩
theorem ResB.drew (h : ResB wX B w') : ResB wX B w'.drew := h.below (Below.refl _ _).drew
theorem ResB.new (h : ResB wX B w') : ResB w' B w' := ⟨Mut.of_below (Below.refl _ _), h.lt, h.cells⟩
theorem mut_set (w : World) (B j : Nat) (v : Value) : Mut (fun k => k = B) w (w.setCell ⟨B, j, none⟩ v) := by
  have hb := (Below.refl B w).setCell (p := ⟨B, j, none⟩) (Nat.le_refl _) v
  exact ⟨hb.os, hb.tape, hb.output, hb.size, fun k _ hk => by simp [World.setCell, Array.getElem?_modify, Ne.symm hk]⟩
theorem ResB.set (h : ResB wX B w') (j : Nat) (v : Value) : ResB wX B (w'.setCell ⟨B, j, none⟩ v) :=
  ⟨h.mu.trans (mut_set w' B j v), by simpa using h.lt, fun k hk => by
    obtain ⟨u, h1, h2⟩ := h.cells k hk
    obtain ⟨u', h3⟩ := cell?_setCell_some (p := ⟨B, j, none⟩) (x := v) h1
    exact ⟨u', h3, by simp [h2]⟩⟩
theorem ResB.low (h : ResB wX B w') (hB : B ≤ wX.heap.size) : Below B wX w' := h.mu.below (fun _ hk => Nat.le_of_eq hk.symm) hB
theorem ResB.at_ (h : ResB wX B w') {α : Type} {L : Lay α} {d : α} {a : Option Addr} {xs : List α} (ha : L.At d wX a xs) (hne : ∀ ad, a = some ad → B < ad.block) : L.At d w' a xs :=
  At.keep ha h.mu.size fun ad e hl => h.mu.block _ hl (by have := hne ad e; omega)
theorem ResB.cell (h : ResB wX B w') {k j : Nat} {v : Value} (hc : wX.cell? ⟨k, j, none⟩ = some v) (hk : k < wX.heap.size) (hne : k ≠ B) : w'.cell? ⟨k, j, none⟩ = some v :=
  (World.cell?_of_block (a := ⟨k, j, none⟩) (h.mu.block k hk hne)).trans hc
def sixW (w' : World) (B : Nat) (x0 x1 x2 x3 x4 x5 : Value) : World := (((((w'.setCell ⟨B, 0, none⟩ x0).setCell ⟨B, 1, none⟩ x1).setCell ⟨B, 2, none⟩ x2).setCell ⟨B, 3, none⟩ x3).setCell ⟨B, 4, none⟩ x4).setCell ⟨B, 5, none⟩ x5
theorem ResB.six (h : ResB wX B w') (x0 x1 x2 x3 x4 x5 : Value) : ResB wX B (sixW w' B x0 x1 x2 x3 x4 x5) := (((((h.set 0 x0).set 1 x1).set 2 x2).set 3 x3).set 4 x4).set 5 x5
theorem ResB.got (h : ResB wX B w') (x0 x1 x2 x3 x4 x5 : Value) : (sixW w' B x0 x1 x2 x3 x4 x5).cell? ⟨B, 0, none⟩ = some x0 ∧ (sixW w' B x0 x1 x2 x3 x4 x5).cell? ⟨B, 1, none⟩ = some x1 ∧ (sixW w' B x0 x1 x2 x3 x4 x5).cell? ⟨B, 2, none⟩ = some x2 ∧ (sixW w' B x0 x1 x2 x3 x4 x5).cell? ⟨B, 3, none⟩ = some x3 ∧ (sixW w' B x0 x1 x2 x3 x4 x5).cell? ⟨B, 4, none⟩ = some x4 ∧ (sixW w' B x0 x1 x2 x3 x4 x5).cell? ⟨B, 5, none⟩ = some x5 := by
  have o : ∀ (w : World) (i j : Nat) (v : Value), i ≠ j → (w.setCell ⟨B, i, none⟩ v).cell? ⟨B, j, none⟩ = w.cell? ⟨B, j, none⟩ := fun w i j v hij => World.cell?_setCell_other _ _ _ _ (fun e => hij (by injection e))
  have g : ∀ k, k < 6 → ∃ u, w'.cell? ⟨B, k, none⟩ = some u := fun k hk => by obtain ⟨u, h1, _⟩ := h.cells k hk; exact ⟨u, h1⟩
  obtain ⟨u0, g0⟩ := g 0 (by decide)
  obtain ⟨u1, g1⟩ := g 1 (by decide)
  obtain ⟨u2, g2⟩ := g 2 (by decide)
  obtain ⟨u3, g3⟩ := g 3 (by decide)
  obtain ⟨u4, g4⟩ := g 4 (by decide)
  obtain ⟨u5, g5⟩ := g 5 (by decide)
  unfold sixW
  refine ⟨?_, ?_, ?_, ?_, ?_, ?_⟩
  · rw [o _ 5 0 _ (by decide), o _ 4 0 _ (by decide), o _ 3 0 _ (by decide), o _ 2 0 _ (by decide), o _ 1 0 _ (by decide)]
    exact World.cell?_setCell_same _ _ _ g0
  · rw [o _ 5 1 _ (by decide), o _ 4 1 _ (by decide), o _ 3 1 _ (by decide), o _ 2 1 _ (by decide)]
    exact World.cell?_setCell_same _ _ _ (by rw [o _ 0 1 _ (by decide)]; exact g1)
  · rw [o _ 5 2 _ (by decide), o _ 4 2 _ (by decide), o _ 3 2 _ (by decide)]
    exact World.cell?_setCell_same _ _ _ (by rw [o _ 1 2 _ (by decide), o _ 0 2 _ (by decide)]; exact g2)
  · rw [o _ 5 3 _ (by decide), o _ 4 3 _ (by decide)]
    exact World.cell?_setCell_same _ _ _ (by rw [o _ 2 3 _ (by decide), o _ 1 3 _ (by decide), o _ 0 3 _ (by decide)]; exact g3)
  · rw [o _ 5 4 _ (by decide)]
    exact World.cell?_setCell_same _ _ _ (by rw [o _ 3 4 _ (by decide), o _ 2 4 _ (by decide), o _ 1 4 _ (by decide), o _ 0 4 _ (by decide)]; exact g4)
  · exact World.cell?_setCell_same _ _ _ (by rw [o _ 4 5 _ (by decide), o _ 3 5 _ (by decide), o _ 2 5 _ (by decide), o _ 1 5 _ (by decide), o _ 0 5 _ (by decide)]; exact g5)
end

theorem sixW_eq (w' : World) (B : Nat) (x0 x1 x2 x3 x4 x5 : Value) : (((((w'.setCell ⟨B, 0, none⟩ x0).setCell ⟨B, 1, none⟩ x1).setCell ⟨B, 2, none⟩ x2).setCell ⟨B, 3, none⟩ x3).setCell ⟨B, 4, none⟩ x4).setCell ⟨B, 5, none⟩ x5 = sixW w' B x0 x1 x2 x3 x4 x5 := rfl
/-- two new blocks, the second one of six cells -/
theorem two_boxes2 (w : World) (x y : Array Value) (t u : TypeId) (hy : y.size = 6) : (∀ k, ((w.alloc (.cells x t)).alloc (.cells y u)).cell? ⟨w.heap.size, k, none⟩ = x[k]?) ∧ ResB ((w.alloc (.cells x t)).alloc (.cells y u)) (w.heap.size + 1) ((w.alloc (.cells x t)).alloc (.cells y u)) := by
  have hz : (w.alloc (.cells x t)).heap.size = w.heap.size + 1 := by simp
  refine ⟨fun k => ?_, Mut.of_below (Below.refl _ _), by simp, fun k hk => ?_⟩
  · rw [World.cell?_alloc_past _ _ _ (by simp), World.cell?_alloc_new]
  · have h1 := World.cell?_alloc_new (w.alloc (.cells x t)) y u k
    rw [hz, Array.getElem?_eq_getElem (by omega)] at h1
    refine ⟨_, h1, ?_⟩
    have := World.frozen?_alloc_new (w.alloc (.cells x t)) y u k
    rw [hz] at this
    exact this
/-- what Trace answers -/
def traceN (n : Nat) (V : List Nat) (p : PathN) : TrN :=
  if ((p.os.all fun x => inG n x.2) && (p.rs.all fun x => inG n x.2)) = true then ⟨p.st, p.sp, evs V p.os, evs V p.rs, p.bs, p.is, 0⟩ else ⟨0, 0, [], [], [], [], 3⟩
def TrP (w : World) (t : TrN) (e : Ending) (w' : World) : Prop := ∃ v, e = .returned (.tuple #[v, .int .i64 t.code]) ∧ TrAt w' t v ∧ Below w.heap.size w w'

set_option maxRecDepth 100000 in
set_option maxHeartbeats 4000000 in
theorem trace33 {w : World} {r W : Nat} {L : List Nd} (h : RV w r W L) (h1 : 1 ≤ W) (h2 : W ≤ 64) (hL : L.length ≤ 60) (vals : List Nat) {b : Option Addr} {l d : Nat} (hlen : vals.length = l) (hvl : l ≤ 100) (hatv : (Lay.int .u64).At 0 w b (intsN vals)) (hsm : ∀ v ∈ vals, v < 18446744073709551616)
    (p : PathN) (hok : p.Ok w) (hsh : p.short) : Calls Tryd.prog 33 #[.pointer (some ⟨r, 0, none⟩), p.v, .slice b l d] w (TrP w (traceN L.length (valuesN W vals L) p)) := by
  have HEV : Hid (∀ w', Below w.heap.size w w' → ∀ (xs : List (Int × Int)) (a : Option Addr) (c : Nat), xs.length ≤ 12 → Lay.sev.At (0, 0) w' a xs → Calls Tryd.prog 60 #[.pointer (some ⟨r, 0, none⟩), .slice a xs.length c, .slice b l d] w' fun e w'' => ((∀ x ∈ xs, inG L.length x.2 = true) → ∃ v, e = .returned (.tuple #[v, .int .i64 0]) ∧ Lay.ev.Own 80 w'' w'.heap.size v (evs (valuesN W vals L) xs)) ∧ ((¬ ∀ x ∈ xs, inG L.length x.2 = true) → e = .returned (.tuple #[.slice none 0 0, .int .i64 3])) ∧ Below w'.heap.size w' w'') :=
    Lib.hid fun w' hb xs a c hx ha => events60 (h.below hb) h1 h2 hL vals hlen hvl (hatv.below hb) hsm xs rfl (by omega) ha
  obtain ⟨ca, cc, cs, st, sp, oa, oc, os, ra, rc, rs, ba, bc, bs, ia, ic, is⟩ := p
  have HT : Hid (traceN L.length (valuesN W vals L) ⟨ca, cc, cs, st, sp, oa, oc, os, ra, rc, rs, ba, bc, bs, ia, ic, is⟩ = if ((os.all fun x => inG L.length x.2) && (rs.all fun x => inG L.length x.2)) = true then ⟨st, sp, evs (valuesN W vals L) os, evs (valuesN W vals L) rs, bs, is, 0⟩ else ⟨0, 0, [], [], [], [], 3⟩) := Lib.hid rfl
  have HOK := Lib.hid hok
  have HSH := Lib.hid hsh
  clear h hatv hsm hok hsh hlen hvl
  generalize traceN L.length (valuesN W vals L) ⟨ca, cc, cs, st, sp, oa, oc, os, ra, rc, rs, ba, bc, bs, ia, ic, is⟩ = t at *
  generalize valuesN W vals L = V at *
  generalize L.length = n at *
  simp only [PathN.v]
  have HB2 : Hid (Below w.heap.size w ((w.alloc (.cells #[.slice ca cs.length cc, .int .u8 st, .int .i64 sp, .slice oa os.length oc, .slice ra rs.length rc, .slice ba bs.length bc, .slice ia is.length ic] 43)).alloc (.cells #[.int .u8 0, .int .i64 0, .slice none 0 0, .slice none 0 0, .slice none 0 0, .slice none 0 0] 46))) := Lib.hid (((Below.refl _ _).alloc (Nat.le_refl _) _).alloc (by simp) _)
  obtain ⟨k1, k2⟩ := two_boxes2 w #[.slice ca cs.length cc, .int .u8 st, .int .i64 sp, .slice oa os.length oc, .slice ra rs.length rc, .slice ba bs.length bc, .slice ia is.length ic] #[.int .u8 0, .int .i64 0, .slice none 0 0, .slice none 0 0, .slice none 0 0, .slice none 0 0] 43 46 rfl
  have K1 := Lib.hid k1
  have K2 := Lib.hid k2
  clear k1 k2
  by_cases ho : ∀ x ∈ os, inG n x.2 = true
  · have HO : Hid (∀ w', Below w.heap.size w w' → Calls Tryd.prog 60 #[.pointer (some ⟨r, 0, none⟩), .slice oa os.length oc, .slice b l d] w' fun e w'' => ∃ v, e = .returned (.tuple #[v, .int .i64 0]) ∧ Lay.ev.Own 80 w'' w'.heap.size v (evs V os) ∧ Below w'.heap.size w' w'') := Lib.hid fun w' hb =>
      (HEV.out w' hb os oa oc HSH.out.2.1 (HOK.out.below hb).o).mono fun e w'' h => by obtain ⟨v, e1, e2⟩ := h.1 ho; exact ⟨v, e1, e2, h.2.2⟩
    by_cases hr : ∀ x ∈ rs, inG n x.2 = true
    · have HR : Hid (∀ w', Below w.heap.size w w' → Calls Tryd.prog 60 #[.pointer (some ⟨r, 0, none⟩), .slice ra rs.length rc, .slice b l d] w' fun e w'' => ∃ v, e = .returned (.tuple #[v, .int .i64 0]) ∧ Lay.ev.Own 80 w'' w'.heap.size v (evs V rs) ∧ Below w'.heap.size w' w'') := Lib.hid fun w' hb =>
        (HEV.out w' hb rs ra rc HSH.out.2.2.1 (HOK.out.below hb).r).mono fun e w'' h => by obtain ⟨v, e1, e2⟩ := h.1 hr; exact ⟨v, e1, e2, h.2.2⟩
      rw [if_pos (by rw [List.all_eq_true.2 ho, List.all_eq_true.2 hr]; rfl)] at HT
      obtain rfl := HT.out
      clear HEV HT
      have HLO : Hid ((evs V os).length = os.length) := Lib.hid (List.length_map _)
      have HLR : Hid ((evs V rs).length = rs.length) := Lib.hid (List.length_map _)
      generalize evs V os = EO at *
      generalize evs V rs = ER at *
      have hzA : ((w.alloc (.cells #[.slice ca cs.length cc, .int .u8 st, .int .i64 sp, .slice oa os.length oc, .slice ra rs.length rc, .slice ba bs.length bc, .slice ia is.length ic] 43)).alloc (.cells #[.int .u8 0, .int .i64 0, .slice none 0 0, .slice none 0 0, .slice none 0 0, .slice none 0 0] 46)).heap.size = w.heap.size + 2 := by simp
      go_enter Tryd.func33, Tryd.ntmps33
      go_wp2_with (first
        | (go_at_call 60
           refine (HR.out _ KW.out).mono ?_
           rintro e wC ⟨v, rfl, hov, hB⟩
           obtain ⟨av2, cv2, e5, hav2, hbv2⟩ := hov.atBase (d := (0, 0))
           rw [HLR.out] at e5
           subst e5
           have HR2 := Lib.hid hav2
           have HRN : Hid (∀ ad, av2 = some ad → w.heap.size + 1 < ad.block) := Lib.hid fun ad e => Nat.lt_of_lt_of_le KR.out.lt (hbv2 ad e)
           have HO2 := Lib.hid (HOA.out.below hB)
           have KX := Lib.hid (KW.out.trans (hB.mono KW.out.size))
           have KS := Lib.hid (KR.out.below hB).new
           have hzC := hB.size
           have c1 := (hB.cell (p := ⟨w.heap.size, 1, none⟩) (by show w.heap.size < _; have := KR.out.lt; omega)).trans d1
           have c2 := (hB.cell (p := ⟨w.heap.size, 2, none⟩) (by show w.heap.size < _; have := KR.out.lt; omega)).trans d2
           have c5 := (hB.cell (p := ⟨w.heap.size, 5, none⟩) (by show w.heap.size < _; have := KR.out.lt; omega)).trans d5
           have c6 := (hB.cell (p := ⟨w.heap.size, 6, none⟩) (by show w.heap.size < _; have := KR.out.lt; omega)).trans d6
           clear hov hav2 hbv2 hB d1 d2 d4 d5 d6)
        | (go_at_call 60
           refine (HO.out _ HB2.out).mono ?_
           rintro e wB ⟨v, rfl, hov, hB⟩
           obtain ⟨av, cv, e5, hav, hbv⟩ := hov.atBase (d := (0, 0))
           rw [HLO.out] at e5
           subst e5
           have HOA := Lib.hid hav
           have HON : Hid (∀ ad, av = some ad → w.heap.size + 1 < ad.block) := Lib.hid fun ad e => by have := hbv ad e; omega
           have KW := Lib.hid (HB2.out.trans (hB.mono HB2.out.size))
           have KR := Lib.hid (K2.out.below hB)
           have d1 := (hB.cell (p := ⟨w.heap.size, 1, none⟩) (by show w.heap.size < _; omega)).trans (K1.out 1)
           have d2 := (hB.cell (p := ⟨w.heap.size, 2, none⟩) (by show w.heap.size < _; omega)).trans (K1.out 2)
           have d4 := (hB.cell (p := ⟨w.heap.size, 4, none⟩) (by show w.heap.size < _; omega)).trans (K1.out 4)
           have d5 := (hB.cell (p := ⟨w.heap.size, 5, none⟩) (by show w.heap.size < _; omega)).trans (K1.out 5)
           have d6 := (hB.cell (p := ⟨w.heap.size, 6, none⟩) (by show w.heap.size < _; omega)).trans (K1.out 6)
           simp at d1 d2 d4 d5 d6
           clear hov hav hbv hB))
      have HLE : Hid (∀ w', ResB wC (w.heap.size + 1) w' → Below w.heap.size w w') := Lib.hid fun w' h => KX.out.trans ((h.low (Nat.le_of_lt KS.out.lt)).mono (by omega))
      have HCB : Hid (∀ w', ResB wC (w.heap.size + 1) w' → Calls Tryd.prog 61 #[.slice ba bs.length bc] w' fun e w'' => ∃ v, e = .returned v ∧ Lay.bool.Own 4 w'' w'.heap.size v bs ∧ Below w'.heap.size w' w'') := Lib.hid fun w' h =>
        copyB61 ba _ bc bs w' rfl (HOK.out.b.below (HLE.out w' h)) (by have := HSH.out.2.2.2.1; simp only at this; omega)
      have HCI : Hid (∀ w', ResB wC (w.heap.size + 1) w' → Calls Tryd.prog 62 #[.slice ia is.length ic] w' fun e w'' => ∃ v, e = .returned v ∧ (Lay.int .i64).Own 3 w'' w'.heap.size v is ∧ Below w'.heap.size w' w'') := Lib.hid fun w' h =>
        copyI62 ia _ ic is w' rfl (HOK.out.i.below (HLE.out w' h)) (by have := HSH.out.2.2.2.2; simp only at this; omega)
      have HS : Hid (∀ w', ResB wC (w.heap.size + 1) w' → w'.cell? ⟨w.heap.size, 1, none⟩ = some (.int .u8 st) ∧ w'.cell? ⟨w.heap.size, 2, none⟩ = some (.int .i64 sp) ∧ w'.cell? ⟨w.heap.size, 5, none⟩ = some (.slice ba bs.length bc) ∧ w'.cell? ⟨w.heap.size, 6, none⟩ = some (.slice ia is.length ic) ∧ ResB wC (w.heap.size + 1) w') := Lib.hid fun w' h => by
        have hl := KS.out.lt
        exact ⟨h.cell c1 (by omega) (by omega), h.cell c2 (by omega) (by omega), h.cell c5 (by omega) (by omega), h.cell c6 (by omega) (by omega), h⟩
      clear c1 c2 c5 c6
      go_region_held3 (fun w' => w'.cell? ⟨w.heap.size, 1, none⟩ = some (.int .u8 st) ∧ w'.cell? ⟨w.heap.size, 2, none⟩ = some (.int .i64 sp) ∧ w'.cell? ⟨w.heap.size, 5, none⟩ = some (.slice ba bs.length bc) ∧ w'.cell? ⟨w.heap.size, 6, none⟩ = some (.slice ia is.length ic) ∧ ResB wC (w.heap.size + 1) w')
        (first | (rw [sixW_eq]; refine HS.out _ ?_; exact KE.out.six _ _ _ _ _ _) | (refine HS.out _ ?_; first | exact KS.out | exact KS.out.drew | exact KE.out | exact KE.out.drew | exact KD.out | exact KD.out.drew | exact (‹_ ∧ _ ∧ _ ∧ _ ∧ ResB _ _ _›).2.2.2.2 | exact (‹_ ∧ _ ∧ _ ∧ _ ∧ ResB _ _ _›).2.2.2.2.drew))
        (first
          | (go_at_call 61
             refine (HCB.out _ (‹_ ∧ _ ∧ _ ∧ _ ∧ ResB _ _ _›).2.2.2.2).mono ?_
             rintro e wD ⟨v, rfl, hov, hB⟩
             obtain ⟨av3, cv3, e5, hav3, hbv3⟩ := hov.atBase (d := false)
             subst e5
             have HB3 := Lib.hid hav3
             have HBN : Hid (∀ ad, av3 = some ad → w.heap.size + 1 < ad.block) := Lib.hid fun ad e => Nat.lt_of_lt_of_le (‹_ ∧ _ ∧ _ ∧ _ ∧ ResB _ _ _›).2.2.2.2.lt (hbv3 ad e)
             have KD := Lib.hid ((‹_ ∧ _ ∧ _ ∧ _ ∧ ResB _ _ _›).2.2.2.2.below hB)
             clear hov hav3 hbv3 hB)
          | (go_at_call 62
             refine (HCI.out _ (‹_ ∧ _ ∧ _ ∧ _ ∧ ResB _ _ _›).2.2.2.2).mono ?_
             rintro e wE ⟨v, rfl, hov, hB⟩
             obtain ⟨av4, cv4, e5, hav4, hbv4⟩ := hov.atBase (d := 0)
             subst e5
             have HI4 := Lib.hid hav4
             have HIN : Hid (∀ ad, av4 = some ad → w.heap.size + 1 < ad.block) := Lib.hid fun ad e => Nat.lt_of_lt_of_le (‹_ ∧ _ ∧ _ ∧ _ ∧ ResB _ _ _›).2.2.2.2.lt (hbv4 ad e)
             have KE := Lib.hid ((‹_ ∧ _ ∧ _ ∧ _ ∧ ResB _ _ _›).2.2.2.2.below hB)
             have HB4 : Hid (Lay.bool.At false wE av3 bs) := Lib.hid (by first | exact HB3.out.below hB | exact HB3.out.below ((Below.refl _ _).drew.trans hB))
             obtain ⟨u0, g0, f0⟩ := KE.out.cells 0 (by decide)
             obtain ⟨u1, g1, f1⟩ := KE.out.cells 1 (by decide)
             obtain ⟨u2, g2, f2⟩ := KE.out.cells 2 (by decide)
             obtain ⟨u3, g3, f3⟩ := KE.out.cells 3 (by decide)
             obtain ⟨u4, g4, f4⟩ := KE.out.cells 4 (by decide)
             obtain ⟨u5, g5, f5⟩ := KE.out.cells 5 (by decide)
             clear hov hav4 hbv4 hB))
      all_goals
        rw [sixW_eq]
        obtain ⟨q0, q1, q2, q3, q4, q5⟩ := KE.out.got (.int .u8 st) (.int .i64 sp) (.slice av os.length cv) (.slice av2 rs.length cv2) (.slice av3 bs.length cv3) (.slice av4 is.length cv4)
        have KQ := Lib.hid (KE.out.six (.int .u8 st) (.int .i64 sp) (.slice av os.length cv) (.slice av2 rs.length cv2) (.slice av3 bs.length cv3) (.slice av4 is.length cv4))
        have KN := Lib.hid (KE.out.new.six (.int .u8 st) (.int .i64 sp) (.slice av os.length cv) (.slice av2 rs.length cv2) (.slice av3 bs.length cv3) (.slice av4 is.length cv4))
        simp only [Exit.then]
        apply ‹∀ (a : Act) (w' : World), Code.wp Tryd.prog Code.ret _ a w' → _›
        refine wp_ret ?_
        refine bodyPost_ret (by simp [results, Tryd.results33, go_sem, q0, q1, q2, q3, q4, q5, Result.andThen]; try rfl) rfl ?_
        refine ⟨_, rfl, ⟨av, cv, av2, cv2, av3, cv3, av4, cv4, by simp only [HLO.out, HLR.out], KQ.out.at_ HO2.out HON.out, KQ.out.at_ HR2.out HRN.out, KN.out.at_ HB4.out HBN.out, KN.out.at_ HI4.out HIN.out⟩, HLE.out _ KQ.out⟩
    · have HR : Hid (∀ w', Below w.heap.size w w' → Calls Tryd.prog 60 #[.pointer (some ⟨r, 0, none⟩), .slice ra rs.length rc, .slice b l d] w' fun e w'' => e = .returned (.tuple #[.slice none 0 0, .int .i64 3]) ∧ Below w'.heap.size w' w'') := Lib.hid fun w' hb =>
        (HEV.out w' hb rs ra rc HSH.out.2.2.1 (HOK.out.below hb).r).mono fun e w'' h => ⟨h.2.1 hr, h.2.2⟩
      rw [if_neg (by rw [show (rs.all fun x => inG n x.2) = false from Bool.eq_false_iff.2 fun e => hr (List.all_eq_true.1 e)]; simp)] at HT
      obtain rfl := HT.out
      have hzA : ((w.alloc (.cells #[.slice ca cs.length cc, .int .u8 st, .int .i64 sp, .slice oa os.length oc, .slice ra rs.length rc, .slice ba bs.length bc, .slice ia is.length ic] 43)).alloc (.cells #[.int .u8 0, .int .i64 0, .slice none 0 0, .slice none 0 0, .slice none 0 0, .slice none 0 0] 46)).heap.size = w.heap.size + 2 := by simp
      go_enter Tryd.func33, Tryd.ntmps33
      go_wp2_with (first
        | (go_at_call 60
           refine (HR.out _ KW.out).mono ?_
           rintro e wC ⟨rfl, hB⟩
           have KB := Lib.hid (KW.out.trans (hB.mono KW.out.size))
           have KR := Lib.hid (KR0.out.below hB)
           obtain ⟨u0, g0, f0⟩ := KR.out.cells 0 (by decide)
           obtain ⟨u1, g1, f1⟩ := KR.out.cells 1 (by decide)
           obtain ⟨u2, g2, f2⟩ := KR.out.cells 2 (by decide)
           obtain ⟨u3, g3, f3⟩ := KR.out.cells 3 (by decide)
           obtain ⟨u4, g4, f4⟩ := KR.out.cells 4 (by decide)
           obtain ⟨u5, g5, f5⟩ := KR.out.cells 5 (by decide)
           clear hB)
        | (go_at_call 60
           refine (HO.out _ HB2.out).mono ?_
           rintro e wB ⟨v, rfl, hov, hB⟩
           have KW := Lib.hid (HB2.out.trans (hB.mono HB2.out.size))
           have KR0 := Lib.hid (K2.out.below hB)
           have d4 := (hB.cell (p := ⟨w.heap.size, 4, none⟩) (by show w.heap.size < _; omega)).trans (K1.out 4)
           simp at d4
           clear hov hB))
      (try simp only [Exit.inBlock, Exit.then])
      rw [sixW_eq]
      obtain ⟨q0, q1, q2, q3, q4, q5⟩ := KR.out.got (.int .u8 0) (.int .i64 0) (.slice none 0 0) (.slice none 0 0) (.slice none 0 0) (.slice none 0 0)
      have KQ := Lib.hid (KR.out.new.six (.int .u8 0) (.int .i64 0) (.slice none 0 0) (.slice none 0 0) (.slice none 0 0) (.slice none 0 0))
      refine bodyPost_ret (by simp [results, Tryd.results33, go_sem, q0, q1, q2, q3, q4, q5, Result.andThen]; try rfl) rfl ?_
      refine ⟨_, rfl, ⟨_, _, _, _, _, _, _, _, rfl, Lay.At.nil, Lay.At.nil, Lay.At.nil, Lay.At.nil⟩, KB.out.trans ((KQ.out.low (Nat.le_of_lt KR.out.lt)).mono (by omega))⟩
  · have HO : Hid (∀ w', Below w.heap.size w w' → Calls Tryd.prog 60 #[.pointer (some ⟨r, 0, none⟩), .slice oa os.length oc, .slice b l d] w' fun e w'' => e = .returned (.tuple #[.slice none 0 0, .int .i64 3]) ∧ Below w'.heap.size w' w'') := Lib.hid fun w' hb =>
      (HEV.out w' hb os oa oc HSH.out.2.1 (HOK.out.below hb).o).mono fun e w'' h => ⟨h.2.1 ho, h.2.2⟩
    rw [if_neg (by rw [show (os.all fun x => inG n x.2) = false from Bool.eq_false_iff.2 fun e => ho (List.all_eq_true.1 e)]; simp)] at HT
    obtain rfl := HT.out
    go_enter Tryd.func33, Tryd.ntmps33
    go_wp2_with (first
      | (go_at_call 60
         refine (HO.out _ HB2.out).mono ?_
         rintro e wB ⟨rfl, hB⟩
         have KB := Lib.hid (HB2.out.trans (hB.mono HB2.out.size))
         have KR := Lib.hid (K2.out.below hB)
         obtain ⟨u0, g0, f0⟩ := KR.out.cells 0 (by decide)
         obtain ⟨u1, g1, f1⟩ := KR.out.cells 1 (by decide)
         obtain ⟨u2, g2, f2⟩ := KR.out.cells 2 (by decide)
         obtain ⟨u3, g3, f3⟩ := KR.out.cells 3 (by decide)
         obtain ⟨u4, g4, f4⟩ := KR.out.cells 4 (by decide)
         obtain ⟨u5, g5, f5⟩ := KR.out.cells 5 (by decide)
         clear hB))
    (try simp only [Exit.inBlock, Exit.then])
    rw [sixW_eq]
    obtain ⟨q0, q1, q2, q3, q4, q5⟩ := KR.out.got (.int .u8 0) (.int .i64 0) (.slice none 0 0) (.slice none 0 0) (.slice none 0 0) (.slice none 0 0)
    have KQ := Lib.hid (KR.out.new.six (.int .u8 0) (.int .i64 0) (.slice none 0 0) (.slice none 0 0) (.slice none 0 0) (.slice none 0 0))
    refine bodyPost_ret (by simp [results, Tryd.results33, go_sem, q0, q1, q2, q3, q4, q5, Result.andThen]; try rfl) rfl ?_
    refine ⟨_, rfl, ⟨_, _, _, _, _, _, _, _, rfl, Lay.At.nil, Lay.At.nil, Lay.At.nil, Lay.At.nil⟩, KB.out.trans ((KQ.out.low (Nat.le_of_lt KR.out.lt)).mono (by omega))⟩
end Go.Proofs.YtjhbabgcoemecaaDoor
