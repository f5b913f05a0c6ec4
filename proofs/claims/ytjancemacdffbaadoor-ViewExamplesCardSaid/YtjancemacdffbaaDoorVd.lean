/- Walks of package view (part 3): Events, whole. -/
import Derived.Test.YtjancemacdffbaaDoorVc
namespace Go.Proofs.YtjancemacdffbaaDoor
open Go.RowKit

theorem Lay.Own.lower {α : Type} {L : Lay α} {e : TypeId} {w : World} {b b' : Nat} {v : Value} {xs : List α} (h : L.Own e w b v xs) (hb : b' ≤ b) : L.Own e w b' v xs :=
  ⟨h.1, h.2.imp id fun ⟨g, cap, cur, e, hg, r⟩ => ⟨g, cap, cur, e, Nat.le_trans hb hg, r⟩⟩

theorem cell_new_at {w : World} {c : Array Value} {t : TypeId} {i g : Nat} (hg : g = w.heap.size) : (w.alloc (.cells c t)).cell? ⟨g, i, none⟩ = c[i]? := by
  subst hg; exact World.cell?_alloc_new _ _ _ _

def inB (m : Nat) (p : Int × Int) : Bool := decide (0 ≤ p.1) && decide (p.1 < m)
/-- what Events returns: an error and the events -/
def evR (n : Nat) (up : Nat → Nat) (level : Int) (xs : List Int) (es : List (Int × Int)) : Int × List (Int × Int) :=
  if mayB n level xs && es.all (inB xs.length) then (0, seen n up level xs es) else (3, [])
def EvPost (w : World) (r : Int × List (Int × Int)) (e : Ending) (w' : World) : Prop := ∃ v, e = .returned (.tuple #[v, .int .i64 r.1]) ∧ Lay.ev.Own 75 w' w.heap.size v r.2 ∧ Below w.heap.size w w'

theorem EvPost.nil {w w' : World} {r : Int × List (Int × Int)} {c : Int} (hr : r = (c, [])) (hb : Below w.heap.size w w') : EvPost w r (.returned (.tuple #[.slice none 0 0, .int .i64 c])) w' := by
  subst hr; exact ⟨_, rfl, Lay.Own.nil _ _, hb⟩

set_option maxHeartbeats 400000 in
theorem events_nil (level : Int) (a : Option Addr) (len cap : Nat) (u : Value) (w : World) :
    Calls Tryd.prog 38 #[.pointer none, .int .i64 level, .slice a len cap, u] w (EvPost w (1, [])) := by
  go_enter Tryd.func38, Tryd.ntmps38
  go_wp2_with fail
  go_ret2
  exact ⟨_, rfl, Lay.Own.nil _ _, (((Below.refl _ _).alloc (Nat.le_refl _) _).alloc (by simp) _).alloc (by simp; omega) _⟩

set_option maxHeartbeats 1000000 in
theorem events_any (b n : Nat) (up dn : Nat → Nat) (level : Int) (a : Option Addr) (len cap : Nat) (xs : List Int) (ea : Option Addr) (elen ecap : Nat) (es : List (Int × Int)) (w : World)
    (hL : LatC w b n up dn) (hlen : xs.length = len) (hat : (Lay.int .i64).At 0 w a xs) (hcap : a = none → cap = 0) (hsm : len ≤ 10000)
    (hel : es.length = elen) (hea : Lay.ev.At (0, 0) w ea es) (hesm : elen ≤ 10000) :
    Calls Tryd.prog 38 #[.pointer (some ⟨b, 0, none⟩), .int .i64 level, .slice a len cap, .slice ea elen ecap] w (EvPost w (evR n up level xs es)) := by
  have B0 : Below w.heap.size w (((w.alloc (.cells #[.pointer (some ⟨b, 0, none⟩)] 23)).alloc (.cells #[.int .i64 level] 3)).alloc (.cells #[.slice a len cap] 50)) := (((Below.refl _ _).alloc (Nat.le_refl _) _).alloc (by simp) _).alloc (by simp; omega) _
  have hbb := World.block_lt_of_cell? w _ hL.hn
  have HX := Lib.hid (show EvBox (((w.alloc (.cells #[.pointer (some ⟨b, 0, none⟩)] 23)).alloc (.cells #[.int .i64 level] 3)).alloc (.cells #[.slice a len cap] 50)) w.heap.size (w.heap.size + 2) (w.heap.size + 1) b n up dn level a len cap xs from
    ⟨(World.cell?_alloc_lt _ _ _ (by simp; omega)).trans ((World.cell?_alloc_lt _ _ _ (by simp)).trans (World.cell?_alloc_new _ _ _ _)), (World.cell?_alloc_lt _ _ _ (by simp)).trans (cell_new_at (by simp)), cell_new_at (by simp), hat.below B0, hlen, hL.below B0 hbb⟩)
  have HLEN := Lib.hid hlen
  have HEA := Lib.hid (hea.below B0)
  have HEL := Lib.hid hel
  have HCAP := Lib.hid hcap
  have hz : w.heap.size + 2 < (((w.alloc (.cells #[.pointer (some ⟨b, 0, none⟩)] 23)).alloc (.cells #[.int .i64 level] 3)).alloc (.cells #[.slice a len cap] 50)).heap.size := by simp
  clear hea hel hcap hat hlen hL hbb
  go_enter Tryd.func38, Tryd.ntmps38
  go_wp2_with fail
  generalize ((w.alloc (.cells #[.pointer (some ⟨b, 0, none⟩)] 23)).alloc (.cells #[.int .i64 level] 3)).alloc (.cells #[.slice a len cap] 50) = w0 at *
  refine (may_any b n level a len cap xs _ HLEN.out HX.out.hat HCAP.out hsm HX.out.lat.hn).mono ?_
  rintro e w1 ⟨rfl, hb1⟩
  have B1 := B0.trans (hb1.mono B0.size)
  have HX1 := Lib.hid (HX.out.below hb1)
  have HEA1 := Lib.hid (HEA.out.below hb1)
  have hz1 : w.heap.size + 2 < w1.heap.size := Nat.lt_of_lt_of_le hz hb1.size
  clear hb1 HX HEA B0 hz
  cases hm : mayB n level xs with
  | false =>
    have HR : Hid (evR n up level xs es = (3, [])) := by show _ = _; unfold evR; rw [hm]; rfl
    clear hm
    go_wp2_with fail
    go_ret2
    exact EvPost.nil HR.out (B1)
  | true =>
    have HM := Lib.hid hm
    clear hm
    have hvc := HX1.out.hv
    go_wp2_with fail
    go_loopw [21] (fun i wr => ∃ k : Nat, k ≤ elen ∧ i = .int .i64 k ∧ (es.take k).all (inB len) = true ∧ Below w1.heap.size w1 wr) (fun i _ => elen - (intOf i).toNat)
    case atStart => exact ⟨0, by omega, rfl, by simp, Below.refl _ _⟩
    case round =>
      obtain ⟨k, hk, rfl, hall, hbel⟩ := hrel
      have HAL := Lib.hid hall
      clear hall
      have hsz := hbel.size
      have hv' := (hbel.cell (p := ⟨w.heap.size + 2, 0, none⟩) hz1).trans hvc
      by_cases hlt : k < elen
      · have hq : k < es.length := by rw [HEL.out]; exact hlt
        obtain ⟨qb, qo, rfl, hqb, hq0, hq1⟩ := HEA1.out.ev hq
        have hq0' := (hbel.cell (p := ⟨qb, qo + k * 2, none⟩) hqb).trans hq0
        have hq1' := (hbel.cell (p := ⟨qb, qo + k * 2 + 1, none⟩) hqb).trans hq1
        have Ht := Lib.hid (take_getD (0, 0) es k hq)
        have hmem : es.getD k (0, 0) ∈ es := by rw [List.getD_eq_getElem?_getD, List.getElem?_eq_getElem hq]; exact List.getElem_mem hq
        have Hbad : Hid (inB len (es.getD k (0, 0)) = false → evR n up level xs es = (3, [])) := fun hb => by
          unfold evR
          rw [if_neg]
          rw [HM.out, Bool.true_and, HLEN.out]
          intro h
          rw [List.all_eq_true] at h
          rw [h _ hmem] at hb
          cases hb
        clear hq0 hq1 hq hmem
        generalize es.getD k (0, 0) = ev at *
        obtain ⟨N, V⟩ := ev
        simp only at hq0' hq1'
        have BX : Below w1.heap.size w1 (wr.alloc (.cells #[.int .i64 N, .int .u64 V] 75)) := hbel.alloc hsz _
        have hv2 : (wr.alloc (.cells #[.int .i64 N, .int .u64 V] 75)).cell? ⟨w.heap.size + 2, 0, none⟩ = some (.slice a len cap) := (World.cell?_alloc_lt _ _ _ (show w.heap.size + 2 < wr.heap.size by omega)).trans hv'
        by_cases h0 : N < 0
        · have HR := Lib.hid (Hbad.out (by simp [inB]; omega))
          go_wp2_with fail
          go_ret2
          exact EvPost.nil HR.out (B1.trans (BX.mono B1.size))
        · have h0' : decide (N < 0) = false := by simpa using h0
          by_cases h1 : (len : Int) ≤ N
          · have HR := Lib.hid (Hbad.out (by simp [inB]; omega))
            go_wp2_with fail
            go_ret2
            exact EvPost.nil HR.out (B1.trans (BX.mono B1.size))
          · have h1' : decide ((len : Int) ≤ N) = false := by simpa using h1
            go_wp2_with fail
            go_roundw
            case rel => exact ⟨k + 1, by omega, by go_num, by rw [Ht.out, List.all_append, HAL.out]; simp [inB]; omega, BX⟩
            case measure => simp [intOf]; omega
      · have hall2 : es.all (inB len) = true := by
          have := HAL.out
          rw [show k = es.length by rw [HEL.out]; omega, List.take_length] at this
          exact this
        have HR : Hid (evR n up level xs es = (0, seen n up level xs es)) := by show _ = _; unfold evR; rw [HM.out, HLEN.out, hall2]; rfl
        have HOK : Hid (∀ p ∈ es, 0 ≤ p.1 ∧ p.1 < len) := fun p hp => by
          have := List.all_eq_true.1 hall2 p hp
          simp [inB] at this
          exact this
        have B2 := B1.trans (hbel.mono B1.size)
        have HX2 := Lib.hid (HX1.out.below hbel)
        have HEA2 := Lib.hid (HEA1.out.below hbel)
        clear hall2 HAL hbel hv' hvc HX1 HEA1 B1
        go_wp2_with fail
        refine (filterE_any ea elen ecap es _ HX2.out HEL.out HEA2.out (by omega) HOK.out).mono ?_
        rintro e w3 ⟨v, rfl, hown, hb3⟩
        have B3 := B2.trans (hb3.mono B2.size)
        have hb := B2.size
        have hown2 : Lay.ev.Own 75 w3 w.heap.size v (evR n up level xs es).2 := by rw [HR.out]; exact hown.lower hb
        go_wp2_with fail
        go_ret2
        exact ⟨v, by rw [HR.out]; rfl, hown2, B3⟩

end Go.Proofs.YtjancemacdffbaaDoor
