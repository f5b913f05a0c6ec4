/- Copies of lists of lists whose lists are apart; a store in such a list. -/
import Derived.Test.YtjhbabgcoemecaaDoorPm
namespace Go.Proofs.YtjhbabgcoemecaaDoor
open Go.RowKit

def RApart (hs : List Hdr) : Prop := ∀ i j, i < hs.length → j < hs.length → i ≠ j → Apart (hv (hs.getD i (none, 0, 0))) (hv (hs.getD j (none, 0, 0)))
theorem RApart.nil : RApart [] := fun i j hi => by simp at hi
theorem RApart.snoc {hs : List Hdr} {hd : Hdr} (h : RApart hs) (hn : ∀ i, i < hs.length → Apart (hv hd) (hv (hs.getD i (none, 0, 0)))) : RApart (hs ++ [hd]) := by
  intro i j hi hj hne
  rw [List.length_append, List.length_singleton] at hi hj
  by_cases ei : i < hs.length
  · rw [getD_left _ _ _ _ ei]
    by_cases ej : j < hs.length
    · rw [getD_left _ _ _ _ ej]
      exact h i j ei ej hne
    · rw [getD_last _ _ _ _ (by omega)]
      exact (hn i ei).symm
  · rw [getD_last _ _ _ i (by omega), getD_left _ _ _ _ (by omega)]
    exact hn j (by omega)
def OwnRetR2 (w : World) (rows : List (List Int)) (e : Ending) (w' : World) : Prop := ∃ v hs, e = .returned v ∧ RowsOwn w' w.heap.size v hs rows ∧ RApart hs ∧ Below w.heap.size w w'

set_option maxHeartbeats 400000 in
theorem copyR2_any (a : Option Addr) (len cap : Nat) (rows : List (List Int)) (w : World) (hlen : rows.length = len) (hat : RowsAt w a rows) (hok : RowsOk rows) (hsm : len ≤ 100000) :
    Calls Tryd.prog 19 #[.slice a len cap] w (OwnRetR2 w rows) := by
  have HA := Lib.hid hat
  have HLEN := Lib.hid hlen
  have HOK := Lib.hid hok
  clear hat hlen hok
  go_enter Tryd.func19, Tryd.ntmps19
  go_wp2_with fail
  go_loopw [3, 4] (fun v i wr => ∃ (k : Nat) (hs : List Hdr), k ≤ len ∧ i = .int .i64 k ∧ RowsOwn wr w.heap.size v hs (rows.take k) ∧ Hid (RApart hs) ∧ Below w.heap.size w wr) (fun _ i _ => len - (intOf i).toNat)
  case atStart => exact ⟨0, [], by omega, rfl, RowsOwn.nil _ _, RApart.nil, Below.refl _ _⟩
  case round =>
    obtain ⟨k, hs, hk, rfl, hown, hra0, hbel⟩ := hrel
    have hsz := hbel.size
    by_cases hlt : k < len
    · have hq : k < rows.length := by rw [HLEN.out]; exact hlt
      obtain ⟨pb, po, ra, rc, rfl, hpb, hp0, hra, hrl, hrc⟩ := HA.out k hq
      have hp0' := (hbel.cell (p := ⟨pb, po + k, none⟩) hpb).trans hp0
      have Ht := Lib.hid (take_getD [] rows k hq)
      have hlt2 : (rows.take k).length ≤ 100000 := by rw [List.length_take]; omega
      have hhl : hs.length ≤ 100000 := by rw [hown.len]; exact hlt2
      have HC := Lib.hid (copyU_any ra _ rc (rows.getD k []) wr rfl ((hra.below (w' := wr) hbel)) (HOK.out.len k))
      have HOW := Lib.hid hown
      clear hp0 hq hown hra
      generalize rows.getD k [] = r at *
      go_wp2_with fail
      refine HC.out.mono ?_
      rintro e w1 ⟨v1, rfl, ho1, hb1⟩
      obtain ⟨a1, c1, rfl, hat1, hl1, hc1⟩ := ho1.at_ (d := 0)
      have HOW1 := Lib.hid (HOW.out.below hb1)
      have hbel1 := hbel.trans (hb1.mono hsz)
      have hsz1 := hbel1.size
      have hap : Apart (hv (a1, r.length, c1)) u3 := by
        unfold Apart
        cases e2 : u3.ownBlock with
        | none => exact Or.inr (Or.inl rfl)
        | some g =>
          cases e1 : (hv (a1, r.length, c1)).ownBlock with
          | none => exact Or.inl rfl
          | some g' => exact Or.inr (Or.inr (fun e3 => by have h1 := HOW.out.own.lt g e2; have h2 := ho1.lt g' e1; simp at e3; omega))
      have HRA2 : Hid (RApart (hs ++ [(a1, r.length, c1)])) := hra0.out.snoc fun i hi => by
        unfold Apart
        cases e1 : (hv (a1, r.length, c1)).ownBlock with
        | none => exact .inl rfl
        | some g' =>
          cases e2 : (hv (hs.getD i (none, 0, 0))).ownBlock with
          | none => exact .inr (.inl rfl)
          | some g => exact .inr (.inr (fun e3 => by have h1 := (HOW.out.row i (by rw [← HOW.out.len]; exact hi)).1.lt g e2; have h2 := ho1.lt g' e1; injection e3 with e3; omega))
      have HR := Lib.hid (ho1.lower (b' := w.heap.size) (by have := hbel.size; omega))
      have HAp := Lib.hid hap
      clear hap ho1 hat1 hb1 HOW
      go_wp2_with (at_builtin; refine app_lay_at2 Tryd.elemS [(a1, r.length, c1)] rfl _ _ rfl rfl HOW1.out.own rfl rfl (by simp; omega) hsz1 ?_)
      intro v' w2 ho2 hg2 hat2
      have B0 : Below w1.heap.size w1 (w1.alloc (.cells (Lay.sl.flat [(a1, r.length, c1)]).toArray 48)) := (Below.refl _ _).alloc (Nat.le_refl _) _
      have HN := Lib.hid ((HOW1.out.below B0).snoc (hd := (a1, r.length, c1)) (HR.out.grown B0) HAp.out ho2 hg2 (by simpa using hat2))
      have hbel2 := (hbel1.trans (B0.mono hsz1)).grown hg2 (by simp; omega) (fun g hg => (HOW1.out.own.lt g hg).1)
      clear ho2 hg2 hat2 B0 HOW1 HR
      go_wp2_with fail
      go_roundw
      case rel => exact ⟨k + 1, _, by omega, by go_num, by rw [Ht.out]; exact HN.out, HRA2, hbel2⟩
      case measure => simp [intOf]; omega
    · obtain rfl : k = len := by omega
      have hown2 : RowsOwn wr w.heap.size u3 hs rows := by rw [← HLEN.out, List.take_length] at hown; exact hown
      clear hown
      go_wp2_with fail
      go_ret
      exact ⟨_, _, rfl, hown2, hra0.out, hbel⟩


/-- a number in one of the lists is stored -/
theorem RowsOwn.store {w : World} {B : Nat} {v : Value} {hs : List Hdr} {rows : List (List Int)} (h : RowsOwn w B v hs rows) (ha : RApart hs) {c i : Nat} (hc : c < rows.length) (hi : i < (rows.getD c []).length) (t : Int) :
    ∃ g cap u, hs.getD c (none, 0, 0) = (some ⟨g, 0, none⟩, (rows.getD c []).length, cap) ∧ B ≤ g ∧ w.cell? ⟨g, i, none⟩ = some u ∧ w.frozen? ⟨g, i, none⟩ = false ∧
      RowsOwn (w.setCell ⟨g, i, none⟩ (.int .u64 t)) B v hs (rows.set c ((rows.getD c []).set i t)) ∧ w.grownBy (w.setCell ⟨g, i, none⟩ (.int .u64 t)) (some g) := by
  obtain ⟨r1, r2⟩ := h.row c hc
  obtain ⟨g, cap, u, e1, e2, e3, e4, e5, e6⟩ := r1.put hi t
  have ehd : hs.getD c (none, 0, 0) = (some ⟨g, 0, none⟩, (rows.getD c []).length, cap) := by
    generalize hs.getD c (none, 0, 0) = hd at e1 ⊢
    obtain ⟨x, y, z⟩ := hd
    simp only [hv, Value.slice.injEq] at e1
    obtain ⟨rfl, rfl, rfl⟩ := e1
    rfl
  have hob : (hv (hs.getD c (none, 0, 0))).ownBlock = some g := by rw [ehd]; rfl
  refine ⟨g, cap, u, ehd, e2, e3, e4, ⟨World.ownsRow.kept h.own e6 ?_, by rw [List.length_set]; exact h.len, fun j hj => ?_⟩, e6⟩
  · have := r2.symm.ne
    rw [hob] at this
    exact this
  · rw [List.length_set] at hj
    by_cases e : j = c
    · subst e
      rw [getD_set_same _ _ _ _ hj]
      exact ⟨e5, r2⟩
    · rw [getD_set_ne _ _ _ _ _ (fun e' => e e'.symm)]
      obtain ⟨k1, k2⟩ := h.row j hj
      refine ⟨World.ownsRow.kept k1 e6 ?_, k2⟩
      have := (ha j c (by rw [h.len]; exact hj) (by rw [h.len]; exact hc) e).ne
      rw [hob] at this
      exact this
end Go.Proofs.YtjhbabgcoemecaaDoor
