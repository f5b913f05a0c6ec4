/- Walks of package view (part 1): may. -/
import Derived.Test.YtjancemacdffbaaDoorVa
namespace Go.Proofs.YtjancemacdffbaaDoor
open Go.RowKit

theorem take_getD {α : Type} (d : α) (ps : List α) (q : Nat) (h : q < ps.length) : ps.take (q + 1) = ps.take q ++ [ps.getD q d] := by
  rw [List.take_succ_eq_append_getElem h, List.getD_eq_getElem?_getD, List.getElem?_eq_getElem h]; rfl

theorem take_filter {α : Type} (d : α) (p : α → Bool) (ps : List α) (q : Nat) (h : q < ps.length) : (ps.take (q + 1)).filter p = (ps.take q).filter p ++ if p (ps.getD q d) then [ps.getD q d] else [] := by
  rw [take_getD d ps q h, List.filter_append, List.filter_cons, List.filter_nil]

set_option maxHeartbeats 400000 in
theorem may1_any (lb b n : Nat) (x : Int) (w : World) (hl : w.cell? ⟨lb, 0, none⟩ = some (.pointer (some ⟨b, 0, none⟩))) (hn : w.cell? ⟨b, 0, none⟩ = some (.int .i64 n)) :
    Calls Tryd.prog 64 #[.int .i64 x, .pointer (some ⟨lb, 0, none⟩)] w fun e w' => e = .returned (.bool (!isB n x)) ∧ w = w' := by
  by_cases h0 : x < 0
  · go_enter Tryd.func64, Tryd.ntmps64
    go_wp2_with fail
    go_ret
    exact ⟨by simp [isB]; omega, rfl⟩
  · have h1 : decide (x < 0) = false := by simpa using h0
    go_enter Tryd.func64, Tryd.ntmps64
    go_wp2_with fail
    refine (len_any b n _ hn).mono ?_
    rintro e w' ⟨rfl, rfl⟩
    go_wp2_with fail
    go_ret
    refine ⟨congrArg (fun b => Ending.returned (.bool b)) ?_, rfl⟩
    rw [Bool.eq_iff_iff]; simp [isB]; omega

def bad (n : Nat) (xs : List Int) : List Int := xs.filter fun x => !isB n x
def OwnRetI (w : World) (xs : List Int) (e : Ending) (w' : World) : Prop := ∃ v, e = .returned v ∧ (Lay.int .i64).Own 3 w' w.heap.size v xs ∧ Below w.heap.size w w'

set_option maxHeartbeats 400000 in
theorem filterI_any (lb b n : Nat) (a : Option Addr) (len cap : Nat) (xs : List Int) (w : World) (hlen : xs.length = len) (hat : (Lay.int .i64).At 0 w a xs) (hsm : len ≤ 100000)
    (hl : w.cell? ⟨lb, 0, none⟩ = some (.pointer (some ⟨b, 0, none⟩))) (hn : w.cell? ⟨b, 0, none⟩ = some (.int .i64 n)) :
    Calls Tryd.prog 63 #[.func (.func 64) #[] #[.pointer (some ⟨lb, 0, none⟩)], .slice a len cap] w (OwnRetI w (bad n xs)) := by
  have HA := Lib.hid hat
  have HLEN := Lib.hid hlen
  have HL := Lib.hid hl
  have HN := Lib.hid hn
  have hlb := World.block_lt_of_cell? w _ hl
  have hbb := World.block_lt_of_cell? w _ hn
  clear hat hlen hl hn
  simp only at hlb hbb
  go_enter Tryd.func63, Tryd.ntmps63
  go_wp2_with fail
  go_loopw [5, 10] (fun v i wr => ∃ k : Nat, k ≤ len ∧ i = .int .i64 k ∧ (Lay.int .i64).Own 3 wr w.heap.size v (bad n (xs.take k)) ∧ Below w.heap.size w wr) (fun _ i _ => len - (intOf i).toNat)
  case atStart => exact ⟨0, by omega, rfl, Lay.Own.nil _ _, Below.refl _ _⟩
  case round =>
    obtain ⟨k, hk, rfl, hown, hbel⟩ := hrel
    have hsz := hbel.size
    by_cases hlt : k < len
    · have hq : k < xs.length := by rw [HLEN.out]; exact hlt
      obtain ⟨pb, po, rfl, hpb, hp0⟩ := HA.out.int hq
      have hp0' := (hbel.cell (p := ⟨pb, po + k, none⟩) hpb).trans hp0
      have Ht : Hid (bad n (xs.take (k + 1)) = bad n (xs.take k) ++ if isB n (xs.getD k 0) then [] else [xs.getD k 0]) := by
        show _ = _
        rw [take_getD 0 xs k hq]; unfold bad
        rw [List.filter_append]
        generalize xs.getD k 0 = y
        cases h : isB n y <;> simp [h]
      have hbl : (bad n (xs.take k)).length ≤ k := Nat.le_trans (List.length_filter_le _ _) (List.length_take_le _ _)
      have HC := Lib.hid (may1_any lb b n (xs.getD k 0) wr ((hbel.cell (p := ⟨lb, 0, none⟩) hlb).trans HL.out) ((hbel.cell (p := ⟨b, 0, none⟩) hbb).trans HN.out))
      clear hp0 hq
      generalize xs.getD k 0 = x at *
      cases hc : isB n x with
      | true =>
        rw [hc] at HC Ht
        clear hc
        go_wp2_with fail
        refine HC.out.mono ?_
        rintro e w' ⟨rfl, rfl⟩
        go_wp2_with fail
        go_roundw
        case rel => exact ⟨k + 1, by omega, by go_num, by rw [Ht.out]; simpa using hown, hbel⟩
        case measure => simp [intOf]; omega
      | false =>
        rw [hc] at HC Ht
        clear hc
        go_wp2_with fail
        refine HC.out.mono ?_
        rintro e w' ⟨rfl, rfl⟩
        go_wp2_with (at_builtin; refine app_lay_new Tryd.elemI [x] rfl _ _ rfl rfl hown rfl rfl (by omega) hsz ?_)
        intro v' w1 r1 r2
        clear hown
        go_wp2_with fail
        go_roundw
        case rel => exact ⟨k + 1, by omega, by go_num, by rw [Ht.out]; exact r1, hbel.trans r2⟩
        case measure => simp [intOf]; omega
    · obtain rfl : k = len := by omega
      have hown2 : (Lay.int .i64).Own 3 wr w.heap.size u5 (bad n xs) := by rw [← HLEN.out, List.take_length] at hown; exact hown
      clear hown
      go_wp2_with fail
      go_ret
      exact ⟨_, rfl, hown2, hbel⟩

/-- a level and other ones are levels -/
def mayB (n : Nat) (level : Int) (levels : List Int) : Bool := (level :: levels).all (isB n)
theorem bad_zero (n : Nat) (xs : List Int) : (((bad n xs).length : Int) == 0) = xs.all (isB n) := by
  unfold bad
  rw [Bool.eq_iff_iff, beq_iff_eq, List.all_eq_true]
  constructor
  · intro h x hx
    have h' : (xs.filter fun x => !isB n x) = [] := List.eq_nil_of_length_eq_zero (by omega)
    rw [List.filter_eq_nil_iff] at h'
    simpa using h' x hx
  · intro h
    have h' : (xs.filter fun x => !isB n x) = [] := List.filter_eq_nil_iff.2 fun x hx => by simp [h x hx]
    rw [h']; rfl

set_option maxHeartbeats 400000 in
theorem may_any (b n : Nat) (level : Int) (a : Option Addr) (len cap : Nat) (xs : List Int) (w : World) (hlen : xs.length = len) (hat : (Lay.int .i64).At 0 w a xs) (hcap : a = none → cap = 0) (hsm : len ≤ 10000)
    (hn : w.cell? ⟨b, 0, none⟩ = some (.int .i64 n)) :
    Calls Tryd.prog 56 #[.pointer (some ⟨b, 0, none⟩), .int .i64 level, .slice a len cap] w fun e w' => e = .returned (.bool (mayB n level xs)) ∧ Below w.heap.size w w' := by
  have HA := Lib.hid hat
  have HLEN := Lib.hid hlen
  have HN := Lib.hid hn
  have HCAP := Lib.hid hcap
  have hbb := World.block_lt_of_cell? w _ hn
  simp only at hbb
  clear hat hlen hn hcap
  go_enter Tryd.func56, Tryd.ntmps56
  have HO := Lib.hid (Lay.Own.made_at (L := Lay.int .i64) (e := 3) (base := w.heap.size + 1) (w.alloc (.cells #[.pointer (some ⟨b, 0, none⟩)] 23)) [level] (g := w.heap.size + 1) (m := 1) (by simp) rfl (by simp) (by simp))
  have B0 : Below w.heap.size w ((w.alloc (.cells #[.pointer (some ⟨b, 0, none⟩)] 23)).alloc (.cells #[.int .i64 level] 3)) := ((Below.refl _ _).alloc (Nat.le_refl _) _).alloc (by simp) _
  have hc0 : ((w.alloc (.cells #[.pointer (some ⟨b, 0, none⟩)] 23)).alloc (.cells #[.int .i64 level] 3)).cell? ⟨w.heap.size, 0, none⟩ = some (.pointer (some ⟨b, 0, none⟩)) := by simp
  have HC0 := Lib.hid hc0
  clear hc0
  go_wp2_with (at_builtin; refine app_lay_at (d := 0) Tryd.elemI rfl _ _ rfl rfl HO.out rfl HCAP.out HLEN.out (HA.out.below B0) (by simp; omega) (by simp) ?_)
  intro v' w1 hown hb1
  have B1 := B0.trans (hb1.mono (by omega))
  have HC1 := Lib.hid ((hb1.cell (p := ⟨w.heap.size, 0, none⟩) (by show w.heap.size < _; omega)).trans HC0.out)
  have HN1 := Lib.hid ((B1.cell (p := ⟨b, 0, none⟩) hbb).trans HN.out)
  obtain ⟨a1, cap1, rfl, hat1, hl1, hc1⟩ := hown.at_ (d := 0)
  unfold maxLen at hc1
  have hlen1 : (level :: xs).length ≤ 100000 := by simp [HLEN.out]; omega
  have HR := Lib.hid (bad_zero n (level :: xs))
  have HF := Lib.hid (filterI_any w.heap.size b n a1 _ cap1 (level :: xs) w1 rfl hat1 hlen1 HC1.out HN1.out)
  clear hown hb1 HC0 HO hat1 B0 hl1
  go_wp2_with fail
  refine HF.out.mono ?_
  rintro e w2 ⟨v2, rfl, hown2, hb2⟩
  obtain ⟨a2, cap2, rfl, hat2, hl2, hc2⟩ := hown2.at_ (d := 0)
  have B2 := B1.trans (hb2.mono B1.size)
  clear HF hown2 hat2 hb2 B1
  go_wp2_with fail
  go_ret
  exact ⟨congrArg (fun b => Ending.returned (.bool b)) HR.out, B2⟩

end Go.Proofs.YtjancemacdffbaaDoor
