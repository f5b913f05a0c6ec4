/- Walks of package view (part 2): Events. -/
import Derived.Test.YtjancemacdffbaaDoorVb
namespace Go.Proofs.YtjancemacdffbaaDoor
open Go.RowKit

theorem le_q (b n : Nat) (up dn : Nat → Nat) (x y : Int) (w : World) (h : LatC w b n up dn) (m : Nat) :
    Calls Tryd.prog 19 #[.pointer (some ⟨b, 0, none⟩), .int .i64 x, .int .i64 y] (w.drewN m) fun e w' => e = .returned (.bool (leB n up x y)) ∧ ∃ k, w' = w.drewN k :=
  (le_any b n up dn x y _ (h.same ⟨m, rfl⟩)).mono fun _ _ h => ⟨h.1, m, h.2.symm⟩

/-- what the closure of Events has at hand -/
structure EvBox (w : World) (lb vb pb b n : Nat) (up dn : Nat → Nat) (level : Int) (a : Option Addr) (len cap : Nat) (xs : List Int) : Prop where
  hl : w.cell? ⟨lb, 0, none⟩ = some (.pointer (some ⟨b, 0, none⟩))
  hp : w.cell? ⟨pb, 0, none⟩ = some (.int .i64 level)
  hv : w.cell? ⟨vb, 0, none⟩ = some (.slice a len cap)
  hat : (Lay.int .i64).At 0 w a xs
  len : xs.length = len
  lat : LatC w b n up dn
theorem EvBox.below {w w' : World} {lb vb pb b n : Nat} {up dn : Nat → Nat} {level : Int} {a : Option Addr} {len cap : Nat} {xs : List Int} (h : EvBox w lb vb pb b n up dn level a len cap xs) (hb : Below w.heap.size w w') : EvBox w' lb vb pb b n up dn level a len cap xs :=
  ⟨(hb.cell (p := ⟨lb, 0, none⟩) (World.block_lt_of_cell? w _ h.hl)).trans h.hl, (hb.cell (p := ⟨pb, 0, none⟩) (World.block_lt_of_cell? w _ h.hp)).trans h.hp, (hb.cell (p := ⟨vb, 0, none⟩) (World.block_lt_of_cell? w _ h.hv)).trans h.hv, h.hat.below hb, h.len, h.lat.below hb (World.block_lt_of_cell? w _ h.lat.hn)⟩

set_option maxHeartbeats 400000 in
theorem events1_any {lb vb pb b n : Nat} {up dn : Nat → Nat} {level : Int} {a : Option Addr} {len cap : Nat} {xs : List Int} (N : Nat) (V : Int) (w : World) (h : EvBox w lb vb pb b n up dn level a len cap xs) (hN : N < len) :
    Calls Tryd.prog 58 #[.agg #[.int .i64 N, .int .u64 V], .pointer (some ⟨lb, 0, none⟩), .pointer (some ⟨vb, 0, none⟩), .pointer (some ⟨pb, 0, none⟩)] w fun e w' => e = .returned (.bool (leB n up (xs.getD N 0) level)) ∧ Below w.heap.size w w' := by
  have B0 : Below w.heap.size w (w.alloc (.cells #[.int .i64 N, .int .u64 V] 75)) := (Below.refl _ _).alloc (Nat.le_refl _) _
  have h1 := h.below B0
  obtain ⟨cb, co, rfl, hcb, hc⟩ := h1.hat.int (i := N) (by rw [h.len]; exact hN)
  have hl := h1.hl
  have hp := h1.hp
  have hv := h1.hv
  have HLE := Lib.hid (le_q b n up dn (xs.getD N 0) level _ h1.lat)
  generalize xs.getD N 0 = x at *
  have hx0 : (w.alloc (.cells #[.int .i64 N, .int .u64 V] 75)).cell? ⟨w.heap.size, 0, none⟩ = some (.int .i64 N) := by simp
  clear h h1
  go_enter Tryd.func58, Tryd.ntmps58
  go_wp2_with fail
  generalize w.alloc (.cells #[.int .i64 N, .int .u64 V] 75) = w1 at *
  have hN2 : (N : Int) < len := by omega
  go_quiet ((go_at_call 19; exact HLE.out _))
  go_wp2_with fail
  go_ret
  exact ⟨rfl, B0.trans (Same.below ⟨_, rfl⟩ _)⟩

/-- the events that a level sees -/
def seen (n : Nat) (up : Nat → Nat) (level : Int) (xs : List Int) (es : List (Int × Int)) : List (Int × Int) := es.filter fun p => leB n up (xs.getD p.1.toNat 0) level
def OwnRetE (w : World) (xs : List (Int × Int)) (e : Ending) (w' : World) : Prop := ∃ v, e = .returned v ∧ Lay.ev.Own 75 w' w.heap.size v xs ∧ Below w.heap.size w w'

set_option maxHeartbeats 400000 in
theorem filterE_any {lb vb pb b n : Nat} {up dn : Nat → Nat} {level : Int} {a : Option Addr} {len cap : Nat} {xs : List Int} (ea : Option Addr) (elen ecap : Nat) (es : List (Int × Int)) (w : World) (h : EvBox w lb vb pb b n up dn level a len cap xs)
    (hel : es.length = elen) (hea : Lay.ev.At (0, 0) w ea es) (hsm : elen ≤ 100000) (hok : ∀ p ∈ es, 0 ≤ p.1 ∧ p.1 < len) :
    Calls Tryd.prog 57 #[.func (.func 58) #[] #[.pointer (some ⟨lb, 0, none⟩), .pointer (some ⟨vb, 0, none⟩), .pointer (some ⟨pb, 0, none⟩)], .slice ea elen ecap] w (OwnRetE w (seen n up level xs es)) := by
  have HA := Lib.hid hea
  have HLEN := Lib.hid hel
  have HB := Lib.hid h
  have HOK := Lib.hid hok
  clear hea hel h hok
  go_enter Tryd.func57, Tryd.ntmps57
  go_wp2_with fail
  go_loopw [5, 10] (fun v i wr => ∃ k : Nat, k ≤ elen ∧ i = .int .i64 k ∧ Lay.ev.Own 75 wr w.heap.size v (seen n up level xs (es.take k)) ∧ Below w.heap.size w wr) (fun _ i _ => elen - (intOf i).toNat)
  case atStart => exact ⟨0, by omega, rfl, Lay.Own.nil _ _, Below.refl _ _⟩
  case round =>
    obtain ⟨k, hk, rfl, hown, hbel⟩ := hrel
    have hsz := hbel.size
    by_cases hlt : k < elen
    · have hq : k < es.length := by rw [HLEN.out]; exact hlt
      obtain ⟨qb, qo, rfl, hqb, hq0, hq1⟩ := HA.out.ev hq
      have hq0' := (hbel.cell (p := ⟨qb, qo + k * 2, none⟩) hqb).trans hq0
      have hq1' := (hbel.cell (p := ⟨qb, qo + k * 2 + 1, none⟩) hqb).trans hq1
      have hmem : es.getD k (0, 0) ∈ es := by rw [List.getD_eq_getElem?_getD, List.getElem?_eq_getElem hq]; exact List.getElem_mem hq
      obtain ⟨o1, o2⟩ := HOK.out _ hmem
      have Ht : Hid (seen n up level xs (es.take (k + 1)) = seen n up level xs (es.take k) ++ if leB n up (xs.getD (es.getD k (0, 0)).1.toNat 0) level then [es.getD k (0, 0)] else []) := take_filter (0, 0) _ es k hq
      have hbl : (seen n up level xs (es.take k)).length ≤ k := Nat.le_trans (List.length_filter_le _ _) (List.length_take_le _ _)
      clear hq0 hq1 hq hmem
      generalize es.getD k (0, 0) = ev at *
      obtain ⟨N, V⟩ := ev
      simp only at hq0' hq1' o1 o2 Ht
      obtain ⟨N, rfl⟩ := Int.eq_ofNat_of_zero_le o1
      rw [Int.toNat_natCast] at Ht
      have HC := Lib.hid (fun W (hW : Below wr.heap.size wr W) => events1_any N V W ((HB.out.below hbel).below hW) (by omega))
      have BX : Below wr.heap.size wr (wr.alloc (.cells #[.int .i64 N, .int .u64 V] 75)) := (Below.refl _ _).alloc (Nat.le_refl _) _
      generalize xs.getD N 0 = lv at *
      cases hc : leB n up lv level with
      | true =>
        rw [hc] at HC Ht
        clear hc
        go_wp2_with fail
        refine (HC.out _ BX).mono ?_
        rintro e w2 ⟨rfl, hb2⟩
        have hz : wr.heap.size < (wr.alloc (.cells #[.int .i64 N, .int .u64 V] 75)).heap.size := by simp
        have hd0 := (hb2.cell (p := ⟨wr.heap.size, 0, none⟩) hz).trans (show _ = some (Value.int .i64 N) by simp)
        have hd1 := (hb2.cell (p := ⟨wr.heap.size, 1, none⟩) hz).trans (show _ = some (Value.int .u64 V) by simp)
        have B2 := BX.trans (hb2.mono BX.size)
        have hown2 := hown.grown B2
        have hsz2 := B2.size
        have hbel2 := hbel.trans (B2.mono hsz)
        clear hown hb2 BX HC hz
        go_wp2_with (at_builtin; refine app_lay_new Tryd.elemE [((N : Int), V)] rfl _ _ rfl rfl hown2 rfl rfl (by omega) (by omega) ?_)
        intro v' w3 r1 r2
        clear hown2
        go_wp2_with fail
        go_roundw
        case rel => exact ⟨k + 1, by omega, by go_num, by rw [Ht.out]; exact r1, hbel2.trans r2⟩
        case measure => simp [intOf]; omega
      | false =>
        rw [hc] at HC Ht
        clear hc
        go_wp2_with fail
        refine (HC.out _ BX).mono ?_
        rintro e w2 ⟨rfl, hb2⟩
        have B2 := BX.trans (hb2.mono BX.size)
        have hown2 := hown.grown B2
        have hbel2 := hbel.trans (B2.mono hsz)
        clear hown hb2 BX HC
        go_wp2_with fail
        go_roundw
        case rel => exact ⟨k + 1, by omega, by go_num, by rw [Ht.out]; simpa using hown2, hbel2⟩
        case measure => simp [intOf]; omega
    · obtain rfl : k = elen := by omega
      have hown2 : Lay.ev.Own 75 wr w.heap.size u5 (seen n up level xs es) := by rw [← HLEN.out, List.take_length] at hown; exact hown
      clear hown
      go_wp2_with fail
      go_ret
      exact ⟨_, rfl, hown2, hbel⟩

end Go.Proofs.YtjancemacdffbaaDoor
