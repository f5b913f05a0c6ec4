/- Paths in memory; walks: Taken, of the code and of the reference. -/
import Derived.Test.YtjhbabgcoemecaaDoorUb
namespace Go.Proofs.YtjhbabgcoemecaaDoor
open Go.RowKit

/-- a path: where its lists lie, and what they hold -/
structure PathN where
  ca : Option Addr
  cc : Nat
  cs : List Int
  st : Int
  sp : Int
  oa : Option Addr
  oc : Nat
  os : List (Int × Int)
  ra : Option Addr
  rc : Nat
  rs : List (Int × Int)
  ba : Option Addr
  bc : Nat
  bs : List Bool
  ia : Option Addr
  ic : Nat
  is : List Int
instance : Inhabited PathN := ⟨⟨none, 0, [], 0, 0, none, 0, [], none, 0, [], none, 0, [], none, 0, []⟩⟩
def Lay.path : Lay PathN := ⟨7, fun p => [.slice p.ca p.cs.length p.cc, .int .u8 p.st, .int .i64 p.sp, .slice p.oa p.os.length p.oc, .slice p.ra p.rs.length p.rc, .slice p.ba p.bs.length p.bc, .slice p.ia p.is.length p.ic], fun _ => rfl, fun x u hu => by simp at hu; rcases hu with rfl | rfl | rfl | rfl | rfl | rfl | rfl <;> rfl, by decide⟩
def PathN.v (p : PathN) : Value := .agg #[.slice p.ca p.cs.length p.cc, .int .u8 p.st, .int .i64 p.sp, .slice p.oa p.os.length p.oc, .slice p.ra p.rs.length p.rc, .slice p.ba p.bs.length p.bc, .slice p.ia p.is.length p.ic]
/-- what its lists hold lies there -/
structure PathN.Ok (w : World) (p : PathN) : Prop where
  c : (Lay.int .i64).At 0 w p.ca p.cs
  o : Lay.sev.At (0, 0) w p.oa p.os
  r : Lay.sev.At (0, 0) w p.ra p.rs
  b : Lay.bool.At false w p.ba p.bs
  i : (Lay.int .i64).At 0 w p.ia p.is
  bn : p.ba = none → p.bc = 0
  in_ : p.ia = none → p.ic = 0
theorem PathN.Ok.below {w w' : World} {p : PathN} (h : p.Ok w) (hb : Below w.heap.size w w') : p.Ok w' := ⟨h.c.below hb, h.o.below hb, h.r.below hb, h.b.below hb, h.i.below hb, h.bn, h.in_⟩
/-- as Short asks -/
def PathN.short (p : PathN) : Prop := p.cs.length ≤ 12 ∧ p.os.length ≤ 12 ∧ p.rs.length ≤ 12 ∧ p.bs.length ≤ 40 ∧ p.is.length ≤ 40
theorem path_cells {w : World} {a : Option Addr} {ps : List PathN} (h : Lay.path.At default w a ps) {i : Nat} (hi : i < ps.length) : ∃ b o, a = some ⟨b, o, none⟩ ∧ b < w.heap.size ∧ w.cell? ⟨b, o + i * 7, none⟩ = some (.slice (ps.getD i default).ca (ps.getD i default).cs.length (ps.getD i default).cc) ∧ w.cell? ⟨b, o + i * 7 + 1, none⟩ = some (.int .u8 (ps.getD i default).st) ∧ w.cell? ⟨b, o + i * 7 + 2, none⟩ = some (.int .i64 (ps.getD i default).sp) ∧
    w.cell? ⟨b, o + i * 7 + 3, none⟩ = some (.slice (ps.getD i default).oa (ps.getD i default).os.length (ps.getD i default).oc) ∧ w.cell? ⟨b, o + i * 7 + 4, none⟩ = some (.slice (ps.getD i default).ra (ps.getD i default).rs.length (ps.getD i default).rc) ∧ w.cell? ⟨b, o + i * 7 + 5, none⟩ = some (.slice (ps.getD i default).ba (ps.getD i default).bs.length (ps.getD i default).bc) ∧ w.cell? ⟨b, o + i * 7 + 6, none⟩ = some (.slice (ps.getD i default).ia (ps.getD i default).is.length (ps.getD i default).ic) := by
  obtain ⟨b, o, e, h0, h1⟩ := h i hi
  have e0 := h1 0 (by decide)
  have e1 := h1 1 (by decide)
  have e2 := h1 2 (by decide)
  have e3 := h1 3 (by decide)
  have e4 := h1 4 (by decide)
  have e5 := h1 5 (by decide)
  have e6 := h1 6 (by decide)
  exact ⟨b, o, e, h0, e0, e1, e2, e3, e4, e5, e6⟩

/-- the last one that holds, and how many do, of the first k -/
def tkSt (f : Nat → Bool) : Nat → Int × Nat
  | 0 => (-1, 0)
  | k + 1 => if f k = true then ((k : Int), (tkSt f k).2 + 1) else tkSt f k
theorem tkSt_le (f : Nat → Bool) : ∀ k, (tkSt f k).2 ≤ k
  | 0 => Nat.le_refl _
  | k + 1 => by have := tkSt_le f k; unfold tkSt; split <;> simp <;> omega
/-- what Taken answers -/
def takenV (n : Nat) (V : List Nat) (ps : List PathN) : Value :=
  if (ps.all fun p => p.cs.all fun t => inG n t) = true then
    (if (tkSt (fun k => (ps.getD k default).cs.all fun t => V.getD t.toNat 0 != 0) ps.length).2 = 1 then .tuple #[.int .i64 (tkSt (fun k => (ps.getD k default).cs.all fun t => V.getD t.toNat 0 != 0) ps.length).1, .int .i64 0] else .tuple #[.int .i64 (-1), .int .i64 0])
  else .tuple #[.int .i64 0, .int .i64 3]
/-- what both walks want of it -/
structure TakenP (n : Nat) (V : List Nat) (ps : List PathN) (S : Nat → Int × Nat) (tv : Value) : Prop where
  start : S 0 = (-1, 0)
  bad : ∀ k, k < ps.length → holdsV n V (ps.getD k default).cs = .tuple #[.bool false, .int .i64 3] → tv = .tuple #[.int .i64 0, .int .i64 3]
  step : ∀ k, k < ps.length → ∃ g, holdsV n V (ps.getD k default).cs = (if g = true then .tuple #[.bool true, .int .i64 0] else .tuple #[.bool false, .int .i64 0]) ∧ S (k + 1) = (if g = true then ((k : Int), (S k).2 + 1) else S k) ∨ holdsV n V (ps.getD k default).cs = .tuple #[.bool false, .int .i64 3]
  one : (∀ k, k < ps.length → holdsV n V (ps.getD k default).cs ≠ .tuple #[.bool false, .int .i64 3]) → (S ps.length).2 = 1 → tv = .tuple #[.int .i64 (S ps.length).1, .int .i64 0]
  other : (∀ k, k < ps.length → holdsV n V (ps.getD k default).cs ≠ .tuple #[.bool false, .int .i64 3]) → (S ps.length).2 ≠ 1 → tv = .tuple #[.int .i64 (-1), .int .i64 0]
  le : ∀ k, (S k).2 ≤ k
theorem takenP (n : Nat) (V : List Nat) (ps : List PathN) : TakenP n V ps (tkSt fun k => (ps.getD k default).cs.all fun t => V.getD t.toNat 0 != 0) (takenV n V ps) := by
  have hno : (∀ k, k < ps.length → holdsV n V (ps.getD k default).cs ≠ .tuple #[.bool false, .int .i64 3]) → (ps.all fun p => p.cs.all fun t => inG n t) = true := fun h => all_getD default _ ps fun k hk => by
    have := h k hk
    unfold holdsV at this
    split at this
    · assumption
    · exact absurd rfl this
  refine ⟨rfl, fun k hk h => ?_, fun k hk => ?_, fun h h1 => ?_, fun h h1 => ?_, tkSt_le _⟩
  · unfold takenV
    rw [if_neg]
    rw [all_false default _ ps hk]
    · simp
    · unfold holdsV at h
      split at h
      · simp at h
      · simp_all
  · unfold holdsV
    split
    · refine ⟨(ps.getD k default).cs.all fun t => V.getD t.toNat 0 != 0, .inl ⟨?_, rfl⟩⟩
      split <;> simp_all
    · exact ⟨true, .inr rfl⟩
  · unfold takenV; rw [if_pos (hno h), if_pos h1]
  · unfold takenV; rw [if_pos (hno h), if_neg h1]

set_option maxRecDepth 100000 in
set_option maxHeartbeats 4000000 in
theorem taken35 {w : World} {r W : Nat} {L : List Nd} (h : RV w r W L) (h1 : 1 ≤ W) (h2 : W ≤ 64) (hL : L.length ≤ 60) (vals : List Nat) {b : Option Addr} {l d : Nat} (hlen : vals.length = l) (hvl : l ≤ 100) (hatv : (Lay.int .u64).At 0 w b (intsN vals)) (hsm : ∀ v ∈ vals, v < 18446744073709551616)
    (ps : List PathN) {a : Option Addr} {pl pc : Nat} (hpl : ps.length = pl) (hp6 : pl ≤ 6) (hat : Lay.path.At default w a ps) (hok : ∀ p ∈ ps, p.Ok w ∧ p.short) :
    Calls Tryd.prog 35 #[.pointer (some ⟨r, 0, none⟩), .slice a pl pc, .slice b l d] w fun e w' => e = .returned (takenV L.length (valuesN W vals L) ps) ∧ Below w.heap.size w w' := by
  subst hpl
  have HA := Lib.hid hat
  have HC : Hid (∀ w' k, k < ps.length → Below w.heap.size w w' → Calls Tryd.prog 30 #[.pointer (some ⟨r, 0, none⟩), (ps.getD k default).v, .slice b l d] w' fun e w'' => e = .returned (holdsV L.length (valuesN W vals L) (ps.getD k default).cs) ∧ Below w'.heap.size w' w'') :=
    Lib.hid fun w' k hk hb => by
      obtain ⟨h3, h4⟩ := hok _ (getD_mem default ps k hk)
      exact holds30 (h.below hb) h1 h2 hL vals hlen hvl (hatv.below hb) hsm _ rfl h4.1 (h3.below hb).c _ _ _ _ _ _ _ _ _ _ _ _ _ _
  have HP := Lib.hid (takenP L.length (valuesN W vals L) ps)
  clear h hat hatv hsm hok hlen hvl
  generalize (tkSt fun k => (ps.getD k default).cs.all fun t => (valuesN W vals L).getD t.toNat 0 != 0) = S at *
  generalize takenV L.length (valuesN W vals L) ps = tv at *
  generalize valuesN W vals L = V at *
  generalize L.length = n at *
  have hS0 := HP.out.start
  go_enter Tryd.func35, Tryd.ntmps35
  go_wp2_with fail
  go_loopw [8, 9, 18] (fun t m i wr => ∃ k : Nat, k ≤ ps.length ∧ t = .int .i64 (S k).1 ∧ m = .int .i64 ((S k).2 : Nat) ∧ i = .int .i64 k ∧ Hid (∀ j, j < k → holdsV n V (ps.getD j default).cs ≠ .tuple #[.bool false, .int .i64 3]) ∧ Below w.heap.size w wr) (fun _ _ i _ => ps.length - (intOf i).toNat)
  case atStart => exact ⟨0, by omega, by rw [hS0], by rw [hS0]; rfl, rfl, Lib.hid fun j hj => absurd hj (by omega), Below.refl _ _⟩
  case round =>
    obtain ⟨k, hk, rfl, rfl, rfl, hall, hb⟩ := hrel
    have hzw := hb.size
    have HB := Lib.hid hb
    have HALL := Lib.hid hall.out
    have hle := HP.out.le k
    clear hb hall
    by_cases hlk : k < ps.length
    · obtain ⟨pb, po, rfl, hpb, q0, q1, q2, q3, q4, q5, q6⟩ := path_cells HA.out hlk
      have c0 := (HB.out.cell (p := ⟨pb, po + k * 7, none⟩) hpb).trans q0
      have c1 := (HB.out.cell (p := ⟨pb, po + k * 7 + 1, none⟩) hpb).trans q1
      have c2 := (HB.out.cell (p := ⟨pb, po + k * 7 + 2, none⟩) hpb).trans q2
      have c3 := (HB.out.cell (p := ⟨pb, po + k * 7 + 3, none⟩) hpb).trans q3
      have c4 := (HB.out.cell (p := ⟨pb, po + k * 7 + 4, none⟩) hpb).trans q4
      have c5 := (HB.out.cell (p := ⟨pb, po + k * 7 + 5, none⟩) hpb).trans q5
      have c6 := (HB.out.cell (p := ⟨pb, po + k * 7 + 6, none⟩) hpb).trans q6
      have hki : (k : Int) < ps.length := by omega
      have HBAD := Lib.hid (HP.out.bad k hlk)
      have HCX := Lib.hid (fun w' (hb : Below wr.heap.size wr w') => (HC.out w' k hlk (HB.out.trans (hb.mono hzw))).mono fun e w'' h => (⟨h.1, hb.trans (h.2.mono hb.size)⟩ : e = .returned (holdsV n V (ps.getD k default).cs) ∧ Below wr.heap.size wr w''))
      obtain ⟨g, hst⟩ := HP.out.step k hlk
      have HST := Lib.hid hst
      clear q0 q1 q2 q3 q4 q5 q6 hst
      generalize hp : ps.getD k default = p at *
      have HPK := Lib.hid hp
      obtain ⟨ca, cc, cs, st, sp, oa, oc, os, ra, rc, rs, ba, bc, bs, ia, ic, is⟩ := p
      simp only at c0 c1 c2 c3 c4 c5 c6
      simp only [PathN.v] at HCX HST HBAD
      clear hp
      by_cases hbd : holdsV n V cs = .tuple #[.bool false, .int .i64 3]
      · have htv := HBAD.out hbd
        subst htv
        rw [hbd] at HCX
        clear hbd HST
        go_wp2_with (first
          | (go_at_call 30
             refine (HCX.out _ (by first | exact Below.refl _ _ | exact (Below.refl _ _).alloc (Nat.le_refl _) _)).mono ?_
             rintro e wB ⟨rfl, hB⟩
             have HBB := Lib.hid (HB.out.trans (hB.mono hzw))
             clear hB))
        go_ret2
        exact ⟨rfl, HBB.out⟩
      · have HND := Lib.hid hbd
        rcases HST.out with ⟨hg, hs⟩ | hs
        · have HAL2 : Hid (∀ j, j < k + 1 → holdsV n V (ps.getD j default).cs ≠ .tuple #[.bool false, .int .i64 3]) := Lib.hid fun j hj => by
            by_cases e : j = k
            · subst e; rw [HPK.out]; exact HND.out
            · exact HALL.out j (by omega)
          rw [hg] at HCX
          have HSN := Lib.hid hs
          clear hg hs hbd HST HBAD
          generalize hsk : S k = s at *
          have HSK := Lib.hid hsk
          clear hsk
          obtain ⟨x, y⟩ := s
          simp only at hle HSN
          cases g with
          | false =>
            simp only [Bool.false_eq_true, if_false] at HCX HSN
            go_wp2_with (first
              | (go_at_call 30
                 refine (HCX.out _ (by first | exact Below.refl _ _ | exact (Below.refl _ _).alloc (Nat.le_refl _) _)).mono ?_
                 rintro e wB ⟨rfl, hB⟩
                 have HBB := Lib.hid (HB.out.trans (hB.mono hzw))
                 clear hB))
            go_roundw
            case rel => exact ⟨k + 1, by omega, by rw [HSN.out], by rw [HSN.out], by go_num, Lib.hid HAL2.out, HBB.out⟩
            case measure => simp [intOf] <;> omega
          | true =>
            simp only [if_true] at HCX HSN
            go_wp2_with (first
              | (go_at_call 30
                 refine (HCX.out _ (by first | exact Below.refl _ _ | exact (Below.refl _ _).alloc (Nat.le_refl _) _)).mono ?_
                 rintro e wB ⟨rfl, hB⟩
                 have HBB := Lib.hid (HB.out.trans (hB.mono hzw))
                 clear hB))
            go_roundw
            case rel => exact ⟨k + 1, by omega, by rw [HSN.out], by rw [HSN.out]; go_num, by go_num, Lib.hid HAL2.out, HBB.out⟩
            case measure => simp [intOf] <;> omega
        · exact absurd hs hbd
    · obtain rfl : k = ps.length := by omega
      by_cases h1 : (S ps.length).2 = 1
      · have htv := HP.out.one (fun k hk => HALL.out k hk) h1
        subst htv
        rw [h1]
        go_wp2_with fail
        go_ret2
        exact ⟨rfl, HB.out⟩
      · have htv := HP.out.other (fun k hk => HALL.out k hk) h1
        subst htv
        have d1 : (((S ps.length).2 : Int) != 1) = true := by simp; omega
        generalize (S ps.length).2 = y at *
        go_wp2_with fail
        go_ret2
        exact ⟨rfl, HB.out⟩

set_option maxRecDepth 100000 in
set_option maxHeartbeats 4000000 in
theorem taken36 {w : World} {r W : Nat} {L : List Nd} (h : RV w r W L) (h1 : 1 ≤ W) (h2 : W ≤ 64) (hL : L.length ≤ 60) (vals : List Nat) {b : Option Addr} {l d : Nat} (hlen : vals.length = l) (hvl : l ≤ 100) (hatv : (Lay.int .u64).At 0 w b (intsN vals)) (hsm : ∀ v ∈ vals, v < 18446744073709551616)
    (ps : List PathN) {a : Option Addr} {pl pc : Nat} (hpl : ps.length = pl) (hp6 : pl ≤ 6) (hat : Lay.path.At default w a ps) (hok : ∀ p ∈ ps, p.Ok w ∧ p.short) :
    Calls Tryd.prog 36 #[.pointer (some ⟨r, 0, none⟩), .slice a pl pc, .slice b l d] w fun e w' => e = .returned (takenV L.length (valuesN W vals L) ps) ∧ Below w.heap.size w w' := by
  subst hpl
  have HA := Lib.hid hat
  have HC : Hid (∀ w' k, k < ps.length → Below w.heap.size w w' → Calls Tryd.prog 31 #[.pointer (some ⟨r, 0, none⟩), (ps.getD k default).v, .slice b l d] w' fun e w'' => e = .returned (holdsV L.length (valuesN W vals L) (ps.getD k default).cs) ∧ Below w'.heap.size w' w'') :=
    Lib.hid fun w' k hk hb => by
      obtain ⟨h3, h4⟩ := hok _ (getD_mem default ps k hk)
      exact holds31 (h.below hb) h1 h2 hL vals hlen hvl (hatv.below hb) hsm _ rfl h4.1 (h3.below hb).c _ _ _ _ _ _ _ _ _ _ _ _ _ _
  have HP := Lib.hid (takenP L.length (valuesN W vals L) ps)
  clear h hat hatv hsm hok hlen hvl
  generalize (tkSt fun k => (ps.getD k default).cs.all fun t => (valuesN W vals L).getD t.toNat 0 != 0) = S at *
  generalize takenV L.length (valuesN W vals L) ps = tv at *
  generalize valuesN W vals L = V at *
  generalize L.length = n at *
  have hS0 := HP.out.start
  go_enter Tryd.func36, Tryd.ntmps36
  go_wp2_with fail
  go_loopw [8, 9, 10] (fun t m i wr => ∃ k : Nat, k ≤ ps.length ∧ t = .int .i64 (S k).1 ∧ m = .int .i64 ((S k).2 : Nat) ∧ i = .int .i64 k ∧ Hid (∀ j, j < k → holdsV n V (ps.getD j default).cs ≠ .tuple #[.bool false, .int .i64 3]) ∧ Below w.heap.size w wr) (fun _ _ i _ => ps.length - (intOf i).toNat)
  case atStart => exact ⟨0, by omega, by rw [hS0], by rw [hS0]; rfl, rfl, Lib.hid fun j hj => absurd hj (by omega), Below.refl _ _⟩
  case round =>
    obtain ⟨k, hk, rfl, rfl, rfl, hall, hb⟩ := hrel
    have hzw := hb.size
    have HB := Lib.hid hb
    have HALL := Lib.hid hall.out
    have hle := HP.out.le k
    clear hb hall
    by_cases hlk : k < ps.length
    · obtain ⟨pb, po, rfl, hpb, q0, q1, q2, q3, q4, q5, q6⟩ := path_cells HA.out hlk
      have c0 := (HB.out.cell (p := ⟨pb, po + k * 7, none⟩) hpb).trans q0
      have c1 := (HB.out.cell (p := ⟨pb, po + k * 7 + 1, none⟩) hpb).trans q1
      have c2 := (HB.out.cell (p := ⟨pb, po + k * 7 + 2, none⟩) hpb).trans q2
      have c3 := (HB.out.cell (p := ⟨pb, po + k * 7 + 3, none⟩) hpb).trans q3
      have c4 := (HB.out.cell (p := ⟨pb, po + k * 7 + 4, none⟩) hpb).trans q4
      have c5 := (HB.out.cell (p := ⟨pb, po + k * 7 + 5, none⟩) hpb).trans q5
      have c6 := (HB.out.cell (p := ⟨pb, po + k * 7 + 6, none⟩) hpb).trans q6
      have hki : (k : Int) < ps.length := by omega
      have HBAD := Lib.hid (HP.out.bad k hlk)
      have HCX := Lib.hid (fun w' (hb : Below wr.heap.size wr w') => (HC.out w' k hlk (HB.out.trans (hb.mono hzw))).mono fun e w'' h => (⟨h.1, hb.trans (h.2.mono hb.size)⟩ : e = .returned (holdsV n V (ps.getD k default).cs) ∧ Below wr.heap.size wr w''))
      obtain ⟨g, hst⟩ := HP.out.step k hlk
      have HST := Lib.hid hst
      clear q0 q1 q2 q3 q4 q5 q6 hst
      generalize hp : ps.getD k default = p at *
      have HPK := Lib.hid hp
      obtain ⟨ca, cc, cs, st, sp, oa, oc, os, ra, rc, rs, ba, bc, bs, ia, ic, is⟩ := p
      simp only at c0 c1 c2 c3 c4 c5 c6
      simp only [PathN.v] at HCX HST HBAD
      clear hp
      by_cases hbd : holdsV n V cs = .tuple #[.bool false, .int .i64 3]
      · have htv := HBAD.out hbd
        subst htv
        rw [hbd] at HCX
        clear hbd HST
        go_wp2_with (first
          | (go_at_call 31
             refine (HCX.out _ (by first | exact Below.refl _ _ | exact (Below.refl _ _).alloc (Nat.le_refl _) _)).mono ?_
             rintro e wB ⟨rfl, hB⟩
             have HBB := Lib.hid (HB.out.trans (hB.mono hzw))
             clear hB))
        go_ret2
        exact ⟨rfl, HBB.out⟩
      · have HND := Lib.hid hbd
        rcases HST.out with ⟨hg, hs⟩ | hs
        · have HAL2 : Hid (∀ j, j < k + 1 → holdsV n V (ps.getD j default).cs ≠ .tuple #[.bool false, .int .i64 3]) := Lib.hid fun j hj => by
            by_cases e : j = k
            · subst e; rw [HPK.out]; exact HND.out
            · exact HALL.out j (by omega)
          rw [hg] at HCX
          have HSN := Lib.hid hs
          clear hg hs hbd HST HBAD
          generalize hsk : S k = s at *
          have HSK := Lib.hid hsk
          clear hsk
          obtain ⟨x, y⟩ := s
          simp only at hle HSN
          cases g with
          | false =>
            simp only [Bool.false_eq_true, if_false] at HCX HSN
            go_wp2_with (first
              | (go_at_call 31
                 refine (HCX.out _ (by first | exact Below.refl _ _ | exact (Below.refl _ _).alloc (Nat.le_refl _) _)).mono ?_
                 rintro e wB ⟨rfl, hB⟩
                 have HBB := Lib.hid (HB.out.trans (hB.mono hzw))
                 clear hB))
            go_roundw
            case rel => exact ⟨k + 1, by omega, by rw [HSN.out], by rw [HSN.out], by go_num, Lib.hid HAL2.out, HBB.out⟩
            case measure => simp [intOf] <;> omega
          | true =>
            simp only [if_true] at HCX HSN
            go_wp2_with (first
              | (go_at_call 31
                 refine (HCX.out _ (by first | exact Below.refl _ _ | exact (Below.refl _ _).alloc (Nat.le_refl _) _)).mono ?_
                 rintro e wB ⟨rfl, hB⟩
                 have HBB := Lib.hid (HB.out.trans (hB.mono hzw))
                 clear hB))
            go_roundw
            case rel => exact ⟨k + 1, by omega, by rw [HSN.out], by rw [HSN.out]; go_num, by go_num, Lib.hid HAL2.out, HBB.out⟩
            case measure => simp [intOf] <;> omega
        · exact absurd hs hbd
    · obtain rfl : k = ps.length := by omega
      by_cases h1 : (S ps.length).2 = 1
      · have htv := HP.out.one (fun k hk => HALL.out k hk) h1
        subst htv
        rw [h1]
        go_wp2_with fail
        go_ret2
        exact ⟨rfl, HB.out⟩
      · have htv := HP.out.other (fun k hk => HALL.out k hk) h1
        subst htv
        have d1 : (((S ps.length).2 : Int) != 1) = true := by simp; omega
        generalize (S ps.length).2 = y at *
        go_wp2_with fail
        go_ret2
        exact ⟨rfl, HB.out⟩
end Go.Proofs.YtjhbabgcoemecaaDoor
