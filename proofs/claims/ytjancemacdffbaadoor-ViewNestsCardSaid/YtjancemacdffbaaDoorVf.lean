/- Walks of package view (part 5): Inputs. -/
import Derived.Test.YtjancemacdffbaaDoorVe
import Derived.Outline
import Derived.Deep.CutBlock
namespace Go.Proofs.YtjancemacdffbaaDoor
open Go.RowKit

/-- lists of inputs in memory -/
def RowsAt (w : World) (a : Option Addr) (rows : List (List Int)) : Prop :=
  ∀ i, i < rows.length → ∃ b o a' cap', a = some ⟨b, o, none⟩ ∧ b < w.heap.size ∧ w.cell? ⟨b, o + i, none⟩ = some (.slice a' (rows.getD i []).length cap') ∧ (Lay.int .u64).At 0 w a' (rows.getD i []) ∧ (rows.getD i []).length ≤ cap' ∧ cap' ≤ 9223372036854775807
theorem RowsAt.nil {w : World} {a : Option Addr} : RowsAt w a [] := fun i hi => by simp at hi
theorem RowsAt.below {w w' : World} {a : Option Addr} {rows : List (List Int)} (h : RowsAt w a rows) (hb : Below w.heap.size w w') : RowsAt w' a rows := fun i hi => by
  obtain ⟨b, o, a', c', e, h0, h1, h2, h3⟩ := h i hi
  exact ⟨b, o, a', c', e, Nat.lt_of_lt_of_le h0 hb.size, (hb.cell (p := ⟨b, _, none⟩) h0).trans h1, h2.below hb, h3⟩
def RowsOk (rows : List (List Int)) : Prop := ∀ r ∈ rows, r.length ≤ 100000 ∧ ∀ v ∈ r, (Lit.int .u64 v).wf = true
theorem getD_mem {α : Type} (d : α) (xs : List α) (i : Nat) (h : i < xs.length) : xs.getD i d ∈ xs := by
  rw [List.getD_eq_getElem?_getD, List.getElem?_eq_getElem h]; exact List.getElem_mem h
theorem getD_ge {α : Type} (d : α) (xs : List α) (i : Nat) (h : xs.length ≤ i) : xs.getD i d = d := by
  rw [List.getD_eq_getElem?_getD, List.getElem?_eq_none h]; rfl

theorem RowsOk.len {rows : List (List Int)} (h : RowsOk rows) (c : Nat) : (rows.getD c []).length ≤ 100000 := by
  by_cases hc : c < rows.length
  · exact (h _ (getD_mem [] rows c hc)).1
  · rw [getD_ge _ _ _ (by omega)]; simp

/-- two rows hold the same, with zeros at their ends -/
def sameRow (ra rb : List Int) : Bool := (List.range (max ra.length rb.length)).all fun i => ra.getD i 0 == rb.getD i 0
theorem sameRow_iff (ra rb : List Int) : sameRow ra rb = true ↔ ∀ i, ra.getD i 0 = rb.getD i 0 := by
  unfold sameRow
  rw [List.all_eq_true]
  constructor
  · intro h i
    by_cases hi : i < max ra.length rb.length
    · exact beq_iff_eq.1 (h i (List.mem_range.2 hi))
    · rw [getD_ge _ _ _ (by omega), getD_ge _ _ _ (by omega)]
  · intro h i _
    exact beq_iff_eq.2 (h i)
/-- a channel agrees for a level -/
def chanOk (n : Nat) (up : Nat → Nat) (level : Int) (xs : List Int) (A B : List (List Int)) (c : Nat) : Bool := !leB n up (xs.getD c 0) level || sameRow (A.getD c []) (B.getD c [])
/-- what Inputs returns -/
def inR (n : Nat) (up : Nat → Nat) (level : Int) (xs : List Int) (A B : List (List Int)) : Bool × Int :=
  if !mayB n level xs || decide (xs.length < A.length) || decide (xs.length < B.length) then (false, 3) else ((List.range xs.length).all (chanOk n up level xs A B), 0)
def InPost (w : World) (r : Bool × Int) (e : Ending) (w' : World) : Prop := e = .returned (.tuple #[.bool r.1, .int .i64 r.2]) ∧ Below w.heap.size w w'

/-- what a map holds that was filled with a row, from k on -/
def rowF (r : List Int) (k m : Nat) : Int → Int := fun x => if (k : Int) ≤ x ∧ x < m then r.getD x.toNat 0 else 0

theorem rowF_step (r : List Int) (j : Nat) : updI (rowF r 0 j) j (r.getD j 0) = rowF r 0 (j + 1) := by
  funext x
  unfold updI rowF
  by_cases e : x = j
  · subst e; rw [if_pos rfl, if_pos (by omega), Int.toNat_natCast]
  · rw [if_neg e]
    by_cases h : ((0 : Nat) : Int) ≤ x ∧ x < j
    · rw [if_pos h, if_pos (by omega)]
    · rw [if_neg h, if_neg (by omega)]
theorem rowF_drop (r : List Int) (j m : Nat) : updI (rowF r j m) j 0 = rowF r (j + 1) m := by
  funext x
  unfold updI rowF
  by_cases e : x = j
  · subst e; rw [if_pos rfl, if_neg (by omega)]
  · rw [if_neg e]
    by_cases h : (j : Int) ≤ x ∧ x < m
    · rw [if_pos h, if_pos (by omega)]
    · rw [if_neg h, if_neg (by omega)]
theorem rowF_zero (r : List Int) : (fun _ => 0) = rowF r 0 0 := by
  funext x; unfold rowF; rw [if_neg (by omega)]
theorem rowF_at (r : List Int) (j : Nat) : rowF r j r.length j = r.getD j 0 := by
  unfold rowF
  by_cases h : j < r.length
  · rw [if_pos (by omega), Int.toNat_natCast]
  · rw [if_neg (by omega), getD_ge _ _ _ (by omega)]
theorem inR_false {n : Nat} {up : Nat → Nat} {level : Int} {xs : List Int} {A B : List (List Int)} {c : Nat} (hm : mayB n level xs = true) (ha : A.length ≤ xs.length) (hb : B.length ≤ xs.length) (hc : c < xs.length) (h : chanOk n up level xs A B c = false) :
    inR n up level xs A B = (false, 0) := by
  unfold inR
  have h1 : decide (xs.length < A.length) = false := by simp; omega
  have h2 : decide (xs.length < B.length) = false := by simp; omega
  rw [hm, h1, h2, range_all_false hc h]; rfl
theorem inR_true {n : Nat} {up : Nat → Nat} {level : Int} {xs : List Int} {A B : List (List Int)} (hm : mayB n level xs = true) (ha : A.length ≤ xs.length) (hb : B.length ≤ xs.length) (h : ∀ c, c < xs.length → chanOk n up level xs A B c = true) :
    inR n up level xs A B = (true, 0) := by
  unfold inR
  have h1 : decide (xs.length < A.length) = false := by simp; omega
  have h2 : decide (xs.length < B.length) = false := by simp; omega
  have h3 : (List.range xs.length).all (chanOk n up level xs A B) = true := List.all_eq_true.2 fun c hc => h c (List.mem_range.1 hc)
  rw [hm, h1, h2, h3]; rfl
theorem chan_false {n : Nat} {up : Nat → Nat} {level : Int} {xs : List Int} {A B : List (List Int)} {c : Nat} (hl : leB n up (xs.getD c 0) level = true) {i : Nat} (h : (A.getD c []).getD i 0 ≠ (B.getD c []).getD i 0) : chanOk n up level xs A B c = false := by
  unfold chanOk
  rw [hl]
  cases e : sameRow (A.getD c []) (B.getD c []) with
  | false => rfl
  | true => exact absurd ((sameRow_iff _ _).1 e i) h
theorem chan_true {n : Nat} {up : Nat → Nat} {level : Int} {xs : List Int} {A B : List (List Int)} {c : Nat} (h : ∀ i, (A.getD c []).getD i 0 = (B.getD c []).getD i 0) : chanOk n up level xs A B c = true := by
  unfold chanOk
  rw [(sameRow_iff _ _).2 h]; simp

set_option maxHeartbeats 4000000 in
set_option maxRecDepth 100000 in
theorem inputs_any (b n : Nat) (up dn : Nat → Nat) (level : Int) (a : Option Addr) (len cap : Nat) (xs : List Int) (aa : Option Addr) (alen acap : Nat) (A : List (List Int)) (ba : Option Addr) (blen bcap : Nat) (B : List (List Int)) (w : World)
    (hL : LatC w b n up dn) (hlen : xs.length = len) (hat : (Lay.int .i64).At 0 w a xs) (hcap : a = none → cap = 0) (hsm : len ≤ 10000)
    (hal : A.length = alen) (hA : RowsAt w aa A) (hAo : RowsOk A) (hbl : B.length = blen) (hB : RowsAt w ba B) (hBo : RowsOk B) :
    Calls Tryd.prog 42 #[.pointer (some ⟨b, 0, none⟩), .int .i64 level, .slice a len cap, .slice aa alen acap, .slice ba blen bcap] w (InPost w (inR n up level xs A B)) := by
  have HL := Lib.hid hL
  have HLEN := Lib.hid hlen
  have HAT := Lib.hid hat
  have HCAP := Lib.hid hcap
  have HAL := Lib.hid hal
  have HA := Lib.hid hA
  have HAO := Lib.hid hAo
  have HBL := Lib.hid hbl
  have HB := Lib.hid hB
  have HBO := Lib.hid hBo
  clear hL hlen hat hcap hal hA hAo hbl hB hBo
  go_enter Tryd.func42, Tryd.ntmps42
  go_wp2_with fail
  refine (may_any b n level a len cap xs _ HLEN.out HAT.out HCAP.out hsm HL.out.hn).mono ?_
  rintro e w1 ⟨rfl, hb1⟩
  cases hm : mayB n level xs with
  | false =>
    have HR : Hid (inR n up level xs A B = (false, 3)) := by show _ = _; unfold inR; rw [hm]; rfl
    clear hm
    go_wp2_with fail
    go_ret2
    exact ⟨by rw [HR.out]; rfl, hb1⟩
  | true =>
    have HM := Lib.hid hm
    clear hm
    by_cases ha2 : len < alen
    · have HR : Hid (inR n up level xs A B = (false, 3)) := by show _ = _; unfold inR; rw [HM.out, HLEN.out, HAL.out, show decide (len < alen) = true by simp [ha2]]; rfl
      go_wp2_with fail
      go_ret2
      exact ⟨by rw [HR.out]; rfl, hb1⟩
    · have ha2' : decide (len < alen) = false := by simpa using ha2
      by_cases hb2 : len < blen
      · have HR : Hid (inR n up level xs A B = (false, 3)) := by show _ = _; unfold inR; rw [HM.out, HLEN.out, HAL.out, HBL.out, ha2', show decide (len < blen) = true by simp [hb2]]; rfl
        go_wp2_with fail
        go_ret2
        exact ⟨by rw [HR.out]; rfl, hb1⟩
      · have hb2' : decide (len < blen) = false := by simpa using hb2
        have HL1 := Lib.hid (HL.out.below hb1 (World.block_lt_of_cell? w _ HL.out.hn))
        have HAT1 := Lib.hid (HAT.out.below hb1)
        have HA1 := Lib.hid (HA.out.below hb1)
        have HB1 := Lib.hid (HB.out.below hb1)
        have HF := Lib.hid (fun c hc h => inR_false (n := n) (up := up) (level := level) (xs := xs) (A := A) (B := B) (c := c) HM.out (by rw [HAL.out, HLEN.out]; omega) (by rw [HBL.out, HLEN.out]; omega) hc h)
        have HTr := Lib.hid (fun h => inR_true (n := n) (up := up) (level := level) (xs := xs) (A := A) (B := B) HM.out (by rw [HAL.out, HLEN.out]; omega) (by rw [HBL.out, HLEN.out]; omega) h)
        have hbw := World.block_lt_of_cell? w1 _ HL1.out.hn
        clear HL HAT HA HB HCAP
        go_wp2_with fail
        go_loopw [43] (fun i wr => ∃ c : Nat, c ≤ len ∧ i = .int .i64 c ∧ Hid (∀ k, k < c → chanOk n up level xs A B k = true) ∧ Below w1.heap.size w1 wr) (fun i _ => len - (intOf i).toNat)
        case atStart => exact ⟨0, by omega, rfl, fun k hk => by omega, Below.refl _ _⟩
        case round =>
          obtain ⟨c, hc, rfl, hall, hbel⟩ := hrel
          by_cases hlt : c < len
          · have hcx : c < xs.length := by rw [HLEN.out]; exact hlt
            obtain ⟨pb, po, rfl, hpb, hp0⟩ := HAT1.out.int hcx
            have hp0' := (hbel.cell (p := ⟨pb, po + c, none⟩) hpb).trans hp0
            have HLe := Lib.hid (le_any b n up dn (xs.getD c 0) level wr (HL1.out.below hbel hbw))
            have hlt2 : (c : Int) < len := by omega
            clear hp0
            have hsz := hbel.size
            cases hle : leB n up (xs.getD c 0) level with
            | false =>
              have Hok : Hid (chanOk n up level xs A B c = true) := by show _ = _; unfold chanOk; rw [hle]; rfl
              rw [hle] at HLe
              clear hle
              generalize xs.getD c 0 = x at *
              go_wp2_with fail
              refine HLe.out.mono ?_
              rintro e w' ⟨rfl, rfl⟩
              go_wp2_with fail
              go_roundw
              case rel => exact ⟨c + 1, by omega, by go_num, fun k hk => if e : k = c then by rw [e]; exact Hok.out else hall k (by omega), hbel⟩
              case measure => simp [intOf]; omega
            | true =>
              have HLE := Lib.hid hle
              rw [hle] at HLe
              clear hle
              have HFc := Lib.hid (fun i h => HF.out c hcx (chan_false (A := A) (B := B) HLE.out (i := i) h))
              have HTc := Lib.hid (fun h => chan_true (n := n) (up := up) (level := level) (xs := xs) (A := A) (B := B) (c := c) h)
              generalize xs.getD c 0 = x at *
              go_wp2_with fail
              refine HLe.out.mono ?_
              rintro e w' ⟨rfl, rfl⟩
              have hmm := @run_makeMap Tryd.prog
              have hM0 := MapF.made wr
              have BM : Below w1.heap.size w1 (wr.alloc (.map #[] 0)) := hbel.alloc hsz _
              have hML : wr.heap.size < (wr.alloc (.map #[] 0)).heap.size := by simp
              go_upto_if 58 with (fail)
              clear hmm
              generalize wr.alloc (.map #[] 0) = w2 at *
              generalize wr.heap.size = M at *
              clear hbel HLe hp0'
              go_cut [] (fun wx => MapF wx M 100000 (rowF (A.getD c []) 0 (A.getD c []).length) ∧ Below w1.heap.size w1 wx)
              case first =>
                by_cases hca : c < alen
                · simp only [decide_eq_true hca]
                  have hcA : c < A.length := by rw [HAL.out]; exact hca
                  obtain ⟨qb, qo, ra, rc, rfl, hqb, hq0, hra, hrl, hrc⟩ := HA1.out c hcA
                  obtain ⟨hr1, hr2⟩ := HAO.out _ (getD_mem [] A c hcA)
                  have hq0' := (BM.cell (p := ⟨qb, qo + c, none⟩) hqb).trans hq0
                  have HRA := Lib.hid hra
                  have HR2 := Lib.hid hr2
                  have hca2 : (c : Int) < alen := by omega
                  clear hq0 hra hr2 hcA
                  generalize A.getD c [] = r at *
                  go_wp2_with fail
                  go_loopw [64] (fun i wr => ∃ j : Nat, j ≤ r.length ∧ i = .int .i64 j ∧ MapF wr M j (rowF r 0 j) ∧ Below w1.heap.size w1 wr) (fun i _ => r.length - (intOf i).toNat)
                  case atStart => exact ⟨0, by omega, rfl, by rw [← rowF_zero]; exact hM0, BM⟩
                  case round =>
                    clear hM0 BM hq0'
                    obtain ⟨j, hj, rfl, hMF, hbel⟩ := hrel
                    by_cases hltj : j < r.length
                    · obtain ⟨vb, vo, rfl, hvb, hv0⟩ := HRA.out.int hltj
                      have hv0' := (hbel.cell (p := ⟨vb, vo + j, none⟩) hvb).trans hv0
                      have hw := HR2.out _ (getD_mem 0 r j hltj)
                      have Hs := Lib.hid (rowF_step r j)
                      have hltj2 : (j : Int) < r.length := by omega
                      have hsz2 := hbel.size
                      clear hv0
                      generalize r.getD j 0 = v at *
                      go_wp2_with (at_mapUpdate; refine mapF_update rfl _ _ _ rfl rfl hMF (by omega) rfl rfl (wf64 (by omega) (by omega)) hw ?_)
                      intro w3 hMF' hgr
                      have hbel' := hbel.grown hgr hsz2 (fun k hk => by injection hk with hk; omega)
                      rw [Hs.out] at hMF'
                      clear hMF hgr hbel
                      go_wp2_with fail
                      go_roundw
                      case rel => exact ⟨j + 1, by omega, by go_num, hMF', hbel'⟩
                      case measure => simp [intOf]; omega
                    · obtain rfl : j = r.length := by omega
                      go_wp2_with fail
                      go_meet
                      exact ⟨hMF.mono hr1, hbel⟩
                · have hcA : A.getD c [] = [] := getD_ge _ _ _ (by rw [HAL.out]; omega)
                  have hM1 : MapF w2 M 100000 (rowF (A.getD c []) 0 (A.getD c []).length) := by rw [hcA]; exact (hM0.congr fun x _ => congrFun (rowF_zero []) x).mono (by omega)
                  clear hcA
                  go_wp2_with fail
                  go_meet
                  exact ⟨hM1, BM⟩
              case rest =>
                obtain ⟨hM1, BM1⟩ := hcut
                clear hM0 BM
                go_upto_if 76 with (fail)
                go_cut [] (fun wx => MapF wx M 100000 (rowF (A.getD c []) (B.getD c []).length (A.getD c []).length) ∧ Below w1.heap.size w1 wx ∧ Hid (∀ i, i < (B.getD c []).length → (A.getD c []).getD i 0 = (B.getD c []).getD i 0))
                case first =>
                  by_cases hcb : c < blen
                  · simp only [decide_eq_true hcb]
                    have hcB : c < B.length := by rw [HBL.out]; exact hcb
                    obtain ⟨qb, qo, ra, rc, rfl, hqb, hq0, hra, hrl, hrc⟩ := HB1.out c hcB
                    obtain ⟨hr1, hr2⟩ := HBO.out _ (getD_mem [] B c hcB)
                    have hq0' := (BM1.cell (p := ⟨qb, qo + c, none⟩) hqb).trans hq0
                    have HRA := Lib.hid hra
                    have hcb2 : (c : Int) < blen := by omega
                    clear hq0 hra hr2 hcB
                    generalize A.getD c [] = rA at *
                    generalize B.getD c [] = r at *
                    go_wp2_with fail
                    go_loopw [82] (fun i wr => ∃ j : Nat, j ≤ r.length ∧ i = .int .i64 j ∧ MapF wr M 100000 (rowF rA j rA.length) ∧ Below w1.heap.size w1 wr ∧ Hid (∀ i, i < j → rA.getD i 0 = r.getD i 0)) (fun i _ => r.length - (intOf i).toNat)
                    case atStart => exact ⟨0, by omega, rfl, hM1, BM1, fun i hi => by omega⟩
                    case round =>
                      clear hM1 BM1 hq0'
                      obtain ⟨j, hj, rfl, hMF, hbel, hag⟩ := hrel
                      by_cases hltj : j < r.length
                      · obtain ⟨vb, vo, rfl, hvb, hv0⟩ := HRA.out.int hltj
                        have hv0' := (hbel.cell (p := ⟨vb, vo + j, none⟩) hvb).trans hv0
                        have Hat := Lib.hid (rowF_at rA j)
                        have Hdr := Lib.hid (rowF_drop rA j rA.length)
                        have HFj := Lib.hid (HFc.out j)
                        have hltj2 : (j : Int) < r.length := by omega
                        have hsz2 := hbel.size
                        have Hag' := Lib.hid (fun (e : rA.getD j 0 = r.getD j 0) => (fun i hi => if h : i = j then by rw [h]; exact e else hag i (by omega) : ∀ i, i < j + 1 → rA.getD i 0 = r.getD i 0))
                        clear hv0
                        generalize rA.getD j 0 = vA at *
                        generalize r.getD j 0 = v at *
                        by_cases hvv : vA = v
                        · subst hvv
                          have hag2 := Lib.hid (Hag'.out rfl)
                          have hvv : (vA != vA) = false := by simp
                          go_wp2_with (first | (at_lookup; refine mapF_lookup rfl _ _ rfl rfl hMF rfl (wf64 (by omega) (by omega)) ?_; rw [Hat.out]) | (at_delete; refine mapF_delete rfl _ _ rfl rfl hMF rfl (wf64 (by omega) (by omega)) ?_))
                          intro w3 hMF' hgr
                          have hbel' := hbel.grown hgr hsz2 (fun k hk => by injection hk with hk; omega)
                          rw [Hdr.out] at hMF'
                          clear hMF hgr hbel
                          go_wp2_with fail
                          go_roundw
                          case rel => exact ⟨j + 1, by omega, by go_num, hMF', hbel', hag2⟩
                          case measure => simp [intOf]; omega
                        · have HRR := Lib.hid (HFj.out hvv)
                          have hvv2 : (vA != v) = true := by simpa using hvv
                          go_wp2_with (at_lookup; refine mapF_lookup rfl _ _ rfl rfl hMF rfl (wf64 (by omega) (by omega)) ?_; rw [Hat.out])
                          go_ret2
                          exact ⟨by rw [HRR.out]; rfl, hb1.trans (hbel.mono hb1.size)⟩
                      · obtain rfl : j = r.length := by omega
                        go_wp2_with fail
                        go_meet
                        exact ⟨hMF, hbel, hag⟩
                  · have hcB : B.getD c [] = [] := getD_ge _ _ _ (by rw [HBL.out]; omega)
                    have HcB := Lib.hid hcB
                    clear hcB
                    go_wp2_with fail
                    go_meet
                    rw [HcB.out]
                    exact ⟨hM1, BM1, fun i hi => by simp at hi⟩
                case rest =>
                  obtain ⟨hM2, BM2, hag⟩ := hcut
                  clear hM1 BM1
                  have hrl := HAO.out.len c
                  generalize A.getD c [] = rA at *
                  generalize B.getD c [] = rB at *
                  go_wp2_with (at_range; refine mapF_range rfl _ rfl rfl hM2 ?_)
                  intro w4 cnt4 hR4 hg4
                  have BM4 := BM2.grown hg4 BM2.size (fun k hk => by cases hk)
                  have hrw : w1.heap.size ≤ wc.heap.size := BM2.size
                  clear hM2 BM2 hg4
                  generalize wc.heap.size = R at *
                  go_wp2_with fail
                  go_loopw [] (fun wr => ∃ cnt, RangeF wr M R 100000 (rowF rA rB.length rA.length) cnt ∧ Below w1.heap.size w1 wr) (fun wr => wr.rangeLeft M R)
                  case atStart => exact ⟨cnt4, hR4, BM4⟩
                  case round =>
                    obtain ⟨cnt, hR, hbel⟩ := hrel
                    have hsz2 := hbel.size
                    clear hR4 BM4
                    go_wp2_with (at_next; refine mapF_next rfl _ rfl rfl hR ?_ ?_)
                    · intro hz
                      have Hs : Hid (∀ i, rA.getD i 0 = rB.getD i 0) := fun i => by
                        by_cases h1 : i < rB.length
                        · exact hag i h1
                        · rw [getD_ge 0 rB i (by omega)]
                          by_cases h2 : i < rA.length
                          · have := hz i (wf64 (by omega) (by omega))
                            unfold rowF at this
                            rw [if_pos (by omega), Int.toNat_natCast] at this
                            exact this
                          · exact getD_ge 0 rA i (by omega)
                      have Hok := Lib.hid (HTc.out Hs.out)
                      clear hz
                      go_wp2_with fail
                      go_roundw
                      case rel => exact ⟨c + 1, by omega, by go_num, fun k hk => if e : k = c then by rw [e]; exact Hok.out else hall k (by omega), hbel⟩
                      case measure => simp [intOf]; omega
                    · intro x w5 cnt5 hx hR5 hlt5 hg5 hen
                      have hbel5 := hbel.grown hg5 hsz2 (fun k hk => by injection hk with hk; omega)
                      by_cases h0 : rowF rA rB.length rA.length x = 0
                      · have hR6 := hR5 h0
                        rw [h0] at hen ⊢
                        clear h0 hR5 hg5 hx
                        go_wp2_with fail
                        go_roundw
                        case rel => exact ⟨cnt5, hR6, hbel5⟩
                        case measure => rw [hR6.left_eq, hR.left_eq]; exact hlt5
                      · have HRR : Hid (inR n up level xs A B = (false, 0)) := by
                          unfold rowF at h0
                          by_cases h1 : (rB.length : Int) ≤ x ∧ x < rA.length
                          · rw [if_pos h1] at h0
                            refine HFc.out x.toNat ?_
                            rw [getD_ge 0 rB _ (by omega)]
                            exact h0
                          · rw [if_neg h1] at h0
                            exact absurd rfl h0
                        have h0' : (rowF rA rB.length rA.length x != 0) = true := by simpa using h0
                        clear hR5 hg5 hx h0
                        generalize rowF rA rB.length rA.length x = y at *
                        go_wp2_with fail
                        go_ret2
                        exact ⟨by rw [HRR.out]; rfl, hb1.trans (hbel5.mono hb1.size)⟩
          · go_wp2_with fail
            go_ret2
            exact ⟨by rw [HTr.out fun k hk => hall k (by rw [HLEN.out] at hk; omega)]; rfl, hb1.trans (hbel.mono hb1.size)⟩

end Go.Proofs.YtjancemacdffbaaDoor
