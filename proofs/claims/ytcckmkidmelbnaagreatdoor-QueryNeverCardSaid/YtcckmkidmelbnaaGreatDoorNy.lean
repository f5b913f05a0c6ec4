/- Walk: Vars of the reference. -/
import Derived.Test.YtcckmkidmelbnaaGreatDoorNx
import Derived.Laws.CopyOwn
namespace Go.Proofs.YtcckmkidmelbnaaGreatDoor
open Go Go.RowKit

theorem flatI (xs : List Int) : (Lay.int .i64).flat xs = xs.map (Value.int .i64) := by
  induction xs with
  | nil => rfl
  | cons x xs ih => simp only [Lay.flat, Lay.int, List.flatMap_cons, List.map_cons] at ih ⊢; rw [ih]; rfl
/-- a list with room at a place -/
def gapL (xs : List Int) (a : Nat) : List Int := (xs ++ [0]).take (a + 1) ++ xs.drop a
def insL (xs : List Int) (a : Nat) (n : Int) : List Int := (gapL xs a).set a n
theorem gapL_len {xs : List Int} {a : Nat} (ha : a ≤ xs.length) : (gapL xs a).length = xs.length + 1 := by
  simp [gapL]; omega
theorem insL_len {xs : List Int} {a : Nat} (n : Int) (ha : a ≤ xs.length) : (insL xs a n).length = xs.length + 1 := by
  rw [insL, List.length_set, gapL_len ha]
theorem insL_mem {xs : List Int} {a : Nat} (n : Int) (ha : a ≤ xs.length) (x : Int) : x ∈ insL xs a n ↔ x ∈ xs ∨ x = n := by
  have h1 : (xs ++ [0]).take (a + 1) = xs.take a ++ [(xs ++ [0]).getD a 0] := by
    rw [take_getD 0 _ a (by simp; omega), List.take_append_of_le_length ha]
  have h2 : insL xs a n = xs.take a ++ n :: xs.drop a := by
    have hl : (xs.take a).length = a := by rw [List.length_take]; omega
    unfold insL gapL
    rw [h1, List.append_assoc, List.set_append_right _ _ (by omega), hl, Nat.sub_self]
    rfl
  rw [h2]
  simp only [List.mem_append, List.mem_cons]
  have h3 : x ∈ xs ↔ x ∈ xs.take a ∨ x ∈ xs.drop a := by
    conv => lhs; rw [← List.take_append_drop a xs]
    exact List.mem_append
  rw [h3]
  constructor
  · rintro (h | h | h)
    · exact .inl (.inl h)
    · exact .inr h
    · exact .inl (.inr h)
  · rintro ((h | h) | h)
    · exact .inl h
    · exact .inr (.inr h)
    · exact .inr (.inl h)
theorem Own.gap {w : World} {base g m cap : Nat} {xs : List Int} (h : (Lay.int .i64).Own 3 w base (.slice (some ⟨g, 0, none⟩) (m + 1) cap) (xs ++ [0])) (hm : xs.length = m) {a : Nat} (ha : a ≤ m) :
    ∃ cur : List Value, w.heap[g]? = some (.cells cur.toArray 3 (0, 0)) ∧ m + 1 ≤ cur.length ∧ base ≤ g ∧ m + 1 ≤ cap ∧ cap ≤ maxLen ∧ (∀ j v, ((xs.drop a).map (Value.int .i64))[j]? = some v → w.cell? ((⟨g, a, none⟩ : Addr).add j) = some v) ∧
      ∀ w', w'.heap[g]? = some (.cells (splice cur (a + 1) ((xs.drop a).map (Value.int .i64))).toArray 3 (0, 0)) → (Lay.int .i64).Own 3 w' base (.slice (some ⟨g, 0, none⟩) (m + 1) cap) (gapL xs a) := by
  subst hm
  have h' := h
  obtain ⟨hl, h | ⟨g', cap', cur, e, hg, hh, hn, hmx, hs, ht⟩⟩ := h
  · cases h.1
  · injection e with e1 e2 e3
    injection e1 with e1
    injection e1 with e1 _
    subst e1 e3
    have ht' : cur.toList.take (xs.length + 1) = (xs ++ [0]).map (Value.int .i64) := by
      rw [flatI] at ht
      simpa [Lay.int] using ht
    have hs' : cur.size = cap := by simpa [Lay.int] using hs
    have hn' : xs.length + 1 ≤ cap := by simpa using hn
    refine ⟨cur.toList, by simpa using hh, by simp; omega, hg, hn', hmx, fun j v hj => ?_, fun w' hw' => ⟨by rw [flatI]; simp [Lay.int], .inr ⟨_, _, (splice cur.toList (a + 1) ((xs.drop a).map (Value.int .i64))).toArray, by rw [gapL_len ha], hg, hw', by rw [gapL_len ha]; exact hn', hmx, ?_, ?_⟩⟩⟩
    · obtain ⟨hj1, hj2⟩ := List.getElem?_eq_some_iff.1 hj
      simp only [List.length_map, List.length_drop] at hj1
      rw [add_at]
      have := wordCell h' (t := a + j) (by simp; omega)
      rw [this, ← hj2]
      simp only [List.getElem_map, List.getElem_drop]
      rw [List.getD_eq_getElem?_getD, List.getElem?_append_left (by omega), List.getElem?_eq_getElem (by omega)]
      rfl
    · simp [splice, Lay.int]; omega
    · rw [flatI, gapL_len ha]
      have h1 : (Lay.int .i64).sz = 1 := rfl
      rw [h1, Nat.mul_one]
      unfold splice gapL
      have e2 : cur.toList.take (a + 1) = ((xs ++ [0]).take (a + 1)).map (Value.int .i64) := by
        rw [List.map_take, ← ht', List.take_take, Nat.min_eq_left (by omega)]
      rw [List.toList_toArray, e2, ← List.append_assoc, ← List.map_append]
      rw [List.take_append_of_le_length (by simp; omega)]
      exact List.take_of_length_le (by simp; omega)
theorem Own.head {w : World} {base : Nat} {v : Value} {xs : List Int} {x : Int} (h : (Lay.int .i64).Own 3 w base v (xs ++ [x])) : ∃ g cap, v = .slice (some ⟨g, 0, none⟩) (xs.length + 1) cap := by
  obtain ⟨hl, h | ⟨g, cap, cur, e, _⟩⟩ := h
  · have := h.2; simp at this
  · exact ⟨g, cap, by rw [e]; simp⟩
def VarsR' (w : World) (L : List Nd) (t : Nat) (e : Ending) (w' : World) : Prop := ∃ v xs, e = .returned (.tuple #[v, .int .i64 0]) ∧ (Lay.int .i64).Own 3 w' w.heap.size v xs ∧ (∀ n, n ∈ xs ↔ VarIn L t n) ∧ xs.length ≤ 1000 ∧ Below w.heap.size w w'
set_option maxRecDepth 100000 in
set_option maxHeartbeats 16000000 in
theorem rvars34 {w : World} {r W : Nat} {L : List Nd} (h : RV w r W L) (hvo : VOk L) (t : Nat) (ht : t < L.length) (hL : L.length ≤ 100) (tb to_ c : Nat) (htb : tb < w.heap.size) (hc : w.cell? ⟨tb, to_, none⟩ = some (.int .i64 (t : Int))) :
    Calls Tryz.prog 34 #[.pointer (some ⟨r, 0, none⟩), .slice (some ⟨tb, to_, none⟩) 1 c] w (VarsR' w L t) := by
  have HO := Lib.hid (occurs69 h t ht hL tb to_ c htb hc)
  have HV := Lib.hid h
  have HVO := Lib.hid hvo
  have HT : Hid (t < L.length) := Lib.hid ht
  obtain ⟨na, nc, hn2, _⟩ := h.nodes
  have hrl := h.low
  clear h hvo ht htb hc
  go_enter Tryz.func34, Tryz.ntmps34
  go_wp2_with fail
  refine HO.out.mono ?_
  rintro e w1 ⟨g, N, rfl, hob, hNl, hoc, hb1⟩
  have HOB := Lib.hid hob
  have HNL := Lib.hid hNl
  have HOC := Lib.hid hoc
  have HB1 := Lib.hid hb1
  have HGL : Hid (g < w1.heap.size) := Lib.hid (World.ownsRow.lt hob g rfl).2
  have hn3 := (hb1.cell (p := ⟨r, 2, none⟩) hrl).trans hn2
  have HRL : Hid (r < w1.heap.size) := Lib.hid (Nat.lt_of_lt_of_le hrl hb1.size)
  clear hob hNl hoc hb1 hn2 HO
  obtain ⟨n, hn⟩ : ∃ n, L.length = n := ⟨_, rfl⟩
  have HLN := Lib.hid hn
  rw [hn] at hn3 hL
  rw [hn]
  clear hn
  generalize hB : w1.heap.size = B at *
  have HBB := Lib.hid hB
  clear hB
  go_wp2_with fail
  go_loopw [8, 9] (fun v i wr => ∃ (k : Nat) (xs : List Int), k ≤ n ∧ i = .int .i64 k ∧ Hid ((Lay.int .i64).Own 3 wr B v xs) ∧ Hid (Coll L N k xs) ∧ Hid (Below B w1 wr)) (fun _ i _ => n - (intOf i).toNat)
  case atStart => exact ⟨0, [], by omega, rfl, Lib.hid (Lay.Own.nil _ _), Lib.hid (Coll.nil _ _), Lib.hid (Below.refl _ _)⟩
  case round =>
    obtain ⟨k, xs, hk, rfl, HOW, HCO, HBE⟩ := hrel
    by_cases hkn : k < n
    · have hki : (k : Int) < n := by omega
      have hcl := (HBE.out.cell (p := ⟨g, k, none⟩) HGL.out).trans (boolCell HOB.out (t := k) (by rw [HNL.out, HLN.out]; exact hkn))
      cases hNk : N.getD k false with
      | false =>
        rw [hNk] at hcl
        have HSK := Lib.hid (HCO.out.skip (fun h => by rw [hNk] at h; cases h.1))
        clear hNk
        go_wp2_with fail
        go_roundw
        case rel => exact ⟨k + 1, xs, by omega, by go_num, HOW, HSK, HBE⟩
        case measure => simp [intOf] <;> omega
      | true =>
        rw [hNk] at hcl
        have HNK := Lib.hid hNk
        have hv := HV.out.below (HB1.out.trans (HBE.out.mono (by rw [← HBB.out]; exact HB1.out.size)))
        obtain ⟨na', nc', e1, hnd⟩ := hv.nodes
        obtain ⟨b, ha, hc, e2, _, y0, y1, _⟩ := hnd k (by rw [HLN.out]; exact hkn)
        have e3 := (HBE.out.cell (p := ⟨r, 2, none⟩) HRL.out).trans hn3
        rw [e1] at e3
        injection e3 with e3
        injection e3 with e4 e5 e6
        subst e2 e6
        rw [HLN.out] at e1
        have HVK := Lib.hid (HVO.out k)
        have HOPN : Hid ((L.getD k default).op = 1 → N.getD k false = true → ∀ ys : List Int, (∀ x, x ∈ ys ↔ x ∈ xs ∨ x = (((L.getD k default).num : Nat) : Int)) → ys.length = xs.length + 1 → Coll L N (k + 1) ys) := Lib.hid fun h1 h2 ys h3 h4 => HCO.out.take h2 h1 h3 h4
        have HSKP : Hid ((L.getD k default).op ≠ 1 → Coll L N (k + 1) xs) := Lib.hid fun h => HCO.out.skip fun h' => h h'.2
        clear hnd hv e4 e5
        clear hNk
        generalize (L.getD k default).op = op at *
        generalize (L.getD k default).num = num at *
        by_cases hop : op = 1
        · subst hop
          have hnum := HVK.out rfl
          have HTK := Lib.hid (HOPN.out rfl HNK.out)
          have hm := HCO.out.len
          obtain ⟨a1, c1, e9, hat, hlc, hcm⟩ := HOW.out.at_ (d := 0)
          obtain ⟨m, hml⟩ : ∃ m, xs.length = m := ⟨_, rfl⟩
          have HML := Lib.hid hml
          rw [hml] at e9 hm hlc
          subst e9
          have HAT := Lib.hid hat
          have hm64 : m ≤ 100 := by omega
          have hnw : (num : Int) < 9223372036854775808 := by omega
          clear hml hat HVK HOPN HSKP
          go_wp2_with fail
          go_loop [11] (fun i => ∃ a : Nat, a ≤ m ∧ i = .int .i64 a) (fun i => (intOf i).toNat)
          case atStart => exact ⟨m, by omega, rfl⟩
          case round =>
            obtain ⟨a, ha, rfl⟩ := hrel
            have ha64 : a ≤ 100 := by omega
            by_cases ha0 : (0 : Int) < a
            · obtain ⟨p, rfl⟩ : ∃ p, a = p + 1 := ⟨a - 1, by omega⟩
              obtain ⟨ob, oo, rfl, hobl, o0⟩ := HAT.out.int (i := p) (by have := HML.out; omega)
              have hlo : (p : Int) < m := by omega
              clear ha0
              generalize xs.getD p 0 = x at *
              by_cases hx : (num : Int) < x
              · go_wp2_with fail
                go_round
                case rel => exact ⟨p, by omega, by go_num⟩
                case measure => simp [intOf] <;> omega
              · have hx' : decide ((num : Int) < x) = false := by simpa using hx
                go_wp2_with (at_builtin; refine app_lay_new_g Tryz.elemI [(0 : Int)] rfl _ _ rfl rfl HOW.out rfl (by first | rfl | simp) rfl (by have := HML.out; omega) (by have := HBE.out.size; have := HBB.out; omega) ?_)
                intro v5 w5 r1 r2
                obtain ⟨g5, c5, rfl⟩ := Own.head r1
                rw [HML.out] at r1 ⊢
                have HB5 := Lib.hid (HBE.out.trans r2)
                obtain ⟨cur, q1, q2, q3, q4, q5, q6, q7⟩ := Own.gap r1 HML.out (a := p + 1) (by omega)
                have HQ1 : Hid (w5.drew.heap[g5]? = some (.cells cur.toArray 3 (0, 0))) := Lib.hid q1
                have HQ6 : Hid (∀ j v, ((xs.drop (p + 1)).map (Value.int .i64))[j]? = some v → w5.drew.cell? ((⟨g5, p + 1, none⟩ : Addr).add j) = some v) := Lib.hid fun j v hj => (World.cell?_of_block rfl).trans (q6 j v hj)
                obtain ⟨q, hq⟩ : ∃ q, q = p + 1 + 1 := ⟨_, rfl⟩
                rw [← hq] at q7
                have HQ7 := Lib.hid q7
                have HQ2 := Lib.hid q2
                have HQ3 := Lib.hid q3
                have hwr : IntKind.i64.wrap (((p : Int) + 1) + 1) = (q : Int) := by rw [IntWalk.i64_in _ (by omega)]; omega
                have HQQ := Lib.hid hq
                have htz : ((p : Int) + 1).toNat = p + 1 := by omega
                have hpp : (0 : Int) ≤ (p : Int) + 1 := by omega
                have hne2 : ¬ (c5 = p + 1) := by omega
                clear r1 r2 q1 q6 q7 q2 q3 HOW HAT
                rcases Nat.lt_or_ge (p + 1) m with ham | ham
                · have hcc1 : (q : Int) ≤ (m : Int) + 1 := by omega
                  have haj : ((p : Int) + 1) ≤ (m : Int) + 1 := by omega
                  have hne1 : ¬ (c5 = q) := by omega
                  clear hq q4 q5
                  go_wp2_with fail
                  go_region_law (refine step_copy_splice rfl (.tmp 73) (.tmp 76) 24 24 rfl 3 Tryz.underlying24 (by kernel_rfl) (some ⟨g5, q, none⟩) (some ⟨g5, p + 1, none⟩) (m + 1 - q) (c5 - q) (m - p) (c5 - (p + 1)) (by first | (simp [Act.eval, Act.put]; done) | (simp [Act.eval, Act.put]; omega)) (by first | (simp [Act.eval, Act.put]; done) | (simp [Act.eval, Act.put]; omega)) g5 q cur 3 HQ1.out ((xs.drop (p + 1)).map (Value.int .i64)) (by rw [List.length_map, List.length_drop, HML.out]; show _ = min _ _; have := HQQ.out; omega) (fun _ => ⟨rfl, _, rfl, HQ6.out⟩) (by rw [List.length_map, List.length_drop, HML.out]; have := HQ2.out; have := HQQ.out; omega) (by intro v hv; obtain ⟨x, _, rfl⟩ := List.mem_map.1 hv; rfl) B w1 HB5.out.drew HQ3.out ?_; intro w6 hg6 hb6)
                  generalize goInt ((List.drop (p + 1) xs).map (Value.int .i64)).length = z77
                  have HB6 := Lib.hid hb6
                  have HO6 := Lib.hid (HQ7.out w6 hg6.out)
                  obtain ⟨o1, o2, hfz⟩ := HO6.out.put1 rfl (by rw [gapL_len (by have := HML.out; omega), HML.out]) (x := (num : Int)) (u := .int .i64 (num : Int)) rfl (p + 1)
                  have hcz := wordCell HO6.out (t := p + 1) (by rw [gapL_len (by have := HML.out; omega), HML.out]; omega)
                  have HO7 := Lib.hid o1
                  have HB7 := Lib.hid (HB6.out.grown o2 (by have := HB6.out.size; have := HBB.out; omega) (fun q hq => by injection hq with hq; have := HQ3.out; omega))
                  have HCC := Lib.hid (HTK.out (insL xs (p + 1) num) (fun x => insL_mem _ (by have := HML.out; omega) x) (insL_len _ (by have := HML.out; omega)))
                  clear o1 o2 hg6 hb6
                  go_wp2_with fail
                  go_roundw
                  case rel => exact ⟨k + 1, insL xs (p + 1) num, by omega, by go_num, HO7, HCC, HB7⟩
                  case measure => simp [intOf] <;> omega
                · obtain rfl : m = p + 1 := by omega
                  have hcc1 : (q : Int) ≤ ((p : Int) + 1) + 1 := by omega
                  have hcc2 : q ≤ p + 1 + 1 := by omega
                  have haj : ((p : Int) + 1) ≤ ((p : Int) + 1) + 1 := by omega
                  by_cases hcq : c5 = q
                  · clear hq q4 q5
                    subst hcq
                    go_wp2_with fail
                    go_region_law (refine step_copy_splice rfl (.tmp 73) (.tmp 76) 24 24 rfl 3 Tryz.underlying24 (by kernel_rfl) (some ⟨g5, 0, none⟩) (some ⟨g5, p + 1, none⟩) (p + 1 + 1 - c5) 0 1 (c5 - (p + 1)) (by first | (simp [Act.eval, Act.put]; done) | (simp [Act.eval, Act.put]; omega)) (by first | (simp [Act.eval, Act.put]; done) | (simp [Act.eval, Act.put]; omega)) g5 c5 cur 3 HQ1.out ((xs.drop (p + 1)).map (Value.int .i64)) (by rw [List.length_map, List.length_drop, HML.out]; show _ = min _ _; have := HQQ.out; omega) (fun h => by exfalso; rw [List.length_map, List.length_drop, HML.out] at h; omega) (by rw [List.length_map, List.length_drop, HML.out]; have := HQ2.out; have := HQQ.out; omega) (by intro v hv; obtain ⟨x, _, rfl⟩ := List.mem_map.1 hv; rfl) B w1 HB5.out.drew HQ3.out ?_; intro w6 hg6 hb6)
                    generalize goInt ((List.drop (p + 1) xs).map (Value.int .i64)).length = z77
                    have HB6 := Lib.hid hb6
                    have HO6 := Lib.hid (HQ7.out w6 hg6.out)
                    obtain ⟨o1, o2, hfz⟩ := HO6.out.put1 rfl (by rw [gapL_len (by have := HML.out; omega), HML.out]) (x := (num : Int)) (u := .int .i64 (num : Int)) rfl (p + 1)
                    have hcz := wordCell HO6.out (t := p + 1) (by rw [gapL_len (by have := HML.out; omega), HML.out]; omega)
                    have HO7 := Lib.hid o1
                    have HB7 := Lib.hid (HB6.out.grown o2 (by have := HB6.out.size; have := HBB.out; omega) (fun q hq => by injection hq with hq; have := HQ3.out; omega))
                    have HCC := Lib.hid (HTK.out (insL xs (p + 1) num) (fun x => insL_mem _ (by have := HML.out; omega) x) (insL_len _ (by have := HML.out; omega)))
                    clear o1 o2 hg6 hb6
                    go_wp2_with fail
                    go_roundw
                    case rel => exact ⟨k + 1, insL xs (p + 1) num, by omega, by go_num, HO7, HCC, HB7⟩
                    case measure => simp [intOf] <;> omega
                  · clear hq q4 q5
                    go_wp2_with fail
                    go_region_law (refine step_copy_splice rfl (.tmp 73) (.tmp 76) 24 24 rfl 3 Tryz.underlying24 (by kernel_rfl) (some ⟨g5, q, none⟩) (some ⟨g5, p + 1, none⟩) (p + 1 + 1 - q) (c5 - q) 1 (c5 - (p + 1)) (by first | (simp [Act.eval, Act.put]; done) | (simp [Act.eval, Act.put]; omega)) (by first | (simp [Act.eval, Act.put]; done) | (simp [Act.eval, Act.put]; omega)) g5 q cur 3 HQ1.out ((xs.drop (p + 1)).map (Value.int .i64)) (by rw [List.length_map, List.length_drop, HML.out]; show _ = min _ _; have := HQQ.out; omega) (fun h => by exfalso; rw [List.length_map, List.length_drop, HML.out] at h; omega) (by rw [List.length_map, List.length_drop, HML.out]; have := HQ2.out; have := HQQ.out; omega) (by intro v hv; obtain ⟨x, _, rfl⟩ := List.mem_map.1 hv; rfl) B w1 HB5.out.drew HQ3.out ?_; intro w6 hg6 hb6)
                    generalize goInt ((List.drop (p + 1) xs).map (Value.int .i64)).length = z77
                    have HB6 := Lib.hid hb6
                    have HO6 := Lib.hid (HQ7.out w6 hg6.out)
                    obtain ⟨o1, o2, hfz⟩ := HO6.out.put1 rfl (by rw [gapL_len (by have := HML.out; omega), HML.out]) (x := (num : Int)) (u := .int .i64 (num : Int)) rfl (p + 1)
                    have hcz := wordCell HO6.out (t := p + 1) (by rw [gapL_len (by have := HML.out; omega), HML.out]; omega)
                    have HO7 := Lib.hid o1
                    have HB7 := Lib.hid (HB6.out.grown o2 (by have := HB6.out.size; have := HBB.out; omega) (fun q hq => by injection hq with hq; have := HQ3.out; omega))
                    have HCC := Lib.hid (HTK.out (insL xs (p + 1) num) (fun x => insL_mem _ (by have := HML.out; omega) x) (insL_len _ (by have := HML.out; omega)))
                    clear o1 o2 hg6 hb6
                    go_wp2_with fail
                    go_roundw
                    case rel => exact ⟨k + 1, insL xs (p + 1) num, by omega, by go_num, HO7, HCC, HB7⟩
                    case measure => simp [intOf] <;> omega
            · obtain rfl : a = 0 := by omega
              go_wp2_with (at_builtin; refine app_lay_new_g Tryz.elemI [(0 : Int)] rfl _ _ rfl rfl HOW.out rfl (by first | rfl | simp) rfl (by have := HML.out; omega) (by have := HBE.out.size; have := HBB.out; omega) ?_)
              intro v5 w5 r1 r2
              obtain ⟨g5, c5, rfl⟩ := Own.head r1
              rw [HML.out] at r1 ⊢
              have HB5 := Lib.hid (HBE.out.trans r2)
              obtain ⟨cur, q1, q2, q3, q4, q5, q6, q7⟩ := Own.gap r1 HML.out (a := 0) (by omega)
              have HQ1 : Hid (w5.drew.heap[g5]? = some (.cells cur.toArray 3 (0, 0))) := Lib.hid q1
              have HQ6 : Hid (∀ j v, ((xs.drop 0).map (Value.int .i64))[j]? = some v → w5.drew.cell? ((⟨g5, 0, none⟩ : Addr).add j) = some v) := Lib.hid fun j v hj => (World.cell?_of_block rfl).trans (q6 j v hj)
              obtain ⟨q, hq⟩ : ∃ q, q = 0 + 1 := ⟨_, rfl⟩
              rw [← hq] at q7
              have HQ7 := Lib.hid q7
              have HQ2 := Lib.hid q2
              have HQ3 := Lib.hid q3
              have hwr : IntKind.i64.wrap (1 : Int) = (q : Int) := by rw [IntWalk.i64_in _ (by omega)]; omega
              have HQQ := Lib.hid hq
              clear r1 r2 q1 q6 q7 q2 q3 HOW HAT
              rcases Nat.lt_or_ge 0 m with ham | ham
              · have hcc1 : (q : Int) ≤ (m : Int) + 1 := by omega
                have haj : (0 : Int) ≤ (m : Int) + 1 := by omega
                have hne1 : ¬ (c5 = q) := by omega
                clear hq q4 q5
                go_wp2_with fail
                go_region_law (refine step_copy_splice rfl (.tmp 73) (.tmp 76) 24 24 rfl 3 Tryz.underlying24 (by kernel_rfl) (some ⟨g5, q, none⟩) (some ⟨g5, 0, none⟩) (m + 1 - q) (c5 - q) (m + 1) c5 (by first | (simp [Act.eval, Act.put]; done) | (simp [Act.eval, Act.put]; omega)) (by first | (simp [Act.eval, Act.put]; done) | (simp [Act.eval, Act.put]; omega)) g5 q cur 3 HQ1.out ((xs.drop 0).map (Value.int .i64)) (by rw [List.length_map, List.length_drop, HML.out]; show _ = min _ _; have := HQQ.out; omega) (fun _ => ⟨rfl, _, rfl, HQ6.out⟩) (by rw [List.length_map, List.length_drop, HML.out]; have := HQ2.out; have := HQQ.out; omega) (by intro v hv; obtain ⟨x, _, rfl⟩ := List.mem_map.1 hv; rfl) B w1 HB5.out.drew HQ3.out ?_; intro w6 hg6 hb6)
                generalize goInt ((List.drop 0 xs).map (Value.int .i64)).length = z77
                have HB6 := Lib.hid hb6
                have HO6 := Lib.hid (HQ7.out w6 hg6.out)
                obtain ⟨o1, o2, hfz⟩ := HO6.out.put1 rfl (by rw [gapL_len (by have := HML.out; omega), HML.out]) (x := (num : Int)) (u := .int .i64 (num : Int)) rfl 0
                have hcz := wordCell HO6.out (t := 0) (by rw [gapL_len (by have := HML.out; omega), HML.out]; omega)
                have HO7 := Lib.hid o1
                have HB7 := Lib.hid (HB6.out.grown o2 (by have := HB6.out.size; have := HBB.out; omega) (fun q hq => by injection hq with hq; have := HQ3.out; omega))
                have HCC := Lib.hid (HTK.out (insL xs 0 num) (fun x => insL_mem _ (by have := HML.out; omega) x) (insL_len _ (by have := HML.out; omega)))
                clear o1 o2 hg6 hb6
                go_wp2_with fail
                go_roundw
                case rel => exact ⟨k + 1, insL xs 0 num, by omega, by go_num, HO7, HCC, HB7⟩
                case measure => simp [intOf] <;> omega
              · obtain rfl : m = 0 := by omega
                have hcc1 : (q : Int) ≤ 1 := by omega
                have hcc2 : q ≤ 0 + 1 := by omega
                have haj : (0 : Int) ≤ (0 : Int) + 1 := by omega
                by_cases hcq : c5 = q
                · clear hq q4 q5
                  subst hcq
                  go_wp2_with fail
                  go_region_law (refine step_copy_splice rfl (.tmp 73) (.tmp 76) 24 24 rfl 3 Tryz.underlying24 (by kernel_rfl) (some ⟨g5, 0, none⟩) (some ⟨g5, 0, none⟩) (1 - c5) 0 1 c5 (by first | (simp [Act.eval, Act.put]; done) | (simp [Act.eval, Act.put]; omega)) (by first | (simp [Act.eval, Act.put]; done) | (simp [Act.eval, Act.put]; omega)) g5 c5 cur 3 HQ1.out ((xs.drop 0).map (Value.int .i64)) (by rw [List.length_map, List.length_drop, HML.out]; show _ = min _ _; have := HQQ.out; omega) (fun h => by exfalso; rw [List.length_map, List.length_drop, HML.out] at h; omega) (by rw [List.length_map, List.length_drop, HML.out]; have := HQ2.out; have := HQQ.out; omega) (by intro v hv; obtain ⟨x, _, rfl⟩ := List.mem_map.1 hv; rfl) B w1 HB5.out.drew HQ3.out ?_; intro w6 hg6 hb6)
                  generalize goInt ((List.drop 0 xs).map (Value.int .i64)).length = z77
                  have HB6 := Lib.hid hb6
                  have HO6 := Lib.hid (HQ7.out w6 hg6.out)
                  obtain ⟨o1, o2, hfz⟩ := HO6.out.put1 rfl (by rw [gapL_len (by have := HML.out; omega), HML.out]) (x := (num : Int)) (u := .int .i64 (num : Int)) rfl 0
                  have hcz := wordCell HO6.out (t := 0) (by rw [gapL_len (by have := HML.out; omega), HML.out]; omega)
                  have HO7 := Lib.hid o1
                  have HB7 := Lib.hid (HB6.out.grown o2 (by have := HB6.out.size; have := HBB.out; omega) (fun q hq => by injection hq with hq; have := HQ3.out; omega))
                  have HCC := Lib.hid (HTK.out (insL xs 0 num) (fun x => insL_mem _ (by have := HML.out; omega) x) (insL_len _ (by have := HML.out; omega)))
                  clear o1 o2 hg6 hb6
                  go_wp2_with fail
                  go_roundw
                  case rel => exact ⟨k + 1, insL xs 0 num, by omega, by go_num, HO7, HCC, HB7⟩
                  case measure => simp [intOf] <;> omega
                · clear hq q4 q5
                  go_wp2_with fail
                  go_region_law (refine step_copy_splice rfl (.tmp 73) (.tmp 76) 24 24 rfl 3 Tryz.underlying24 (by kernel_rfl) (some ⟨g5, q, none⟩) (some ⟨g5, 0, none⟩) (1 - q) (c5 - q) 1 c5 (by first | (simp [Act.eval, Act.put]; done) | (simp [Act.eval, Act.put]; omega)) (by first | (simp [Act.eval, Act.put]; done) | (simp [Act.eval, Act.put]; omega)) g5 q cur 3 HQ1.out ((xs.drop 0).map (Value.int .i64)) (by rw [List.length_map, List.length_drop, HML.out]; show _ = min _ _; have := HQQ.out; omega) (fun h => by exfalso; rw [List.length_map, List.length_drop, HML.out] at h; omega) (by rw [List.length_map, List.length_drop, HML.out]; have := HQ2.out; have := HQQ.out; omega) (by intro v hv; obtain ⟨x, _, rfl⟩ := List.mem_map.1 hv; rfl) B w1 HB5.out.drew HQ3.out ?_; intro w6 hg6 hb6)
                  generalize goInt ((List.drop 0 xs).map (Value.int .i64)).length = z77
                  have HB6 := Lib.hid hb6
                  have HO6 := Lib.hid (HQ7.out w6 hg6.out)
                  obtain ⟨o1, o2, hfz⟩ := HO6.out.put1 rfl (by rw [gapL_len (by have := HML.out; omega), HML.out]) (x := (num : Int)) (u := .int .i64 (num : Int)) rfl 0
                  have hcz := wordCell HO6.out (t := 0) (by rw [gapL_len (by have := HML.out; omega), HML.out]; omega)
                  have HO7 := Lib.hid o1
                  have HB7 := Lib.hid (HB6.out.grown o2 (by have := HB6.out.size; have := HBB.out; omega) (fun q hq => by injection hq with hq; have := HQ3.out; omega))
                  have HCC := Lib.hid (HTK.out (insL xs 0 num) (fun x => insL_mem _ (by have := HML.out; omega) x) (insL_len _ (by have := HML.out; omega)))
                  clear o1 o2 hg6 hb6
                  go_wp2_with fail
                  go_roundw
                  case rel => exact ⟨k + 1, insL xs 0 num, by omega, by go_num, HO7, HCC, HB7⟩
                  case measure => simp [intOf] <;> omega
        · have hop' : ((op : Int) != 1) = true := by simp; omega
          have HSK := Lib.hid (HSKP.out hop)
          clear hop HSKP HOPN HVK
          go_wp2_with fail
          go_roundw
          case rel => exact ⟨k + 1, xs, by omega, by go_num, HOW, HSK, HBE⟩
          case measure => simp [intOf] <;> omega
    · obtain rfl : k = n := by omega
      have HDN : Hid (∀ x, x ∈ xs ↔ VarIn L t x) := Lib.hid fun x => (by have := HCO.out; rw [← HLN.out] at this; exact this : Coll L N L.length xs).done HV.out.ok HT.out HOC.out x
      have HXL := Lib.hid HCO.out.len
      go_wp2_with fail
      go_ret2
      exact ⟨_, xs, rfl, HOW.out.lower (by rw [← HBB.out]; exact HB1.out.size), HDN.out, by have := HXL.out; omega, HB1.out.trans (HBE.out.mono (by rw [← HBB.out]; exact HB1.out.size))⟩
end Go.Proofs.YtcckmkidmelbnaaGreatDoor
