/- make, and the closure of eval.All. -/
import Derived.Test.YtjhbabgcoemecaaDoorVc
import Derived.Test.YtjhbabgcoemecaaDoorGd
import Derived.OwnWalk
import Derived.Laws.OwnMore
namespace Go.Proofs.YtjhbabgcoemecaaDoor
open Go.RowKit

theorem Lay.Own.putI {k : IntKind} {e : TypeId} {w : World} {base : Nat} {v : Value} {xs : List Int} (h : (Lay.int k).Own e w base v xs) {j : Nat} (hj : j < xs.length) (x : Int) :
    ∃ g cap u, v = .slice (some ⟨g, 0, none⟩) xs.length cap ∧ base ≤ g ∧ w.cell? ⟨g, j, none⟩ = some u ∧ w.frozen? ⟨g, j, none⟩ = false ∧ (Lay.int k).Own e (w.setCell ⟨g, j, none⟩ (.int k x)) base v (xs.set j x) ∧ w.grownBy (w.setCell ⟨g, j, none⟩ (.int k x)) (some g) := by
  have h' : w.ownsRow base e 1 v xs.length ((Lay.int k).flat xs) := h
  have hfl : ((Lay.int k).flat xs).length = xs.length := by rw [Lay.flat_length]; exact Nat.mul_one _
  obtain ⟨g, cap, hv, hb⟩ : ∃ g cap, v = .slice (some ⟨g, 0, none⟩) xs.length cap ∧ base ≤ g := by
    rcases h'.2 with ⟨_, h0⟩ | ⟨g, cap, cur, hv, hb, _⟩
    · omega
    · exact ⟨g, cap, hv, hb⟩
  subst hv
  have hflat : ((Lay.int k).flat xs).set j (.int k x) = (Lay.int k).flat (xs.set j x) := by
    have e1 : ∀ ys : List Int, (Lay.int k).flat ys = ys.map (Value.int k) := fun ys => by
      induction ys with
      | nil => rfl
      | cons y ys ih => exact congrArg (Value.int k y :: ·) ih
    rw [e1, e1, List.map_set]
  obtain ⟨s1, s2⟩ := World.ownsRow.stored h' j (.int k x)
  rw [hflat] at s1
  have s3 : (Lay.int k).Own e (w.setCell ⟨g, j, none⟩ (.int k x)) base (.slice (some ⟨g, 0, none⟩) xs.length cap) (xs.set j x) := by
    unfold Lay.Own
    rw [List.length_set]; exact s1
  exact ⟨g, cap, ((Lay.int k).flat xs)[j]'(by omega), rfl, hb, by rw [World.ownsRow.cellAt h' j (by omega)]; exact List.getElem?_eq_getElem (by omega), World.ownsRow.frozenAt h' j, s3, s2⟩
theorem made_rep {α : Type} (L : Lay α) (z : Value) (d : α) (hz : z.cells.toList = L.f d) (hs : z.cells.size = L.sz) (n : Nat) : (madeCells z.cells (n * L.sz)).toList = L.flat (List.replicate n d) := by
  apply List.ext_getElem?
  intro i
  have hp := L.pos
  have hl : (L.flat (List.replicate n d)).length = n * L.sz := by rw [Lay.flat_length, List.length_replicate]
  by_cases hi : i < n * L.sz
  · have h1 : i / L.sz < n := (Nat.div_lt_iff_lt_mul hp).2 hi
    have h2 : i % L.sz < L.sz := Nat.mod_lt _ hp
    have h3 := L.flat_at d (List.replicate n d) (i / L.sz) (i % L.sz) (by rwa [List.length_replicate]) h2
    rw [show i / L.sz * L.sz + i % L.sz = i by rw [Nat.mul_comm]; exact Nat.div_add_mod i L.sz] at h3
    rw [h3, show (List.replicate n d).getD (i / L.sz) d = d by rw [List.getD_eq_getElem?_getD, List.getElem?_replicate]; split <;> rfl, ← hz]
    unfold madeCells
    rw [Array.getElem?_toList, Array.getElem?_toList, Array.getElem?_map, Array.getElem?_range, if_pos hi, hs]
    simp only [Option.map_some]
    rw [getElem!_pos z.cells (i % L.sz) (by rw [hs]; exact h2), Array.getElem?_eq_getElem (by rw [hs]; exact h2)]
  · rw [List.getElem?_eq_none (l := L.flat _) (by rw [hl]; omega), List.getElem?_eq_none (l := (madeCells _ _).toList) (by rw [Array.length_toList, size_madeCells]; omega)]

theorem make_lay {α : Type} {L : Lay α} {P : Program} {t e : TypeId} {z : Value} {bytes : Nat} (T : ElemT P L t e z bytes) (d : α) (hz : z.cells.toList = L.f d) {w : World} {ops : Array Oper} {rest : List Oper} {o : Oper} {a : Act} {Q : Exit → Act → World → Prop} (hg : o.guard = none) (l c : Operand) (hop : o.op = Op.makeSlice t l c)
    (base n : Nat) (x : Int) (hl : a.eval l = .int .i64 x) (hc : a.eval c = .int .i64 x) (hx : x = (n : Int)) (hn : n ≤ 100000) (g : Nat) (hgz : w.heap.size = g) (hb : base ≤ g)
    (hK : ∀ w', L.Own e w' base (.slice (some ⟨g, 0, none⟩) n n) (List.replicate n d) → Below base w w' → wpList P ops Q rest (a.put o.dst (.slice (some ⟨g, 0, none⟩) n n)) w') : wpList P ops Q (o :: rest) a w := by
  subst hgz
  obtain ⟨i0, hi, hz0, hz1, hz2⟩ := info_parts T.info
  have hby := T.by_
  refine wpList_make_full w hg l c t hop base e i0 z L.sz T.und hi hz0 hz1 .i64 .i64 x x n hl hc hx hx (by rw [hz2]; have : bytes * n ≤ 100 * 100000 := Nat.mul_le_mul hby hn; omega) (by unfold maxLen; omega) hb ?_
  intro w' h1 h2
  refine hK w' ?_ ((Below.refl base w).grown h2 hb (fun k hk => by cases hk))
  unfold Lay.Own
  rw [List.length_replicate, ← made_rep L z d hz T.zs n]
  exact h1

set_option maxRecDepth 100000 in
set_option maxHeartbeats 8000000 in
/-- the closure of eval.All: the value of a node -/
theorem value76 {w : World} {W i : Nat} (n : Nd) (hn : NdOk W i n) (h1 : 1 ≤ W) (h2 : W ≤ 64) {vals U : List Nat} (hU : ∀ t, U.getD t 0 < 2 ^ W) (hi : i ≤ U.length) {ha : Option Addr} {m hc : Nat} (hm : n.args.length = m) (hat : (Lay.int .i64).At 0 w ha (intsN n.args))
    {p1 p2 p3 : Nat} (l1 : p1 < w.heap.size) (l2 : p2 < w.heap.size) (l3 : p3 < w.heap.size) {av au : Option Addr} {lv cv lu cu : Nat} (hlv : vals.length = lv) (hlu : U.length = lu) (hv1 : lv ≤ 100)
    (c1 : w.cell? ⟨p1, 0, none⟩ = some (.slice av lv cv)) (c2 : w.cell? ⟨p2, 0, none⟩ = some (.int .i64 W)) (c3 : w.cell? ⟨p3, 0, none⟩ = some (.slice au lu cu))
    (hav : (Lay.int .u64).At 0 w av (intsN vals)) (hau : (Lay.int .u64).At 0 w au (intsN U)) (hsm : ∀ v ∈ vals, v < 18446744073709551616) :
    Calls Tryd.prog 76 #[.agg #[.int .u8 n.op, .int .u64 n.num, .slice ha m hc], .pointer (some ⟨p1, 0, none⟩), .pointer (some ⟨p2, 0, none⟩), .pointer (some ⟨p3, 0, none⟩)] w fun e w' => e = .returned (.int .u64 (valN W vals U n : Nat)) ∧ Below w.heap.size w w' := by
  subst hm hlv hlu
  have HAT := Lib.hid hat
  have HAV := Lib.hid hav
  have HAU := Lib.hid hau
  have HSM := Lib.hid hsm
  have HOK := Lib.hid hn
  have HU := Lib.hid hU
  clear hat hav hau hsm hn hU
  obtain ⟨op, num, args⟩ := n
  have hnum : num < 18446744073709551616 := HOK.out.2.2.1
  have hop : op ≤ 20 := HOK.out.1
  have HBA : Hid (Below w.heap.size w (w.alloc (.cells #[.int .u8 op, .int .u64 num, .slice ha args.length hc] 147))) := Lib.hid ((Below.refl _ _).alloc (Nat.le_refl _) _)
  have x0 : (w.alloc (.cells #[.int .u8 op, .int .u64 num, .slice ha args.length hc] 147)).cell? ⟨w.heap.size, 0, none⟩ = some (.int .u8 op) := by rw [World.cell?_alloc_new]; rfl
  have x1 : (w.alloc (.cells #[.int .u8 op, .int .u64 num, .slice ha args.length hc] 147)).cell? ⟨w.heap.size, 1, none⟩ = some (.int .u64 num) := by rw [World.cell?_alloc_new]; rfl
  have x2 : (w.alloc (.cells #[.int .u8 op, .int .u64 num, .slice ha args.length hc] 147)).cell? ⟨w.heap.size, 2, none⟩ = some (.slice ha args.length hc) := by rw [World.cell?_alloc_new]; rfl
  have y1 := (HBA.out.cell (p := ⟨p1, 0, none⟩) l1).trans c1
  have y2 := (HBA.out.cell (p := ⟨p2, 0, none⟩) l2).trans c2
  have y3 := (HBA.out.cell (p := ⟨p3, 0, none⟩) l3).trans c3
  by_cases ho0 : op = 0
  · subst ho0
    have HVN : Hid (valN W vals U ⟨0, num, args⟩ = num) := Lib.hid rfl
    generalize valN W vals U ⟨0, num, args⟩ = z at *
    obtain rfl := HVN.out
    go_enter Tryd.func76, Tryd.ntmps76
    go_wp2_with fail
    go_ret
    exact ⟨rfl, HBA.out⟩
  by_cases ho1 : op = 1
  · subst ho1
    by_cases hnv : num < vals.length
    · have HVN : Hid (valN W vals U ⟨1, num, args⟩ = vals.getD num 0 % 2 ^ W) := Lib.hid (by unfold valN; rw [if_neg (by simp), if_pos rfl, if_pos hnv])
      obtain ⟨vb, vo, rfl, hvb, hv0⟩ := HAV.out.int (i := num) (by rw [intsN_len]; exact hnv)
      rw [intsN_getD] at hv0
      have hvs : vals.getD num 0 < 18446744073709551616 := HSM.out _ (by rw [List.getD_eq_getElem?_getD, List.getElem?_eq_getElem hnv]; exact List.getElem_mem hnv)
      have HM := Lib.hid (fun W' => trim68 W (vals.getD num 0) W' h1 h2 hvs)
      have hni : (num : Int) < vals.length := by omega
      have hv1 := (HBA.out.cell (p := ⟨vb, vo + num, none⟩) hvb).trans hv0
      have hzA : (w.alloc (.cells #[.int .u8 1, .int .u64 num, .slice ha args.length hc] 147)).heap.size = w.heap.size + 1 := by simp
      clear hv0 HAV
      generalize vals.getD num 0 = x at *
      generalize x % 2 ^ W = z at *
      generalize valN W vals U ⟨1, num, args⟩ = z' at *
      obtain rfl := HVN.out
      have HS : Hid (∀ w', Below (w.alloc (.cells #[.int .u8 1, .int .u64 num, .slice ha args.length hc] 147)).heap.size (w.alloc (.cells #[.int .u8 1, .int .u64 num, .slice ha args.length hc] 147)) w' → w'.cell? ⟨w.heap.size, 1, none⟩ = some (.int .u64 num) ∧ w'.cell? ⟨vb, vo + num, none⟩ = some (.int .u64 (x : Int)) ∧ w'.cell? ⟨p2, 0, none⟩ = some (.int .i64 W) ∧ w'.cell? ⟨p1, 0, none⟩ = some (.slice (some ⟨vb, vo, none⟩) vals.length cv) ∧ Below (w.alloc (.cells #[.int .u8 1, .int .u64 num, .slice ha args.length hc] 147)).heap.size (w.alloc (.cells #[.int .u8 1, .int .u64 num, .slice ha args.length hc] 147)) w') := Lib.hid fun w' hb =>
        ⟨(hb.cell (p := ⟨w.heap.size, 1, none⟩) (by show w.heap.size < _; simp)).trans x1, (hb.cell (p := ⟨vb, vo + num, none⟩) (Nat.lt_of_lt_of_le hvb HBA.out.size)).trans hv1, (hb.cell (p := ⟨p2, 0, none⟩) (Nat.lt_of_lt_of_le l2 HBA.out.size)).trans y2, (hb.cell (p := ⟨p1, 0, none⟩) (Nat.lt_of_lt_of_le l1 HBA.out.size)).trans y1, hb⟩
      go_enter Tryd.func76, Tryd.ntmps76
      go_wp2_with fail
      go_region_held3 (fun w' => w'.cell? ⟨w.heap.size, 1, none⟩ = some (.int .u64 num) ∧ w'.cell? ⟨vb, vo + num, none⟩ = some (.int .u64 (x : Int)) ∧ w'.cell? ⟨p2, 0, none⟩ = some (.int .i64 W) ∧ w'.cell? ⟨p1, 0, none⟩ = some (.slice (some ⟨vb, vo, none⟩) vals.length cv) ∧ Below (w.alloc (.cells #[.int .u8 1, .int .u64 num, .slice ha args.length hc] 147)).heap.size (w.alloc (.cells #[.int .u8 1, .int .u64 num, .slice ha args.length hc] 147)) w')
        (first | exact HS.out _ (Below.refl _ _) | exact HS.out _ (Below.refl _ _).drew | exact HS.out _ (‹_ ∧ _ ∧ _ ∧ _ ∧ Below _ _ _›).2.2.2.2 | exact HS.out _ (‹_ ∧ _ ∧ _ ∧ _ ∧ Below _ _ _›).2.2.2.2.drew)
        (first
          | (go_at_call 68
             refine (HM.out _).mono ?_
             rintro e wB ⟨rfl, rfl⟩))
      all_goals
        as_aux_lemma =>
          go_wp2_with fail
          go_ret
          exact ⟨rfl, by first | exact HBA.out | exact HBA.out.drew | exact below_drewN HBA.out _⟩
    · have HVN : Hid (valN W vals U ⟨1, num, args⟩ = 0) := Lib.hid (by unfold valN; rw [if_neg (by simp), if_pos rfl, if_neg hnv])
      have hni : (vals.length : Int) ≤ num := by omega
      go_enter Tryd.func76, Tryd.ntmps76
      go_wp2_with fail
      go_ret
      exact ⟨by rw [HVN.out]; rfl, HBA.out⟩
  · have ho2 : 2 ≤ op := by omega
    have HAP : Hid ((argsOf U ⟨op, num, args⟩).length = args.length) := Lib.hid (by simp [argsOf])
    have HAG : Hid (∀ t, t < args.length → args.getD t 0 < i ∧ ((argsOf U ⟨op, num, args⟩).take t ++ List.replicate (args.length - t) 0).set t (U.getD (args.getD t 0) 0) = (argsOf U ⟨op, num, args⟩).take (t + 1) ++ List.replicate (args.length - (t + 1)) 0) := Lib.hid fun t ht => ⟨HOK.out.2.2.2.2.2.2 _ (by rw [List.getD_eq_getElem?_getD, List.getElem?_eq_getElem ht]; exact List.getElem_mem ht), by
      rw [take_snoc' 0 _ (by rw [HAP.out]; exact ht), show args.length - t = (args.length - (t + 1)) + 1 by omega, List.replicate_succ, List.set_append_right _ _ (by rw [List.length_take, HAP.out]; omega), show t - ((argsOf U ⟨op, num, args⟩).take t).length = 0 by rw [List.length_take, HAP.out]; omega, List.set_cons_zero, List.append_assoc]
      congr 2
      simp [argsOf, List.getD_eq_getElem?_getD, List.getElem?_eq_getElem ht]⟩
    have HAL : Hid (args.length ≤ 2) := Lib.hid (by rw [HOK.out.2.2.2.2.1]; simp only [arN]; (repeat' split) <;> omega)
    have hA2 := HAL.out
    have hzA : (w.alloc (.cells #[.int .u8 op, .int .u64 num, .slice ha args.length hc] 147)).heap.size = w.heap.size + 1 := by simp
    have HATA := Lib.hid (HAT.out.below HBA.out)
    have HAUA := Lib.hid (HAU.out.below HBA.out)
    have HVN : Hid (∀ (w' : World) (g : Nat), (Lay.int .u64).At 0 w' (some ⟨g, 0, none⟩) (intsN (argsOf U ⟨op, num, args⟩)) → Calls Tryd.prog 77 #[.int .u8 op, .int .i64 W, .slice (some ⟨g, 0, none⟩) args.length args.length] w' fun e W'' => e = .returned (.tuple #[.int .u64 (valN W vals U ⟨op, num, args⟩ : Nat), .int .i64 0]) ∧ Below w'.heap.size w' W'') := Lib.hid fun w' g h =>
      apply77 (n := ⟨op, num, args⟩) HOK.out ho2 h1 h2 HU.out rfl h
    clear HAT HAU x1 y1 c1 c2 c3
    generalize valN W vals U ⟨op, num, args⟩ = z at HVN ⊢
    go_enter Tryd.func76, Tryd.ntmps76
    go_wp2_with (refine make_lay Tryd.elemU 0 rfl rfl _ _ rfl (w.heap.size + 1) args.length _ rfl rfl rfl (by omega) (w.heap.size + 1) (by simp) (Nat.le_refl _) ?_)
    intro wM hoM hbM
    have z0 := (hbM.cell (p := ⟨w.heap.size, 0, none⟩) (Nat.lt_succ_self _)).trans x0
    have z2 := (hbM.cell (p := ⟨w.heap.size, 2, none⟩) (Nat.lt_succ_self _)).trans x2
    have z3 := (hbM.cell (p := ⟨p2, 0, none⟩) (Nat.lt_succ_of_lt l2)).trans y2
    have z4 := (hbM.cell (p := ⟨p3, 0, none⟩) (Nat.lt_succ_of_lt l3)).trans y3
    have HOM := Lib.hid hoM
    have HBM := Lib.hid hbM
    have HSZ := Lib.hid hbM.size
    clear x0 x2 y2 y3 hoM hbM
    generalize hub : w.heap.size = ub at *
    go_wp2_with fail
    go_loopw [45] (fun i wi => ∃ t : Nat, t ≤ args.length ∧ i = .int .i64 t ∧ Hid ((Lay.int .u64).Own 33 wi (ub + 1) (.slice (some ⟨ub + 1, 0, none⟩) args.length args.length) (intsN ((argsOf U ⟨op, num, args⟩).take t ++ List.replicate (args.length - t) 0))) ∧ Below (ub + 1) wM wi) (fun i _ => args.length - (intOf i).toNat)
    case atStart => exact ⟨0, by omega, rfl, Lib.hid (by simpa [intsN] using HOM.out), Below.refl _ _⟩
    case round =>
      obtain ⟨t, ht, rfl, hown, hbi⟩ := hrel
      have q0 := (hbi.cell (p := ⟨ub, 0, none⟩) (Nat.lt_succ_self _)).trans z0
      have q2 := (hbi.cell (p := ⟨ub, 2, none⟩) (Nat.lt_succ_self _)).trans z2
      have q3 := (hbi.cell (p := ⟨p2, 0, none⟩) (Nat.lt_succ_of_lt l2)).trans z3
      have q4 := (hbi.cell (p := ⟨p3, 0, none⟩) (Nat.lt_succ_of_lt l3)).trans z4
      have HBW := Lib.hid (HBM.out.trans hbi)
      have HBI := Lib.hid hbi
      have hsi := Nat.le_trans HSZ.out hbi.size
      clear hbi
      by_cases hta : t < args.length
      · obtain ⟨haj, hsn⟩ := HAG.out t hta
        have HSN := Lib.hid hsn
        obtain ⟨ib, io, rfl, hib, hi0⟩ := HATA.out.int (i := t) (by rw [intsN_len]; exact hta)
        rw [intsN_getD] at hi0
        obtain ⟨jb, jo, rfl, hjb, hj0⟩ := HAUA.out.int (i := args.getD t 0) (by rw [intsN_len]; omega)
        rw [intsN_getD] at hj0
        have i0 := (HBW.out.cell (p := ⟨ib, io + t, none⟩) (by show ib < _; omega)).trans hi0
        have j0 := (HBW.out.cell (p := ⟨jb, jo + args.getD t 0, none⟩) (by show jb < _; omega)).trans hj0
        have hvs : U.getD (args.getD t 0) 0 < 2 ^ W := HU.out _
        have hIL : (intsN ((argsOf U ⟨op, num, args⟩).take t ++ List.replicate (args.length - t) 0)).length = args.length := by rw [intsN_len, List.length_append, List.length_take, List.length_replicate, HAP.out]; omega
        have hti : (t : Int) < args.length := by omega
        have haji : ((args.getD t 0 : Nat) : Int) < U.length := by omega
        obtain ⟨g, cap8, u, hv, hg, hcl, hfz, hown2, hgr⟩ := Lay.Own.putI hown.out (j := t) (by rw [hIL]; exact hta) (U.getD (args.getD t 0) 0 : Nat)
        rw [hIL] at hv
        injection hv with hv1 _ _
        injection hv1 with hv1
        injection hv1 with hv1 _ _
        subst hv1
        have HO2 := Lib.hid hown2
        have HB2 := Lib.hid (HBI.out.grown hgr (by omega) (fun q hq => by injection hq with hq; omega))
        clear hi0 hj0 hsn hown hown2 hgr hIL
        rw [show (intsN ((argsOf U ⟨op, num, args⟩).take t ++ List.replicate (args.length - t) 0)).set t ((U.getD (args.getD t 0) 0 : Nat) : Int) = intsN ((argsOf U ⟨op, num, args⟩).take (t + 1) ++ List.replicate (args.length - (t + 1)) 0) by rw [← HSN.out]; simp [intsN]] at HO2
        generalize U.getD (args.getD t 0) 0 = q at *
        generalize args.getD t 0 = aj at *
        as_aux_lemma =>
          go_wp2_with fail
          go_roundw
          case rel => exact ⟨t + 1, by omega, by go_num, Lib.hid HO2.out, HB2.out⟩
          case measure => simp [intOf]; omega
      · obtain rfl : t = args.length := by omega
        have hat9 : (Lay.int .u64).At 0 wr (some ⟨ub + 1, 0, none⟩) (intsN (argsOf U ⟨op, num, args⟩)) := by
          obtain ⟨a9, c9, e9, h9, _, _⟩ := hown.out.at_
          injection e9 with e9 _ _
          subst e9
          rwa [show (argsOf U ⟨op, num, args⟩).take args.length ++ List.replicate (args.length - args.length) 0 = argsOf U ⟨op, num, args⟩ by rw [← HAP.out, List.take_length]; simp] at h9
        have HCALL : Hid (Calls Tryd.prog 77 #[.int .u8 op, .int .i64 W, .slice (some ⟨ub + 1, 0, none⟩) args.length args.length] wr fun e W'' => e = .returned (.tuple #[.int .u64 (z : Nat), .int .i64 0]) ∧ Below wr.heap.size wr W'') := Lib.hid (HVN.out wr (ub + 1) hat9)
        clear hat9 HAG HAP hown
        go_wp2_with (first
          | (go_at_call 77
             refine HCALL.out.mono ?_
             rintro e wB ⟨rfl, hB⟩))
        go_ret
        exact ⟨rfl, by rw [hub]; exact HBA.out.trans ((HBW.out.trans (hB.mono (by omega))).mono (Nat.le_succ _))⟩
end Go.Proofs.YtjhbabgcoemecaaDoor
