/- The machine's contract for term.Graph.Copy is right: the walk. -/
import Derived.Test.YtekbkaipdmklpaaGreatDoorCq
import Derived.Deep.RegionHeld3
import Derived.Deep.AppendLies
import Derived.Deep.Cut
namespace Go.Proofs.YtekbkaipdmklpaaGreatDoor
namespace Cr
open Go Go.RowKit
open Go.ChangeMaps (setBlock)

/-- what the loop keeps -/
structure CopyI (G B : Nat) (w0 : W0) (H : AH) (N : Nat) (cs : List Value) (es : List (Value × Value)) (bx : List Value) (μ : Mu) (it mb cb d clock : Nat) (ents : Array MapEntry) (wr : World) : Prop where
  itr : ∃ (seen : Array Nat) (last : Nat), wr.heap[it]? = some (.mapIter (some mb) clock seen last) ∧ clock ≤ last ∧ seen.toList.Nodup ∧ (∀ b ∈ seen.toList, b < es.length) ∧ HR G B w0 (cpH H N cs (seen.toList.map fun j => es.getD j (undef, undef)) bx) μ wr
  old : wr.heap[mb]? = some (.map ents clock)
  box : wr.cell? ⟨cb, 3, none⟩ = some (.map (some d))
  size : it < wr.heap.size

set_option maxHeartbeats 4000000 in
set_option maxRecDepth 100000 in
theorem copy_calls {G B : Nat} {w0 : W0} {args : List Value} {H H' : AH} {v : Value} (hrun : spCopy args H = .ok v H') {μ : Mu} {w : World} {args' : List Value} (hargs : LR μ args args') (hr : HR G B w0 H μ w) :
    Calls Tryz.prog 23 ⟨args'⟩ w fun e w' => ∃ v' μ', e = .returned v' ∧ VR μ' v v' ∧ Nx G B w0 H μ H' μ' w' := by
  obtain ⟨i, rw_, zl, zs, t, a, n, c, cs, mi, es, rfl, hnx, hg, hsl, h0, h1, hcs, hone, hmp, hgm, hki, hap, ⟨x0, hx0⟩, ⟨x1, hx1⟩, rfl, rfl⟩ := copy_inv hrun
  obtain ⟨p', r1, rfl, hx, hl1⟩ := hargs.cons_inv
  obtain rfl := hl1.nil_inv
  clear hl1 hargs hrun
  cases hx with
  | ptr _ b o _ hmu =>
  obtain ⟨cur, ce, cf, k1, _, k3⟩ := hr.blk i _ hg b o hmu
  obtain ⟨u0, q0, q0v⟩ := k3 0 (by decide)
  obtain ⟨u1, q1, q1v⟩ := k3 1 (by decide)
  obtain ⟨u2, q2, q2v⟩ := k3 2 (by decide)
  obtain ⟨u3, q3, q3v⟩ := k3 3 (by decide)
  rw [hx0] at q0v
  rw [hx1] at q1v
  rw [hsl] at q2v
  rw [hmp] at q3v
  rw [hx0, hx1]
  cases q0v
  cases q1v
  obtain ⟨nb, no, c', news, rfl, hnb, hnl0, hus, hnews⟩ := sliceK_at hr q2v hcs
  cases q3v with
  | map _ mb hmb =>
  have hbR : b < w.heap.size := (Array.getElem?_eq_some_iff.1 k1).1
  have c0 : w.cell? ⟨b, o + 0, none⟩ = some (.int .i64 x0) := by simpa [World.cell?, k1] using q0
  have c1 : w.cell? ⟨b, o + 0 + 1, none⟩ = some (.int .i64 x1) := by simp [World.cell?, k1, q1]
  have c2 : w.cell? ⟨b, o + 0 + 2, none⟩ = some (.slice (some ⟨nb, no, none⟩) n c') := by simp [World.cell?, k1, q2]
  have c3 : w.cell? ⟨b, o + 0 + 3, none⟩ = some (.map (some mb)) := by simp [World.cell?, k1, q3]
  obtain ⟨_, es2, ents, clock, qm, p1, p2, p3, p4⟩ := hr.blk mi _ hgm mb 0 hmb
  obtain rfl : es = es2 := Eq.symm qm
  obtain ⟨hBm, hbn⟩ := p2 rfl
  have hmbR : mb < w.heap.size := (Array.getElem?_eq_some_iff.1 p1).1
  have hnl : news.length = n * 3 := by rw [← hus.len, hnl0]; omega
  have hone' : ∀ u ∈ news, u.oneCell' = true := fun u hu => by
    obtain ⟨j, hj, rfl⟩ := List.getElem_of_mem hu
    have hj' : j < cs.length := by rw [hus.len]; exact hj
    exact (hus.at_ j hj' hj).one (List.all_eq_true.1 hone _ (List.getElem_mem hj'))
  obtain ⟨iN, z, qn0, qn1, qn2, qn3, qn4⟩ : ∃ i z, Tryz.prog.info? 321 = some i ∧ i.zero = some z ∧ i.size = 3 ∧ i.bytes = 40 ∧ z.cells.size = 3 := by
    refine ⟨(Tryz.prog.info? 321).getD default, (((Tryz.prog.info? 321).getD default).zero).getD undef, ?_, ?_, ?_, ?_, ?_⟩ <;> kernel_rfl
  have HR0 := Lib.hid hr
  have HUS := Lib.hid hus
  have HAP := Lib.hid hap
  have HKI := Lib.hid (List.all_eq_true.1 hki)
  have HP3 := Lib.hid p3
  have HP4 := Lib.hid p4
  have HBN := Lib.hid hbn
  have HHN := Lib.hid (And.intro hnx hnl0)
  have HSL := Lib.hid q2v
  have HBB : Hid (B ≤ w.heap.size) := Lib.hid hr.base
  clear hr hus hki hap p3 p4 hbn hg hgm qm k1 k3 q0 q1 q2 q3 p2 hBm hx0 hx1 hsl hmp hcs hone hmb q2v hnx hnl0 hmu
  simp only [Nat.add_zero] at c0 c1 c2 c3
  have HS : Hid (∀ w', Below w.heap.size w w' → w'.cell? ⟨b, o, none⟩ = some (.int .i64 x0) ∧ w'.cell? ⟨b, o + 1, none⟩ = some (.int .i64 x1) ∧ w'.cell? ⟨b, o + 2, none⟩ = some (.slice (some ⟨nb, no, none⟩) n c') ∧ w'.cell? ⟨b, o + 3, none⟩ = some (.map (some mb)) ∧ w'.heap[mb]? = some (.map ents clock) ∧ Below w.heap.size w w') := Lib.hid fun w' hb =>
    ⟨(hb.cell (p := ⟨b, o, none⟩) hbR).trans c0, (hb.cell (p := ⟨b, o + 1, none⟩) hbR).trans c1, (hb.cell (p := ⟨b, o + 2, none⟩) hbR).trans c2, (hb.cell (p := ⟨b, o + 3, none⟩) hbR).trans c3, (hb.block mb hmbR).trans p1, hb⟩
  have hmk : ∀ (k : Int) (W : World), (Instr.makeMap 157 (some (.int .i64 k))).run Tryz.prog W = .ok (.map (some W.heap.size)) (W.alloc (.map #[] 0)) := fun k W => by
    simp [Instr.makeMap, run_underlying Tryz.underlying157, asInt, asIntOf]
  have hlen : ∀ W : World, W.heap[mb]? = some (.map ents clock) → (Builtin.len_ #[157] 3 #[.map (some mb)]).run Tryz.prog W = .ok (.int .i64 ents.size) W := fun W hW => by
    have hget : (getObj mb).run Tryz.prog W = .ok (.map ents clock) W := by simp [getObj, Sem.run, hW]
    simp [Builtin.len_, run_underlying Tryz.underlying157, hget]
    rfl
  clear c0 c1 c2 c3
  generalize hR : w.heap.size = R at *
  go_enter Tryz.func23, Tryz.ntmps23
  go_wp2_with fail
  go_region_held3 (fun w' => w'.cell? ⟨b, o, none⟩ = some (.int .i64 x0) ∧ w'.cell? ⟨b, o + 1, none⟩ = some (.int .i64 x1) ∧ w'.cell? ⟨b, o + 2, none⟩ = some (.slice (some ⟨nb, no, none⟩) n c') ∧ w'.cell? ⟨b, o + 3, none⟩ = some (.map (some mb)) ∧ w'.heap[mb]? = some (.map ents clock) ∧ Below R w w')
    (first | exact HS.out _ (Below.refl _ _) | exact HS.out _ (Below.refl _ _).drew | exact HS.out _ (‹_ ∧ _ ∧ _ ∧ _ ∧ _ ∧ Below _ _ _›).2.2.2.2.2.drew | exact HS.out _ hb5 | exact HS.out _ (hb5.alloc (by have := hb5.size; omega) _) | exact HS.out _ ((hb5.alloc (by have := hb5.size; omega) _).alloc (by have := hb5.size; simp; omega) _))
    (first
      | (refine step_append_lies _ rfl _ _ _ (by rfl) R 321 iN z 3 40 Tryz.underlying158 qn0 qn1 qn2 qn3 qn4 (by omega) (.slice none 0 0) 0 [] (by rfl) (World.ownsRow_nil _ _ _ _) ⟨nb, no, none⟩ n c' news (by rfl) hnl (hnews _ (‹_ ∧ _ ∧ _ ∧ _ ∧ _ ∧ Below _ _ _›).2.2.2.2.2) hone' (by omega) (by unfold maxLen; omega) (by omega) (Nat.le_of_eq hR.symm) _ rfl ?_; intro g cap w5 hown hgrow hat hlt; have hb5 : Below R w w5 := (Below.refl R w).drew.grown hgrow (Nat.le_of_eq hR.symm) (fun k hk => by cases hk))
      | (refine step_len_map rfl _ _ _ _ (by rfl) Tryz.underlying157 mb (by rfl) ents clock (‹_ ∧ _ ∧ _ ∧ _ ∧ _ ∧ Below _ _ _›).2.2.2.2.1 ?_))
  have hgR : g = R := by
    rcases hat with h | h
    · cases h
    · rw [h]; exact hR
  subst hgR
  obtain ⟨μ3, HNX, m3, m2⟩ := copy_born HR0.out HHN.out.1 (w5 := w5) (by rw [hR]; exact hb5) HHN.out.2 HUS.out h0 (by rw [hR]; exact Nat.le_refl _) (by rw [hR]; exact hown) (x0 := x0) (x1 := x1)
  have HSW := HS.out _ ((hb5.alloc (by have := hb5.size; omega) (.map #[] 0)).alloc (by have := hb5.size; simp; omega) (.cells #[.int .i64 x0, .int .i64 x1, .slice (some ⟨g, 0, none⟩) n cap, .map (some w5.heap.size)] 160))
  have hbx : ((w5.alloc (.map #[] 0)).alloc (.cells #[.int .i64 x0, .int .i64 x1, .slice (some ⟨g, 0, none⟩) n cap, .map (some w5.heap.size)] 160)).cell? ⟨w5.heap.size + 1, 3, none⟩ = some (.map (some w5.heap.size)) := by
    simp
  have hsz7 : w5.heap.size + 1 < ((w5.alloc (.map #[] 0)).alloc (.cells #[.int .i64 x0, .int .i64 x1, .slice (some ⟨g, 0, none⟩) n cap, .map (some w5.heap.size)] 160)).heap.size := by simp
  have hmd : mb < w5.heap.size := by have := hb5.size; omega
  clear hown hgrow hat hlt hb5
  generalize ((w5.alloc (.map #[] 0)).alloc (.cells #[.int .i64 x0, .int .i64 x1, .slice (some ⟨g, 0, none⟩) n cap, .map (some w5.heap.size)] 160)) = w7 at *
  obtain ⟨-, -, -, s3, s4, s5⟩ := HSW
  generalize w5.heap.size = d at *
  have HN3 := Lib.hid HNX
  have HM3 := Lib.hid (And.intro m3 m2)
  clear HNX m3 m2
  go_wp2_with (at_range; refine wpList_range_at rfl _ _ rfl Tryz.underlying157 rfl s4 ?_)
  intro w8 hw8
  replace hw8 := hw8.out
  generalize hit : w7.heap.size = it at *
  have hmb7 : mb < it := by rw [← hit]; exact (Array.getElem?_eq_some_iff.1 s4).1
  have hR2 : w8.heap[it]? = some (.mapIter (some mb) clock #[] clock) := by rw [hw8, ← hit]; exact heap_alloc_new w7 _
  have hm8 : w8.heap[mb]? = some (.map ents clock) := by rw [hw8]; exact (Below.heap_alloc w7 _ mb (by rw [hit]; exact hmb7)).trans s4
  have hbx8 : w8.cell? ⟨d + 1, 3, none⟩ = some (.map (some d)) := by rw [hw8]; exact (World.cell?_alloc_past _ _ _ (by rw [hit]; exact hsz7)).trans hbx
  have hs8 : it < w8.heap.size := (Array.getElem?_eq_some_iff.1 hR2).1
  have hr8 := HN3.out.hr.beside (w' := w8) (by rw [hw8]; exact (Below.refl _ _).alloc (Nat.le_refl _) _)
  have HBo : Hid (∀ x ∈ ents.toList, x.born < clock) := Lib.hid fun x hx => by
    obtain ⟨j, hj, rfl⟩ := List.getElem_of_mem hx
    have := HBN.out.born j _ (by rw [Array.getElem?_eq_getElem (by simpa using hj)])
    have hc := HBN.out.clock
    simp only [Array.getElem_toList] at this ⊢
    simp at hj
    omega
  have HND := Lib.hid HBN.out.nodup
  have HFAR : Hid (∀ S i x b o, (cpH H (3 * n) cs S [.int .i64 x0, .int .i64 x1, .slice (some ⟨H.next, 0, none⟩) n (73786976294838206464 + n), .map (some (H.next + 1))]).get i = some x → μ3 i = some (b, o) → b ≠ it) := Lib.hid fun S i x b o hx hm => by
    have hx' : ∃ x', (cpH H (3 * n) cs [] [.int .i64 x0, .int .i64 x1, .slice (some ⟨H.next, 0, none⟩) n (73786976294838206464 + n), .map (some (H.next + 1))]).get i = some x' := by
      rw [cpH_get HHN.out.1] at hx ⊢
      split at hx
      · rename_i h; rw [if_pos h]; exact ⟨_, rfl⟩
      · rename_i h; rw [if_neg h]
        split at hx
        · rename_i h; rw [if_pos h]; exact ⟨_, rfl⟩
        · rename_i h; rw [if_neg h]
          split at hx
          · rename_i h; rw [if_pos h]; exact ⟨_, rfl⟩
          · rename_i h; rw [if_neg h]; exact ⟨x, hx⟩
    obtain ⟨x', hx'⟩ := hx'
    have := (HN3.out.hr.blk i x' hx' b o hm).lt
    omega
  have HBI : Hid (B ≤ it ∧ d + 1 < it ∧ mb < it) := Lib.hid ⟨by have := HN3.out.hr.base; omega, by omega, hmb7⟩
  have HEN : Hid (∀ e ∈ ents.toList, ∃ (hj : e.born < es.length) (b0 b1 b2 b3 b4 : Int), e.key = .agg ⟨[.int .u8 b0, .int .u64 b1, .int .i64 b2, .int .i64 b3, .int .i64 b4]⟩ ∧ VR μ3 es[e.born].1 e.key ∧ VR μ3 es[e.born].2 e.val) := Lib.hid fun e he => by
    obtain ⟨j, hj, rfl⟩ := List.getElem_of_mem he
    have hj' : j < ents.size := by simpa using hj
    have hbj := HBN.out.born j _ (Array.getElem?_eq_getElem hj')
    have hlen := (HBN.out.size HP3.out).2
    have e0 : ents.toList[j] = ents[j] := by simp
    rw [e0, hbj]
    have hje : j < es.length := by omega
    obtain ⟨e', g1, g2, g3, g4⟩ := entry_at HBN.out HP3.out HP4.out (List.getElem?_eq_getElem hje)
    rw [Array.getElem?_eq_getElem hj'] at g1
    injection g1 with g1
    subst g1
    obtain ⟨b0, b1, b2, b3, b4, hk⟩ := key5 g3 (HKI.out _ (List.getElem_mem hje))
    exact ⟨hje, b0, b1, b2, b3, b4, hk, g3.ext HN3.out.ext, g4.ext HN3.out.ext⟩
  clear hw8 s3 s4 s5 hbx p1
  go_wp2_with fail
  go_loopw [] (fun wr => CopyI G B w0 H (3 * n) cs es [.int .i64 x0, .int .i64 x1, .slice (some ⟨H.next, 0, none⟩) n (73786976294838206464 + n), .map (some (H.next + 1))] μ3 it mb (d + 1) d clock ents wr) (fun wr => leftIn ents it wr)
  case atStart => exact ⟨⟨#[], clock, hR2, Nat.le_refl _, by simp, by simp, by simpa using hr8⟩, hm8, hbx8, hs8⟩
  case round =>
    obtain ⟨⟨seen, last, hrr, hll, hnd, hlt, hhr⟩, hold, hbox, hszr⟩ := hrel
    clear hR2 hm8 hbx8 hs8 hr8
    go_wp2_with (at_next; refine wpList_next_at rfl _ rfl (by rfl) hrr hold HBo.out hll ?_ ?_)
    · intro hdone
      go_wp2_with fail
      go_ret
      refine ⟨_, μ3, rfl, VR.ptr _ _ 0 0 HM3.out.1, copy_done HN3.out HHN.out.1 hnd hlt (fun b hb => ?_) hhr⟩
      have hlen := (HBN.out.size HP3.out).2
      have hb' : b < ents.size := by omega
      have := all_seen ents seen (by rw [hdone.out]; rfl) ents[b] (by simp)
      rw [HBN.out.born b _ (Array.getElem?_eq_getElem hb')] at this
      simpa [Array.contains_eq_mem] using this
    · intro e he w3 w4 hw3 hw4
      replace hw4 := hw4.out
      replace he : e ∈ (leftOf ents seen).toList := by simpa using he
      obtain ⟨he1, he2⟩ := mem_left he
      have h3 : wr.grownBy w3 none := by
        rcases hw3 with rfl | rfl
        · exact World.grownBy.refl _ _
        · exact ⟨rfl, rfl, rfl, Nat.le_refl _, fun _ _ _ => rfl⟩
      have h34 : w3.heap.size = wr.heap.size := by rcases hw3 with rfl | rfl <;> rfl
      have hg4 : wr.grownBy w4 (some it) := by
        rw [hw4]
        refine ⟨h3.os, h3.tape, h3.output, by simpa [setBlock] using h3.size, fun k hk hne => ?_⟩
        show (w3.heap.setIfInBounds it _)[k]? = _
        rw [Array.getElem?_setIfInBounds_ne (by intro e; exact hne (by rw [e]))]
        exact h3.block k hk (by simp)
      have hr4 : w4.heap[it]? = some (.mapIter (some mb) clock (seen.push e.born) clock) := by
        rw [hw4]
        show (w3.heap.setIfInBounds it _)[it]? = _
        rw [Array.getElem?_setIfInBounds_self_of_lt (by omega)]
      have hbi := HBI.out
      have hbm4 : w4.heap[mb]? = some (.map ents clock) := (hg4.block mb (by omega) (by simp; omega)).trans hold
      have hbox4 : w4.cell? ⟨d + 1, 3, none⟩ = some (.map (some d)) := (World.cell?_of_block (a := ⟨d + 1, 3, none⟩) (hg4.block (d + 1) (by omega) (by simp; omega))).trans hbox
      have hhr4 := Lib.hid (hhr.aside hg4 hbi.1 (fun i x b o hx hm => HFAR.out _ i x b o hx hm))
      have hen := run_entry_at (P := Tryz.prog) w4 it mb clock seen ents clock e hr4 hbm4 he1 HND.out
      have hs4 : it < w4.heap.size := by have := hg4.size; omega
      have hmes := left_shrinks ents seen e he
      have hL0 : leftIn ents it wr = (leftOf ents seen).size := leftIn_of hrr
      obtain ⟨hje, b0, b1, b2, b3, b4, hkey, hkv, hvv⟩ := HEN.out e he1
      have hec : e.born ∉ seen.toList := by simpa [Array.contains_eq_mem] using he2
      rw [hkey] at hen hkv
      have HST := Lib.hid (And.intro hkv hvv)
      have HNS := Lib.hid (And.intro hec (And.intro hnd hlt))
      clear hw4 hw3 hhr hrr hold hbox he h3 h34 hg4 he2 hkey hkv hvv hec hnd hlt HEN HFAR HBo HND
      generalize hev : e.val = ev at *
      generalize e.born = ej at *
      clear hev
      go_upto_region 7 with fail
      obtain ⟨ob, hupd, hhr5⟩ := copy_step HHN.out.1 (wX := (w4.alloc (.cells #[.int .u8 b0, .int .u64 b1, .int .i64 b2, .int .i64 b3, .int .i64 b4] 178)).drew) hje HNS.out.1 HNS.out.2.2 HAP.out (hhr4.out.beside ((Below.refl _ _).alloc (Nat.le_refl _) _).drew) HM3.out.2 HST.out.1 HST.out.2
      have hbox5 : (w4.alloc (.cells #[.int .u8 b0, .int .u64 b1, .int .i64 b2, .int .i64 b3, .int .i64 b4] 178)).cell? ⟨d + 1, 3, none⟩ = some (.map (some d)) := (World.cell?_alloc_past _ _ _ (by omega)).trans hbox4
      obtain ⟨wY, hwY⟩ : ∃ wY : World, wY = { (w4.alloc (.cells #[.int .u8 b0, .int .u64 b1, .int .i64 b2, .int .i64 b3, .int .i64 b4] 178)).drew with heap := (w4.alloc (.cells #[.int .u8 b0, .int .u64 b1, .int .i64 b2, .int .i64 b3, .int .i64 b4] 178)).drew.heap.setIfInBounds d ob } := ⟨_, rfl⟩
      rw [← hwY] at hupd hhr5
      have hoth : ∀ k, k < w4.heap.size → k ≠ d → wY.heap[k]? = w4.heap[k]? := fun k hk hne => by
        rw [hwY]
        show ((w4.alloc _).heap.setIfInBounds d ob)[k]? = _
        rw [Array.getElem?_setIfInBounds_ne (fun e => hne e.symm)]
        exact Below.heap_alloc w4 _ k hk
      have hrY : wY.heap[it]? = some (.mapIter (some mb) clock (seen.push ej) clock) := (hoth it hs4 (by omega)).trans hr4
      have hbx3 := hbox4
      have hboxY : wY.cell? ⟨d + 1, 3, none⟩ = some (.map (some d)) := (World.cell?_of_block (a := ⟨d + 1, 3, none⟩) (hoth (d + 1) (by omega) (by omega))).trans hbox4
      have hszY : it < wY.heap.size := (Array.getElem?_eq_some_iff.1 hrY).1
      have HOY := Lib.hid hoth
      have HRY := Lib.hid hhr5
      clear hwY hoth hhr5 hhr4 hbx3
      go_region
      go_roundw
      case rel =>
        refine ⟨_, _, _, _, _, _, _, _, _, _, _, _, _, ?_, rfl⟩
        refine ⟨⟨seen.push ej, clock, hrY, Nat.le_refl _, ?_, ?_, ?_⟩, (HOY.out mb (by omega) ?_).trans hbm4, hboxY, hszY⟩
        · simpa [List.nodup_append, HNS.out.2.1] using fun a ha => by rintro rfl; exact HNS.out.1 (by simpa using ha)
        · intro b hb
          simp only [Array.toList_push, List.mem_append, List.mem_singleton] at hb
          rcases hb with hb | rfl
          · exact HNS.out.2.2 b hb
          · exact hje
        · simpa using HRY.out
        · rintro rfl; omega
      case measure =>
        rw [leftIn_of hrY, hL0]
        exact hmes
end Cr
end Go.Proofs.YtekbkaipdmklpaaGreatDoor
