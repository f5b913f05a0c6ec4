/- Walks: Node of both graphs. -/
import Derived.Test.YtcckmkidmelbnaaGreatDoorNb
import Derived.Handy
namespace Go.Proofs.YtcckmkidmelbnaaGreatDoor
open Go.RowKit

set_option maxRecDepth 100000 in
theorem len58 (gb nl : Nat) {na : Option Addr} {nc : Nat} (w : World) (h : w.cell? ⟨gb, 2, none⟩ = some (.slice na nl nc)) : Calls Tryz.prog 58 #[.pointer (some ⟨gb, 0, none⟩)] w fun e w' => e = .returned (.int .i64 nl) ∧ w = w' := by
  go_enter Tryz.func58, Tryz.ntmps58
  go_wp2_with fail
  go_ret
  exact ⟨rfl, rfl⟩
theorem intsN_len (l : List Nat) : (intsN l).length = l.length := by simp [intsN]
theorem intsN_getD (l : List Nat) (i : Nat) : (intsN l).getD i 0 = ((l.getD i 0 : Nat) : Int) := by
  unfold intsN
  rw [List.getD_eq_getElem?_getD, List.getD_eq_getElem?_getD, List.getElem?_map]
  cases l[i]? <;> rfl
/-- what the walks need of a graph that is only read (of the reference) -/
structure RV (w : World) (r : Nat) (W : Nat) (L : List Nd) : Prop where
  low : r < w.heap.size
  c0 : w.cell? ⟨r, 0, none⟩ = some (.int .i64 W)
  nodes : ∃ a cap, w.cell? ⟨r, 2, none⟩ = some (.slice a L.length cap) ∧ ∀ i, i < L.length → ∃ b ha hc, a = some ⟨b, 0, none⟩ ∧ b < w.heap.size ∧ w.cell? ⟨b, i * 3, none⟩ = some (.int .u8 ((L.getD i default).op : Int)) ∧ w.cell? ⟨b, i * 3 + 1, none⟩ = some (.int .u64 ((L.getD i default).num : Int)) ∧
    w.cell? ⟨b, i * 3 + 2, none⟩ = some (.slice ha (L.getD i default).args.length hc) ∧ (Lay.int .i64).At 0 w ha (intsN (L.getD i default).args) ∧ (ha = none → hc = 0)
  ok : GOk W L
theorem RG.rv {w : World} {B : Nat} {A : Nat → Prop} {r : Nat} {nv : Value} {W : Nat} {L : List Nd} (h : RG w B A r nv W L) : RV w r W L := by
  obtain ⟨a, cap, rfl, _, _⟩ := h.slice
  obtain ⟨xs, hown, hxs⟩ := h.nds
  refine ⟨(h.lo r (.inl rfl)).2, by simp [World.cell?, h.blk], ⟨a, cap, by simp [World.cell?, h.blk], fun i hi => ?_⟩, h.ok⟩
  obtain ⟨b, cb, ha, hc, hv, hb, _, y0, y1, y2, hat, hq1, hq2⟩ := nds_cells hown hxs hi
  injection hv with hv _ _
  exact ⟨b, ha, hc, hv, hb, y0, y1, y2, hat, by first | exact hq2 | exact hq1⟩
theorem RV.below {w w' : World} {r W : Nat} {L : List Nd} (h : RV w r W L) (hb : Below w.heap.size w w') : RV w' r W L := by
  obtain ⟨a, cap, h1, h2⟩ := h.nodes
  refine ⟨Nat.lt_of_lt_of_le h.low hb.size, (hb.cell (p := ⟨r, 0, none⟩) h.low).trans h.c0, ⟨a, cap, (hb.cell (p := ⟨r, 2, none⟩) h.low).trans h1, fun i hi => ?_⟩, h.ok⟩
  obtain ⟨b, ha, hc, e, hlt, y0, y1, y2, hat, hno⟩ := h2 i hi
  exact ⟨b, ha, hc, e, Nat.lt_of_lt_of_le hlt hb.size, (hb.cell (p := ⟨b, i * 3, none⟩) hlt).trans y0, (hb.cell (p := ⟨b, i * 3 + 1, none⟩) hlt).trans y1, (hb.cell (p := ⟨b, i * 3 + 2, none⟩) hlt).trans y2, hat.below hb, hno⟩
theorem PG.rv {w : World} {B : Nat} {A : Nat → Prop} {gb mb : Nat} {nv : Value} {W : Nat} {L : List Nd} (h : PG w B A gb mb nv W L) : RV w gb W L := by
  obtain ⟨a, cap, rfl, _, _⟩ := h.slice
  obtain ⟨xs, hown, hxs⟩ := h.nds
  refine ⟨(h.lo gb (.inl rfl)).2, by simp [World.cell?, h.blk], ⟨a, cap, by simp [World.cell?, h.blk], fun i hi => ?_⟩, h.ok⟩
  obtain ⟨b, cb, ha, hc, hv, hb, _, y0, y1, y2, hat, hq1, hq2⟩ := nds_cells hown hxs hi
  injection hv with hv _ _
  exact ⟨b, ha, hc, hv, hb, y0, y1, y2, hat, by first | exact hq2 | exact hq1⟩
theorem Lay.Own.atBase {α : Type} {L : Lay α} {d : α} {e : TypeId} {w : World} {base : Nat} {v : Value} {xs : List α} (h : L.Own e w base v xs) : ∃ a cap, v = .slice a xs.length cap ∧ L.At d w a xs ∧ (a = none → cap = 0) ∧ ∀ ad, a = some ad → base ≤ ad.block := by
  obtain ⟨a, cap, e1, hat, _, _⟩ := h.at_ (d := d)
  refine ⟨a, cap, e1, hat, fun hn => ?_, fun ad ha => ?_⟩
  · rcases (h : w.ownsRow base e L.sz v xs.length (L.flat xs)).2 with ⟨hv, _⟩ | ⟨g, cap', cur, hv, hb, _⟩
    · rw [hv] at e1; injection e1 with _ _ e3; exact e3.symm
    · rw [hv] at e1; injection e1 with e1 _ _; rw [hn] at e1; cases e1
  rcases (h : w.ownsRow base e L.sz v xs.length (L.flat xs)).2 with ⟨hv, _⟩ | ⟨g, cap', cur, hv, hb, _⟩
  · rw [hv] at e1; injection e1 with e1 _ _; rw [← e1] at ha; cases ha
  · rw [hv] at e1; injection e1 with e1 _ _; rw [← e1] at ha; injection ha with ha; rw [← ha]; exact hb
theorem set4 {w5 : World} {b : Nat} (v x y z : Value) {u0 u1 u2 : Value} (g0 : w5.cell? ⟨b, 0, none⟩ = some u0) (g1 : w5.cell? ⟨b, 1, none⟩ = some u1) (g2 : w5.cell? ⟨b, 2, none⟩ = some u2) :
    let w6 := ((((w5.setCell ⟨b + 1, 2, none⟩ v).setCell ⟨b, 0, none⟩ x).setCell ⟨b, 1, none⟩ y).setCell ⟨b, 2, none⟩ z)
    w6.cell? ⟨b, 0, none⟩ = some x ∧ w6.cell? ⟨b, 1, none⟩ = some y ∧ w6.cell? ⟨b, 2, none⟩ = some z ∧ (∀ k, b + 2 ≤ k → w6.heap[k]? = w5.heap[k]?) ∧ w6.heap.size = w5.heap.size ∧ (∀ (B : Nat) (w : World), Below B w w5 → B ≤ b → Below B w w6) := by
  refine ⟨?_, ?_, ?_, fun k hk => ?_, by simp, fun B w h hb => (((h.setCell (p := ⟨b + 1, 2, none⟩) (by show B ≤ b + 1; omega) v).setCell (p := ⟨b, 0, none⟩) hb x).setCell (p := ⟨b, 1, none⟩) hb y).setCell (p := ⟨b, 2, none⟩) hb z⟩
  · rw [World.cell?_setCell_other _ _ _ _ (by simp), World.cell?_setCell_other _ _ _ _ (by simp)]
    exact World.cell?_setCell_same _ _ _ ((World.cell?_setCell_other _ _ _ _ (by simp)).trans g0)
  · rw [World.cell?_setCell_other _ _ _ _ (by simp)]
    exact World.cell?_setCell_same _ _ _ ((World.cell?_setCell_other _ _ _ _ (by simp)).trans ((World.cell?_setCell_other _ _ _ _ (by simp)).trans g1))
  · exact World.cell?_setCell_same _ _ _ ((World.cell?_setCell_other _ _ _ _ (by simp)).trans ((World.cell?_setCell_other _ _ _ _ (by simp)).trans ((World.cell?_setCell_other _ _ _ _ (by simp)).trans g2)))
  · have e1 : b + 1 ≠ k := by omega
    have e2 : b ≠ k := by omega
    simp [World.setCell, Array.getElem?_modify, e1, e2]
set_option maxRecDepth 100000 in
theorem is106 (gb nl : Nat) {na : Option Addr} {nc : Nat} (w : World) (h : w.cell? ⟨gb, 2, none⟩ = some (.slice na nl nc)) (t : Int) : Calls Tryz.prog 106 #[.pointer (some ⟨gb, 0, none⟩), .int .i64 t] w fun e w' => e = .returned (.bool (isB nl t)) ∧ w = w' := by
  by_cases h0 : 0 ≤ t
  · have HR : Hid (isB nl t = decide (t < nl)) := Lib.hid (by simp [isB, h0])
    go_enter Tryz.func106, Tryz.ntmps106
    go_wp2_with fail
    go_ret
    exact ⟨by rw [HR.out]; rfl, rfl⟩
  · have h0' : decide (0 ≤ t) = false := by simpa using h0
    have HR : Hid (isB nl t = false) := Lib.hid (by simp [isB, h0'])
    go_enter Tryz.func106, Tryz.ntmps106
    go_wp2_with fail
    go_ret
    exact ⟨by rw [HR.out]; rfl, rfl⟩
set_option maxRecDepth 100000 in
set_option maxHeartbeats 2000000 in
theorem node67_bad (gb nl : Nat) {na : Option Addr} {nc : Nat} (w : World) (h : w.cell? ⟨gb, 2, none⟩ = some (.slice na nl nc)) (t : Int) (ht : isB nl t = false) :
    Calls Tryz.prog 67 #[.pointer (some ⟨gb, 0, none⟩), .int .i64 t] w fun e w' => e = .returned (.tuple #[.agg #[.int .u8 0, .int .u64 0, .slice none 0 0], .int .i64 3]) ∧ Below w.heap.size w w' := by
  have hcn : (w.alloc (.cells #[.int .u8 0, .int .u64 0, .slice none 0 0] 141)).cell? ⟨gb, 2, none⟩ = some (.slice na nl nc) := (((Below.refl w.heap.size w).alloc (Nat.le_refl _) _).cell (p := ⟨gb, 2, none⟩) (World.block_lt_of_cell? w _ h)).trans h
  have HIS := Lib.hid (is106 gb nl _ hcn t)
  rw [ht] at HIS
  clear ht h hcn
  go_enter Tryz.func67, Tryz.ntmps67
  go_wp2_with (go_at_call 106; refine HIS.out.mono ?_; rintro e w' ⟨rfl, rfl⟩)
  (try simp only [Exit.inBlock, Exit.then])
  refine bodyPost_ret (by simp [results, Tryz.results67, go_sem, Result.andThen]; try rfl) rfl ?_
  refine ⟨rfl, ?_⟩
  exact (Below.refl _ _).alloc (Nat.le_refl _) _
set_option maxRecDepth 100000 in
set_option maxHeartbeats 4000000 in
theorem node70 {w : World} {r W : Nat} {L : List Nd} (h : RV w r W L) (t : Nat) (ht : t < L.length) :
    Calls Tryz.prog 70 #[.pointer (some ⟨r, 0, none⟩), .int .i64 t] w fun e w' => ∃ ha hc, e = .returned (.tuple #[.agg #[.int .u8 ((L.getD t default).op : Int), .int .u64 ((L.getD t default).num : Int), .slice ha (L.getD t default).args.length hc], .int .i64 0]) ∧ (Lay.int .i64).At 0 w' ha (intsN (L.getD t default).args) ∧ (∀ ad, ha = some ad → w.heap.size ≤ ad.block) ∧ (ha = none → hc = 0) ∧ Below w.heap.size w w' := by
  obtain ⟨na, ncap, cn, hnd⟩ := h.nodes
  have c0 := h.c0
  have hrl := h.low
  obtain ⟨b, ha, hc, rfl, hbl, y0, y1, y2, hat, hno⟩ := hnd t ht
  have hok := (h.ok t ht).2.2.2.2.1
  have hop := (h.ok t ht).1
  have hnn : ha = none → (L.getD t default).args.length = 0 := fun e => by
    subst e
    by_cases h0 : 0 < (L.getD t default).args.length
    · obtain ⟨_, _, e, _⟩ := hat.int (i := 0) (by rw [intsN_len]; exact h0)
      cases e
    · omega
  have HAT := Lib.hid hat
  have hti : (t : Int) < L.length := by omega
  have d0 : decide ((t : Int) < 0) = false := by simp
  clear hnd h hat
  generalize L.getD t default = n at *
  obtain ⟨op, num, args⟩ := n
  simp only at y0 y1 y2 hok hnn hop
  have hal : args.length ≤ 2 := by rw [hok]; simp only [arN]; (repeat' split) <;> omega
  have HNO := Lib.hid hno
  clear hok hno hnn
  go_enter Tryz.func70, Tryz.ntmps70
  have HBA : Hid (Below w.heap.size w ((w.alloc (.cells #[.int .u8 0, .int .u64 0, .slice none 0 0] 141)).alloc (.cells #[.int .u8 op, .int .u64 num, .slice ha args.length hc] 141))) := Lib.hid (((Below.refl _ _).alloc (Nat.le_refl _) _).alloc (by simp) _)
  have HATA := Lib.hid (HAT.out.below HBA.out)
  go_wp2_with (at_builtin; refine app_lay_at Tryz.elemI (base := w.heap.size + 2) (ps := []) (qs := intsN args) rfl _ _ rfl rfl (Lay.Own.nil _ _) rfl HNO.out (intsN_len _) HATA.out (by show 0 + args.length ≤ 1000000; omega) (by simp) ?_)
  intro v' w5 r1 r2
  obtain ⟨av, cv, e5, hatv, hnv, hbv⟩ := r1.atBase (d := 0)
  have HNV := Lib.hid hnv
  clear hnv
  rw [intsN_len] at e5
  subst e5
  have hsz : ((w.alloc (.cells #[.int .u8 0, .int .u64 0, .slice none 0 0] 141)).alloc (.cells #[.int .u8 op, .int .u64 num, .slice ha args.length hc] 141)).heap.size = w.heap.size + 2 := by simp
  have hb1 : w.heap.size + 1 < w.heap.size + 2 := Nat.lt_succ_self _
  have z0 := (r2.cell (p := ⟨w.heap.size + 1, 0, none⟩) hb1).trans (show World.cell? _ _ = some (.int .u8 op) by simp [World.cell?_alloc_at])
  have z1 := (r2.cell (p := ⟨w.heap.size + 1, 1, none⟩) hb1).trans (show World.cell? _ _ = some (.int .u64 num) by simp [World.cell?_alloc_at])
  have z2 := (r2.cell (p := ⟨w.heap.size + 1, 2, none⟩) hb1).trans (show World.cell? _ _ = some (.slice ha args.length hc) by simp [World.cell?_alloc_at])
  have z3 := (r2.frozen (p := ⟨w.heap.size + 1, 2, none⟩) hb1).trans (show World.frozen? _ _ = false by simp [World.frozen?_alloc_at])
  have hb0 : w.heap.size < w.heap.size + 2 := by omega
  have g0 := (r2.cell (p := ⟨w.heap.size, 0, none⟩) hb0).trans (show World.cell? _ _ = some (.int .u8 0) by rw [World.cell?_alloc_past _ _ _ (by simp), World.cell?_alloc_new]; rfl)
  have g1 := (r2.cell (p := ⟨w.heap.size, 1, none⟩) hb0).trans (show World.cell? _ _ = some (.int .u64 0) by rw [World.cell?_alloc_past _ _ _ (by simp), World.cell?_alloc_new]; rfl)
  have g2 := (r2.cell (p := ⟨w.heap.size, 2, none⟩) hb0).trans (show World.cell? _ _ = some (.slice none 0 0) by rw [World.cell?_alloc_past _ _ _ (by simp), World.cell?_alloc_new]; rfl)
  have f0 := (r2.frozen (p := ⟨w.heap.size, 0, none⟩) hb0).trans (show World.frozen? _ _ = false by rw [World.frozen?_alloc_past _ _ _ (by simp)]; simp)
  have f1 := (r2.frozen (p := ⟨w.heap.size, 1, none⟩) hb0).trans (show World.frozen? _ _ = false by rw [World.frozen?_alloc_past _ _ _ (by simp)]; simp)
  have f2 := (r2.frozen (p := ⟨w.heap.size, 2, none⟩) hb0).trans (show World.frozen? _ _ = false by rw [World.frozen?_alloc_past _ _ _ (by simp)]; simp)
  have HR2 := Lib.hid r2
  have HATV := Lib.hid hatv
  have HBV := Lib.hid hbv
  clear r1 r2 hatv hbv
  have HS4 := Lib.hid (set4 (.slice av args.length cv) (.int .u8 op) (.int .u64 num) (.slice av args.length cv) g0 g1 g2)
  go_wp2_with fail
  obtain ⟨q0, q1, q2, q3, q4, q5⟩ := HS4.out
  have HQ3 := Lib.hid q3
  have HQ4 := Lib.hid q4
  have HQ5 := Lib.hid q5
  clear HS4 q3 q4 q5 z0 z1 z2 z3 g0 g1 g2 f0 f1 f2
  generalize (((w5.setCell ⟨w.heap.size + 1, 2, none⟩ (.slice av args.length cv)).setCell ⟨w.heap.size, 0, none⟩ (.int .u8 op)).setCell ⟨w.heap.size, 1, none⟩ (.int .u64 num)).setCell ⟨w.heap.size, 2, none⟩ (.slice av args.length cv) = w6 at *
  (try simp only [Exit.inBlock, Exit.then])
  refine bodyPost_ret (by simp [results, Tryz.results70, go_sem, q0, q1, q2, Result.andThen]; try rfl) rfl ?_
  refine ⟨av, cv, rfl, At.frame HATV.out (Nat.le_of_eq HQ4.out.symm) (fun ad e => HQ3.out _ (HBV.out ad e)), (fun ad e => Nat.le_trans (by omega) (HBV.out ad e)), HNV.out, HQ5.out _ _ (HBA.out.trans (HR2.out.mono (by omega))) (Nat.le_refl _)⟩
set_option maxRecDepth 100000 in
set_option maxHeartbeats 4000000 in
theorem node67 {w : World} {r W : Nat} {L : List Nd} (h : RV w r W L) (t : Nat) (ht : t < L.length) :
    Calls Tryz.prog 67 #[.pointer (some ⟨r, 0, none⟩), .int .i64 t] w fun e w' => ∃ ha hc, e = .returned (.tuple #[.agg #[.int .u8 ((L.getD t default).op : Int), .int .u64 ((L.getD t default).num : Int), .slice ha (L.getD t default).args.length hc], .int .i64 0]) ∧ (Lay.int .i64).At 0 w' ha (intsN (L.getD t default).args) ∧ (∀ ad, ha = some ad → w.heap.size ≤ ad.block) ∧ (ha = none → hc = 0) ∧ Below w.heap.size w w' := by
  obtain ⟨na, ncap, cn, hnd⟩ := h.nodes
  have c0 := h.c0
  have hrl := h.low
  obtain ⟨b, ha, hc, rfl, hbl, y0, y1, y2, hat, hno⟩ := hnd t ht
  have hok := (h.ok t ht).2.2.2.2.1
  have hop := (h.ok t ht).1
  have hnn : ha = none → (L.getD t default).args.length = 0 := fun e => by
    subst e
    by_cases h0 : 0 < (L.getD t default).args.length
    · obtain ⟨_, _, e, _⟩ := hat.int (i := 0) (by rw [intsN_len]; exact h0)
      cases e
    · omega
  have HAT := Lib.hid hat
  have hti : (t : Int) < L.length := by omega
  have d0 : decide ((t : Int) < 0) = false := by simp
  clear hnd h hat
  generalize L.getD t default = n at *
  obtain ⟨op, num, args⟩ := n
  simp only at y0 y1 y2 hok hnn hop
  have hal : args.length ≤ 2 := by rw [hok]; simp only [arN]; (repeat' split) <;> omega
  have HNO := Lib.hid hno
  clear hok hno hnn
  go_enter Tryz.func67, Tryz.ntmps67
  have HBA : Hid (Below w.heap.size w ((w.alloc (.cells #[.int .u8 0, .int .u64 0, .slice none 0 0] 141)).alloc (.cells #[.int .u8 op, .int .u64 num, .slice ha args.length hc] 141))) := Lib.hid (((Below.refl _ _).alloc (Nat.le_refl _) _).alloc (by simp) _)
  have HATA := Lib.hid (HAT.out.below HBA.out)
  have hcn : (w.alloc (.cells #[.int .u8 0, .int .u64 0, .slice none 0 0] 141)).cell? ⟨r, 2, none⟩ = some (.slice (some ⟨b, 0, none⟩) L.length ncap) := (((Below.refl w.heap.size w).alloc (Nat.le_refl _) _).cell (p := ⟨r, 2, none⟩) hrl).trans cn
  have hsz : ((w.alloc (.cells #[.int .u8 0, .int .u64 0, .slice none 0 0] 141)).alloc (.cells #[.int .u8 op, .int .u64 num, .slice ha args.length hc] 141)).heap.size = w.heap.size + 2 := by simp
  have HIS := Lib.hid (is106 r L.length _ hcn (t : Int))
  have HIB : Hid (isB L.length (t : Int) = true) := Lib.hid (by simp [isB]; omega)
  rw [HIB.out] at HIS
  have HCP := Lib.hid (copyI_any ha args.length hc (intsN args) ((w.alloc (.cells #[.int .u8 0, .int .u64 0, .slice none 0 0] 141)).alloc (.cells #[.int .u8 op, .int .u64 num, .slice ha args.length hc] 141)) (intsN_len _) HATA.out (by omega))
  go_wp2_with (first | (go_at_call 106; refine HIS.out.mono ?_; rintro e w' ⟨rfl, rfl⟩) | (go_at_call 80; refine HCP.out.mono ?_))
  rintro e w5 ⟨v', rfl, r1, r2⟩
  rw [hsz] at r1 r2
  obtain ⟨av, cv, e5, hatv, hnv, hbv⟩ := r1.atBase (d := 0)
  have HNV := Lib.hid hnv
  clear hnv
  rw [intsN_len] at e5
  subst e5
  have hb1 : w.heap.size + 1 < w.heap.size + 2 := Nat.lt_succ_self _
  have z0 := (r2.cell (p := ⟨w.heap.size + 1, 0, none⟩) hb1).trans (show World.cell? _ _ = some (.int .u8 op) by simp [World.cell?_alloc_at])
  have z1 := (r2.cell (p := ⟨w.heap.size + 1, 1, none⟩) hb1).trans (show World.cell? _ _ = some (.int .u64 num) by simp [World.cell?_alloc_at])
  have z2 := (r2.cell (p := ⟨w.heap.size + 1, 2, none⟩) hb1).trans (show World.cell? _ _ = some (.slice ha args.length hc) by simp [World.cell?_alloc_at])
  have z3 := (r2.frozen (p := ⟨w.heap.size + 1, 2, none⟩) hb1).trans (show World.frozen? _ _ = false by simp [World.frozen?_alloc_at])
  have hb0 : w.heap.size < w.heap.size + 2 := by omega
  have g0 := (r2.cell (p := ⟨w.heap.size, 0, none⟩) hb0).trans (show World.cell? _ _ = some (.int .u8 0) by rw [World.cell?_alloc_past _ _ _ (by simp), World.cell?_alloc_new]; rfl)
  have g1 := (r2.cell (p := ⟨w.heap.size, 1, none⟩) hb0).trans (show World.cell? _ _ = some (.int .u64 0) by rw [World.cell?_alloc_past _ _ _ (by simp), World.cell?_alloc_new]; rfl)
  have g2 := (r2.cell (p := ⟨w.heap.size, 2, none⟩) hb0).trans (show World.cell? _ _ = some (.slice none 0 0) by rw [World.cell?_alloc_past _ _ _ (by simp), World.cell?_alloc_new]; rfl)
  have f0 := (r2.frozen (p := ⟨w.heap.size, 0, none⟩) hb0).trans (show World.frozen? _ _ = false by rw [World.frozen?_alloc_past _ _ _ (by simp)]; simp)
  have f1 := (r2.frozen (p := ⟨w.heap.size, 1, none⟩) hb0).trans (show World.frozen? _ _ = false by rw [World.frozen?_alloc_past _ _ _ (by simp)]; simp)
  have f2 := (r2.frozen (p := ⟨w.heap.size, 2, none⟩) hb0).trans (show World.frozen? _ _ = false by rw [World.frozen?_alloc_past _ _ _ (by simp)]; simp)
  have HR2 := Lib.hid r2
  have HATV := Lib.hid hatv
  have HBV := Lib.hid hbv
  clear r1 r2 hatv hbv
  have HS4 := Lib.hid (set4 (.slice av args.length cv) (.int .u8 op) (.int .u64 num) (.slice av args.length cv) g0 g1 g2)
  go_wp2_with fail
  obtain ⟨q0, q1, q2, q3, q4, q5⟩ := HS4.out
  have HQ3 := Lib.hid q3
  have HQ4 := Lib.hid q4
  have HQ5 := Lib.hid q5
  clear HS4 q3 q4 q5 z0 z1 z2 z3 g0 g1 g2 f0 f1 f2
  generalize (((w5.setCell ⟨w.heap.size + 1, 2, none⟩ (.slice av args.length cv)).setCell ⟨w.heap.size, 0, none⟩ (.int .u8 op)).setCell ⟨w.heap.size, 1, none⟩ (.int .u64 num)).setCell ⟨w.heap.size, 2, none⟩ (.slice av args.length cv) = w6 at *
  (try simp only [Exit.inBlock, Exit.then])
  refine bodyPost_ret (by simp [results, Tryz.results67, go_sem, q0, q1, q2, Result.andThen]; try rfl) rfl ?_
  refine ⟨av, cv, rfl, At.frame HATV.out (Nat.le_of_eq HQ4.out.symm) (fun ad e => HQ3.out _ (HBV.out ad e)), (fun ad e => Nat.le_trans (by omega) (HBV.out ad e)), HNV.out, HQ5.out _ _ (HBA.out.trans (HR2.out.mono (by omega))) (Nat.le_refl _)⟩
