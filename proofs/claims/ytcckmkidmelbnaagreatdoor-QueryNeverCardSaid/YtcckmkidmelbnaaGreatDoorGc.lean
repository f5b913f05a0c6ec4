/- Walk: ask of the reference's graph. -/
import Derived.Test.YtcckmkidmelbnaaGreatDoorGa
import Derived.Test.YtcckmkidmelbnaaGreatDoorGb
namespace Go.Proofs.YtcckmkidmelbnaaGreatDoor
open Go.RowKit

def RAskPost (w : World) (B : Nat) (A A' : Nat → Prop) (gb : Nat) (nv : Value) (W : Nat) (L : List Nd) (n : Nd) (e : Ending) (w' : World) : Prop :=
  ∃ nv', e = .returned (.tuple #[.int .i64 (ndAt n L : Nat), .int .i64 0]) ∧ RG w' B (fun k => A k ∨ A' k) gb nv' W (askL n L) ∧ Mut (MutB gb none nv) w w' ∧ NewB w nv nv'
theorem RG.more {w : World} {B : Nat} {A A' : Nat → Prop} {gb : Nat} {nv : Value} {W : Nat} {L : List Nd} (h : RG w B A gb nv W L) (hA' : ∀ k, A' k → B ≤ k ∧ k < w.heap.size ∧ ¬ MutB gb none nv k) : RG w B (fun k => A k ∨ A' k) gb nv W L := by
  obtain ⟨xs, h1, h2⟩ := h.nds
  exact ⟨h.blk, ⟨xs, h1, h2.len, fun i hi => ⟨(h2.at_ i hi).1, (h2.at_ i hi).2.1, (h2.at_ i hi).2.2.mono fun k a => .inl a⟩⟩, h.ok, h.lo, h.ne, fun k a => a.elim (h.ar k) (hA' k)⟩
/-- a node more: what the append and the store into the struct leave -/
theorem RAskPost.add {w w4 w5 w7 : World} {B : Nat} {A A' : Nat → Prop} {gb : Nat} {nv v' : Value} {W : Nat} {L : List Nd} {n : Nd} {hd : Option Addr × Nat × Nat} {xs : List NdH} (hH : Hid (RG w B A gb nv W L)) (hnH : Hid (NdOk W L.length n))
    (hAH : Hid (∀ k, A' k → B ≤ k ∧ k < w.heap.size ∧ ¬ MutB gb none nv k)) (hhH : Hid (HdAt w A' hd n.args)) (hnoH : Hid (n ∉ L))
    (h4 : Below w.heap.size w w4) (hxsH : Hid (NdsOk w A xs L)) (hownH : Hid (Lay.nd.Own 141 w5 B v' (xs ++ [(n.op, n.num, hd)]))) (hgH : Hid (w4.grownBy w5 nv.ownBlock)) (hvH : Hid (v'.ownBlock = nv.ownBlock ∨ v'.ownBlock = some w4.heap.size))
    (e7 : w7.heap = (w5.setCell ⟨gb, 2, none⟩ v').heap) (o7 : w7.os = w5.os ∧ w7.tape = w5.tape ∧ w7.output = w5.output) :
    RAskPost w B A A' gb nv W L n (.returned (.tuple #[.int .i64 (L.length : Int), .int .i64 0])) w7 := by
  have h := hH.out; have hn := hnH.out; have hA' := hAH.out; have hh := hhH.out; have hno := hnoH.out; have hxs := hxsH.out; have hown := hownH.out; have hg := hgH.out; have hv := hvH.out
  have hgl := h.lo gb (.inl rfl)
  have hz4 := h4.size
  have hz5 := hg.size
  have hz7 : w7.heap.size = w5.heap.size := by rw [e7]; simp
  have n2 := h.ne
  have g4 : w4.heap[gb]? = w.heap[gb]? := h4.block gb hgl.2
  have g5 : w5.heap[gb]? = w.heap[gb]? := (hg.block gb (by omega) (fun e => n2 e.symm)).trans g4
  have old : ∀ k, k < w.heap.size → ¬ MutB gb none nv k → w7.heap[k]? = w.heap[k]? := fun k hk hm => by
    have hk1 : k ≠ gb := fun e => hm (.inl e)
    rw [e7, Below.heap_setCell _ _ _ _ hk1]
    exact (hg.block k (by omega) (fun e => hm (.inr (.inr e.symm)))).trans (h4.block k hk)
  have vne : v'.ownBlock ≠ some gb := by
    rcases hv with e | e
    · rw [e]; exact n2
    · rw [e]; exact fun e => by injection e with e; omega
  have vlo : ∀ k, v'.ownBlock = some k → B ≤ k ∧ k < w5.heap.size := fun k e => World.ownsRow.lt hown k e
  refine ⟨v', by rw [ndAt_none hno], ?_, ⟨?_, ?_, ?_, by omega, old⟩, ?_⟩
  · rw [askL, if_neg hno]
    refine ⟨?_, ⟨xs ++ [(n.op, n.num, hd)], ?_, ?_⟩, ?_, ?_, vne, ?_⟩
    · rw [e7]
      have := g5.trans h.blk
      simp [World.setCell, Array.getElem?_modify, this]
    · refine own_frame hown fun k e => ?_
      rw [e7, Below.heap_setCell _ _ _ _ (fun e' => vne (by rw [e, e']))]
    · refine NdsOk.snoc (A := A) ?_ (fun k a => .inl a) ?_
      · exact hxs.frame (by omega) fun k a => old k (h.ar k a).2.1 (h.ar k a).2.2
      · exact (hh.frame (by omega) fun k a => old k (hA' k a).2.1 (hA' k a).2.2).mono fun k a => .inr a
    · have := h.ok.ask hn
      unfold askL at this
      rwa [if_neg hno] at this
    · rintro k (rfl | e | e)
      · exact ⟨hgl.1, by omega⟩
      · cases e
      · have := vlo k e; exact ⟨this.1, by omega⟩
    · have key : ∀ k, B ≤ k ∧ k < w.heap.size ∧ ¬ MutB gb none nv k → B ≤ k ∧ k < w7.heap.size ∧ ¬ MutB gb none v' k := fun k ⟨a1, a2, a3⟩ => by
        refine ⟨a1, by omega, ?_⟩
        rintro (e | e | e)
        · exact a3 (.inl e)
        · exact a3 (.inr (.inl e))
        · rcases hv with e' | e'
          · exact a3 (.inr (.inr (e'.symm.trans e)))
          · rw [e'] at e; injection e with e; omega
      rintro k (a | a)
      · exact key k (h.ar k a)
      · exact key k (hA' k a)
  · rw [o7.1, hg.os, h4.os]
  · rw [o7.2.1, hg.tape, h4.tape]
  · rw [o7.2.2, hg.output, h4.output]
  · rcases hv with e | e
    · exact .inl e
    · exact .inr ⟨_, e, by omega⟩
theorem ndAt_of {n : Nd} : ∀ {L : List Nd} {k : Nat}, (∀ j, j < k → L.getD j default ≠ n) → L.getD k default = n → k < L.length → ndAt n L = k ∧ n ∈ L
  | [], k, _, _, h => by simp at h
  | m :: l, 0, _, h, _ => by
    have h : m = n := by simpa using h
    exact ⟨by simp [ndAt, h], by simp [h]⟩
  | m :: l, k + 1, h1, h2, h3 => by
    have h0 : m ≠ n := by simpa using h1 0 (by omega)
    obtain ⟨e, hm⟩ := ndAt_of (L := l) (k := k) (fun j hj => by simpa using h1 (j + 1) (by omega)) (by simpa using h2) (by simpa using h3)
    exact ⟨by unfold ndAt; rw [if_neg h0, e], List.mem_cons_of_mem _ hm⟩
set_option maxRecDepth 100000 in
set_option maxHeartbeats 4000000 in
theorem ask70 {w : World} {B : Nat} {A A' : Nat → Prop} {gb : Nat} {nv : Value} {W : Nat} {L : List Nd} (h : RG w B A gb nv W L) (n : Nd) (hn : NdOk W L.length n) {a : Option Addr} {len cap : Nat} (hd : HdAt w A' (a, len, cap) n.args)
    (hA' : ∀ k, A' k → B ≤ k ∧ k < w.heap.size ∧ ¬ MutB gb none nv k) (hB : B ≤ w.heap.size) (hL : L.length ≤ 60) :
    Calls Tryz.prog 95 #[.pointer (some ⟨gb, 0, none⟩), .agg #[.int .u8 n.op, .int .u64 n.num, .slice a len cap]] w (RAskPost w B A A' gb nv W L n) := by
  have hlt := (h.lo gb (.inl rfl)).2
  obtain ⟨na, ncap, rfl, hcl, hcm⟩ := h.slice
  have hl2 : n.args.length ≤ 2 := by rw [hn.2.2.2.2.1]; have := hn.1; unfold arN; (repeat' split) <;> omega
  have hLi : (L.length : Int) ≤ 60 := by omega
  have hlen : len = n.args.length := hd.len
  subst hlen
  have hd0 : HdAt w A' (a, n.args.length, cap) n.args := hd
  have c1 : w.cell? ⟨gb, 1, none⟩ = some (.int .i64 1000) := by simp [World.cell?, h.blk]
  have c2 : w.cell? ⟨gb, 2, none⟩ = some (.slice na L.length ncap) := by simp [World.cell?, h.blk]
  have HP := Lib.hid h
  have HHD := Lib.hid hd0
  have HNOK := Lib.hid hn
  have HAA := Lib.hid hA'
  obtain ⟨xs, hown, hxs⟩ := h.nds
  have HND := Lib.hid (fun i hi => nds_cells hown hxs (i := i) hi)
  have HOW := Lib.hid hown
  have HXS := Lib.hid hxs
  clear hd hd0 hn hA' h hown hxs
  go_enter Tryz.func95, Tryz.ntmps95
  go_wp2_with fail
  have hB1 : Below w.heap.size w (w.alloc (Obj.cells #[Value.int IntKind.u8 n.op, Value.int IntKind.u64 n.num, Value.slice a n.args.length cap] 141)) := (Below.refl _ _).alloc (Nat.le_refl _) _
  have x0 : (w.alloc (Obj.cells #[Value.int IntKind.u8 n.op, Value.int IntKind.u64 n.num, Value.slice a n.args.length cap] 141)).cell? ⟨w.heap.size, 0, none⟩ = some (.int .u8 n.op) := by rw [World.cell?_alloc_new]; rfl
  have x1 : (w.alloc (Obj.cells #[Value.int IntKind.u8 n.op, Value.int IntKind.u64 n.num, Value.slice a n.args.length cap] 141)).cell? ⟨w.heap.size, 1, none⟩ = some (.int .u64 n.num) := by rw [World.cell?_alloc_new]; rfl
  have x2 : (w.alloc (Obj.cells #[Value.int IntKind.u8 n.op, Value.int IntKind.u64 n.num, Value.slice a n.args.length cap] 141)).cell? ⟨w.heap.size, 2, none⟩ = some (.slice a n.args.length cap) := by rw [World.cell?_alloc_new]; rfl
  have hs1 : w.heap.size < (w.alloc (Obj.cells #[Value.int IntKind.u8 n.op, Value.int IntKind.u64 n.num, Value.slice a n.args.length cap] 141)).heap.size := by simp
  generalize (w.alloc (Obj.cells #[Value.int IntKind.u8 n.op, Value.int IntKind.u64 n.num, Value.slice a n.args.length cap] 141)) = w1 at *
  have HX : Hid (∀ w', Below w1.heap.size w1 w' → w'.cell? ⟨w.heap.size, 0, none⟩ = some (.int .u8 n.op) ∧ w'.cell? ⟨w.heap.size, 1, none⟩ = some (.int .u64 n.num) ∧ w'.cell? ⟨w.heap.size, 2, none⟩ = some (.slice a n.args.length cap)) := Lib.hid fun w' hb =>
    ⟨(hb.cell (p := ⟨w.heap.size, 0, none⟩) hs1).trans x0, (hb.cell (p := ⟨w.heap.size, 1, none⟩) hs1).trans x1, (hb.cell (p := ⟨w.heap.size, 2, none⟩) hs1).trans x2⟩
  have HB1 := Lib.hid hB1
  have HC1 := Lib.hid c1
  have HC2 := Lib.hid c2
  clear x0 x1 x2 hB1 c1 c2
  go_loopw [6] (fun i wr => ∃ k : Nat, k ≤ L.length ∧ i = .int .i64 k ∧ Below w1.heap.size w1 wr ∧ Hid (∀ j, j < k → L.getD j default ≠ n)) (fun i _ => L.length - (intOf i).toNat)
  case atStart => exact ⟨0, by omega, rfl, Below.refl _ _, Lib.hid fun j hj => by omega⟩
  case round =>
    obtain ⟨k, hk, rfl, hbr, HNO⟩ := hrel
    have hbw : Below w.heap.size w wr := HB1.out.trans (hbr.mono (by have := HB1.out.size; omega))
    have c1 : wr.cell? ⟨gb, 1, none⟩ = some (.int .i64 1000) := (hbw.cell (p := ⟨gb, 1, none⟩) hlt).trans HC1.out
    have c2 : wr.cell? ⟨gb, 2, none⟩ = some (.slice na L.length ncap) := (hbw.cell (p := ⟨gb, 2, none⟩) hlt).trans HC2.out
    obtain ⟨x0, x1, x2⟩ := HX.out wr hbr
    have hszr := hbr.size
    have HBW := Lib.hid hbw
    have HBR := Lib.hid hbr
    clear hbw hbr
    by_cases hlk : k < L.length
    · obtain ⟨b, cb, ha, hc, hv, hbz, hob, y0, y1, y2, hat, hnn, har⟩ := HND.out k hlk
      injection hv with hv1 hv2 hv3
      subst hv1
      have z0 := (HBW.out.cell (p := ⟨b, k * 3, none⟩) hbz).trans y0
      have z1 := (HBW.out.cell (p := ⟨b, k * 3 + 1, none⟩) hbz).trans y1
      have z2 := (HBW.out.cell (p := ⟨b, k * 3 + 2, none⟩) hbz).trans y2
      have HAT := Lib.hid (hat.below HBW.out)
      have HAN := Lib.hid (HHD.out.at_.below HBW.out)
      have hl3 : (L.getD k default).args.length ≤ 2 := by have h5 := (HP.out.ok k hlk); rw [h5.2.2.2.2.1]; have := h5.1; unfold arN; (repeat' split) <;> omega
      have hki : (k : Int) < L.length := by omega
      have HDEC : Hid (∀ e : decide (L.getD k default = n) = false, ∀ j, j < k + 1 → L.getD j default ≠ n) := Lib.hid fun e j hj => by
        by_cases hjk : j = k
        · subst hjk; exact of_decide_eq_false e
        · exact HNO.out j (by omega)
      clear y0 y1 y2 hat hnn har hv2 hv3
      have HS : Hid (∀ w', Below wr.heap.size wr w' → w'.cell? ⟨gb, 2, none⟩ = some (.slice (some ⟨b, 0, none⟩) L.length ncap) ∧ w'.cell? ⟨b, k * 3, none⟩ = some (.int .u8 ((L.getD k default).op : Int)) ∧ w'.cell? ⟨b, k * 3 + 1, none⟩ = some (.int .u64 ((L.getD k default).num : Int)) ∧ w'.cell? ⟨b, k * 3 + 2, none⟩ = some (.slice ha (L.getD k default).args.length hc) ∧
          w'.cell? ⟨w.heap.size, 0, none⟩ = some (.int .u8 n.op) ∧ w'.cell? ⟨w.heap.size, 1, none⟩ = some (.int .u64 n.num) ∧ w'.cell? ⟨w.heap.size, 2, none⟩ = some (.slice a n.args.length cap) ∧ Below wr.heap.size wr w') := Lib.hid fun w' hb => by
        have hz := HBW.out.size
        exact ⟨(hb.cell (p := ⟨gb, 2, none⟩) (by show gb < _; omega)).trans c2, (hb.cell (p := ⟨b, k * 3, none⟩) (by show b < _; omega)).trans z0, (hb.cell (p := ⟨b, k * 3 + 1, none⟩) (by show b < _; omega)).trans z1, (hb.cell (p := ⟨b, k * 3 + 2, none⟩) (by show b < _; omega)).trans z2,
          (hb.cell (p := ⟨w.heap.size, 0, none⟩) (by show w.heap.size < _; omega)).trans x0, (hb.cell (p := ⟨w.heap.size, 1, none⟩) (by show w.heap.size < _; omega)).trans x1, (hb.cell (p := ⟨w.heap.size, 2, none⟩) (by show w.heap.size < _; omega)).trans x2, hb⟩
      have HL3 := Lib.hid hl3
      have HBE := Lib.hid (show (Below w1.heap.size w1 wr) from HBR.out)
      clear z0 z1 z2 x0 x1 x2 c1
      generalize hgd : L.getD k default = nk at *
      have HGD := Lib.hid hgd
      clear hgd
      go_wp2_with fail
      go_region_held3 (fun w' => w'.cell? ⟨gb, 2, none⟩ = some (.slice (some ⟨b, 0, none⟩) L.length ncap) ∧ w'.cell? ⟨b, k * 3, none⟩ = some (.int .u8 (nk.op : Int)) ∧ w'.cell? ⟨b, k * 3 + 1, none⟩ = some (.int .u64 (nk.num : Int)) ∧ w'.cell? ⟨b, k * 3 + 2, none⟩ = some (.slice ha nk.args.length hc) ∧
          w'.cell? ⟨w.heap.size, 0, none⟩ = some (.int .u8 n.op) ∧ w'.cell? ⟨w.heap.size, 1, none⟩ = some (.int .u64 n.num) ∧ w'.cell? ⟨w.heap.size, 2, none⟩ = some (.slice a n.args.length cap) ∧ Below wr.heap.size wr w')
        (first | exact HS.out _ (Below.refl _ _) | exact HS.out _ (Below.refl _ _).drew | exact HS.out _ KB.out | exact HS.out _ (‹_ ∧ _ ∧ _ ∧ _ ∧ _ ∧ _ ∧ _ ∧ Below _ _ _›).2.2.2.2.2.2.2 | exact HS.out _ (‹_ ∧ _ ∧ _ ∧ _ ∧ _ ∧ _ ∧ _ ∧ Below _ _ _›).2.2.2.2.2.2.2.drew)
        (first
          | (go_at_call 118
             refine (eqN83 nk n ha a hc cap _ (HAT.out.below (‹_ ∧ _ ∧ _ ∧ _ ∧ _ ∧ _ ∧ _ ∧ Below _ _ _›).2.2.2.2.2.2.2) (HAN.out.below (id (‹_ ∧ _ ∧ _ ∧ _ ∧ _ ∧ _ ∧ _ ∧ Below _ _ _›).2.2.2.2.2.2.2)) (by have := HL3.out; omega)).mono ?_
             rintro e wB ⟨rfl, hbB⟩
             have KB := Lib.hid ((‹_ ∧ _ ∧ _ ∧ _ ∧ _ ∧ _ ∧ _ ∧ Below _ _ _›).2.2.2.2.2.2.2.trans (hbB.mono (‹_ ∧ _ ∧ _ ∧ _ ∧ _ ∧ _ ∧ _ ∧ Below _ _ _›).2.2.2.2.2.2.2.size))))
      clear HS
      have HK1 := Lib.hid hk
      by_cases hnk : nk = n
      · have hnd : decide (nk = n) = true := decide_eq_true hnk
        have HNK := Lib.hid hnk
        simp only [hnd]
        clear hnd hnk
        go_wp2_with fail
        go_ret2
        have hmem : ndAt n L = k ∧ n ∈ L := ndAt_of HNO.out (by rw [HGD.out]; exact HNK.out) hlk
        have hbl : Below w.heap.size w wB := HBW.out.trans (KB.out.mono HBW.out.size)
        exact ⟨_, by rw [hmem.1]; rfl, (by rw [askL, if_pos hmem.2]; exact (HP.out.more HAA.out).below hbl), Mut.of_below hbl, .inl rfl⟩
      · have hnd : decide (nk = n) = false := decide_eq_false hnk
        have HNK := Lib.hid hnd
        simp only [hnd]
        clear hnd hnk
        go_wp2_with fail
        go_roundw
        case rel =>
          exact ⟨k + 1, by omega, by go_num, HBR.out.trans (KB.out.mono HBR.out.size), Lib.hid (HDEC.out HNK.out)⟩
        case measure => simp [intOf]; omega
    · obtain rfl : k = L.length := by omega
      have HNI : Hid (n ∉ L) := Lib.hid fun hmem => by
        obtain ⟨i, hi, e⟩ := mem_getN L n hmem
        exact HNO.out i hi e
      have hB1z : w.heap.size < wr.heap.size := by omega
      have hgbz : gb < wr.heap.size := by omega
      have hxl : xs.length = L.length := HXS.out.len
      have HXL := Lib.hid hxl
      have hxl2 : xs.length ≤ 60 := by omega
      have HOWr : Hid (Lay.nd.Own 141 wr B (.slice na L.length ncap) xs) := Lib.hid (own_frame HOW.out fun k e => HBW.out.block k (HP.out.lo k (.inr (.inr e))).2)
      have HNE := Lib.hid HP.out.ne
      have HGB : Hid (wr.heap[gb]? = some (.cells #[.int .i64 W, .int .i64 1000, .slice na L.length ncap] 133 (0, 0))) := Lib.hid ((HBW.out.block gb hlt).trans HP.out.blk)
      have hcA : ∀ m ob, ((wr.drewN m).alloc ob).cell? ⟨gb, 2, none⟩ = some (.slice na L.length ncap) := fun m ob => (World.cell?_of_block (a := ⟨gb, 2, none⟩) (Below.heap_alloc (wr.drewN m) ob gb hgbz)).trans c2
      clear hxl HND
      go_wp2_with fail
      go_quiet (fail)
      go_wp2_with fail
      go_region_law (refine step_nd rfl (.tmp 40) (.tmp 42) rfl (n.op, n.num, a, n.args.length, cap) rfl (by first | exact (show Lay.nd.Own 141 _ B _ _ from HOWr.out).alloc _) rfl (by first | exact lay_new_cells _ _ 141) (by omega) (by first | (simp; done) | (simp; omega) | omega) ?_; intro v' w5 ho5 hg5 hv5; obtain ⟨av, cv, hav, _, _, _⟩ := ho5.at_ (d := default); rw [show (xs ++ [(n.op, n.num, (a, n.args.length, cap))]).length = L.length + 1 by rw [List.length_append, HXL.out]; rfl] at hav; subst hav; have HO5 := Lib.hid ho5; have HG5 := Lib.hid hg5; have HV5 := Lib.hid hv5; have hb5 : w5.heap[gb]? = some (.cells #[.int .i64 W, .int .i64 1000, .slice na L.length ncap] 133 (0, 0)) := (hg5.block gb (by first | (simp; done) | (simp; omega) | omega) (fun e => HNE.out e.symm)).trans ((Below.heap_alloc _ _ gb (by exact hgbz)).trans HGB.out); have hc5 : w5.cell? ⟨gb, 2, none⟩ = some (.slice na L.length ncap) := (by simp [World.cell?, hb5]); have hf5 : w5.frozen? ⟨gb, 2, none⟩ = false := (by simp [World.frozen?, hb5]); have HB5 := Lib.hid hb5; clear ho5 hg5 hv5 hb5)
      all_goals
        go_wp2_with fail
        go_ret2
        exact RAskPost.add HP HNOK HAA HHD HNI ((below_drewN HBW.out _).alloc (by show w.heap.size ≤ wr.heap.size; omega) _) HXS HO5 HG5 HV5 rfl ⟨rfl, rfl, rfl⟩
end Go.Proofs.YtcckmkidmelbnaaGreatDoor
