/- A text that is rejected: the panic is caught. -/
import Derived.Test.YtekbkaipdmklpaaGreatDoorRl
namespace Go.Proofs.YtekbkaipdmklpaaGreatDoor
namespace Cr
open Go Go.RowKit

set_option maxHeartbeats 4000000 in
set_option maxRecDepth 100000 in
theorem catch_fault (b0 b1 b2 : Nat) (older : List PanicEntry) (w : World) (h0 : w.heap[b0]? = some (.cells #[.int .i64 0, .slice none 0 0, .slice none 0 0, .slice none 0 0, .slice none 0 0] 53 (0, 0))) (h1 : w.heap[b1]? = some (.cells #[.int .i64 0, .int .i64 0] 27 (0, 0))) (h2 : w.heap[b2]? = some (.cells #[.int .i64 0] 28 (0, 0))) (n01 : b0 ≠ b1) (n02 : b0 ≠ b2) (n12 : b1 ≠ b2) :
    CallsD Tryz.prog 28 #[.pointer (some ⟨b0, 0, none⟩), .pointer (some ⟨b1, 0, none⟩), .pointer (some ⟨b2, 0, none⟩)] (.panicking ({ v := .iface 98 (.agg #[.int .i64 1, .int .i64 1, .int .i64 4]), recovered := false } :: older)) w fun e u' w' =>
      e = .returned (.tuple #[]) ∧ u' = .panicking ({ v := .iface 98 (.agg #[.int .i64 1, .int .i64 1, .int .i64 4]), recovered := true } :: older) ∧
        w'.heap[b0]? = some (.cells #[.int .i64 0, .slice none 0 0, .slice none 0 0, .slice none 0 0, .slice none 0 0] 53 (0, 0)) ∧ w'.heap[b1]? = some (.cells #[.int .i64 1, .int .i64 1] 27 (0, 0)) ∧ w'.heap[b2]? = some (.cells #[.int .i64 4] 28 (0, 0)) ∧
        ∀ B, B ≤ b0 → B ≤ b1 → B ≤ b2 → Below B w w' := by
  refine callsD_of_wpS Tryz.func28 rfl fun c₀ cs hu => ?_
  apply wpS_seq
  apply wpS_region
  simp [wpOpsS, go_sem, recoverD, hu, Tryz.ntmps28, Exit.thenS]
  refine wpS_of_wp ?_
  have c0 : ∀ i (hi : i < 5), w.cell? ⟨b0, i, none⟩ = some (#[Value.int .i64 0, .slice none 0 0, .slice none 0 0, .slice none 0 0, .slice none 0 0][i]) := fun i hi => by simp [World.cell?, h0]
  have c00 : w.cell? ⟨b0, 0, none⟩ = some (.int .i64 0) := by simp [World.cell?, h0]
  have c01 : w.cell? ⟨b0, 1, none⟩ = some (.slice none 0 0) := by simp [World.cell?, h0]
  have c02 : w.cell? ⟨b0, 2, none⟩ = some (.slice none 0 0) := by simp [World.cell?, h0]
  have c03 : w.cell? ⟨b0, 3, none⟩ = some (.slice none 0 0) := by simp [World.cell?, h0]
  have c04 : w.cell? ⟨b0, 4, none⟩ = some (.slice none 0 0) := by simp [World.cell?, h0]
  have c10 : w.cell? ⟨b1, 0, none⟩ = some (.int .i64 0) := by simp [World.cell?, h1]
  have c11 : w.cell? ⟨b1, 1, none⟩ = some (.int .i64 0) := by simp [World.cell?, h1]
  have c20 : w.cell? ⟨b2, 0, none⟩ = some (.int .i64 0) := by simp [World.cell?, h2]
  have f0 : ∀ i, w.frozen? ⟨b0, i, none⟩ = false := fun i => by simp [World.frozen?, h0]
  have f1 : ∀ i, w.frozen? ⟨b1, i, none⟩ = false := fun i => by simp [World.frozen?, h1]
  have f2 : ∀ i, w.frozen? ⟨b2, i, none⟩ = false := fun i => by simp [World.frozen?, h2]
  have m01 := Ne.symm n01
  have m02 := Ne.symm n02
  have m12 := Ne.symm n12
  clear c0
  have hta : ∀ (v : Value) (W : World), (Instr.typeAssert (.iface 98 v) 20 98 false).run Tryz.prog W = .ok v W := fun v W => by
    simp [Instr.typeAssert, run_underlying Tryz.underlying98]
  have hf0 : ∀ W : World, (Instr.field 98 (.agg #[.int .i64 1, .int .i64 1, .int .i64 4]) 0).run Tryz.prog W = .ok (.agg #[.int .i64 1, .int .i64 1]) W := fun W => by kernel_rfl
  have hf1 : ∀ W : World, (Instr.field 98 (.agg #[.int .i64 1, .int .i64 1, .int .i64 4]) 1).run Tryz.prog W = .ok (.int .i64 4) W := fun W => by kernel_rfl
  have hfr : ∀ v : Value, #[Value.pointer (some ⟨b0, 0, none⟩), .pointer (some ⟨b1, 0, none⟩), .pointer (some ⟨b2, 0, none⟩)] ++ ((((Array.replicate 11 undef).setIfInBounds 1 v).setIfInBounds 0 v).setIfInBounds 2 v).setIfInBounds 3 (.bool true) =
      #[Value.pointer (some ⟨b0, 0, none⟩), .pointer (some ⟨b1, 0, none⟩), .pointer (some ⟨b2, 0, none⟩), v, v, v, .bool true, undef, undef, undef, undef, undef, undef, undef] := fun v => rfl
  go_wp2_with fail
  go_region
  have hD : ∀ X : World, X.drew.heap = X.heap := fun _ => rfl
  refine ⟨rfl, _, rfl, .tuple #[], by simp [results, Tryz.f28], rfl, rfl, ?_, ?_, ?_, fun B hB0 hB1 hB2 => ?_⟩
  · rw [hD]
    simp [World.setCell, Array.getElem?_modify, h0, m01, m02]
  · rw [hD]
    simp [World.setCell, Array.getElem?_modify, h1, n01, m12]
  · rw [hD]
    simp [World.setCell, Array.getElem?_modify, h2, n02, n12]
  · exact (((((((((Below.refl B w).setCell hB0 _).setCell hB0 _).setCell hB0 _).setCell hB0 _).setCell hB0 _).setCell hB1 _).setCell hB1 _).setCell hB2 _).drew
end Cr
end Go.Proofs.YtekbkaipdmklpaaGreatDoor
namespace Go.Proofs.YtekbkaipdmklpaaGreatDoor
namespace Cr
open Go Go.RowKit

def rejV : Value := .tuple ⟨[.agg ⟨[.int .i64 (.ofNat 0), .slice none 0 0, .slice none 0 0, .slice none 0 0, .slice none 0 0]⟩, .agg ⟨[.int .i64 (.ofNat 1), .int .i64 (.ofNat 1)]⟩, .int .i64 (.ofNat 4)]⟩
theorem alloc_at (W : World) (ob : Obj) (n : Nat) (hn : W.heap.size = n) : (W.alloc ob).heap[n]? = some ob := hn ▸ heap_new W ob
theorem alloc_at3 (w : World) (o1 o2 o3 : Obj) : (((w.alloc o1).alloc o2).alloc o3).heap[w.heap.size]? = some o1 ∧ (((w.alloc o1).alloc o2).alloc o3).heap[w.heap.size + 1]? = some o2 ∧ (((w.alloc o1).alloc o2).alloc o3).heap[w.heap.size + 1 + 1]? = some o3 := by
  have s1 : (w.alloc o1).heap.size = w.heap.size + 1 := by simp
  have s2 : ((w.alloc o1).alloc o2).heap.size = w.heap.size + 1 + 1 := by simp
  refine ⟨?_, ?_, alloc_at _ _ _ s2⟩
  · rw [Below.heap_alloc _ _ _ (by omega), Below.heap_alloc _ _ _ (by omega)]
    exact heap_new w o1
  · rw [Below.heap_alloc _ _ _ (by omega)]
    exact alloc_at _ _ _ s1
set_option maxHeartbeats 4000000 in
set_option maxRecDepth 100000 in
theorem parse_calls (w : World) : Calls Tryz.prog 12 ⟨[rejS]⟩ w fun e w' => e = .returned rejV ∧ Below w.heap.size w w' := by
  have hmf : ∀ (fn : Fn) (first cap : Array Value) (w : World), (Instr.makeFunc fn first cap).run Tryz.prog w = .ok (.func fn first cap) w := fun _ _ _ _ => rfl
  generalize hs : rejS = txt
  have HL : ∀ w, _ := hs ▸ lines_calls
  clear hs
  go_enter_defers Tryz.func12, Tryz.ntmps12
  go_upto_region 6 with (go_at_call 27; refine (HL _).mono ?_; rintro e w4 ⟨ob, oo, cl, wb, wo, c2, rfl, hb4, hob, hwb, hu, hu0, hu1, hu2⟩)
  generalize hw3 : ((w.alloc _).alloc _).alloc _ = w3 at *
  have hb3 : Below w.heap.size w w3 := by rw [← hw3]; exact (((Below.refl _ _).alloc (Nat.le_refl _) _).alloc (by simp) _).alloc (by simp; omega) _
  have hz : w3.heap[w.heap.size]? = some (.cells #[.int .i64 0, .slice none 0 0, .slice none 0 0, .slice none 0 0, .slice none 0 0] 53 (0, 0)) ∧ w3.heap[w.heap.size + 1]? = some (.cells #[.int .i64 0, .int .i64 0] 27 (0, 0)) ∧ w3.heap[w.heap.size + 1 + 1]? = some (.cells #[.int .i64 0] 28 (0, 0)) := by rw [← hw3]; exact alloc_at3 _ _ _ _
  obtain ⟨z0, z1, z2⟩ := hz
  have hs3 : w.heap.size + 1 + 1 < w3.heap.size := (Array.getElem?_eq_some_iff.1 z2).1
  have y0 := (hb4.block _ (by omega)).trans z0
  have y1 := (hb4.block _ (by omega)).trans z1
  have y2 := (hb4.block _ hs3).trans z2
  have hs4 : w.heap.size + 1 + 1 < w4.heap.size := (Array.getElem?_eq_some_iff.1 y2).1
  have hbw : Below w.heap.size w w4 := hb3.trans (hb4.mono (by omega))
  clear hw3 hb3 hb4 z0 z1 z2 hs3 HL
  generalize hw6 : (w4.alloc _).alloc _ = w6
  have hb6 : Below w4.heap.size w4 w6 := by rw [← hw6]; exact ((Below.refl _ _).alloc (Nat.le_refl _) _).alloc (by simp) _
  have hx6 : w6.heap[w4.heap.size + 1]? = some (.cells parser0 102 (0, 0)) := by rw [← hw6]; exact alloc_at _ _ _ (by simp)
  clear hw6
  have x0 := (hb6.block _ (by omega)).trans y0
  have x1 := (hb6.block _ (by omega)).trans y1
  have x2 := (hb6.block _ hs4).trans y2
  have v := (hb6.cell (p := ⟨ob, oo, none⟩) hob).trans hu
  have v0 := (hb6.cell (p := ⟨wb, wo, none⟩) hwb).trans hu0
  have v1 := (hb6.cell (p := ⟨wb, wo + 1, none⟩) hwb).trans hu1
  have v2 := (hb6.cell (p := ⟨wb, wo + 2, none⟩) hwb).trans hu2
  have hbw6 : Below w.heap.size w w6 := hbw.trans (hb6.mono (by omega))
  have hs6 : wb < w6.heap.size := Nat.lt_of_lt_of_le hwb hb6.size
  have hne : wb ≠ w4.heap.size + 1 := by omega
  clear y0 y1 y2 hu hu0 hu1 hu2 hb6 hbw
  have hRx : w.heap.size + 1 + 1 < w4.heap.size + 1 := by omega
  generalize hRw : w.heap.size = R at *
  generalize w4.heap.size + 1 = x at *
  go_wp2_with fail
  refine wp_loop_once ?_
  go_wp2_with (go_at_call 29; refine (line_panics hx6 hne hs6 (by omega) v0 v1 v2).mono ?_; rintro e w7 ⟨rfl, hg7⟩)
  have hR2 : R + 1 + 1 < w6.heap.size := (Array.getElem?_eq_some_iff.1 x2).1
  have q0 := (hg7.block R (by omega) (by simp; omega)).trans x0
  have q1 := (hg7.block (R + 1) (by omega) (by simp; omega)).trans x1
  have q2 := (hg7.block (R + 1 + 1) (by omega) (by simp; omega)).trans x2
  have hb7 : Below R w w7 := hbw6.grown hg7 (by have := hbw6.size; omega) (fun k hk => by injection hk with hk; omega)
  refine leaves_cons (f := 28) (args := #[.pointer (some ⟨R, 0, none⟩), .pointer (some ⟨R + 1, 0, none⟩), .pointer (some ⟨R + 1 + 1, 0, none⟩)]) (by simp) (by simp [go_sem]) ?_
  refine (catch_fault R (R + 1) (R + 1 + 1) [] w7 q0 q1 q2 (by omega) (by omega) (by omega)).mono ?_
  rintro e u' w'' ⟨rfl, rfl, p0, p1, p2, hB⟩
  have hb8 : Below w.heap.size w w'' := by rw [hRw]; exact hb7.trans (hB R (Nat.le_refl _) (by omega) (by omega))
  have d0 : ∀ i, i < 5 → w''.cell? ⟨R, i, none⟩ = #[Value.int .i64 0, .slice none 0 0, .slice none 0 0, .slice none 0 0, .slice none 0 0][i]? := fun i _ => by simp [World.cell?, p0]
  have d00 := d0 0 (by decide)
  have d01 := d0 1 (by decide)
  have d02 := d0 2 (by decide)
  have d03 := d0 3 (by decide)
  have d04 := d0 4 (by decide)
  have d10 : w''.cell? ⟨R + 1, 0, none⟩ = some (.int .i64 1) := by simp [World.cell?, p1]
  have d11 : w''.cell? ⟨R + 1, 1, none⟩ = some (.int .i64 1) := by simp [World.cell?, p1]
  have d20 : w''.cell? ⟨R + 1 + 1, 0, none⟩ = some (.int .i64 4) := by simp [World.cell?, p2]
  simp only [List.getElem?_toArray, List.getElem?_cons_zero, List.getElem?_cons_succ] at d00 d01 d02 d03 d04
  simp [Leaves, settle, results, Tryz.f12, go_sem, d00, d01, d02, d03, d04, d10, d11, d20]
  exact ⟨rfl, hb8⟩
end Cr
end Go.Proofs.YtekbkaipdmklpaaGreatDoor
namespace Go.Proofs.YtekbkaipdmklpaaGreatDoor
namespace Cr
open Go Go.RowKit

theorem rejV_ok (μ : Mu) : VR μ rejV rejV := by
  have h1 : LR μ [.int .i64 (.ofNat 0), .slice none 0 0, .slice none 0 0, .slice none 0 0, .slice none 0 0] [.int .i64 (.ofNat 0), .slice none 0 0, .slice none 0 0, .slice none 0 0, .slice none 0 0] := LR.cons (.int _ _) (LR.cons (.sl0 _ _) (LR.cons (.sl0 _ _) (LR.cons (.sl0 _ _) (LR.cons (.sl0 _ _) (LR.nil μ)))))
  have h2 : LR μ [.int .i64 (.ofNat 1), .int .i64 (.ofNat 1)] [.int .i64 (.ofNat 1), .int .i64 (.ofNat 1)] := LR.cons (.int _ _) (LR.cons (.int _ _) (LR.nil μ))
  exact VR.tuple_of (LR.cons (.agg _ _ h1.len h1.at_) (LR.cons (.agg _ _ h2.len h2.at_) (LR.cons (.int _ _) (LR.nil μ))))
theorem parse_rejects (H : AH) : CW PR GG 12 [sv rejT] H rejV H := by
  refine CW.still (c := Tryz.f12.body.getD .skip) Tryz.func12 (by kernel_rfl) (by kernel_rfl) (fun μ l hl => ?_) rejV_ok parse_calls H
  obtain ⟨v, r, rfl, hv, h2⟩ := hl.cons_inv
  obtain rfl := h2.nil_inv
  cases hv
  rfl
end Cr
end Go.Proofs.YtekbkaipdmklpaaGreatDoor
