/- Walk: word.Apply. -/
import Derived.Test.YtjhbabgcoemecaaDoorWd
import Derived.Deep.RegionHeld3
namespace Go.Proofs.YtjhbabgcoemecaaDoor
open Go.RowKit

def ApPost (o w x y : Nat) (W : World) (e : Ending) (W' : World) : Prop := e = .returned (.tuple #[.int .u64 (appN o w (x % 2 ^ w) (y % 2 ^ w) : Nat), .int .i64 0]) ∧ Below W.heap.size W W'
theorem ApPost.mk {o w x y mx my r : Nat} {W W' : World} {v : Int} (hx : Hid (x % 2 ^ w = mx)) (hy : Hid (y % 2 ^ w = my)) (hv : v = ((r % 2 ^ w : Nat) : Int)) (hr : Hid (r % 2 ^ w = appN o w mx my)) (hb : Below W.heap.size W W') :
    ApPost o w x y W (.returned (.tuple #[.int .u64 v, .int .i64 0])) W' := ⟨by rw [hv, hr.out, ← hx.out, ← hy.out], hb⟩
/-- a number, and-ed with the mask -/
theorem trim_raw {w x : Nat} (h : w ≤ 64) (hx : x < 18446744073709551616) : bits .and .u64 (x : Int) ((2 ^ w - 1 : Nat) : Int) = ((x % 2 ^ w : Nat) : Int) := by
  have hl := pow_le h
  have h0 : 0 < 2 ^ w := Nat.two_pow_pos w
  rw [bits_and _ _ hx (by omega), and_mask]
def arrK (mx my : Nat) (k : Nat) : Array Value := if k = 0 then #[.int .u64 0, .int .u64 0, .int .u64 0] else if k = 1 then #[.int .u64 mx, .int .u64 0, .int .u64 0] else #[.int .u64 mx, .int .u64 my, .int .u64 0]
set_option maxRecDepth 100000 in
set_option maxHeartbeats 40000000 in
theorem apply_two (o w x y : Nat) (a : Option Addr) (cap : Nat) (W : World) (h4 : 4 ≤ o) (h20 : o ≤ 20) (h1 : 1 ≤ w) (h : w ≤ 64) (hx : x < 18446744073709551616) (hy : y < 18446744073709551616) (hat : (Lay.int .u64).At 0 W a [(x : Int), (y : Int)]) :
    Calls Tryd.prog 77 #[.int .u8 o, .int .i64 w, .slice a 2 cap] W (ApPost o w x y W) := by
  have hA : arN o = 2 := by unfold arN; (repeat' split) <;> omega
  have HAR := Lib.hid (arity72 o (by omega) (w := W))
  rw [hA] at HAR
  have HCK := Lib.hid (check64_ok w W h1 h)
  have HM := Lib.hid (fun W => mask82 w W h)
  have HX := Lib.hid (trim_raw h hx)
  have HY := Lib.hid (trim_raw h hy)
  have hp : 0 < 2 ^ w := Nat.two_pow_pos w
  have HXL : Hid (x % 2 ^ w < 2 ^ w) := Lib.hid (Nat.mod_lt _ hp)
  have HYL : Hid (y % 2 ^ w < 2 ^ w) := Lib.hid (Nat.mod_lt _ hp)
  have HAT := Lib.hid hat
  have d1 : decide ((o : Int) < 2) = false := by simp; omega
  have d2 : decide (21 < (o : Int)) = false := by simp; omega
  clear hA hx hy hp hat
  go_enter Tryd.func77, Tryd.ntmps77
  go_wp2_with (first | (go_at_call 64; refine HCK.out.mono ?_; rintro e W' ⟨rfl, rfl⟩) | (go_at_call 72; refine HAR.out.mono ?_; rintro e W1 ⟨rfl, hb1⟩))
  have hz1 := hb1.size
  obtain ⟨pb, po, rfl, hpb, hp0⟩ := HAT.out.int (i := 0) (by simp)
  obtain ⟨qb, qo, hq, _, hp1⟩ := HAT.out.int (i := 1) (by simp)
  injection hq with hq; injection hq with e1 e2; subst e1 e2
  have hc0 : W1.cell? ⟨pb, po, none⟩ = some (.int .u64 x) := (hb1.cell (p := ⟨pb, po, none⟩) hpb).trans hp0
  have hc1 : W1.cell? ⟨pb, po + 1, none⟩ = some (.int .u64 y) := (hb1.cell (p := ⟨pb, po + 1, none⟩) hpb).trans hp1
  have hpb1 : pb < W1.heap.size := by omega
  clear hp0 hp1
  go_loopw [42] (fun i wr => ∃ k : Nat, k ≤ 2 ∧ i = .int .i64 k ∧ Hid (wr = W1.alloc (.cells (arrK (x % 2 ^ w) (y % 2 ^ w) k) 174))) (fun i _ => 2 - (intOf i).toNat)
  case atStart => exact ⟨0, by omega, rfl, Lib.hid rfl⟩
  case round =>
    obtain ⟨k, hk, rfl, hw⟩ := hrel
    have hk3 : k = 0 ∨ k = 1 ∨ k = 2 := by omega
    rcases hk3 with rfl | rfl | rfl
    · obtain rfl := hw.out
      clear hw
      show _
      go_wp2_with (first | (go_at_call 82; refine (HM.out _).mono ?_; rintro e W' ⟨rfl, rfl⟩))
      go_roundw
      case rel => exact ⟨1, by omega, rfl, Lib.hid (by first | rfl | (rw [HX.out]; rfl))⟩
      case measure => simp [intOf]
    · obtain rfl := hw.out
      clear hw
      show _
      go_wp2_with (first | (go_at_call 82; refine (HM.out _).mono ?_; rintro e W' ⟨rfl, rfl⟩))
      go_roundw
      case rel => exact ⟨2, by omega, rfl, Lib.hid (by first | rfl | (rw [HY.out]; rfl))⟩
      case measure => simp [intOf]
    · obtain rfl := hw.out
      clear hw
      show _
      go_wp2_with fail
      have hS0 : (W1.alloc (Obj.cells (arrK (x % 2 ^ w) (y % 2 ^ w) 2) 174)).cell? ⟨W1.heap.size, 0, none⟩ = some (.int .u64 (x % 2 ^ w : Nat)) := by rw [World.cell?_alloc_new]; rfl
      have hS1 : (W1.alloc (Obj.cells (arrK (x % 2 ^ w) (y % 2 ^ w) 2) 174)).cell? ⟨W1.heap.size, 1, none⟩ = some (.int .u64 (y % 2 ^ w : Nat)) := by rw [World.cell?_alloc_new]; rfl
      have hbA : Below W.heap.size W (W1.alloc (Obj.cells (arrK (x % 2 ^ w) (y % 2 ^ w) 2) 174)) := hb1.alloc hz1 _
      have hgA : W1.heap.size < (W1.alloc (Obj.cells (arrK (x % 2 ^ w) (y % 2 ^ w) 2) 174)).heap.size := by simp
      clear hc0 hc1 hpb1 hb1
      generalize W1.alloc (Obj.cells (arrK (x % 2 ^ w) (y % 2 ^ w) 2) 174) = wA at *
      generalize W1.heap.size = g at *
      have HS : Hid (∀ w', Below wA.heap.size wA w' → w'.cell? ⟨g, 0, none⟩ = some (.int .u64 (x % 2 ^ w : Nat)) ∧ w'.cell? ⟨g, 1, none⟩ = some (.int .u64 (y % 2 ^ w : Nat)) ∧ Below wA.heap.size wA w') := Lib.hid fun w' hb => ⟨(hb.cell (p := ⟨g, 0, none⟩) hgA).trans hS0, (hb.cell (p := ⟨g, 1, none⟩) hgA).trans hS1, hb⟩
      clear hS0 hS1
      have hoc : o = 4 ∨ o = 5 ∨ o = 6 ∨ o = 7 ∨ o = 8 ∨ o = 9 ∨ o = 10 ∨ o = 11 ∨ o = 12 ∨ o = 13 ∨ o = 14 ∨ o = 15 ∨ o = 16 ∨ o = 17 ∨ o = 18 ∨ o = 19 ∨ o = 20 := by omega
      have HBA := Lib.hid hbA
      have HWB := Lib.hid (show wA.heap.size ≥ W.heap.size from hbA.size)
      clear hbA d1 d2 h20 h4 HAR HCK hpb
      generalize hmx : x % 2 ^ w = mx at *
      generalize hmy : y % 2 ^ w = my at *
      have HMX := Lib.hid hmx
      have HMY := Lib.hid hmy
      clear hmx hmy
      rcases hoc with rfl | rfl | rfl | rfl | rfl | rfl | rfl | rfl | rfl | rfl | rfl | rfl | rfl | rfl | rfl | rfl | rfl
      · as_aux_lemma =>
        have ix : ∀ w, (Instr.index 178 tabV (.int .u8 4)).run Tryd.prog w = .ok (.agg #[.func (.func 90) #[] #[]]) w := fun _ => by kernel_rfl
        have fx : ∀ w, (Instr.field 177 (.agg #[.func (.func 90) #[] #[]]) 0).run Tryd.prog w = .ok (.func (.func 90) #[] #[]) w := fun _ => by kernel_rfl
        go_region_held3 (fun W' => W'.cell? ⟨g, 0, none⟩ = some (.int .u64 (mx : Nat)) ∧ W'.cell? ⟨g, 1, none⟩ = some (.int .u64 (my : Nat)) ∧ Below wA.heap.size wA W')
          (first | exact HS.out _ (Below.refl _ _) | exact HS.out _ (Below.refl _ _).drew | exact HS.out _ KB.out | exact HS.out _ (‹_ ∧ _ ∧ Below _ _ _›).2.2 | exact HS.out _ (‹_ ∧ _ ∧ Below _ _ _›).2.2.drew)
          (first
            | (go_at_call 87
               refine table87.mono ?_
               rintro e wB ⟨rfl, hbB⟩
               have KB := Lib.hid ((‹_ ∧ _ ∧ Below _ _ _›).2.2.trans (hbB.mono (‹_ ∧ _ ∧ Below _ _ _›).2.2.size)))
            | (go_at_call 90
               refine (op90 w mx my _ h).mono ?_
               rintro e wC ⟨r, rfl, hr, hmr, rfl⟩
               have HR := Lib.hid hr
               have HMR := Lib.hid hmr
               clear hr hmr))
        all_goals
          go_wp2_with (first | (go_at_call 82; refine (HM.out _).mono ?_; rintro e W' ⟨rfl, rfl⟩))
          go_ret2
          exact ApPost.mk HMX HMY (trim_raw h HR.out) HMR (HBA.out.trans (KB.out.mono HWB.out))
      · as_aux_lemma =>
        have ix : ∀ w, (Instr.index 178 tabV (.int .u8 5)).run Tryd.prog w = .ok (.agg #[.func (.func 91) #[] #[]]) w := fun _ => by kernel_rfl
        have fx : ∀ w, (Instr.field 177 (.agg #[.func (.func 91) #[] #[]]) 0).run Tryd.prog w = .ok (.func (.func 91) #[] #[]) w := fun _ => by kernel_rfl
        go_region_held3 (fun W' => W'.cell? ⟨g, 0, none⟩ = some (.int .u64 (mx : Nat)) ∧ W'.cell? ⟨g, 1, none⟩ = some (.int .u64 (my : Nat)) ∧ Below wA.heap.size wA W')
          (first | exact HS.out _ (Below.refl _ _) | exact HS.out _ (Below.refl _ _).drew | exact HS.out _ KB.out | exact HS.out _ (‹_ ∧ _ ∧ Below _ _ _›).2.2 | exact HS.out _ (‹_ ∧ _ ∧ Below _ _ _›).2.2.drew)
          (first
            | (go_at_call 87
               refine table87.mono ?_
               rintro e wB ⟨rfl, hbB⟩
               have KB := Lib.hid ((‹_ ∧ _ ∧ Below _ _ _›).2.2.trans (hbB.mono (‹_ ∧ _ ∧ Below _ _ _›).2.2.size)))
            | (go_at_call 91
               refine (op91 w mx my _ h HYL.out).mono ?_
               rintro e wC ⟨r, rfl, hr, hmr, rfl⟩
               have HR := Lib.hid hr
               have HMR := Lib.hid hmr
               clear hr hmr))
        all_goals
          go_wp2_with (first | (go_at_call 82; refine (HM.out _).mono ?_; rintro e W' ⟨rfl, rfl⟩))
          go_ret2
          exact ApPost.mk HMX HMY (trim_raw h HR.out) HMR (HBA.out.trans (KB.out.mono HWB.out))
      · as_aux_lemma =>
        have ix : ∀ w, (Instr.index 178 tabV (.int .u8 6)).run Tryd.prog w = .ok (.agg #[.func (.func 92) #[] #[]]) w := fun _ => by kernel_rfl
        have fx : ∀ w, (Instr.field 177 (.agg #[.func (.func 92) #[] #[]]) 0).run Tryd.prog w = .ok (.func (.func 92) #[] #[]) w := fun _ => by kernel_rfl
        go_region_held3 (fun W' => W'.cell? ⟨g, 0, none⟩ = some (.int .u64 (mx : Nat)) ∧ W'.cell? ⟨g, 1, none⟩ = some (.int .u64 (my : Nat)) ∧ Below wA.heap.size wA W')
          (first | exact HS.out _ (Below.refl _ _) | exact HS.out _ (Below.refl _ _).drew | exact HS.out _ KB.out | exact HS.out _ (‹_ ∧ _ ∧ Below _ _ _›).2.2 | exact HS.out _ (‹_ ∧ _ ∧ Below _ _ _›).2.2.drew)
          (first
            | (go_at_call 87
               refine table87.mono ?_
               rintro e wB ⟨rfl, hbB⟩
               have KB := Lib.hid ((‹_ ∧ _ ∧ Below _ _ _›).2.2.trans (hbB.mono (‹_ ∧ _ ∧ Below _ _ _›).2.2.size)))
            | (go_at_call 92
               refine (op92 w mx my _ h).mono ?_
               rintro e wC ⟨r, rfl, hr, hmr, rfl⟩
               have HR := Lib.hid hr
               have HMR := Lib.hid hmr
               clear hr hmr))
        all_goals
          go_wp2_with (first | (go_at_call 82; refine (HM.out _).mono ?_; rintro e W' ⟨rfl, rfl⟩))
          go_ret2
          exact ApPost.mk HMX HMY (trim_raw h HR.out) HMR (HBA.out.trans (KB.out.mono HWB.out))
      · as_aux_lemma =>
        have ix : ∀ w, (Instr.index 178 tabV (.int .u8 7)).run Tryd.prog w = .ok (.agg #[.func (.func 93) #[] #[]]) w := fun _ => by kernel_rfl
        have fx : ∀ w, (Instr.field 177 (.agg #[.func (.func 93) #[] #[]]) 0).run Tryd.prog w = .ok (.func (.func 93) #[] #[]) w := fun _ => by kernel_rfl
        go_region_held3 (fun W' => W'.cell? ⟨g, 0, none⟩ = some (.int .u64 (mx : Nat)) ∧ W'.cell? ⟨g, 1, none⟩ = some (.int .u64 (my : Nat)) ∧ Below wA.heap.size wA W')
          (first | exact HS.out _ (Below.refl _ _) | exact HS.out _ (Below.refl _ _).drew | exact HS.out _ KB.out | exact HS.out _ (‹_ ∧ _ ∧ Below _ _ _›).2.2 | exact HS.out _ (‹_ ∧ _ ∧ Below _ _ _›).2.2.drew)
          (first
            | (go_at_call 87
               refine table87.mono ?_
               rintro e wB ⟨rfl, hbB⟩
               have KB := Lib.hid ((‹_ ∧ _ ∧ Below _ _ _›).2.2.trans (hbB.mono (‹_ ∧ _ ∧ Below _ _ _›).2.2.size)))
            | (go_at_call 93
               refine (op93 w mx my _ h HXL.out).mono ?_
               rintro e wC ⟨r, rfl, hr, hmr, rfl⟩
               have HR := Lib.hid hr
               have HMR := Lib.hid hmr
               clear hr hmr))
        all_goals
          go_wp2_with (first | (go_at_call 82; refine (HM.out _).mono ?_; rintro e W' ⟨rfl, rfl⟩))
          go_ret2
          exact ApPost.mk HMX HMY (trim_raw h HR.out) HMR (HBA.out.trans (KB.out.mono HWB.out))
      · as_aux_lemma =>
        have ix : ∀ w, (Instr.index 178 tabV (.int .u8 8)).run Tryd.prog w = .ok (.agg #[.func (.func 94) #[] #[]]) w := fun _ => by kernel_rfl
        have fx : ∀ w, (Instr.field 177 (.agg #[.func (.func 94) #[] #[]]) 0).run Tryd.prog w = .ok (.func (.func 94) #[] #[]) w := fun _ => by kernel_rfl
        go_region_held3 (fun W' => W'.cell? ⟨g, 0, none⟩ = some (.int .u64 (mx : Nat)) ∧ W'.cell? ⟨g, 1, none⟩ = some (.int .u64 (my : Nat)) ∧ Below wA.heap.size wA W')
          (first | exact HS.out _ (Below.refl _ _) | exact HS.out _ (Below.refl _ _).drew | exact HS.out _ KB.out | exact HS.out _ (‹_ ∧ _ ∧ Below _ _ _›).2.2 | exact HS.out _ (‹_ ∧ _ ∧ Below _ _ _›).2.2.drew)
          (first
            | (go_at_call 87
               refine table87.mono ?_
               rintro e wB ⟨rfl, hbB⟩
               have KB := Lib.hid ((‹_ ∧ _ ∧ Below _ _ _›).2.2.trans (hbB.mono (‹_ ∧ _ ∧ Below _ _ _›).2.2.size)))
            | (go_at_call 94
               refine (op94 w mx my _ h HXL.out).mono ?_
               rintro e wC ⟨r, rfl, hr, hmr, rfl⟩
               have HR := Lib.hid hr
               have HMR := Lib.hid hmr
               clear hr hmr))
        all_goals
          go_wp2_with (first | (go_at_call 82; refine (HM.out _).mono ?_; rintro e W' ⟨rfl, rfl⟩))
          go_ret2
          exact ApPost.mk HMX HMY (trim_raw h HR.out) HMR (HBA.out.trans (KB.out.mono HWB.out))
      · as_aux_lemma =>
        have ix : ∀ w, (Instr.index 178 tabV (.int .u8 9)).run Tryd.prog w = .ok (.agg #[.func (.func 95) #[] #[]]) w := fun _ => by kernel_rfl
        have fx : ∀ w, (Instr.field 177 (.agg #[.func (.func 95) #[] #[]]) 0).run Tryd.prog w = .ok (.func (.func 95) #[] #[]) w := fun _ => by kernel_rfl
        go_region_held3 (fun W' => W'.cell? ⟨g, 0, none⟩ = some (.int .u64 (mx : Nat)) ∧ W'.cell? ⟨g, 1, none⟩ = some (.int .u64 (my : Nat)) ∧ Below wA.heap.size wA W')
          (first | exact HS.out _ (Below.refl _ _) | exact HS.out _ (Below.refl _ _).drew | exact HS.out _ KB.out | exact HS.out _ (‹_ ∧ _ ∧ Below _ _ _›).2.2 | exact HS.out _ (‹_ ∧ _ ∧ Below _ _ _›).2.2.drew)
          (first
            | (go_at_call 87
               refine table87.mono ?_
               rintro e wB ⟨rfl, hbB⟩
               have KB := Lib.hid ((‹_ ∧ _ ∧ Below _ _ _›).2.2.trans (hbB.mono (‹_ ∧ _ ∧ Below _ _ _›).2.2.size)))
            | (go_at_call 95
               refine (op95 w mx my _ h HXL.out HYL.out).mono ?_
               rintro e wC ⟨r, rfl, hr, hmr, rfl⟩
               have HR := Lib.hid hr
               have HMR := Lib.hid hmr
               clear hr hmr))
        all_goals
          go_wp2_with (first | (go_at_call 82; refine (HM.out _).mono ?_; rintro e W' ⟨rfl, rfl⟩))
          go_ret2
          exact ApPost.mk HMX HMY (trim_raw h HR.out) HMR (HBA.out.trans (KB.out.mono HWB.out))
      · as_aux_lemma =>
        have ix : ∀ w, (Instr.index 178 tabV (.int .u8 10)).run Tryd.prog w = .ok (.agg #[.func (.func 96) #[] #[]]) w := fun _ => by kernel_rfl
        have fx : ∀ w, (Instr.field 177 (.agg #[.func (.func 96) #[] #[]]) 0).run Tryd.prog w = .ok (.func (.func 96) #[] #[]) w := fun _ => by kernel_rfl
        go_region_held3 (fun W' => W'.cell? ⟨g, 0, none⟩ = some (.int .u64 (mx : Nat)) ∧ W'.cell? ⟨g, 1, none⟩ = some (.int .u64 (my : Nat)) ∧ Below wA.heap.size wA W')
          (first | exact HS.out _ (Below.refl _ _) | exact HS.out _ (Below.refl _ _).drew | exact HS.out _ KB.out | exact HS.out _ (‹_ ∧ _ ∧ Below _ _ _›).2.2 | exact HS.out _ (‹_ ∧ _ ∧ Below _ _ _›).2.2.drew)
          (first
            | (go_at_call 87
               refine table87.mono ?_
               rintro e wB ⟨rfl, hbB⟩
               have KB := Lib.hid ((‹_ ∧ _ ∧ Below _ _ _›).2.2.trans (hbB.mono (‹_ ∧ _ ∧ Below _ _ _›).2.2.size)))
            | (go_at_call 96
               refine (op96 w mx my _ h HXL.out HYL.out).mono ?_
               rintro e wC ⟨r, rfl, hr, hmr, rfl⟩
               have HR := Lib.hid hr
               have HMR := Lib.hid hmr
               clear hr hmr))
        all_goals
          go_wp2_with (first | (go_at_call 82; refine (HM.out _).mono ?_; rintro e W' ⟨rfl, rfl⟩))
          go_ret2
          exact ApPost.mk HMX HMY (trim_raw h HR.out) HMR (HBA.out.trans (KB.out.mono HWB.out))
      · as_aux_lemma =>
        have ix : ∀ w, (Instr.index 178 tabV (.int .u8 11)).run Tryd.prog w = .ok (.agg #[.func (.func 97) #[] #[]]) w := fun _ => by kernel_rfl
        have fx : ∀ w, (Instr.field 177 (.agg #[.func (.func 97) #[] #[]]) 0).run Tryd.prog w = .ok (.func (.func 97) #[] #[]) w := fun _ => by kernel_rfl
        go_region_held3 (fun W' => W'.cell? ⟨g, 0, none⟩ = some (.int .u64 (mx : Nat)) ∧ W'.cell? ⟨g, 1, none⟩ = some (.int .u64 (my : Nat)) ∧ Below wA.heap.size wA W')
          (first | exact HS.out _ (Below.refl _ _) | exact HS.out _ (Below.refl _ _).drew | exact HS.out _ KB.out | exact HS.out _ (‹_ ∧ _ ∧ Below _ _ _›).2.2 | exact HS.out _ (‹_ ∧ _ ∧ Below _ _ _›).2.2.drew)
          (first
            | (go_at_call 87
               refine table87.mono ?_
               rintro e wB ⟨rfl, hbB⟩
               have KB := Lib.hid ((‹_ ∧ _ ∧ Below _ _ _›).2.2.trans (hbB.mono (‹_ ∧ _ ∧ Below _ _ _›).2.2.size)))
            | (go_at_call 97
               refine (op97 w mx my _ h HXL.out HYL.out).mono ?_
               rintro e wC ⟨r, rfl, hr, hmr, rfl⟩
               have HR := Lib.hid hr
               have HMR := Lib.hid hmr
               clear hr hmr))
        all_goals
          go_wp2_with (first | (go_at_call 82; refine (HM.out _).mono ?_; rintro e W' ⟨rfl, rfl⟩))
          go_ret2
          exact ApPost.mk HMX HMY (trim_raw h HR.out) HMR (HBA.out.trans (KB.out.mono HWB.out))
      · as_aux_lemma =>
        have ix : ∀ w, (Instr.index 178 tabV (.int .u8 12)).run Tryd.prog w = .ok (.agg #[.func (.func 98) #[] #[]]) w := fun _ => by kernel_rfl
        have fx : ∀ w, (Instr.field 177 (.agg #[.func (.func 98) #[] #[]]) 0).run Tryd.prog w = .ok (.func (.func 98) #[] #[]) w := fun _ => by kernel_rfl
        go_region_held3 (fun W' => W'.cell? ⟨g, 0, none⟩ = some (.int .u64 (mx : Nat)) ∧ W'.cell? ⟨g, 1, none⟩ = some (.int .u64 (my : Nat)) ∧ Below wA.heap.size wA W')
          (first | exact HS.out _ (Below.refl _ _) | exact HS.out _ (Below.refl _ _).drew | exact HS.out _ KB.out | exact HS.out _ (‹_ ∧ _ ∧ Below _ _ _›).2.2 | exact HS.out _ (‹_ ∧ _ ∧ Below _ _ _›).2.2.drew)
          (first
            | (go_at_call 87
               refine table87.mono ?_
               rintro e wB ⟨rfl, hbB⟩
               have KB := Lib.hid ((‹_ ∧ _ ∧ Below _ _ _›).2.2.trans (hbB.mono (‹_ ∧ _ ∧ Below _ _ _›).2.2.size)))
            | (go_at_call 98
               refine (op98 w mx my _ h).mono ?_
               rintro e wC ⟨r, rfl, hr, hmr, rfl⟩
               have HR := Lib.hid hr
               have HMR := Lib.hid hmr
               clear hr hmr))
        all_goals
          go_wp2_with (first | (go_at_call 82; refine (HM.out _).mono ?_; rintro e W' ⟨rfl, rfl⟩))
          go_ret2
          exact ApPost.mk HMX HMY (trim_raw h HR.out) HMR (HBA.out.trans (KB.out.mono HWB.out))
      · as_aux_lemma =>
        have ix : ∀ w, (Instr.index 178 tabV (.int .u8 13)).run Tryd.prog w = .ok (.agg #[.func (.func 99) #[] #[]]) w := fun _ => by kernel_rfl
        have fx : ∀ w, (Instr.field 177 (.agg #[.func (.func 99) #[] #[]]) 0).run Tryd.prog w = .ok (.func (.func 99) #[] #[]) w := fun _ => by kernel_rfl
        go_region_held3 (fun W' => W'.cell? ⟨g, 0, none⟩ = some (.int .u64 (mx : Nat)) ∧ W'.cell? ⟨g, 1, none⟩ = some (.int .u64 (my : Nat)) ∧ Below wA.heap.size wA W')
          (first | exact HS.out _ (Below.refl _ _) | exact HS.out _ (Below.refl _ _).drew | exact HS.out _ KB.out | exact HS.out _ (‹_ ∧ _ ∧ Below _ _ _›).2.2 | exact HS.out _ (‹_ ∧ _ ∧ Below _ _ _›).2.2.drew)
          (first
            | (go_at_call 87
               refine table87.mono ?_
               rintro e wB ⟨rfl, hbB⟩
               have KB := Lib.hid ((‹_ ∧ _ ∧ Below _ _ _›).2.2.trans (hbB.mono (‹_ ∧ _ ∧ Below _ _ _›).2.2.size)))
            | (go_at_call 99
               refine (op99 w mx my _ h HXL.out).mono ?_
               rintro e wC ⟨r, rfl, hr, hmr, rfl⟩
               have HR := Lib.hid hr
               have HMR := Lib.hid hmr
               clear hr hmr))
        all_goals
          go_wp2_with (first | (go_at_call 82; refine (HM.out _).mono ?_; rintro e W' ⟨rfl, rfl⟩))
          go_ret2
          exact ApPost.mk HMX HMY (trim_raw h HR.out) HMR (HBA.out.trans (KB.out.mono HWB.out))
      · as_aux_lemma =>
        have ix : ∀ w, (Instr.index 178 tabV (.int .u8 14)).run Tryd.prog w = .ok (.agg #[.func (.func 100) #[] #[]]) w := fun _ => by kernel_rfl
        have fx : ∀ w, (Instr.field 177 (.agg #[.func (.func 100) #[] #[]]) 0).run Tryd.prog w = .ok (.func (.func 100) #[] #[]) w := fun _ => by kernel_rfl
        go_region_held3 (fun W' => W'.cell? ⟨g, 0, none⟩ = some (.int .u64 (mx : Nat)) ∧ W'.cell? ⟨g, 1, none⟩ = some (.int .u64 (my : Nat)) ∧ Below wA.heap.size wA W')
          (first | exact HS.out _ (Below.refl _ _) | exact HS.out _ (Below.refl _ _).drew | exact HS.out _ KB.out | exact HS.out _ (‹_ ∧ _ ∧ Below _ _ _›).2.2 | exact HS.out _ (‹_ ∧ _ ∧ Below _ _ _›).2.2.drew)
          (first
            | (go_at_call 87
               refine table87.mono ?_
               rintro e wB ⟨rfl, hbB⟩
               have KB := Lib.hid ((‹_ ∧ _ ∧ Below _ _ _›).2.2.trans (hbB.mono (‹_ ∧ _ ∧ Below _ _ _›).2.2.size)))
            | (go_at_call 100
               refine (op100 w mx my _ h1 h HXL.out).mono ?_
               rintro e wC ⟨r, rfl, hr, hmr, rfl⟩
               have HR := Lib.hid hr
               have HMR := Lib.hid hmr
               clear hr hmr))
        all_goals
          go_wp2_with (first | (go_at_call 82; refine (HM.out _).mono ?_; rintro e W' ⟨rfl, rfl⟩))
          go_ret2
          exact ApPost.mk HMX HMY (trim_raw h HR.out) HMR (HBA.out.trans (KB.out.mono HWB.out))
      · as_aux_lemma =>
        have ix : ∀ w, (Instr.index 178 tabV (.int .u8 15)).run Tryd.prog w = .ok (.agg #[.func (.func 101) #[] #[]]) w := fun _ => by kernel_rfl
        have fx : ∀ w, (Instr.field 177 (.agg #[.func (.func 101) #[] #[]]) 0).run Tryd.prog w = .ok (.func (.func 101) #[] #[]) w := fun _ => by kernel_rfl
        go_region_held3 (fun W' => W'.cell? ⟨g, 0, none⟩ = some (.int .u64 (mx : Nat)) ∧ W'.cell? ⟨g, 1, none⟩ = some (.int .u64 (my : Nat)) ∧ Below wA.heap.size wA W')
          (first | exact HS.out _ (Below.refl _ _) | exact HS.out _ (Below.refl _ _).drew | exact HS.out _ KB.out | exact HS.out _ (‹_ ∧ _ ∧ Below _ _ _›).2.2 | exact HS.out _ (‹_ ∧ _ ∧ Below _ _ _›).2.2.drew)
          (first
            | (go_at_call 87
               refine table87.mono ?_
               rintro e wB ⟨rfl, hbB⟩
               have KB := Lib.hid ((‹_ ∧ _ ∧ Below _ _ _›).2.2.trans (hbB.mono (‹_ ∧ _ ∧ Below _ _ _›).2.2.size)))
            | (go_at_call 101
               refine (op101 w mx my _ h1).mono ?_
               rintro e wC ⟨r, rfl, hr, hmr, rfl⟩
               have HR := Lib.hid hr
               have HMR := Lib.hid hmr
               clear hr hmr))
        all_goals
          go_wp2_with (first | (go_at_call 82; refine (HM.out _).mono ?_; rintro e W' ⟨rfl, rfl⟩))
          go_ret2
          exact ApPost.mk HMX HMY (trim_raw h HR.out) HMR (HBA.out.trans (KB.out.mono HWB.out))
      · as_aux_lemma =>
        have ix : ∀ w, (Instr.index 178 tabV (.int .u8 16)).run Tryd.prog w = .ok (.agg #[.func (.func 102) #[] #[]]) w := fun _ => by kernel_rfl
        have fx : ∀ w, (Instr.field 177 (.agg #[.func (.func 102) #[] #[]]) 0).run Tryd.prog w = .ok (.func (.func 102) #[] #[]) w := fun _ => by kernel_rfl
        go_region_held3 (fun W' => W'.cell? ⟨g, 0, none⟩ = some (.int .u64 (mx : Nat)) ∧ W'.cell? ⟨g, 1, none⟩ = some (.int .u64 (my : Nat)) ∧ Below wA.heap.size wA W')
          (first | exact HS.out _ (Below.refl _ _) | exact HS.out _ (Below.refl _ _).drew | exact HS.out _ KB.out | exact HS.out _ (‹_ ∧ _ ∧ Below _ _ _›).2.2 | exact HS.out _ (‹_ ∧ _ ∧ Below _ _ _›).2.2.drew)
          (first
            | (go_at_call 87
               refine table87.mono ?_
               rintro e wB ⟨rfl, hbB⟩
               have KB := Lib.hid ((‹_ ∧ _ ∧ Below _ _ _›).2.2.trans (hbB.mono (‹_ ∧ _ ∧ Below _ _ _›).2.2.size)))
            | (go_at_call 102
               refine (op102 w mx my _ h1).mono ?_
               rintro e wC ⟨r, rfl, hr, hmr, rfl⟩
               have HR := Lib.hid hr
               have HMR := Lib.hid hmr
               clear hr hmr))
        all_goals
          go_wp2_with (first | (go_at_call 82; refine (HM.out _).mono ?_; rintro e W' ⟨rfl, rfl⟩))
          go_ret2
          exact ApPost.mk HMX HMY (trim_raw h HR.out) HMR (HBA.out.trans (KB.out.mono HWB.out))
      · as_aux_lemma =>
        have ix : ∀ w, (Instr.index 178 tabV (.int .u8 17)).run Tryd.prog w = .ok (.agg #[.func (.func 103) #[] #[]]) w := fun _ => by kernel_rfl
        have fx : ∀ w, (Instr.field 177 (.agg #[.func (.func 103) #[] #[]]) 0).run Tryd.prog w = .ok (.func (.func 103) #[] #[]) w := fun _ => by kernel_rfl
        go_region_held3 (fun W' => W'.cell? ⟨g, 0, none⟩ = some (.int .u64 (mx : Nat)) ∧ W'.cell? ⟨g, 1, none⟩ = some (.int .u64 (my : Nat)) ∧ Below wA.heap.size wA W')
          (first | exact HS.out _ (Below.refl _ _) | exact HS.out _ (Below.refl _ _).drew | exact HS.out _ KB.out | exact HS.out _ (‹_ ∧ _ ∧ Below _ _ _›).2.2 | exact HS.out _ (‹_ ∧ _ ∧ Below _ _ _›).2.2.drew)
          (first
            | (go_at_call 87
               refine table87.mono ?_
               rintro e wB ⟨rfl, hbB⟩
               have KB := Lib.hid ((‹_ ∧ _ ∧ Below _ _ _›).2.2.trans (hbB.mono (‹_ ∧ _ ∧ Below _ _ _›).2.2.size)))
            | (go_at_call 103
               refine (op103 w mx my _ h1).mono ?_
               rintro e wC ⟨r, rfl, hr, hmr, rfl⟩
               have HR := Lib.hid hr
               have HMR := Lib.hid hmr
               clear hr hmr))
        all_goals
          go_wp2_with (first | (go_at_call 82; refine (HM.out _).mono ?_; rintro e W' ⟨rfl, rfl⟩))
          go_ret2
          exact ApPost.mk HMX HMY (trim_raw h HR.out) HMR (HBA.out.trans (KB.out.mono HWB.out))
      · as_aux_lemma =>
        have ix : ∀ w, (Instr.index 178 tabV (.int .u8 18)).run Tryd.prog w = .ok (.agg #[.func (.func 104) #[] #[]]) w := fun _ => by kernel_rfl
        have fx : ∀ w, (Instr.field 177 (.agg #[.func (.func 104) #[] #[]]) 0).run Tryd.prog w = .ok (.func (.func 104) #[] #[]) w := fun _ => by kernel_rfl
        go_region_held3 (fun W' => W'.cell? ⟨g, 0, none⟩ = some (.int .u64 (mx : Nat)) ∧ W'.cell? ⟨g, 1, none⟩ = some (.int .u64 (my : Nat)) ∧ Below wA.heap.size wA W')
          (first | exact HS.out _ (Below.refl _ _) | exact HS.out _ (Below.refl _ _).drew | exact HS.out _ KB.out | exact HS.out _ (‹_ ∧ _ ∧ Below _ _ _›).2.2 | exact HS.out _ (‹_ ∧ _ ∧ Below _ _ _›).2.2.drew)
          (first
            | (go_at_call 87
               refine table87.mono ?_
               rintro e wB ⟨rfl, hbB⟩
               have KB := Lib.hid ((‹_ ∧ _ ∧ Below _ _ _›).2.2.trans (hbB.mono (‹_ ∧ _ ∧ Below _ _ _›).2.2.size)))
            | (go_at_call 104
               refine (op104 w mx my _ h1).mono ?_
               rintro e wC ⟨r, rfl, hr, hmr, rfl⟩
               have HR := Lib.hid hr
               have HMR := Lib.hid hmr
               clear hr hmr))
        all_goals
          go_wp2_with (first | (go_at_call 82; refine (HM.out _).mono ?_; rintro e W' ⟨rfl, rfl⟩))
          go_ret2
          exact ApPost.mk HMX HMY (trim_raw h HR.out) HMR (HBA.out.trans (KB.out.mono HWB.out))
      · as_aux_lemma =>
        have ix : ∀ w, (Instr.index 178 tabV (.int .u8 19)).run Tryd.prog w = .ok (.agg #[.func (.func 105) #[] #[]]) w := fun _ => by kernel_rfl
        have fx : ∀ w, (Instr.field 177 (.agg #[.func (.func 105) #[] #[]]) 0).run Tryd.prog w = .ok (.func (.func 105) #[] #[]) w := fun _ => by kernel_rfl
        go_region_held3 (fun W' => W'.cell? ⟨g, 0, none⟩ = some (.int .u64 (mx : Nat)) ∧ W'.cell? ⟨g, 1, none⟩ = some (.int .u64 (my : Nat)) ∧ Below wA.heap.size wA W')
          (first | exact HS.out _ (Below.refl _ _) | exact HS.out _ (Below.refl _ _).drew | exact HS.out _ KB.out | exact HS.out _ (‹_ ∧ _ ∧ Below _ _ _›).2.2 | exact HS.out _ (‹_ ∧ _ ∧ Below _ _ _›).2.2.drew)
          (first
            | (go_at_call 87
               refine table87.mono ?_
               rintro e wB ⟨rfl, hbB⟩
               have KB := Lib.hid ((‹_ ∧ _ ∧ Below _ _ _›).2.2.trans (hbB.mono (‹_ ∧ _ ∧ Below _ _ _›).2.2.size)))
            | (go_at_call 105
               refine (op105 w mx my _ h1 h HXL.out HYL.out).mono ?_
               rintro e wC ⟨r, rfl, hr, hmr, rfl⟩
               have HR := Lib.hid hr
               have HMR := Lib.hid hmr
               clear hr hmr))
        all_goals
          go_wp2_with (first | (go_at_call 82; refine (HM.out _).mono ?_; rintro e W' ⟨rfl, rfl⟩))
          go_ret2
          exact ApPost.mk HMX HMY (trim_raw h HR.out) HMR (HBA.out.trans (KB.out.mono HWB.out))
      · as_aux_lemma =>
        have ix : ∀ w, (Instr.index 178 tabV (.int .u8 20)).run Tryd.prog w = .ok (.agg #[.func (.func 106) #[] #[]]) w := fun _ => by kernel_rfl
        have fx : ∀ w, (Instr.field 177 (.agg #[.func (.func 106) #[] #[]]) 0).run Tryd.prog w = .ok (.func (.func 106) #[] #[]) w := fun _ => by kernel_rfl
        go_region_held3 (fun W' => W'.cell? ⟨g, 0, none⟩ = some (.int .u64 (mx : Nat)) ∧ W'.cell? ⟨g, 1, none⟩ = some (.int .u64 (my : Nat)) ∧ Below wA.heap.size wA W')
          (first | exact HS.out _ (Below.refl _ _) | exact HS.out _ (Below.refl _ _).drew | exact HS.out _ KB.out | exact HS.out _ (‹_ ∧ _ ∧ Below _ _ _›).2.2 | exact HS.out _ (‹_ ∧ _ ∧ Below _ _ _›).2.2.drew)
          (first
            | (go_at_call 87
               refine table87.mono ?_
               rintro e wB ⟨rfl, hbB⟩
               have KB := Lib.hid ((‹_ ∧ _ ∧ Below _ _ _›).2.2.trans (hbB.mono (‹_ ∧ _ ∧ Below _ _ _›).2.2.size)))
            | (go_at_call 106
               refine (op106 w mx my _ h1 h HXL.out HYL.out).mono ?_
               rintro e wC ⟨r, rfl, hr, hmr, rfl⟩
               have HR := Lib.hid hr
               have HMR := Lib.hid hmr
               clear hr hmr))
        all_goals
          go_wp2_with (first | (go_at_call 82; refine (HM.out _).mono ?_; rintro e W' ⟨rfl, rfl⟩))
          go_ret2
          exact ApPost.mk HMX HMY (trim_raw h HR.out) HMR (HBA.out.trans (KB.out.mono HWB.out))
end Go.Proofs.YtjhbabgcoemecaaDoor
