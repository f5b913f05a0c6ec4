/- The laid variables as the row lists them hold what the run wants. -/
import Derived.Test.YtekbkaipdmklpaaGreatDoorFq
namespace Go.Proofs.YtekbkaipdmklpaaGreatDoor
open Go.ChangeShapes Go.WideShapes Go.ChangeAt Go.RowKit
set_option maxRecDepth 100000

theorem pos_of {n k : Nat} (h : n = k + 1) : 0 < n := by omega
theorem laid_of {W : World} (h : laidMetH Tryz.prog laidL W) : Cr.Laid W := by
  obtain ⟨h1, hK, hM, h2, h3⟩ := laid_split h
  obtain ⟨_, ⟨gB, tB, csB, fuelB, pB, qB, hgB, htB, hvarB, hdB, ⟨gW, tW, csW, fuelW, pW, qW, hgW, htW, hvarW, hdW, ⟨gF, tF, csF, fuelF, pF, qF, hgF, htF, hvarF, hdF, ⟨gS, tS, csS, fuelS, pS, qS, hgS, htS, hvarS, hdS, _, _⟩, _⟩, _⟩, _⟩, _⟩ := h1
  obtain rfl := Option.some.inj (gBits.symm.trans hgB)
  obtain rfl := Option.some.inj (gBitsType.symm.trans htB)
  obtain rfl := Option.some.inj (gWords.symm.trans hgW)
  obtain rfl := Option.some.inj (gWordsType.symm.trans htW)
  obtain rfl := Option.some.inj (gForms.symm.trans hgF)
  obtain rfl := Option.some.inj (gFormsType.symm.trans htF)
  obtain rfl := Option.some.inj (gShapes.symm.trans hgS)
  obtain rfl := Option.some.inj (gShapesType.symm.trans htS)
  refine ⟨?_, ?_, ?_, ?_, ?_, ?_, ?_, ?_⟩
  · obtain ⟨g, t, cs, fuel, p, hg, ht, hvar, hd⟩ := hK
    obtain rfl := Option.some.inj (gKinds.symm.trans hg)
    obtain rfl := Option.some.inj (gKindsType.symm.trans ht)
    rw [knd_is] at hd
    obtain ⟨b, o, e1, e2⟩ := flat_slice Tryz.underlying117 flat116 (pos_of (k := 2) (by kernel_rfl)) hd (by rw [knd_len]; decide) knd_ok
    rw [knd_len] at e1
    rw [knd_eq] at e2
    exact ⟨b, o, cells_var hg hvar e1, e2⟩
  · obtain ⟨g, t, cs, fuel, p, hg, ht, hvar, hd⟩ := h2
    obtain rfl := Option.some.inj (gSteps.symm.trans hg)
    obtain rfl := Option.some.inj (gStepsType.symm.trans ht)
    rw [steps_map] at hd
    rcases WideElems.open_map Tryz.underlying174 hd with ⟨_, hx⟩ | ⟨b, es, clock, n, _, hcs, hbm, _, fit, hx⟩
    · cases hx
    · have hent : entD stepsD.funcsOut = (es.toList.map (WideElems.rg Tryz.prog 5 (WideElems.elemAt (funcToken Tryz.prog) Tryz.prog W 0 (fun _ => true) true n 173))).foldr DataW.insert [] := by
        have := congrArg Prod.fst hx
        simp only at this
        injection this
      have hperm := sorted_perm (es.toList.map (WideElems.rg Tryz.prog 5 (WideElems.elemAt (funcToken Tryz.prog) Tryz.prog W 0 (fun _ => true) true n 173)))
      rw [← hent] at hperm
      have hmap := hperm.map decE
      rw [steps_dec, List.map_map] at hmap
      refine ⟨b, es, clock, cells_var hg hvar hcs, hbm, ?_⟩
      · have heq : es.toList.map (decE ∘ WideElems.rg Tryz.prog 5 (WideElems.elemAt (funcToken Tryz.prog) Tryz.prog W 0 (fun _ => true) true n 173)) = es.toList.map fun x => (x.key, x.val) := by
          refine List.map_congr_left fun x hx => ?_
          obtain ⟨y, hy⟩ := fit.reads x hx
          have hyr := WideElems.rg_of hy
          have hin : y ∈ entD stepsD.funcsOut := hperm.mem_iff.2 (by rw [← hyr]; exact List.mem_map_of_mem hx)
          have hok := List.all_eq_true.1 steps_ok y hin
          show decE (WideElems.rg Tryz.prog 5 (WideElems.elemAt (funcToken Tryz.prog) Tryz.prog W 0 (fun _ => true) true n 173) x) = (x.key, x.val)
          rw [hyr]
          unfold WideElems.rd at hy
          simp only [Option.bind_eq_some_iff, Option.map_eq_some_iff] at hy
          obtain ⟨key, hk, d, hdv, rfl⟩ := hy
          obtain ⟨d, pl⟩ := d
          simp only at hok ⊢
          unfold okE at hok
          split at hok
          · rename_i nn bb rr heq2
            injection heq2 with e1 e2
            subst e1 e2
            have hkey : x.key = .int .u8 nn := by
              obtain ⟨m, hm, hl, _⟩ := Maps.keyOf_int_inv Tryz.underlying5 hk
              injection hl with _ hl
              subst hl
              exact hm
            have hval : x.val = .func (.func ((fnOf (bb :: rr)).headD 0)) #[] #[] := by
              unfold WideElems.elemAt at hdv
              split at hdv
              · rename_i hfm
                have hone : fnOf (bb :: rr) = [(fnOf (bb :: rr)).headD 0] := by
                  have := beq_iff_eq.1 hok
                  match hf : fnOf (bb :: rr), this with
                  | [a], _ => rfl
                have hcells : x.val.cells.toList = [x.val] := by
                  cases hv : x.val <;> first | rfl | (rw [hv] at hfm; simp [Value.formed, Tryz.underlying173] at hfm)
                rw [hcells] at hdv
                exact func_of_trod Tryz.underlying173 hone hdv
              · cases hdv
            rw [hkey, hval]
            rfl
          · cases hok
        rw [heq] at hmap
        exact hmap
  · obtain ⟨_, _, _, _, hl, _⟩ := DataW.trod_array Tryz.underlying231 hdS
    exact cells_var hgS hvarS ((flat_array Tryz.underlying231 (by kernel_rfl) flat230 _ _ _ hdS hl shps_ok).trans shps_eq)
  · obtain ⟨_, _, _, _, hl, _⟩ := DataW.trod_array Tryz.underlying315 hdB
    exact cells_var hgB hvarB ((flat_array (fl := flS u0) (ok := okU k0) Tryz.underlying315 (by kernel_rfl) (flat_int Tryz.underlying5) _ _ _ hdB hl dbr_ok).trans dbr_eq)
  · obtain ⟨g, t, cs, fuel, p, hg, ht, hvar, hd⟩ := h3
    obtain rfl := Option.some.inj (gComp.symm.trans hg)
    obtain rfl := Option.some.inj (gCompType.symm.trans ht)
    obtain ⟨_, _, _, _, hl, _⟩ := DataW.trod_array Tryz.underlying335 hd
    exact cells_var hg hvar ((flat_array Tryz.underlying335 (by kernel_rfl) (flat_func Tryz.underlying334 (by kernel_rfl)) _ _ _ hd hl cmp_ok).trans cmp_eq)
  · have hd : DataW.trod (fun _ => ()) Tryz.prog W 0 (fun _ => true) false fuelW 34 csW.toList = some (.slice (partsD Rows.laid_weephole_prog_keywords) [], pW) := hdW
    obtain ⟨b, o, e1, e2⟩ := flat_slice (fl := flS u0) (ok := okU k0) Tryz.underlying34 (flat_string Tryz.underlying9) (pos_of (k := 0) (by kernel_rfl)) hd (by rw [kws_len]; decide) kws_ok
    rw [kws_len] at e1
    rw [kws_eq] at e2
    exact ⟨b, o, cells_var hgW hvarW e1, e2⟩
  · obtain ⟨_, _, _, _, hl, _⟩ := DataW.trod_array Tryz.underlying427 hdF
    exact cells_var hgF hvarF ((flat_array Tryz.underlying427 (by kernel_rfl) flat426 _ _ _ hdF hl frms_ok).trans frms_eq)
  · obtain ⟨g, t, cs, fuel, p, hg, ht, hvar, hd⟩ := hM
    obtain rfl := Option.some.inj (gMach.symm.trans hg)
    obtain rfl := Option.some.inj (gMachType.symm.trans ht)
    obtain ⟨_, _, _, _, hl, _⟩ := DataW.trod_array Tryz.underlying475 hd
    exact cells_var hg hvar ((flat_array Tryz.underlying475 (by kernel_rfl) (flat_func Tryz.underlying474 (by kernel_rfl)) _ _ _ hd hl mch_ok).trans mch_eq)
end Go.Proofs.YtekbkaipdmklpaaGreatDoor
