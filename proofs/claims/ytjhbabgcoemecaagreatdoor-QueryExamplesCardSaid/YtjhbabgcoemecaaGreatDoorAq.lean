/- A run whose base holds the contract of the law's guard: it answers 'true' and leaves what lay. -/
import Derived.Test.YtjhbabgcoemecaaGreatDoorAw
namespace Go.Proofs.YtjhbabgcoemecaaGreatDoor
namespace Cr
open Go Go.RowKit

noncomputable def spTrue (args : List Value) (H : AH) : Rs := match args with
  | [] => .ok (.bool true) H
  | _ => .bad
noncomputable def spQ : Spec := fun g => bif Nat.beq g 24 then some (spVars callA 59 60) else bif Nat.beq g 7 then some spTrue else none
theorem true_ok {w0 : World} (hw0 : Laid w0) (h7 : runX 7 = true) : CallOk Tryz.prog 4 w0.heap.size w0 (fun g args H => bif Nat.beq g 7 then spTrue args H else .bad) := by
  intro g args H v H' h μ args' w hl hr cs
  change (bif Nat.beq g 7 then spTrue args H else .bad) = _ at h
  cases hb : Nat.beq g 7 with
  | false => rw [hb] at h; cases h
  | true =>
    rw [hb, cond_true] at h
    have := Nat.eq_of_beq_eq_true hb
    subst this
    unfold spTrue at h
    split at h
    · simp only [Rs.ok.injEq] at h
      obtain ⟨rfl, rfl⟩ := h
      obtain rfl := hl.nil_inv
      refine ends_of_calls (c := Tryz.f7.body.getD .skip) Tryz.func7 (by kernel_rfl) (by kernel_rfl) ((of_run h7 (hw0.below hr.below)).mono ?_) cs
      rintro e w' ⟨rfl, hb⟩
      exact ⟨_, μ, rfl, VR.bool _, Nx.refl (hr.beside hb)⟩
    · cases h
theorem spQ_ok {w0 : World} (hw0 : Laid w0) (h7 : runX 7 = true) : SpOk Tryz.prog 4 w0.heap.size w0 spQ := by
  intro g h hg
  unfold spQ at hg
  cases hb : Nat.beq g 24 with
  | true =>
    rw [hb] at hg
    simp only [cond_true, Option.some.injEq] at hg
    have := Nat.eq_of_beq_eq_true hb
    subst this
    subst hg
    exact vars_ok callA_ok
  | false =>
    rw [hb, cond_false] at hg
    cases hc : Nat.beq g 7 with
    | false => rw [hc] at hg; cases hg
    | true =>
      rw [hc] at hg
      simp only [cond_true, Option.some.injEq] at hg
      have := Nat.eq_of_beq_eq_true hc
      subst this
      subst hg
      exact true_ok hw0 h7
/-- the compiled functions, the guard left out -/
noncomputable def tabY : Tb (XFn Tryz.prog 4 (comp Tryz.prog)) := (.n none (.n none (.n none (.n none (.n (some X15) (.n (some X31) (.n (some X63) (.n none (.n (some X255) .nil .nil) .nil) .nil) (.n none (.n none (.n (some X287) .nil .nil) .nil) .nil)) (.n (some X47) (.n none (.n none (.n (some X271) .nil .nil) .nil) (.n (some X207) .nil .nil)) (.n none (.n (some X175) .nil .nil) (.n (some X239) .nil .nil)))) (.n (some X23) (.n none (.n (some X71) (.n (some X135) (.n (some X263) .nil .nil) .nil) .nil) (.n (some X103) .nil (.n (some X231) .nil .nil))) (.n none (.n (some X87) (.n (some X151) .nil .nil) (.n (some X215) .nil .nil)) (.n (some X119) .nil (.n (some X247) .nil .nil))))) (.n (some X11) (.n none (.n (some X35) (.n none (.n (some X131) .nil .nil) .nil) (.n (some X99) (.n (some X163) (.n (some X291) .nil .nil) .nil) .nil)) (.n none (.n (some X83) (.n none (.n (some X275) .nil .nil) .nil) .nil) (.n (some X115) .nil (.n (some X243) .nil .nil)))) (.n (some X27) (.n (some X43) (.n none (.n none (.n (some X267) .nil .nil) .nil) .nil) (.n (some X107) .nil .nil)) (.n (some X59) (.n none (.n none (.n (some X283) .nil .nil) .nil) (.n (some X219) .nil .nil)) (.n none .nil (.n (some X251) .nil .nil)))))) (.n (some X5) (.n none (.n (some X17) (.n none (.n (some X65) (.n none (.n (some X257) .nil .nil) .nil) (.n none (.n (some X321) .nil .nil) .nil)) (.n (some X97) (.n (some X161) .nil .nil) .nil)) (.n none (.n none (.n (some X145) (.n (some X273) .nil .nil) .nil) (.n (some X209) .nil .nil)) (.n none .nil (.n (some X241) .nil .nil)))) (.n (some X25) (.n none (.n (some X73) (.n (some X137) .nil .nil) .nil) (.n (some X105) .nil .nil)) (.n none (.n (some X89) (.n none (.n (some X281) .nil .nil) .nil) .nil) (.n (some X121) .nil (.n (some X249) .nil .nil))))) (.n (some X13) (.n none (.n none (.n none (.n (some X133) (.n (some X261) .nil .nil) .nil) .nil) (.n none (.n none (.n (some X293) .nil .nil) .nil) (.n (some X229) .nil .nil))) (.n none (.n (some X85) (.n none (.n (some X277) .nil .nil) .nil) .nil) (.n (some X117) .nil (.n (some X245) .nil .nil)))) (.n (some X29) (.n (some X45) (.n none (.n none (.n (some X269) .nil .nil) .nil) .nil) (.n none (.n (some X173) .nil .nil) .nil)) (.n (some X61) (.n (some X93) (.n none (.n (some X285) .nil .nil) .nil) (.n (some X221) .nil .nil)) (.n none .nil (.n (some X253) .nil .nil))))))) (.n none (.n none (.n (some X8) (.n (some X16) (.n (some X32) (.n none .nil (.n none (.n (some X320) .nil .nil) .nil)) (.n none (.n none (.n (some X288) .nil .nil) .nil) .nil)) (.n none (.n none (.n none (.n (some X272) .nil .nil) .nil) .nil) (.n none (.n (some X176) (.n (some X304) .nil .nil) .nil) (.n (some X240) .nil .nil)))) (.n none (.n (some X40) (.n (some X72) (.n (some X136) (.n (some X264) .nil .nil) .nil) .nil) (.n (some X104) .nil (.n (some X232) .nil .nil))) (.n (some X56) (.n (some X88) (.n (some X152) (.n (some X280) .nil .nil) .nil) (.n (some X216) .nil .nil)) (.n none .nil (.n (some X248) .nil .nil))))) (.n none (.n none (.n none (.n none (.n none (.n (some X260) .nil .nil) .nil) .nil) (.n (some X100) (.n none (.n (some X292) .nil .nil) .nil) .nil)) (.n (some X52) (.n none (.n none (.n (some X276) .nil .nil) .nil) (.n (some X212) .nil .nil)) (.n (some X116) (.n (some X180) (.n (some X308) .nil .nil) .nil) (.n (some X244) .nil .nil)))) (.n (some X28) (.n (some X44) (.n none (.n none (.n (some X268) .nil .nil) .nil) .nil) (.n (some X108) (.n (some X172) .nil .nil) .nil)) (.n (some X60) (.n none (.n none (.n (some X284) .nil .nil) .nil) (.n (some X220) .nil .nil)) (.n none .nil (.n (some X252) .nil .nil)))))) (.n none (.n none (.n none (.n none (.n (some X66) .nil .nil) (.n none (.n (some X162) .nil .nil) (.n (some X226) .nil .nil))) (.n (some X50) (.n none (.n none (.n (some X274) .nil .nil) .nil) (.n (some X210) .nil .nil)) (.n (some X114) (.n (some X178) .nil .nil) .nil))) (.n (some X26) (.n none (.n (some X74) (.n none (.n (some X266) .nil .nil) .nil) .nil) (.n none (.n none (.n (some X298) .nil .nil) .nil) .nil)) (.n (some X58) (.n (some X90) (.n none (.n (some X282) .nil .nil) .nil) .nil) (.n none (.n none (.n (some X314) .nil .nil) .nil) .nil)))) (.n none (.n none (.n none (.n (some X70) (.n (some X134) .nil .nil) .nil) (.n (some X102) (.n none (.n (some X294) .nil .nil) .nil) (.n (some X230) .nil .nil))) (.n (some X54) (.n (some X86) .nil .nil) (.n none (.n none (.n (some X310) .nil .nil) .nil) (.n (some X246) .nil .nil)))) (.n (some X30) (.n (some X46) (.n none (.n none (.n (some X270) .nil .nil) .nil) (.n (some X206) .nil .nil)) (.n none (.n (some X174) .nil .nil) .nil)) (.n (some X62) (.n (some X94) (.n none (.n (some X286) .nil .nil) .nil) (.n (some X222) .nil .nil)) (.n none .nil (.n (some X254) .nil .nil))))))))
noncomputable def spY (n : Nat) : Spec := xsp Tryz.prog 4 (comp Tryz.prog) tabY spQ n
theorem spY_ok {w0 : World} (hw0 : Laid w0) (h7 : runX 7 = true) (n : Nat) : SpOk Tryz.prog 4 w0.heap.size w0 (spY n) := xsp_ok (comp_ok _) (drwE_ok (comp_ok _) mixed) tabY (spQ_ok hw0 h7) n
noncomputable def runY (f : Nat) : Bool := forceH H0 fun H => Option.rec (motive := fun _ => Bool) false (fun h => isOk (h [] H)) (spY 60 f)
theorem of_runY {f : Nat} (h : runY f = true) (h7 : runX 7 = true) {w : World} (hw : Laid w) : Calls Tryz.prog f #[] w fun e w' => e = .returned (.bool true) ∧ Below w.heap.size w w' := by
  unfold runY at h
  rw [forceH_eq] at h
  cases hs : spY 60 f with
  | none => rw [hs] at h; cases h
  | some g =>
    rw [hs] at h
    obtain ⟨H', hr⟩ := isOk_eq h
    obtain ⟨μ, hm⟩ := hw.hr
    exact calls_true (spY_ok hw h7 60) hs hr hm
end Cr
end Go.Proofs.YtjhbabgcoemecaaGreatDoor
