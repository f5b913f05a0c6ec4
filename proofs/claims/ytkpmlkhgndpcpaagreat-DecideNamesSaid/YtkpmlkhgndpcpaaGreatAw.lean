/- The machine over this program: its contracts, its first memory, and what a run that answers 'true' says. -/
import Derived.Test.YtkpmlkhgndpcpaaGreatVs
namespace Go.Proofs.YtkpmlkhgndpcpaaGreat
namespace Cr
open Go Go.RowKit

noncomputable abbrev PR : Program := Tryz.prog
abbrev GG : Nat := 0
theorem vars_ok {G B : Nat} {w0 : World} {call : Nat → List Value → AH → Rs} (hcall : ∀ B w0, CallOk Tryz.prog G B w0 call) : CallOk Tryz.prog G B w0 (fun g args H => bif Nat.beq g 14 then spVars call 25 26 args H else .bad) := by
  intro g args H v H' h μ args' w hl hr cs
  change (bif Nat.beq g 14 then spVars call 25 26 args H else .bad) = _ at h
  cases hb : Nat.beq g 14 with
  | false => rw [hb] at h; cases h
  | true =>
    rw [hb, cond_true] at h
    have := Nat.eq_of_beq_eq_true hb
    subst this
    exact ends_of_calls (c := Tryz.f14.body.getD .skip) Tryz.func14 (by kernel_rfl) (by kernel_rfl) (vars_calls hcall h hl hr) cs

noncomputable def sp0 : Spec := fun _ => none
theorem sp0_ok {G B : Nat} {w0 : World} : SpOk Tryz.prog G B w0 sp0 := fun _ _ h => by cases h
noncomputable def callA : Nat → List Value → AH → Rs := callF Tryz.prog sp0 (ev Tryz.prog sp0 GG (comp Tryz.prog) (drwE GG (comp Tryz.prog)) 1000000)
noncomputable def spX : Spec := fun g => bif Nat.beq g 14 then some (spVars callA 25 26) else none
theorem mixed : Tryz.prog.follows .mixedOrders = true := by kernel_rfl
theorem callA_ok (B : Nat) (w0 : World) : CallOk Tryz.prog GG B w0 callA := callF_ok (ev_ok (comp_ok _) sp0_ok (drwE_ok (comp_ok _) mixed) 1000000) sp0_ok
theorem spX_ok {B : Nat} {w0 : World} : SpOk Tryz.prog GG B w0 spX := by
  intro g h hg
  unfold spX at hg
  cases hb : Nat.beq g 14 with
  | false => rw [hb] at hg; cases hg
  | true =>
    rw [hb] at hg
    simp only [cond_true, Option.some.injEq] at hg
    have := Nat.eq_of_beq_eq_true hb
    subst this
    subst hg
    exact vars_ok callA_ok
theorem spX_okS (B : Nat) (w0 : World) : SpOk PR GG B w0 spX := spX_ok
noncomputable def selfX : Self := ev PR spX GG (comp PR) (drwE GG (comp PR)) 1000000
theorem selfX_ok (B : Nat) (w0 : World) : Snd PR GG B w0 selfX := ev_ok (comp_ok _) spX_ok (drwE_ok (comp_ok _) mixed) 1000000

/-! ### the first memory: nothing -/
noncomputable def H0 : AH := ⟨.nil, 0⟩
def mu0 : Mu := ⟨fun _ => none, fun _ => 0⟩
theorem H0_get (i : Nat) : H0.get i = none := by
  show Tr.get Tr.nil i = none
  exact Tr.get_nil i
theorem H0_hr (w : World) : HR GG w.heap.size w H0 mu0 w := by
  refine ⟨?_, ?_, ?_, ?_, ?_, (by show (0 : Nat) < _; decide), Below.refl _ _, Nat.le_refl _⟩
  · intro i x hx; rw [H0_get] at hx; cases hx
  · intro i j x y hx; rw [H0_get] at hx; cases hx
  · intro i x hx; rw [H0_get] at hx; cases hx
  · intro i p hp; cases hp
  · intro g hg; cases hg
end Cr
end Go.Proofs.YtkpmlkhgndpcpaaGreat
