/- The machine over this program is sound. -/
import Derived.Test.YtekbkaipdmklpaaGreatDoorD1
import Derived.Test.YtekbkaipdmklpaaGreatDoorVs
import Derived.Test.YtekbkaipdmklpaaGreatDoorCp
namespace Go.Proofs.YtekbkaipdmklpaaGreatDoor
namespace Cr
open Go Go.RowKit

theorem callOk_of {G B : Nat} {w0 : W0} {g0 : Nat} {fn : Func} {c : Code} (hf : PR.funcs[g0]? = some fn) (hb : fn.body = some c) (hok : okFn fn = true) {f : List Value → AH → Rs}
    (h : ∀ {args : List Value} {H H' : AH} {v : Value}, f args H = .ok v H' → ∀ {μ : Mu} {w : World} {args' : List Value}, LR μ args args' → HR G B w0 H μ w → Calls PR g0 ⟨args'⟩ w fun e w' => ∃ v' μ', e = .returned v' ∧ VR μ' v v' ∧ Nx G B w0 H μ H' μ' w') :
    CallOk PR G B w0 (fun g args H => bif Nat.beq g g0 then f args H else .bad) := by
  intro g args H v H' hh μ args' w hl hr cs
  change (bif Nat.beq g g0 then f args H else .bad) = _ at hh
  cases hb' : Nat.beq g g0 with
  | false => rw [hb'] at hh; cases hh
  | true =>
    rw [hb', cond_true] at hh
    have := Nat.eq_of_beq_eq_true hb'
    subst this
    exact ends_of_calls hf hb hok (h hh hl hr) cs
theorem sp0_ok {G B : Nat} {w0 : W0} : SpOk PR G B w0 sp0 := fun _ _ h => by cases h
theorem mixed : PR.follows .mixedOrders = true := by kernel_rfl
theorem callA_ok (B : Nat) (w0 : W0) : CallOk PR GG B w0 callA := CallOk.weak (callF_ok (ev_ok (comp_ok _) sp0_ok (drwE_ok trivial (comp_ok _) mixed) 1000000) sp0_ok)
theorem spX_ok {B : Nat} {w0 : W0} : SpOk PR GG B w0 spX := by
  intro g h hg
  unfold spX at hg
  cases h1 : Nat.beq g 103 with
  | true =>
    rw [h1, cond_true, Option.some.injEq] at hg
    obtain rfl := Nat.eq_of_beq_eq_true h1
    subst hg
    exact callOk_of (c := Tryz.f103.body.getD .skip) Tryz.func103 (by kernel_rfl) (by kernel_rfl) fun hh _ _ _ hl hr => vars_calls callA_ok hh hl hr
  | false =>
  rw [h1, cond_false] at hg
  cases h3 : Nat.beq g 23 with
  | true =>
    rw [h3, cond_true, Option.some.injEq] at hg
    obtain rfl := Nat.eq_of_beq_eq_true h3
    subst hg
    exact callOk_of (c := Tryz.f23.body.getD .skip) Tryz.func23 (by kernel_rfl) (by kernel_rfl) fun hh _ _ _ hl hr => copy_calls hh hl hr
  | false =>
  rw [h3, cond_false] at hg
  cases h4 : Nat.beq g 197 with
  | true =>
    rw [h4, cond_true, Option.some.injEq] at hg
    obtain rfl := Nat.eq_of_beq_eq_true h4
    subst hg
    exact callOk_of (c := Tryz.f197.body.getD .skip) Tryz.func197 (by kernel_rfl) (by kernel_rfl) fun hh _ _ _ hl hr => idx_calls stringslite_IndexByte hh hl hr
  | false =>
  rw [h4, cond_false] at hg
  cases h5 : Nat.beq g 31 with
  | true =>
    rw [h5, cond_true, Option.some.injEq] at hg
    obtain rfl := Nat.eq_of_beq_eq_true h5
    subst hg
    exact callOk_of (c := Tryz.f31.body.getD .skip) Tryz.func31 (by kernel_rfl) (by kernel_rfl) fun hh _ _ _ hl hr => cnt_calls hh hl hr
  | false =>
  rw [h5, cond_false] at hg
  cases hg
theorem spX_okS (B : Nat) (w0 : W0) : SpOk PR GG B w0 spX := spX_ok
theorem selfX_ok (B : Nat) (w0 : W0) : Snd PR GG B w0 selfX := Snd.weak (ev_ok (comp_ok _) spX_ok (drwE_ok trivial (comp_ok _) mixed) 1000000)
theorem callX_okS (B : Nat) (w0 : W0) : CallOk PR GG B w0 callX := callF_ok (selfX_ok B w0) spX_ok
theorem AllW.nil {P : Program} {G : Nat} : AllW P G [] := trivial
theorem AllW.cons {P : Program} {G : Nat} {e : Memo} {L : List Memo} (h : CW P G e.g e.args (litH e.m e.n) e.v (litH e.m1 e.n1)) (t : AllW P G L) : AllW P G (e :: L) := ⟨h, t⟩
end Cr
end Go.Proofs.YtekbkaipdmklpaaGreatDoor
