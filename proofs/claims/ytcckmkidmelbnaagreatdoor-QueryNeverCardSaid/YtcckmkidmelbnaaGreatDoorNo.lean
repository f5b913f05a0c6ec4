/- Plain: what Never answers. -/
import Derived.Test.YtcckmkidmelbnaaGreatDoorNd
import Derived.Test.YtcckmkidmelbnaaGreatDoorNa
namespace Go.Proofs.YtcckmkidmelbnaaGreatDoor
open Go.RowKit

/-- a variable may be: it is even, and the level sees its channel -/
def goodV (N : Nat) (up : Nat → Nat) (xs : List Int) (level m : Int) : Bool := !(m % 2 == 1) && leB N up (xs.getD (m / 2 % xs.length).toNat 0) level
open Classical in
noncomputable def okT (L : List Nd) (N : Nat) (up : Nat → Nat) (xs : List Int) (level t : Int) : Bool := decide (∀ m, VarIn L t.toNat m → goodV N up xs level m = true)
open Classical in
theorem okT_eq {L : List Nd} {N : Nat} {up : Nat → Nat} {xs : List Int} {level : Int} {t : Nat} {vs : List Int} (h : ∀ m, m ∈ vs ↔ VarIn L t m) : okT L N up xs level t = vs.all (goodV N up xs level) := by
  unfold okT
  rw [Int.toNat_natCast, Bool.eq_iff_iff, decide_eq_true_eq, List.all_eq_true]
  exact ⟨fun hh m hm => hh m ((h m).1 hm), fun hh m hm => hh m ((h m).2 hm)⟩
noncomputable def nevB (L : List Nd) (N : Nat) (up : Nat → Nat) (xs : List Int) (level : Int) (p q : PathN) : Bool :=
  decide (p.st = q.st ∧ p.st ≠ 2) && (decide (seen N up level xs p.os = seen N up level xs q.os) && (seen N up level xs p.os).all fun o => okT L N up xs level o.2)
section
variable {L : List Nd} {N : Nat} {up : Nat → Nat} {xs : List Int} {level : Int} {p q : PathN}
theorem nevB_st (h : ¬ (p.st = q.st ∧ p.st ≠ 2)) : nevB L N up xs level p q = false := by
  unfold nevB; rw [decide_eq_false h]; rfl
theorem nevB_len (h : (seen N up level xs p.os).length ≠ (seen N up level xs q.os).length) : nevB L N up xs level p q = false := by
  unfold nevB; rw [decide_eq_false (fun e => h (by rw [e]) : ¬ seen N up level xs p.os = seen N up level xs q.os)]; simp
theorem nevB_ne {k : Nat} (h : (seen N up level xs p.os).getD k (0, 0) ≠ (seen N up level xs q.os).getD k (0, 0)) : nevB L N up xs level p q = false := by
  unfold nevB; rw [decide_eq_false (fun e => h (by rw [e]) : ¬ seen N up level xs p.os = seen N up level xs q.os)]; simp
theorem nevB_bad {k : Nat} (hk : k < (seen N up level xs p.os).length) (h : okT L N up xs level ((seen N up level xs p.os).getD k (0, 0)).2 = false) : nevB L N up xs level p q = false := by
  unfold nevB
  rw [show (seen N up level xs p.os).all (fun o => okT L N up xs level o.2) = false from List.all_eq_false.2 ⟨_, getD_mem (0, 0) _ k hk, by rw [h]; decide⟩]; simp
theorem nevB_good (h1 : p.st = q.st) (h2 : p.st ≠ 2) (h3 : (seen N up level xs p.os).length = (seen N up level xs q.os).length) (h4 : ∀ k, k < (seen N up level xs p.os).length → (seen N up level xs p.os).getD k (0, 0) = (seen N up level xs q.os).getD k (0, 0) ∧ okT L N up xs level ((seen N up level xs p.os).getD k (0, 0)).2 = true) : nevB L N up xs level p q = true := by
  have e : seen N up level xs p.os = seen N up level xs q.os := by
    apply List.ext_getElem h3
    intro i hi hj
    have := (h4 i hi).1
    simpa [List.getD_eq_getElem?_getD, List.getElem?_eq_getElem hi, List.getElem?_eq_getElem hj] using this
  unfold nevB
  rw [decide_eq_true ⟨h1, h2⟩, decide_eq_true e, Bool.true_and, Bool.true_and, List.all_eq_true]
  intro o ho
  obtain ⟨i, hi, rfl⟩ := List.getElem_of_mem ho
  have := (h4 i hi).2
  simpa [List.getD_eq_getElem?_getD, List.getElem?_eq_getElem hi] using this
end
end Go.Proofs.YtcckmkidmelbnaaGreatDoor
