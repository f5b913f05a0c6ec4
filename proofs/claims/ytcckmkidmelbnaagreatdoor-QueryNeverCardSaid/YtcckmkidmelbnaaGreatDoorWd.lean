/- Closed calls (arguments without addresses) by the machine, whatever the memory; arities of the operators; the table of the operators. -/
import Derived.Test.YtcckmkidmelbnaaGreatDoorPb
import Derived.Test.YtcckmkidmelbnaaGreatDoorWa
namespace Go.Proofs.YtcckmkidmelbnaaGreatDoor
open Go.RowKit
namespace Cr

theorem scalar_inv {μ : Mu} {v v' : Value} (hs : scalar v = true) (h : VR μ v v') : v' = v := by
  cases h with
  | ptr i b o off hm => simp [scalar] at hs
  | sl i b o off n c c' hm hc => simp [scalar] at hs
  | slE a c' => simp [scalar] at hs
  | map i b hm => simp [scalar] at hs
  | yield i l hm => simp [scalar, noYield] at hs
  | func fn f c f' c' hy hl hc _ _ =>
    simp only [scalar, Bool.and_eq_true, List.isEmpty_iff] at hs
    obtain ⟨_, rfl, rfl⟩ := hs
    have e1 : f' = [] := List.eq_nil_of_length_eq_zero hl.symm
    have e2 : c' = [] := List.eq_nil_of_length_eq_zero hc.symm
    rw [e1, e2]
  | iface t v v' _ => simp [scalar] at hs
  | agg c c' _ _ => simp [scalar] at hs
  | tuple c c' _ _ => simp [scalar] at hs
  | _ => rfl
theorem scalars_inv {μ : Mu} {l l' : List Value} (hs : l.all scalar = true) (hl : l.length = l'.length) (h : ∀ (j : Nat) (p : j < l.length) (q : j < l'.length), VR μ l[j] l'[j]) : l' = l := by
  refine (List.ext_getElem hl fun j h1 h2 => ?_).symm
  exact (scalar_inv (List.all_eq_true.1 hs _ (List.getElem_mem h1)) (h j h1 h2)).symm
theorem plain_inv {μ : Mu} {v v' : Value} (hs : plain v = true) (h : VR μ v v') : v' = v := by
  cases h with
  | agg c c' hl hh => rw [scalars_inv hs hl hh]
  | tuple c c' hl hh => rw [scalars_inv hs hl hh]
  | iface t v v' hv => rw [scalar_inv hs hv]
  | ptr0 => rfl
  | nilFunc => rfl
  | nilIface => rfl
  | bool b => rfl
  | int k n => rfl
  | string s => rfl
  | sl0 n c => rfl
  | map0 => rfl
  | ptr i b o off hm => simp [plain, scalar] at hs
  | sl i b o off n c c' hm hc => simp [plain, scalar] at hs
  | slE a c' => simp [plain, scalar] at hs
  | map i b hm => simp [plain, scalar] at hs
  | yield i l hm => exact scalar_inv hs (.yield i l hm)
  | func fn f c f' c' hy hl hc h1 h2 => exact scalar_inv hs (.func fn f c f' c' hy hl hc h1 h2)
def muG : Mu := ⟨fun i => if i < 4 then some (i, 0) else none, fun _ => 0⟩
theorem hr_none {w : World} : HR 4 w.heap.size w ⟨.nil, 4⟩ muG w := by
  refine ⟨fun i x h => (by cases h), fun i j x y h => (by cases h), fun i x h => (by cases h), fun i p h => ?_, fun g hg => ?_, (by show (4 : Nat) < _; decide), Below.refl _ _, Nat.le_refl _⟩
  · simp only [muG] at h
    split at h
    · assumption
    · cases h
  · show (if g < 4 then some (g, 0) else none) = _
    rw [if_pos hg]
noncomputable def runV (f : Nat) (args : List Value) (v : Value) : Bool := args.all scalar && (plain v && (match callX f args ⟨.nil, 4⟩ with
  | .ok u _ => veq 6 u v
  | .bad => false))
/-- a closed call: what it answers; nothing that was there changes -/
theorem closed_call {f : Nat} {args : List Value} {v : Value} (h : runV f args v = true) {w : World} : Calls Tryz.prog f ⟨args⟩ w fun e w' => e = .returned v ∧ Below w.heap.size w w' := by
  unfold runV at h
  simp only [Bool.and_eq_true] at h
  obtain ⟨ha, hp, h⟩ := h
  split at h
  · rename_i u H' hr
    obtain rfl := veq_eq 6 _ _ h
    refine (calls_of_call callX_ok hr (LR.scalars (μ := muG) ha) hr_none).mono ?_
    rintro e w' ⟨v', μ', rfl, hv, nx⟩
    rw [plain_inv hp hv]
    exact ⟨rfl, nx.hr.below⟩
  · cases h
end Cr
open Cr
noncomputable def arOk (o : Nat) : Bool := runV 97 [.int .u8 (.ofNat o)] (.tuple ⟨[.int .i64 (.ofNat (arN o)), .int .i64 (.ofNat 0)]⟩)
set_option maxRecDepth 1000000 in
theorem ar_all : (List.range 22).all arOk = true := by kernel_rfl
theorem arity72 (o : Nat) (ho : o ≤ 21) {w : World} : Calls Tryz.prog 97 #[.int .u8 o] w fun e w' => e = .returned (.tuple #[.int .i64 (arN o : Nat), .int .i64 0]) ∧ Below w.heap.size w w' :=
  closed_call (List.all_eq_true.1 ar_all o (List.mem_range.2 (by omega)))
end Go.Proofs.YtcckmkidmelbnaaGreatDoor
