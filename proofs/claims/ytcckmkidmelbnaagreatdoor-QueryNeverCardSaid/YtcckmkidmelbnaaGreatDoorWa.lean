/- Plain laws of words: what the operators come to. -/
import Derived.Test.YtcckmkidmelbnaaGreatDoorProg
import Derived.WalkKit
import Derived.Laws.Entries
import Derived.Below
import Derived.Lib.Hide
import Derived.BigQuiet
import Derived.Deep.QuietTactic
import Derived.KernelRfl
import Derived.Outline
import Derived.Deep.CutBlock
import Derived.Deep.Draws
namespace Go.Proofs.YtcckmkidmelbnaaGreatDoor
open Go

/-! ### bits of 64 -/
theorem wrap_u (n : Nat) (h : n < 18446744073709551616) : IntKind.u64.wrap (n : Int) = n := by
  rw [IntKind.wrap_u64]; omega
theorem ofInt_nat (n : Nat) (h : n < 18446744073709551616) : (BitVec.ofInt 64 (n : Int)).toNat = n := by
  rw [BitVec.toNat_ofInt]; omega
theorem bits_and (a b : Nat) (ha : a < 18446744073709551616) (hb : b < 18446744073709551616) : bits .and .u64 (a : Int) (b : Int) = ((a &&& b : Nat) : Int) := by
  have e : (BitVec.ofInt 64 (a : Int) &&& BitVec.ofInt 64 (b : Int)).toNat = a &&& b := by rw [BitVec.toNat_and, ofInt_nat a ha, ofInt_nat b hb]
  show IntKind.u64.wrap ((BitVec.ofInt 64 (a : Int) &&& BitVec.ofInt 64 (b : Int)).toNat : Int) = _
  rw [e]
  exact wrap_u _ (Nat.lt_of_le_of_lt Nat.and_le_left ha)
theorem pow_le {w : Nat} (h : w ≤ 64) : 2 ^ w ≤ 18446744073709551616 := by
  have : 2 ^ w ≤ 2 ^ 64 := Nat.pow_le_pow_right (by decide) h
  omega
theorem and_mask (a w : Nat) : a &&& (2 ^ w - 1) = a % 2 ^ w := Nat.and_two_pow_sub_one_eq_mod a w
/-! ### words of a width -/
/-! ### shifts step by step, as the reference does them -/
end Go.Proofs.YtcckmkidmelbnaaGreatDoor
namespace Go.Proofs.YtcckmkidmelbnaaGreatDoor
open Go

/-- a node: the operator, the number, the arguments -/
structure Nd where
  op : Nat
  num : Nat
  args : List Nat
deriving DecidableEq
instance : Inhabited Nd := ⟨⟨0, 0, []⟩⟩
/-- the place of a node among nodes -/
def ndAt (n : Nd) : List Nd → Nat
  | [] => 0
  | m :: l => if m = n then 0 else ndAt n l + 1
theorem ndAt_none {n : Nd} : ∀ {l : List Nd}, n ∉ l → ndAt n l = l.length
  | [], _ => rfl
  | m :: l, h => by
    simp only [List.mem_cons, not_or] at h
    unfold ndAt
    rw [if_neg (fun e => h.1 e.symm), ndAt_none h.2]; rfl
/-- the nodes after a node was asked for -/
def askL (n : Nd) (l : List Nd) : List Nd := if n ∈ l then l else l ++ [n]
theorem askL_len (n : Nd) (l : List Nd) : (askL n l).length ≤ l.length + 1 := by
  unfold askL; split <;> simp
/-- how many arguments an operator has -/
def arN (o : Nat) : Nat := if o ≤ 1 then 0 else if o ≤ 3 then 1 else if o = 21 then 3 else 2
/-- a node that may be the i-th of a graph of this width -/
def NdOk (W i : Nat) (n : Nd) : Prop := n.op ≤ 20 ∧ n.num < 2 ^ W + 12 ∧ n.num < 18446744073709551616 ∧ (n.op = 0 → n.num < 2 ^ W) ∧ n.args.length = arN n.op ∧ (2 ≤ n.op → n.num = 0) ∧ ∀ a ∈ n.args, a < i
theorem NdOk.mono {W i j : Nat} {n : Nd} (h : NdOk W i n) (hij : i ≤ j) : NdOk W j n :=
  ⟨h.1, h.2.1, h.2.2.1, h.2.2.2.1, h.2.2.2.2.1, h.2.2.2.2.2.1, fun a ha => Nat.lt_of_lt_of_le (h.2.2.2.2.2.2 a ha) hij⟩
def GOk (W : Nat) (l : List Nd) : Prop := ∀ i, i < l.length → NdOk W i (l.getD i default)
theorem GOk.nil (W : Nat) : GOk W [] := fun i h => by simp at h
theorem GOk.ask {W : Nat} {l : List Nd} (h : GOk W l) {n : Nd} (hn : NdOk W l.length n) : GOk W (askL n l) := by
  unfold askL
  split
  · exact h
  · intro i hi
    simp only [List.length_append, List.length_singleton] at hi
    by_cases e : i < l.length
    · have : (l ++ [n]).getD i default = l.getD i default := by
        rw [List.getD_eq_getElem?_getD, List.getD_eq_getElem?_getD, List.getElem?_append_left e]
      rw [this]; exact h i e
    · have e2 : i = l.length := by omega
      subst e2
      have : (l ++ [n]).getD l.length default = n := by
        rw [List.getD_eq_getElem?_getD, List.getElem?_append_right (Nat.le_refl _)]; simp
      rw [this]; exact hn
/-! ### the values of all terms -/
theorem take_snoc' {α : Type} (d : α) (l : List α) {k : Nat} (h : k < l.length) : l.take (k + 1) = l.take k ++ [l.getD k d] := by
  rw [List.take_succ_eq_append_getElem h, List.getD_eq_getElem?_getD, List.getElem?_eq_getElem h]; rfl
end Go.Proofs.YtcckmkidmelbnaaGreatDoor
namespace Go.Proofs.YtcckmkidmelbnaaGreatDoor
open Go.RowKit

/-- 2^w - 1, as the walk spells it -/
theorem mask_raw {w : Nat} (h : w ≤ 64) : IntKind.u64.wrap (IntKind.u64.wrap ((2 : Int) ^ w) - 1) = ((2 ^ w - 1 : Nat) : Int) := by
  have h1 := pow_le h
  have h0 : 0 < 2 ^ w := Nat.two_pow_pos w
  have e : (2 : Int) ^ w = ((2 ^ w : Nat) : Int) := by simp
  rw [e, IntKind.wrap_u64, IntKind.wrap_u64]
  omega
theorem mask82 (w : Nat) (W : World) (h : w ≤ 64) : Calls Tryz.prog 107 #[.int .i64 w] W fun e W' => e = .returned (.int .u64 ((2 ^ w - 1 : Nat) : Int)) ∧ W = W' := by
  have HM := Lib.hid (mask_raw h)
  go_enter Tryz.func107, Tryz.ntmps107
  go_wp2_with fail
  go_ret
  exact ⟨by rw [← HM.out]; rfl, rfl⟩
theorem check64_ok (w : Nat) (W : World) (h1 : 1 ≤ w) (h : w ≤ 64) : Calls Tryz.prog 93 #[.int .i64 w] W fun e W' => e = .returned (.int .i64 0) ∧ W = W' := by
  have d1 : decide ((w : Int) < 1) = false := by simp; omega
  have d2 : decide (64 < (w : Int)) = false := by simp; omega
  go_enter Tryz.func93, Tryz.ntmps93
  go_wp2_with fail
  go_ret
  exact ⟨rfl, rfl⟩
theorem check64_bad (w : Int) (W : World) (h : w < 1 ∨ 64 < w) : Calls Tryz.prog 93 #[.int .i64 w] W fun e W' => e = .returned (.int .i64 3) ∧ W = W' := by
  by_cases a0 : w < 1
  · clear h
    go_enter Tryz.func93, Tryz.ntmps93
    go_wp2_with fail
    go_ret
    exact ⟨rfl, rfl⟩
  · have a1 : 64 < w := by omega
    clear h
    go_enter Tryz.func93, Tryz.ntmps93
    go_wp2_with fail
    go_ret
    exact ⟨rfl, rfl⟩
/-! ### what the operators yield, up to the highest bits -/
section
variable (w a b : Nat) (W : World)
end
end Go.Proofs.YtcckmkidmelbnaaGreatDoor
namespace Go.Proofs.YtcckmkidmelbnaaGreatDoor
open Go.RowKit
section
variable (w a b : Nat) (W : World)
end
end Go.Proofs.YtcckmkidmelbnaaGreatDoor
namespace Go.Proofs.YtcckmkidmelbnaaGreatDoor
open Go.RowKit
section
variable (w a b : Nat) (W : World)
end
end Go.Proofs.YtcckmkidmelbnaaGreatDoor
namespace Go.Proofs.YtcckmkidmelbnaaGreatDoor
open Go.RowKit
section
variable (w a b : Nat) (W : World)
end
end Go.Proofs.YtcckmkidmelbnaaGreatDoor
