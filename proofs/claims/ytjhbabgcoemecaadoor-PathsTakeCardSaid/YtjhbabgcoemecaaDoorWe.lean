/- Plain laws of graphs of terms: nodes, asking for a node, the values of all terms. -/
import Derived.Test.YtjhbabgcoemecaaDoorWa
namespace Go.Proofs.YtjhbabgcoemecaaDoor
open Go

/-- a node: the operator, the number, the arguments -/
structure Nd where
  op : Nat
  num : Nat
  args : List Nat
deriving DecidableEq
instance : Inhabited Nd := ⟨⟨0, 0, []⟩⟩
/-- the place of a node among nodes -/
def ndAt (n : Nd) : List Nd → Nat
  | [] => 0
  | m :: l => if m = n then 0 else ndAt n l + 1
theorem ndAt_none {n : Nd} : ∀ {l : List Nd}, n ∉ l → ndAt n l = l.length
  | [], _ => rfl
  | m :: l, h => by
    simp only [List.mem_cons, not_or] at h
    unfold ndAt
    rw [if_neg (fun e => h.1 e.symm), ndAt_none h.2]; rfl
/-- the nodes after a node was asked for -/
def askL (n : Nd) (l : List Nd) : List Nd := if n ∈ l then l else l ++ [n]
theorem askL_len (n : Nd) (l : List Nd) : (askL n l).length ≤ l.length + 1 := by
  unfold askL; split <;> simp
/-- how many arguments an operator has -/
def arN (o : Nat) : Nat := if o ≤ 1 then 0 else if o ≤ 3 then 1 else if o = 21 then 3 else 2
/-- a node that may be the i-th of a graph of this width -/
def NdOk (W i : Nat) (n : Nd) : Prop := n.op ≤ 20 ∧ n.num < 2 ^ W + 12 ∧ n.num < 18446744073709551616 ∧ (n.op = 0 → n.num < 2 ^ W) ∧ n.args.length = arN n.op ∧ (2 ≤ n.op → n.num = 0) ∧ ∀ a ∈ n.args, a < i
theorem NdOk.mono {W i j : Nat} {n : Nd} (h : NdOk W i n) (hij : i ≤ j) : NdOk W j n :=
  ⟨h.1, h.2.1, h.2.2.1, h.2.2.2.1, h.2.2.2.2.1, h.2.2.2.2.2.1, fun a ha => Nat.lt_of_lt_of_le (h.2.2.2.2.2.2 a ha) hij⟩
def GOk (W : Nat) (l : List Nd) : Prop := ∀ i, i < l.length → NdOk W i (l.getD i default)
theorem GOk.nil (W : Nat) : GOk W [] := fun i h => by simp at h
theorem GOk.ask {W : Nat} {l : List Nd} (h : GOk W l) {n : Nd} (hn : NdOk W l.length n) : GOk W (askL n l) := by
  unfold askL
  split
  · exact h
  · intro i hi
    simp only [List.length_append, List.length_singleton] at hi
    by_cases e : i < l.length
    · have : (l ++ [n]).getD i default = l.getD i default := by
        rw [List.getD_eq_getElem?_getD, List.getD_eq_getElem?_getD, List.getElem?_append_left e]
      rw [this]; exact h i e
    · have e2 : i = l.length := by omega
      subst e2
      have : (l ++ [n]).getD l.length default = n := by
        rw [List.getD_eq_getElem?_getD, List.getElem?_append_right (Nat.le_refl _)]; simp
      rw [this]; exact hn

/-! ### the values of all terms -/
def valN (W : Nat) (vals : List Nat) (prev : List Nat) (n : Nd) : Nat :=
  if n.op = 0 then n.num else if n.op = 1 then (if n.num < vals.length then vals.getD n.num 0 % 2 ^ W else 0) else appN n.op W (prev.getD (n.args.getD 0 0) 0) (prev.getD (n.args.getD 1 0) 0)
def valuesN (W : Nat) (vals : List Nat) (l : List Nd) : List Nat := l.foldl (fun acc n => acc ++ [valN W vals acc n]) []
theorem valuesN_snoc (W : Nat) (vals : List Nat) (l : List Nd) (n : Nd) : valuesN W vals (l ++ [n]) = valuesN W vals l ++ [valN W vals (valuesN W vals l) n] := by
  simp [valuesN]
theorem valuesN_len (W : Nat) (vals : List Nat) (l : List Nd) : (valuesN W vals l).length = l.length := by
  rw [← List.reverse_reverse l]
  induction l.reverse with
  | nil => rfl
  | cons n l ih => rw [List.reverse_cons, valuesN_snoc]; simp [ih]
theorem take_snoc' {α : Type} (d : α) (l : List α) {k : Nat} (h : k < l.length) : l.take (k + 1) = l.take k ++ [l.getD k d] := by
  rw [List.take_succ_eq_append_getElem h, List.getD_eq_getElem?_getD, List.getElem?_eq_getElem h]; rfl
/-- the values of the first nodes do not hang on what follows -/
theorem valuesN_take (W : Nat) (vals : List Nat) (l : List Nd) : ∀ k, k ≤ l.length → (valuesN W vals l).take k = valuesN W vals (l.take k) := by
  rw [← List.reverse_reverse l]
  induction l.reverse with
  | nil => intro k hk; simp at hk; subst hk; rfl
  | cons n l ih =>
    intro k hk
    rw [List.reverse_cons] at hk ⊢
    rw [valuesN_snoc]
    simp only [List.length_append, List.length_singleton] at hk
    by_cases e : k ≤ l.reverse.length
    · rw [List.take_append_of_le_length (by rw [valuesN_len]; exact e), List.take_append_of_le_length e, ih k e]
    · have e2 : k = (l.reverse ++ [n]).length := by simp at hk e ⊢; omega
      subst e2
      rw [List.take_length, valuesN_snoc]
      exact List.take_of_length_le (by simp [valuesN_len])
theorem valuesN_at (W : Nat) (vals : List Nat) (l : List Nd) {t : Nat} (ht : t < l.length) : (valuesN W vals l).getD t 0 = valN W vals ((valuesN W vals l).take t) (l.getD t default) := by
  have h := valuesN_take W vals l (t + 1) ht
  rw [take_snoc' default l ht, valuesN_snoc, ← valuesN_take W vals l t (by omega), take_snoc' 0 _ (by rw [valuesN_len]; exact ht)] at h
  have := List.append_inj_right' h rfl
  simpa using this
theorem getD_take {α : Type} (d : α) (l : List α) {a k : Nat} (h : a < k) : (l.take k).getD a d = l.getD a d := by
  rw [List.getD_eq_getElem?_getD, List.getD_eq_getElem?_getD, List.getElem?_take_of_lt h]
/-- the value of a term, by those of its arguments, wherever these stand -/
theorem valN_args {W : Nat} {vals p q : List Nat} {n : Nd} {i : Nat} (hn : NdOk W i n) (h : ∀ a ∈ n.args, p.getD a 0 = q.getD a 0) : valN W vals p n = valN W vals q n := by
  unfold valN
  split
  · rfl
  · split
    · rfl
    · rename_i h0 h1
      have hl := hn.2.2.2.2.1
      have ho := hn.1
      have key : ∀ j, j < n.args.length → p.getD (n.args.getD j 0) 0 = q.getD (n.args.getD j 0) 0 := fun j hj => h _ (by
        rw [List.getD_eq_getElem?_getD, List.getElem?_eq_getElem hj]; exact List.getElem_mem hj)
      have h0' : 0 < n.args.length := by rw [hl]; unfold arN; (repeat' split) <;> omega
      rw [key 0 h0']
      by_cases h2 : 1 < n.args.length
      · rw [key 1 h2]
      · -- one argument: the second does not count
        have hop : n.op = 2 ∨ n.op = 3 := by
          rw [hl] at h2
          unfold arN at h2
          split at h2
          · omega
          · split at h2
            · omega
            · split at h2 <;> omega
        rcases hop with e | e <;> rw [e] <;> rfl
theorem valN_lt {W : Nat} {vals p : List Nat} {n : Nd} {i : Nat} (hW : 1 ≤ W) (hn : NdOk W i n) (hp : ∀ a, p.getD a 0 < 2 ^ W) : valN W vals p n < 2 ^ W := by
  have h0 : 0 < 2 ^ W := Nat.two_pow_pos W
  unfold valN
  split
  · rename_i e; exact hn.2.2.2.1 e
  · split
    · split
      · exact Nat.mod_lt _ h0
      · exact h0
    · exact appN_lt hW (hp _) (hp _)
theorem valuesN_lt {W : Nat} (vals : List Nat) {l : List Nd} (hW : 1 ≤ W) (h : GOk W l) : ∀ t, (valuesN W vals l).getD t 0 < 2 ^ W := by
  have h0 : 0 < 2 ^ W := Nat.two_pow_pos W
  intro t
  induction t using Nat.strongRecOn with
  | ind t ih =>
    by_cases ht : t < l.length
    · rw [valuesN_at W vals l ht]
      refine valN_lt hW (h t ht) fun a => ?_
      by_cases ha : a < t
      · rw [getD_take 0 _ ha]; exact ih a ha
      · rw [List.getD_eq_getElem?_getD, List.getElem?_eq_none (by rw [List.length_take]; omega)]; exact h0
    · rw [List.getD_eq_getElem?_getD, List.getElem?_eq_none (by rw [valuesN_len]; omega)]; exact h0
end Go.Proofs.YtjhbabgcoemecaaDoor
