/- What lattice.New computes, as plain functions. No program. -/
import Derived.Test.YtjancemacdffbaaDoorPl1
namespace Go.Proofs.YtjancemacdffbaaDoor

def upd (f : Nat → Nat) (i v : Nat) : Nat → Nat := fun j => if j = i then v else f j

def up0 (k : Nat) : Nat → Nat := fun j => if j < k then 2 ^ j else 0
theorem up0_zero : up0 0 = fun _ => 0 := by funext j; simp [up0]
theorem up0_succ (k : Nat) : upd (up0 k) k (2 ^ k) = up0 (k + 1) := by
  funext j; unfold upd up0
  by_cases h : j = k
  · subst h; simp
  · rw [if_neg h]
    by_cases h2 : j < k
    · rw [if_pos h2, if_pos (by omega)]
    · rw [if_neg h2, if_neg (by omega)]

def okP (n : Nat) (p : Int × Int) : Bool := decide (0 ≤ p.1) && decide (p.1 < n) && (decide (0 ≤ p.2) && decide (p.2 < n))
def addP (up : Nat → Nat) (p : Int × Int) : Nat → Nat := upd up p.1.toNat (up p.1.toNat ||| 2 ^ p.2.toNat)
def addPairs (n : Nat) : List (Int × Int) → (Nat → Nat) → Option (Nat → Nat)
  | [], up => some up
  | p :: r, up => if okP n p then addPairs n r (addP up p) else none

def stepC (k : Nat) (up : Nat → Nat) (i : Nat) : Nat → Nat := if (up i).testBit k then upd up i (up i ||| up k) else up
def closeI (n k : Nat) (up : Nat → Nat) : Nat → Nat := (List.range n).foldl (stepC k) up
def closeAll (n : Nat) (up : Nat → Nat) (m : Nat) : Nat → Nat := (List.range m).foldl (fun u k => closeI n k u) up
def stepD (up : Nat → Nat) (i : Nat) (d : Nat → Nat) (k : Nat) : Nat → Nat := if (up i).testBit k then upd d k (d k ||| 2 ^ i) else d
def downI (n : Nat) (up : Nat → Nat) (i : Nat) (d : Nat → Nat) : Nat → Nat := (List.range n).foldl (stepD up i) d
def downAll (n : Nat) (up : Nat → Nat) (m : Nat) : Nat → Nat := (List.range m).foldl (fun d i => downI n up i d) (fun _ => 0)
def okLoop (up dn : Nat → Nat) (i : Nat) : Bool := (up i &&& dn i) == 2 ^ i
def whole2 (s : Nat → Nat) (i k : Nat) : Bool := decide (0 ≤ Pl.bnd s (s i &&& s k))
def whole1 (n : Nat) (s : Nat → Nat) (i : Nat) : Bool := (List.range n).all (whole2 s i)
def whole (n : Nat) (s : Nat → Nat) : Bool := (List.range n).all (whole1 n s)

theorem range_foldl_succ {α : Type} (f : α → Nat → α) (a : α) (k : Nat) : (List.range (k + 1)).foldl f a = f ((List.range k).foldl f a) k := by
  rw [List.range_succ, List.foldl_append]; rfl
theorem range_all_succ (f : Nat → Bool) (k : Nat) : (List.range (k + 1)).all f = ((List.range k).all f && f k) := by
  rw [List.range_succ, List.all_append]; simp
theorem range_all_false {f : Nat → Bool} {k n : Nat} (hk : k < n) (h : f k = false) : (List.range n).all f = false := by
  rw [List.all_eq_false]; exact ⟨k, List.mem_range.2 hk, by simp [h]⟩

theorem addPairs_step (n : Nat) (ps : List (Int × Int)) (u : Nat → Nat) (j : Nat) (hj : j < ps.length) :
    addPairs n (ps.drop j) u = if okP n (ps.getD j (0, 0)) then addPairs n (ps.drop (j + 1)) (addP u (ps.getD j (0, 0))) else none := by
  rw [List.drop_eq_getElem_cons hj, List.getD_eq_getElem?_getD, List.getElem?_eq_getElem hj]; rfl
theorem okP_in (n x y : Nat) (hx : x < n) (hy : y < n) : okP n ((x : Int), (y : Int)) = true := by
  simp [okP]; omega
theorem okP_out (n : Nat) (x y : Int) (h : ¬ (0 ≤ x ∧ x < n ∧ 0 ≤ y ∧ y < n)) : okP n (x, y) = false := by
  cases e : okP n (x, y) with
  | false => rfl
  | true => simp [okP] at e; exact absurd ⟨e.1.1, e.1.2, e.2.1, e.2.2⟩ h

/-- what comes of New where the number of levels and of pairs are right: an error, or the two tables -/
def newL (n : Nat) (ps : List (Int × Int)) : Nat × (Nat → Nat) × (Nat → Nat) :=
  match addPairs n ps (up0 n) with
  | none => (3, fun _ => 0, fun _ => 0)
  | some u =>
    let up := closeAll n u n
    let dn := downAll n up n
    if (List.range n).all (okLoop up dn) then (if whole n up && whole n dn then (0, up, dn) else (4, fun _ => 0, fun _ => 0)) else (9, fun _ => 0, fun _ => 0)

theorem newL_none {n : Nat} {ps : List (Int × Int)} (h : addPairs n ps (up0 n) = none) : newL n ps = (3, fun _ => 0, fun _ => 0) := by unfold newL; rw [h]
theorem newL_loop {n : Nat} {ps : List (Int × Int)} {u : Nat → Nat} (h : addPairs n ps (up0 n) = some u) (h2 : (List.range n).all (okLoop (closeAll n u n) (downAll n (closeAll n u n) n)) = false) : newL n ps = (9, fun _ => 0, fun _ => 0) := by
  unfold newL; rw [h]; simp only [h2, Bool.false_eq_true, if_false]
theorem newL_form {n : Nat} {ps : List (Int × Int)} {u : Nat → Nat} (h : addPairs n ps (up0 n) = some u) (h2 : (List.range n).all (okLoop (closeAll n u n) (downAll n (closeAll n u n) n)) = true)
    (h3 : (whole n (closeAll n u n) && whole n (downAll n (closeAll n u n) n)) = false) : newL n ps = (4, fun _ => 0, fun _ => 0) := by
  unfold newL; rw [h]; simp only [h2, if_true, h3, Bool.false_eq_true, if_false]
theorem newL_ok {n : Nat} {ps : List (Int × Int)} {u : Nat → Nat} (h : addPairs n ps (up0 n) = some u) (h2 : (List.range n).all (okLoop (closeAll n u n) (downAll n (closeAll n u n) n)) = true)
    (h3 : (whole n (closeAll n u n) && whole n (downAll n (closeAll n u n) n)) = true) : newL n ps = (0, closeAll n u n, downAll n (closeAll n u n) n) := by
  unfold newL; rw [h]; simp only [h2, if_true, h3]

end Go.Proofs.YtjancemacdffbaaDoor
