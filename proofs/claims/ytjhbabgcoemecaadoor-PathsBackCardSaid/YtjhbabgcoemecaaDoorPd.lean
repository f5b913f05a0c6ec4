/- What Vals computes (plain law), and the walks of Vals. -/
import Derived.Test.YtjhbabgcoemecaaDoorPc
import Derived.Test.YtjhbabgcoemecaaDoorIb
import Derived.Laws.OwnMore
namespace Go.Proofs.YtjhbabgcoemecaaDoor
open Go.RowKit

/-- a number in a list that is made long enough -/
def padV (l : List Int) (n : Nat) : List Int := l ++ List.replicate (n + 1 - l.length) 0
def putV (l : List Int) (n : Nat) (v : Int) : List Int := (padV l n).set n v
def valK (ch c : Nat) (row : List Int) (l : List Int) : Nat → List Int
  | 0 => l
  | k + 1 => putV (valK ch c row l k) (2 * (k * ch + c)) (row.getD k 0)
def valC (ch : Nat) (rows : List (List Int)) : Nat → List Int
  | 0 => []
  | c + 1 => valK ch c (rows.getD c []) (valC ch rows c) (rows.getD c []).length
theorem padV_len (l : List Int) (n : Nat) : (padV l n).length = max l.length (n + 1) := by simp [padV]; omega
theorem putV_len (l : List Int) (n : Nat) (v : Int) : (putV l n v).length = max l.length (n + 1) := by simp only [putV, List.length_set, padV_len]
theorem place_le {ch c k : Nat} (hc : c < ch) (hch : ch ≤ 32) (hk : k < 100) : 2 * (k * ch + c) + 1 ≤ 6400 := by
  have : k * ch ≤ 99 * 32 := Nat.mul_le_mul (by omega) hch
  omega
theorem valK_len {ch c : Nat} {row l : List Int} (hc : c < ch) (hch : ch ≤ 32) (hl : l.length ≤ 6400) : ∀ k, k ≤ 100 → (valK ch c row l k).length ≤ 6400
  | 0, _ => hl
  | k + 1, h => by
    have := valK_len (row := row) hc hch hl k (by omega)
    have := place_le hc hch (k := k) (by omega)
    show (putV _ _ _).length ≤ 6400
    rw [putV_len]; omega
theorem valC_len {ch : Nat} {rows : List (List Int)} (hch : ch ≤ 32) (hr : ∀ c, (rows.getD c []).length ≤ 100) : ∀ c, c ≤ ch → (valC ch rows c).length ≤ 6400
  | 0, _ => by simp [valC]
  | c + 1, h => valK_len (by omega) hch (valC_len hch hr c (by omega)) _ (hr c)
theorem inp_nat {ch c k : Nat} (h1 : 1 ≤ ch) (h2 : ch ≤ 32) (hc : c < ch) (hk : k < 65536) : inpV ch c k = (((2 * (k * ch + c) : Nat) : Int), 0) := by
  unfold inpV
  rw [if_neg (by omega)]
  simp only [Int.natCast_mul, Int.natCast_add]
  rfl

/-- what Vals answers -/
def valsR (chans : Int) (rows : List (List Int)) : Int × List Int := if chans < 1 ∨ 32 < chans ∨ chans < rows.length then (3, []) else (0, valC chans.toNat rows rows.length)
def ValsPost (w : World) (r : Int × List Int) (e : Ending) (w' : World) : Prop := ∃ v, e = .returned (.tuple #[v, .int .i64 r.1]) ∧ (Lay.int .u64).Own 33 w' w.heap.size v r.2 ∧ Below w.heap.size w w'

/-- storing in a list of numbers that the call owns -/
theorem Lay.Own.put {k : IntKind} {e : TypeId} {w : World} {base : Nat} {v : Value} {xs : List Int} (h : (Lay.int k).Own e w base v xs) {j : Nat} (hj : j < xs.length) (x : Int) :
    ∃ g cap u, v = .slice (some ⟨g, 0, none⟩) xs.length cap ∧ base ≤ g ∧ w.cell? ⟨g, j, none⟩ = some u ∧ w.frozen? ⟨g, j, none⟩ = false ∧ (Lay.int k).Own e (w.setCell ⟨g, j, none⟩ (.int k x)) base v (xs.set j x) ∧ w.grownBy (w.setCell ⟨g, j, none⟩ (.int k x)) (some g) := by
  have h' : w.ownsRow base e 1 v xs.length ((Lay.int k).flat xs) := h
  have hfl : ((Lay.int k).flat xs).length = xs.length := by rw [Lay.flat_length]; exact Nat.mul_one _
  obtain ⟨g, cap, hv, hb⟩ : ∃ g cap, v = .slice (some ⟨g, 0, none⟩) xs.length cap ∧ base ≤ g := by
    rcases h'.2 with ⟨_, h0⟩ | ⟨g, cap, cur, hv, hb, _⟩
    · omega
    · exact ⟨g, cap, hv, hb⟩
  subst hv
  have hflat : ((Lay.int k).flat xs).set j (.int k x) = (Lay.int k).flat (xs.set j x) := by
    have e1 : ∀ ys : List Int, (Lay.int k).flat ys = ys.map (Value.int k) := fun ys => by
      induction ys with
      | nil => rfl
      | cons y ys ih => exact congrArg (Value.int k y :: ·) ih
    rw [e1, e1, List.map_set]
  obtain ⟨s1, s2⟩ := World.ownsRow.stored h' j (.int k x)
  rw [hflat] at s1
  have s3 : (Lay.int k).Own e (w.setCell ⟨g, j, none⟩ (.int k x)) base (.slice (some ⟨g, 0, none⟩) xs.length cap) (xs.set j x) := by
    unfold Lay.Own
    rw [List.length_set]; exact s1
  exact ⟨g, cap, ((Lay.int k).flat xs)[j]'(by omega), rfl, hb, by rw [World.ownsRow.cellAt h' j (by omega)]; exact List.getElem?_eq_getElem (by omega), World.ownsRow.frozenAt h' j, s3, s2⟩
def lenOf : Value → Nat
  | .slice _ n _ => n
  | _ => 0
theorem Lay.Own.lenOf {k : IntKind} {e : TypeId} {w : World} {base : Nat} {v : Value} {xs : List Int} (h : (Lay.int k).Own e w base v xs) : ∃ a cap, v = .slice a xs.length cap := by
  obtain ⟨a, cap, hv, _⟩ := h.at_ (d := 0)
  exact ⟨a, cap, hv⟩
def padJ (l : List Int) (j : Nat) : List Int := l ++ List.replicate j 0
theorem padJ_zero (l : List Int) : padJ l 0 = l := by simp [padJ]
theorem pad_done {l : List Int} {N j : Nat} (h1 : l.length + j ≤ max l.length (N + 1)) (h2 : ¬ l.length + j ≤ N) : padJ l j = padV l N := by
  have : j = N + 1 - l.length := by omega
  rw [this]; rfl
theorem pad_more (l : List Int) (j : Nat) : padJ l (j + 1) = padJ l j ++ [0] := by
  unfold padJ
  rw [List.replicate_succ', List.append_assoc]
end Go.Proofs.YtjhbabgcoemecaaDoor
