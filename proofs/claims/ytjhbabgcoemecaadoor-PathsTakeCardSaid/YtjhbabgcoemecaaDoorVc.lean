/- Walk: Eval of the reference. -/
import Derived.Test.YtjhbabgcoemecaaDoorVb
namespace Go.Proofs.YtjhbabgcoemecaaDoor
open Go.RowKit

/-- what Eval answers -/
def evN (n : Nat) (V : List Nat) (t : Int) : Value := if inG n t = true then .tuple #[.int .u64 (V.getD t.toNat 0 : Nat), .int .i64 0] else .tuple #[.int .u64 0, .int .i64 3]
set_option maxRecDepth 100000 in
set_option maxHeartbeats 8000000 in
theorem eval57 {w : World} {r W : Nat} {L : List Nd} (h : RV w r W L) (h1 : 1 ≤ W) (h2 : W ≤ 64) (hL : L.length ≤ 60) (t : Int) (vals : List Nat) {a : Option Addr} {len cap : Nat} (hlen : vals.length = len) (hvl : len ≤ 100) (hat : (Lay.int .u64).At 0 w a (intsN vals)) (hsm : ∀ v ∈ vals, v < 18446744073709551616) :
    Calls Tryd.prog 57 #[.pointer (some ⟨r, 0, none⟩), .int .i64 t, .slice a len cap] w fun e w' => e = .returned (evN L.length (valuesN W vals L) t) ∧ Below w.heap.size w w' := by
  have HBA : Hid (Below w.heap.size w (w.alloc (.cells #[.int .i64 t] 3))) := Lib.hid ((Below.refl _ _).alloc (Nat.le_refl _) _)
  have HC : Hid (Calls Tryd.prog 78 #[.pointer (some ⟨r, 0, none⟩), .slice (some ⟨w.heap.size, 0, none⟩) 1 1, .slice a len cap] (w.alloc (.cells #[.int .i64 t] 3)) fun e w' => (if inG L.length t = true then ∃ v, e = .returned (.tuple #[v, .int .i64 0]) ∧ OwnU w' (w.alloc (.cells #[.int .i64 t] 3)).heap.size v [(valuesN W vals L).getD t.toNat 0] else e = .returned (.tuple #[.slice none 0 0, .int .i64 3])) ∧ Below (w.alloc (.cells #[.int .i64 t] 3)).heap.size (w.alloc (.cells #[.int .i64 t] 3)) w') :=
    Lib.hid (all78 (h.below HBA.out) h1 h2 hL t vals hlen hvl (hat.below HBA.out) hsm (Lay.At.made (L := Lay.int .i64) (d := 0) w [t] 3))
  have HE : Hid (evN L.length (valuesN W vals L) t = if inG L.length t = true then .tuple #[.int .u64 ((valuesN W vals L).getD t.toNat 0 : Nat), .int .i64 0] else .tuple #[.int .u64 0, .int .i64 3]) := Lib.hid rfl
  clear h hat hsm
  generalize hq : (valuesN W vals L).getD t.toNat 0 = q at *
  generalize evN L.length (valuesN W vals L) t = ev at *
  clear hq
  generalize inG L.length t = g at *
  cases g with
  | false =>
    simp only [Bool.false_eq_true, if_false] at HC HE
    obtain rfl := HE.out
    clear HE
    go_enter Tryd.func57, Tryd.ntmps57
    go_wp2_with (first
      | (go_at_call 78
         refine HC.out.mono ?_
         rintro e wB ⟨rfl, hB⟩))
    go_ret2
    exact ⟨rfl, HBA.out.trans (hB.mono HBA.out.size)⟩
  | true =>
    simp only [if_true] at HC HE
    obtain rfl := HE.out
    clear HE
    go_enter Tryd.func57, Tryd.ntmps57
    go_wp2_with (first
      | (go_at_call 78
         refine HC.out.mono ?_
         rintro e wB ⟨⟨v, rfl, hov⟩, hB⟩
         have HB := Lib.hid hB
         obtain ⟨av, cv, e5, hatv, _, _⟩ := hov.at_
         rw [intsN_len, show ([q] : List Nat).length = 1 from rfl] at e5
         subst e5
         obtain ⟨jb, jo, rfl, hjb, hj0⟩ := hatv.int (i := 0) (by simp [intsN])
         rw [intsN_getD] at hj0
         simp only [List.getD_cons_zero, Nat.add_zero] at hj0
         clear hov hatv hB))
    go_ret2
    exact ⟨rfl, HBA.out.trans (HB.out.mono HBA.out.size)⟩
end Go.Proofs.YtjhbabgcoemecaaDoor
