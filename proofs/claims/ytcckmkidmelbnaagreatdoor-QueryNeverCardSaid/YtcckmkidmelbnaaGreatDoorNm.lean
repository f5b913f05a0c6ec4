/- The map of seen nodes: found and entered. -/
import Derived.Test.YtcckmkidmelbnaaGreatDoorNa
import Derived.Test.YtcckmkidmelbnaaGreatDoorK2
namespace Go.Proofs.YtcckmkidmelbnaaGreatDoor
open Go Go.RowKit
open Go.Proofs.YtcckmkidmelbnaaGreatDoor.Cr

def ndV (o u : Nat) (a : Option Addr) (n c : Nat) : Value := .agg #[.int .u8 (o : Int), .int .u64 (u : Int), .slice a n c]
/-- an entry of the map of seen nodes -/
def EntOk (L : List Nd) (x : Nat) (i : Nat) (e : MapEntry) : Prop := e.key = .int .i64 (x : Int) ∧ e.born = i ∧ ∃ a n c, e.val = ndV (L.getD x default).op (L.getD x default).num a n c
/-- entries for the nodes S, the first being the i-th -/
def EntsOk (L : List Nd) : List Nat → Nat → List MapEntry → Prop
  | [], _, [] => True
  | x :: S, i, e :: es => EntOk L x i e ∧ EntsOk L S (i + 1) es
  | _, _, _ => False
theorem EntsOk.len {L : List Nd} : ∀ {S : List Nat} {i : Nat} {es : List MapEntry}, EntsOk L S i es → es.length = S.length
  | [], _, [], _ => rfl
  | [], _, _ :: _, h => h.elim
  | _ :: _, _, [], h => h.elim
  | x :: S, i, e :: es, h => by simp [EntsOk.len (S := S) h.2]
theorem EntsOk.snoc {L : List Nd} {x : Nat} {e : MapEntry} : ∀ {S : List Nat} {i : Nat} {es : List MapEntry}, EntsOk L S i es → EntOk L x (i + S.length) e → EntsOk L (S ++ [x]) i (es ++ [e])
  | [], _, [], _, he => ⟨he, trivial⟩
  | [], _, _ :: _, h, _ => h.elim
  | _ :: _, _, [], h, _ => h.elim
  | y :: S, i, e' :: es, h, he => ⟨h.1, EntsOk.snoc h.2 (by rw [List.length_cons] at he; rwa [show i + 1 + S.length = i + (S.length + 1) by omega])⟩
theorem EntsOk.at_ {L : List Nd} : ∀ {S : List Nat} {i : Nat} {es : List MapEntry}, EntsOk L S i es → ∀ e ∈ es, ∃ j, j < S.length ∧ EntOk L (S.getD j 0) (i + j) e
  | [], _, [], _, e, he => by cases he
  | [], _, _ :: _, h, _, _ => h.elim
  | _ :: _, _, [], h, _, _ => h.elim
  | x :: S, i, e' :: es, h, e, he => by
    rcases List.mem_cons.1 he with rfl | he
    · exact ⟨0, by simp, h.1⟩
    · obtain ⟨j, hj, hh⟩ := EntsOk.at_ h.2 e he
      exact ⟨j + 1, by simpa using hj, by rw [show i + (j + 1) = i + 1 + j by omega]; simpa using hh⟩
theorem EntsOk.born {L : List Nd} : ∀ {S : List Nat} {i : Nat} {es : List MapEntry}, EntsOk L S i es → ∀ j e, es[j]? = some e → e.born = i + j
  | [], _, [], _, j, e, he => by simp at he
  | [], _, _ :: _, h, _, _, _ => h.elim
  | _ :: _, _, [], h, _, _, _ => h.elim
  | x :: S, i, e' :: es, h, j, e, he => by
    cases j with
    | zero => simp at he; subst he; exact h.1.2.1
    | succ j => simp at he; rw [EntsOk.born h.2 j e he]; omega
theorem sameNow_int (a b : Int) : Instr.sameNow (.int .i64) (.int .i64 a) (.int .i64 b) = some (a == b) := by simp [Instr.sameNow]
theorem findNow_ents {L : List Nd} (k : Nat) : ∀ {S : List Nat} {i : Nat} {es : List MapEntry} (j : Nat), EntsOk L S i es →
    (k ∈ S → ∃ m o u a n c, Instr.findNow (.int .i64) (.int .i64 (k : Int)) es j = some (some (m, ndV o u a n c))) ∧ (k ∉ S → Instr.findNow (.int .i64) (.int .i64 (k : Int)) es j = some none)
  | [], _, [], j, _ => ⟨fun h => (by cases h), fun _ => rfl⟩
  | [], _, _ :: _, _, h => h.elim
  | _ :: _, _, [], _, h => h.elim
  | x :: S, i, e :: es, j, h => by
    obtain ⟨⟨h1, h2, a, n, c, h3⟩, h4⟩ := h
    obtain ⟨ih1, ih2⟩ := findNow_ents k (S := S) (j + 1) h4
    by_cases e1 : k = x
    · subst e1
      have hs : Instr.sameNow (.int .i64) (.int .i64 (k : Int)) e.key = some true := by rw [h1, sameNow_int]; simp
      exact ⟨fun _ => ⟨j, (L.getD k default).op, (L.getD k default).num, a, n, c, by simp only [Instr.findNow, hs, h3]⟩, fun hn => absurd (List.mem_cons_self ..) hn⟩
    · have hs : Instr.sameNow (.int .i64) (.int .i64 (k : Int)) e.key = some false := by
        rw [h1, sameNow_int]
        have : ((k : Int) == (x : Int)) = false := by simp; omega
        rw [this]
      refine ⟨fun hm => ?_, fun hm => ?_⟩
      · obtain ⟨m, o, u, a', n', c', hh⟩ := ih1 (by rcases List.mem_cons.1 hm with r | r; exact absurd r e1; exact r)
        exact ⟨m, o, u, a', n', c', by simp only [Instr.findNow, hs]; exact hh⟩
      · simp only [Instr.findNow, hs]
        exact ih2 fun hh => hm (List.mem_cons_of_mem _ hh)
/-- the map of seen nodes lies there -/
structure SeenAt (w : World) (mb : Nat) (L : List Nd) (S : List Nat) : Prop where
  ents : ∃ es clock, w.heap[mb]? = some (.map es clock) ∧ clock = S.length ∧ EntsOk L S 0 es.toList
theorem SeenAt.frame {w w' : World} {mb : Nat} {L : List Nd} {S : List Nat} (h : SeenAt w mb L S) (hk : w'.heap[mb]? = w.heap[mb]?) : SeenAt w' mb L S := by
  obtain ⟨es, c, h1, h2⟩ := h.ents
  exact ⟨es, c, hk.trans h1, h2⟩
theorem und137 : Tryz.prog.underlying 137 = some (.map 3 141) := by kernel_rfl
theorem zero141 (w : World) : (zeroValue 141).run Tryz.prog w = .ok (.agg #[.int .u8 0, .int .u64 0, .slice none 0 0]) w := by kernel_rfl
theorem check_int (em : Bool) (k : Int) (w : World) : (Instr.checkKey em 10000 3 (.int .i64 k)).run Tryz.prog w = .ok () w :=
  chk_of (μ := idMu) (d := 1) (ks := [0]) (by decide) (by kernel_rfl) Tryz.underlying3 (VR.int _ _) (by rfl)
theorem find_int {w : World} {k : Int} {es : List MapEntry} {r : Option (Nat × Value)} (h : Instr.findNow (.int .i64) (.int .i64 k) es 0 = some r) : (Instr.findKey 3 (.int .i64 k) es).run Tryz.prog w = .ok r w := by
  simp [Instr.findKey, run_underlying Tryz.underlying3, h]
theorem SeenAt.lookup {w : World} {mb : Nat} {L : List Nd} {S : List Nat} (h : SeenAt w mb L S) (k : Nat) :
    ∃ o u a n c, (Instr.lookup 137 (.map (some mb)) (.int .i64 (k : Int)) true).run Tryz.prog w = .ok (.tuple #[.agg #[.int .u8 ((o : Nat) : Int), .int .u64 ((u : Nat) : Int), .slice a n c], .bool (decide (k ∈ S))]) w := by
  obtain ⟨es, clock, h1, h2, h3⟩ := h.ents
  have hget : (getObj mb).run Tryz.prog w = .ok (.map es clock) w := by simp [getObj, Sem.run, h1]
  obtain ⟨f1, f2⟩ := findNow_ents k 0 h3
  by_cases hm : k ∈ S
  · obtain ⟨m, o, u, a, n, c, hf⟩ := f1 hm
    refine ⟨o, u, a, n, c, ?_⟩
    rw [run_lookup (ok := true) und137 hget (fun em => check_int em k w) (find_int hf) (zero141 w), decide_eq_true hm]
    rfl
  · refine ⟨0, 0, none, 0, 0, ?_⟩
    rw [run_lookup (ok := true) und137 hget (fun em => check_int em k w) (find_int (f2 hm)) (zero141 w), decide_eq_false hm]
    rfl
/-- the map with one entry more -/
def putS (k : Nat) (v : Value) (es : Array MapEntry) (clock : Nat) : Obj := .map (es.push { key := .int .i64 (k : Int), val := v, born := clock }) (clock + 1)
theorem SeenAt.update {w : World} {mb : Nat} {L : List Nd} {S : List Nat} (h : SeenAt w mb L S) {k : Nat} (hno : k ∉ S) (a : Option Addr) (n c : Nat) :
    ∃ ob, (Instr.mapUpdate 137 (.map (some mb)) (.int .i64 (k : Int)) (.agg #[.int .u8 ((L.getD k default).op : Int), .int .u64 ((L.getD k default).num : Int), .slice a n c])).run Tryz.prog w = .ok () { w with heap := w.heap.setIfInBounds mb ob } ∧
      ∀ w', w'.heap = w.heap.setIfInBounds mb ob → SeenAt w' mb L (S ++ [k]) := by
  obtain ⟨es, clock, h1, h2, h3⟩ := h.ents
  have hget : (getObj mb).run Tryz.prog w = .ok (.map es clock) w := by simp [getObj, Sem.run, h1]
  have hset : ∀ ob, (setObj mb ob).run Tryz.prog w = .ok () { w with heap := w.heap.setIfInBounds mb ob } := fun ob => by simp [setObj, Sem.run, h1]
  have hf := find_int (w := w) ((findNow_ents k 0 h3).2 hno)
  refine ⟨putS k (ndV (L.getD k default).op (L.getD k default).num a n c) es clock, ?_, fun w' hw' => ?_⟩
  · simp only [Instr.mapUpdate, Sem.run_bind, run_underlying und137, Result.andThen_ok, hget, check_int, hf, hset, putS]
    rfl
  · have hlt : mb < w.heap.size := (Array.getElem?_eq_some_iff.1 h1).1
    refine ⟨_, _, by rw [hw', Array.getElem?_setIfInBounds_self_of_lt hlt]; rfl, by rw [h2]; simp, ?_⟩
    rw [Array.toList_push]
    refine h3.snoc ⟨rfl, by simp [h2], a, n, c, rfl⟩
end Go.Proofs.YtcckmkidmelbnaaGreatDoor
