/- The map of a graph of terms: from what a node is to its place; found and entered. -/
import Derived.Test.YtcckmkidmelbnaaGreatDoorWa
import Derived.Test.YtcckmkidmelbnaaGreatDoorK2
import Derived.WalkKit
namespace Go.Proofs.YtcckmkidmelbnaaGreatDoor
open Go Go.RowKit
open Go.Proofs.YtcckmkidmelbnaaGreatDoor.Cr

/-- the key of a node -/
def keyL (n : Nd) : List Value := [.int .u8 (Int.ofNat n.op), .int .u64 (Int.ofNat n.num), .int .i64 (Int.ofNat (n.args.getD 0 0)), .int .i64 (Int.ofNat (n.args.getD 1 0)), .int .i64 (Int.ofNat (n.args.getD 2 0))]
def keyV (n : Nd) : Value := .agg ⟨keyL n⟩
def ksK : List Nat := [0, 0, 0, 0, 0]
/-- nodes with the same key are the same -/
theorem args_eq : ∀ {l r : List Nat}, l.length = r.length → l.length ≤ 3 → l.getD 0 0 = r.getD 0 0 → l.getD 1 0 = r.getD 1 0 → l.getD 2 0 = r.getD 2 0 → l = r
  | [], [], _, _, _, _, _ => rfl
  | [], _ :: _, h, _, _, _, _ => by simp at h
  | _ :: _, [], h, _, _, _, _ => by simp at h
  | [a], [b], _, _, h0, _, _ => by simpa using h0
  | [a], _ :: _ :: _, h, _, _, _, _ => by simp at h
  | _ :: _ :: _, [b], h, _, _, _, _ => by simp at h
  | [a, b], [c, d], _, _, h0, h1, _ => by simp at h0 h1; rw [h0, h1]
  | [a, b], _ :: _ :: _ :: _, h, _, _, _, _ => by simp at h
  | _ :: _ :: _ :: _, [c, d], h, _, _, _, _ => by simp at h
  | [a, b, c], [d, e, f], _, _, h0, h1, h2 => by simp at h0 h1 h2; rw [h0, h1, h2]
  | _ :: _ :: _ :: _ :: _, _ :: _ :: _ :: _, _, h, _, _, _ => by simp at h
  | [a, b, c], _ :: _ :: _ :: _ :: _, h, _, _, _, _ => by simp at h
theorem arN_le (o : Nat) : arN o ≤ 3 := by unfold arN; (repeat' split) <;> omega
theorem leq1_nat (k : IntKind) (a b : Nat) (hk : keq k k = true) : leq1 0 (.int k (Int.ofNat a)) (.int k (Int.ofNat b)) = some (Nat.beq a b) := by
  show (bif Nat.beq 0 0 && keq k k then some (ieq (Int.ofNat a) (Int.ofNat b)) else none) = _
  rw [hk]; rfl
theorem keyEq_nd {n m : Nd} (hn : n.args.length = arN n.op) (hm : m.args.length = arN m.op) : keyEq ksK true (keyV n) (keyV m) = some (decide (m = n)) := by
  show leqE ksK (keyL n) (keyL m) = _
  obtain ⟨o, u, l⟩ := n
  obtain ⟨p, v, r⟩ := m
  simp only at hn hm
  have key : ∀ {a b : Nat}, (a = b) → Nat.beq a b = true := fun h => by subst h; exact Nat.beq_refl _
  have kno : ∀ {a b : Nat}, (a ≠ b) → Nat.beq a b = false := fun {a b} h => by
    cases hb : Nat.beq a b with
    | true => exact absurd (Nat.eq_of_beq_eq_true hb) h
    | false => rfl
  unfold ksK keyL
  simp only [leqE, leq1_nat .u8 _ _ rfl, leq1_nat .u64 _ _ rfl, leq1_nat .i64 _ _ rfl]
  by_cases e : (⟨p, v, r⟩ : Nd) = ⟨o, u, l⟩
  · simp only [Nd.mk.injEq] at e
    obtain ⟨rfl, rfl, rfl⟩ := e
    simp [Nat.beq_refl]
  · rw [decide_eq_false e]
    by_cases h1 : o = p
    · subst h1
      rw [key rfl]
      simp only
      by_cases h2 : u = v
      · subst h2
        rw [key rfl]
        simp only
        by_cases h3 : l.getD 0 0 = r.getD 0 0
        · rw [key h3]
          simp only
          by_cases h4 : l.getD 1 0 = r.getD 1 0
          · rw [key h4]
            simp only
            by_cases h5 : l.getD 2 0 = r.getD 2 0
            · exact absurd (by rw [args_eq (hn.trans hm.symm) (by rw [hn]; exact arN_le _) h3 h4 h5]) e
            · rw [kno h5]
          · rw [kno h4]
        · rw [kno h3]
      · rw [kno h2]
    · rw [kno h1]
/-- the entries of the map, the first being the i-th node -/
def mapOf : List Nd → Nat → List (Value × Value)
  | [], _ => []
  | n :: l, i => (keyV n, .int .i64 (Int.ofNat i)) :: mapOf l (i + 1)
theorem mapOf_snoc (n : Nd) : ∀ (l : List Nd) (i : Nat), mapOf (l ++ [n]) i = mapOf l i ++ [(keyV n, .int .i64 (Int.ofNat (i + l.length)))]
  | [], i => rfl
  | m :: l, i => by
    show _ :: mapOf (l ++ [n]) (i + 1) = _ :: (mapOf l (i + 1) ++ _)
    rw [mapOf_snoc n l (i + 1)]
    simp only [List.length_cons]
    rw [show i + 1 + l.length = i + (l.length + 1) by omega]
theorem kfind_nd {n : Nd} (hn : n.args.length = arN n.op) : ∀ (l : List Nd) (i j : Nat), (∀ m ∈ l, m.args.length = arN m.op) → kfind ksK true (keyV n) (mapOf l i) j = some (if n ∈ l then some (j + ndAt n l, .int .i64 (Int.ofNat (i + ndAt n l))) else none)
  | [], i, j, _ => by simp [mapOf, kfind]
  | m :: l, i, j, h => by
    have ih := kfind_nd hn l (i + 1) (j + 1) (fun x hx => h x (List.mem_cons_of_mem _ hx))
    have hk := keyEq_nd hn (h m (List.mem_cons_self ..))
    show (match keyEq ksK true (keyV n) (keyV m) with
      | none => none
      | some true => some (some (j, (.int .i64 (Int.ofNat i) : Value)))
      | some false => kfind ksK true (keyV n) (mapOf l (i + 1)) (Nat.succ j)) = _
    rw [hk]
    by_cases e : m = n
    · rw [decide_eq_true e]
      simp [e, ndAt]
    · rw [decide_eq_false e]
      simp only
      show kfind ksK true (keyV n) (mapOf l (i + 1)) (j + 1) = _
      rw [ih]
      have e1 : ndAt n (m :: l) = ndAt n l + 1 := by
        show (if m = n then 0 else ndAt n l + 1) = _
        rw [if_neg e]
      have e2 : (n ∈ m :: l) ↔ n ∈ l := by simp [Ne.symm e]
      rw [e1]
      by_cases hm : n ∈ l
      · rw [if_pos hm, if_pos (e2.2 hm)]
        congr 2
        · rw [show j + 1 + ndAt n l = j + (ndAt n l + 1) by omega, show i + 1 + ndAt n l = i + (ndAt n l + 1) by omega]
      · rw [if_neg hm, if_neg (fun h => hm (e2.1 h))]
/-- the facts of the map's type -/
structure GmT (P : Program) (t kt et : TypeId) (D : TypeDesc) (d : Nat) : Prop where
  und : P.underlying t = some (.map kt et)
  key : P.underlying kt = some D
  shape : shp P d kt = some ksK
  deep : d ≤ 10000
  agg : aggD D = true
  zero : ∀ w, (zeroValue et).run P w = .ok (.int .i64 0) w
/-- the map lies there: its entries are the nodes, in their order -/
structure GmAt (w : World) (mb : Nat) (L : List Nd) : Prop where
  ents : ∃ es clock, w.heap[mb]? = some (.map es clock) ∧ (es.toList.map fun e => (e.key, e.val)) = mapOf L 0
def idMu : Mu := ⟨fun _ => none, fun _ => 0⟩
theorem mapOf_keys : ∀ (l : List Nd) (i : Nat), (mapOf l i).map (·.1) = l.map keyV
  | [], _ => rfl
  | n :: l, i => by simp [mapOf, mapOf_keys l (i + 1)]
theorem VR.key (n : Nd) : VR idMu (keyV n) (keyV n) := VR.plain rfl
theorem LR.same_keys (l : List Nd) : LR idMu (l.map keyV) (l.map keyV) := ⟨rfl, fun j a b => by
  simp only [List.getElem_map]
  exact VR.key _⟩
theorem LR.same_vals : ∀ (l : List Nd) (i : Nat), LR idMu ((mapOf l i).map (·.2)) ((mapOf l i).map (·.2))
  | [], _ => LR.nil _
  | _ :: l, i => LR.cons (VR.int _ _) (LR.same_vals l (i + 1))
section
variable {P : Program} {t kt et : TypeId} {D : TypeDesc} {d : Nat} {w : World} {mb : Nat} {L : List Nd}
theorem GmAt.find (T : GmT P t kt et D d) {n : Nd} (hn : n.args.length = arN n.op) (hl : ∀ m ∈ L, m.args.length = arN m.op) {es : Array MapEntry} (he : (es.toList.map fun e => (e.key, e.val)) = mapOf L 0) :
    (Instr.findKey kt (keyV n) es.toList).run P w = .ok (if n ∈ L then some (ndAt n L, .int .i64 (Int.ofNat (ndAt n L))) else none) w := by
  have h1 : es.toList.map (·.key) = L.map keyV := by
    have := congrArg (List.map (·.1)) he
    rw [List.map_map, mapOf_keys] at this
    exact this
  have h2 : es.toList.map (·.val) = (mapOf L 0).map (·.2) := by
    have := congrArg (List.map (·.2)) he
    rw [List.map_map] at this
    exact this
  have hf := kfind_nd hn L 0 0 hl
  rw [Nat.zero_add] at hf
  obtain ⟨r', k1, k2⟩ := findKey_ok (P := P) (w := w) (μ := idMu) (es := mapOf L 0) (ents := es.toList) T.deep T.shape T.key (VR.key n) (by rw [mapOf_keys, h1]; exact LR.same_keys L) (by rw [h2]; exact LR.same_vals L 0) (by rw [T.agg]; exact hf)
  rw [k1]
  by_cases hm : n ∈ L
  · rw [if_pos hm] at k2 ⊢
    obtain ⟨v', rfl, hv⟩ := k2
    cases hv
    rfl
  · rw [if_neg hm] at k2 ⊢
    have : r' = none := k2
    rw [this]
theorem GmAt.check (T : GmT P t kt et D d) (n : Nd) (em : Bool) : (Instr.checkKey em 10000 kt (keyV n)).run P w = .ok () w :=
  chk_of (μ := idMu) T.deep T.shape T.key (VR.key n) (by rw [T.agg]; rfl)
theorem GmAt.lookup (T : GmT P t kt et D d) (h : GmAt w mb L) {n : Nd} (hn : n.args.length = arN n.op) (hl : ∀ m ∈ L, m.args.length = arN m.op) :
    (Instr.lookup t (.map (some mb)) (keyV n) true).run P w = .ok (.tuple #[.int .i64 (if n ∈ L then (ndAt n L : Int) else 0), .bool (decide (n ∈ L))]) w := by
  obtain ⟨es, clock, h1, h2⟩ := h.ents
  have hget : (getObj mb).run P w = .ok (.map es clock) w := by simp [getObj, Sem.run, h1]
  have := run_lookup (ok := true) T.und hget (GmAt.check T n) (GmAt.find T hn hl h2) (T.zero w)
  rw [this]
  by_cases hm : n ∈ L
  · rw [if_pos hm, if_pos hm, decide_eq_true hm]; rfl
  · rw [if_neg hm, if_neg hm, decide_eq_false hm]; rfl
/-- the map with one entry more -/
def putE (n : Nd) (L : List Nd) (es : Array MapEntry) (clock : Nat) : Obj := .map (es.push { key := keyV n, val := .int .i64 (L.length : Int), born := clock }) (clock + 1)
theorem GmAt.update (T : GmT P t kt et D d) {es : Array MapEntry} {clock : Nat} (h1 : w.heap[mb]? = some (.map es clock)) (h2 : (es.toList.map fun e => (e.key, e.val)) = mapOf L 0) {n : Nd} (hn : n.args.length = arN n.op) (hl : ∀ m ∈ L, m.args.length = arN m.op) (hno : n ∉ L) :
    (Instr.mapUpdate t (.map (some mb)) (keyV n) (.int .i64 (L.length : Int))).run P w = .ok () { w with heap := w.heap.setIfInBounds mb (putE n L es clock) } := by
  have hget : (getObj mb).run P w = .ok (.map es clock) w := by simp [getObj, Sem.run, h1]
  have hset : ∀ ob, (setObj mb ob).run P w = .ok () { w with heap := w.heap.setIfInBounds mb ob } := fun ob => by simp [setObj, Sem.run, h1]
  have hf := GmAt.find (w := w) T hn hl h2
  rw [if_neg hno] at hf
  simp only [Instr.mapUpdate, Sem.run_bind, run_underlying T.und, Result.andThen_ok, hget, GmAt.check T n false, hf, hset, putE]
theorem GmAt.put {es : Array MapEntry} {clock : Nat} (h1 : w.heap[mb]? = some (.map es clock)) (h2 : (es.toList.map fun e => (e.key, e.val)) = mapOf L 0) (n : Nd) : GmAt { w with heap := w.heap.setIfInBounds mb (putE n L es clock) } mb (L ++ [n]) := by
  have hlt : mb < w.heap.size := (Array.getElem?_eq_some_iff.1 h1).1
  refine ⟨es.push { key := keyV n, val := .int .i64 (L.length : Int), born := clock }, clock + 1, by show (w.heap.setIfInBounds mb _)[mb]? = _; rw [Array.getElem?_setIfInBounds_self_of_lt hlt]; rfl, ?_⟩
  rw [mapOf_snoc, ← h2]
  simp
end
end Go.Proofs.YtcckmkidmelbnaaGreatDoor
