/- A machine for closed runs (part 13): equality of keys, structs and arrays. (and what follows on it). -/
import Derived.Test.YtekbkaipdmklpaaGreatDoorK1
import Derived.Test.YtekbkaipdmklpaaGreatDoorK2
import Derived.Laws.StructEq
import Derived.Laws.BytesString
import Derived.Maps.RangeRun
namespace Go.Proofs.YtekbkaipdmklpaaGreatDoor
namespace Cr
open Go Go.RowKit

/-- kinds of cells that are compared: 0 numbers, 1 truth values, 2 strings -/
def leq1 (c : Nat) (x y : Value) : Option Bool :=
  match x with
  | .int k a => match y with
    | .int k' b => bif Nat.beq c 0 && keq k k' then some (ieq a b) else none
    | _ => none
  | .bool a => match y with
    | .bool b => bif Nat.beq c 1 then some (beqB a b) else none
    | _ => none
  | .string a => match y with
    | .string b => bif Nat.beq c 2 then some (b8eq a.data.toList b.data.toList) else none
    | _ => none
  | _ => none
def leqK : List Nat → List Value → List Value → Option Bool
  | [], _, _ => some true
  | c :: ks, x :: l, y :: r => match leq1 c x y with
    | some true => leqK ks l r
    | o => o
  | _ :: _, _, _ => none
theorem leq1_scalar {μ : Mu} {c : Nat} {x y x' y' : Value} {r : Bool} (h : leq1 c x y = some r) (hx : VR μ x x') (hy : VR μ y y') : x' = x ∧ y' = y := by
  cases hx <;> cases hy <;> first | exact ⟨rfl, rfl⟩ | (simp [leq1] at h)
theorem leqK_scalar {μ : Mu} : ∀ {ks : List Nat} {l r l' r' : List Value} {b : Bool}, leqK ks l r = some b → LR μ l l' → LR μ r r' → leqK ks l' r' = some b
  | [], _, _, _, _, _, h, _, _ => h
  | c :: ks, [], _, _, _, _, h, _, _ => by simp [leqK] at h
  | c :: ks, _ :: _, [], _, _, _, h, _, _ => by simp [leqK] at h
  | c :: ks, x :: l, y :: r, l', r', b, h, hl, hr => by
    obtain ⟨x', l2, rfl, hx, hl2⟩ := hl.cons_inv
    obtain ⟨y', r2, rfl, hy, hr2⟩ := hr.cons_inv
    simp only [leqK] at h ⊢
    cases h1 : leq1 c x y with
    | none => rw [h1] at h; cases h
    | some d =>
      obtain ⟨rfl, rfl⟩ := leq1_scalar h1 hx hy
      rw [h1] at h ⊢
      cases d with
      | false => exact h
      | true => exact leqK_scalar h hl2 hr2
theorem ieq_iff (a b : Int) : ieq a b = (a == b) := by
  cases h : ieq a b with
  | true => rw [ieq_eq h]; simp
  | false =>
    cases h2 : (a == b) with
    | false => rfl
    | true =>
      have : a = b := by simpa using h2
      subst this
      have : ieq a a = true := by cases a <;> simp [ieq]
      rw [this] at h; cases h
theorem b8eq_refl : ∀ l, b8eq l l = true
  | [] => rfl
  | a :: l => by simp [b8eq, b8eq_refl l]
theorem b8eq_iff (a b : ByteArray) : b8eq a.data.toList b.data.toList = (a == b) := by
  rw [beq_toListBytes, ByteArray.toList_eq, ByteArray.toList_eq]
  generalize a.data.toList = x
  generalize b.data.toList = y
  cases h : b8eq x y with
  | true => rw [b8eq_eq h]; simp
  | false =>
    cases h2 : (x == y) with
    | false => rfl
    | true =>
      have : x = y := by simpa using h2
      subst this
      rw [b8eq_refl] at h; cases h
theorem beqB_iff (a b : Bool) : beqB a b = (a == b) := by cases a <;> cases b <;> rfl

theorem leqK_append : ∀ (a b : List Nat) (l r : List Value), leqK (a ++ b) l r = match leqK a l r with
    | some true => leqK b (l.drop a.length) (r.drop a.length)
    | o => o
  | [], b, l, r => by simp [leqK]
  | c :: a, b, [], r => by simp [leqK]
  | c :: a, b, _ :: _, [] => by simp [leqK]
  | c :: a, b, x :: l, y :: r => by
    simp only [List.cons_append, leqK]
    cases leq1 c x y with
    | none => rfl
    | some d =>
      cases d with
      | false => rfl
      | true => exact leqK_append a b l r
theorem leqK_take : ∀ (ks : List Nat) (l r : List Value), leqK ks (l.take ks.length) (r.take ks.length) = leqK ks l r
  | [], _, _ => rfl
  | c :: ks, [], _ => by simp [leqK]
  | c :: ks, _ :: _, [] => by simp [leqK]
  | c :: ks, x :: l, y :: r => by simp only [List.length_cons, List.take_succ_cons, leqK, leqK_take ks l r]

/-! ### types that are compared cell by cell -/
def shpF (g : TypeId → Option (List Nat)) (sz : TypeId → Option Nat) : List Field → List Nat → Option (List Nat)
  | [], acc => some acc
  | f :: fs, acc => bif f.name == "_" then none else bif Nat.beq f.offset acc.length then
      match g f.type with
      | none => none
      | some ks => match sz f.type with
        | none => none
        | some m => bif Nat.beq m ks.length then shpF g sz fs (acc ++ ks) else none
    else none
def szOf (P : Program) (t : TypeId) : Option Nat := (P.info? t).map (·.size)
def repK (ks : List Nat) : Nat → List Nat
  | 0 => []
  | n + 1 => ks ++ repK ks n
def shp (P : Program) : Nat → TypeId → Option (List Nat)
  | 0, _ => none
  | d + 1, t => match P.underlying t with
    | some (.int _) => some [0]
    | some .bool => some [1]
    | some .string => some [2]
    | some (.struct fs) => bif P.stoodInHeld t then none else shpF (shp P d) (szOf P) fs.toList []
    | some (.array n e) => match shp P d e with
      | none => none
      | some ks => match szOf P e with
        | none => none
        | some m => bif Nat.beq m ks.length then some (repK ks n) else none
    | _ => none
/-- the value of a type whose cells these are -/
def tv (d : TypeDesc) (xs : List Value) : Value := bif aggD d then .agg ⟨xs⟩ else xs.headD undef
theorem run_part {P : Program} {w : World} {t : TypeId} {d : TypeDesc} {m : Nat} (hu : P.underlying t = some d) (hs : szOf P t = some m) {xs : List Value} {off : Nat} (h1 : aggD d = false → off < xs.length) :
    (part t ⟨xs⟩ off).run P w = .ok (tv d ((xs.drop off).take m)) w ∨ (aggD d = false ∧ m = 0) := by
  unfold szOf at hs
  cases hi : P.info? t with
  | none => rw [hi] at hs; cases hs
  | some ti =>
    rw [hi] at hs
    simp only [Option.map_some, Option.some.injEq] at hs
    cases hd : aggD d with
    | true =>
      refine .inl ?_
      simp only [part, Sem.run_bind, run_isAgg hu, Result.andThen_ok, hd, if_true, run_sizeOf hi, Sem.run_pure, tv, cond_true, hs]
      simp [List.take_drop, Nat.add_comm]
    | false =>
      by_cases hm : m = 0
      · exact .inr ⟨rfl, hm⟩
      · refine .inl ?_
        have hlt := h1 hd
        simp only [part, Sem.run_bind, run_isAgg hu, Result.andThen_ok, hd, Bool.false_eq_true, if_false, tv, cond_false]
        obtain ⟨m', rfl⟩ := Nat.exists_eq_succ_of_ne_zero hm
        rw [List.drop_eq_getElem_cons hlt, List.take_succ_cons]
        simp [hlt]
theorem leqK_len {ks : List Nat} {l r : List Value} {b : Bool} (hn : ks.length ≠ 0) (h : leqK ks l r = some b) : 0 < l.length ∧ 0 < r.length := by
  cases ks with
  | nil => simp at hn
  | cons c ks =>
    cases l with
    | nil => simp [leqK] at h
    | cons x l => cases r with
      | nil => simp [leqK] at h
      | cons y r => simp
theorem shp_one {P : Program} {d : Nat} {t : TypeId} {ks : List Nat} {D : TypeDesc} (h : shp P d t = some ks) (hu : P.underlying t = some D) (hd : aggD D = false) : ks.length = 1 := by
  cases d with
  | zero => cases h
  | succ d =>
    simp only [shp, hu] at h
    cases D <;> simp [aggD] at hd <;> simp at h <;> rw [← h] <;> rfl
/-- what is asked of the fields -/
def EqAt (P : Program) (w : World) (d d' : Nat) : Prop := ∀ (t : TypeId) (ks : List Nat) (D : TypeDesc), shp P d t = some ks → P.underlying t = some D → ∀ (xs ys : List Value) (r : Bool), leqK ks xs ys = some r →
  (Op.equalIn d' t (tv D xs) (tv D ys)).run P w = .ok r w
theorem shpF_cons {g : TypeId → Option (List Nat)} {sz : TypeId → Option Nat} {f : Field} {fs : List Field} {acc ks : List Nat} (h : shpF g sz (f :: fs) acc = some ks) :
    f.name ≠ "_" ∧ f.offset = acc.length ∧ ∃ fk, g f.type = some fk ∧ sz f.type = some fk.length ∧ shpF g sz fs (acc ++ fk) = some ks := by
  simp only [shpF] at h
  cases h1 : (f.name == "_") with
  | true => rw [h1] at h; cases h
  | false =>
    rw [h1, cond_false] at h
    cases h2 : Nat.beq f.offset acc.length with
    | false => rw [h2] at h; cases h
    | true =>
      rw [h2, cond_true] at h
      cases h3 : g f.type with
      | none => rw [h3] at h; cases h
      | some fk =>
        rw [h3] at h
        simp only at h
        cases h4 : sz f.type with
        | none => rw [h4] at h; cases h
        | some m =>
          rw [h4] at h
          simp only at h
          cases h5 : Nat.beq m fk.length with
          | false => rw [h5] at h; cases h
          | true =>
            rw [h5, cond_true] at h
            exact ⟨by simpa using h1, Nat.eq_of_beq_eq_true h2, fk, rfl, by rw [Nat.eq_of_beq_eq_true h5], h⟩
theorem shpF_pre {g : TypeId → Option (List Nat)} {sz : TypeId → Option Nat} : ∀ {fs : List Field} {acc ks : List Nat}, shpF g sz fs acc = some ks → ∃ r, ks = acc ++ r
  | [], acc, ks, h => by simp only [shpF, Option.some.injEq] at h; exact ⟨[], by simp [h]⟩
  | f :: fs, acc, ks, h => by
    obtain ⟨_, _, fk, _, _, h'⟩ := shpF_cons h
    obtain ⟨r, e⟩ := shpF_pre h'
    exact ⟨fk ++ r, by rw [e]; simp⟩
theorem shp_under {P : Program} {d : Nat} {t : TypeId} {ks : List Nat} (h : shp P d t = some ks) : ∃ D, P.underlying t = some D := by
  cases hu : P.underlying t with
  | some D => exact ⟨D, rfl⟩
  | none =>
    cases d with
    | zero => cases h
    | succ d => simp [shp, hu] at h

theorem eqFields_ok {P : Program} {w : World} {d d' : Nat} (ih : EqAt P w d d') : ∀ (fs : List Field) (acc ks : List Nat) (xs ys : List Value) (r : Bool), shpF (shp P d) (szOf P) fs acc = some ks → ∀ rest, ks = acc ++ rest →
    leqK rest (xs.drop acc.length) (ys.drop acc.length) = some r → (Op.eqFields d' ⟨xs⟩ ⟨ys⟩ fs).run P w = .ok r w
  | [], acc, ks, xs, ys, r, h, rest, e, hl => by
    simp only [shpF, Option.some.injEq] at h
    subst h
    have : rest = [] := by simpa using e
    subst this
    simp only [leqK, Option.some.injEq] at hl
    subst hl
    rfl
  | f :: fs, acc, ks, xs, ys, r, h, rest, e, hl => by
    obtain ⟨hname, hoff, fk, h3, h4, h'⟩ := shpF_cons h
    obtain ⟨r2, e2⟩ := shpF_pre h'
    obtain ⟨D, hD⟩ := shp_under h3
    have e3 : rest = fk ++ r2 := by
      rw [e] at e2
      simpa using e2
    subst e3
    rw [leqK_append] at hl
    obtain ⟨c, hc⟩ : ∃ c, leqK fk (xs.drop acc.length) (ys.drop acc.length) = some c := by
      cases hc : leqK fk (xs.drop acc.length) (ys.drop acc.length) with
      | none => rw [hc] at hl; cases hl
      | some c => exact ⟨c, rfl⟩
    have hlen : aggD D = false → 0 < (xs.drop acc.length).length ∧ 0 < (ys.drop acc.length).length := fun hag => leqK_len (by rw [shp_one h3 hD hag]; simp) hc
    have p1 := (run_part (P := P) (w := w) hD h4 (xs := xs) (off := acc.length) (fun h => by have := (hlen h).1; rw [List.length_drop] at this; omega)).resolve_right (fun ⟨q1, q2⟩ => by have := shp_one h3 hD q1; omega)
    have p2 := (run_part (P := P) (w := w) hD h4 (xs := ys) (off := acc.length) (fun h => by have := (hlen h).2; rw [List.length_drop] at this; omega)).resolve_right (fun ⟨q1, q2⟩ => by have := shp_one h3 hD q1; omega)
    have he := ih f.type fk D h3 hD _ _ c ((leqK_take fk _ _).trans hc)
    rw [hc] at hl
    simp only [Op.eqFields, hname, ne_eq, not_false_eq_true, if_true, Sem.run_bind, hoff]
    rw [p1]
    simp only [Result.andThen_ok]
    rw [p2]
    simp only [Result.andThen_ok]
    rw [he]
    simp only [Result.andThen_ok]
    cases c with
    | false =>
      simp only [Option.some.injEq] at hl
      subst hl
      rfl
    | true =>
      simp only [List.drop_drop] at hl
      have := eqFields_ok ih fs (acc ++ fk) ks xs ys r h' r2 e2 (by rw [List.length_append]; exact hl)
      simpa using this

/-- the loop over the elements of an array -/
def eqElems (d : Nat) (e : TypeId) (n : Nat) (xs ys : Array Value) : List Nat → Sem Bool
  | [] => pure true
  | i :: l => do
    let a ← part e xs (i * n)
    let b ← part e ys (i * n)
    let r ← Op.equalIn d e a b
    if (!r) = true then pure false else eqElems d e n xs ys l
theorem run_equalIn_array {P : Program} (w : World) (d : Nat) (t e : TypeId) (len m : Nat) (xs ys : Array Value) (ht : P.underlying t = some (.array len e)) (hs : szOf P e = some m) :
    (Op.equalIn (d + 1) t (.agg xs) (.agg ys)).run P w = (eqElems d e m xs ys (List.range' 0 len)).run P w := by
  unfold szOf at hs
  cases hi : P.info? e with
  | none => rw [hi] at hs; cases hs
  | some ti =>
    rw [hi] at hs
    simp only [Option.map_some, Option.some.injEq] at hs
    simp only [Op.equalIn, Sem.run_bind, run_underlying ht, Result.andThen_ok, run_sizeOf hi, hs]
    rw [Std.Legacy.Range.forIn_eq_forIn_range']
    have hsz : ([0:len] : Std.Legacy.Range).size = len := by simp [Std.Legacy.Range.size]
    rw [hsz]
    show _ = (eqElems d e m xs ys (List.range' 0 len 1)).run P w
    generalize List.range' 0 len 1 = l
    induction l generalizing w with
    | nil => simp [eqElems]
    | cons i l ih =>
      simp only [List.forIn_cons, eqElems, Sem.run_bind]
      generalize (part e xs (i * m)).run P w = r1
      cases r1 with
      | ok a w1 =>
        simp only [Result.andThen_ok]
        generalize (part e ys (i * m)).run P w1 = r2
        cases r2 with
        | ok b w2 =>
          simp only [Result.andThen_ok]
          generalize (Op.equalIn d e a b).run P w2 = r3
          cases r3 with
          | ok r w3 =>
            cases r
            · simp only [Result.andThen_ok, Bool.not_false, if_true, Sem.run_pure]
            · simp only [Result.andThen_ok, Bool.not_true, Bool.false_eq_true, if_false, Sem.run_pure]
              exact ih w3
          | halt x w3 => simp [Result.andThen]
        | halt x w2 => simp [Result.andThen]
      | halt x w1 => simp [Result.andThen]
theorem eqElems_ok {P : Program} {w : World} {d d' : Nat} {e : TypeId} {D : TypeDesc} {ks : List Nat} (hk : shp P d e = some ks) (hD : P.underlying e = some D) (hs : szOf P e = some ks.length) (ih : EqAt P w d d') :
    ∀ (k i : Nat) (xs ys : List Value) (r : Bool), leqK (repK ks k) (xs.drop (i * ks.length)) (ys.drop (i * ks.length)) = some r → (eqElems d' e ks.length ⟨xs⟩ ⟨ys⟩ (List.range' i k)).run P w = .ok r w
  | 0, i, xs, ys, r, h => by
    simp only [repK, leqK, Option.some.injEq] at h
    subst h
    rfl
  | k + 1, i, xs, ys, r, h => by
    simp only [repK] at h
    rw [leqK_append] at h
    rw [List.range'_succ]
    obtain ⟨c, hc⟩ : ∃ c, leqK ks (xs.drop (i * ks.length)) (ys.drop (i * ks.length)) = some c := by
      cases hc : leqK ks (xs.drop (i * ks.length)) (ys.drop (i * ks.length)) with
      | none => rw [hc] at h; cases h
      | some c => exact ⟨c, rfl⟩
    have hlen : aggD D = false → 0 < (xs.drop (i * ks.length)).length ∧ 0 < (ys.drop (i * ks.length)).length := fun hag => leqK_len (by rw [shp_one hk hD hag]; simp) hc
    have p1 := (run_part (P := P) (w := w) hD hs (xs := xs) (off := i * ks.length) (fun h => by have := (hlen h).1; rw [List.length_drop] at this; omega)).resolve_right (fun ⟨q1, q2⟩ => by have := shp_one hk hD q1; omega)
    have p2 := (run_part (P := P) (w := w) hD hs (xs := ys) (off := i * ks.length) (fun h => by have := (hlen h).2; rw [List.length_drop] at this; omega)).resolve_right (fun ⟨q1, q2⟩ => by have := shp_one hk hD q1; omega)
    have he := ih e ks D hk hD _ _ c ((leqK_take ks _ _).trans hc)
    rw [hc] at h
    simp only [eqElems, Sem.run_bind]
    rw [p1]
    simp only [Result.andThen_ok]
    rw [p2]
    simp only [Result.andThen_ok]
    rw [he]
    simp only [Result.andThen_ok]
    cases c with
    | false =>
      simp only [Option.some.injEq] at h
      subst h
      rfl
    | true =>
      simp only [List.drop_drop] at h
      rw [← Nat.succ_mul] at h
      have := eqElems_ok hk hD hs ih k (i + 1) xs ys r h
      simpa using this
/-- comparing values of such a type -/
theorem eqIn_ok {P : Program} {w : World} : ∀ (d d' : Nat), d ≤ d' → EqAt P w d d'
  | 0, _, _ => fun _ _ _ h => by cases h
  | d + 1, 0, hd => by omega
  | d + 1, d' + 1, hd => by
    intro t ks D h hu xs ys r hl
    have hih := eqIn_ok (P := P) (w := w) d d' (by omega)
    simp only [shp, hu] at h
    have scal : ∀ {c : Nat}, ks = [c] → (∀ x y, leq1 c x y = some r → (Op.equalIn (d' + 1) t x y).run P w = .ok r w) → aggD D = false → (Op.equalIn (d' + 1) t (tv D xs) (tv D ys)).run P w = .ok r w := by
      intro c hn hx hag
      subst hn
      cases xs with
      | nil => simp [leqK] at hl
      | cons x xs => cases ys with
        | nil => simp [leqK] at hl
        | cons y ys =>
          have h1 : leq1 c x y = some r := by
            simp only [leqK] at hl
            cases h1 : leq1 c x y with
            | none => rw [h1] at hl; cases hl
            | some c =>
              rw [h1] at hl
              cases c <;> exact hl
          have e : ∀ z (zs : List Value), tv D (z :: zs) = z := fun z zs => by simp [tv, hag]
          rw [e, e]
          exact hx x y h1
    cases D with
    | int k =>
      simp only [Option.some.injEq] at h
      refine scal h.symm (fun x y h1 => ?_) rfl
      cases x <;> cases y <;> simp only [leq1] at h1 <;> try cases h1
      rename_i k1 a k2 b
      cases hk : keq k1 k2 with
      | false => rw [hk] at h1; cases h1
      | true =>
        rw [hk] at h1
        have h1' : ieq a b = r := by simpa using h1
        have := keq_eq hk
        subst this
        rw [← h1', ieq_iff]
        exact run_equalIn_int w d' t k1 k a b hu
    | bool =>
      simp only [Option.some.injEq] at h
      refine scal h.symm (fun x y h1 => ?_) rfl
      cases x <;> cases y <;> simp only [leq1] at h1 <;> try cases h1
      rename_i a b
      rw [beqB_iff]
      exact run_eqIn_bool d' hu a b w
    | string =>
      simp only [Option.some.injEq] at h
      refine scal h.symm (fun x y h1 => ?_) rfl
      cases x <;> cases y <;> simp only [leq1] at h1 <;> try cases h1
      rename_i a b
      rw [b8eq_iff]
      simp [Op.equalIn, run_underlying hu]
    | struct fs =>
      simp only at h
      cases hst : P.stoodInHeld t with
      | true => rw [hst] at h; cases h
      | false =>
        rw [hst, cond_false] at h
        have hfs : P.fieldsOf t = fs := by simp [Program.fieldsOf, hu]
        show (Op.equalIn (d' + 1) t (.agg ⟨xs⟩) (.agg ⟨ys⟩)).run P w = .ok r w
        rw [run_equalIn_struct w d' t _ _ (by rw [hfs]; exact hu) hst, hfs]
        exact eqFields_ok hih fs.toList [] ks _ _ r h ks rfl (by simpa using hl)
    | array k e =>
      simp only at h
      cases h1 : shp P d e with
      | none => rw [h1] at h; cases h
      | some ek =>
        rw [h1] at h
        simp only at h
        cases h2 : szOf P e with
        | none => rw [h2] at h; cases h
        | some m =>
          rw [h2] at h
          simp only at h
          cases h3 : Nat.beq m ek.length with
          | false => rw [h3] at h; cases h
          | true =>
            rw [h3] at h
            simp only [cond_true, Option.some.injEq] at h
            have := Nat.eq_of_beq_eq_true h3
            subst this
            obtain ⟨D, hD⟩ := shp_under h1
            show (Op.equalIn (d' + 1) t (.agg ⟨xs⟩) (.agg ⟨ys⟩)).run P w = .ok r w
            rw [run_equalIn_array w d' t e k ek.length _ _ hu h2]
            subst h
            exact eqElems_ok h1 hD h2 hih k 0 _ _ r (by simpa using hl)
    | _ => cases h
end Cr
end Go.Proofs.YtekbkaipdmklpaaGreatDoor
namespace Go.Proofs.YtekbkaipdmklpaaGreatDoor
namespace Cr
open Go Go.RowKit

/-! ### keys are checked -/
def chkElems (empty : Bool) (d : Nat) (e : TypeId) (n : Nat) (xs : Array Value) : List Nat → Sem Unit
  | [] => pure ()
  | i :: l => do
    let a ← part e xs (i * n)
    Instr.checkKey empty d e a
    chkElems empty d e n xs l
def chkFields (empty : Bool) (d : Nat) (xs : Array Value) : List Field → Sem Unit
  | [] => pure ()
  | f :: fs =>
    if f.name ≠ "_" then do
      let a ← part f.type xs f.offset
      Instr.checkKey empty d f.type a
      chkFields empty d xs fs
    else chkFields empty d xs fs
theorem run_checkKey_struct {P : Program} (w : World) (empty : Bool) (d : Nat) (t : TypeId) (fs : Array Field) (xs : Array Value) (ht : P.underlying t = some (.struct fs)) :
    (Instr.checkKey empty (d + 1) t (.agg xs)).run P w = (chkFields empty d xs fs.toList).run P w := by
  simp only [Instr.checkKey, Sem.run_bind, run_underlying ht, Result.andThen_ok]
  rw [← Array.forIn_toList]
  generalize fs.toList = fs
  clear ht
  induction fs generalizing w with
  | nil => simp [chkFields]
  | cons f fs ih =>
    simp only [List.forIn_cons, chkFields, Sem.run_bind, Sem.run_ite]
    split
    · generalize (part f.type xs f.offset).run P w = r1
      cases r1 with
      | ok a w1 =>
        simp only [Result.andThen_ok]
        generalize (Instr.checkKey empty d f.type a).run P w1 = r2
        cases r2 with
        | ok b w2 =>
          simp only [Result.andThen_ok, Sem.run_pure]
          exact ih w2
        | halt x w2 => simp [Result.andThen]
      | halt x w1 => simp [Result.andThen]
    · simp only [Sem.run_pure, Result.andThen_ok]
      exact ih w
theorem run_checkKey_array {P : Program} (w : World) (empty : Bool) (d : Nat) (t e : TypeId) (len m : Nat) (xs : Array Value) (ht : P.underlying t = some (.array len e)) (hs : szOf P e = some m) :
    (Instr.checkKey empty (d + 1) t (.agg xs)).run P w = (chkElems empty d e m xs (List.range' 0 len)).run P w := by
  unfold szOf at hs
  cases hi : P.info? e with
  | none => rw [hi] at hs; cases hs
  | some ti =>
    rw [hi] at hs
    simp only [Option.map_some, Option.some.injEq] at hs
    simp only [Instr.checkKey, Sem.run_bind, run_underlying ht, Result.andThen_ok]
    rw [Std.Legacy.Range.forIn_eq_forIn_range']
    have hsz : ([0:len] : Std.Legacy.Range).size = len := by simp [Std.Legacy.Range.size]
    rw [hsz]
    show _ = (chkElems empty d e m xs (List.range' 0 len 1)).run P w
    generalize List.range' 0 len 1 = l
    induction l generalizing w with
    | nil => simp [chkElems]
    | cons i l ih =>
      simp only [List.forIn_cons, chkElems, Sem.run_bind, run_sizeOf hi, Result.andThen_ok, hs]
      generalize (part e xs (i * m)).run P w = r1
      cases r1 with
      | ok a w1 =>
        simp only [Result.andThen_ok]
        generalize (Instr.checkKey empty d e a).run P w1 = r2
        cases r2 with
        | ok b w2 =>
          simp only [Result.andThen_ok, Sem.run_pure]
          exact ih w2
        | halt x w2 => simp [Result.andThen]
      | halt x w1 => simp [Result.andThen]
def ChkAt (P : Program) (w : World) (empty : Bool) (d d' : Nat) : Prop := ∀ (t : TypeId) (ks : List Nat) (D : TypeDesc), shp P d t = some ks → P.underlying t = some D → ∀ xs : List Value, ks.length ≤ xs.length →
  (Instr.checkKey empty d' t (tv D (xs.take ks.length))).run P w = .ok () w
theorem chkFields_ok {P : Program} {w : World} {empty : Bool} {d d' : Nat} (ih : ChkAt P w empty d d') : ∀ (fs : List Field) (acc ks : List Nat) (xs : List Value), shpF (shp P d) (szOf P) fs acc = some ks → ks.length ≤ xs.length →
    (chkFields empty d' ⟨xs⟩ fs).run P w = .ok () w
  | [], _, _, _, _, _ => rfl
  | f :: fs, acc, ks, xs, h, hl => by
    obtain ⟨hname, hoff, fk, h3, h4, h'⟩ := shpF_cons h
    obtain ⟨r2, e2⟩ := shpF_pre h'
    obtain ⟨D, hD⟩ := shp_under h3
    have hk : acc.length + fk.length ≤ xs.length := by rw [e2] at hl; simp at hl; omega
    have p1 := (run_part (P := P) (w := w) hD h4 (xs := xs) (off := acc.length) (fun h => by have := shp_one h3 hD h; omega)).resolve_right (fun ⟨q1, q2⟩ => by have := shp_one h3 hD q1; omega)
    have he := ih f.type fk D h3 hD (xs.drop acc.length) (by rw [List.length_drop]; omega)
    simp only [chkFields, hname, ne_eq, not_false_eq_true, if_true, Sem.run_bind, hoff]
    rw [p1]
    simp only [Result.andThen_ok]
    rw [he]
    simp only [Result.andThen_ok]
    exact chkFields_ok ih fs _ ks xs h' hl
theorem repK_length (ks : List Nat) : ∀ n, (repK ks n).length = n * ks.length
  | 0 => by simp [repK]
  | n + 1 => by simp [repK, repK_length ks n, Nat.succ_mul, Nat.add_comm]
theorem chkElems_ok {P : Program} {w : World} {empty : Bool} {d d' : Nat} {e : TypeId} {D : TypeDesc} {ks : List Nat} (hk : shp P d e = some ks) (hD : P.underlying e = some D) (hs : szOf P e = some ks.length) (ih : ChkAt P w empty d d') :
    ∀ (k i : Nat) (xs : List Value), (i + k) * ks.length ≤ xs.length → (chkElems empty d' e ks.length ⟨xs⟩ (List.range' i k)).run P w = .ok () w
  | 0, _, _, _ => rfl
  | k + 1, i, xs, hl => by
    rw [List.range'_succ]
    have hmul : i * ks.length + ks.length ≤ xs.length := by
      have : (i + 1) * ks.length ≤ (i + (k + 1)) * ks.length := Nat.mul_le_mul_right _ (by omega)
      rw [Nat.succ_mul] at this
      omega
    have p1 := (run_part (P := P) (w := w) hD hs (xs := xs) (off := i * ks.length) (fun h => by have := shp_one hk hD h; omega)).resolve_right (fun ⟨q1, q2⟩ => by have := shp_one hk hD q1; omega)
    have he := ih e ks D hk hD (xs.drop (i * ks.length)) (by rw [List.length_drop]; omega)
    simp only [chkElems, Sem.run_bind]
    rw [p1]
    simp only [Result.andThen_ok]
    rw [he]
    simp only [Result.andThen_ok]
    exact chkElems_ok hk hD hs ih k (i + 1) xs (by rw [show i + 1 + k = i + (k + 1) by omega]; exact hl)
theorem chkKey_ok {P : Program} {w : World} {empty : Bool} : ∀ (d d' : Nat), d ≤ d' → ChkAt P w empty d d'
  | 0, _, _ => fun _ _ _ h => by cases h
  | d + 1, 0, hd => by omega
  | d + 1, d' + 1, hd => by
    intro t ks D h hu xs hl
    have hih := chkKey_ok (P := P) (w := w) (empty := empty) d d' (by omega)
    simp only [shp, hu] at h
    cases D with
    | int k => simp [Instr.checkKey, run_underlying hu]
    | bool => simp [Instr.checkKey, run_underlying hu]
    | string => simp [Instr.checkKey, run_underlying hu]
    | struct fs =>
      simp only at h
      cases hst : P.stoodInHeld t with
      | true => rw [hst] at h; cases h
      | false =>
        rw [hst, cond_false] at h
        show (Instr.checkKey empty (d' + 1) t (.agg ⟨xs.take ks.length⟩)).run P w = .ok () w
        rw [run_checkKey_struct w empty d' t fs _ hu]
        exact chkFields_ok hih fs.toList [] ks _ h (by simp; omega)
    | array k e =>
      simp only at h
      cases h1 : shp P d e with
      | none => rw [h1] at h; cases h
      | some ek =>
        rw [h1] at h
        simp only at h
        cases h2 : szOf P e with
        | none => rw [h2] at h; cases h
        | some m =>
          rw [h2] at h
          simp only at h
          cases h3 : Nat.beq m ek.length with
          | false => rw [h3] at h; cases h
          | true =>
            rw [h3] at h
            simp only [cond_true, Option.some.injEq] at h
            have := Nat.eq_of_beq_eq_true h3
            subst this
            obtain ⟨D, hD⟩ := shp_under h1
            show (Instr.checkKey empty (d' + 1) t (.agg ⟨xs.take ks.length⟩)).run P w = .ok () w
            rw [run_checkKey_array w empty d' t e k ek.length _ hu h2]
            subst h
            refine chkElems_ok h1 hD h2 hih k 0 _ ?_
            rw [repK_length] at hl ⊢
            simp; omega
    | _ => cases h

/-! ### a key is looked for -/
def leqE : List Nat → List Value → List Value → Option Bool
  | [], [], [] => some true
  | c :: ks, x :: l, y :: r => match leq1 c x y with
    | some true => leqE ks l r
    | o => o
  | _, _, _ => none
theorem leq1_true {c : Nat} {x y : Value} (h : leq1 c x y = some true) : x = y := by
  cases x <;> cases y <;> simp only [leq1] at h <;> try cases h
  · rename_i a b
    cases hc : Nat.beq c 1 <;> rw [hc] at h <;> simp at h
    rw [beqB_eq h]
  · rename_i k a k' b
    cases hc : (Nat.beq c 0 && keq k k') with
    | false => rw [hc] at h; cases h
    | true =>
      rw [hc] at h
      simp only [cond_true, Option.some.injEq] at h
      simp only [Bool.and_eq_true] at hc
      rw [keq_eq hc.2, ieq_eq h]
  · rename_i a b
    cases hc : Nat.beq c 2 <;> rw [hc] at h <;> simp at h
    have := b8eq_eq h
    obtain ⟨⟨x⟩⟩ := a
    obtain ⟨⟨y⟩⟩ := b
    simp only at this
    rw [this]
theorem leqE_K : ∀ {ks : List Nat} {l r : List Value} {b : Bool}, leqE ks l r = some b → leqK ks l r = some b
  | [], [], [], b, h => h
  | [], [], _ :: _, _, h => by cases h
  | [], _ :: _, _, _, h => by cases h
  | c :: ks, [], _, _, h => by cases h
  | c :: ks, _ :: _, [], _, h => by cases h
  | c :: ks, x :: l, y :: r, b, h => by
    simp only [leqE] at h
    simp only [leqK]
    cases h1 : leq1 c x y with
    | none => rw [h1] at h; cases h
    | some d =>
      rw [h1] at h
      cases d with
      | false => exact h
      | true => exact leqE_K h
theorem leqE_true : ∀ {ks : List Nat} {l r : List Value}, leqE ks l r = some true → l = r
  | [], [], [], _ => rfl
  | [], [], _ :: _, h => by cases h
  | [], _ :: _, _, h => by cases h
  | c :: ks, [], _, h => by cases h
  | c :: ks, _ :: _, [], h => by cases h
  | c :: ks, x :: l, y :: r, h => by
    simp only [leqE] at h
    cases h1 : leq1 c x y with
    | none => rw [h1] at h; cases h
    | some d =>
      rw [h1] at h
      cases d with
      | false => cases h
      | true => rw [leq1_true h1, leqE_true h]
/-- the cells of a key -/
def kcells (agg : Bool) : Value → Option (List Value)
  | .agg ⟨l⟩ => bif agg then some l else none
  | v => bif agg then none else some [v]
def keyEq (ks : List Nat) (agg : Bool) (k k' : Value) : Option Bool :=
  match kcells agg k with
  | none => none
  | some l => match kcells agg k' with
    | none => none
    | some r => leqE ks l r
def kfind (ks : List Nat) (agg : Bool) (k : Value) : List (Value × Value) → Nat → Option (Option (Nat × Value))
  | [], _ => some none
  | e :: es, i => match keyEq ks agg k e.1 with
    | none => none
    | some true => some (some (i, e.2))
    | some false => kfind ks agg k es (Nat.succ i)
/-- the key is one of its type -/
def keyOk (ks : List Nat) (agg : Bool) (k : Value) : Bool :=
  match kcells agg k with
  | none => false
  | some l => Nat.beq l.length ks.length
theorem kcells_ok {μ : Mu} {agg : Bool} {k k' : Value} {l : List Value} (h : VR μ k k') (e : kcells agg k = some l) : ∃ l', kcells agg k' = some l' ∧ LR μ l l' := by
  have h0 := h
  cases h <;> cases agg <;> simp only [kcells, cond_true, cond_false, Option.some.injEq] at e <;> first
    | (subst e; exact ⟨_, rfl, LR.cons h0 (LR.nil μ)⟩)
    | (subst e; exact ⟨_, rfl, by assumption, by assumption⟩)
    | cases e
theorem leq1_or {μ : Mu} {c : Nat} {x y x' y' : Value} {b : Bool} (h : leq1 c x y = some b) (hx : VR μ x x') (hy : VR μ y y') : leq1 c x' y' = some b := by
  obtain ⟨rfl, rfl⟩ := leq1_scalar h hx hy; exact h
theorem leqE_scalar {μ : Mu} : ∀ {ks : List Nat} {l r l' r' : List Value} {b : Bool}, leqE ks l r = some b → LR μ l l' → LR μ r r' → leqE ks l' r' = some b
  | [], [], [], _, _, _, h, hl, hr => by rw [hl.nil_inv, hr.nil_inv]; exact h
  | [], [], _ :: _, _, _, _, h, _, _ => by cases h
  | [], _ :: _, _, _, _, _, h, _, _ => by cases h
  | c :: ks, [], _, _, _, _, h, _, _ => by cases h
  | c :: ks, _ :: _, [], _, _, _, h, _, _ => by cases h
  | c :: ks, x :: l, y :: r, l', r', b, h, hl, hr => by
    obtain ⟨x', l2, rfl, hx, hl2⟩ := hl.cons_inv
    obtain ⟨y', r2, rfl, hy, hr2⟩ := hr.cons_inv
    simp only [leqE] at h ⊢
    cases h1 : leq1 c x y with
    | none => rw [h1] at h; cases h
    | some d =>
      rw [leq1_or h1 hx hy]
      rw [h1] at h
      cases d with
      | false => exact h
      | true => exact leqE_scalar h hl2 hr2
theorem keyEq_ok {μ : Mu} {ks : List Nat} {agg : Bool} {k k' e e' : Value} {b : Bool} (h : keyEq ks agg k e = some b) (hk : VR μ k k') (he : VR μ e e') : keyEq ks agg k' e' = some b := by
  unfold keyEq at h ⊢
  cases h1 : kcells agg k with
  | none => rw [h1] at h; cases h
  | some l =>
    rw [h1] at h
    simp only at h
    cases h2 : kcells agg e with
    | none => rw [h2] at h; cases h
    | some r =>
      rw [h2] at h
      obtain ⟨l', k1, k2⟩ := kcells_ok hk h1
      obtain ⟨r', k3, k4⟩ := kcells_ok he h2
      rw [k1, k3]
      exact leqE_scalar h k2 k4
theorem kcells_tv {D : TypeDesc} {k : Value} {l : List Value} (h : kcells (aggD D) k = some l) : k = tv D l := by
  cases hd : aggD D with
  | true =>
    rw [hd] at h
    cases k <;> simp [kcells] at h
    subst h
    simp [tv, hd]
  | false =>
    rw [hd] at h
    cases k <;> simp [kcells] at h <;> (subst h; simp [tv, hd])
/-- comparing a key -/
theorem run_keyEq {P : Program} {w : World} {kt : TypeId} {ks : List Nat} {D : TypeDesc} {d : Nat} (hd : d ≤ 10000) (hs : shp P d kt = some ks) (hu : P.underlying kt = some D) {k e : Value} {b : Bool} (h : keyEq ks (aggD D) k e = some b) :
    (Op.equal kt k e).run P w = .ok b w := by
  unfold keyEq at h
  cases h1 : kcells (aggD D) k with
  | none => rw [h1] at h; cases h
  | some l =>
    rw [h1] at h
    simp only at h
    cases h2 : kcells (aggD D) e with
    | none => rw [h2] at h; cases h
    | some r =>
      rw [h2] at h
      have := eqIn_ok (P := P) (w := w) d 10000 hd kt ks D hs hu l r b (leqE_K h)
      rw [kcells_tv h1, kcells_tv h2]
      exact this
/-- what is found -/
def FR2 (μ : Mu) (r r' : Option (Nat × Value)) : Prop :=
  match r with
  | none => r' = none
  | some (i, v) => ∃ v', r' = some (i, v') ∧ VR μ v v'
/-- what is found, wherever -/
def FV (μ : Mu) (r r' : Option (Nat × Value)) : Prop :=
  match r with
  | none => r' = none
  | some (_, v) => ∃ i v', r' = some (i, v') ∧ VR μ v v'
theorem FR2.fv {μ : Mu} {r r' : Option (Nat × Value)} (h : FR2 μ r r') : FV μ r r' := by
  cases r with
  | none => exact h
  | some q => obtain ⟨i, v⟩ := q; obtain ⟨v', h1, h2⟩ := h; exact ⟨i, v', h1, h2⟩
theorem sameNow_ok {P : Program} {kt : TypeId} {ks : List Nat} {D : TypeDesc} {d : Nat} (hs : shp P d kt = some ks) (hu : P.underlying kt = some D) (hd : aggD D = false) {k e : Value} {b : Bool} (h : keyEq ks (aggD D) k e = some b) : Instr.sameNow D k e = some b := by
  have hk : ∀ v, kcells false v = some [v] ∨ kcells false v = none := fun v => by cases v <;> simp [kcells]
  unfold keyEq at h
  rw [hd] at h
  have h1 : leqE ks [k] [e] = some b := by
    rcases hk k with q | q <;> rw [q] at h
    · rcases hk e with q2 | q2 <;> rw [q2] at h
      · exact h
      · cases h
    · cases h
  cases d with
  | zero => cases hs
  | succ d =>
    simp only [shp, hu] at hs
    have one : ∀ {c : Nat}, ks = [c] → leq1 c k e = some b := fun hc => by
      subst hc
      simp only [leqE] at h1
      split at h1
      · rename_i hh
        injection h1 with h1
        rw [hh, h1]
      · exact h1
    cases D <;> simp [aggD] at hd <;> simp only [Option.some.injEq] at hs <;> try cases hs
    · have h2 := one rfl
      cases k <;> cases e <;> simp only [leq1] at h2 <;> try cases h2
      simp [Instr.sameNow, beqB_iff]
    · have h2 := one rfl
      cases k <;> cases e <;> simp only [leq1] at h2 <;> try cases h2
      rename_i k1 a k2 b2
      cases hk : keq k1 k2 with
      | false => rw [hk] at h2; cases h2
      | true =>
        rw [hk] at h2
        have h2' : ieq a b2 = b := by simpa using h2
        have := keq_eq hk
        subst this
        simp [Instr.sameNow, ← h2', ieq_iff]
    · have h2 := one rfl
      cases k <;> cases e <;> simp only [leq1] at h2 <;> try cases h2
      simp [Instr.sameNow, b8eq_iff]
theorem findNow_ok {P : Program} {μ : Mu} {kt : TypeId} {ks : List Nat} {D : TypeDesc} {d : Nat} (hs : shp P d kt = some ks) (hu : P.underlying kt = some D) (hd : aggD D = false) {k k' : Value} (hk : VR μ k k') :
    ∀ (es : List (Value × Value)) (ents : List MapEntry) (i : Nat) (r : Option (Nat × Value)), LR μ (es.map (·.1)) (ents.map (·.key)) → LR μ (es.map (·.2)) (ents.map (·.val)) → kfind ks (aggD D) k es i = some r → ∃ r', Instr.findNow D k' ents i = some r' ∧ FR2 μ r r'
  | [], ents, i, r, h1, _, h => by
    have : ents = [] := by have := h1.len; simp at this; exact List.length_eq_zero_iff.1 this.symm
    subst this
    simp only [kfind, Option.some.injEq] at h
    subst h
    exact ⟨none, rfl, rfl⟩
  | e :: es, ents, i, r, h1, h2, h => by
    cases ents with
    | nil => have := h1.len; simp at this
    | cons x ents =>
      obtain ⟨y, q, e1, hy, hq⟩ := h1.cons_inv
      obtain ⟨y2, q2, e2, hy2, hq2⟩ := h2.cons_inv
      simp only [List.map_cons, List.cons.injEq] at e1 e2
      obtain ⟨rfl, rfl⟩ := e1
      obtain ⟨rfl, rfl⟩ := e2
      simp only [kfind] at h
      cases hk1 : keyEq ks (aggD D) k e.1 with
      | none => rw [hk1] at h; cases h
      | some b =>
        rw [hk1] at h
        have hsn := sameNow_ok hs hu hd (keyEq_ok hk1 hk hy)
        cases b with
        | true =>
          simp only [Option.some.injEq] at h
          subst h
          exact ⟨some (i, x.val), by simp [Instr.findNow, hsn], x.val, rfl, hy2⟩
        | false =>
          simp only at h
          obtain ⟨r', k1, k2⟩ := findNow_ok hs hu hd hk es ents (i + 1) r hq hq2 h
          exact ⟨r', by simp [Instr.findNow, hsn, k1], k2⟩
theorem findAsking_ok {P : Program} {w : World} {μ : Mu} {kt : TypeId} {ks : List Nat} {D : TypeDesc} {d : Nat} (hd : d ≤ 10000) (hs : shp P d kt = some ks) (hu : P.underlying kt = some D) {k k' : Value} (hk : VR μ k k') :
    ∀ (es : List (Value × Value)) (ents : List MapEntry) (i : Nat) (r : Option (Nat × Value)), LR μ (es.map (·.1)) (ents.map (·.key)) → LR μ (es.map (·.2)) (ents.map (·.val)) → kfind ks (aggD D) k es i = some r → ∃ r', (Instr.findAsking kt k' ents i).run P w = .ok r' w ∧ FR2 μ r r'
  | [], ents, i, r, h1, _, h => by
    have : ents = [] := by have := h1.len; simp at this; exact List.length_eq_zero_iff.1 this.symm
    subst this
    simp only [kfind, Option.some.injEq] at h
    subst h
    exact ⟨none, rfl, rfl⟩
  | e :: es, ents, i, r, h1, h2, h => by
    cases ents with
    | nil => have := h1.len; simp at this
    | cons x ents =>
      obtain ⟨y, q, e1, hy, hq⟩ := h1.cons_inv
      obtain ⟨y2, q2, e2, hy2, hq2⟩ := h2.cons_inv
      simp only [List.map_cons, List.cons.injEq] at e1 e2
      obtain ⟨rfl, rfl⟩ := e1
      obtain ⟨rfl, rfl⟩ := e2
      simp only [kfind] at h
      cases hk1 : keyEq ks (aggD D) k e.1 with
      | none => rw [hk1] at h; cases h
      | some b =>
        rw [hk1] at h
        have hsn := run_keyEq (P := P) (w := w) hd hs hu (keyEq_ok hk1 hk hy)
        cases b with
        | true =>
          simp only [Option.some.injEq] at h
          subst h
          exact ⟨some (i, x.val), by simp [Instr.findAsking, hsn], x.val, rfl, hy2⟩
        | false =>
          simp only at h
          obtain ⟨r', k1, k2⟩ := findAsking_ok (w := w) hd hs hu hk es ents (i + 1) r hq hq2 h
          exact ⟨r', by simp [Instr.findAsking, hsn, k1], k2⟩
theorem findKey_ok {P : Program} {w : World} {μ : Mu} {kt : TypeId} {ks : List Nat} {D : TypeDesc} {d : Nat} (hd : d ≤ 10000) (hs : shp P d kt = some ks) (hu : P.underlying kt = some D) {k k' : Value} (hk : VR μ k k')
    {es : List (Value × Value)} {ents : List MapEntry} {r : Option (Nat × Value)} (h1 : LR μ (es.map (·.1)) (ents.map (·.key))) (h2 : LR μ (es.map (·.2)) (ents.map (·.val))) (h : kfind ks (aggD D) k es 0 = some r) : ∃ r', (Instr.findKey kt k' ents).run P w = .ok r' w ∧ FR2 μ r r' := by
  cases hag : aggD D with
  | false =>
    obtain ⟨r', k1, k2⟩ := findNow_ok hs hu hag hk es ents 0 r h1 h2 h
    exact ⟨r', by simp [Instr.findKey, run_underlying hu, k1], k2⟩
  | true =>
    obtain ⟨r', k1, k2⟩ := findAsking_ok (P := P) (w := w) hd hs hu hk es ents 0 r h1 h2 h
    cases ents with
    | nil => exact ⟨r', by simpa [Instr.findKey, run_underlying hu, Instr.findNow, Instr.findAsking] using k1, k2⟩
    | cons x ents =>
      have hn : Instr.findNow D k' (x :: ents) 0 = none := by
        have : Instr.sameNow D k' x.key = none := by
          cases D <;> simp [aggD] at hag <;> (unfold Instr.sameNow; split <;> simp_all)
        simp [Instr.findNow, this]
      exact ⟨r', by simpa [Instr.findKey, run_underlying hu, hn] using k1, k2⟩

/-! ### lookups -/
theorem chk_of {P : Program} {w : World} {μ : Mu} {empty : Bool} {kt : TypeId} {ks : List Nat} {D : TypeDesc} {d : Nat} (hd : d ≤ 10000) (hs : shp P d kt = some ks) (hu : P.underlying kt = some D) {k k' : Value} (hk : VR μ k k') (h : keyOk ks (aggD D) k = true) :
    (Instr.checkKey empty 10000 kt k').run P w = .ok () w := by
  unfold keyOk at h
  cases h1 : kcells (aggD D) k with
  | none => rw [h1] at h; cases h
  | some l =>
    rw [h1] at h
    simp only at h
    obtain ⟨l', k1, k2⟩ := kcells_ok hk h1
    have hl := Nat.eq_of_beq_eq_true h
    have := chkKey_ok (P := P) (w := w) (empty := empty) d 10000 hd kt ks D hs hu l' (by rw [← k2.len]; omega)
    rw [List.take_of_length_le (by rw [← k2.len]; omega)] at this
    rw [kcells_tv k1]
    exact this
theorem kcells_inj {agg : Bool} {k k' : Value} {l : List Value} (h : kcells agg k = some l) (h' : kcells agg k' = some l) : k = k' := by
  cases agg with
  | true =>
    cases k <;> cases k' <;> simp [kcells] at h h'
    rename_i a b
    obtain ⟨a⟩ := a
    obtain ⟨b⟩ := b
    simp at h h'
    rw [h, h']
  | false =>
    have key : ∀ {v : Value} {l : List Value}, kcells false v = some l → l = [v] := by
      intro v l h
      cases v <;> simp [kcells] at h <;> exact h.symm
    have e1 := key h
    have e2 := key h'
    rw [e1] at e2
    injection e2
theorem keyEq_true {ks : List Nat} {agg : Bool} {k k' : Value} (h : keyEq ks agg k k' = some true) : k = k' := by
  unfold keyEq at h
  cases h1 : kcells agg k with
  | none => rw [h1] at h; cases h
  | some l =>
    rw [h1] at h
    simp only at h
    cases h2 : kcells agg k' with
    | none => rw [h2] at h; cases h
    | some r =>
      rw [h2] at h
      have := leqE_true h
      subst this
      exact kcells_inj h1 h2
theorem keyEq_int {ks : List Nat} {agg : Bool} {kd : IntKind} {n : Int} (h : keyEq ks agg (.int kd n) (.int kd n) = some true) (m : Int) : ∃ b, keyEq ks agg (.int kd n) (.int kd m) = some b := by
  cases agg with
  | true => simp [keyEq, kcells] at h
  | false =>
    simp only [keyEq, kcells, cond_false] at h ⊢
    match ks, h with
    | [c], h =>
      simp only [leqE, leq1] at h ⊢
      cases hb : (Nat.beq c 0 && keq kd kd) with
      | false => rw [hb] at h; cases h
      | true =>
        rw [cond_true]
        cases ieq n m <;> exact ⟨_, rfl⟩
    | [], h => simp [leqE] at h
    | _ :: _ :: _, h =>
      simp only [leqE] at h
      split at h <;> first | cases h | (rename_i e; rw [h] at e; simp at e)
theorem kfind_none {ks : List Nat} {agg : Bool} {k : Value} : ∀ {es : List (Value × Value)} {i : Nat}, kfind ks agg k es i = some none ↔ ∀ e ∈ es, keyEq ks agg k e.1 = some false
  | [], i => by simp [kfind]
  | e :: es, i => by
    simp only [kfind]
    have ih := kfind_none (ks := ks) (agg := agg) (k := k) (es := es) (i := Nat.succ i)
    cases h : keyEq ks agg k e.1 with
    | none => simp [h]
    | some b =>
      cases b with
      | true => simp [h]
      | false => simp only [List.mem_cons, forall_eq_or_imp, h, true_and]; exact ih
theorem kfind_some {ks : List Nat} {agg : Bool} {k v : Value} : ∀ {es : List (Value × Value)} {i j : Nat}, kfind ks agg k es i = some (some (j, v)) → ∃ e ∈ es, keyEq ks agg k e.1 = some true ∧ e.2 = v
  | [], i, j, h => by simp [kfind] at h
  | e :: es, i, j, h => by
    simp only [kfind] at h
    cases h1 : keyEq ks agg k e.1 with
    | none => rw [h1] at h; cases h
    | some b =>
      rw [h1] at h
      cases b with
      | true =>
        simp only [Option.some.injEq, Prod.mk.injEq] at h
        exact ⟨e, List.mem_cons_self, h1, h.2⟩
      | false =>
        obtain ⟨e', h2, h3⟩ := kfind_some h
        exact ⟨e', List.mem_cons_of_mem _ h2, h3⟩
theorem kfind_has {ks : List Nat} {agg : Bool} {k : Value} : ∀ {es : List (Value × Value)} {i : Nat}, (∀ e ∈ es, ∃ b, keyEq ks agg k e.1 = some b) → (∃ e ∈ es, keyEq ks agg k e.1 = some true) → ∃ j v, kfind ks agg k es i = some (some (j, v))
  | [], i, _, h => by obtain ⟨e, h, _⟩ := h; cases h
  | e :: es, i, h, h' => by
    simp only [kfind]
    obtain ⟨b, hb⟩ := h e List.mem_cons_self
    rw [hb]
    cases b with
    | true => exact ⟨i, e.2, rfl⟩
    | false =>
      refine kfind_has (fun e he => h e (List.mem_cons_of_mem _ he)) ?_
      obtain ⟨e', h1, h2⟩ := h'
      rcases List.mem_cons.1 h1 with rfl | h1
      · rw [hb] at h2; cases h2
      · exact ⟨e', h1, h2⟩
theorem apart_key {es : List (Value × Value)} (h : es.Pairwise (fun x y => x.1 ≠ y.1)) {x y : Value × Value} (hx : x ∈ es) (hy : y ∈ es) (e : x.1 = y.1) : x = y := by
  induction es with
  | nil => cases hx
  | cons a r ih =>
    obtain ⟨h1, h2⟩ := List.pairwise_cons.1 h
    rcases List.mem_cons.1 hx with rfl | hx'
    · rcases List.mem_cons.1 hy with rfl | hy'
      · rfl
      · exact absurd e (h1 y hy')
    · rcases List.mem_cons.1 hy with rfl | hy'
      · exact absurd e.symm (h1 x hx')
      · exact ih h2 hx' hy'
/-- in whatever order the entries of a map that is not written come -/
theorem kfind_perm {rw : Bool} {es es2 : List (Value × Value)} (hm : MapR rw es es2) {ks : List Nat} {agg : Bool} {k : Value} {r : Option (Nat × Value)} (h : kfind ks agg k es 0 = some r) :
    ∃ r2, kfind ks agg k es2 0 = some r2 ∧ ∀ {μ : Mu} {r' : Option (Nat × Value)}, FR2 μ r2 r' → FV μ r r' := by
  cases rw with
  | true => have : es2 = es := hm; subst this; exact ⟨r, h, fun h => h.fv⟩
  | false =>
    obtain ⟨hp, ⟨kd, hk⟩, hd⟩ := hm
    cases r with
    | none => exact ⟨none, kfind_none.2 fun e he => kfind_none.1 h e (hp.mem_iff.2 he), fun h => h.fv⟩
    | some q =>
      obtain ⟨j, v⟩ := q
      obtain ⟨e, h1, h2, rfl⟩ := kfind_some h
      obtain ⟨n, hn⟩ := hk e h1
      have hkk := keyEq_true h2
      rw [hn] at hkk
      subst hkk
      rw [hn] at h2
      obtain ⟨j2, v2, hf⟩ := kfind_has (ks := ks) (agg := agg) (k := .int kd n) (es := es2) (i := 0) (fun e' he' => by
        obtain ⟨m, hm⟩ := hk e' (hp.mem_iff.2 he')
        rw [hm]
        exact keyEq_int h2 m) ⟨e, hp.mem_iff.1 h1, by rw [hn]; exact h2⟩
      obtain ⟨e2, g1, g2, rfl⟩ := kfind_some hf
      have : e2 = e := apart_key hd (hp.mem_iff.2 g1) h1 (by rw [hn]; exact (keyEq_true g2).symm)
      subst this
      exact ⟨_, hf, fun h => let ⟨v', h1, h2⟩ := h; ⟨_, v', h1, h2⟩⟩
noncomputable def entsOf (m : Value) (H : AH) : Option (List (Value × Value)) :=
  match m with
  | .map none => some []
  | .map (some r) => match H.get r with
    | some (.map _ es) => some es
    | some (.dfr (.emap _)) => some []
    | _ => none
  | _ => none
noncomputable def rLook0 (ks : List Nat) (agg : Bool) (z : Value) (ok : Bool) (m k : Value) (H : AH) : Option Value :=
  bif keyOk ks agg k then
    match entsOf m H with
    | none => none
    | some es => match kfind ks agg k es 0 with
      | none => none
      | some none => some (bif ok then .tuple ⟨[z, .bool false]⟩ else z)
      | some (some q) => some (bif ok then .tuple ⟨[q.2, .bool true]⟩ else q.2)
  else none
theorem rLook0_mono {ks : List Nat} {agg : Bool} {z : Value} {ok : Bool} {m k : Value} {H H' : AH} {v : Value} (h : rLook0 ks agg z ok m k H = some v) (hs : ∀ i x, H.get i = some x → H'.get i = some x) : rLook0 ks agg z ok m k H' = some v := by
  have he : ∀ es, entsOf m H = some es → entsOf m H' = some es := by
    intro es e
    unfold entsOf at e ⊢
    cases m with
    | map r =>
      cases r with
      | none => exact e
      | some r =>
        simp only at e ⊢
        cases hg : H.get r with
        | none => rw [hg] at e; cases e
        | some x => rw [hs _ _ hg]; rw [hg] at e; exact e
    | _ => cases e
  unfold rLook0 at h ⊢
  cases hb : keyOk ks agg k with
  | false => rw [hb] at h; cases h
  | true =>
    rw [hb, cond_true] at h
    rw [cond_true]
    cases h1 : entsOf m H with
    | none => rw [h1] at h; cases h
    | some es => rw [h1] at h; rw [he es h1]; exact h
/-- what a lookup yields -/
def lkV (z : Value) (ok : Bool) : Option (Nat × Value) → Value
  | some (_, v) => bif ok then .tuple #[v, .bool true] else v
  | none => bif ok then .tuple #[z, .bool false] else z
theorem run_lookup {P : Program} {w : World} {t kt et : TypeId} {k : Value} {ok : Bool} {b : Nat} {ents : Array MapEntry} {clock : Nat} (ht : P.underlying t = some (.map kt et)) (hget : (getObj b).run P w = .ok (.map ents clock) w)
    (hck : ∀ em, (Instr.checkKey em 10000 kt k).run P w = .ok () w) {r : Option (Nat × Value)} (hf : (Instr.findKey kt k ents.toList).run P w = .ok r w) {z : Value} (hz : (zeroValue et).run P w = .ok z w) :
    (Instr.lookup t (.map (some b)) k ok).run P w = .ok (lkV z ok r) w := by
  cases r with
  | none => cases ok <;> simp [Instr.lookup, run_underlying ht, hget, hck, hf, hz, lkV]
  | some q => obtain ⟨i, v⟩ := q; cases ok <;> simp [Instr.lookup, run_underlying ht, hget, hck, hf, lkV]
theorem run_lookup0 {P : Program} {w : World} {t kt et : TypeId} {k : Value} {ok : Bool} (ht : P.underlying t = some (.map kt et)) (hck : ∀ em, (Instr.checkKey em 10000 kt k).run P w = .ok () w) {r : Option (Nat × Value)} (hf : (Instr.findKey kt k []).run P w = .ok r w)
    {z : Value} (hz : (zeroValue et).run P w = .ok z w) : (Instr.lookup t (.map none) k ok).run P w = .ok (lkV z ok r) w := by
  cases r with
  | none => cases ok <;> simp [Instr.lookup, run_underlying ht, hck, hf, hz, lkV]
  | some q => obtain ⟨i, v⟩ := q; cases ok <;> simp [Instr.lookup, run_underlying ht, hck, hf, lkV]
theorem rLook0_ok {P : Program} {G B : Nat} {w0 : W0} {H : AH} {μ : Mu} {w : World} (h : HR G B w0 H μ w) {t kt et : TypeId} {ks : List Nat} {D : TypeDesc} {d : Nat} {ti : TypeInfo} {z : Value} (ht : P.underlying t = some (.map kt et)) (hd : d ≤ 10000) (hs : shp P d kt = some ks)
    (hu : P.underlying kt = some D) (hi : P.info? et = some ti) (hz : ti.zero = some z) (hzp : plain z = true) {ok : Bool} {m m' k k' v : Value} (hm : VR μ m m') (hk : VR μ k k') (hl : rLook0 ks (aggD D) z ok m k H = some v) :
    ∃ v', (Instr.lookup t m' k' ok).run P w = .ok v' w ∧ VR μ v v' := by
  unfold rLook0 at hl
  cases hb : keyOk ks (aggD D) k with
  | false => rw [hb] at hl; cases hl
  | true =>
    rw [hb, cond_true] at hl
    cases h1 : entsOf m H with
    | none => rw [h1] at hl; cases hl
    | some es =>
      rw [h1] at hl
      simp only at hl
      have hck : ∀ em, (Instr.checkKey em 10000 kt k').run P w = .ok () w := fun em => chk_of hd hs hu hk hb
      have hz0 : (zeroValue et).run P w = .ok z w := run_zeroValue hi hz w
      cases hf : kfind ks (aggD D) k es 0 with
      | none => rw [hf] at hl; cases hl
      | some r =>
        rw [hf] at hl
        have hrun : ∃ r', (Instr.lookup t m' k' ok).run P w = .ok (lkV z ok r') w ∧ FV μ r r' := by
          unfold entsOf at h1
          cases hm with
          | map0 =>
            simp only [Option.some.injEq] at h1
            subst h1
            obtain ⟨r', k1, k2⟩ := findKey_ok (P := P) (w := w) (es := []) (ents := []) hd hs hu hk (LR.nil μ) (LR.nil μ) hf
            exact ⟨r', run_lookup0 ht hck k1 hz0, k2.fv⟩
          | map i b hmu =>
            simp only at h1
            cases hg : H.get i with
            | none => rw [hg] at h1; cases h1
            | some x =>
              rw [hg] at h1
              cases x with
              | map rw es' =>
                simp only [Option.some.injEq] at h1
                subst h1
                obtain ⟨_, es2, ents, clock, qm, q1, _, q3, q4⟩ := h.blk i _ hg b 0 hmu
                have hget : (getObj b).run P w = .ok (.map ents clock) w := by simp [getObj, Sem.run, q1]
                obtain ⟨r2, hf2, hv2⟩ := kfind_perm qm hf
                obtain ⟨r', k1, k2⟩ := findKey_ok (P := P) (w := w) hd hs hu hk q3 q4 hf2
                exact ⟨r', run_lookup ht hget hck k1 hz0, hv2 k2⟩
              | dfr dd =>
                cases dd with
                | emap c =>
                  simp only [Option.some.injEq] at h1
                  subst h1
                  obtain ⟨_, _, ob, q1, q2⟩ := h.blk i _ hg b 0 hmu
                  have q2 : ob = .map #[] c := q2
                  subst q2
                  have hget : (getObj b).run P w = .ok (.map #[] c) w := by simp [getObj, Sem.run, q1]
                  obtain ⟨r', k1, k2⟩ := findKey_ok (P := P) (w := w) (es := []) (ents := []) hd hs hu hk (LR.nil μ) (LR.nil μ) hf
                  exact ⟨r', run_lookup ht hget hck k1 hz0, k2.fv⟩
                | _ => cases h1
              | _ => cases h1
          | _ => cases h1
        obtain ⟨r', k1, k2⟩ := hrun
        refine ⟨_, k1, ?_⟩
        cases r with
        | none =>
          have : r' = none := k2
          subst this
          simp only [Option.some.injEq] at hl
          subst hl
          cases ok with
          | true => exact VR.tuple_of (LR.cons (VR.plain hzp) (LR.cons (.bool _) (LR.nil μ)))
          | false => exact VR.plain hzp
        | some q =>
          obtain ⟨i, u⟩ := q
          obtain ⟨_, u', rfl, hu'⟩ := k2
          simp only [Option.some.injEq] at hl
          subst hl
          cases ok with
          | true => exact VR.tuple_of (LR.cons hu' (LR.cons (.bool _) (LR.nil μ)))
          | false => exact hu'

/-! ### updates -/
noncomputable def sUpd0 (ks : List Nat) (agg : Bool) (m k v : Value) (H : AH) : Rs :=
  bif keyOk ks agg k then
    match m with
    | .map (some r) => match H.get r with
      | some (.map true es) => match kfind ks agg k es 0 with
        | none => .bad
        | some none => .ok undef (H.set r (some (.map true (es ++ [(k, v)]))))
        | some (some q) => .ok undef (H.set r (some (.map true (es.set q.1 (k, v)))))
      | _ => .bad
    | _ => .bad
  else .bad
theorem kfind_key {ks : List Nat} {agg : Bool} {k : Value} : ∀ {es : List (Value × Value)} {i j : Nat} {v : Value}, kfind ks agg k es i = some (some (j, v)) → i ≤ j ∧ ∃ k', es[j - i]? = some (k', v) ∧ keyEq ks agg k k' = some true
  | [], i, j, v, h => by simp [kfind] at h
  | e :: es, i, j, v, h => by
    simp only [kfind] at h
    cases hk : keyEq ks agg k e.1 with
    | none => rw [hk] at h; cases h
    | some b =>
      rw [hk] at h
      cases b with
      | true =>
        simp only [Option.some.injEq, Prod.mk.injEq] at h
        obtain ⟨rfl, rfl⟩ := h
        exact ⟨Nat.le_refl _, e.1, by simp, hk⟩
      | false =>
        obtain ⟨h1, k', h2, h3⟩ := kfind_key h
        refine ⟨by omega, k', ?_, h3⟩
        rw [show j - i = (j - Nat.succ i) + 1 by omega]
        simpa using h2
theorem sameBits_refl {ks : List Nat} {agg : Bool} {k k' : Value} (h : keyEq ks agg k k' = some true) : Instr.sameBits 10000 k' k = true := by
  unfold keyEq at h
  cases h1 : kcells agg k with
  | none => rw [h1] at h; cases h
  | some l =>
    rw [h1] at h
    simp only at h
    cases h2 : kcells agg k' with
    | none => rw [h2] at h; cases h
    | some r =>
      rw [h2] at h
      simp only at h
      have e := leqE_true h
      subst e
      have hsc : ∀ {ks : List Nat} {l : List Value}, leqE ks l l = some true → ∀ n, (l.zip l).all (fun x => Instr.sameBits n x.1 x.2) = true := by
        intro ks l
        induction l generalizing ks with
        | nil => intro _ n; rfl
        | cons x l ih =>
          intro hh n
          cases ks with
          | nil => cases hh
          | cons c ks =>
            simp only [leqE] at hh
            cases h1 : leq1 c x x with
            | none => rw [h1] at hh; cases hh
            | some b =>
              rw [h1] at hh
              cases b with
              | false => cases hh
              | true =>
                have hx : Instr.sameBits n x x = true := by
                  cases x <;> simp only [leq1] at h1 <;> first | cases h1; done | skip
                  all_goals (cases n <;> first | (simp [Instr.sameBits]; done) | (simp only [Instr.sameBits]; rw [← b8eq_iff]; exact b8eq_refl _))
                simp only [List.zip_cons_cons, List.all_cons, hx, Bool.true_and]
                exact ih hh n
      cases agg with
      | false =>
        have e1 : k = tv .bool l := kcells_tv (D := .bool) h1
        have e2 : k' = tv .bool l := kcells_tv (D := .bool) h2
        rw [e1, e2]
        have := hsc h 10000
        cases l with
        | nil => cases k <;> simp [kcells] at h1
        | cons x l =>
          simp only [List.zip_cons_cons, List.all_cons, Bool.and_eq_true] at this
          exact this.1
      | true =>
        have e1 : k = tv (.struct #[]) l := kcells_tv (D := .struct #[]) h1
        have e2 : k' = tv (.struct #[]) l := kcells_tv (D := .struct #[]) h2
        rw [e1, e2]
        have := hsc h 9999
        simpa [tv, aggD, Instr.sameBits] using this
theorem sUpd0_ok {P : Program} {G B : Nat} {w0 : W0} {H H' : AH} {μ : Mu} {w : World} (h : HR G B w0 H μ w) {t kt et : TypeId} {ks : List Nat} {D : TypeDesc} {d : Nat} (ht : P.underlying t = some (.map kt et)) (hd : d ≤ 10000) (hs : shp P d kt = some ks)
    (hu : P.underlying kt = some D) {m m' k k' v v' u : Value} (hm : VR μ m m') (hk : VR μ k k') (hv : VR μ v v') (hl : sUpd0 ks (aggD D) m k v H = .ok u H') :
    u = undef ∧ ∃ w', (Instr.mapUpdate t m' k' v').run P w = .ok () w' ∧ Nx G B w0 H μ H' μ w' := by
  unfold sUpd0 at hl
  cases hb : keyOk ks (aggD D) k with
  | false => rw [hb] at hl; cases hl
  | true =>
    rw [hb, cond_true] at hl
    cases hm with
    | map i b hmu =>
      simp only at hl
      cases hg : H.get i with
      | none => rw [hg] at hl; cases hl
      | some x =>
        rw [hg] at hl
        cases x with
        | map rw es =>
          cases rw with
          | false => cases hl
          | true =>
            simp only at hl
            obtain ⟨_, es2, ents, clock, qm, q1, q2, q3, q4⟩ := h.blk i _ hg b 0 hmu
            have qm' : es = es2 := Eq.symm qm
            subst qm'
            obtain ⟨hB, hbn⟩ := q2 rfl
            have hlt : b < w.heap.size := (Array.getElem?_eq_some_iff.1 q1).1
            have hck := chk_of (P := P) (w := w) (empty := false) hd hs hu hk hb
            cases hf : kfind ks (aggD D) k es 0 with
            | none => rw [hf] at hl; cases hl
            | some r =>
              rw [hf] at hl
              obtain ⟨r', k1, k2⟩ := findKey_ok (P := P) (w := w) hd hs hu hk q3 q4 hf
              have hget : (getObj b).run P w = .ok (.map ents clock) w := by simp [getObj, Sem.run, q1]
              have hset : ∀ ob, (setObj b ob).run P w = .ok () { w with heap := w.heap.setIfInBounds b ob } := fun ob => by simp [setObj, Sem.run, q1]
              cases r with
              | none =>
                have : r' = none := k2
                subst this
                simp only [Rs.ok.injEq] at hl
                obtain ⟨rfl, rfl⟩ := hl
                refine ⟨rfl, _, ?_, h.putObj (y := .map true (es ++ [(k, v)])) (.map (ents.push { key := k', val := v', born := clock }) (clock + 1)) hg hmu hB ?_⟩
                · simp only [Instr.mapUpdate, Sem.run_bind, run_underlying ht, Result.andThen_ok, hget, hck, k1, hset]
                · refine ⟨rfl, _, ents.push { key := k', val := v', born := clock }, clock + 1, rfl, by simp [hlt], fun _ => ⟨hB, hbn.push k' v'⟩, ?_, ?_⟩
                  · simpa using q3.append (LR.cons hk (LR.nil μ))
                  · simpa using q4.append (LR.cons hv (LR.nil μ))
              | some q =>
                obtain ⟨j, u0⟩ := q
                obtain ⟨u', rfl, hu'⟩ := k2
                simp only [Rs.ok.injEq] at hl
                obtain ⟨rfl, rfl⟩ := hl
                obtain ⟨_, kold, hold, hkeq⟩ := kfind_key hf
                rw [Nat.sub_zero] at hold
                have hjk : (es.map (·.1))[j]? = some kold := by rw [List.getElem?_map, hold]; rfl
                obtain ⟨kold', e1, e2⟩ := q3.som hjk
                have hents : ents[j]?.map (·.key) = some kold' := by simpa using e1
                have hsb := sameBits_refl (keyEq_ok hkeq hk e2)
                refine ⟨rfl, _, ?_, h.putObj (y := .map true (es.set j (k, v))) (.map (ents.modify j fun e => { e with key := k', val := v' }) clock) hg hmu hB ?_⟩
                · simp only [Instr.mapUpdate, Sem.run_bind, run_underlying ht, Result.andThen_ok, hget, hck, k1]
                  have hstay : (Instr.keyThatStays ((ents[j]?.map (·.key)).getD k') k').run P w = .ok k' w := by
                    rw [hents]
                    simp [Instr.keyThatStays, hsb]
                  rw [hstay]
                  simp only [Result.andThen_ok, hset]
                · refine ⟨rfl, _, ents.modify j fun e => { e with key := k', val := v' }, clock, rfl, by simp [hlt], fun _ => ⟨hB, hbn.modify j k' v'⟩, ?_, ?_⟩
                  · have := q3.set hk j
                    rw [List.map_set]
                    have e3 : (ents.modify j fun e => { e with key := k', val := v' }).toList.map (·.key) = (ents.toList.map (·.key)).set j k' := by
                      apply List.ext_getElem?
                      intro n
                      simp only [List.getElem?_map, Array.getElem?_toList, Array.getElem?_modify, List.getElem?_set, List.length_map, Array.length_toList]
                      by_cases e : j = n
                      · subst e
                        by_cases hlt : j < ents.size
                        · simp [hlt]
                        · simp [hlt]
                      · simp [e]
                    rw [e3]
                    exact this
                  · have := q4.set hv j
                    rw [List.map_set]
                    have e3 : (ents.modify j fun e => { e with key := k', val := v' }).toList.map (·.val) = (ents.toList.map (·.val)).set j v' := by
                      apply List.ext_getElem?
                      intro n
                      simp only [List.getElem?_map, Array.getElem?_toList, Array.getElem?_modify, List.getElem?_set, List.length_map, Array.length_toList]
                      by_cases e : j = n
                      · subst e
                        by_cases hlt : j < ents.size
                        · simp [hlt]
                        · simp [hlt]
                      · simp [e]
                    rw [e3]
                    exact this
        | _ => cases hl
    | _ => cases hl

/-! ### how many entries -/
noncomputable def rLenM (x : Value) (H : AH) : Option Value :=
  match entsOf x H with
  | none => none
  | some es => forceN es.length fun n => some (.int .i64 (.ofNat n))
theorem entsOf_mono {m : Value} {H H' : AH} (hs : ∀ i x, H.get i = some x → H'.get i = some x) {es : List (Value × Value)} (e : entsOf m H = some es) : entsOf m H' = some es := by
  unfold entsOf at e ⊢
  cases m with
  | map r =>
    cases r with
    | none => exact e
    | some r =>
      simp only at e ⊢
      cases hg : H.get r with
      | none => rw [hg] at e; cases e
      | some x => rw [hs _ _ hg]; rw [hg] at e; exact e
  | _ => cases e
theorem rLenM_mono {x v : Value} {H H' : AH} (h : rLenM x H = some v) (hs : ∀ i x, H.get i = some x → H'.get i = some x) : rLenM x H' = some v := by
  unfold rLenM at h ⊢
  cases h1 : entsOf x H with
  | none => rw [h1] at h; cases h
  | some es => rw [h1] at h; rw [entsOf_mono hs h1]; exact h
theorem rLenM_ok {P : Program} {G B : Nat} {w0 : W0} {H : AH} {μ : Mu} {w : World} (h : HR G B w0 H μ w) {t kt et ty : TypeId} (ht : P.underlying t = some (.map kt et)) {x x' v : Value} (hx : VR μ x x') (hl : rLenM x H = some v) :
    ∃ v', (Builtin.len_ #[t] ty #[x']).run P w = .ok v' w ∧ VR μ v v' := by
  unfold rLenM at hl
  cases h1 : entsOf x H with
  | none => rw [h1] at hl; cases hl
  | some es =>
    rw [h1] at hl
    simp only [forceN_eq, Option.some.injEq] at hl
    subst hl
    unfold entsOf at h1
    cases hx with
    | map0 =>
      simp only [Option.some.injEq] at h1
      subst h1
      exact ⟨goInt 0, by simp [Builtin.len_, run_underlying ht], .int _ _⟩
    | map i b hmu =>
      simp only at h1
      cases hg : H.get i with
      | none => rw [hg] at h1; cases h1
      | some x =>
        rw [hg] at h1
        cases x with
        | map rw es' =>
          simp only [Option.some.injEq] at h1
          subst h1
          obtain ⟨_, es2, ents, clock, qm, q1, _, q3, q4⟩ := h.blk i _ hg b 0 hmu
          have hget : (getObj b).run P w = .ok (.map ents clock) w := by simp [getObj, Sem.run, q1]
          have hn : ents.size = es'.length := by
            have h3 := q3.len
            have h4 : es2.length = es'.length := by
              cases rw with
              | true => exact congrArg List.length (show es2 = es' from qm)
              | false => exact qm.1.length_eq.symm
            simp at h3
            omega
          refine ⟨goInt ents.size, by simp [Builtin.len_, run_underlying ht, hget], ?_⟩
          rw [hn]
          exact .int _ _
        | dfr dd =>
          cases dd with
          | emap c =>
            simp only [Option.some.injEq] at h1
            subst h1
            obtain ⟨_, _, ob, q1, q2⟩ := h.blk i _ hg b 0 hmu
            have q2 : ob = .map #[] c := q2
            subst q2
            have hget : (getObj b).run P w = .ok (.map #[] c) w := by simp [getObj, Sem.run, q1]
            exact ⟨goInt 0, by simp [Builtin.len_, run_underlying ht, hget], .int _ _⟩
          | _ => cases h1
        | _ => cases h1
    | _ => cases h1

/-! ### an entry is taken out: the only one, or none -/
noncomputable def sDel (ks : List Nat) (agg : Bool) (m k : Value) (H : AH) : Rs :=
  bif keyOk ks agg k then
    match m with
    | .map (some r) => match H.get r with
      | some (.dfr (.emap _)) => .ok (.tuple ⟨[]⟩) H
      | some (.map true es) => match kfind ks agg k es 0 with
        | none => .bad
        | some none => .ok (.tuple ⟨[]⟩) H
        | some (some _) => match es with
          | [_] => .ok (.tuple ⟨[]⟩) (H.set r (some (.dfr (.emap 1))))
          | _ => .bad
      | _ => .bad
    | _ => .bad
  else .bad
theorem set_same {w : World} {b : Nat} {ob : Obj} (h : w.heap[b]? = some ob) : { w with heap := w.heap.setIfInBounds b ob } = w := by
  have : w.heap.setIfInBounds b ob = w.heap := by
    apply Array.ext_getElem?
    intro i
    rw [Array.getElem?_setIfInBounds]
    split
    · rename_i e
      subst e
      split
      · exact h.symm
      · rename_i hn
        rw [Array.getElem?_eq_none (by omega)]
    · rfl
  rw [this]
theorem sDel_ok {P : Program} {G B : Nat} {w0 : W0} {H H' : AH} {μ : Mu} {w : World} (h : HR G B w0 H μ w) {t kt et u ty : TypeId} {ks : List Nat} {D : TypeDesc} {d : Nat} (ht : P.underlying t = some (.map kt et)) (hd : d ≤ 10000) (hs : shp P d kt = some ks)
    (hu : P.underlying kt = some D) {m m' k k' v : Value} (hm : VR μ m m') (hk : VR μ k k') (hl : sDel ks (aggD D) m k H = .ok v H') :
    ∃ v' w', (Builtin.delete_ #[t, u] ty #[m', k']).run P w = .ok v' w' ∧ VR μ v v' ∧ Nx G B w0 H μ H' μ w' := by
  unfold sDel at hl
  cases hb : keyOk ks (aggD D) k with
  | false => rw [hb] at hl; cases hl
  | true =>
    rw [hb, cond_true] at hl
    cases hm with
    | map i b hmu =>
      simp only at hl
      have hck : ∀ em, (Instr.checkKey em 10000 kt k').run P w = .ok () w := fun em => chk_of hd hs hu hk hb
      cases hg : H.get i with
      | none => rw [hg] at hl; cases hl
      | some x =>
        rw [hg] at hl
        cases x with
        | map rw es =>
          cases rw with
          | false => cases hl
          | true =>
            simp only at hl
            obtain ⟨_, es2, ents, clock, qm, q1, q2, q3, q4⟩ := h.blk i _ hg b 0 hmu
            have qm' : es = es2 := Eq.symm qm
            subst qm'
            obtain ⟨hB, hbn⟩ := q2 rfl
            have hlt : b < w.heap.size := (Array.getElem?_eq_some_iff.1 q1).1
            cases hf : kfind ks (aggD D) k es 0 with
            | none => rw [hf] at hl; cases hl
            | some r =>
              rw [hf] at hl
              obtain ⟨r', k1, k2⟩ := findKey_ok (P := P) (w := w) hd hs hu hk q3 q4 hf
              have hget : (getObj b).run P w = .ok (.map ents clock) w := by simp [getObj, Sem.run, q1]
              have hset : ∀ ob, (setObj b ob).run P w = .ok () { w with heap := w.heap.setIfInBounds b ob } := fun ob => by simp [setObj, Sem.run, q1]
              cases r with
              | none =>
                have : r' = none := k2
                subst this
                simp only [Rs.ok.injEq] at hl
                obtain ⟨rfl, rfl⟩ := hl
                refine ⟨.tuple #[], w, ?_, VR.plain rfl, Nx.refl h⟩
                simp [Builtin.delete_, run_underlying ht, hget, hck, k1, hset, set_same q1]
              | some q =>
                obtain ⟨j, u0⟩ := q
                obtain ⟨u', rfl, hu'⟩ := k2
                simp only at hl
                split at hl
                · rename_i e hf0
                  simp only [Rs.ok.injEq] at hl
                  obtain ⟨rfl, rfl⟩ := hl
                  obtain ⟨_, kold, hold, hkeq⟩ := kfind_key hf
                  have hj : j = 0 := by
                    rw [Nat.sub_zero] at hold
                    cases j with
                    | zero => rfl
                    | succ j => simp at hold
                  subst hj
                  obtain ⟨ents⟩ := ents
                  have hl1 : ents.length = 1 := by have := q3.len; simpa using this.symm
                  match ents, hl1 with
                  | [en], _ =>
                    have hc : clock = 1 := by rw [hbn.clock]; rfl
                    subst hc
                    refine ⟨.tuple #[], _, ?_, VR.plain rfl, h.putObj (y := .dfr (.emap 1)) (.map #[] 1) hg hmu hB ⟨rfl, hB, _, by simp [hlt], rfl⟩⟩
                    simp [Builtin.delete_, run_underlying ht, hget, hck, k1, hset]
                · cases hl
        | dfr dd =>
          cases dd with
          | emap c =>
            simp only [Rs.ok.injEq] at hl
            obtain ⟨rfl, rfl⟩ := hl
            obtain ⟨_, _, ob, q1, q2⟩ := h.blk i _ hg b 0 hmu
            have q2 : ob = .map #[] c := q2
            subst q2
            have hget : (getObj b).run P w = .ok (.map #[] c) w := by simp [getObj, Sem.run, q1]
            have hset : ∀ ob, (setObj b ob).run P w = .ok () { w with heap := w.heap.setIfInBounds b ob } := fun ob => by simp [setObj, Sem.run, q1]
            refine ⟨.tuple #[], w, ?_, VR.plain rfl, Nx.refl h⟩
            obtain ⟨r', k1, k2⟩ := findKey_ok (P := P) (w := w) (es := []) (ents := []) hd hs hu hk (LR.nil μ) (LR.nil μ) (rfl : kfind ks (aggD D) k [] 0 = some none)
            have : r' = none := k2
            subst this
            simp [Builtin.delete_, run_underlying ht, hget, hck, k1, hset, set_same q1]
          | _ => cases hl
        | _ => cases hl
    | _ => cases hl

/-! ### maps whose entries lie in any order -/
/-- the entry with a key, among all entries: each is compared -/
def kall (ks : List Nat) (agg : Bool) (k : Value) : List (Value × Value) → Option (Option Value)
  | [] => some none
  | e :: es => match kall ks agg k es with
    | none => none
    | some r => match keyEq ks agg k e.1 with
      | none => none
      | some true => (match r with
        | none => some (some e.2)
        | some _ => none)
      | some false => some r
theorem kall_perm {ks : List Nat} {agg : Bool} {k : Value} {es es2 : List (Value × Value)} (h : es.Perm es2) : kall ks agg k es = kall ks agg k es2 := by
  induction h with
  | nil => rfl
  | cons x _ ih => simp only [kall, ih]
  | swap x y l =>
    simp only [kall]
    cases kall ks agg k l with
    | none => rfl
    | some r =>
      cases keyEq ks agg k x.1 with
      | none => cases keyEq ks agg k y.1 with
        | none => rfl
        | some b => cases b <;> cases r <;> rfl
      | some a =>
        cases keyEq ks agg k y.1 with
        | none => cases a <;> cases r <;> rfl
        | some b => cases a <;> cases b <;> cases r <;> rfl
  | trans _ _ h1 h2 => exact h1.trans h2
theorem kall_find {ks : List Nat} {agg : Bool} {k : Value} : ∀ {es : List (Value × Value)} {r : Option Value}, kall ks agg k es = some r → ∀ i, ∃ q, kfind ks agg k es i = some q ∧ q.map (·.2) = r
  | [], r, h, i => by
    simp only [kall, Option.some.injEq] at h
    subst h
    exact ⟨none, rfl, rfl⟩
  | e :: es, r, h, i => by
    simp only [kall] at h
    cases h1 : kall ks agg k es with
    | none => rw [h1] at h; cases h
    | some r1 =>
      rw [h1] at h
      simp only at h
      cases h2 : keyEq ks agg k e.1 with
      | none => rw [h2] at h; cases h
      | some b =>
        rw [h2] at h
        cases b with
        | true =>
          cases r1 with
          | some _ => cases h
          | none =>
            simp only [Option.some.injEq] at h
            subst h
            exact ⟨some (i, e.2), by simp only [kfind, h2], rfl⟩
        | false =>
          simp only [Option.some.injEq] at h
          subst h
          obtain ⟨q, h3, h4⟩ := kall_find h1 (Nat.succ i)
          exact ⟨q, by simp only [kfind, h2]; exact h3, h4⟩
noncomputable def pmOf (m : Value) (H : AH) : Option (List (Value × Value)) :=
  match m with
  | .map (some r) => match H.get r with
    | some (.dfr (.pmap es)) => some es
    | _ => none
  | _ => none
theorem pmOf_some {m : Value} {H : AH} {es : List (Value × Value)} (h : pmOf m H = some es) : ∃ r, m = .map (some r) ∧ H.get r = some (.dfr (.pmap es)) := by
  unfold pmOf at h
  split at h
  · rename_i r
    split at h
    · rename_i es' hg
      simp only [Option.some.injEq] at h
      subst h
      exact ⟨r, rfl, hg⟩
    · cases h
  · cases h
noncomputable def rLookP (ks : List Nat) (agg : Bool) (z : Value) (ok : Bool) (es : List (Value × Value)) (k : Value) : Option Value :=
  bif keyOk ks agg k then
    match kall ks agg k es with
    | none => none
    | some none => some (bif ok then .tuple ⟨[z, .bool false]⟩ else z)
    | some (some v) => some (bif ok then .tuple ⟨[v, .bool true]⟩ else v)
  else none
noncomputable def rLook (ks : List Nat) (agg : Bool) (z : Value) (ok : Bool) (m k : Value) (H : AH) : Option Value :=
  match pmOf m H with
  | some es => rLookP ks agg z ok es k
  | none => rLook0 ks agg z ok m k H
theorem rLook_mono {ks : List Nat} {agg : Bool} {z : Value} {ok : Bool} {m k : Value} {H H' : AH} {v : Value} (h : rLook ks agg z ok m k H = some v) (hs : ∀ i x, H.get i = some x → H'.get i = some x) : rLook ks agg z ok m k H' = some v := by
  unfold rLook at h ⊢
  cases hp : pmOf m H with
  | some es =>
    rw [hp] at h
    obtain ⟨r, rfl, hg⟩ := pmOf_some hp
    have : pmOf (.map (some r)) H' = some es := by simp only [pmOf, hs _ _ hg]
    rw [this]
    exact h
  | none =>
    rw [hp] at h
    have h2 := rLook0_mono h hs
    have : pmOf m H' = none := by
      cases hq : pmOf m H' with
      | none => rfl
      | some es =>
        obtain ⟨r, rfl, hg⟩ := pmOf_some hq
        exfalso
        simp only [rLook0] at h
        cases hb : keyOk ks agg k with
        | false => rw [hb] at h; cases h
        | true =>
          rw [hb, cond_true] at h
          cases hr : H.get r with
          | none => simp only [entsOf, hr] at h; cases h
          | some x =>
            have := hs _ _ hr
            rw [hg] at this
            injection this with this
            subst this
            simp only [entsOf, hr] at h
            cases h
    rw [this]
    exact h2
theorem rLook_ok {P : Program} {G B : Nat} {w0 : W0} {H : AH} {μ : Mu} {w : World} (h : HR G B w0 H μ w) {t kt et : TypeId} {ks : List Nat} {D : TypeDesc} {d : Nat} {ti : TypeInfo} {z : Value} (ht : P.underlying t = some (.map kt et)) (hd : d ≤ 10000) (hs : shp P d kt = some ks)
    (hu : P.underlying kt = some D) (hi : P.info? et = some ti) (hz : ti.zero = some z) (hzp : plain z = true) {ok : Bool} {m m' k k' v : Value} (hm : VR μ m m') (hk : VR μ k k') (hl : rLook ks (aggD D) z ok m k H = some v) :
    ∃ v', (Instr.lookup t m' k' ok).run P w = .ok v' w ∧ VR μ v v' := by
  unfold rLook at hl
  cases hp : pmOf m H with
  | none => rw [hp] at hl; exact rLook0_ok h ht hd hs hu hi hz hzp hm hk hl
  | some es =>
    rw [hp] at hl
    simp only at hl
    obtain ⟨i, rfl, hg⟩ := pmOf_some hp
    unfold rLookP at hl
    cases hb : keyOk ks (aggD D) k with
    | false => rw [hb] at hl; cases hl
    | true =>
      rw [hb, cond_true] at hl
      cases hm with
      | map _ b hmu =>
        have hck : ∀ em, (Instr.checkKey em 10000 kt k').run P w = .ok () w := fun em => chk_of hd hs hu hk hb
        have hz0 : (zeroValue et).run P w = .ok z w := run_zeroValue hi hz w
        obtain ⟨_, _, ob, q1, es2, ents, clock, hp2, rfl, q3, q4⟩ := h.blk i _ hg b 0 hmu
        have hget : (getObj b).run P w = .ok (.map ents clock) w := by simp [getObj, Sem.run, q1]
        cases hf : kall ks (aggD D) k es with
        | none => rw [hf] at hl; cases hl
        | some r =>
          rw [hf] at hl
          obtain ⟨q, hq, hqr⟩ := kall_find ((kall_perm hp2).symm.trans hf) 0
          obtain ⟨r', k1, k2⟩ := findKey_ok (P := P) (w := w) hd hs hu hk q3 q4 hq
          have hrun := run_lookup (ok := ok) ht hget hck k1 hz0
          refine ⟨_, hrun, ?_⟩
          cases q with
          | none =>
            have : r' = none := k2
            subst this
            simp only [Option.map_none] at hqr
            subst hqr
            simp only [Option.some.injEq] at hl
            subst hl
            cases ok with
            | true => exact VR.tuple_of (LR.cons (VR.plain hzp) (LR.cons (.bool _) (LR.nil μ)))
            | false => exact VR.plain hzp
          | some q =>
            obtain ⟨j, u⟩ := q
            obtain ⟨u', rfl, hu'⟩ := k2
            simp only [Option.map_some] at hqr
            subst hqr
            simp only [Option.some.injEq] at hl
            subst hl
            cases ok with
            | true => exact VR.tuple_of (LR.cons hu' (LR.cons (.bool _) (LR.nil μ)))
            | false => exact hu'
noncomputable def sUpdP (ks : List Nat) (agg : Bool) (es : List (Value × Value)) (m k v : Value) (H : AH) : Rs :=
  bif keyOk ks agg k then
    match kall ks agg k es with
    | some none => (match m with
      | .map (some r) => .ok undef (H.set r (some (.dfr (.pmap (es ++ [(k, v)])))))
      | _ => .bad)
    | _ => .bad
  else .bad
noncomputable def sUpd (ks : List Nat) (agg : Bool) (m k v : Value) (H : AH) : Rs :=
  match pmOf m H with
  | some es => sUpdP ks agg es m k v H
  | none => sUpd0 ks agg m k v H
theorem sUpd_ok {P : Program} {G B : Nat} {w0 : W0} {H H' : AH} {μ : Mu} {w : World} (h : HR G B w0 H μ w) {t kt et : TypeId} {ks : List Nat} {D : TypeDesc} {d : Nat} (ht : P.underlying t = some (.map kt et)) (hd : d ≤ 10000) (hs : shp P d kt = some ks)
    (hu : P.underlying kt = some D) {m m' k k' v v' u : Value} (hm : VR μ m m') (hk : VR μ k k') (hv : VR μ v v') (hl : sUpd ks (aggD D) m k v H = .ok u H') :
    u = undef ∧ ∃ w', (Instr.mapUpdate t m' k' v').run P w = .ok () w' ∧ Nx G B w0 H μ H' μ w' := by
  unfold sUpd at hl
  cases hp : pmOf m H with
  | none => rw [hp] at hl; exact sUpd0_ok h ht hd hs hu hm hk hv hl
  | some es =>
    rw [hp] at hl
    simp only at hl
    obtain ⟨i, rfl, hg⟩ := pmOf_some hp
    unfold sUpdP at hl
    cases hb : keyOk ks (aggD D) k with
    | false => rw [hb] at hl; cases hl
    | true =>
      rw [hb, cond_true] at hl
      cases hm with
      | map _ b hmu =>
        obtain ⟨_, hB, ob, q1, es2, ents, clock, hp2, rfl, q3, q4⟩ := h.blk i _ hg b 0 hmu
        have hlt : b < w.heap.size := (Array.getElem?_eq_some_iff.1 q1).1
        have hck := chk_of (P := P) (w := w) (empty := false) hd hs hu hk hb
        have hget : (getObj b).run P w = .ok (.map ents clock) w := by simp [getObj, Sem.run, q1]
        have hset : ∀ ob, (setObj b ob).run P w = .ok () { w with heap := w.heap.setIfInBounds b ob } := fun ob => by simp [setObj, Sem.run, q1]
        cases hf : kall ks (aggD D) k es with
        | none => rw [hf] at hl; cases hl
        | some r =>
          rw [hf] at hl
          cases r with
          | some _ => cases hl
          | none =>
            simp only [Rs.ok.injEq] at hl
            obtain ⟨rfl, rfl⟩ := hl
            obtain ⟨q, hq, hqr⟩ := kall_find ((kall_perm hp2).symm.trans hf) 0
            obtain ⟨r', k1, k2⟩ := findKey_ok (P := P) (w := w) hd hs hu hk q3 q4 hq
            cases q with
            | some q => cases hqr
            | none =>
              have : r' = none := k2
              subst this
              refine ⟨rfl, _, ?_, h.putObj (y := .dfr (.pmap (es ++ [(k, v)]))) (.map (ents.push { key := k', val := v', born := clock }) (clock + 1)) hg hmu hB ?_⟩
              · simp only [Instr.mapUpdate, Sem.run_bind, run_underlying ht, Result.andThen_ok, hget, hck, k1, hset]
              · refine ⟨rfl, hB, _, by simp [hlt], es2 ++ [(k, v)], ents.push { key := k', val := v', born := clock }, clock + 1, hp2.append_right _, rfl, ?_, ?_⟩
                · simpa using q3.append (LR.cons hk (LR.nil μ))
                · simpa using q4.append (LR.cons hv (LR.nil μ))
end Cr
end Go.Proofs.YtekbkaipdmklpaaGreatDoor
namespace Go.Proofs.YtekbkaipdmklpaaGreatDoor
namespace Cr
open Go Go.RowKit

/-- what a new block gives -/
def NewOk (P : Program) (G B : Nat) (w0 : W0) (H : AH) (μ : Mu) (w : World) (n : Nat) (sh : Nat → Value) (s : Sem Value) : Prop :=
  ∃ v' w' μ', s.run P w = .ok v' w' ∧ VR μ' (sh n) v' ∧ HR G B w0 H μ' w' ∧ Ext μ μ' ∧ ∀ j, j ≠ n → μ' j = μ j
theorem new_pat {G B : Nat} {w0 : W0} {H : AH} {μ : Mu} {w : World} (h : HR G B w0 H μ w) {n N zl : Nat} {zs : List Value} {cur : Array Value} (e : TypeId) (hn : H.get n = some (.cells true N zl zs .nil)) (hu : μ n = none)
    (hc : ∀ k, k < N → ∃ v', cur[k]? = some v' ∧ VR μ (nth zs (k % zl)) v') : HR G B w0 H (μ.bind n (w.heap.size, 0) cur.size) (w.alloc (.cells cur e)) := by
  refine h.allocAt hn hu ⟨cur, e, (0, 0), heap_new w _, fun _ => ⟨rfl, h.base, by omega⟩, fun k hk => ?_⟩
  obtain ⟨v', h1, h2⟩ := hc k hk
  exact ⟨v', by simpa using h1, h2.ext (Mu.ext_bind hu)⟩
theorem new_list {G B : Nat} {w0 : W0} {H : AH} {μ : Mu} {w : World} (h : HR G B w0 H μ w) {n N : Nat} {l l' : List Value} (e : TypeId) (hl : LR μ l l') (hN : N = l.length) (hn : H.get n = some (.cells true N N l .nil)) (hu : μ n = none) :
    HR G B w0 H (μ.bind n (w.heap.size, 0) l'.length) (w.alloc (.cells ⟨l'⟩ e)) := by
  refine new_pat h e hn hu fun k hk => ?_
  rw [nth_eq, Nat.mod_eq_of_lt hk]
  have hk' : k < l.length := by omega
  obtain ⟨v', e', hv⟩ := hl.som (List.getElem?_eq_getElem hk')
  refine ⟨v', by simpa using e', ?_⟩
  rw [List.getD_eq_getElem?_getD, List.getElem?_eq_getElem hk']
  exact hv
theorem bind_other {μ : Mu} {n : Nat} {p : Nat × Nat} {T : Nat} : ∀ j, j ≠ n → (μ.bind n p T) j = μ j := fun _ h => Mu.bind_ne h
def shP (i : Nat) : Value := .pointer (some ⟨i, 0, none⟩)
def shM (i : Nat) : Value := .map (some i)
def shS (l c : Nat) (i : Nat) : Value := .slice (some ⟨i, 0, none⟩) l c

theorem gNew_ok {P : Program} {G B : Nat} {w0 : W0} {H : AH} {μ : Mu} {w : World} (h : HR G B w0 H μ w) {t : TypeId} {ti : TypeInfo} {z : Value} (hi : P.info? t = some ti) (hz : ti.zero = some z)
    {N : Nat} {zs : List Value} (hzs : z.cells.toList = zs) (hN : N = zs.length) (hsc : zs.all scalar = true) {n : Nat} (hn : H.get n = some (.cells true N N zs .nil)) (hu : μ n = none) : NewOk P G B w0 H μ w n shP (Instr.alloc t true (.tuple #[])) := by
  have nx := new_list h t (LR.scalars (μ := μ) hsc) hN hn hu
  refine ⟨_, _, _, ?_, VR.new, nx, Mu.ext_bind hu, bind_other⟩
  subst hzs
  simp [Instr.alloc, run_zeroValue hi hz, newVar, newRow]
noncomputable def gBox (x : Value) : Option (Blk × (Nat → Value)) :=
  match x with
  | .agg ⟨l⟩ => forceN l.length fun n => some (.cells true n n l .nil, shP)
  | .tuple _ => none
  | x => some (.cells true 1 1 [x] .nil, shP)
theorem gBox_ok {P : Program} {G B : Nat} {w0 : W0} {H : AH} {μ : Mu} {w : World} (h : HR G B w0 H μ w) {t : TypeId} {x x' : Value} (hx : VR μ x x') {y : Blk} {sh : Nat → Value} (hg : gBox x = some (y, sh)) {n : Nat} (hn : H.get n = some y) (hu : μ n = none) :
    NewOk P G B w0 H μ w n sh (Instr.box t x') := by
  have single : one x = true → some (Blk.cells true 1 1 [x] .nil, shP) = some (y, sh) → NewOk P G B w0 H μ w n sh (Instr.box t x') := by
    intro ho hs
    injection hs with hs
    injection hs with e1 e2
    subst e1 e2
    have nx := new_list h t (LR.cons hx (LR.nil μ)) rfl hn hu
    refine ⟨_, _, _, ?_, VR.new, nx, Mu.ext_bind hu, bind_other⟩
    simp [Instr.box, newVar, newRow, oneCell_cells (hx.one ho)]
  cases hx with
  | agg l l' hl hc =>
    simp only [gBox, forceN_eq] at hg
    injection hg with hg
    injection hg with e1 e2
    subst e1 e2
    have nx := new_list h t (⟨hl, hc⟩ : LR μ l l') rfl hn hu
    refine ⟨_, _, _, ?_, VR.new, nx, Mu.ext_bind hu, bind_other⟩
    simp [Instr.box, newVar, newRow, Value.cells]
  | tuple l l' hl hc => cases hg
  | _ => exact single rfl hg
theorem gMkm_ok {P : Program} {G B : Nat} {w0 : W0} {H : AH} {μ : Mu} {w : World} (h : HR G B w0 H μ w) {t : TypeId} {n : Nat} (hn : H.get n = some (.map true [])) (hu : μ n = none) : NewOk P G B w0 H μ w n shM (Instr.makeMap t none) := by
  refine ⟨.map (some w.heap.size), w.alloc (.map #[] 0), μ.bind n (w.heap.size, 0) 0, by simp [Instr.makeMap], .map _ _ Mu.bind_same, h.allocAt hn hu ?_, Mu.ext_bind hu, bind_other⟩
  exact ⟨rfl, [], #[], 0, rfl, heap_new w _, fun _ => ⟨h.base, Bn.nil⟩, LR.nil _, LR.nil _⟩
noncomputable def gMks (size bytes : Nat) (zs : List Value) (l c : Value) : Option (Blk × (Nat → Value)) :=
  match l with
  | .int _ (.ofNat l) => match c with
    | .int _ (.ofNat c) => forceN l fun l => forceN c fun c =>
      bif Nat.ble l c && (Nat.blt c 4611686018427387904 && Nat.blt (Nat.mul c bytes) 140737488355328) then
        forceN (Nat.mul c size) fun N => some (.cells true N size zs .nil, shS l c) else none
    | _ => none
  | _ => none
theorem gMks_ok {P : Program} {G B : Nat} {w0 : W0} {H : AH} {μ : Mu} {w : World} (h : HR G B w0 H μ w) {t e : TypeId} {ti : TypeInfo} {z : Value} (hu : P.underlying t = some (.slice e)) (hi : P.info? e = some ti)
    (hz : ti.zero = some z) {zs : List Value} (hzs : z.cells.toList = zs) (hn : ti.size = zs.length) (hpos : ti.size ≠ 0) (hsc : zs.all scalar = true) {l l' c c' : Value} (hl : VR μ l l') (hc : VR μ c c') {y : Blk} {sh : Nat → Value}
    (hs : gMks ti.size ti.bytes zs l c = some (y, sh)) {k : Nat} (hk : H.get k = some y) (huk : μ k = none) : NewOk P G B w0 H μ w k sh (Instr.makeSlice t l' c') := by
  cases hl with
  | int kd n =>
    cases n with
    | negSucc n => simp [gMks] at hs
    | ofNat n =>
      cases hc with
      | int kd' m =>
        cases m with
        | negSucc m => simp [gMks] at hs
        | ofNat m =>
          simp only [gMks, forceN_eq] at hs
          cases hb : (Nat.ble n m && (Nat.blt m 4611686018427387904 && Nat.blt (Nat.mul m ti.bytes) 140737488355328)) with
          | false => rw [hb] at hs; cases hs
          | true =>
            rw [hb] at hs
            simp only [cond_true, Option.some.injEq, Prod.mk.injEq] at hs
            obtain ⟨rfl, rfl⟩ := hs
            simp only [Bool.and_eq_true, Nat.blt_eq] at hb
            obtain ⟨b2, b3, b4⟩ := hb
            have b2' : n ≤ m := Nat.le_of_ble_eq_true b2
            have b4' : m * ti.bytes < 140737488355328 := b4
            have hw1 := wrap_small b3
            have hw2 : IntKind.i64.wrap (Int.ofNat n) = Int.ofNat n := wrap_small (by omega)
            have nx := new_pat (cur := (Array.range (m * ti.size)).map (fun i => (if m * ti.size = 0 then #[] else z.cells)[i % (if m * ti.size = 0 then #[] else z.cells).size]!)) h e hk huk (by
              intro k hk
              have hk' : k < m * ti.size := hk
              have hne : m * ti.size ≠ 0 := by omega
              have hmod : k % ti.size < zs.length := by rw [← hn]; exact Nat.mod_lt _ (by omega)
              have hsz : z.cells.size = ti.size := by rw [hn, ← hzs]; simp
              refine ⟨zs[k % ti.size], ?_, ?_⟩
              · simp only [hne, if_false]
                rw [Array.getElem?_map]
                simp only [Array.getElem?_range, hk', if_true, Option.map_some]
                rw [hsz]
                subst hzs
                simp at hmod
                simp [getElem!_pos, hmod]
              · rw [nth_eq, List.getD_eq_getElem?_getD, List.getElem?_eq_getElem hmod]
                exact VR.scalar (List.all_eq_true.1 hsc _ (List.getElem_mem hmod)))
            refine ⟨.slice (some ⟨w.heap.size, 0, none⟩) n m, _, _, ?_, VR.newS (by omega), nx, Mu.ext_bind huk, bind_other⟩
            have t1 : ¬ ((ti.bytes : Int) * (m : Int) > 2 ^ 48) := by
              have : ((m * ti.bytes : Nat) : Int) < 140737488355328 := by omega
              have e2 : (ti.bytes : Int) * (m : Int) = ((m * ti.bytes : Nat) : Int) := by rw [Nat.mul_comm]; simp
              rw [e2]; omega
            have t2 : ¬ ((Int.ofNat m : Int) < 0) := by simp
            have t3 : ¬ ((Int.ofNat n : Int) < 0) := by simp
            have t4 : ¬ ((Int.ofNat n : Int) > Int.ofNat m) := by simp; omega
            have t5 : ((decide ((Int.ofNat m : Int) < 0) || decide ((ti.bytes : Int) * (Int.ofNat m) > 2 ^ 48)) || decide ((Int.ofNat n : Int) < 0) || decide ((Int.ofNat n : Int) > Int.ofNat m)) = false := by
              simp only [t2, t3, t4, decide_false, Bool.or_false, Bool.false_or, decide_eq_false_iff_not]
              exact t1
            simp only [Instr.makeSlice, Sem.run_bind, run_underlying hu, Result.andThen_ok, asInt, asIntOf, Sem.run_pure, run_typeInfo hi, hw1, hw2]
            rw [if_neg (by rw [t5]; simp)]
            simp [run_sizeOf hi, run_zeroValue hi hz, newRow]
            by_cases h0 : m * ti.size = 0
            · simp [h0]
            · simp [h0]
      | _ => simp [gMks] at hs
  | _ => simp [gMks] at hs
noncomputable def gBsl (len size : Nat) (zs : List Value) (ps : List (Nat × Nat × Value)) : Option (Blk × (Nat → Value)) :=
  bif Nat.ble (Nat.mul len size) 16777216 then
    forceN (Nat.mul len size) fun N => Option.rec (motive := fun _ => Option (Blk × (Nat → Value))) none (fun r => some (.cells true N N r .nil, shS len len)) (sFill ps (cellsL size zs .nil N 0))
  else none
theorem gBsl_ok {P : Program} {G B : Nat} {w0 : W0} {H : AH} {μ : Mu} {w : World} (h : HR G B w0 H μ w) {t e : TypeId} {ti : TypeInfo} {z : Value} (hu : P.underlying t = some (.slice e)) (hi : P.info? e = some ti)
    (hz : ti.zero = some z) {zs : List Value} (hzs : z.cells.toList = zs) (hn : ti.size = zs.length) (hsc : zs.all scalar = true) {len : Nat} (hlen : len < 9223372036854775807) {ps : List (Nat × Nat × Value)} {qs : List (Nat × Value)}
    (hp : Parts μ (fun i => some (i * ti.size, ti.size)) ps qs) {y : Blk} {sh : Nat → Value} (hs : gBsl len ti.size zs ps = some (y, sh)) {k : Nat} (hk : H.get k = some y) (huk : μ k = none) : NewOk P G B w0 H μ w k sh (Instr.buildSlice t len ⟨qs⟩) := by
  unfold gBsl at hs
  rw [forceN_eq] at hs
  cases hb : Nat.ble (Nat.mul len ti.size) 16777216 with
  | false => rw [hb] at hs; cases hs
  | true =>
    rw [hb, cond_true] at hs
    have b2 : len * ti.size ≤ 16777216 := Nat.le_of_ble_eq_true hb
    cases hf : sFill ps (cellsL ti.size zs .nil (Nat.mul len ti.size) 0) with
    | none => rw [hf] at hs; cases hs
    | some r =>
      rw [hf] at hs
      simp only [Option.some.injEq, Prod.mk.injEq] at hs
      obtain ⟨rfl, rfl⟩ := hs
      have hsz : z.cells.size = ti.size := by rw [hn, ← hzs]; simp
      have hl0 : LR μ (cellsL ti.size zs .nil (len * ti.size) 0) ((Array.range (len * ti.size)).map (fun i => (if len * ti.size = 0 then #[] else z.cells)[i % (if len * ti.size = 0 then #[] else z.cells).size]!)).toList := by
        refine LR.of (by rw [cellsL_length]; simp) fun j u hj => ?_
        have hjl : j < len * ti.size := by
          have := (List.getElem?_eq_some_iff.1 hj).1
          rw [cellsL_length] at this
          exact this
        rw [cellsL_get _ _ _ _ _ _ hjl] at hj
        injection hj with hj
        subst hj
        have hne : len * ti.size ≠ 0 := by omega
        have hpos : ti.size ≠ 0 := fun e => hne (by rw [e]; rfl)
        have hmod : j % ti.size < zs.length := by rw [← hn]; exact Nat.mod_lt _ (by omega)
        refine ⟨zs[j % ti.size], ?_, ?_⟩
        · simp only [hne, if_false]
          rw [Array.getElem?_toList, Array.getElem?_map]
          simp only [Array.getElem?_range, hjl, if_true, Option.map_some]
          rw [hsz]
          subst hzs
          simp at hmod
          simp [getElem!_pos, hmod]
        · show VR μ (nth zs ((0 + j) % ti.size)) _
          rw [Nat.zero_add, nth_eq, List.getD_eq_getElem?_getD, List.getElem?_eq_getElem hmod]
          exact VR.scalar (List.all_eq_true.1 hsc _ (List.getElem_mem hmod))
      obtain ⟨r', k1, k2⟩ := sFill_ok (place := fun i => some (i * ti.size, ti.size)) ps qs _ _ r hp.1 hp.2 hl0 hf
      have hrl : Nat.mul len ti.size = r.length := by rw [sFill_length _ _ _ hf, cellsL_length]
      have nx := new_list h e k2 hrl hk huk
      refine ⟨.slice (some ⟨w.heap.size, 0, none⟩) len len, _, _, ?_, VR.newS (by omega), nx, Mu.ext_bind huk, bind_other⟩
      have c1 : ¬ (len * ti.size > 2 ^ 24) := by omega
      simp only [Instr.buildSlice, Sem.run_bind, run_underlying hu, Result.andThen_ok, run_sizeOf hi, c1, if_false]
      by_cases h0 : len * ti.size = 0
      · simp only [h0, if_true] at k1 ⊢
        simp only [Sem.run_bind, Sem.run_pure, Result.andThen_ok]
        rw [show (Array.map (fun x => (#[] : Array Value)[x % (#[] : Array Value).size]!) (Array.range 0)) = ⟨((Array.map (fun x => (#[] : Array Value)[x % (#[] : Array Value).size]!) (Array.range 0))).toList⟩ from rfl, k1]
        simp [newRow]
      · simp only [h0, if_false] at k1 ⊢
        simp only [Sem.run_bind, Sem.run_pure, Result.andThen_ok, run_zeroValue hi hz]
        rw [show (Array.map (fun x => z.cells[x % z.cells.size]!) (Array.range (len * ti.size))) = ⟨(Array.map (fun x => z.cells[x % z.cells.size]!) (Array.range (len * ti.size))).toList⟩ from rfl, k1]
        simp [newRow]

/-! ### strings and bytes -/
def byteV (b : UInt8) : Value := .int .u8 (.ofNat b.toNat)
noncomputable def gS2b (x : Value) : Option (Blk × (Nat → Value)) :=
  match x with
  | .string s => forceN s.data.toList.length fun n => bif Nat.blt n 1073741824 then some (.cells false n n (s.data.toList.map byteV) .nil, shS n (Nat.add 36893488147419103232 n)) else none
  | _ => none
theorem freeze_new (w : World) (cur : Array Value) (e : TypeId) : (w.alloc (.cells cur e)).freeze { block := w.heap.size, off := cur.size } 1 = w.alloc (.cells cur e (cur.size, cur.size + 1)) := by
  unfold World.freeze World.alloc
  simp only [Nat.one_ne_zero, if_false]
  congr 1
  apply Array.ext_getElem?
  intro i
  rw [Array.getElem?_modify, Array.getElem?_push, Array.getElem?_push]
  by_cases h : i = w.heap.size
  · subst h; simp
  · simp [h, Ne.symm h]
theorem gS2b_ok {P : Program} {G B : Nat} {w0 : W0} {H : AH} {μ : Mu} {w : World} (h : HR G B w0 H μ w) {src dst e : TypeId} {D : TypeDesc} (hs : P.underlying src = some D) (hd : P.underlying dst = some (.slice e)) (he : P.underlying e = some (.int .u8)) {x x' : Value} (hx : VR μ x x')
    {y : Blk} {sh : Nat → Value} (hg : gS2b x = some (y, sh)) {n : Nat} (hn : H.get n = some y) (hu : μ n = none) : NewOk P G B w0 H μ w n sh (convert src dst x') := by
  cases hx with
  | string s =>
    simp only [gS2b, forceN_eq] at hg
    cases hb : Nat.blt s.data.toList.length 1073741824 with
    | false => rw [hb] at hg; cases hg
    | true =>
      rw [hb] at hg
      simp only [cond_true, Option.some.injEq, Prod.mk.injEq] at hg
      obtain ⟨rfl, rfl⟩ := hg
      have hlt : s.data.toList.length < 1073741824 := by simpa [Nat.blt_eq] using hb
      have hssz : s.size = s.data.toList.length := by rfl
      generalize hcap : (Question.appendCap s.size 0 e).cut (w.tape w.drawn (Question.appendCap s.size 0 e)) = cap
      have hcapge : s.size ≤ cap := by rw [← hcap]; simp [Question.cut]
      generalize hcur : (s.data.map fun b => Value.int .u8 b.toNat) ++ Array.replicate (cap - s.size) (.int .u8 0) = cur
      have hcsz : cur.size = cap := by
        rw [← hcur]
        simp only [Array.size_append, Array.size_map, Array.size_replicate]
        have : s.data.size = s.size := rfl
        omega
      have hd' : HR G B w0 H μ w.drew := h.drew
      have hhr : HR G B w0 H (μ.bind n (w.drew.heap.size, 0) cap) (w.drew.alloc (.cells cur e (cur.size, cur.size + 1))) := by
        refine hd'.allocAt hn hu ⟨cur, e, _, heap_new _ _, (fun hf => by cases hf), fun k hk => ?_⟩
        have hk' : k < s.data.toList.length := hk
        refine ⟨byteV s.data.toList[k], ?_, ?_⟩
        · rw [← hcur, Nat.zero_add, Array.getElem?_append_left (by simpa using hk')]
          rw [Array.getElem?_map, ← Array.getElem?_toList, List.getElem?_eq_getElem hk']
          rfl
        · have e1 : cellv s.data.toList.length (s.data.toList.map byteV) .nil k = byteV s.data.toList[k] := by
            show nth _ (k % _) = _
            rw [Nat.mod_eq_of_lt hk', nth_eq, List.getD_eq_getElem?_getD, List.getElem?_map, List.getElem?_eq_getElem hk']
            rfl
          rw [e1]; exact .int _ _
      refine ⟨.slice (some ⟨w.heap.size, 0, none⟩) s.size cap, _, _, ?_, ?_, hhr, Mu.ext_bind hu, bind_other⟩
      · have hfz := freeze_new w.drew cur e
        have hsh : (w.drew.alloc (.cells cur e)).shape? w.heap.size = some (e, cur.size) := by
          have := heap_new w.drew (.cells cur e)
          unfold World.shape?
          rw [show w.heap.size = w.drew.heap.size from rfl, this]
        have hrow : ∀ cs, (newRow e cs).run P w.drew = .ok ⟨w.heap.size, 0, none⟩ (w.drew.alloc (.cells cs e)) := fun cs => rfl
        have hchoose : (choose (.appendCap s.size 0 e)).run P w = .ok cap w.drew := by
          rw [← hcap]
          rfl
        have hmark : (markStringish ⟨w.heap.size, 0, none⟩).run P (w.drew.alloc (.cells cur e)) = .ok () (w.drew.alloc (.cells cur e (cur.size, cur.size + 1))) := by
          rw [← hfz]
          simp [markStringish, hsh]
        simp only [convert, Sem.run_bind, run_underlying hs, run_underlying hd, Result.andThen_ok]
        have hconv : (Conv.stringToBytes e s).run P w = .ok (.slice (some ⟨w.heap.size, 0, none⟩) s.size cap) (w.drew.alloc (.cells cur e (cur.size, cur.size + 1))) := by
          simp only [Conv.stringToBytes, Sem.run_bind, hchoose, Result.andThen_ok, hcur, hrow, hmark, Sem.run_pure]
        cases D <;> simp only [run_underlying he, Result.andThen_ok, hconv]
      · have := VR.sl (μ := μ.bind n (w.heap.size, 0) cap) n w.heap.size 0 0 s.size (18446744073709551616 * (1 + 1) + s.size) cap Mu.bind_same
          (by rw [Mu.tot_same]; exact CapR.grown (by omega) hcapge (by omega))
        exact this
  | _ => cases hg
/-- the bytes of cells -/
def bytesOf : List Value → Option (List Nat)
  | [] => some []
  | .int .u8 (.ofNat n) :: l => match bytesOf l with
    | none => none
    | some r => some (n :: r)
  | _ :: _ => none
noncomputable def rB2s (x : Value) (H : AH) : Option Value :=
  match x with
  | .slice none _ _ => some (.string ⟨⟨[]⟩⟩)
  | x => match sliceCells 1 x H with
    | none => none
    | some l => match bytesOf l with
      | none => none
      | some r => some (.string ⟨⟨r.map UInt8.ofNat⟩⟩)
theorem bytesOf_ok {μ : Mu} : ∀ {l l' : List Value} {r : List Nat}, bytesOf l = some r → LR μ l l' → l' = (r.map Int.ofNat).map (Value.int .u8)
  | [], l', r, h, hl => by
    simp only [bytesOf, Option.some.injEq] at h
    subst h
    exact hl.nil_inv
  | x :: l, l', r, h, hl => by
    obtain ⟨x', q, rfl, hx, hq⟩ := hl.cons_inv
    cases hx with
    | int k n =>
      cases k <;> cases n <;> simp only [bytesOf] at h <;> try cases h
      rename_i n
      cases hb : bytesOf l with
      | none => rw [hb] at h; cases h
      | some r2 =>
        rw [hb] at h
        simp only [Option.some.injEq] at h
        subst h
        rw [bytesOf_ok hb hq]
        rfl
    | _ => simp [bytesOf] at h
theorem foldl_push : ∀ (r : List Nat) (s : ByteArray), (r.map Int.ofNat).foldl (fun (s : ByteArray) (n : Int) => s.push (UInt8.ofNat n.toNat)) s = ⟨⟨s.data.toList ++ r.map UInt8.ofNat⟩⟩
  | [], s => by simp
  | n :: r, s => by
    simp only [List.map_cons, List.foldl_cons]
    rw [foldl_push r]
    obtain ⟨⟨l⟩⟩ := s
    simp [ByteArray.push]
theorem rB2s_mono {x : Value} {H H' : AH} {v : Value} (h : rB2s x H = some v) (hs : ∀ i y, H.get i = some y → H'.get i = some y) : rB2s x H' = some v := by
  have hc : ∀ l, sliceCells 1 x H = some l → sliceCells 1 x H' = some l := by
    intro l e
    unfold sliceCells at e ⊢
    split at e
    · exact e
    · rename_i i o m c
      cases hb : Nat.beq (Nat.mul m 1) 0 with
      | true => rw [hb] at e; exact e
      | false =>
        rw [hb, cond_false] at e
        rw [cond_false]
        cases hg : H.get i with
        | none => rw [hg] at e; cases e
        | some y => rw [hs _ _ hg]; rw [hg] at e; exact e
    · exact e
    · cases e
  unfold rB2s at h ⊢
  split at h
  · exact h
  · rename_i hx
    cases h1 : sliceCells 1 x H with
    | none => rw [h1] at h; cases h
    | some l => rw [h1] at h; rw [hc l h1]; exact h
theorem rB2s_ok {P : Program} {G B : Nat} {w0 : W0} {H : AH} {μ : Mu} {w : World} (h : HR G B w0 H μ w) {src dst e : TypeId} (hs : P.underlying src = some (.slice e)) (he : P.underlying e = some (.int .u8)) (hd : P.underlying dst = some .string) {x x' v : Value} (hx : VR μ x x')
    (hl : rB2s x H = some v) : ∃ v', (convert src dst x').run P w = .ok v' w ∧ VR μ v v' := by
  have main : ∀ {b : Option Addr} {m c' : Nat}, x' = .slice b m c' → b.isSome = true → (match sliceCells 1 x H with
      | none => none
      | some l => match bytesOf l with
        | none => none
        | some r => some (Value.string ⟨⟨r.map UInt8.ofNat⟩⟩)) = some v → ∃ v', (convert src dst x').run P w = .ok v' w ∧ VR μ v v' := by
    intro b0 m0 c0 e0 hb0 hl
    cases h1 : sliceCells 1 x H with
    | none => rw [h1] at hl; cases hl
    | some l =>
      rw [h1] at hl
      simp only at hl
      cases h2 : bytesOf l with
      | none => rw [h2] at hl; cases hl
      | some r =>
        rw [h2] at hl
        simp only [Option.some.injEq] at hl
        subst hl
        obtain ⟨b, m, c, c', l', rfl, _, q3, q4, q5⟩ := sliceCells_ok (P := P) h hx h1
        injection e0 with s1 s2 s3
        subst s1 s2 s3
        cases b with
        | none => cases hb0
        | some a =>
          have hload : (loadCells a m).run P w = .ok ((r.map Int.ofNat).map (Value.int .u8)).toArray w := by
            have := q5 w rfl
            rw [bytesOf_ok h2 q3] at this
            simpa [Builtin.firstCells] using this
          refine ⟨_, (run_convert_bytes_string w src dst e (some a) m c' hs he hd).trans (run_bytesToString w a m c' _ hload), ?_⟩
          rw [foldl_push]
          exact .string _
  cases hx with
  | sl0 n c =>
    simp only [rB2s, Option.some.injEq] at hl
    subst hl
    exact ⟨.string .empty, by rw [run_convert_bytes_string w src dst e none n c hs he hd]; rfl, .string _⟩
  | sl i b o off n c c' hm hc => exact main rfl rfl hl
  | slE a c' => exact main rfl rfl hl
  | _ => simp [rB2s, sliceCells] at hl
end Cr
end Go.Proofs.YtekbkaipdmklpaaGreatDoor
namespace Go.Proofs.YtekbkaipdmklpaaGreatDoor
namespace Cr
open Go Go.RowKit

/-! ### operands -/
def l1 (g : Value → Option Value) : List Value → Option Value
  | [x] => g x
  | _ => none
def l2 (g : Value → Value → Option Value) : List Value → Option Value
  | [x, y] => g x y
  | _ => none
def l3 (g : Value → Value → Value → Option Value) : List Value → Option Value
  | [x, y, z] => g x y z
  | _ => none
theorem LR.one {μ : Mu} {vs : List Value} {a : Value} (h : LR μ vs [a]) : ∃ x, vs = [x] ∧ VR μ x a := by
  cases vs with
  | nil => have := h.len; simp at this
  | cons x vs =>
    obtain ⟨x', r, e, hx, hr⟩ := h.cons_inv
    injection e with e1 e2
    subst e1 e2
    have : vs = [] := by have := hr.len; simpa using this
    subst this
    exact ⟨x, rfl, hx⟩
theorem LR.cons' {μ : Mu} {vs : List Value} {a : Value} {r : List Value} (h : LR μ vs (a :: r)) : ∃ x us, vs = x :: us ∧ VR μ x a ∧ LR μ us r := by
  cases vs with
  | nil => have := h.len; simp at this
  | cons x vs =>
    obtain ⟨x', r', e, hx, hr⟩ := h.cons_inv
    injection e with e1 e2
    subst e1 e2
    exact ⟨x, vs, rfl, hx, hr⟩
theorem LR.two {μ : Mu} {vs : List Value} {a b : Value} (h : LR μ vs [a, b]) : ∃ x y, vs = [x, y] ∧ VR μ x a ∧ VR μ y b := by
  obtain ⟨x, us, rfl, hx, hu⟩ := h.cons'
  obtain ⟨y, rfl, hy⟩ := hu.one
  exact ⟨x, y, rfl, hx, hy⟩
theorem LR.three {μ : Mu} {vs : List Value} {a b c : Value} (h : LR μ vs [a, b, c]) : ∃ x y z, vs = [x, y, z] ∧ VR μ x a ∧ VR μ y b ∧ VR μ z c := by
  obtain ⟨x, us, rfl, hx, hu⟩ := h.cons'
  obtain ⟨y, z, rfl, hy, hz⟩ := hu.two
  exact ⟨x, y, z, rfl, hx, hy, hz⟩
/-- the operation yields the value of a computation -/
def Vof (s : Sem Value) : Sem Next := do pure (.value (← s))
theorem run_Vof {P : Program} {s : Sem Value} {w w' : World} {v : Value} (h : s.run P w = .ok v w') : (Vof s).run P w = .ok (.value v) w' := by simp [Vof, h]
def Uof (s : Sem Unit) : Sem Next := do s; pure .skip
theorem run_Uof {P : Program} {s : Sem Unit} {w w' : World} (h : s.run P w = .ok () w') : (Uof s).run P w = .ok .skip w' := by simp [Uof, h]

section sound
variable {P : Program} {o : Oper}
theorem sound_p1 {x : Operand} {g : Value → Option Value} {s : Value → Sem Value} (nd : ∀ c, o.op ≠ .defer c) (he : ∀ ρ, execOp ρ o = Vof (s (ρ x)))
    (h : ∀ {μ : Mu} {w : World} {x x' v : Value}, VR μ x x' → g x = some v → ∃ v', (s x').run P w = .ok v' w ∧ VR μ v v') : CSound P o (.p (l1 g)) [x] := by
  refine ⟨nd, fun μ w ρ vs v hl hg => ?_⟩
  obtain ⟨a, rfl, ha⟩ := hl.one
  obtain ⟨v', r1, r2⟩ := h (w := w) ha hg
  exact ⟨v', by rw [he]; exact run_Vof r1, r2⟩
theorem sound_p2 {x y : Operand} {g : Value → Value → Option Value} {s : Value → Value → Sem Value} (nd : ∀ c, o.op ≠ .defer c) (he : ∀ ρ, execOp ρ o = Vof (s (ρ x) (ρ y)))
    (h : ∀ {μ : Mu} {w : World} {x x' y y' v : Value}, VR μ x x' → VR μ y y' → g x y = some v → ∃ v', (s x' y').run P w = .ok v' w ∧ VR μ v v') : CSound P o (.p (l2 g)) [x, y] := by
  refine ⟨nd, fun μ w ρ vs v hl hg => ?_⟩
  obtain ⟨a, b, rfl, ha, hb⟩ := hl.two
  obtain ⟨v', r1, r2⟩ := h (w := w) ha hb hg
  exact ⟨v', by rw [he]; exact run_Vof r1, r2⟩
end sound

/-! ### compilation -/
/-- the cells of a type's zero, if they are all plain -/
def zeroOf (P : Program) (t : TypeId) : Option (Nat × Nat × List Value) :=
  match P.info? t with
  | none => none
  | some ti => match ti.zero with
    | none => none
    | some z => match z.cells.toList with
      | zs => bif zs.all scalar && Nat.beq ti.size zs.length then some (ti.size, ti.bytes, zs) else none
theorem zeroOf_ok {P : Program} {t : TypeId} {n b : Nat} {zs : List Value} (h : zeroOf P t = some (n, b, zs)) :
    ∃ ti z, P.info? t = some ti ∧ ti.zero = some z ∧ z.cells.toList = zs ∧ ti.size = n ∧ ti.bytes = b ∧ zs.all scalar = true ∧ n = zs.length := by
  unfold zeroOf at h
  cases hi : P.info? t with
  | none => rw [hi] at h; cases h
  | some ti =>
    rw [hi] at h
    simp only at h
    cases hz : ti.zero with
    | none => rw [hz] at h; cases h
    | some z =>
      rw [hz] at h
      simp only at h
      cases hb : (z.cells.toList.all scalar && Nat.beq ti.size z.cells.toList.length) with
      | false => rw [hb] at h; cases h
      | true =>
        rw [hb] at h
        simp only [cond_true, Option.some.injEq, Prod.mk.injEq] at h
        obtain ⟨rfl, rfl, rfl⟩ := h
        simp only [Bool.and_eq_true] at hb
        exact ⟨ti, z, rfl, hz, rfl, rfl, rfl, hb.1, Nat.eq_of_beq_eq_true hb.2⟩
def cFa (P : Program) (s f : Nat) : Option COp :=
  match P.underlying s with
  | some (.struct fs) => match fs[f]? with
    | none => none
    | some fd => match P.info? fd.type with
      | none => none
      | some ti => bif Nat.beq ti.size 0 then none else some (.p (l1 (pFa fd.offset)))
  | _ => none
noncomputable def cFld (P : Program) (s f : Nat) : Option COp :=
  match P.underlying s with
  | some (.struct fs) => match fs[f]? with
    | none => none
    | some fd => match aggOf P fd.type with
      | none => none
      | some n => some (.p (l1 (pFld n fd.offset)))
  | _ => none
def cIxa (P : Program) (t : TypeId) : Option COp :=
  match P.underlying t with
  | some (.slice e) => match P.info? e with
    | none => none
    | some ti => some (.p (l2 (pIxs ti.size)))
  | some (.array n e) => match P.info? e with
    | none => none
    | some ti => some (.p (l2 (pIxa n ti.size)))
  | _ => none
noncomputable def cIx (P : Program) (t : TypeId) : Option COp :=
  match P.underlying t with
  | some (.array n e) => match P.info? e with
    | none => none
    | some ti => match aggOf P e with
      | none => none
      | some m => some (.p (l2 (pIx n m ti.size)))
  | some .string => some (.p (l2 pIxStr))
  | _ => none
noncomputable def rLd (x : Value) (H : AH) : Option Value :=
  match sLd x H with
  | .ok v _ => some v
  | .bad => none
noncomputable def rLdn (n : Nat) (x : Value) (H : AH) : Option Value :=
  match sLdn n x H with
  | .ok v _ => some v
  | .bad => none
noncomputable def r1 (g : Value → AH → Option Value) (vs : List Value) (H : AH) : Option Value :=
  match vs with
  | [x] => g x H
  | _ => none
noncomputable def r2 (g : Value → Value → AH → Option Value) (vs : List Value) (H : AH) : Option Value :=
  match vs with
  | [x, y] => g x y H
  | _ => none
noncomputable def m1 (g : Value → AH → Rs) (vs : List Value) (H : AH) : Rs :=
  match vs with
  | [x] => g x H
  | _ => .bad
noncomputable def m2 (g : Value → Value → AH → Rs) (vs : List Value) (H : AH) : Rs :=
  match vs with
  | [x, y] => g x y H
  | _ => .bad
noncomputable def m3 (g : Value → Value → Value → AH → Rs) (vs : List Value) (H : AH) : Rs :=
  match vs with
  | [x, y, z] => g x y z H
  | _ => .bad
noncomputable def a1 (g : Value → Option (Blk × (Nat → Value))) (vs : List Value) : Option (Blk × (Nat → Value)) :=
  match vs with
  | [x] => g x
  | _ => none
noncomputable def a2 (g : Value → Value → Option (Blk × (Nat → Value))) (vs : List Value) : Option (Blk × (Nat → Value)) :=
  match vs with
  | [x, y] => g x y
  | _ => none
noncomputable def cLd (P : Program) (t : TypeId) : Option COp :=
  match aggOf P t with
  | none => none
  | some none => some (.r (r1 rLd))
  | some (some n) => some (.r (r1 (rLdn n)))
noncomputable def cSt (P : Program) (t : TypeId) : Option COp :=
  match aggOf P t with
  | none => none
  | some none => match P.info? t with
    | none => none
    | some ti => bif Nat.beq ti.size 1 then some (.m (m2 sSt)) else none
  | some (some n) => some (.m (m2 (sStn n)))
noncomputable def aAl (n : Nat) (zs : List Value) (vs : List Value) : Option (Blk × (Nat → Value)) :=
  match vs with
  | [] => some (.cells true n n zs .nil, shP)
  | _ => none
noncomputable def aMm (vs : List Value) : Option (Blk × (Nat → Value)) :=
  match vs with
  | [] => some (.map true [], shM)
  | _ => none
def mAs (v : Value) (H : AH) : Rs := .ok v H
noncomputable def cAlloc (P : Program) (t : TypeId) : Option COp :=
  match zeroOf P t with
  | none => none
  | some (n, _, zs) => some (.a (aAl n zs))
noncomputable def cMks (P : Program) (t : TypeId) : Option COp :=
  match P.underlying t with
  | some (.slice e) => match zeroOf P e with
    | none => none
    | some (n, b, zs) => bif Nat.beq n 0 then none else some (.a (a2 (gMks n b zs)))
  | _ => none
noncomputable def cConv (P : Program) (s d : TypeId) : Option COp :=
  match P.underlying s with
  | none => none
  | some ds => match P.underlying d with
    | some (.int k) => some (.p (l1 (pConv k)))
    | some (.slice e) => match P.underlying e with
      | some (.int .u8) => match ds with
        | .string => some (.a (a1 gS2b))
        | _ => none
      | _ => none
    | some .string => match ds with
      | .slice e => match P.underlying e with
        | some (.int .u8) => some (.r (r1 rB2s))
        | _ => none
      | _ => none
    | _ => none
def isEqOp : BinOp → Option Bool
  | .eql => some false
  | .neq => some true
  | _ => none
/-- equality by the type -/
def pEqD (d : TypeDesc) (neg : Bool) (x y : Value) : Option Value := bif eqD d x then pEq neg x y else none
def pEqS (ks : List Nat) (neg : Bool) (x y : Value) : Option Value :=
  match x with
  | .agg ⟨l⟩ => match y with
    | .agg ⟨r⟩ => match leqK ks l r with
      | none => none
      | some b => some (.bool (Bool.xor neg b))
    | _ => none
  | _ => none
def cBin (P : Program) (op : BinOp) (t : TypeId) (x y : Operand) : Option COp :=
  match P.underlying t with
  | some (.int _) => some (.p (l2 (pBin op)))
  | some .string => some (.p (l2 (pBin op)))
  | some d => match isEqOp op with
    | none => none
    | some neg => bif aggD d then
        match shp P 6 t with
        | none => none
        | some ks => bif P.eqGuardType P.depth t then none else some (.p (l2 (pEqS ks neg)))
      else bif isC x || isC y || (match d with | .bool => true | _ => false) then some (.p (l2 (pEqD d neg))) else none
  | none => none
/-- slice expressions: which bounds are there -/
noncomputable def pSlB (g : Value → Option Value → Option Value → Option Value → Option Value) (lo hi mx : Bool) (vs : List Value) : Option Value :=
  match vs with
  | [] => none
  | x :: r => match lo with
    | true => (match r with
      | [] => none
      | l :: r => match hi with
        | true => (match r with
          | [] => none
          | h :: r => match mx with
            | true => (match r with
              | [m] => g x (some l) (some h) (some m)
              | _ => none)
            | false => (match r with
              | [] => g x (some l) (some h) none
              | _ => none))
        | false => (match mx with
          | true => none
          | false => (match r with
            | [] => g x (some l) none none
            | _ => none)))
    | false => (match hi with
      | true => (match r with
        | [] => none
        | h :: r => match mx with
          | true => (match r with
            | [m] => g x none (some h) (some m)
            | _ => none)
          | false => (match r with
            | [] => g x none (some h) none
            | _ => none))
      | false => (match mx with
        | true => none
        | false => (match r with
          | [] => g x none none none
          | _ => none)))
noncomputable def cSl (P : Program) (t : TypeId) (lo hi mx : Bool) : Option COp :=
  match P.underlying t with
  | some (.slice e) => match P.info? e with
    | none => none
    | some ti => some (.p (pSlB (pSl ti.size) lo hi mx))
  | some (.array n e) => match P.info? e with
    | none => none
    | some ti => some (.p (pSlB (pSlA n ti.size) lo hi mx))
  | some .string => some (.p (pSlB pSlS lo hi mx))
  | _ => none
def optL : Option Operand → List Operand
  | none => []
  | some x => [x]
noncomputable def cLook (P : Program) (t : TypeId) (ok : Bool) : Option COp :=
  match P.underlying t with
  | some (.map kt et) => match shp P 6 kt with
    | none => none
    | some ks => match P.underlying kt with
      | none => none
      | some D => match P.info? et with
        | none => none
        | some ti => match ti.zero with
          | none => none
          | some z => bif plain z then some (.r (r2 (rLook ks (aggD D) z ok))) else none
  | _ => none
noncomputable def cUpd (P : Program) (t : TypeId) : Option COp :=
  match P.underlying t with
  | some (.map kt _) => match shp P 6 kt with
    | none => none
    | some ks => match P.underlying kt with
      | none => none
      | some D => some (.m (m3 (sUpd ks (aggD D))))
  | _ => none
noncomputable def cApp (P : Program) (ts : Array TypeId) : Option COp :=
  match ts with
  | ⟨[sT, xT]⟩ => match P.underlying sT with
    | some (.slice e) => match P.underlying xT with
      | some (.slice _) => match zeroOf P e with
        | none => none
        | some (n, b, _) => bif Nat.ble (Nat.mul 2147484416 b) 281474976710656 then some (.m (m2 (sApp n))) else none
      | _ => none
    | _ => none
  | _ => none
noncomputable def cCopy (P : Program) (ts : Array TypeId) : Option COp :=
  match ts with
  | ⟨[sT, _]⟩ => match P.underlying sT with
    | some (.slice e) => match P.info? e with
      | none => none
      | some ti => some (.m (m2 (sCopy ti.size)))
    | _ => none
  | _ => none
noncomputable def cLen (P : Program) (ts : Array TypeId) : Option COp :=
  match ts with
  | ⟨[t]⟩ => match P.underlying t with
    | some (.slice _) => some (.p (l1 pLen))
    | some .string => some (.p (l1 pLenS))
    | some (.map _ _) => some (.r (r1 rLenM))
    | _ => none
  | _ => none
noncomputable def cDel (P : Program) (ts : Array TypeId) : Option COp :=
  match ts with
  | ⟨[t, _]⟩ => match P.underlying t with
    | some (.map kt _) => match shp P 6 kt with
      | none => none
      | some ks => match P.underlying kt with
        | none => none
        | some D => some (.m (m2 (sDel ks (aggD D))))
    | _ => none
  | _ => none
noncomputable def cBlt (P : Program) (b : Builtin) (ts : Array TypeId) (args : Array Operand) : Option (COp × List Operand) :=
  match b with
  | .append => (cApp P ts).map fun c => (c, args.toList)
  | .copy => (cCopy P ts).map fun c => (c, args.toList)
  | .len => (cLen P ts).map fun c => (c, args.toList)
  | .max => some (.p (l2 pMax), args.toList)
  | .min => some (.p (l2 pMin), args.toList)
  | .recover => some (.recover, [])
  | .delete => (cDel P ts).map fun c => (c, args.toList)
  | _ => none
/-- places of the parts of a literal -/
def plcs (pl : Nat → Option (Nat × Nat)) : List (Nat × Operand) → Option (List (Nat × Nat))
  | [] => some []
  | (i, _) :: l => match pl i with
    | none => none
    | some q => match plcs pl l with
      | none => none
      | some r => some (q :: r)
def fldPl (P : Program) : List Field → Option (List (Nat × Nat))
  | [] => some []
  | f :: fs => match P.info? f.type with
    | none => none
    | some ti => match fldPl P fs with
      | none => none
      | some r => some ((f.offset, ti.size) :: r)
def zipP : List (Nat × Nat) → List Value → Option (List (Nat × Nat × Value))
  | [], [] => some []
  | p :: ps, v :: vs => match zipP ps vs with
    | none => none
    | some r => some ((p.1, p.2, v) :: r)
  | _, _ => none
noncomputable def pBld (zs : List Value) (pl : List (Nat × Nat)) (vs : List Value) : Option Value :=
  match zipP pl vs with
  | none => none
  | some q => pBuild zs q
noncomputable def aBsl (len n : Nat) (zs : List Value) (pl : List (Nat × Nat)) (vs : List Value) : Option (Blk × (Nat → Value)) :=
  match zipP pl vs with
  | none => none
  | some q => gBsl len n zs q
noncomputable def cBuild (P : Program) (t : TypeId) (ps : List (Nat × Operand)) : Option COp :=
  match zeroOf P t with
  | none => none
  | some (_, _, zs) => match P.underlying t with
    | some (.struct fs) => match fldPl P fs.toList with
      | none => none
      | some fl => match plcs (fun i => fl[i]?) ps with
        | none => none
        | some pl => some (.p (pBld zs pl))
    | some (.array _ e) => match P.info? e with
      | none => none
      | some ti => match plcs (fun i => some (i * ti.size, ti.size)) ps with
        | none => none
        | some pl => some (.p (pBld zs pl))
    | _ => none
noncomputable def cBsl (P : Program) (t : TypeId) (len : Nat) (ps : List (Nat × Operand)) : Option COp :=
  match P.underlying t with
  | some (.slice e) => match zeroOf P e with
    | none => none
    | some (n, _, zs) => match plcs (fun i => some (i * n, n)) ps with
      | none => none
      | some pl => bif Nat.blt len 9223372036854775807 then some (.a (aBsl len n zs pl)) else none
  | _ => none
def pPick (c a b : Value) : Option Value :=
  match c with
  | .bool true => some a
  | .bool false => some b
  | _ => none
def pNil (x : Value) : Option Value :=
  match x with
  | .pointer (some _) => some x
  | _ => none
def splitN : Nat → List Value → Option (List Value × List Value)
  | 0, l => some ([], l)
  | n + 1, x :: l => match splitN n l with
    | none => none
    | some (a, b) => some (x :: a, b)
  | _ + 1, [] => none
def pMkf (fn : Fn) (n : Nat) (vs : List Value) : Option Value :=
  match splitN n vs with
  | none => none
  | some (a, b) => some (.func fn ⟨a⟩ ⟨b⟩)
def pMki (t : TypeId) (v : Value) : Option Value := some (.iface t v)
def cMki (P : Program) (t : TypeId) : Option COp :=
  match P.underlying t with
  | none => none
  | some (.interface _) => none
  | some _ => some (.p (l1 (pMki t)))

/-! ### loops over maps with at most one entry -/
noncomputable def sRng (x : Value) (H : AH) : Rs :=
  match x with
  | .map (some m) => match H.get m with
    | some (.map true es) => forceN H.next fun i => bif Nat.blt i 900000000000 then forceN es.length fun n => .ok (.pointer (some ⟨i, 0, none⟩)) (H.push (.dfr (.iter m n [] n))) else .bad
    | some (.dfr (.emap c)) => forceN H.next fun i => bif Nat.blt i 900000000000 then .ok (.pointer (some ⟨i, 0, none⟩)) (H.push (.dfr (.iter m c [] c))) else .bad
    | _ => .bad
  | _ => .bad
noncomputable def sNxt (x : Value) (H : AH) : Rs :=
  match x with
  | .pointer (some ⟨i, 0, none⟩) => match H.get i with
    | some (.dfr (.iter m since seen last)) => match H.get m with
      | some (.dfr (.emap _)) => .ok (.tuple ⟨[.bool false]⟩) H
      | some (.map true []) => .ok (.tuple ⟨[.bool false]⟩) H
      | some (.map true [e]) => match seen with
        | [] => bif Nat.blt 0 since then forceH (H.set i (some (.dfr (.iter m since [0] 1)))) fun H => .ok (.tuple ⟨[.bool true, e.1, e.2]⟩) H else .bad
        | [0] => bif Nat.blt 0 last then .ok (.tuple ⟨[.bool false]⟩) H else .bad
        | _ => .bad
      | _ => .bad
    | _ => .bad
  | _ => .bad
/-- the last of a list of numbers -/
def lastN : List Nat → Option Nat
  | [] => none
  | [j] => some j
  | _ :: l => lastN l
noncomputable def rEnt (x : Value) (H : AH) : Option Value :=
  match x with
  | .pointer (some ⟨i, 0, none⟩) => match H.get i with
    | some (.dfr (.iter m _ seen last)) => match H.get m with
      | some (.map true es) => bif Nat.beq last es.length then
          match lastN seen with
          | none => none
          | some j => match es[j]? with
            | some e => some (.tuple ⟨[e.1, e.2]⟩)
            | none => none
        else none
      | _ => none
    | _ => none
  | _ => none
def cMap (P : Program) (t : TypeId) : Option Unit :=
  match P.underlying t with
  | some (.map _ _) => some ()
  | _ => none
noncomputable def gMm (x : Value) : Option (Blk × (Nat → Value)) :=
  match x with
  | .int _ _ => some (.map true [], shM)
  | _ => none
/-! ### loops over strings: bytes below 128 only -/
noncomputable def sRngS (x : Value) (H : AH) : Rs :=
  match x with
  | .string s => forceN H.next fun i => bif Nat.blt i 900000000000 then .ok (.pointer (some ⟨i, 0, none⟩)) (H.push (.dfr (.siter s 0))) else .bad
  | _ => .bad
noncomputable def sNxtS (x : Value) (H : AH) : Rs :=
  match x with
  | .pointer (some ⟨i, 0, none⟩) => match H.get i with
    | some (.dfr (.siter s pos)) => match s[pos]? with
      | none => .ok (.tuple ⟨[.bool false]⟩) H
      | some b => forceN b.toNat fun c => forceN (Nat.succ pos) fun q => bif Nat.blt c 128 then forceH (H.set i (some (.dfr (.siter s q)))) fun H => .ok (.tuple ⟨[.bool true, .int .i64 (.ofNat pos), .int .i32 (.ofNat c)]⟩) H else .bad
    | _ => .bad
  | _ => .bad
noncomputable def cRng (P : Program) (t : TypeId) : Option COp :=
  match P.underlying t with
  | some (.map _ _) => some (.m (m1 sRng))
  | some .string => some (.m (m1 sRngS))
  | _ => none

noncomputable def comp (P : Program) (o : Oper) : Option (COp × List Operand) :=
  match o.op with
  | .move x => some (.p (l1 some), [x])
  | .assign x => some (.m (m1 mAs), [x])
  | .pick c a b => some (.p (l3 pPick), [c, a, b])
  | .alloc t => (cAlloc P t).map fun c => (c, [])
  | .box _ x => some (.a (a1 gBox), [x])
  | .build t ps => (cBuild P t ps.toList).map fun c => (c, ps.toList.map (·.2))
  | .buildSlice t n ps => (cBsl P t n ps.toList).map fun c => (c, ps.toList.map (·.2))
  | .load t x => (cLd P t).map fun c => (c, [x])
  | .store t x v => (cSt P t).map fun c => (c, [x, v])
  | .nilCheck x => some (.p (l1 pNil), [x])
  | .binOp op t x y _ => (cBin P op t x y).map fun c => (c, [x, y])
  | .unOp op _ x => some (.p (l1 (pUn op)), [x])
  | .convert s d x => (cConv P s d).map fun c => (c, [x])
  | .makeFunc fn a b => bif noYield fn then some (.p (pMkf fn a.size), a.toList ++ b.toList) else none
  | .makeInterface t x => (cMki P t).map fun c => (c, [x])
  | .makeMap _ none => some (.a aMm, [])
  | .makeMap t (some x) => (cMap P t).map fun _ => (.a (a1 gMm), [x])
  | .makeSlice t l c => (cMks P t).map fun q => (q, [l, c])
  | .slice t x lo hi mx => (cSl P t lo.isSome hi.isSome mx.isSome).map fun c => (c, x :: (optL lo ++ (optL hi ++ optL mx)))
  | .fieldAddr s x f => (cFa P s f).map fun c => (c, [x])
  | .field s x f => (cFld P s f).map fun c => (c, [x])
  | .indexAddr t x i => (cIxa P t).map fun c => (c, [x, i])
  | .index t x i => (cIx P t).map fun c => (c, [x, i])
  | .lookup t x i ok => (cLook P t ok).map fun c => (c, [x, i])
  | .mapUpdate t m k v => (cUpd P t).map fun c => (c, [m, k, v])
  | .insert t m k v => (cUpd P t).map fun c => (c, [m, k, v])
  | .extract x i => some (.p (l1 (pExt i)), [x])
  | .range t x => (cRng P t).map fun c => (c, [x])
  | .next x b => bif b then some (.m (m1 sNxtS), [x]) else some (.m (m1 sNxt), [x])
  | .entry x => some (.r (r1 rEnt), [x])
  | .call c => match c.callee with
    | .builtin b => cBlt P b c.argTypes c.args
    | .value f => some (.call, f :: c.args.toList)
    | _ => none
  | .defer c => match c.callee with
    | .value f => some (.defer, f :: c.args.toList)
    | _ => none
  | _ => none
end Cr
end Go.Proofs.YtekbkaipdmklpaaGreatDoor
namespace Go.Proofs.YtekbkaipdmklpaaGreatDoor
namespace Cr
open Go Go.RowKit

section sound
variable {P : Program} {o : Oper}
theorem sound_r1 {x : Operand} {g : Value → AH → Option Value} {s : Value → Sem Value} (nd : ∀ c, o.op ≠ .defer c) (he : ∀ ρ, execOp ρ o = Vof (s (ρ x)))
    (hm : ∀ {x : Value} {H H' : AH} {v : Value}, g x H = some v → Sub H H' → g x H' = some v)
    (h : ∀ {G B : Nat} {w0 : W0} {H : AH} {μ : Mu} {w : World} {x x' v : Value}, HR G B w0 H μ w → VR μ x x' → g x H = some v → ∃ v', (s x').run P w = .ok v' w ∧ VR μ v v') : CSound P o (.r (r1 g)) [x] := by
  refine ⟨nd, fun vs H H' v hv hs => ?_, fun G B w0 H μ w ρ vs v hr hl hg => ?_⟩
  · match vs, hv with
    | [a], hv => exact hm (x := a) hv hs
  · obtain ⟨a, rfl, ha⟩ := hl.one
    obtain ⟨v', r1, r2⟩ := h hr ha hg
    exact ⟨v', by rw [he]; exact run_Vof r1, r2⟩
theorem sound_r2 {x y : Operand} {g : Value → Value → AH → Option Value} {s : Value → Value → Sem Value} (nd : ∀ c, o.op ≠ .defer c) (he : ∀ ρ, execOp ρ o = Vof (s (ρ x) (ρ y)))
    (hm : ∀ {x y : Value} {H H' : AH} {v : Value}, g x y H = some v → Sub H H' → g x y H' = some v)
    (h : ∀ {G B : Nat} {w0 : W0} {H : AH} {μ : Mu} {w : World} {x x' y y' v : Value}, HR G B w0 H μ w → VR μ x x' → VR μ y y' → g x y H = some v → ∃ v', (s x' y').run P w = .ok v' w ∧ VR μ v v') : CSound P o (.r (r2 g)) [x, y] := by
  refine ⟨nd, fun vs H H' v hv hs => ?_, fun G B w0 H μ w ρ vs v hr hl hg => ?_⟩
  · match vs, hv with
    | [a, b], hv => exact hm (x := a) (y := b) hv hs
  · obtain ⟨a, b, rfl, ha, hb⟩ := hl.two
    obtain ⟨v', r1, r2⟩ := h hr ha hb hg
    exact ⟨v', by rw [he]; exact run_Vof r1, r2⟩
theorem sound_a0 {s : Sem Value} {g : List Value → Option (Blk × (Nat → Value))} (nd : ∀ c, o.op ≠ .defer c) (he : ∀ ρ, execOp ρ o = Vof s)
    (h : ∀ {G B : Nat} {w0 : W0} {H : AH} {μ : Mu} {w : World} {y : Blk} {sh : Nat → Value} {n : Nat}, HR G B w0 H μ w → g [] = some (y, sh) → H.get n = some y → μ n = none → NewOk P G B w0 H μ w n sh s) : CSound P o (.a g) [] := by
  refine ⟨nd, fun G B w0 H μ w ρ vs x sh n hr hl hg hn hu => ?_⟩
  have : vs = [] := by have := hl.len; simpa using this
  subst this
  obtain ⟨v', w', μ', r1, r2⟩ := h hr hg hn hu
  exact ⟨v', w', μ', by rw [he]; exact run_Vof r1, r2⟩
theorem sound_a1 {x : Operand} {s : Value → Sem Value} {g : Value → Option (Blk × (Nat → Value))} (nd : ∀ c, o.op ≠ .defer c) (he : ∀ ρ, execOp ρ o = Vof (s (ρ x)))
    (h : ∀ {G B : Nat} {w0 : W0} {H : AH} {μ : Mu} {w : World} {x x' : Value} {y : Blk} {sh : Nat → Value} {n : Nat}, HR G B w0 H μ w → VR μ x x' → g x = some (y, sh) → H.get n = some y → μ n = none → NewOk P G B w0 H μ w n sh (s x')) : CSound P o (.a (a1 g)) [x] := by
  refine ⟨nd, fun G B w0 H μ w ρ vs x sh n hr hl hg hn hu => ?_⟩
  obtain ⟨a, rfl, ha⟩ := hl.one
  obtain ⟨v', w', μ', r1, r2⟩ := h hr ha hg hn hu
  exact ⟨v', w', μ', by rw [he]; exact run_Vof r1, r2⟩
theorem sound_a2 {x y : Operand} {s : Value → Value → Sem Value} {g : Value → Value → Option (Blk × (Nat → Value))} (nd : ∀ c, o.op ≠ .defer c) (he : ∀ ρ, execOp ρ o = Vof (s (ρ x) (ρ y)))
    (h : ∀ {G B : Nat} {w0 : W0} {H : AH} {μ : Mu} {w : World} {x x' y y' : Value} {b : Blk} {sh : Nat → Value} {n : Nat}, HR G B w0 H μ w → VR μ x x' → VR μ y y' → g x y = some (b, sh) → H.get n = some b → μ n = none → NewOk P G B w0 H μ w n sh (s x' y')) : CSound P o (.a (a2 g)) [x, y] := by
  refine ⟨nd, fun G B w0 H μ w ρ vs x sh n hr hl hg hn hu => ?_⟩
  obtain ⟨a, b, rfl, ha, hb⟩ := hl.two
  obtain ⟨v', w', μ', r1, r2⟩ := h hr ha hb hg hn hu
  exact ⟨v', w', μ', by rw [he]; exact run_Vof r1, r2⟩
theorem sound_u2 {x y : Operand} {s : Value → Value → Sem Unit} {g : Value → Value → AH → Rs} (nd : ∀ c, o.op ≠ .defer c) (he : ∀ ρ, execOp ρ o = Uof (s (ρ x) (ρ y)))
    (h : ∀ {G B : Nat} {w0 : W0} {H H' : AH} {μ : Mu} {w : World} {x x' y y' u : Value}, HR G B w0 H μ w → VR μ x x' → VR μ y y' → g x y H = .ok u H' → u = undef ∧ ∃ w', (s x' y').run P w = .ok () w' ∧ Nx G B w0 H μ H' μ w') : CSound P o (.m (m2 g)) [x, y] := by
  refine ⟨nd, fun G B w0 H μ w ρ vs v H' hr hl hg => ?_⟩
  obtain ⟨a, b, rfl, ha, hb⟩ := hl.two
  obtain ⟨rfl, w', r1, r2⟩ := h hr ha hb hg
  exact ⟨.skip, undef, w', μ, by rw [he]; exact run_Uof r1, .inr ⟨rfl, rfl⟩, VR.undef μ, r2⟩
theorem sound_u3 {x y z : Operand} {s : Value → Value → Value → Sem Unit} {g : Value → Value → Value → AH → Rs} (nd : ∀ c, o.op ≠ .defer c) (he : ∀ ρ, execOp ρ o = Uof (s (ρ x) (ρ y) (ρ z)))
    (h : ∀ {G B : Nat} {w0 : W0} {H H' : AH} {μ : Mu} {w : World} {x x' y y' z z' u : Value}, HR G B w0 H μ w → VR μ x x' → VR μ y y' → VR μ z z' → g x y z H = .ok u H' → u = undef ∧ ∃ w', (s x' y' z').run P w = .ok () w' ∧ Nx G B w0 H μ H' μ w') : CSound P o (.m (m3 g)) [x, y, z] := by
  refine ⟨nd, fun G B w0 H μ w ρ vs v H' hr hl hg => ?_⟩
  obtain ⟨a, b, c, rfl, ha, hb, hc⟩ := hl.three
  obtain ⟨rfl, w', r1, r2⟩ := h hr ha hb hc hg
  exact ⟨.skip, undef, w', μ, by rw [he]; exact run_Uof r1, .inr ⟨rfl, rfl⟩, VR.undef μ, r2⟩
end sound

theorem rLd_iff {x v : Value} {H : AH} (h : rLd x H = some v) : ∃ H', sLd x H = .ok v H' := by
  unfold rLd at h
  cases hs : sLd x H with
  | bad => rw [hs] at h; cases h
  | ok u H' =>
    rw [hs] at h
    simp only [Option.some.injEq] at h
    subst h
    exact ⟨H', rfl⟩
theorem rLdn_iff {n : Nat} {x v : Value} {H : AH} (h : rLdn n x H = some v) : ∃ H', sLdn n x H = .ok v H' := by
  unfold rLdn at h
  cases hs : sLdn n x H with
  | bad => rw [hs] at h; cases h
  | ok u H' =>
    rw [hs] at h
    simp only [Option.some.injEq] at h
    subst h
    exact ⟨H', rfl⟩
theorem rLd_mono {x v : Value} {H H' : AH} (h : rLd x H = some v) (hs : Sub H H') : rLd x H' = some v := by
  obtain ⟨H1, h1⟩ := rLd_iff h
  unfold rLd
  unfold sLd at h1 ⊢
  split at h1
  · rename_i i off
    cases hg : H.get i with
    | none => rw [hg] at h1; cases h1
    | some b =>
      rw [hg] at h1
      rw [hs i b hg]
      cases b with
      | cells rw n zl zs t =>
        simp only at h1 ⊢
        cases hb : Nat.blt off n with
        | false => rw [hb] at h1; cases h1
        | true =>
          rw [hb] at h1
          simp only [cond_true, Rs.ok.injEq] at h1 ⊢
          rw [h1.1]
      | map _ _ => cases h1
      | loop _ _ _ _ _ _ _ _ _ => cases h1
      | dfr _ => cases h1
  · cases h1
theorem rLdn_mono {m : Nat} {x v : Value} {H H' : AH} (h : rLdn m x H = some v) (hs : Sub H H') : rLdn m x H' = some v := by
  obtain ⟨H1, h1⟩ := rLdn_iff h
  unfold rLdn
  unfold sLdn at h1 ⊢
  split at h1
  · rename_i i off
    cases hg : H.get i with
    | none => rw [hg] at h1; cases h1
    | some b =>
      rw [hg] at h1
      rw [hs i b hg]
      cases b with
      | cells rw n zl zs t =>
        simp only at h1 ⊢
        cases hb : Nat.ble (Nat.add off m) n with
        | false => rw [hb] at h1; cases h1
        | true =>
          rw [hb] at h1
          simp only [cond_true, Rs.ok.injEq] at h1 ⊢
          rw [h1.1]
      | map _ _ => cases h1
      | loop _ _ _ _ _ _ _ _ _ => cases h1
      | dfr _ => cases h1
  · cases h1
theorem aggOf_ok {P : Program} {t : TypeId} {n : Option Nat} (h : aggOf P t = some n) : ∃ d ti, P.underlying t = some d ∧ P.info? t = some ti ∧ n = (if aggD d then some ti.size else none) := by
  unfold aggOf at h
  cases hu : P.underlying t with
  | none => rw [hu] at h; cases h
  | some d =>
    rw [hu] at h
    simp only at h
    cases hi : P.info? t with
    | none => rw [hi] at h; cases h
    | some ti =>
      rw [hi] at h
      simp only at h
      refine ⟨d, ti, rfl, rfl, ?_⟩
      cases ha : aggD d with
      | true => rw [ha] at h; simpa using h.symm
      | false => rw [ha] at h; simpa using h.symm

/-! ### parts of literals -/
theorem Parts.nil {μ : Mu} {place : Nat → Option (Nat × Nat)} : Parts μ place [] [] := ⟨rfl, fun j p q h => by simp at h⟩
theorem Parts.cons {μ : Mu} {place : Nat → Option (Nat × Nat)} {i a b : Nat} {x y : Value} {ps : List (Nat × Nat × Value)} {qs : List (Nat × Value)} (h1 : place i = some (a, b)) (h2 : VR μ x y) (h : Parts μ place ps qs) :
    Parts μ place ((a, b, x) :: ps) ((i, y) :: qs) := by
  refine ⟨by simp [h.1], fun j p q hp hq => ?_⟩
  cases j with
  | zero =>
    simp only [List.getElem?_cons_zero, Option.some.injEq] at hp hq
    subst hp hq
    exact ⟨h1, h2⟩
  | succ j =>
    simp only [List.getElem?_cons_succ] at hp hq
    exact h.2 j p q hp hq
theorem parts_of {μ : Mu} {ρ : Operand → Value} {place : Nat → Option (Nat × Nat)} : ∀ (ps : List (Nat × Operand)) (pl : List (Nat × Nat)) (vs : List Value) (q : List (Nat × Nat × Value)), plcs place ps = some pl → zipP pl vs = some q → LR μ vs ((ps.map (·.2)).map ρ) →
    Parts μ place q (ps.map fun p => (p.1, ρ p.2))
  | [], pl, vs, q, h1, h2, h3 => by
    simp only [plcs, Option.some.injEq] at h1
    subst h1
    have : vs = [] := by have := h3.len; simpa using this
    subst this
    simp only [zipP, Option.some.injEq] at h2
    subst h2
    exact Parts.nil
  | (i, x) :: ps, pl, vs, q, h1, h2, h3 => by
    simp only [plcs] at h1
    cases hp : place i with
    | none => rw [hp] at h1; cases h1
    | some ab =>
      rw [hp] at h1
      simp only at h1
      cases hr : plcs place ps with
      | none => rw [hr] at h1; cases h1
      | some r =>
        rw [hr] at h1
        simp only [Option.some.injEq] at h1
        subst h1
        obtain ⟨u, us, rfl, hu, hus⟩ := LR.cons' h3
        simp only [zipP] at h2
        cases hz : zipP r us with
        | none => rw [hz] at h2; cases h2
        | some q' =>
          rw [hz] at h2
          simp only [Option.some.injEq] at h2
          subst h2
          exact Parts.cons hp hu (parts_of ps r us q' hr hz hus)
theorem run_mapM_fields {P : Program} : ∀ (fs : List Field) (fl : List (Nat × Nat)), fldPl P fs = some fl → ∀ w : World, (fs.mapM fun f => (do pure (f.offset, ← sizeOf f.type) : Sem (Nat × Nat))).run P w = .ok fl w
  | [], fl, h, w => by
    simp only [fldPl, Option.some.injEq] at h
    subst h
    rfl
  | f :: fs, fl, h, w => by
    simp only [fldPl] at h
    cases hi : P.info? f.type with
    | none => rw [hi] at h; cases h
    | some ti =>
      rw [hi] at h
      simp only at h
      cases hr : fldPl P fs with
      | none => rw [hr] at h; cases h
      | some r =>
        rw [hr] at h
        simp only [Option.some.injEq] at h
        subst h
        rw [List.mapM_cons]
        simp only [Sem.run_bind, run_sizeOf hi, Result.andThen_ok, Sem.run_pure, run_mapM_fields fs r hr]
theorem run_places {P : Program} {fs : Array Field} {fl : List (Nat × Nat)} (h : fldPl P fs.toList = some fl) (w : World) : (fs.mapM fun f => (do pure (f.offset, ← sizeOf f.type) : Sem (Nat × Nat))).run P w = .ok ⟨fl⟩ w := by
  rw [Array.mapM_eq_mapM_toList]
  have := run_mapM_fields fs.toList fl h w
  simp only [map_eq_pure_bind, Sem.run_bind, this, Result.andThen_ok, Sem.run_pure]
theorem splitN_ok {μ : Mu} : ∀ (n : Nat) (vs a b : List Value) (xs ys : List Value), splitN n vs = some (a, b) → xs.length = n → LR μ vs (xs ++ ys) → LR μ a xs ∧ LR μ b ys
  | 0, vs, a, b, xs, ys, h, hl, hr => by
    simp only [splitN, Option.some.injEq, Prod.mk.injEq] at h
    obtain ⟨rfl, rfl⟩ := h
    have : xs = [] := by simpa using hl
    subst this
    exact ⟨LR.nil μ, hr⟩
  | n + 1, vs, a, b, xs, ys, h, hl, hr => by
    cases xs with
    | nil => simp at hl
    | cons x xs =>
      obtain ⟨u, us, rfl, hu, hus⟩ := LR.cons' (by simpa using hr)
      simp only [splitN] at h
      cases hs : splitN n us with
      | none => rw [hs] at h; cases h
      | some p =>
        obtain ⟨a', b'⟩ := p
        rw [hs] at h
        simp only [Option.some.injEq, Prod.mk.injEq] at h
        obtain ⟨rfl, rfl⟩ := h
        obtain ⟨k1, k2⟩ := splitN_ok n us a' b' xs ys hs (by simpa using hl) hus
        exact ⟨LR.cons hu k1, k2⟩

/-! ### comparisons -/
theorem eqGuard_agg {P : Program} {w : World} {op : BinOp} {t : TypeId} {p q : Operand} {a b : Array Value} (h : P.eqGuardType P.depth t = false) : (eqGuard op t p q (.agg a) (.agg b)).run P w = .ok () w := by
  unfold eqGuard
  cases op <;> simp [h]
theorem pEqS_ok {P : Program} {μ : Mu} {w : World} {neg : Bool} {t : TypeId} {d : TypeDesc} (hd : P.underlying t = some d) (ha : aggD d = true) {ks : List Nat} (hk : shp P 6 t = some ks) (hg : P.eqGuardType P.depth t = false) {p q : Operand} {x x' y y' v : Value}
    (hx : VR μ x x') (hy : VR μ y y') (h : pEqS ks neg x y = some v) : ∃ v', ((do eqGuard (eqOp neg) t p q x' y'; binOp (eqOp neg) t x' y') : Sem Value).run P w = .ok v' w ∧ VR μ v v' := by
  cases hx with
  | agg l l' hl hl' =>
    cases hy with
    | agg r r' hr hr' =>
      simp only [pEqS] at h
      cases hq : leqK ks l r with
      | none => rw [hq] at h; cases h
      | some b =>
        rw [hq] at h
        simp only [Option.some.injEq] at h
        subst h
        have hq' := leqK_scalar (μ := μ) hq ⟨hl, hl'⟩ ⟨hr, hr'⟩
        have he := eqIn_ok (P := P) (w := w) 6 10000 (by omega) t ks d hk hd l' r' b hq'
        have e1 : ∀ l, tv d l = .agg ⟨l⟩ := fun l => by unfold tv; rw [ha]; rfl
        rw [e1, e1] at he
        exact ⟨_, by rw [Sem.run_bind, eqGuard_agg hg]; exact run_bin_eq neg he (by simp) (by simp) (by simp) (by simp), .bool _⟩
    | _ => cases h
  | _ => cases h
theorem pEqB_ok {P : Program} {μ : Mu} {w : World} {neg : Bool} {t : TypeId} (hd : P.underlying t = some .bool) {p q : Operand} {x x' y y' v : Value}
    (hx : VR μ x x') (hy : VR μ y y') (hk : eqD .bool x = true) (h : pEq neg x y = some v) : ∃ v', ((do eqGuard (eqOp neg) t p q x' y'; binOp (eqOp neg) t x' y') : Sem Value).run P w = .ok v' w ∧ VR μ v v' := by
  cases hx with
  | bool a =>
    cases hy with
    | bool b =>
      simp only [pEq, Option.some.injEq] at h
      subst h
      have hg : (eqGuard (eqOp neg) t p q (.bool a) (.bool b)).run P w = .ok () w := by cases neg <;> rfl
      exact ⟨_, by rw [Sem.run_bind, hg]; exact run_bin_eq neg (run_eqIn_bool 9999 hd a b w) (by simp) (by simp) (by simp) (by simp), .bool _⟩
    | _ => cases h
  | _ => simp [eqD] at hk
theorem isEqOp_eq {op : BinOp} {neg : Bool} (h : isEqOp op = some neg) : op = eqOp neg := by
  cases op <;> simp [isEqOp] at h <;> subst h <;> rfl
end Cr
end Go.Proofs.YtekbkaipdmklpaaGreatDoor
namespace Go.Proofs.YtekbkaipdmklpaaGreatDoor
namespace Cr
open Go Go.RowKit

theorem omap {α β : Type} {x : Option α} {f : α → β} {b : β} (h : x.map f = some b) : ∃ a, x = some a ∧ f a = b := by
  cases x with
  | none => cases h
  | some a => exact ⟨a, rfl, by simpa using h⟩
theorem bif_some {α : Type} {b : Bool} {x y : α} (h : (bif b then some x else none) = some y) : b = true ∧ x = y := by
  cases b with
  | false => cases h
  | true => exact ⟨rfl, by simpa using h⟩
theorem bif_none {α : Type} {b : Bool} {x y : α} (h : (bif b then none else some x) = some y) : b = false ∧ x = y := by
  cases b with
  | true => cases h
  | false => exact ⟨rfl, by simpa using h⟩
theorem beq_pos {a : Nat} (h : Nat.beq a 0 = false) : a ≠ 0 := Nat.ne_of_beq_eq_false h

section ops
variable {P : Program} {o : Oper}
theorem s_fieldAddr {s f : Nat} {x : Operand} (ho : o.op = .fieldAddr s x f) {c : COp} (h : cFa P s f = some c) : CSound P o c [x] := by
  unfold cFa at h
  split at h
  · rename_i fs hu
    split at h
    · cases h
    · rename_i fd hf
      split at h
      · cases h
      · rename_i ti hi
        obtain ⟨hb, rfl⟩ := bif_none h
        exact sound_p1 (by rw [ho]; intro c e; cases e) (fun ρ => by unfold execOp; rw [ho]; rfl) (fun hx hg => pFa_ok hu hf hi (beq_pos hb) hx hg)
  · cases h
theorem s_field {s f : Nat} {x : Operand} (ho : o.op = .field s x f) {c : COp} (h : cFld P s f = some c) : CSound P o c [x] := by
  unfold cFld at h
  split at h
  · rename_i fs hs
    split at h
    · cases h
    · rename_i fd hf
      split at h
      · cases h
      · rename_i n hn
        obtain ⟨d, ti, hu, hi, rfl⟩ := aggOf_ok hn
        simp only [Option.some.injEq] at h
        subst h
        exact sound_p1 (by rw [ho]; intro c e; cases e) (fun ρ => by unfold execOp; rw [ho]; rfl) (fun hx hg => pFld_ok hs hf hu hi hx hg)
  · cases h
theorem s_indexAddr {t : TypeId} {x i : Operand} (ho : o.op = .indexAddr t x i) {c : COp} (h : cIxa P t = some c) : CSound P o c [x, i] := by
  unfold cIxa at h
  split at h
  · rename_i e hu
    split at h
    · cases h
    · rename_i ti hi
      simp only [Option.some.injEq] at h
      subst h
      exact sound_p2 (by rw [ho]; intro c e; cases e) (fun ρ => by unfold execOp; rw [ho]; rfl) (fun hx hy hg => pIxs_ok hu hi hx hy hg)
  · rename_i n e hu
    split at h
    · cases h
    · rename_i ti hi
      simp only [Option.some.injEq] at h
      subst h
      exact sound_p2 (by rw [ho]; intro c e; cases e) (fun ρ => by unfold execOp; rw [ho]; rfl) (fun hx hy hg => pIxa_ok hu hi hx hy hg)
  · cases h
theorem s_index {t : TypeId} {x i : Operand} (ho : o.op = .index t x i) {c : COp} (h : cIx P t = some c) : CSound P o c [x, i] := by
  unfold cIx at h
  split at h
  · rename_i n e ht
    split at h
    · cases h
    · rename_i ti hi
      split at h
      · cases h
      · rename_i m hm
        obtain ⟨d, ti', hu, hi', rfl⟩ := aggOf_ok hm
        rw [hi] at hi'
        simp only [Option.some.injEq] at h hi'
        subst h
        subst hi'
        exact sound_p2 (by rw [ho]; intro c e; cases e) (fun ρ => by unfold execOp; rw [ho]; rfl) (fun hx hy hg => pIx_ok ht hu hi hx hy hg)
  · rename_i ht
    simp only [Option.some.injEq] at h
    subst h
    exact sound_p2 (by rw [ho]; intro c e; cases e) (fun ρ => by unfold execOp; rw [ho]; rfl) (fun hx hy hg => pIxStr_ok ht hx hy hg)
  · cases h
theorem s_load {t : TypeId} {x : Operand} (ho : o.op = .load t x) {c : COp} (h : cLd P t = some c) : CSound P o c [x] := by
  unfold cLd at h
  split at h
  · cases h
  · rename_i hm
    obtain ⟨d, ti, hu, hi, e⟩ := aggOf_ok hm
    simp only [Option.some.injEq] at h
    subst h
    have ha : aggD d = false := by
      cases ha : aggD d with
      | false => rfl
      | true => rw [ha] at e; simp at e
    exact sound_r1 (by rw [ho]; intro c e; cases e) (fun ρ => by unfold execOp; rw [ho]; rfl) rLd_mono (fun hr hx hg => by
      obtain ⟨H', hs⟩ := rLd_iff hg
      exact (sLd_ok hr hu ha hx hs).2)
  · rename_i n hm
    obtain ⟨d, ti, hu, hi, e⟩ := aggOf_ok hm
    simp only [Option.some.injEq] at h
    subst h
    cases ha : aggD d with
    | false => rw [ha] at e; simp at e
    | true =>
      rw [ha] at e
      simp only [if_true, Option.some.injEq] at e
      subst e
      exact sound_r1 (by rw [ho]; intro c e; cases e) (fun ρ => by unfold execOp; rw [ho]; rfl) rLdn_mono (fun hr hx hg => by
        obtain ⟨H', hs⟩ := rLdn_iff hg
        exact (sLdn_ok hr hu ha hi hx hs).2)
theorem s_store {t : TypeId} {x v : Operand} (ho : o.op = .store t x v) {c : COp} (h : cSt P t = some c) : CSound P o c [x, v] := by
  unfold cSt at h
  split at h
  · cases h
  · split at h
    · cases h
    · rename_i ti hi
      obtain ⟨hb, rfl⟩ := bif_some h
      exact sound_u2 (by rw [ho]; intro c e; cases e) (fun ρ => by unfold execOp; rw [ho]; rfl) (fun hr hx hy hg => sSt_ok hr hi (Nat.eq_of_beq_eq_true hb) hx hy hg)
  · rename_i n hm
    obtain ⟨d, ti, hu, hi, e⟩ := aggOf_ok hm
    simp only [Option.some.injEq] at h
    subst h
    cases ha : aggD d with
    | false => rw [ha] at e; simp at e
    | true =>
      rw [ha] at e
      simp only [if_true, Option.some.injEq] at e
      subst e
      exact sound_u2 (by rw [ho]; intro c e; cases e) (fun ρ => by unfold execOp; rw [ho]; rfl) (fun hr hx hy hg => sStn_ok hr hi hx hy hg)
theorem s_alloc {t : TypeId} (ho : o.op = .alloc t) {c : COp} (h : cAlloc P t = some c) : CSound P o c [] := by
  unfold cAlloc at h
  split at h
  · cases h
  · rename_i n b zs hz
    simp only [Option.some.injEq] at h
    subst h
    obtain ⟨ti, z, hi, hzz, hzs, h1, h2, hsc, hn⟩ := zeroOf_ok hz
    refine sound_a0 (by rw [ho]; intro c e; cases e) (fun ρ => by unfold execOp; rw [ho]; rfl) (fun hr hg hk hu => ?_)
    simp only [aAl, Option.some.injEq, Prod.mk.injEq] at hg
    obtain ⟨rfl, rfl⟩ := hg
    exact gNew_ok hr hi hzz hzs hn hsc hk hu
theorem s_makeSlice {t : TypeId} {x y : Operand} (ho : o.op = .makeSlice t x y) {c : COp} (h : cMks P t = some c) : CSound P o c [x, y] := by
  unfold cMks at h
  split at h
  · rename_i e hu
    split at h
    · cases h
    · rename_i n b zs hz
      obtain ⟨hb, rfl⟩ := bif_none h
      obtain ⟨ti, z, hi, hzz, hzs, rfl, rfl, hsc, hn⟩ := zeroOf_ok hz
      exact sound_a2 (by rw [ho]; intro c e; cases e) (fun ρ => by unfold execOp; rw [ho]; rfl) (fun hr hx hy hg hk hu' => gMks_ok hr hu hi hzz hzs hn (beq_pos hb) hsc hx hy hg hk hu')
  · cases h
theorem s_convert {s d : TypeId} {x : Operand} (ho : o.op = .convert s d x) {c : COp} (h : cConv P s d = some c) : CSound P o c [x] := by
  unfold cConv at h
  split at h
  · cases h
  · rename_i ds hs
    split at h
    · rename_i k hd
      simp only [Option.some.injEq] at h
      subst h
      exact sound_p1 (by rw [ho]; intro c e; cases e) (fun ρ => by unfold execOp; rw [ho]; rfl) (fun hx hg => pConv_ok hs hd hx hg)
    · rename_i e hd
      split at h
      · rename_i he
        split at h
        · simp only [Option.some.injEq] at h
          subst h
          exact sound_a1 (by rw [ho]; intro c e; cases e) (fun ρ => by unfold execOp; rw [ho]; rfl) (fun hr hx hg hk hu => gS2b_ok hr hs hd he hx hg hk hu)
        · cases h
      · cases h
    · rename_i hd
      split at h
      · rename_i e
        split at h
        · rename_i he
          simp only [Option.some.injEq] at h
          subst h
          exact sound_r1 (by rw [ho]; intro c e; cases e) (fun ρ => by unfold execOp; rw [ho]; rfl) (fun h hs => rB2s_mono h hs) (fun hr hx hg => rB2s_ok hr hs he hd hx hg)
        · cases h
      · cases h
    · cases h
theorem s_binOp {op : BinOp} {t : TypeId} {x y : Operand} {b : TypeId} (ho : o.op = .binOp op t x y b) {c : COp} (h : cBin P op t x y = some c) : CSound P o c [x, y] := by
  have nd : ∀ c, o.op ≠ .defer c := by rw [ho]; intro c e; cases e
  have he : ∀ ρ, execOp ρ o = Vof (do eqGuard op t x y (ρ x) (ρ y); binOp op t (ρ x) (ρ y)) := fun ρ => by unfold execOp; rw [ho]; rfl
  unfold cBin at h
  split at h
  · simp only [Option.some.injEq] at h
    subst h
    exact sound_p2 (s := fun a b => do eqGuard op t x y a b; binOp op t a b) nd he (fun hx hy hg => pBin_ok hx hy hg)
  · simp only [Option.some.injEq] at h
    subst h
    exact sound_p2 (s := fun a b => do eqGuard op t x y a b; binOp op t a b) nd he (fun hx hy hg => pBin_ok hx hy hg)
  · rename_i d _ _ hd
    split at h
    · cases h
    · rename_i neg hn
      have := isEqOp_eq hn
      subst this
      cases ha : aggD d with
      | true =>
        rw [ha] at h
        simp only [cond_true] at h
        split at h
        · cases h
        · rename_i ks hk
          obtain ⟨hg, rfl⟩ := bif_none h
          exact sound_p2 (s := fun a b => do eqGuard (eqOp neg) t x y a b; binOp (eqOp neg) t a b) nd he (fun hx hy h => pEqS_ok hd ha hk hg hx hy h)
      | false =>
        rw [ha] at h
        simp only [cond_false] at h
        obtain ⟨hb, rfl⟩ := bif_some h
        refine sound_p2 (s := fun a b => do eqGuard (eqOp neg) t x y a b; binOp (eqOp neg) t a b) nd he (fun {μ w a a' b b' v} hx hy h => ?_)
        have hkk : eqD d a = true ∧ pEq neg a b = some v := by
          unfold pEqD at h
          cases hk : eqD d a with
          | false => rw [hk] at h; cases h
          | true => rw [hk] at h; exact ⟨rfl, h⟩
        clear h
        obtain ⟨hk, heq⟩ := hkk
        cases hc : (isC x || isC y) with
        | true => exact pEq_ok hd hc hx hy hk heq
        | false =>
          rw [hc] at hb
          simp only [Bool.false_or] at hb
          split at hb
          · exact pEqB_ok hd hx hy hk heq
          · cases hb
  · cases h
theorem s_lookup {t : TypeId} {x i : Operand} {ok : Bool} (ho : o.op = .lookup t x i ok) {c : COp} (h : cLook P t ok = some c) : CSound P o c [x, i] := by
  unfold cLook at h
  split at h
  · rename_i kt et ht
    split at h
    · cases h
    · rename_i ks hs
      split at h
      · cases h
      · rename_i D hu
        split at h
        · cases h
        · rename_i ti hi
          split at h
          · cases h
          · rename_i z hz
            obtain ⟨hp, rfl⟩ := bif_some h
            exact sound_r2 (by rw [ho]; intro c e; cases e) (fun ρ => by unfold execOp; rw [ho]; rfl) (fun h hs => rLook_mono h hs) (fun hr hx hy hg => rLook_ok hr ht (by omega) hs hu hi hz hp hx hy hg)
  · cases h
theorem s_update {t : TypeId} {m k v : Operand} (ho : o.op = .mapUpdate t m k v ∨ o.op = .insert t m k v) {c : COp} (h : cUpd P t = some c) : CSound P o c [m, k, v] := by
  unfold cUpd at h
  split at h
  · rename_i kt et ht
    split at h
    · cases h
    · rename_i ks hs
      split at h
      · cases h
      · rename_i D hu
        simp only [Option.some.injEq] at h
        subst h
        exact sound_u3 (by rcases ho with ho | ho <;> (rw [ho]; intro c e; cases e)) (fun ρ => by rcases ho with ho | ho <;> (unfold execOp; rw [ho]; rfl)) (fun hr hx hy hz hg => sUpd_ok hr ht (by omega) hs hu hx hy hz hg)
  · cases h
theorem s_slice {t : TypeId} {x : Operand} {lo hi mx : Option Operand} (ho : o.op = .slice t x lo hi mx) {c : COp} (h : cSl P t lo.isSome hi.isSome mx.isSome = some c) : CSound P o c (x :: (optL lo ++ (optL hi ++ optL mx))) := by
  have nd : ∀ c, o.op ≠ .defer c := by rw [ho]; intro c e; cases e
  have he : ∀ ρ, execOp ρ o = Vof (Instr.sliceAt t (ρ x) (lo.map ρ) (hi.map ρ) (mx.map ρ)) := fun ρ => by unfold execOp; rw [ho]; rfl
  have key : ∀ (g : Value → Option Value → Option Value → Option Value → Option Value), (∀ {μ : Mu} {w : World} {a a' v : Value} {lo hi mx lo' hi' mx' : Option Value}, VR μ a a' → OVR μ lo lo' → OVR μ hi hi' → OVR μ mx mx' → g a lo hi mx = some v →
      ∃ v', (Instr.sliceAt t a' lo' hi' mx').run P w = .ok v' w ∧ VR μ v v') → CSound P o (.p (pSlB g lo.isSome hi.isSome mx.isSome)) (x :: (optL lo ++ (optL hi ++ optL mx))) := by
    intro g hg
    refine ⟨nd, fun μ w ρ vs v hl hv => ?_⟩
    have fin : ∀ {a : Value} {lo' hi' mx' : Option Value}, VR μ a (ρ x) → OVR μ lo' (lo.map ρ) → OVR μ hi' (hi.map ρ) → OVR μ mx' (mx.map ρ) → g a lo' hi' mx' = some v → ∃ v', (execOp ρ o).run P w = .ok (.value v') w ∧ VR μ v v' := by
      intro a lo' hi' mx' h0 h1 h2 h3 h4
      obtain ⟨v', k1, k2⟩ := hg (w := w) h0 h1 h2 h3 h4
      exact ⟨v', by rw [he]; exact run_Vof k1, k2⟩
    obtain ⟨a, us, rfl, ha, hu⟩ := LR.cons' hl
    cases lo with
    | none =>
      cases hi with
      | none =>
        cases mx with
        | none =>
          have : us = [] := by have := hu.len; simpa [optL] using this
          subst this
          exact fin (lo' := none) (hi' := none) (mx' := none) ha trivial trivial trivial hv
        | some m => cases hv
      | some b =>
        cases mx with
        | none =>
          obtain ⟨u, rfl, k⟩ := LR.one hu
          exact fin (lo' := none) (hi' := some u) (mx' := none) ha trivial k trivial hv
        | some m =>
          obtain ⟨u, u', rfl, k, k'⟩ := LR.two hu
          exact fin (lo' := none) (hi' := some u) (mx' := some u') ha trivial k k' hv
    | some l =>
      cases hi with
      | none =>
        cases mx with
        | none =>
          obtain ⟨u, rfl, k⟩ := LR.one hu
          exact fin (lo' := some u) (hi' := none) (mx' := none) ha k trivial trivial hv
        | some m =>
          obtain ⟨u, u', rfl, k, k'⟩ := LR.two hu
          cases hv
      | some b =>
        cases mx with
        | none =>
          obtain ⟨u, u', rfl, k, k'⟩ := LR.two hu
          exact fin (lo' := some u) (hi' := some u') (mx' := none) ha k k' trivial hv
        | some m =>
          obtain ⟨u, u', u'', rfl, k, k', k''⟩ := LR.three hu
          exact fin (lo' := some u) (hi' := some u') (mx' := some u'') ha k k' k'' hv
  unfold cSl at h
  split at h
  · rename_i e hu
    split at h
    · cases h
    · rename_i ti hi'
      simp only [Option.some.injEq] at h
      subst h
      exact key _ (fun h0 h1 h2 h3 h4 => pSl_ok hu hi' h0 h1 h2 h3 h4)
  · rename_i n e hu
    split at h
    · cases h
    · rename_i ti hi'
      simp only [Option.some.injEq] at h
      subst h
      exact key _ (fun h0 h1 h2 h3 h4 => pSlA_ok hu hi' h0 h1 h2 h3 h4)
  · rename_i hu
    simp only [Option.some.injEq] at h
    subst h
    exact key _ (fun h0 h1 h2 h3 h4 => pSlS_ok hu h0 h1 h2 h3 h4)
  · cases h
theorem s_build {t : TypeId} {ps : Array (Nat × Operand)} (ho : o.op = .build t ps) {c : COp} (h : cBuild P t ps.toList = some c) : CSound P o c (ps.toList.map (·.2)) := by
  have nd : ∀ c, o.op ≠ .defer c := by rw [ho]; intro c e; cases e
  have he : ∀ ρ, execOp ρ o = Vof (Instr.build t ⟨ps.toList.map fun p => (p.1, ρ p.2)⟩) := fun ρ => by
    unfold execOp; rw [ho]
    have : (ps.map fun (i, x) => (i, ρ x)) = ⟨ps.toList.map fun p => (p.1, ρ p.2)⟩ := by
      apply Array.toList_inj.1; simp
    show Vof (Instr.build t (ps.map fun (i, x) => (i, ρ x))) = _
    rw [this]
  unfold cBuild at h
  split at h
  · cases h
  · rename_i n b zs hz
    obtain ⟨ti, z, hi, hzz, hzs, h1, h2, hsc, hn⟩ := zeroOf_ok hz
    split at h
    · rename_i fs hu
      split at h
      · cases h
      · rename_i fl hf
        split at h
        · cases h
        · rename_i pl hp
          simp only [Option.some.injEq] at h
          subst h
          refine ⟨nd, fun μ w ρ vs v hl hv => ?_⟩
          unfold pBld at hv
          split at hv
          · cases hv
          · rename_i q hq
            have hparts := parts_of (ρ := ρ) ps.toList pl vs q hp hq hl
            obtain ⟨v', k1, k2⟩ := pBuild_struct (w := w) (places := ⟨fl⟩) hu hi hzz (run_places hf) hzs hsc (by simpa using hparts) hv
            exact ⟨v', by rw [he]; exact run_Vof k1, k2⟩
    · rename_i m e hu
      split at h
      · cases h
      · rename_i ei hei
        split at h
        · cases h
        · rename_i pl hp
          simp only [Option.some.injEq] at h
          subst h
          refine ⟨nd, fun μ w ρ vs v hl hv => ?_⟩
          unfold pBld at hv
          split at hv
          · cases hv
          · rename_i q hq
            have hparts := parts_of (ρ := ρ) ps.toList pl vs q hp hq hl
            obtain ⟨v', k1, k2⟩ := pBuild_array (w := w) hu hi hzz hei hzs hsc hparts hv
            exact ⟨v', by rw [he]; exact run_Vof k1, k2⟩
    · cases h
theorem s_buildSlice {t : TypeId} {len : Nat} {ps : Array (Nat × Operand)} (ho : o.op = .buildSlice t len ps) {c : COp} (h : cBsl P t len ps.toList = some c) : CSound P o c (ps.toList.map (·.2)) := by
  have nd : ∀ c, o.op ≠ .defer c := by rw [ho]; intro c e; cases e
  have he : ∀ ρ, execOp ρ o = Vof (Instr.buildSlice t len ⟨ps.toList.map fun p => (p.1, ρ p.2)⟩) := fun ρ => by
    unfold execOp; rw [ho]
    have : (ps.map fun (i, x) => (i, ρ x)) = ⟨ps.toList.map fun p => (p.1, ρ p.2)⟩ := by
      apply Array.toList_inj.1; simp
    show Vof (Instr.buildSlice t len (ps.map fun (i, x) => (i, ρ x))) = _
    rw [this]
  unfold cBsl at h
  split at h
  · rename_i e hu
    split at h
    · cases h
    · rename_i n b zs hz
      obtain ⟨ti, z, hi, hzz, hzs, rfl, h2, hsc, hn⟩ := zeroOf_ok hz
      split at h
      · cases h
      · rename_i pl hp
        obtain ⟨hb, rfl⟩ := bif_some h
        refine ⟨nd, fun G B w0 H μ w ρ vs x sh n hr hl hg hk hu' => ?_⟩
        unfold aBsl at hg
        split at hg
        · cases hg
        · rename_i q hq
          have hparts := parts_of (ρ := ρ) ps.toList pl vs q hp hq hl
          obtain ⟨v', w', μ', k1, k2⟩ := gBsl_ok hr hu hi hzz hzs hn hsc (by simpa [Nat.blt_eq] using hb) hparts hg hk hu'
          exact ⟨v', w', μ', by rw [he]; exact run_Vof k1, k2⟩
  · cases h
end ops
end Cr
end Go.Proofs.YtekbkaipdmklpaaGreatDoor
namespace Go.Proofs.YtekbkaipdmklpaaGreatDoor
namespace Cr
open Go Go.RowKit

section ops
variable {P : Program} {o : Oper}
theorem run_builtin {b : Builtin} {ts : Array TypeId} {args : Array Operand} (ho : o.op = .call { callee := .builtin b, args, argTypes := ts }) (ρ : Operand → Value) (w : World) :
    ∃ cs, (execOp ρ o).run P w = (builtin b ts o.type cs (args.map ρ)).run P w := by
  refine ⟨args.map fun | .const _ => true | _ => false, ?_⟩
  unfold execOp
  rw [ho]
  simp only [resolve, invoke, Sem.run_bind, Sem.run_pure, Result.andThen_ok]
  rfl
theorem LR.args1 {μ : Mu} {ρ : Operand → Value} {args : Array Operand} {x : Value} (h : LR μ [x] (args.toList.map ρ)) : ∃ a, args.map ρ = #[a] ∧ VR μ x a := by
  obtain ⟨args⟩ := args
  match args, h with
  | [a], h =>
    obtain ⟨y, e, hy⟩ := LR.one h
    injection e with e1 _
    subst e1
    exact ⟨ρ a, by simp, hy⟩
  | [], h => have := h.len; simp at this
  | _ :: _ :: _, h => have := h.len; simp at this
theorem LR.args2 {μ : Mu} {ρ : Operand → Value} {args : Array Operand} {x y : Value} (h : LR μ [x, y] (args.toList.map ρ)) : ∃ a b, args.map ρ = #[a, b] ∧ VR μ x a ∧ VR μ y b := by
  obtain ⟨args⟩ := args
  match args, h with
  | [a, b], h =>
    obtain ⟨u, v, e, hu, hv⟩ := LR.two h
    injection e with e1 e2
    injection e2 with e2 _
    subst e1 e2
    exact ⟨ρ a, ρ b, by simp, hu, hv⟩
  | [], h => have := h.len; simp at this
  | [_], h => have := h.len; simp at this
  | _ :: _ :: _ :: _, h => have := h.len; simp at this
theorem s_builtin {b : Builtin} {ts : Array TypeId} {args : Array Operand} (ho : o.op = .call { callee := .builtin b, args, argTypes := ts }) {c : COp} {xs : List Operand} (h : cBlt P b ts args = some (c, xs)) : CSound P o c xs := by
  have nd : ∀ c, o.op ≠ .defer c := by rw [ho]; intro c e; cases e
  unfold cBlt at h
  split at h
  · obtain ⟨c', hc, e⟩ := omap h
    simp only [Prod.mk.injEq] at e
    obtain ⟨rfl, rfl⟩ := e
    unfold cApp at hc
    split at hc
    · rename_i sT xT
      split at hc
      · rename_i e hu
        split at hc
        · rename_i e2 hx
          split at hc
          · cases hc
          · rename_i n by_ zs hz
            obtain ⟨hb, rfl⟩ := bif_some hc
            obtain ⟨ti, z, hi, hzz, hzs, rfl, rfl, hsc, hn⟩ := zeroOf_ok hz
            refine ⟨nd, fun G B w0 H μ w ρ vs v H' hr hl hg => ?_⟩
            match vs, hg, hl with
            | [x, y], hg, hl =>
              obtain ⟨a, b, ea, ha, hb'⟩ := LR.args2 hl
              have hby := Nat.le_of_ble_eq_true hb
              obtain ⟨v', w', μ', k1, k2, k3⟩ := sApp_ok (ty := o.type) hr hu hi hzz (by rw [hn, ← hzs]; simp) hx hby ha hb' hg
              obtain ⟨cs, e⟩ := run_builtin (P := P) ho ρ w
              refine ⟨.value v', v', w', μ', ?_, .inl rfl, k2, k3⟩
              rw [e, ea]
              exact run_Vof k1
        · cases hc
      · cases hc
    · cases hc
  · obtain ⟨c', hc, e⟩ := omap h
    simp only [Prod.mk.injEq] at e
    obtain ⟨rfl, rfl⟩ := e
    unfold cCopy at hc
    split at hc
    · rename_i sT xT
      split at hc
      · rename_i e hu
        split at hc
        · cases hc
        · rename_i ti hi
          simp only [Option.some.injEq] at hc
          subst hc
          refine ⟨nd, fun G B w0 H μ w ρ vs v H' hr hl hg => ?_⟩
          match vs, hg, hl with
          | [x, y], hg, hl =>
            obtain ⟨a, b, ea, ha, hb'⟩ := LR.args2 hl
            obtain ⟨v', w', k1, k2, k3⟩ := sCopy_ok (ty := o.type) (xT := xT) hr hu hi ha hb' hg
            obtain ⟨cs, e⟩ := run_builtin (P := P) ho ρ w
            refine ⟨.value v', v', w', μ, ?_, .inl rfl, k2, k3⟩
            rw [e, ea]
            exact run_Vof k1
      · cases hc
    · cases hc
  · obtain ⟨c', hc, e⟩ := omap h
    simp only [Prod.mk.injEq] at e
    obtain ⟨rfl, rfl⟩ := e
    unfold cLen at hc
    split at hc
    · rename_i t
      split at hc
      · rename_i e hu
        simp only [Option.some.injEq] at hc
        subst hc
        refine ⟨nd, fun μ w ρ vs v hl hg => ?_⟩
        match vs, hg, hl with
        | [x], hg, hl =>
          obtain ⟨a, ea, ha⟩ := LR.args1 hl
          obtain ⟨v', k1, k2⟩ := pLen_ok (P := P) (w := w) (ty := o.type) hu ha hg
          obtain ⟨cs, e⟩ := run_builtin (P := P) ho ρ w
          exact ⟨v', by rw [e, ea]; exact run_Vof k1, k2⟩
      · rename_i hu
        simp only [Option.some.injEq] at hc
        subst hc
        refine ⟨nd, fun μ w ρ vs v hl hg => ?_⟩
        match vs, hg, hl with
        | [x], hg, hl =>
          obtain ⟨a, ea, ha⟩ := LR.args1 hl
          obtain ⟨v', k1, k2⟩ := pLenS_ok (P := P) (w := w) (ty := o.type) hu ha hg
          obtain ⟨cs, e⟩ := run_builtin (P := P) ho ρ w
          exact ⟨v', by rw [e, ea]; exact run_Vof k1, k2⟩
      · rename_i kt et hu
        simp only [Option.some.injEq] at hc
        subst hc
        refine ⟨nd, fun vs H H' v hv hs => ?_, fun G B w0 H μ w ρ vs v hr hl hg => ?_⟩
        · match vs, hv with
          | [a], hv => exact rLenM_mono (x := a) hv hs
        · match vs, hg, hl with
          | [x], hg, hl =>
            obtain ⟨a, ea, ha⟩ := LR.args1 hl
            obtain ⟨v', k1, k2⟩ := rLenM_ok (ty := o.type) hr hu ha hg
            obtain ⟨cs, e⟩ := run_builtin (P := P) ho ρ w
            exact ⟨v', by rw [e, ea]; exact run_Vof k1, k2⟩
      · cases hc
    · cases hc
  · simp only [Option.some.injEq, Prod.mk.injEq] at h
    obtain ⟨rfl, rfl⟩ := h
    refine ⟨nd, fun μ w ρ vs v hl hg => ?_⟩
    match vs, hg, hl with
    | [x, y], hg, hl =>
      obtain ⟨a, b, ea, ha, hb'⟩ := LR.args2 hl
      obtain ⟨v', k1, k2⟩ := pMax_ok (P := P) (w := w) (ts := ts) (ty := o.type) ha hb' hg
      obtain ⟨cs, e⟩ := run_builtin (P := P) ho ρ w
      exact ⟨v', by rw [e, ea]; exact run_Vof k1, k2⟩
  · simp only [Option.some.injEq, Prod.mk.injEq] at h
    obtain ⟨rfl, rfl⟩ := h
    refine ⟨nd, fun μ w ρ vs v hl hg => ?_⟩
    match vs, hg, hl with
    | [x, y], hg, hl =>
      obtain ⟨a, b, ea, ha, hb'⟩ := LR.args2 hl
      obtain ⟨v', k1, k2⟩ := pMin_ok (P := P) (w := w) (ts := ts) (ty := o.type) ha hb' hg
      obtain ⟨cs, e⟩ := run_builtin (P := P) ho ρ w
      exact ⟨v', by rw [e, ea]; exact run_Vof k1, k2⟩
  · simp only [Option.some.injEq, Prod.mk.injEq] at h
    obtain ⟨rfl, rfl⟩ := h
    exact ⟨args, ts, ho⟩
  · obtain ⟨c', hc, e⟩ := omap h
    simp only [Prod.mk.injEq] at e
    obtain ⟨rfl, rfl⟩ := e
    unfold cDel at hc
    split at hc
    · rename_i t u
      split at hc
      · rename_i kt et hu
        split at hc
        · cases hc
        · rename_i ks hks
          split at hc
          · cases hc
          · rename_i D hD
            simp only [Option.some.injEq] at hc
            subst hc
            refine ⟨nd, fun G B w0 H μ w ρ vs v H' hr hl hg => ?_⟩
            match vs, hg, hl with
            | [x, y], hg, hl =>
              obtain ⟨a, b, ea, ha, hb'⟩ := LR.args2 hl
              obtain ⟨v', w', k1, k2, k3⟩ := sDel_ok (ty := o.type) (u := u) hr hu (by omega) hks hD ha hb' hg
              obtain ⟨cs, e⟩ := run_builtin (P := P) ho ρ w
              refine ⟨.value v', v', w', μ, ?_, .inl rfl, k2, k3⟩
              rw [e, ea]
              exact run_Vof k1
      · cases hc
    · cases hc
  · cases h
theorem s_pick {c a b : Operand} (ho : o.op = .pick c a b) : CSound P o (.p (l3 pPick)) [c, a, b] := by
  refine ⟨(by rw [ho]; intro c e; cases e), fun μ w ρ vs v hl hg => ?_⟩
  obtain ⟨x, y, z, rfl, hx, hy, hz⟩ := hl.three
  have he : execOp ρ o = (do pure (.value (if ← asBool (ρ c) then ρ a else ρ b))) := by unfold execOp; rw [ho]
  change pPick x y z = some v at hg
  revert hx
  generalize ρ c = c' at *
  intro hx
  cases hx with
  | bool t =>
    cases t with
    | true =>
      simp only [pPick, Option.some.injEq] at hg
      subst hg
      exact ⟨ρ a, by rw [he]; rfl, hy⟩
    | false =>
      simp only [pPick, Option.some.injEq] at hg
      subst hg
      exact ⟨ρ b, by rw [he]; rfl, hz⟩
  | _ => cases hg
theorem s_nilCheck {x : Operand} (ho : o.op = .nilCheck x) : CSound P o (.p (l1 pNil)) [x] := by
  refine ⟨(by rw [ho]; intro c e; cases e), fun μ w ρ vs v hl hg => ?_⟩
  obtain ⟨a, rfl, ha⟩ := hl.one
  change pNil a = some v at hg
  unfold execOp
  rw [ho]
  simp only
  revert ha
  generalize ρ x = x'
  intro ha
  cases ha with
  | ptr i b o' off h =>
    simp only [pNil, Option.some.injEq] at hg
    subst hg
    exact ⟨_, rfl, .ptr i b o' off h⟩
  | _ => cases hg
theorem s_makeFunc {fn : Fn} {a b : Array Operand} (ho : o.op = .makeFunc fn a b) (hy : noYield fn = true) : CSound P o (.p (pMkf fn a.size)) (a.toList ++ b.toList) := by
  refine ⟨(by rw [ho]; intro c e; cases e), fun μ w ρ vs v hl hg => ?_⟩
  unfold pMkf at hg
  split at hg
  · cases hg
  · rename_i as bs hs
    simp only [Option.some.injEq] at hg
    subst hg
    rw [List.map_append] at hl
    obtain ⟨k1, k2⟩ := splitN_ok a.size vs as bs _ _ hs (by simp) hl
    have he : execOp ρ o = Vof (Instr.makeFunc fn (a.map ρ) (b.map ρ)) := by unfold execOp; rw [ho]; rfl
    refine ⟨.func fn (a.map ρ) (b.map ρ), by rw [he]; rfl, ?_⟩
    have ea : a.map ρ = ⟨a.toList.map ρ⟩ := by apply Array.toList_inj.1; simp
    have eb : b.map ρ = ⟨b.toList.map ρ⟩ := by apply Array.toList_inj.1; simp
    rw [ea, eb]
    exact .func fn as bs _ _ hy k1.len k2.len k1.at_ k2.at_
theorem s_makeInterface {t : TypeId} {x : Operand} (ho : o.op = .makeInterface t x) {c : COp} (h : cMki P t = some c) : CSound P o c [x] := by
  unfold cMki at h
  split at h
  · cases h
  · cases h
  · rename_i d hn hd
    simp only [Option.some.injEq] at h
    subst h
    refine sound_p1 (by rw [ho]; intro c e; cases e) (fun ρ => by unfold execOp; rw [ho]; rfl) (fun {μ w a a' v} hx hg => ?_)
    simp only [pMki, Option.some.injEq] at hg
    subst hg
    refine ⟨.iface t a', ?_, .iface t _ _ hx⟩
    simp only [Instr.makeInterface, Sem.run_bind, run_underlying hd, Result.andThen_ok]
    cases d <;> first | rfl | exact absurd hd (hn _)
end ops
/-! ### loops over maps with at most one entry -/
theorem one_entry {ents : Array MapEntry} {clock : Nat} (hb : Bn ents clock) {μ : Mu} {k v : Value} (h3 : LR μ [k] (ents.toList.map (·.key))) (h4 : LR μ [v] (ents.toList.map (·.val))) :
    ∃ k' v', ents = #[{ key := k', val := v', born := 0 }] ∧ clock = 1 ∧ VR μ k k' ∧ VR μ v v' := by
  obtain ⟨ents⟩ := ents
  match ents, hb, h3, h4 with
  | [e], hb, h3, h4 =>
    have h0 := hb.born 0 e rfl
    obtain ⟨key, val, born⟩ := e
    simp only at h0
    subst h0
    obtain ⟨a, e1, h1⟩ := LR.one h3
    obtain ⟨b, e2, h2⟩ := LR.one h4
    injection e1 with e1 _
    injection e2 with e2 _
    subst e1 e2
    exact ⟨key, val, rfl, hb.clock, h1, h2⟩
  | [], hb, h3, h4 => have := h3.len; simp at this
  | _ :: _ :: _, hb, h3, h4 => have := h3.len; simp at this
theorem s_range {P : Program} {o : Oper} {t : TypeId} {x : Operand} (ho : o.op = .range t x) {kt et : TypeId} (hu : P.underlying t = some (.map kt et)) : CSound P o (.m (m1 sRng)) [x] := by
  refine ⟨(by rw [ho]; intro c e; cases e), fun G B w0 H μ w ρ vs v H' hr hl hg => ?_⟩
  obtain ⟨a, rfl, ha⟩ := hl.one
  have he : execOp ρ o = Vof (Instr.range t (ρ x)) := by unfold execOp; rw [ho]; rfl
  have hg' : sRng a H = .ok v H' := hg
  revert ha
  generalize ρ x = x' at he
  intro ha
  cases ha with
  | map m b hm =>
    simp only [sRng] at hg'
    split at hg'
    · rename_i es hgm
      rw [forceN_eq] at hg'
      cases hb : Nat.blt H.next 900000000000 with
      | false => rw [hb] at hg'; cases hg'
      | true =>
        rw [hb, cond_true, forceN_eq] at hg'
        simp only [Rs.ok.injEq] at hg'
        obtain ⟨rfl, rfl⟩ := hg'
        have hlt : H.next < 900000000000 := by simpa [Nat.blt_eq] using hb
        obtain ⟨_, es2, ents, clock, qm, q1, q2, q3, q4⟩ := hr.blk m _ hgm b 0 hm
        have qm' : es = es2 := Eq.symm qm
        subst qm'
        obtain ⟨hB, hbn⟩ := q2 rfl
        have hn : clock = es.length := by
          rw [hbn.clock]
          have := q3.len
          simpa using this.symm
        subst hn
        have hext := Mu.ext_bind (p := (w.heap.size, 0)) (T := 0) hr.fresh
        refine ⟨_, .pointer (some ⟨w.heap.size, 0, none⟩), w.alloc (.mapIter (some b) es.length #[] es.length), μ.bind H.next (w.heap.size, 0) 0, ?_, .inl rfl, VR.new, ?_⟩
        · rw [he]
          refine run_Vof ?_
          have hget : (getObj b).run P w = .ok (.map ents es.length) w := by simp [getObj, Sem.run, q1]
          simp [Instr.range, run_underlying hu, hget]
        · exact hr.alloc (by omega) ⟨rfl, hr.base, _, heap_new w _, b, hext.loc _ _ hm, rfl⟩
    · rename_i c hgm
      rw [forceN_eq] at hg'
      cases hb : Nat.blt H.next 900000000000 with
      | false => rw [hb] at hg'; cases hg'
      | true =>
        rw [hb, cond_true] at hg'
        simp only [Rs.ok.injEq] at hg'
        obtain ⟨rfl, rfl⟩ := hg'
        have hlt : H.next < 900000000000 := by simpa [Nat.blt_eq] using hb
        obtain ⟨_, _, ob, q1, q2⟩ := hr.blk m _ hgm b 0 hm
        have q2 : ob = .map #[] c := q2
        subst q2
        have hext := Mu.ext_bind (p := (w.heap.size, 0)) (T := 0) hr.fresh
        refine ⟨_, .pointer (some ⟨w.heap.size, 0, none⟩), w.alloc (.mapIter (some b) c #[] c), μ.bind H.next (w.heap.size, 0) 0, ?_, .inl rfl, VR.new, ?_⟩
        · rw [he]
          refine run_Vof ?_
          have hget : (getObj b).run P w = .ok (.map #[] c) w := by simp [getObj, Sem.run, q1]
          simp [Instr.range, run_underlying hu, hget]
        · exact hr.alloc (by omega) ⟨rfl, hr.base, _, heap_new w _, b, hext.loc _ _ hm, rfl⟩
    · cases hg'
  | _ => cases hg'
theorem s_rangeS {P : Program} {o : Oper} {t : TypeId} {x : Operand} (ho : o.op = .range t x) (hu : P.underlying t = some .string) : CSound P o (.m (m1 sRngS)) [x] := by
  refine ⟨(by rw [ho]; intro c e; cases e), fun G B w0 H μ w ρ vs v H' hr hl hg => ?_⟩
  obtain ⟨a, rfl, ha⟩ := hl.one
  have he : execOp ρ o = Vof (Instr.range t (ρ x)) := by unfold execOp; rw [ho]; rfl
  have hg' : sRngS a H = .ok v H' := hg
  revert ha
  generalize ρ x = x' at he
  intro ha
  cases ha with
  | string s =>
    simp only [sRngS, forceN_eq] at hg'
    cases hb : Nat.blt H.next 900000000000 with
    | false => rw [hb] at hg'; cases hg'
    | true =>
      rw [hb, cond_true] at hg'
      simp only [Rs.ok.injEq] at hg'
      obtain ⟨rfl, rfl⟩ := hg'
      have hlt : H.next < 900000000000 := by simpa [Nat.blt_eq] using hb
      refine ⟨_, .pointer (some ⟨w.heap.size, 0, none⟩), w.alloc (.stringIter s 0), μ.bind H.next (w.heap.size, 0) 0, ?_, .inl rfl, VR.new, ?_⟩
      · rw [he]
        refine run_Vof ?_
        simp [Instr.range, run_underlying hu]
      · exact hr.alloc (by omega) ⟨rfl, hr.base, _, heap_new w _, rfl⟩
  | _ => cases hg'
theorem decode_ascii {s : ByteArray} {pos : Nat} {b : UInt8} (h : s[pos]? = some b) (hb : b.toNat < 128) : Utf8.decode s pos = (b.toNat, 1) := by
  have hg : s.get! (pos + 0) = b := by
    rw [Nat.add_zero]
    have hp : pos < s.size := by
      by_cases h2 : pos < s.size
      · exact h2
      · rw [getElem?_neg s pos h2] at h; cases h
    rw [getElem?_pos s pos hp] at h
    injection h with h
    show s.data[pos]! = b
    rw [getElem!_pos s.data pos hp]
    exact h
  unfold Utf8.decode
  simp only [hg, hb, if_true]
theorem s_nextS {P : Program} {o : Oper} {x : Operand} (ho : o.op = .next x true) : CSound P o (.m (m1 sNxtS)) [x] := by
  refine ⟨(by rw [ho]; intro c e; cases e), fun G B w0 H μ w ρ vs v H' hr hl hg => ?_⟩
  obtain ⟨a, rfl, ha⟩ := hl.one
  have he : execOp ρ o = Vof (Instr.next (ρ x) true o.type) := by unfold execOp; rw [ho]; rfl
  have hg' : sNxtS a H = .ok v H' := hg
  revert ha
  generalize ρ x = x' at he
  intro ha
  cases ha with
  | ptr i b o' off hm =>
    unfold sNxtS at hg'
    split at hg'
    · rename_i i' heq
      simp only [Value.pointer.injEq, Option.some.injEq, Addr.mk.injEq] at heq
      obtain ⟨rfl, rfl, _⟩ := heq
      split at hg'
      · rename_i s pos hgi
        obtain ⟨ho0, hBb, ob, hob, rfl⟩ := hr.blk i _ hgi b o' hm
        subst ho0
        have hgetr : (getObj b).run P w = .ok (.stringIter s pos) w := by simp [getObj, Sem.run, hob]
        have hlt : b < w.heap.size := (Array.getElem?_eq_some_iff.1 hob).1
        split at hg'
        · rename_i hs
          simp only [Rs.ok.injEq] at hg'
          obtain ⟨rfl, rfl⟩ := hg'
          have hn : ¬ pos < s.size := by
            intro h
            rw [getElem?_pos s pos h] at hs
            cases hs
          refine ⟨_, .tuple ⟨[.bool false]⟩, w, μ, ?_, .inl rfl, VR.plain rfl, Nx.refl hr⟩
          rw [he]
          refine run_Vof ?_
          simp [Instr.next, hgetr, hn]
        · rename_i c hs
          simp only [forceN_eq] at hg'
          cases hb : Nat.blt c.toNat 128 with
          | false => rw [hb] at hg'; cases hg'
          | true =>
            rw [hb, cond_true, forceH_eq] at hg'
            simp only [Rs.ok.injEq] at hg'
            obtain ⟨rfl, rfl⟩ := hg'
            have hc : c.toNat < 128 := by simpa [Nat.blt_eq] using hb
            have hp : pos < s.size := by
              by_cases h : pos < s.size
              · exact h
              · rw [getElem?_neg s pos h] at hs; cases hs
            have hset : ∀ ob, (setObj b ob).run P w = .ok () { w with heap := w.heap.setIfInBounds b ob } := fun ob => by simp [setObj, Sem.run, hob]
            refine ⟨_, .tuple ⟨[.bool true, .int .i64 pos, .int .i32 c.toNat]⟩, _, μ, ?_, .inl rfl, VR.tuple_of (LR.cons (.bool true) (LR.cons (.int _ _) (LR.cons (.int _ _) (LR.nil μ)))), hr.putObj (y := .dfr (.siter s (pos + 1))) (.stringIter s (pos + 1)) hgi hm hBb ⟨rfl, hBb, _, by simp [hlt], rfl⟩⟩
            rw [he]
            refine run_Vof ?_
            simp [Instr.next, hgetr, hp, decode_ascii hs hc, hset, goInt]
      · cases hg'
    · cases hg'
  | _ => cases hg'
theorem s_next {P : Program} {o : Oper} {x : Operand} (ho : o.op = .next x false) : CSound P o (.m (m1 sNxt)) [x] := by
  refine ⟨(by rw [ho]; intro c e; cases e), fun G B w0 H μ w ρ vs v H' hr hl hg => ?_⟩
  obtain ⟨a, rfl, ha⟩ := hl.one
  have he : execOp ρ o = Vof (Instr.next (ρ x) false o.type) := by unfold execOp; rw [ho]; rfl
  have hg' : sNxt a H = .ok v H' := hg
  revert ha
  generalize ρ x = x' at he
  intro ha
  cases ha with
  | ptr i b o' off hm =>
    unfold sNxt at hg'
    split at hg'
    · rename_i i' heq
      simp only [Value.pointer.injEq, Option.some.injEq, Addr.mk.injEq] at heq
      obtain ⟨rfl, rfl, _⟩ := heq
      split at hg'
      · rename_i m since seen last hgi
        obtain ⟨ho0, hBb, ob, hob, m', hm', rfl⟩ := hr.blk i _ hgi b o' hm
        subst ho0
        have hgetr : (getObj b).run P w = .ok (.mapIter (some m') since ⟨seen⟩ last) w := by simp [getObj, Sem.run, hob]
        have hlt : b < w.heap.size := (Array.getElem?_eq_some_iff.1 hob).1
        split at hg'
        · rename_i cl hgm
          simp only [Rs.ok.injEq] at hg'
          obtain ⟨rfl, rfl⟩ := hg'
          obtain ⟨_, _, ob, q1, q2⟩ := hr.blk m _ hgm m' 0 hm'
          have q2 : ob = .map #[] cl := q2
          subst q2
          have hgetm : (getObj m').run P w = .ok (.map #[] cl) w := by simp [getObj, Sem.run, q1]
          refine ⟨_, .tuple ⟨[.bool false]⟩, w, μ, ?_, .inl rfl, VR.plain rfl, Nx.refl hr⟩
          rw [he]
          refine run_Vof ?_
          simp [Instr.next, hgetr, hgetm, Question.forced]
        · rename_i hgm
          simp only [Rs.ok.injEq] at hg'
          obtain ⟨rfl, rfl⟩ := hg'
          obtain ⟨_, es2, ents, clock, qm, q1, q2, q3, q4⟩ := hr.blk m _ hgm m' 0 hm'
          have qm' := show es2 = _ from qm
          subst qm'
          have : ents = #[] := by
            have := q3.len
            apply Array.eq_empty_of_size_eq_zero
            simpa using this.symm
          subst this
          have hgetm : (getObj m').run P w = .ok (.map #[] clock) w := by simp [getObj, Sem.run, q1]
          refine ⟨_, .tuple ⟨[.bool false]⟩, w, μ, ?_, .inl rfl, VR.plain rfl, Nx.refl hr⟩
          rw [he]
          refine run_Vof ?_
          simp [Instr.next, hgetr, hgetm, Question.forced]
        · rename_i e hgm
          obtain ⟨_, es2, ents, clock, qm, q1, q2, q3, q4⟩ := hr.blk m _ hgm m' 0 hm'
          have qm' := show es2 = _ from qm
          subst qm'
          obtain ⟨hB, hbn⟩ := q2 rfl
          obtain ⟨k', v', rfl, rfl, hk, hv⟩ := one_entry hbn q3 q4
          have hgetm : (getObj m').run P w = .ok (.map #[{ key := k', val := v', born := 0 }] 1) w := by simp [getObj, Sem.run, q1]
          split at hg'
          · cases hs : Nat.blt 0 since with
            | false => rw [hs] at hg'; cases hg'
            | true =>
              rw [hs, cond_true, forceH_eq] at hg'
              simp only [Rs.ok.injEq] at hg'
              obtain ⟨rfl, rfl⟩ := hg'
              have hs' : 0 < since := by simpa [Nat.blt_eq] using hs
              have hset : ∀ ob, (setObj b ob).run P w = .ok () { w with heap := w.heap.setIfInBounds b ob } := fun ob => by simp [setObj, Sem.run, hob]
              refine ⟨_, .tuple ⟨[.bool true, k', v']⟩, _, μ, ?_, .inl rfl, VR.tuple_of (LR.cons (.bool true) (LR.cons hk (LR.cons hv (LR.nil μ)))), hr.putObj (y := .dfr (.iter m since [0] 1)) (.mapIter (some m') since #[0] 1) hgi hm hBb ⟨rfl, hBb, _, by simp [hlt], m', hm', rfl⟩⟩
              rw [he]
              refine run_Vof ?_
              have h1 : since ≠ 0 := by omega
              simp [Instr.next, hgetr, hgetm, Question.forced, hs', hset, h1]
          · cases hs : Nat.blt 0 last with
            | false => rw [hs] at hg'; cases hg'
            | true =>
              rw [hs, cond_true] at hg'
              simp only [Rs.ok.injEq] at hg'
              obtain ⟨rfl, rfl⟩ := hg'
              have hs' : 0 < last := by simpa [Nat.blt_eq] using hs
              refine ⟨_, .tuple ⟨[.bool false]⟩, w, μ, ?_, .inl rfl, VR.plain rfl, Nx.refl hr⟩
              rw [he]
              refine run_Vof ?_
              have hn : ¬ last ≤ 0 := by omega
              simp [Instr.next, hgetr, hgetm, Question.forced, hn]
          · cases hg'
        · cases hg'
      · cases hg'
    · cases hg'
  | _ => cases hg'
theorem rEnt_mono {x v : Value} {H H' : AH} (h : rEnt x H = some v) (hs : Sub H H') : rEnt x H' = some v := by
  unfold rEnt at h ⊢
  split at h
  · rename_i i
    split at h
    · rename_i m since seen last hgi
      rw [hs _ _ hgi]
      split at h
      · rename_i es hgm
        simp only
        rw [hs _ _ hgm]
        exact h
      · cases h
    · cases h
  · cases h
theorem lastN_eq : ∀ {l : List Nat} {j : Nat}, lastN l = some j → ∃ r, l = r ++ [j]
  | [], _, h => by cases h
  | [a], j, h => by simp only [lastN, Option.some.injEq] at h; subst h; exact ⟨[], rfl⟩
  | a :: b :: l, j, h => by
    obtain ⟨r, hr⟩ := lastN_eq (l := b :: l) h
    exact ⟨a :: r, by rw [hr]; rfl⟩
/-- an entry of a map of the machine -/
theorem entry_at {es : List (Value × Value)} {ents : Array MapEntry} {clock : Nat} (hb : Bn ents clock) {μ : Mu} (h3 : LR μ (es.map (·.1)) (ents.toList.map (·.key))) (h4 : LR μ (es.map (·.2)) (ents.toList.map (·.val))) {j : Nat} {e : Value × Value} (he : es[j]? = some e) :
    ∃ e', ents[j]? = some e' ∧ e'.born = j ∧ VR μ e.1 e'.key ∧ VR μ e.2 e'.val := by
  obtain ⟨k', e1, h1⟩ := h3.som (j := j) (v := e.1) (by rw [List.getElem?_map, he]; rfl)
  obtain ⟨v', e2, h2⟩ := h4.som (j := j) (v := e.2) (by rw [List.getElem?_map, he]; rfl)
  rw [List.getElem?_map, Array.getElem?_toList] at e1 e2
  cases hx : ents[j]? with
  | none => rw [hx] at e1; cases e1
  | some e' =>
    rw [hx] at e1 e2
    simp only [Option.map_some, Option.some.injEq] at e1 e2
    subst e1 e2
    exact ⟨e', rfl, hb.born j e' hx, h1, h2⟩
theorem Bn.nodup {ents : Array MapEntry} {clock : Nat} (hb : Bn ents clock) : (ents.toList.map (·.born)).Nodup := by
  rw [List.nodup_iff_pairwise_ne, List.pairwise_iff_getElem]
  intro i j hi hj hij e
  simp only [List.getElem_map, Array.getElem_toList] at e
  have h1 := hb.born i _ (Array.getElem?_eq_getElem (by simpa using hi))
  have h2 := hb.born j _ (Array.getElem?_eq_getElem (by simpa using hj))
  omega
theorem Bn.size {es : List (Value × Value)} {ents : Array MapEntry} {clock : Nat} (hb : Bn ents clock) {μ : Mu} (h3 : LR μ (es.map (·.1)) (ents.toList.map (·.key))) : clock = es.length ∧ ents.size = es.length := by
  have := h3.len
  have h2 := hb.clock
  simp at this
  omega
theorem s_entry {P : Program} {o : Oper} {x : Operand} (ho : o.op = .entry x) : CSound P o (.r (r1 rEnt)) [x] := by
  refine sound_r1 (s := Instr.entry) (by rw [ho]; intro c e; cases e) (fun ρ => by unfold execOp; rw [ho]; rfl) rEnt_mono (fun {G B w0 H μ w x x' v} hr hx hg => ?_)
  cases hx with
  | ptr i b o' off hm =>
    unfold rEnt at hg
    split at hg
    · rename_i i' heq
      simp only [Value.pointer.injEq, Option.some.injEq, Addr.mk.injEq] at heq
      obtain ⟨rfl, rfl, _⟩ := heq
      split at hg
      · rename_i m since seen last hgi
        obtain ⟨ho0, hBb, ob, hob, m', hm', rfl⟩ := hr.blk i _ hgi b o' hm
        subst ho0
        split at hg
        · rename_i es hgm
          obtain ⟨_, es2, ents, clock, qm, q1, q2, q3, q4⟩ := hr.blk m _ hgm m' 0 hm'
          have qm' : es = es2 := Eq.symm qm
          subst qm'
          obtain ⟨hB, hbn⟩ := q2 rfl
          cases hbl : Nat.beq last es.length with
          | false => rw [hbl] at hg; cases hg
          | true =>
            rw [hbl, cond_true] at hg
            have hlast := Nat.eq_of_beq_eq_true hbl
            split at hg
            · cases hg
            · rename_i j hj
              obtain ⟨r, hr'⟩ := lastN_eq hj
              split at hg
              · rename_i e he
                simp only [Option.some.injEq] at hg
                subst hg
                obtain ⟨e', g1, g2, g3, g4⟩ := entry_at hbn q3 q4 he
                have hcl := (hbn.size q3).1
                refine ⟨.tuple #[e'.key, e'.val], ?_, VR.tuple_of (LR.cons g3 (LR.cons g4 (LR.nil μ)))⟩
                refine run_entry_at w b m' since ⟨r⟩ ents clock e' ?_ q1 (by rw [Array.mem_toList_iff]; exact Array.mem_of_getElem? g1) hbn.nodup
                rw [g2, hob, hr', hlast, hcl]
                simp
              · cases hg
        · cases hg
      · cases hg
    · cases hg
  | _ => cases hg
theorem comp_ok (P : Program) : CmpOk P (comp P) := by
  intro o c xs h
  unfold comp at h
  split at h
  · rename_i x ho
    simp only [Option.some.injEq, Prod.mk.injEq] at h
    obtain ⟨rfl, rfl⟩ := h
    exact sound_p1 (s := fun v => pure v) (by rw [ho]; intro c e; cases e) (fun ρ => by unfold execOp; rw [ho]; rfl) (fun hx hg => by
      simp only [Option.some.injEq] at hg
      subst hg
      exact ⟨_, rfl, hx⟩)
  · rename_i x ho
    simp only [Option.some.injEq, Prod.mk.injEq] at h
    obtain ⟨rfl, rfl⟩ := h
    refine ⟨(by rw [ho]; intro c e; cases e), fun G B w0 H μ w ρ vs v H' hr hl hg => ?_⟩
    obtain ⟨a, rfl, ha⟩ := hl.one
    have hg' : Rs.ok a H = .ok v H' := hg
    simp only [Rs.ok.injEq] at hg'
    obtain ⟨rfl, rfl⟩ := hg'
    exact ⟨.value (ρ x), ρ x, w, μ, by unfold execOp; rw [ho]; rfl, .inl rfl, ha, Nx.refl hr⟩
  · rename_i c' a b ho
    simp only [Option.some.injEq, Prod.mk.injEq] at h
    obtain ⟨rfl, rfl⟩ := h
    exact s_pick ho
  · rename_i t ho
    obtain ⟨c', hc, e⟩ := omap h
    simp only [Prod.mk.injEq] at e
    obtain ⟨rfl, rfl⟩ := e
    exact s_alloc ho hc
  · rename_i t x ho
    simp only [Option.some.injEq, Prod.mk.injEq] at h
    obtain ⟨rfl, rfl⟩ := h
    exact sound_a1 (by rw [ho]; intro c e; cases e) (fun ρ => by unfold execOp; rw [ho]; rfl) (fun hr hx hg hk hu => gBox_ok hr hx hg hk hu)
  · rename_i t ps ho
    obtain ⟨c', hc, e⟩ := omap h
    simp only [Prod.mk.injEq] at e
    obtain ⟨rfl, rfl⟩ := e
    exact s_build ho hc
  · rename_i t n ps ho
    obtain ⟨c', hc, e⟩ := omap h
    simp only [Prod.mk.injEq] at e
    obtain ⟨rfl, rfl⟩ := e
    exact s_buildSlice ho hc
  · rename_i t x ho
    obtain ⟨c', hc, e⟩ := omap h
    simp only [Prod.mk.injEq] at e
    obtain ⟨rfl, rfl⟩ := e
    exact s_load ho hc
  · rename_i t x v ho
    obtain ⟨c', hc, e⟩ := omap h
    simp only [Prod.mk.injEq] at e
    obtain ⟨rfl, rfl⟩ := e
    exact s_store ho hc
  · rename_i x ho
    simp only [Option.some.injEq, Prod.mk.injEq] at h
    obtain ⟨rfl, rfl⟩ := h
    exact s_nilCheck ho
  · rename_i op t x y b ho
    obtain ⟨c', hc, e⟩ := omap h
    simp only [Prod.mk.injEq] at e
    obtain ⟨rfl, rfl⟩ := e
    exact s_binOp ho hc
  · rename_i op t x ho
    simp only [Option.some.injEq, Prod.mk.injEq] at h
    obtain ⟨rfl, rfl⟩ := h
    exact sound_p1 (by rw [ho]; intro c e; cases e) (fun ρ => by unfold execOp; rw [ho]; rfl) (fun hx hg => pUn_ok hx hg)
  · rename_i s d x ho
    obtain ⟨c', hc, e⟩ := omap h
    simp only [Prod.mk.injEq] at e
    obtain ⟨rfl, rfl⟩ := e
    exact s_convert ho hc
  · rename_i fn a b ho
    obtain ⟨hy, e⟩ := bif_some h
    simp only [Prod.mk.injEq] at e
    obtain ⟨rfl, rfl⟩ := e
    exact s_makeFunc ho hy
  · rename_i t x ho
    obtain ⟨c', hc, e⟩ := omap h
    simp only [Prod.mk.injEq] at e
    obtain ⟨rfl, rfl⟩ := e
    exact s_makeInterface ho hc
  · rename_i t ho
    simp only [Option.some.injEq, Prod.mk.injEq] at h
    obtain ⟨rfl, rfl⟩ := h
    refine sound_a0 (by rw [ho]; intro c e; cases e) (fun ρ => by unfold execOp; rw [ho]; rfl) (fun hr hg hk hu => ?_)
    simp only [aMm, Option.some.injEq, Prod.mk.injEq] at hg
    obtain ⟨rfl, rfl⟩ := hg
    exact gMkm_ok (t := t) hr hk hu
  · rename_i t x ho
    obtain ⟨u, hc, e⟩ := omap h
    simp only [Prod.mk.injEq] at e
    obtain ⟨rfl, rfl⟩ := e
    obtain ⟨kt, et, hut⟩ : ∃ kt et, P.underlying t = some (.map kt et) := by
      unfold cMap at hc
      split at hc
      · rename_i kt et hu; exact ⟨kt, et, hu⟩
      · cases hc
    refine sound_a1 (s := fun v => Instr.makeMap t (some v)) (by rw [ho]; intro c e; cases e) (fun ρ => by unfold execOp; rw [ho]; rfl) (fun {G B w0 H μ w x x' y sh n} hr hx hg hk hu => ?_)
    cases hx with
    | int k z =>
      simp only [gMm, Option.some.injEq, Prod.mk.injEq] at hg
      obtain ⟨rfl, rfl⟩ := hg
      obtain ⟨v', w', μ', r1, r2⟩ := gMkm_ok (P := P) (t := t) hr hk hu
      refine ⟨v', w', μ', ?_, r2⟩
      rw [← r1]
      simp [Instr.makeMap, run_underlying hut, asInt, asIntOf]
    | _ => cases hg
  · rename_i t l c' ho
    obtain ⟨c', hc, e⟩ := omap h
    simp only [Prod.mk.injEq] at e
    obtain ⟨rfl, rfl⟩ := e
    exact s_makeSlice ho hc
  · rename_i t x lo hi mx ho
    obtain ⟨c', hc, e⟩ := omap h
    simp only [Prod.mk.injEq] at e
    obtain ⟨rfl, rfl⟩ := e
    exact s_slice ho hc
  · rename_i s x f ho
    obtain ⟨c', hc, e⟩ := omap h
    simp only [Prod.mk.injEq] at e
    obtain ⟨rfl, rfl⟩ := e
    exact s_fieldAddr ho hc
  · rename_i s x f ho
    obtain ⟨c', hc, e⟩ := omap h
    simp only [Prod.mk.injEq] at e
    obtain ⟨rfl, rfl⟩ := e
    exact s_field ho hc
  · rename_i t x i ho
    obtain ⟨c', hc, e⟩ := omap h
    simp only [Prod.mk.injEq] at e
    obtain ⟨rfl, rfl⟩ := e
    exact s_indexAddr ho hc
  · rename_i t x i ho
    obtain ⟨c', hc, e⟩ := omap h
    simp only [Prod.mk.injEq] at e
    obtain ⟨rfl, rfl⟩ := e
    exact s_index ho hc
  · rename_i t x i ok ho
    obtain ⟨c', hc, e⟩ := omap h
    simp only [Prod.mk.injEq] at e
    obtain ⟨rfl, rfl⟩ := e
    exact s_lookup ho hc
  · rename_i t m k v ho
    obtain ⟨c', hc, e⟩ := omap h
    simp only [Prod.mk.injEq] at e
    obtain ⟨rfl, rfl⟩ := e
    exact s_update (.inl ho) hc
  · rename_i t m k v ho
    obtain ⟨c', hc, e⟩ := omap h
    simp only [Prod.mk.injEq] at e
    obtain ⟨rfl, rfl⟩ := e
    exact s_update (.inr ho) hc
  · rename_i x i ho
    simp only [Option.some.injEq, Prod.mk.injEq] at h
    obtain ⟨rfl, rfl⟩ := h
    exact sound_p1 (by rw [ho]; intro c e; cases e) (fun ρ => by unfold execOp; rw [ho]; rfl) (fun hx hg => pExt_ok hx hg)
  · rename_i t x ho
    obtain ⟨c', hc, e⟩ := omap h
    simp only [Prod.mk.injEq] at e
    obtain ⟨rfl, rfl⟩ := e
    unfold cRng at hc
    split at hc
    · rename_i kt et hu
      simp only [Option.some.injEq] at hc
      subst hc
      exact s_range ho hu
    · rename_i hu
      simp only [Option.some.injEq] at hc
      subst hc
      exact s_rangeS ho hu
    · cases hc
  · rename_i x b ho
    cases b with
    | true =>
      simp only [cond_true, Option.some.injEq, Prod.mk.injEq] at h
      obtain ⟨rfl, rfl⟩ := h
      exact s_nextS ho
    | false =>
      simp only [cond_false, Option.some.injEq, Prod.mk.injEq] at h
      obtain ⟨rfl, rfl⟩ := h
      exact s_next ho
  · rename_i x ho
    simp only [Option.some.injEq, Prod.mk.injEq] at h
    obtain ⟨rfl, rfl⟩ := h
    exact s_entry ho
  · rename_i cl ho
    obtain ⟨callee, args, ts⟩ := cl
    simp only at h
    split at h
    · exact s_builtin ho h
    · simp only [Option.some.injEq, Prod.mk.injEq] at h
      obtain ⟨rfl, rfl⟩ := h
      exact ⟨_, args, ts, ho, rfl⟩
    · cases h
  · rename_i cl ho
    obtain ⟨callee, args, ts⟩ := cl
    simp only at h
    split at h
    · simp only [Option.some.injEq, Prod.mk.injEq] at h
      obtain ⟨rfl, rfl⟩ := h
      exact ⟨_, args, ts, ho, rfl⟩
    · cases h
  · cases h
end Cr
end Go.Proofs.YtekbkaipdmklpaaGreatDoor
