/- Plain: which nodes occur in a term, its variables; what the searches of code and reference keep. -/
import Derived.Test.YtcckmkidmelbnaaGreatDoorGh
namespace Go.Proofs.YtcckmkidmelbnaaGreatDoor
open Go.RowKit

/-- a node occurs in a term -/
inductive Occ (L : List Nd) (t : Nat) : Nat → Prop
  | top : Occ L t t
  | arg {i a : Nat} : Occ L t i → a ∈ (L.getD i default).args → Occ L t a
theorem args_default (L : List Nd) (i : Nat) (h : L.length ≤ i) : (L.getD i default).args = [] := by
  rw [List.getD_eq_getElem?_getD, List.getElem?_eq_none h]; rfl
theorem GOk.arg {W : Nat} {L : List Nd} (h : GOk W L) {i a : Nat} (ha : a ∈ (L.getD i default).args) : a < i ∧ i < L.length := by
  by_cases hi : i < L.length
  · exact ⟨(h i hi).2.2.2.2.2.2 a ha, hi⟩
  · rw [args_default L i (by omega)] at ha; cases ha
theorem GOk.argl {W : Nat} {L : List Nd} (h : GOk W L) (i : Nat) : (L.getD i default).args.length ≤ 3 := by
  by_cases hi : i < L.length
  · rw [(h i hi).2.2.2.2.1]; unfold arN; (repeat' split) <;> omega
  · rw [args_default L i (by omega)]; simp
theorem Occ.lt {W : Nat} {L : List Nd} {t : Nat} (h : GOk W L) (ht : t < L.length) {j : Nat} (o : Occ L t j) : j < L.length := by
  induction o with
  | top => exact ht
  | arg _ ha ih => have := (h.arg ha).1; omega
/-- a number of a variable of a term -/
def VarIn (L : List Nd) (t : Nat) (n : Int) : Prop := ∃ j, Occ L t j ∧ (L.getD j default).op = 1 ∧ (((L.getD j default).num : Nat) : Int) = n
/-- numbers of variables are small -/
def VOk (L : List Nd) : Prop := ∀ i, (L.getD i default).op = 1 → (L.getD i default).num < 12
theorem VOk.nil : VOk [] := fun i h => by simp at h
theorem VOk.ask {L : List Nd} (h : VOk L) {n : Nd} (hn : n.op = 1 → n.num < 12) : VOk (askL n L) := by
  unfold askL
  split
  · exact h
  · intro i hi
    by_cases e : i < L.length
    · rw [List.getD_eq_getElem?_getD, List.getElem?_append_left e, ← List.getD_eq_getElem?_getD] at hi ⊢
      exact h i hi
    · by_cases e2 : i = L.length
      · subst e2
        rw [List.getD_eq_getElem?_getD, List.getElem?_append_right (Nat.le_refl _)] at hi ⊢
        simp at hi ⊢
        exact hn hi
      · rw [List.getD_eq_getElem?_getD, List.getElem?_eq_none (by simp; omega)] at hi
        cases hi
theorem bldL_vok (W : Nat) (qs : List RawN) : VOk (bldL W qs) := by
  rw [← List.reverse_reverse qs]
  induction qs.reverse with
  | nil => exact VOk.nil
  | cons q qs ih =>
    rw [List.reverse_cons, bldL_snoc]
    refine ih.ask fun h => ?_
    unfold rawNd at h ⊢
    (repeat' split) <;> (repeat' split at h) <;> simp_all <;> omega
theorem nodup_len {n : Nat} {S : List Nat} (hd : S.Nodup) (hl : ∀ x ∈ S, x < n) : S.length ≤ n := by
  have hp : (S ++ (List.range n).filter fun b => !S.contains b).Perm (List.range n) := by
    refine (List.perm_ext_iff_of_nodup ?_ List.nodup_range).2 fun b => ?_
    · refine List.nodup_append.2 ⟨hd, List.nodup_range.filter _, fun a ha b hb => ?_⟩
      rintro rfl
      simp at hb
      exact hb.2 ha
    · simp only [List.mem_append, List.mem_filter, List.mem_range]
      constructor
      · rintro (hb | hb)
        · exact hl b hb
        · exact hb.1
      · intro hb
        by_cases hc : b ∈ S
        · exact .inl hc
        · exact .inr ⟨hb, by simpa using hc⟩
  have := hp.length_eq
  rw [List.length_append, List.length_range] at this
  omega
/-- what the code's search keeps: seen nodes S, the stack K (its top at the end) -/
structure SeenInv (L : List Nd) (t : Nat) (S K : List Nat) : Prop where
  nd : S.Nodup
  occS : ∀ x ∈ S, Occ L t x
  occK : ∀ x ∈ K, Occ L t x
  top : t ∈ S ∨ t ∈ K
  closed : ∀ x ∈ S, ∀ a ∈ (L.getD x default).args, a ∈ S ∨ a ∈ K
  kl : K.length ≤ 3 * S.length + 1
section
variable {W : Nat} {L : List Nd} {t x : Nat} {S K : List Nat}
theorem SeenInv.start (L : List Nd) (t : Nat) : SeenInv L t [] [t] :=
  ⟨.nil, fun x hx => (by cases hx), fun x hx => (by rw [List.mem_singleton.1 hx]; exact .top), .inr (List.mem_singleton.2 rfl), fun x hx => (by cases hx), Nat.le_refl _⟩
theorem SeenInv.skip (h : SeenInv L t S (K ++ [x])) (hx : x ∈ S) : SeenInv L t S K := by
  have key : ∀ a, a ∈ S ∨ a ∈ K ++ [x] → a ∈ S ∨ a ∈ K := fun a e => by
    rcases e with e | e
    · exact .inl e
    · rcases List.mem_append.1 e with e | e
      · exact .inr e
      · rw [List.mem_singleton.1 e]; exact .inl hx
  exact ⟨h.nd, h.occS, fun y hy => h.occK y (List.mem_append.2 (.inl hy)), key _ h.top, fun y hy a ha => key _ (h.closed y hy a ha), by have := h.kl; simp at this; omega⟩
theorem SeenInv.push (hg : GOk W L) (h : SeenInv L t S (K ++ [x])) (hx : x ∉ S) : SeenInv L t (S ++ [x]) (K ++ (L.getD x default).args) := by
  have ox : Occ L t x := h.occK x (by simp)
  have key : ∀ a, a ∈ S ∨ a ∈ K ++ [x] → a ∈ S ++ [x] ∨ a ∈ K ++ (L.getD x default).args := fun a e => by
    rcases e with e | e
    · exact .inl (List.mem_append.2 (.inl e))
    · rcases List.mem_append.1 e with e | e
      · exact .inr (List.mem_append.2 (.inl e))
      · exact .inl (List.mem_append.2 (.inr e))
  refine ⟨List.nodup_append.2 ⟨h.nd, by simp, fun a ha b hb => by rw [List.mem_singleton.1 hb]; rintro rfl; exact hx ha⟩, fun y hy => ?_, fun y hy => ?_, key _ h.top, fun y hy a ha => ?_, ?_⟩
  · rcases List.mem_append.1 hy with hy | hy
    · exact h.occS y hy
    · rw [List.mem_singleton.1 hy]; exact ox
  · rcases List.mem_append.1 hy with hy | hy
    · exact h.occK y (List.mem_append.2 (.inl hy))
    · exact .arg ox hy
  · rcases List.mem_append.1 hy with hy | hy
    · exact key _ (h.closed y hy a ha)
    · rw [List.mem_singleton.1 hy] at ha; exact .inr (List.mem_append.2 (.inr ha))
  · have h1 := h.kl
    have h2 := hg.argl x
    rw [List.length_append] at h1 ⊢
    rw [List.length_append, List.length_singleton] at *
    omega
theorem SeenInv.len (hg : GOk W L) (ht : t < L.length) (h : SeenInv L t S K) : S.length ≤ L.length :=
  nodup_len h.nd fun x hx => (h.occS x hx).lt hg ht
theorem SeenInv.less (hg : GOk W L) (ht : t < L.length) (h : SeenInv L t S (K ++ [x])) (hx : x ∉ S) : S.length < L.length := by
  have := (h.push hg hx).len hg ht
  simp at this; omega
theorem SeenInv.done (h : SeenInv L t S []) (j : Nat) : j ∈ S ↔ Occ L t j := by
  refine ⟨h.occS j, fun o => ?_⟩
  induction o with
  | top => rcases h.top with e | e; exact e; cases e
  | arg _ ha ih => rcases h.closed _ ih _ ha with e | e; exact e; cases e
/-- the stack's top -/
theorem stack_top (K : List Nat) (h : 0 < K.length) : K = K.take (K.length - 1) ++ [K.getD (K.length - 1) 0] := by
  have := take_getD 0 K (K.length - 1) (by omega)
  rw [show K.length - 1 + 1 = K.length by omega, List.take_length] at this
  exact this
end
/-- what the reference's marks keep: above k all arguments of marked nodes are marked -/
structure MarkI (L : List Nd) (t : Nat) (N : List Bool) (k : Nat) : Prop where
  len : N.length = L.length
  occ : ∀ j, N.getD j false = true → Occ L t j
  top : N.getD t false = true
  closed : ∀ i, k ≤ i → N.getD i false = true → ∀ a ∈ (L.getD i default).args, N.getD a false = true
/-- in node i: its first m arguments are marked -/
structure MarkJ (L : List Nd) (t : Nat) (N : List Bool) (i m : Nat) : Prop where
  inv : MarkI L t N (i + 1)
  here : N.getD i false = true
  first : ∀ j, j < m → N.getD ((L.getD i default).args.getD j 0) false = true
theorem getD_set_true (N : List Bool) (i j : Nat) (h : N.getD j false = true) : (N.set i true).getD j false = true := by
  simp only [List.getD_eq_getElem?_getD, List.getElem?_set] at *
  split
  · split
    · rfl
    · rename_i e1 e2; subst e1; rw [List.getElem?_eq_none (by omega)] at h; cases h
  · exact h
theorem getD_set_self (N : List Bool) (i : Nat) (h : i < N.length) : (N.set i true).getD i false = true := by
  rw [List.getD_eq_getElem?_getD, List.getElem?_set_self h]; rfl
theorem getD_set_or (N : List Bool) (i j : Nat) (h : (N.set i true).getD j false = true) : j = i ∨ N.getD j false = true := by
  by_cases e : i = j
  · exact .inl e.symm
  · right; simpa [List.getD_eq_getElem?_getD, List.getElem?_set, e] using h
section
variable {W : Nat} {L : List Nd} {t i m : Nat} {N : List Bool}
theorem MarkI.start (ht : t < L.length) : MarkI L t ((List.replicate L.length false).set t true) L.length := by
  refine ⟨by simp, fun j hj => ?_, ?_, fun i hi hn => ?_⟩
  · rcases getD_set_or _ _ _ hj with rfl | h
    · exact .top
    · simp [List.getD_eq_getElem?_getD, List.getElem?_replicate] at h
      split at h <;> cases h
  · exact getD_set_self _ _ (by simpa using ht)
  · rw [List.getD_eq_getElem?_getD, List.getElem?_eq_none (by simp; exact hi)] at hn; cases hn
theorem MarkI.skip (h : MarkI L t N (i + 1)) (hf : N.getD i false = false) : MarkI L t N i :=
  ⟨h.len, h.occ, h.top, fun j hj hn => by
    by_cases e : j = i
    · subst e; rw [hf] at hn; cases hn
    · exact h.closed j (by omega) hn⟩
theorem MarkI.enter (h : MarkI L t N (i + 1)) (hf : N.getD i false = true) : MarkJ L t N i 0 := ⟨h, hf, fun j hj => by omega⟩
theorem MarkJ.mark (hg : GOk W L) (h : MarkJ L t N i m) (hm : m < (L.getD i default).args.length) : MarkJ L t (N.set ((L.getD i default).args.getD m 0) true) i (m + 1) := by
  have ha : (L.getD i default).args.getD m 0 ∈ (L.getD i default).args := getD_mem 0 _ m hm
  have hlt := (hg.arg ha).1
  have hil := (hg.arg ha).2
  refine ⟨⟨by rw [List.length_set]; exact h.inv.len, fun j hj => ?_, getD_set_true _ _ _ h.inv.top, fun j hj hn a haa => ?_⟩, getD_set_true _ _ _ h.here, fun j hj => ?_⟩
  · rcases getD_set_or _ _ _ hj with rfl | hj
    · exact .arg (h.inv.occ i h.here) ha
    · exact h.inv.occ j hj
  · rcases getD_set_or _ _ _ hn with rfl | hn
    · omega
    · exact getD_set_true _ _ _ (h.inv.closed j hj hn a haa)
  · by_cases e : j = m
    · subst e
      exact getD_set_self _ _ (by rw [h.inv.len]; omega)
    · exact getD_set_true _ _ _ (h.first j (by omega))
theorem MarkJ.done (h : MarkJ L t N i (L.getD i default).args.length) : MarkI L t N i :=
  ⟨h.inv.len, h.inv.occ, h.inv.top, fun j hj hn a ha => by
    by_cases e : j = i
    · subst e
      obtain ⟨k, hk, rfl⟩ := List.mem_iff_getElem.1 ha
      have := h.first k hk
      rwa [List.getD_eq_getElem?_getD (l := (L.getD j default).args), List.getElem?_eq_getElem hk] at this
    · exact h.inv.closed j (by omega) hn a ha⟩
theorem MarkI.done (h : MarkI L t N 0) (j : Nat) : N.getD j false = true ↔ Occ L t j := by
  refine ⟨h.occ j, fun o => ?_⟩
  induction o with
  | top => exact h.top
  | arg _ ha ih => exact h.closed _ (Nat.zero_le _) ih _ ha
end
/-- the variables of the marked nodes below t -/
structure Coll (L : List Nd) (N : List Bool) (t : Nat) (xs : List Int) : Prop where
  mem : ∀ n : Int, n ∈ xs ↔ ∃ j, j < t ∧ N.getD j false = true ∧ (L.getD j default).op = 1 ∧ (((L.getD j default).num : Nat) : Int) = n
  len : xs.length ≤ t
section
variable {L : List Nd} {N : List Bool} {t : Nat} {xs : List Int}
theorem Coll.nil (L : List Nd) (N : List Bool) : Coll L N 0 [] := ⟨fun n => by simp, by simp⟩
theorem Coll.skip (h : Coll L N t xs) (hf : ¬ (N.getD t false = true ∧ (L.getD t default).op = 1)) : Coll L N (t + 1) xs :=
  ⟨fun n => (h.mem n).trans ⟨fun ⟨j, h1, h2⟩ => ⟨j, by omega, h2⟩, fun ⟨j, h1, h2, h3, h4⟩ => ⟨j, by
    by_cases e : j = t
    · subst e; exact absurd ⟨h2, h3⟩ hf
    · omega, h2, h3, h4⟩⟩, by have := h.len; omega⟩
theorem Coll.take (h : Coll L N t xs) (h1 : N.getD t false = true) (h2 : (L.getD t default).op = 1) {ys : List Int} (hm : ∀ n, n ∈ ys ↔ n ∈ xs ∨ n = (((L.getD t default).num : Nat) : Int)) (hl : ys.length = xs.length + 1) : Coll L N (t + 1) ys :=
  ⟨fun n => by
    rw [hm, h.mem]
    constructor
    · rintro (⟨j, a, b⟩ | rfl)
      · exact ⟨j, by omega, b⟩
      · exact ⟨t, by omega, h1, h2, rfl⟩
    · rintro ⟨j, a, b, c, d⟩
      by_cases e : j = t
      · subst e; exact .inr d.symm
      · exact .inl ⟨j, by omega, b, c, d⟩, by have := h.len; omega⟩
theorem Coll.done {W : Nat} (hg : GOk W L) {u : Nat} (hu : u < L.length) (hN : ∀ j, N.getD j false = true ↔ Occ L u j) (h : Coll L N L.length xs) (n : Int) : n ∈ xs ↔ VarIn L u n := by
  rw [h.mem]
  constructor
  · rintro ⟨j, a, b, c⟩; exact ⟨j, (hN j).1 b, c⟩
  · rintro ⟨j, b, c⟩; exact ⟨j, b.lt hg hu, (hN j).2 b, c⟩
end
end Go.Proofs.YtcckmkidmelbnaaGreatDoor
