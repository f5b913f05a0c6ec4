/- The plain law of LatticeTurns: pairs turned around, repeated, added. No program's walk. -/
import Derived.Test.YtjancemacdffbaaDoorPl6
import Derived.Test.YtjancemacdffbaaDoorLw13
namespace Go.Proofs.YtjancemacdffbaaDoor

def sw (p : Int × Int) : Int × Int := (p.2, p.1)
/-- the pairs from k on, from the last one to the first, turned around -/
def turnL (ps : List (Int × Int)) (k : Nat) : List (Int × Int) := (ps.drop k).reverse.map sw
/-- the same, each twice, not turned -/
def moreL (ps : List (Int × Int)) (k : Nat) : List (Int × Int) := (ps.drop k).reverse.flatMap fun p => [p, p]

theorem drop_getD (ps : List (Int × Int)) (k : Nat) (h : k < ps.length) : ps.drop k = ps.getD k (0, 0) :: ps.drop (k + 1) := by
  rw [List.drop_eq_getElem_cons h, List.getD_eq_getElem?_getD, List.getElem?_eq_getElem h]; rfl
theorem turnL_step (ps : List (Int × Int)) (k : Nat) (h : k < ps.length) : turnL ps k = turnL ps (k + 1) ++ [sw (ps.getD k (0, 0))] := by
  unfold turnL; rw [drop_getD ps k h]; simp
theorem moreL_step (ps : List (Int × Int)) (k : Nat) (h : k < ps.length) : moreL ps k = moreL ps (k + 1) ++ [ps.getD k (0, 0), ps.getD k (0, 0)] := by
  unfold moreL; rw [drop_getD ps k h]; simp
theorem turnL_end (ps : List (Int × Int)) : turnL ps ps.length = [] := by simp [turnL]
theorem moreL_end (ps : List (Int × Int)) : moreL ps ps.length = [] := by simp [moreL]
theorem turnL_length (ps : List (Int × Int)) (k : Nat) : (turnL ps k).length = ps.length - k := by simp [turnL]
theorem moreL_length (ps : List (Int × Int)) (k : Nat) : (moreL ps k).length = (ps.length - k) * 2 := by
  have : ∀ l : List (Int × Int), (l.flatMap fun p => [p, p]).length = l.length * 2 := fun l => by
    induction l with
    | nil => rfl
    | cons p l ih => simp only [List.flatMap_cons, List.length_append, List.length_cons, List.length_nil]; omega
  unfold moreL; rw [this]; simp
theorem mem_turnL (ps : List (Int × Int)) (p : Int × Int) : p ∈ turnL ps 0 ↔ sw p ∈ ps := by
  simp only [turnL, List.drop_zero, List.mem_map, List.mem_reverse]
  constructor
  · rintro ⟨q, hq, rfl⟩; exact hq
  · intro h; exact ⟨sw p, h, rfl⟩
theorem mem_moreL (ps : List (Int × Int)) (p : Int × Int) : p ∈ moreL ps 0 ↔ p ∈ ps := by
  simp [moreL, List.mem_flatMap]

theorem RT_turn {ps : List (Int × Int)} {i j : Nat} : RT (turnL ps 0) i j ↔ RT ps j i := by
  constructor
  · intro h
    exact h (fun x y => RT ps y x) (RT.refl ps) (fun _ _ _ a b => b.trans a) fun p hp => by
      exact RT.pair ((mem_turnL ps p).1 hp)
  · intro h
    exact h (fun x y => RT (turnL ps 0) y x) (RT.refl _) (fun _ _ _ a b => b.trans a) fun p hp => by
      exact RT.pair (p := sw p) ((mem_turnL ps (sw p)).2 hp)
theorem okP_sw {n : Nat} {p : Int × Int} (h : okP n (sw p) = true) : okP n p = true := by
  rw [okP_iff] at h ⊢; unfold sw at h; simp only at h; omega

theorem turn_lat {n : Nat} {ps : List (Int × Int)} (hn : n ≤ 32) (ha : Anti ps n) (hf : Full ps n) (hok : ∀ p ∈ ps, okP n p = true) :
    (newL n (turnL ps 0)).1 = 0 ∧ IsLat n (turnL ps 0) (newL n (turnL ps 0)).2.1 (newL n (turnL ps 0)).2.2 := by
  refine (newL_all hn fun p hp => okP_sw (hok _ ((mem_turnL ps p).1 hp))).2.2 ?_ ?_
  · intro i j hi hj h1 h2
    exact ha i j hi hj (RT_turn.1 h2) (RT_turn.1 h1)
  · intro i j hi hj
    obtain ⟨⟨k, hk⟩, ⟨m, hm⟩⟩ := hf i j hi hj
    exact ⟨⟨m, hm.1, RT_turn.2 hm.2.1, RT_turn.2 hm.2.2.1, fun q hq a b => RT_turn.2 (hm.2.2.2 q hq (RT_turn.1 a) (RT_turn.1 b))⟩,
      ⟨k, hk.1, RT_turn.2 hk.2.1, RT_turn.2 hk.2.2.1, fun q hq a b => RT_turn.2 (hk.2.2.2 q hq (RT_turn.1 a) (RT_turn.1 b))⟩⟩
theorem IsJoin.turn {n i j k : Nat} {ps : List (Int × Int)} (h : IsMeet ps n i j k) : IsJoin (turnL ps 0) n i j k :=
  ⟨h.1, RT_turn.2 h.2.1, RT_turn.2 h.2.2.1, fun q hq a b => RT_turn.2 (h.2.2.2 q hq (RT_turn.1 a) (RT_turn.1 b))⟩
theorem IsMeet.turn {n i j k : Nat} {ps : List (Int × Int)} (h : IsJoin ps n i j k) : IsMeet (turnL ps 0) n i j k :=
  ⟨h.1, RT_turn.2 h.2.1, RT_turn.2 h.2.2.1, fun q hq a b => RT_turn.2 (h.2.2.2 q hq (RT_turn.1 a) (RT_turn.1 b))⟩

/-- another list of pairs with the same order -/
def Eqv (n : Nat) (ps qs : List (Int × Int)) : Prop := (∀ p ∈ qs, okP n p = true) ∧ ∀ i j, RT qs i j ↔ RT ps i j
theorem Eqv.isJoin {n i j k : Nat} {ps qs : List (Int × Int)} (e : Eqv n ps qs) : IsJoin qs n i j k ↔ IsJoin ps n i j k := by
  unfold IsJoin; simp only [e.2]
theorem Eqv.isMeet {n i j k : Nat} {ps qs : List (Int × Int)} (e : Eqv n ps qs) : IsMeet qs n i j k ↔ IsMeet ps n i j k := by
  unfold IsMeet; simp only [e.2]
theorem Eqv.lat {n : Nat} {ps qs : List (Int × Int)} (e : Eqv n ps qs) (hn : n ≤ 32) (ha : Anti ps n) (hf : Full ps n) :
    (newL n qs).1 = 0 ∧ IsLat n qs (newL n qs).2.1 (newL n qs).2.2 := by
  refine (newL_all hn e.1).2.2 ?_ ?_
  · intro i j hi hj h1 h2; exact ha i j hi hj ((e.2 _ _).1 h1) ((e.2 _ _).1 h2)
  · intro i j hi hj
    obtain ⟨⟨k, hk⟩, ⟨m, hm⟩⟩ := hf i j hi hj
    exact ⟨⟨k, e.isJoin.2 hk⟩, ⟨m, e.isMeet.2 hm⟩⟩
theorem Eqv.more {n : Nat} {ps : List (Int × Int)} (hok : ∀ p ∈ ps, okP n p = true) : Eqv n ps (moreL ps 0) :=
  ⟨fun p hp => hok p ((mem_moreL ps p).1 hp), fun _ _ => ⟨RT.mono fun p hp => RT.pair ((mem_moreL ps p).1 hp), RT.mono fun p hp => RT.pair ((mem_moreL ps p).2 hp)⟩⟩
theorem Eqv.add {n a i : Nat} {ps qs : List (Int × Int)} (e : Eqv n ps qs) (ha : a < n) (hi : i < n) (h : RT ps a i) : Eqv n ps (qs ++ [((a : Int), (i : Int))]) := by
  refine ⟨fun p hp => ?_, fun x y => ⟨RT.mono fun p hp => ?_, RT.mono fun p hp => ?_⟩⟩
  · rcases List.mem_append.1 hp with hp | hp
    · exact e.1 p hp
    · simp at hp; subst hp; exact okP_in n a i ha hi
  · rcases List.mem_append.1 hp with hp | hp
    · exact (e.2 _ _).1 (RT.pair hp)
    · simp at hp; subst hp; simpa using h
  · have h1 := (e.2 _ _).2 (RT.pair hp)
    exact RT.mono (fun q hq => RT.pair (by simp [hq])) h1

/-- the laws that LatticeTurns asks, of two levels -/
theorem turn_jv {n : Nat} {ps : List (Int × Int)} {up dn u d : Nat → Nat} (hn : n ≤ 32) (h : IsLat n ps up dn) (h' : IsLat n (turnL ps 0) u d) {i j : Nat} (hi : i < n) (hj : j < n) :
    jv n u i j = jv n dn i j ∧ jv n d i j = jv n up i j ∧ leB n u i j = leB n up j i := by
  obtain ⟨⟨k, hk⟩, ⟨m, hm⟩⟩ := h.full i j hi hj
  refine ⟨?_, ?_, ?_⟩
  · rw [meet_lev hn h hi hj hm, join_lev hn h' hi hj (IsJoin.turn hm)]
  · rw [join_lev hn h hi hj hk, meet_lev hn h' hi hj (IsMeet.turn hk)]
  · rw [Bool.eq_iff_iff, leB_iff h' hi hj, leB_iff h hj hi]; exact RT_turn
theorem eqv_jv {n : Nat} {ps qs : List (Int × Int)} {up dn u d : Nat → Nat} (hn : n ≤ 32) (e : Eqv n ps qs) (h : IsLat n ps up dn) (h' : IsLat n qs u d) {i j : Nat} (hi : i < n) (hj : j < n) :
    jv n u i j = jv n up i j ∧ jv n d i j = jv n dn i j ∧ leB n u i j = leB n up i j := by
  obtain ⟨⟨k, hk⟩, ⟨m, hm⟩⟩ := h.full i j hi hj
  refine ⟨?_, ?_, ?_⟩
  · rw [join_lev hn h hi hj hk, join_lev hn h' hi hj (e.isJoin.2 hk)]
  · rw [meet_lev hn h hi hj hm, meet_lev hn h' hi hj (e.isMeet.2 hm)]
  · rw [Bool.eq_iff_iff, leB_iff h' hi hj, leB_iff h hi hj]; exact e.2 i j

end Go.Proofs.YtjancemacdffbaaDoor
