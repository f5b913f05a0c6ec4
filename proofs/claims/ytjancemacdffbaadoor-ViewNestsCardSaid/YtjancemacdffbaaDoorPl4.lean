/- The plain law of lattice.New: its error, and what the tables are good for. No program. -/
import Derived.Test.YtjancemacdffbaaDoorPl3
namespace Go.Proofs.YtjancemacdffbaaDoor

theorem lt_of_T {s : Nat → Nat} {i : Nat} (h : ∀ j, T s i j → j < 32) : s i < 4294967296 := by
  rw [show (4294967296 : Nat) = 2 ^ 32 from rfl]
  apply Nat.lt_pow_two_of_testBit
  intro j hj
  cases e : (s i).testBit j with
  | false => rfl
  | true => exact absurd (h j e) (by omega)

theorem T_and (s : Nat → Nat) (i j k : Nat) : (s i &&& s j).testBit k = true ↔ T s i k ∧ T s j k := by
  rw [Nat.testBit_and, Bool.and_eq_true]; rfl

/-- level k is in both sets, and each level of both is in its own -/
def Bd (s : Nat → Nat) (i j k : Nat) : Prop := T s i k ∧ T s j k ∧ ∀ m, T s i m → T s j m → T s k m

theorem good_iff {s : Nat → Nat} (h : ∀ i j, T s i j → j < 32) (i j k : Nat) : ((s i &&& s j).testBit k && Pl.sub (s i &&& s j) (s k)) = true ↔ Bd s i j k := by
  have hl : s i &&& s j < 4294967296 := Nat.lt_of_le_of_lt Nat.and_le_left (lt_of_T (h i))
  rw [Bool.and_eq_true, T_and, Pl.sub_iff _ _ hl (lt_of_T (h k))]
  constructor
  · rintro ⟨⟨h1, h2⟩, h3⟩
    exact ⟨h1, h2, fun m a b => h3 m ((T_and s i j m).2 ⟨a, b⟩)⟩
  · rintro ⟨h1, h2, h3⟩
    exact ⟨⟨h1, h2⟩, fun m hm => by have := (T_and s i j m).1 hm; exact h3 m this.1 this.2⟩

theorem bnd_good {s : Nat → Nat} (h : ∀ i j, T s i j → j < 32) (i j : Nat) (hw : 0 ≤ Pl.bnd s (s i &&& s j)) : ∃ k : Nat, Pl.bnd s (s i &&& s j) = k ∧ Bd s i j k := by
  rcases Pl.bnd_cases s (s i &&& s j) with ⟨h1, _⟩ | ⟨k, _, hk, hg, _⟩
  · omega
  · exact ⟨k, hk, (good_iff h i j k).1 hg⟩
theorem bnd_ge {s : Nat → Nat} (h : ∀ i j, T s i j → j < 32) (i j k : Nat) (hb : Bd s i j k) : 0 ≤ Pl.bnd s (s i &&& s j) := by
  rcases Pl.bnd_cases s (s i &&& s j) with ⟨_, h2⟩ | ⟨m, _, hk, _, _⟩
  · have := h2 k (h i k hb.1)
    rw [(good_iff h i j k).2 hb] at this
    cases this
  · omega

theorem whole_iff (n : Nat) (s : Nat → Nat) : whole n s = true ↔ ∀ i, i < n → ∀ j, j < n → 0 ≤ Pl.bnd s (s i &&& s j) := by
  unfold whole
  rw [List.all_eq_true]
  simp only [List.mem_range, whole1, List.all_eq_true, whole2, decide_eq_true_eq]

theorem okLoop_iff {up dn : Nat → Nat} (i : Nat) : okLoop up dn i = true ↔ ∀ j, (T up i j ∧ T dn i j) ↔ j = i := by
  unfold okLoop
  rw [beq_iff_eq]
  constructor
  · intro h j
    have := congrArg (fun x => x.testBit j) h
    simp only [Nat.testBit_and, Nat.testBit_two_pow] at this
    unfold T
    rw [← Bool.and_eq_true, this, decide_eq_true_eq]
    exact eq_comm
  · intro h
    apply Nat.eq_of_testBit_eq
    intro j
    rw [Nat.testBit_and, Nat.testBit_two_pow, Bool.eq_iff_iff, Bool.and_eq_true, decide_eq_true_eq]
    exact (h j).trans eq_comm

def Anti (ps : List (Int × Int)) (n : Nat) : Prop := ∀ i j, i < n → j < n → RT ps i j → RT ps j i → i = j
def IsJoin (ps : List (Int × Int)) (n i j k : Nat) : Prop := k < n ∧ RT ps i k ∧ RT ps j k ∧ ∀ m, m < n → RT ps i m → RT ps j m → RT ps k m
def IsMeet (ps : List (Int × Int)) (n i j k : Nat) : Prop := k < n ∧ RT ps k i ∧ RT ps k j ∧ ∀ m, m < n → RT ps m i → RT ps m j → RT ps m k
/-- every two levels have a join and a meet -/
def Full (ps : List (Int × Int)) (n : Nat) : Prop := ∀ i j, i < n → j < n → (∃ k, IsJoin ps n i j k) ∧ ∃ k, IsMeet ps n i j k

/-- what the tables of a lattice hold -/
structure IsLat (n : Nat) (ps : List (Int × Int)) (up dn : Nat → Nat) : Prop where
  up : ∀ i j, T up i j ↔ i < n ∧ j < n ∧ RT ps i j
  dn : ∀ i j, T dn i j ↔ i < n ∧ j < n ∧ RT ps j i
  anti : Anti ps n
  full : Full ps n

section
variable {n : Nat} {ps : List (Int × Int)} {up dn : Nat → Nat}
theorem Bd_up (hu : ∀ i j, T up i j ↔ i < n ∧ j < n ∧ RT ps i j) {i j : Nat} (hi : i < n) (hj : j < n) (k : Nat) : Bd up i j k ↔ IsJoin ps n i j k := by
  unfold Bd IsJoin
  simp only [hu, hi, hj, true_and]
  constructor
  · rintro ⟨⟨a, b⟩, ⟨_, c⟩, d⟩
    exact ⟨a, b, c, fun m hm h1 h2 => (d m ⟨hm, h1⟩ ⟨hm, h2⟩).2.2⟩
  · rintro ⟨a, b, c, d⟩
    exact ⟨⟨a, b⟩, ⟨a, c⟩, fun m h1 h2 => ⟨a, h1.1, d m h1.1 h1.2 h2.2⟩⟩
theorem Bd_dn (hd : ∀ i j, T dn i j ↔ i < n ∧ j < n ∧ RT ps j i) {i j : Nat} (hi : i < n) (hj : j < n) (k : Nat) : Bd dn i j k ↔ IsMeet ps n i j k := by
  unfold Bd IsMeet
  simp only [hd, hi, hj, true_and]
  constructor
  · rintro ⟨⟨a, b⟩, ⟨_, c⟩, d⟩
    exact ⟨a, b, c, fun m hm h1 h2 => (d m ⟨hm, h1⟩ ⟨hm, h2⟩).2.2⟩
  · rintro ⟨a, b, c, d⟩
    exact ⟨⟨a, b⟩, ⟨a, c⟩, fun m h1 h2 => ⟨a, h1.1, d m h1.1 h1.2 h2.2⟩⟩
theorem IsJoin.uniq (ha : Anti ps n) {i j k k' : Nat} (h : IsJoin ps n i j k) (h' : IsJoin ps n i j k') : k = k' :=
  ha k k' h.1 h'.1 (h.2.2.2 k' h'.1 h'.2.1 h'.2.2.1) (h'.2.2.2 k h.1 h.2.1 h.2.2.1)
theorem IsMeet.uniq (ha : Anti ps n) {i j k k' : Nat} (h : IsMeet ps n i j k) (h' : IsMeet ps n i j k') : k = k' :=
  ha k k' h.1 h'.1 (h'.2.2.2 k h.1 h.2.1 h.2.2.1) (h.2.2.2 k' h'.1 h'.2.1 h'.2.2.1)
theorem join_bnd (hn : n ≤ 32) (hu : ∀ i j, T up i j ↔ i < n ∧ j < n ∧ RT ps i j) (ha : Anti ps n) {i j k : Nat} (hi : i < n) (hj : j < n) (h : IsJoin ps n i j k) : Pl.bnd up (up i &&& up j) = k := by
  have hb : ∀ i j, T up i j → j < 32 := fun i j h => by have := (hu i j).1 h; omega
  obtain ⟨m, hm, hg⟩ := bnd_good hb i j (bnd_ge hb i j k ((Bd_up hu hi hj k).2 h))
  rw [hm, IsJoin.uniq ha ((Bd_up hu hi hj m).1 hg) h]
theorem meet_bnd (hn : n ≤ 32) (hd : ∀ i j, T dn i j ↔ i < n ∧ j < n ∧ RT ps j i) (ha : Anti ps n) {i j k : Nat} (hi : i < n) (hj : j < n) (h : IsMeet ps n i j k) : Pl.bnd dn (dn i &&& dn j) = k := by
  have hb : ∀ i j, T dn i j → j < 32 := fun i j h => by have := (hd i j).1 h; omega
  obtain ⟨m, hm, hg⟩ := bnd_good hb i j (bnd_ge hb i j k ((Bd_dn hd hi hj k).2 h))
  rw [hm, IsMeet.uniq ha ((Bd_dn hd hi hj m).1 hg) h]
end

theorem newL_all {n : Nat} {ps : List (Int × Int)} (hn : n ≤ 32) (hok : ∀ p ∈ ps, okP n p = true) :
    (¬ Anti ps n → (newL n ps).1 = 9) ∧ (Anti ps n → ¬ Full ps n → (newL n ps).1 = 4) ∧
    (Anti ps n → Full ps n → (newL n ps).1 = 0 ∧ IsLat n ps (newL n ps).2.1 (newL n ps).2.2) := by
  obtain ⟨u, hu⟩ := addPairs_isSome n ps (up0 n) hok
  have hT := T_close hu
  have hD : ∀ i j, T (downAll n (closeAll n u n) n) i j ↔ i < n ∧ j < n ∧ RT ps j i := fun i j => by
    rw [T_downAll, hT]
    constructor
    · rintro ⟨a, b, _, _, c⟩; exact ⟨a, b, c⟩
    · rintro ⟨a, b, c⟩; exact ⟨a, b, b, a, c⟩
  generalize hup : closeAll n u n = up at *
  generalize hdn : downAll n up n = dn at *
  have hloop : (List.range n).all (okLoop up dn) = true ↔ Anti ps n := by
    rw [List.all_eq_true]
    simp only [List.mem_range]
    constructor
    · intro h i j hi hj h1 h2
      have := ((okLoop_iff i).1 (h i hi) j).1 ⟨(hT i j).2 ⟨hi, hj, h1⟩, (hD i j).2 ⟨hi, hj, h2⟩⟩
      exact this.symm
    · intro h i hi
      rw [okLoop_iff]
      intro j
      rw [hT, hD]
      constructor
      · rintro ⟨⟨_, hj, h1⟩, _, _, h2⟩
        exact (h i j hi hj h1 h2).symm
      · rintro rfl
        exact ⟨⟨hi, hi, RT.refl _ _⟩, hi, hi, RT.refl _ _⟩
  have hbu : ∀ i j, T up i j → j < 32 := fun i j h => by have := (hT i j).1 h; omega
  have hbd : ∀ i j, T dn i j → j < 32 := fun i j h => by have := (hD i j).1 h; omega
  have hfull : (whole n up && whole n dn) = true ↔ Full ps n := by
    rw [Bool.and_eq_true, whole_iff, whole_iff]
    constructor
    · rintro ⟨h1, h2⟩ i j hi hj
      obtain ⟨k, _, hk⟩ := bnd_good hbu i j (h1 i hi j hj)
      obtain ⟨m, _, hm⟩ := bnd_good hbd i j (h2 i hi j hj)
      exact ⟨⟨k, (Bd_up hT hi hj k).1 hk⟩, ⟨m, (Bd_dn hD hi hj m).1 hm⟩⟩
    · intro h
      refine ⟨fun i hi j hj => ?_, fun i hi j hj => ?_⟩
      · obtain ⟨⟨k, hk⟩, _⟩ := h i j hi hj
        exact bnd_ge hbu i j k ((Bd_up hT hi hj k).2 hk)
      · obtain ⟨_, ⟨k, hk⟩⟩ := h i j hi hj
        exact bnd_ge hbd i j k ((Bd_dn hD hi hj k).2 hk)
  refine ⟨fun ha => ?_, fun ha hf => ?_, fun ha hf => ?_⟩
  · rw [newL_loop hu (by rw [hup, hdn]; cases e : (List.range n).all (okLoop up dn) with
      | false => rfl
      | true => exact absurd (hloop.1 e) ha)]
  · rw [newL_form hu (by rw [hup, hdn]; exact hloop.2 ha) (by rw [hup, hdn]; cases e : (whole n up && whole n dn) with
      | false => rfl
      | true => exact absurd (hfull.1 e) hf)]
  · rw [newL_ok hu (by rw [hup, hdn]; exact hloop.2 ha) (by rw [hup, hdn]; exact hfull.2 hf), hup, hdn]
    exact ⟨rfl, hT, hD, ha, hf⟩

theorem newL_zero {n : Nat} {ps : List (Int × Int)} (hn : n ≤ 32) (h : (newL n ps).1 = 0) : (∀ p ∈ ps, okP n p = true) ∧ IsLat n ps (newL n ps).2.1 (newL n ps).2.2 := by
  have hok : ∀ p ∈ ps, okP n p = true := fun p hp => by
    cases e : okP n p with
    | true => rfl
    | false => rw [newL_none (addPairs_none n ps _ p hp e)] at h; cases h
  obtain ⟨h1, h2, h3⟩ := newL_all hn hok
  have ha : Anti ps n := Classical.byContradiction fun ha => by rw [h1 ha] at h; cases h
  have hf : Full ps n := Classical.byContradiction fun hf => by rw [h2 ha hf] at h; cases h
  exact ⟨hok, (h3 ha hf).2⟩

end Go.Proofs.YtjancemacdffbaaDoor
