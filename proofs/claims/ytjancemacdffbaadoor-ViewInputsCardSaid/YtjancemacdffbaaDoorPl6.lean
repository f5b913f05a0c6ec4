/- The plain laws of a lattice's tables, in the words of the walks: le, join, meet as Booleans and integers. No program's walk. -/
import Derived.Test.YtjancemacdffbaaDoorLw6
import Derived.Test.YtjancemacdffbaaDoorPl4
namespace Go.Proofs.YtjancemacdffbaaDoor

section
variable {n : Nat} {ps : List (Int × Int)} {up dn : Nat → Nat}

theorem isB_of {n i : Nat} (h : i < n) : isB n (i : Int) = true := by simp [isB]; exact h
theorem leB_iff (h : IsLat n ps up dn) {i j : Nat} (hi : i < n) (hj : j < n) : leB n up i j = true ↔ RT ps i j := by
  unfold leB
  rw [isB_of hi, isB_of hj]
  simp only [Bool.and_self, Bool.true_and, Int.toNat_natCast]
  exact (h.up i j).trans ⟨fun h => h.2.2, fun h => ⟨hi, hj, h⟩⟩
theorem leB_false (h : IsLat n ps up dn) {i j : Nat} (hi : i < n) (hj : j < n) : leB n up i j = false ↔ ¬ RT ps i j := by
  rw [← leB_iff h hi hj]; simp
theorem le_refl (h : IsLat n ps up dn) {i : Nat} (hi : i < n) : leB n up i i = true := (leB_iff h hi hi).2 (RT.refl _ _)
theorem le_trans (h : IsLat n ps up dn) {i j k : Nat} (hi : i < n) (hj : j < n) (hk : k < n) (h1 : leB n up i j = true) (h2 : leB n up j k = true) : leB n up i k = true :=
  (leB_iff h hi hk).2 (((leB_iff h hi hj).1 h1).trans ((leB_iff h hj hk).1 h2))
theorem le_anti (h : IsLat n ps up dn) {i j : Nat} (hi : i < n) (hj : j < n) (h1 : leB n up i j = true) (h2 : leB n up j i = true) : i = j :=
  h.anti i j hi hj ((leB_iff h hi hj).1 h1) ((leB_iff h hj hi).1 h2)
theorem le_pair (h : IsLat n ps up dn) {p : Int × Int} (hp : p ∈ ps) (hok : okP n p = true) : leB n up p.1 p.2 = true := by
  have := (okP_iff n p).1 hok
  obtain ⟨x, y⟩ := p
  simp only at this
  obtain ⟨x, rfl⟩ := Int.eq_ofNat_of_zero_le this.1
  obtain ⟨y, rfl⟩ := Int.eq_ofNat_of_zero_le this.2.2.1
  refine (leB_iff h (by omega) (by omega)).2 ?_
  have := RT.pair hp
  simpa using this

theorem jv_nat (s : Nat → Nat) {i j : Nat} (hi : i < n) (hj : j < n) : jv n s i j = Pl.bnd s (s i &&& s j) := by
  unfold jv joinI; rw [isB_of hi, isB_of hj]; simp
theorem jc_nat {i j : Nat} (hi : i < n) (hj : j < n) : jc n i j = 0 := by
  unfold jc; rw [isB_of hi, isB_of hj]; simp
/-- the join of two levels -/
theorem jv_up (hn : n ≤ 32) (h : IsLat n ps up dn) {i j : Nat} (hi : i < n) (hj : j < n) : ∃ k : Nat, jv n up i j = k ∧ IsJoin ps n i j k := by
  obtain ⟨⟨k, hk⟩, _⟩ := h.full i j hi hj
  exact ⟨k, by rw [jv_nat up hi hj]; exact join_bnd hn h.up h.anti hi hj hk, hk⟩
theorem jv_dn (hn : n ≤ 32) (h : IsLat n ps up dn) {i j : Nat} (hi : i < n) (hj : j < n) : ∃ k : Nat, jv n dn i j = k ∧ IsMeet ps n i j k := by
  obtain ⟨_, ⟨k, hk⟩⟩ := h.full i j hi hj
  exact ⟨k, by rw [jv_nat dn hi hj]; exact meet_bnd hn h.dn h.anti hi hj hk, hk⟩

theorem IsJoin.comm {i j k : Nat} (h : IsJoin ps n i j k) : IsJoin ps n j i k := ⟨h.1, h.2.2.1, h.2.1, fun m hm a b => h.2.2.2 m hm b a⟩
theorem IsMeet.comm {i j k : Nat} (h : IsMeet ps n i j k) : IsMeet ps n j i k := ⟨h.1, h.2.2.1, h.2.1, fun m hm a b => h.2.2.2 m hm b a⟩
theorem isJoin_le {i j : Nat} (hj : j < n) (h : RT ps i j) : IsJoin ps n i j j := ⟨hj, h, RT.refl _ _, fun _ _ _ b => b⟩
theorem isMeet_le {i j : Nat} (hi : i < n) (h : RT ps i j) : IsMeet ps n i j i := ⟨hi, RT.refl _ _, h, fun _ _ a _ => a⟩
theorem join_eq (h : IsLat n ps up dn) {i j k : Nat} (hi : i < n) (hj : j < n) (hk : IsJoin ps n i j k) : leB n up i j = true ↔ k = j := by
  rw [leB_iff h hi hj]
  constructor
  · intro hl; exact IsJoin.uniq h.anti hk (isJoin_le hj hl)
  · rintro rfl; exact hk.2.1
theorem meet_eq (h : IsLat n ps up dn) {i j k : Nat} (hi : i < n) (hj : j < n) (hk : IsMeet ps n i j k) : leB n up i j = true ↔ k = i := by
  rw [leB_iff h hi hj]
  constructor
  · intro hl; exact IsMeet.uniq h.anti hk (isMeet_le hi hl)
  · rintro rfl; exact hk.2.2.1
end

end Go.Proofs.YtjancemacdffbaaDoor
