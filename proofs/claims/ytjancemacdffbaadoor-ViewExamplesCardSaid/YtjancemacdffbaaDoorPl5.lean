/- The plain law of chains, for LatticeLoops. No program. -/
import Derived.Test.YtjancemacdffbaaDoorPl4
namespace Go.Proofs.YtjancemacdffbaaDoor

def chainL (m : Nat) : List (Int × Int) := (List.range m).map fun (i : Nat) => ((i : Int), (i : Int) + 1)
theorem chainL_succ (m : Nat) : chainL (m + 1) = chainL m ++ [((m : Int), (m : Int) + 1)] := by simp [chainL, List.range_succ]
theorem chainL_length (m : Nat) : (chainL m).length = m := by simp [chainL]
theorem mem_chainL (m : Nat) (p : Int × Int) : p ∈ chainL m ↔ ∃ i : Nat, i < m ∧ p = ((i : Int), (i : Int) + 1) := by
  simp [chainL, List.mem_map, eq_comm]

theorem RT_chain_step (m : Nat) (ps : List (Int × Int)) (hs : ∀ p ∈ chainL m, p ∈ ps) (i : Nat) : ∀ d, i + d ≤ m → RT ps i (i + d)
  | 0, _ => RT.refl _ _
  | d + 1, h => by
    refine (RT_chain_step m ps hs i d (by omega)).trans ?_
    have := RT.pair (hs _ ((mem_chainL m (((i + d : Nat) : Int), ((i + d : Nat) : Int) + 1)).2 ⟨i + d, by omega, rfl⟩))
    simp only [Int.toNat_natCast] at this
    rw [show (((i + d : Nat) : Int) + 1).toNat = i + (d + 1) by omega] at this
    exact this
theorem RT_chain_le (m : Nat) (ps : List (Int × Int)) (hs : ∀ p ∈ chainL m, p ∈ ps) {i j : Nat} (h : i ≤ j) (hj : j ≤ m) : RT ps i j := by
  have := RT_chain_step m ps hs i (j - i) (by omega)
  rw [show i + (j - i) = j by omega] at this
  exact this
theorem RT_chain_only {m : Nat} {i j : Nat} (h : RT (chainL m) i j) : i = j ∨ (i ≤ j ∧ j ≤ m) := by
  refine h (fun x y => x = y ∨ (x ≤ y ∧ y ≤ m)) (fun _ => Or.inl rfl) (fun x y z h1 h2 => by omega) ?_
  intro p hp
  obtain ⟨k, hk, rfl⟩ := (mem_chainL m p).1 hp
  right
  simp only []
  omega

theorem okP_chain {m n : Nat} (h : m < n) : ∀ p ∈ chainL m, okP n p = true := fun p hp => by
  obtain ⟨k, hk, rfl⟩ := (mem_chainL m p).1 hp
  rw [okP_iff]
  simp only []
  omega

/-- a chain (with a pair of one level besides) is a lattice: the greater of two levels is their join -/
theorem chain_lat {n : Nat} {ps : List (Int × Int)} (hs : ∀ p ∈ chainL (n - 1), p ∈ ps) (hle : ∀ p ∈ ps, p.1.toNat ≤ p.2.toNat) : Anti ps n ∧ Full ps n := by
  have hrt : ∀ i j, RT ps i j → i ≤ j := fun i j h => h (fun x y => x ≤ y) (fun _ => Nat.le_refl _) (fun _ _ _ => Nat.le_trans) hle
  have hrt2 : ∀ i j, j < n → i ≤ j → RT ps i j := fun i j hj h => RT_chain_le (n - 1) ps hs h (by omega)
  refine ⟨fun i j _ _ h1 h2 => Nat.le_antisymm (hrt i j h1) (hrt j i h2), fun i j hi hj => ⟨⟨max i j, by omega, hrt2 _ _ (by omega) (by omega), hrt2 _ _ (by omega) (by omega), fun m hm h1 h2 => hrt2 _ _ hm ?_⟩, ⟨min i j, by omega, hrt2 _ _ (by omega) (by omega), hrt2 _ _ (by omega) (by omega), fun m hm h1 h2 => hrt2 _ _ (by omega) ?_⟩⟩⟩
  · have := hrt _ _ h1; have := hrt _ _ h2; omega
  · have := hrt _ _ h1; have := hrt _ _ h2; omega

theorem loops_same {n a : Nat} (h2 : 2 ≤ n) (hn : n ≤ 32) (ha : a < n) : (newL n (chainL (n - 1) ++ [((a : Int), (a : Int))])).1 = 0 := by
  have hok : ∀ p ∈ chainL (n - 1) ++ [((a : Int), (a : Int))], okP n p = true := fun p hp => by
    rcases List.mem_append.1 hp with hp | hp
    · exact okP_chain (by omega) p hp
    · rw [List.mem_singleton] at hp; subst hp; rw [okP_iff]; simp only []; omega
  obtain ⟨h1, h3⟩ := chain_lat (n := n) (ps := chainL (n - 1) ++ [((a : Int), (a : Int))]) (fun p hp => List.mem_append_left _ hp) (fun p hp => by
    rcases List.mem_append.1 hp with hp | hp
    · obtain ⟨k, _, rfl⟩ := (mem_chainL _ p).1 hp; simp only []; omega
    · rw [List.mem_singleton] at hp; subst hp; exact Nat.le_refl _)
  exact ((newL_all hn hok).2.2 h1 h3).1

theorem loops_circle {n a b : Nat} (hn : n ≤ 32) (ha : a < n) (hb : b < a) : (newL n (chainL (n - 1) ++ [((a : Int), (b : Int))])).1 = 9 := by
  have hok : ∀ p ∈ chainL (n - 1) ++ [((a : Int), (b : Int))], okP n p = true := fun p hp => by
    rcases List.mem_append.1 hp with hp | hp
    · exact okP_chain (by omega) p hp
    · rw [List.mem_singleton] at hp; subst hp; rw [okP_iff]; simp only []; omega
  refine (newL_all hn hok).1 fun h => ?_
  have h1 : RT (chainL (n - 1) ++ [((a : Int), (b : Int))]) b a := RT_chain_le (n - 1) _ (fun p hp => List.mem_append_left _ hp) (by omega) (by omega)
  have h2 : RT (chainL (n - 1) ++ [((a : Int), (b : Int))]) a b := by
    have := RT.pair (ps := chainL (n - 1) ++ [((a : Int), (b : Int))]) (p := ((a : Int), (b : Int))) (by simp)
    simpa using this
  have := h a b ha (by omega) h2 h1
  omega

theorem loops_short {n : Nat} (h2 : 2 ≤ n) (hn : n ≤ 32) : (newL n (chainL (n - 2))).1 = 4 := by
  refine (newL_all hn (okP_chain (by omega))).2.1 (fun i j _ _ h1 h2 => ?_) (fun h => ?_)
  · have a := RT_chain_only h1; have b := RT_chain_only h2; omega
  · obtain ⟨⟨k, hk, h1, h2, _⟩, _⟩ := h 0 (n - 1) (by omega) (by omega)
    have a := RT_chain_only h1; have b := RT_chain_only h2; omega

end Go.Proofs.YtjancemacdffbaaDoor
