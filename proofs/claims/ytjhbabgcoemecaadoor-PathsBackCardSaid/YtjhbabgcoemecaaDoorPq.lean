/- Appends of zeros ('append(l, make(n)...)') to a list that the call owns. -/
import Derived.Test.YtjhbabgcoemecaaDoorPn
import Derived.Lib.AppendZerosOnto
namespace Go.Proofs.YtjhbabgcoemecaaDoor
open Go.RowKit

theorem flat_zeros (k : Nat) : (Lay.int .u64).flat (List.replicate k 0) = List.replicate k (.int .u64 0) := by
  induction k with
  | zero => rfl
  | succ k ih => simp only [List.replicate_succ, Lay.flat, List.flatMap_cons] at ih ⊢; rw [ih]; rfl
theorem zeroCells_u (k : Nat) : (Builtin.zeroCells (Value.int .u64 0).cells k).toList = List.replicate k (.int .u64 0) := by
  apply List.ext_getElem?
  intro j
  simp only [Builtin.zeroCells, Value.cells]
  by_cases hj : j < k
  · simp [hj, Nat.mod_one]
  · simp [hj]
theorem own_row {w : World} {base g cap : Nat} {cur : Array Value} {xs : List Int} (hb : base ≤ g) (hg : w.heap[g]? = some (.cells cur 33 (0, 0))) (hn : xs.length ≤ cap) (hm : cap ≤ maxLen) (hs : cur.size = cap) (ht : cur.toList.take xs.length = (Lay.int .u64).flat xs) :
    (Lay.int .u64).Own 33 w base (.slice (some ⟨g, 0, none⟩) xs.length cap) xs :=
  ⟨Lay.flat_length _ xs, .inr ⟨g, cap, cur, rfl, hb, hg, hn, hm, by simpa [Lay.int] using hs, by simpa [Lay.int] using ht⟩⟩

theorem run_append_zeros {w : World} {base : Nat} {v : Value} {xs : List Int} (h : (Lay.int .u64).Own 33 w base v xs) (k : Nat) (hk : k ≤ 1000) (hl : xs.length ≤ 1000) (hbase : base ≤ w.heap.size) (ty : TypeId) :
    ∃ v' w', (Builtin.append_ #[48, 3] ty #[v, .int .i64 k]).run Tryd.prog w = .ok v' w' ∧ (Lay.int .u64).Own 33 w' base v' (xs ++ List.replicate k 0) ∧ Below base w w' := by
  obtain ⟨i0, hi, hz0, hz1, hz2⟩ := info_parts Tryd.elemU.info
  have hz1' : i0.size = 1 := hz1
  have hw : IntKind.i64.wrap (k : Int) = k := by rw [IntKind.wrap_i64]; omega
  have hneg : ¬ ((k : Int) < 0) := by omega
  have hxl : ((Lay.int .u64).flat xs).length = xs.length := by rw [Lay.flat_length]; exact Nat.mul_one _
  have hfl : (Lay.int .u64).flat (xs ++ List.replicate k 0) = (Lay.int .u64).flat xs ++ List.replicate k (.int .u64 0) := by rw [Lay.flat_append, flat_zeros]
  have hll : (xs ++ List.replicate k (0 : Int)).length = xs.length + k := by simp
  have hlen : ((Lay.int .u64).flat xs ++ List.replicate k (Value.int .u64 0)).length = xs.length + k := by simp [hxl]
  have grown : ∀ (old : Nat), (Lay.int .u64).Own 33 (w.drew.alloc (.cells (((Lay.int .u64).flat xs).toArray ++ Builtin.zeroCells (Value.int .u64 0).cells k ++ Builtin.zeroCells (Value.int .u64 0).cells (grownCap w (xs.length + k) old 33 - (xs.length + k))) 33)) base
      (.slice (some ⟨w.heap.size, 0, none⟩) (xs.length + k) (grownCap w (xs.length + k) old 33)) (xs ++ List.replicate k 0) := by
    intro old
    have hge := grownCap_ge w (xs.length + k) old 33
    have hcm : grownCap w (xs.length + k) old 33 ≤ maxLen := grownCap_le_maxLen w (xs.length + k) old 33 (by unfold maxLen; omega)
    have := own_row (w := w.drew.alloc (.cells (((Lay.int .u64).flat xs).toArray ++ Builtin.zeroCells (Value.int .u64 0).cells k ++ Builtin.zeroCells (Value.int .u64 0).cells (grownCap w (xs.length + k) old 33 - (xs.length + k))) 33))
      (base := base) (g := w.heap.size) (cap := grownCap w (xs.length + k) old 33) (xs := xs ++ List.replicate k 0) hbase (heap_alloc_new w.drew _) (by rw [hll]; exact hge) hcm
      (by simp only [Array.size_append, List.size_toArray, size_zeroCells, hxl]; simp [Value.cells]; omega)
      (by
        rw [hfl, hll, Array.toList_append, Array.toList_append, zeroCells_u, ← hlen]
        simp only []
        exact List.take_left)
    rw [hll] at this
    exact this
  by_cases h0 : k = 0
  · subst h0
    refine ⟨v, w, ?_, by simpa using h, Below.refl _ _⟩
    rcases h.2 with ⟨rfl, _⟩ | ⟨g, cap, cur, rfl, _, _, hnc, _⟩
    · simp [Builtin.append_, run_underlying Tryd.underlying48, run_underlying Tryd.underlying3, sizeOf, typeInfo, hi, asInt, asIntOf, IntKind.wrap_i64]
    · simp [Builtin.append_, run_underlying Tryd.underlying48, run_underlying Tryd.underlying3, sizeOf, typeInfo, hi, asInt, asIntOf, IntKind.wrap_i64, hnc, storeCells]
  · rcases h.2 with ⟨rfl, hn0⟩ | ⟨g, cap, cur, rfl, hbg, hg, hnc, hcm, hcs, htake⟩
    · obtain rfl : xs = [] := List.eq_nil_of_length_eq_zero hn0
      have hr := Lib.run_append_nil_zeros (P := Tryd.prog) w 48 3 ty 33 i0 _ .i64 .i64 Tryd.underlying48 Tryd.underlying3 hi hz0 k (by omega) (by omega) (by omega) (by rw [hz2]; omega)
      have hgr := grown 0
      have e1 : ((Lay.int .u64).flat []).toArray = (#[] : Array Value) := rfl
      simp only [List.length_nil, Nat.zero_add, e1, Array.empty_append] at hgr
      exact ⟨_, _, hr, hgr, (Below.refl _ _).drew.alloc hbase _⟩
    · have hcs' : cur.size = cap := by rw [hcs]; exact Nat.mul_one _
      have htake' : cur.toList.take xs.length = (Lay.int .u64).flat xs := by rw [← htake]; exact congrArg (fun n => cur.toList.take n) (Nat.mul_one _).symm
      by_cases hroom : xs.length + k ≤ cap
      · have h1 : ∀ u ∈ List.replicate k (Value.int .u64 0), u.oneCell' = true := fun u hu => by rw [(List.mem_replicate.1 hu).2]; rfl
        have hst := run_storeCells_at Tryd.prog g xs.length 33 (List.replicate k (Value.int .u64 0)) 0 cur w hg (by simp; omega) h1
        simp only [Nat.add_zero] at hst
        have h48i : ¬ (281474976710656 < (k : Int) * (i0.bytes : Int)) := by rw [hz2]; omega
        refine ⟨.slice (some ⟨g, 0, none⟩) (xs.length + k) cap, w.setRow g (cur.toList.take xs.length ++ List.replicate k (Value.int .u64 0) ++ cur.toList.drop (xs.length + k)).toArray, ?_, ?_, ?_⟩
        · simp [Builtin.append_, run_underlying Tryd.underlying48, run_underlying Tryd.underlying3, sizeOf, typeInfo, zeroValue, hi, hz0, hz1', asInt, asIntOf, hw, hneg, h48i, h0, hroom, zeroCells_u, Addr.add_lit, hst]
        · have := own_row (w := w.setRow g (cur.toList.take xs.length ++ List.replicate k (Value.int .u64 0) ++ cur.toList.drop (xs.length + k)).toArray) (base := base) (xs := xs ++ List.replicate k 0) hbg (setRow_heap w g cur _ 33 _ hg) (cap := cap) (by rw [hll]; exact hroom) hcm
            (by simp only [List.size_toArray, List.length_append, List.length_take, List.length_drop, List.length_replicate, Array.length_toList]; omega)
            (by
              rw [hfl, hll, htake', ← hlen]
              exact List.take_left)
          rw [hll] at this
          exact this
        · exact (Below.refl base w).grown (row := some g) ⟨rfl, rfl, rfl, by simp, fun k _ hk => setRow_other w g k _ (fun e => hk (by rw [e]))⟩ hbase (fun q hq => by injection hq with hq; omega)
      · have holds : ∀ j u, ((Lay.int .u64).flat xs)[j]? = some u → w.drew.cell? ((⟨g, 0, none⟩ : Addr).add j) = some u := World.ownsRow.cells h (g := g) rfl
        have hf := run_firstCells_some (P := Tryd.prog) w.drew i0.size xs.length ⟨g, 0, none⟩ xs.length cap ((Lay.int .u64).flat xs) (by rw [hxl, hz1', Nat.mul_one]) holds
        have hr := Lib.run_append_grow_zeros (P := Tryd.prog) w 48 3 ty 33 i0 _ .i64 .i64 Tryd.underlying48 Tryd.underlying3 hi hz0 (some ⟨g, 0, none⟩) xs.length cap _ hf k (by omega) (by omega) (by omega) (by omega) (by rw [hz2]; omega) (by rw [hz2]; exact growslice_fits (by omega) (by omega))
        exact ⟨_, _, hr, grown cap, (Below.refl _ _).drew.alloc hbase _⟩

/-- 'append(l, make(k)...)' as a step of a region that draws -/
theorem step_zeros {W : World} {ops : Array Oper} {o : Oper} {a : Act} {K : Act → World → Prop} {Q : Exit → Act → World → Prop} {E : Prop} (hgd : o.guard = none) (s x : Operand)
    (ho : o.op = .call { callee := .builtin .append, args := #[s, x], argTypes := #[48, 3] }) {base : Nat} {v : Value} {xs : List Int} (k : Nat)
    (hs : a.eval s = v) (hown : (Lay.int .u64).Own 33 W base v xs) (hx : a.eval x = .int .i64 k) (hk : k ≤ 1000) (hl : xs.length ≤ 1000) (hbase : base ≤ W.heap.size)
    (h : ∀ v' w', (Lay.int .u64).Own 33 w' base v' (xs ++ List.replicate k 0) → Below base W w' → K (a.put o.dst v') w') :
    if Region.wanted o (yielded ops a.tmps) = true then Oper.wp Tryd.prog o a W K Q else E := by
  have hw : Region.wanted o (yielded ops a.tmps) = true := by simp [Region.wanted, hgd]
  rw [if_pos hw]
  obtain ⟨v', w', hr, h1, h2⟩ := run_append_zeros hown k hk hl hbase o.type
  exact Lib.wp_append_run W s x 48 3 ho v _ hs hx v' w' hr (h v' w' h1 h2)
end Go.Proofs.YtjhbabgcoemecaaDoor
