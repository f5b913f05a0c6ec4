/- The machine's contract for term.Graph.Copy: plain facts. -/
import Derived.Test.YtekbkaipdmklpaaGreatDoorVs
import Derived.Test.YtekbkaipdmklpaaGreatDoorD1
import Derived.Test.YtekbkaipdmklpaaGreatDoorK4
import Derived.Deep.AppendLies
namespace Go.Proofs.YtekbkaipdmklpaaGreatDoor
namespace Cr
open Go Go.RowKit

theorem kall_none {ks : List Nat} {agg : Bool} {k : Value} : ∀ {es : List (Value × Value)}, (∀ e ∈ es, keyEq ks agg k e.1 = some false) → kall ks agg k es = some none
  | [], _ => rfl
  | e :: es, h => by simp only [kall, kall_none fun x hx => h x (List.mem_cons_of_mem _ hx), h e (List.mem_cons_self ..)]
theorem isF_eq {o : Option Bool} (h : isF o = true) : o = some false := by
  cases o with
  | none => cases h
  | some b => cases b with
    | false => rfl
    | true => cases h
theorem apartK_all {ks : List Nat} {agg : Bool} : ∀ {es : List (Value × Value)}, apartK ks agg es = true → (∀ e ∈ es, keyOk ks agg e.1 = true) ∧ es.Pairwise fun e f => keyEq ks agg e.1 f.1 = some false ∧ keyEq ks agg f.1 e.1 = some false
  | [], _ => ⟨fun e he => (by cases he), List.Pairwise.nil⟩
  | e :: es, h => by
    simp only [apartK, Bool.and_eq_true, List.all_eq_true] at h
    obtain ⟨h1, h2, h3⟩ := h
    obtain ⟨k1, k2⟩ := apartK_all h3
    refine ⟨fun x hx => ?_, List.Pairwise.cons (fun f hf => ⟨isF_eq (h2 f hf).1, isF_eq (h2 f hf).2⟩) k2⟩
    cases hx with
    | head => exact h1
    | tail _ hx => exact k1 x hx
theorem apartK_ne {ks : List Nat} {agg : Bool} {es : List (Value × Value)} (h : apartK ks agg es = true) {i j : Nat} (hi : i < es.length) (hj : j < es.length) (hne : i ≠ j) : keyEq ks agg es[i].1 es[j].1 = some false := by
  have hp := List.pairwise_iff_getElem.1 (apartK_all h).2
  rcases Nat.lt_or_gt_of_ne hne with hlt | hlt
  · exact (hp i j hi hj hlt).1
  · exact (hp j i hj hi hlt).2
/-- less, or the same otherwise told, may be known -/
theorem HR.sub {G B : Nat} {w0 : W0} {H K : AH} {μ : Mu} {w : World} (h : HR G B w0 H μ w) (hk : ∀ j z, K.get j = some z → ∃ z', H.get j = some z' ∧ ∀ b o, BR B μ w b o (μ.tot j) z' → BR B μ w b o (μ.tot j) z) (hn : K.next = H.next) : HR G B w0 K μ w := by
  refine ⟨fun i x hx b o hm => ?_, fun i j x y hx hy hne b o b' o' hm hm' hab => ?_, fun i x hx => ?_, fun i p hp => by rw [hn]; exact h.mu i p hp, h.glob, by rw [hn]; exact h.small, h.below, h.base⟩
  · obtain ⟨z, h1, h2⟩ := hk i x hx
    exact h2 b o (h.blk i z h1 b o hm)
  · obtain ⟨z, h1, _⟩ := hk i x hx
    obtain ⟨z', h1', _⟩ := hk j y hy
    exact h.apart i j z z' h1 h1' hne b o b' o' hm hm' hab
  · obtain ⟨z, h1, _⟩ := hk i x hx
    rw [hn]; exact h.low i z h1
/-- the memory behind the copy -/
noncomputable def cpH (H : AH) (N : Nat) (cs : List Value) (S : List (Value × Value)) (bx : List Value) : AH := ((H.push (.cells true N N cs .nil)).push (.dfr (.pmap S))).push (.cells true 4 4 bx .nil)
theorem cpH_get {H : AH} {N : Nat} {cs : List Value} {S : List (Value × Value)} {bx : List Value} (hn : H.next < 900000000000) (j : Nat) : (cpH H N cs S bx).get j = if j = H.next + 2 then some (.cells true 4 4 bx .nil) else if j = H.next + 1 then some (.dfr (.pmap S)) else if j = H.next then some (.cells true N N cs .nil) else H.get j := by
  unfold cpH
  have n1 : (H.push (.cells true N N cs .nil)).next = H.next + 1 := rfl
  have n2 : ((H.push (.cells true N N cs .nil)).push (.dfr (.pmap S))).next = H.next + 2 := rfl
  rw [AH.get_push (by rw [n2]; omega), AH.get_push (by rw [n1]; omega), AH.get_push (by omega), n1, n2]
theorem isI_eq {v : Value} (h : isI v = true) : ∃ x, v = .int .i64 x := by
  unfold isI at h
  split at h
  · exact ⟨_, rfl⟩
  · cases h
theorem copy_inv {args : List Value} {H H' : AH} {v : Value} (h : spCopy args H = .ok v H') : ∃ i rw zl zs t a n c cs mb es,
    args = [.pointer (some ⟨i, 0, none⟩)] ∧ H.next < 900000000000 ∧ H.get i = some (.cells rw 4 zl zs t) ∧ cellv zl zs t 2 = .slice (some a) n c ∧ 0 < n ∧ n < 1000 ∧ sliceK H 3 (.slice (some a) n c) = some cs ∧ cs.all one = true ∧ cellv zl zs t 3 = .map (some mb) ∧ H.get mb = some (.map true es) ∧ es.all (fun e => keyI e.1) = true ∧ apartK [0, 0, 0, 0, 0] true es = true ∧ (∃ x, cellv zl zs t 0 = .int .i64 x) ∧ (∃ x, cellv zl zs t 1 = .int .i64 x) ∧
    v = .pointer (some ⟨H.next + 2, 0, none⟩) ∧ H' = cpH H (3 * n) cs es [cellv zl zs t 0, cellv zl zs t 1, .slice (some ⟨H.next, 0, none⟩) n (73786976294838206464 + n), .map (some (H.next + 1))] := by
  unfold spCopy at h
  split at h
  · rename_i i
    cases hb : Nat.blt H.next 900000000000 with
    | false => rw [hb] at h; cases h
    | true =>
      rw [hb, cond_true] at h
      rw [Nat.blt_eq] at hb
      split at h
      · rename_i rw zl zs t h1
        split at h
        · rename_i a n c h2
          cases hc : (Nat.blt 0 n && Nat.blt n 1000) with
          | false => rw [hc] at h; cases h
          | true =>
            rw [hc, cond_true] at h
            simp only [Bool.and_eq_true, Nat.blt_eq] at hc
            cases h3 : sliceK H 3 (.slice (some a) n c) with
            | none => rw [h3] at h; cases h
            | some cs =>
              rw [h3] at h
              simp only at h
              split at h
              · rename_i mb h4
                split at h
                · rename_i es h5
                  cases h6 : (isI (cellv zl zs t 0) && (isI (cellv zl zs t 1) && (cs.all one && (es.all (fun e => keyI e.1) && apartK [0, 0, 0, 0, 0] true es)))) with
                  | false => rw [h6] at h; cases h
                  | true =>
                    rw [h6, cond_true] at h
                    simp only [Bool.and_eq_true] at h6
                    simp only [forceN_eq, forceH_eq, Rs.ok.injEq] at h
                    exact ⟨i, rw, zl, zs, t, a, n, c, cs, mb, es, rfl, hb, h1, h2, hc.1, hc.2, h3, h6.2.2.1, h4, h5, h6.2.2.2.1, h6.2.2.2.2, isI_eq h6.1, isI_eq h6.2.1, h.1.symm, h.2.symm⟩
                · cases h
              · cases h
        · cases h
      · cases h
  · cases h
/-- what a slice of the machine holds, in memory -/
theorem sliceK_at {G B : Nat} {w0 : W0} {H : AH} {μ : Mu} {w : World} (hr : HR G B w0 H μ w) {k n c : Nat} {a : Addr} {x' : Value} {ms : List Value} (hx : VR μ (.slice (some a) n c) x') (h : sliceK H k (.slice (some a) n c) = some ms) :
    ∃ b o c' us, x' = .slice (some ⟨b, o, none⟩) n c' ∧ b < w.heap.size ∧ ms.length = k * n ∧ LR μ ms us ∧ ∀ w', Below w.heap.size w w' → ∀ j u, us[j]? = some u → w'.cell? ((⟨b, o, none⟩ : Addr).add j) = some u := by
  obtain ⟨i, o, f⟩ := a
  cases f with
  | some _ => cases h
  | none =>
    change (match H.get i with
      | some (.cells _ m zl zs t) => bif Nat.ble (Nat.add o (Nat.mul k n)) m then some (cellsL zl zs t (Nat.mul k n) o) else none
      | _ => none) = some ms at h
    split at h
    · rename_i rw m zl zs t hg
      cases hb : Nat.ble (Nat.add o (Nat.mul k n)) m with
      | false => rw [hb] at h; cases h
      | true =>
        rw [hb, cond_true] at h
        injection h with h
        subst h
        have hle : o + k * n ≤ m := Nat.le_of_ble_eq_true hb
        cases hx with
        | sl _ b o' _ _ _ c' hm hc =>
          have hbr := hr.blk i _ hg b o' hm
          have hblt := hbr.lt
          obtain ⟨cur, e, fz, h1, _, h3⟩ := hbr
          have hex : ∀ q, q < k * n → ∃ u, cur[o' + (o + q)]? = some u ∧ VR μ (cellv zl zs t (o + q)) u := fun q hq => h3 (o + q) (by omega)
          refine ⟨b, o' + o, c', (List.range (k * n)).map fun q => cur.getD (o' + (o + q)) undef, rfl, hblt, cellsL_length zl zs t (Nat.mul k n) o, ⟨by rw [cellsL_length]; simp, fun q hq hq2 => ?_⟩, fun w' hb' j u hj => ?_⟩
          · have hq' : q < k * n := by rwa [cellsL_length] at hq
            obtain ⟨u, hu, hv⟩ := hex q hq'
            have hg2 := cellsL_get zl zs t (Nat.mul k n) o q hq'
            rw [List.getElem?_eq_getElem hq] at hg2
            injection hg2 with hg2
            rw [hg2]
            simp only [List.getElem_map, List.getElem_range]
            rw [Array.getD_eq_getD_getElem?, hu]
            exact hv
          · have hjl : j < k * n := by
              have := (List.getElem?_eq_some_iff.1 hj).1
              simpa using this
            obtain ⟨u', hu, _⟩ := hex j hjl
            have e1 : u = u' := by
              rw [List.getElem?_map, List.getElem?_range hjl] at hj
              simp only [Option.map_some, Option.some.injEq] at hj
              rw [← hj, Array.getD_eq_getD_getElem?, hu]; rfl
            subst e1
            have hadd : (⟨b, o' + o, none⟩ : Addr).add j = ⟨b, o' + o + j, none⟩ := by unfold Addr.add; split <;> simp_all
            have hcell : w.cell? ⟨b, o' + o + j, none⟩ = some u := by
              rw [show o' + o + j = o' + (o + j) by omega]
              simp [World.cell?, h1, hu]
            rw [hadd]
            exact (hb'.cell (p := ⟨b, o' + o + j, none⟩) hblt).trans hcell
    · cases h
theorem key5 {μ : Mu} {k k' : Value} (h : VR μ k k') (hk : keyI k = true) : ∃ z0 z1 z2 z3 z4, k' = .agg ⟨[.int .u8 z0, .int .u64 z1, .int .i64 z2, .int .i64 z3, .int .i64 z4]⟩ := by
  unfold keyI at hk
  split at hk
  · rename_i z0 z1 z2 z3 z4
    cases h with
    | agg c c' hl hh =>
      have h1 : LR μ [.int .u8 z0, .int .u64 z1, .int .i64 z2, .int .i64 z3, .int .i64 z4] c' := ⟨hl, hh⟩
      obtain ⟨v0, r0, rfl, k0, h1⟩ := h1.cons_inv
      obtain ⟨v1, r1, rfl, k1, h1⟩ := h1.cons_inv
      obtain ⟨v2, r2, rfl, k2, h1⟩ := h1.cons_inv
      obtain ⟨v3, r3, rfl, k3, h1⟩ := h1.cons_inv
      obtain ⟨v4, r4, rfl, k4, h1⟩ := h1.cons_inv
      obtain rfl := h1.nil_inv
      cases k0; cases k1; cases k2; cases k3; cases k4
      exact ⟨_, _, _, _, _, rfl⟩
  · cases hk
/-- a store into a map whose entries lie in any order -/
theorem pm_put {P : Program} {G B : Nat} {w0 : W0} {H : AH} {μ : Mu} {w : World} (h : HR G B w0 H μ w) {t kt et : TypeId} {ks : List Nat} {D : TypeDesc} {d : Nat} (ht : P.underlying t = some (.map kt et)) (hd : d ≤ 10000) (hs : shp P d kt = some ks)
    (hu : P.underlying kt = some D) {i b : Nat} {es : List (Value × Value)} (hg : H.get i = some (.dfr (.pmap es))) (hmu : μ i = some (b, 0)) {k k' v v' : Value} (hk : VR μ k k') (hv : VR μ v v') (hb : keyOk ks (aggD D) k = true) (hf : kall ks (aggD D) k es = some none) :
    ∃ ob, (Instr.mapUpdate t (.map (some b)) k' v').run P w = .ok () { w with heap := w.heap.setIfInBounds b ob } ∧ Nx G B w0 H μ (H.set i (some (.dfr (.pmap (es ++ [(k, v)]))))) μ { w with heap := w.heap.setIfInBounds b ob } := by
  obtain ⟨_, hB, ob, q1, es2, ents, clock, hp2, rfl, q3, q4⟩ := h.blk i _ hg b 0 hmu
  have hlt : b < w.heap.size := (Array.getElem?_eq_some_iff.1 q1).1
  have hck := chk_of (P := P) (w := w) (empty := false) hd hs hu hk hb
  have hget : (getObj b).run P w = .ok (.map ents clock) w := by simp [getObj, Sem.run, q1]
  have hset : ∀ ob, (setObj b ob).run P w = .ok () { w with heap := w.heap.setIfInBounds b ob } := fun ob => by simp [setObj, Sem.run, q1]
  obtain ⟨q, hq, hqr⟩ := kall_find ((kall_perm hp2).symm.trans hf) 0
  obtain ⟨r', k1, k2⟩ := findKey_ok (P := P) (w := w) hd hs hu hk q3 q4 hq
  cases q with
  | some q => cases hqr
  | none =>
    have : r' = none := k2
    subst this
    refine ⟨_, ?_, h.putObj (y := .dfr (.pmap (es ++ [(k, v)]))) (.map (ents.push { key := k', val := v', born := clock }) (clock + 1)) hg hmu hB ?_⟩
    · simp only [Instr.mapUpdate, Sem.run_bind, run_underlying ht, Result.andThen_ok, hget, hck, k1, hset]
    · refine ⟨rfl, hB, _, by simp [hlt], es2 ++ [(k, v)], ents.push { key := k', val := v', born := clock }, clock + 1, hp2.append_right _, rfl, ?_, ?_⟩
      · simpa using q3.append (LR.cons hk (LR.nil μ))
      · simpa using q4.append (LR.cons hv (LR.nil μ))
/-- a block that the machine does not know changes -/
theorem HR.aside {G B : Nat} {w0 : W0} {H : AH} {μ : Mu} {w w' : World} (h : HR G B w0 H μ w) {it : Nat} (hg : w.grownBy w' (some it)) (hB : B ≤ it) (hne : ∀ i x b o, H.get i = some x → μ i = some (b, o) → b ≠ it) : HR G B w0 H μ w' :=
  ⟨fun i x hi b o hm => (h.blk i x hi b o hm).heap (hg.block b (h.blk i x hi b o hm).lt (fun e => hne i x b o hi hm (by injection e))), h.apart, h.low, h.mu, h.glob, h.small, h.below.grown hg h.base (fun k hk => by injection hk with hk; omega), Nat.le_trans h.base hg.size⟩
/-- what the loop has stored, when it has seen all -/
theorem copy_done {G B : Nat} {w0 : W0} {H : AH} {μ μ3 : Mu} {w7 wr : World} {N : Nat} {cs bx : List Value} {es : List (Value × Value)} (hn : Nx G B w0 H μ (cpH H N cs [] bx) μ3 w7) (hnx : H.next < 900000000000) {seen : List Nat} (hnd : seen.Nodup) (hlt : ∀ b ∈ seen, b < es.length) (hall : ∀ b, b < es.length → b ∈ seen)
    (hr : HR G B w0 (cpH H N cs (seen.map fun j => es.getD j (undef, undef)) bx) μ3 wr) : Nx G B w0 H μ (cpH H N cs es bx) μ3 wr := by
  have hp : (seen.map fun j => es.getD j (undef, undef)).Perm es := by
    have h1 : seen.Perm (List.range es.length) := (List.perm_ext_iff_of_nodup hnd List.nodup_range).2 fun b => ⟨fun hb => List.mem_range.2 (hlt b hb), fun hb => hall b (List.mem_range.1 hb)⟩
    have h2 := h1.map fun j => es.getD j (undef, undef)
    have h3 : ((List.range es.length).map fun j => es.getD j (undef, undef)) = es := by
      apply List.ext_getElem
      · simp
      · intro j h1 h2
        simp only [List.getElem_map, List.getElem_range]
        rw [List.getD_eq_getElem?_getD, List.getElem?_eq_getElem h2]; rfl
    rwa [h3] at h2
  refine ⟨hr.sub (fun j z hz => ?_) rfl, hn.ext, fun i hi hu => ⟨(hn.unb i hi hu).1, fun _ => ?_⟩, hn.next⟩
  · rw [cpH_get hnx] at hz ⊢
    by_cases e : j = H.next + 2
    · rw [if_pos e] at hz ⊢; exact ⟨z, hz, fun _ _ h => h⟩
    · rw [if_neg e] at hz ⊢
      by_cases e1 : j = H.next + 1
      · rw [if_pos e1] at hz ⊢
        injection hz with hz
        subst hz
        refine ⟨_, rfl, fun b o h => ?_⟩
        obtain ⟨g1, g2, ob, g3, es2, ents, clock, g4, g5⟩ := h
        exact ⟨g1, g2, ob, g3, es2, ents, clock, hp.symm.trans g4, g5⟩
      · rw [if_neg e1] at hz ⊢
        exact ⟨z, hz, fun _ _ h => h⟩
  · rw [cpH_get hnx, if_neg (by omega), if_neg (by omega), if_neg (by omega)]
/-- one entry more -/
theorem copy_step {G B : Nat} {w0 : W0} {H : AH} {μ3 : Mu} {N : Nat} {cs bx : List Value} {es : List (Value × Value)} (hnx : H.next < 900000000000) {wX : World} {seen : List Nat} {j d : Nat} (hj : j < es.length) (hns : j ∉ seen) (hlt : ∀ b ∈ seen, b < es.length) (hap : apartK [0, 0, 0, 0, 0] true es = true)
    (hr : HR G B w0 (cpH H N cs (seen.map fun j => es.getD j (undef, undef)) bx) μ3 wX) (hd : μ3 (H.next + 1) = some (d, 0)) {k' v' : Value} (hk : VR μ3 es[j].1 k') (hv : VR μ3 es[j].2 v') :
    ∃ ob, (Instr.mapUpdate 157 (.map (some d)) k' v').run Tryz.prog wX = .ok () { wX with heap := wX.heap.setIfInBounds d ob } ∧ HR G B w0 (cpH H N cs ((seen ++ [j]).map fun j => es.getD j (undef, undef)) bx) μ3 { wX with heap := wX.heap.setIfInBounds d ob } := by
  have hg : (cpH H N cs (seen.map fun j => es.getD j (undef, undef)) bx).get (H.next + 1) = some (.dfr (.pmap (seen.map fun j => es.getD j (undef, undef)))) := by rw [cpH_get hnx, if_neg (by omega), if_pos rfl]
  have hgj : es.getD j (undef, undef) = es[j] := by rw [List.getD_eq_getElem?_getD, List.getElem?_eq_getElem hj]; rfl
  obtain ⟨ob, h1, h2⟩ := pm_put (P := Tryz.prog) (d := 100) hr Tryz.underlying157 (by decide) (show shp Tryz.prog 100 178 = some [0, 0, 0, 0, 0] by kernel_rfl) Tryz.underlying178 hg hd hk hv ((apartK_all hap).1 _ (List.getElem_mem hj)) (kall_none fun e he => by
    obtain ⟨q, hq, rfl⟩ := List.mem_map.1 he
    have hq' := hlt q hq
    rw [List.getD_eq_getElem?_getD, List.getElem?_eq_getElem hq']
    exact apartK_ne hap hj hq' fun e => hns (e ▸ hq))
  refine ⟨ob, h1, h2.hr.sub (fun i z hz => ?_) rfl⟩
  have hnl : H.next + 1 < 1000000000000 := by omega
  rw [AH.get_set _ hnl]
  rw [cpH_get hnx] at hz ⊢
  by_cases e : i = H.next + 1
  · rw [if_pos e]
    rw [if_neg (by omega), if_pos e] at hz
    injection hz with hz
    subst hz
    refine ⟨_, rfl, fun b o h => ?_⟩
    rw [List.map_append, List.map_singleton, hgj]
    exact h
  · rw [if_neg e, if_neg e]
    rw [if_neg e] at hz
    exact ⟨z, hz, fun _ _ h => h⟩
theorem cellv_list {l : List Value} {n : Nat} (hn : l.length = n) {k : Nat} (hk : k < l.length) : cellv n l .nil k = l[k] := by
  show nth l (Nat.mod k n) = _
  rw [nth_eq]
  have : Nat.mod k n = k := Nat.mod_eq_of_lt (by omega)
  rw [this, List.getD_eq_getElem?_getD, List.getElem?_eq_getElem hk]; rfl
/-- the blocks of the copy get numbers -/
theorem copy_born {G B : Nat} {w0 : W0} {H : AH} {μ : Mu} {w w5 : World} (hr : HR G B w0 H μ w) (hnx : H.next < 900000000000) (hb5 : Below w.heap.size w w5) {n cap : Nat} {cs news : List Value} (hlen : cs.length = 3 * n) (hus : LR μ cs news) (h0 : 0 < n) {g : Nat} (hg : w.heap.size ≤ g)
    (hown : w5.ownsRow w.heap.size 321 3 (.slice (some ⟨g, 0, none⟩) (0 + n) cap) (0 + n) ([] ++ news)) {x0 x1 : Int} :
    ∃ μ3, Nx G B w0 H μ (cpH H (3 * n) cs [] [.int .i64 x0, .int .i64 x1, .slice (some ⟨H.next, 0, none⟩) n (73786976294838206464 + n), .map (some (H.next + 1))]) μ3
        ((w5.alloc (.map #[] 0)).alloc (.cells #[.int .i64 x0, .int .i64 x1, .slice (some ⟨g, 0, none⟩) n cap, .map (some w5.heap.size)] 160)) ∧ μ3 (H.next + 2) = some (w5.heap.size + 1, 0) ∧ μ3 (H.next + 1) = some (w5.heap.size, 0) := by
  have hbase := hr.base
  obtain ⟨_, h | ⟨g', cap', cur', e1, hbg, hh5, hcap, hmax, hsz, htake⟩⟩ := hown
  · omega
  injection e1 with e1 e2 e3
  injection e1 with e1
  injection e1 with e1
  subst e1 e3
  rw [Nat.zero_add] at hcap
  rw [List.nil_append] at htake
  have hn64 : n < 18446744073709551616 := by unfold maxLen at hmax; omega
  have hlt5 : g < w5.heap.size := (Array.getElem?_eq_some_iff.1 hh5).1
  have hnew : ∀ (k : Nat) (hk : k < news.length), cur'[k]? = some news[k] := fun k hk => by
    have : (cur'.toList.take news.length)[k]? = some news[k] := by
      rw [show news.length = (0 + n) * 3 by rw [← hus.len, hlen]; omega, htake, List.getElem?_eq_getElem hk]
    rw [List.getElem?_take_of_lt hk] at this
    simpa using this
  have e1 : Ext μ (μ.bind H.next (g, 0) (cap * 3)) := Mu.ext_bind hr.fresh
  have n1 : Nx G B w0 H μ (H.push (.cells true (3 * n) (3 * n) cs .nil)) (μ.bind H.next (g, 0) (cap * 3)) w5 := hr.born (by omega) hb5 hg ⟨cur', 321, (0, 0), hh5, fun _ => ⟨rfl, by omega, by omega⟩, fun k hk => by
    have hk' : k < cs.length := by omega
    have hk2 : k < news.length := by rw [← hus.len]; exact hk'
    refine ⟨news[k], by rw [Nat.zero_add]; exact hnew k hk2, ?_⟩
    rw [cellv_list hlen hk']
    exact (hus.at_ k hk' hk2).ext e1⟩
  have nx1 : (H.push (.cells true (3 * n) (3 * n) cs .nil)).next = H.next + 1 := rfl
  have e2 := Mu.ext_bind (p := (w5.heap.size, 0)) (T := 0) n1.hr.fresh
  have b5 : Below w5.heap.size w5 (w5.alloc (.map #[] 0)) := (Below.refl _ _).alloc (Nat.le_refl _) _
  have n2 := n1.hr.born (w' := w5.alloc (.map #[] 0)) (x := .dfr (.pmap [])) (c := w5.heap.size) (T := 0) (by rw [nx1]; omega) b5 (Nat.le_refl _) ⟨rfl, by omega, .map #[] 0, heap_new w5 _, [], #[], 0, List.Perm.refl _, rfl, LR.nil _, LR.nil _⟩
  have nx2 : ((H.push (.cells true (3 * n) (3 * n) cs .nil)).push (.dfr (.pmap []))).next = H.next + 2 := rfl
  have b6 : Below (w5.alloc (.map #[] 0)).heap.size (w5.alloc (.map #[] 0)) ((w5.alloc (.map #[] 0)).alloc (.cells #[.int .i64 x0, .int .i64 x1, .slice (some ⟨g, 0, none⟩) n cap, .map (some w5.heap.size)] 160)) := (Below.refl _ _).alloc (Nat.le_refl _) _
  have e3 := Mu.ext_bind (p := (w5.heap.size + 1, 0)) (T := 4) n2.hr.fresh
  have m1 : (((μ.bind H.next (g, 0) (cap * 3)).bind (H.next + 1) (w5.heap.size, 0) 0).bind (H.next + 2) (w5.heap.size + 1, 0) 4) H.next = some (g, 0) := by
    rw [Mu.bind_ne (by omega), Mu.bind_ne (by omega), Mu.bind_same]
  have t1 : (((μ.bind H.next (g, 0) (cap * 3)).bind (H.next + 1) (w5.heap.size, 0) 0).bind (H.next + 2) (w5.heap.size + 1, 0) 4).tot H.next = cap * 3 := by
    rw [Mu.tot_ne (by omega), Mu.tot_ne (by omega), Mu.tot_same]
  have m2 : (((μ.bind H.next (g, 0) (cap * 3)).bind (H.next + 1) (w5.heap.size, 0) 0).bind (H.next + 2) (w5.heap.size + 1, 0) 4) (H.next + 1) = some (w5.heap.size, 0) := by
    rw [Mu.bind_ne (by omega), Mu.bind_same]
  have hlr : LR (((μ.bind H.next (g, 0) (cap * 3)).bind (H.next + 1) (w5.heap.size, 0) 0).bind (H.next + 2) (w5.heap.size + 1, 0) 4) [.int .i64 x0, .int .i64 x1, .slice (some ⟨H.next, 0, none⟩) n (73786976294838206464 + n), .map (some (H.next + 1))] [.int .i64 x0, .int .i64 x1, .slice (some ⟨g, 0, none⟩) n cap, .map (some w5.heap.size)] := by
    refine LR.cons (.int _ _) (LR.cons (.int _ _) (LR.cons ?_ (LR.cons (.map _ _ m2) (LR.nil _))))
    refine VR.sl H.next g 0 0 n _ cap m1 (.inr ⟨by omega, ?_, ?_⟩)
    · rw [lb_eq]; omega
    · rw [t1, es_eq, show (73786976294838206464 + n) / 18446744073709551616 - 1 = 3 by omega]; omega
  have n3 := n2.hr.born (w' := (w5.alloc (.map #[] 0)).alloc (.cells #[.int .i64 x0, .int .i64 x1, .slice (some ⟨g, 0, none⟩) n cap, .map (some w5.heap.size)] 160)) (x := .cells true 4 4 [.int .i64 x0, .int .i64 x1, .slice (some ⟨H.next, 0, none⟩) n (73786976294838206464 + n), .map (some (H.next + 1))] .nil) (c := w5.heap.size + 1) (T := 4)
    (by rw [nx2]; omega) b6 (by simp) ⟨#[.int .i64 x0, .int .i64 x1, .slice (some ⟨g, 0, none⟩) n cap, .map (some w5.heap.size)], 160, (0, 0), by simpa using heap_new (w5.alloc (.map #[] 0)) (.cells #[.int .i64 x0, .int .i64 x1, .slice (some ⟨g, 0, none⟩) n cap, .map (some w5.heap.size)] 160), fun _ => ⟨rfl, by omega, by simp⟩, fun k hk => by
      have hk1 : k < [Value.int .i64 x0, .int .i64 x1, .slice (some ⟨H.next, 0, none⟩) n (73786976294838206464 + n), .map (some (H.next + 1))].length := hk
      have hk2 : k < [Value.int .i64 x0, .int .i64 x1, .slice (some ⟨g, 0, none⟩) n cap, .map (some w5.heap.size)].length := hk
      refine ⟨_, ?_, by rw [cellv_list (n := 4) rfl hk1]; exact hlr.at_ k hk1 hk2⟩
      rw [Nat.zero_add, ← Array.getElem?_toList, List.getElem?_eq_getElem hk2]⟩
  exact ⟨_, (n1.trans n2).trans n3, Mu.bind_same, m2⟩
theorem step_len_map {P : Program} {ops : Array Oper} {o : Oper} {a : Act} {K : Act → World → Prop} {Q : Exit → Act → World → Prop} {E : Prop} {w : World} (hgd : o.guard = none) (x : Operand) (t kt et : TypeId)
    (ho : o.op = .call { callee := .builtin .len, args := #[x], argTypes := #[t] }) (ht : P.underlying t = some (.map kt et)) (b : Nat) (hx : a.eval x = .map (some b)) (ents : Array MapEntry) (clock : Nat) (hb : w.heap[b]? = some (.map ents clock)) (h : K (a.put o.dst (.int .i64 ents.size)) w) :
    if Region.wanted o (yielded ops a.tmps) = true then Oper.wp P o a w K Q else E := by
  have hw : Region.wanted o (yielded ops a.tmps) = true := by simp [Region.wanted, hgd]
  have hget : (getObj b).run P w = .ok (.map ents clock) w := by simp [getObj, Sem.run, hb]
  have hr : (Builtin.len_ #[t] o.type #[.map (some b)]).run P w = .ok (.int .i64 ents.size) w := by simp [Builtin.len_, run_underlying ht, hget]; rfl
  rw [if_pos hw]
  unfold Oper.wp execOp
  simp only [ho, resolve, invoke, builtin, Sem.run_bind, Sem.run_pure, Result.andThen_ok, List.map_toArray, List.map_cons, List.map_nil, hx, hr]
  exact h
end Cr
end Go.Proofs.YtekbkaipdmklpaaGreatDoor
