/- The machine's contract for support.Vars is right: a walk. -/
import Derived.Test.YtekbkaipdmklpaaGreatDoorK4
import Derived.Test.YtekbkaipdmklpaaGreatDoorD1
namespace Go.Proofs.YtekbkaipdmklpaaGreatDoor
namespace Cr
open Go Go.RowKit
open Go.ChangeMaps (setBlock)

theorem varNums_cons {e : Value × Value} {es : List (Value × Value)} {r : List Value} (h : varNums (e :: es) = some r) :
    ∃ (op num : Nat) (a : Option Addr × Nat × Nat) (rs : List Value), e.2 = .agg ⟨[.int .u8 (.ofNat op), .int .u64 (.ofNat num), .slice a.1 a.2.1 a.2.2]⟩ ∧ varNums es = some rs ∧ ((op = 1 ∧ num ≤ 9223372036854775807 ∧ r = .int .i64 (.ofNat num) :: rs) ∨ (op ≠ 1 ∧ r = rs)) := by
  unfold varNums at h
  split at h
  · rename_i op num a1 a2 a3 he
    split at h
    · cases h
    · rename_i rs hrs
      refine ⟨op, num, (a1, a2, a3), rs, he, hrs, ?_⟩
      cases hb : Nat.beq op 1 with
      | false =>
        rw [hb] at h
        simp only [cond_false, Option.some.injEq] at h
        exact .inr ⟨fun e => (by rw [e] at hb; cases hb), h.symm⟩
      | true =>
        rw [hb, cond_true] at h
        cases hl : Nat.ble num 9223372036854775807 with
        | false => rw [hl] at h; cases h
        | true =>
          rw [hl] at h
          simp only [cond_true, Option.some.injEq] at h
          exact .inl ⟨Nat.eq_of_beq_eq_true hb, Nat.le_of_ble_eq_true hl, h.symm⟩
  · cases h
def NodeAt (es : List (Value × Value)) (j op num : Nat) : Prop := ∃ (k : Value) (a : Option Addr × Nat × Nat), es[j]? = some (k, .agg ⟨[.int .u8 (.ofNat op), .int .u64 (.ofNat num), .slice a.1 a.2.1 a.2.2]⟩)
theorem vars_all : ∀ {es : List (Value × Value)} {vs : List Value}, varNums es = some vs → ∃ f : Nat → Option Nat, (∀ j, j < es.length → ∃ op num, NodeAt es j op num ∧ ((op = 1 ∧ num ≤ 9223372036854775807 ∧ f j = some num) ∨ (op ≠ 1 ∧ f j = none))) ∧ vs = ((List.range es.length).filterMap f).map fun n => Value.int .i64 (.ofNat n)
  | [], vs, h => ⟨fun _ => none, fun j hj => by simp at hj, by
    have h' : some [] = some vs := h
    injection h' with h'
    exact h'.symm⟩
  | e :: es, vs, h => by
    obtain ⟨op, num, a, rs, h1, h2, h3⟩ := varNums_cons h
    obtain ⟨f, hf, hrs⟩ := vars_all h2
    rcases h3 with ⟨h3, h5, h4⟩ | ⟨h3, h4⟩
    · refine ⟨fun j => match j with | 0 => some num | j + 1 => f j, fun j hj => ?_, ?_⟩
      · cases j with
        | zero => exact ⟨op, num, ⟨e.1, a, by rw [← h1]; rfl⟩, .inl ⟨h3, h5, rfl⟩⟩
        | succ j =>
          obtain ⟨op', nm, ⟨k, b, g⟩, g2⟩ := hf j (by simpa using hj)
          exact ⟨op', nm, ⟨k, b, by simpa using g⟩, g2⟩
      · rw [h4, hrs]
        simp [List.range_succ_eq_map, List.filterMap_map, Function.comp_def]
    · refine ⟨fun j => match j with | 0 => none | j + 1 => f j, fun j hj => ?_, ?_⟩
      · cases j with
        | zero => exact ⟨op, num, ⟨e.1, a, by rw [← h1]; rfl⟩, .inr ⟨h3, rfl⟩⟩
        | succ j =>
          obtain ⟨op', nm, ⟨k, b, g⟩, g2⟩ := hf j (by simpa using hj)
          exact ⟨op', nm, ⟨k, b, by simpa using g⟩, g2⟩
      · rw [h4, hrs]
        simp [List.range_succ_eq_map, List.filterMap_map, Function.comp_def]
/-- what the cells of an owned list of integers hold -/
theorem own_ints {w : World} {base n : Nat} {v : Value} {L : List Int} (h : (Lay.int .i64).Own 3 w base v L) (hn : L.length = n) (h0 : 0 < n) :
    ∃ g cap cur, v = .slice (some ⟨g, 0, none⟩) n cap ∧ base ≤ g ∧ w.heap[g]? = some (.cells cur 3 (0, 0)) ∧ n ≤ cap ∧ cap ≤ maxLen ∧ cur.size = cap ∧ ∀ k, k < n → cur[k]? = (L.map (Value.int .i64))[k]? := by
  have hf : ∀ l : List Int, (Lay.int .i64).flat l = l.map (Value.int .i64) := fun l => by
    induction l with
    | nil => rfl
    | cons x l ih => simp only [Lay.flat, List.flatMap_cons, List.map_cons] at ih ⊢; rw [ih]; rfl
  obtain ⟨_, h | ⟨g, cap, cur, h1, h2, h3, h4, h5, h6, h7⟩⟩ := h
  · omega
  · subst hn
    refine ⟨g, cap, cur, h1, h2, h3, h4, h5, by simpa [Lay.int] using h6, fun k hk => ?_⟩
    rw [hf] at h7
    have e : L.length * (Lay.int .i64).sz = L.length := by simp [Lay.int]
    rw [e] at h7
    rw [← h7, List.getElem?_take_of_lt hk]
    simp
/-- the variables that the loop has seen, in its order -/
structure SeenVars (f : Nat → Option Nat) (len : Nat) (seen : Array Nat) (L : List Int) : Prop where
  nodup : seen.toList.Nodup
  lt : ∀ b ∈ seen.toList, b < len
  list : L = (seen.toList.filterMap f).map fun (n : Nat) => (n : Int)
theorem SeenVars.nil (f : Nat → Option Nat) (len : Nat) : SeenVars f len #[] [] := ⟨by simp, by simp, by simp⟩
theorem SeenVars.skip {f : Nat → Option Nat} {len : Nat} {seen : Array Nat} {L : List Int} (h : SeenVars f len seen L) {b : Nat} (hb : b < len) (hn : seen.contains b = false) (hf : f b = none) : SeenVars f len (seen.push b) L :=
  ⟨by simpa [List.nodup_append, h.nodup] using fun a ha => by rintro rfl; simp [Array.contains_eq_mem] at hn; exact hn (by simpa using ha),
   by simp; intro x hx; rcases hx with hx | rfl; exact h.lt x (by simpa using hx); exact hb, by simp [List.filterMap_append, hf, ← h.list]⟩
theorem SeenVars.take {f : Nat → Option Nat} {len : Nat} {seen : Array Nat} {L : List Int} (h : SeenVars f len seen L) {b n : Nat} (hb : b < len) (hn : seen.contains b = false) (hf : f b = some n) : SeenVars f len (seen.push b) (L ++ [(n : Int)]) :=
  ⟨by simpa [List.nodup_append, h.nodup] using fun a ha => by rintro rfl; simp [Array.contains_eq_mem] at hn; exact hn (by simpa using ha),
   by simp; intro x hx; rcases hx with hx | rfl; exact h.lt x (by simpa using hx); exact hb, by simp [List.filterMap_append, hf, ← h.list]⟩
theorem SeenVars.perm {f : Nat → Option Nat} {len : Nat} {seen : Array Nat} {L : List Int} (h : SeenVars f len seen L) (hall : ∀ b, b < len → seen.contains b = true) : L.Perm (((List.range len).filterMap f).map fun (n : Nat) => (n : Int)) := by
  rw [h.list]
  refine List.Perm.map _ (List.Perm.filterMap _ ?_)
  refine (List.perm_ext_iff_of_nodup h.nodup List.nodup_range).2 fun b => ⟨fun hb => List.mem_range.2 (h.lt b hb), fun hb => ?_⟩
  have := hall b (List.mem_range.1 hb)
  simpa [Array.contains_eq_mem] using this
theorem SeenVars.length {f : Nat → Option Nat} {len : Nat} {seen : Array Nat} {L : List Int} (h : SeenVars f len seen L) : L.length ≤ ((List.range len).filterMap f).length := by
  have hp : (seen.toList ++ (List.range len).filter fun b => !seen.toList.contains b).Perm (List.range len) := by
    refine (List.perm_ext_iff_of_nodup ?_ List.nodup_range).2 fun b => ?_
    · refine List.nodup_append.2 ⟨h.nodup, List.nodup_range.filter _, fun a ha b hb => ?_⟩
      rintro rfl
      simp at hb
      exact hb.2 (by simpa using ha)
    · simp only [List.mem_append, List.mem_filter, List.mem_range]
      constructor
      · rintro (hb | hb)
        · exact h.lt b hb
        · exact hb.1
      · intro hb
        by_cases hc : b ∈ seen.toList
        · exact .inl hc
        · exact .inr ⟨hb, by simpa using hc⟩
  have := (hp.filterMap f).length_eq
  rw [List.filterMap_append, List.length_append] at this
  rw [h.list, List.length_map]
  omega

/-- an entry of the loop is a node -/
theorem node_of {es : List (Value × Value)} {ents : Array MapEntry} {clock : Nat} (hb : Bn ents clock) {μ : Mu} (h3 : LR μ (es.map (·.1)) (ents.toList.map (·.key))) (h4 : LR μ (es.map (·.2)) (ents.toList.map (·.val))) {e : MapEntry} (he : e ∈ ents.toList) :
    e.born < es.length ∧ ∀ op num, NodeAt es e.born op num → ∃ ad n c, e.val = .agg ⟨[.int .u8 (.ofNat op), .int .u64 (.ofNat num), .slice ad n c]⟩ := by
  obtain ⟨j, hj, rfl⟩ := List.getElem_of_mem he
  have hj' : j < ents.size := by simpa using hj
  have hbj := hb.born j _ (Array.getElem?_eq_getElem hj')
  have hlen := (hb.size h3).2
  have e0 : ents.toList[j] = ents[j] := by simp
  rw [e0, hbj]
  refine ⟨by omega, fun op num hn => ?_⟩
  obtain ⟨k, a, hk⟩ := hn
  obtain ⟨e', g1, g2, g3, g4⟩ := entry_at hb h3 h4 hk
  rw [Array.getElem?_eq_getElem hj'] at g1
  injection g1 with g1
  subst g1
  revert g4
  generalize ents[j].val = v'
  intro g4
  cases g4 with
  | agg c c' hl hh =>
    have hlr : LR μ [.int .u8 (.ofNat op), .int .u64 (.ofNat num), .slice a.1 a.2.1 a.2.2] c' := ⟨hl, hh⟩
    obtain ⟨v1, r1, rfl, k1, hlr⟩ := hlr.cons_inv
    obtain ⟨v2, r2, rfl, k2, hlr⟩ := hlr.cons_inv
    obtain ⟨v3, r3, rfl, k3, hlr⟩ := hlr.cons_inv
    obtain rfl := hlr.nil_inv
    cases k1
    cases k2
    obtain ⟨a1, a2, a3⟩ := a
    cases k3 <;> exact ⟨_, _, _, rfl⟩

theorem tuple_map_inv {μ : Mu} {r : Nat} {v : Value} (h : VR μ (.tuple ⟨[.map (some r), .int .i64 (.ofNat 0)]⟩) v) : ∃ b, v = .tuple #[.map (some b), .int .i64 0] ∧ μ r = some (b, 0) := by
  cases h with
  | tuple c c' hl hh =>
    have hlr : LR μ [.map (some r), .int .i64 (.ofNat 0)] c' := ⟨hl, hh⟩
    obtain ⟨v1, r1, rfl, k1, hlr⟩ := hlr.cons_inv
    obtain ⟨v2, r2, rfl, k2, hlr⟩ := hlr.cons_inv
    obtain rfl := hlr.nil_inv
    cases k1 with
    | map _ b hm =>
      cases k2
      exact ⟨b, rfl, hm⟩

/-- what the loop keeps -/
structure VarsInv (R : Nat) (w1 : World) (bm clock : Nat) (f : Nat → Option Nat) (len : Nat) (v : Value) (wr : World) : Prop where
  it : ∃ seen last L, wr.heap[R]? = some (.mapIter (some bm) clock seen last) ∧ clock ≤ last ∧ (Lay.int .i64).Own 3 wr (R + 1) v L ∧ SeenVars f len seen L ∧ (L = [] → v = .slice none 0 0)
  below : Below R w1 wr
  size : R < wr.heap.size
def leftIn (ents : Array MapEntry) (r : Nat) (wr : World) : Nat := match wr.heap[r]? with
  | some (.mapIter _ _ seen _) => (leftOf ents seen).size
  | _ => 0
theorem leftIn_of {ents : Array MapEntry} {R m c l : Nat} {seen : Array Nat} {wr : World} (h : wr.heap[R]? = some (.mapIter (some m) c seen l)) : leftIn ents R wr = (leftOf ents seen).size := by unfold leftIn; rw [h]
theorem seen_push {seen : Array Nat} {b j : Nat} (h : b ≠ j) : (seen.push b).contains j = seen.contains j := by
  simp [Ne.symm h]
theorem seen_last {seen : Array Nat} {b : Nat} : (seen.push b).contains b = true := by simp

set_option maxHeartbeats 4000000 in
set_option maxRecDepth 100000 in
theorem vars_calls {G B : Nat} {w0 : W0} {call : Nat → List Value → AH → Rs} (hcall : ∀ B w0, CallOk Tryz.prog G B w0 call) {args : List Value} {H H' : AH} {v : Value} (hrun : spVars call 148 149 args H = .ok v H')
    {μ : Mu} {w : World} {args' : List Value} (hargs : LR μ args args') (hr : HR G B w0 H μ w) :
    Calls Tryz.prog 103 ⟨args'⟩ w fun e w' => ∃ v' μ', e = .returned v' ∧ VR μ' v v' ∧ Nx G B w0 H μ H' μ' w' := by
  unfold spVars at hrun
  split at hrun
  · rename_i x y
    obtain ⟨x', r1, rfl, hx, hl1⟩ := hargs.cons_inv
    obtain ⟨y', r2, rfl, hy, hl2⟩ := hl1.cons_inv
    obtain rfl := hl2.nil_inv
    clear hl1 hl2
    split at hrun
    · rename_i r H1 hocc
      split at hrun
      · rename_i es hgr
        split at hrun
        · rename_i vs hvn
          obtain ⟨f, hnodes, hvs⟩ := vars_all hvn
          have HC := Lib.hid (calls_of_call (hcall _ _) hocc hargs hr)
          have hlen1 : ((List.range es.length).filterMap f).length < 1000 := by
            have := spFin_len hrun
            rwa [hvs, List.length_map] at this
          have HS := Lib.hid hrun
          clear hocc hrun hvn hargs hr hx hy
          go_enter Tryz.func103, Tryz.ntmps103
          go_wp2_with fail
          refine HC.out.mono ?_
          rintro e w1 ⟨v1, μ1, rfl, hv1, nx1⟩
          obtain ⟨bm, rfl, hm⟩ := tuple_map_inv hv1
          have hr1 := nx1.hr
          obtain ⟨_, es2, ents, clock, qm, q1, q2, q3, q4⟩ := hr1.blk r _ hgr bm 0 hm
          obtain rfl : es = es2 := Eq.symm qm
          obtain ⟨hB, hbn⟩ := q2 rfl
          clear HC hv1 q2 qm
          go_wp2_with (at_range; refine wpList_range_at rfl _ _ rfl Tryz.underlying324 rfl q1 ?_)
          have HQ1 := Lib.hid q1
          have HN := Lib.hid (fun e he => node_of (e := e) hbn q3 q4 he)
          have HBo : ∀ x ∈ ents.toList, x.born < clock := fun x hx => by have := (HN.out x hx).1; rw [(hbn.size q3).1]; exact this
          have hND := hbn.nodup
          have hcl := Lib.hid (hbn.size q3).1
          have hsz := (hbn.size q3).2
          have HJ : Hid (∀ b, b < es.length → ∃ e0 ∈ ents.toList, e0.born = b) := Lib.hid (fun b hb => by
            have hb' : b < ents.size := by have := hbn.size q3; omega
            exact ⟨ents[b], by simp, hbn.born b _ (Array.getElem?_eq_getElem hb')⟩)
          have hbmw : bm < w1.heap.size := (Array.getElem?_eq_some_iff.1 q1).1
          clear hbn q3 q4 q1
          intro w2 hw2
          replace hw2 := hw2.out
          generalize hR : w1.heap.size = R at *
          have hR2 : w2.heap[R]? = some (.mapIter (some bm) clock #[] clock) := by subst hR; rw [hw2]; exact heap_alloc_new w1 _
          have hB2 : Below R w1 w2 := by subst hR; rw [hw2]; exact (Below.refl _ _).alloc (Nat.le_refl _) _
          have hs2 : w2.heap.size = R + 1 := by rw [hw2]; simp [hR]
          clear hw2
          go_wp2_with fail
          go_loopw [8] (fun v wr => VarsInv R w1 bm clock f es.length v wr) (fun _ wr => leftIn ents R wr)
          case atStart => exact ⟨⟨#[], clock, [], hR2, Nat.le_refl _, Lay.Own.nil w2 (R + 1), SeenVars.nil _ _, fun _ => rfl⟩, hB2, by omega⟩
          case round =>
            obtain ⟨⟨seen, last, L, hrr, hll, hown, hsv, hnil⟩, hbel, hszr⟩ := hrel
            clear hR2 hB2 hs2
            have hbm' : wr.heap[bm]? = some (.map ents clock) := (hbel.block bm hbmw).trans HQ1.out
            go_wp2_with (at_next; refine wpList_next_at rfl _ rfl (by rfl) hrr hbm' HBo hll ?_ ?_)
            · intro hdone
              have hperm := hsv.perm fun b hb => by
                obtain ⟨e0, he0, hb0⟩ := HJ.out b hb
                have := all_seen ents seen (by rw [hdone.out]; rfl) e0 he0
                rwa [hb0] at this
              have HS' := HS.out
              rw [hvs] at HS'
              clear HS
              match hvars : (List.range es.length).filterMap f with
              | [] =>
                rw [hvars] at HS' hperm
                have hL : L = [] := by simpa using hperm
                obtain rfl := hnil hL
                obtain ⟨v3, hsrt, rfl⟩ := spFin_nil HS'
                clear HS'
                have hr5 : Nx G B w0 H1 μ1 H1 μ1 wr := Nx.refl (hr1.beside (by rw [hR]; exact hbel))
                have HCS := Lib.hid (calls_of_call (hcall _ _) hsrt (LR.cons (VR.sl0 _ _) (LR.nil _)) hr5.hr)
                clear hsrt hown
                go_wp2_with fail
                refine HCS.out.mono ?_
                rintro e w3 ⟨v3', μ3, rfl, hv3, nx3⟩
                go_wp2_with fail
                go_ret2
                exact ⟨_, μ3, rfl, VR.tuple_of (LR.cons (VR.sl0 _ _) (LR.cons (VR.int _ _) (LR.nil _))), (nx1.trans hr5).trans nx3⟩
              | num :: nums =>
                rw [hvars] at HS' hperm
                rw [List.map_cons] at HS'
                obtain ⟨n, c, hn1, hc1, hlt', hn3, hall, rfl, rfl⟩ := spFin_cons HS'
                clear HS'
                rw [List.length_map] at hn1
                have hLn : L.length = n := by
                  have := hperm.length_eq
                  rw [List.length_map, List.length_cons] at this
                  omega
                have hp : (L.map (Value.int .i64)).Perm (.int .i64 (.ofNat num) :: nums.map fun n => Value.int .i64 (.ofNat n)) := by
                  have := hperm.map (Value.int .i64)
                  rw [List.map_map] at this
                  exact this
                obtain ⟨v3, H3, x, hsrt, hx3, hpb⟩ := hall _ hp
                obtain ⟨g, cap, cur, rfl, k1, k2, k3, k4, k5, k6⟩ := own_ints hown hLn (by omega)
                have hzs : (L.map (Value.int .i64)).all scalar = true := List.all_eq_true.2 fun v hv => by
                  obtain ⟨y, _, rfl⟩ := List.mem_map.1 hv
                  rfl
                have hrm := minH_hr (cap := cap) hr1 hlt' (by rw [hR]; exact hbel) (by omega) k2 (by omega) (by rw [List.length_map]; exact hLn) hzs k6
                have hsl : VR (μ1.bind H1.next (g, 0) cap) (.slice (some ⟨H1.next, 0, none⟩) n c) (.slice (some ⟨g, 0, none⟩) n cap) :=
                  VR.sl H1.next g 0 0 n c cap Mu.bind_same (.inr ⟨by omega, by rw [hc1, lb_cap hn3]; exact k3, by rw [Mu.tot_same, hc1, es_cap hn3]; omega⟩)
                have HCS := Lib.hid (calls_of_call (hcall _ _) hsrt (LR.cons hsl (LR.nil _)) hrm)
                have HX := Lib.hid hx3
                have HPB := Lib.hid hpb
                have HOL := Lib.hid (show (outOf (.int .i64 (.ofNat num) :: nums.map fun n => Value.int .i64 (.ofNat n))).length = n by rw [outOf_len, List.length_cons, List.length_map]; exact hn1.symm)
                have HKG : R ≤ g := by omega
                have HVS := Lib.hid hsl
                clear hsrt hown hx3 hpb hp hall hzs hrm hsl k6 k2 k5 hn1 hc1 hLn hperm hvars hsv hnil hlen1 hnodes
                go_wp2_with fail
                refine HCS.out.mono ?_
                rintro e w3 ⟨v3', μ3, rfl, hv3, nx3⟩
                have HN3 := Lib.hid nx3
                clear nx3 HCS
                go_wp2_with fail
                go_ret2
                have nx3 := HN3.out
                have hgm := nx3.ext.loc _ _ (Mu.bind_same (μ := μ1) (i := H1.next) (p := (g, 0)) (T := cap))
                have htot := (nx3.ext.tot _ _ (Mu.bind_same (μ := μ1) (i := H1.next) (p := (g, 0)) (T := cap))).trans Mu.tot_same
                have hb3 := nx3.hr.blk H1.next x HX.out g 0 hgm
                rw [htot] at hb3
                have hb4 := (hb3.post HPB.out (Nat.le_refl _)).1
                have nxb := hr1.born (c := g) (T := cap) (by omega) nx3.hr.below (by rw [hR]; exact HKG) (hb4.ints (B := B) (μ := μ1.bind H1.next (g, 0) cap) HOL.out (outOf_int _) hr1.base)
                exact ⟨_, _, rfl, VR.tuple_of (LR.cons HVS.out (LR.cons (VR.int _ _) (LR.nil _))), nx1.trans nxb⟩
            · intro e he w3 w4 hw3 hw4
              replace hw4 := hw4.out
              replace he : e ∈ (leftOf ents seen).toList := by simpa using he
              obtain ⟨he1, he2⟩ := mem_left he
              have h3 : wr.grownBy w3 none := by
                rcases hw3 with rfl | rfl
                · exact World.grownBy.refl _ _
                · exact ⟨rfl, rfl, rfl, Nat.le_refl _, fun _ _ _ => rfl⟩
              have h34 : w3.heap.size = wr.heap.size := by rcases hw3 with rfl | rfl <;> rfl
              have hg4 : wr.grownBy w4 (some R) := by
                rw [hw4]
                refine ⟨h3.os, h3.tape, h3.output, by simpa [setBlock] using h3.size, fun k hk hne => ?_⟩
                show (w3.heap.setIfInBounds R _)[k]? = _
                rw [Array.getElem?_setIfInBounds_ne (by intro e; exact hne (by rw [e]))]
                exact h3.block k hk (by simp)
              have hr4 : w4.heap[R]? = some (.mapIter (some bm) clock (seen.push e.born) clock) := by
                rw [hw4]
                show (w3.heap.setIfInBounds R _)[R]? = _
                rw [Array.getElem?_setIfInBounds_self_of_lt (by omega)]
              have hb4 : Below R w1 w4 := hbel.grown hg4 (by omega) (fun k hk => by injection hk with hk; omega)
              have hbm4 : w4.heap[bm]? = some (.map ents clock) := (hb4.block bm hbmw).trans HQ1.out
              have hen := run_entry_at (P := Tryz.prog) w4 R bm clock seen ents clock e hr4 hbm4 he1 hND
              have hs4 : R < w4.heap.size := by have := hg4.size; omega
              have hown4 : (Lay.int .i64).Own 3 w4 (R + 1) u8 L := World.ownsRow.kept (row := some R) hown hg4 (by
                cases hk : u8.ownBlock with
                | none => exact .inl rfl
                | some k => exact .inr (fun e => by injection e with e; have := (World.ownsRow.lt hown k hk).1; omega))
              have hmes := left_shrinks ents seen e he
              have hL0 : leftIn ents R wr = (leftOf ents seen).size := by unfold leftIn; rw [hrr]
              obtain ⟨hlt, hnode⟩ := HN.out e he1
              have hec : seen.contains e.born = false := he2
              obtain ⟨op, num, hnat, hcase⟩ := hnodes e.born hlt
              clear hw4 hw3 hown hrr hbm' he HJ h3 h34 hg4 he2
              have hLl := hsv.length
              rcases hcase with ⟨rfl, hnle, hf⟩ | ⟨hop, hf⟩
              · obtain ⟨ad, an, ac, ha⟩ := hnode 1 num hnat
                have hsv4 := hsv.take hlt hec hf
                rw [ha] at hen ⊢
                clear ha hnode hnat hf hec hlt hsv hnil
                have hm4 : leftIn ents R w4 = (leftOf ents (seen.push e.born)).size := leftIn_of hr4
                generalize seen.push e.born = sn at *
                generalize e.key = ky at *
                go_wp2_with (at_builtin; refine app_lay_new_g Tryz.elemI [(num : Int)] rfl _ _ rfl rfl (hown4.alloc _) rfl (by simp) rfl (by simp; omega) (by simp; omega) ?_)
                intro v5 w5 hown5 hb5
                go_wp2_with fail
                go_roundw
                case rel =>
                  refine ⟨⟨sn, clock, L ++ [(num : Int)], ((hb5.block R (by omega)).trans (Below.heap_alloc w4 _ R hs4)).trans hr4, Nat.le_refl _, hown5, hsv4, by simp⟩, (hb4.alloc (by omega) _).trans (hb5.mono (by omega)), by have := hb5.size; simp at this; omega⟩
                case measure =>
                  rw [leftIn_of (((hb5.block R (by omega)).trans (Below.heap_alloc w4 _ R hs4)).trans hr4), hL0]
                  exact hmes
              · obtain ⟨ad, an, ac, ha⟩ := hnode op num hnat
                have hop' : (((op : Nat) : Int) == 1) = false := by simp; omega
                have hsv4 := hsv.skip hlt hec hf
                rw [ha] at hen ⊢
                clear ha hnode hnat hf hec hlt hsv hop
                have hm4 : leftIn ents R w4 = (leftOf ents (seen.push e.born)).size := leftIn_of hr4
                generalize seen.push e.born = sn at *
                generalize e.key = ky at *
                go_wp2_with fail
                go_roundw
                case rel => exact ⟨⟨sn, clock, L, (Below.heap_alloc w4 _ R hs4).trans hr4, Nat.le_refl _, hown4.alloc _, hsv4, hnil⟩, hb4.alloc (by omega) _, by simp; omega⟩
                case measure =>
                  rw [leftIn_of ((Below.heap_alloc w4 _ R hs4).trans hr4), hL0]
                  exact hmes
        · cases hrun
      · cases hrun
    · cases hrun
  · cases hrun
end Cr
end Go.Proofs.YtekbkaipdmklpaaGreatDoor
