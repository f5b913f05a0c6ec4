/- Walk: occur (the nodes that occur in a term). -/
import Derived.Test.YtcckmkidmelbnaaGreatDoorNm
import Derived.Test.YtcckmkidmelbnaaGreatDoorNn
namespace Go.Proofs.YtcckmkidmelbnaaGreatDoor
open Go Go.RowKit
open Go.Proofs.YtcckmkidmelbnaaGreatDoor.Cr

section
variable {w : World} {ops : Array Oper} {rest : List Oper} {o : Oper} {a : Act} {Q : Exit → Act → World → Prop} {mb : Nat} {L : List Nd} {S : List Nat}
theorem seen_look (hg : o.guard = none) (m x : Operand) (hop : o.op = Op.lookup 137 m x true) (hm : a.eval m = .map (some mb)) (h : SeenAt w mb L S) {k : Nat} (hx : a.eval x = .int .i64 (k : Int))
    (hK : ∀ (p u : Nat) (aa : Option Addr) (n c : Nat), wpList Tryz.prog ops Q rest (a.put o.dst (.tuple #[.agg #[.int .u8 (p : Int), .int .u64 (u : Int), .slice aa n c], .bool (decide (k ∈ S))])) w) : wpList Tryz.prog ops Q (o :: rest) a w := by
  refine wpList_plain hg fun K' hK' => ?_
  obtain ⟨p, u, aa, n, c, hrun⟩ := h.lookup k
  unfold Oper.wp
  simp [execOp, hop, hm, hx, hrun, Result.andThen]
  exact hK' _ _ (hK p u aa n c)
theorem seen_put (hg : o.guard = none) (m x v : Operand) (hop : o.op = Op.mapUpdate 137 m x v) (hm : a.eval m = .map (some mb)) (h : SeenAt w mb L S) {k : Nat} (hx : a.eval x = .int .i64 (k : Int)) (hno : k ∉ S)
    {aa : Option Addr} {n c : Nat} {p u : Int} (hp : ((L.getD k default).op : Int) = p) (hu : ((L.getD k default).num : Int) = u) (hv : a.eval v = .agg #[.int .u8 p, .int .u64 u, .slice aa n c])
    (hK : ∀ w', SeenAt w' mb L (S ++ [k]) → w'.heap.size = w.heap.size → (∀ b, b ≠ mb → w'.heap[b]? = w.heap[b]?) → Below mb w w' → wpList Tryz.prog ops Q rest (a.put o.dst undef) w') : wpList Tryz.prog ops Q (o :: rest) a w := by
  refine wpList_plain hg fun K' hK' => ?_
  obtain ⟨ob, hrun, hS⟩ := h.update hno aa n c
  rw [hp, hu] at hrun
  have hb : ∀ b, b ≠ mb → (w.heap.setIfInBounds mb ob)[b]? = w.heap[b]? := fun b hb => Array.getElem?_setIfInBounds_ne (Ne.symm hb)
  unfold Oper.wp
  simp [execOp, hop, hm, hx, hv, hrun, Result.andThen]
  exact hK' _ _ (hK _ (hS _ rfl) (by simp) hb ⟨rfl, rfl, rfl, by simp, fun k hk => hb k (by omega)⟩)
end
theorem Own.off {α : Type} {Ly : Lay α} {e : TypeId} {w w' : World} {mb base : Nat} {v : Value} {xs : List α} (h : Ly.Own e w base v xs) (hb : mb < base) (hk : ∀ b, b ≠ mb → w'.heap[b]? = w.heap[b]?) : Ly.Own e w' base v xs := by
  obtain ⟨hl, h | ⟨g, cap, cur, rfl, hg, hh, hn, hm, hs, ht⟩⟩ := h
  · exact ⟨hl, .inl h⟩
  · exact ⟨hl, .inr ⟨g, cap, cur, rfl, hg, (hk g (by omega)).trans hh, hn, hm, hs, ht⟩⟩
/-- the stack without its top -/
theorem Own.pop {w : World} {base b m cap : Nat} {x : Int} {xs : List Int} (h : (Lay.int .i64).Own 3 w base (.slice (some ⟨b, 0, none⟩) (m + 1) cap) (xs ++ [x])) (hm : xs.length = m) : (Lay.int .i64).Own 3 w base (.slice (some ⟨b, 0, none⟩) m cap) xs := by
  obtain ⟨hl, h | ⟨g, cap', cur, e, hg, hh, hn, hmx, hs, ht⟩⟩ := h
  · cases h.1
  · injection e with e1 e2 e3
    injection e1 with e1
    injection e1 with e1 _
    subst e1 e3 hm
    refine ⟨(Lay.int .i64).flat_length xs, .inr ⟨_, _, cur, rfl, hg, hh, by simp at hn; omega, hmx, hs, ?_⟩⟩
    have h1 := congrArg (List.take (xs.length * (Lay.int .i64).sz)) ht
    rw [List.take_take, Lay.flat_append, Nat.min_eq_left (by simp [Lay.int])] at h1
    rw [h1, List.take_append_of_le_length (by rw [Lay.flat_length]; exact Nat.le_refl _), ← Lay.flat_length, List.take_length]
def mapSz (w : World) (mb : Nat) : Nat := match w.heap[mb]? with | some (.map es _) => es.size | _ => 0
def lenOf : Value → Nat | .slice _ n _ => n | _ => 0
theorem SeenAt.sz {w : World} {mb : Nat} {L : List Nd} {S : List Nat} (h : SeenAt w mb L S) : mapSz w mb = S.length := by
  obtain ⟨es, c, h1, h2, h3⟩ := h.ents
  unfold mapSz
  rw [h1]
  have := h3.len
  simpa using this
theorem intsN_append (l r : List Nat) : intsN (l ++ r) = intsN l ++ intsN r := by simp [intsN]
/-- what the search keeps in memory -/
structure SrchP (w0 w : World) (L : List Nd) (t : Nat) (mb : Nat) (v : Value) (S K : List Nat) : Prop where
  inv : SeenInv L t S K
  map : SeenAt w mb L S
  own : (Lay.int .i64).Own 3 w (mb + 1) v (intsN K)
  bel : Below w0.heap.size w0 w
  lt : mb < w.heap.size
theorem world_lt {w w' : World} {B b : Nat} (h : Below B w w') (hb : b < w.heap.size) : b < w'.heap.size := Nat.lt_of_lt_of_le hb h.size
def OccP (w : World) (L : List Nd) (t : Nat) (e : Ending) (w' : World) : Prop := ∃ mb S, e = .returned (.tuple #[.map (some mb), .int .i64 0]) ∧ SeenAt w' mb L S ∧ (∀ j, j ∈ S ↔ Occ L t j) ∧ S.Nodup ∧ w.heap.size ≤ mb ∧ mb < w'.heap.size ∧ Below w.heap.size w w'
set_option maxRecDepth 100000 in
set_option maxHeartbeats 8000000 in
theorem occur59 {w : World} {r W : Nat} {L : List Nd} (h : RV w r W L) (t : Nat) (ht : t < L.length) (hL : L.length ≤ 100) (tb to_ c : Nat) (htb : tb < w.heap.size) (hc : w.cell? ⟨tb, to_, none⟩ = some (.int .i64 (t : Int))) :
    Calls Tryz.prog 59 #[.pointer (some ⟨r, 0, none⟩), .slice (some ⟨tb, to_, none⟩) 1 c] w (OccP w L t) := by
  have HV := Lib.hid h
  have HT : Hid (t < L.length) := Lib.hid ht
  have HLL : Hid (L.length ≤ 100) := Lib.hid hL
  obtain ⟨na, nc, hn2, _⟩ := h.nodes
  have HLN := Lib.hid (len58 r L.length w hn2)
  have d0 : decide ((t : Int) < 0) = false := by simp
  have hat : (Lay.int .i64).At 0 w (some ⟨tb, to_, none⟩) [(t : Int)] := fun i hi => by
    simp at hi; subst hi
    refine ⟨tb, to_, rfl, htb, fun j hj => ?_⟩
    simp [Lay.int] at hj
    subst hj
    simpa [Lay.int] using hc
  have HAT := Lib.hid hat
  have d1 : decide ((L.length : Int) ≤ (t : Int)) = false := by simp; omega
  clear h hn2 hat
  generalize hl : L.length = nl at *
  have HNL := Lib.hid hl
  clear hl
  have hmm := @run_makeMap Tryz.prog
  go_enter Tryz.func59, Tryz.ntmps59
  go_wp2_with fail
  go_step3
  go_wp2_with fail
  go_loop [19] (fun i => ∃ k : Nat, k ≤ 1 ∧ i = .int .i64 k) (fun i => 1 - (intOf i).toNat)
  case atStart => exact ⟨0, by omega, rfl⟩
  case round =>
    obtain ⟨k, hk, rfl⟩ := hrel
    by_cases hk0 : k = 0
    · subst hk0
      go_wp2_with fail
      refine HLN.out.mono ?_
      rintro e w' ⟨rfl, rfl⟩
      go_wp2_with fail
      go_round
      case rel => exact ⟨1, by omega, by go_num⟩
      case measure => simp [intOf]
    · obtain rfl : k = 1 := by omega
      have BM : Below w.heap.size w (w.alloc (.map #[] 0)) := (Below.refl _ _).alloc (Nat.le_refl _) _
      have HS0 : Hid (SeenAt (w.alloc (.map #[] 0)) w.heap.size L []) := Lib.hid ⟨#[], 0, heap_alloc_new w _, rfl, trivial⟩
      have hms : w.heap.size < (w.alloc (.map #[] 0)).heap.size := by simp
      have HBM := Lib.hid BM
      have HMS := Lib.hid hms
      clear BM hms hc hk0
      go_wp2_with (first
        | (at_builtin
           refine app_lay_at Tryz.elemI (d := 0) (qs := [(t : Int)]) (base := w.heap.size + 1) rfl _ _ rfl rfl (Lay.Own.nil _ _) rfl (fun h => by cases h) rfl (HAT.out.below HBM.out) (by show 0 + 1 ≤ 1000000; omega) (by first | exact HMS.out | (simp; done)) ?_
           intro v1 w1 r1 r2
           rw [List.nil_append] at r1
           have HP : Hid (SrchP w w1 L t w.heap.size v1 [] [t]) := Lib.hid ⟨SeenInv.start L t, HS0.out.frame (r2.block _ (Nat.lt_succ_self _)), r1, HBM.out.trans (r2.mono (Nat.le_succ _)), world_lt r2 HMS.out⟩
           clear r1 r2))
      clear HS0 HBM HMS
      generalize hmb : w.heap.size = mb at *
      have HMB := Lib.hid hmb
      clear hmb
      go_step3
      go_wp2_with fail
      go_loopw [9] (fun v wr => ∃ S K, Hid (SrchP w wr L t mb v S K)) (fun v wr => (nl - mapSz wr mb) * 4 + lenOf v)
      case atStart => exact ⟨_, _, HP⟩
      case round =>
        clear HP
        obtain ⟨S, K, HP⟩ := hrel
        have hown := HP.out.own
        obtain ⟨ka, kc, e1, kat, _, kcm⟩ := hown.at_ (d := 0)
        rw [intsN_len] at e1
        subst e1
        have HKA := Lib.hid kat
        clear hown kat
        by_cases hz : K.length = 0
        · have hK : K = [] := List.eq_nil_of_length_eq_zero hz
          have HR : Hid (OccP w L t (.returned (.tuple #[.map (some mb), .int .i64 0])) wr) := Lib.hid (by
            subst hK
            exact ⟨mb, S, rfl, HP.out.map, fun j => HP.out.inv.done j, HP.out.inv.nd, Nat.le_of_eq HMB.out, HP.out.lt, HP.out.bel⟩)
          clear hK HKA
          rw [hz]
          go_wp2_with fail
          go_ret2
          exact HR.out
        · obtain ⟨m, hm⟩ : ∃ m, K.length = m + 1 := ⟨K.length - 1, by omega⟩
          have hst := stack_top K (by omega)
          rw [hm, Nat.add_sub_cancel] at hst
          obtain ⟨kb, ko, rfl, hkb, k0⟩ := HKA.out.int (i := m) (by rw [intsN_len]; omega)
          rw [intsN_getD] at k0
          obtain ⟨x, hx⟩ : ∃ x, K.getD m 0 = x := ⟨_, rfl⟩
          obtain ⟨K', hK'⟩ : ∃ K', K.take m = K' := ⟨_, rfl⟩
          rw [hx] at k0 hst
          rw [hK'] at hst
          have hl' : K'.length = m := by rw [← hK', List.length_take]; omega
          subst hst
          have hko : ko = 0 := by
            rcases HP.out.own.2 with ⟨h, _⟩ | ⟨g, c', cur, h, _⟩
            · cases h
            · injection h with h _ _; injection h with h; injection h
          subst hko
          rw [Nat.zero_add] at k0
          rw [hm] at HP ⊢
          have HPO : Hid ((Lay.int .i64).Own 3 wr (mb + 1) (.slice (some ⟨kb, 0, none⟩) m kc) (intsN K')) := Lib.hid (by
            have := HP.out.own
            rw [intsN_append] at this
            exact Own.pop this (by rw [intsN_len]; exact hl'))
          have hcap : m + 1 ≤ kc := by
            rcases HP.out.own.2 with ⟨h, _⟩ | ⟨g, c', cur, h, _, _, h', _⟩
            · cases h
            · injection h with h1 h2 h3; rw [h3, intsN_len, hm] at *; exact h'
          have HL' := Lib.hid hl'
          have HKC : Hid (m + 1 ≤ kc ∧ kc ≤ maxLen) := Lib.hid ⟨hcap, kcm⟩
          have hm1 : (m : Int) < kc := by omega
          have hm4 : m ≤ 400 := by
            have h1 := HP.out.inv.kl
            have h2 := HP.out.inv.len HV.out.ok (by rw [HNL.out]; exact HT.out)
            have h3 := HLL.out
            have h4 := HNL.out
            simp only [List.length_append, List.length_singleton] at h1
            omega
          have hm2 : (m : Int) ≤ kc := by omega
          clear hx hK' hl' hm hz HKA hcap kcm
          have HXL : Hid (x < L.length) := Lib.hid (Occ.lt HV.out.ok (by rw [HNL.out]; exact HT.out) (HP.out.inv.occK x (by simp)))
          by_cases hxs : x ∈ S
          · have HP2 : Hid (SrchP w (wr) L t mb (.slice (some ⟨kb, 0, none⟩) m kc) S K') := Lib.hid ⟨HP.out.inv.skip hxs, HP.out.map, HPO.out, HP.out.bel, HP.out.lt⟩
            have hdec : decide (x ∈ S) = true := decide_eq_true hxs
            have HM := Lib.hid HP.out.map
            have HMZ := Lib.hid HP.out.map.sz
            clear hxs HPO
            go_wp2_with (at_lookup; refine seen_look rfl _ _ rfl rfl HM.out rfl ?_; intro qo qu qa qn qc; rw [hdec])
            go_roundw
            case rel => exact ⟨S, K', Lib.hid ⟨HP2.out.inv, HP2.out.map.frame (Below.heap_alloc _ _ _ HP2.out.lt), HP2.out.own.alloc _, HP2.out.bel.alloc HP2.out.bel.size _, by simp; have := HP2.out.lt; omega⟩⟩
            case measure =>
              have e1 : mapSz (wr.alloc (.cells #[.int .u8 qo, .int .u64 qu, .slice qa qn qc] 141)) mb = mapSz wr mb := by unfold mapSz; rw [Below.heap_alloc _ _ _ HP2.out.lt]
              rw [e1]
              simp only [lenOf]
              omega
          · have hdec : decide (x ∈ S) = false := decide_eq_false hxs
            have HXS := Lib.hid hxs
            have HM := Lib.hid HP.out.map
            have HMZ := Lib.hid HP.out.map.sz
            have HLT := Lib.hid HP.out.lt
            have HBL := Lib.hid HP.out.bel
            have HIV := Lib.hid HP.out.inv
            have HND := Lib.hid (fun (w' : World) (hb : Below wr.heap.size wr w') => node70 (HV.out.below (HBL.out.trans (hb.mono HBL.out.size))) x HXL.out)
            obtain ⟨nd, hnd⟩ : ∃ nd, L.getD x default = nd := ⟨_, rfl⟩
            rw [hnd] at HND
            have HOP : Hid ((((L.getD x default).op : Nat) : Int) = nd.op) := Lib.hid (by rw [hnd])
            have HNU : Hid ((((L.getD x default).num : Nat) : Int) = nd.num) := Lib.hid (by rw [hnd])
            have HAR : Hid ((L.getD x default).args = nd.args) := Lib.hid (by rw [hnd])
            clear hnd
            generalize nd.op = op at *
            generalize nd.num = num at *
            generalize nd.args = args at *
            clear hxs HP
            go_wp2_with (first
              | (at_lookup; refine seen_look rfl _ _ rfl rfl HM.out rfl ?_; intro qo qu qa qn qc; rw [hdec]
                 have HBA : Hid (Below wr.heap.size wr (wr.alloc (.cells #[.int .u8 qo, .int .u64 qu, .slice qa qn qc] 141))) := Lib.hid ((Below.refl _ _).alloc (Nat.le_refl _) _))
              | (go_at_call 70
                 refine (HND.out _ HBA.out).mono ?_
                 rintro e w5 ⟨ha, hc5, rfl, hat5, hbk5, hno5, hb5⟩
                 have HN5 := Lib.hid hno5
                 clear hno5
                 have HB5 : Hid (Below wr.heap.size wr w5) := Lib.hid (HBA.out.trans (hb5.mono HBA.out.size))
                 have HA5 := Lib.hid hat5
                 have HK5 := Lib.hid hbk5
                 have HBB : Hid (Below w5.heap.size w5 (w5.alloc (.cells #[.int .u8 (op : Int), .int .u64 (num : Int), .slice ha args.length hc5] 141))) := Lib.hid ((Below.refl _ _).alloc (Nat.le_refl _) _)
                 have c50 : (w5.alloc (.cells #[.int .u8 (op : Int), .int .u64 (num : Int), .slice ha args.length hc5] 141)).cell? ⟨w5.heap.size, 2, none⟩ = some (.slice ha args.length hc5) := by rw [World.cell?_alloc_new]; rfl
                 have HC5 := Lib.hid c50
                 have HBX : Hid (Below wr.heap.size wr (w5.alloc (.cells #[.int .u8 (op : Int), .int .u64 (num : Int), .slice ha args.length hc5] 141))) := Lib.hid (HB5.out.trans (HBB.out.mono HB5.out.size))
                 have HMX := Lib.hid (HM.out.frame (HBX.out.block _ HLT.out))
                 have HAX := Lib.hid (HA5.out.below HBB.out)
                 have HOX := Lib.hid (HPO.out.grown HBX.out)
                 have HZX : Hid (w5.heap.size < (w5.alloc (.cells #[.int .u8 (op : Int), .int .u64 (num : Int), .slice ha args.length hc5] 141)).heap.size) := Lib.hid (by simp)
                 clear hat5 hbk5 hb5 c50)
              | (at_mapUpdate
                 refine seen_put rfl _ _ _ rfl rfl HMX.out rfl HXS.out HOP.out HNU.out rfl ?_
                 intro wC hSC hzC hkC hbC
                 have HSC := Lib.hid hSC
                 have HKC2 := Lib.hid hkC
                 have HBC := Lib.hid hbC
                 have HZC := Lib.hid hzC
                 have c51 : wC.cell? ⟨w5.heap.size, 2, none⟩ = some (.slice ha args.length hc5) := (World.cell?_of_block (a := ⟨w5.heap.size, 2, none⟩) (hkC w5.heap.size (by have := HB5.out.size; have := HLT.out; omega))).trans HC5.out
                 clear hSC hzC hkC hbC)
              | (at_builtin
                 refine app_lay_at Tryz.elemI (d := 0) (qs := intsN args) rfl _ _ rfl rfl (Own.off HOX.out (Nat.lt_succ_self _) HKC2.out) rfl HN5.out (intsN_len _) (At.frame HAX.out (Nat.le_of_eq HZC.out.symm) (fun ad e => HKC2.out _ (by have := HK5.out ad e; simp at this; have := HLT.out; omega))) (by have h1 := HL'.out; have h2 := HIV.out.kl; have h3 := HIV.out.len HV.out.ok (by rw [HNL.out]; exact HT.out); have h4 := HV.out.ok.argl x; rw [HAR.out] at h4; have h5 := HLL.out; have h6 := HNL.out; simp only [List.length_append, List.length_singleton, intsN_len] at *; omega) (by rw [HZC.out]; have := HBX.out.size; have := HLT.out; omega) ?_
                 intro v9 w9 r1 r2
                 rw [← intsN_append] at r1
                 have HR1 := Lib.hid r1
                 have HR2 := Lib.hid r2
                 clear r1 r2))
            have HB9 : Hid (Below w.heap.size w w9) := Lib.hid ((HBL.out.trans (HBX.out.mono HBL.out.size)).trans ((by have := HBC.out; rwa [← HMB.out] at this : Below w.heap.size _ wC).trans (HR2.out.mono (by have := HMB.out; omega))))
            have HM9 : Hid (SeenAt w9 mb L (S ++ [x])) := Lib.hid (HSC.out.frame (HR2.out.block _ (Nat.lt_succ_self _)))
            go_roundw
            case rel => exact ⟨S ++ [x], K' ++ args, Lib.hid ⟨by rw [← HAR.out]; exact HIV.out.push HV.out.ok HXS.out, HM9.out, HR1.out, HB9.out, by have := HR2.out.size; have := HZC.out; have := HBX.out.size; have := HLT.out; omega⟩⟩
            case measure =>
              rw [HM9.out.sz, HMZ.out]
              obtain ⟨_, _, e9, _⟩ := HR1.out.at_ (d := 0)
              rw [e9]
              have h1 := HIV.out.less HV.out.ok (by rw [HNL.out]; exact HT.out) HXS.out
              have h2 := HNL.out
              have h3 := HV.out.ok.argl x
              rw [HAR.out] at h3
              have h4 := HL'.out
              simp only [lenOf, List.length_append, List.length_singleton, intsN_len]
              omega
end Go.Proofs.YtcckmkidmelbnaaGreatDoor
