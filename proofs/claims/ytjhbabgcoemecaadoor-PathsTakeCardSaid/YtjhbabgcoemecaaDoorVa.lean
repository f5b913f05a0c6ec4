/- Walk: Values of the reference. -/
import Derived.Test.YtjhbabgcoemecaaDoorGa
import Derived.Test.YtjhbabgcoemecaaDoorWj
import Derived.Deep.RegionHeld3
namespace Go.Proofs.YtjhbabgcoemecaaDoor
open Go.RowKit

/-- what the walks need of a graph that is only read (of the reference) -/
structure RV (w : World) (r : Nat) (W : Nat) (L : List Nd) : Prop where
  low : r < w.heap.size
  c0 : w.cell? ⟨r, 0, none⟩ = some (.int .i64 W)
  nodes : ∃ a cap, w.cell? ⟨r, 2, none⟩ = some (.slice a L.length cap) ∧ ∀ i, i < L.length → ∃ b ha hc, a = some ⟨b, 0, none⟩ ∧ b < w.heap.size ∧ w.cell? ⟨b, i * 3, none⟩ = some (.int .u8 ((L.getD i default).op : Int)) ∧ w.cell? ⟨b, i * 3 + 1, none⟩ = some (.int .u64 ((L.getD i default).num : Int)) ∧
    w.cell? ⟨b, i * 3 + 2, none⟩ = some (.slice ha (L.getD i default).args.length hc) ∧ (Lay.int .i64).At 0 w ha (intsN (L.getD i default).args) ∧ (ha = none → hc = 0)
  ok : GOk W L
theorem RG.rv {w : World} {B : Nat} {A : Nat → Prop} {r : Nat} {nv : Value} {W : Nat} {L : List Nd} (h : RG w B A r nv W L) : RV w r W L := by
  obtain ⟨a, cap, rfl, _, _⟩ := h.slice
  obtain ⟨xs, hown, hxs⟩ := h.nds
  refine ⟨(h.lo r (.inl rfl)).2, by simp [World.cell?, h.blk], ⟨a, cap, by simp [World.cell?, h.blk], fun i hi => ?_⟩, h.ok⟩
  obtain ⟨b, cb, ha, hc, hv, hb, _, y0, y1, y2, hat, hq1, hq2⟩ := nds_cells hown hxs hi
  injection hv with hv _ _
  exact ⟨b, ha, hc, hv, hb, y0, y1, y2, hat, by first | exact hq2 | exact hq1⟩
theorem RV.below {w w' : World} {r W : Nat} {L : List Nd} (h : RV w r W L) (hb : Below w.heap.size w w') : RV w' r W L := by
  obtain ⟨a, cap, h1, h2⟩ := h.nodes
  refine ⟨Nat.lt_of_lt_of_le h.low hb.size, (hb.cell (p := ⟨r, 0, none⟩) h.low).trans h.c0, ⟨a, cap, (hb.cell (p := ⟨r, 2, none⟩) h.low).trans h1, fun i hi => ?_⟩, h.ok⟩
  obtain ⟨b, ha, hc, e, hlt, y0, y1, y2, hat, hno⟩ := h2 i hi
  exact ⟨b, ha, hc, e, Nat.lt_of_lt_of_le hlt hb.size, (hb.cell (p := ⟨b, i * 3, none⟩) hlt).trans y0, (hb.cell (p := ⟨b, i * 3 + 1, none⟩) hlt).trans y1, (hb.cell (p := ⟨b, i * 3 + 2, none⟩) hlt).trans y2, hat.below hb, hno⟩
def OwnU (w : World) (base : Nat) (v : Value) (l : List Nat) : Prop := (Lay.int .u64).Own 33 w base v (intsN l)
def ValsP (w : World) (W : Nat) (vals : List Nat) (L : List Nd) (e : Ending) (w' : World) : Prop := ∃ v, e = .returned v ∧ OwnU w' w.heap.size v (valuesN W vals L) ∧ Below w.heap.size w w'
theorem intsN_getD (l : List Nat) (i : Nat) : (intsN l).getD i 0 = ((l.getD i 0 : Nat) : Int) := by
  unfold intsN
  rw [List.getD_eq_getElem?_getD, List.getD_eq_getElem?_getD, List.getElem?_map]
  cases l[i]? <;> rfl
theorem intsN_snoc (l : List Nat) (x : Nat) : intsN (l ++ [x]) = intsN l ++ [(x : Int)] := by simp [intsN]
theorem intsN_len (l : List Nat) : (intsN l).length = l.length := by simp [intsN]

set_option maxRecDepth 100000 in
set_option maxHeartbeats 8000000 in
theorem values88 {w : World} {r W : Nat} {L : List Nd} (h : RV w r W L) (h1 : 1 ≤ W) (h2 : W ≤ 64) (hL : L.length ≤ 60) (vals : List Nat) {a : Option Addr} {len cap : Nat} (hlen : vals.length = len) (hvl : len ≤ 100) (hat : (Lay.int .u64).At 0 w a (intsN vals)) (hsm : ∀ v ∈ vals, v < 18446744073709551616) :
    Calls Tryd.prog 88 #[.pointer (some ⟨r, 0, none⟩), .slice a len cap] w (ValsP w W vals L) := by
  subst hlen
  have HR := Lib.hid h
  have HAT := Lib.hid hat
  have HSM := Lib.hid hsm
  clear h hat hsm
  go_enter Tryd.func88, Tryd.ntmps88
  go_wp2_with fail
  go_loopw [5, 6] (fun v i wr => ∃ k : Nat, k ≤ L.length ∧ i = .int .i64 k ∧ Hid (OwnU wr w.heap.size v (valuesN W vals (L.take k))) ∧ Below w.heap.size w wr) (fun _ i _ => L.length - (intOf i).toNat)
  case atStart => exact ⟨0, by omega, rfl, Lib.hid (Lay.Own.nil _ _), Below.refl _ _⟩
  case round =>
    obtain ⟨k, hk, rfl, hown, hbel⟩ := hrel
    have HV := Lib.hid (HR.out.below hbel)
    obtain ⟨na, ncap, cn, hnd⟩ := HV.out.nodes
    have c0 := HV.out.c0
    have hrl := HV.out.low
    have hsz := hbel.size
    have HBEL := Lib.hid hbel
    clear hbel
    by_cases hlk : k < L.length
    · obtain ⟨b, ha, hc, rfl, hbl, y0, y1, y2, hat, _⟩ := hnd k hlk
      have hok := HR.out.ok k hlk
      have HTS : Hid (valuesN W vals (L.take (k + 1)) = valuesN W vals (L.take k) ++ [valN W vals (valuesN W vals (L.take k)) (L.getD k default)]) := Lib.hid (by rw [take_snoc' default L hlk, valuesN_snoc])
      have hVL : (valuesN W vals (L.take k)).length = k := by rw [valuesN_len, List.length_take]; omega
      have hVS : Hid (∀ t, (valuesN W vals (L.take k)).getD t 0 < 2 ^ W) := Lib.hid (valuesN_lt vals h1 (fun i hi => by
        rw [List.length_take] at hi
        have := HR.out.ok i (by omega)
        rwa [getD_take default L (by omega)]))
      have hki : (k : Int) < L.length := by omega
      have HAT2 := Lib.hid hat
      have HOK := Lib.hid hok
      clear hnd hat hok
      generalize L.getD k default = n at *
      generalize valuesN W vals (L.take k) = P at *
      obtain ⟨op, num, args⟩ := n
      simp only at y0 y1 y2
      have hOK := HOK.out
      have hop : op ≤ 20 := hOK.1
      have hPl : P.length ≤ 60 := by omega
      have hnum : num < 18446744073709551616 := hOK.2.2.1
      have HOWN : Hid ((Lay.int .u64).Own 33 wr w.heap.size u5 (intsN P)) := Lib.hid hown.out
      have HBA2 : Hid (∀ ob, Below w.heap.size w (wr.alloc ob)) := Lib.hid fun ob => HBEL.out.trans (((Below.refl _ _).alloc (Nat.le_refl _) ob).mono hsz)
      have hbA : Below wr.heap.size wr (wr.alloc (Obj.cells #[Value.int IntKind.u8 op, Value.int IntKind.u64 num, Value.slice ha args.length hc] 147)) := (Below.refl _ _).alloc (Nat.le_refl _) _
      have HBA := Lib.hid hbA
      clear hbA hOK hown
      by_cases ho0 : op = 0
      · subst ho0
        have HVN : Hid (valN W vals P ⟨0, num, args⟩ = num) := Lib.hid rfl
        as_aux_lemma =>
          go_wp2_with (at_builtin; refine app_lay_new_g Tryd.elemU [(num : Int)] rfl _ _ rfl rfl (Lay.Own.alloc HOWN.out _) rfl (by simp) rfl (by have := intsN_len P; show (intsN P).length + 1 ≤ 1000000; omega) (by simp; omega) ?_)
          intro v' w5 r1 r2
          have HO5 := Lib.hid r1
          have HB5 : Hid (Below w.heap.size w w5) := Lib.hid ((HBA2.out _).trans r2)
          clear r1 r2
          go_wp2_with fail
          go_roundw
          case rel => exact ⟨k + 1, by omega, by go_num, Lib.hid (by rw [HTS.out, HVN.out]; unfold OwnU; rw [intsN_snoc]; exact HO5.out), HB5.out⟩
          case measure => simp [intOf]; omega
      · by_cases ho1 : op = 1
        · subst ho1
          by_cases hnv : num < vals.length
          · have HVN : Hid (valN W vals P ⟨1, num, args⟩ = vals.getD num 0 % 2 ^ W) := Lib.hid (by unfold valN; rw [if_neg (by simp), if_pos rfl, if_pos hnv])
            obtain ⟨vb, vo, rfl, hvb, hv0⟩ := HAT.out.int (i := num) (by rw [intsN_len]; exact hnv)
            rw [intsN_getD] at hv0
            have hvs : vals.getD num 0 < 18446744073709551616 := HSM.out _ (by rw [List.getD_eq_getElem?_getD, List.getElem?_eq_getElem hnv]; exact List.getElem_mem hnv)
            have HM := Lib.hid (fun W' => mask71 W W' h1 h2)
            have HT : bits .and .u64 ((vals.getD num 0 : Nat) : Int) ((2 ^ W - 1 : Nat) : Int) = ((vals.getD num 0 % 2 ^ W : Nat) : Int) := trim_raw h2 hvs
            have hni : (num : Int) < vals.length := by omega
            have hv1 := (HBEL.out.cell (p := ⟨vb, vo + num, none⟩) hvb).trans hv0
            have hvbr : vb < wr.heap.size := by omega
            clear hv0
            generalize vals.getD num 0 = x at *
            generalize x % 2 ^ W = z at *
            go_wp2_with fail
            have x1 : (wr.alloc (Obj.cells #[Value.int IntKind.u8 1, Value.int IntKind.u64 num, Value.slice ha args.length hc] 147)).cell? ⟨wr.heap.size, 1, none⟩ = some (.int .u64 num) := by rw [World.cell?_alloc_new]; rfl
            have HBA1 := Lib.hid (HBA2.out (Obj.cells #[Value.int IntKind.u8 1, Value.int IntKind.u64 num, Value.slice ha args.length hc] 147))
            have HOA : Hid ((Lay.int .u64).Own 33 (wr.alloc (Obj.cells #[Value.int IntKind.u8 1, Value.int IntKind.u64 num, Value.slice ha args.length hc] 147)) w.heap.size u5 (intsN P)) := Lib.hid (Lay.Own.alloc HOWN.out _)
            have hbA : Below wr.heap.size wr (wr.alloc (Obj.cells #[Value.int IntKind.u8 1, Value.int IntKind.u64 num, Value.slice ha args.length hc] 147)) := (Below.refl _ _).alloc (Nat.le_refl _) _
            have x2 := (hbA.cell (p := ⟨vb, vo + num, none⟩) hvbr).trans hv1
            have x3 := (hbA.cell (p := ⟨r, 0, none⟩) hrl).trans c0
            have hzA : wr.heap.size < (wr.alloc (Obj.cells #[Value.int IntKind.u8 1, Value.int IntKind.u64 num, Value.slice ha args.length hc] 147)).heap.size := by simp
            clear hbA c0 cn hv1 y0 y1 y2
            generalize (wr.alloc (Obj.cells #[Value.int IntKind.u8 1, Value.int IntKind.u64 num, Value.slice ha args.length hc] 147)) = wA at *
            have HS : Hid (∀ w', Below wA.heap.size wA w' → w'.cell? ⟨wr.heap.size, 1, none⟩ = some (.int .u64 num) ∧ w'.cell? ⟨vb, vo + num, none⟩ = some (.int .u64 (x : Int)) ∧ w'.cell? ⟨r, 0, none⟩ = some (.int .i64 W) ∧ Below wA.heap.size wA w') := Lib.hid fun w' hb =>
              ⟨(hb.cell (p := ⟨wr.heap.size, 1, none⟩) hzA).trans x1, (hb.cell (p := ⟨vb, vo + num, none⟩) (by show vb < _; omega)).trans x2, (hb.cell (p := ⟨r, 0, none⟩) (by show r < _; omega)).trans x3, hb⟩
            go_region_held3 (fun w' => w'.cell? ⟨wr.heap.size, 1, none⟩ = some (.int .u64 num) ∧ w'.cell? ⟨vb, vo + num, none⟩ = some (.int .u64 (x : Int)) ∧ w'.cell? ⟨r, 0, none⟩ = some (.int .i64 W) ∧ Below wA.heap.size wA w')
              (first | exact HS.out _ (Below.refl _ _) | exact HS.out _ (Below.refl _ _).drew | exact HS.out _ (‹_ ∧ _ ∧ _ ∧ Below _ _ _›).2.2.2 | exact HS.out _ (‹_ ∧ _ ∧ _ ∧ Below _ _ _›).2.2.2.drew)
              (first
                | (go_at_call 71
                   refine (HM.out _).mono ?_
                   rintro e wB ⟨rfl, rfl⟩))
            all_goals
              as_aux_lemma =>
                have HOB : Hid ((Lay.int .u64).Own 33 wA.drew w.heap.size u5 (intsN P)) := Lib.hid HOA.out
                go_wp2_with (at_builtin; go_loud (refine app_lay_new_g (w := wA.drew) (base := w.heap.size) (ps := intsN P) Tryd.elemU [(z : Int)] rfl _ _ rfl rfl HOB.out rfl (by first | rfl | simp) rfl (by have := intsN_len P; show (intsN P).length + 1 ≤ 1000000; omega) (by exact HBA1.out.drew.size) ?_))
                intro v' w5 r1 r2
                have HO5 := Lib.hid r1
                have HB5 : Hid (Below w.heap.size w w5) := Lib.hid ((by first | exact HBA1.out | exact HBA1.out.drew | exact below_drewN HBA1.out _ : Below w.heap.size w _).trans r2)
                clear r1 r2
                go_wp2_with fail
                go_roundw
                case rel => exact ⟨k + 1, by omega, by go_num, Lib.hid (by rw [HTS.out, HVN.out]; unfold OwnU; rw [intsN_snoc]; exact HO5.out), HB5.out⟩
                case measure => simp [intOf]; omega
          · have HVN : Hid (valN W vals P ⟨1, num, args⟩ = 0) := Lib.hid (by unfold valN; rw [if_neg (by simp), if_pos rfl, if_neg hnv])
            have hni : (vals.length : Int) ≤ num := by omega
            go_wp2_with (at_builtin; refine app_lay_new_g Tryd.elemU [0] rfl _ _ rfl rfl (Lay.Own.alloc HOWN.out _) rfl (by simp) rfl (by have := intsN_len P; show (intsN P).length + 1 ≤ 1000000; omega) (by simp; omega) ?_)
            intro v' w5 r1 r2
            have HO5 := Lib.hid r1
            have HB5 : Hid (Below w.heap.size w w5) := Lib.hid ((HBA2.out _).trans r2)
            clear r1 r2
            go_wp2_with fail
            go_roundw
            case rel => exact ⟨k + 1, by omega, by go_num, Lib.hid (by rw [HTS.out, HVN.out]; unfold OwnU; rw [intsN_snoc]; exact HO5.out), HB5.out⟩
            case measure => simp [intOf]; omega
        · have ho2 : 2 ≤ op := by omega
          have HAP : Hid ((argsOf P ⟨op, num, args⟩).length = args.length) := Lib.hid (by simp [argsOf])
          have HAG : Hid (∀ t, t < args.length → args.getD t 0 < k ∧ (argsOf P ⟨op, num, args⟩).take (t + 1) = (argsOf P ⟨op, num, args⟩).take t ++ [P.getD (args.getD t 0) 0]) := Lib.hid fun t ht => ⟨HOK.out.2.2.2.2.2.2 _ (by rw [List.getD_eq_getElem?_getD, List.getElem?_eq_getElem ht]; exact List.getElem_mem ht), by
            rw [take_snoc' 0 _ (by rw [HAP.out]; exact ht)]
            congr 2
            simp [argsOf, List.getD_eq_getElem?_getD, List.getElem?_eq_getElem ht]⟩
          have HAL : Hid (args.length ≤ 2) := Lib.hid (by rw [HOK.out.2.2.2.2.1]; simp only [arN]; (repeat' split) <;> omega)
          obtain ⟨ao, oc, e5, hato, hoc, _⟩ := HOWN.out.at_
          rw [intsN_len, hVL] at e5 hoc
          subst e5
          have HATO := Lib.hid hato
          clear hato
          go_wp2_with fail
          have hbA : Below wr.heap.size wr (wr.alloc (Obj.cells #[Value.int IntKind.u8 op, Value.int IntKind.u64 num, Value.slice ha args.length hc] 147)) := (Below.refl _ _).alloc (Nat.le_refl _) _
          have x0 : (wr.alloc (Obj.cells #[Value.int IntKind.u8 op, Value.int IntKind.u64 num, Value.slice ha args.length hc] 147)).cell? ⟨wr.heap.size, 0, none⟩ = some (.int .u8 op) := by rw [World.cell?_alloc_new]; rfl
          have x2 : (wr.alloc (Obj.cells #[Value.int IntKind.u8 op, Value.int IntKind.u64 num, Value.slice ha args.length hc] 147)).cell? ⟨wr.heap.size, 2, none⟩ = some (.slice ha args.length hc) := by rw [World.cell?_alloc_new]; rfl
          have x3 := (hbA.cell (p := ⟨r, 0, none⟩) hrl).trans c0
          have HAR : Hid ((Lay.int .i64).At 0 (wr.alloc (Obj.cells #[Value.int IntKind.u8 op, Value.int IntKind.u64 num, Value.slice ha args.length hc] 147)) ha (intsN args)) := Lib.hid (HAT2.out.below hbA)
          have HAO : Hid ((Lay.int .u64).At 0 (wr.alloc (Obj.cells #[Value.int IntKind.u8 op, Value.int IntKind.u64 num, Value.slice ha args.length hc] 147)) ao (intsN P)) := Lib.hid (HATO.out.below hbA)
          have HBA1 := Lib.hid (HBA2.out (Obj.cells #[Value.int IntKind.u8 op, Value.int IntKind.u64 num, Value.slice ha args.length hc] 147))
          have HOA : Hid ((Lay.int .u64).Own 33 (wr.alloc (Obj.cells #[Value.int IntKind.u8 op, Value.int IntKind.u64 num, Value.slice ha args.length hc] 147)) w.heap.size (.slice ao k oc) (intsN P)) := Lib.hid (Lay.Own.alloc HOWN.out _)
          have hzA : wr.heap.size < (wr.alloc (Obj.cells #[Value.int IntKind.u8 op, Value.int IntKind.u64 num, Value.slice ha args.length hc] 147)).heap.size := by simp
          clear hbA c0 cn y0 y1 y2 HAT2 HATO HOWN HBA2 HV HBEL HBA
          generalize (wr.alloc (Obj.cells #[Value.int IntKind.u8 op, Value.int IntKind.u64 num, Value.slice ha args.length hc] 147)) = wA at *
          generalize wr.heap.size = ub at *
          clear wr
          go_loopw [9, 10] (fun v i wi => ∃ t : Nat, t ≤ args.length ∧ i = .int .i64 t ∧ Hid ((Lay.int .u64).Own 33 wi wA.heap.size v (intsN ((argsOf P ⟨op, num, args⟩).take t))) ∧ Below wA.heap.size wA wi) (fun _ i _ => args.length - (intOf i).toNat)
          case atStart => exact ⟨0, by omega, rfl, Lib.hid (Lay.Own.nil _ _), Below.refl _ _⟩
          case round =>
            obtain ⟨t, ht, rfl, hown, hbi⟩ := hrel
            have z0 := (hbi.cell (p := ⟨ub, 0, none⟩) hzA).trans x0
            have z2 := (hbi.cell (p := ⟨ub, 2, none⟩) hzA).trans x2
            have z3 := (hbi.cell (p := ⟨r, 0, none⟩) (by show r < _; omega)).trans x3
            have HOWI := Lib.hid hown.out
            have HBI := Lib.hid hbi
            have hsi := hbi.size
            clear hown hbi
            by_cases hta : t < args.length
            · obtain ⟨haj, hsn⟩ := HAG.out t hta
              have HSN := Lib.hid hsn
              obtain ⟨ib, io, rfl, hib, hi0⟩ := HAR.out.int (i := t) (by rw [intsN_len]; exact hta)
              rw [intsN_getD] at hi0
              obtain ⟨jb, jo, rfl, hjb, hj0⟩ := HAO.out.int (i := args.getD t 0) (by rw [intsN_len, hVL]; exact haj)
              rw [intsN_getD] at hj0
              have i0 := (HBI.out.cell (p := ⟨ib, io + t, none⟩) hib).trans hi0
              have j0 := (HBI.out.cell (p := ⟨jb, jo + args.getD t 0, none⟩) hjb).trans hj0
              have hvs : P.getD (args.getD t 0) 0 < 2 ^ W := hVS.out _
              have HLT : Hid ((intsN ((argsOf P ⟨op, num, args⟩).take t)).length = t) := Lib.hid (by rw [intsN_len, List.length_take, HAP.out]; omega)
              have hti : (t : Int) < args.length := by omega
              have haji : ((args.getD t 0 : Nat) : Int) < k := by omega
              have hA2 := HAL.out
              clear hi0 hj0 hsn
              generalize P.getD (args.getD t 0) 0 = q at *
              generalize args.getD t 0 = aj at *
              have hwrsz : wA.heap.size ≤ wr.heap.size := hsi
              as_aux_lemma =>
                go_wp2_with (at_builtin; refine app_lay_new_g (base := wA.heap.size) Tryd.elemU [(q : Int)] rfl _ _ rfl rfl HOWI.out rfl (by simp) rfl (by rw [HLT.out]; omega) (by exact hwrsz) ?_)
                intro v' w5 r1 r2
                have HO5 := Lib.hid r1
                have HB5 := Lib.hid (HBI.out.trans r2)
                clear r1 r2
                go_wp2_with fail
                go_roundw
                case rel => exact ⟨t + 1, by omega, by go_num, Lib.hid (by rw [HSN.out, intsN_snoc]; exact HO5.out), HB5.out⟩
                case measure => simp [intOf]; omega
            · obtain rfl : t = args.length := by omega
              rw [show (argsOf P ⟨op, num, args⟩).take args.length = argsOf P ⟨op, num, args⟩ by rw [← HAP.out, List.take_length]] at HOWI
              obtain ⟨a9, c9, e9, hat9, _, _⟩ := HOWI.out.at_
              rw [intsN_len, HAP.out] at e9
              have HAT9 := Lib.hid hat9
              have HCALL : Hid (∀ W', Below wr.heap.size wr W' → Calls Tryd.prog 107 #[.int .u8 op, .int .i64 W, .slice a9 args.length c9] W' fun e W'' => e = .returned (.tuple #[.int .u64 (valN W vals P ⟨op, num, args⟩ : Nat), .int .i64 0]) ∧ Below W'.heap.size W' W'') := Lib.hid fun W' hb =>
                apply107 (n := ⟨op, num, args⟩) HOK.out ho2 h1 h2 hVS.out rfl (HAT9.out.below hb)
              have HBI2 := Lib.hid (HBA1.out.trans (HBI.out.mono HBA1.out.size))
              have HOA2 : Hid ((Lay.int .u64).Own 33 wr w.heap.size (.slice ao k oc) (intsN P)) := Lib.hid (HOA.out.grown HBI.out)
              have hwz := HBI2.out.size
              have hz3 : ub < wr.heap.size := by omega
              clear hat9 HAT9 HOWI HAG HAP
              subst e9
              generalize valN W vals P ⟨op, num, args⟩ = z at *
              have HS : Hid (∀ w', Below wr.heap.size wr w' → w'.cell? ⟨ub, 0, none⟩ = some (.int .u8 op) ∧ w'.cell? ⟨r, 0, none⟩ = some (.int .i64 W) ∧ Below wr.heap.size wr w') := Lib.hid fun w' hb =>
                ⟨(hb.cell (p := ⟨ub, 0, none⟩) hz3).trans z0, (hb.cell (p := ⟨r, 0, none⟩) (by show r < _; omega)).trans z3, hb⟩
              go_wp2_with fail
              go_region_held3 (fun w' => w'.cell? ⟨ub, 0, none⟩ = some (.int .u8 op) ∧ w'.cell? ⟨r, 0, none⟩ = some (.int .i64 W) ∧ Below wr.heap.size wr w')
                (first | exact HS.out _ (Below.refl _ _) | exact HS.out _ (Below.refl _ _).drew | exact HS.out _ KB.out | exact HS.out _ KB.out.drew | exact HS.out _ (‹_ ∧ _ ∧ Below _ _ _›).2.2 | exact HS.out _ (‹_ ∧ _ ∧ Below _ _ _›).2.2.drew)
                (first
                  | (go_at_call 107
                     refine (HCALL.out _ (‹_ ∧ _ ∧ Below _ _ _›).2.2).mono ?_
                     rintro e wB ⟨rfl, hB⟩
                     have KB := Lib.hid ((‹_ ∧ _ ∧ Below _ _ _›).2.2.trans (hB.mono (‹_ ∧ _ ∧ Below _ _ _›).2.2.size))))
              all_goals
                as_aux_lemma =>
                  have HO1 : Hid ((Lay.int .u64).Own 33 wB w.heap.size (.slice ao k oc) (intsN P)) := Lib.hid (HOA2.out.grown KB.out)
                  have HO2 : Hid ((Lay.int .u64).Own 33 wB.drew w.heap.size (.slice ao k oc) (intsN P)) := Lib.hid HO1.out
                  have HB1 := Lib.hid (HBI2.out.trans (KB.out.mono hwz))
                  have hzB := HB1.out.size
                  go_wp2_with (at_builtin; first
                    | refine app_lay_new_g (w := wB) (base := w.heap.size) (ps := intsN P) Tryd.elemU [(z : Int)] rfl _ _ rfl rfl HO1.out rfl (by first | rfl | simp) rfl (by have := intsN_len P; show (intsN P).length + 1 ≤ 1000000; omega) (by exact hzB) ?_
                    | refine app_lay_new_g (w := wB.drew) (base := w.heap.size) (ps := intsN P) Tryd.elemU [(z : Int)] rfl _ _ rfl rfl HO2.out rfl (by first | rfl | simp) rfl (by have := intsN_len P; show (intsN P).length + 1 ≤ 1000000; omega) (by exact hzB) ?_)
                  intro v' w5 r1 r2
                  have HO5 := Lib.hid r1
                  have HB5 : Hid (Below w.heap.size w w5) := Lib.hid ((by first | exact HB1.out | exact HB1.out.drew : Below w.heap.size w _).trans r2)
                  clear r1 r2
                  go_wp2_with fail
                  go_roundw
                  case rel => exact ⟨k + 1, by omega, by go_num, Lib.hid (by rw [HTS.out]; unfold OwnU; rw [intsN_snoc]; exact HO5.out), HB5.out⟩
                  case measure => simp [intOf]; omega
    · obtain rfl : k = L.length := by omega
      rw [List.take_length] at hown
      clear hnd
      go_wp2_with fail
      go_ret
      exact ⟨_, rfl, hown.out, HBEL.out⟩
end Go.Proofs.YtjhbabgcoemecaaDoor
