/- Walks: occurs and Vars of the reference. -/
import Derived.Test.YtcckmkidmelbnaaGreatDoorNn
import Derived.Test.YtcckmkidmelbnaaGreatDoorNa
import Derived.Deep.MidRow
import Derived.Laws.OwnMore
import Derived.Maps.AppendAt
import Derived.OwnWalk
namespace Go.Proofs.YtcckmkidmelbnaaGreatDoor
open Go.RowKit

theorem made_rep {α : Type} (L : Lay α) (z : Value) (d : α) (hz : z.cells.toList = L.f d) (hs : z.cells.size = L.sz) (n : Nat) : (madeCells z.cells (n * L.sz)).toList = L.flat (List.replicate n d) := by
  apply List.ext_getElem?
  intro i
  have hp := L.pos
  have hl : (L.flat (List.replicate n d)).length = n * L.sz := by rw [Lay.flat_length, List.length_replicate]
  by_cases hi : i < n * L.sz
  · have h1 : i / L.sz < n := (Nat.div_lt_iff_lt_mul hp).2 hi
    have h2 : i % L.sz < L.sz := Nat.mod_lt _ hp
    have h3 := L.flat_at d (List.replicate n d) (i / L.sz) (i % L.sz) (by rwa [List.length_replicate]) h2
    rw [show i / L.sz * L.sz + i % L.sz = i by rw [Nat.mul_comm]; exact Nat.div_add_mod i L.sz] at h3
    rw [h3, show (List.replicate n d).getD (i / L.sz) d = d by rw [List.getD_eq_getElem?_getD, List.getElem?_replicate]; split <;> rfl, ← hz]
    unfold madeCells
    rw [Array.getElem?_toList, Array.getElem?_toList, Array.getElem?_map, Array.getElem?_range, if_pos hi, hs]
    simp only [Option.map_some]
    rw [getElem!_pos z.cells (i % L.sz) (by rw [hs]; exact h2), Array.getElem?_eq_getElem (by rw [hs]; exact h2)]
  · rw [List.getElem?_eq_none (l := L.flat _) (by rw [hl]; omega), List.getElem?_eq_none (l := (madeCells _ _).toList) (by rw [Array.length_toList, size_madeCells]; omega)]
theorem make_lay {α : Type} {L : Lay α} {P : Program} {t e : TypeId} {z : Value} {bytes : Nat} (T : ElemT P L t e z bytes) (d : α) (hz : z.cells.toList = L.f d) {w : World} {ops : Array Oper} {rest : List Oper} {o : Oper} {a : Act} {Q : Exit → Act → World → Prop} (hg : o.guard = none) (l c : Operand) (hop : o.op = Op.makeSlice t l c)
    (base n : Nat) (x : Int) (hl : a.eval l = .int .i64 x) (hc : a.eval c = .int .i64 x) (hx : x = (n : Int)) (hn : n ≤ 100000) (g : Nat) (hgz : w.heap.size = g) (hb : base ≤ g)
    (hK : ∀ w', L.Own e w' base (.slice (some ⟨g, 0, none⟩) n n) (List.replicate n d) → Below base w w' → wpList P ops Q rest (a.put o.dst (.slice (some ⟨g, 0, none⟩) n n)) w') : wpList P ops Q (o :: rest) a w := by
  subst hgz
  obtain ⟨i0, hi, hz0, hz1, hz2⟩ := info_parts T.info
  have hby := T.by_
  refine wpList_make_full w hg l c t hop base e i0 z L.sz T.und hi hz0 hz1 .i64 .i64 x x n hl hc hx hx (by rw [hz2]; have : bytes * n ≤ 100 * 100000 := Nat.mul_le_mul hby hn; omega) (by unfold maxLen; omega) hb ?_
  intro w' h1 h2
  refine hK w' ?_ ((Below.refl base w).grown h2 hb (fun k hk => by cases hk))
  unfold Lay.Own
  rw [List.length_replicate, ← made_rep L z d hz T.zs n]
  exact h1
section
variable {α : Type} {L : Lay α}
theorem Lay.flat_set (h1 : L.sz = 1) {x : α} {u : Value} (hu : L.f x = [u]) : ∀ (xs : List α) (j : Nat), (L.flat xs).set j u = L.flat (xs.set j x)
  | [], j => rfl
  | y :: ys, j => by
    obtain ⟨y', hy⟩ : ∃ y', L.f y = [y'] := by
      have := L.len y
      rw [h1] at this
      match hf : L.f y, this with
      | [a], _ => exact ⟨a, rfl⟩
    have e : L.flat (y :: ys) = y' :: L.flat ys := by simp [Lay.flat, hy]
    cases j with
    | zero =>
      rw [e]
      show u :: L.flat ys = L.flat (x :: ys)
      simp [Lay.flat, hu]
    | succ j =>
      rw [e]
      show y' :: (L.flat ys).set j u = L.flat (y :: ys.set j x)
      rw [Lay.flat_set h1 hu ys j]
      simp [Lay.flat, hy]
/-- storing an element of one cell -/
theorem Lay.Own.put1 (h1 : L.sz = 1) {e : TypeId} {w : World} {base g n cap : Nat} {xs : List α} (h : L.Own e w base (.slice (some ⟨g, 0, none⟩) n cap) xs) (hn : xs.length = n) {x : α} {u : Value} (hu : L.f x = [u]) (j : Nat) :
    L.Own e (w.setCell ⟨g, j, none⟩ u) base (.slice (some ⟨g, 0, none⟩) n cap) (xs.set j x) ∧ w.grownBy (w.setCell ⟨g, j, none⟩ u) (some g) ∧ w.frozen? ⟨g, j, none⟩ = false := by
  subst hn
  have h' : w.ownsRow base e 1 (.slice (some ⟨g, 0, none⟩) xs.length cap) xs.length (L.flat xs) := by rw [← h1]; exact h
  obtain ⟨s1, s2⟩ := World.ownsRow.stored h' j u
  rw [Lay.flat_set h1 hu] at s1
  refine ⟨?_, s2, World.ownsRow.frozenAt h' j⟩
  unfold Lay.Own
  rw [List.length_set, h1]
  exact s1
end

theorem boolCell {w : World} {base g n cap : Nat} {N : List Bool} (h : Lay.bool.Own 4 w base (.slice (some ⟨g, 0, none⟩) n cap) N) {t : Nat} (ht : t < N.length) : w.cell? ⟨g, t, none⟩ = some (.bool (N.getD t false)) := by
  obtain ⟨a2, c2, e2, hat2, _, _⟩ := h.at_ (d := false)
  injection e2 with e2 _ _
  subst e2
  obtain ⟨b', o', e', _, hc'⟩ := hat2 t ht
  injection e' with e'
  injection e' with e3 e4 _
  subst e3 e4
  have h0 := hc' 0 (by decide)
  simpa [Lay.bool] using h0
theorem wordCell {k : IntKind} {e : TypeId} {w : World} {base g n cap : Nat} {N : List Int} (h : (Lay.int k).Own e w base (.slice (some ⟨g, 0, none⟩) n cap) N) {t : Nat} (ht : t < N.length) : w.cell? ⟨g, t, none⟩ = some (.int k (N.getD t 0)) := by
  obtain ⟨a2, c2, e2, hat2, _, _⟩ := h.at_ (d := 0)
  injection e2 with e2 _ _
  subst e2
  obtain ⟨b', o', e', _, hc'⟩ := hat2 t ht
  injection e' with e'
  injection e' with e3 e4 _
  subst e3 e4
  have h0 := hc' 0 (Lay.int k).pos
  simpa [Lay.int] using h0
theorem Tryz.elemB : ElemT Tryz.prog Lay.bool 26 4 (.bool false) 1 := ⟨Tryz.underlying26, by kernel_rfl, rfl, by decide⟩
def OccsP (w : World) (L : List Nd) (t : Nat) (e : Ending) (w' : World) : Prop := ∃ g N, e = .returned (.tuple #[.slice (some ⟨g, 0, none⟩) L.length L.length, .int .i64 0]) ∧ Lay.bool.Own 4 w' w.heap.size (.slice (some ⟨g, 0, none⟩) L.length L.length) N ∧ N.length = L.length ∧ (∀ j, N.getD j false = true ↔ Occ L t j) ∧ Below w.heap.size w w'
/-- marks in memory -/
structure MkP (w0 w : World) (g n : Nat) (N : List Bool) : Prop where
  own : Lay.bool.Own 4 w g (.slice (some ⟨g, 0, none⟩) n n) N
  len : N.length = n
  bel : Below g w0 w
set_option maxRecDepth 100000 in
set_option maxHeartbeats 8000000 in
theorem occurs69 {w : World} {r W : Nat} {L : List Nd} (h : RV w r W L) (t : Nat) (ht : t < L.length) (hL : L.length ≤ 100) (tb to_ c : Nat) (htb : tb < w.heap.size) (hc : w.cell? ⟨tb, to_, none⟩ = some (.int .i64 (t : Int))) :
    Calls Tryz.prog 69 #[.pointer (some ⟨r, 0, none⟩), .slice (some ⟨tb, to_, none⟩) 1 c] w (OccsP w L t) := by
  have HV := Lib.hid h
  have HLL : Hid (L.length ≤ 100) := Lib.hid hL
  have HT : Hid (t < L.length) := Lib.hid ht
  have HTB := Lib.hid htb
  have HC := Lib.hid hc
  obtain ⟨na, nc, hn2, _⟩ := h.nodes
  have HIB : Hid (isB L.length (t : Int) = true) := Lib.hid (by simp [isB]; omega)
  have HIS : Hid (∀ w', Below w.heap.size w w' → Calls Tryz.prog 106 #[.pointer (some ⟨r, 0, none⟩), .int .i64 t] w' fun e w'' => e = .returned (.bool true) ∧ w' = w'') := Lib.hid fun w' hb => by
    have := is106 r L.length w' ((hb.cell (p := ⟨r, 2, none⟩) h.low).trans hn2) (t : Int)
    rwa [HIB.out] at this
  clear h
  obtain ⟨n, hn⟩ : ∃ n, L.length = n := ⟨_, rfl⟩
  rw [hn] at hn2 hL ht
  have HNL := Lib.hid hn
  have HPOST : Hid (OccsP w L t = fun e w' => ∃ g N, e = .returned (.tuple #[.slice (some ⟨g, 0, none⟩) n n, .int .i64 0]) ∧ Lay.bool.Own 4 w' w.heap.size (.slice (some ⟨g, 0, none⟩) n n) N ∧ N.length = n ∧ (∀ j, N.getD j false = true ↔ Occ L t j) ∧ Below w.heap.size w w') := Lib.hid (by funext e w'; unfold OccsP; rw [hn])
  rw [HPOST.out]
  clear hn
  generalize hg : w.heap.size = g at *
  have HG := Lib.hid hg
  clear hg
  go_enter Tryz.func69, Tryz.ntmps69
  go_wp2_with (refine make_lay Tryz.elemB false rfl rfl _ _ rfl g n _ rfl rfl rfl (by omega) g HG.out (Nat.le_refl _) ?_)
  intro w1 r1 r2
  have HM1 : Hid (MkP w w1 g n (List.replicate n false)) := Lib.hid ⟨r1, by simp, r2⟩
  clear r1 r2
  go_wp2_with fail
  go_loopw [7] (fun i wr => ∃ (k : Nat) (N : List Bool), k ≤ 1 ∧ i = .int .i64 k ∧ Hid (MkP w wr g n N) ∧ Hid (N = if k = 0 then List.replicate n false else (List.replicate n false).set t true)) (fun i _ => 1 - (intOf i).toNat)
  case atStart => exact ⟨0, _, by omega, rfl, HM1, Lib.hid rfl⟩
  case round =>
    clear HM1
    obtain ⟨k, N, hk, rfl, HM, HN⟩ := hrel
    by_cases hk0 : k = 0
    · subst hk0
      have c0 := (HM.out.bel.cell (p := ⟨tb, to_, none⟩) HTB.out).trans HC.out
      have HI := Lib.hid (HIS.out wr (HM.out.bel))
      obtain ⟨o1, o2, hfz⟩ := HM.out.own.put1 rfl HM.out.len (x := true) (u := .bool true) rfl t
      have hcl := boolCell HM.out.own (t := t) (by rw [HM.out.len]; exact ht)
      have HM2 : Hid (MkP w (wr.setCell ⟨g, t, none⟩ (.bool true)) g n (N.set t true)) := Lib.hid ⟨o1, by rw [List.length_set]; exact HM.out.len, HM.out.bel.grown o2 (by have := HM.out.bel.size; have := HG.out; omega) (fun q hq => by injection hq with hq; omega)⟩
      have hti : (t : Int) < n := by omega
      clear o1 o2
      go_wp2_with (go_at_call 106; refine HI.out.mono ?_; rintro e w' ⟨rfl, rfl⟩)
      go_roundw
      case rel => exact ⟨1, _, by omega, by go_num, HM2, Lib.hid (by rw [HN.out]; rfl)⟩
      case measure => simp [intOf]
    · obtain rfl : k = 1 := by omega
      have HST : Hid (MarkI L t N n) := Lib.hid (by
        have := MarkI.start HT.out
        rw [HNL.out] at this
        rw [HN.out]; exact this)
      have hn2' := (HM.out.bel.cell (p := ⟨r, 2, none⟩) (by rw [← HG.out]; exact HV.out.low)).trans hn2
      clear hk0 HN
      go_wp2_with fail
      clear hn2'
      go_loopw [8] (fun i wr => ∃ (s : Int) (k : Nat) (N : List Bool), i = .int .i64 s ∧ Hid (s = (k : Int) - 1) ∧ k ≤ n ∧ Hid (MkP w wr g n N) ∧ Hid (MarkI L t N k)) (fun i _ => (intOf i + 1).toNat)
      case atStart => exact ⟨_, n, N, rfl, Lib.hid (by first | rfl | (simp; done) | (go_num; done) | (simp; omega)), Nat.le_refl _, HM, HST⟩
      case round =>
        clear HM HST
        obtain ⟨s, k, N, rfl, HSK, hk, HM, HK⟩ := hrel
        cases k with
        | zero =>
          have hs : s = -1 := by have := HSK.out; omega
          subst hs
          have HDN := Lib.hid HK.out.done
          go_wp2_with fail
          go_ret2
          exact ⟨g, N, rfl, HM.out.own, HM.out.len, HDN.out, HM.out.bel⟩
        | succ k =>
          have hs : s = (k : Int) := by have := HSK.out; omega
          subst hs
          clear HSK
          have hkn : k < n := by omega
          have hki : (k : Int) < n := by omega
          obtain ⟨args, hargs⟩ : ∃ a, (L.getD k default).args = a := ⟨_, rfl⟩
          have HAR := Lib.hid hargs
          have HAL : Hid (args.length ≤ 3) := Lib.hid (by rw [← hargs]; exact HV.out.ok.argl k)
          have HND : Hid (∀ wr, Below g w wr → ∃ b ha hc, wr.cell? ⟨r, 2, none⟩ = some (.slice (some ⟨b, 0, none⟩) n nc) ∧ wr.cell? ⟨b, k * 3 + 2, none⟩ = some (.slice ha args.length hc) ∧ (Lay.int .i64).At 0 wr ha (intsN args)) := Lib.hid fun wr hb => by
            have hv := HV.out.below (by rw [HG.out]; exact hb)
            obtain ⟨na', nc', e1, hnd⟩ := hv.nodes
            obtain ⟨b, ha, hc, e2, _, _, _, y2, hat, _⟩ := hnd k (by rw [HNL.out]; exact hkn)
            rw [hargs] at y2 hat
            have e3 := (hb.cell (p := ⟨r, 2, none⟩) (by rw [← HG.out]; exact HV.out.low)).trans hn2
            rw [e1] at e3
            injection e3 with e3
            injection e3 with e4 e5 e6
            subst e2 e6
            rw [HNL.out] at e1
            exact ⟨b, ha, hc, e1, y2, hat⟩
          clear hargs
          go_wp2_with fail
          cases hNk : N.getD k false with
          | false =>
            have HSP := Lib.hid (HK.out.skip hNk)
            have HNK := Lib.hid hNk
            clear hNk
            go_loopw [9] (fun i wr => i = .int .i64 0 ∧ Hid (MkP w wr g n N)) (fun i _ => 1)
            case atStart => exact ⟨rfl, HM⟩
            case round =>
              clear HM
              obtain ⟨rfl, HM⟩ := hrel
              obtain ⟨b, ha, hc, x0, x1, _⟩ := HND.out wr HM.out.bel
              have hcl := boolCell HM.out.own (t := k) (by rw [HM.out.len]; exact hkn)
              rw [HNK.out] at hcl
              by_cases hz : args.length = 0
              · rw [hz] at x1
                go_wp2_with fail
                go_roundw
                case rel => exact ⟨(k : Int) - 1, k, N, by go_num, Lib.hid rfl, by omega, HM, HSP⟩
                case measure => simp [intOf] <;> omega
              · obtain ⟨q, hq⟩ : ∃ q, args.length = q + 1 := ⟨args.length - 1, by omega⟩
                rw [hq] at x1
                have HQ := Lib.hid hq
                clear hq hz
                go_wp2_with fail
                go_roundw
                case rel => exact ⟨(k : Int) - 1, k, N, by go_num, Lib.hid rfl, by omega, HM, HSP⟩
                case measure => simp [intOf] <;> omega
          | true =>
            have HEN := Lib.hid (HK.out.enter hNk)
            clear hNk
            go_loopw [9] (fun i wr => ∃ (m : Nat) (N2 : List Bool), m ≤ args.length ∧ i = .int .i64 m ∧ Hid (MkP w wr g n N2) ∧ Hid (MarkJ L t N2 k m)) (fun i _ => args.length - (intOf i).toNat)
            case atStart => exact ⟨0, N, by omega, rfl, HM, HEN⟩
            case round =>
              clear HM HEN HK
              obtain ⟨m, N2, hm, rfl, HM, HJ⟩ := hrel
              obtain ⟨b, ha, hc, x0, x1, x2⟩ := HND.out wr HM.out.bel
              have hcl := boolCell HM.out.own (t := k) (by rw [HM.out.len]; exact hkn)
              rw [HJ.out.here] at hcl
              have ha3 := HAL.out
              by_cases hma : m < args.length
              · obtain ⟨ib, io, rfl, hib, i0⟩ := x2.int (i := m) (by rw [intsN_len]; exact hma)
                rw [intsN_getD] at i0
                have HMK := Lib.hid (HJ.out.mark HV.out.ok (by rw [HAR.out]; exact hma))
                rw [HAR.out] at HMK
                have hyl : args.getD m 0 < n := by
                  have := (HV.out.ok.arg (i := k) (a := args.getD m 0) (by rw [HAR.out]; exact getD_mem 0 args m hma)).1
                  omega
                generalize args.getD m 0 = y at *
                obtain ⟨o1, o2, hfz⟩ := HM.out.own.put1 rfl HM.out.len (x := true) (u := .bool true) rfl y
                have hcy := boolCell HM.out.own (t := y) (by rw [HM.out.len]; exact hyl)
                have HM2 : Hid (MkP w (wr.setCell ⟨g, y, none⟩ (.bool true)) g n (N2.set y true)) := Lib.hid ⟨o1, by rw [List.length_set]; exact HM.out.len, HM.out.bel.grown o2 (by have := HM.out.bel.size; have := HG.out; omega) (fun q hq => by injection hq with hq; omega)⟩
                have hmi : (m : Int) < args.length := by omega
                have hyi : (y : Int) < n := by omega
                clear o1 o2
                go_wp2_with fail
                go_roundw
                case rel => exact ⟨m + 1, _, by omega, by go_num, HM2, HMK⟩
                case measure => simp [intOf] <;> omega
              · obtain rfl : m = args.length := by omega
                have HDJ : Hid (MarkI L t N2 k) := Lib.hid (by
                  have := HJ.out
                  rw [← HAR.out] at this
                  exact this.done)
                go_wp2_with fail
                go_roundw
                case rel => exact ⟨(k : Int) - 1, k, N2, by go_num, Lib.hid rfl, by omega, HM, HDJ⟩
                case measure => simp [intOf] <;> omega
end Go.Proofs.YtcckmkidmelbnaaGreatDoor
