/- Walks: Len and Width of a graph. -/
import Derived.Test.YtjhbabgcoemecaaDoorVf
import Derived.Deep.MidRow
import Derived.Maps.AppendAt
namespace Go.Proofs.YtjhbabgcoemecaaDoor
open Go.RowKit

theorem len74 {w : World} {r W : Nat} {L : List Nd} (h : RV w r W L) : Calls Tryd.prog 74 #[.pointer (some ⟨r, 0, none⟩)] w fun e w' => e = .returned (.int .i64 L.length) ∧ w = w' := by
  obtain ⟨na, ncap, cn, _⟩ := h.nodes
  clear h
  go_enter Tryd.func74, Tryd.ntmps74
  go_wp2_with fail
  go_ret
  exact ⟨rfl, rfl⟩
theorem width41 {w : World} {r W : Nat} {L : List Nd} (h : RV w r W L) : Calls Tryd.prog 41 #[.pointer (some ⟨r, 0, none⟩)] w fun e w' => e = .returned (.int .i64 W) ∧ w = w' := by
  have c0 := h.c0
  clear h
  go_enter Tryd.func41, Tryd.ntmps41
  go_wp2_with fail
  go_ret
  exact ⟨rfl, rfl⟩

/-- the greatest of some terms, -1 if there is none -/
def lastT (l : List Int) : Int := l.foldl max (-1)
theorem lastT_snoc (l : List Int) (x : Int) : lastT (l ++ [x]) = max (lastT l) x := by simp [lastT]
theorem lastT_ge (l : List Int) : -1 ≤ lastT l := by
  rw [← List.reverse_reverse l]
  induction l.reverse with
  | nil => simp [lastT]
  | cons x l ih => rw [List.reverse_cons, lastT_snoc]; omega
theorem lastT_le (l : List Int) : ∀ t ∈ l, t ≤ lastT l := by
  rw [← List.reverse_reverse l]
  induction l.reverse with
  | nil => simp
  | cons x l ih =>
    rw [List.reverse_cons, lastT_snoc]
    intro t ht
    rw [List.mem_append] at ht
    rcases ht with ht | ht
    · have := ih t ht; omega
    · simp at ht; omega
theorem lastT_lt (l : List Int) (n : Nat) : (∀ t ∈ l, t < n) → lastT l < n := by
  rw [← List.reverse_reverse l]
  induction l.reverse with
  | nil => intro _; simp [lastT]; omega
  | cons x l ih =>
    rw [List.reverse_cons, lastT_snoc]
    intro h
    have h1 := ih fun t ht => h t (List.mem_append_left _ ht)
    have h2 := h x (by simp)
    omega
end Go.Proofs.YtjhbabgcoemecaaDoor
namespace Go.Proofs.YtjhbabgcoemecaaDoor
open Go.RowKit

set_option maxRecDepth 100000 in
set_option maxHeartbeats 8000000 in
theorem all56_bad {w : World} {r W : Nat} {L : List Nd} (h : RV w r W L) (ts : List Int) {a b : Option Addr} {m c l d : Nat} (hm : ts.length = m) (hm2 : m ≤ 1000) (hat : (Lay.int .i64).At 0 w a ts) (hbad : ¬ ∀ t ∈ ts, inG L.length t = true) :
    Calls Tryd.prog 56 #[.pointer (some ⟨r, 0, none⟩), .slice a m c, .slice b l d] w fun e w' => e = .returned (.tuple #[.slice none 0 0, .int .i64 3]) ∧ Below w.heap.size w w' := by
  subst hm
  have HA := Lib.hid hat
  have HBAD := Lib.hid hbad
  have HBA : Hid (Below w.heap.size w (w.alloc (.cells #[.slice b l d] 48))) := Lib.hid ((Below.refl _ _).alloc (Nat.le_refl _) _)
  have HLEN := Lib.hid (len74 (h.below HBA.out))
  have HTK : Hid (∀ k, k < ts.length → lastT (ts.take (k + 1)) = max (lastT (ts.take k)) (ts.getD k 0)) := Lib.hid fun k hk => by rw [take_snoc' 0 ts hk, lastT_snoc]
  clear hat hbad h
  go_enter Tryd.func56, Tryd.ntmps56
  go_wp2_with fail
  go_loopw [8, 29] (fun v i wr => ∃ k : Nat, k ≤ ts.length ∧ i = .int .i64 k ∧ v = .int .i64 (lastT (ts.take k)) ∧ (∀ j, j < k → inG L.length (ts.getD j 0) = true) ∧ Hid (wr = w.alloc (.cells #[.slice b l d] 48))) (fun _ i _ => ts.length - (intOf i).toNat)
  case atStart => exact ⟨0, by omega, rfl, rfl, fun j hj => absurd hj (by omega), Lib.hid rfl⟩
  case round =>
    obtain ⟨k, hk, rfl, rfl, hall, hw⟩ := hrel
    obtain rfl := hw.out.symm
    by_cases hlk : k < ts.length
    · obtain ⟨ib, io, rfl, hib, hi0⟩ := HA.out.int (i := k) hlk
      have i0 := (HBA.out.cell (p := ⟨ib, io + k, none⟩) hib).trans hi0
      have HT := Lib.hid (HTK.out k hlk)
      have hki : (k : Int) < ts.length := by omega
      have HALL := Lib.hid hall
      have HIN : Hid (inG L.length (ts.getD k 0) = (decide (0 ≤ ts.getD k 0) && decide (ts.getD k 0 < L.length))) := Lib.hid rfl
      clear hi0 hall
      generalize hx : ts.getD k 0 = x at *
      by_cases h0 : x < 0
      · go_wp2_with fail
        go_ret2
        exact ⟨rfl, HBA.out⟩
      · by_cases hn : x < L.length
        · have d1 : decide ((L.length : Int) ≤ x) = false := decide_eq_false (by omega)
          go_wp2_with (first
            | (go_at_call 74
               refine HLEN.out.mono ?_
               rintro e wB ⟨rfl, rfl⟩))
          go_roundw
          case rel => exact ⟨k + 1, by omega, by go_num, by rw [HT.out]; congr 1; split <;> omega, fun j hj => by
            by_cases e : j = k
            · subst e; rw [hx, HIN.out]; simp; omega
            · exact HALL.out j (by omega), by first | exact Lib.hid rfl | exact Lib.hid trivial⟩
          case measure => simp [intOf]; omega
        · have hn2 : (L.length : Int) ≤ x := by omega
          go_wp2_with (first
            | (go_at_call 74
               refine HLEN.out.mono ?_
               rintro e wB ⟨rfl, rfl⟩))
          go_ret2
          exact ⟨rfl, HBA.out⟩
    · exfalso
      refine HBAD.out fun t ht => ?_
      obtain ⟨j, hj, rfl⟩ := List.mem_iff_getElem.1 ht
      have := hall j (by omega)
      rwa [List.getD_eq_getElem?_getD, List.getElem?_eq_getElem hj] at this
end Go.Proofs.YtjhbabgcoemecaaDoor
namespace Go.Proofs.YtjhbabgcoemecaaDoor
open Go.RowKit
section
variable {α : Type} {L : Lay α}
theorem Lay.flat_set (h1 : L.sz = 1) {x : α} {u : Value} (hu : L.f x = [u]) : ∀ (xs : List α) (j : Nat), (L.flat xs).set j u = L.flat (xs.set j x)
  | [], j => rfl
  | y :: ys, j => by
    obtain ⟨y', hy⟩ : ∃ y', L.f y = [y'] := by
      have := L.len y
      rw [h1] at this
      match hf : L.f y, this with
      | [a], _ => exact ⟨a, rfl⟩
    have e : L.flat (y :: ys) = y' :: L.flat ys := by simp [Lay.flat, hy]
    cases j with
    | zero =>
      rw [e]
      show u :: L.flat ys = L.flat (x :: ys)
      simp [Lay.flat, hu]
    | succ j =>
      rw [e]
      show y' :: (L.flat ys).set j u = L.flat (y :: ys.set j x)
      rw [Lay.flat_set h1 hu ys j]
      simp [Lay.flat, hy]
/-- storing an element of one cell -/
theorem Lay.Own.put1 (h1 : L.sz = 1) {e : TypeId} {w : World} {base g n cap : Nat} {xs : List α} (h : L.Own e w base (.slice (some ⟨g, 0, none⟩) n cap) xs) (hn : xs.length = n) {x : α} {u : Value} (hu : L.f x = [u]) (j : Nat) :
    L.Own e (w.setCell ⟨g, j, none⟩ u) base (.slice (some ⟨g, 0, none⟩) n cap) (xs.set j x) ∧ w.grownBy (w.setCell ⟨g, j, none⟩ u) (some g) ∧ w.frozen? ⟨g, j, none⟩ = false := by
  subst hn
  have h' : w.ownsRow base e 1 (.slice (some ⟨g, 0, none⟩) xs.length cap) xs.length (L.flat xs) := by rw [← h1]; exact h
  obtain ⟨s1, s2⟩ := World.ownsRow.stored h' j u
  rw [Lay.flat_set h1 hu] at s1
  refine ⟨?_, s2, World.ownsRow.frozenAt h' j⟩
  unfold Lay.Own
  rw [List.length_set, h1]
  exact s1
end

theorem getD_set_same {α : Type} (d x : α) (xs : List α) (i : Nat) (h : i < xs.length) : (xs.set i x).getD i d = x := by
  rw [List.getD_eq_getElem?_getD, List.getElem?_set_self h]; rfl
theorem getD_set_ne {α : Type} (d x : α) (xs : List α) (i j : Nat) (h : i ≠ j) : (xs.set i x).getD j d = xs.getD j d := by
  rw [List.getD_eq_getElem?_getD, List.getElem?_set_ne h, List.getD_eq_getElem?_getD]
end Go.Proofs.YtjhbabgcoemecaaDoor
namespace Go.Proofs.YtjhbabgcoemecaaDoor
open Go.RowKit

theorem nd_set3 (x : NdH) : ∀ (xs : List NdH) (t : Nat), (((Lay.nd.flat xs).set (t * 3) (.int .u8 (x.1 : Int))).set (t * 3 + 1) (.int .u64 (x.2.1 : Int))).set (t * 3 + 2) (.slice x.2.2.1 x.2.2.2.1 x.2.2.2.2) = Lay.nd.flat (xs.set t x)
  | [], t => by simp [Lay.flat]
  | y :: ys, 0 => by simp [Lay.flat, Lay.nd]
  | y :: ys, t + 1 => by
    have h := nd_set3 x ys t
    have e : ∀ zs : List NdH, Lay.nd.flat (y :: zs) = .int .u8 (y.1 : Int) :: .int .u64 (y.2.1 : Int) :: .slice y.2.2.1 y.2.2.2.1 y.2.2.2.2 :: Lay.nd.flat zs := fun zs => by simp [Lay.flat, Lay.nd]
    rw [List.set_cons_succ, e, e, ← h, show (t + 1) * 3 = t * 3 + 1 + 1 + 1 by omega]
    simp only [List.set_cons_succ, show t * 3 + 1 + 1 + 1 + 1 = (t * 3 + 1) + 1 + 1 + 1 by omega, show t * 3 + 1 + 1 + 1 + 2 = (t * 3 + 2) + 1 + 1 + 1 by omega]

theorem At.keep {α : Type} {L : Lay α} {d : α} {w w' : World} {a : Option Addr} {xs : List α} (h : L.At d w a xs) (hs : w.heap.size ≤ w'.heap.size) (hk : ∀ ad, a = some ad → ad.block < w.heap.size → w'.heap[ad.block]? = w.heap[ad.block]?) : L.At d w' a xs := fun i hi => by
  obtain ⟨b, o, e, h0, h1⟩ := h i hi
  exact ⟨b, o, e, Nat.lt_of_lt_of_le h0 hs, fun j hj => (World.cell?_of_block (a := ⟨b, o + i * L.sz + j, none⟩) (hk ⟨b, o, none⟩ e h0)).trans (h1 j hj)⟩

theorem Own.put3 {w : World} {base g n cap : Nat} {xs : List NdH} (h : Lay.nd.Own 147 w base (.slice (some ⟨g, 0, none⟩) n cap) xs) (hn : xs.length = n) (x : NdH) (t : Nat) (ht : t < n) :
    Lay.nd.Own 147 (((w.setCell ⟨g, t * 3, none⟩ (.int .u8 (x.1 : Int))).setCell ⟨g, t * 3 + 1, none⟩ (.int .u64 (x.2.1 : Int))).setCell ⟨g, t * 3 + 2, none⟩ (.slice x.2.2.1 x.2.2.2.1 x.2.2.2.2)) base (.slice (some ⟨g, 0, none⟩) n cap) (xs.set t x) ∧
      (∀ j, j < 3 → ∃ u, w.cell? ⟨g, t * 3 + j, none⟩ = some u ∧ w.frozen? ⟨g, t * 3 + j, none⟩ = false) := by
  subst hn
  have h' : w.ownsRow base 147 3 (.slice (some ⟨g, 0, none⟩) xs.length cap) xs.length (Lay.nd.flat xs) := h
  have s1 := (World.ownsRow.stored h' (t * 3) (.int .u8 (x.1 : Int))).1
  have s2 := (World.ownsRow.stored s1 (t * 3 + 1) (.int .u64 (x.2.1 : Int))).1
  have s3 := (World.ownsRow.stored s2 (t * 3 + 2) (.slice x.2.2.1 x.2.2.2.1 x.2.2.2.2)).1
  rw [nd_set3] at s3
  refine ⟨by unfold Lay.Own; rw [List.length_set]; exact s3, fun j hj => ?_⟩
  have hl : t * 3 + j < (Lay.nd.flat xs).length := by rw [Lay.flat_length]; show _ < xs.length * 3; omega
  exact ⟨(Lay.nd.flat xs)[t * 3 + j], (World.ownsRow.cellAt h' (t * 3 + j) (by omega)).trans (List.getElem?_eq_getElem hl), World.ownsRow.frozenAt h' (t * 3 + j)⟩
end Go.Proofs.YtjhbabgcoemecaaDoor
namespace Go.Proofs.YtjhbabgcoemecaaDoor
open Go.RowKit

abbrev nd0 : NdH := (0, 0, (none, 0, 0))
def HeadAt (w : World) (nb : Nat) (h : NdH) (n : Nd) : Prop := h.1 = n.op ∧ h.2.1 = n.num ∧ h.2.2.2.1 = n.args.length ∧ (Lay.int .i64).At 0 w h.2.2.1 (intsN n.args) ∧ ∀ ad, h.2.2.1 = some ad → nb < ad.block
theorem HeadAt.keep {w w' : World} {nb : Nat} {h : NdH} {n : Nd} (hh : HeadAt w nb h n) (hs : w.heap.size ≤ w'.heap.size) (hk : ∀ k, nb < k → k < w.heap.size → w'.heap[k]? = w.heap[k]?) : HeadAt w' nb h n :=
  ⟨hh.1, hh.2.1, hh.2.2.1, At.keep hh.2.2.2.1 hs fun ad e hl => hk _ (hh.2.2.2.2 ad e) hl, hh.2.2.2.2⟩

/-- what is marked and copied, of the nodes from t on -/
structure NeedP (w : World) (L : List Nd) (ts : List Int) (nb g n t : Nat) (N : List Bool) (NH : List NdH) : Prop where
  len : N.length = n
  hlen : NH.length = n
  own : Lay.bool.Own 4 w nb (.slice (some ⟨nb, 0, none⟩) n n) N
  nds : Lay.nd.Own 147 w g (.slice (some ⟨g, 0, none⟩) n n) NH
  ne : g < nb
  marks : ∀ j, j < ts.length → N.getD (ts.getD j 0).toNat false = true
  closed : ∀ j, t ≤ j → j < n → N.getD j false = true → ∀ a ∈ (L.getD j default).args, N.getD a false = true
  heads : ∀ j, t ≤ j → j < n → N.getD j false = true → HeadAt w nb (NH.getD j nd0) (L.getD j default)
theorem NeedP.below {w w' : World} {L : List Nd} {ts : List Int} {nb g n t : Nat} {N : List Bool} {NH : List NdH} (h : NeedP w L ts nb g n t N NH) (hb : Below w.heap.size w w') : NeedP w' L ts nb g n t N NH :=
  ⟨h.len, h.hlen, h.own.grown hb, h.nds.grown hb, h.ne, h.marks, h.closed, fun j h1 h2 h3 => (h.heads j h1 h2 h3).keep hb.size fun k _ hl => hb.block k hl⟩
/-- not needed: nothing is done -/
theorem NeedP.skip {w : World} {L : List Nd} {ts : List Int} {nb g n t : Nat} {N : List Bool} {NH : List NdH} (h : NeedP w L ts nb g n (t + 1) N NH) (hf : N.getD t false = false) : NeedP w L ts nb g n t N NH :=
  ⟨h.len, h.hlen, h.own, h.nds, h.ne, h.marks, fun j h1 h2 h3 => by
    by_cases e : j = t
    · subst e; rw [hf] at h3; cases h3
    · exact h.closed j (by omega) h2 h3, fun j h1 h2 h3 => by
    by_cases e : j = t
    · subst e; rw [hf] at h3; cases h3
    · exact h.heads j (by omega) h2 h3⟩
/-- needed: its node is copied, its first k arguments are marked -/
structure MarkP (w : World) (L : List Nd) (ts : List Int) (nb g n t k : Nat) (N : List Bool) (NH : List NdH) : Prop where
  len : N.length = n
  hlen : NH.length = n
  own : Lay.bool.Own 4 w nb (.slice (some ⟨nb, 0, none⟩) n n) N
  nds : Lay.nd.Own 147 w g (.slice (some ⟨g, 0, none⟩) n n) NH
  ne : g < nb
  marks : ∀ j, j < ts.length → N.getD (ts.getD j 0).toNat false = true
  closed : ∀ j, t + 1 ≤ j → j < n → N.getD j false = true → ∀ a ∈ (L.getD j default).args, N.getD a false = true
  heads : ∀ j, t ≤ j → j < n → N.getD j false = true → HeadAt w nb (NH.getD j nd0) (L.getD j default)
  first : ∀ i, i < k → N.getD ((L.getD t default).args.getD i 0) false = true
  here : N.getD t false = true
theorem MarkP.done {w : World} {L : List Nd} {ts : List Int} {nb g n t : Nat} {N : List Bool} {NH : List NdH} (h : MarkP w L ts nb g n t (L.getD t default).args.length N NH) : NeedP w L ts nb g n t N NH :=
  ⟨h.len, h.hlen, h.own, h.nds, h.ne, h.marks, fun j h1 h2 h3 => by
    by_cases e : j = t
    · subst e
      intro a ha
      obtain ⟨i, hi, rfl⟩ := List.mem_iff_getElem.1 ha
      have := h.first i hi
      rwa [List.getD_eq_getElem?_getD (l := (L.getD j default).args), List.getElem?_eq_getElem hi] at this
    · exact h.closed j (by omega) h2 h3, h.heads⟩
theorem getD_set_true (N : List Bool) (i j : Nat) (h : N.getD j false = true) : (N.set i true).getD j false = true := by
  by_cases e : i = j
  · subst e
    by_cases hi : i < N.length
    · exact getD_set_same _ _ _ _ hi
    · rw [List.set_eq_of_length_le (by omega)]; exact h
  · rw [getD_set_ne _ _ _ _ _ e]; exact h
/-- an argument below t is marked -/
theorem MarkP.mark {w w' : World} {L : List Nd} {ts : List Int} {nb g n t k : Nat} {N : List Bool} {NH : List NdH} (h : MarkP w L ts nb g n t k N NH) (ht : t < n) {x : Nat} (hx : (L.getD t default).args.getD k 0 = x) (hxt : x < t)
    (ho : Lay.bool.Own 4 w' nb (.slice (some ⟨nb, 0, none⟩) n n) (N.set x true)) (hg : w.grownBy w' (some nb)) : MarkP w' L ts nb g n t (k + 1) (N.set x true) NH := by
  have hne := h.ne
  have hback : ∀ j, t ≤ j → (N.set x true).getD j false = N.getD j false := fun j hj => getD_set_ne _ _ _ _ _ (by omega)
  refine ⟨by rw [List.length_set]; exact h.len, h.hlen, ho, h.nds.keep hg (fun e => by injection e with e; omega), h.ne, fun j hj => getD_set_true _ _ _ (h.marks j hj), fun j h1 h2 h3 a ha => getD_set_true _ _ _ (h.closed j h1 h2 (by rwa [hback j (by omega)] at h3) a ha), fun j h1 h2 h3 => (h.heads j h1 h2 (by rwa [hback j h1] at h3)).keep hg.size fun k hk hl => hg.block k hl (fun e => by injection e with e; omega), fun i hi => ?_, getD_set_true _ _ _ h.here⟩
  · by_cases e : i = k
    · subst e; rw [hx]; exact getD_set_same _ _ _ _ (by rw [h.len]; omega)
    · exact getD_set_true _ _ _ (h.first i (by omega))
/-- the node is copied -/
theorem NeedP.copy {w w' : World} {L : List Nd} {ts : List Int} {nb g n t : Nat} {N : List Bool} {NH : List NdH} (h : NeedP w L ts nb g n (t + 1) N NH) (ht : t < n) (hN : N.getD t false = true) {x : NdH} (hx : HeadAt w nb x (L.getD t default))
    (ho : Lay.nd.Own 147 w' g (.slice (some ⟨g, 0, none⟩) n n) (NH.set t x)) (hg : w.grownBy w' (some g)) : MarkP w' L ts nb g n t 0 N (NH.set t x) := by
  have hne := h.ne
  refine ⟨h.len, by rw [List.length_set]; exact h.hlen, h.own.keep hg (fun e => by injection e with e; omega), ho, h.ne, h.marks, h.closed, fun j h1 h2 h3 => ?_, fun i hi => absurd hi (by omega), hN⟩
  by_cases e : t = j
  · subst e
    rw [getD_set_same _ _ _ _ (by rw [h.hlen]; exact ht)]
    exact hx.keep hg.size fun k hk hl => hg.block k hl (fun e => by injection e with e; omega)
  · rw [getD_set_ne _ _ _ _ _ e]
    exact (h.heads j (by omega) h2 h3).keep hg.size fun k hk hl => hg.block k hl (fun e => by injection e with e; omega)
end Go.Proofs.YtjhbabgcoemecaaDoor
namespace Go.Proofs.YtjhbabgcoemecaaDoor
open Go.RowKit

theorem Own.put3g {w : World} {base g n cap : Nat} {xs : List NdH} (h : Lay.nd.Own 147 w base (.slice (some ⟨g, 0, none⟩) n cap) xs) (hn : xs.length = n) (x : NdH) (t : Nat) :
    w.grownBy (((w.setCell ⟨g, t * 3, none⟩ (.int .u8 (x.1 : Int))).setCell ⟨g, t * 3 + 1, none⟩ (.int .u64 (x.2.1 : Int))).setCell ⟨g, t * 3 + 2, none⟩ (.slice x.2.2.1 x.2.2.2.1 x.2.2.2.2)) (some g) := by
  subst hn
  have h' : w.ownsRow base 147 3 (.slice (some ⟨g, 0, none⟩) xs.length cap) xs.length (Lay.nd.flat xs) := h
  have s1 := World.ownsRow.stored h' (t * 3) (.int .u8 (x.1 : Int))
  have s2 := World.ownsRow.stored s1.1 (t * 3 + 1) (.int .u64 (x.2.1 : Int))
  have s3 := World.ownsRow.stored s2.1 (t * 3 + 2) (.slice x.2.2.1 x.2.2.2.1 x.2.2.2.2)
  exact (s1.2.trans s2.2).trans s3.2

theorem store_nd {ops : Array Oper} {rest : List Oper} {op : Oper} {a : Act} {w : World} {Q : Exit → Act → World → Prop} (hgd : op.guard = none) (x y : Operand) (ho : op.op = .store 147 x y)
    {base g n cap : Nat} {xs : List NdH} (own : Lay.nd.Own 147 w base (.slice (some ⟨g, 0, none⟩) n cap) xs) (hn : xs.length = n) (h : NdH) (t : Nat) (ht : t < n) (o : Nat) (hot : o = t * 3)
    (hx : a.eval x = .pointer (some ⟨g, o, none⟩)) (hy : a.eval y = .agg #[.int .u8 (h.1 : Int), .int .u64 (h.2.1 : Int), .slice h.2.2.1 h.2.2.2.1 h.2.2.2.2])
    (hK : ∀ w', Lay.nd.Own 147 w' base (.slice (some ⟨g, 0, none⟩) n cap) (xs.set t h) → w.grownBy w' (some g) → wpList Tryd.prog ops Q rest (a.put op.dst undef) w') : wpList Tryd.prog ops Q (op :: rest) a w := by
  subst hot
  obtain ⟨p1, p2⟩ := Own.put3 own hn h t ht
  have p3 := Own.put3g own hn h t
  refine wpList_store_mid hgd 147 x y ho g (t * 3) _ hx hy (fun j hj => ?_) (by kernel_rfl) (all_oneCell_toArray (cs := [_, _, _]) (by intro v hv; simp at hv; rcases hv with rfl | rfl | rfl <;> rfl)) (hK _ p1 p3)
  obtain ⟨u, h1, h2⟩ := p2 j hj
  exact ⟨by rw [h1]; rfl, h2⟩
theorem boolCell {w : World} {base g n cap : Nat} {N : List Bool} (h : Lay.bool.Own 4 w base (.slice (some ⟨g, 0, none⟩) n cap) N) {t : Nat} (ht : t < N.length) : w.cell? ⟨g, t, none⟩ = some (.bool (N.getD t false)) := by
  obtain ⟨a2, c2, e2, hat2, _, _⟩ := h.at_ (d := false)
  injection e2 with e2 _ _
  subst e2
  obtain ⟨b', o', e', _, hc'⟩ := hat2 t ht
  injection e' with e'
  injection e' with e3 e4 _
  subst e3 e4
  have h0 := hc' 0 (by decide)
  simpa [Lay.bool] using h0
theorem wordCell {k : IntKind} {e : TypeId} {w : World} {base g n cap : Nat} {N : List Int} (h : (Lay.int k).Own e w base (.slice (some ⟨g, 0, none⟩) n cap) N) {t : Nat} (ht : t < N.length) : w.cell? ⟨g, t, none⟩ = some (.int k (N.getD t 0)) := by
  obtain ⟨a2, c2, e2, hat2, _, _⟩ := h.at_ (d := 0)
  injection e2 with e2 _ _
  subst e2
  obtain ⟨b', o', e', _, hc'⟩ := hat2 t ht
  injection e' with e'
  injection e' with e3 e4 _
  subst e3 e4
  have h0 := hc' 0 (Lay.int k).pos
  simpa [Lay.int] using h0
theorem ndCells {w : World} {base g n cap : Nat} {N : List NdH} (h : Lay.nd.Own 147 w base (.slice (some ⟨g, 0, none⟩) n cap) N) {t : Nat} (ht : t < N.length) :
    w.cell? ⟨g, t * 3, none⟩ = some (.int .u8 ((N.getD t nd0).1 : Int)) ∧ w.cell? ⟨g, t * 3 + 1, none⟩ = some (.int .u64 ((N.getD t nd0).2.1 : Int)) ∧ w.cell? ⟨g, t * 3 + 2, none⟩ = some (.slice (N.getD t nd0).2.2.1 (N.getD t nd0).2.2.2.1 (N.getD t nd0).2.2.2.2) := by
  obtain ⟨a2, c2, e2, hat2, _, _⟩ := h.at_ (d := nd0)
  injection e2 with e2 _ _
  subst e2
  obtain ⟨b', o', e', _, hc'⟩ := hat2 t ht
  injection e' with e'
  injection e' with e3 e4 _
  subst e3 e4
  have h0 := hc' 0 (by decide)
  have h1 := hc' 1 (by decide)
  have h2 := hc' 2 (by decide)
  refine ⟨?_, ?_, ?_⟩
  · simpa [Lay.nd] using h0
  · simpa [Lay.nd] using h1
  · simpa [Lay.nd] using h2
end Go.Proofs.YtjhbabgcoemecaaDoor
namespace Go.Proofs.YtjhbabgcoemecaaDoor
open Go.RowKit

/-- of the first t nodes those that are needed have their values -/
structure ValP (W : Nat) (vals : List Nat) (L : List Nd) (N : List Bool) (n t : Nat) (U : List Nat) : Prop where
  len : U.length = n
  low : ∀ j, U.getD j 0 < 2 ^ W
  vals : ∀ j, j < t → N.getD j false = true → U.getD j 0 = (valuesN W vals L).getD j 0
theorem ValP.start (W : Nat) (vals : List Nat) (L : List Nd) (N : List Bool) (n : Nat) : ValP W vals L N n 0 (List.replicate n 0) :=
  ⟨List.length_replicate, fun j => by
    rw [show (List.replicate n 0).getD j 0 = 0 by rw [List.getD_eq_getElem?_getD, List.getElem?_replicate]; split <;> rfl]
    exact Nat.pow_pos (by decide), fun j hj => absurd hj (by omega)⟩
theorem ValP.skip {W : Nat} {vals : List Nat} {L : List Nd} {N : List Bool} {n t : Nat} {U : List Nat} (h : ValP W vals L N n t U) (hf : N.getD t false = false) : ValP W vals L N n (t + 1) U :=
  ⟨h.len, h.low, fun j hj hN => by
    by_cases e : j = t
    · subst e; rw [hf] at hN; cases hN
    · exact h.vals j (by omega) hN⟩
theorem ValP.val {W : Nat} {vals : List Nat} {L : List Nd} {N : List Bool} {n t : Nat} {U : List Nat} (h : ValP W vals L N n t U) (hg : GOk W L) (ht : t < L.length) (hcl : ∀ a ∈ (L.getD t default).args, N.getD a false = true) :
    valN W vals U (L.getD t default) = (valuesN W vals L).getD t 0 := by
  rw [valuesN_at W vals L ht]
  have hn := hg t ht
  refine valN_args hn fun a ha => ?_
  have hat := hn.2.2.2.2.2.2 a ha
  rw [getD_take 0 _ hat]
  exact h.vals a hat (hcl a ha)
theorem ValP.next {W : Nat} {vals : List Nat} {L : List Nd} {N : List Bool} {n t : Nat} {U : List Nat} (h : ValP W vals L N n t U) (ht : t < n) {x : Nat} (hx : x = (valuesN W vals L).getD t 0) (hlt : x < 2 ^ W) : ValP W vals L N n (t + 1) (U.set t x) :=
  ⟨by rw [List.length_set]; exact h.len, fun j => by
    by_cases e : t = j
    · subst e; rw [getD_set_same _ _ _ _ (by rw [h.len]; exact ht)]; exact hlt
    · rw [getD_set_ne _ _ _ _ _ e]; exact h.low j, fun j hj hN => by
    by_cases e : t = j
    · subst e; rw [getD_set_same _ _ _ _ (by rw [h.len]; exact ht), hx]
    · rw [getD_set_ne _ _ _ _ _ e]; exact h.vals j (by omega) hN⟩
theorem intsN_set (U : List Nat) (t x : Nat) : intsN (U.set t x) = (intsN U).set t (x : Int) := by simp [intsN, List.map_set]
theorem intsN_rep (n : Nat) : intsN (List.replicate n 0) = List.replicate n 0 := by simp [intsN]
end Go.Proofs.YtjhbabgcoemecaaDoor
namespace Go.Proofs.YtjhbabgcoemecaaDoor
open Go.RowKit

theorem two_boxes' (w : World) (x y : Value) (t u : TypeId) : ((w.alloc (.cells #[x] t)).alloc (.cells #[y] u)).cell? ⟨w.heap.size, 0, none⟩ = some x ∧ ((w.alloc (.cells #[x] t)).alloc (.cells #[y] u)).cell? ⟨w.heap.size + 1, 0, none⟩ = some y := by
  have hz : (w.alloc (.cells #[x] t)).heap.size = w.heap.size + 1 := by simp
  refine ⟨?_, ?_⟩
  · rw [World.cell?_alloc_past _ _ _ (by simp), World.cell?_alloc_new]; rfl
  · have := World.cell?_alloc_new (w.alloc (.cells #[x] t)) #[y] u 0
    rw [hz] at this
    rw [this]; rfl

theorem set_fill (F : List Nat) {k m : Nat} (hm : F.length = m) (hk : k < m) : (F.take k ++ List.replicate (m - k) 0).set k (F.getD k 0) = F.take (k + 1) ++ List.replicate (m - (k + 1)) 0 := by
  rw [take_snoc' 0 F (by omega), show m - k = (m - (k + 1)) + 1 by omega, List.replicate_succ, List.set_append_right _ _ (by rw [List.length_take]; omega), show k - (F.take k).length = 0 by rw [List.length_take]; omega, List.set_cons_zero, List.append_assoc]
  rfl
structure L4R (w3 : World) (W : Nat) (vals : List Nat) (L : List Nd) (N : List Bool) (n t p2 p3 : Nat) (w' : World) : Prop where
  bel : Below w3.heap.size w3 w'
  c2 : w'.cell? ⟨p2, 0, none⟩ = some (.int .i64 W)
  c3 : w'.cell? ⟨p3, 0, none⟩ = some (.slice (some ⟨w3.heap.size, 0, none⟩) n n)
  l2 : p2 < w'.heap.size
  l3 : p3 < w'.heap.size
  n2 : w3.heap.size < p2
  n3 : w3.heap.size < p3
  u : ∃ U, ValP W vals L N n t U ∧ (Lay.int .u64).Own 33 w' w3.heap.size (.slice (some ⟨w3.heap.size, 0, none⟩) n n) (intsN U)
section
variable {w3 w' w'' : World} {W : Nat} {vals : List Nat} {L : List Nd} {N : List Bool} {n t p2 p3 : Nat}
theorem L4R.below (h : L4R w3 W vals L N n t p2 p3 w') (hb : Below w'.heap.size w' w'') : L4R w3 W vals L N n t p2 p3 w'' := by
  obtain ⟨U, h1, h2⟩ := h.u
  exact ⟨h.bel.trans (hb.mono h.bel.size), (hb.cell (p := ⟨p2, 0, none⟩) h.l2).trans h.c2, (hb.cell (p := ⟨p3, 0, none⟩) h.l3).trans h.c3, Nat.lt_of_lt_of_le h.l2 hb.size, Nat.lt_of_lt_of_le h.l3 hb.size, h.n2, h.n3, U, h1, h2.grown hb⟩
theorem L4R.drew (h : L4R w3 W vals L N n t p2 p3 w') : L4R w3 W vals L N n t p2 p3 w'.drew := h.below (Below.refl _ _).drew
theorem L4R.skip (h : L4R w3 W vals L N n t p2 p3 w') (hf : N.getD t false = false) : L4R w3 W vals L N n (t + 1) p2 p3 w' := by
  obtain ⟨U, h1, h2⟩ := h.u
  exact ⟨h.bel, h.c2, h.c3, h.l2, h.l3, h.n2, h.n3, U, h1.skip hf, h2⟩
theorem L4R.back (h : L4R w3 W vals L N n (t + 1) p2 p3 w') : L4R w3 W vals L N n t p2 p3 w' := by
  obtain ⟨U, h1, h2⟩ := h.u
  exact ⟨h.bel, h.c2, h.c3, h.l2, h.l3, h.n2, h.n3, U, ⟨h1.len, h1.low, fun j hj => h1.vals j (by omega)⟩, h2⟩
theorem L4R.store (h : L4R w3 W vals L N n t p2 p3 w') (ht : t < n) {z : Nat} (hz : (valuesN W vals L).getD t 0 = z) (hlt : z < 2 ^ W) : L4R w3 W vals L N n (t + 1) p2 p3 (w'.setCell ⟨w3.heap.size, t, none⟩ (.int .u64 (z : Nat))) := by
  obtain ⟨U, h1, h2⟩ := h.u
  obtain ⟨o1, o2, _⟩ := h2.put1 rfl (by rw [intsN_len]; exact h1.len) (x := (z : Int)) (u := .int .u64 (z : Nat)) rfl t
  have hne2 : (⟨w3.heap.size, t, none⟩ : Addr).block ≠ (⟨p2, 0, none⟩ : Addr).block := by show w3.heap.size ≠ p2; have := h.n2; omega
  have hne3 : (⟨w3.heap.size, t, none⟩ : Addr).block ≠ (⟨p3, 0, none⟩ : Addr).block := by show w3.heap.size ≠ p3; have := h.n3; omega
  have hs := o2.size
  exact ⟨h.bel.grown o2 (Nat.le_of_lt (h2.lt _ rfl).2) (fun q hq => by injection hq with hq; omega), (o2.cell h.c2 (fun e => by injection e with e; exact hne2 e.symm)), (o2.cell h.c3 (fun e => by injection e with e; exact hne3 e.symm)), Nat.lt_of_lt_of_le h.l2 hs, Nat.lt_of_lt_of_le h.l3 hs, h.n2, h.n3, U.set t z, h1.next ht hz.symm hlt, by rw [intsN_set]; exact o1⟩
theorem L4R.cell (h : L4R w3 W vals L N n t p2 p3 w') (ht : t < n) : (∃ u, w'.cell? ⟨w3.heap.size, t, none⟩ = some u) ∧ w'.frozen? ⟨w3.heap.size, t, none⟩ = false := by
  obtain ⟨U, h1, h2⟩ := h.u
  exact ⟨⟨_, wordCell h2 (t := t) (by rw [intsN_len, h1.len]; exact ht)⟩, (h2.put1 rfl (by rw [intsN_len]; exact h1.len) (x := 0) (u := .int .u64 0) rfl t).2.2⟩
/-- the value of a term that is needed -/
theorem L4R.call (h : L4R w3 W vals L N n t p2 p3 w') (h1 : 1 ≤ W) (h2 : W ≤ 64) (hg : GOk W L) (ht : t < L.length) (htn : t < n) {op num : Nat} {args : List Nat} (hn : L.getD t default = ⟨op, num, args⟩) (hcl : ∀ a ∈ args, N.getD a false = true) {ha : Option Addr} {hc : Nat} (hat : (Lay.int .i64).At 0 w3 ha (intsN args))
    {p1 : Nat} (l1 : p1 < w3.heap.size) {av : Option Addr} {lv cv : Nat} (hlv : vals.length = lv) (hv1 : lv ≤ 100) (c1 : w3.cell? ⟨p1, 0, none⟩ = some (.slice av lv cv)) (hav : (Lay.int .u64).At 0 w3 av (intsN vals)) (hsm : ∀ v ∈ vals, v < 18446744073709551616) {z : Nat} (hz : (valuesN W vals L).getD t 0 = z) :
    Calls Tryd.prog 76 #[.agg #[.int .u8 op, .int .u64 num, .slice ha args.length hc], .pointer (some ⟨p1, 0, none⟩), .pointer (some ⟨p2, 0, none⟩), .pointer (some ⟨p3, 0, none⟩)] w' fun e w'' => e = .returned (.int .u64 (z : Nat)) ∧ Below w'.heap.size w' w'' := by
  obtain ⟨U, u1, u2⟩ := h.u
  obtain ⟨au, cu, e9, hatU, _, _⟩ := u2.at_ (d := 0)
  injection e9 with e9 _ _
  subst e9
  have hv := u1.val hg ht (by rw [hn]; exact hcl)
  rw [hn, hz] at hv
  have hok := hg t ht
  rw [hn] at hok
  have hbs := h.bel.size
  have := value76 (w := w') ⟨op, num, args⟩ hok h1 h2 (vals := vals) (U := U) u1.low (by rw [u1.len]; omega) (m := args.length) (hc := hc) rfl (hat.below h.bel) (p1 := p1) (p2 := p2) (p3 := p3) (Nat.lt_of_lt_of_le l1 hbs) h.l2 h.l3 hlv u1.len hv1
    ((h.bel.cell (p := ⟨p1, 0, none⟩) l1).trans c1) h.c2 h.c3 (hav.below h.bel) hatU hsm
  rw [hv] at this
  exact this
end
end Go.Proofs.YtjhbabgcoemecaaDoor
