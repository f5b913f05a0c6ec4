/- Walks: new graphs; applications in the code's graph. -/
import Derived.Test.YtjhbabgcoemecaaDoorGd
namespace Go.Proofs.YtjhbabgcoemecaaDoor
open Go.RowKit

def NewP (w : World) (B W : Nat) (e : Ending) (w' : World) : Prop :=
  ∃ g mb, e = .returned (.tuple #[.pointer (some ⟨g, 0, none⟩), .int .i64 0]) ∧ PG w' B noB g mb (.slice none 0 0) W [] ∧ Below w.heap.size w w' ∧ w.heap.size ≤ g ∧ w.heap.size ≤ mb
def NewR (w : World) (B W : Nat) (e : Ending) (w' : World) : Prop :=
  ∃ g, e = .returned (.tuple #[.pointer (some ⟨g, 0, none⟩), .int .i64 0]) ∧ RG w' B noB g (.slice none 0 0) W [] ∧ Below w.heap.size w w' ∧ w.heap.size ≤ g
theorem nds_nil (w : World) (B : Nat) (A : Nat → Prop) : ∃ xs, Lay.nd.Own 147 w B (.slice none 0 0) xs ∧ NdsOk w A xs [] := ⟨[], Lay.Own.nil w B, rfl, fun i hi => by simp at hi⟩
theorem pg_new {w' : World} {B g mb W : Nat} (hg : w'.heap[g]? = some (.cells #[.int .i64 W, .int .i64 1000, .slice none 0 0, .map (some mb)] 137 (0, 0))) (hm : w'.heap[mb]? = some (.map #[] 0)) (hB : B ≤ g) (hB2 : B ≤ mb) (hne : g ≠ mb) : PG w' B noB g mb (.slice none 0 0) W [] := by
  have hgl : g < w'.heap.size := (Array.getElem?_eq_some_iff.1 hg).1
  have hml : mb < w'.heap.size := (Array.getElem?_eq_some_iff.1 hm).1
  refine ⟨hg, ⟨⟨#[], 0, hm, rfl⟩⟩, nds_nil _ _ _, GOk.nil W, ?_, ⟨hne, (fun h => by cases h), (fun h => by cases h)⟩, fun k h => h.elim⟩
  rintro k (rfl | e | e)
  · exact ⟨hB, hgl⟩
  · injection e with e; subst e; exact ⟨hB2, hml⟩
  · cases e
theorem rg_new {w' : World} {B g W : Nat} (hg : w'.heap[g]? = some (.cells #[.int .i64 W, .int .i64 1000, .slice none 0 0] 118 (0, 0))) (hB : B ≤ g) : RG w' B noB g (.slice none 0 0) W [] := by
  have hgl : g < w'.heap.size := (Array.getElem?_eq_some_iff.1 hg).1
  refine ⟨hg, nds_nil _ _ _, GOk.nil W, ?_, (fun h => by cases h), fun k h => h.elim⟩
  rintro k (rfl | e | e)
  · exact ⟨hB, hgl⟩
  · cases e
  · cases e
set_option maxHeartbeats 1000000 in
theorem new39 (w : World) (B W : Nat) (hB : B ≤ w.heap.size) (h1 : 1 ≤ W) (h2 : W ≤ 64) : Calls Tryd.prog 39 #[.int .i64 W, .int .i64 1000] w (NewP w B W) := by
  have HC := Lib.hid (check64_ok W w h1 h2)
  have hmm := @run_makeMap Tryd.prog
  go_enter Tryd.func39, Tryd.ntmps39
  go_wp2_with (first | (go_at_call 64; refine HC.out.mono ?_; rintro e W' ⟨rfl, rfl⟩))
  go_ret2
  exact ⟨w.heap.size + 1, w.heap.size, rfl, pg_new (by simpa using heap_alloc_new (w.alloc (Obj.map #[] 0)) (Obj.cells #[Value.int IntKind.i64 W, Value.int IntKind.i64 1000, Value.slice none 0 0, Value.map (some w.heap.size)] 137)) ((Below.heap_alloc _ _ _ (by simp)).trans (heap_alloc_new _ _)) (by omega) hB (by omega), ((Below.refl _ _).alloc (Nat.le_refl _) _).alloc (by simp) _, by omega, Nat.le_refl _⟩
theorem new39_bad (w : World) (W : Int) (h : W < 1 ∨ 64 < W) : Calls Tryd.prog 39 #[.int .i64 W, .int .i64 1000] w fun e w' => e = .returned (.tuple #[.pointer none, .int .i64 3]) ∧ w = w' := by
  have HC := Lib.hid (check64_bad W w h)
  clear h
  go_enter Tryd.func39, Tryd.ntmps39
  go_wp2_with (first | (go_at_call 64; refine HC.out.mono ?_; rintro e W' ⟨rfl, rfl⟩))
  go_ret2
  exact ⟨rfl, rfl⟩
theorem new49 (w : World) (B W : Nat) (hB : B ≤ w.heap.size) (h1 : 1 ≤ W) (h2 : W ≤ 64) : Calls Tryd.prog 49 #[.int .i64 W, .int .i64 1000] w (NewR w B W) := by
  have d1 : decide ((W : Int) < 1) = false := by simp; omega
  have d2 : decide (64 < (W : Int)) = false := by simp; omega
  go_enter Tryd.func49, Tryd.ntmps49
  go_wp2_with fail
  go_ret2
  exact ⟨_, rfl, rg_new (by first | exact heap_alloc_new _ _) hB, (Below.refl _ _).alloc (Nat.le_refl _) _, Nat.le_refl _⟩
theorem new49_bad (w : World) (W : Int) (h : W < 1 ∨ 64 < W) : Calls Tryd.prog 49 #[.int .i64 W, .int .i64 1000] w fun e w' => e = .returned (.tuple #[.pointer none, .int .i64 3]) ∧ w = w' := by
  by_cases a0 : W < 1
  · clear h
    go_enter Tryd.func49, Tryd.ntmps49
    go_wp2_with fail
    go_ret2
    exact ⟨rfl, rfl⟩
  · have a1 : 64 < W := by omega
    clear h
    go_enter Tryd.func49, Tryd.ntmps49
    go_wp2_with fail
    go_ret2
    exact ⟨rfl, rfl⟩

/-- an application: the arguments are copied to a block of the call's own -/
def AppPost (w : World) (B : Nat) (A : Nat → Prop) (gb mb : Nat) (nv : Value) (W : Nat) (L : List Nd) (n : Nd) (e : Ending) (w' : World) : Prop :=
  ∃ A', (∀ k, A' k → w.heap.size ≤ k) ∧ AskPost w B A A' gb mb nv W L n e w'
theorem AskPost.lift {w w2 w' : World} {B : Nat} {A A' : Nat → Prop} {gb mb : Nat} {nv : Value} {W : Nat} {L : List Nd} {n : Nd} {e : Ending} (hb : Below w.heap.size w w2) (h : AskPost w2 B A A' gb mb nv W L n e w') : AskPost w B A A' gb mb nv W L n e w' := by
  obtain ⟨nv', h1, h2, h3, h4⟩ := h
  exact ⟨nv', h1, h2, (Mut.of_below hb).trans h3, h4.elim .inl fun ⟨k, e1, e2⟩ => .inr ⟨k, e1, Nat.le_trans hb.size e2⟩⟩
/-- a list that was copied, as a header -/
theorem hd_own {w : World} {base : Nat} {v : Value} {l : List Nat} (h : (Lay.int .i64).Own 3 w base v (intsN l)) : ∃ a cap, v = .slice a l.length cap ∧ HdAt w (fun k => v.ownBlock = some k) (a, l.length, cap) l := by
  have hlt := h.lt
  obtain ⟨a, cap, rfl, hat, _, _⟩ := h.at_ (d := 0)
  refine ⟨a, cap, by simp [intsN], ⟨rfl, hat, fun ad e => ?_, fun e => ?_⟩⟩
  · cases e; rfl
  · rcases h.2 with ⟨hv, _⟩ | ⟨g, c2, cur, hv, _⟩
    · injection hv with _ _ hv
    · cases hv; cases e
theorem nd_app {W i o : Nat} {args : List Nat} (ho2 : o ≤ 20) (hl : args.length = arN o) (ha : ∀ a ∈ args, a < i) : NdOk W i ⟨o, 0, args⟩ := by
  have hp : 0 < 2 ^ W := Nat.two_pow_pos W
  exact ⟨ho2, by show 0 < _; omega, by show 0 < _; decide, fun e => by show 0 < _; exact hp, hl, fun _ => rfl, ha⟩
set_option maxRecDepth 100000 in
set_option maxHeartbeats 4000000 in
theorem app54 {w : World} {B : Nat} {A : Nat → Prop} {gb mb : Nat} {nv : Value} {W : Nat} {L : List Nd} (h : PG w B A gb mb nv W L) (hB : B ≤ w.heap.size) (hL : L.length ≤ 60) (o : Nat) (ho : 2 ≤ o) (ho2 : o ≤ 20) (args : List Nat) (hl : args.length = arN o) (ha : ∀ a ∈ args, a < L.length)
    {a : Option Addr} {cap len : Nat} (hlen : args.length = len) (hat : (Lay.int .i64).At 0 w a (intsN args)) (hnc : a = none → cap = 0) :
    Calls Tryd.prog 54 #[.pointer (some ⟨gb, 0, none⟩), .int .u8 o, .slice a len cap] w (AppPost w B A gb mb nv W L ⟨o, 0, args⟩) := by
  subst hlen
  have hlt := (h.lo gb (.inl rfl)).2
  obtain ⟨na, ncap, rfl, hcl, hcm⟩ := h.slice
  have c2 : w.cell? ⟨gb, 2, none⟩ = some (.slice na L.length ncap) := by simp [World.cell?, h.blk]
  have har : 1 ≤ args.length ∧ args.length ≤ 2 := by
    have : arN o = 1 ∨ arN o = 2 := by unfold arN; (repeat' split) <;> omega
    omega
  have HAR := Lib.hid (arity72 o (by omega) (w := w))
  rw [← hl] at HAR
  have HP := Lib.hid h
  have HAT := Lib.hid hat
  have HND := Lib.hid (nd_app (W := W) ho2 hl ha)
  have HARG := Lib.hid ha
  have dz : ((args.length : Int) == 0) = false := by rw [beq_eq_false_iff_ne]; omega
  obtain ⟨hr1, hr2⟩ := har
  clear h hat hl ha
  go_enter Tryd.func54, Tryd.ntmps54
  go_wp2_with (first | (go_at_call 72; refine HAR.out.mono ?_; rintro e w1 ⟨rfl, hb1⟩))
  have HB1 := Lib.hid hb1
  have hz1 := hb1.size
  have hgl1 : gb < w1.heap.size := by omega
  have c2' : w1.cell? ⟨gb, 2, none⟩ = some (.slice na L.length ncap) := (hb1.cell (p := ⟨gb, 2, none⟩) hlt).trans c2
  clear hb1 c2
  go_loopw [33] (fun i wr => ∃ k : Nat, k ≤ args.length ∧ i = .int .i64 k ∧ Hid (wr = w1)) (fun i _ => args.length - (intOf i).toNat)
  case atStart => exact ⟨0, by omega, rfl, Lib.hid rfl⟩
  case round =>
    obtain ⟨k, hk, rfl, hw⟩ := hrel
    obtain rfl := hw.out.symm
    clear hw
    by_cases hlk : k < args.length
    · obtain ⟨pb, po, rfl, hpb, hp0⟩ := HAT.out.int (i := k) (by simpa [intsN] using hlk)
      have hv : (intsN args).getD k 0 = ((args.getD k 0 : Nat) : Int) := by simp [intsN, List.getD_eq_getElem?_getD, List.getElem?_eq_getElem hlk]
      rw [hv] at hp0
      have hp0' := (HB1.out.cell (p := ⟨pb, po + k, none⟩) hpb).trans hp0
      have hal : args.getD k 0 < L.length := HARG.out _ (by rw [List.getD_eq_getElem?_getD, List.getElem?_eq_getElem hlk]; exact List.getElem_mem hlk)
      have hki : (k : Int) < args.length := by omega
      clear hp0 hv
      generalize args.getD k 0 = x at *
      have hxi : (x : Int) < L.length := by omega
      go_wp2_with fail
      go_roundw
      case rel => exact ⟨k + 1, by omega, by go_num, by first | trivial | exact Lib.hid rfl⟩
      case measure => simp [intOf]; omega
    · obtain rfl : k = args.length := by omega
      have HAT1 := Lib.hid (HAT.out.below HB1.out)
      go_wp2_with (at_builtin; refine app_lay_at Tryd.elemI rfl _ _ rfl rfl (Lay.Own.nil w1 w1.heap.size) rfl hnc (by simp [intsN]) HAT1.out (by simp; omega) (Nat.le_refl _) ?_)
      intro v' w2 ho2' hb2
      replace ho2' : (Lay.int .i64).Own 3 w2 w1.heap.size v' (intsN args) := ho2'
      obtain ⟨a', cap', hv', hhd⟩ := hd_own ho2'
      have hlo : ∀ k, v'.ownBlock = some k → w1.heap.size ≤ k ∧ k < w2.heap.size := fun k e => ho2'.lt k e
      have hbb : Below w.heap.size w w2 := HB1.out.trans (hb2.mono HB1.out.size)
      have HASK := Lib.hid ((ask69 (A' := fun k => v'.ownBlock = some k) (HP.out.below hbb) ⟨o, 0, args⟩ HND.out hhd (fun k e => ⟨by have := (hlo k e).1; omega, (hlo k e).2, fun m => by have := (hlo k e).1; have := (HP.out.lo k m).2; omega⟩) (by have := hbb.size; omega) hL).mono fun e w' p => (show AppPost w B A gb mb (.slice na L.length ncap) W L ⟨o, 0, args⟩ e w' from ⟨_, fun k e => by have := (hlo k e).1; omega, p.lift hbb⟩))
      subst hv'
      clear hhd hlo ho2' hb2 hbb
      go_wp2_with (first | (go_at_call 69; refine HASK.out.mono ?_; rintro e w3 ⟨A', q0, nv', rfl, p1, p2, p3⟩; have H0 := Lib.hid q0; have H1 := Lib.hid p1; have H2 := Lib.hid p2; have H3 := Lib.hid p3; clear q0 p1 p2 p3))
      go_ret2
      exact ⟨A', H0.out, nv', rfl, H1.out, H2.out, H3.out⟩
end Go.Proofs.YtjhbabgcoemecaaDoor
