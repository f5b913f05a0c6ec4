/- Walks: applications in the reference's graph. -/
import Derived.Test.YtjhbabgcoemecaaDoorGe
namespace Go.Proofs.YtjhbabgcoemecaaDoor
open Go.RowKit

def OwnRetI (w : World) (xs : List Int) (e : Ending) (w' : World) : Prop := ∃ v, e = .returned v ∧ (Lay.int .i64).Own 3 w' w.heap.size v xs ∧ Below w.heap.size w w'
set_option maxHeartbeats 400000 in
theorem copyI_any (a : Option Addr) (len cap : Nat) (xs : List Int) (w : World) (hlen : xs.length = len) (hat : (Lay.int .i64).At 0 w a xs) (hsm : len ≤ 100000) :
    Calls Tryd.prog 62 #[.slice a len cap] w (OwnRetI w xs) := by
  have HA := Lib.hid hat
  have HLEN := Lib.hid hlen
  clear hat hlen
  go_enter Tryd.func62, Tryd.ntmps62
  go_wp2_with fail
  go_loopw [3, 4] (fun v i wr => ∃ k : Nat, k ≤ len ∧ i = .int .i64 k ∧ (Lay.int .i64).Own 3 wr w.heap.size v (xs.take k) ∧ Below w.heap.size w wr) (fun _ i _ => len - (intOf i).toNat)
  case atStart => exact ⟨0, by omega, rfl, Lay.Own.nil _ _, Below.refl _ _⟩
  case round =>
    obtain ⟨k, hk, rfl, hown, hbel⟩ := hrel
    have hsz := hbel.size
    by_cases hlt : k < len
    · have hq : k < xs.length := by rw [HLEN.out]; exact hlt
      obtain ⟨pb, po, rfl, hpb, hp0⟩ := HA.out.int hq
      have hp0' := (hbel.cell (p := ⟨pb, po + k, none⟩) hpb).trans hp0
      have Ht := Lib.hid (take_getD 0 xs k hq)
      have hlt2 : (xs.take k).length ≤ 100000 := by rw [List.length_take]; omega
      clear hp0 hq
      generalize xs.getD k 0 = x at *
      go_wp2_with (at_builtin; refine app_lay_new Tryd.elemI [x] rfl _ _ rfl rfl hown rfl rfl (by omega) hsz ?_)
      intro v' w1 r1 r2
      clear hown
      go_wp2_with fail
      go_roundw
      case rel => exact ⟨k + 1, by omega, by go_num, by rw [Ht.out]; exact r1, hbel.trans r2⟩
      case measure => simp [intOf]; omega
    · obtain rfl : k = len := by omega
      have hown2 : (Lay.int .i64).Own 3 wr w.heap.size u3 xs := by rw [← HLEN.out, List.take_length] at hown; exact hown
      clear hown
      go_wp2_with fail
      go_ret
      exact ⟨_, rfl, hown2, hbel⟩

theorem is86 {w : World} {B : Nat} {A : Nat → Prop} {gb : Nat} {nv : Value} {W : Nat} {L : List Nd} (h : RG w B A gb nv W L) (t : Nat) (ht : t < L.length) : Calls Tryd.prog 86 #[.pointer (some ⟨gb, 0, none⟩), .int .i64 t] w fun e w' => e = .returned (.bool true) ∧ w = w' := by
  obtain ⟨na, ncap, rfl, hcl, hcm⟩ := h.slice
  have c2 : w.cell? ⟨gb, 2, none⟩ = some (.slice na L.length ncap) := by simp [World.cell?, h.blk]
  have hti : (t : Int) < L.length := by omega
  have d0 : decide (0 ≤ (t : Int)) = true := by simp
  clear h ht
  go_enter Tryd.func86, Tryd.ntmps86
  go_wp2_with fail
  go_ret
  exact ⟨rfl, rfl⟩
set_option maxHeartbeats 2000000 in
theorem may73 {w : World} {B : Nat} {A : Nat → Prop} {gb : Nat} {nv : Value} {W : Nat} {L : List Nd} (h : RG w B A gb nv W L) (o : Nat) (ho : 2 ≤ o) (ho2 : o ≤ 20) (args : List Nat) (hl : args.length = arN o) (ha : ∀ a ∈ args, a < L.length)
    {a : Option Addr} {cap len : Nat} (hlen : args.length = len) (hat : (Lay.int .i64).At 0 w a (intsN args)) :
    Calls Tryd.prog 73 #[.pointer (some ⟨gb, 0, none⟩), .int .u8 o, .slice a len cap] w fun e w' => e = .returned (.int .i64 0) ∧ w = w' := by
  subst hlen
  have har : 1 ≤ args.length ∧ args.length ≤ 2 := by
    have : arN o = 1 ∨ arN o = 2 := by unfold arN; (repeat' split) <;> omega
    omega
  have HAR := Lib.hid (arity85 o (by omega) w)
  rw [← hl] at HAR
  have HP := Lib.hid h
  have HAT := Lib.hid hat
  have HARG := Lib.hid ha
  have dz : ((args.length : Int) == 0) = false := by rw [beq_eq_false_iff_ne]; omega
  obtain ⟨hr1, hr2⟩ := har
  clear h hat hl ha
  go_enter Tryd.func73, Tryd.ntmps73
  go_wp2_with (first | (go_at_call 85; refine HAR.out.mono ?_; rintro e w1 ⟨rfl, rfl⟩))
  go_loopw [9] (fun i wr => ∃ k : Nat, k ≤ args.length ∧ i = .int .i64 k ∧ Hid (wr = w)) (fun i _ => args.length - (intOf i).toNat)
  case atStart => exact ⟨0, by omega, rfl, Lib.hid rfl⟩
  case round =>
    obtain ⟨k, hk, rfl, hw⟩ := hrel
    obtain rfl := hw.out.symm
    clear hw
    by_cases hlk : k < args.length
    · obtain ⟨pb, po, rfl, hpb, hp0⟩ := HAT.out.int (i := k) (by simpa [intsN] using hlk)
      have hv : (intsN args).getD k 0 = ((args.getD k 0 : Nat) : Int) := by simp [intsN, List.getD_eq_getElem?_getD, List.getElem?_eq_getElem hlk]
      rw [hv] at hp0
      have HIS := Lib.hid (is86 HP.out (args.getD k 0) (HARG.out _ (by rw [List.getD_eq_getElem?_getD, List.getElem?_eq_getElem hlk]; exact List.getElem_mem hlk)))
      have hki : (k : Int) < args.length := by omega
      clear hv
      generalize args.getD k 0 = x at *
      go_wp2_with (first | (go_at_call 86; refine HIS.out.mono ?_; rintro e w1 ⟨rfl, rfl⟩))
      go_roundw
      case rel => exact ⟨k + 1, by omega, by go_num, by first | trivial | exact Lib.hid rfl⟩
      case measure => simp [intOf]; omega
    · obtain rfl : k = args.length := by omega
      go_wp2_with fail
      go_ret
      exact ⟨rfl, rfl⟩
def RAppPost (w : World) (B : Nat) (A : Nat → Prop) (gb : Nat) (nv : Value) (W : Nat) (L : List Nd) (n : Nd) (e : Ending) (w' : World) : Prop :=
  ∃ A', (∀ k, A' k → w.heap.size ≤ k) ∧ RAskPost w B A A' gb nv W L n e w'
theorem RAskPost.lift {w w2 w' : World} {B : Nat} {A A' : Nat → Prop} {gb : Nat} {nv : Value} {W : Nat} {L : List Nd} {n : Nd} {e : Ending} (hb : Below w.heap.size w w2) (h : RAskPost w2 B A A' gb nv W L n e w') : RAskPost w B A A' gb nv W L n e w' := by
  obtain ⟨nv', h1, h2, h3, h4⟩ := h
  exact ⟨nv', h1, h2, (Mut.of_below hb).trans h3, h4.elim .inl fun ⟨k, e1, e2⟩ => .inr ⟨k, e1, Nat.le_trans hb.size e2⟩⟩
set_option maxHeartbeats 2000000 in
theorem app55 {w : World} {B : Nat} {A : Nat → Prop} {gb : Nat} {nv : Value} {W : Nat} {L : List Nd} (h : RG w B A gb nv W L) (hB : B ≤ w.heap.size) (hL : L.length ≤ 60) (o : Nat) (ho : 2 ≤ o) (ho2 : o ≤ 20) (args : List Nat) (hl : args.length = arN o) (ha : ∀ a ∈ args, a < L.length)
    {a : Option Addr} {cap len : Nat} (hlen : args.length = len) (hat : (Lay.int .i64).At 0 w a (intsN args)) :
    Calls Tryd.prog 55 #[.pointer (some ⟨gb, 0, none⟩), .int .u8 o, .slice a len cap] w (RAppPost w B A gb nv W L ⟨o, 0, args⟩) := by
  subst hlen
  have har : args.length ≤ 2 := by
    have : arN o = 1 ∨ arN o = 2 := by unfold arN; (repeat' split) <;> omega
    omega
  have HMAY := Lib.hid (may73 (cap := cap) h o ho ho2 args hl ha rfl hat)
  have HCP := Lib.hid (copyI_any a args.length cap (intsN args) w (by simp [intsN]) hat (by omega))
  have HASK : Hid (∀ v' w2, (Lay.int .i64).Own 3 w2 w.heap.size v' (intsN args) → Below w.heap.size w w2 → ∃ a' cap', v' = .slice a' args.length cap' ∧ Calls Tryd.prog 70 #[.pointer (some ⟨gb, 0, none⟩), .agg #[.int .u8 o, .int .u64 0, .slice a' args.length cap']] w2 (RAppPost w B A gb nv W L ⟨o, 0, args⟩)) := Lib.hid fun v' w2 hown hb => by
    obtain ⟨a', cap', hv', hhd⟩ := hd_own hown
    have hlo : ∀ k, v'.ownBlock = some k → w.heap.size ≤ k ∧ k < w2.heap.size := fun k e => hown.lt k e
    refine ⟨a', cap', hv', ?_⟩
    exact (ask70 (A' := fun k => v'.ownBlock = some k) (h.below hb) ⟨o, 0, args⟩ (nd_app ho2 hl ha) hhd (fun k e => ⟨by have := (hlo k e).1; omega, (hlo k e).2, fun m => by have := (hlo k e).1; have := (h.lo k m).2; omega⟩) (by have := hb.size; omega) hL).mono fun e w' p => ⟨_, fun k e => (hlo k e).1, p.lift hb⟩
  clear h hl ha hat har
  go_enter Tryd.func55, Tryd.ntmps55
  go_wp2_with (first | (go_at_call 73; refine HMAY.out.mono ?_; rintro e w1 ⟨rfl, rfl⟩) | (go_at_call 62; refine HCP.out.mono ?_; rintro e w2 ⟨v2, rfl, ho2', hb2⟩; obtain ⟨a', cap', rfl, hcall⟩ := HASK.out _ _ ho2' hb2; have HCL := Lib.hid hcall; clear ho2' hb2 hcall) | (go_at_call 70; refine HCL.out.mono ?_; rintro e w3 ⟨A', q0, nv', rfl, p1, p2, p3⟩; have H0 := Lib.hid q0; have H1 := Lib.hid p1; have H2 := Lib.hid p2; have H3 := Lib.hid p3; clear q0 p1 p2 p3))
  go_ret2
  exact ⟨A', H0.out, nv', rfl, H1.out, H2.out, H3.out⟩
end Go.Proofs.YtjhbabgcoemecaaDoor
