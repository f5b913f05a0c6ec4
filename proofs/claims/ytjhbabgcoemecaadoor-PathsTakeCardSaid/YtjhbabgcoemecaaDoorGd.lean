/- Walks: numbers and variables of graphs. -/
import Derived.Test.YtjhbabgcoemecaaDoorGc
import Derived.Test.YtjhbabgcoemecaaDoorWj
namespace Go.Proofs.YtjhbabgcoemecaaDoor
open Go.RowKit

def noB : Nat → Prop := fun _ => False
theorem hd_none (w : World) : HdAt w noB (none, 0, 0) [] := ⟨rfl, Lay.At.nil, (fun a h => by cases h), fun _ => rfl⟩
theorem nd_const {W i v : Nat} (h : W ≤ 64) : NdOk W i ⟨0, v % 2 ^ W, []⟩ := by
  have hp : 0 < 2 ^ W := Nat.two_pow_pos W
  have hl := pow_le h
  have := Nat.mod_lt v hp
  exact ⟨by show 0 ≤ 20; omega, by show v % 2 ^ W < _; omega, by show v % 2 ^ W < _; omega, fun _ => this, rfl, fun h => by simp at h, fun a ha => by simp at ha⟩
theorem nd_var {W i v : Nat} (h : v < 12) : NdOk W i ⟨1, v, []⟩ :=
  ⟨by show 1 ≤ 20; omega, by have := Nat.two_pow_pos W; show v < _; omega, by show v < _; omega, fun e => by simp at e, rfl, fun h => by simp at h, fun a ha => by simp at ha⟩
theorem trim68 (w a : Nat) (W : World) (h1 : 1 ≤ w) (h : w ≤ 64) (ha : a < 18446744073709551616) : Calls Tryd.prog 68 #[.int .i64 w, .int .u64 a] W fun e W' => e = .returned (.tuple #[.int .u64 ((a % 2 ^ w : Nat) : Int), .int .i64 0]) ∧ W = W' := by
  have HC := Lib.hid (check64_ok w W h1 h)
  have HM := Lib.hid (mask82 w W h)
  have HT := Lib.hid (trim_raw h ha)
  clear ha
  go_enter Tryd.func68, Tryd.ntmps68
  go_wp2_with (first | (go_at_call 64; refine HC.out.mono ?_; rintro e W' ⟨rfl, rfl⟩) | (go_at_call 82; refine HM.out.mono ?_; rintro e W' ⟨rfl, rfl⟩))
  go_ret2
  exact ⟨congrArg Ending.returned (tup2 HT.out), rfl⟩
set_option maxHeartbeats 1000000 in
theorem const50 {w : World} {B : Nat} {A : Nat → Prop} {gb mb : Nat} {nv : Value} {W : Nat} {L : List Nd} (h : PG w B A gb mb nv W L) (hB : B ≤ w.heap.size) (hL : L.length ≤ 60) (h1 : 1 ≤ W) (h2 : W ≤ 64) (v : Nat) (hv : v < 18446744073709551616) :
    Calls Tryd.prog 50 #[.pointer (some ⟨gb, 0, none⟩), .int .u64 v] w (AskPost w B A noB gb mb nv W L ⟨0, v % 2 ^ W, []⟩) := by
  have c0 : w.cell? ⟨gb, 0, none⟩ = some (.int .i64 W) := by simp [World.cell?, h.blk]
  have HT := Lib.hid (trim68 W v w h1 h2 hv)
  have HA := Lib.hid (ask69 h ⟨0, v % 2 ^ W, []⟩ (nd_const h2) (hd_none w) (fun k hk => hk.elim) hB hL)
  clear h hv
  generalize v % 2 ^ W = x at *
  go_enter Tryd.func50, Tryd.ntmps50
  go_wp2_with (first | (go_at_call 68; refine HT.out.mono ?_; rintro e W' ⟨rfl, rfl⟩) | (go_at_call 69; refine HA.out.mono ?_; rintro e W' ⟨nv', rfl, p1, p2, p3⟩; have H1 := Lib.hid p1; have H2 := Lib.hid p2; have H3 := Lib.hid p3; clear p1 p2 p3))
  go_ret2
  exact ⟨nv', rfl, H1.out, H2.out, H3.out⟩
set_option maxHeartbeats 1000000 in
theorem var52 {w : World} {B : Nat} {A : Nat → Prop} {gb mb : Nat} {nv : Value} {W : Nat} {L : List Nd} (h : PG w B A gb mb nv W L) (hB : B ≤ w.heap.size) (hL : L.length ≤ 60) (v : Nat) (hv : v < 12) :
    Calls Tryd.prog 52 #[.pointer (some ⟨gb, 0, none⟩), .int .i64 v] w (AskPost w B A noB gb mb nv W L ⟨1, v, []⟩) := by
  have HA := Lib.hid (ask69 h ⟨1, v, []⟩ (nd_var hv) (hd_none w) (fun k hk => hk.elim) hB hL)
  have hvi : (v : Int) < 12 := by omega
  clear h hv
  go_enter Tryd.func52, Tryd.ntmps52
  go_wp2_with (first | (go_at_call 69; refine HA.out.mono ?_; rintro e W' ⟨nv', rfl, p1, p2, p3⟩; have H1 := Lib.hid p1; have H2 := Lib.hid p2; have H3 := Lib.hid p3; clear p1 p2 p3))
  go_ret2
  exact ⟨nv', rfl, H1.out, H2.out, H3.out⟩
set_option maxHeartbeats 1000000 in
theorem const51 {w : World} {B : Nat} {A : Nat → Prop} {gb : Nat} {nv : Value} {W : Nat} {L : List Nd} (h : RG w B A gb nv W L) (hB : B ≤ w.heap.size) (hL : L.length ≤ 60) (h1 : 1 ≤ W) (h2 : W ≤ 64) (v : Nat) (hv : v < 18446744073709551616) :
    Calls Tryd.prog 51 #[.pointer (some ⟨gb, 0, none⟩), .int .u64 v] w (RAskPost w B A noB gb nv W L ⟨0, v % 2 ^ W, []⟩) := by
  have c0 : w.cell? ⟨gb, 0, none⟩ = some (.int .i64 W) := by simp [World.cell?, h.blk]
  have HM := Lib.hid (mask71 W w h1 h2)
  have HT : bits .and .u64 (v : Int) ((2 ^ W - 1 : Nat) : Int) = ((v % 2 ^ W : Nat) : Int) := trim_raw h2 hv
  have HA := Lib.hid (ask70 h ⟨0, v % 2 ^ W, []⟩ (nd_const h2) (hd_none w) (fun k hk => hk.elim) hB hL)
  clear h hv
  generalize v % 2 ^ W = x at *
  go_enter Tryd.func51, Tryd.ntmps51
  go_wp2_with (first | (go_at_call 71; refine HM.out.mono ?_; rintro e W' ⟨rfl, rfl⟩) | (go_at_call 70; refine HA.out.mono ?_; rintro e W' ⟨nv', rfl, p1, p2, p3⟩; have H1 := Lib.hid p1; have H2 := Lib.hid p2; have H3 := Lib.hid p3; clear p1 p2 p3))
  go_ret2
  exact ⟨nv', rfl, H1.out, H2.out, H3.out⟩
set_option maxHeartbeats 1000000 in
theorem var53 {w : World} {B : Nat} {A : Nat → Prop} {gb : Nat} {nv : Value} {W : Nat} {L : List Nd} (h : RG w B A gb nv W L) (hB : B ≤ w.heap.size) (hL : L.length ≤ 60) (v : Nat) (hv : v < 12) :
    Calls Tryd.prog 53 #[.pointer (some ⟨gb, 0, none⟩), .int .i64 v] w (RAskPost w B A noB gb nv W L ⟨1, v, []⟩) := by
  have HA := Lib.hid (ask70 h ⟨1, v, []⟩ (nd_var hv) (hd_none w) (fun k hk => hk.elim) hB hL)
  have hvi : (v : Int) < 12 := by omega
  clear h hv
  go_enter Tryd.func53, Tryd.ntmps53
  go_wp2_with (first | (go_at_call 70; refine HA.out.mono ?_; rintro e W' ⟨nv', rfl, p1, p2, p3⟩; have H1 := Lib.hid p1; have H2 := Lib.hid p2; have H3 := Lib.hid p3; clear p1 p2 p3))
  go_ret2
  exact ⟨nv', rfl, H1.out, H2.out, H3.out⟩
end Go.Proofs.YtjhbabgcoemecaaDoor
