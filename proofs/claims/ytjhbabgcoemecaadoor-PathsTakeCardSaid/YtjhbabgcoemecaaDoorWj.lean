/- Walks: weepholeref09.Apply, weepholeref08.Arity, weepholekit.Mask, and what the two Apply have in common. -/
import Derived.Test.YtjhbabgcoemecaaDoorWg
import Derived.Test.YtjhbabgcoemecaaDoorWi
namespace Go.Proofs.YtjhbabgcoemecaaDoor
open Go.RowKit
theorem cast_mod (r w : Nat) : (r : Int) % (2 : Int) ^ w = ((r % 2 ^ w : Nat) : Int) := by rw [two_pow_cast, Int.natCast_emod]
theorem arity85 (o : Nat) (ho : o ≤ 21) (W : World) : Calls Tryd.prog 85 #[.int .u8 o] W fun e W' => e = .returned (.tuple #[.int .i64 (arN o : Nat), .int .i64 0]) ∧ W = W' := by
  have d0 : decide (21 < (o : Int)) = false := by simp; omega
  have hcs : o ≤ 1 ∨ (2 ≤ o ∧ o ≤ 3) ∨ o = 21 ∨ (4 ≤ o ∧ o ≤ 20) := by omega
  rcases hcs with hc | hc | hc | hc
  · have HA : Hid (arN o = 0) := Lib.hid (if_pos hc)
    have d1 : decide ((o : Int) ≤ 1) = true := by simp; omega
    clear hc ho
    go_enter Tryd.func85, Tryd.ntmps85
    go_wp2_with fail
    go_ret2
    exact ⟨by rw [HA.out]; rfl, rfl⟩
  · have HA : Hid (arN o = 1) := Lib.hid (by unfold arN; rw [if_neg (by omega), if_pos hc.2])
    have d1 : decide ((o : Int) ≤ 1) = false := by simp; omega
    have d2 : decide ((o : Int) ≤ 3) = true := by simp; omega
    clear hc ho
    go_enter Tryd.func85, Tryd.ntmps85
    go_wp2_with fail
    go_ret2
    exact ⟨by rw [HA.out]; rfl, rfl⟩
  · subst hc
    clear d0 ho
    go_enter Tryd.func85, Tryd.ntmps85
    go_wp2_with fail
    go_ret2
    exact ⟨rfl, rfl⟩
  · have HA : Hid (arN o = 2) := Lib.hid (by unfold arN; rw [if_neg (by omega), if_neg (by omega), if_neg (by omega)])
    have d1 : decide ((o : Int) ≤ 1) = false := by simp; omega
    have d2 : decide ((o : Int) ≤ 3) = false := by simp; omega
    have d3 : ((o : Int) == 21) = false := by simp; omega
    clear hc ho
    go_enter Tryd.func85, Tryd.ntmps85
    go_wp2_with fail
    go_ret2
    exact ⟨by rw [HA.out]; rfl, rfl⟩
theorem mask71 (w : Nat) (W : World) (h1 : 1 ≤ w) (h : w ≤ 64) : Calls Tryd.prog 71 #[.int .i64 w] W fun e W' => e = .returned (.int .u64 ((2 ^ w - 1 : Nat) : Int)) ∧ W = W' := by
  have d1 : decide ((w : Int) < 1) = false := by simp; omega
  by_cases hw : w = 64
  · subst hw
    clear d1 h1 h
    go_enter Tryd.func71, Tryd.ntmps71
    go_wp2_with fail
    go_ret
    exact ⟨rfl, rfl⟩
  · have HM := Lib.hid (mask_raw h)
    have d2 : decide (63 < (w : Int)) = false := by simp; omega
    have hwl : (w : Int) ≤ 64 := by omega
    clear hw
    go_enter Tryd.func71, Tryd.ntmps71
    go_wp2_with fail
    go_ret
    exact ⟨by rw [← HM.out]; rfl, rfl⟩

set_option maxHeartbeats 1000000 in
theorem rapply_2 (w x y : Nat) (a : Option Addr) (cap : Nat) (W : World) (h1 : 1 ≤ w) (h : w ≤ 64) (hx : x < 18446744073709551616) (hat : (Lay.int .u64).At 0 W a [(x : Int)]) :
    Calls Tryd.prog 107 #[.int .u8 2, .int .i64 w, .slice a 1 cap] W (ApPost 2 w x y W) := by
  have HAR := Lib.hid (arity85 2 (by omega) W)
  rw [show arN 2 = 1 from rfl] at HAR
  have HCK := Lib.hid (check110_ok w W h1 h)
  have HX := Lib.hid (trim111 w x W h hx)
  have hp : 0 < 2 ^ w := Nat.two_pow_pos w
  have HR := Lib.hid (result_2 w (x % 2 ^ w) 0 W h (Nat.mod_lt x hp) 0)
  have HT := Lib.hid (fun r hr => trim111 w r W h hr)
  obtain ⟨pb, po, rfl, hpb, hp0⟩ := hat.int (i := 0) (by simp)
  have hc0 : W.cell? ⟨pb, po, none⟩ = some (.int .u64 x) := hp0
  clear hx hp hp0 hat h1 h
  generalize hmx : x % 2 ^ w = mx at *
  have HMX := Lib.hid hmx
  clear hmx
  go_enter Tryd.func107, Tryd.ntmps107
  go_wp2_with (first | (go_at_call 110; refine HCK.out.mono ?_; rintro e W' ⟨rfl, rfl⟩) | (go_at_call 85; refine HAR.out.mono ?_; rintro e W' ⟨rfl, rfl⟩) | (go_at_call 112; refine HR.out.mono ?_; rintro e W' ⟨r, rfl, hr, hm, rfl⟩; have HRL := Lib.hid hr; have HRM := Lib.hid hm; clear hr hm) | (go_at_call 111; first | ((with_reducible refine HX.out.mono ?_); rintro e W' ⟨rfl, rfl⟩) | ((with_reducible refine (HT.out _ HRL.out).mono ?_); rintro e W' ⟨rfl, rfl⟩)))
  go_ret2
  exact ⟨congrArg Ending.returned (tup2 (by rw [cast_mod, HRM.out, HMX.out]; rfl)), Below.refl _ _⟩

set_option maxHeartbeats 1000000 in
theorem rapply_3 (w x y : Nat) (a : Option Addr) (cap : Nat) (W : World) (h1 : 1 ≤ w) (h : w ≤ 64) (hx : x < 18446744073709551616) (hat : (Lay.int .u64).At 0 W a [(x : Int)]) :
    Calls Tryd.prog 107 #[.int .u8 3, .int .i64 w, .slice a 1 cap] W (ApPost 3 w x y W) := by
  have HAR := Lib.hid (arity85 3 (by omega) W)
  rw [show arN 3 = 1 from rfl] at HAR
  have HCK := Lib.hid (check110_ok w W h1 h)
  have HX := Lib.hid (trim111 w x W h hx)
  have hp : 0 < 2 ^ w := Nat.two_pow_pos w
  have HR := Lib.hid (result_3 w (x % 2 ^ w) 0 W h (Nat.mod_lt x hp) 0)
  have HT := Lib.hid (fun r hr => trim111 w r W h hr)
  obtain ⟨pb, po, rfl, hpb, hp0⟩ := hat.int (i := 0) (by simp)
  have hc0 : W.cell? ⟨pb, po, none⟩ = some (.int .u64 x) := hp0
  clear hx hp hp0 hat h1 h
  generalize hmx : x % 2 ^ w = mx at *
  have HMX := Lib.hid hmx
  clear hmx
  go_enter Tryd.func107, Tryd.ntmps107
  go_wp2_with (first | (go_at_call 110; refine HCK.out.mono ?_; rintro e W' ⟨rfl, rfl⟩) | (go_at_call 85; refine HAR.out.mono ?_; rintro e W' ⟨rfl, rfl⟩) | (go_at_call 112; refine HR.out.mono ?_; rintro e W' ⟨r, rfl, hr, hm, rfl⟩; have HRL := Lib.hid hr; have HRM := Lib.hid hm; clear hr hm) | (go_at_call 111; first | ((with_reducible refine HX.out.mono ?_); rintro e W' ⟨rfl, rfl⟩) | ((with_reducible refine (HT.out _ HRL.out).mono ?_); rintro e W' ⟨rfl, rfl⟩)))
  go_ret2
  exact ⟨congrArg Ending.returned (tup2 (by rw [cast_mod, HRM.out, HMX.out]; rfl)), Below.refl _ _⟩

/-- the results of the reference, whatever the operator -/
theorem result_any (o w a b : Nat) (W : World) (h4 : 4 ≤ o) (h20 : o ≤ 20) (h1 : 1 ≤ w) (h : w ≤ 64) (HXL : a < 2 ^ w) (HYL : b < 2 ^ w) : Calls Tryd.prog 112 #[.int .u8 o, .int .i64 w, .int .u64 a, .int .u64 b, .int .u64 0] W (OpPost o w a b W) := by
  have hoc : o = 4 ∨ o = 5 ∨ o = 6 ∨ o = 7 ∨ o = 8 ∨ o = 9 ∨ o = 10 ∨ o = 11 ∨ o = 12 ∨ o = 13 ∨ o = 14 ∨ o = 15 ∨ o = 16 ∨ o = 17 ∨ o = 18 ∨ o = 19 ∨ o = 20 := by omega
  rcases hoc with rfl | rfl | rfl | rfl | rfl | rfl | rfl | rfl | rfl | rfl | rfl | rfl | rfl | rfl | rfl | rfl | rfl
  · exact result_4 w a b W h 0
  · exact result_5 w a b W h HYL 0
  · exact result_6 w a b W h 0
  · exact result_7 w a b W h HXL 0
  · exact result_8 w a b W h HXL 0
  · exact result_9 w a b W h HXL HYL 0
  · exact result_10 w a b W h HXL HYL 0
  · exact result_11 w a b W h HXL HYL 0
  · exact result_12 w a b W h1 h HXL HYL 0
  · exact result_13 w a b W h1 h HXL HYL 0
  · exact result_14 w a b W h1 h HXL HYL 0
  · exact result_15 w a b W h1 0
  · exact result_16 w a b W h1 0
  · exact result_17 w a b W h1 0
  · exact result_18 w a b W h1 0
  · exact result_19 w a b W h1 h HXL HYL 0
  · exact result_20 w a b W h1 h HXL HYL 0

set_option maxHeartbeats 1000000 in
theorem rapply_two (o w x y : Nat) (a : Option Addr) (cap : Nat) (W : World) (h4 : 4 ≤ o) (h20 : o ≤ 20) (h1 : 1 ≤ w) (h : w ≤ 64) (hx : x < 18446744073709551616) (hy : y < 18446744073709551616) (hat : (Lay.int .u64).At 0 W a [(x : Int), (y : Int)]) :
    Calls Tryd.prog 107 #[.int .u8 o, .int .i64 w, .slice a 2 cap] W (ApPost o w x y W) := by
  have hA : arN o = 2 := by unfold arN; (repeat' split) <;> omega
  have HAR := Lib.hid (arity85 o (by omega) W)
  rw [hA] at HAR
  have HCK := Lib.hid (check110_ok w W h1 h)
  have HX := Lib.hid (trim111 w x W h hx)
  have HY := Lib.hid (trim111 w y W h hy)
  have hp : 0 < 2 ^ w := Nat.two_pow_pos w
  have HR := Lib.hid (result_any o w (x % 2 ^ w) (y % 2 ^ w) W h4 h20 h1 h (Nat.mod_lt x hp) (Nat.mod_lt y hp))
  have HT := Lib.hid (fun r hr => trim111 w r W h hr)
  obtain ⟨pb, po, rfl, hpb, hp0⟩ := hat.int (i := 0) (by simp)
  obtain ⟨qb, qo, hq, _, hp1⟩ := hat.int (i := 1) (by simp)
  injection hq with hq; injection hq with e1 e2; subst e1 e2
  have hc0 : W.cell? ⟨pb, po, none⟩ = some (.int .u64 x) := hp0
  have hc1 : W.cell? ⟨pb, po + 1, none⟩ = some (.int .u64 y) := hp1
  have d1 : decide ((o : Int) < 2) = false := by simp; omega
  clear hx hy hp hp0 hp1 hat h1 h hA h4 h20
  generalize hmx : x % 2 ^ w = mx at *
  have HMX := Lib.hid hmx
  generalize hmy : y % 2 ^ w = my at *
  have HMY := Lib.hid hmy
  clear hmx hmy
  go_enter Tryd.func107, Tryd.ntmps107
  go_wp2_with (first | (go_at_call 110; refine HCK.out.mono ?_; rintro e W' ⟨rfl, rfl⟩) | (go_at_call 85; refine HAR.out.mono ?_; rintro e W' ⟨rfl, rfl⟩) | (go_at_call 112; refine HR.out.mono ?_; rintro e W' ⟨r, rfl, hr, hm, rfl⟩; have HRL := Lib.hid hr; have HRM := Lib.hid hm; clear hr hm) | (go_at_call 111; first | ((with_reducible refine HX.out.mono ?_); rintro e W' ⟨rfl, rfl⟩) | ((with_reducible refine HY.out.mono ?_); rintro e W' ⟨rfl, rfl⟩) | ((with_reducible refine (HT.out _ HRL.out).mono ?_); rintro e W' ⟨rfl, rfl⟩)))
  all_goals
    go_ret2
    exact ⟨congrArg Ending.returned (tup2 (by rw [cast_mod, HRM.out, HMX.out, HMY.out])), Below.refl _ _⟩

/-- the arguments of an operator, as both sides hand them over -/
def argsOf (p : List Nat) (n : Nd) : List Nat := n.args.map fun a => p.getD a 0
theorem ap_any {f : Nat} (h2 : ∀ (o w x y : Nat) (a : Option Addr) (cap : Nat) (W : World), (o = 2 ∨ o = 3) → 1 ≤ w → w ≤ 64 → x < 18446744073709551616 → (Lay.int .u64).At 0 W a [(x : Int)] → Calls Tryd.prog f #[.int .u8 o, .int .i64 w, .slice a 1 cap] W (ApPost o w x y W))
    (h4 : ∀ (o w x y : Nat) (a : Option Addr) (cap : Nat) (W : World), 4 ≤ o → o ≤ 20 → 1 ≤ w → w ≤ 64 → x < 18446744073709551616 → y < 18446744073709551616 → (Lay.int .u64).At 0 W a [(x : Int), (y : Int)] → Calls Tryd.prog f #[.int .u8 o, .int .i64 w, .slice a 2 cap] W (ApPost o w x y W))
    {w i : Nat} {n : Nd} (hn : NdOk w i n) (ho : 2 ≤ n.op) (h1 : 1 ≤ w) (h : w ≤ 64) {vals p : List Nat} (hp : ∀ a, p.getD a 0 < 2 ^ w) {W : World} {a : Option Addr} {cap len : Nat} (hlen : n.args.length = len) (hat : (Lay.int .u64).At 0 W a ((argsOf p n).map fun (x : Nat) => (x : Int))) :
    Calls Tryd.prog f #[.int .u8 n.op, .int .i64 w, .slice a len cap] W fun e W' => e = .returned (.tuple #[.int .u64 (valN w vals p n : Nat), .int .i64 0]) ∧ Below W.heap.size W W' := by
  obtain ⟨op, num, args⟩ := n
  have hop := hn.1
  have har := hn.2.2.2.2.1
  have hl := pow_le h
  simp only at hop har ho hlen
  have hv : valN w vals p ⟨op, num, args⟩ = appN op w (p.getD (args.getD 0 0) 0) (p.getD (args.getD 1 0) 0) := by
    unfold valN
    rw [if_neg (by simp only; omega), if_neg (by simp only; omega)]
  have small : ∀ a, p.getD a 0 < 18446744073709551616 := fun a => Nat.lt_of_lt_of_le (hp a) hl
  by_cases h23 : op = 2 ∨ op = 3
  · have hl1 : args.length = 1 := by rw [har]; rcases h23 with rfl | rfl <;> rfl
    obtain ⟨x, rfl⟩ : ∃ x, args = [x] := by
      match args, hl1 with
      | [x], _ => exact ⟨x, rfl⟩
    obtain rfl : len = 1 := by simpa using hlen.symm
    refine (h2 op w (p.getD x 0) (p.getD 0 0) a cap W h23 h1 h (small x) hat).mono fun e W' ⟨he, hb⟩ => ⟨?_, hb⟩
    rw [he, hv, Nat.mod_eq_of_lt (hp x), Nat.mod_eq_of_lt (hp 0)]
    rfl
  · have h4' : 4 ≤ op := by omega
    have hl2 : args.length = 2 := by rw [har]; unfold arN; (repeat' split) <;> omega
    obtain ⟨x, y, rfl⟩ : ∃ x y, args = [x, y] := by
      match args, hl2 with
      | [x, y], _ => exact ⟨x, y, rfl⟩
    obtain rfl : len = 2 := by simpa using hlen.symm
    refine (h4 op w (p.getD x 0) (p.getD y 0) a cap W h4' hop h1 h (small x) (small y) hat).mono fun e W' ⟨he, hb⟩ => ⟨?_, hb⟩
    rw [he, hv, Nat.mod_eq_of_lt (hp x), Nat.mod_eq_of_lt (hp y)]
    rfl
theorem apply77 {w i : Nat} {n : Nd} (hn : NdOk w i n) (ho : 2 ≤ n.op) (h1 : 1 ≤ w) (h : w ≤ 64) {vals p : List Nat} (hp : ∀ a, p.getD a 0 < 2 ^ w) {W : World} {a : Option Addr} {cap len : Nat} (hlen : n.args.length = len) (hat : (Lay.int .u64).At 0 W a ((argsOf p n).map fun (x : Nat) => (x : Int))) :
    Calls Tryd.prog 77 #[.int .u8 n.op, .int .i64 w, .slice a len cap] W fun e W' => e = .returned (.tuple #[.int .u64 (valN w vals p n : Nat), .int .i64 0]) ∧ Below W.heap.size W W' :=
  ap_any (fun o w x y a cap W ho h1 h hx hat => by rcases ho with rfl | rfl; exact apply_not w x y a cap W h1 h hx hat; exact apply_neg w x y a cap W h1 h hx hat) (fun o w x y a cap W h4 h20 h1 h hx hy hat => apply_two o w x y a cap W h4 h20 h1 h hx hy hat) hn ho h1 h hp hlen hat
theorem apply107 {w i : Nat} {n : Nd} (hn : NdOk w i n) (ho : 2 ≤ n.op) (h1 : 1 ≤ w) (h : w ≤ 64) {vals p : List Nat} (hp : ∀ a, p.getD a 0 < 2 ^ w) {W : World} {a : Option Addr} {cap len : Nat} (hlen : n.args.length = len) (hat : (Lay.int .u64).At 0 W a ((argsOf p n).map fun (x : Nat) => (x : Int))) :
    Calls Tryd.prog 107 #[.int .u8 n.op, .int .i64 w, .slice a len cap] W fun e W' => e = .returned (.tuple #[.int .u64 (valN w vals p n : Nat), .int .i64 0]) ∧ Below W.heap.size W W' :=
  ap_any (fun o w x y a cap W ho h1 h hx hat => by rcases ho with rfl | rfl; exact rapply_2 w x y a cap W h1 h hx hat; exact rapply_3 w x y a cap W h1 h hx hat) (fun o w x y a cap W h4 h20 h1 h hx hy hat => rapply_two o w x y a cap W h4 h20 h1 h hx hy hat) hn ho h1 h hp hlen hat
end Go.Proofs.YtjhbabgcoemecaaDoor
