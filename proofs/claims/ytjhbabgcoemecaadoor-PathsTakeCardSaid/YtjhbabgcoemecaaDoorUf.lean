/- Walks: the terms of events (collect), events of the reference. -/
import Derived.Test.YtjhbabgcoemecaaDoorVc
import Derived.Test.YtjhbabgcoemecaaDoorUa
namespace Go.Proofs.YtjhbabgcoemecaaDoor
open Go.RowKit

theorem Tryd.elemE : ElemT Tryd.prog Lay.ev 44 80 (.agg #[.int .i64 0, .int .u64 0]) 16 := ⟨Tryd.underlying44, by kernel_rfl, rfl, by decide⟩
theorem term58 (w : World) (n t : Int) : Calls Tryd.prog 58 #[.agg #[.int .i64 n, .int .i64 t]] w fun e w' => e = .returned (.int .i64 t) ∧ Below w.heap.size w w' := by
  have HBA : Hid (Below w.heap.size w (w.alloc (.cells #[.int .i64 n, .int .i64 t] 125))) := Lib.hid ((Below.refl _ _).alloc (Nat.le_refl _) _)
  go_enter Tryd.func58, Tryd.ntmps58
  go_wp2_with fail
  go_ret
  exact ⟨rfl, HBA.out⟩

set_option maxRecDepth 100000 in
set_option maxHeartbeats 4000000 in
theorem collect59 (w : World) (xs : List (Int × Int)) {a : Option Addr} {len cap : Nat} (hlen : xs.length = len) (hl : len ≤ 1000) (hat : Lay.sev.At (0, 0) w a xs) :
    Calls Tryd.prog 59 #[.func (.func 58) #[] #[], .slice a len cap] w fun e w' => ∃ v, e = .returned v ∧ (Lay.int .i64).Own 3 w' w.heap.size v (xs.map (·.2)) ∧ Below w.heap.size w w' := by
  subst hlen
  have HA := Lib.hid hat
  have HT : Hid (∀ k, k < xs.length → (xs.map (·.2)).take (k + 1) = (xs.map (·.2)).take k ++ [(xs.getD k (0, 0)).2]) := Lib.hid fun k hk => by
    rw [take_getD 0 _ k (by simpa using hk)]
    congr 2
    rw [List.getD_eq_getElem?_getD, List.getD_eq_getElem?_getD, List.getElem?_map, List.getElem?_eq_getElem hk]; rfl
  have HLT : Hid (∀ k, ((xs.map (·.2)).take k).length ≤ 1000) := Lib.hid fun k => by rw [List.length_take, List.length_map]; omega
  have HTE : Hid ((xs.map (·.2)).take xs.length = xs.map (·.2)) := Lib.hid (List.take_of_length_le (by simp))
  generalize xs.map (·.2) = T at *
  clear hat
  go_enter Tryd.func59, Tryd.ntmps59
  go_wp2_with fail
  go_loopw [5, 10] (fun v i wr => ∃ k : Nat, k ≤ xs.length ∧ i = .int .i64 k ∧ Hid ((Lay.int .i64).Own 3 wr w.heap.size v (T.take k)) ∧ Below w.heap.size w wr) (fun _ i _ => xs.length - (intOf i).toNat)
  case atStart => exact ⟨0, by omega, rfl, Lib.hid (Lay.Own.nil _ _), Below.refl _ _⟩
  case round =>
    obtain ⟨k, hk, rfl, hown, hb⟩ := hrel
    have HB := Lib.hid hb
    have hsz := hb.size
    clear hb
    by_cases hlt : k < xs.length
    · obtain ⟨pb, po, rfl, hpb, p0, p1⟩ := HA.out.sev hlt
      have c0 := (HB.out.cell (p := ⟨pb, po + k * 2, none⟩) hpb).trans p0
      have c1 := (HB.out.cell (p := ⟨pb, po + k * 2 + 1, none⟩) hpb).trans p1
      have HTK := Lib.hid (HT.out k hlt)
      have hki : (k : Int) < xs.length := by omega
      have HLK := Lib.hid (HLT.out k)
      clear p0 p1
      generalize (xs.getD k (0, 0)).1 = n at *
      generalize (xs.getD k (0, 0)).2 = t at *
      have HOW := Lib.hid hown.out
      clear hown
      go_wp2_with (first
        | (go_at_call 58
           refine (term58 _ n t).mono ?_
           rintro e wB ⟨rfl, hB⟩
           have HBB := Lib.hid (((Below.refl _ _).alloc (Nat.le_refl _) _).trans (hB.mono (by simp)) : Below wr.heap.size wr wB)
           have HOB := Lib.hid (HOW.out.grown HBB.out)
           have hzB := HBB.out.size
           clear hB)
        | (at_builtin
           refine app_lay_new_g Tryd.elemI [t] rfl _ _ rfl rfl HOB.out rfl (by simp) rfl (by have := HLK.out; show _ + 1 ≤ 1000000; omega) (by omega) ?_
           intro v' w5 r1 r2
           have HO5 := Lib.hid r1
           have HB5 : Hid (Below w.heap.size w w5) := Lib.hid (HB.out.trans ((HBB.out.mono hsz).trans r2))
           clear r1 r2))
      go_roundw
      case rel => exact ⟨k + 1, by omega, by go_num, Lib.hid (by rw [HTK.out]; exact HO5.out), HB5.out⟩
      case measure => simp [intOf]; omega
    · obtain rfl : k = xs.length := by omega
      have HO := Lib.hid hown.out
      rw [HTE.out] at HO
      clear hown
      go_wp2_with fail
      go_ret
      exact ⟨_, rfl, HO.out, HB.out⟩

/-- events with values in place of terms -/
def evs (V : List Nat) (l : List (Int × Int)) : List (Int × Int) := l.map fun x => (x.1, ((V.getD x.2.toNat 0 : Nat) : Int))
set_option maxRecDepth 100000 in
set_option maxHeartbeats 4000000 in
theorem events60 {w : World} {r W : Nat} {L : List Nd} (h : RV w r W L) (h1 : 1 ≤ W) (h2 : W ≤ 64) (hL : L.length ≤ 60) (vals : List Nat) {b : Option Addr} {l d : Nat} (hlen : vals.length = l) (hvl : l ≤ 100) (hatv : (Lay.int .u64).At 0 w b (intsN vals)) (hsm : ∀ v ∈ vals, v < 18446744073709551616)
    (xs : List (Int × Int)) {a : Option Addr} {m c : Nat} (hm : xs.length = m) (hml : m ≤ 1000) (hat : Lay.sev.At (0, 0) w a xs) :
    Calls Tryd.prog 60 #[.pointer (some ⟨r, 0, none⟩), .slice a m c, .slice b l d] w fun e w' => ((∀ x ∈ xs, inG L.length x.2 = true) → ∃ v, e = .returned (.tuple #[v, .int .i64 0]) ∧ Lay.ev.Own 80 w' w.heap.size v (evs (valuesN W vals L) xs)) ∧ ((¬ ∀ x ∈ xs, inG L.length x.2 = true) → e = .returned (.tuple #[.slice none 0 0, .int .i64 3])) ∧ Below w.heap.size w w' := by
  subst hm
  have HA := Lib.hid hat
  have HC : Hid (∀ w' t, Below w.heap.size w w' → Calls Tryd.prog 57 #[.pointer (some ⟨r, 0, none⟩), .int .i64 t, .slice b l d] w' fun e w'' => e = .returned (evN L.length (valuesN W vals L) t) ∧ Below w'.heap.size w' w'') :=
    Lib.hid fun w' t hb => eval57 (h.below hb) h1 h2 hL t vals hlen hvl (hatv.below hb) hsm
  clear h hat hatv hsm hlen hvl
  generalize valuesN W vals L = V at *
  generalize L.length = n at *
  have HEV : Hid (∀ t, inG n t = true → evN n V t = .tuple #[.int .u64 (V.getD t.toNat 0 : Nat), .int .i64 0]) := Lib.hid fun t e => if_pos e
  have HEB : Hid (∀ t, inG n t = false → evN n V t = .tuple #[.int .u64 0, .int .i64 3]) := Lib.hid fun t e => if_neg (by rw [e]; simp)
  have HT : Hid (∀ k, k < xs.length → (evs V xs).take (k + 1) = (evs V xs).take k ++ [((xs.getD k (0, 0)).1, ((V.getD (xs.getD k (0, 0)).2.toNat 0 : Nat) : Int))]) := Lib.hid fun k hk => by
    rw [take_getD (0, 0) _ k (by simpa [evs] using hk)]
    congr 2
    rw [List.getD_eq_getElem?_getD, List.getD_eq_getElem?_getD]
    unfold evs
    rw [List.getElem?_map, List.getElem?_eq_getElem hk]; rfl
  have HLT : Hid (∀ k, ((evs V xs).take k).length ≤ 1000) := Lib.hid fun k => by unfold evs; rw [List.length_take, List.length_map]; omega
  have HTE : Hid ((evs V xs).take xs.length = evs V xs) := Lib.hid (List.take_of_length_le (by simp [evs]))
  generalize evs V xs = T at *
  go_enter Tryd.func60, Tryd.ntmps60
  go_wp2_with fail
  go_loopw [8, 9] (fun v i wr => ∃ k : Nat, k ≤ xs.length ∧ i = .int .i64 k ∧ Hid (Lay.ev.Own 80 wr w.heap.size v (T.take k)) ∧ Hid (∀ j, j < k → inG n (xs.getD j (0, 0)).2 = true) ∧ Below w.heap.size w wr) (fun _ i _ => xs.length - (intOf i).toNat)
  case atStart => exact ⟨0, by omega, rfl, Lib.hid (Lay.Own.nil _ _), Lib.hid fun j hj => absurd hj (by omega), Below.refl _ _⟩
  case round =>
    obtain ⟨k, hk, rfl, hown, hall, hb⟩ := hrel
    have HB := Lib.hid hb
    have hsz := hb.size
    have HALL := Lib.hid hall.out
    clear hb hall
    by_cases hlt : k < xs.length
    · obtain ⟨pb, po, rfl, hpb, p0, p1⟩ := HA.out.sev hlt
      have c0 := (HB.out.cell (p := ⟨pb, po + k * 2, none⟩) hpb).trans p0
      have c1 := (HB.out.cell (p := ⟨pb, po + k * 2 + 1, none⟩) hpb).trans p1
      have HTK := Lib.hid (HT.out k hlt)
      have HXM := Lib.hid (getD_mem (0, 0) xs k hlt)
      have hki : (k : Int) < xs.length := by omega
      have HLK := Lib.hid (HLT.out k)
      clear p0 p1
      generalize hx : xs.getD k (0, 0) = x at *
      have HX := Lib.hid hx
      clear hx
      obtain ⟨N, t⟩ := x
      simp only at c0 c1 HTK
      have HCX := Lib.hid (HC.out wr t HB.out)
      have HOW := Lib.hid hown.out
      clear hown
      cases hin : inG n t with
      | false =>
        rw [HEB.out t hin] at HCX
        have HIN := Lib.hid hin
        clear hin
        go_wp2_with (first
          | (go_at_call 57
             refine HCX.out.mono ?_
             rintro e wB ⟨rfl, hB⟩
             have HBB := Lib.hid (HB.out.trans (hB.mono hsz))
             clear hB))
        go_ret2
        exact ⟨fun h => absurd (h _ HXM.out) (by rw [HIN.out]; simp), fun _ => rfl, HBB.out⟩
      | true =>
        rw [HEV.out t hin] at HCX
        have HAL2 : Hid (∀ j, j < k + 1 → inG n (xs.getD j (0, 0)).2 = true) := Lib.hid fun j hj => by
          by_cases e : j = k
          · subst e; rw [HX.out]; exact hin
          · exact HALL.out j (by omega)
        clear hin
        generalize V.getD t.toNat 0 = y at *
        go_wp2_with (first
          | (go_at_call 57
             refine HCX.out.mono ?_
             rintro e wB ⟨rfl, hB⟩
             have HBB := Lib.hid hB
             have HOB := Lib.hid (HOW.out.grown HBB.out)
             have hzB := HBB.out.size
             have c2 := (HBB.out.cell (p := ⟨pb, po + k * 2, none⟩) (by show pb < _; omega)).trans c0
             clear hB)
          | (at_builtin
             refine app_lay_new_g Tryd.elemE [(N, (y : Int))] rfl _ _ rfl rfl HOB.out rfl (by simp) rfl (by have := HLK.out; show _ + 1 ≤ 1000000; omega) (by omega) ?_
             intro v' w5 r1 r2
             have HO5 := Lib.hid r1
             have HB5 : Hid (Below w.heap.size w w5) := Lib.hid (HB.out.trans ((HBB.out.mono hsz).trans r2))
             clear r1 r2))
        go_roundw
        case rel => exact ⟨k + 1, by omega, by go_num, Lib.hid (by rw [HTK.out]; exact HO5.out), Lib.hid HAL2.out, HB5.out⟩
        case measure => simp [intOf]; omega
    · obtain rfl : k = xs.length := by omega
      have HO := Lib.hid hown.out
      rw [HTE.out] at HO
      clear hown
      go_wp2_with fail
      go_ret2
      refine ⟨fun _ => ⟨_, rfl, HO.out⟩, fun h => absurd (fun x hx => ?_) h, HB.out⟩
      obtain ⟨i, hi, rfl⟩ := List.getElem_of_mem hx
      have := HALL.out i hi
      rwa [List.getD_eq_getElem?_getD, List.getElem?_eq_getElem hi] at this
end Go.Proofs.YtjhbabgcoemecaaDoor
