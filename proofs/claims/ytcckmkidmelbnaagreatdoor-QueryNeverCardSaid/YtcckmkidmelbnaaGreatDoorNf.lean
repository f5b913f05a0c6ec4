/- Walks: Check of the reference (what both paths must be). -/
import Derived.Test.YtcckmkidmelbnaaGreatDoorNd
import Derived.Deep.RegionHeld3
import Derived.Deep.RegionWith
namespace Go.Proofs.YtcckmkidmelbnaaGreatDoor
open Go.RowKit

def errB (b : Bool) : Int := if b then 0 else 3
theorem node67_any {w : World} {r W : Nat} {L : List Nd} (h : RV w r W L) (t : Int) :
    Calls Tryz.prog 67 #[.pointer (some ⟨r, 0, none⟩), .int .i64 t] w fun e w' => ∃ o u a l c, e = .returned (.tuple #[.agg #[.int .u8 o, .int .u64 u, .slice a l c], .int .i64 (errB (isB L.length t))]) ∧ Below w.heap.size w w' := by
  obtain ⟨na, nc, cn, _⟩ := h.nodes
  cases hb : isB L.length t with
  | false => exact (node67_bad r L.length w cn t hb).mono fun e w' ⟨h1, h2⟩ => ⟨_, _, _, _, _, h1, h2⟩
  | true =>
    obtain ⟨j, rfl, hj⟩ := isB_nat hb
    exact (node67 h j hj).mono fun e w' ⟨ha, hc, h1, _, _, _, h2⟩ => ⟨_, _, _, _, _, h1, h2⟩
/-- an event of a channel or site that is there, with a term that is there -/
def evOk (nl nx : Nat) (p : Int × Int) : Bool := isB nl p.2 && inB nx p
set_option maxRecDepth 100000 in
set_option maxHeartbeats 4000000 in
theorem known68 {w : World} {r W : Nat} {L : List Nd} (h : RV w r W L) (nx : Nat) (ea : Option Addr) (ec : Nat) (es : List (Int × Int)) (hea : Lay.sev.At (0, 0) w ea es) (hsm : es.length ≤ 1000) :
    Calls Tryz.prog 68 #[.pointer (some ⟨r, 0, none⟩), .slice ea es.length ec, .int .i64 nx] w fun e w' => e = .returned (.bool (es.all (evOk L.length nx))) ∧ Below w.heap.size w w' := by
  have HE := Lib.hid hea
  have HN : Hid (∀ w', Below w.heap.size w w' → ∀ t : Int, Calls Tryz.prog 67 #[.pointer (some ⟨r, 0, none⟩), .int .i64 t] w' fun e w'' => ∃ o u a l c, e = .returned (.tuple #[.agg #[.int .u8 o, .int .u64 u, .slice a l c], .int .i64 (errB (isB L.length t))]) ∧ Below w'.heap.size w' w'') := Lib.hid fun w' hb t => node67_any (h.below hb) t
  clear hea h
  generalize L.length = nl at *
  have HF : Hid (es.take es.length = es) := Lib.hid List.take_length
  have HT : Hid (∀ k, k < es.length → es.take (k + 1) = es.take k ++ [es.getD k (0, 0)]) := Lib.hid fun k hk => take_getD _ _ k hk
  have HBD : Hid (∀ k, k < es.length → evOk nl nx (es.getD k (0, 0)) = false → es.all (evOk nl nx) = false) := Lib.hid fun k hk h => List.all_eq_false.2 ⟨_, getD_mem _ _ k hk, by rw [h]; decide⟩
  generalize hel : es.length = elen at *
  have HEL := Lib.hid hel
  clear hel
  go_enter Tryz.func68, Tryz.ntmps68
  go_wp2_with fail
  go_loopw [7] (fun i wr => ∃ k : Nat, k ≤ elen ∧ i = .int .i64 k ∧ Hid ((es.take k).all (evOk nl nx) = true) ∧ Below w.heap.size w wr) (fun i _ => elen - (intOf i).toNat)
  case atStart => exact ⟨0, by omega, rfl, Lib.hid (by simp), Below.refl _ _⟩
  case round =>
    obtain ⟨k, hk, rfl, HAL, hbel⟩ := hrel
    have HBE := Lib.hid hbel
    clear hbel
    by_cases hlt : k < elen
    · obtain ⟨pb, po, rfl, hpb, p0, p1⟩ := HE.out.sev (i := k) (by rw [HEL.out]; exact hlt)
      have c1 := (HBE.out.cell (p := ⟨pb, po + k * 2 + 1, none⟩) hpb).trans p1
      have HP0 := Lib.hid p0
      have HPB := Lib.hid hpb
      have HTK := Lib.hid (HT.out k hlt)
      have HBK := Lib.hid (HBD.out k hlt)
      have hki : (k : Int) < elen := by omega
      clear p0 p1 hpb
      generalize es.getD k (0, 0) = ev at *
      obtain ⟨N, T⟩ := ev
      simp only at c1 HP0
      have HNC := Lib.hid (HN.out wr HBE.out T)
      cases ht : isB nl T with
      | false =>
        rw [ht] at HNC
        have HR := Lib.hid (HBK.out (by simp [evOk, ht]))
        clear ht
        simp only [errB] at HNC
        go_wp2_with (go_at_call 67; refine HNC.out.mono ?_; rintro e w5 ⟨no, nu, na, nl', nc, rfl, hb5⟩; have HB5 := Lib.hid (HBE.out.trans (hb5.mono HBE.out.size)); clear hb5)
        go_ret
        exact ⟨by rw [HR.out]; rfl, HB5.out.alloc HB5.out.size _⟩
      | true =>
        rw [ht] at HNC
        have HTT := Lib.hid ht
        clear ht
        simp only [errB] at HNC
        by_cases h0 : N < 0
        · have HR := Lib.hid (HBK.out (by simp [evOk, inB]; omega))
          go_wp2_with (go_at_call 67; refine HNC.out.mono ?_; rintro e w5 ⟨no, nu, na, nl', nc, rfl, hb5⟩; have HB5 := Lib.hid (HBE.out.trans (hb5.mono HBE.out.size)); clear hb5; have c0 := ((HB5.out.alloc HB5.out.size (.cells #[.int .u8 no, .int .u64 nu, .slice na nl' nc] 141)).cell (p := ⟨pb, po + k * 2, none⟩) HPB.out).trans HP0.out)
          go_ret
          exact ⟨by rw [HR.out]; rfl, HB5.out.alloc HB5.out.size _⟩
        · have h0' : decide (N < 0) = false := by simpa using h0
          by_cases h1 : (nx : Int) ≤ N
          · have HR := Lib.hid (HBK.out (by simp [evOk, inB]; omega))
            go_wp2_with (go_at_call 67; refine HNC.out.mono ?_; rintro e w5 ⟨no, nu, na, nl', nc, rfl, hb5⟩; have HB5 := Lib.hid (HBE.out.trans (hb5.mono HBE.out.size)); clear hb5; have c0 := ((HB5.out.alloc HB5.out.size (.cells #[.int .u8 no, .int .u64 nu, .slice na nl' nc] 141)).cell (p := ⟨pb, po + k * 2, none⟩) HPB.out).trans HP0.out)
            go_ret
            exact ⟨by rw [HR.out]; rfl, HB5.out.alloc HB5.out.size _⟩
          · have h1' : decide ((nx : Int) ≤ N) = false := by simpa using h1
            have HI : Hid (evOk nl nx (N, T) = true) := Lib.hid (by simp only [evOk]; rw [HTT.out]; simp [inB]; omega)
            go_wp2_with (go_at_call 67; refine HNC.out.mono ?_; rintro e w5 ⟨no, nu, na, nl', nc, rfl, hb5⟩; have HB5 := Lib.hid (HBE.out.trans (hb5.mono HBE.out.size)); clear hb5; have c0 := ((HB5.out.alloc HB5.out.size (.cells #[.int .u8 no, .int .u64 nu, .slice na nl' nc] 141)).cell (p := ⟨pb, po + k * 2, none⟩) HPB.out).trans HP0.out)
            go_roundw
            case rel => exact ⟨k + 1, by omega, by go_num, Lib.hid (by rw [HTK.out, List.all_append, HAL.out]; simp [HI.out]), HB5.out.alloc HB5.out.size _⟩
            case measure => simp [intOf] <;> omega
    · obtain rfl : k = elen := by omega
      rw [HF.out] at HAL
      go_wp2_with fail
      go_ret
      exact ⟨by rw [HAL.out]; rfl, HBE.out⟩
/-- a path of this side and graph, as the reference asks -/
def rpathOk (nl nx ny : Nat) (p : PathN) : Bool := p.cs.all (isB nl) && (p.os.all (evOk nl nx) && p.rs.all (evOk nl ny))
theorem rpathOk_eq (nl nx ny : Nat) (p : PathN) : rpathOk nl nx ny p = pathOk nl nx ny p := by
  have key : ∀ (m : Nat) (l : List (Int × Int)), l.all (evOk nl m) = (l.all (inB m) && (l.map (·.2)).all (isB nl)) := fun m l => by
    induction l with
    | nil => rfl
    | cons x l ih =>
      simp only [List.all_cons, List.map_cons, ih, evOk]
      cases isB nl x.2 <;> cases inB m x <;> simp
  unfold rpathOk pathOk
  rw [key, key, List.all_append, List.all_append]
  cases p.cs.all (isB nl) <;> cases p.os.all (inB nx) <;> cases p.rs.all (inB ny) <;> simp
set_option maxRecDepth 100000 in
set_option maxHeartbeats 8000000 in
theorem path33 {w : World} {r W : Nat} {L : List Nd} (h : RV w r W L) {sb lb : Nat} {ca0 : Option Addr} {cc0 : Nat} {xs : List Int} {sa0 : Option Addr} {sc0 : Nat} {ys : List Int} (hs : SideAt w sb lb ca0 cc0 xs sa0 sc0 ys) (p : PathN) (hok : p.Ok w) (hsh : p.short) :
    Calls Tryz.prog 33 #[.pointer (some ⟨sb, 0, none⟩), .pointer (some ⟨r, 0, none⟩), p.v] w fun e w' => e = .returned (.bool (rpathOk L.length xs.length ys.length p)) ∧ Below w.heap.size w w' := by
  obtain ⟨ca, cc, cs, st, sp, oa, oc, os, ra, rc, rs, ba, bc, bs, ia, ic, is⟩ := p
  have HRP : Hid (rpathOk L.length xs.length ys.length ⟨ca, cc, cs, st, sp, oa, oc, os, ra, rc, rs, ba, bc, bs, ia, ic, is⟩ = (cs.all (isB L.length) && (os.all (evOk L.length xs.length) && rs.all (evOk L.length ys.length)))) := Lib.hid rfl
  have HN : Hid (∀ w', Below w.heap.size w w' → ∀ t : Int, Calls Tryz.prog 67 #[.pointer (some ⟨r, 0, none⟩), .int .i64 t] w' fun e w'' => ∃ o u a l c, e = .returned (.tuple #[.agg #[.int .u8 o, .int .u64 u, .slice a l c], .int .i64 (errB (isB L.length t))]) ∧ Below w'.heap.size w' w'') := Lib.hid fun w' hb t => node67_any (h.below hb) t
  have HKO : Hid (∀ w', Below w.heap.size w w' → Calls Tryz.prog 68 #[.pointer (some ⟨r, 0, none⟩), .slice oa os.length oc, .int .i64 xs.length] w' fun e w'' => e = .returned (.bool (os.all (evOk L.length xs.length))) ∧ Below w'.heap.size w' w'') := Lib.hid fun w' hb => known68 (h.below hb) xs.length oa oc os (hok.o.below hb) (by have : os.length ≤ 12 := hsh.2.1; omega)
  have HKR : Hid (∀ w', Below w.heap.size w w' → Calls Tryz.prog 68 #[.pointer (some ⟨r, 0, none⟩), .slice ra rs.length rc, .int .i64 ys.length] w' fun e w'' => e = .returned (.bool (rs.all (evOk L.length ys.length))) ∧ Below w'.heap.size w' w'') := Lib.hid fun w' hb => known68 (h.below hb) ys.length ra rc rs (hok.r.below hb) (by have : rs.length ≤ 12 := hsh.2.2.1; omega)
  have HC := Lib.hid hok.c
  have hcl : cs.length ≤ 12 := hsh.1
  have HSI : Hid (∀ w', Below w.heap.size w w' → w'.cell? ⟨sb, 1, none⟩ = some (.slice ca0 xs.length cc0) ∧ w'.cell? ⟨sb, 2, none⟩ = some (.slice sa0 ys.length sc0)) := Lib.hid fun w' hb => ⟨(hs.below hb).c1, (hs.below hb).c2⟩
  simp only [PathN.v]
  rw [HRP.out]
  clear h hs hok hsh HRP
  generalize L.length = nl at *
  generalize xs.length = nx at *
  generalize ys.length = ny at *
  have HBA : Hid (Below w.heap.size w (w.alloc (.cells #[.slice ca cs.length cc, .int .u8 st, .int .i64 sp, .slice oa os.length oc, .slice ra rs.length rc, .slice ba bs.length bc, .slice ia is.length ic] 28))) := Lib.hid ((Below.refl _ _).alloc (Nat.le_refl _) _)
  have g0 : (w.alloc (.cells #[.slice ca cs.length cc, .int .u8 st, .int .i64 sp, .slice oa os.length oc, .slice ra rs.length rc, .slice ba bs.length bc, .slice ia is.length ic] 28)).cell? ⟨w.heap.size, 0, none⟩ = some (.slice ca cs.length cc) := by rw [World.cell?_alloc_new]; rfl
  have g3 : (w.alloc (.cells #[.slice ca cs.length cc, .int .u8 st, .int .i64 sp, .slice oa os.length oc, .slice ra rs.length rc, .slice ba bs.length bc, .slice ia is.length ic] 28)).cell? ⟨w.heap.size, 3, none⟩ = some (.slice oa os.length oc) := by rw [World.cell?_alloc_new]; rfl
  have g4 : (w.alloc (.cells #[.slice ca cs.length cc, .int .u8 st, .int .i64 sp, .slice oa os.length oc, .slice ra rs.length rc, .slice ba bs.length bc, .slice ia is.length ic] 28)).cell? ⟨w.heap.size, 4, none⟩ = some (.slice ra rs.length rc) := by rw [World.cell?_alloc_new]; rfl
  have hgz : w.heap.size < (w.alloc (.cells #[.slice ca cs.length cc, .int .u8 st, .int .i64 sp, .slice oa os.length oc, .slice ra rs.length rc, .slice ba bs.length bc, .slice ia is.length ic] 28)).heap.size := by simp
  have HF : Hid (cs.take cs.length = cs) := Lib.hid List.take_length
  have HT : Hid (∀ k, k < cs.length → cs.take (k + 1) = cs.take k ++ [cs.getD k 0]) := Lib.hid fun k hk => take_getD _ _ k hk
  have HBD : Hid (∀ k, k < cs.length → isB nl (cs.getD k 0) = false → cs.all (isB nl) = false) := Lib.hid fun k hk h => List.all_eq_false.2 ⟨_, getD_mem _ _ k hk, by rw [h]; decide⟩
  generalize hcn : cs.length = cn at *
  have HCN := Lib.hid hcn
  clear hcn
  go_enter Tryz.func33, Tryz.ntmps33
  go_wp2_with fail
  generalize w.alloc (.cells #[.slice ca cn cc, .int .u8 st, .int .i64 sp, .slice oa os.length oc, .slice ra rs.length rc, .slice ba bs.length bc, .slice ia is.length ic] 28) = wp at *
  go_loopw [7] (fun i wr => ∃ k : Nat, k ≤ cn ∧ i = .int .i64 k ∧ Hid ((cs.take k).all (isB nl) = true) ∧ Below wp.heap.size wp wr) (fun i _ => cn - (intOf i).toNat)
  case atStart => exact ⟨0, by omega, rfl, Lib.hid (by simp), Below.refl _ _⟩
  case round =>
    obtain ⟨k, hk, rfl, HAL, hbel⟩ := hrel
    have HBX := Lib.hid hbel
    have HBE := Lib.hid (HBA.out.trans (hbel.mono (Nat.le_of_lt hgz)))
    have d0 := (hbel.cell (p := ⟨w.heap.size, 0, none⟩) hgz).trans g0
    clear hbel
    by_cases hlt : k < cn
    · obtain ⟨pb, po, rfl, hpb, p0⟩ := HC.out.int (i := k) (by rw [HCN.out]; exact hlt)
      have c1 := (HBE.out.cell (p := ⟨pb, po + k, none⟩) hpb).trans p0
      have HTK := Lib.hid (HT.out k hlt)
      have HBK := Lib.hid (HBD.out k hlt)
      have hki : (k : Int) < cn := by omega
      clear p0 hpb
      generalize cs.getD k 0 = T at *
      have HNC := Lib.hid (HN.out wr HBE.out T)
      cases ht : isB nl T with
      | false =>
        rw [ht] at HNC
        have HR := Lib.hid (HBK.out ht)
        clear ht
        simp only [errB] at HNC
        go_wp2_with (go_at_call 67; refine HNC.out.mono ?_; rintro e w5 ⟨no, nu, na, nl', nc, rfl, hb5⟩; have HB5 := Lib.hid (HBE.out.trans (hb5.mono HBE.out.size)); clear hb5)
        go_ret
        exact ⟨by rw [HR.out]; rfl, HB5.out.alloc HB5.out.size _⟩
      | true =>
        rw [ht] at HNC
        have HTT := Lib.hid ht
        clear ht
        simp only [errB] at HNC
        go_wp2_with (go_at_call 67; refine HNC.out.mono ?_; rintro e w5 ⟨no, nu, na, nl', nc, rfl, hb5⟩; have HB5 := Lib.hid (HBX.out.trans (hb5.mono HBX.out.size)); clear hb5)
        go_roundw
        case rel => exact ⟨k + 1, by omega, by go_num, Lib.hid (by rw [HTK.out, List.all_append, HAL.out]; simp [HTT.out]), HB5.out.alloc HB5.out.size _⟩
        case measure => simp [intOf] <;> omega
    · obtain rfl : k = cn := by omega
      rw [HF.out] at HAL
      have d3 := (HBX.out.cell (p := ⟨w.heap.size, 3, none⟩) hgz).trans g3
      have d4 := (HBX.out.cell (p := ⟨w.heap.size, 4, none⟩) hgz).trans g4
      have hgw : w.heap.size < wr.heap.size := Nat.lt_of_lt_of_le hgz HBX.out.size
      have HS : Hid (∀ w', Below wr.heap.size wr w' → w'.cell? ⟨w.heap.size, 3, none⟩ = some (.slice oa os.length oc) ∧ w'.cell? ⟨w.heap.size, 4, none⟩ = some (.slice ra rs.length rc) ∧ w'.cell? ⟨sb, 1, none⟩ = some (.slice ca0 nx cc0) ∧ w'.cell? ⟨sb, 2, none⟩ = some (.slice sa0 ny sc0) ∧ Below wr.heap.size wr w') := Lib.hid fun w' hb =>
        ⟨(hb.cell (p := ⟨w.heap.size, 3, none⟩) hgw).trans d3, (hb.cell (p := ⟨w.heap.size, 4, none⟩) hgw).trans d4, (HSI.out w' (HBE.out.trans (hb.mono HBE.out.size))).1, (HSI.out w' (HBE.out.trans (hb.mono HBE.out.size))).2, hb⟩
      go_wp2_with fail
      cases hko : os.all (evOk nl nx) with
      | false =>
        rw [hko] at HKO
        refine wp_region_held_drew (S := (fun w' => w'.cell? ⟨w.heap.size, 3, none⟩ = some (.slice oa os.length oc) ∧ w'.cell? ⟨w.heap.size, 4, none⟩ = some (.slice ra rs.length rc) ∧ w'.cell? ⟨sb, 1, none⟩ = some (.slice ca0 nx cc0) ∧ w'.cell? ⟨sb, 2, none⟩ = some (.slice sa0 ny sc0) ∧ Below wr.heap.size wr w')) (by kernel_rfl) (HS.out _ (Below.refl _ _).drew) ?_
        intro hS0
        refine wpAnyH_take (i := 0) (v := ?v0) rfl (by kernel_rfl) (by kernel_rfl) (by kernel_rfl) (fun _ _ _ h => h) (Or.inl ⟨by kernel_rfl, ?hy0⟩) (by assumption) ?rest0
        case hy0 => (intro w' hSw; (try dsimp only at hSw); go_simp; first | done | with_reducible rfl)
        (try simp only [Act.put, List.setIfInBounds_toArray])
        refine wpAnyH_take (i := 1) (v := ?v1) rfl (by kernel_rfl) (by kernel_rfl) (by kernel_rfl) (fun _ _ _ h => h) (Or.inl ⟨by kernel_rfl, ?hy1⟩) (by assumption) ?rest1
        case hy1 => (intro w' hSw; (try dsimp only at hSw); go_simp; first | done | with_reducible rfl)
        (try simp only [Act.put])
        refine wpAnyH_take (i := 2) (v := ?v2) rfl (by kernel_rfl) (by kernel_rfl) (by kernel_rfl) (fun _ _ _ h => h) (Or.inl ⟨by kernel_rfl, ?hy2⟩) (by assumption) ?rest2
        case hy2 => (intro w' hSw; (try dsimp only at hSw); go_simp; first | done | with_reducible rfl)
        (try simp only [Act.put])
        refine wpAnyH_take (i := 3) (v := ?v3) rfl (by kernel_rfl) (by kernel_rfl) (by kernel_rfl) (fun _ _ _ h => h) (Or.inl ⟨by kernel_rfl, ?hy3⟩) (by assumption) ?rest3
        case hy3 => (intro w' hSw; (try dsimp only at hSw); go_simp; first | done | with_reducible rfl)
        (try simp only [Act.put])
        refine wpAnyH_take (i := 4) (v := ?v4) rfl (by kernel_rfl) (by kernel_rfl) (by kernel_rfl) (fun _ _ _ h => h) (Or.inl ⟨by kernel_rfl, ?hy4⟩) (by assumption) ?rest4
        case hy4 => (intro w' hSw; (try dsimp only at hSw); go_simp; first | done | with_reducible rfl)
        (try simp only [Act.put])
        refine wpAnyH_take (i := 5) (v := ?v5) rfl (by kernel_rfl) (by kernel_rfl) (by kernel_rfl) (fun _ _ _ h => h) (Or.inl ⟨by kernel_rfl, ?hy5⟩) (by assumption) ?rest5
        case hy5 => (intro w' hSw; (try dsimp only at hSw); go_simp; first | done | with_reducible rfl)
        (try simp only [Act.put])
        refine wpAnyH_take (i := 6) (v := ?v6) rfl (by kernel_rfl) (by kernel_rfl) (by kernel_rfl) (fun _ _ _ h => h) (Or.inl ⟨by kernel_rfl, ?hy6⟩) (by assumption) ?rest6
        case hy6 => (intro w' hSw; (try dsimp only at hSw); go_simp; first | done | with_reducible rfl)
        (try simp only [Act.put])
        refine wpAnyH_take (i := 7) (v := ?v7) rfl (by kernel_rfl) (by kernel_rfl) (by kernel_rfl) (fun _ _ _ h => h) (Or.inl ⟨by kernel_rfl, ?hy7⟩) (by assumption) ?rest7
        case hy7 => (intro w' hSw; (try dsimp only at hSw); go_simp; first | done | with_reducible rfl)
        (try simp only [Act.put])
        refine wpAnyH_ready (rs := [8]) (by kernel_rfl) (by simp) ?_
        refine AllReadyH.cons rfl (fun K hK => ?_) AllReadyH.nil
        go_simp
        refine (HKO.out _ (HBE.out.trans ((Below.refl _ _).drew.mono HBE.out.size))).mono ?_
        rintro e wB ⟨rfl, hB⟩
        have KB0 : Hid (Below wr.heap.size wr wB) := Lib.hid ((Below.refl _ _).drew.trans hB)
        have KB := Lib.hid (HBE.out.trans (KB0.out.mono HBE.out.size))
        clear hB
        dsimp only
        refine hK.out _ _ (HS.out _ KB0.out) ?_
        intro hS1
        (try simp only [Act.put, List.setIfInBounds_toArray, List.set_cons_zero, List.set_cons_succ])
        refine wpAnyH_take (i := 9) (v := ?v9) rfl (by kernel_rfl) (by kernel_rfl) (by kernel_rfl) (fun _ _ _ h => h) (Or.inl ⟨by kernel_rfl, ?hy9⟩) (by assumption) ?rest9
        case hy9 => (intro w' hSw; (try dsimp only at hSw); go_simp; first | done | with_reducible rfl)
        (try simp only [Act.put, List.setIfInBounds_toArray])
        refine wpAnyH_take (i := 10) (v := undef) rfl (by kernel_rfl) (by kernel_rfl) (by kernel_rfl) (fun _ _ _ h => h) (Or.inr ⟨by kernel_rfl, rfl⟩) (by assumption) ?_
        (try simp only [Act.put])
        refine wpAnyH_take (i := 11) (v := undef) rfl (by kernel_rfl) (by kernel_rfl) (by kernel_rfl) (fun _ _ _ h => h) (Or.inr ⟨by kernel_rfl, rfl⟩) (by assumption) ?_
        (try simp only [Act.put])
        refine wpAnyH_take (i := 12) (v := undef) rfl (by kernel_rfl) (by kernel_rfl) (by kernel_rfl) (fun _ _ _ h => h) (Or.inr ⟨by kernel_rfl, rfl⟩) (by assumption) ?_
        (try simp only [Act.put])
        refine wpAnyH_take (i := 13) (v := undef) rfl (by kernel_rfl) (by kernel_rfl) (by kernel_rfl) (fun _ _ _ h => h) (Or.inr ⟨by kernel_rfl, rfl⟩) (by assumption) ?_
        (try simp only [Act.put])
        refine wpAnyH_take (i := 14) (v := undef) rfl (by kernel_rfl) (by kernel_rfl) (by kernel_rfl) (fun _ _ _ h => h) (Or.inr ⟨by kernel_rfl, rfl⟩) (by assumption) ?_
        (try simp only [Act.put])
        refine wpAnyH_take (i := 15) (v := undef) rfl (by kernel_rfl) (by kernel_rfl) (by kernel_rfl) (fun _ _ _ h => h) (Or.inr ⟨by kernel_rfl, rfl⟩) (by assumption) ?_
        (try simp only [Act.put])
        refine wpAnyH_take (i := 16) (v := undef) rfl (by kernel_rfl) (by kernel_rfl) (by kernel_rfl) (fun _ _ _ h => h) (Or.inr ⟨by kernel_rfl, rfl⟩) (by assumption) ?_
        (try simp only [Act.put])
        refine wpAnyH_take (i := 17) (v := undef) rfl (by kernel_rfl) (by kernel_rfl) (by kernel_rfl) (fun _ _ _ h => h) (Or.inr ⟨by kernel_rfl, rfl⟩) (by assumption) ?_
        (try simp only [Act.put])
        refine wpAnyH_take (i := 18) (v := undef) rfl (by kernel_rfl) (by kernel_rfl) (by kernel_rfl) (fun _ _ _ h => h) (Or.inr ⟨by kernel_rfl, rfl⟩) (by assumption) ?_
        (try simp only [Act.put])
        refine wpAnyH_take (i := 19) (v := ?v19) rfl (by kernel_rfl) (by kernel_rfl) (by kernel_rfl) (fun _ _ _ h => h) (Or.inl ⟨by kernel_rfl, ?hy19⟩) (by assumption) ?rest19
        case hy19 => (intro w' hSw; (try dsimp only at hSw); go_simp; first | done | with_reducible rfl)
        (try simp only [Act.put])
        refine wpAnyH_take (i := 20) (v := ?v20) rfl (by kernel_rfl) (by kernel_rfl) (by kernel_rfl) (fun _ _ _ h => h) (Or.inl ⟨by kernel_rfl, ?hy20⟩) (by assumption) ?rest20
        case hy20 => (intro w' hSw; (try dsimp only at hSw); go_simp; first | done | with_reducible rfl)
        (try simp only [Act.put])
        (simp only [List.getElem_toArray, List.getElem_cons_succ, List.getElem_cons_zero, List.setIfInBounds_toArray, List.set_cons_zero, List.set_cons_succ])
        refine wpAnyH_done (by kernel_rfl) ?_ _
        all_goals
          go_wp2_with fail
          go_ret
          exact ⟨by first | rfl | (rw [HAL.out, hko]; rfl), by first | exact KB.out | exact KB.out.drew⟩
      | true =>
        rw [hko] at HKO
        go_region_held3 (fun w' => w'.cell? ⟨w.heap.size, 3, none⟩ = some (.slice oa os.length oc) ∧ w'.cell? ⟨w.heap.size, 4, none⟩ = some (.slice ra rs.length rc) ∧ w'.cell? ⟨sb, 1, none⟩ = some (.slice ca0 nx cc0) ∧ w'.cell? ⟨sb, 2, none⟩ = some (.slice sa0 ny sc0) ∧ Below wr.heap.size wr w')
          (first | exact HS.out _ (Below.refl _ _) | exact HS.out _ (Below.refl _ _).drew | exact HS.out _ KB2.out | exact HS.out _ KB2.out.drew | exact HS.out _ KB.out | exact HS.out _ KB.out.drew | exact HS.out _ (‹_ ∧ _ ∧ _ ∧ _ ∧ Below _ _ _›).2.2.2.2 | exact HS.out _ (‹_ ∧ _ ∧ _ ∧ _ ∧ Below _ _ _›).2.2.2.2.drew)
          (first
            | (go_at_call 68
               refine (HKR.out _ (HBE.out.trans (KB.out.mono HBE.out.size))).mono ?_
               rintro e wC ⟨rfl, hC⟩
               have KB2 := Lib.hid (KB.out.trans (hC.mono KB.out.size)))
            | (go_at_call 68
               refine (HKR.out _ (HBE.out.trans (KB.out.drew.mono HBE.out.size))).mono ?_
               rintro e wC ⟨rfl, hC⟩
               have KB2 := Lib.hid (KB.out.drew.trans (hC.mono KB.out.size)))
            | (go_at_call 68
               refine (HKO.out _ (HBE.out.trans ((‹_ ∧ _ ∧ _ ∧ _ ∧ Below _ _ _›).2.2.2.2.mono HBE.out.size))).mono ?_
               rintro e wB ⟨rfl, hB⟩
               have KB := Lib.hid ((‹_ ∧ _ ∧ _ ∧ _ ∧ Below _ _ _›).2.2.2.2.trans (hB.mono (‹_ ∧ _ ∧ _ ∧ _ ∧ Below _ _ _›).2.2.2.2.size))))
        all_goals
          go_wp2_with fail
          go_ret
          exact ⟨by rw [HAL.out, hko]; rfl, by first | exact HBE.out.trans (KB2.out.mono HBE.out.size) | exact HBE.out.trans (KB2.out.drew.mono HBE.out.size)⟩
end Go.Proofs.YtcckmkidmelbnaaGreatDoor
