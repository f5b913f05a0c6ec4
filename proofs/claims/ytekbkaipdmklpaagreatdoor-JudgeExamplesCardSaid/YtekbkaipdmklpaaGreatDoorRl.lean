/- A text that is rejected: parse.Parse. -/
import Derived.Test.YtekbkaipdmklpaaGreatDoorRj
namespace Go.Proofs.YtekbkaipdmklpaaGreatDoor
namespace Cr
open Go Go.RowKit

/-- a program that begins with the declaration of a channel -/
def rejT : List Nat := [99, 104, 97, 110, 32, 112, 117, 98, 10, 99, 104, 97, 110, 32, 115, 101, 99, 10, 109, 97, 105, 110, 10, 105, 110, 32, 104, 32, 115, 101, 99, 10, 98, 32, 61, 32, 101, 113, 32, 104, 32, 51, 10, 105, 102, 32, 98, 32, 76, 10, 111, 117, 116, 32, 112, 117, 98, 32, 49, 10, 104, 97, 108, 116, 10, 76, 58, 10, 111, 117, 116, 32, 112, 117, 98, 32, 49, 10, 101, 110, 100, 10]
def rejS : Value := sv rejT
def slv (b n : Nat) : Value := .slice (some ⟨b, 0, none⟩) n (Nat.add 73786976294838206464 n)
def linM : List (Nat × Lb) := [(19, .c true 6 [sv [99, 104, 97, 110], iv 1, iv 1, sv [112, 117, 98], iv 1, iv 6]), (87, .c true 11 [slv 19 2, slv 25 2, slv 29 1, slv 37 3, slv 49 5, slv 57 3, slv 65 3, slv 69 1, slv 73 1, slv 81 3, slv 85 1])]
def linV : Value := .tuple ⟨[.slice (some ⟨87, 0, none⟩) 11 (Nat.add 36893488147419103232 11), .agg ⟨[iv 0, iv 0]⟩, iv 0]⟩
set_option maxRecDepth 1000000 in
theorem lines_run : litRun callX 27 [sv rejT] (litH [] 9) linV linM 88 = true := by kernel_rfl
theorem cells_at {G B : Nat} {w0 : W0} {l : List (Nat × Lb)} {next : Nat} {μ : Mu} {w : World} (hr : HR G B w0 (litH l next) μ w) {i : Nat} {rw : Bool} {n : Nat} {vs : List Value} (hg : (litH l next).get i = some (.cells rw n n vs .nil)) (hn : vs.length = n) {b o : Nat} (hm : μ i = some (b, o)) {k : Nat} (hk : k < vs.length) :
    b < w.heap.size ∧ ∃ u, w.cell? ⟨b, o + k, none⟩ = some u ∧ VR μ vs[k] u := by
  have hb := hr.blk i _ hg b o hm
  have hlt := hb.lt
  obtain ⟨cur, e, fz, h1, _, h3⟩ := hb
  obtain ⟨u, hu, hv⟩ := h3 k (by omega)
  refine ⟨hlt, u, by simp [World.cell?, h1, hu], ?_⟩
  rw [cellv_list hn hk] at hv
  exact hv
theorem lines_calls (w : World) : Calls PR 27 ⟨[rejS]⟩ w fun e w' => ∃ ob oo cl wb wo c2, e = .returned (.tuple #[.slice (some ⟨ob, oo, none⟩) 11 cl, .agg #[.int .i64 0, .int .i64 0], .int .i64 0]) ∧ Below w.heap.size w w' ∧ ob < w'.heap.size ∧ wb < w'.heap.size ∧
    w'.cell? ⟨ob, oo, none⟩ = some (.slice (some ⟨wb, wo, none⟩) 2 c2) ∧ w'.cell? ⟨wb, wo, none⟩ = some (.string chanB) ∧ w'.cell? ⟨wb, wo + 1, none⟩ = some (.int .i64 1) ∧ w'.cell? ⟨wb, wo + 2, none⟩ = some (.int .i64 1) := by
  have harg : LR muG [sv rejT] [rejS] := LR.cons (.string _) (LR.nil _)
  refine (lit_calls (callX_okS _ _) lines_run harg (start_hr w)).mono ?_
  rintro e w' ⟨v', μ', rfl, hv, hx, hr⟩
  have h1 : LR μ' [.slice (some ⟨87, 0, none⟩) 11 (Nat.add 36893488147419103232 11), .agg ⟨[iv 0, iv 0]⟩, iv 0] (match v' with | .tuple c => c.toList | _ => []) ∧ ∃ l, v' = .tuple ⟨l⟩ := by
    unfold linV at hv
    cases hv with
    | tuple c c' hl hh => exact ⟨⟨hl, hh⟩, c', rfl⟩
  obtain ⟨h1, l, rfl⟩ := h1
  obtain ⟨v0, r0, e0, k0, h1⟩ := h1.cons_inv
  obtain ⟨v1, r1, rfl, k1, h1⟩ := h1.cons_inv
  obtain ⟨v2, r2, rfl, k2, h1⟩ := h1.cons_inv
  obtain rfl := h1.nil_inv
  change l = _ at e0
  subst e0
  have k2 : VR μ' (.int .i64 (.ofNat 0)) v2 := k2
  cases k2
  cases k0 with
  | sl _ ob oo _ _ _ cl hm hc =>
  have g87 : (litH linM 88).get 87 = some (.cells true 11 11 [slv 19 2, slv 25 2, slv 29 1, slv 37 3, slv 49 5, slv 57 3, slv 65 3, slv 69 1, slv 73 1, slv 81 3, slv 85 1] .nil) := by kernel_rfl
  have g19 : (litH linM 88).get 19 = some (.cells true 6 6 [sv [99, 104, 97, 110], iv 1, iv 1, sv [112, 117, 98], iv 1, iv 6] .nil) := by kernel_rfl
  obtain ⟨hob, u, hu, hv⟩ := cells_at hr g87 rfl hm (k := 0) (by decide)
  have hv : VR μ' (.slice (some ⟨19, 0, none⟩) 2 (Nat.add 73786976294838206464 2)) u := hv
  cases hv with
  | sl _ wb wo _ _ _ c2 hm2 hc2 =>
  obtain ⟨hwb, u0, hu0, hv0⟩ := cells_at hr g19 rfl hm2 (k := 0) (by decide)
  obtain ⟨_, u1, hu1, hv1⟩ := cells_at hr g19 rfl hm2 (k := 1) (by decide)
  obtain ⟨_, u2, hu2, hv2⟩ := cells_at hr g19 rfl hm2 (k := 2) (by decide)
  have hv0 : VR μ' (.string chanB) u0 := hv0
  have hv1 : VR μ' (.int .i64 (.ofNat 1)) u1 := hv1
  have hv2 : VR μ' (.int .i64 (.ofNat 1)) u2 := hv2
  cases hv0; cases hv1; cases hv2
  cases k1 with
  | agg d d' el eh =>
    have h3 : LR μ' [iv 0, iv 0] d' := ⟨el, eh⟩
    obtain ⟨a0, r0, rfl, j0, h3⟩ := h3.cons_inv
    obtain ⟨a1, r1, rfl, j1, h3⟩ := h3.cons_inv
    obtain rfl := h3.nil_inv
    have j0 : VR μ' (.int .i64 (.ofNat 0)) a0 := j0
    have j1 : VR μ' (.int .i64 (.ofNat 0)) a1 := j1
    cases j0; cases j1
    exact ⟨ob, oo + 0, cl, wb, wo + 0, c2, rfl, hr.below, hob, hwb, hu, hu0, hu1, hu2⟩
end Cr
end Go.Proofs.YtekbkaipdmklpaaGreatDoor
