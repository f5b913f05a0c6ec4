/- A text that is rejected: the declarations, and the lines. -/
import Derived.Test.YtekbkaipdmklpaaGreatDoorPr
import Derived.Test.YtekbkaipdmklpaaGreatDoorSo
import Derived.Deep.Cut
namespace Go.Proofs.YtekbkaipdmklpaaGreatDoor
namespace Cr
open Go Go.RowKit

def muG : Mu := ⟨fun i => if i < 9 then some (i, 0) else none, fun _ => 0, fun _ => .deferred none⟩
theorem start_hr (w : World) : HR GG w.heap.size w (litH [] 9) muG w := by
  refine ⟨fun i x hx => ?_, fun i j x y hx => ?_, fun i x hx => ?_, fun i p hp => ?_, fun g hg => if_pos hg, by show 9 < _; omega, Below.refl _ _, Nat.le_refl _⟩
  · cases hx
  · cases hx
  · cases hx
  · show i < 9
    rcases Nat.lt_or_ge i 9 with h | h
    · exact h
    · have : muG i = none := if_neg (by omega)
      rw [this] at hp; cases hp
def chanB : ByteArray := ⟨⟨[99, 104, 97, 110].map UInt8.ofNat⟩⟩
def declM : List (Nat × Lb) := [(9, .m true [(sv [119, 105, 100, 116, 104], .agg ⟨[iv 0, iv 0, fnv 177]⟩), (sv [99, 104, 97, 110], .agg ⟨[iv 1, iv 1, fnv 178]⟩), (sv [97, 114, 114, 97, 121], .agg ⟨[iv 1, iv 2, fnv 179]⟩), (sv [102, 117, 110, 99], .agg ⟨[iv 1, iv 3, fnv 180]⟩), (sv [109, 97, 105, 110], .agg ⟨[iv 1, iv 3, fnv 181]⟩)])]
set_option maxRecDepth 1000000 in
theorem decl_run : litRun callX 123 [] (litH [] 9) (.map (some 9)) declM 10 = true := by kernel_rfl
theorem decl_calls (w : World) : Calls PR 123 ⟨[]⟩ w fun e w' => ∃ b, e = .returned (.map (some b)) ∧ Below w.heap.size w w' ∧ ∀ w'', Below w'.heap.size w' w'' → (Instr.lookup 292 (.map (some b)) (.string chanB) true).run PR w'' = .ok (.tuple #[.agg #[.int .i64 1, .int .i64 1, .func (.func 178) #[] #[]], .bool true]) w'' := by
  refine (lit_calls (callX_okS _ _) decl_run (LR.nil muG) (start_hr w)).mono ?_
  rintro e w' ⟨v', μ', rfl, hv, hx, hr⟩
  cases hv with
  | map _ b hb =>
  refine ⟨b, rfl, hr.below, fun w'' hb'' => ?_⟩
  have hr2 := hr.beside hb''
  obtain ⟨u, h1, h2⟩ := rLook_ok (P := PR) (d := 100) (ks := (shp PR 100 9).getD []) (ti := (PR.info? 290).getD default) (z := ((PR.info? 290).getD default).zero.getD undef) (ok := true) (v := .tuple ⟨[.agg ⟨[iv 1, iv 1, fnv 178]⟩, .bool true]⟩) hr2 Tryz.underlying292 (by decide) (by kernel_rfl) Tryz.underlying9 (by kernel_rfl) (by kernel_rfl) (by kernel_rfl) (k := .string chanB) (VR.map 9 b hb) (VR.string chanB) (by kernel_rfl)
  rw [h1]
  cases h2 with
  | tuple c c' hl hh =>
    have h3 : LR μ' [.agg ⟨[iv 1, iv 1, fnv 178]⟩, .bool true] c' := ⟨hl, hh⟩
    obtain ⟨v0, r0, rfl, k0, h3⟩ := h3.cons_inv
    obtain ⟨v1, r1, rfl, k1, h3⟩ := h3.cons_inv
    obtain rfl := h3.nil_inv
    cases k1
    cases k0 with
    | agg d d' el eh =>
      have h3 : LR μ' [iv 1, iv 1, fnv 178] d' := ⟨el, eh⟩
      obtain ⟨v0, r0, rfl, k0, h3⟩ := h3.cons_inv
      obtain ⟨v1, r1, rfl, k1, h3⟩ := h3.cons_inv
      obtain ⟨v2, r2, rfl, k2, h3⟩ := h3.cons_inv
      obtain rfl := h3.nil_inv
      have k0 : VR μ' (.int .i64 (.ofNat 1)) v0 := k0
      have k1 : VR μ' (.int .i64 (.ofNat 1)) v1 := k1
      have k2 : VR μ' (.func (.func 178) ⟨[]⟩ ⟨[]⟩) v2 := k2
      cases k0; cases k1
      cases k2 with
      | func fn f c f' c' hy hl1 hl2 g1 g2 =>
        cases f' with
        | cons _ _ => cases hl1
        | nil => cases c' with
          | cons _ _ => cases hl2
          | nil => rfl
end Cr
end Go.Proofs.YtekbkaipdmklpaaGreatDoor
