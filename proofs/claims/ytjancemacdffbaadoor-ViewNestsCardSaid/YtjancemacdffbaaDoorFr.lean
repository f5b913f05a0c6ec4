/- What the frames of this seat's proofs share: the de Bruijn table as the rows list it; a world for the witnesses. -/
import Derived.Test.YtjancemacdffbaaDoorCards
import Derived.Test.YtjancemacdffbaaDoorTie
import Derived.Test.YtjancemacdffbaaDoorLw1
import Derived.WalkKit
import Derived.ProofKit
import Derived.OpenShut
import Derived.Deep.DeepHandedRow
import Derived.Lib.LaidTab
import Derived.Below
import Derived.ChangeSame
import Derived.Carry
namespace Go.Proofs.YtjancemacdffbaaDoor
open Go.ChangeShapes Go.WideShapes Go.ChangeAt Go.RowKit

/-- The last step of each row here: a law without listed results or variables, behind which nothing of the old memory has changed. -/
theorem post_low {H : Type} {enc : TypeId × Value → H} {f : Func} {s : ChangeSpec} {W W' : World} {args : Array Value} {b : Bool} {ds : List (DataW H)} {places : List MemPlace}
    (hvs : s.vars = []) (hfn : s.fn H (ds ++ []) = { results := [.lit (.bool true)], args := ds }) (hrt : f.resultTypes = #[4]) (hb1 : b = true)
    (hW : DataW.Whole enc Tryd.prog f.params.toList s.vars false W args.toList ds [] places)
    (hargs : ∀ sp : Nat → Bool, (∀ p ∈ places, sp p.block = true) → DataW.TrodAll enc Tryd.prog W' 0 sp true f.params.toList args.toList ds places)
    (hb : Below W.heap.size W W') : s.post enc Tryd.prog f false true false false W args (.bool b) W' := by
  subst hb1
  have hlow : ∀ p ∈ places, p.block < W.heap.size := hW.lt
  have hold : ∀ p ∈ places, (fun b => decide (b < W.heap.size)) p.block = true := fun p hp => decide_eq_true (hlow p hp)
  have hres : ∀ (b : Nat) (sp : Nat → Bool) (hd : Bool), DataW.TrodAll enc Tryd.prog W' b sp hd f.resultTypes.toList ((Value.bool true).resultList f.resultTypes.size) (s.fn H (ds ++ [])).results [] := fun _ _ _ => by
    rw [hfn, hrt]; exact trodAll_cons_mk (shut_bool Tryd.underlying4 _) trodAll_mk0
  have hvars : ∀ sp : Nat → Bool, DataW.TrodVars enc Tryd.prog W' sp s.vars (s.fn H (ds ++ [])).vars [] := fun _ => by rw [hfn, hvs]; rfl
  have harg' : ∀ sp : Nat → Bool, (∀ p ∈ places, sp p.block = true) → DataW.TrodAll enc Tryd.prog W' 0 sp true f.params.toList args.toList (s.fn H (ds ++ [])).args places := fun sp hsp => by rw [hfn]; exact hargs sp hsp
  refine ⟨ds, [], places, [], places, [], hW, hres _ _ _, harg' _ hold, hvars _, World.keptBut_mono (fun p hp => ⟨hp, Or.inr (Or.inl hp)⟩) (hb.frame (· ∈ places)), fun _ => ?_⟩
  obtain ⟨_, _, _, _, _, hz, hn⟩ := hW
  refine ⟨?_, _, _, ([] ++ places) ++ [], ⟨[] ++ places, [], trodAll_append (harg' _ (fun _ _ => rfl)) (hres _ _ _), hvars _, rfl, fun b off hp => ?_, fun ha => absurd ha (by decide)⟩, fun p hp _ => by simpa using hp⟩
  · exact ok_one hrt rfl (okWide_bool_mk Tryd.underlying4 _)
  · have hin : MemPlace.cell b off ∈ places := by simpa using hp
    rw [hb.frozen (hlow _ hin)]
    exact hz b off hin

theorem own : ownKnob Tryd.prog.godebug = none := by kernel_rfl
theorem gTab : Tryd.prog.globalNamed "math/bits.deBruijn32tab" = some 0 := by kernel_rfl
theorem gTabType : (Tryd.prog.globals[0]?).map (·.type) = some 98 := by kernel_rfl
theorem cells98 : Tryd.prog.cellsOf 98 = 32 := by kernel_rfl
theorem cells5 : Tryd.prog.cellsOf 5 = 1 := by kernel_rfl

def tabZ : List Int := [0, 1, 28, 2, 29, 14, 24, 3, 30, 22, 20, 15, 25, 17, 4, 8, 31, 27, 13, 23, 21, 19, 16, 7, 26, 12, 18, 6, 11, 5, 10, 9]
theorem table {W : World} (h : laidMetH Tryd.prog [("math/bits.deBruijn32tab", Rows.laid_math_bits_deBruijn32tab)] W) : Lib.TabIs Tryd.prog W "math/bits.deBruijn32tab" .u8 tabZ :=
  Lib.tabIs_of_head (rest := []) gTab gTabType Tryd.underlying98 Tryd.underlying5 cells5 cells98 h
theorem tabZ_at : ∀ i, i < 32 → tabZ.getD i 0 = ((Lib.deBruijn32tab.getD i 0 : Nat) : Int) := by decide
theorem tab_of {W : World} (h : laidMetH Tryd.prog [("math/bits.deBruijn32tab", Rows.laid_math_bits_deBruijn32tab)] W) : Tab W := fun i hi => by
  have := (table h).cell gTab i hi
  rw [tabZ_at i hi] at this
  exact this
theorem pos_of {W : World} (h : Tab W) : 0 < W.heap.size := World.block_lt_of_cell? W ⟨0, 0, none⟩ (h 0 (by decide))

/-- A WORLD FOR THE WITNESSES: the settled one, the table (block 0) holding what its initialiser lays. -/
noncomputable def laidWorld (os : Os) : World :=
  { World.holding Tryd.prog os ⟨#[], #[], []⟩ with heap := (World.holding Tryd.prog os ⟨#[], #[], []⟩).heap.modify 0 fun
      | .cells _ t frozen => .cells #[.int .u8 0, .int .u8 1, .int .u8 28, .int .u8 2, .int .u8 29, .int .u8 14, .int .u8 24, .int .u8 3, .int .u8 30, .int .u8 22, .int .u8 20, .int .u8 15, .int .u8 25, .int .u8 17, .int .u8 4, .int .u8 8, .int .u8 31, .int .u8 27, .int .u8 13, .int .u8 23, .int .u8 21, .int .u8 19, .int .u8 16, .int .u8 7, .int .u8 26, .int .u8 12, .int .u8 18, .int .u8 6, .int .u8 11, .int .u8 5, .int .u8 10, .int .u8 9] t frozen
      | o => o }
end Go.Proofs.YtjancemacdffbaaDoor
