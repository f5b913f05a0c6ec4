/- A world for the witness: the heap that the door's own run leaves; the last step of the row. -/
import Derived.Test.YtekbkaipdmklpaaGreatDoorFr
import Derived.LaidHandle
import Derived.LaidLaws
import Derived.Deep.DeepHandedRow
namespace Go.Proofs.YtekbkaipdmklpaaGreatDoor
open Go.ChangeShapes Go.WideShapes Go.ChangeAt Go.RowKit
set_option maxRecDepth 100000
theorem own : ownKnob Tryz.prog.godebug = none := by kernel_rfl
noncomputable def laidWorld (os : Os) : World := World.doorLaid Tryz.prog 131 os
theorem laid_met (os : Os) (args : Array Value) : laidMetH Tryz.prog Rows.judgeExamplesRow.laid ((laidWorld os).forCall (fun _ _ => 0) ⟨#[], args, []⟩).memory :=
  laidMetH_of_parts3 (fuel := 8) (laidMet_of_run' 8 (by kernel_rfl) (by kernel_rfl)) (by kernel_rfl) (by kernel_rfl)
/-- The last step of each row here: a law without listed results or variables, behind which nothing of the old memory has changed. -/
theorem post_low {H : Type} {enc : TypeId × Value → H} {f : Func} {s : ChangeSpec} {W W' : World} {args : Array Value} {b : Bool} {ds : List (DataW H)} {places : List MemPlace}
    (hvs : s.vars = []) (hfn : s.fn H (ds ++ []) = { results := [.lit (.bool true)], args := ds }) (hrt : f.resultTypes = #[4]) (hb1 : b = true)
    (hW : DataW.Whole enc Tryz.prog f.params.toList s.vars false W args.toList ds [] places)
    (hargs : ∀ sp : Nat → Bool, (∀ p ∈ places, sp p.block = true) → DataW.TrodAll enc Tryz.prog W' 0 sp true f.params.toList args.toList ds places)
    (hb : Below W.heap.size W W') : s.post enc Tryz.prog f false true false false W args (.bool b) W' := by
  subst hb1
  have hlow : ∀ p ∈ places, p.block < W.heap.size := hW.lt
  have hold : ∀ p ∈ places, (fun b => decide (b < W.heap.size)) p.block = true := fun p hp => decide_eq_true (hlow p hp)
  have hres : ∀ (b : Nat) (sp : Nat → Bool) (hd : Bool), DataW.TrodAll enc Tryz.prog W' b sp hd f.resultTypes.toList ((Value.bool true).resultList f.resultTypes.size) (s.fn H (ds ++ [])).results [] := fun _ _ _ => by
    rw [hfn, hrt]; exact trodAll_cons_mk (shut_bool Tryz.underlying4 _) trodAll_mk0
  have hvars : ∀ sp : Nat → Bool, DataW.TrodVars enc Tryz.prog W' sp s.vars (s.fn H (ds ++ [])).vars [] := fun _ => by rw [hfn, hvs]; rfl
  have harg' : ∀ sp : Nat → Bool, (∀ p ∈ places, sp p.block = true) → DataW.TrodAll enc Tryz.prog W' 0 sp true f.params.toList args.toList (s.fn H (ds ++ [])).args places := fun sp hsp => by rw [hfn]; exact hargs sp hsp
  refine ⟨ds, [], places, [], places, [], hW, hres _ _ _, harg' _ hold, hvars _, World.keptBut_mono (fun p hp => ⟨hp, Or.inr (Or.inl hp)⟩) (hb.frame (· ∈ places)), fun _ => ?_⟩
  obtain ⟨_, _, _, _, _, hz, hn⟩ := hW
  refine ⟨?_, _, _, ([] ++ places) ++ [], ⟨[] ++ places, [], trodAll_append (harg' _ (fun _ _ => rfl)) (hres _ _ _), hvars _, rfl, fun b off hp => ?_, fun ha => absurd ha (by decide)⟩, fun p hp _ => by simpa using hp⟩
  · exact ok_one hrt rfl (okWide_bool_mk Tryz.underlying4 _)
  · have hin : MemPlace.cell b off ∈ places := by simpa using hp
    rw [hb.frozen (hlow _ hin)]
    exact hz b off hin


end Go.Proofs.YtekbkaipdmklpaaGreatDoor
