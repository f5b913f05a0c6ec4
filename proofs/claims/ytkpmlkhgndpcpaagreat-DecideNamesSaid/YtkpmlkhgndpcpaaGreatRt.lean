/- What the run of DecideNames says: called in any world it returns true, and nothing that was there has changed. -/
import Derived.Test.YtkpmlkhgndpcpaaGreatT1
import Derived.WalkKit
import Derived.ProofKit
import Derived.OpenShut
import Derived.Below
import Derived.ChangeSame
namespace Go.Proofs.YtkpmlkhgndpcpaaGreat
open Go.ChangeShapes Go.WideShapes Go.ChangeAt Go.RowKit
set_option maxRecDepth 100000

theorem Cr.decideNames_calls (w : World) : Calls Tryz.prog 3 #[] w fun e w' => e = .returned (.bool true) ∧ Below w.heap.size w w' := by
  refine (Cr.CW.calls Cr.Rn.k957 (Cr.LR.nil Cr.mu0) (Cr.H0_hr w)).mono ?_
  rintro e w' ⟨v', μ', rfl, hv, _, hr⟩
  have hv : Cr.VR μ' (.bool true) v' := hv
  cases hv
  exact ⟨rfl, hr.below⟩
/-- The last step of each row here: a law without listed results or variables, behind which nothing of the old memory has changed. -/
theorem post_low {H : Type} {enc : TypeId × Value → H} {f : Func} {s : ChangeSpec} {W W' : World} {args : Array Value} {b : Bool} {ds : List (DataW H)} {places : List MemPlace}
    (hvs : s.vars = []) (hfn : s.fn H (ds ++ []) = { results := [.lit (.bool true)], args := ds }) (hrt : f.resultTypes = #[4]) (hb1 : b = true)
    (hW : DataW.Whole enc Tryz.prog f.params.toList s.vars false W args.toList ds [] places)
    (hargs : ∀ sp : Nat → Bool, (∀ p ∈ places, sp p.block = true) → DataW.TrodAll enc Tryz.prog W' 0 sp true f.params.toList args.toList ds places)
    (hb : Below W.heap.size W W') : s.post enc Tryz.prog f false true false false W args (.bool b) W' := by
  subst hb1
  have hlow : ∀ p ∈ places, p.block < W.heap.size := hW.lt
  have hold : ∀ p ∈ places, (fun b => decide (b < W.heap.size)) p.block = true := fun p hp => decide_eq_true (hlow p hp)
  have hres : ∀ (b : Nat) (sp : Nat → Bool) (hd : Bool), DataW.TrodAll enc Tryz.prog W' b sp hd f.resultTypes.toList ((Value.bool true).resultList f.resultTypes.size) (s.fn H (ds ++ [])).results [] := fun _ _ _ => by
    rw [hfn, hrt]; exact trodAll_cons_mk (shut_bool Tryz.underlying4 _) trodAll_mk0
  have hvars : ∀ sp : Nat → Bool, DataW.TrodVars enc Tryz.prog W' sp s.vars (s.fn H (ds ++ [])).vars [] := fun _ => by rw [hfn, hvs]; rfl
  have harg' : ∀ sp : Nat → Bool, (∀ p ∈ places, sp p.block = true) → DataW.TrodAll enc Tryz.prog W' 0 sp true f.params.toList args.toList (s.fn H (ds ++ [])).args places := fun sp hsp => by rw [hfn]; exact hargs sp hsp
  refine ⟨ds, [], places, [], places, [], hW, hres _ _ _, harg' _ hold, hvars _, World.keptBut_mono (fun p hp => ⟨hp, Or.inr (Or.inl hp)⟩) (hb.frame (· ∈ places)), fun _ => ?_⟩
  obtain ⟨_, _, _, _, _, hz, hn⟩ := hW
  refine ⟨?_, _, _, ([] ++ places) ++ [], ⟨[] ++ places, [], trodAll_append (harg' _ (fun _ _ => rfl)) (hres _ _ _), hvars _, rfl, fun b off hp => ?_, fun ha => absurd ha (by decide)⟩, fun p hp _ => by simpa using hp⟩
  · exact ok_one hrt rfl (okWide_bool_mk Tryz.underlying4 _)
  · have hin : MemPlace.cell b off ∈ places := by simpa using hp
    rw [hb.frozen (hlow _ hin)]
    exact hz b off hin


theorem own : ownKnob Tryz.prog.godebug = none := by kernel_rfl
end Go.Proofs.YtkpmlkhgndpcpaaGreat
