/- Proved: weepholelaw32.PathsTake returns true for every input, and changes nothing that was there. Conditions: none but the row's own (the package variables explore.steps and flat.shapes hold what the program's text lays, which the card ties). -/
import Derived.Test.YtjhbabgcoemecaaDoorUn
import Derived.Test.YtjhbabgcoemecaaDoorQc
namespace Go.Proofs.YtjhbabgcoemecaaDoor.PathsTake
open Go.ChangeShapes Go.WideShapes Go.ChangeAt Go.RowKit

set_option maxRecDepth 100000 in
theorem contract (H : Type) (enc : TypeId × Value → H) (W : World) (base : Nat) (args : Array Value) (ds gs : List (DataW H)) (before : List MemPlace)
    (hval : ∀ (j : Nat) t v, Tryd.f9.params[j]? = some t → args[j]? = some v → Value.okWide Tryd.prog W .any base t v)
    (hW : DataW.Whole enc Tryd.prog Tryd.f9.params.toList Rows.pathsTakeSpec.vars false W args.toList ds gs before) (hL : laidMetH Tryd.prog Rows.pathsTakeRow.laid W) :
    Calls Tryd.prog 9 args W fun e W' => ∃ v, e = .returned v ∧ Rows.pathsTakeSpec.post enc Tryd.prog Tryd.f9 false true false false W args v W' := by
  have hW' := hW
  obtain ⟨p, q, hA0, hV, rfl, hfz, hnd⟩ := hW
  have hA : DataW.TrodAll enc Tryd.prog W 0 (fun _ => true) true Tryd.f9.params.toList args.toList ds p := hA0
  rw [Tryd.params9] at hA hval
  obtain ⟨v0, vs0, d0, ds0, p0, q0, hargs, rfl, rfl, h0, r0⟩ := trodAll_cons hA
  obtain ⟨v1, vs1, d1, ds1, p1, q1, rfl, rfl, rfl, h1, r1⟩ := trodAll_cons r0
  obtain ⟨v2, vs2, d2, ds2, p2, q2, rfl, rfl, rfl, h2, r2⟩ := trodAll_cons r1
  obtain ⟨v3, vs3, d3, ds3, p3, q3, rfl, rfl, rfl, h3, r3⟩ := trodAll_cons r2
  obtain ⟨rfl, rfl, rfl⟩ := trodAll_nil r3
  obtain rfl : args = #[v0, v1, v2, v3] := by cases args; simp_all
  obtain ⟨rfl, rfl⟩ := trodVars_none hV
  have hlow := hW'.lt
  obtain ⟨x0, rfl, rfl, rfl, wx0⟩ := open_int Tryd.underlying3 (hval 0 3 v0 rfl rfl) h0
  obtain ⟨a1, len1, cap1, qs1, rfl, hlen1, hat1, hcap1, hlc1, hm1, hq1⟩ := open_raws (hval 1 64 v1 rfl rfl) h1
  obtain ⟨a2, len2, cap2, ps2, rfl, hlen2, hat2, hcap2, hlc2, hm2, hq2⟩ := open_paths (hval 2 36 v2 rfl rfl) h2
  obtain ⟨a3, len3, cap3, xs3, rfl, hlen3, hat3, hcap3, hlc3, hm3, hwf3⟩ := open_nums (hval 3 48 v3 rfl rfl) h3
  clear hA0
  simp only [List.nil_append, List.append_nil] at hW' hlow
  have hT := laid_of hL
  refine (pathsTake_card x0 a1 len1 cap1 qs1 a2 len2 cap2 ps2 a3 len3 cap3 xs3 W hT hlen1 hat1 hq1 hlen2 hat2 hq2 hlen3 hat3 hwf3).mono fun e W' ⟨he, hg⟩ => ?_
  subst he
  refine ⟨_, rfl, post_low rfl rfl rfl rfl hW' (fun sp hsp => ?_) hg⟩
  have c1 := WideElems.Trod_stays (sp' := sp) laidOut readable64 row64 h1 (fun x hx => hg.same (hlow x (by simp [hx]))) (fun x hx => hsp x (by simp [hx]))
  have c2 := WideElems.Trod_stays (sp' := sp) laidOut readable36 row36 h2 (fun x hx => hg.same (hlow x (by simp [hx]))) (fun x hx => hsp x (by simp [hx]))
  have c3 := WideElems.Trod_stays (sp' := sp) laidOut readable48 row48 h3 (fun x hx => hg.same (hlow x (by simp [hx]))) (fun x hx => hsp x (by simp [hx]))
  have hall := trodAll_cons_mk (shut_int Tryd.underlying3 wx0) (trodAll_cons_mk c1 (trodAll_cons_mk c2 (trodAll_cons_mk c3 (trodAll_mk0))))
  simp only [List.nil_append, List.append_nil] at hall
  exact hall

theorem laid_met (os : Os) : laidMetH Tryd.prog Rows.pathsTakeRow.laid ((laidWorld os).forCall (fun _ _ => 0) ⟨#[], #[.int .i64 0, .slice none 0 0, .slice none 0 0, .slice none 0 0], []⟩).memory :=
  laid_met_of (laidMet_of_run' 8 (by kernel_rfl) (by kernel_rfl)) (funcsAt_of (fuel := 8) (cs := #[.map (some (World.holding Tryd.prog os ⟨#[], #[], []⟩).heap.size)]) gSteps gStepsType (by kernel_rfl) (by kernel_rfl))
theorem reads (os : Os) {H : Type} (enc : TypeId × Value → H) : ∃ places, DataW.whole enc Tryd.prog ((laidWorld os).forCall (fun _ _ => 0) ⟨#[], #[.int .i64 0, .slice none 0 0, .slice none 0 0, .slice none 0 0], []⟩).memory Tryd.f9.params.toList Rows.pathsTakeSpec.vars false #[Value.int .i64 0, .slice none 0 0, .slice none 0 0, .slice none 0 0].toList 8 = some ([.lit (.int .i64 0), .nil, .nil, .nil], [], places) :=
  ⟨[], by kernel_rfl⟩

set_option maxRecDepth 100000 in
theorem lifted (os : Os) (started : os.Started) (H : Type) (enc : TypeId × Value → H) (F : Stop.Interp) :
    ReturnsInHanded {} Tryd.checked os 9 .any ((OpenSpec.ofChange Rows.pathsTakeSpec).preRow enc Tryd.prog Tryd.f9 Rows.pathsTakeRow.domain false Rows.pathsTakeRow.laid) (((OpenSpec.ofChange Rows.pathsTakeSpec).at F).post enc Tryd.prog Tryd.f9 false true false false) := by
  obtain ⟨places, hx⟩ := reads os enc
  refine returnsInHanded_of_row (C := Tryd.checked) (s := OpenSpec.ofChange Rows.pathsTakeSpec) own started (by kernel_rfl) Tryd.func9
    (witness_row_at (enc := enc) (C := Tryd.checked) false (laidWorld os) #[.int .i64 0, .slice none 0 0, .slice none 0 0, .slice none 0 0] rfl (by kernel_rfl) (by kernel_rfl) (by kernel_rfl)
      (OpenSpec.preRow_of_cond 8 hx (by kernel_rfl) (fun k hk => by cases hk) (by kernel_rfl) (laid_met os))) ?_
  intro W base args ds gs before hval hW _ _ _ hL _ _
  exact contract H enc W base args ds gs before hval hW hL

set_option maxRecDepth 100000 in
theorem said : Rows.PathsTakeSaid :=
  OpenClaim.holds_of_cond 9 Tryd.f9 rfl rfl rfl rfl rfl rfl rfl ⟨rfl, rfl, rfl, rfl, rfl⟩ rfl rfl rfl rfl rfl (by kernel_rfl) Tryd.func9 closedFacts
    (of_decide_eq_true (by kernel_rfl)) (by unfold Func.isWrapper; first | (rw [if_pos (by decide +kernel)]; kernel_rfl) | (rw [if_neg (by decide +kernel)]; exact ⟨rfl, rfl⟩))
    (fun os started H enc _ F => by rw [OpenClaim.pre_eq_preRow]; exact lifted os started H enc F)

theorem plain (f : FuncId) (fn : Func) (hf : Tryd.pinned.checked.prog.funcNamed "weephole/weepholelaw32.PathsTake" = some f) (hfn : Tryd.pinned.checked.prog.funcs[f]? = some fn) :
    true = Tryd.pinned.checked.prog.looks [] ∧ ∀ (j : Nat) t, fn.params[j]? = some t → Tryd.pinned.checked.prog.wantsStandIn t = false := by
  obtain rfl : f = 9 := Option.some.inj ((show Tryd.prog.funcNamed "weephole/weepholelaw32.PathsTake" = some 9 by kernel_rfl).symm.trans hf) |>.symm
  obtain rfl : fn = Tryd.f9 := (Option.some.inj (Tryd.func9.symm.trans hfn)).symm
  refine ⟨by kernel_rfl, fun j t ht => ?_⟩
  rw [Tryd.params9] at ht
  have hall : (#[3, 64, 36, 48] : Array TypeId).toList.all (fun t => !Tryd.prog.wantsStandIn t) = true := by kernel_rfl
  have := List.all_eq_true.1 hall t (Array.mem_def.1 (Array.mem_of_getElem? ht))
  rw [Bool.not_eq_true'] at this
  exact this

theorem card : Rows.PathsTakeCardSaid :=
  Claim7.holds_tied_plain_at .later [] _ _ _ _ said (fun _ h => by cases h) (by kernel_rfl) (fun _ h => by cases h) pathsTake_row_tie rfl ⟨rfl, rfl⟩ (by kernel_rfl) rfl plain (by kernel_rfl)

#print axioms card
end Go.Proofs.YtjhbabgcoemecaaDoor.PathsTake
