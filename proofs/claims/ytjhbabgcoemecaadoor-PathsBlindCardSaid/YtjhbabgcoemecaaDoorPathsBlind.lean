/- Proved: weepholelaw32.PathsBlind returns true for every input, and changes nothing that was there. Conditions: none but the row's own (the package variables explore.steps and flat.shapes hold what the program's text lays, which the card ties). -/
import Derived.Test.YtjhbabgcoemecaaDoorOk
import Derived.Test.YtjhbabgcoemecaaDoorPl
namespace Go.Proofs.YtjhbabgcoemecaaDoor.PathsBlind
open Go.ChangeShapes Go.WideShapes Go.ChangeAt Go.RowKit

set_option maxRecDepth 100000 in
theorem contract (H : Type) (enc : TypeId × Value → H) (W : World) (base : Nat) (args : Array Value) (ds gs : List (DataW H)) (before : List MemPlace)
    (hval : ∀ (j : Nat) t v, Tryd.f8.params[j]? = some t → args[j]? = some v → Value.okWide Tryd.prog W .any base t v)
    (hW : DataW.Whole enc Tryd.prog Tryd.f8.params.toList Rows.pathsBlindSpec.vars false W args.toList ds gs before) (hL : laidMetH Tryd.prog Rows.pathsBlindRow.laid W) :
    Calls Tryd.prog 8 args W fun e W' => ∃ v, e = .returned v ∧ Rows.pathsBlindSpec.post enc Tryd.prog Tryd.f8 false true false false W args v W' := by
  have hW' := hW
  obtain ⟨p, q, hA0, hV, rfl, hfz, hnd⟩ := hW
  have hA : DataW.TrodAll enc Tryd.prog W 0 (fun _ => true) true Tryd.f8.params.toList args.toList ds p := hA0
  rw [Tryd.params8] at hA hval
  obtain ⟨v0, vs0, d0, ds0, p0, q0, hargs, rfl, rfl, h0, r0⟩ := trodAll_cons hA
  obtain ⟨v1, vs1, d1, ds1, p1, q1, rfl, rfl, rfl, h1, r1⟩ := trodAll_cons r0
  obtain ⟨v2, vs2, d2, ds2, p2, q2, rfl, rfl, rfl, h2, r2⟩ := trodAll_cons r1
  obtain ⟨v3, vs3, d3, ds3, p3, q3, rfl, rfl, rfl, h3, r3⟩ := trodAll_cons r2
  obtain ⟨v4, vs4, d4, ds4, p4, q4, rfl, rfl, rfl, h4, r4⟩ := trodAll_cons r3
  obtain ⟨rfl, rfl, rfl⟩ := trodAll_nil r4
  obtain rfl : args = #[v0, v1, v2, v3, v4] := by cases args; simp_all
  obtain ⟨rfl, rfl⟩ := trodVars_none hV
  have hlow := hW'.lt
  obtain ⟨x0, rfl, rfl, rfl, wx0⟩ := open_int Tryd.underlying5 (hval 0 5 v0 rfl rfl) h0
  obtain ⟨k0, rfl⟩ := Int.eq_ofNat_of_zero_le (bounds_u8 wx0).1
  have hk0 : k0 < 256 := by have := (bounds_u8 wx0).2; omega
  obtain ⟨x1, rfl, rfl, rfl, wx1⟩ := open_int Tryd.underlying5 (hval 1 5 v1 rfl rfl) h1
  obtain ⟨k1, rfl⟩ := Int.eq_ofNat_of_zero_le (bounds_u8 wx1).1
  have hk1 : k1 < 256 := by have := (bounds_u8 wx1).2; omega
  obtain ⟨a2, len2, cap2, xs2, rfl, hlen2, hat2, hcap2, hlc2, hm2, hwf2⟩ := open_nums (hval 2 48 v2 rfl rfl) h2
  obtain ⟨x3, rfl, rfl, rfl, wx3⟩ := open_int Tryd.underlying5 (hval 3 5 v3 rfl rfl) h3
  obtain ⟨k3, rfl⟩ := Int.eq_ofNat_of_zero_le (bounds_u8 wx3).1
  have hk3 : k3 < 256 := by have := (bounds_u8 wx3).2; omega
  obtain ⟨x4, rfl, rfl, rfl, wx4⟩ := open_int Tryd.underlying33 (hval 4 33 v4 rfl rfl) h4
  clear hA0
  simp only [List.nil_append, List.append_nil] at hW' hlow
  have hT := laid_of hL
  refine (pathsBlind_law k0 k1 k3 x4 a2 len2 cap2 xs2 W hT hk0 hk1 hk3 hlen2 hat2).mono fun e W' ⟨he, hg⟩ => ?_
  subst he
  refine ⟨_, rfl, post_low rfl rfl rfl rfl hW' (fun sp hsp => ?_) hg⟩
  have c2 := WideElems.Trod_stays (sp' := sp) laidOut readable48 row48 h2 (fun x hx => hg.same (hlow x (by simp [hx]))) (fun x hx => hsp x (by simp [hx]))
  have hall := trodAll_cons_mk (shut_int Tryd.underlying5 wx0) (trodAll_cons_mk (shut_int Tryd.underlying5 wx1) (trodAll_cons_mk c2 (trodAll_cons_mk (shut_int Tryd.underlying5 wx3) (trodAll_cons_mk (shut_int Tryd.underlying33 wx4) (trodAll_mk0)))))
  simp only [List.nil_append, List.append_nil] at hall
  exact hall

theorem laid_met (os : Os) : laidMetH Tryd.prog Rows.pathsBlindRow.laid ((laidWorld os).forCall (fun _ _ => 0) ⟨#[], #[.int .u8 0, .int .u8 0, .slice none 0 0, .int .u8 0, .int .u64 0], []⟩).memory :=
  laid_met_of (laidMet_of_run' 8 (by kernel_rfl) (by kernel_rfl)) (funcsAt_of (fuel := 8) (cs := #[.map (some (World.holding Tryd.prog os ⟨#[], #[], []⟩).heap.size)]) gSteps gStepsType (by kernel_rfl) (by kernel_rfl))
theorem reads (os : Os) {H : Type} (enc : TypeId × Value → H) : ∃ places, DataW.whole enc Tryd.prog ((laidWorld os).forCall (fun _ _ => 0) ⟨#[], #[.int .u8 0, .int .u8 0, .slice none 0 0, .int .u8 0, .int .u64 0], []⟩).memory Tryd.f8.params.toList Rows.pathsBlindSpec.vars false #[Value.int .u8 0, .int .u8 0, .slice none 0 0, .int .u8 0, .int .u64 0].toList 8 = some ([.lit (.int .u8 0), .lit (.int .u8 0), .nil, .lit (.int .u8 0), .lit (.int .u64 0)], [], places) :=
  ⟨[], by kernel_rfl⟩

set_option maxRecDepth 100000 in
theorem lifted (os : Os) (started : os.Started) (H : Type) (enc : TypeId × Value → H) (F : Stop.Interp) :
    ReturnsInHanded {} Tryd.checked os 8 .any ((OpenSpec.ofChange Rows.pathsBlindSpec).preRow enc Tryd.prog Tryd.f8 Rows.pathsBlindRow.domain false Rows.pathsBlindRow.laid) (((OpenSpec.ofChange Rows.pathsBlindSpec).at F).post enc Tryd.prog Tryd.f8 false true false false) := by
  obtain ⟨places, hx⟩ := reads os enc
  refine returnsInHanded_of_row (C := Tryd.checked) (s := OpenSpec.ofChange Rows.pathsBlindSpec) own started (by kernel_rfl) Tryd.func8
    (witness_row_at (enc := enc) (C := Tryd.checked) false (laidWorld os) #[.int .u8 0, .int .u8 0, .slice none 0 0, .int .u8 0, .int .u64 0] rfl (by kernel_rfl) (by kernel_rfl) (by kernel_rfl)
      (OpenSpec.preRow_of_cond 8 hx (by kernel_rfl) (fun k hk => by cases hk) (by kernel_rfl) (laid_met os))) ?_
  intro W base args ds gs before hval hW _ _ _ hL _ _
  exact contract H enc W base args ds gs before hval hW hL

theorem said : Rows.PathsBlindSaid :=
  OpenClaim.holds_of_cond 8 Tryd.f8 rfl rfl rfl rfl rfl rfl rfl ⟨rfl, rfl, rfl, rfl, rfl⟩ rfl rfl rfl rfl rfl (by kernel_rfl) Tryd.func8 (by kernel_rfl)
    (of_decide_eq_true (by kernel_rfl)) (by unfold Func.isWrapper; first | (rw [if_pos (by decide +kernel)]; kernel_rfl) | (rw [if_neg (by decide +kernel)]; exact ⟨rfl, rfl⟩))
    (fun os started H enc _ F => by rw [OpenClaim.pre_eq_preRow]; exact lifted os started H enc F)

theorem plain (f : FuncId) (fn : Func) (hf : Tryd.pinned.checked.prog.funcNamed "weephole/weepholelaw32.PathsBlind" = some f) (hfn : Tryd.pinned.checked.prog.funcs[f]? = some fn) :
    true = Tryd.pinned.checked.prog.looks [] ∧ ∀ (j : Nat) t, fn.params[j]? = some t → Tryd.pinned.checked.prog.wantsStandIn t = false := by
  obtain rfl : f = 8 := Option.some.inj ((show Tryd.prog.funcNamed "weephole/weepholelaw32.PathsBlind" = some 8 by kernel_rfl).symm.trans hf) |>.symm
  obtain rfl : fn = Tryd.f8 := (Option.some.inj (Tryd.func8.symm.trans hfn)).symm
  refine ⟨by kernel_rfl, fun j t ht => ?_⟩
  rw [Tryd.params8] at ht
  have hall : (#[5, 5, 48, 5, 33] : Array TypeId).toList.all (fun t => !Tryd.prog.wantsStandIn t) = true := by kernel_rfl
  have := List.all_eq_true.1 hall t (Array.mem_def.1 (Array.mem_of_getElem? ht))
  rw [Bool.not_eq_true'] at this
  exact this

theorem card : Rows.PathsBlindCardSaid :=
  Claim7.holds_tied_plain_at .later [] _ _ _ _ said (fun _ h => by cases h) (by kernel_rfl) (fun _ h => by cases h) pathsBlind_row_tie rfl ⟨rfl, rfl⟩ (by kernel_rfl) rfl plain (by kernel_rfl)

#print axioms card
end Go.Proofs.YtjhbabgcoemecaaDoor.PathsBlind
