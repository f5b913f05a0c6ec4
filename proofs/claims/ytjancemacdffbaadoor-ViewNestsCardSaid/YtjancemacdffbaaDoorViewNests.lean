/- Proved: weepholelaw33.ViewNests returns true for every input, and changes nothing that was there. Conditions: none but the row's own (the de Bruijn table of math/bits starts as the program's text lays it, which the card ties). -/
import Derived.Test.YtjancemacdffbaaDoorVk
import Derived.Test.YtjancemacdffbaaDoorWh
namespace Go.Proofs.YtjancemacdffbaaDoor.ViewNests
open Go.ChangeShapes Go.WideShapes Go.ChangeAt Go.RowKit

theorem contract (H : Type) (enc : TypeId × Value → H) (W : World) (base : Nat) (args : Array Value) (ds gs : List (DataW H)) (before : List MemPlace)
    (hval : ∀ (j : Nat) t v, Tryd.f11.params[j]? = some t → args[j]? = some v → Value.okWide Tryd.prog W .any base t v)
    (hW : DataW.Whole enc Tryd.prog Tryd.f11.params.toList Rows.viewNestsSpec.vars false W args.toList ds gs before) (hL : laidMetH Tryd.prog Rows.viewNestsRow.laid W) :
    Calls Tryd.prog 11 args W fun e W' => ∃ v, e = .returned v ∧ Rows.viewNestsSpec.post enc Tryd.prog Tryd.f11 false true false false W args v W' := by
  have hW' := hW
  obtain ⟨p, q, hA0, hV, rfl, hfz, hnd⟩ := hW
  have hA : DataW.TrodAll enc Tryd.prog W 0 (fun _ => true) true Tryd.f11.params.toList args.toList ds p := hA0
  rw [Tryd.params11] at hA hval
  obtain ⟨v0, vs0, d0, ds0, p0, q0, hargs, rfl, rfl, h0, r0⟩ := trodAll_cons hA
  obtain ⟨v1, vs1, d1, ds1, p1, q1, rfl, rfl, rfl, h1, r1⟩ := trodAll_cons r0
  obtain ⟨v2, vs2, d2, ds2, p2, q2, rfl, rfl, rfl, h2, r2⟩ := trodAll_cons r1
  obtain ⟨v3, vs3, d3, ds3, p3, q3, rfl, rfl, rfl, h3, r3⟩ := trodAll_cons r2
  obtain ⟨v4, vs4, d4, ds4, p4, q4, rfl, rfl, rfl, h4, r4⟩ := trodAll_cons r3
  obtain ⟨v5, vs5, d5, ds5, p5, q5, rfl, rfl, rfl, h5, r5⟩ := trodAll_cons r4
  obtain ⟨v6, vs6, d6, ds6, p6, q6, rfl, rfl, rfl, h6, r6⟩ := trodAll_cons r5
  obtain ⟨v7, vs7, d7, ds7, p7, q7, rfl, rfl, rfl, h7, r7⟩ := trodAll_cons r6
  obtain ⟨rfl, rfl, rfl⟩ := trodAll_nil r7
  obtain rfl : args = #[v0, v1, v2, v3, v4, v5, v6, v7] := by cases args; simp_all
  obtain ⟨rfl, rfl⟩ := trodVars_none hV
  have hlow := hW'.lt
  obtain ⟨x0, rfl, rfl, rfl, wx0⟩ := open_int Tryd.underlying3 (hval 0 3 v0 rfl rfl) h0
  obtain ⟨a1, len1, cap1, ord1, rfl, hlen1, hP1, hlc1, hm1⟩ := open_pairs (hval 1 22 v1 rfl rfl) h1
  obtain ⟨x2, rfl, rfl, rfl, wx2⟩ := open_int Tryd.underlying3 (hval 2 3 v2 rfl rfl) h2
  obtain ⟨x3, rfl, rfl, rfl, wx3⟩ := open_int Tryd.underlying3 (hval 3 3 v3 rfl rfl) h3
  obtain ⟨a4, len4, cap4, xs4, rfl, hlen4, hat4, hcap4, hlc4, hm4⟩ := open_levels (hval 4 50 v4 rfl rfl) h4
  obtain ⟨a5, len5, cap5, xs5, rfl, hlen5, hat5, hcap5, hlc5, hm5⟩ := open_events (hval 5 51 v5 rfl rfl) h5
  obtain ⟨a6, len6, cap6, rows6, rfl, hlen6, hat6, hlc6, hm6, hwf6⟩ := open_inputs (hval 6 60 v6 rfl rfl) h6
  obtain ⟨a7, len7, cap7, rows7, rfl, hlen7, hat7, hlc7, hm7, hwf7⟩ := open_inputs (hval 7 60 v7 rfl rfl) h7
  clear hA0
  simp only [List.nil_append, List.append_nil] at hW' hlow
  have hT := tab_of hL
  refine (vnests_law x0 a1 len1 cap1 ord1 x2 x3 a4 len4 cap4 xs4 a5 len5 cap5 xs5 a6 len6 cap6 rows6 a7 len7 cap7 rows7 W hT (pos_of hT) hlen1 hP1 hlen4 hat4 hcap4 hlen5 hat5 hlen6 hat6 hwf6 hlen7 hat7 hwf7).mono fun e W' ⟨he, hg⟩ => ?_
  subst he
  refine ⟨_, rfl, post_low rfl rfl rfl rfl hW' (fun sp hsp => ?_) hg⟩
  have c1 := WideElems.Trod_stays (sp' := sp) laidOut readable22 row22 h1 (fun x hx => hg.same (hlow x (by simp [hx]))) (fun x hx => hsp x (by simp [hx]))
  have c4 := WideElems.Trod_stays (sp' := sp) laidOut readable50 row50 h4 (fun x hx => hg.same (hlow x (by simp [hx]))) (fun x hx => hsp x (by simp [hx]))
  have c5 := WideElems.Trod_stays (sp' := sp) laidOut readable51 row51 h5 (fun x hx => hg.same (hlow x (by simp [hx]))) (fun x hx => hsp x (by simp [hx]))
  have c6 := WideElems.Trod_stays (sp' := sp) laidOut readable60 row60 h6 (fun x hx => hg.same (hlow x (by simp [hx]))) (fun x hx => hsp x (by simp [hx]))
  have c7 := WideElems.Trod_stays (sp' := sp) laidOut readable60 row60 h7 (fun x hx => hg.same (hlow x (by simp [hx]))) (fun x hx => hsp x (by simp [hx]))
  have hall := trodAll_cons_mk (shut_int Tryd.underlying3 wx0) (trodAll_cons_mk c1 (trodAll_cons_mk (shut_int Tryd.underlying3 wx2) (trodAll_cons_mk (shut_int Tryd.underlying3 wx3) (trodAll_cons_mk c4 (trodAll_cons_mk c5 (trodAll_cons_mk c6 (trodAll_cons_mk c7 (trodAll_mk0))))))))
  simp only [List.nil_append, List.append_nil] at hall
  exact hall

theorem laid_met (os : Os) : laidMet Tryd.prog Rows.viewNestsRow.laid ((laidWorld os).forCall (fun _ _ => 0) ⟨#[], #[.int .i64 0, .slice none 0 0, .int .i64 0, .int .i64 0, .slice none 0 0, .slice none 0 0, .slice none 0 0, .slice none 0 0], []⟩).memory :=
  laidMet_of_run' 8 (by kernel_rfl) (by kernel_rfl)
theorem reads (os : Os) {H : Type} (enc : TypeId × Value → H) : ∃ places, DataW.whole enc Tryd.prog ((laidWorld os).forCall (fun _ _ => 0) ⟨#[], #[.int .i64 0, .slice none 0 0, .int .i64 0, .int .i64 0, .slice none 0 0, .slice none 0 0, .slice none 0 0, .slice none 0 0], []⟩).memory Tryd.f11.params.toList Rows.viewNestsSpec.vars false #[Value.int .i64 0, .slice none 0 0, .int .i64 0, .int .i64 0, .slice none 0 0, .slice none 0 0, .slice none 0 0, .slice none 0 0].toList 8 = some ([.lit (.int .i64 0), .nil, .lit (.int .i64 0), .lit (.int .i64 0), .nil, .nil, .nil, .nil], [], places) :=
  ⟨[], by kernel_rfl⟩

set_option maxRecDepth 100000 in
theorem lifted (os : Os) (started : os.Started) (H : Type) (enc : TypeId × Value → H) (F : Stop.Interp) :
    ReturnsInHanded {} Tryd.checked os 11 .any ((OpenSpec.ofChange Rows.viewNestsSpec).preRow enc Tryd.prog Tryd.f11 Rows.viewNestsRow.domain false Rows.viewNestsRow.laid) (((OpenSpec.ofChange Rows.viewNestsSpec).at F).post enc Tryd.prog Tryd.f11 false true false false) := by
  obtain ⟨places, hx⟩ := reads os enc
  refine returnsInHanded_of_row (C := Tryd.checked) (s := OpenSpec.ofChange Rows.viewNestsSpec) own started (by kernel_rfl) Tryd.func11
    (witness_row_at (enc := enc) (C := Tryd.checked) false (laidWorld os) #[.int .i64 0, .slice none 0 0, .int .i64 0, .int .i64 0, .slice none 0 0, .slice none 0 0, .slice none 0 0, .slice none 0 0] rfl (by kernel_rfl) (by kernel_rfl) (by kernel_rfl)
      (OpenSpec.preRow_of_cond 8 hx (by kernel_rfl) (fun k hk => by cases hk) (by kernel_rfl) (laid_met os))) ?_
  intro W base args ds gs before hval hW _ _ _ hL _ _
  exact contract H enc W base args ds gs before hval hW hL

theorem said : Rows.ViewNestsSaid :=
  OpenClaim.holds_of_cond 11 Tryd.f11 rfl rfl rfl rfl rfl rfl rfl ⟨rfl, rfl, rfl, rfl, rfl⟩ rfl rfl rfl rfl rfl (by kernel_rfl) Tryd.func11 (by kernel_rfl)
    (of_decide_eq_true (by kernel_rfl)) (by unfold Func.isWrapper; first | (rw [if_pos (by decide +kernel)]; kernel_rfl) | (rw [if_neg (by decide +kernel)]; exact ⟨rfl, rfl⟩))
    (fun os started H enc _ F => by rw [OpenClaim.pre_eq_preRow]; exact lifted os started H enc F)

theorem plain (f : FuncId) (fn : Func) (hf : Tryd.pinned.checked.prog.funcNamed "weephole/weepholelaw33.ViewNests" = some f) (hfn : Tryd.pinned.checked.prog.funcs[f]? = some fn) :
    false = Tryd.pinned.checked.prog.looks [] ∧ ∀ (j : Nat) t, fn.params[j]? = some t → Tryd.pinned.checked.prog.wantsStandIn t = false := by
  obtain rfl : f = 11 := Option.some.inj ((show Tryd.prog.funcNamed "weephole/weepholelaw33.ViewNests" = some 11 by kernel_rfl).symm.trans hf) |>.symm
  obtain rfl : fn = Tryd.f11 := (Option.some.inj (Tryd.func11.symm.trans hfn)).symm
  refine ⟨by kernel_rfl, fun j t ht => ?_⟩
  rw [Tryd.params11] at ht
  have hall : (#[3, 22, 3, 3, 50, 51, 60, 60] : Array TypeId).toList.all (fun t => !Tryd.prog.wantsStandIn t) = true := by kernel_rfl
  have := List.all_eq_true.1 hall t (Array.mem_def.1 (Array.mem_of_getElem? ht))
  rw [Bool.not_eq_true'] at this
  exact this

theorem card : Rows.ViewNestsCardSaid :=
  Claim7.holds_tied_plain_at .later [] _ _ _ _ said (fun _ h => by cases h) (by kernel_rfl) (fun _ h => by cases h) viewNests_row_tie rfl ⟨rfl, rfl⟩ (by kernel_rfl) rfl plain (by kernel_rfl)

#print axioms card
end Go.Proofs.YtjancemacdffbaaDoor.ViewNests
