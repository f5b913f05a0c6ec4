/- With the paths exchanged, and the values of the variables and their twins too, the term of Leak is 0 or not as before, for every case and all values: no condition beside those of the statement and the laid variables that it ties. -/
import Derived.Test.YtgdpkkjfcdhmdaaGreatDoorS0
import Derived.Test.YtgdpkkjfcdhmdaaGreatDoorS6
import Derived.Test.YtgdpkkjfcdhmdaaGreatDoorS8
import Derived.Test.YtgdpkkjfcdhmdaaGreatDoorU24
import Derived.Test.YtgdpkkjfcdhmdaaGreatDoorTA
import Derived.Test.YtgdpkkjfcdhmdaaGreatDoorTB
namespace Go.Proofs.YtgdpkkjfcdhmdaaGreatDoor.QueryTurns
open Go.ChangeShapes Go.WideShapes Go.ChangeAt Go.RowKit
set_option maxRecDepth 100000 in
theorem contract(H:Type)(enc:TypeId×Value->H)(W:World)(base:Nat)(args:Array Value)(ds gs:List (DataW H))(before:List MemPlace)
  (hval:∀(j:Nat) t v,Tryz.f5.params[j]? =some t->args[j]? =some v->Value.okWide Tryz.prog W .any base t v)
  (hW:DataW.Whole enc Tryz.prog Tryz.f5.params.toList Rows.queryTurnsSpec.vars false W args.toList ds gs before)(hL:laidMetH Tryz.prog Rows.queryTurnsRow.laid W):
  Calls Tryz.prog 5 args W λ e W'=>∃v,e= .returned v/\Rows.queryTurnsSpec.post enc Tryz.prog Tryz.f5 false true false false W args v W':=by
 have hW':=hW;obtain⟨p,q,hA0,hV,rfl,hfz,hnd⟩:=hW;have hA:DataW.TrodAll enc Tryz.prog W 0 (λ _=>true) true Tryz.f5.params.toList args.toList ds p:=hA0;rw[Tryz.params5] at hA hval;obtain⟨v0,vs0,d0,ds0,p0,q0,hargs,rfl,rfl,h0,r0⟩:=trodAll_cons hA;obtain⟨v1,vs1,d1,ds1,p1,q1,rfl,rfl,rfl,h1,r1⟩:=trodAll_cons r0;obtain⟨rfl,rfl,rfl⟩:=trodAll_nil r1;obtain rfl:args=#[v0,v1]:=by cases args;simp_all
 obtain⟨rfl,rfl⟩:=trodVars_none hV;have hlow:=hW'.lt;obtain⟨x0,rfl,hok0⟩:=open_case (hval 0 30 v0 rfl rfl) h0;obtain⟨a1,n1,cap1,xs1,rfl,hl1,hat1,hb1,hn1⟩:=open_vals2 (hval 1 31 v1 rfl rfl) h1;clear hA0;simp only[List.append_nil] at hW' hlow;have hT:=laid_of hL;refine(queryTurns_law W x0 hok0 xs1 n1 hl1 hn1 hat1 hb1 hT (λ w' h=>Cr.awake7 h)).mono λ e W' ⟨he,hg⟩=> ?_
 subst he;refine⟨_,rfl,post_low rfl rfl rfl rfl hW' (λ sp hsp=> ?_) hg⟩;have c0:=WideElems.Trod_stays (sp':=sp) laidOut readable30 row30 h0 (λ x hx=>hg.same (hlow x (by simp[hx]))) (λ x hx=>hsp x (by simp[hx]));have c1:=WideElems.Trod_stays (sp':=sp) laidOut readable31b row31b h1 (λ x hx=>hg.same (hlow x (by simp[hx]))) (λ x hx=>hsp x (by simp[hx]));have hall:=trodAll_cons_mk c0 (trodAll_cons_mk c1 (trodAll_mk0));simp only[List.append_nil] at hall;exact hall
theorem laid_met(os:Os):laidMetH Tryz.prog Rows.queryTurnsRow.laid ((laidWorld os).forCall (λ _ _=>0) ⟨#[],#[.agg #[.int .i64 0,.slice none 0 0,.int .i64 0,.slice none 0 0,.slice none 0 0,.slice none 0 0,.bool false,.int .i64 0,.slice none 0 0,.int .u8 0,.int .i64 0,.slice none 0 0,.slice none 0 0,.slice none 0 0,.slice none 0 0,.slice none 0 0,.int .u8 0,.int .i64 0,.slice none 0 0,.slice none 0 0,.slice none 0 0,.slice none 0 0],.slice none 0 0],[]⟩).memory:=
 laid_met_of (laidMet_of_run' 8 (by kernel_rfl) (by kernel_rfl)) (funcsAt_of (fuel:=8) (cs:=#[.map (some (World.holding Tryz.prog os ⟨#[],#[],[]⟩).heap.size)]) gSteps gStepsType (by kernel_rfl) (by kernel_rfl)) (funcsAt_of (fuel:=8) (cs:=#[Cr.fnv 209,Cr.fnv 210]) gComp gCompType (by kernel_rfl) (by kernel_rfl))
theorem reads(os:Os){H:Type}(enc:TypeId×Value->H):∃places,DataW.whole enc Tryz.prog ((laidWorld os).forCall (λ _ _=>0) ⟨#[],#[.agg #[.int .i64 0,.slice none 0 0,.int .i64 0,.slice none 0 0,.slice none 0 0,.slice none 0 0,.bool false,.int .i64 0,.slice none 0 0,.int .u8 0,.int .i64 0,.slice none 0 0,.slice none 0 0,.slice none 0 0,.slice none 0 0,.slice none 0 0,.int .u8 0,.int .i64 0,.slice none 0 0,.slice none 0 0,.slice none 0 0,.slice none 0 0],.slice none 0 0],[]⟩).memory Tryz.f5.params.toList Rows.queryTurnsSpec.vars false #[Value.agg #[.int .i64 0,.slice none 0 0,.int .i64 0,.slice none 0 0,.slice none 0 0,.slice none 0 0,.bool false,.int .i64 0,.slice none 0 0,.int .u8 0,.int .i64 0,.slice none 0 0,.slice none 0 0,.slice none 0 0,.slice none 0 0,.slice none 0 0,.int .u8 0,.int .i64 0,.slice none 0 0,.slice none 0 0,.slice none 0 0,.slice none 0 0],.slice none 0 0].toList 8=some ([.agg [.lit (.int .i64 0),.nil,.lit (.int .i64 0),.nil,.nil,.nil,.lit (.bool false),.lit (.int .i64 0),.agg [.nil,.lit (.int .u8 0),.lit (.int .i64 0),.nil,.nil,.nil,.nil],.agg [.nil,.lit (.int .u8 0),.lit (.int .i64 0),.nil,.nil,.nil,.nil]],.nil],[],places):=
 ⟨[],by kernel_rfl⟩
set_option maxRecDepth 100000 in
theorem lifted(os:Os)(started:os.Started)(H:Type)(enc:TypeId×Value->H)(F:Stop.Interp):
  ReturnsInHanded {} Tryz.checked os 5 .any ((OpenSpec.ofChange Rows.queryTurnsSpec).preRow enc Tryz.prog Tryz.f5 Rows.queryTurnsRow.domain false Rows.queryTurnsRow.laid) (((OpenSpec.ofChange Rows.queryTurnsSpec).at F).post enc Tryz.prog Tryz.f5 false true false false):=by
 obtain⟨places,hx⟩:=reads os enc;refine returnsInHanded_of_row (C:=Tryz.checked) (s:=OpenSpec.ofChange Rows.queryTurnsSpec) own started (by kernel_rfl) Tryz.func5
  (witness_row_at (enc:=enc) (C:=Tryz.checked) false (laidWorld os) #[.agg #[.int .i64 0,.slice none 0 0,.int .i64 0,.slice none 0 0,.slice none 0 0,.slice none 0 0,.bool false,.int .i64 0,.slice none 0 0,.int .u8 0,.int .i64 0,.slice none 0 0,.slice none 0 0,.slice none 0 0,.slice none 0 0,.slice none 0 0,.int .u8 0,.int .i64 0,.slice none 0 0,.slice none 0 0,.slice none 0 0,.slice none 0 0],.slice none 0 0] rfl (by kernel_rfl) (by kernel_rfl) (by kernel_rfl)
    (OpenSpec.preRow_of_cond 8 hx (by kernel_rfl) (λ k hk=>by cases hk) (by kernel_rfl) (laid_met os))) ?_
 intro W base args ds gs before hval hW _ _ _ hL _ _;exact contract H enc W base args ds gs before hval hW hL
theorem said:Rows.QueryTurnsSaid:=
 OpenClaim.holds_of_cond 5 Tryz.f5 rfl rfl rfl rfl rfl rfl rfl ⟨rfl,rfl,rfl,rfl,rfl⟩ rfl rfl rfl rfl rfl (by kernel_rfl) Tryz.func5 closedFacts
  (of_decide_eq_true (by kernel_rfl)) (by unfold Func.isWrapper;first|(rw[if_pos (by decide+kernel)];kernel_rfl)|(rw[if_neg (by decide+kernel)];exact⟨rfl,rfl⟩))
  (λ os started H enc _ F=>by rw[OpenClaim.pre_eq_preRow];exact lifted os started H enc F)
theorem plain(f:FuncId)(fn:Func)(hf:Tryz.pinned.checked.prog.funcNamed "weephole/weepholelaw36.QueryTurns"=some f)(hfn:Tryz.pinned.checked.prog.funcs[f]? =some fn):
  true=Tryz.pinned.checked.prog.looks []/\∀(j:Nat) t,fn.params[j]? =some t->Tryz.pinned.checked.prog.wantsStandIn t=false:=by
 obtain rfl:f=5:=Option.some.inj ((show Tryz.prog.funcNamed "weephole/weepholelaw36.QueryTurns"=some 5 by kernel_rfl).symm.trans hf)|>.symm;obtain rfl:fn=Tryz.f5:=(Option.some.inj (Tryz.func5.symm.trans hfn)).symm;refine⟨by kernel_rfl,λ j t ht=> ?_⟩;rw[Tryz.params5] at ht;have hall:(#[30,31]:Array TypeId).toList.all (λ t=> !Tryz.prog.wantsStandIn t)=true:=by kernel_rfl
 have:=List.all_eq_true.1 hall t (Array.mem_def.1 (Array.mem_of_getElem? ht));rw[Bool.not_eq_true'] at this;exact this
theorem card:Rows.QueryTurnsCardSaid:=
 Claim7.holds_tied_plain_at .later [] _ _ _ _ said (λ _ h=>by cases h) (by kernel_rfl) (λ _ h=>by cases h) queryTurns_row_tie rfl ⟨rfl,rfl⟩ (by kernel_rfl) rfl plain (by kernel_rfl)
#print axioms card
end Go.Proofs.YtgdpkkjfcdhmdaaGreatDoor.QueryTurns
