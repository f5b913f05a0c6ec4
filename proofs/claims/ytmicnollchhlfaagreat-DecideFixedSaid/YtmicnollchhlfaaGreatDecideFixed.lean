/- Proved: weepholelaw20.DecideFixed returns true, and changes nothing that was there, whatever the width, the nodes that are asked for, the term and the six values. Conditions: none. -/
import Derived.Test.YtmicnollchhlfaaGreatR53
import Derived.Test.YtmicnollchhlfaaGreatRows
import Derived.Test.YtmicnollchhlfaaGreatR51
set_option linter.all false
namespace Go.Proofs.YtmicnollchhlfaaGreat
namespace Cr
open Go Go.RowKit
open Sn
namespace Rn
theorem w68:Wk PR GG x52 c60 (cO 2 f62) (cM m63 1626) (.exit 0) (cO 2 f65) (cM m66 2001):=Wk.piece da p67
theorem w69:Wk PR GG x52 c60 (cO 2 f57) (cM m52 1163) (.exit 0) (cO 2 f65) (cM m66 2001):=Wk.rounds da D7 p64 w68
def w70:=Wk.blockE D6 w69
theorem w71:Wk PR GG x52 c55 (cO 2 f51) (cM m52 1163) .norm (cO 2 f65) (cM m66 2001):=Wk.pieceC da 1 p58 w70
theorem w75:Wk PR GG x52 c56 (cO 2 f65) (cM m66 2001) .ret (cO 2 f72) (cM m73 2125):=Wk.piece da p74
def w76:=Wk.seqC D5 w71 w75
theorem w77:Wk PR GG x52 c50 (cO 2 f48) (cM m40 1162) .ret (cO 2 f72) (cM m73 2125):=Wk.pieceC da 1 p53 w76
theorem k78:CW PR GG 52 f48 (cM m40 1162) tt (cM m73 2125):=Wk.cw Tryz.func52 D4 (N:=55) (D:=2) (by kernel_rfl) (by kernel_rfl) (by kernel_rfl) w77 (.inr rfl) (by kernel_rfl)
theorem w84:WkI PR GG x28 c45 3 (cO 3 f79) (cM m80 2125) (cO 3 f82) (cM m80 2125):=WkI.fin (fJ _) ft da p83
theorem w85:WkI PR GG x28 c45 0 (cO 3 f39) (cM m40 1162) (cO 3 f82) (cM m80 2125):=WkI.call (fJ _) ft da 0 2 p49 k78 p81 w84
def w86:=Wk.ofI (by kernel_rfl) w85
theorem w88:Wk PR GG x28 c46 (cO 3 f82) (cM m80 2125) .norm (cO 3 f82) (cM m80 2125):=Wk.piece da p87
def w89:=Wk.seqC D3 w86 w88
theorem w93:Wk PR GG x28 c44 (cO 3 f82) (cM m80 2125) .ret (cO 3 f90) (cM m91 2126):=Wk.piece da p92
def w94:=Wk.seqC D2 w89 w93
theorem w95:Wk PR GG x28 c38 (cO 3 f34) (cM m35 1150) .ret (cO 3 f90) (cM m91 2126):=Wk.pieceC da 6 p41 w94
theorem w96:Wk PR GG x28 c37 (cO 3 f34) (cM m35 1150) .ret (cO 3 f90) (cM m91 2126):=Wk.scopeP D1 (λh=>h) w95
theorem w97:Wk PR GG x28 c33 (cO 3 f31) (cM m30 1148) .ret (cO 3 f90) (cM m91 2126):=Wk.pieceC da 1 p36 w96
theorem k98:CW PR GG 28 f31 (cM m30 1148) (tu [(ag [(y 1),(s 2125 0 20 20),(s0 0 0)]),(i 0)]) (cM m91 2126):=Wk.cw Tryz.func28 DZ (N:=191) (D:=3) (by kernel_rfl) (by kernel_rfl) (by kernel_rfl) w97 (.inr rfl) (by kernel_rfl)
theorem Gj:WkI PR GG x8 c27 7 (cO 3 f99) (cM tF 2126) (cO 3 mJ) (cM gI 2127):=WkI.fin (fJ _) ft da Ol
theorem Gk:WkI PR GG x8 c27 0 (cO 3 f23) (cM m24 1080) (cO 3 mJ) (cM gI 2127):=WkI.call (fJ _) ft da 0 6 p32 k98 Ok Gj
def Gl:=Wk.ofI (by kernel_rfl) Gk
def pI:Ex->F8->AH->Prop:=λe F' H'=>(e= .norm\/e= .ret)/\∃H2,kR PR 3 71 F' H' Tryz.f30.results.toList= .ok (tu [(s 2127 0 3 3),(i 0)]) H2/\has H2 eQ 2129=true
def Gm:Ex->F8->AH->Prop:=λe F1 H1=>e= .norm/\WkQ PR GG x30 oD F1 H1 pI
def pJ:Ex->F8->AH->Prop:=λe F1 H1=>(e= .norm\/e= .exit 0)/\Gm .norm F1 H1
theorem Gn:WkQ PR GG x30 oD (cO 3 ox) (cM jY 2129) pI:=(Wk.piece da Ou).q ⟨.inr rfl,Gi Ov⟩
theorem Gp:WkQ PR GG x30 lE (cO 3 lA) (cM jY 2129) pJ:=by refine WkQ.loop rk (WkQ.seq rm (WkQ.next ft da Ow ?_));intro y a;simp only[List.mem_cons,List.not_mem_nil,or_false] at a;rcases a with rfl;·exact⟨rfl,(Wk.piece da Ot).q ⟨.inr rfl,rfl,Gn⟩⟩
theorem Gq:WkQ PR GG x30 lE (cO 3 re) (cM qZ 2129) pJ:=by refine WkQ.loop rk (WkQ.seq rm (WkQ.next ft da Ox ?_));intro y a;simp only[List.mem_cons,List.not_mem_nil,or_false] at a;rcases a with rfl;·exact⟨rfl,(Wk.piece da Oc).q Gp⟩
theorem Gs:WkQ PR GG x30 oD (cO 3 oy) (cM jf 2129) pI:=(Wk.piece da Oz).q ⟨.inr rfl,Gi OA⟩
theorem Gt:WkQ PR GG x30 lE (cO 3 tK) (cM jf 2129) pJ:=by refine WkQ.loop rk (WkQ.seq rm (WkQ.next ft da OB ?_));intro y a;simp only[List.mem_cons,List.not_mem_nil,or_false] at a;rcases a with rfl;·exact⟨rfl,(Wk.piece da Oy).q ⟨.inr rfl,rfl,Gs⟩⟩
theorem Gu:WkQ PR GG x30 lE (cO 3 lA) (cM xS 2129) pJ:=by refine WkQ.loop rk (WkQ.seq rm (WkQ.next ft da OC ?_));intro y a;simp only[List.mem_cons,List.not_mem_nil,or_false] at a;rcases a with rfl;·exact⟨rfl,(Wk.piece da Og).q Gt⟩
theorem Gv:WkQ PR GG x30 lE (cO 3 tI) (cM xQ 2129) pJ:=by refine WkQ.loop rk (WkQ.seq rm (WkQ.next ft da OD ?_));intro y a;simp only[List.mem_cons,List.not_mem_nil,or_false] at a;rcases a with rfl|rfl;{exact⟨rfl,(Wk.piece da Ob).q Gq⟩};exact⟨rfl,(Wk.piece da Of).q Gu⟩
theorem Gy:WkQ PR GG x30 uf (cO 3 tH) (cM mK 2128) pI:=WkQ.seq N9 (WkQ.pieceC da 1 Oq (WkQ.block Oa Gv))
theorem Gz:WkQ PR GG x30 ue (cO 3 tG) (cM gI 2127) pI:=WkQ.pieceC da 4 Oo Gy
theorem GA:CW PR GG 30 tG (cM gI 2127) (tu [(s 2127 0 3 3),(i 0)]) (cM eQ 2129):=WkQ.cw Tryz.func30 N8 (N:=71) (D:=3) (by kernel_rfl) (by kernel_rfl) (by kernel_rfl) Gz
theorem GB:WkI PR GG x8 mT 5 (cO 3 tL) (cM eQ 2129) (cO 3 mL) (cM eQ 2129):=WkI.fin (fJ _) ft da OF
theorem GC:WkI PR GG x8 mT 0 (cO 3 ou) (cM gI 2127) (cO 3 mL) (cM eQ 2129):=WkI.call (fJ _) ft da 0 4 On GA OE GB
def GD:=Wk.ofI (by kernel_rfl) GC
theorem GE:Wk PR GG x8 xY (cO 3 mL) (cM eQ 2129) .ret (cO 3 oz) (cM eQ 2129):=Wk.piece da OG
def GF:=Wk.seqC N7 GD GE
theorem GH:Wk PR GG x8 c28 (cO 3 mJ) (cM gI 2127) .ret (cO 3 oz) (cM eQ 2129):=Wk.pieceC da 4 Om GF
def GI:=Wk.seqC DY Gl GH
theorem GJ:Wk PR GG x8 c22 (cO 3 f20) (cM m14 139) .ret (cO 3 oz) (cM eQ 2129):=Wk.pieceC da 9 p25 GI
theorem GK:CW PR GG 8 f20 (cM m14 139) (tu [(y 1),(s 2127 0 3 3),(i 0)]) (cM eQ 2129):=Wk.cw Tryz.func8 DX (N:=101) (D:=3) (by kernel_rfl) (by kernel_rfl) (by kernel_rfl) GJ (.inr rfl) (by kernel_rfl)
theorem GL:WkI PR GG x23 c17 3 (cO 3 tM) (cM ia 2129) (cO 3 mM) (cM ia 2129):=WkI.fin (fJ _) ft da OI
theorem GM:WkI PR GG x23 c17 0 (cO 3 f13) (cM m14 139) (cO 3 mM) (cM ia 2129):=WkI.call (fJ _) ft da 0 2 p21 GK OH GL
def GN:=Wk.ofI (by kernel_rfl) GM
theorem GO:Wk PR GG x23 c18 (cO 3 mM) (cM ia 2129) .ret (cO 3 tN) (cM ia 2129):=Wk.piece da OJ
def GQ:=Wk.seqC DW GN GO
theorem GR:Wk PR GG x23 c12 (cO 3 f10) (cM m9 2) .ret (cO 3 tN) (cM ia 2129):=Wk.pieceC da 4 p15 GQ
theorem GT:CW PR GG 23 f10 (cM m9 2) tt (cM ia 2129):=Wk.cw Tryz.func23 DU (N:=69) (D:=3) (by kernel_rfl) (by kernel_rfl) (by kernel_rfl) GR (.inr rfl) (by kernel_rfl)
theorem GU:Wk PR GG x52 c60 (cO 2 tV) (cM tW 3922) (.exit 0) (cO 2 lB) (cM lC 4371):=Wk.piece da Oi
theorem GV:Wk PR GG x52 c60 (cO 2 tU) (cM kK 3427) (.exit 0) (cO 2 lB) (cM lC 4371):=Wk.rounds da D7 Oe GU
def GW:=Wk.blockE D6 GV
theorem GX:Wk PR GG x52 c55 (cO 2 rh) (cM kK 3427) .norm (cO 2 lB) (cM lC 4371):=Wk.pieceC da 1 OR GW
theorem GY:Wk PR GG x52 c56 (cO 2 lB) (cM lC 4371) .ret (cO 2 tX) (cM mP 4441):=Wk.piece da O9
def GZ:=Wk.seqC D5 GX GY
theorem G0:Wk PR GG x52 c50 (cO 2 tT) (cM jA 3426) .ret (cO 2 tX) (cM mP 4441):=Wk.pieceC da 1 OQ GZ
theorem G1:CW PR GG 52 tT (cM jA 3426) ff (cM mP 4441):=Wk.cw Tryz.func52 D4 (N:=55) (D:=2) (by kernel_rfl) (by kernel_rfl) (by kernel_rfl) G0 (.inr rfl) (by kernel_rfl)
theorem G2:WkI PR GG x28 c45 3 (cO 3 tY) (cM jZ 4441) (cO 3 lD) (cM jZ 4441):=WkI.fin (fJ _) ft da OU
theorem G3:WkI PR GG x28 c45 0 (cO 3 mO) (cM jA 3426) (cO 3 lD) (cM jZ 4441):=WkI.call (fJ _) ft da 0 2 OO G1 OS G2
def G4:=Wk.ofI (by kernel_rfl) G3
theorem G5:Wk PR GG x28 c46 (cO 3 lD) (cM jZ 4441) .ret (cO 3 mQ) (cM kL 4444):=Wk.piece da OV
def G7:=Wk.seqC D3 G4 G5
theorem G8:Wk PR GG x28 c42 (cO 3 mO) (cM jA 3426) .ret (cO 3 mQ) (cM kL 4444):=Wk.seqO D2 (λh=>h) G7
theorem G9:Wk PR GG x28 c38 (cO 3 tS) (cM rf 3414) .ret (cO 3 mQ) (cM kL 4444):=Wk.pieceC da 6 O8 G8
theorem Ha:Wk PR GG x28 c37 (cO 3 tS) (cM rf 3414) .ret (cO 3 mQ) (cM kL 4444):=Wk.scopeP D1 (λh=>h) G9
theorem Hb:Wk PR GG x28 c33 (cO 3 tR) (cM oC 3412) .ret (cO 3 mQ) (cM kL 4444):=Wk.pieceC da 1 ON Ha
theorem Hc:CW PR GG 28 tR (cM oC 3412) (tu [(ag [(y 2),(s0 0 0),(q 4443 1)]),(i 0)]) (cM kL 4444):=Wk.cw Tryz.func28 DZ (N:=191) (D:=3) (by kernel_rfl) (by kernel_rfl) (by kernel_rfl) Hb (.inr rfl) (by kernel_rfl)
theorem He:WkI PR GG x8 c27 7 (cO 3 tZ) (cM ua 4444) (cO 3 mR) (cM jg 4445):=WkI.fin (fJ _) ft da OX
theorem Hf:WkI PR GG x8 c27 0 (cO 3 mN) (cM oB 3335) (cO 3 mR) (cM jg 4445):=WkI.call (fJ _) ft da 0 6 Od Hc OW He
def Hg:=Wk.ofI (by kernel_rfl) Hf
theorem Hi:Wk PR GG x8 c28 (cO 3 mR) (cM jg 4445) .ret (cO 3 ub) (cM jg 4445):=Wk.piece da OY
def Hj:=Wk.seqC DY Hg Hi
theorem Hk:Wk PR GG x8 c22 (cO 3 tQ) (cM eS 2266) .ret (cO 3 ub) (cM jg 4445):=Wk.pieceC da 9 Oh Hj
theorem Hl:CW PR GG 8 tQ (cM eS 2266) (tu [(y 2),(s0 0 0),(i 0)]) (cM jg 4445):=Wk.cw Tryz.func8 DX (N:=101) (D:=3) (by kernel_rfl) (by kernel_rfl) (by kernel_rfl) Hk (.inr rfl) (by kernel_rfl)
theorem Hm:WkI PR GG x23 c17 3 (cO 3 uc) (cM eS 4445) (cO 3 mS) (cM eS 4445):=WkI.fin (fJ _) ft da O2
theorem Hn:WkI PR GG x23 c17 0 (cO 3 oA) (cM eS 2266) (cO 3 mS) (cM eS 4445):=WkI.call (fJ _) ft da 0 2 OM Hl OZ Hm
def Ho:=Wk.ofI (by kernel_rfl) Hn
theorem Hp:Wk PR GG x23 c18 (cO 3 mS) (cM eS 4445) .ret (cO 3 ri) (cM eS 4445):=Wk.piece da Oj
def Hq:=Wk.seqC DW Ho Hp
theorem Hr:Wk PR GG x23 c12 (cO 3 tP) (cM fS 2131) .ret (cO 3 ri) (cM eS 4445):=Wk.pieceC da 4 O7 Hq
theorem Hs:CW PR GG 23 tP (cM fS 2131) tt (cM eS 4445):=Wk.cw Tryz.func23 DU (N:=69) (D:=3) (by kernel_rfl) (by kernel_rfl) (by kernel_rfl) Hr (.inr rfl) (by kernel_rfl)
theorem Ht:WkI PR GG x7 c6 7 (cO 2 rj) (cM fS 4445) (cO 2 jB) (cM fS 4445):=WkI.fin (fJ _) ft da O5
theorem Hu:WkI PR GG x7 c6 3 (cO 2 tO) (cM m9 2129) (cO 2 jB) (cM fS 4445):=WkI.call (fJ _) ft da 3 3 OL Hs O3 Ht
theorem Hv:WkI PR GG x7 c6 0 (cO 2 f2) (cM m3 0) (cO 2 jB) (cM fS 4445):=WkI.call (fJ _) ft da 0 2 p11 GT OK Hu
def Hw:=Wk.ofI (by kernel_rfl) Hv
theorem Hx:Wk PR GG x7 c7 (cO 2 jB) (cM fS 4445) .ret (cO 2 jB) (cM fS 4445):=Wk.piece da O6
def Hz:=Wk.seqC ec5 Hw Hx
theorem H8:Wk PR GG x7 c1 (cO 2 f0) H0 .ret (cO 2 jB) (cM fS 4445):=Wk.pieceC da 1 p4 Hz
theorem k312:CW PR GG 7 f0 H0 tt (cM fS 4445):=Wk.cw Tryz.func7 ec1 (N:=9) (D:=2) (by kernel_rfl) (by kernel_rfl) (by kernel_rfl) H8 (.inr rfl) (by kernel_rfl)
end Rn
end Cr
open Go.ChangeShapes Go.WideShapes Go.ChangeAt Go.RowKit
set_option maxRecDepth 100000
theorem Cr.awake_calls w:Calls Tryz.prog 7 #[] w λe w'=>e= .returned (.bool true)/\Below w.heap.size w w':=by refine(Cr.CW.calls Cr.Rn.k312 (Cr.LR.nil Cr.mu0) (Cr.H0_hr w)).mono ?_;rintro e w' ⟨d,μ',rfl,a,_,c⟩;have a:Cr.VR μ' (.bool true) d:=a;cases a;exact⟨rfl,c.below⟩
theorem Ia{H enc f}{s:ChangeSpec}{W d args b a places} (G:s.vars=[])(h:s.fn H (a++[])={results:=[.lit (.bool true)],args:=a})(t:f.resultTypes=#[4])(D:b=true) (g:DataW.Whole enc Tryz.prog f.params.toList s.vars false W args.toList a [] places) (B:∀sp,(∀p∈places,sp p.block=true)->DataW.TrodAll enc Tryz.prog d 0 sp true f.params.toList args.toList a places) (k:Below W.heap.size W d):s.post enc Tryz.prog f false true false false W args (.bool b) d:=by subst D;have n:∀p∈places,p.block<W.heap.size:=g.lt;have E:∀p∈places,(λb=>decide (b<W.heap.size)) p.block=true:=λp c=>decide_eq_true (n p c);have r:∀(b:Nat) (sp:Nat->Bool) (hd:Bool),DataW.TrodAll enc Tryz.prog d b sp hd f.resultTypes.toList ((Value.bool true).resultList f.resultTypes.size) (s.fn H (a++[])).results []:=λ _ _ _=>by{rw[h,t];exact trodAll_cons_mk (shut_bool Tryz.underlying4 _) trodAll_mk0};have z:∀sp:Nat->Bool,DataW.TrodVars enc Tryz.prog d sp s.vars (s.fn H (a++[])).vars []:=λ _=>by{rw[h,G];rfl};have j:∀sp:Nat->Bool,(∀p∈places,sp p.block=true)->DataW.TrodAll enc Tryz.prog d 0 sp true f.params.toList args.toList (s.fn H (a++[])).args places:=λsp F=>by{rw[h];exact B sp F};refine⟨a,[],places,[],places,[],g,r _ _ _,j _ E,z _,World.keptBut_mono (λp c=>⟨c,Or.inr (Or.inl c)⟩) (k.frame (·∈places)),λ _=> ?_⟩;obtain⟨_,_,_,_,_,J,hn⟩:=g;refine⟨?_,_,_,([]++places)++[],⟨[]++places,[],trodAll_append (j _ (λ _ _=>rfl)) (r _ _ _),z _,rfl,λb off c=> ?_,λA=>absurd A (by decide)⟩,λp c _=>by simpa using c⟩;{exact ok_one t rfl (okWide_bool_mk Tryz.underlying4 _)};have l:MemPlace.cell b off∈places:=by{simpa using c};rw[k.frozen (n _ l)];exact J b off l
theorem own:ownKnob Tryz.prog.godebug=none:=by kernel_rfl
end Go.Proofs.YtmicnollchhlfaaGreat
namespace Go.Proofs.YtmicnollchhlfaaGreat.DecideFixed
open Go Go.ChangeShapes Go.WideShapes
set_option maxRecDepth 100000
theorem eb{a b}(h:a=true)(k:b=true):(a&&b)=true:=by rw[h,k];rfl
theorem q0:Rows.decideFixedRow.wf (OpenSpec.ofChange Rows.decideFixedSpec)=true:=by kernel_rfl
theorem q1:laidOutB Tryz.pinned.checked.prog=true:=by kernel_rfl
theorem q2:mapsRowed Tryz.pinned.checked.prog=true:=by kernel_rfl
theorem q3:Tryz.f4.params.all (Tryz.pinned.checked.prog.readableRec ·)=true:=by kernel_rfl
theorem q4:namedTie Tryz.pinned.checked.prog Rows.decideFixedRow.named Rows.decideFixedSpec.vars=true:=by kernel_rfl
theorem q5:(Rows.decideFixedRow.stops==[])=true:=by kernel_rfl
theorem q6:(Tryz.pinned.checked.prog.stops==[])=true:=by kernel_rfl
theorem q7:(Rows.decideFixedRow.knobs==[])=true:=by kernel_rfl
theorem q8:(Tryz.pinned.checked.prog.stopKnobs==[])=true:=by kernel_rfl
theorem q9:(Rows.decideFixedRow.inPlace==Tryz.pinned.checked.prog.inPlace 4)=true:=by kernel_rfl
theorem q10:(Rows.decideFixedRow.unfollowed==Tryz.pinned.checked.prog.unfollowed 4)=true:=by kernel_rfl
theorem q11:(Rows.decideFixedRow.recurses==Tryz.pinned.checked.prog.recurses 4)=true:=by kernel_rfl
theorem q12:(Rows.decideFixedRow.named==Tryz.pinned.checked.prog.varsNamed 4)=true:=by kernel_rfl
theorem q13:(Rows.decideFixedRow.maps==(Tryz.f4.params.toList++Rows.decideFixedSpec.plain.varTypes Tryz.pinned.checked.prog).any (Tryz.pinned.checked.prog.mapsRec ·))=true:=by kernel_rfl
theorem q14:(Rows.decideFixedRow.ifaces==(Tryz.f4.params.toList++Rows.decideFixedSpec.plain.varTypes Tryz.pinned.checked.prog).any (Tryz.pinned.checked.prog.ifacesRec ·))=true:=by kernel_rfl
theorem q15:(Rows.decideFixedRow.mapsOut==Tryz.pinned.checked.prog.mapsAmong Tryz.f4.resultTypes.toList)=true:=by kernel_rfl
theorem q16:(Rows.decideFixedRow.loops==(Tryz.f4.params.toList++Rows.decideFixedSpec.plain.varTypes Tryz.pinned.checked.prog).any (Tryz.pinned.checked.prog.loopsFrom ·))=true:=by kernel_rfl
theorem q17:(Rows.decideFixedRow.wideKeys==(Tryz.f4.params.toList++Rows.decideFixedSpec.plain.varTypes Tryz.pinned.checked.prog++Tryz.f4.resultTypes.toList).any (Tryz.pinned.checked.prog.wideKeysFrom ·))=true:=by kernel_rfl
theorem q18:Rows.decideFixedSpec.vars.all (Tryz.pinned.checked.prog.varReadable ·)=true:=by kernel_rfl
theorem q19:Tryz.f4.resultTypes.all (λt=>Tryz.pinned.checked.prog.readableRec t&&decide (t<Tryz.pinned.checked.prog.types.size))=true:=by kernel_rfl
theorem q20:(Rows.decideFixedRow.ifacesOut==Tryz.f4.resultTypes.toList.any (Tryz.pinned.checked.prog.ifacesRec ·))=true:=by kernel_rfl
theorem q21:(Rows.decideFixedRow.loopsOut==Tryz.f4.resultTypes.toList.any (Tryz.pinned.checked.prog.loopsFrom ·))=true:=by kernel_rfl
theorem q22:(Rows.decideFixedRow.plainKeys==Tryz.pinned.checked.prog.plainKeys)=true:=by kernel_rfl
theorem q23:Rows.decideFixedRow.shortTexts.isNone=true:=by kernel_rfl
theorem q24:Tryz.pinned.checked.prog.stopsHeard=true:=by kernel_rfl
theorem q25:Tryz.pinned.checked.prog.mayEnter=true:=by kernel_rfl
theorem q26:(Rows.decideFixedRow.lifted==Tryz.pinned.checked.prog.liftsFinal)=true:=by kernel_rfl
theorem q27:(Tryz.pinned.checked.prog.make==some Rows.decideFixedRow.make)=true:=by kernel_rfl
theorem q28:(Rows.decideFixedRow.kinds==(if Rows.decideFixedRow.domain.isEmpty then[] else Tryz.f4.params.toList.map λt=>match Tryz.pinned.checked.prog.underlying t with|some (.int k)=>some k|_=>none))=true:=by kernel_rfl
theorem q29:(Rows.decideFixedRow.pinned==Rows.decideFixedRow.pinnedBy)=true:=by kernel_rfl
theorem q30:(Rows.decideFixedRow.veiled==(Tryz.f4.params.toList++Rows.decideFixedSpec.plain.varTypes Tryz.pinned.checked.prog++Tryz.f4.resultTypes.toList).any (Tryz.pinned.checked.prog.veiledRec ·))=true:=by kernel_rfl
theorem q31:Rows.decideFixedRow.veiledFits Tryz.pinned.checked.prog Tryz.f4.params.toList (Tryz.f4.params.toList++Rows.decideFixedSpec.plain.varTypes Tryz.pinned.checked.prog++Tryz.f4.resultTypes.toList)=true:=by kernel_rfl
theorem closedFacts:joinedFacts Tryz.pinned.checked.prog 4 Tryz.f4 Rows.decideFixedSpec Rows.decideFixedRow=true:=by unfold joinedFacts;exact(eb (eb (eb (eb (eb (eb (eb (eb (eb (eb (eb (eb (eb (eb (eb (eb (eb (eb (eb (eb (eb (eb (eb (eb (eb (eb (eb (eb (eb (eb (eb q0 q1) q2) q3) q4) q5) q6) q7) q8) q9) q10) q11) q12) q13) q14) q15) q16) q17) q18) q19) q20) q21) q22) q23) q24) q25) q26) q27) q28) q29) q30) q31)
end Go.Proofs.YtmicnollchhlfaaGreat.DecideFixed
namespace Go.Proofs.YtmicnollchhlfaaGreat.DecideFixed
open Go.ChangeShapes Go.WideShapes Go.ChangeAt Go.RowKit
set_option maxRecDepth 100000 in
theorem lifted(os:Os)(aa:os.Started)(H:Type)(enc:TypeId×Value->H):
  ReturnsInHanded {} Tryz.checked os 4 .any (Rows.decideFixedSpec.pre6 enc Tryz.prog Tryz.f4 Rows.decideFixedRow.domain false) (Rows.decideFixedSpec.post enc Tryz.prog Tryz.f4 false true false false):=by
 refine returnsInHanded_of_change (C:=Tryz.checked) own aa (by kernel_rfl) Tryz.func4
  (ChangeSpec.witness6 (enc:=enc) (C:=Tryz.checked) false ⟨#[],#[.int .i64 0,.slice none 0 0,.int .i64 0,.agg #[.int .u64 0,.int .u64 0,.int .u64 0,.int .u64 0,.int .u64 0,.int .u64 0]],[]⟩ 8 (by kernel_rfl) (by kernel_rfl) (by kernel_rfl) (by kernel_rfl)) ?_
 intro W K d N gs before D z hcnd _;have c:∀(j:Nat) t v,Tryz.f4.params[j]? =some t->d[j]? =some v->Value.okWide Tryz.prog W .any K t v:=D;have f:=z;obtain⟨p,q,r,Q,rfl,hfz,hnd⟩:=z;have n:DataW.TrodAll enc Tryz.prog W 0 (λ _=>true) true Tryz.f4.params.toList d.toList N p:=r;rw[Tryz.params4] at n c;obtain⟨E,vs0,d0,ds0,p0,q0,hargs,rfl,rfl,O,Y⟩:=trodAll_cons n;obtain⟨F,vs1,d1,ds1,p1,q1,rfl,rfl,rfl,k,r1⟩:=trodAll_cons Y;obtain⟨G,vs2,d2,ds2,p2,q2,rfl,rfl,rfl,P,r2⟩:=trodAll_cons r1;obtain⟨J,vs3,d3,ds3,p3,q3,rfl,rfl,rfl,l,r3⟩:=trodAll_cons r2;obtain⟨rfl,rfl,rfl⟩:=trodAll_nil r3;obtain rfl:d=#[E,F,G,J]:=by cases d;simp_all
 obtain⟨rfl,rfl⟩:=trodVars_none Q;have h:=f.lt;obtain⟨x0,rfl,rfl,rfl,ab⟩:=open_int Tryz.underlying3 (c 0 3 E rfl rfl) O;obtain⟨a1,n1,c1,hs1,rfl,U,R,S⟩:=N3 (c 1 22 F rfl rfl) k;obtain⟨x2,rfl,rfl,rfl,ac⟩:=open_int Tryz.underlying3 (c 2 3 G rfl rfl) P;obtain⟨m0,m1,m2,m3,m4,m5,rfl,V⟩:=N6 (c 3 42 J rfl rfl) l;clear r D;simp only[List.nil_append,List.append_nil] at f h;refine(NK Cr.awake_calls R U S V).mono λe W' ⟨T,g⟩=> ?_
 subst T;refine⟨_,rfl,Ia rfl rfl rfl rfl f (λsp B=> ?_) g⟩;have c1:=WideElems.Trod_stays (sp':=sp) DH NU NV k (λx a=>g.same (h x (by simp[a]))) (λx a=>B x (by simp[a]));have L:=WideElems.Trod_stays (sp':=sp) DH NW NX l (λx a=>g.same (h x (by simp[a]))) (λx a=>B x (by simp[a]));have A:=trodAll_cons_mk (shut_int Tryz.underlying3 ab) (trodAll_cons_mk c1 (trodAll_cons_mk (shut_int Tryz.underlying3 ac) (trodAll_cons_mk L trodAll_mk0)));simp only[List.nil_append,List.append_nil] at A;exact A
theorem zK:Rows.decideFixedRow.holds Tryz.pinned (OpenSpec.ofChange Rows.decideFixedSpec):=OpenClaim.holds_of_wide 4 Tryz.f4 rfl rfl rfl rfl rfl rfl rfl ⟨rfl,rfl,rfl,rfl,rfl⟩ rfl rfl rfl rfl rfl (by kernel_rfl) Tryz.func4 closedFacts (of_decide_eq_true (by kernel_rfl)) (by unfold Func.isWrapper;first|(rw[if_pos (by decide+kernel)];kernel_rfl)|(rw[if_neg (by decide+kernel)];exact⟨rfl,rfl⟩)) (λos started H enc _=>lifted os started H enc)
theorem Ib:Rows.DecideFixedSaid:=zK
#print axioms Ib
