/- The run, out of its pieces. -/
import Derived.Test.YtkpmlkhgndpcpaaGreatP1
import Derived.Test.YtkpmlkhgndpcpaaGreatP2
import Derived.Test.YtkpmlkhgndpcpaaGreatP3
import Derived.Test.YtkpmlkhgndpcpaaGreatP4
import Derived.Test.YtkpmlkhgndpcpaaGreatP5
import Derived.Test.YtkpmlkhgndpcpaaGreatP6
import Derived.Test.YtkpmlkhgndpcpaaGreatP7
import Derived.Test.YtkpmlkhgndpcpaaGreatP8
import Derived.Test.YtkpmlkhgndpcpaaGreatP9
import Derived.Test.YtkpmlkhgndpcpaaGreatP10
import Derived.Test.YtkpmlkhgndpcpaaGreatP11
import Derived.Test.YtkpmlkhgndpcpaaGreatP12
import Derived.Test.YtkpmlkhgndpcpaaGreatP13
import Derived.Test.YtkpmlkhgndpcpaaGreatP14
import Derived.Test.YtkpmlkhgndpcpaaGreatP15
import Derived.Test.YtkpmlkhgndpcpaaGreatP16
import Derived.Test.YtkpmlkhgndpcpaaGreatP17
import Derived.Test.YtkpmlkhgndpcpaaGreatP18
import Derived.Test.YtkpmlkhgndpcpaaGreatP19
import Derived.Test.YtkpmlkhgndpcpaaGreatP20
import Derived.Test.YtkpmlkhgndpcpaaGreatP21
import Derived.Test.YtkpmlkhgndpcpaaGreatP22
import Derived.KernelRfl
namespace Go.Proofs.YtkpmlkhgndpcpaaGreat
namespace Cr
open Go Go.RowKit
open Sn
namespace Rn
theorem w42 : Wk PR GG x6 c34 (initF 3 f36) (litH m37 1231) (.exit 0) (initF 3 f39) (litH m40 1615) := Wk.piece selfX_ok p41
theorem w43 : Wk PR GG x6 c34 (initF 3 f31) (litH m26 192) (.exit 0) (initF 3 f39) (litH m40 1615) := Wk.rounds selfX_ok ec34 p38 w42
theorem w44 : Wk PR GG x6 c33 (initF 3 f31) (litH m26 192) .norm (initF 3 f39) (litH m40 1615) := Wk.blockE ec33 w43
theorem w45 : Wk PR GG x6 c29 (initF 3 f25) (litH m26 192) .norm (initF 3 f39) (litH m40 1615) := Wk.pieceC selfX_ok 1 p32 w44
theorem w93 : Wk PR GG x32 c82 (initF 2 f87) (litH m88 2696) (.exit 0) (initF 2 f90) (litH m91 2969) := Wk.piece selfX_ok p92
theorem w94 : Wk PR GG x32 c82 (initF 2 f84) (litH m85 2228) (.exit 0) (initF 2 f90) (litH m91 2969) := Wk.rounds selfX_ok ec82 p89 w93
theorem w95 : Wk PR GG x32 c82 (initF 2 f79) (litH m74 1733) (.exit 0) (initF 2 f90) (litH m91 2969) := Wk.rounds selfX_ok ec82 p86 w94
theorem w96 : Wk PR GG x32 c81 (initF 2 f79) (litH m74 1733) .norm (initF 2 f90) (litH m91 2969) := Wk.blockE ec81 w95
theorem w97 : Wk PR GG x32 c77 (initF 2 f73) (litH m74 1733) .norm (initF 2 f90) (litH m91 2969) := Wk.pieceC selfX_ok 1 p80 w96
theorem w101 : Wk PR GG x32 c78 (initF 2 f90) (litH m91 2969) .ret (initF 2 f98) (litH m99 3037) := Wk.piece selfX_ok p100
theorem w102 : Wk PR GG x32 c76 (initF 2 f73) (litH m74 1733) .ret (initF 2 f98) (litH m99 3037) := Wk.seqC ec76 w97 w101
theorem w103 : Wk PR GG x32 c72 (initF 2 f70) (litH m62 1732) .ret (initF 2 f98) (litH m99 3037) := Wk.pieceC selfX_ok 1 p75 w102
theorem k104 : CW PR GG 32 f70 (litH m62 1732) tt (litH m99 3037) := Wk.cw Tryz.func32 ec72 (N := 55) (D := 2) (by kernel_rfl) (by kernel_rfl) (by kernel_rfl) w103 (.inr rfl) (by kernel_rfl)
theorem w110 : WkI PR GG x18 c67 3 (initF 3 f105) (litH m106 3037) (initF 3 f108) (litH m106 3037) := WkI.fin (comp_ok _) spX_okS selfX_ok p109
theorem w111 : WkI PR GG x18 c67 0 (initF 3 f61) (litH m62 1732) (initF 3 f108) (litH m106 3037) := WkI.call (comp_ok _) spX_okS selfX_ok 0 2 p71 k104 p107 w110
theorem w112 : Wk PR GG x18 c67 (initF 3 f61) (litH m62 1732) .norm (initF 3 f108) (litH m106 3037) := Wk.ofI (by kernel_rfl) w111
theorem w114 : Wk PR GG x18 c68 (initF 3 f108) (litH m106 3037) .norm (initF 3 f108) (litH m106 3037) := Wk.piece selfX_ok p113
theorem w115 : Wk PR GG x18 c65 (initF 3 f61) (litH m62 1732) .norm (initF 3 f108) (litH m106 3037) := Wk.seqC ec65 w112 w114
theorem w134 : Wk PR GG x18 c130 (initF 3 f127) (litH m128 3191) .ret (initF 3 f131) (litH m132 3192) := Wk.piece selfX_ok p133
theorem w135 : Wk PR GG x18 c126 (initF 3 f123) (litH m124 3090) .ret (initF 3 f131) (litH m132 3192) := Wk.pieceC selfX_ok 1 p129 w134
theorem w136 : Wk PR GG x18 c122 (initF 3 f123) (litH m124 3090) .ret (initF 3 f131) (litH m132 3192) := Wk.blockP ec122 trivial w135
theorem w137 : Wk PR GG x18 c121 (initF 3 f123) (litH m124 3090) .ret (initF 3 f131) (litH m132 3192) := Wk.loopO ec121 (fun h => h) w136
theorem w138 : Wk PR GG x18 c121 (initF 3 f116) (litH m106 3037) .ret (initF 3 f131) (litH m132 3192) := Wk.rounds selfX_ok ec121 p125 w137
theorem w139 : Wk PR GG x18 c119 (initF 3 f116) (litH m106 3037) .ret (initF 3 f131) (litH m132 3192) := Wk.blockP ec119 trivial w138
theorem w140 : Wk PR GG x18 c118 (initF 3 f116) (litH m106 3037) .ret (initF 3 f131) (litH m132 3192) := Wk.seqO ec118 (fun h => h) w139
theorem w141 : Wk PR GG x18 c66 (initF 3 f108) (litH m106 3037) .ret (initF 3 f131) (litH m132 3192) := Wk.pieceC selfX_ok 2 p117 w140
theorem w142 : Wk PR GG x18 c64 (initF 3 f61) (litH m62 1732) .ret (initF 3 f131) (litH m132 3192) := Wk.seqC ec64 w115 w141
theorem w143 : Wk PR GG x18 c60 (initF 3 f56) (litH m57 1720) .ret (initF 3 f131) (litH m132 3192) := Wk.pieceC selfX_ok 6 p63 w142
theorem w144 : Wk PR GG x18 c59 (initF 3 f56) (litH m57 1720) .ret (initF 3 f131) (litH m132 3192) := Wk.scopeP ec59 (fun h => h) w143
theorem w145 : Wk PR GG x18 c55 (initF 3 f53) (litH m52 1718) .ret (initF 3 f131) (litH m132 3192) := Wk.pieceC selfX_ok 1 p58 w144
theorem k146 : CW PR GG 18 f53 (litH m52 1718) (tu [(ag [(y 1), (s 3191 0 26 26), (s0 0 0)]), (i 0)]) (litH m132 3192) := Wk.cw Tryz.func18 ec55 (N := 191) (D := 3) (by kernel_rfl) (by kernel_rfl) (by kernel_rfl) w145 (.inr rfl) (by kernel_rfl)
theorem w153 : WkI PR GG x6 c49 7 (initF 3 f147) (litH m148 3192) (initF 3 f150) (litH m151 3193) := WkI.fin (comp_ok _) spX_okS selfX_ok p152
theorem w154 : WkI PR GG x6 c49 0 (initF 3 f46) (litH m40 1615) (initF 3 f150) (litH m151 3193) := WkI.call (comp_ok _) spX_okS selfX_ok 0 6 p54 k146 p149 w153
theorem w155 : Wk PR GG x6 c49 (initF 3 f46) (litH m40 1615) .norm (initF 3 f150) (litH m151 3193) := Wk.ofI (by kernel_rfl) w154
def L179q : Ex → F8 → AH → Prop := fun e F' H' => (e = .norm ∨ e = .ret) ∧ ∃ H2, resV PR 3 71 F' H' Tryz.f20.results.toList = .ok (tu [(s 3193 0 1 1), (i 0)]) H2 ∧ has H2 m180 3195 = true
def L179q1 : Ex → F8 → AH → Prop := fun e F1 H1 => e = .norm ∧ WkQ PR GG x20 c170 F1 H1 L179q
def L179qB : Ex → F8 → AH → Prop := fun e F1 H1 => (e = .norm ∨ e = .exit 0) ∧ L179q1 .norm F1 H1
theorem w191 : WkQ PR GG x20 c170 (initF 3 f186) (litH m184 3195) L179q := (Wk.piece selfX_ok p189).q ⟨.inr rfl, resHas_eq p190⟩
theorem w193 : WkQ PR GG x20 c175 (initF 3 f183) (litH m184 3195) L179qB := by
    refine WkQ.loop ec175 (WkQ.seq ec176 (WkQ.next spX_okS selfX_ok p192 ?_))
    intro y hy
    simp only [List.mem_cons, List.not_mem_nil, or_false] at hy
    rcases hy with rfl
    · exact ⟨rfl, (Wk.piece selfX_ok p187).q ⟨.inr rfl, rfl, w191⟩⟩
theorem w195 : WkQ PR GG x20 c175 (initF 3 f171) (litH m172 3195) L179qB := by
    refine WkQ.loop ec175 (WkQ.seq ec176 (WkQ.next spX_okS selfX_ok p194 ?_))
    intro y hy
    simp only [List.mem_cons, List.not_mem_nil, or_false] at hy
    rcases hy with rfl
    · exact ⟨rfl, (Wk.piece selfX_ok p185).q w193⟩
theorem w196 : WkQ PR GG x20 c168 (initF 3 f165) (litH m166 3194) L179q := WkQ.seq ec168 (WkQ.pieceC selfX_ok 1 p173 (WkQ.block ec174 w195))
theorem w197 : WkQ PR GG x20 c164 (initF 3 f162) (litH m151 3193) L179q := WkQ.pieceC selfX_ok 4 p167 w196
theorem k198 : CW PR GG 20 f162 (litH m151 3193) (tu [(s 3193 0 1 1), (i 0)]) (litH m180 3195) := WkQ.cw Tryz.func20 ec164 (N := 71) (D := 3) (by kernel_rfl) (by kernel_rfl) (by kernel_rfl) w197
theorem w203 : WkI PR GG x6 c159 5 (initF 3 f199) (litH m180 3195) (initF 3 f201) (litH m180 3195) := WkI.fin (comp_ok _) spX_okS selfX_ok p202
theorem w204 : WkI PR GG x6 c159 0 (initF 3 f156) (litH m151 3193) (initF 3 f201) (litH m180 3195) := WkI.call (comp_ok _) spX_okS selfX_ok 0 4 p163 k198 p200 w203
theorem w205 : Wk PR GG x6 c159 (initF 3 f156) (litH m151 3193) .norm (initF 3 f201) (litH m180 3195) := Wk.ofI (by kernel_rfl) w204
theorem w208 : Wk PR GG x6 c160 (initF 3 f201) (litH m180 3195) .ret (initF 3 f206) (litH m180 3195) := Wk.piece selfX_ok p207
theorem w209 : Wk PR GG x6 c158 (initF 3 f156) (litH m151 3193) .ret (initF 3 f206) (litH m180 3195) := Wk.seqC ec158 w205 w208
theorem w210 : Wk PR GG x6 c50 (initF 3 f150) (litH m151 3193) .ret (initF 3 f206) (litH m180 3195) := Wk.pieceC selfX_ok 4 p157 w209
theorem w211 : Wk PR GG x6 c48 (initF 3 f46) (litH m40 1615) .ret (initF 3 f206) (litH m180 3195) := Wk.seqC ec48 w155 w210
theorem w212 : Wk PR GG x6 c30 (initF 3 f39) (litH m40 1615) .ret (initF 3 f206) (litH m180 3195) := Wk.pieceC selfX_ok 1 p47 w211
theorem w213 : Wk PR GG x6 c28 (initF 3 f25) (litH m26 192) .ret (initF 3 f206) (litH m180 3195) := Wk.seqC ec28 w45 w212
theorem w214 : Wk PR GG x6 c24 (initF 3 f22) (litH m16 142) .ret (initF 3 f206) (litH m180 3195) := Wk.pieceC selfX_ok 7 p27 w213
theorem k215 : CW PR GG 6 f22 (litH m16 142) (tu [(y 1), (s 3193 0 1 1), (i 0)]) (litH m180 3195) := Wk.cw Tryz.func6 ec24 (N := 101) (D := 3) (by kernel_rfl) (by kernel_rfl) (by kernel_rfl) w214 (.inr rfl) (by kernel_rfl)
theorem w221 : WkI PR GG x4 c19 3 (initF 3 f216) (litH m217 3195) (initF 3 f219) (litH m217 3195) := WkI.fin (comp_ok _) spX_okS selfX_ok p220
theorem w222 : WkI PR GG x4 c19 0 (initF 3 f15) (litH m16 142) (initF 3 f219) (litH m217 3195) := WkI.call (comp_ok _) spX_okS selfX_ok 0 2 p23 k215 p218 w221
theorem w223 : Wk PR GG x4 c19 (initF 3 f15) (litH m16 142) .norm (initF 3 f219) (litH m217 3195) := Wk.ofI (by kernel_rfl) w222
theorem w226 : Wk PR GG x4 c20 (initF 3 f219) (litH m217 3195) .ret (initF 3 f224) (litH m217 3195) := Wk.piece selfX_ok p225
theorem w227 : Wk PR GG x4 c18 (initF 3 f15) (litH m16 142) .ret (initF 3 f224) (litH m217 3195) := Wk.seqC ec18 w223 w226
theorem w228 : Wk PR GG x4 c14 (initF 3 f12) (litH m11 3) .ret (initF 3 f224) (litH m217 3195) := Wk.pieceC selfX_ok 4 p17 w227
theorem k229 : CW PR GG 4 f12 (litH m11 3) tt (litH m217 3195) := Wk.cw Tryz.func4 ec14 (N := 69) (D := 3) (by kernel_rfl) (by kernel_rfl) (by kernel_rfl) w228 (.inr rfl) (by kernel_rfl)
theorem w275 : Wk PR GG x32 c82 (initF 2 f269) (litH m270 5704) (.exit 0) (initF 2 f272) (litH m273 6083) := Wk.piece selfX_ok p274
theorem w276 : Wk PR GG x32 c82 (initF 2 f266) (litH m267 5244) (.exit 0) (initF 2 f272) (litH m273 6083) := Wk.rounds selfX_ok ec82 p271 w275
theorem w277 : Wk PR GG x32 c82 (initF 2 f264) (litH m262 4781) (.exit 0) (initF 2 f272) (litH m273 6083) := Wk.rounds selfX_ok ec82 p268 w276
theorem w278 : Wk PR GG x32 c81 (initF 2 f264) (litH m262 4781) .norm (initF 2 f272) (litH m273 6083) := Wk.blockE ec81 w277
theorem w279 : Wk PR GG x32 c77 (initF 2 f261) (litH m262 4781) .norm (initF 2 f272) (litH m273 6083) := Wk.pieceC selfX_ok 1 p265 w278
theorem w283 : Wk PR GG x32 c78 (initF 2 f272) (litH m273 6083) .ret (initF 2 f280) (litH m281 6091) := Wk.piece selfX_ok p282
theorem w284 : Wk PR GG x32 c76 (initF 2 f261) (litH m262 4781) .ret (initF 2 f280) (litH m281 6091) := Wk.seqC ec76 w279 w283
theorem w285 : Wk PR GG x32 c72 (initF 2 f259) (litH m256 4780) .ret (initF 2 f280) (litH m281 6091) := Wk.pieceC selfX_ok 1 p263 w284
theorem k286 : CW PR GG 32 f259 (litH m256 4780) tt (litH m281 6091) := Wk.cw Tryz.func32 ec72 (N := 55) (D := 2) (by kernel_rfl) (by kernel_rfl) (by kernel_rfl) w285 (.inr rfl) (by kernel_rfl)
theorem w292 : WkI PR GG x18 c67 3 (initF 3 f287) (litH m288 6091) (initF 3 f290) (litH m288 6091) := WkI.fin (comp_ok _) spX_okS selfX_ok p291
theorem w293 : WkI PR GG x18 c67 0 (initF 3 f255) (litH m256 4780) (initF 3 f290) (litH m288 6091) := WkI.call (comp_ok _) spX_okS selfX_ok 0 2 p260 k286 p289 w292
theorem w294 : Wk PR GG x18 c67 (initF 3 f255) (litH m256 4780) .norm (initF 3 f290) (litH m288 6091) := Wk.ofI (by kernel_rfl) w293
theorem w296 : Wk PR GG x18 c68 (initF 3 f290) (litH m288 6091) .norm (initF 3 f290) (litH m288 6091) := Wk.piece selfX_ok p295
theorem w297 : Wk PR GG x18 c65 (initF 3 f255) (litH m256 4780) .norm (initF 3 f290) (litH m288 6091) := Wk.seqC ec65 w294 w296
theorem w351 : Wk PR GG x18 c130 (initF 3 f345) (litH m346 7590) .norm (initF 3 f348) (litH m349 7610) := Wk.piece selfX_ok p350
theorem w352 : Wk PR GG x18 c126 (initF 3 f342) (litH m343 7494) .norm (initF 3 f348) (litH m349 7610) := Wk.pieceC selfX_ok 1 p347 w351
theorem w353 : Wk PR GG x18 c122 (initF 3 f342) (litH m343 7494) .norm (initF 3 f348) (litH m349 7610) := Wk.blockC ec122 w352
theorem w366 : Wk PR GG x18 c130 (initF 3 f360) (litH m361 7894) .norm (initF 3 f363) (litH m364 7906) := Wk.piece selfX_ok p365
theorem w367 : Wk PR GG x18 c126 (initF 3 f357) (litH m358 7761) .norm (initF 3 f363) (litH m364 7906) := Wk.pieceC selfX_ok 1 p362 w366
theorem w368 : Wk PR GG x18 c122 (initF 3 f357) (litH m358 7761) .norm (initF 3 f363) (litH m364 7906) := Wk.blockC ec122 w367
theorem w402 : Wk PR GG x18 c121 (initF 3 f396) (litH m397 8867) .ret (initF 3 f399) (litH m400 8944) := Wk.piece selfX_ok p401
theorem w403 : Wk PR GG x18 c121 (initF 3 f393) (litH m394 8763) .ret (initF 3 f399) (litH m400 8944) := Wk.rounds selfX_ok ec121 p398 w402
theorem w404 : Wk PR GG x18 c121 (initF 3 f390) (litH m391 8677) .ret (initF 3 f399) (litH m400 8944) := Wk.rounds selfX_ok ec121 p395 w403
theorem w405 : Wk PR GG x18 c121 (initF 3 f387) (litH m388 8565) .ret (initF 3 f399) (litH m400 8944) := Wk.rounds selfX_ok ec121 p392 w404
theorem w406 : Wk PR GG x18 c121 (initF 3 f384) (litH m385 8491) .ret (initF 3 f399) (litH m400 8944) := Wk.rounds selfX_ok ec121 p389 w405
theorem w407 : Wk PR GG x18 c121 (initF 3 f381) (litH m382 8386) .ret (initF 3 f399) (litH m400 8944) := Wk.rounds selfX_ok ec121 p386 w406
theorem w408 : Wk PR GG x18 c121 (initF 3 f378) (litH m379 8318) .ret (initF 3 f399) (litH m400 8944) := Wk.rounds selfX_ok ec121 p383 w407
theorem w409 : Wk PR GG x18 c121 (initF 3 f375) (litH m376 8174) .ret (initF 3 f399) (litH m400 8944) := Wk.rounds selfX_ok ec121 p380 w408
theorem w410 : Wk PR GG x18 c121 (initF 3 f372) (litH m373 8119) .ret (initF 3 f399) (litH m400 8944) := Wk.rounds selfX_ok ec121 p377 w409
theorem w411 : Wk PR GG x18 c121 (initF 3 f369) (litH m370 8010) .ret (initF 3 f399) (litH m400 8944) := Wk.rounds selfX_ok ec121 p374 w410
theorem w412 : Wk PR GG x18 c121 (initF 3 f363) (litH m364 7906) .ret (initF 3 f399) (litH m400 8944) := Wk.rounds selfX_ok ec121 p371 w411
theorem w413 : Wk PR GG x18 c121 (initF 3 f357) (litH m358 7761) .ret (initF 3 f399) (litH m400 8944) := Wk.loopC ec121 w368 w412
theorem w414 : Wk PR GG x18 c121 (initF 3 f354) (litH m355 7722) .ret (initF 3 f399) (litH m400 8944) := Wk.rounds selfX_ok ec121 p359 w413
theorem w415 : Wk PR GG x18 c121 (initF 3 f348) (litH m349 7610) .ret (initF 3 f399) (litH m400 8944) := Wk.rounds selfX_ok ec121 p356 w414
theorem w416 : Wk PR GG x18 c121 (initF 3 f342) (litH m343 7494) .ret (initF 3 f399) (litH m400 8944) := Wk.loopC ec121 w353 w415
theorem w417 : Wk PR GG x18 c121 (initF 3 f339) (litH m340 7397) .ret (initF 3 f399) (litH m400 8944) := Wk.rounds selfX_ok ec121 p344 w416
theorem w418 : Wk PR GG x18 c121 (initF 3 f336) (litH m337 7286) .ret (initF 3 f399) (litH m400 8944) := Wk.rounds selfX_ok ec121 p341 w417
theorem w419 : Wk PR GG x18 c121 (initF 3 f333) (litH m334 7197) .ret (initF 3 f399) (litH m400 8944) := Wk.rounds selfX_ok ec121 p338 w418
theorem w420 : Wk PR GG x18 c121 (initF 3 f330) (litH m331 7104) .ret (initF 3 f399) (litH m400 8944) := Wk.rounds selfX_ok ec121 p335 w419
theorem w421 : Wk PR GG x18 c121 (initF 3 f327) (litH m328 6991) .ret (initF 3 f399) (litH m400 8944) := Wk.rounds selfX_ok ec121 p332 w420
theorem w422 : Wk PR GG x18 c121 (initF 3 f324) (litH m325 6920) .ret (initF 3 f399) (litH m400 8944) := Wk.rounds selfX_ok ec121 p329 w421
theorem w423 : Wk PR GG x18 c121 (initF 3 f321) (litH m322 6829) .ret (initF 3 f399) (litH m400 8944) := Wk.rounds selfX_ok ec121 p326 w422
theorem w424 : Wk PR GG x18 c121 (initF 3 f318) (litH m319 6754) .ret (initF 3 f399) (litH m400 8944) := Wk.rounds selfX_ok ec121 p323 w423
theorem w425 : Wk PR GG x18 c121 (initF 3 f315) (litH m316 6659) .ret (initF 3 f399) (litH m400 8944) := Wk.rounds selfX_ok ec121 p320 w424
theorem w426 : Wk PR GG x18 c121 (initF 3 f312) (litH m313 6597) .ret (initF 3 f399) (litH m400 8944) := Wk.rounds selfX_ok ec121 p317 w425
theorem w427 : Wk PR GG x18 c121 (initF 3 f309) (litH m310 6529) .ret (initF 3 f399) (litH m400 8944) := Wk.rounds selfX_ok ec121 p314 w426
theorem w428 : Wk PR GG x18 c121 (initF 3 f306) (litH m307 6430) .ret (initF 3 f399) (litH m400 8944) := Wk.rounds selfX_ok ec121 p311 w427
theorem w429 : Wk PR GG x18 c121 (initF 3 f303) (litH m304 6350) .ret (initF 3 f399) (litH m400 8944) := Wk.rounds selfX_ok ec121 p308 w428
theorem w430 : Wk PR GG x18 c121 (initF 3 f300) (litH m301 6259) .ret (initF 3 f399) (litH m400 8944) := Wk.rounds selfX_ok ec121 p305 w429
theorem w431 : Wk PR GG x18 c121 (initF 3 f298) (litH m288 6091) .ret (initF 3 f399) (litH m400 8944) := Wk.rounds selfX_ok ec121 p302 w430
theorem w432 : Wk PR GG x18 c119 (initF 3 f298) (litH m288 6091) .ret (initF 3 f399) (litH m400 8944) := Wk.blockP ec119 trivial w431
theorem w433 : Wk PR GG x18 c118 (initF 3 f298) (litH m288 6091) .ret (initF 3 f399) (litH m400 8944) := Wk.seqO ec118 (fun h => h) w432
theorem w434 : Wk PR GG x18 c66 (initF 3 f290) (litH m288 6091) .ret (initF 3 f399) (litH m400 8944) := Wk.pieceC selfX_ok 2 p299 w433
theorem w435 : Wk PR GG x18 c64 (initF 3 f255) (litH m256 4780) .ret (initF 3 f399) (litH m400 8944) := Wk.seqC ec64 w297 w434
theorem w436 : Wk PR GG x18 c60 (initF 3 f252) (litH m253 4768) .ret (initF 3 f399) (litH m400 8944) := Wk.pieceC selfX_ok 6 p257 w435
theorem w437 : Wk PR GG x18 c59 (initF 3 f252) (litH m253 4768) .ret (initF 3 f399) (litH m400 8944) := Wk.scopeP ec59 (fun h => h) w436
theorem w438 : Wk PR GG x18 c55 (initF 3 f250) (litH m249 4766) .ret (initF 3 f399) (litH m400 8944) := Wk.pieceC selfX_ok 1 p254 w437
theorem k439 : CW PR GG 18 f250 (litH m249 4766) (tu [(ag [(y 2), (s0 0 0), (q 8943 36)]), (i 0)]) (litH m400 8944) := Wk.cw Tryz.func18 ec55 (N := 191) (D := 3) (by kernel_rfl) (by kernel_rfl) (by kernel_rfl) w438 (.inr rfl) (by kernel_rfl)
theorem w446 : WkI PR GG x6 c246 7 (initF 3 f440) (litH m441 8944) (initF 3 f443) (litH m444 8945) := WkI.fin (comp_ok _) spX_okS selfX_ok p445
theorem w447 : WkI PR GG x6 c246 0 (initF 3 f242) (litH m243 4667) (initF 3 f443) (litH m444 8945) := WkI.call (comp_ok _) spX_okS selfX_ok 0 6 p251 k439 p442 w446
theorem w448 : Wk PR GG x6 c246 (initF 3 f242) (litH m243 4667) .norm (initF 3 f443) (litH m444 8945) := Wk.ofI (by kernel_rfl) w447
theorem w451 : Wk PR GG x6 c247 (initF 3 f443) (litH m444 8945) .ret (initF 3 f449) (litH m444 8945) := Wk.piece selfX_ok p450
theorem w452 : Wk PR GG x6 c245 (initF 3 f242) (litH m243 4667) .ret (initF 3 f449) (litH m444 8945) := Wk.seqC ec245 w448 w451
theorem w453 : Wk PR GG x6 c24 (initF 3 f240) (litH m237 3331) .ret (initF 3 f449) (litH m444 8945) := Wk.pieceC selfX_ok 9 p244 w452
theorem k454 : CW PR GG 6 f240 (litH m237 3331) (tu [(y 2), (s0 0 0), (i 0)]) (litH m444 8945) := Wk.cw Tryz.func6 ec24 (N := 101) (D := 3) (by kernel_rfl) (by kernel_rfl) (by kernel_rfl) w453 (.inr rfl) (by kernel_rfl)
theorem w460 : WkI PR GG x4 c19 3 (initF 3 f455) (litH m456 8945) (initF 3 f458) (litH m456 8945) := WkI.fin (comp_ok _) spX_okS selfX_ok p459
theorem w461 : WkI PR GG x4 c19 0 (initF 3 f236) (litH m237 3331) (initF 3 f458) (litH m456 8945) := WkI.call (comp_ok _) spX_okS selfX_ok 0 2 p241 k454 p457 w460
theorem w462 : Wk PR GG x4 c19 (initF 3 f236) (litH m237 3331) .norm (initF 3 f458) (litH m456 8945) := Wk.ofI (by kernel_rfl) w461
theorem w465 : Wk PR GG x4 c20 (initF 3 f458) (litH m456 8945) .ret (initF 3 f463) (litH m456 8945) := Wk.piece selfX_ok p464
theorem w466 : Wk PR GG x4 c18 (initF 3 f236) (litH m237 3331) .ret (initF 3 f463) (litH m456 8945) := Wk.seqC ec18 w462 w465
theorem w467 : Wk PR GG x4 c14 (initF 3 f234) (litH m233 3196) .ret (initF 3 f463) (litH m456 8945) := Wk.pieceC selfX_ok 4 p238 w466
theorem k468 : CW PR GG 4 f234 (litH m233 3196) tt (litH m456 8945) := Wk.cw Tryz.func4 ec14 (N := 69) (D := 3) (by kernel_rfl) (by kernel_rfl) (by kernel_rfl) w467 (.inr rfl) (by kernel_rfl)
def L496q : Ex → F8 → AH → Prop := fun e F' H' => (e = .norm ∨ e = .ret) ∧ ∃ H2, resV PR 3 71 F' H' Tryz.f20.results.toList = .ok (tu [(s 9110 0 0 0), (i 0)]) H2 ∧ has H2 m491 9112 = true
def L496q1 : Ex → F8 → AH → Prop := fun e F1 H1 => e = .norm ∧ WkQ PR GG x20 c170 F1 H1 L496q
def L496qB : Ex → F8 → AH → Prop := fun e F1 H1 => (e = .norm ∨ e = .exit 0) ∧ L496q1 .norm F1 H1
theorem w502 : WkQ PR GG x20 c170 (initF 3 f497) (litH m494 9112) L496q := (Wk.piece selfX_ok p500).q ⟨.inr rfl, resHas_eq p501⟩
theorem w504 : WkQ PR GG x20 c175 (initF 3 f493) (litH m494 9112) L496qB := by
    refine WkQ.loop ec175 (WkQ.seq ec176 (WkQ.next spX_okS selfX_ok p503 ?_))
    intro y hy
    simp only [List.mem_cons, List.not_mem_nil, or_false] at hy
    rcases hy with rfl
    · exact ⟨rfl, (Wk.piece selfX_ok p498).q ⟨.inr rfl, rfl, w502⟩⟩
theorem w505 : WkQ PR GG x20 c168 (initF 3 f490) (litH m491 9111) L496q := WkQ.seq ec168 (WkQ.pieceC selfX_ok 1 p495 (WkQ.block ec174 w504))
theorem w506 : WkQ PR GG x20 c164 (initF 3 f488) (litH m482 9110) L496q := WkQ.pieceC selfX_ok 4 p492 w505
theorem k507 : CW PR GG 20 f488 (litH m482 9110) (tu [(s 9110 0 0 0), (i 0)]) (litH m491 9112) := WkQ.cw Tryz.func20 ec164 (N := 71) (D := 3) (by kernel_rfl) (by kernel_rfl) (by kernel_rfl) w506
theorem w512 : WkI PR GG x6 c485 5 (initF 3 f508) (litH m491 9112) (initF 3 f510) (litH m491 9112) := WkI.fin (comp_ok _) spX_okS selfX_ok p511
theorem w513 : WkI PR GG x6 c485 0 (initF 3 f481) (litH m482 9110) (initF 3 f510) (litH m491 9112) := WkI.call (comp_ok _) spX_okS selfX_ok 0 4 p489 k507 p509 w512
theorem w514 : Wk PR GG x6 c485 (initF 3 f481) (litH m482 9110) .norm (initF 3 f510) (litH m491 9112) := Wk.ofI (by kernel_rfl) w513
theorem w517 : Wk PR GG x6 c486 (initF 3 f510) (litH m491 9112) .ret (initF 3 f515) (litH m491 9112) := Wk.piece selfX_ok p516
theorem w518 : Wk PR GG x6 c484 (initF 3 f481) (litH m482 9110) .ret (initF 3 f515) (litH m491 9112) := Wk.seqC ec484 w514 w517
theorem w519 : Wk PR GG x6 c24 (initF 3 f479) (litH m476 9078) .ret (initF 3 f515) (litH m491 9112) := Wk.pieceC selfX_ok 14 p483 w518
theorem k520 : CW PR GG 6 f479 (litH m476 9078) (tu [(y 1), (s 9110 0 0 0), (i 0)]) (litH m491 9112) := Wk.cw Tryz.func6 ec24 (N := 101) (D := 3) (by kernel_rfl) (by kernel_rfl) (by kernel_rfl) w519 (.inr rfl) (by kernel_rfl)
theorem w526 : WkI PR GG x4 c19 3 (initF 3 f521) (litH m522 9112) (initF 3 f524) (litH m522 9112) := WkI.fin (comp_ok _) spX_okS selfX_ok p525
theorem w527 : WkI PR GG x4 c19 0 (initF 3 f475) (litH m476 9078) (initF 3 f524) (litH m522 9112) := WkI.call (comp_ok _) spX_okS selfX_ok 0 2 p480 k520 p523 w526
theorem w528 : Wk PR GG x4 c19 (initF 3 f475) (litH m476 9078) .norm (initF 3 f524) (litH m522 9112) := Wk.ofI (by kernel_rfl) w527
theorem w531 : Wk PR GG x4 c20 (initF 3 f524) (litH m522 9112) .ret (initF 3 f529) (litH m522 9112) := Wk.piece selfX_ok p530
theorem w532 : Wk PR GG x4 c18 (initF 3 f475) (litH m476 9078) .ret (initF 3 f529) (litH m522 9112) := Wk.seqC ec18 w528 w531
theorem w533 : Wk PR GG x4 c14 (initF 3 f473) (litH m470 8945) .ret (initF 3 f529) (litH m522 9112) := Wk.pieceC selfX_ok 4 p477 w532
theorem k534 : CW PR GG 4 f473 (litH m470 8945) tt (litH m522 9112) := Wk.cw Tryz.func4 ec14 (N := 69) (D := 3) (by kernel_rfl) (by kernel_rfl) (by kernel_rfl) w533 (.inr rfl) (by kernel_rfl)
def L559q : Ex → F8 → AH → Prop := fun e F' H' => (e = .norm ∨ e = .ret) ∧ ∃ H2, resV PR 3 71 F' H' Tryz.f20.results.toList = .ok (tu [(s 9309 0 0 0), (i 0)]) H2 ∧ has H2 m554 9311 = true
def L559q1 : Ex → F8 → AH → Prop := fun e F1 H1 => e = .norm ∧ WkQ PR GG x20 c170 F1 H1 L559q
def L559qB : Ex → F8 → AH → Prop := fun e F1 H1 => (e = .norm ∨ e = .exit 0) ∧ L559q1 .norm F1 H1
theorem w565 : WkQ PR GG x20 c170 (initF 3 f560) (litH m557 9311) L559q := (Wk.piece selfX_ok p563).q ⟨.inr rfl, resHas_eq p564⟩
theorem w567 : WkQ PR GG x20 c175 (initF 3 f556) (litH m557 9311) L559qB := by
    refine WkQ.loop ec175 (WkQ.seq ec176 (WkQ.next spX_okS selfX_ok p566 ?_))
    intro y hy
    simp only [List.mem_cons, List.not_mem_nil, or_false] at hy
    rcases hy with rfl
    · exact ⟨rfl, (Wk.piece selfX_ok p561).q ⟨.inr rfl, rfl, w565⟩⟩
theorem w568 : WkQ PR GG x20 c168 (initF 3 f553) (litH m554 9310) L559q := WkQ.seq ec168 (WkQ.pieceC selfX_ok 1 p558 (WkQ.block ec174 w567))
theorem w569 : WkQ PR GG x20 c164 (initF 3 f551) (litH m548 9309) L559q := WkQ.pieceC selfX_ok 4 p555 w568
theorem k570 : CW PR GG 20 f551 (litH m548 9309) (tu [(s 9309 0 0 0), (i 0)]) (litH m554 9311) := WkQ.cw Tryz.func20 ec164 (N := 71) (D := 3) (by kernel_rfl) (by kernel_rfl) (by kernel_rfl) w569
theorem w575 : WkI PR GG x6 c485 5 (initF 3 f571) (litH m554 9311) (initF 3 f573) (litH m554 9311) := WkI.fin (comp_ok _) spX_okS selfX_ok p574
theorem w576 : WkI PR GG x6 c485 0 (initF 3 f547) (litH m548 9309) (initF 3 f573) (litH m554 9311) := WkI.call (comp_ok _) spX_okS selfX_ok 0 4 p552 k570 p572 w575
theorem w577 : Wk PR GG x6 c485 (initF 3 f547) (litH m548 9309) .norm (initF 3 f573) (litH m554 9311) := Wk.ofI (by kernel_rfl) w576
theorem w580 : Wk PR GG x6 c486 (initF 3 f573) (litH m554 9311) .ret (initF 3 f578) (litH m554 9311) := Wk.piece selfX_ok p579
theorem w581 : Wk PR GG x6 c484 (initF 3 f547) (litH m548 9309) .ret (initF 3 f578) (litH m554 9311) := Wk.seqC ec484 w577 w580
theorem w582 : Wk PR GG x6 c24 (initF 3 f545) (litH m542 9248) .ret (initF 3 f578) (litH m554 9311) := Wk.pieceC selfX_ok 14 p549 w581
theorem k583 : CW PR GG 6 f545 (litH m542 9248) (tu [(y 1), (s 9309 0 0 0), (i 0)]) (litH m554 9311) := Wk.cw Tryz.func6 ec24 (N := 101) (D := 3) (by kernel_rfl) (by kernel_rfl) (by kernel_rfl) w582 (.inr rfl) (by kernel_rfl)
theorem w589 : WkI PR GG x4 c19 3 (initF 3 f584) (litH m585 9311) (initF 3 f587) (litH m585 9311) := WkI.fin (comp_ok _) spX_okS selfX_ok p588
theorem w590 : WkI PR GG x4 c19 0 (initF 3 f541) (litH m542 9248) (initF 3 f587) (litH m585 9311) := WkI.call (comp_ok _) spX_okS selfX_ok 0 2 p546 k583 p586 w589
theorem w591 : Wk PR GG x4 c19 (initF 3 f541) (litH m542 9248) .norm (initF 3 f587) (litH m585 9311) := Wk.ofI (by kernel_rfl) w590
theorem w594 : Wk PR GG x4 c20 (initF 3 f587) (litH m585 9311) .ret (initF 3 f592) (litH m585 9311) := Wk.piece selfX_ok p593
theorem w595 : Wk PR GG x4 c18 (initF 3 f541) (litH m542 9248) .ret (initF 3 f592) (litH m585 9311) := Wk.seqC ec18 w591 w594
theorem w596 : Wk PR GG x4 c14 (initF 3 f539) (litH m538 9113) .ret (initF 3 f592) (litH m585 9311) := Wk.pieceC selfX_ok 4 p543 w595
theorem k597 : CW PR GG 4 f539 (litH m538 9113) tt (litH m585 9311) := Wk.cw Tryz.func4 ec14 (N := 69) (D := 3) (by kernel_rfl) (by kernel_rfl) (by kernel_rfl) w596 (.inr rfl) (by kernel_rfl)
theorem w603 : WkI PR GG x3 c8 17 (initF 3 f598) (litH m538 9311) (initF 3 f600) (litH m601 9738) := WkI.fin (comp_ok _) spX_okS selfX_ok p602
theorem w604 : WkI PR GG x3 c8 12 (initF 3 f535) (litH m470 9112) (initF 3 f600) (litH m601 9738) := WkI.call (comp_ok _) spX_okS selfX_ok 12 4 p540 k597 p599 w603
theorem w605 : WkI PR GG x3 c8 8 (initF 3 f469) (litH m470 8945) (initF 3 f600) (litH m601 9738) := WkI.call (comp_ok _) spX_okS selfX_ok 8 3 p474 k534 p536 w604
theorem w606 : WkI PR GG x3 c8 3 (initF 3 f230) (litH m11 3195) (initF 3 f600) (litH m601 9738) := WkI.call (comp_ok _) spX_okS selfX_ok 3 4 p235 k468 p471 w605
theorem w607 : WkI PR GG x3 c8 0 (initF 3 f2) (litH m3 1) (initF 3 f600) (litH m601 9738) := WkI.call (comp_ok _) spX_okS selfX_ok 0 2 p13 k229 p231 w606
theorem w608 : Wk PR GG x3 c8 (initF 3 f2) (litH m3 1) .norm (initF 3 f600) (litH m601 9738) := Wk.ofI (by kernel_rfl) w607
theorem w610 : Wk PR GG x3 c9 (initF 3 f600) (litH m601 9738) .norm (initF 3 f600) (litH m601 9738) := Wk.piece selfX_ok p609
theorem w611 : Wk PR GG x3 c6 (initF 3 f2) (litH m3 1) .norm (initF 3 f600) (litH m601 9738) := Wk.seqC ec6 w608 w610
theorem w633 : Wk PR GG x14 c630 (initF 2 f628) (litH m619 9872) .ret (initF 2 f631) (litH m619 9872) := Wk.piece selfX_ok p632
theorem k634 : CW PR GG 14 f628 (litH m619 9872) (tu [(s0 0 0), (i 3)]) (litH m619 9872) := Wk.cw Tryz.func14 ec630 (N := 38) (D := 2) (by kernel_rfl) (by kernel_rfl) (by kernel_rfl) w633 (.inr rfl) (by kernel_rfl)
theorem w639 : WkI PR GG x6 c625 3 (initF 3 f635) (litH m619 9872) (initF 3 f637) (litH m619 9872) := WkI.fin (comp_ok _) spX_okS selfX_ok p638
theorem w640 : WkI PR GG x6 c625 0 (initF 3 f622) (litH m619 9872) (initF 3 f637) (litH m619 9872) := WkI.call (comp_ok _) spX_okS selfX_ok 0 2 p629 k634 p636 w639
theorem w641 : Wk PR GG x6 c625 (initF 3 f622) (litH m619 9872) .norm (initF 3 f637) (litH m619 9872) := Wk.ofI (by kernel_rfl) w640
theorem w644 : Wk PR GG x6 c626 (initF 3 f637) (litH m619 9872) .ret (initF 3 f642) (litH m619 9872) := Wk.piece selfX_ok p643
theorem w645 : Wk PR GG x6 c624 (initF 3 f622) (litH m619 9872) .ret (initF 3 f642) (litH m619 9872) := Wk.seqC ec624 w641 w644
theorem w646 : Wk PR GG x6 c24 (initF 3 f620) (litH m619 9872) .ret (initF 3 f642) (litH m619 9872) := Wk.pieceC selfX_ok 2 p623 w645
theorem k647 : CW PR GG 6 f620 (litH m619 9872) (tu [(y 0), (s0 0 0), (i 3)]) (litH m619 9872) := Wk.cw Tryz.func6 ec24 (N := 101) (D := 3) (by kernel_rfl) (by kernel_rfl) (by kernel_rfl) w646 (.inr rfl) (by kernel_rfl)
theorem w652 : WkI PR GG x3 c616 5 (initF 3 f648) (litH m619 9872) (initF 3 f650) (litH m619 9872) := WkI.fin (comp_ok _) spX_okS selfX_ok p651
theorem w653 : WkI PR GG x3 c616 0 (initF 3 f612) (litH m613 9871) (initF 3 f650) (litH m619 9872) := WkI.call (comp_ok _) spX_okS selfX_ok 0 4 p621 k647 p649 w652
theorem w654 : Wk PR GG x3 c616 (initF 3 f612) (litH m613 9871) .norm (initF 3 f650) (litH m619 9872) := Wk.ofI (by kernel_rfl) w653
theorem w706 : Wk PR GG x32 c82 (initF 2 f700) (litH m701 11507) (.exit 0) (initF 2 f703) (litH m704 11882) := Wk.piece selfX_ok p705
theorem w707 : Wk PR GG x32 c82 (initF 2 f698) (litH m696 11044) (.exit 0) (initF 2 f703) (litH m704 11882) := Wk.rounds selfX_ok ec82 p702 w706
theorem w708 : Wk PR GG x32 c81 (initF 2 f698) (litH m696 11044) .norm (initF 2 f703) (litH m704 11882) := Wk.blockE ec81 w707
theorem w709 : Wk PR GG x32 c77 (initF 2 f695) (litH m696 11044) .norm (initF 2 f703) (litH m704 11882) := Wk.pieceC selfX_ok 1 p699 w708
theorem w713 : Wk PR GG x32 c78 (initF 2 f703) (litH m704 11882) .ret (initF 2 f710) (litH m711 12006) := Wk.piece selfX_ok p712
theorem w714 : Wk PR GG x32 c76 (initF 2 f695) (litH m696 11044) .ret (initF 2 f710) (litH m711 12006) := Wk.seqC ec76 w709 w713
theorem w715 : Wk PR GG x32 c72 (initF 2 f693) (litH m690 11043) .ret (initF 2 f710) (litH m711 12006) := Wk.pieceC selfX_ok 1 p697 w714
theorem k716 : CW PR GG 32 f693 (litH m690 11043) tt (litH m711 12006) := Wk.cw Tryz.func32 ec72 (N := 55) (D := 2) (by kernel_rfl) (by kernel_rfl) (by kernel_rfl) w715 (.inr rfl) (by kernel_rfl)
theorem w722 : WkI PR GG x18 c67 3 (initF 3 f717) (litH m718 12006) (initF 3 f720) (litH m718 12006) := WkI.fin (comp_ok _) spX_okS selfX_ok p721
theorem w723 : WkI PR GG x18 c67 0 (initF 3 f689) (litH m690 11043) (initF 3 f720) (litH m718 12006) := WkI.call (comp_ok _) spX_okS selfX_ok 0 2 p694 k716 p719 w722
theorem w724 : Wk PR GG x18 c67 (initF 3 f689) (litH m690 11043) .norm (initF 3 f720) (litH m718 12006) := Wk.ofI (by kernel_rfl) w723
theorem w726 : Wk PR GG x18 c68 (initF 3 f720) (litH m718 12006) .norm (initF 3 f720) (litH m718 12006) := Wk.piece selfX_ok p725
theorem w727 : Wk PR GG x18 c65 (initF 3 f689) (litH m690 11043) .norm (initF 3 f720) (litH m718 12006) := Wk.seqC ec65 w724 w726
theorem w731 : Wk PR GG x18 c66 (initF 3 f720) (litH m718 12006) .ret (initF 3 f728) (litH m729 12007) := Wk.piece selfX_ok p730
theorem w732 : Wk PR GG x18 c64 (initF 3 f689) (litH m690 11043) .ret (initF 3 f728) (litH m729 12007) := Wk.seqC ec64 w727 w731
theorem w733 : Wk PR GG x18 c60 (initF 3 f686) (litH m687 11031) .ret (initF 3 f728) (litH m729 12007) := Wk.pieceC selfX_ok 6 p691 w732
theorem w734 : Wk PR GG x18 c59 (initF 3 f686) (litH m687 11031) .ret (initF 3 f728) (litH m729 12007) := Wk.scopeP ec59 (fun h => h) w733
theorem w735 : Wk PR GG x18 c55 (initF 3 f684) (litH m683 11029) .ret (initF 3 f728) (litH m729 12007) := Wk.pieceC selfX_ok 1 p688 w734
theorem k736 : CW PR GG 18 f684 (litH m683 11029) (tu [(ag [(y 1), (s 12006 0 20 20), (s0 0 0)]), (i 0)]) (litH m729 12007) := Wk.cw Tryz.func18 ec55 (N := 191) (D := 3) (by kernel_rfl) (by kernel_rfl) (by kernel_rfl) w735 (.inr rfl) (by kernel_rfl)
theorem w743 : WkI PR GG x6 c246 7 (initF 3 f737) (litH m738 12007) (initF 3 f740) (litH m741 12008) := WkI.fin (comp_ok _) spX_okS selfX_ok p742
theorem w744 : WkI PR GG x6 c246 0 (initF 3 f679) (litH m680 10961) (initF 3 f740) (litH m741 12008) := WkI.call (comp_ok _) spX_okS selfX_ok 0 6 p685 k736 p739 w743
theorem w745 : Wk PR GG x6 c246 (initF 3 f679) (litH m680 10961) .norm (initF 3 f740) (litH m741 12008) := Wk.ofI (by kernel_rfl) w744
def L760q : Ex → F8 → AH → Prop := fun e F' H' => (e = .norm ∨ e = .ret) ∧ ∃ H2, resV PR 3 71 F' H' Tryz.f20.results.toList = .ok (tu [(s 12008 0 3 3), (i 0)]) H2 ∧ has H2 m761 12010 = true
def L760q1 : Ex → F8 → AH → Prop := fun e F1 H1 => e = .norm ∧ WkQ PR GG x20 c170 F1 H1 L760q
def L760qB : Ex → F8 → AH → Prop := fun e F1 H1 => (e = .norm ∨ e = .exit 0) ∧ L760q1 .norm F1 H1
theorem w776 : WkQ PR GG x20 c170 (initF 3 f771) (litH m769 12010) L760q := (Wk.piece selfX_ok p774).q ⟨.inr rfl, resHas_eq p775⟩
theorem w778 : WkQ PR GG x20 c175 (initF 3 f768) (litH m769 12010) L760qB := by
    refine WkQ.loop ec175 (WkQ.seq ec176 (WkQ.next spX_okS selfX_ok p777 ?_))
    intro y hy
    simp only [List.mem_cons, List.not_mem_nil, or_false] at hy
    rcases hy with rfl
    · exact ⟨rfl, (Wk.piece selfX_ok p772).q ⟨.inr rfl, rfl, w776⟩⟩
theorem w780 : WkQ PR GG x20 c175 (initF 3 f764) (litH m763 12010) L760qB := by
    refine WkQ.loop ec175 (WkQ.seq ec176 (WkQ.next spX_okS selfX_ok p779 ?_))
    intro y hy
    simp only [List.mem_cons, List.not_mem_nil, or_false] at hy
    rcases hy with rfl
    · exact ⟨rfl, (Wk.piece selfX_ok p770).q w778⟩
theorem w794 : WkQ PR GG x20 c170 (initF 3 f789) (litH m786 12010) L760q := (Wk.piece selfX_ok p792).q ⟨.inr rfl, resHas_eq p793⟩
theorem w796 : WkQ PR GG x20 c175 (initF 3 f787) (litH m786 12010) L760qB := by
    refine WkQ.loop ec175 (WkQ.seq ec176 (WkQ.next spX_okS selfX_ok p795 ?_))
    intro y hy
    simp only [List.mem_cons, List.not_mem_nil, or_false] at hy
    rcases hy with rfl
    · exact ⟨rfl, (Wk.piece selfX_ok p790).q ⟨.inr rfl, rfl, w794⟩⟩
theorem w798 : WkQ PR GG x20 c175 (initF 3 f768) (litH m783 12010) L760qB := by
    refine WkQ.loop ec175 (WkQ.seq ec176 (WkQ.next spX_okS selfX_ok p797 ?_))
    intro y hy
    simp only [List.mem_cons, List.not_mem_nil, or_false] at hy
    rcases hy with rfl
    · exact ⟨rfl, (Wk.piece selfX_ok p788).q w796⟩
theorem w800 : WkQ PR GG x20 c175 (initF 3 f757) (litH m758 12010) L760qB := by
    refine WkQ.loop ec175 (WkQ.seq ec176 (WkQ.next spX_okS selfX_ok p799 ?_))
    intro y hy
    simp only [List.mem_cons, List.not_mem_nil, or_false] at hy
    rcases hy with rfl | rfl
    · exact ⟨rfl, (Wk.piece selfX_ok p765).q w780⟩
    · exact ⟨rfl, (Wk.piece selfX_ok p784).q w798⟩
theorem w801 : WkQ PR GG x20 c168 (initF 3 f754) (litH m755 12009) L760q := WkQ.seq ec168 (WkQ.pieceC selfX_ok 1 p759 (WkQ.block ec174 w800))
theorem w802 : WkQ PR GG x20 c164 (initF 3 f752) (litH m741 12008) L760q := WkQ.pieceC selfX_ok 4 p756 w801
theorem k803 : CW PR GG 20 f752 (litH m741 12008) (tu [(s 12008 0 3 3), (i 0)]) (litH m761 12010) := WkQ.cw Tryz.func20 ec164 (N := 71) (D := 3) (by kernel_rfl) (by kernel_rfl) (by kernel_rfl) w802
theorem w808 : WkI PR GG x6 c749 5 (initF 3 f804) (litH m761 12010) (initF 3 f806) (litH m761 12010) := WkI.fin (comp_ok _) spX_okS selfX_ok p807
theorem w809 : WkI PR GG x6 c749 0 (initF 3 f746) (litH m741 12008) (initF 3 f806) (litH m761 12010) := WkI.call (comp_ok _) spX_okS selfX_ok 0 4 p753 k803 p805 w808
theorem w810 : Wk PR GG x6 c749 (initF 3 f746) (litH m741 12008) .norm (initF 3 f806) (litH m761 12010) := Wk.ofI (by kernel_rfl) w809
theorem w813 : Wk PR GG x6 c750 (initF 3 f806) (litH m761 12010) .ret (initF 3 f811) (litH m761 12010) := Wk.piece selfX_ok p812
theorem w814 : Wk PR GG x6 c748 (initF 3 f746) (litH m741 12008) .ret (initF 3 f811) (litH m761 12010) := Wk.seqC ec748 w810 w813
theorem w815 : Wk PR GG x6 c247 (initF 3 f740) (litH m741 12008) .ret (initF 3 f811) (litH m761 12010) := Wk.pieceC selfX_ok 4 p747 w814
theorem w816 : Wk PR GG x6 c245 (initF 3 f679) (litH m680 10961) .ret (initF 3 f811) (litH m761 12010) := Wk.seqC ec245 w745 w815
theorem w817 : Wk PR GG x6 c24 (initF 3 f677) (litH m674 10020) .ret (initF 3 f811) (litH m761 12010) := Wk.pieceC selfX_ok 9 p681 w816
theorem k818 : CW PR GG 6 f677 (litH m674 10020) (tu [(y 1), (s 12008 0 3 3), (i 0)]) (litH m761 12010) := Wk.cw Tryz.func6 ec24 (N := 101) (D := 3) (by kernel_rfl) (by kernel_rfl) (by kernel_rfl) w817 (.inr rfl) (by kernel_rfl)
theorem w824 : WkI PR GG x4 c19 3 (initF 3 f819) (litH m820 12010) (initF 3 f822) (litH m820 12010) := WkI.fin (comp_ok _) spX_okS selfX_ok p823
theorem w825 : WkI PR GG x4 c19 0 (initF 3 f673) (litH m674 10020) (initF 3 f822) (litH m820 12010) := WkI.call (comp_ok _) spX_okS selfX_ok 0 2 p678 k818 p821 w824
theorem w826 : Wk PR GG x4 c19 (initF 3 f673) (litH m674 10020) .norm (initF 3 f822) (litH m820 12010) := Wk.ofI (by kernel_rfl) w825
theorem w829 : Wk PR GG x4 c20 (initF 3 f822) (litH m820 12010) .ret (initF 3 f827) (litH m820 12010) := Wk.piece selfX_ok p828
theorem w830 : Wk PR GG x4 c18 (initF 3 f673) (litH m674 10020) .ret (initF 3 f827) (litH m820 12010) := Wk.seqC ec18 w826 w829
theorem w831 : Wk PR GG x4 c14 (initF 3 f671) (litH m670 9883) .ret (initF 3 f827) (litH m820 12010) := Wk.pieceC selfX_ok 4 p675 w830
theorem k832 : CW PR GG 4 f671 (litH m670 9883) tt (litH m820 12010) := Wk.cw Tryz.func4 ec14 (N := 69) (D := 3) (by kernel_rfl) (by kernel_rfl) (by kernel_rfl) w831 (.inr rfl) (by kernel_rfl)
theorem w872 : Wk PR GG x32 c82 (initF 2 f866) (litH m867 13803) (.exit 0) (initF 2 f869) (litH m870 14252) := Wk.piece selfX_ok p871
theorem w873 : Wk PR GG x32 c82 (initF 2 f864) (litH m862 13308) (.exit 0) (initF 2 f869) (litH m870 14252) := Wk.rounds selfX_ok ec82 p868 w872
theorem w874 : Wk PR GG x32 c81 (initF 2 f864) (litH m862 13308) .norm (initF 2 f869) (litH m870 14252) := Wk.blockE ec81 w873
theorem w875 : Wk PR GG x32 c77 (initF 2 f861) (litH m862 13308) .norm (initF 2 f869) (litH m870 14252) := Wk.pieceC selfX_ok 1 p865 w874
theorem w879 : Wk PR GG x32 c78 (initF 2 f869) (litH m870 14252) .ret (initF 2 f876) (litH m877 14322) := Wk.piece selfX_ok p878
theorem w880 : Wk PR GG x32 c76 (initF 2 f861) (litH m862 13308) .ret (initF 2 f876) (litH m877 14322) := Wk.seqC ec76 w875 w879
theorem w881 : Wk PR GG x32 c72 (initF 2 f859) (litH m856 13307) .ret (initF 2 f876) (litH m877 14322) := Wk.pieceC selfX_ok 1 p863 w880
theorem k882 : CW PR GG 32 f859 (litH m856 13307) ff (litH m877 14322) := Wk.cw Tryz.func32 ec72 (N := 55) (D := 2) (by kernel_rfl) (by kernel_rfl) (by kernel_rfl) w881 (.inr rfl) (by kernel_rfl)
theorem w888 : WkI PR GG x18 c67 3 (initF 3 f883) (litH m884 14322) (initF 3 f886) (litH m884 14322) := WkI.fin (comp_ok _) spX_okS selfX_ok p887
theorem w889 : WkI PR GG x18 c67 0 (initF 3 f855) (litH m856 13307) (initF 3 f886) (litH m884 14322) := WkI.call (comp_ok _) spX_okS selfX_ok 0 2 p860 k882 p885 w888
theorem w890 : Wk PR GG x18 c67 (initF 3 f855) (litH m856 13307) .norm (initF 3 f886) (litH m884 14322) := Wk.ofI (by kernel_rfl) w889
theorem w894 : Wk PR GG x18 c68 (initF 3 f886) (litH m884 14322) .ret (initF 3 f891) (litH m892 14325) := Wk.piece selfX_ok p893
theorem w895 : Wk PR GG x18 c65 (initF 3 f855) (litH m856 13307) .ret (initF 3 f891) (litH m892 14325) := Wk.seqC ec65 w890 w894
theorem w896 : Wk PR GG x18 c64 (initF 3 f855) (litH m856 13307) .ret (initF 3 f891) (litH m892 14325) := Wk.seqO ec64 (fun h => h) w895
theorem w897 : Wk PR GG x18 c60 (initF 3 f852) (litH m853 13295) .ret (initF 3 f891) (litH m892 14325) := Wk.pieceC selfX_ok 6 p857 w896
theorem w898 : Wk PR GG x18 c59 (initF 3 f852) (litH m853 13295) .ret (initF 3 f891) (litH m892 14325) := Wk.scopeP ec59 (fun h => h) w897
theorem w899 : Wk PR GG x18 c55 (initF 3 f850) (litH m849 13293) .ret (initF 3 f891) (litH m892 14325) := Wk.pieceC selfX_ok 1 p854 w898
theorem k900 : CW PR GG 18 f850 (litH m849 13293) (tu [(ag [(y 2), (s0 0 0), (q 14324 1)]), (i 0)]) (litH m892 14325) := Wk.cw Tryz.func18 ec55 (N := 191) (D := 3) (by kernel_rfl) (by kernel_rfl) (by kernel_rfl) w899 (.inr rfl) (by kernel_rfl)
theorem w907 : WkI PR GG x6 c246 7 (initF 3 f901) (litH m902 14325) (initF 3 f904) (litH m905 14326) := WkI.fin (comp_ok _) spX_okS selfX_ok p906
theorem w908 : WkI PR GG x6 c246 0 (initF 3 f845) (litH m846 13216) (initF 3 f904) (litH m905 14326) := WkI.call (comp_ok _) spX_okS selfX_ok 0 6 p851 k900 p903 w907
theorem w909 : Wk PR GG x6 c246 (initF 3 f845) (litH m846 13216) .norm (initF 3 f904) (litH m905 14326) := Wk.ofI (by kernel_rfl) w908
theorem w912 : Wk PR GG x6 c247 (initF 3 f904) (litH m905 14326) .ret (initF 3 f910) (litH m905 14326) := Wk.piece selfX_ok p911
theorem w913 : Wk PR GG x6 c245 (initF 3 f845) (litH m846 13216) .ret (initF 3 f910) (litH m905 14326) := Wk.seqC ec245 w909 w912
theorem w914 : Wk PR GG x6 c24 (initF 3 f843) (litH m840 12147) .ret (initF 3 f910) (litH m905 14326) := Wk.pieceC selfX_ok 9 p847 w913
theorem k915 : CW PR GG 6 f843 (litH m840 12147) (tu [(y 2), (s0 0 0), (i 0)]) (litH m905 14326) := Wk.cw Tryz.func6 ec24 (N := 101) (D := 3) (by kernel_rfl) (by kernel_rfl) (by kernel_rfl) w914 (.inr rfl) (by kernel_rfl)
theorem w920 : WkI PR GG x4 c19 3 (initF 3 f916) (litH m840 14326) (initF 3 f918) (litH m840 14326) := WkI.fin (comp_ok _) spX_okS selfX_ok p919
theorem w921 : WkI PR GG x4 c19 0 (initF 3 f839) (litH m840 12147) (initF 3 f918) (litH m840 14326) := WkI.call (comp_ok _) spX_okS selfX_ok 0 2 p844 k915 p917 w920
theorem w922 : Wk PR GG x4 c19 (initF 3 f839) (litH m840 12147) .norm (initF 3 f918) (litH m840 14326) := Wk.ofI (by kernel_rfl) w921
theorem w925 : Wk PR GG x4 c20 (initF 3 f918) (litH m840 14326) .ret (initF 3 f923) (litH m840 14326) := Wk.piece selfX_ok p924
theorem w926 : Wk PR GG x4 c18 (initF 3 f839) (litH m840 12147) .ret (initF 3 f923) (litH m840 14326) := Wk.seqC ec18 w922 w925
theorem w927 : Wk PR GG x4 c14 (initF 3 f837) (litH m836 12012) .ret (initF 3 f923) (litH m840 14326) := Wk.pieceC selfX_ok 4 p841 w926
theorem k928 : CW PR GG 4 f837 (litH m836 12012) tt (litH m840 14326) := Wk.cw Tryz.func4 ec14 (N := 69) (D := 3) (by kernel_rfl) (by kernel_rfl) (by kernel_rfl) w927 (.inr rfl) (by kernel_rfl)
theorem w933 : WkI PR GG x7 c667 7 (initF 2 f929) (litH m836 14326) (initF 2 f931) (litH m836 14326) := WkI.fin (comp_ok _) spX_okS selfX_ok p932
theorem w934 : WkI PR GG x7 c667 3 (initF 2 f833) (litH m670 12010) (initF 2 f931) (litH m836 14326) := WkI.call (comp_ok _) spX_okS selfX_ok 3 3 p838 k928 p930 w933
theorem w935 : WkI PR GG x7 c667 0 (initF 2 f664) (litH m656 9881) (initF 2 f931) (litH m836 14326) := WkI.call (comp_ok _) spX_okS selfX_ok 0 2 p672 k832 p834 w934
theorem w936 : Wk PR GG x7 c667 (initF 2 f664) (litH m656 9881) .norm (initF 2 f931) (litH m836 14326) := Wk.ofI (by kernel_rfl) w935
theorem w938 : Wk PR GG x7 c668 (initF 2 f931) (litH m836 14326) .ret (initF 2 f931) (litH m836 14326) := Wk.piece selfX_ok p937
theorem w939 : Wk PR GG x7 c666 (initF 2 f664) (litH m656 9881) .ret (initF 2 f931) (litH m836 14326) := Wk.seqC ec666 w936 w938
theorem w940 : Wk PR GG x7 c663 (initF 2 f0) (litH m656 9881) .ret (initF 2 f931) (litH m836 14326) := Wk.pieceC selfX_ok 1 p665 w939
theorem k941 : CW PR GG 7 f0 (litH m656 9881) tt (litH m836 14326) := Wk.cw Tryz.func7 ec663 (N := 9) (D := 2) (by kernel_rfl) (by kernel_rfl) (by kernel_rfl) w940 (.inr rfl) (by kernel_rfl)
theorem w946 : WkI PR GG x3 c659 46 (initF 3 f942) (litH m656 14326) (initF 3 f944) (litH m656 14326) := WkI.fin (comp_ok _) spX_okS selfX_ok p945
theorem w947 : WkI PR GG x3 c659 0 (initF 3 f655) (litH m656 9881) (initF 3 f944) (litH m656 14326) := WkI.call (comp_ok _) spX_okS selfX_ok 0 45 p662 k941 p943 w946
theorem w948 : Wk PR GG x3 c659 (initF 3 f655) (litH m656 9881) .norm (initF 3 f944) (litH m656 14326) := Wk.ofI (by kernel_rfl) w947
theorem w950 : Wk PR GG x3 c660 (initF 3 f944) (litH m656 14326) .ret (initF 3 f944) (litH m656 14326) := Wk.piece selfX_ok p949
theorem w951 : Wk PR GG x3 c658 (initF 3 f655) (litH m656 9881) .ret (initF 3 f944) (litH m656 14326) := Wk.seqC ec658 w948 w950
theorem w952 : Wk PR GG x3 c617 (initF 3 f650) (litH m619 9872) .ret (initF 3 f944) (litH m656 14326) := Wk.pieceC selfX_ok 3 p657 w951
theorem w953 : Wk PR GG x3 c615 (initF 3 f612) (litH m613 9871) .ret (initF 3 f944) (litH m656 14326) := Wk.seqC ec615 w654 w952
theorem w954 : Wk PR GG x3 c7 (initF 3 f600) (litH m601 9738) .ret (initF 3 f944) (litH m656 14326) := Wk.pieceC selfX_ok 1 p614 w953
theorem w955 : Wk PR GG x3 c5 (initF 3 f2) (litH m3 1) .ret (initF 3 f944) (litH m656 14326) := Wk.seqC ec5 w611 w954
theorem w956 : Wk PR GG x3 c1 (initF 3 f0) H0 .ret (initF 3 f944) (litH m656 14326) := Wk.pieceC selfX_ok 2 p4 w955
theorem k957 : CW PR GG 3 f0 H0 tt (litH m656 14326) := Wk.cw Tryz.func3 ec1 (N := 128) (D := 3) (by kernel_rfl) (by kernel_rfl) (by kernel_rfl) w956 (.inr rfl) (by kernel_rfl)
end Rn
end Cr
end Go.Proofs.YtkpmlkhgndpcpaaGreat
