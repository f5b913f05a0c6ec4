/- The run, out of its pieces. -/
import Derived.Test.YtekbkaipdmklpaaGreatDoorP1
import Derived.Test.YtekbkaipdmklpaaGreatDoorP2
import Derived.Test.YtekbkaipdmklpaaGreatDoorP3
import Derived.Test.YtekbkaipdmklpaaGreatDoorP4
import Derived.Test.YtekbkaipdmklpaaGreatDoorP5
import Derived.Test.YtekbkaipdmklpaaGreatDoorP6
import Derived.Test.YtekbkaipdmklpaaGreatDoorP7
import Derived.Test.YtekbkaipdmklpaaGreatDoorP8
import Derived.Test.YtekbkaipdmklpaaGreatDoorP9
import Derived.Test.YtekbkaipdmklpaaGreatDoorP10
import Derived.Test.YtekbkaipdmklpaaGreatDoorP11
import Derived.Test.YtekbkaipdmklpaaGreatDoorP12
import Derived.Test.YtekbkaipdmklpaaGreatDoorP13
import Derived.Test.YtekbkaipdmklpaaGreatDoorP14
import Derived.Test.YtekbkaipdmklpaaGreatDoorP15
import Derived.Test.YtekbkaipdmklpaaGreatDoorP16
import Derived.Test.YtekbkaipdmklpaaGreatDoorP17
import Derived.Test.YtekbkaipdmklpaaGreatDoorP18
import Derived.Test.YtekbkaipdmklpaaGreatDoorP19
import Derived.Test.YtekbkaipdmklpaaGreatDoorP20
import Derived.Test.YtekbkaipdmklpaaGreatDoorP21
import Derived.Test.YtekbkaipdmklpaaGreatDoorP22
import Derived.Test.YtekbkaipdmklpaaGreatDoorP23
import Derived.Test.YtekbkaipdmklpaaGreatDoorSo
import Derived.Test.YtekbkaipdmklpaaGreatDoorR1
import Derived.KernelRfl
namespace Go.Proofs.YtekbkaipdmklpaaGreatDoor
namespace Cr
open Go Go.RowKit
open Sn
namespace Rn
theorem k27 : CW PR GG 27 f20 (litH m23 16) (tu [(q 100 12), (ag [(i 0), (i 0)]), (i 0)]) (litH m25 101) := CW.lit callX_okS p26
theorem w35 : Wk PR GG x29 c31 (initF 2 f29) (litH m30 173) .norm (initF 2 f32) (litH m33 207) := Wk.piece selfX_ok p34
theorem k36 : CW PR GG 29 f29 (litH m30 173) un (litH m33 207) := Wk.cw Tryz.func29 ec31 (N := 28) (D := 2) (by kernel_rfl) (by kernel_rfl) (by kernel_rfl) w35 (.inl rfl) (by kernel_rfl)
theorem w42 : Wk PR GG x29 c31 (initF 2 f38) (litH m33 207) .norm (initF 2 f39) (litH m40 259) := Wk.piece selfX_ok p41
theorem k43 : CW PR GG 29 f38 (litH m33 207) un (litH m40 259) := Wk.cw Tryz.func29 ec31 (N := 28) (D := 2) (by kernel_rfl) (by kernel_rfl) (by kernel_rfl) w42 (.inl rfl) (by kernel_rfl)
theorem w49 : Wk PR GG x29 c31 (initF 2 f45) (litH m40 259) .norm (initF 2 f46) (litH m47 293) := Wk.piece selfX_ok p48
theorem k50 : CW PR GG 29 f45 (litH m40 259) un (litH m47 293) := Wk.cw Tryz.func29 ec31 (N := 28) (D := 2) (by kernel_rfl) (by kernel_rfl) (by kernel_rfl) w49 (.inl rfl) (by kernel_rfl)
theorem k56 : CW PR GG 33 f52 (litH m53 390) (tu [(ag [(i 0), (i 0)]), (i 0)]) (litH m53 507) := CW.lit callX_okS p55
theorem k60 : CW PR GG 12 f20 (litH m14 13) (tu [(ag [(i 2), (q 165 2), (s0 0 0), (s0 0 0), (sc 385 0 7 8 7)]), (ag [(i 0), (i 0)]), (i 0)]) (litH m58 508) := CW.memo mixed spX_okS selfX_ok (AllW.cons k27 (AllW.cons k36 (AllW.cons k43 (AllW.cons k50 (AllW.cons k56 AllW.nil))))) p59
theorem w66 : WkI PR GG x5 c17 2 (initF 2 f61) (litH m58 508) (initF 2 f63) (litH m64 510) := WkI.fin (comp_ok _) spX_okS selfX_ok p65
theorem w67 : WkI PR GG x5 c17 0 (initF 2 f13) (litH m14 13) (initF 2 f63) (litH m64 510) := WkI.call (comp_ok _) spX_okS selfX_ok 0 1 p21 k60 p62 w66
theorem w68 : Wk PR GG x5 c17 (initF 2 f13) (litH m14 13) .norm (initF 2 f63) (litH m64 510) := Wk.ofI (by kernel_rfl) w67
theorem w88 : Wk PR GG x14 c84 (initF 3 f81) (litH m82 785) .ret (initF 3 f85) (litH m86 816) := Wk.piece selfX_ok p87
theorem w89 : Wk PR GG x14 c80 (initF 3 f78) (litH m70 664) .ret (initF 3 f85) (litH m86 816) := Wk.pieceC selfX_ok 2 p83 w88
theorem k90 : CW PR GG 14 f78 (litH m70 664) (tu [(ag [(i 0), (i 0)]), (i 0)]) (litH m86 816) := Wk.cw Tryz.func14 ec80 (N := 85) (D := 3) (by kernel_rfl) (by kernel_rfl) (by kernel_rfl) w89 (.inr rfl) (by kernel_rfl)
theorem w96 : WkI PR GG x5 c75 3 (initF 2 f91) (litH m70 816) (initF 2 f93) (litH m94 817) := WkI.fin (comp_ok _) spX_okS selfX_ok p95
theorem w97 : WkI PR GG x5 c75 0 (initF 2 f69) (litH m70 664) (initF 2 f93) (litH m94 817) := WkI.call (comp_ok _) spX_okS selfX_ok 0 2 p79 k90 p92 w96
theorem w98 : Wk PR GG x5 c75 (initF 2 f69) (litH m70 664) .norm (initF 2 f93) (litH m94 817) := Wk.ofI (by kernel_rfl) w97
theorem w101 : Wk PR GG x5 c76 (initF 2 f93) (litH m94 817) .norm (initF 2 f99) (litH m94 817) := Wk.piece selfX_ok p100
theorem w102 : Wk PR GG x5 c73 (initF 2 f69) (litH m70 664) .norm (initF 2 f99) (litH m94 817) := Wk.seqC ec73 w98 w101
theorem w118 : Wk PR GG x18 c114 (initF 2 f110) (litH m113 1104) .ret (initF 2 f115) (litH m116 1191) := Wk.piece selfX_ok p117
theorem k119 : CW PR GG 18 f110 (litH m113 1104) (tu [(q 1190 2), (s0 0 0), (i 0)]) (litH m116 1191) := Wk.cw Tryz.func18 ec114 (N := 43) (D := 2) (by kernel_rfl) (by kernel_rfl) (by kernel_rfl) w118 (.inr rfl) (by kernel_rfl)
def L222q : Ex → F8 → AH → Prop := fun e F' H' => (e = .norm ∨ e = .ret) ∧ ∃ H2, resV PR 3 71 F' H' Tryz.f110.results.toList = .ok (tu [(s 1829 0 3 3), (i 0)]) H2 ∧ has H2 m209 1831 = true
def L222q1 : Ex → F8 → AH → Prop := fun e F1 H1 => e = .norm ∧ WkQ PR GG x110 c213 F1 H1 L222q
def L222qB : Ex → F8 → AH → Prop := fun e F1 H1 => (e = .norm ∨ e = .exit 0) ∧ L222q1 .norm F1 H1
theorem w232 : WkQ PR GG x110 c213 (initF 3 f227) (litH m224 1831) L222q := (Wk.piece selfX_ok p230).q ⟨.inr rfl, resHas_eq p231⟩
theorem w234 : WkQ PR GG x110 c218 (initF 3 f225) (litH m224 1831) L222qB := by
    refine WkQ.loop ec218 (WkQ.seq ec219 (WkQ.next spX_okS selfX_ok p233 ?_))
    intro y hy
    simp only [List.mem_cons, List.not_mem_nil, or_false] at hy
    rcases hy with rfl
    · exact ⟨rfl, (Wk.piece selfX_ok p228).q ⟨.inr rfl, rfl, w232⟩⟩
theorem w236 : WkQ PR GG x110 c218 (initF 3 f214) (litH m215 1831) L222qB := by
    refine WkQ.loop ec218 (WkQ.seq ec219 (WkQ.next spX_okS selfX_ok p235 ?_))
    intro y hy
    simp only [List.mem_cons, List.not_mem_nil, or_false] at hy
    rcases hy with rfl
    · exact ⟨rfl, (Wk.piece selfX_ok p226).q w234⟩
theorem w237 : WkQ PR GG x110 c211 (initF 3 f208) (litH m209 1830) L222q := WkQ.seq ec211 (WkQ.pieceC selfX_ok 1 p216 (WkQ.block ec217 w236))
theorem w238 : WkQ PR GG x110 c207 (initF 3 f205) (litH m199 1829) L222q := WkQ.pieceC selfX_ok 4 p210 w237
theorem k239 : CW PR GG 110 f205 (litH m199 1829) (tu [(s 1829 0 3 3), (i 0)]) (litH m209 1831) := WkQ.cw Tryz.func110 ec207 (N := 71) (D := 3) (by kernel_rfl) (by kernel_rfl) (by kernel_rfl) w238
theorem w244 : WkI PR GG x64 c202 5 (initF 3 f240) (litH m209 1831) (initF 3 f242) (litH m209 1831) := WkI.fin (comp_ok _) spX_okS selfX_ok p243
theorem w245 : WkI PR GG x64 c202 0 (initF 3 f198) (litH m199 1829) (initF 3 f242) (litH m209 1831) := WkI.call (comp_ok _) spX_okS selfX_ok 0 4 p206 k239 p241 w244
theorem w246 : Wk PR GG x64 c202 (initF 3 f198) (litH m199 1829) .norm (initF 3 f242) (litH m209 1831) := Wk.ofI (by kernel_rfl) w245
theorem w249 : Wk PR GG x64 c203 (initF 3 f242) (litH m209 1831) .ret (initF 3 f247) (litH m209 1831) := Wk.piece selfX_ok p248
theorem w250 : Wk PR GG x64 c201 (initF 3 f198) (litH m199 1829) .ret (initF 3 f247) (litH m209 1831) := Wk.seqC ec201 w246 w249
theorem w251 : Wk PR GG x64 c197 (initF 3 f195) (litH m196 1603) .ret (initF 3 f247) (litH m209 1831) := Wk.pieceC selfX_ok 14 p200 w250
theorem k252 : CW PR GG 64 f195 (litH m196 1603) (tu [(y 1), (s 1829 0 3 3), (i 0)]) (litH m209 1831) := Wk.cw Tryz.func64 ec197 (N := 101) (D := 3) (by kernel_rfl) (by kernel_rfl) (by kernel_rfl) w251 (.inr rfl) (by kernel_rfl)
theorem w257 : Wk PR GG x426 c193 (initF 2 f189) (litH m190 1601) .norm (initF 2 f254) (litH m255 1831) := Wk.memo mixed spX_okS selfX_ok (AllW.cons k252 AllW.nil) p256
theorem w260 : Wk PR GG x426 c194 (initF 2 f254) (litH m255 1831) .ret (initF 2 f258) (litH m255 1831) := Wk.piece selfX_ok p259
theorem w261 : Wk PR GG x426 c192 (initF 2 f189) (litH m190 1601) .ret (initF 2 f258) (litH m255 1831) := Wk.seqC ec192 w257 w260
theorem w262 : Wk PR GG x426 c188 (initF 2 f186) (litH m180 1596) .ret (initF 2 f258) (litH m255 1831) := Wk.pieceC selfX_ok 2 p191 w261
theorem k263 : CW PR GG 426 f186 (litH m180 1596) tt (litH m255 1831) := Wk.cw Tryz.func426 ec188 (N := 57) (D := 2) (by kernel_rfl) (by kernel_rfl) (by kernel_rfl) w262 (.inr rfl) (by kernel_rfl)
theorem w268 : WkI PR GG x417 c183 4 (initF 3 f264) (litH m180 1831) (initF 3 f266) (litH m180 1831) := WkI.fin (comp_ok _) spX_okS selfX_ok p267
theorem w269 : WkI PR GG x417 c183 0 (initF 3 f179) (litH m180 1596) (initF 3 f266) (litH m180 1831) := WkI.call (comp_ok _) spX_okS selfX_ok 0 3 p187 k263 p265 w268
theorem w270 : Wk PR GG x417 c183 (initF 3 f179) (litH m180 1596) .norm (initF 3 f266) (litH m180 1831) := Wk.ofI (by kernel_rfl) w269
def L300q : Ex → F8 → AH → Prop := fun e F' H' => (e = .norm ∨ e = .ret) ∧ ∃ H2, resV PR 3 71 F' H' Tryz.f110.results.toList = .ok (tu [(s 2093 0 3 3), (i 0)]) H2 ∧ has H2 m301 2095 = true
def L300q1 : Ex → F8 → AH → Prop := fun e F1 H1 => e = .norm ∧ WkQ PR GG x110 c213 F1 H1 L300q
def L300qB : Ex → F8 → AH → Prop := fun e F1 H1 => (e = .norm ∨ e = .exit 0) ∧ L300q1 .norm F1 H1
theorem w312 : WkQ PR GG x110 c213 (initF 3 f307) (litH m305 2095) L300q := (Wk.piece selfX_ok p310).q ⟨.inr rfl, resHas_eq p311⟩
theorem w314 : WkQ PR GG x110 c218 (initF 3 f304) (litH m305 2095) L300qB := by
    refine WkQ.loop ec218 (WkQ.seq ec219 (WkQ.next spX_okS selfX_ok p313 ?_))
    intro y hy
    simp only [List.mem_cons, List.not_mem_nil, or_false] at hy
    rcases hy with rfl
    · exact ⟨rfl, (Wk.piece selfX_ok p308).q ⟨.inr rfl, rfl, w312⟩⟩
theorem w316 : WkQ PR GG x110 c218 (initF 3 f297) (litH m298 2095) L300qB := by
    refine WkQ.loop ec218 (WkQ.seq ec219 (WkQ.next spX_okS selfX_ok p315 ?_))
    intro y hy
    simp only [List.mem_cons, List.not_mem_nil, or_false] at hy
    rcases hy with rfl
    · exact ⟨rfl, (Wk.piece selfX_ok p306).q w314⟩
theorem w317 : WkQ PR GG x110 c211 (initF 3 f294) (litH m295 2094) L300q := WkQ.seq ec211 (WkQ.pieceC selfX_ok 1 p299 (WkQ.block ec217 w316))
theorem w318 : WkQ PR GG x110 c207 (initF 3 f292) (litH m289 2093) L300q := WkQ.pieceC selfX_ok 4 p296 w317
theorem k319 : CW PR GG 110 f292 (litH m289 2093) (tu [(s 2093 0 3 3), (i 0)]) (litH m301 2095) := WkQ.cw Tryz.func110 ec207 (N := 71) (D := 3) (by kernel_rfl) (by kernel_rfl) (by kernel_rfl) w318
theorem w324 : WkI PR GG x64 c202 5 (initF 3 f320) (litH m301 2095) (initF 3 f322) (litH m301 2095) := WkI.fin (comp_ok _) spX_okS selfX_ok p323
theorem w325 : WkI PR GG x64 c202 0 (initF 3 f288) (litH m289 2093) (initF 3 f322) (litH m301 2095) := WkI.call (comp_ok _) spX_okS selfX_ok 0 4 p293 k319 p321 w324
theorem w326 : Wk PR GG x64 c202 (initF 3 f288) (litH m289 2093) .norm (initF 3 f322) (litH m301 2095) := Wk.ofI (by kernel_rfl) w325
theorem w329 : Wk PR GG x64 c203 (initF 3 f322) (litH m301 2095) .ret (initF 3 f327) (litH m301 2095) := Wk.piece selfX_ok p328
theorem w330 : Wk PR GG x64 c201 (initF 3 f288) (litH m289 2093) .ret (initF 3 f327) (litH m301 2095) := Wk.seqC ec201 w326 w329
theorem w331 : Wk PR GG x64 c197 (initF 3 f286) (litH m287 1838) .ret (initF 3 f327) (litH m301 2095) := Wk.pieceC selfX_ok 14 p290 w330
theorem k332 : CW PR GG 64 f286 (litH m287 1838) (tu [(y 1), (s 2093 0 3 3), (i 0)]) (litH m301 2095) := Wk.cw Tryz.func64 ec197 (N := 101) (D := 3) (by kernel_rfl) (by kernel_rfl) (by kernel_rfl) w331 (.inr rfl) (by kernel_rfl)
theorem w337 : Wk PR GG x426 c193 (initF 2 f283) (litH m284 1836) .norm (initF 2 f334) (litH m335 2095) := Wk.memo mixed spX_okS selfX_ok (AllW.cons k332 AllW.nil) p336
theorem w340 : Wk PR GG x426 c194 (initF 2 f334) (litH m335 2095) .ret (initF 2 f338) (litH m335 2095) := Wk.piece selfX_ok p339
theorem w341 : Wk PR GG x426 c192 (initF 2 f283) (litH m284 1836) .ret (initF 2 f338) (litH m335 2095) := Wk.seqC ec192 w337 w340
theorem w342 : Wk PR GG x426 c188 (initF 2 f281) (litH m180 1831) .ret (initF 2 f338) (litH m335 2095) := Wk.pieceC selfX_ok 2 p285 w341
theorem k343 : CW PR GG 426 f281 (litH m180 1831) tt (litH m335 2095) := Wk.cw Tryz.func426 ec188 (N := 57) (D := 2) (by kernel_rfl) (by kernel_rfl) (by kernel_rfl) w342 (.inr rfl) (by kernel_rfl)
theorem w348 : WkI PR GG x417 c279 4 (initF 3 f344) (litH m180 2095) (initF 3 f346) (litH m180 2095) := WkI.fin (comp_ok _) spX_okS selfX_ok p347
theorem w349 : WkI PR GG x417 c279 0 (initF 3 f276) (litH m180 1831) (initF 3 f346) (litH m180 2095) := WkI.call (comp_ok _) spX_okS selfX_ok 0 3 p282 k343 p345 w348
theorem w350 : Wk PR GG x417 c279 (initF 3 f276) (litH m180 1831) .norm (initF 3 f346) (litH m180 2095) := Wk.ofI (by kernel_rfl) w349
theorem w351 : Wk PR GG x417 c278 (initF 3 f276) (litH m180 1831) .norm (initF 3 f346) (litH m180 2095) := Wk.condT (by kernel_rfl) w350
theorem w352 : Wk PR GG x417 c274 (initF 3 f271) (litH m180 1831) .norm (initF 3 f346) (litH m180 2095) := Wk.pieceC selfX_ok 1 p277 w351
theorem w356 : Wk PR GG x417 c275 (initF 3 f346) (litH m180 2095) .norm (initF 3 f353) (litH m354 2128) := Wk.piece selfX_ok p355
theorem w357 : Wk PR GG x417 c273 (initF 3 f271) (litH m180 1831) .norm (initF 3 f353) (litH m354 2128) := Wk.seqC ec273 w352 w356
theorem w358 : Wk PR GG x417 c184 (initF 3 f266) (litH m180 1831) .norm (initF 3 f353) (litH m354 2128) := Wk.pieceC selfX_ok 2 p272 w357
theorem w359 : Wk PR GG x417 c182 (initF 3 f179) (litH m180 1596) .norm (initF 3 f353) (litH m354 2128) := Wk.seqC ec182 w270 w358
theorem w360 : Wk PR GG x417 c178 (initF 3 f176) (litH m170 1513) .norm (initF 3 f353) (litH m354 2128) := Wk.pieceC selfX_ok 5 p181 w359
theorem k361 : CW PR GG 417 f176 (litH m170 1513) un (litH m354 2128) := Wk.cw Tryz.func417 ec178 (N := 73) (D := 3) (by kernel_rfl) (by kernel_rfl) (by kernel_rfl) w360 (.inl rfl) (by kernel_rfl)
theorem w365 : WkI PR GG x407 c173 7 (initF 2 f175) (litH m362 2128) (initF 2 f175) (litH m362 2128) := WkI.fin (comp_ok _) spX_okS selfX_ok p364
theorem w366 : WkI PR GG x407 c173 0 (initF 2 f169) (litH m170 1513) (initF 2 f175) (litH m362 2128) := WkI.call (comp_ok _) spX_okS selfX_ok 0 6 p177 k361 p363 w365
theorem w367 : Wk PR GG x407 c173 (initF 2 f169) (litH m170 1513) .norm (initF 2 f175) (litH m362 2128) := Wk.ofI (by kernel_rfl) w366
theorem w369 : Wk PR GG x407 c174 (initF 2 f175) (litH m362 2128) .ret (initF 2 f175) (litH m362 2128) := Wk.piece selfX_ok p368
theorem w370 : Wk PR GG x407 c172 (initF 2 f169) (litH m170 1513) .ret (initF 2 f175) (litH m362 2128) := Wk.seqC ec172 w367 w369
theorem w371 : Wk PR GG x407 c168 (initF 2 f166) (litH m165 1430) .ret (initF 2 f175) (litH m362 2128) := Wk.pieceC selfX_ok 7 p171 w370
theorem k372 : CW PR GG 407 f166 (litH m165 1430) ff (litH m362 2128) := Wk.cw Tryz.func407 ec168 (N := 56) (D := 2) (by kernel_rfl) (by kernel_rfl) (by kernel_rfl) w371 (.inr rfl) (by kernel_rfl)
theorem w376 : WkI PR GG x22 c162 7 (initF 3 f164) (litH m373 2128) (initF 3 f164) (litH m373 2128) := WkI.fin (comp_ok _) spX_okS selfX_ok p375
theorem w377 : WkI PR GG x22 c162 0 (initF 3 f158) (litH m159 1430) (initF 3 f164) (litH m373 2128) := WkI.call (comp_ok _) spX_okS selfX_ok 0 6 p167 k372 p374 w376
theorem w378 : Wk PR GG x22 c162 (initF 3 f158) (litH m159 1430) .norm (initF 3 f164) (litH m373 2128) := Wk.ofI (by kernel_rfl) w377
theorem w380 : Wk PR GG x22 c163 (initF 3 f164) (litH m373 2128) (.exit 1) (initF 3 f164) (litH m373 2128) := Wk.piece selfX_ok p379
theorem w381 : Wk PR GG x22 c161 (initF 3 f158) (litH m159 1430) (.exit 1) (initF 3 f164) (litH m373 2128) := Wk.seqC ec161 w378 w380
theorem w382 : Wk PR GG x22 c157 (initF 3 f154) (litH m144 1429) (.exit 1) (initF 3 f164) (litH m373 2128) := Wk.pieceC selfX_ok 2 p160 w381
theorem w383 : Wk PR GG x22 c156 (initF 3 f154) (litH m144 1429) (.exit 1) (initF 3 f164) (litH m373 2128) := Wk.condF (by kernel_rfl) w382
theorem w384 : Wk PR GG x22 c153 (initF 3 f150) (litH m144 1429) (.exit 1) (initF 3 f164) (litH m373 2128) := Wk.pieceC selfX_ok 1 p155 w383
theorem w385 : Wk PR GG x22 c152 (initF 3 f150) (litH m144 1429) (.exit 1) (initF 3 f164) (litH m373 2128) := Wk.condF (by kernel_rfl) w384
theorem w386 : Wk PR GG x22 c149 (initF 3 f143) (litH m144 1429) (.exit 1) (initF 3 f164) (litH m373 2128) := Wk.pieceC selfX_ok 1 p151 w385
theorem w387 : Wk PR GG x22 c147 (initF 3 f143) (litH m144 1429) (.exit 1) (initF 3 f164) (litH m373 2128) := Wk.blockP ec147 (by decide) w386
theorem w388 : Wk PR GG x22 c146 (initF 3 f143) (litH m144 1429) (.exit 1) (initF 3 f164) (litH m373 2128) := Wk.seqO ec146 (fun h => h) w387
theorem w389 : Wk PR GG x22 c142 (initF 3 f137) (litH m138 1428) (.exit 1) (initF 3 f164) (litH m373 2128) := Wk.pieceC selfX_ok 2 p145 w388
theorem w390 : Wk PR GG x22 c141 (initF 3 f137) (litH m138 1428) .norm (initF 3 f164) (litH m373 2128) := Wk.blockE ec141 w389
theorem w391 : Wk PR GG x22 c136 (initF 3 f137) (litH m138 1428) .norm (initF 3 f164) (litH m373 2128) := Wk.pieceC selfX_ok 1 p140 w390
theorem w395 : Wk PR GG x22 c135 (initF 3 f164) (litH m373 2128) (.exit 0) (initF 3 f392) (litH m393 2158) := Wk.piece selfX_ok p394
theorem w396 : Wk PR GG x22 c135 (initF 3 f137) (litH m138 1428) (.exit 0) (initF 3 f392) (litH m393 2158) := Wk.loopC ec135 w391 w395
theorem w397 : Wk PR GG x22 c135 (initF 3 f129) (litH m130 1330) (.exit 0) (initF 3 f392) (litH m393 2158) := Wk.rounds selfX_ok ec135 p139 w396
theorem w398 : Wk PR GG x22 c133 (initF 3 f129) (litH m130 1330) .norm (initF 3 f392) (litH m393 2158) := Wk.blockE ec133 w397
theorem w401 : Wk PR GG x22 c134 (initF 3 f392) (litH m393 2158) .ret (initF 3 f399) (litH m393 2158) := Wk.piece selfX_ok p400
theorem w402 : Wk PR GG x22 c132 (initF 3 f129) (litH m130 1330) .ret (initF 3 f399) (litH m393 2158) := Wk.seqC ec132 w398 w401
theorem w403 : Wk PR GG x22 c128 (initF 3 f124) (litH m125 1197) .ret (initF 3 f399) (litH m393 2158) := Wk.pieceC selfX_ok 8 p131 w402
theorem w404 : Wk PR GG x22 c127 (initF 3 f124) (litH m125 1197) .ret (initF 3 f399) (litH m393 2158) := Wk.scopeP ec127 (fun h => h) w403
theorem w405 : Wk PR GG x22 c123 (initF 3 f121) (litH m122 1196) .ret (initF 3 f399) (litH m393 2158) := Wk.pieceC selfX_ok 1 p126 w404
theorem k406 : CW PR GG 22 f121 (litH m122 1196) (tu [(sc 2157 0 2 8 2), (y 0), (i 0)]) (litH m393 2158) := Wk.cw Tryz.func22 ec123 (N := 178) (D := 3) (by kernel_rfl) (by kernel_rfl) (by kernel_rfl) w405 (.inr rfl) (by kernel_rfl)
theorem k409 : CW PR GG 6 f110 (litH m104 1027) (tu [(ag [(y 0), (y 0), (i 0), (s0 0 0), (s0 0 0), ff, ff, (i 0), (i 0), (i 0)]), (i 0)]) (litH m104 2267) := CW.memo mixed spX_okS selfX_ok (AllW.cons k119 (AllW.cons k406 AllW.nil)) p408
theorem w415 : WkI PR GG x5 c107 3 (initF 2 f410) (litH m104 2267) (initF 2 f412) (litH m413 2268) := WkI.fin (comp_ok _) spX_okS selfX_ok p414
theorem w416 : WkI PR GG x5 c107 0 (initF 2 f103) (litH m104 1027) (initF 2 f412) (litH m413 2268) := WkI.call (comp_ok _) spX_okS selfX_ok 0 2 p111 k409 p411 w415
theorem w417 : Wk PR GG x5 c107 (initF 2 f103) (litH m104 1027) .norm (initF 2 f412) (litH m413 2268) := Wk.ofI (by kernel_rfl) w416
theorem w420 : Wk PR GG x5 c108 (initF 2 f412) (litH m413 2268) .ret (initF 2 f418) (litH m413 2268) := Wk.piece selfX_ok p419
theorem w421 : Wk PR GG x5 c106 (initF 2 f103) (litH m104 1027) .ret (initF 2 f418) (litH m413 2268) := Wk.seqC ec106 w417 w420
theorem w422 : Wk PR GG x5 c74 (initF 2 f99) (litH m94 817) .ret (initF 2 f418) (litH m413 2268) := Wk.pieceC selfX_ok 2 p105 w421
theorem w423 : Wk PR GG x5 c72 (initF 2 f69) (litH m70 664) .ret (initF 2 f418) (litH m413 2268) := Wk.seqC ec72 w102 w422
theorem w424 : Wk PR GG x5 c18 (initF 2 f63) (litH m64 510) .ret (initF 2 f418) (litH m413 2268) := Wk.pieceC selfX_ok 3 p71 w423
theorem w425 : Wk PR GG x5 c16 (initF 2 f13) (litH m14 13) .ret (initF 2 f418) (litH m413 2268) := Wk.seqC ec16 w68 w424
theorem w426 : Wk PR GG x5 c12 (initF 2 f10) (litH m3 12) .ret (initF 2 f418) (litH m413 2268) := Wk.pieceC selfX_ok 1 p15 w425
theorem k427 : CW PR GG 5 f10 (litH m3 12) (ag [(y 0), (y 0), (i 0), (s0 0 0), (s0 0 0), ff, ff, (i 0), (i 0), (i 0)]) (litH m413 2268) := Wk.cw Tryz.func5 ec12 (N := 63) (D := 2) (by kernel_rfl) (by kernel_rfl) (by kernel_rfl) w426 (.inr rfl) (by kernel_rfl)
theorem w433 : WkI PR GG x3 c8 1 (initF 3 f428) (litH m429 2268) (initF 3 f431) (litH m429 2272) := WkI.fin (comp_ok _) spX_okS selfX_ok p432
theorem w434 : WkI PR GG x3 c8 0 (initF 3 f2) (litH m3 12) (initF 3 f431) (litH m429 2272) := WkI.call (comp_ok _) spX_okS selfX_ok 0 0 p11 k427 p430 w433
theorem w435 : Wk PR GG x3 c8 (initF 3 f2) (litH m3 12) .norm (initF 3 f431) (litH m429 2272) := Wk.ofI (by kernel_rfl) w434
theorem w437 : Wk PR GG x3 c9 (initF 3 f431) (litH m429 2272) .norm (initF 3 f431) (litH m429 2272) := Wk.piece selfX_ok p436
theorem w438 : Wk PR GG x3 c6 (initF 3 f2) (litH m3 12) .norm (initF 3 f431) (litH m429 2272) := Wk.seqC ec6 w435 w437
theorem w449 : Wk PR GG x18 c114 (initF 2 f443) (litH m445 2361) .ret (initF 2 f446) (litH m447 2448) := Wk.piece selfX_ok p448
theorem k450 : CW PR GG 18 f443 (litH m445 2361) (tu [(q 2447 2), (s0 0 0), (i 0)]) (litH m447 2448) := Wk.cw Tryz.func18 ec114 (N := 43) (D := 2) (by kernel_rfl) (by kernel_rfl) (by kernel_rfl) w449 (.inr rfl) (by kernel_rfl)
def L507q : Ex → F8 → AH → Prop := fun e F' H' => (e = .norm ∨ e = .ret) ∧ ∃ H2, resV PR 3 71 F' H' Tryz.f110.results.toList = .ok (tu [(s 3086 0 3 3), (i 0)]) H2 ∧ has H2 m502 3088 = true
def L507q1 : Ex → F8 → AH → Prop := fun e F1 H1 => e = .norm ∧ WkQ PR GG x110 c213 F1 H1 L507q
def L507qB : Ex → F8 → AH → Prop := fun e F1 H1 => (e = .norm ∨ e = .exit 0) ∧ L507q1 .norm F1 H1
theorem w517 : WkQ PR GG x110 c213 (initF 3 f512) (litH m509 3088) L507q := (Wk.piece selfX_ok p515).q ⟨.inr rfl, resHas_eq p516⟩
theorem w519 : WkQ PR GG x110 c218 (initF 3 f510) (litH m509 3088) L507qB := by
    refine WkQ.loop ec218 (WkQ.seq ec219 (WkQ.next spX_okS selfX_ok p518 ?_))
    intro y hy
    simp only [List.mem_cons, List.not_mem_nil, or_false] at hy
    rcases hy with rfl
    · exact ⟨rfl, (Wk.piece selfX_ok p513).q ⟨.inr rfl, rfl, w517⟩⟩
theorem w521 : WkQ PR GG x110 c218 (initF 3 f504) (litH m505 3088) L507qB := by
    refine WkQ.loop ec218 (WkQ.seq ec219 (WkQ.next spX_okS selfX_ok p520 ?_))
    intro y hy
    simp only [List.mem_cons, List.not_mem_nil, or_false] at hy
    rcases hy with rfl
    · exact ⟨rfl, (Wk.piece selfX_ok p511).q w519⟩
theorem w522 : WkQ PR GG x110 c211 (initF 3 f501) (litH m502 3087) L507q := WkQ.seq ec211 (WkQ.pieceC selfX_ok 1 p506 (WkQ.block ec217 w521))
theorem w523 : WkQ PR GG x110 c207 (initF 3 f499) (litH m496 3086) L507q := WkQ.pieceC selfX_ok 4 p503 w522
theorem k524 : CW PR GG 110 f499 (litH m496 3086) (tu [(s 3086 0 3 3), (i 0)]) (litH m502 3088) := WkQ.cw Tryz.func110 ec207 (N := 71) (D := 3) (by kernel_rfl) (by kernel_rfl) (by kernel_rfl) w523
theorem w529 : WkI PR GG x64 c202 5 (initF 3 f525) (litH m502 3088) (initF 3 f527) (litH m502 3088) := WkI.fin (comp_ok _) spX_okS selfX_ok p528
theorem w530 : WkI PR GG x64 c202 0 (initF 3 f495) (litH m496 3086) (initF 3 f527) (litH m502 3088) := WkI.call (comp_ok _) spX_okS selfX_ok 0 4 p500 k524 p526 w529
theorem w531 : Wk PR GG x64 c202 (initF 3 f495) (litH m496 3086) .norm (initF 3 f527) (litH m502 3088) := Wk.ofI (by kernel_rfl) w530
theorem w534 : Wk PR GG x64 c203 (initF 3 f527) (litH m502 3088) .ret (initF 3 f532) (litH m502 3088) := Wk.piece selfX_ok p533
theorem w535 : Wk PR GG x64 c201 (initF 3 f495) (litH m496 3086) .ret (initF 3 f532) (litH m502 3088) := Wk.seqC ec201 w531 w534
theorem w536 : Wk PR GG x64 c197 (initF 3 f493) (litH m494 2860) .ret (initF 3 f532) (litH m502 3088) := Wk.pieceC selfX_ok 14 p497 w535
theorem k537 : CW PR GG 64 f493 (litH m494 2860) (tu [(y 1), (s 3086 0 3 3), (i 0)]) (litH m502 3088) := Wk.cw Tryz.func64 ec197 (N := 101) (D := 3) (by kernel_rfl) (by kernel_rfl) (by kernel_rfl) w536 (.inr rfl) (by kernel_rfl)
theorem w542 : Wk PR GG x426 c193 (initF 2 f490) (litH m491 2858) .norm (initF 2 f539) (litH m540 3088) := Wk.memo mixed spX_okS selfX_ok (AllW.cons k537 AllW.nil) p541
theorem w545 : Wk PR GG x426 c194 (initF 2 f539) (litH m540 3088) .ret (initF 2 f543) (litH m540 3088) := Wk.piece selfX_ok p544
theorem w546 : Wk PR GG x426 c192 (initF 2 f490) (litH m491 2858) .ret (initF 2 f543) (litH m540 3088) := Wk.seqC ec192 w542 w545
theorem w547 : Wk PR GG x426 c188 (initF 2 f488) (litH m485 2853) .ret (initF 2 f543) (litH m540 3088) := Wk.pieceC selfX_ok 2 p492 w546
theorem k548 : CW PR GG 426 f488 (litH m485 2853) tt (litH m540 3088) := Wk.cw Tryz.func426 ec188 (N := 57) (D := 2) (by kernel_rfl) (by kernel_rfl) (by kernel_rfl) w547 (.inr rfl) (by kernel_rfl)
theorem w553 : WkI PR GG x417 c183 4 (initF 3 f549) (litH m485 3088) (initF 3 f551) (litH m485 3088) := WkI.fin (comp_ok _) spX_okS selfX_ok p552
theorem w554 : WkI PR GG x417 c183 0 (initF 3 f484) (litH m485 2853) (initF 3 f551) (litH m485 3088) := WkI.call (comp_ok _) spX_okS selfX_ok 0 3 p489 k548 p550 w553
theorem w555 : Wk PR GG x417 c183 (initF 3 f484) (litH m485 2853) .norm (initF 3 f551) (litH m485 3088) := Wk.ofI (by kernel_rfl) w554
def L580q : Ex → F8 → AH → Prop := fun e F' H' => (e = .norm ∨ e = .ret) ∧ ∃ H2, resV PR 3 71 F' H' Tryz.f110.results.toList = .ok (tu [(s 3350 0 3 3), (i 0)]) H2 ∧ has H2 m581 3352 = true
def L580q1 : Ex → F8 → AH → Prop := fun e F1 H1 => e = .norm ∧ WkQ PR GG x110 c213 F1 H1 L580q
def L580qB : Ex → F8 → AH → Prop := fun e F1 H1 => (e = .norm ∨ e = .exit 0) ∧ L580q1 .norm F1 H1
theorem w592 : WkQ PR GG x110 c213 (initF 3 f587) (litH m585 3352) L580q := (Wk.piece selfX_ok p590).q ⟨.inr rfl, resHas_eq p591⟩
theorem w594 : WkQ PR GG x110 c218 (initF 3 f584) (litH m585 3352) L580qB := by
    refine WkQ.loop ec218 (WkQ.seq ec219 (WkQ.next spX_okS selfX_ok p593 ?_))
    intro y hy
    simp only [List.mem_cons, List.not_mem_nil, or_false] at hy
    rcases hy with rfl
    · exact ⟨rfl, (Wk.piece selfX_ok p588).q ⟨.inr rfl, rfl, w592⟩⟩
theorem w596 : WkQ PR GG x110 c218 (initF 3 f577) (litH m578 3352) L580qB := by
    refine WkQ.loop ec218 (WkQ.seq ec219 (WkQ.next spX_okS selfX_ok p595 ?_))
    intro y hy
    simp only [List.mem_cons, List.not_mem_nil, or_false] at hy
    rcases hy with rfl
    · exact ⟨rfl, (Wk.piece selfX_ok p586).q w594⟩
theorem w597 : WkQ PR GG x110 c211 (initF 3 f574) (litH m575 3351) L580q := WkQ.seq ec211 (WkQ.pieceC selfX_ok 1 p579 (WkQ.block ec217 w596))
theorem w598 : WkQ PR GG x110 c207 (initF 3 f572) (litH m569 3350) L580q := WkQ.pieceC selfX_ok 4 p576 w597
theorem k599 : CW PR GG 110 f572 (litH m569 3350) (tu [(s 3350 0 3 3), (i 0)]) (litH m581 3352) := WkQ.cw Tryz.func110 ec207 (N := 71) (D := 3) (by kernel_rfl) (by kernel_rfl) (by kernel_rfl) w598
theorem w604 : WkI PR GG x64 c202 5 (initF 3 f600) (litH m581 3352) (initF 3 f602) (litH m581 3352) := WkI.fin (comp_ok _) spX_okS selfX_ok p603
theorem w605 : WkI PR GG x64 c202 0 (initF 3 f568) (litH m569 3350) (initF 3 f602) (litH m581 3352) := WkI.call (comp_ok _) spX_okS selfX_ok 0 4 p573 k599 p601 w604
theorem w606 : Wk PR GG x64 c202 (initF 3 f568) (litH m569 3350) .norm (initF 3 f602) (litH m581 3352) := Wk.ofI (by kernel_rfl) w605
theorem w609 : Wk PR GG x64 c203 (initF 3 f602) (litH m581 3352) .ret (initF 3 f607) (litH m581 3352) := Wk.piece selfX_ok p608
theorem w610 : Wk PR GG x64 c201 (initF 3 f568) (litH m569 3350) .ret (initF 3 f607) (litH m581 3352) := Wk.seqC ec201 w606 w609
theorem w611 : Wk PR GG x64 c197 (initF 3 f566) (litH m567 3095) .ret (initF 3 f607) (litH m581 3352) := Wk.pieceC selfX_ok 14 p570 w610
theorem k612 : CW PR GG 64 f566 (litH m567 3095) (tu [(y 1), (s 3350 0 3 3), (i 0)]) (litH m581 3352) := Wk.cw Tryz.func64 ec197 (N := 101) (D := 3) (by kernel_rfl) (by kernel_rfl) (by kernel_rfl) w611 (.inr rfl) (by kernel_rfl)
theorem w617 : Wk PR GG x426 c193 (initF 2 f563) (litH m564 3093) .norm (initF 2 f614) (litH m615 3352) := Wk.memo mixed spX_okS selfX_ok (AllW.cons k612 AllW.nil) p616
theorem w620 : Wk PR GG x426 c194 (initF 2 f614) (litH m615 3352) .ret (initF 2 f618) (litH m615 3352) := Wk.piece selfX_ok p619
theorem w621 : Wk PR GG x426 c192 (initF 2 f563) (litH m564 3093) .ret (initF 2 f618) (litH m615 3352) := Wk.seqC ec192 w617 w620
theorem w622 : Wk PR GG x426 c188 (initF 2 f561) (litH m485 3088) .ret (initF 2 f618) (litH m615 3352) := Wk.pieceC selfX_ok 2 p565 w621
theorem k623 : CW PR GG 426 f561 (litH m485 3088) tt (litH m615 3352) := Wk.cw Tryz.func426 ec188 (N := 57) (D := 2) (by kernel_rfl) (by kernel_rfl) (by kernel_rfl) w622 (.inr rfl) (by kernel_rfl)
theorem w628 : WkI PR GG x417 c279 4 (initF 3 f624) (litH m485 3352) (initF 3 f626) (litH m485 3352) := WkI.fin (comp_ok _) spX_okS selfX_ok p627
theorem w629 : WkI PR GG x417 c279 0 (initF 3 f558) (litH m485 3088) (initF 3 f626) (litH m485 3352) := WkI.call (comp_ok _) spX_okS selfX_ok 0 3 p562 k623 p625 w628
theorem w630 : Wk PR GG x417 c279 (initF 3 f558) (litH m485 3088) .norm (initF 3 f626) (litH m485 3352) := Wk.ofI (by kernel_rfl) w629
theorem w631 : Wk PR GG x417 c278 (initF 3 f558) (litH m485 3088) .norm (initF 3 f626) (litH m485 3352) := Wk.condT (by kernel_rfl) w630
theorem w632 : Wk PR GG x417 c274 (initF 3 f556) (litH m485 3088) .norm (initF 3 f626) (litH m485 3352) := Wk.pieceC selfX_ok 1 p559 w631
theorem w636 : Wk PR GG x417 c275 (initF 3 f626) (litH m485 3352) .norm (initF 3 f633) (litH m634 3385) := Wk.piece selfX_ok p635
theorem w637 : Wk PR GG x417 c273 (initF 3 f556) (litH m485 3088) .norm (initF 3 f633) (litH m634 3385) := Wk.seqC ec273 w632 w636
theorem w638 : Wk PR GG x417 c184 (initF 3 f551) (litH m485 3088) .norm (initF 3 f633) (litH m634 3385) := Wk.pieceC selfX_ok 2 p557 w637
theorem w639 : Wk PR GG x417 c182 (initF 3 f484) (litH m485 2853) .norm (initF 3 f633) (litH m634 3385) := Wk.seqC ec182 w555 w638
theorem w640 : Wk PR GG x417 c178 (initF 3 f482) (litH m479 2770) .norm (initF 3 f633) (litH m634 3385) := Wk.pieceC selfX_ok 5 p486 w639
theorem k641 : CW PR GG 417 f482 (litH m479 2770) un (litH m634 3385) := Wk.cw Tryz.func417 ec178 (N := 73) (D := 3) (by kernel_rfl) (by kernel_rfl) (by kernel_rfl) w640 (.inl rfl) (by kernel_rfl)
theorem w645 : WkI PR GG x407 c173 7 (initF 2 f481) (litH m642 3385) (initF 2 f481) (litH m642 3385) := WkI.fin (comp_ok _) spX_okS selfX_ok p644
theorem w646 : WkI PR GG x407 c173 0 (initF 2 f478) (litH m479 2770) (initF 2 f481) (litH m642 3385) := WkI.call (comp_ok _) spX_okS selfX_ok 0 6 p483 k641 p643 w645
theorem w647 : Wk PR GG x407 c173 (initF 2 f478) (litH m479 2770) .norm (initF 2 f481) (litH m642 3385) := Wk.ofI (by kernel_rfl) w646
theorem w649 : Wk PR GG x407 c174 (initF 2 f481) (litH m642 3385) .ret (initF 2 f481) (litH m642 3385) := Wk.piece selfX_ok p648
theorem w650 : Wk PR GG x407 c172 (initF 2 f478) (litH m479 2770) .ret (initF 2 f481) (litH m642 3385) := Wk.seqC ec172 w647 w649
theorem w651 : Wk PR GG x407 c168 (initF 2 f476) (litH m475 2687) .ret (initF 2 f481) (litH m642 3385) := Wk.pieceC selfX_ok 7 p480 w650
theorem k652 : CW PR GG 407 f476 (litH m475 2687) ff (litH m642 3385) := Wk.cw Tryz.func407 ec168 (N := 56) (D := 2) (by kernel_rfl) (by kernel_rfl) (by kernel_rfl) w651 (.inr rfl) (by kernel_rfl)
theorem w656 : WkI PR GG x22 c162 7 (initF 3 f474) (litH m653 3385) (initF 3 f474) (litH m653 3385) := WkI.fin (comp_ok _) spX_okS selfX_ok p655
theorem w657 : WkI PR GG x22 c162 0 (initF 3 f471) (litH m472 2687) (initF 3 f474) (litH m653 3385) := WkI.call (comp_ok _) spX_okS selfX_ok 0 6 p477 k652 p654 w656
theorem w658 : Wk PR GG x22 c162 (initF 3 f471) (litH m472 2687) .norm (initF 3 f474) (litH m653 3385) := Wk.ofI (by kernel_rfl) w657
theorem w660 : Wk PR GG x22 c163 (initF 3 f474) (litH m653 3385) (.exit 1) (initF 3 f474) (litH m653 3385) := Wk.piece selfX_ok p659
theorem w661 : Wk PR GG x22 c161 (initF 3 f471) (litH m472 2687) (.exit 1) (initF 3 f474) (litH m653 3385) := Wk.seqC ec161 w658 w660
theorem w662 : Wk PR GG x22 c157 (initF 3 f469) (litH m465 2686) (.exit 1) (initF 3 f474) (litH m653 3385) := Wk.pieceC selfX_ok 2 p473 w661
theorem w663 : Wk PR GG x22 c156 (initF 3 f469) (litH m465 2686) (.exit 1) (initF 3 f474) (litH m653 3385) := Wk.condF (by kernel_rfl) w662
theorem w664 : Wk PR GG x22 c153 (initF 3 f467) (litH m465 2686) (.exit 1) (initF 3 f474) (litH m653 3385) := Wk.pieceC selfX_ok 1 p470 w663
theorem w665 : Wk PR GG x22 c152 (initF 3 f467) (litH m465 2686) (.exit 1) (initF 3 f474) (litH m653 3385) := Wk.condF (by kernel_rfl) w664
theorem w666 : Wk PR GG x22 c149 (initF 3 f464) (litH m465 2686) (.exit 1) (initF 3 f474) (litH m653 3385) := Wk.pieceC selfX_ok 1 p468 w665
theorem w667 : Wk PR GG x22 c147 (initF 3 f464) (litH m465 2686) (.exit 1) (initF 3 f474) (litH m653 3385) := Wk.blockP ec147 (by decide) w666
theorem w668 : Wk PR GG x22 c146 (initF 3 f464) (litH m465 2686) (.exit 1) (initF 3 f474) (litH m653 3385) := Wk.seqO ec146 (fun h => h) w667
theorem w669 : Wk PR GG x22 c142 (initF 3 f460) (litH m461 2685) (.exit 1) (initF 3 f474) (litH m653 3385) := Wk.pieceC selfX_ok 2 p466 w668
theorem w670 : Wk PR GG x22 c141 (initF 3 f460) (litH m461 2685) .norm (initF 3 f474) (litH m653 3385) := Wk.blockE ec141 w669
theorem w671 : Wk PR GG x22 c136 (initF 3 f460) (litH m461 2685) .norm (initF 3 f474) (litH m653 3385) := Wk.pieceC selfX_ok 1 p463 w670
theorem w675 : Wk PR GG x22 c135 (initF 3 f474) (litH m653 3385) (.exit 0) (initF 3 f672) (litH m673 3413) := Wk.piece selfX_ok p674
theorem w676 : Wk PR GG x22 c135 (initF 3 f460) (litH m461 2685) (.exit 0) (initF 3 f672) (litH m673 3413) := Wk.loopC ec135 w671 w675
theorem w677 : Wk PR GG x22 c135 (initF 3 f457) (litH m458 2587) (.exit 0) (initF 3 f672) (litH m673 3413) := Wk.rounds selfX_ok ec135 p462 w676
theorem w678 : Wk PR GG x22 c133 (initF 3 f457) (litH m458 2587) .norm (initF 3 f672) (litH m673 3413) := Wk.blockE ec133 w677
theorem w681 : Wk PR GG x22 c134 (initF 3 f672) (litH m673 3413) .ret (initF 3 f679) (litH m673 3413) := Wk.piece selfX_ok p680
theorem w682 : Wk PR GG x22 c132 (initF 3 f457) (litH m458 2587) .ret (initF 3 f679) (litH m673 3413) := Wk.seqC ec132 w678 w681
theorem w683 : Wk PR GG x22 c128 (initF 3 f454) (litH m455 2454) .ret (initF 3 f679) (litH m673 3413) := Wk.pieceC selfX_ok 8 p459 w682
theorem w684 : Wk PR GG x22 c127 (initF 3 f454) (litH m455 2454) .ret (initF 3 f679) (litH m673 3413) := Wk.scopeP ec127 (fun h => h) w683
theorem w685 : Wk PR GG x22 c123 (initF 3 f452) (litH m453 2453) .ret (initF 3 f679) (litH m673 3413) := Wk.pieceC selfX_ok 1 p456 w684
theorem k686 : CW PR GG 22 f452 (litH m453 2453) (tu [(sc 3412 0 2 8 2), (y 0), (i 0)]) (litH m673 3413) := Wk.cw Tryz.func22 ec123 (N := 178) (D := 3) (by kernel_rfl) (by kernel_rfl) (by kernel_rfl) w685 (.inr rfl) (by kernel_rfl)
theorem w697 : Wk PR GG x62 c693 (initF 2 f691) (litH m692 3460) .ret (initF 2 f694) (litH m695 4731) := Wk.piece selfX_ok p696
theorem k698 : CW PR GG 62 f691 (litH m692 3460) (tu [(i 20), (i 0)]) (litH m695 4731) := Wk.cw Tryz.func62 ec693 (N := 52) (D := 2) (by kernel_rfl) (by kernel_rfl) (by kernel_rfl) w697 (.inr rfl) (by kernel_rfl)
theorem w729 : Wk PR GG x108 c725 (initF 3 f722) (litH m723 5823) .ret (initF 3 f726) (litH m727 5862) := Wk.piece selfX_ok p728
theorem w730 : Wk PR GG x108 c721 (initF 3 f717) (litH m718 5504) .ret (initF 3 f726) (litH m727 5862) := Wk.pieceC selfX_ok 9 p724 w729
theorem w731 : Wk PR GG x108 c720 (initF 3 f717) (litH m718 5504) .ret (initF 3 f726) (litH m727 5862) := Wk.scopeP ec720 (fun h => h) w730
theorem w732 : Wk PR GG x108 c716 (initF 3 f714) (litH m713 5502) .ret (initF 3 f726) (litH m727 5862) := Wk.pieceC selfX_ok 1 p719 w731
theorem k733 : CW PR GG 108 f714 (litH m713 5502) (tu [(ag [(y 1), (s 5861 0 12 12), (s0 0 0)]), (i 0)]) (litH m727 5862) := Wk.cw Tryz.func108 ec716 (N := 191) (D := 3) (by kernel_rfl) (by kernel_rfl) (by kernel_rfl) w732 (.inr rfl) (by kernel_rfl)
theorem w740 : WkI PR GG x64 c710 7 (initF 3 f734) (litH m735 5862) (initF 3 f737) (litH m738 5863) := WkI.fin (comp_ok _) spX_okS selfX_ok p739
theorem w741 : WkI PR GG x64 c710 0 (initF 3 f706) (litH m707 5474) (initF 3 f737) (litH m738 5863) := WkI.call (comp_ok _) spX_okS selfX_ok 0 6 p715 k733 p736 w740
theorem w742 : Wk PR GG x64 c710 (initF 3 f706) (litH m707 5474) .norm (initF 3 f737) (litH m738 5863) := Wk.ofI (by kernel_rfl) w741
def L757q : Ex → F8 → AH → Prop := fun e F' H' => (e = .norm ∨ e = .ret) ∧ ∃ H2, resV PR 3 71 F' H' Tryz.f110.results.toList = .ok (tu [(s 5863 0 4 4), (i 0)]) H2 ∧ has H2 m758 5865 = true
def L757q1 : Ex → F8 → AH → Prop := fun e F1 H1 => e = .norm ∧ WkQ PR GG x110 c213 F1 H1 L757q
def L757qB : Ex → F8 → AH → Prop := fun e F1 H1 => (e = .norm ∨ e = .exit 0) ∧ L757q1 .norm F1 H1
theorem w773 : WkQ PR GG x110 c213 (initF 3 f768) (litH m766 5865) L757q := (Wk.piece selfX_ok p771).q ⟨.inr rfl, resHas_eq p772⟩
theorem w775 : WkQ PR GG x110 c218 (initF 3 f765) (litH m766 5865) L757qB := by
    refine WkQ.loop ec218 (WkQ.seq ec219 (WkQ.next spX_okS selfX_ok p774 ?_))
    intro y hy
    simp only [List.mem_cons, List.not_mem_nil, or_false] at hy
    rcases hy with rfl
    · exact ⟨rfl, (Wk.piece selfX_ok p769).q ⟨.inr rfl, rfl, w773⟩⟩
theorem w777 : WkQ PR GG x110 c218 (initF 3 f761) (litH m760 5865) L757qB := by
    refine WkQ.loop ec218 (WkQ.seq ec219 (WkQ.next spX_okS selfX_ok p776 ?_))
    intro y hy
    simp only [List.mem_cons, List.not_mem_nil, or_false] at hy
    rcases hy with rfl
    · exact ⟨rfl, (Wk.piece selfX_ok p767).q w775⟩
theorem w791 : WkQ PR GG x110 c213 (initF 3 f786) (litH m783 5865) L757q := (Wk.piece selfX_ok p789).q ⟨.inr rfl, resHas_eq p790⟩
theorem w793 : WkQ PR GG x110 c218 (initF 3 f784) (litH m783 5865) L757qB := by
    refine WkQ.loop ec218 (WkQ.seq ec219 (WkQ.next spX_okS selfX_ok p792 ?_))
    intro y hy
    simp only [List.mem_cons, List.not_mem_nil, or_false] at hy
    rcases hy with rfl
    · exact ⟨rfl, (Wk.piece selfX_ok p787).q ⟨.inr rfl, rfl, w791⟩⟩
theorem w795 : WkQ PR GG x110 c218 (initF 3 f765) (litH m780 5865) L757qB := by
    refine WkQ.loop ec218 (WkQ.seq ec219 (WkQ.next spX_okS selfX_ok p794 ?_))
    intro y hy
    simp only [List.mem_cons, List.not_mem_nil, or_false] at hy
    rcases hy with rfl
    · exact ⟨rfl, (Wk.piece selfX_ok p785).q w793⟩
theorem w797 : WkQ PR GG x110 c218 (initF 3 f754) (litH m755 5865) L757qB := by
    refine WkQ.loop ec218 (WkQ.seq ec219 (WkQ.next spX_okS selfX_ok p796 ?_))
    intro y hy
    simp only [List.mem_cons, List.not_mem_nil, or_false] at hy
    rcases hy with rfl | rfl
    · exact ⟨rfl, (Wk.piece selfX_ok p762).q w777⟩
    · exact ⟨rfl, (Wk.piece selfX_ok p781).q w795⟩
theorem w798 : WkQ PR GG x110 c211 (initF 3 f751) (litH m752 5864) L757q := WkQ.seq ec211 (WkQ.pieceC selfX_ok 1 p756 (WkQ.block ec217 w797))
theorem w799 : WkQ PR GG x110 c207 (initF 3 f749) (litH m738 5863) L757q := WkQ.pieceC selfX_ok 4 p753 w798
theorem k800 : CW PR GG 110 f749 (litH m738 5863) (tu [(s 5863 0 4 4), (i 0)]) (litH m758 5865) := WkQ.cw Tryz.func110 ec207 (N := 71) (D := 3) (by kernel_rfl) (by kernel_rfl) (by kernel_rfl) w799
theorem w805 : WkI PR GG x64 c746 5 (initF 3 f801) (litH m758 5865) (initF 3 f803) (litH m758 5865) := WkI.fin (comp_ok _) spX_okS selfX_ok p804
theorem w806 : WkI PR GG x64 c746 0 (initF 3 f743) (litH m738 5863) (initF 3 f803) (litH m758 5865) := WkI.call (comp_ok _) spX_okS selfX_ok 0 4 p750 k800 p802 w805
theorem w807 : Wk PR GG x64 c746 (initF 3 f743) (litH m738 5863) .norm (initF 3 f803) (litH m758 5865) := Wk.ofI (by kernel_rfl) w806
theorem w810 : Wk PR GG x64 c747 (initF 3 f803) (litH m758 5865) .ret (initF 3 f808) (litH m758 5865) := Wk.piece selfX_ok p809
theorem w811 : Wk PR GG x64 c745 (initF 3 f743) (litH m738 5863) .ret (initF 3 f808) (litH m758 5865) := Wk.seqC ec745 w807 w810
theorem w812 : Wk PR GG x64 c711 (initF 3 f737) (litH m738 5863) .ret (initF 3 f808) (litH m758 5865) := Wk.pieceC selfX_ok 4 p744 w811
theorem w813 : Wk PR GG x64 c709 (initF 3 f706) (litH m707 5474) .ret (initF 3 f808) (litH m758 5865) := Wk.seqC ec709 w742 w812
theorem w814 : Wk PR GG x64 c705 (initF 3 f702) (litH m703 4850) .ret (initF 3 f808) (litH m758 5865) := Wk.pieceC selfX_ok 2 p708 w813
theorem w815 : Wk PR GG x64 c197 (initF 3 f700) (litH m701 4732) .ret (initF 3 f808) (litH m758 5865) := Wk.pieceC selfX_ok 7 p704 w814
theorem k816 : CW PR GG 64 f700 (litH m701 4732) (tu [(y 1), (s 5863 0 4 4), (i 0)]) (litH m758 5865) := Wk.cw Tryz.func64 ec197 (N := 101) (D := 3) (by kernel_rfl) (by kernel_rfl) (by kernel_rfl) w815 (.inr rfl) (by kernel_rfl)
theorem w824 : Wk PR GG x67 c820 (initF 2 f818) (litH m819 5886) .ret (initF 2 f821) (litH m822 6572) := Wk.piece selfX_ok p823
theorem k825 : CW PR GG 67 f818 (litH m819 5886) (tu [(ag [(i 0), (q 6563 2), (q 6569 2), ff]), (i 0)]) (litH m822 6572) := Wk.cw Tryz.func67 ec820 (N := 57) (D := 2) (by kernel_rfl) (by kernel_rfl) (by kernel_rfl) w824 (.inr rfl) (by kernel_rfl)
theorem k829 : CW PR GG 24 f688 (litH m689 3418) (tu [(ag [(i 0), (q 6563 2), (q 6569 2), ff]), tt]) (litH m827 6572) := CW.memo mixed spX_okS selfX_ok (AllW.cons k698 (AllW.cons k816 (AllW.cons k825 AllW.nil))) p828
theorem k833 : CW PR GG 6 f443 (litH m442 2284) (tu [(ag [(y 1), (y 0), (i 0), (q 6563 2), (q 6569 2), ff, ff, (i 0), (i 0), (i 0)]), (i 0)]) (litH m831 6573) := CW.memo mixed spX_okS selfX_ok (AllW.cons k450 (AllW.cons k686 (AllW.cons k829 AllW.nil))) p832
theorem w839 : WkI PR GG x3 c439 3 (initF 3 f834) (litH m831 6573) (initF 3 f836) (litH m837 6574) := WkI.fin (comp_ok _) spX_okS selfX_ok p838
theorem w840 : WkI PR GG x3 c439 0 (initF 3 f431) (litH m429 2272) (initF 3 f836) (litH m837 6574) := WkI.call (comp_ok _) spX_okS selfX_ok 0 2 p444 k833 p835 w839
theorem w841 : Wk PR GG x3 c439 (initF 3 f431) (litH m429 2272) .norm (initF 3 f836) (litH m837 6574) := Wk.ofI (by kernel_rfl) w840
theorem w862 : Wk PR GG x18 c114 (initF 2 f856) (litH m858 7717) .ret (initF 2 f859) (litH m860 7804) := Wk.piece selfX_ok p861
theorem k863 : CW PR GG 18 f856 (litH m858 7717) (tu [(q 7803 2), (s0 0 0), (i 0)]) (litH m860 7804) := Wk.cw Tryz.func18 ec114 (N := 43) (D := 2) (by kernel_rfl) (by kernel_rfl) (by kernel_rfl) w862 (.inr rfl) (by kernel_rfl)
def L920q : Ex → F8 → AH → Prop := fun e F' H' => (e = .norm ∨ e = .ret) ∧ ∃ H2, resV PR 3 71 F' H' Tryz.f110.results.toList = .ok (tu [(s 8442 0 3 3), (i 0)]) H2 ∧ has H2 m915 8444 = true
def L920q1 : Ex → F8 → AH → Prop := fun e F1 H1 => e = .norm ∧ WkQ PR GG x110 c213 F1 H1 L920q
def L920qB : Ex → F8 → AH → Prop := fun e F1 H1 => (e = .norm ∨ e = .exit 0) ∧ L920q1 .norm F1 H1
theorem w930 : WkQ PR GG x110 c213 (initF 3 f925) (litH m922 8444) L920q := (Wk.piece selfX_ok p928).q ⟨.inr rfl, resHas_eq p929⟩
theorem w932 : WkQ PR GG x110 c218 (initF 3 f923) (litH m922 8444) L920qB := by
    refine WkQ.loop ec218 (WkQ.seq ec219 (WkQ.next spX_okS selfX_ok p931 ?_))
    intro y hy
    simp only [List.mem_cons, List.not_mem_nil, or_false] at hy
    rcases hy with rfl
    · exact ⟨rfl, (Wk.piece selfX_ok p926).q ⟨.inr rfl, rfl, w930⟩⟩
theorem w934 : WkQ PR GG x110 c218 (initF 3 f917) (litH m918 8444) L920qB := by
    refine WkQ.loop ec218 (WkQ.seq ec219 (WkQ.next spX_okS selfX_ok p933 ?_))
    intro y hy
    simp only [List.mem_cons, List.not_mem_nil, or_false] at hy
    rcases hy with rfl
    · exact ⟨rfl, (Wk.piece selfX_ok p924).q w932⟩
theorem w935 : WkQ PR GG x110 c211 (initF 3 f914) (litH m915 8443) L920q := WkQ.seq ec211 (WkQ.pieceC selfX_ok 1 p919 (WkQ.block ec217 w934))
theorem w936 : WkQ PR GG x110 c207 (initF 3 f912) (litH m909 8442) L920q := WkQ.pieceC selfX_ok 4 p916 w935
theorem k937 : CW PR GG 110 f912 (litH m909 8442) (tu [(s 8442 0 3 3), (i 0)]) (litH m915 8444) := WkQ.cw Tryz.func110 ec207 (N := 71) (D := 3) (by kernel_rfl) (by kernel_rfl) (by kernel_rfl) w936
theorem w942 : WkI PR GG x64 c202 5 (initF 3 f938) (litH m915 8444) (initF 3 f940) (litH m915 8444) := WkI.fin (comp_ok _) spX_okS selfX_ok p941
theorem w943 : WkI PR GG x64 c202 0 (initF 3 f908) (litH m909 8442) (initF 3 f940) (litH m915 8444) := WkI.call (comp_ok _) spX_okS selfX_ok 0 4 p913 k937 p939 w942
theorem w944 : Wk PR GG x64 c202 (initF 3 f908) (litH m909 8442) .norm (initF 3 f940) (litH m915 8444) := Wk.ofI (by kernel_rfl) w943
theorem w947 : Wk PR GG x64 c203 (initF 3 f940) (litH m915 8444) .ret (initF 3 f945) (litH m915 8444) := Wk.piece selfX_ok p946
theorem w948 : Wk PR GG x64 c201 (initF 3 f908) (litH m909 8442) .ret (initF 3 f945) (litH m915 8444) := Wk.seqC ec201 w944 w947
theorem w949 : Wk PR GG x64 c197 (initF 3 f906) (litH m907 8216) .ret (initF 3 f945) (litH m915 8444) := Wk.pieceC selfX_ok 14 p910 w948
theorem k950 : CW PR GG 64 f906 (litH m907 8216) (tu [(y 1), (s 8442 0 3 3), (i 0)]) (litH m915 8444) := Wk.cw Tryz.func64 ec197 (N := 101) (D := 3) (by kernel_rfl) (by kernel_rfl) (by kernel_rfl) w949 (.inr rfl) (by kernel_rfl)
theorem w955 : Wk PR GG x426 c193 (initF 2 f903) (litH m904 8214) .norm (initF 2 f952) (litH m953 8444) := Wk.memo mixed spX_okS selfX_ok (AllW.cons k950 AllW.nil) p954
theorem w958 : Wk PR GG x426 c194 (initF 2 f952) (litH m953 8444) .ret (initF 2 f956) (litH m953 8444) := Wk.piece selfX_ok p957
theorem w959 : Wk PR GG x426 c192 (initF 2 f903) (litH m904 8214) .ret (initF 2 f956) (litH m953 8444) := Wk.seqC ec192 w955 w958
theorem w960 : Wk PR GG x426 c188 (initF 2 f901) (litH m898 8209) .ret (initF 2 f956) (litH m953 8444) := Wk.pieceC selfX_ok 2 p905 w959
theorem k961 : CW PR GG 426 f901 (litH m898 8209) tt (litH m953 8444) := Wk.cw Tryz.func426 ec188 (N := 57) (D := 2) (by kernel_rfl) (by kernel_rfl) (by kernel_rfl) w960 (.inr rfl) (by kernel_rfl)
theorem w966 : WkI PR GG x417 c183 4 (initF 3 f962) (litH m898 8444) (initF 3 f964) (litH m898 8444) := WkI.fin (comp_ok _) spX_okS selfX_ok p965
theorem w967 : WkI PR GG x417 c183 0 (initF 3 f897) (litH m898 8209) (initF 3 f964) (litH m898 8444) := WkI.call (comp_ok _) spX_okS selfX_ok 0 3 p902 k961 p963 w966
theorem w968 : Wk PR GG x417 c183 (initF 3 f897) (litH m898 8209) .norm (initF 3 f964) (litH m898 8444) := Wk.ofI (by kernel_rfl) w967
def L993q : Ex → F8 → AH → Prop := fun e F' H' => (e = .norm ∨ e = .ret) ∧ ∃ H2, resV PR 3 71 F' H' Tryz.f110.results.toList = .ok (tu [(s 8706 0 3 3), (i 0)]) H2 ∧ has H2 m994 8708 = true
def L993q1 : Ex → F8 → AH → Prop := fun e F1 H1 => e = .norm ∧ WkQ PR GG x110 c213 F1 H1 L993q
def L993qB : Ex → F8 → AH → Prop := fun e F1 H1 => (e = .norm ∨ e = .exit 0) ∧ L993q1 .norm F1 H1
theorem w1005 : WkQ PR GG x110 c213 (initF 3 f1000) (litH m998 8708) L993q := (Wk.piece selfX_ok p1003).q ⟨.inr rfl, resHas_eq p1004⟩
theorem w1007 : WkQ PR GG x110 c218 (initF 3 f997) (litH m998 8708) L993qB := by
    refine WkQ.loop ec218 (WkQ.seq ec219 (WkQ.next spX_okS selfX_ok p1006 ?_))
    intro y hy
    simp only [List.mem_cons, List.not_mem_nil, or_false] at hy
    rcases hy with rfl
    · exact ⟨rfl, (Wk.piece selfX_ok p1001).q ⟨.inr rfl, rfl, w1005⟩⟩
theorem w1009 : WkQ PR GG x110 c218 (initF 3 f990) (litH m991 8708) L993qB := by
    refine WkQ.loop ec218 (WkQ.seq ec219 (WkQ.next spX_okS selfX_ok p1008 ?_))
    intro y hy
    simp only [List.mem_cons, List.not_mem_nil, or_false] at hy
    rcases hy with rfl
    · exact ⟨rfl, (Wk.piece selfX_ok p999).q w1007⟩
theorem w1010 : WkQ PR GG x110 c211 (initF 3 f987) (litH m988 8707) L993q := WkQ.seq ec211 (WkQ.pieceC selfX_ok 1 p992 (WkQ.block ec217 w1009))
theorem w1011 : WkQ PR GG x110 c207 (initF 3 f985) (litH m982 8706) L993q := WkQ.pieceC selfX_ok 4 p989 w1010
theorem k1012 : CW PR GG 110 f985 (litH m982 8706) (tu [(s 8706 0 3 3), (i 0)]) (litH m994 8708) := WkQ.cw Tryz.func110 ec207 (N := 71) (D := 3) (by kernel_rfl) (by kernel_rfl) (by kernel_rfl) w1011
theorem w1017 : WkI PR GG x64 c202 5 (initF 3 f1013) (litH m994 8708) (initF 3 f1015) (litH m994 8708) := WkI.fin (comp_ok _) spX_okS selfX_ok p1016
theorem w1018 : WkI PR GG x64 c202 0 (initF 3 f981) (litH m982 8706) (initF 3 f1015) (litH m994 8708) := WkI.call (comp_ok _) spX_okS selfX_ok 0 4 p986 k1012 p1014 w1017
theorem w1019 : Wk PR GG x64 c202 (initF 3 f981) (litH m982 8706) .norm (initF 3 f1015) (litH m994 8708) := Wk.ofI (by kernel_rfl) w1018
theorem w1022 : Wk PR GG x64 c203 (initF 3 f1015) (litH m994 8708) .ret (initF 3 f1020) (litH m994 8708) := Wk.piece selfX_ok p1021
theorem w1023 : Wk PR GG x64 c201 (initF 3 f981) (litH m982 8706) .ret (initF 3 f1020) (litH m994 8708) := Wk.seqC ec201 w1019 w1022
theorem w1024 : Wk PR GG x64 c197 (initF 3 f979) (litH m980 8451) .ret (initF 3 f1020) (litH m994 8708) := Wk.pieceC selfX_ok 14 p983 w1023
theorem k1025 : CW PR GG 64 f979 (litH m980 8451) (tu [(y 1), (s 8706 0 3 3), (i 0)]) (litH m994 8708) := Wk.cw Tryz.func64 ec197 (N := 101) (D := 3) (by kernel_rfl) (by kernel_rfl) (by kernel_rfl) w1024 (.inr rfl) (by kernel_rfl)
theorem w1030 : Wk PR GG x426 c193 (initF 2 f976) (litH m977 8449) .norm (initF 2 f1027) (litH m1028 8708) := Wk.memo mixed spX_okS selfX_ok (AllW.cons k1025 AllW.nil) p1029
theorem w1033 : Wk PR GG x426 c194 (initF 2 f1027) (litH m1028 8708) .ret (initF 2 f1031) (litH m1028 8708) := Wk.piece selfX_ok p1032
theorem w1034 : Wk PR GG x426 c192 (initF 2 f976) (litH m977 8449) .ret (initF 2 f1031) (litH m1028 8708) := Wk.seqC ec192 w1030 w1033
theorem w1035 : Wk PR GG x426 c188 (initF 2 f974) (litH m898 8444) .ret (initF 2 f1031) (litH m1028 8708) := Wk.pieceC selfX_ok 2 p978 w1034
theorem k1036 : CW PR GG 426 f974 (litH m898 8444) tt (litH m1028 8708) := Wk.cw Tryz.func426 ec188 (N := 57) (D := 2) (by kernel_rfl) (by kernel_rfl) (by kernel_rfl) w1035 (.inr rfl) (by kernel_rfl)
theorem w1041 : WkI PR GG x417 c279 4 (initF 3 f1037) (litH m898 8708) (initF 3 f1039) (litH m898 8708) := WkI.fin (comp_ok _) spX_okS selfX_ok p1040
theorem w1042 : WkI PR GG x417 c279 0 (initF 3 f971) (litH m898 8444) (initF 3 f1039) (litH m898 8708) := WkI.call (comp_ok _) spX_okS selfX_ok 0 3 p975 k1036 p1038 w1041
theorem w1043 : Wk PR GG x417 c279 (initF 3 f971) (litH m898 8444) .norm (initF 3 f1039) (litH m898 8708) := Wk.ofI (by kernel_rfl) w1042
theorem w1044 : Wk PR GG x417 c278 (initF 3 f971) (litH m898 8444) .norm (initF 3 f1039) (litH m898 8708) := Wk.condT (by kernel_rfl) w1043
theorem w1045 : Wk PR GG x417 c274 (initF 3 f969) (litH m898 8444) .norm (initF 3 f1039) (litH m898 8708) := Wk.pieceC selfX_ok 1 p972 w1044
theorem w1049 : Wk PR GG x417 c275 (initF 3 f1039) (litH m898 8708) .norm (initF 3 f1046) (litH m1047 8741) := Wk.piece selfX_ok p1048
theorem w1050 : Wk PR GG x417 c273 (initF 3 f969) (litH m898 8444) .norm (initF 3 f1046) (litH m1047 8741) := Wk.seqC ec273 w1045 w1049
theorem w1051 : Wk PR GG x417 c184 (initF 3 f964) (litH m898 8444) .norm (initF 3 f1046) (litH m1047 8741) := Wk.pieceC selfX_ok 2 p970 w1050
theorem w1052 : Wk PR GG x417 c182 (initF 3 f897) (litH m898 8209) .norm (initF 3 f1046) (litH m1047 8741) := Wk.seqC ec182 w968 w1051
theorem w1053 : Wk PR GG x417 c178 (initF 3 f895) (litH m892 8126) .norm (initF 3 f1046) (litH m1047 8741) := Wk.pieceC selfX_ok 5 p899 w1052
theorem k1054 : CW PR GG 417 f895 (litH m892 8126) un (litH m1047 8741) := Wk.cw Tryz.func417 ec178 (N := 73) (D := 3) (by kernel_rfl) (by kernel_rfl) (by kernel_rfl) w1053 (.inl rfl) (by kernel_rfl)
theorem w1058 : WkI PR GG x407 c173 7 (initF 2 f894) (litH m1055 8741) (initF 2 f894) (litH m1055 8741) := WkI.fin (comp_ok _) spX_okS selfX_ok p1057
theorem w1059 : WkI PR GG x407 c173 0 (initF 2 f891) (litH m892 8126) (initF 2 f894) (litH m1055 8741) := WkI.call (comp_ok _) spX_okS selfX_ok 0 6 p896 k1054 p1056 w1058
theorem w1060 : Wk PR GG x407 c173 (initF 2 f891) (litH m892 8126) .norm (initF 2 f894) (litH m1055 8741) := Wk.ofI (by kernel_rfl) w1059
theorem w1062 : Wk PR GG x407 c174 (initF 2 f894) (litH m1055 8741) .ret (initF 2 f894) (litH m1055 8741) := Wk.piece selfX_ok p1061
theorem w1063 : Wk PR GG x407 c172 (initF 2 f891) (litH m892 8126) .ret (initF 2 f894) (litH m1055 8741) := Wk.seqC ec172 w1060 w1062
theorem w1064 : Wk PR GG x407 c168 (initF 2 f889) (litH m888 8043) .ret (initF 2 f894) (litH m1055 8741) := Wk.pieceC selfX_ok 7 p893 w1063
theorem k1065 : CW PR GG 407 f889 (litH m888 8043) ff (litH m1055 8741) := Wk.cw Tryz.func407 ec168 (N := 56) (D := 2) (by kernel_rfl) (by kernel_rfl) (by kernel_rfl) w1064 (.inr rfl) (by kernel_rfl)
theorem w1069 : WkI PR GG x22 c162 7 (initF 3 f887) (litH m1066 8741) (initF 3 f887) (litH m1066 8741) := WkI.fin (comp_ok _) spX_okS selfX_ok p1068
theorem w1070 : WkI PR GG x22 c162 0 (initF 3 f884) (litH m885 8043) (initF 3 f887) (litH m1066 8741) := WkI.call (comp_ok _) spX_okS selfX_ok 0 6 p890 k1065 p1067 w1069
theorem w1071 : Wk PR GG x22 c162 (initF 3 f884) (litH m885 8043) .norm (initF 3 f887) (litH m1066 8741) := Wk.ofI (by kernel_rfl) w1070
theorem w1073 : Wk PR GG x22 c163 (initF 3 f887) (litH m1066 8741) (.exit 1) (initF 3 f887) (litH m1066 8741) := Wk.piece selfX_ok p1072
theorem w1074 : Wk PR GG x22 c161 (initF 3 f884) (litH m885 8043) (.exit 1) (initF 3 f887) (litH m1066 8741) := Wk.seqC ec161 w1071 w1073
theorem w1075 : Wk PR GG x22 c157 (initF 3 f882) (litH m878 8042) (.exit 1) (initF 3 f887) (litH m1066 8741) := Wk.pieceC selfX_ok 2 p886 w1074
theorem w1076 : Wk PR GG x22 c156 (initF 3 f882) (litH m878 8042) (.exit 1) (initF 3 f887) (litH m1066 8741) := Wk.condF (by kernel_rfl) w1075
theorem w1077 : Wk PR GG x22 c153 (initF 3 f880) (litH m878 8042) (.exit 1) (initF 3 f887) (litH m1066 8741) := Wk.pieceC selfX_ok 1 p883 w1076
theorem w1078 : Wk PR GG x22 c152 (initF 3 f880) (litH m878 8042) (.exit 1) (initF 3 f887) (litH m1066 8741) := Wk.condF (by kernel_rfl) w1077
theorem w1079 : Wk PR GG x22 c149 (initF 3 f877) (litH m878 8042) (.exit 1) (initF 3 f887) (litH m1066 8741) := Wk.pieceC selfX_ok 1 p881 w1078
theorem w1080 : Wk PR GG x22 c147 (initF 3 f877) (litH m878 8042) (.exit 1) (initF 3 f887) (litH m1066 8741) := Wk.blockP ec147 (by decide) w1079
theorem w1081 : Wk PR GG x22 c146 (initF 3 f877) (litH m878 8042) (.exit 1) (initF 3 f887) (litH m1066 8741) := Wk.seqO ec146 (fun h => h) w1080
theorem w1082 : Wk PR GG x22 c142 (initF 3 f873) (litH m874 8041) (.exit 1) (initF 3 f887) (litH m1066 8741) := Wk.pieceC selfX_ok 2 p879 w1081
theorem w1083 : Wk PR GG x22 c141 (initF 3 f873) (litH m874 8041) .norm (initF 3 f887) (litH m1066 8741) := Wk.blockE ec141 w1082
theorem w1084 : Wk PR GG x22 c136 (initF 3 f873) (litH m874 8041) .norm (initF 3 f887) (litH m1066 8741) := Wk.pieceC selfX_ok 1 p876 w1083
theorem w1088 : Wk PR GG x22 c135 (initF 3 f887) (litH m1066 8741) (.exit 0) (initF 3 f1085) (litH m1086 8769) := Wk.piece selfX_ok p1087
theorem w1089 : Wk PR GG x22 c135 (initF 3 f873) (litH m874 8041) (.exit 0) (initF 3 f1085) (litH m1086 8769) := Wk.loopC ec135 w1084 w1088
theorem w1090 : Wk PR GG x22 c135 (initF 3 f870) (litH m871 7943) (.exit 0) (initF 3 f1085) (litH m1086 8769) := Wk.rounds selfX_ok ec135 p875 w1089
theorem w1091 : Wk PR GG x22 c133 (initF 3 f870) (litH m871 7943) .norm (initF 3 f1085) (litH m1086 8769) := Wk.blockE ec133 w1090
theorem w1094 : Wk PR GG x22 c134 (initF 3 f1085) (litH m1086 8769) .ret (initF 3 f1092) (litH m1086 8769) := Wk.piece selfX_ok p1093
theorem w1095 : Wk PR GG x22 c132 (initF 3 f870) (litH m871 7943) .ret (initF 3 f1092) (litH m1086 8769) := Wk.seqC ec132 w1091 w1094
theorem w1096 : Wk PR GG x22 c128 (initF 3 f867) (litH m868 7810) .ret (initF 3 f1092) (litH m1086 8769) := Wk.pieceC selfX_ok 8 p872 w1095
theorem w1097 : Wk PR GG x22 c127 (initF 3 f867) (litH m868 7810) .ret (initF 3 f1092) (litH m1086 8769) := Wk.scopeP ec127 (fun h => h) w1096
theorem w1098 : Wk PR GG x22 c123 (initF 3 f865) (litH m866 7809) .ret (initF 3 f1092) (litH m1086 8769) := Wk.pieceC selfX_ok 1 p869 w1097
theorem k1099 : CW PR GG 22 f865 (litH m866 7809) (tu [(s0 0 0), (y 1), (i 0)]) (litH m1086 8769) := Wk.cw Tryz.func22 ec123 (N := 178) (D := 3) (by kernel_rfl) (by kernel_rfl) (by kernel_rfl) w1098 (.inr rfl) (by kernel_rfl)
theorem k1102 : CW PR GG 6 f856 (litH m857 7640) (tu [(ag [(y 2), (y 1), (i 0), (s0 0 0), (s0 0 0), ff, ff, (i 0), (i 0), (i 0)]), (i 0)]) (litH m857 8769) := CW.memo mixed spX_okS selfX_ok (AllW.cons k863 (AllW.cons k1099 AllW.nil)) p1101
theorem w1107 : Wk PR GG x3 c854 (initF 3 f850) (litH m851 7634) .norm (initF 3 f1104) (litH m1105 8769) := Wk.memo mixed spX_okS selfX_ok (AllW.cons k1102 AllW.nil) p1106
theorem k1122 : CW PR GG 12 f1120 (litH m1117 8774) (tu [(ag [(i 0), (s0 0 0), (s0 0 0), (s0 0 0), (s0 0 0)]), (ag [(i 1), (i 1)]), (i 4)]) (litH m1117 8774) := parse_rejects _
theorem w1128 : WkI PR GG x5 c17 2 (initF 2 f1123) (litH m1117 8774) (initF 2 f1125) (litH m1126 8776) := WkI.fin (comp_ok _) spX_okS selfX_ok p1127
theorem w1129 : WkI PR GG x5 c17 0 (initF 2 f1116) (litH m1117 8774) (initF 2 f1125) (litH m1126 8776) := WkI.call (comp_ok _) spX_okS selfX_ok 0 1 p1121 k1122 p1124 w1128
theorem w1130 : Wk PR GG x5 c17 (initF 2 f1116) (litH m1117 8774) .norm (initF 2 f1125) (litH m1126 8776) := Wk.ofI (by kernel_rfl) w1129
theorem w1134 : Wk PR GG x5 c18 (initF 2 f1125) (litH m1126 8776) .ret (initF 2 f1131) (litH m1132 8776) := Wk.piece selfX_ok p1133
theorem w1135 : Wk PR GG x5 c16 (initF 2 f1116) (litH m1117 8774) .ret (initF 2 f1131) (litH m1132 8776) := Wk.seqC ec16 w1130 w1134
theorem w1136 : Wk PR GG x5 c12 (initF 2 f1114) (litH m1105 8773) .ret (initF 2 f1131) (litH m1132 8776) := Wk.pieceC selfX_ok 1 p1118 w1135
theorem k1137 : CW PR GG 5 f1114 (litH m1105 8773) (ag [(y 3), (y 0), (i 0), (s0 0 0), (s0 0 0), ff, ff, (i 1), (i 1), (i 4)]) (litH m1132 8776) := Wk.cw Tryz.func5 ec12 (N := 63) (D := 2) (by kernel_rfl) (by kernel_rfl) (by kernel_rfl) w1136 (.inr rfl) (by kernel_rfl)
theorem w1142 : WkI PR GG x3 c1111 2 (initF 3 f1138) (litH m1105 8776) (initF 3 f1138) (litH m1140 8776) := WkI.fin (comp_ok _) spX_okS selfX_ok p1141
theorem w1143 : WkI PR GG x3 c1111 0 (initF 3 f1108) (litH m1105 8773) (initF 3 f1138) (litH m1140 8776) := WkI.call (comp_ok _) spX_okS selfX_ok 0 1 p1115 k1137 p1139 w1142
theorem w1144 : Wk PR GG x3 c1111 (initF 3 f1108) (litH m1105 8773) .norm (initF 3 f1138) (litH m1140 8776) := Wk.ofI (by kernel_rfl) w1143
theorem k1160 : CW PR GG 27 f20 (litH m1157 8780) (tu [(q 8864 12), (ag [(i 0), (i 0)]), (i 0)]) (litH m1158 8865) := CW.lit callX_okS p1159
theorem w1167 : Wk PR GG x29 c31 (initF 2 f1162) (litH m1163 8937) .norm (initF 2 f1164) (litH m1165 8971) := Wk.piece selfX_ok p1166
theorem k1168 : CW PR GG 29 f1162 (litH m1163 8937) un (litH m1165 8971) := Wk.cw Tryz.func29 ec31 (N := 28) (D := 2) (by kernel_rfl) (by kernel_rfl) (by kernel_rfl) w1167 (.inl rfl) (by kernel_rfl)
theorem w1174 : Wk PR GG x29 c31 (initF 2 f1170) (litH m1165 8971) .norm (initF 2 f1171) (litH m1172 9023) := Wk.piece selfX_ok p1173
theorem k1175 : CW PR GG 29 f1170 (litH m1165 8971) un (litH m1172 9023) := Wk.cw Tryz.func29 ec31 (N := 28) (D := 2) (by kernel_rfl) (by kernel_rfl) (by kernel_rfl) w1174 (.inl rfl) (by kernel_rfl)
theorem w1181 : Wk PR GG x29 c31 (initF 2 f1177) (litH m1172 9023) .norm (initF 2 f1178) (litH m1179 9057) := Wk.piece selfX_ok p1180
theorem k1182 : CW PR GG 29 f1177 (litH m1172 9023) un (litH m1179 9057) := Wk.cw Tryz.func29 ec31 (N := 28) (D := 2) (by kernel_rfl) (by kernel_rfl) (by kernel_rfl) w1181 (.inl rfl) (by kernel_rfl)
theorem k1187 : CW PR GG 33 f1184 (litH m1185 9154) (tu [(ag [(i 0), (i 0)]), (i 0)]) (litH m1185 9271) := CW.lit callX_okS p1186
theorem k1191 : CW PR GG 12 f20 (litH m1153 8777) (tu [(ag [(i 2), (q 8929 2), (s0 0 0), (s0 0 0), (sc 9149 0 7 8 7)]), (ag [(i 0), (i 0)]), (i 0)]) (litH m1189 9272) := CW.memo mixed spX_okS selfX_ok (AllW.cons k1160 (AllW.cons k1168 (AllW.cons k1175 (AllW.cons k1182 (AllW.cons k1187 AllW.nil))))) p1190
theorem w1197 : WkI PR GG x5 c17 2 (initF 2 f1192) (litH m1189 9272) (initF 2 f1194) (litH m1195 9274) := WkI.fin (comp_ok _) spX_okS selfX_ok p1196
theorem w1198 : WkI PR GG x5 c17 0 (initF 2 f1152) (litH m1153 8777) (initF 2 f1194) (litH m1195 9274) := WkI.call (comp_ok _) spX_okS selfX_ok 0 1 p1156 k1191 p1193 w1197
theorem w1199 : Wk PR GG x5 c17 (initF 2 f1152) (litH m1153 8777) .norm (initF 2 f1194) (litH m1195 9274) := Wk.ofI (by kernel_rfl) w1198
theorem w1212 : Wk PR GG x14 c84 (initF 3 f1206) (litH m1207 9528) .ret (initF 3 f1209) (litH m1210 9551) := Wk.piece selfX_ok p1211
theorem w1213 : Wk PR GG x14 c80 (initF 3 f1204) (litH m1201 9407) .ret (initF 3 f1209) (litH m1210 9551) := Wk.pieceC selfX_ok 2 p1208 w1212
theorem k1214 : CW PR GG 14 f1204 (litH m1201 9407) (tu [(ag [(i 5), (i 1)]), (i 6)]) (litH m1210 9551) := Wk.cw Tryz.func14 ec80 (N := 85) (D := 3) (by kernel_rfl) (by kernel_rfl) (by kernel_rfl) w1213 (.inr rfl) (by kernel_rfl)
theorem w1220 : WkI PR GG x5 c75 3 (initF 2 f1215) (litH m1201 9551) (initF 2 f1217) (litH m1218 9552) := WkI.fin (comp_ok _) spX_okS selfX_ok p1219
theorem w1221 : WkI PR GG x5 c75 0 (initF 2 f1200) (litH m1201 9407) (initF 2 f1217) (litH m1218 9552) := WkI.call (comp_ok _) spX_okS selfX_ok 0 2 p1205 k1214 p1216 w1220
theorem w1222 : Wk PR GG x5 c75 (initF 2 f1200) (litH m1201 9407) .norm (initF 2 f1217) (litH m1218 9552) := Wk.ofI (by kernel_rfl) w1221
theorem w1226 : Wk PR GG x5 c76 (initF 2 f1217) (litH m1218 9552) .ret (initF 2 f1223) (litH m1224 9552) := Wk.piece selfX_ok p1225
theorem w1227 : Wk PR GG x5 c73 (initF 2 f1200) (litH m1201 9407) .ret (initF 2 f1223) (litH m1224 9552) := Wk.seqC ec73 w1222 w1226
theorem w1228 : Wk PR GG x5 c72 (initF 2 f1200) (litH m1201 9407) .ret (initF 2 f1223) (litH m1224 9552) := Wk.seqO ec72 (fun h => h) w1227
theorem w1229 : Wk PR GG x5 c18 (initF 2 f1194) (litH m1195 9274) .ret (initF 2 f1223) (litH m1224 9552) := Wk.pieceC selfX_ok 3 p1202 w1228
theorem w1230 : Wk PR GG x5 c16 (initF 2 f1152) (litH m1153 8777) .ret (initF 2 f1223) (litH m1224 9552) := Wk.seqC ec16 w1199 w1229
theorem w1231 : Wk PR GG x5 c12 (initF 2 f1150) (litH m1140 8776) .ret (initF 2 f1223) (litH m1224 9552) := Wk.pieceC selfX_ok 1 p1154 w1230
theorem k1232 : CW PR GG 5 f1150 (litH m1140 8776) (ag [(y 3), (y 0), (i 0), (s0 0 0), (s0 0 0), ff, ff, (i 5), (i 1), (i 6)]) (litH m1224 9552) := Wk.cw Tryz.func5 ec12 (N := 63) (D := 2) (by kernel_rfl) (by kernel_rfl) (by kernel_rfl) w1231 (.inr rfl) (by kernel_rfl)
theorem w1237 : WkI PR GG x3 c1148 1 (initF 3 f1233) (litH m1140 9552) (initF 3 f1233) (litH m1235 9552) := WkI.fin (comp_ok _) spX_okS selfX_ok p1236
theorem w1238 : WkI PR GG x3 c1148 0 (initF 3 f1145) (litH m1140 8776) (initF 3 f1233) (litH m1235 9552) := WkI.call (comp_ok _) spX_okS selfX_ok 0 0 p1151 k1232 p1234 w1237
theorem w1239 : Wk PR GG x3 c1148 (initF 3 f1145) (litH m1140 8776) .norm (initF 3 f1233) (litH m1235 9552) := Wk.ofI (by kernel_rfl) w1238
theorem w1258 : Wk PR GG x18 c114 (initF 2 f1252) (litH m1254 9639) .ret (initF 2 f1255) (litH m1256 9726) := Wk.piece selfX_ok p1257
theorem k1259 : CW PR GG 18 f1252 (litH m1254 9639) (tu [(q 9725 2), (s0 0 0), (i 0)]) (litH m1256 9726) := Wk.cw Tryz.func18 ec114 (N := 43) (D := 2) (by kernel_rfl) (by kernel_rfl) (by kernel_rfl) w1258 (.inr rfl) (by kernel_rfl)
def L1316q : Ex → F8 → AH → Prop := fun e F' H' => (e = .norm ∨ e = .ret) ∧ ∃ H2, resV PR 3 71 F' H' Tryz.f110.results.toList = .ok (tu [(s 10364 0 3 3), (i 0)]) H2 ∧ has H2 m1311 10366 = true
def L1316q1 : Ex → F8 → AH → Prop := fun e F1 H1 => e = .norm ∧ WkQ PR GG x110 c213 F1 H1 L1316q
def L1316qB : Ex → F8 → AH → Prop := fun e F1 H1 => (e = .norm ∨ e = .exit 0) ∧ L1316q1 .norm F1 H1
theorem w1326 : WkQ PR GG x110 c213 (initF 3 f1321) (litH m1318 10366) L1316q := (Wk.piece selfX_ok p1324).q ⟨.inr rfl, resHas_eq p1325⟩
theorem w1328 : WkQ PR GG x110 c218 (initF 3 f1319) (litH m1318 10366) L1316qB := by
    refine WkQ.loop ec218 (WkQ.seq ec219 (WkQ.next spX_okS selfX_ok p1327 ?_))
    intro y hy
    simp only [List.mem_cons, List.not_mem_nil, or_false] at hy
    rcases hy with rfl
    · exact ⟨rfl, (Wk.piece selfX_ok p1322).q ⟨.inr rfl, rfl, w1326⟩⟩
theorem w1330 : WkQ PR GG x110 c218 (initF 3 f1313) (litH m1314 10366) L1316qB := by
    refine WkQ.loop ec218 (WkQ.seq ec219 (WkQ.next spX_okS selfX_ok p1329 ?_))
    intro y hy
    simp only [List.mem_cons, List.not_mem_nil, or_false] at hy
    rcases hy with rfl
    · exact ⟨rfl, (Wk.piece selfX_ok p1320).q w1328⟩
theorem w1331 : WkQ PR GG x110 c211 (initF 3 f1310) (litH m1311 10365) L1316q := WkQ.seq ec211 (WkQ.pieceC selfX_ok 1 p1315 (WkQ.block ec217 w1330))
theorem w1332 : WkQ PR GG x110 c207 (initF 3 f1308) (litH m1305 10364) L1316q := WkQ.pieceC selfX_ok 4 p1312 w1331
theorem k1333 : CW PR GG 110 f1308 (litH m1305 10364) (tu [(s 10364 0 3 3), (i 0)]) (litH m1311 10366) := WkQ.cw Tryz.func110 ec207 (N := 71) (D := 3) (by kernel_rfl) (by kernel_rfl) (by kernel_rfl) w1332
theorem w1338 : WkI PR GG x64 c202 5 (initF 3 f1334) (litH m1311 10366) (initF 3 f1336) (litH m1311 10366) := WkI.fin (comp_ok _) spX_okS selfX_ok p1337
theorem w1339 : WkI PR GG x64 c202 0 (initF 3 f1304) (litH m1305 10364) (initF 3 f1336) (litH m1311 10366) := WkI.call (comp_ok _) spX_okS selfX_ok 0 4 p1309 k1333 p1335 w1338
theorem w1340 : Wk PR GG x64 c202 (initF 3 f1304) (litH m1305 10364) .norm (initF 3 f1336) (litH m1311 10366) := Wk.ofI (by kernel_rfl) w1339
theorem w1343 : Wk PR GG x64 c203 (initF 3 f1336) (litH m1311 10366) .ret (initF 3 f1341) (litH m1311 10366) := Wk.piece selfX_ok p1342
theorem w1344 : Wk PR GG x64 c201 (initF 3 f1304) (litH m1305 10364) .ret (initF 3 f1341) (litH m1311 10366) := Wk.seqC ec201 w1340 w1343
theorem w1345 : Wk PR GG x64 c197 (initF 3 f1302) (litH m1303 10138) .ret (initF 3 f1341) (litH m1311 10366) := Wk.pieceC selfX_ok 14 p1306 w1344
theorem k1346 : CW PR GG 64 f1302 (litH m1303 10138) (tu [(y 1), (s 10364 0 3 3), (i 0)]) (litH m1311 10366) := Wk.cw Tryz.func64 ec197 (N := 101) (D := 3) (by kernel_rfl) (by kernel_rfl) (by kernel_rfl) w1345 (.inr rfl) (by kernel_rfl)
theorem w1351 : Wk PR GG x426 c193 (initF 2 f1299) (litH m1300 10136) .norm (initF 2 f1348) (litH m1349 10366) := Wk.memo mixed spX_okS selfX_ok (AllW.cons k1346 AllW.nil) p1350
theorem w1354 : Wk PR GG x426 c194 (initF 2 f1348) (litH m1349 10366) .ret (initF 2 f1352) (litH m1349 10366) := Wk.piece selfX_ok p1353
theorem w1355 : Wk PR GG x426 c192 (initF 2 f1299) (litH m1300 10136) .ret (initF 2 f1352) (litH m1349 10366) := Wk.seqC ec192 w1351 w1354
theorem w1356 : Wk PR GG x426 c188 (initF 2 f1297) (litH m1294 10131) .ret (initF 2 f1352) (litH m1349 10366) := Wk.pieceC selfX_ok 2 p1301 w1355
theorem k1357 : CW PR GG 426 f1297 (litH m1294 10131) tt (litH m1349 10366) := Wk.cw Tryz.func426 ec188 (N := 57) (D := 2) (by kernel_rfl) (by kernel_rfl) (by kernel_rfl) w1356 (.inr rfl) (by kernel_rfl)
theorem w1362 : WkI PR GG x417 c183 4 (initF 3 f1358) (litH m1294 10366) (initF 3 f1360) (litH m1294 10366) := WkI.fin (comp_ok _) spX_okS selfX_ok p1361
theorem w1363 : WkI PR GG x417 c183 0 (initF 3 f1293) (litH m1294 10131) (initF 3 f1360) (litH m1294 10366) := WkI.call (comp_ok _) spX_okS selfX_ok 0 3 p1298 k1357 p1359 w1362
theorem w1364 : Wk PR GG x417 c183 (initF 3 f1293) (litH m1294 10131) .norm (initF 3 f1360) (litH m1294 10366) := Wk.ofI (by kernel_rfl) w1363
def L1389q : Ex → F8 → AH → Prop := fun e F' H' => (e = .norm ∨ e = .ret) ∧ ∃ H2, resV PR 3 71 F' H' Tryz.f110.results.toList = .ok (tu [(s 10628 0 3 3), (i 0)]) H2 ∧ has H2 m1390 10630 = true
def L1389q1 : Ex → F8 → AH → Prop := fun e F1 H1 => e = .norm ∧ WkQ PR GG x110 c213 F1 H1 L1389q
def L1389qB : Ex → F8 → AH → Prop := fun e F1 H1 => (e = .norm ∨ e = .exit 0) ∧ L1389q1 .norm F1 H1
theorem w1401 : WkQ PR GG x110 c213 (initF 3 f1396) (litH m1394 10630) L1389q := (Wk.piece selfX_ok p1399).q ⟨.inr rfl, resHas_eq p1400⟩
theorem w1403 : WkQ PR GG x110 c218 (initF 3 f1393) (litH m1394 10630) L1389qB := by
    refine WkQ.loop ec218 (WkQ.seq ec219 (WkQ.next spX_okS selfX_ok p1402 ?_))
    intro y hy
    simp only [List.mem_cons, List.not_mem_nil, or_false] at hy
    rcases hy with rfl
    · exact ⟨rfl, (Wk.piece selfX_ok p1397).q ⟨.inr rfl, rfl, w1401⟩⟩
theorem w1405 : WkQ PR GG x110 c218 (initF 3 f1386) (litH m1387 10630) L1389qB := by
    refine WkQ.loop ec218 (WkQ.seq ec219 (WkQ.next spX_okS selfX_ok p1404 ?_))
    intro y hy
    simp only [List.mem_cons, List.not_mem_nil, or_false] at hy
    rcases hy with rfl
    · exact ⟨rfl, (Wk.piece selfX_ok p1395).q w1403⟩
theorem w1406 : WkQ PR GG x110 c211 (initF 3 f1383) (litH m1384 10629) L1389q := WkQ.seq ec211 (WkQ.pieceC selfX_ok 1 p1388 (WkQ.block ec217 w1405))
theorem w1407 : WkQ PR GG x110 c207 (initF 3 f1381) (litH m1378 10628) L1389q := WkQ.pieceC selfX_ok 4 p1385 w1406
theorem k1408 : CW PR GG 110 f1381 (litH m1378 10628) (tu [(s 10628 0 3 3), (i 0)]) (litH m1390 10630) := WkQ.cw Tryz.func110 ec207 (N := 71) (D := 3) (by kernel_rfl) (by kernel_rfl) (by kernel_rfl) w1407
theorem w1413 : WkI PR GG x64 c202 5 (initF 3 f1409) (litH m1390 10630) (initF 3 f1411) (litH m1390 10630) := WkI.fin (comp_ok _) spX_okS selfX_ok p1412
theorem w1414 : WkI PR GG x64 c202 0 (initF 3 f1377) (litH m1378 10628) (initF 3 f1411) (litH m1390 10630) := WkI.call (comp_ok _) spX_okS selfX_ok 0 4 p1382 k1408 p1410 w1413
theorem w1415 : Wk PR GG x64 c202 (initF 3 f1377) (litH m1378 10628) .norm (initF 3 f1411) (litH m1390 10630) := Wk.ofI (by kernel_rfl) w1414
theorem w1418 : Wk PR GG x64 c203 (initF 3 f1411) (litH m1390 10630) .ret (initF 3 f1416) (litH m1390 10630) := Wk.piece selfX_ok p1417
theorem w1419 : Wk PR GG x64 c201 (initF 3 f1377) (litH m1378 10628) .ret (initF 3 f1416) (litH m1390 10630) := Wk.seqC ec201 w1415 w1418
theorem w1420 : Wk PR GG x64 c197 (initF 3 f1375) (litH m1376 10373) .ret (initF 3 f1416) (litH m1390 10630) := Wk.pieceC selfX_ok 14 p1379 w1419
theorem k1421 : CW PR GG 64 f1375 (litH m1376 10373) (tu [(y 1), (s 10628 0 3 3), (i 0)]) (litH m1390 10630) := Wk.cw Tryz.func64 ec197 (N := 101) (D := 3) (by kernel_rfl) (by kernel_rfl) (by kernel_rfl) w1420 (.inr rfl) (by kernel_rfl)
theorem w1426 : Wk PR GG x426 c193 (initF 2 f1372) (litH m1373 10371) .norm (initF 2 f1423) (litH m1424 10630) := Wk.memo mixed spX_okS selfX_ok (AllW.cons k1421 AllW.nil) p1425
theorem w1429 : Wk PR GG x426 c194 (initF 2 f1423) (litH m1424 10630) .ret (initF 2 f1427) (litH m1424 10630) := Wk.piece selfX_ok p1428
theorem w1430 : Wk PR GG x426 c192 (initF 2 f1372) (litH m1373 10371) .ret (initF 2 f1427) (litH m1424 10630) := Wk.seqC ec192 w1426 w1429
theorem w1431 : Wk PR GG x426 c188 (initF 2 f1370) (litH m1294 10366) .ret (initF 2 f1427) (litH m1424 10630) := Wk.pieceC selfX_ok 2 p1374 w1430
theorem k1432 : CW PR GG 426 f1370 (litH m1294 10366) tt (litH m1424 10630) := Wk.cw Tryz.func426 ec188 (N := 57) (D := 2) (by kernel_rfl) (by kernel_rfl) (by kernel_rfl) w1431 (.inr rfl) (by kernel_rfl)
theorem w1437 : WkI PR GG x417 c279 4 (initF 3 f1433) (litH m1294 10630) (initF 3 f1435) (litH m1294 10630) := WkI.fin (comp_ok _) spX_okS selfX_ok p1436
theorem w1438 : WkI PR GG x417 c279 0 (initF 3 f1367) (litH m1294 10366) (initF 3 f1435) (litH m1294 10630) := WkI.call (comp_ok _) spX_okS selfX_ok 0 3 p1371 k1432 p1434 w1437
theorem w1439 : Wk PR GG x417 c279 (initF 3 f1367) (litH m1294 10366) .norm (initF 3 f1435) (litH m1294 10630) := Wk.ofI (by kernel_rfl) w1438
theorem w1440 : Wk PR GG x417 c278 (initF 3 f1367) (litH m1294 10366) .norm (initF 3 f1435) (litH m1294 10630) := Wk.condT (by kernel_rfl) w1439
theorem w1441 : Wk PR GG x417 c274 (initF 3 f1365) (litH m1294 10366) .norm (initF 3 f1435) (litH m1294 10630) := Wk.pieceC selfX_ok 1 p1368 w1440
theorem w1445 : Wk PR GG x417 c275 (initF 3 f1435) (litH m1294 10630) .norm (initF 3 f1442) (litH m1443 10663) := Wk.piece selfX_ok p1444
theorem w1446 : Wk PR GG x417 c273 (initF 3 f1365) (litH m1294 10366) .norm (initF 3 f1442) (litH m1443 10663) := Wk.seqC ec273 w1441 w1445
theorem w1447 : Wk PR GG x417 c184 (initF 3 f1360) (litH m1294 10366) .norm (initF 3 f1442) (litH m1443 10663) := Wk.pieceC selfX_ok 2 p1366 w1446
theorem w1448 : Wk PR GG x417 c182 (initF 3 f1293) (litH m1294 10131) .norm (initF 3 f1442) (litH m1443 10663) := Wk.seqC ec182 w1364 w1447
theorem w1449 : Wk PR GG x417 c178 (initF 3 f1291) (litH m1288 10048) .norm (initF 3 f1442) (litH m1443 10663) := Wk.pieceC selfX_ok 5 p1295 w1448
theorem k1450 : CW PR GG 417 f1291 (litH m1288 10048) un (litH m1443 10663) := Wk.cw Tryz.func417 ec178 (N := 73) (D := 3) (by kernel_rfl) (by kernel_rfl) (by kernel_rfl) w1449 (.inl rfl) (by kernel_rfl)
theorem w1454 : WkI PR GG x407 c173 7 (initF 2 f1290) (litH m1451 10663) (initF 2 f1290) (litH m1451 10663) := WkI.fin (comp_ok _) spX_okS selfX_ok p1453
theorem w1455 : WkI PR GG x407 c173 0 (initF 2 f1287) (litH m1288 10048) (initF 2 f1290) (litH m1451 10663) := WkI.call (comp_ok _) spX_okS selfX_ok 0 6 p1292 k1450 p1452 w1454
theorem w1456 : Wk PR GG x407 c173 (initF 2 f1287) (litH m1288 10048) .norm (initF 2 f1290) (litH m1451 10663) := Wk.ofI (by kernel_rfl) w1455
theorem w1458 : Wk PR GG x407 c174 (initF 2 f1290) (litH m1451 10663) .ret (initF 2 f1290) (litH m1451 10663) := Wk.piece selfX_ok p1457
theorem w1459 : Wk PR GG x407 c172 (initF 2 f1287) (litH m1288 10048) .ret (initF 2 f1290) (litH m1451 10663) := Wk.seqC ec172 w1456 w1458
theorem w1460 : Wk PR GG x407 c168 (initF 2 f1285) (litH m1284 9965) .ret (initF 2 f1290) (litH m1451 10663) := Wk.pieceC selfX_ok 7 p1289 w1459
theorem k1461 : CW PR GG 407 f1285 (litH m1284 9965) ff (litH m1451 10663) := Wk.cw Tryz.func407 ec168 (N := 56) (D := 2) (by kernel_rfl) (by kernel_rfl) (by kernel_rfl) w1460 (.inr rfl) (by kernel_rfl)
theorem w1465 : WkI PR GG x22 c162 7 (initF 3 f1283) (litH m1462 10663) (initF 3 f1283) (litH m1462 10663) := WkI.fin (comp_ok _) spX_okS selfX_ok p1464
theorem w1466 : WkI PR GG x22 c162 0 (initF 3 f1280) (litH m1281 9965) (initF 3 f1283) (litH m1462 10663) := WkI.call (comp_ok _) spX_okS selfX_ok 0 6 p1286 k1461 p1463 w1465
theorem w1467 : Wk PR GG x22 c162 (initF 3 f1280) (litH m1281 9965) .norm (initF 3 f1283) (litH m1462 10663) := Wk.ofI (by kernel_rfl) w1466
theorem w1469 : Wk PR GG x22 c163 (initF 3 f1283) (litH m1462 10663) (.exit 1) (initF 3 f1283) (litH m1462 10663) := Wk.piece selfX_ok p1468
theorem w1470 : Wk PR GG x22 c161 (initF 3 f1280) (litH m1281 9965) (.exit 1) (initF 3 f1283) (litH m1462 10663) := Wk.seqC ec161 w1467 w1469
theorem w1471 : Wk PR GG x22 c157 (initF 3 f1278) (litH m1274 9964) (.exit 1) (initF 3 f1283) (litH m1462 10663) := Wk.pieceC selfX_ok 2 p1282 w1470
theorem w1472 : Wk PR GG x22 c156 (initF 3 f1278) (litH m1274 9964) (.exit 1) (initF 3 f1283) (litH m1462 10663) := Wk.condF (by kernel_rfl) w1471
theorem w1473 : Wk PR GG x22 c153 (initF 3 f1276) (litH m1274 9964) (.exit 1) (initF 3 f1283) (litH m1462 10663) := Wk.pieceC selfX_ok 1 p1279 w1472
theorem w1474 : Wk PR GG x22 c152 (initF 3 f1276) (litH m1274 9964) (.exit 1) (initF 3 f1283) (litH m1462 10663) := Wk.condF (by kernel_rfl) w1473
theorem w1475 : Wk PR GG x22 c149 (initF 3 f1273) (litH m1274 9964) (.exit 1) (initF 3 f1283) (litH m1462 10663) := Wk.pieceC selfX_ok 1 p1277 w1474
theorem w1476 : Wk PR GG x22 c147 (initF 3 f1273) (litH m1274 9964) (.exit 1) (initF 3 f1283) (litH m1462 10663) := Wk.blockP ec147 (by decide) w1475
theorem w1477 : Wk PR GG x22 c146 (initF 3 f1273) (litH m1274 9964) (.exit 1) (initF 3 f1283) (litH m1462 10663) := Wk.seqO ec146 (fun h => h) w1476
theorem w1478 : Wk PR GG x22 c142 (initF 3 f1269) (litH m1270 9963) (.exit 1) (initF 3 f1283) (litH m1462 10663) := Wk.pieceC selfX_ok 2 p1275 w1477
theorem w1479 : Wk PR GG x22 c141 (initF 3 f1269) (litH m1270 9963) .norm (initF 3 f1283) (litH m1462 10663) := Wk.blockE ec141 w1478
theorem w1480 : Wk PR GG x22 c136 (initF 3 f1269) (litH m1270 9963) .norm (initF 3 f1283) (litH m1462 10663) := Wk.pieceC selfX_ok 1 p1272 w1479
theorem w1484 : Wk PR GG x22 c135 (initF 3 f1283) (litH m1462 10663) (.exit 0) (initF 3 f1481) (litH m1482 10693) := Wk.piece selfX_ok p1483
theorem w1485 : Wk PR GG x22 c135 (initF 3 f1269) (litH m1270 9963) (.exit 0) (initF 3 f1481) (litH m1482 10693) := Wk.loopC ec135 w1480 w1484
theorem w1486 : Wk PR GG x22 c135 (initF 3 f1266) (litH m1267 9865) (.exit 0) (initF 3 f1481) (litH m1482 10693) := Wk.rounds selfX_ok ec135 p1271 w1485
theorem w1487 : Wk PR GG x22 c133 (initF 3 f1266) (litH m1267 9865) .norm (initF 3 f1481) (litH m1482 10693) := Wk.blockE ec133 w1486
theorem w1490 : Wk PR GG x22 c134 (initF 3 f1481) (litH m1482 10693) .ret (initF 3 f1488) (litH m1482 10693) := Wk.piece selfX_ok p1489
theorem w1491 : Wk PR GG x22 c132 (initF 3 f1266) (litH m1267 9865) .ret (initF 3 f1488) (litH m1482 10693) := Wk.seqC ec132 w1487 w1490
theorem w1492 : Wk PR GG x22 c128 (initF 3 f1263) (litH m1264 9732) .ret (initF 3 f1488) (litH m1482 10693) := Wk.pieceC selfX_ok 8 p1268 w1491
theorem w1493 : Wk PR GG x22 c127 (initF 3 f1263) (litH m1264 9732) .ret (initF 3 f1488) (litH m1482 10693) := Wk.scopeP ec127 (fun h => h) w1492
theorem w1494 : Wk PR GG x22 c123 (initF 3 f1261) (litH m1262 9731) .ret (initF 3 f1488) (litH m1482 10693) := Wk.pieceC selfX_ok 1 p1265 w1493
theorem k1495 : CW PR GG 22 f1261 (litH m1262 9731) (tu [(sc 10692 0 2 8 2), (y 0), (i 0)]) (litH m1482 10693) := Wk.cw Tryz.func22 ec123 (N := 178) (D := 3) (by kernel_rfl) (by kernel_rfl) (by kernel_rfl) w1494 (.inr rfl) (by kernel_rfl)
theorem k1498 : CW PR GG 6 f1252 (litH m1251 9562) (tu [(ag [(y 0), (y 0), (i 0), (s0 0 0), (s0 0 0), ff, ff, (i 0), (i 0), (i 0)]), (i 0)]) (litH m1251 10802) := CW.memo mixed spX_okS selfX_ok (AllW.cons k1259 (AllW.cons k1495 AllW.nil)) p1497
theorem w1504 : WkI PR GG x10 c1248 3 (initF 2 f1499) (litH m1251 10802) (initF 2 f1501) (litH m1502 10803) := WkI.fin (comp_ok _) spX_okS selfX_ok p1503
theorem w1505 : WkI PR GG x10 c1248 0 (initF 2 f1245) (litH m1235 9552) (initF 2 f1501) (litH m1502 10803) := WkI.call (comp_ok _) spX_okS selfX_ok 0 2 p1253 k1498 p1500 w1504
theorem w1506 : Wk PR GG x10 c1248 (initF 2 f1245) (litH m1235 9552) .norm (initF 2 f1501) (litH m1502 10803) := Wk.ofI (by kernel_rfl) w1505
theorem w1517 : Wk PR GG x18 c114 (initF 2 f1511) (litH m1513 10890) .ret (initF 2 f1514) (litH m1515 10977) := Wk.piece selfX_ok p1516
theorem k1518 : CW PR GG 18 f1511 (litH m1513 10890) (tu [(q 10976 2), (s0 0 0), (i 0)]) (litH m1515 10977) := Wk.cw Tryz.func18 ec114 (N := 43) (D := 2) (by kernel_rfl) (by kernel_rfl) (by kernel_rfl) w1517 (.inr rfl) (by kernel_rfl)
def L1575q : Ex → F8 → AH → Prop := fun e F' H' => (e = .norm ∨ e = .ret) ∧ ∃ H2, resV PR 3 71 F' H' Tryz.f110.results.toList = .ok (tu [(s 11615 0 3 3), (i 0)]) H2 ∧ has H2 m1570 11617 = true
def L1575q1 : Ex → F8 → AH → Prop := fun e F1 H1 => e = .norm ∧ WkQ PR GG x110 c213 F1 H1 L1575q
def L1575qB : Ex → F8 → AH → Prop := fun e F1 H1 => (e = .norm ∨ e = .exit 0) ∧ L1575q1 .norm F1 H1
theorem w1585 : WkQ PR GG x110 c213 (initF 3 f1580) (litH m1577 11617) L1575q := (Wk.piece selfX_ok p1583).q ⟨.inr rfl, resHas_eq p1584⟩
theorem w1587 : WkQ PR GG x110 c218 (initF 3 f1578) (litH m1577 11617) L1575qB := by
    refine WkQ.loop ec218 (WkQ.seq ec219 (WkQ.next spX_okS selfX_ok p1586 ?_))
    intro y hy
    simp only [List.mem_cons, List.not_mem_nil, or_false] at hy
    rcases hy with rfl
    · exact ⟨rfl, (Wk.piece selfX_ok p1581).q ⟨.inr rfl, rfl, w1585⟩⟩
theorem w1589 : WkQ PR GG x110 c218 (initF 3 f1572) (litH m1573 11617) L1575qB := by
    refine WkQ.loop ec218 (WkQ.seq ec219 (WkQ.next spX_okS selfX_ok p1588 ?_))
    intro y hy
    simp only [List.mem_cons, List.not_mem_nil, or_false] at hy
    rcases hy with rfl
    · exact ⟨rfl, (Wk.piece selfX_ok p1579).q w1587⟩
theorem w1590 : WkQ PR GG x110 c211 (initF 3 f1569) (litH m1570 11616) L1575q := WkQ.seq ec211 (WkQ.pieceC selfX_ok 1 p1574 (WkQ.block ec217 w1589))
theorem w1591 : WkQ PR GG x110 c207 (initF 3 f1567) (litH m1564 11615) L1575q := WkQ.pieceC selfX_ok 4 p1571 w1590
theorem k1592 : CW PR GG 110 f1567 (litH m1564 11615) (tu [(s 11615 0 3 3), (i 0)]) (litH m1570 11617) := WkQ.cw Tryz.func110 ec207 (N := 71) (D := 3) (by kernel_rfl) (by kernel_rfl) (by kernel_rfl) w1591
theorem w1597 : WkI PR GG x64 c202 5 (initF 3 f1593) (litH m1570 11617) (initF 3 f1595) (litH m1570 11617) := WkI.fin (comp_ok _) spX_okS selfX_ok p1596
theorem w1598 : WkI PR GG x64 c202 0 (initF 3 f1563) (litH m1564 11615) (initF 3 f1595) (litH m1570 11617) := WkI.call (comp_ok _) spX_okS selfX_ok 0 4 p1568 k1592 p1594 w1597
theorem w1599 : Wk PR GG x64 c202 (initF 3 f1563) (litH m1564 11615) .norm (initF 3 f1595) (litH m1570 11617) := Wk.ofI (by kernel_rfl) w1598
theorem w1602 : Wk PR GG x64 c203 (initF 3 f1595) (litH m1570 11617) .ret (initF 3 f1600) (litH m1570 11617) := Wk.piece selfX_ok p1601
theorem w1603 : Wk PR GG x64 c201 (initF 3 f1563) (litH m1564 11615) .ret (initF 3 f1600) (litH m1570 11617) := Wk.seqC ec201 w1599 w1602
theorem w1604 : Wk PR GG x64 c197 (initF 3 f1561) (litH m1562 11389) .ret (initF 3 f1600) (litH m1570 11617) := Wk.pieceC selfX_ok 14 p1565 w1603
theorem k1605 : CW PR GG 64 f1561 (litH m1562 11389) (tu [(y 1), (s 11615 0 3 3), (i 0)]) (litH m1570 11617) := Wk.cw Tryz.func64 ec197 (N := 101) (D := 3) (by kernel_rfl) (by kernel_rfl) (by kernel_rfl) w1604 (.inr rfl) (by kernel_rfl)
theorem w1610 : Wk PR GG x426 c193 (initF 2 f1558) (litH m1559 11387) .norm (initF 2 f1607) (litH m1608 11617) := Wk.memo mixed spX_okS selfX_ok (AllW.cons k1605 AllW.nil) p1609
theorem w1613 : Wk PR GG x426 c194 (initF 2 f1607) (litH m1608 11617) .ret (initF 2 f1611) (litH m1608 11617) := Wk.piece selfX_ok p1612
theorem w1614 : Wk PR GG x426 c192 (initF 2 f1558) (litH m1559 11387) .ret (initF 2 f1611) (litH m1608 11617) := Wk.seqC ec192 w1610 w1613
theorem w1615 : Wk PR GG x426 c188 (initF 2 f1556) (litH m1553 11382) .ret (initF 2 f1611) (litH m1608 11617) := Wk.pieceC selfX_ok 2 p1560 w1614
theorem k1616 : CW PR GG 426 f1556 (litH m1553 11382) tt (litH m1608 11617) := Wk.cw Tryz.func426 ec188 (N := 57) (D := 2) (by kernel_rfl) (by kernel_rfl) (by kernel_rfl) w1615 (.inr rfl) (by kernel_rfl)
theorem w1621 : WkI PR GG x417 c183 4 (initF 3 f1617) (litH m1553 11617) (initF 3 f1619) (litH m1553 11617) := WkI.fin (comp_ok _) spX_okS selfX_ok p1620
theorem w1622 : WkI PR GG x417 c183 0 (initF 3 f1552) (litH m1553 11382) (initF 3 f1619) (litH m1553 11617) := WkI.call (comp_ok _) spX_okS selfX_ok 0 3 p1557 k1616 p1618 w1621
theorem w1623 : Wk PR GG x417 c183 (initF 3 f1552) (litH m1553 11382) .norm (initF 3 f1619) (litH m1553 11617) := Wk.ofI (by kernel_rfl) w1622
def L1648q : Ex → F8 → AH → Prop := fun e F' H' => (e = .norm ∨ e = .ret) ∧ ∃ H2, resV PR 3 71 F' H' Tryz.f110.results.toList = .ok (tu [(s 11879 0 3 3), (i 0)]) H2 ∧ has H2 m1649 11881 = true
def L1648q1 : Ex → F8 → AH → Prop := fun e F1 H1 => e = .norm ∧ WkQ PR GG x110 c213 F1 H1 L1648q
def L1648qB : Ex → F8 → AH → Prop := fun e F1 H1 => (e = .norm ∨ e = .exit 0) ∧ L1648q1 .norm F1 H1
theorem w1660 : WkQ PR GG x110 c213 (initF 3 f1655) (litH m1653 11881) L1648q := (Wk.piece selfX_ok p1658).q ⟨.inr rfl, resHas_eq p1659⟩
theorem w1662 : WkQ PR GG x110 c218 (initF 3 f1652) (litH m1653 11881) L1648qB := by
    refine WkQ.loop ec218 (WkQ.seq ec219 (WkQ.next spX_okS selfX_ok p1661 ?_))
    intro y hy
    simp only [List.mem_cons, List.not_mem_nil, or_false] at hy
    rcases hy with rfl
    · exact ⟨rfl, (Wk.piece selfX_ok p1656).q ⟨.inr rfl, rfl, w1660⟩⟩
theorem w1664 : WkQ PR GG x110 c218 (initF 3 f1645) (litH m1646 11881) L1648qB := by
    refine WkQ.loop ec218 (WkQ.seq ec219 (WkQ.next spX_okS selfX_ok p1663 ?_))
    intro y hy
    simp only [List.mem_cons, List.not_mem_nil, or_false] at hy
    rcases hy with rfl
    · exact ⟨rfl, (Wk.piece selfX_ok p1654).q w1662⟩
theorem w1665 : WkQ PR GG x110 c211 (initF 3 f1642) (litH m1643 11880) L1648q := WkQ.seq ec211 (WkQ.pieceC selfX_ok 1 p1647 (WkQ.block ec217 w1664))
theorem w1666 : WkQ PR GG x110 c207 (initF 3 f1640) (litH m1637 11879) L1648q := WkQ.pieceC selfX_ok 4 p1644 w1665
theorem k1667 : CW PR GG 110 f1640 (litH m1637 11879) (tu [(s 11879 0 3 3), (i 0)]) (litH m1649 11881) := WkQ.cw Tryz.func110 ec207 (N := 71) (D := 3) (by kernel_rfl) (by kernel_rfl) (by kernel_rfl) w1666
theorem w1672 : WkI PR GG x64 c202 5 (initF 3 f1668) (litH m1649 11881) (initF 3 f1670) (litH m1649 11881) := WkI.fin (comp_ok _) spX_okS selfX_ok p1671
theorem w1673 : WkI PR GG x64 c202 0 (initF 3 f1636) (litH m1637 11879) (initF 3 f1670) (litH m1649 11881) := WkI.call (comp_ok _) spX_okS selfX_ok 0 4 p1641 k1667 p1669 w1672
theorem w1674 : Wk PR GG x64 c202 (initF 3 f1636) (litH m1637 11879) .norm (initF 3 f1670) (litH m1649 11881) := Wk.ofI (by kernel_rfl) w1673
theorem w1677 : Wk PR GG x64 c203 (initF 3 f1670) (litH m1649 11881) .ret (initF 3 f1675) (litH m1649 11881) := Wk.piece selfX_ok p1676
theorem w1678 : Wk PR GG x64 c201 (initF 3 f1636) (litH m1637 11879) .ret (initF 3 f1675) (litH m1649 11881) := Wk.seqC ec201 w1674 w1677
theorem w1679 : Wk PR GG x64 c197 (initF 3 f1634) (litH m1635 11624) .ret (initF 3 f1675) (litH m1649 11881) := Wk.pieceC selfX_ok 14 p1638 w1678
theorem k1680 : CW PR GG 64 f1634 (litH m1635 11624) (tu [(y 1), (s 11879 0 3 3), (i 0)]) (litH m1649 11881) := Wk.cw Tryz.func64 ec197 (N := 101) (D := 3) (by kernel_rfl) (by kernel_rfl) (by kernel_rfl) w1679 (.inr rfl) (by kernel_rfl)
theorem w1685 : Wk PR GG x426 c193 (initF 2 f1631) (litH m1632 11622) .norm (initF 2 f1682) (litH m1683 11881) := Wk.memo mixed spX_okS selfX_ok (AllW.cons k1680 AllW.nil) p1684
theorem w1688 : Wk PR GG x426 c194 (initF 2 f1682) (litH m1683 11881) .ret (initF 2 f1686) (litH m1683 11881) := Wk.piece selfX_ok p1687
theorem w1689 : Wk PR GG x426 c192 (initF 2 f1631) (litH m1632 11622) .ret (initF 2 f1686) (litH m1683 11881) := Wk.seqC ec192 w1685 w1688
theorem w1690 : Wk PR GG x426 c188 (initF 2 f1629) (litH m1553 11617) .ret (initF 2 f1686) (litH m1683 11881) := Wk.pieceC selfX_ok 2 p1633 w1689
theorem k1691 : CW PR GG 426 f1629 (litH m1553 11617) tt (litH m1683 11881) := Wk.cw Tryz.func426 ec188 (N := 57) (D := 2) (by kernel_rfl) (by kernel_rfl) (by kernel_rfl) w1690 (.inr rfl) (by kernel_rfl)
theorem w1696 : WkI PR GG x417 c279 4 (initF 3 f1692) (litH m1553 11881) (initF 3 f1694) (litH m1553 11881) := WkI.fin (comp_ok _) spX_okS selfX_ok p1695
theorem w1697 : WkI PR GG x417 c279 0 (initF 3 f1626) (litH m1553 11617) (initF 3 f1694) (litH m1553 11881) := WkI.call (comp_ok _) spX_okS selfX_ok 0 3 p1630 k1691 p1693 w1696
theorem w1698 : Wk PR GG x417 c279 (initF 3 f1626) (litH m1553 11617) .norm (initF 3 f1694) (litH m1553 11881) := Wk.ofI (by kernel_rfl) w1697
theorem w1699 : Wk PR GG x417 c278 (initF 3 f1626) (litH m1553 11617) .norm (initF 3 f1694) (litH m1553 11881) := Wk.condT (by kernel_rfl) w1698
theorem w1700 : Wk PR GG x417 c274 (initF 3 f1624) (litH m1553 11617) .norm (initF 3 f1694) (litH m1553 11881) := Wk.pieceC selfX_ok 1 p1627 w1699
theorem w1704 : Wk PR GG x417 c275 (initF 3 f1694) (litH m1553 11881) .norm (initF 3 f1701) (litH m1702 11914) := Wk.piece selfX_ok p1703
theorem w1705 : Wk PR GG x417 c273 (initF 3 f1624) (litH m1553 11617) .norm (initF 3 f1701) (litH m1702 11914) := Wk.seqC ec273 w1700 w1704
theorem w1706 : Wk PR GG x417 c184 (initF 3 f1619) (litH m1553 11617) .norm (initF 3 f1701) (litH m1702 11914) := Wk.pieceC selfX_ok 2 p1625 w1705
theorem w1707 : Wk PR GG x417 c182 (initF 3 f1552) (litH m1553 11382) .norm (initF 3 f1701) (litH m1702 11914) := Wk.seqC ec182 w1623 w1706
theorem w1708 : Wk PR GG x417 c178 (initF 3 f1550) (litH m1547 11299) .norm (initF 3 f1701) (litH m1702 11914) := Wk.pieceC selfX_ok 5 p1554 w1707
theorem k1709 : CW PR GG 417 f1550 (litH m1547 11299) un (litH m1702 11914) := Wk.cw Tryz.func417 ec178 (N := 73) (D := 3) (by kernel_rfl) (by kernel_rfl) (by kernel_rfl) w1708 (.inl rfl) (by kernel_rfl)
theorem w1713 : WkI PR GG x407 c173 7 (initF 2 f1549) (litH m1710 11914) (initF 2 f1549) (litH m1710 11914) := WkI.fin (comp_ok _) spX_okS selfX_ok p1712
theorem w1714 : WkI PR GG x407 c173 0 (initF 2 f1546) (litH m1547 11299) (initF 2 f1549) (litH m1710 11914) := WkI.call (comp_ok _) spX_okS selfX_ok 0 6 p1551 k1709 p1711 w1713
theorem w1715 : Wk PR GG x407 c173 (initF 2 f1546) (litH m1547 11299) .norm (initF 2 f1549) (litH m1710 11914) := Wk.ofI (by kernel_rfl) w1714
theorem w1717 : Wk PR GG x407 c174 (initF 2 f1549) (litH m1710 11914) .ret (initF 2 f1549) (litH m1710 11914) := Wk.piece selfX_ok p1716
theorem w1718 : Wk PR GG x407 c172 (initF 2 f1546) (litH m1547 11299) .ret (initF 2 f1549) (litH m1710 11914) := Wk.seqC ec172 w1715 w1717
theorem w1719 : Wk PR GG x407 c168 (initF 2 f1544) (litH m1543 11216) .ret (initF 2 f1549) (litH m1710 11914) := Wk.pieceC selfX_ok 7 p1548 w1718
theorem k1720 : CW PR GG 407 f1544 (litH m1543 11216) ff (litH m1710 11914) := Wk.cw Tryz.func407 ec168 (N := 56) (D := 2) (by kernel_rfl) (by kernel_rfl) (by kernel_rfl) w1719 (.inr rfl) (by kernel_rfl)
theorem w1724 : WkI PR GG x22 c162 7 (initF 3 f1542) (litH m1721 11914) (initF 3 f1542) (litH m1721 11914) := WkI.fin (comp_ok _) spX_okS selfX_ok p1723
theorem w1725 : WkI PR GG x22 c162 0 (initF 3 f1539) (litH m1540 11216) (initF 3 f1542) (litH m1721 11914) := WkI.call (comp_ok _) spX_okS selfX_ok 0 6 p1545 k1720 p1722 w1724
theorem w1726 : Wk PR GG x22 c162 (initF 3 f1539) (litH m1540 11216) .norm (initF 3 f1542) (litH m1721 11914) := Wk.ofI (by kernel_rfl) w1725
theorem w1728 : Wk PR GG x22 c163 (initF 3 f1542) (litH m1721 11914) (.exit 1) (initF 3 f1542) (litH m1721 11914) := Wk.piece selfX_ok p1727
theorem w1729 : Wk PR GG x22 c161 (initF 3 f1539) (litH m1540 11216) (.exit 1) (initF 3 f1542) (litH m1721 11914) := Wk.seqC ec161 w1726 w1728
theorem w1730 : Wk PR GG x22 c157 (initF 3 f1537) (litH m1533 11215) (.exit 1) (initF 3 f1542) (litH m1721 11914) := Wk.pieceC selfX_ok 2 p1541 w1729
theorem w1731 : Wk PR GG x22 c156 (initF 3 f1537) (litH m1533 11215) (.exit 1) (initF 3 f1542) (litH m1721 11914) := Wk.condF (by kernel_rfl) w1730
theorem w1732 : Wk PR GG x22 c153 (initF 3 f1535) (litH m1533 11215) (.exit 1) (initF 3 f1542) (litH m1721 11914) := Wk.pieceC selfX_ok 1 p1538 w1731
theorem w1733 : Wk PR GG x22 c152 (initF 3 f1535) (litH m1533 11215) (.exit 1) (initF 3 f1542) (litH m1721 11914) := Wk.condF (by kernel_rfl) w1732
theorem w1734 : Wk PR GG x22 c149 (initF 3 f1532) (litH m1533 11215) (.exit 1) (initF 3 f1542) (litH m1721 11914) := Wk.pieceC selfX_ok 1 p1536 w1733
theorem w1735 : Wk PR GG x22 c147 (initF 3 f1532) (litH m1533 11215) (.exit 1) (initF 3 f1542) (litH m1721 11914) := Wk.blockP ec147 (by decide) w1734
theorem w1736 : Wk PR GG x22 c146 (initF 3 f1532) (litH m1533 11215) (.exit 1) (initF 3 f1542) (litH m1721 11914) := Wk.seqO ec146 (fun h => h) w1735
theorem w1737 : Wk PR GG x22 c142 (initF 3 f1528) (litH m1529 11214) (.exit 1) (initF 3 f1542) (litH m1721 11914) := Wk.pieceC selfX_ok 2 p1534 w1736
theorem w1738 : Wk PR GG x22 c141 (initF 3 f1528) (litH m1529 11214) .norm (initF 3 f1542) (litH m1721 11914) := Wk.blockE ec141 w1737
theorem w1739 : Wk PR GG x22 c136 (initF 3 f1528) (litH m1529 11214) .norm (initF 3 f1542) (litH m1721 11914) := Wk.pieceC selfX_ok 1 p1531 w1738
theorem w1743 : Wk PR GG x22 c135 (initF 3 f1542) (litH m1721 11914) (.exit 0) (initF 3 f1740) (litH m1741 11944) := Wk.piece selfX_ok p1742
theorem w1744 : Wk PR GG x22 c135 (initF 3 f1528) (litH m1529 11214) (.exit 0) (initF 3 f1740) (litH m1741 11944) := Wk.loopC ec135 w1739 w1743
theorem w1745 : Wk PR GG x22 c135 (initF 3 f1525) (litH m1526 11116) (.exit 0) (initF 3 f1740) (litH m1741 11944) := Wk.rounds selfX_ok ec135 p1530 w1744
theorem w1746 : Wk PR GG x22 c133 (initF 3 f1525) (litH m1526 11116) .norm (initF 3 f1740) (litH m1741 11944) := Wk.blockE ec133 w1745
theorem w1749 : Wk PR GG x22 c134 (initF 3 f1740) (litH m1741 11944) .ret (initF 3 f1747) (litH m1741 11944) := Wk.piece selfX_ok p1748
theorem w1750 : Wk PR GG x22 c132 (initF 3 f1525) (litH m1526 11116) .ret (initF 3 f1747) (litH m1741 11944) := Wk.seqC ec132 w1746 w1749
theorem w1751 : Wk PR GG x22 c128 (initF 3 f1522) (litH m1523 10983) .ret (initF 3 f1747) (litH m1741 11944) := Wk.pieceC selfX_ok 8 p1527 w1750
theorem w1752 : Wk PR GG x22 c127 (initF 3 f1522) (litH m1523 10983) .ret (initF 3 f1747) (litH m1741 11944) := Wk.scopeP ec127 (fun h => h) w1751
theorem w1753 : Wk PR GG x22 c123 (initF 3 f1520) (litH m1521 10982) .ret (initF 3 f1747) (litH m1741 11944) := Wk.pieceC selfX_ok 1 p1524 w1752
theorem k1754 : CW PR GG 22 f1520 (litH m1521 10982) (tu [(sc 11943 0 2 8 2), (y 0), (i 0)]) (litH m1741 11944) := Wk.cw Tryz.func22 ec123 (N := 178) (D := 3) (by kernel_rfl) (by kernel_rfl) (by kernel_rfl) w1753 (.inr rfl) (by kernel_rfl)
theorem w1775 : Wk PR GG x104 c1771 (initF 3 f1768) (litH m1769 12508) .ret (initF 3 f1772) (litH m1773 13072) := Wk.piece selfX_ok p1774
theorem w1776 : Wk PR GG x104 c1767 (initF 3 f1766) (litH m1761 12015) .ret (initF 3 f1772) (litH m1773 13072) := Wk.pieceC selfX_ok 15 p1770 w1775
theorem k1777 : CW PR GG 104 f1766 (litH m1761 12015) (tu [(i 16), (i 0)]) (litH m1773 13072) := Wk.cw Tryz.func104 ec1767 (N := 184) (D := 3) (by kernel_rfl) (by kernel_rfl) (by kernel_rfl) w1776 (.inr rfl) (by kernel_rfl)
theorem w1782 : Wk PR GG x62 c1764 (initF 2 f1760) (litH m1761 12015) .norm (initF 2 f1779) (litH m1780 13072) := Wk.memo mixed spX_okS selfX_ok (AllW.cons k1777 AllW.nil) p1781
theorem w1785 : Wk PR GG x62 c1765 (initF 2 f1779) (litH m1780 13072) .ret (initF 2 f1783) (litH m1780 13072) := Wk.piece selfX_ok p1784
theorem w1786 : Wk PR GG x62 c1763 (initF 2 f1760) (litH m1761 12015) .ret (initF 2 f1783) (litH m1780 13072) := Wk.seqC ec1763 w1782 w1785
theorem w1787 : Wk PR GG x62 c693 (initF 2 f1758) (litH m1759 12014) .ret (initF 2 f1783) (litH m1780 13072) := Wk.pieceC selfX_ok 1 p1762 w1786
theorem k1788 : CW PR GG 62 f1758 (litH m1759 12014) (tu [(i 16), (i 0)]) (litH m1780 13072) := Wk.cw Tryz.func62 ec693 (N := 52) (D := 2) (by kernel_rfl) (by kernel_rfl) (by kernel_rfl) w1787 (.inr rfl) (by kernel_rfl)
def L1811q : Ex → F8 → AH → Prop := fun e F' H' => (e = .norm ∨ e = .ret) ∧ ∃ H2, resV PR 3 71 F' H' Tryz.f110.results.toList = .ok (tu [(s 13694 0 4 4), (i 0)]) H2 ∧ has H2 m1812 13696 = true
def L1811q1 : Ex → F8 → AH → Prop := fun e F1 H1 => e = .norm ∧ WkQ PR GG x110 c213 F1 H1 L1811q
def L1811qB : Ex → F8 → AH → Prop := fun e F1 H1 => (e = .norm ∨ e = .exit 0) ∧ L1811q1 .norm F1 H1
theorem w1827 : WkQ PR GG x110 c213 (initF 3 f1822) (litH m1820 13696) L1811q := (Wk.piece selfX_ok p1825).q ⟨.inr rfl, resHas_eq p1826⟩
theorem w1829 : WkQ PR GG x110 c218 (initF 3 f1819) (litH m1820 13696) L1811qB := by
    refine WkQ.loop ec218 (WkQ.seq ec219 (WkQ.next spX_okS selfX_ok p1828 ?_))
    intro y hy
    simp only [List.mem_cons, List.not_mem_nil, or_false] at hy
    rcases hy with rfl
    · exact ⟨rfl, (Wk.piece selfX_ok p1823).q ⟨.inr rfl, rfl, w1827⟩⟩
theorem w1831 : WkQ PR GG x110 c218 (initF 3 f1815) (litH m1814 13696) L1811qB := by
    refine WkQ.loop ec218 (WkQ.seq ec219 (WkQ.next spX_okS selfX_ok p1830 ?_))
    intro y hy
    simp only [List.mem_cons, List.not_mem_nil, or_false] at hy
    rcases hy with rfl
    · exact ⟨rfl, (Wk.piece selfX_ok p1821).q w1829⟩
theorem w1845 : WkQ PR GG x110 c213 (initF 3 f1840) (litH m1837 13696) L1811q := (Wk.piece selfX_ok p1843).q ⟨.inr rfl, resHas_eq p1844⟩
theorem w1847 : WkQ PR GG x110 c218 (initF 3 f1838) (litH m1837 13696) L1811qB := by
    refine WkQ.loop ec218 (WkQ.seq ec219 (WkQ.next spX_okS selfX_ok p1846 ?_))
    intro y hy
    simp only [List.mem_cons, List.not_mem_nil, or_false] at hy
    rcases hy with rfl
    · exact ⟨rfl, (Wk.piece selfX_ok p1841).q ⟨.inr rfl, rfl, w1845⟩⟩
theorem w1849 : WkQ PR GG x110 c218 (initF 3 f1819) (litH m1834 13696) L1811qB := by
    refine WkQ.loop ec218 (WkQ.seq ec219 (WkQ.next spX_okS selfX_ok p1848 ?_))
    intro y hy
    simp only [List.mem_cons, List.not_mem_nil, or_false] at hy
    rcases hy with rfl
    · exact ⟨rfl, (Wk.piece selfX_ok p1839).q w1847⟩
theorem w1851 : WkQ PR GG x110 c218 (initF 3 f1808) (litH m1809 13696) L1811qB := by
    refine WkQ.loop ec218 (WkQ.seq ec219 (WkQ.next spX_okS selfX_ok p1850 ?_))
    intro y hy
    simp only [List.mem_cons, List.not_mem_nil, or_false] at hy
    rcases hy with rfl | rfl
    · exact ⟨rfl, (Wk.piece selfX_ok p1816).q w1831⟩
    · exact ⟨rfl, (Wk.piece selfX_ok p1835).q w1849⟩
theorem w1852 : WkQ PR GG x110 c211 (initF 3 f1805) (litH m1806 13695) L1811q := WkQ.seq ec211 (WkQ.pieceC selfX_ok 1 p1810 (WkQ.block ec217 w1851))
theorem w1853 : WkQ PR GG x110 c207 (initF 3 f1803) (litH m1797 13694) L1811q := WkQ.pieceC selfX_ok 4 p1807 w1852
theorem k1854 : CW PR GG 110 f1803 (litH m1797 13694) (tu [(s 13694 0 4 4), (i 0)]) (litH m1812 13696) := WkQ.cw Tryz.func110 ec207 (N := 71) (D := 3) (by kernel_rfl) (by kernel_rfl) (by kernel_rfl) w1853
theorem w1859 : WkI PR GG x64 c1800 5 (initF 3 f1855) (litH m1812 13696) (initF 3 f1857) (litH m1812 13696) := WkI.fin (comp_ok _) spX_okS selfX_ok p1858
theorem w1860 : WkI PR GG x64 c1800 0 (initF 3 f1796) (litH m1797 13694) (initF 3 f1857) (litH m1812 13696) := WkI.call (comp_ok _) spX_okS selfX_ok 0 4 p1804 k1854 p1856 w1859
theorem w1861 : Wk PR GG x64 c1800 (initF 3 f1796) (litH m1797 13694) .norm (initF 3 f1857) (litH m1812 13696) := Wk.ofI (by kernel_rfl) w1860
theorem w1864 : Wk PR GG x64 c1801 (initF 3 f1857) (litH m1812 13696) .ret (initF 3 f1862) (litH m1812 13696) := Wk.piece selfX_ok p1863
theorem w1865 : Wk PR GG x64 c1799 (initF 3 f1796) (litH m1797 13694) .ret (initF 3 f1862) (litH m1812 13696) := Wk.seqC ec1799 w1861 w1864
theorem w1866 : Wk PR GG x64 c1795 (initF 3 f1792) (litH m1793 13527) .ret (initF 3 f1862) (litH m1812 13696) := Wk.pieceC selfX_ok 5 p1798 w1865
theorem w1867 : Wk PR GG x64 c197 (initF 3 f1790) (litH m1791 13073) .ret (initF 3 f1862) (litH m1812 13696) := Wk.pieceC selfX_ok 9 p1794 w1866
theorem k1868 : CW PR GG 64 f1790 (litH m1791 13073) (tu [(y 1), (s 13694 0 4 4), (i 0)]) (litH m1812 13696) := Wk.cw Tryz.func64 ec197 (N := 101) (D := 3) (by kernel_rfl) (by kernel_rfl) (by kernel_rfl) w1867 (.inr rfl) (by kernel_rfl)
theorem w1875 : Wk PR GG x67 c820 (initF 2 f1870) (litH m1871 13717) .ret (initF 2 f1872) (litH m1873 14403) := Wk.piece selfX_ok p1874
theorem k1876 : CW PR GG 67 f1870 (litH m1871 13717) (tu [(ag [(i 0), (q 14394 2), (q 14400 2), tt]), (i 0)]) (litH m1873 14403) := Wk.cw Tryz.func67 ec820 (N := 57) (D := 2) (by kernel_rfl) (by kernel_rfl) (by kernel_rfl) w1875 (.inr rfl) (by kernel_rfl)
theorem k1880 : CW PR GG 24 f1756 (litH m1757 11949) (tu [(ag [(i 0), (q 14394 2), (q 14400 2), tt]), tt]) (litH m1878 14403) := CW.memo mixed spX_okS selfX_ok (AllW.cons k1788 (AllW.cons k1868 (AllW.cons k1876 AllW.nil))) p1879
theorem k1884 : CW PR GG 6 f1511 (litH m1510 10813) (tu [(ag [(y 1), (y 0), (i 0), (q 14394 2), (q 14400 2), tt, ff, (i 0), (i 0), (i 0)]), (i 0)]) (litH m1882 14404) := CW.memo mixed spX_okS selfX_ok (AllW.cons k1518 (AllW.cons k1754 (AllW.cons k1880 AllW.nil))) p1883
theorem w1890 : WkI PR GG x10 c1507 3 (initF 2 f1885) (litH m1882 14404) (initF 2 f1887) (litH m1888 14405) := WkI.fin (comp_ok _) spX_okS selfX_ok p1889
theorem w1891 : WkI PR GG x10 c1507 0 (initF 2 f1501) (litH m1502 10803) (initF 2 f1887) (litH m1888 14405) := WkI.call (comp_ok _) spX_okS selfX_ok 0 2 p1512 k1884 p1886 w1890
theorem w1892 : Wk PR GG x10 c1507 (initF 2 f1501) (litH m1502 10803) .norm (initF 2 f1887) (litH m1888 14405) := Wk.ofI (by kernel_rfl) w1891
theorem w1895 : Wk PR GG x10 c1508 (initF 2 f1887) (litH m1888 14405) .ret (initF 2 f1893) (litH m1888 14409) := Wk.piece selfX_ok p1894
theorem w1896 : Wk PR GG x10 c1249 (initF 2 f1501) (litH m1502 10803) .ret (initF 2 f1893) (litH m1888 14409) := Wk.seqC ec1249 w1892 w1895
theorem w1897 : Wk PR GG x10 c1247 (initF 2 f1245) (litH m1235 9552) .ret (initF 2 f1893) (litH m1888 14409) := Wk.seqC ec1247 w1506 w1896
theorem w1898 : Wk PR GG x10 c1244 (initF 2 f0) (litH m1235 9552) .ret (initF 2 f1893) (litH m1888 14409) := Wk.pieceC selfX_ok 1 p1246 w1897
theorem k1899 : CW PR GG 10 f0 (litH m1235 9552) tt (litH m1888 14409) := Wk.cw Tryz.func10 ec1244 (N := 44) (D := 2) (by kernel_rfl) (by kernel_rfl) (by kernel_rfl) w1898 (.inr rfl) (by kernel_rfl)
theorem w1905 : WkI PR GG x3 c1240 21 (initF 3 f1900) (litH m1901 14409) (initF 3 f1903) (litH m1901 14409) := WkI.fin (comp_ok _) spX_okS selfX_ok p1904
theorem w1906 : WkI PR GG x3 c1240 0 (initF 3 f1233) (litH m1235 9552) (initF 3 f1903) (litH m1901 14409) := WkI.call (comp_ok _) spX_okS selfX_ok 0 20 p1243 k1899 p1902 w1905
theorem w1907 : Wk PR GG x3 c1240 (initF 3 f1233) (litH m1235 9552) .norm (initF 3 f1903) (litH m1901 14409) := Wk.ofI (by kernel_rfl) w1906
theorem w1909 : Wk PR GG x3 c1241 (initF 3 f1903) (litH m1901 14409) .ret (initF 3 f1903) (litH m1901 14409) := Wk.piece selfX_ok p1908
theorem w1910 : Wk PR GG x3 c1149 (initF 3 f1233) (litH m1235 9552) .ret (initF 3 f1903) (litH m1901 14409) := Wk.seqC ec1149 w1907 w1909
theorem w1911 : Wk PR GG x3 c1147 (initF 3 f1145) (litH m1140 8776) .ret (initF 3 f1903) (litH m1901 14409) := Wk.seqC ec1147 w1239 w1910
theorem w1912 : Wk PR GG x3 c1112 (initF 3 f1138) (litH m1140 8776) .ret (initF 3 f1903) (litH m1901 14409) := Wk.pieceC selfX_ok 1 p1146 w1911
theorem w1913 : Wk PR GG x3 c1110 (initF 3 f1108) (litH m1105 8773) .ret (initF 3 f1903) (litH m1901 14409) := Wk.seqC ec1110 w1144 w1912
theorem w1914 : Wk PR GG x3 c855 (initF 3 f1104) (litH m1105 8769) .ret (initF 3 f1903) (litH m1901 14409) := Wk.pieceC selfX_ok 1 p1109 w1913
theorem w1915 : Wk PR GG x3 c853 (initF 3 f850) (litH m851 7634) .ret (initF 3 f1903) (litH m1901 14409) := Wk.seqC ec853 w1107 w1914
theorem w1916 : Wk PR GG x3 c849 (initF 3 f846) (litH m847 7630) .ret (initF 3 f1903) (litH m1901 14409) := Wk.pieceC selfX_ok 2 p852 w1915
theorem w1917 : Wk PR GG x3 c845 (initF 3 f842) (litH m843 6990) .ret (initF 3 f1903) (litH m1901 14409) := Wk.pieceC selfX_ok 2 p848 w1916
theorem w1918 : Wk PR GG x3 c440 (initF 3 f836) (litH m837 6574) .ret (initF 3 f1903) (litH m1901 14409) := Wk.pieceC selfX_ok 5 p844 w1917
theorem w1919 : Wk PR GG x3 c7 (initF 3 f431) (litH m429 2272) .ret (initF 3 f1903) (litH m1901 14409) := Wk.seqC ec7 w841 w1918
theorem w1920 : Wk PR GG x3 c5 (initF 3 f2) (litH m3 12) .ret (initF 3 f1903) (litH m1901 14409) := Wk.seqC ec5 w438 w1919
theorem w1921 : Wk PR GG x3 c1 (initF 3 f0) H0 .ret (initF 3 f1903) (litH m1901 14409) := Wk.pieceC selfX_ok 1 p4 w1920
theorem k1922 : CW PR GG 3 f0 H0 tt (litH m1901 14409) := Wk.cw Tryz.func3 ec1 (N := 116) (D := 3) (by kernel_rfl) (by kernel_rfl) (by kernel_rfl) w1921 (.inr rfl) (by kernel_rfl)
end Rn
end Cr
end Go.Proofs.YtekbkaipdmklpaaGreatDoor
