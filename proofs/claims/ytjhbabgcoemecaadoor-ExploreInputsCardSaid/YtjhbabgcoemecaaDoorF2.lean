/- A machine for closed runs: compiled functions (written by gen). (and what follows on it). -/
import Derived.Test.YtjhbabgcoemecaaDoorF1
import Derived.KernelRfl
namespace Go.Proofs.YtjhbabgcoemecaaDoor
namespace Cr
open Go Go.RowKit
set_option maxRecDepth 100000
noncomputable def x149_0 : List (Ins tf3) := [(iAs (rk (.int .i64 (.ofNat 0))) s3_6), (iAs (rk (.int .i64 (.ofNat 0))) s3_7)]
noncomputable def x149_1 : List (Ins tf3) := [(iMv r3_0 s3_19), (iGp (l2 (pEqD (tdOf 34) false)) [r3_19, (rk (.pointer none))] (some s3_20))]
noncomputable def x149_2 : List (Ins tf3) := [(iAs (rk (.int .i64 (.ofNat 0))) s3_6), (iAs (rk (.int .i64 (.ofNat 1))) s3_7)]
noncomputable def x149_3 : List (Ins tf3) := [(iMv r3_1 s3_22), (iCall (rk (.func (.func 72) #[] #[])) [r3_22] (some s3_23)), (iMv r3_23 s3_21), (iGp (l1 (pExt 0)) [r3_21] (some s3_24)), (iGp (l1 (pExt 1)) [r3_21] (some s3_25)), (iAs r3_24 s3_8), (iAs r3_25 s3_9)]
noncomputable def x149_4 : List (Ins tf3) := [(iMv r3_9 s3_26), (iP2 bNe r3_26 (rk (.int .i64 (.ofNat 0))) s3_27), (iMv r3_27 s3_28), (iGd r3_28 [.o4, .o3, .o0] false (iMv r3_8 s3_29) (some s3_29) rfl rfl rfl), (iGd r3_28 [.o4, .o3, .o0] false (iP2 bEq r3_29 (rk (.int .i64 (.ofNat 0))) s3_30) (some s3_30) rfl rfl rfl), (iGp (l3 pPick) [r3_28, (rk (.bool true)), r3_30] (some s3_31)), (iMv r3_31 s3_32), (iGd r3_32 [.o0, .o4, .o0] false (iMv r3_8 s3_33) (some s3_33) rfl rfl rfl), (iGd r3_32 [.o0, .o4, .o0] false (iMv r3_2 s3_34) (some s3_34) rfl rfl rfl), (iGd r3_32 [.o0, .o4, .o0] false (iP1 bLen r3_34 s3_35) (some s3_35) rfl rfl rfl), (iGd r3_32 [.o0, .o4, .o0] false (iP2 bNe r3_33 r3_35 s3_36) (some s3_36) rfl rfl rfl), (iGp (l3 pPick) [r3_32, (rk (.bool true)), r3_36] (some s3_37))]
noncomputable def x149_5 : List (Ins tf3) := [(iAs (rk (.int .i64 (.ofNat 0))) s3_6), (iAs (rk (.int .i64 (.ofNat 2))) s3_7)]
noncomputable def x149_6 : List (Ins tf3) := [(iMv r3_0 s3_38), (iMv r3_1 s3_39), (iMv r3_2 s3_40), (iMv r3_2 s3_42), (iP1 bLen r3_42 s3_43), (iGa (a2 (gMks 1 8 [(.int .u64 (.ofNat 0))])) [r3_43, r3_43] (some s3_44)), (iMv r3_2 s3_45), (iP1 bLen r3_45 s3_46), (iGa (a2 (gMks 1 1 [(.bool false)])) [r3_46, r3_46] (some s3_47)), (iGm (m2 (sApp 1)) [(rk (.slice none 0 0)), r3_40] (some s3_41)), (iGp (pBld [(.pointer none), (.int .u8 (.ofNat 0)), (.slice none 0 0), (.slice none 0 0), (.slice none 0 0)] [(0, 1), (1, 1), (2, 1), (3, 1), (4, 1)]) [r3_38, r3_39, r3_41, r3_44, r3_47] (some s3_48)), (iGa (a1 gBox) [r3_48] (some s3_49)), (iAs r3_49 s3_10)]
noncomputable def x149_7 : List (Ins tf3) := [(iAs (rk (.bool true)) s3_11)]
noncomputable def x149_8 : List (Ins tf3) := [(iMv r3_2 s3_50), (iP1 bLen r3_50 s3_51), (iMv (rk (.int .i64 (.ofNat 0))) s3_52)]
noncomputable def x149_9 : List (Ins tf3) := [(iP2 bLt r3_52 r3_51 s3_53)]
noncomputable def x149_10 : List (Ins tf3) := [(iMv r3_52 s3_54), (iP2 (bIxs 1) r3_50 r3_52 s3_55), (iR1 bLd r3_55 s3_56), (iAs r3_54 s3_12), (iAs r3_56 s3_13)]
noncomputable def x149_11 : List (Ins tf3) := [(iMv r3_13 s3_57), (iP2 bLt r3_57 (rk (.int .i64 (.ofNat 0))) s3_58), (iMv r3_58 s3_59), (iGd r3_59 [.o3, .o7, .o0] false (iMv r3_13 s3_60) (some s3_60) rfl rfl rfl), (iGd r3_59 [.o3, .o7, .o0] false (iMv r3_0 s3_61) (some s3_61) rfl rfl rfl), (iGd r3_59 [.o3, .o7, .o0] false (iCall (rk (.func (.func 74) #[] #[])) [r3_61] (some s3_62)) (some s3_62) rfl rfl rfl), (iGd r3_59 [.o3, .o7, .o0] false (iP2 bGe r3_60 r3_62 s3_63) (some s3_63) rfl rfl rfl), (iGp (l3 pPick) [r3_59, (rk (.bool true)), r3_63] (some s3_64))]
noncomputable def x149_12 : List (Ins tf3) := [(iAs (rk (.int .i64 (.ofNat 0))) s3_6), (iAs (rk (.int .i64 (.ofNat 3))) s3_7)]
noncomputable def x149_13 : List (Ins tf3) := [(iMv r3_10 s3_66), (iP1 bNil r3_66 s3_67), (iP1 (bFa 3) r3_67 s3_68), (iR1 bLd r3_68 s3_69), (iMv r3_12 s3_70), (iMv r3_10 s3_71), (iP1 bNil r3_71 s3_72), (iP1 (bFa 4) r3_72 s3_73), (iR1 bLd r3_73 s3_74), (iMv r3_12 s3_75), (iMv r3_0 s3_76), (iMv r3_13 s3_77), (iRc (iCall (rk (.func (.func 159) #[] #[])) [r3_76, r3_77] (some s3_78)) [(rcLd r3_73 r3_74 [.o2, .o1, .o1] rfl), (rcLd r3_68 r3_69 [.o5, .o0, .o1] rfl)] rfl), (iMv r3_78 s3_65), (iGp (l1 (pExt 0)) [r3_65] (some s3_79)), (iGp (l1 (pExt 1)) [r3_65] (some s3_80)), (iP2 (bIxs 1) r3_69 r3_70 s3_81), (iM2 bSt r3_81 r3_79), (iP2 (bIxs 1) r3_74 r3_75 s3_82), (iM2 bSt r3_82 r3_80)]
noncomputable def x149_14 : List (Ins tf3) := [(iMv r3_11 s3_83), (iMv r3_83 s3_84), (iGd r3_84 [.o4, .o2, .o1] true (iMv r3_10 s3_85) (some s3_85) rfl rfl rfl), (iGd r3_84 [.o4, .o2, .o1] true (iP1 bNil r3_85 s3_86) (some s3_86) rfl rfl rfl), (iGd r3_84 [.o4, .o2, .o1] true (iP1 (bFa 4) r3_86 s3_87) (some s3_87) rfl rfl rfl), (iGd r3_84 [.o4, .o2, .o1] true (iR1 bLd r3_87 s3_88) (some s3_88) rfl rfl rfl), (iGd r3_84 [.o4, .o2, .o1] true (iMv r3_12 s3_89) (some s3_89) rfl rfl rfl), (iGd r3_84 [.o4, .o2, .o1] true (iP2 (bIxs 1) r3_88 r3_89 s3_90) (some s3_90) rfl rfl rfl), (iGd r3_84 [.o4, .o2, .o1] true (iR1 bLd r3_90 s3_91) (some s3_91) rfl rfl rfl), (iGp (l3 pPick) [r3_84, r3_91, (rk (.bool false))] (some s3_92)), (iAs r3_92 s3_11)]
noncomputable def x149_15 : List (Ins tf3) := [(iP2 bAdd r3_52 (rk (.int .i64 (.ofNat 1))) s3_93), (iMv r3_93 s3_52)]
noncomputable def x149_16 : List (Ins tf3) := [(iMv r3_11 s3_94)]
noncomputable def x149_17 : List (Ins tf3) := [(iMv r3_1 s3_96), (iMv r3_0 s3_97), (iMv r3_10 s3_99), (iP1 bNil r3_99 s3_100), (iP1 (bFa 3) r3_100 s3_101), (iR1 bLd r3_101 s3_102), (iRc (iCall (rk (.func (.func 41) #[] #[])) [r3_97] (some s3_98)) [(rcLd r3_101 r3_102 [.o6, .o4, .o1] rfl)] rfl), (iCall (rk (.func (.func 77) #[] #[])) [r3_96, r3_98, r3_102] (some s3_103)), (iMv r3_103 s3_95), (iGp (l1 (pExt 0)) [r3_95] (some s3_104)), (iGp (l1 (pExt 1)) [r3_95] (some s3_105)), (iAs r3_104 s3_14), (iAs r3_105 s3_15)]
noncomputable def x149_18 : List (Ins tf3) := [(iMv r3_0 s3_106), (iMv r3_14 s3_107), (iCall (rk (.func (.func 50) #[] #[])) [r3_106, r3_107] (some s3_108)), (iGp (l1 (pExt 0)) [r3_108] (some s3_109)), (iGp (l1 (pExt 1)) [r3_108] (some s3_110)), (iAs r3_109 s3_6), (iAs r3_110 s3_7)]
noncomputable def x149_19 : List (Ins tf3) := [(iMv r3_1 s3_111), (iCall (rk (.func (.func 160) #[] #[])) [r3_111] (some s3_112)), (iMv r3_112 s3_113), (iGd r3_113 [.o1, .o6, .o1] true (iMv r3_10 s3_114) (some s3_114) rfl rfl rfl), (iGd r3_113 [.o1, .o6, .o1] true (iP1 bNil r3_114 s3_115) (some s3_115) rfl rfl rfl), (iGd r3_113 [.o1, .o6, .o1] true (iP1 (bFa 4) r3_115 s3_116) (some s3_116) rfl rfl rfl), (iGd r3_113 [.o1, .o6, .o1] true (iR1 bLd r3_116 s3_117) (some s3_117) rfl rfl rfl), (iGd r3_113 [.o1, .o6, .o1] true (iP2 (bIxs 1) r3_117 (rk (.int .i64 (.ofNat 0))) s3_118) (some s3_118) rfl rfl rfl), (iGd r3_113 [.o1, .o6, .o1] true (iR1 bLd r3_118 s3_119) (some s3_119) rfl rfl rfl), (iGd r3_113 [.o1, .o6, .o1] true (iMv r3_119 s3_120) (some s3_120) rfl rfl rfl), (iGd r3_120 [.o0, .o7, .o1] false (iMv r3_10 s3_121) (some s3_121) rfl rfl rfl), (iGd r3_120 [.o0, .o7, .o1] false (iP1 bNil r3_121 s3_122) (some s3_122) rfl rfl rfl), (iGd r3_120 [.o0, .o7, .o1] false (iP1 (bFa 4) r3_122 s3_123) (some s3_123) rfl rfl rfl), (iGd r3_120 [.o0, .o7, .o1] false (iR1 bLd r3_123 s3_124) (some s3_124) rfl rfl rfl), (iGd r3_120 [.o0, .o7, .o1] false (iP2 (bIxs 1) r3_124 (rk (.int .i64 (.ofNat 1))) s3_125) (some s3_125) rfl rfl rfl), (iGd r3_120 [.o0, .o7, .o1] false (iR1 bLd r3_125 s3_126) (some s3_126) rfl rfl rfl), (iGd r3_120 [.o0, .o7, .o1] false (iGp (l1 (pUn .not)) [r3_126] (some s3_127)) (some s3_127) rfl rfl rfl), (iGd r3_120 [.o0, .o7, .o1] false (iMv r3_127 s3_128) (some s3_128) rfl rfl rfl), (iGd r3_128 [.o0, .o0, .o2] true (iMv r3_10 s3_129) (some s3_129) rfl rfl rfl), (iGd r3_128 [.o0, .o0, .o2] true (iP1 bNil r3_129 s3_130) (some s3_130) rfl rfl rfl), (iGd r3_128 [.o0, .o0, .o2] true (iP1 (bFa 2) r3_130 s3_131) (some s3_131) rfl rfl rfl), (iGd r3_128 [.o0, .o0, .o2] true (iR1 bLd r3_131 s3_132) (some s3_132) rfl rfl rfl), (iGd r3_128 [.o0, .o0, .o2] true (iP2 (bIxs 1) r3_132 (rk (.int .i64 (.ofNat 0))) s3_133) (some s3_133) rfl rfl rfl), (iGd r3_128 [.o0, .o0, .o2] true (iR1 bLd r3_133 s3_134) (some s3_134) rfl rfl rfl), (iGd r3_128 [.o0, .o0, .o2] true (iMv r3_10 s3_135) (some s3_135) rfl rfl rfl), (iGd r3_128 [.o0, .o0, .o2] true (iP1 bNil r3_135 s3_136) (some s3_136) rfl rfl rfl), (iGd r3_128 [.o0, .o0, .o2] true (iP1 (bFa 2) r3_136 s3_137) (some s3_137) rfl rfl rfl), (iGd r3_128 [.o0, .o0, .o2] true (iR1 bLd r3_137 s3_138) (some s3_138) rfl rfl rfl), (iGd r3_128 [.o0, .o0, .o2] true (iP2 (bIxs 1) r3_138 (rk (.int .i64 (.ofNat 1))) s3_139) (some s3_139) rfl rfl rfl), (iGd r3_128 [.o0, .o0, .o2] true (iR1 bLd r3_139 s3_140) (some s3_140) rfl rfl rfl), (iGd r3_128 [.o0, .o0, .o2] true (iP2 bGt r3_134 r3_140 s3_141) (some s3_141) rfl rfl rfl), (iGd r3_120 [.o0, .o7, .o1] false (iGp (l3 pPick) [r3_128, r3_141, (rk (.bool false))] (some s3_142)) (some s3_142) rfl rfl rfl), (iGd r3_113 [.o1, .o6, .o1] true (iGp (l3 pPick) [r3_120, (rk (.bool true)), r3_142] (some s3_143)) (some s3_143) rfl rfl rfl), (iGp (l3 pPick) [r3_113, r3_143, (rk (.bool false))] (some s3_144))]
noncomputable def x149_20 : List (Ins tf3) := [(iMv r3_10 s3_145), (iP1 bNil r3_145 s3_146), (iP1 (bFa 2) r3_146 s3_147), (iR1 bLd r3_147 s3_148), (iMv r3_10 s3_149), (iP1 bNil r3_149 s3_150), (iP1 (bFa 2) r3_150 s3_151), (iR1 bLd r3_151 s3_152), (iMv r3_10 s3_153), (iP1 bNil r3_153 s3_154), (iP1 (bFa 2) r3_154 s3_155), (iR1 bLd r3_155 s3_156), (iP2 (bIxs 1) r3_156 (rk (.int .i64 (.ofNat 1))) s3_157), (iR1 bLd r3_157 s3_158), (iMv r3_10 s3_159), (iP1 bNil r3_159 s3_160), (iP1 (bFa 2) r3_160 s3_161), (iR1 bLd r3_161 s3_162), (iP2 (bIxs 1) r3_162 (rk (.int .i64 (.ofNat 0))) s3_163), (iR1 bLd r3_163 s3_164), (iP2 (bIxs 1) r3_148 (rk (.int .i64 (.ofNat 0))) s3_165), (iM2 bSt r3_165 r3_158), (iP2 (bIxs 1) r3_152 (rk (.int .i64 (.ofNat 1))) s3_166), (iM2 bSt r3_166 r3_164)]
noncomputable def x149_21 : List (Ins tf3) := [(iMv r3_10 s3_167), (iP1 bNil r3_167 s3_168), (iP1 (bFa 3) r3_168 s3_169), (iR1 bLd r3_169 s3_170), (iMv r3_10 s3_171), (iP1 bNil r3_171 s3_172), (iP1 (bFa 3) r3_172 s3_173), (iR1 bLd r3_173 s3_174), (iMv r3_10 s3_175), (iP1 bNil r3_175 s3_176), (iP1 (bFa 3) r3_176 s3_177), (iR1 bLd r3_177 s3_178), (iP2 (bIxs 1) r3_178 (rk (.int .i64 (.ofNat 1))) s3_179), (iR1 bLd r3_179 s3_180), (iMv r3_10 s3_181), (iP1 bNil r3_181 s3_182), (iP1 (bFa 3) r3_182 s3_183), (iR1 bLd r3_183 s3_184), (iP2 (bIxs 1) r3_184 (rk (.int .i64 (.ofNat 0))) s3_185), (iR1 bLd r3_185 s3_186), (iP2 (bIxs 1) r3_170 (rk (.int .i64 (.ofNat 0))) s3_187), (iM2 bSt r3_187 r3_180), (iP2 (bIxs 1) r3_174 (rk (.int .i64 (.ofNat 1))) s3_188), (iM2 bSt r3_188 r3_186)]
noncomputable def x149_22 : List (Ins tf3) := [(iMv r3_10 s3_189), (iP1 bNil r3_189 s3_190), (iP1 (bFa 4) r3_190 s3_191), (iR1 bLd r3_191 s3_192), (iMv r3_10 s3_193), (iP1 bNil r3_193 s3_194), (iP1 (bFa 4) r3_194 s3_195), (iR1 bLd r3_195 s3_196), (iMv r3_10 s3_197), (iP1 bNil r3_197 s3_198), (iP1 (bFa 4) r3_198 s3_199), (iR1 bLd r3_199 s3_200), (iP2 (bIxs 1) r3_200 (rk (.int .i64 (.ofNat 1))) s3_201), (iR1 bLd r3_201 s3_202), (iMv r3_10 s3_203), (iP1 bNil r3_203 s3_204), (iP1 (bFa 4) r3_204 s3_205), (iR1 bLd r3_205 s3_206), (iP2 (bIxs 1) r3_206 (rk (.int .i64 (.ofNat 0))) s3_207), (iR1 bLd r3_207 s3_208), (iP2 (bIxs 1) r3_192 (rk (.int .i64 (.ofNat 0))) s3_209), (iM2 bSt r3_209 r3_202), (iP2 (bIxs 1) r3_196 (rk (.int .i64 (.ofNat 1))) s3_210), (iM2 bSt r3_210 r3_208)]
noncomputable def x149_23 : List (Ins tf3) := [(iMv r3_1 s3_211), (iCall (rk (.func (.func 161) #[] #[])) [r3_211] (some s3_212)), (iP1 bLen r3_212 s3_213), (iMv (rk (.int .i64 (.ofNat 0))) s3_214)]
noncomputable def x149_24 : List (Ins tf3) := [(iP2 bLt r3_214 r3_213 s3_215)]
noncomputable def x149_25 : List (Ins tf3) := [(iP2 (bIxs 1) r3_212 r3_214 s3_216), (iR1 bLd r3_216 s3_217), (iAs r3_217 s3_17)]
noncomputable def x149_26 : List (Ins tf3) := [(iMv r3_17 s3_218), (iMv r3_10 s3_219), (iCall r3_218 [r3_219] (some s3_220)), (iGa (aAl 3 [(.int .u8 (.ofNat 0)), (.int .i64 (.ofNat 0)), (.int .u64 (.ofNat 0))]) [] (some s3_18)), (iGm (m2 (sStn 3)) [r3_18, r3_220] none)]
noncomputable def x149_27 : List (Ins tf3) := [(iP1 (bFa 0) r3_18 s3_221), (iR1 bLd r3_221 s3_222)]
noncomputable def x149_28 : List (Ins tf3) := [(iP2 bEq r3_222 (rk (.int .u8 (.ofNat 1))) s3_224), (iAs r3_224 s3_223)]
noncomputable def x149_29 : List (Ins tf3) := [(iP1 (bFa 1) r3_18 s3_225), (iR1 bLd r3_225 s3_226), (iAs r3_226 s3_6), (iAs (rk (.int .i64 (.ofNat 0))) s3_7)]
noncomputable def x149_30 : List (Ins tf3) := [(iP2 bEq r3_222 (rk (.int .u8 (.ofNat 2))) s3_228), (iAs r3_228 s3_227)]
noncomputable def x149_31 : List (Ins tf3) := [(iMv r3_0 s3_229), (iP1 (bFa 2) r3_18 s3_230), (iR1 bLd r3_230 s3_231), (iCall (rk (.func (.func 50) #[] #[])) [r3_229, r3_231] (some s3_232)), (iGp (l1 (pExt 0)) [r3_232] (some s3_233)), (iGp (l1 (pExt 1)) [r3_232] (some s3_234)), (iAs r3_233 s3_6), (iAs r3_234 s3_7)]
noncomputable def x149_32 : List (Ins tf3) := [(iP2 bEq r3_222 (rk (.int .u8 (.ofNat 3))) s3_236), (iAs r3_236 s3_235)]
noncomputable def x149_33 : List (Ins tf3) := [(iMv r3_0 s3_237), (iP1 (bFa 1) r3_18 s3_238), (iR1 bLd r3_238 s3_239), (iGa (aBsl 1 1 [(.int .i64 (.ofNat 0))] [(0, 1)]) [r3_239] (some s3_240)), (iCall (rk (.func (.func 149) #[] #[])) [r3_237, (rk (.int .u8 (.ofNat 2))), r3_240] (some s3_241)), (iGp (l1 (pExt 0)) [r3_241] (some s3_242)), (iGp (l1 (pExt 1)) [r3_241] (some s3_243)), (iAs r3_242 s3_6), (iAs r3_243 s3_7)]
noncomputable def x149_34 : List (Ins tf3) := [(iP2 bAdd r3_214 (rk (.int .i64 (.ofNat 1))) s3_244), (iMv r3_244 s3_214)]
noncomputable def x149_35 : List (Ins tf3) := [(iMv r3_0 s3_245), (iMv r3_1 s3_246), (iMv r3_10 s3_247), (iP1 bNil r3_247 s3_248), (iP1 (bFa 2) r3_248 s3_249), (iR1 bLd r3_249 s3_250), (iCall (rk (.func (.func 54) #[] #[])) [r3_245, r3_246, r3_250] (some s3_251)), (iGp (l1 (pExt 0)) [r3_251] (some s3_252)), (iGp (l1 (pExt 1)) [r3_251] (some s3_253)), (iAs r3_252 s3_6), (iAs r3_253 s3_7)]
noncomputable def x149_36 : XC tf3 := (.seq (.rg x149_19 (.cond r3_144 (.rg x149_20 (.rg x149_21 (.reg x149_22))) .skip)) (.seq (.rg x149_23 (.block 2 (.loop (.rg x149_24 (.seq (.cond r3_215 .skip (.exit 2)) (.seq (.block 3 (.rg x149_25 (.rg x149_26 (.rg x149_27 (.block 4 (.rg x149_28 (.cond r3_223 (.rg x149_29 .ret) (.rg x149_30 (.cond r3_227 (.rg x149_31 .ret) (.rg x149_32 (.cond r3_235 (.rg x149_33 .ret) .skip))))))))))) (.reg x149_34))))))) (.rg x149_35 .ret)))
noncomputable def x149_37 : XC tf3 := (.seq (.rg x149_3 (.rg x149_4 (.cond r3_37 (.rg x149_5 .ret) .skip))) (.rg x149_6 (.rg x149_7 (.seq (.rg x149_8 (.block 0 (.loop (.rg x149_9 (.seq (.cond r3_53 .skip (.exit 0)) (.seq (.block 1 (.rg x149_10 (.seq (.rg x149_11 (.cond r3_64 (.rg x149_12 .ret) .skip)) (.rg x149_13 (.reg x149_14))))) (.reg x149_15))))))) (.seq (.rg x149_16 (.cond r3_94 (.rg x149_17 (.rg x149_18 .ret)) .skip)) x149_36)))))
noncomputable def x149 : XC tf3 := (.rg x149_0 (.seq (.rg x149_1 (.cond r3_20 (.rg x149_2 .ret) .skip)) x149_37))
noncomputable def c149 : Code := Tryd.f149.body.getD .skip
theorem x149_b : Tryd.f149.body = some c149 := by kernel_rfl
theorem x149_c : cG (comp Tryd.prog) 2 3 254 x149 c149 = x149.den := by kernel_rfl
noncomputable def y149 : List (RR Tryd.prog 3 254 tf3) := [rrT r3_6 6 rfl rfl, rrT r3_7 7 rfl rfl]
theorem x149_r : y149.map RR.den = Tryd.f149.results.toList := by kernel_rfl
theorem x149_k : okFn Tryd.f149 = true := by kernel_rfl
theorem x149_D : 3 = dep Tryd.f149.ntmps := by kernel_rfl
theorem x149_s : ([s3_0, s3_1, s3_2] : List (Slot tf3)).map Slot.p = (List.range' 0 3).map (pth 3) := by kernel_rfl
noncomputable def X149 : XFn Tryd.prog 2 (comp Tryd.prog) := ⟨X3, tf3, 149, Tryd.f149, c149, 3, 254, [s3_0, s3_1, s3_2], z3, x149, y149, x149_D, Tryd.ntmps149.symm, Tryd.func149, x149_b, x149_k, x149_s, by decide, z3_ok, x149_c, x149_r⟩
noncomputable def x153_0 : List (Ins tf2) := [(iAs (rk (.int .i64 (.ofNat 0))) s2_6)]
noncomputable def x153_1 : List (Ins tf2) := [(iMv r2_0 s2_7), (iGp (l2 (pEqD (tdOf 96) false)) [r2_7, (rk (.pointer none))] (some s2_8))]
noncomputable def x153_2 : List (Ins tf2) := [(iAs (rk (.int .i64 (.ofNat 1))) s2_6)]
noncomputable def x153_3 : List (Ins tf2) := [(iMv r2_1 s2_9), (iP2 bLt r2_9 (rk (.int .i64 (.ofNat 0))) s2_10), (iMv r2_10 s2_11), (iGd r2_11 [.o3, .o1] false (iMv r2_1 s2_12) (some s2_12) rfl rfl rfl), (iGd r2_11 [.o3, .o1] false (iMv r2_0 s2_13) (some s2_13) rfl rfl rfl), (iGd r2_11 [.o3, .o1] false (iP1 bNil r2_13 s2_14) (some s2_14) rfl rfl rfl), (iGd r2_11 [.o3, .o1] false (iP1 (bFa 1) r2_14 s2_15) (some s2_15) rfl rfl rfl), (iGd r2_11 [.o3, .o1] false (iR1 bLd r2_15 s2_16) (some s2_16) rfl rfl rfl), (iGd r2_11 [.o3, .o1] false (iP1 bLen r2_16 s2_17) (some s2_17) rfl rfl rfl), (iGd r2_11 [.o3, .o1] false (iP2 bGe r2_12 r2_17 s2_18) (some s2_18) rfl rfl rfl), (iGp (l3 pPick) [r2_11, (rk (.bool true)), r2_18] (some s2_19)), (iMv r2_19 s2_20), (iGd r2_20 [.o4, .o2] false (iMv r2_0 s2_21) (some s2_21) rfl rfl rfl), (iGd r2_20 [.o4, .o2] false (iMv r2_2 s2_22) (some s2_22) rfl rfl rfl), (iGd r2_20 [.o4, .o2] false (iCall (rk (.func (.func 134) #[] #[])) [r2_21, r2_22] (some s2_23)) (some s2_23) rfl rfl rfl), (iGd r2_20 [.o4, .o2] false (iGp (l1 (pUn .not)) [r2_23] (some s2_24)) (some s2_24) rfl rfl rfl), (iGp (l3 pPick) [r2_20, (rk (.bool true)), r2_24] (some s2_25))]
noncomputable def x153_4 : List (Ins tf2) := [(iAs (rk (.int .i64 (.ofNat 3))) s2_6)]
noncomputable def x153_5 : List (Ins tf2) := [(iMv r2_0 s2_26), (iP1 bNil r2_26 s2_27), (iP1 (bFa 1) r2_27 s2_28), (iR1 bLd r2_28 s2_29), (iMv r2_1 s2_30), (iMv r2_2 s2_31), (iP2 (bIxs 1) r2_29 r2_30 s2_32), (iM2 bSt r2_32 r2_31)]
noncomputable def x153_6 : List (Ins tf2) := [(iAs (rk (.int .i64 (.ofNat 0))) s2_6)]
noncomputable def x153 : XC tf2 := (.rg x153_0 (.seq (.rg x153_1 (.cond r2_8 (.rg x153_2 .ret) .skip)) (.seq (.rg x153_3 (.cond r2_25 (.rg x153_4 .ret) .skip)) (.rg x153_5 (.rg x153_6 .ret)))))
noncomputable def c153 : Code := Tryd.f153.body.getD .skip
theorem x153_b : Tryd.f153.body = some c153 := by kernel_rfl
theorem x153_c : cG (comp Tryd.prog) 2 2 33 x153 c153 = x153.den := by kernel_rfl
noncomputable def y153 : List (RR Tryd.prog 2 33 tf2) := [rrT r2_6 6 rfl rfl]
theorem x153_r : y153.map RR.den = Tryd.f153.results.toList := by kernel_rfl
theorem x153_k : okFn Tryd.f153 = true := by kernel_rfl
theorem x153_D : 2 = dep Tryd.f153.ntmps := by kernel_rfl
theorem x153_s : ([s2_0, s2_1, s2_2] : List (Slot tf2)).map Slot.p = (List.range' 0 3).map (pth 2) := by kernel_rfl
noncomputable def X153 : XFn Tryd.prog 2 (comp Tryd.prog) := ⟨X2, tf2, 153, Tryd.f153, c153, 2, 33, [s2_0, s2_1, s2_2], z2, x153, y153, x153_D, Tryd.ntmps153.symm, Tryd.func153, x153_b, x153_k, x153_s, by decide, z2_ok, x153_c, x153_r⟩
noncomputable def x156_0 : List (Ins tf3) := [(iGa (a1 gBox) [r3_0] (some s3_5)), (iGa (a1 gBox) [r3_1] (some s3_6))]
noncomputable def x156_1 : List (Ins tf3) := [(iR1 bLd r3_5 s3_17), (iP1 bNil r3_17 s3_18), (iP1 (bFa 0) r3_18 s3_19), (iR1 bLd r3_19 s3_20), (iCall (rk (.func (.func 50) #[] #[])) [r3_20, (rk (.int .u64 (.ofNat 0)))] (some s3_21)), (iMv r3_21 s3_16), (iGp (l1 (pExt 0)) [r3_16] (some s3_22)), (iGp (l1 (pExt 1)) [r3_16] (some s3_23)), (iAs r3_22 s3_10), (iAs r3_23 s3_11)]
noncomputable def x156_2 : List (Ins tf3) := [(iR1 bLd r3_5 s3_24), (iMv r3_11 s3_25), (iCall (rk (.func (.func 43) #[] #[])) [r3_24, r3_25] (some s3_26))]
noncomputable def x156_3 : List (Ins tf3) := [(iR1 bLd r3_5 s3_28), (iP1 bNil r3_28 s3_29), (iP1 (bFa 0) r3_29 s3_30), (iR1 bLd r3_30 s3_31), (iMv r3_2 s3_32), (iMv r3_10 s3_33), (iGa (aBsl 2 1 [(.int .i64 (.ofNat 0))] [(0, 1), (1, 1)]) [r3_32, r3_33] (some s3_34)), (iCall (rk (.func (.func 149) #[] #[])) [r3_31, (rk (.int .u8 (.ofNat 15))), r3_34] (some s3_35)), (iMv r3_35 s3_27), (iGp (l1 (pExt 0)) [r3_27] (some s3_36)), (iGp (l1 (pExt 1)) [r3_27] (some s3_37)), (iAs r3_36 s3_12), (iAs r3_37 s3_11)]
noncomputable def x156_4 : List (Ins tf3) := [(iR1 bLd r3_5 s3_38), (iMv r3_11 s3_39), (iCall (rk (.func (.func 43) #[] #[])) [r3_38, r3_39] (some s3_40))]
noncomputable def x156_5 : List (Ins tf3) := [(iR1 bLd r3_5 s3_41), (iGr (r1 (rLdn 9)) [r3_6] (some s3_42)), (iMv r3_2 s3_43), (iCall (rk (.func (.func 168) #[] #[])) [r3_41, r3_42, r3_43] (some s3_44)), (iAs r3_44 s3_13)]
noncomputable def x156_6 : List (Ins tf3) := [(iR1 bLd r3_5 s3_45), (iP1 bNil r3_45 s3_46), (iP1 (bFa 9) r3_46 s3_47), (iR1 bLd r3_47 s3_48), (iP2 bNe r3_48 (rk (.int .u8 (.ofNat 0))) s3_49)]
noncomputable def x156_7 : List (Ins tf3) := [(iMv r3_13 s3_50), (iGp (l1 (pUn .not)) [r3_50] (some s3_51)), (iAs r3_51 s3_14)]
noncomputable def x156_8 : List (Ins tf3) := [(iMv r3_13 s3_52)]
noncomputable def x156_9 : List (Ins tf3) := [(iR1 bLd r3_5 s3_53), (iGr (r1 (rLdn 9)) [r3_6] (some s3_54)), (iMv r3_12 s3_55), (iCall (rk (.func (.func 168) #[] #[])) [r3_53, r3_54, r3_55] (some s3_56)), (iAs r3_56 s3_14)]
noncomputable def x156_10 : List (Ins tf3) := [(iR1 bLd r3_5 s3_57), (iP1 bNil r3_57 s3_58), (iP1 (bFa 9) r3_58 s3_59), (iR1 bLd r3_59 s3_60), (iP2 bNe r3_60 (rk (.int .u8 (.ofNat 0))) s3_61)]
noncomputable def x156_11 : List (Ins tf3) := [(iGp (pMkf (.func 169) 0) [r3_6, r3_5] (some s3_62)), (iAs r3_62 s3_15)]
noncomputable def x156_12 : List (Ins tf3) := [(iMv r3_14 s3_63)]
noncomputable def x156_13 : List (Ins tf3) := [(iMv r3_15 s3_64), (iMv r3_12 s3_65), (iMv r3_4 s3_66), (iCall r3_64 [r3_65, r3_66] (some s3_67))]
noncomputable def x156_14 : List (Ins tf3) := [(iMv r3_13 s3_68)]
noncomputable def x156_15 : List (Ins tf3) := [(iMv r3_15 s3_69), (iMv r3_2 s3_70), (iMv r3_3 s3_71), (iCall r3_69 [r3_70, r3_71] (some s3_72))]
noncomputable def x156_16 : XC tf3 := (.rg x156_1 (.seq (.rg x156_2 (.cond r3_26 .ret .skip)) (.rg x156_3 (.seq (.rg x156_4 (.cond r3_40 .ret .skip)) (.rg x156_5 (.seq (.rg x156_6 (.cond r3_49 .ret .skip)) (.rg x156_7 (.seq (.rg x156_8 (.cond r3_52 (.reg x156_9) .skip)) (.seq (.rg x156_10 (.cond r3_61 .ret .skip)) (.rg x156_11 (.seq (.rg x156_12 (.cond r3_63 (.reg x156_13) .skip)) (.rg x156_14 (.cond r3_68 (.reg x156_15) .skip)))))))))))))
noncomputable def x156 : XC tf3 := (.rg x156_0 x156_16)
noncomputable def c156 : Code := Tryd.f156.body.getD .skip
theorem x156_b : Tryd.f156.body = some c156 := by kernel_rfl
theorem x156_c : cG (comp Tryd.prog) 2 3 73 x156 c156 = x156.den := by kernel_rfl
noncomputable def y156 : List (RR Tryd.prog 3 73 tf3) := []
theorem x156_r : y156.map RR.den = Tryd.f156.results.toList := by kernel_rfl
theorem x156_k : okFn Tryd.f156 = true := by kernel_rfl
theorem x156_D : 3 = dep Tryd.f156.ntmps := by kernel_rfl
theorem x156_s : ([s3_0, s3_1, s3_2, s3_3, s3_4] : List (Slot tf3)).map Slot.p = (List.range' 0 5).map (pth 3) := by kernel_rfl
noncomputable def X156 : XFn Tryd.prog 2 (comp Tryd.prog) := ⟨X3, tf3, 156, Tryd.f156, c156, 3, 73, [s3_0, s3_1, s3_2, s3_3, s3_4], z3, x156, y156, x156_D, Tryd.ntmps156.symm, Tryd.func156, x156_b, x156_k, x156_s, by decide, z3_ok, x156_c, x156_r⟩
noncomputable def x157_0 : List (Ins tf2) := [(iMv r2_0 s2_2), (iMv r2_0 s2_3), (iP1 bNil r2_3 s2_4), (iP1 (bFa 2) r2_4 s2_5), (iP1 (bFa 5) r2_5 s2_6), (iR1 bLd r2_6 s2_7), (iGa (aBsl 1 1 [(.bool false)] [(0, 1)]) [(rk (.bool false))] (some s2_8)), (iGm (m2 (sApp 1)) [r2_7, r2_8] (some s2_9)), (iP1 bNil r2_2 s2_10), (iP1 (bFa 2) r2_10 s2_11), (iP1 (bFa 5) r2_11 s2_12), (iM2 bSt r2_12 r2_9)]
noncomputable def x157_1 : List (Ins tf2) := [(iMv r2_0 s2_13), (iP1 bNil r2_13 s2_14), (iP1 (bFa 1) r2_14 s2_15), (iR1 bLd r2_15 s2_16), (iP2 bAdd r2_16 (rk (.int .i64 (.ofNat 1))) s2_17), (iP1 bNil r2_13 s2_18), (iP1 (bFa 1) r2_18 s2_19), (iM2 bSt r2_19 r2_17)]
noncomputable def x157 : XC tf2 := (.rg x157_0 (.reg x157_1))
noncomputable def c157 : Code := Tryd.f157.body.getD .skip
theorem x157_b : Tryd.f157.body = some c157 := by kernel_rfl
theorem x157_c : cG (comp Tryd.prog) 2 2 20 x157 c157 = x157.den := by kernel_rfl
noncomputable def y157 : List (RR Tryd.prog 2 20 tf2) := []
theorem x157_r : y157.map RR.den = Tryd.f157.results.toList := by kernel_rfl
theorem x157_k : okFn Tryd.f157 = true := by kernel_rfl
theorem x157_D : 2 = dep Tryd.f157.ntmps := by kernel_rfl
theorem x157_s : ([s2_0] : List (Slot tf2)).map Slot.p = (List.range' 0 1).map (pth 2) := by kernel_rfl
noncomputable def X157 : XFn Tryd.prog 2 (comp Tryd.prog) := ⟨X2, tf2, 157, Tryd.f157, c157, 2, 20, [s2_0], z2, x157, y157, x157_D, Tryd.ntmps157.symm, Tryd.func157, x157_b, x157_k, x157_s, by decide, z2_ok, x157_c, x157_r⟩
noncomputable def x158_0 : List (Ins tf2) := [(iMv r2_0 s2_3), (iMv r2_0 s2_4), (iP1 bNil r2_4 s2_5), (iP1 (bFa 2) r2_5 s2_6), (iP1 (bFa 5) r2_6 s2_7), (iR1 bLd r2_7 s2_8), (iGa (aBsl 1 1 [(.bool false)] [(0, 1)]) [(rk (.bool true))] (some s2_9)), (iGm (m2 (sApp 1)) [r2_8, r2_9] (some s2_10)), (iP1 bNil r2_3 s2_11), (iP1 (bFa 2) r2_11 s2_12), (iP1 (bFa 5) r2_12 s2_13), (iM2 bSt r2_13 r2_10)]
noncomputable def x158_1 : List (Ins tf2) := [(iMv r2_0 s2_14), (iP1 (bFa 3) r2_1 s2_15), (iR1 bLd r2_15 s2_16), (iP1 bNil r2_14 s2_17), (iP1 (bFa 1) r2_17 s2_18), (iM2 bSt r2_18 r2_16)]
noncomputable def x158 : XC tf2 := (.rg x158_0 (.reg x158_1))
noncomputable def c158 : Code := Tryd.f158.body.getD .skip
theorem x158_b : Tryd.f158.body = some c158 := by kernel_rfl
theorem x158_c : cG (comp Tryd.prog) 2 2 19 x158 c158 = x158.den := by kernel_rfl
noncomputable def y158 : List (RR Tryd.prog 2 19 tf2) := []
theorem x158_r : y158.map RR.den = Tryd.f158.results.toList := by kernel_rfl
theorem x158_k : okFn Tryd.f158 = true := by kernel_rfl
theorem x158_D : 2 = dep Tryd.f158.ntmps := by kernel_rfl
theorem x158_s : ([s2_0, s2_1] : List (Slot tf2)).map Slot.p = (List.range' 0 2).map (pth 2) := by kernel_rfl
noncomputable def X158 : XFn Tryd.prog 2 (comp Tryd.prog) := ⟨X2, tf2, 158, Tryd.f158, c158, 2, 19, [s2_0, s2_1], z2, x158, y158, x158_D, Tryd.ntmps158.symm, Tryd.func158, x158_b, x158_k, x158_s, by decide, z2_ok, x158_c, x158_r⟩
noncomputable def x159_0 : List (Ins tf2) := [(iAs (rk (.int .u64 (.ofNat 0))) s2_4), (iAs (rk (.bool false)) s2_5)]
noncomputable def x159_1 : List (Ins tf2) := [(iMv r2_0 s2_9), (iMv r2_1 s2_10), (iCall (rk (.func (.func 75) #[] #[])) [r2_9, r2_10] (some s2_11)), (iMv r2_11 s2_8), (iGp (l1 (pExt 0)) [r2_8] (some s2_12)), (iGp (l1 (pExt 1)) [r2_8] (some s2_13)), (iGa (aAl 3 [(.int .u8 (.ofNat 0)), (.int .u64 (.ofNat 0)), (.slice none 0 0)]) [] (some s2_6)), (iGm (m2 (sStn 3)) [r2_6, r2_12] none), (iAs r2_13 s2_7)]
noncomputable def x159_2 : List (Ins tf2) := [(iMv r2_7 s2_14), (iP2 bNe r2_14 (rk (.int .i64 (.ofNat 0))) s2_15), (iMv r2_15 s2_16), (iGd r2_16 [.o0, .o2] false (iP1 (bFa 0) r2_6 s2_17) (some s2_17) rfl rfl rfl), (iGd r2_16 [.o0, .o2] false (iR1 bLd r2_17 s2_18) (some s2_18) rfl rfl rfl), (iGd r2_16 [.o0, .o2] false (iP2 bNe r2_18 (rk (.int .u8 (.ofNat 0))) s2_19) (some s2_19) rfl rfl rfl), (iGp (l3 pPick) [r2_16, (rk (.bool true)), r2_19] (some s2_20))]
noncomputable def x159_3 : List (Ins tf2) := [(iAs (rk (.int .u64 (.ofNat 0))) s2_4), (iAs (rk (.bool false)) s2_5)]
noncomputable def x159_4 : List (Ins tf2) := [(iP1 (bFa 1) r2_6 s2_21), (iR1 bLd r2_21 s2_22), (iAs r2_22 s2_4), (iAs (rk (.bool true)) s2_5)]
noncomputable def x159 : XC tf2 := (.rg x159_0 (.rg x159_1 (.seq (.rg x159_2 (.cond r2_20 (.rg x159_3 .ret) .skip)) (.rg x159_4 .ret))))
noncomputable def c159 : Code := Tryd.f159.body.getD .skip
theorem x159_b : Tryd.f159.body = some c159 := by kernel_rfl
theorem x159_c : cG (comp Tryd.prog) 2 2 23 x159 c159 = x159.den := by kernel_rfl
noncomputable def y159 : List (RR Tryd.prog 2 23 tf2) := [rrT r2_4 4 rfl rfl, rrT r2_5 5 rfl rfl]
theorem x159_r : y159.map RR.den = Tryd.f159.results.toList := by kernel_rfl
theorem x159_k : okFn Tryd.f159 = true := by kernel_rfl
theorem x159_D : 2 = dep Tryd.f159.ntmps := by kernel_rfl
theorem x159_s : ([s2_0, s2_1] : List (Slot tf2)).map Slot.p = (List.range' 0 2).map (pth 2) := by kernel_rfl
noncomputable def X159 : XFn Tryd.prog 2 (comp Tryd.prog) := ⟨X2, tf2, 159, Tryd.f159, c159, 2, 23, [s2_0, s2_1], z2, x159, y159, x159_D, Tryd.ntmps159.symm, Tryd.func159, x159_b, x159_k, x159_s, by decide, z2_ok, x159_c, x159_r⟩
noncomputable def x160_0 : List (Ins tf2) := [(iAs (rk (.bool false)) s2_2)]
noncomputable def x160_1 : List (Ins tf2) := [(iMv r2_0 s2_3)]
noncomputable def x160_2 : List (Ins tf2) := [(iP2 bEq r2_3 (rk (.int .u8 (.ofNat 4))) s2_5), (iAs r2_5 s2_4)]
noncomputable def x160_3 : List (Ins tf2) := [(iP2 bEq r2_3 (rk (.int .u8 (.ofNat 6))) s2_6), (iAs r2_6 s2_4)]
noncomputable def x160_4 : List (Ins tf2) := [(iP2 bEq r2_3 (rk (.int .u8 (.ofNat 9))) s2_7), (iAs r2_7 s2_4)]
noncomputable def x160_5 : List (Ins tf2) := [(iP2 bEq r2_3 (rk (.int .u8 (.ofNat 10))) s2_8), (iAs r2_8 s2_4)]
noncomputable def x160_6 : List (Ins tf2) := [(iP2 bEq r2_3 (rk (.int .u8 (.ofNat 11))) s2_9), (iAs r2_9 s2_4)]
noncomputable def x160_7 : List (Ins tf2) := [(iP2 bEq r2_3 (rk (.int .u8 (.ofNat 15))) s2_10), (iAs r2_10 s2_4)]
noncomputable def x160_8 : List (Ins tf2) := [(iP2 bEq r2_3 (rk (.int .u8 (.ofNat 16))) s2_11), (iAs r2_11 s2_4)]
noncomputable def x160_9 : List (Ins tf2) := [(iAs (rk (.bool true)) s2_2)]
noncomputable def x160_10 : List (Ins tf2) := [(iAs (rk (.bool false)) s2_2)]
noncomputable def x160 : XC tf2 := (.rg x160_0 (.seq (.rg x160_1 (.block 0 (.seq (.rg x160_2 (.cond r2_4 .skip (.rg x160_3 (.cond r2_4 .skip (.rg x160_4 (.cond r2_4 .skip (.rg x160_5 (.cond r2_4 .skip (.rg x160_6 (.cond r2_4 .skip (.rg x160_7 (.cond r2_4 .skip (.reg x160_8))))))))))))) (.cond r2_4 (.rg x160_9 .ret) .skip)))) (.rg x160_10 .ret)))
noncomputable def c160 : Code := Tryd.f160.body.getD .skip
theorem x160_b : Tryd.f160.body = some c160 := by kernel_rfl
theorem x160_c : cG (comp Tryd.prog) 2 2 12 x160 c160 = x160.den := by kernel_rfl
noncomputable def y160 : List (RR Tryd.prog 2 12 tf2) := [rrT r2_2 2 rfl rfl]
theorem x160_r : y160.map RR.den = Tryd.f160.results.toList := by kernel_rfl
theorem x160_k : okFn Tryd.f160 = true := by kernel_rfl
theorem x160_D : 2 = dep Tryd.f160.ntmps := by kernel_rfl
theorem x160_s : ([s2_0] : List (Slot tf2)).map Slot.p = (List.range' 0 1).map (pth 2) := by kernel_rfl
noncomputable def X160 : XFn Tryd.prog 2 (comp Tryd.prog) := ⟨X2, tf2, 160, Tryd.f160, c160, 2, 12, [s2_0], z2, x160, y160, x160_D, Tryd.ntmps160.symm, Tryd.func160, x160_b, x160_k, x160_s, by decide, z2_ok, x160_c, x160_r⟩
noncomputable def x161_0 : List (Ins tf2) := [(iAs (rk (.slice none 0 0)) s2_2)]
noncomputable def x161_1 : List (Ins tf2) := [(iGa aMm [] (some s2_3)), (iGa (aBsl 1 1 [.nilFunc] [(0, 1)]) [(rk (.func (.func 171) #[] #[]))] (some s2_4)), (iGm (m3 (sUpd [0] false)) [r2_3, (rk (.int .u8 (.ofNat 2))), r2_4] none), (iGa (aBsl 1 1 [.nilFunc] [(0, 1)]) [(rk (.func (.func 171) #[] #[]))] (some s2_5)), (iGm (m3 (sUpd [0] false)) [r2_3, (rk (.int .u8 (.ofNat 3))), r2_5] none), (iCall (rk (.func (.func 172) #[] #[])) [(rk (.int .u64 (.ofNat 0)))] (some s2_6)), (iGa (aBsl 1 1 [.nilFunc] [(0, 1)]) [r2_6] (some s2_7)), (iGm (m3 (sUpd [0] false)) [r2_3, (rk (.int .u8 (.ofNat 4))), r2_7] none), (iCall (rk (.func (.func 172) #[] #[])) [(rk (.int .u64 (.ofNat 0)))] (some s2_8)), (iCall (rk (.func (.func 173) #[] #[])) [(rk (.int .u64 (.ofNat 0)))] (some s2_9)), (iGa (aBsl 2 1 [.nilFunc] [(0, 1), (1, 1)]) [r2_8, r2_9] (some s2_10)), (iGm (m3 (sUpd [0] false)) [r2_3, (rk (.int .u8 (.ofNat 5))), r2_10] none), (iCall (rk (.func (.func 174) #[] #[])) [(rk (.int .i64 (.ofNat 1))), (rk (.int .u64 (.ofNat 0))), (rk (.int .u64 (.ofNat 0)))] (some s2_11)), (iCall (rk (.func (.func 172) #[] #[])) [(rk (.int .u64 (.ofNat 1)))] (some s2_12)), (iGa (aBsl 2 1 [.nilFunc] [(0, 1), (1, 1)]) [r2_11, r2_12] (some s2_13)), (iGm (m3 (sUpd [0] false)) [r2_3, (rk (.int .u8 (.ofNat 6))), r2_13] none), (iCall (rk (.func (.func 172) #[] #[])) [(rk (.int .u64 (.ofNat 1)))] (some s2_14)), (iGa (aBsl 1 1 [.nilFunc] [(0, 1)]) [r2_14] (some s2_15)), (iGm (m3 (sUpd [0] false)) [r2_3, (rk (.int .u8 (.ofNat 7))), r2_15] none), (iCall (rk (.func (.func 174) #[] #[])) [(rk (.int .i64 (.ofNat 1))), (rk (.int .u64 (.ofNat 1))), (rk (.int .u64 (.ofNat 0)))] (some s2_16)), (iGa (aBsl 1 1 [.nilFunc] [(0, 1)]) [r2_16] (some s2_17)), (iGm (m3 (sUpd [0] false)) [r2_3, (rk (.int .u8 (.ofNat 8))), r2_17] none), (iCall (rk (.func (.func 174) #[] #[])) [(rk (.int .i64 (.ofNat 1))), (rk (.int .u64 (.ofNat 0))), (rk (.int .u64 (.ofNat 0)))] (some s2_18)), (iCall (rk (.func (.func 175) #[] #[])) [(rk (.int .u8 (.ofNat 1)))] (some s2_19)), (iGa (aBsl 3 1 [.nilFunc] [(0, 1), (1, 1), (2, 1)]) [r2_18, r2_19, (rk (.func (.func 176) #[] #[]))] (some s2_20)), (iGm (m3 (sUpd [0] false)) [r2_3, (rk (.int .u8 (.ofNat 9))), r2_20] none), (iCall (rk (.func (.func 172) #[] #[])) [(rk (.int .u64 (.ofNat 0)))] (some s2_21)), (iCall (rk (.func (.func 175) #[] #[])) [(rk (.int .u8 (.ofNat 2)))] (some s2_22)), (iGa (aBsl 3 1 [.nilFunc] [(0, 1), (1, 1), (2, 1)]) [r2_21, r2_22, (rk (.func (.func 176) #[] #[]))] (some s2_23)), (iGm (m3 (sUpd [0] false)) [r2_3, (rk (.int .u8 (.ofNat 10))), r2_23] none), (iCall (rk (.func (.func 172) #[] #[])) [(rk (.int .u64 (.ofNat 0)))] (some s2_24)), (iCall (rk (.func (.func 175) #[] #[])) [(rk (.int .u8 (.ofNat 3)))] (some s2_25)), (iCall (rk (.func (.func 173) #[] #[])) [(rk (.int .u64 (.ofNat 0)))] (some s2_26)), (iGa (aBsl 3 1 [.nilFunc] [(0, 1), (1, 1), (2, 1)]) [r2_24, r2_25, r2_26] (some s2_27)), (iGm (m3 (sUpd [0] false)) [r2_3, (rk (.int .u8 (.ofNat 11))), r2_27] none), (iCall (rk (.func (.func 172) #[] #[])) [(rk (.int .u64 (.ofNat 0)))] (some s2_28)), (iGa (aBsl 2 1 [.nilFunc] [(0, 1), (1, 1)]) [r2_28, (rk (.func (.func 177) #[] #[]))] (some s2_29)), (iGm (m3 (sUpd [0] false)) [r2_3, (rk (.int .u8 (.ofNat 12))), r2_29] none), (iCall (rk (.func (.func 172) #[] #[])) [(rk (.int .u64 (.ofNat 0)))] (some s2_30)), (iGa (aBsl 2 1 [.nilFunc] [(0, 1), (1, 1)]) [r2_30, (rk (.func (.func 177) #[] #[]))] (some s2_31)), (iGm (m3 (sUpd [0] false)) [r2_3, (rk (.int .u8 (.ofNat 13))), r2_31] none), (iCall (rk (.func (.func 172) #[] #[])) [(rk (.int .u64 (.ofNat 0)))] (some s2_32)), (iGa (aBsl 1 1 [.nilFunc] [(0, 1)]) [r2_32] (some s2_33)), (iGm (m3 (sUpd [0] false)) [r2_3, (rk (.int .u8 (.ofNat 14))), r2_33] none), (iCall (rk (.func (.func 173) #[] #[])) [(rk (.int .u64 (.ofNat 1)))] (some s2_34)), (iGa (aBsl 1 1 [.nilFunc] [(0, 1)]) [r2_34] (some s2_35)), (iGm (m3 (sUpd [0] false)) [r2_3, (rk (.int .u8 (.ofNat 15))), r2_35] none), (iCall (rk (.func (.func 173) #[] #[])) [(rk (.int .u64 (.ofNat 1)))] (some s2_36)), (iCall (rk (.func (.func 174) #[] #[])) [(rk (.int .i64 (.ofNat 0))), (rk (.int .u64 (.ofNat 0))), (rk (.int .u64 (.ofNat 1)))] (some s2_37)), (iGa (aBsl 2 1 [.nilFunc] [(0, 1), (1, 1)]) [r2_36, r2_37] (some s2_38)), (iGm (m3 (sUpd [0] false)) [r2_3, (rk (.int .u8 (.ofNat 18))), r2_38] none), (iCall (rk (.func (.func 173) #[] #[])) [(rk (.int .u64 (.ofNat 1)))] (some s2_39)), (iGa (aBsl 1 1 [.nilFunc] [(0, 1)]) [r2_39] (some s2_40)), (iGm (m3 (sUpd [0] false)) [r2_3, (rk (.int .u8 (.ofNat 20))), r2_40] none), (iCall (rk (.func (.func 173) #[] #[])) [(rk (.int .u64 (.ofNat 0)))] (some s2_41)), (iGa (aBsl 1 1 [.nilFunc] [(0, 1)]) [r2_41] (some s2_42)), (iGm (m3 (sUpd [0] false)) [r2_3, (rk (.int .u8 (.ofNat 16))), r2_42] none), (iCall (rk (.func (.func 173) #[] #[])) [(rk (.int .u64 (.ofNat 0)))] (some s2_43)), (iCall (rk (.func (.func 174) #[] #[])) [(rk (.int .i64 (.ofNat 1))), (rk (.int .u64 (.ofNat 0))), (rk (.int .u64 (.ofNat 0)))] (some s2_44)), (iGa (aBsl 2 1 [.nilFunc] [(0, 1), (1, 1)]) [r2_43, r2_44] (some s2_45)), (iGm (m3 (sUpd [0] false)) [r2_3, (rk (.int .u8 (.ofNat 17))), r2_45] none), (iCall (rk (.func (.func 173) #[] #[])) [(rk (.int .u64 (.ofNat 0)))] (some s2_46)), (iGa (aBsl 1 1 [.nilFunc] [(0, 1)]) [r2_46] (some s2_47)), (iGm (m3 (sUpd [0] false)) [r2_3, (rk (.int .u8 (.ofNat 19))), r2_47] none), (iGa (aBsl 1 1 [.nilFunc] [(0, 1)]) [(rk (.func (.func 178) #[] #[]))] (some s2_48)), (iGm (m3 (sUpd [0] false)) [r2_3, (rk (.int .u8 (.ofNat 21))), r2_48] none), (iMv r2_3 s2_49), (iMv r2_0 s2_50), (iGr (r2 (rLook [0] false (.slice none 0 0) false)) [r2_49, r2_50] (some s2_51)), (iAs r2_51 s2_2)]
noncomputable def x161 : XC tf2 := (.rg x161_0 (.rg x161_1 .ret))
noncomputable def c161 : Code := Tryd.f161.body.getD .skip
theorem x161_b : Tryd.f161.body = some c161 := by kernel_rfl
theorem x161_c : cG (comp Tryd.prog) 2 2 52 x161 c161 = x161.den := by kernel_rfl
noncomputable def y161 : List (RR Tryd.prog 2 52 tf2) := [rrT r2_2 2 rfl rfl]
theorem x161_r : y161.map RR.den = Tryd.f161.results.toList := by kernel_rfl
theorem x161_k : okFn Tryd.f161 = true := by kernel_rfl
theorem x161_D : 2 = dep Tryd.f161.ntmps := by kernel_rfl
theorem x161_s : ([s2_0] : List (Slot tf2)).map Slot.p = (List.range' 0 1).map (pth 2) := by kernel_rfl
noncomputable def X161 : XFn Tryd.prog 2 (comp Tryd.prog) := ⟨X2, tf2, 161, Tryd.f161, c161, 2, 52, [s2_0], z2, x161, y161, x161_D, Tryd.ntmps161.symm, Tryd.func161, x161_b, x161_k, x161_s, by decide, z2_ok, x161_c, x161_r⟩
noncomputable def x168_0 : List (Ins tf2) := [(iGa (a1 gBox) [r2_1] (some s2_4)), (iAs (rk (.bool false)) s2_6)]
noncomputable def x168_1 : List (Ins tf2) := [(iMv r2_0 s2_13), (iP1 bNil r2_13 s2_14), (iP1 (bFa 0) r2_14 s2_15), (iR1 bLd r2_15 s2_16), (iMv r2_2 s2_17), (iCall (rk (.func (.func 159) #[] #[])) [r2_16, r2_17] (some s2_18)), (iMv r2_18 s2_12), (iGp (l1 (pExt 0)) [r2_12] (some s2_19)), (iGp (l1 (pExt 1)) [r2_12] (some s2_20)), (iAs r2_19 s2_7), (iAs r2_20 s2_8)]
noncomputable def x168_2 : List (Ins tf2) := [(iMv r2_8 s2_21)]
noncomputable def x168_3 : List (Ins tf2) := [(iMv r2_7 s2_22), (iP2 bNe r2_22 (rk (.int .u64 (.ofNat 0))) s2_23), (iAs r2_23 s2_6)]
noncomputable def x168_4 : List (Ins tf2) := [(iMv r2_0 s2_25), (iP1 bNil r2_25 s2_26), (iP1 (bFa 0) r2_26 s2_27), (iR1 bLd r2_27 s2_28), (iMv r2_0 s2_29), (iP1 bNil r2_29 s2_30), (iP1 (bFa 7) r2_30 s2_31), (iR1 bLd r2_31 s2_32), (iP1 (bFa 2) r2_4 s2_33), (iP1 (bFa 0) r2_33 s2_34), (iR1 bLd r2_34 s2_35), (iMv r2_2 s2_37), (iGa (aBsl 1 1 [(.int .i64 (.ofNat 0))] [(0, 1)]) [r2_37] (some s2_38)), (iRc (iGm (m2 (sApp 1)) [(rk (.slice none 0 0)), r2_35] (some s2_36)) [(rcLd r2_31 r2_32 [.o0, .o4] rfl), (rcLd r2_27 r2_28 [.o4, .o3] rfl)] rfl), (iRc (iGm (m2 (sApp 1)) [r2_36, r2_38] (some s2_39)) [(rcLd r2_31 r2_32 [.o0, .o4] rfl), (rcLd r2_27 r2_28 [.o4, .o3] rfl)] rfl), (iCall (rk (.func (.func 180) #[] #[])) [r2_28, r2_32, r2_39] (some s2_40)), (iMv r2_40 s2_24), (iGp (l1 (pExt 0)) [r2_24] (some s2_41)), (iGp (l1 (pExt 1)) [r2_24] (some s2_42)), (iGp (l1 (pExt 2)) [r2_24] (some s2_43)), (iAs r2_41 s2_9), (iAs r2_42 s2_10), (iAs r2_43 s2_11)]
noncomputable def x168_5 : List (Ins tf2) := [(iMv r2_0 s2_44), (iMv r2_11 s2_45), (iCall (rk (.func (.func 43) #[] #[])) [r2_44, r2_45] (some s2_46)), (iGp (l1 (pUn .not)) [r2_46] (some s2_47)), (iMv r2_47 s2_48), (iGd r2_48 [.o0, .o6] true (iMv r2_9 s2_49) (some s2_49) rfl rfl rfl), (iGd r2_48 [.o0, .o6] true (iP2 bEq r2_49 (rk (.int .u8 (.ofNat 0))) s2_50) (some s2_50) rfl rfl rfl), (iGp (l3 pPick) [r2_48, r2_50, (rk (.bool false))] (some s2_51))]
noncomputable def x168_6 : List (Ins tf2) := [(iMv r2_0 s2_52), (iP1 bNil r2_52 s2_53), (iP1 (bFa 9) r2_53 s2_54), (iM2 bSt r2_54 (rk (.int .u8 (.ofNat 3))))]
noncomputable def x168_7 : List (Ins tf2) := [(iMv r2_9 s2_55), (iP2 bEq r2_55 (rk (.int .u8 (.ofNat 1))) s2_56), (iAs r2_56 s2_6)]
noncomputable def x168 : XC tf2 := (.rg x168_0 (.seq (.rg x168_1 (.rg x168_2 (.cond r2_21 (.rg x168_3 .ret) .skip))) (.rg x168_4 (.seq (.rg x168_5 (.cond r2_51 (.reg x168_6) .skip)) (.rg x168_7 .ret)))))
noncomputable def c168 : Code := Tryd.f168.body.getD .skip
theorem x168_b : Tryd.f168.body = some c168 := by kernel_rfl
theorem x168_c : cG (comp Tryd.prog) 2 2 57 x168 c168 = x168.den := by kernel_rfl
noncomputable def y168 : List (RR Tryd.prog 2 57 tf2) := [rrT r2_6 6 rfl rfl]
theorem x168_r : y168.map RR.den = Tryd.f168.results.toList := by kernel_rfl
theorem x168_k : okFn Tryd.f168 = true := by kernel_rfl
theorem x168_D : 2 = dep Tryd.f168.ntmps := by kernel_rfl
theorem x168_s : ([s2_0, s2_1, s2_2] : List (Slot tf2)).map Slot.p = (List.range' 0 3).map (pth 2) := by kernel_rfl
noncomputable def X168 : XFn Tryd.prog 2 (comp Tryd.prog) := ⟨X2, tf2, 168, Tryd.f168, c168, 2, 57, [s2_0, s2_1, s2_2], z2, x168, y168, x168_D, Tryd.ntmps168.symm, Tryd.func168, x168_b, x168_k, x168_s, by decide, z2_ok, x168_c, x168_r⟩
noncomputable def x169_0 : List (Ins tf2) := [(iGr (r1 (rLdn 9)) [r2_2] (some s2_9)), (iCall (rk (.func (.func 135) #[] #[])) [r2_9] (some s2_10)), (iGa (aAl 9 [(.pointer none), (.int .i64 (.ofNat 0)), (.slice none 0 0), (.int .u8 (.ofNat 0)), (.int .i64 (.ofNat 0)), (.slice none 0 0), (.slice none 0 0), (.slice none 0 0), (.slice none 0 0)]) [] (some s2_6)), (iGm (m2 (sStn 9)) [r2_6, r2_10] none)]
noncomputable def x169_1 : List (Ins tf2) := [(iR1 bLd r2_3 s2_12), (iP1 bNil r2_12 s2_13), (iP1 (bFa 0) r2_13 s2_14), (iR1 bLd r2_14 s2_15), (iMv r2_0 s2_16), (iCall (rk (.func (.func 159) #[] #[])) [r2_15, r2_16] (some s2_17)), (iMv r2_17 s2_11), (iGp (l1 (pExt 0)) [r2_11] (some s2_18)), (iGp (l1 (pExt 1)) [r2_11] (some s2_19)), (iAs r2_18 s2_7), (iAs r2_19 s2_8)]
noncomputable def x169_2 : List (Ins tf2) := [(iMv r2_8 s2_20), (iGp (l1 (pUn .not)) [r2_20] (some s2_21))]
noncomputable def x169_3 : List (Ins tf2) := [(iP1 (bFa 2) r2_6 s2_22), (iP1 (bFa 0) r2_22 s2_23), (iR1 bLd r2_23 s2_24), (iMv r2_0 s2_25), (iGa (aBsl 1 1 [(.int .i64 (.ofNat 0))] [(0, 1)]) [r2_25] (some s2_26)), (iGm (m2 (sApp 1)) [r2_24, r2_26] (some s2_27)), (iP1 (bFa 2) r2_6 s2_28), (iP1 (bFa 0) r2_28 s2_29), (iM2 bSt r2_29 r2_27)]
noncomputable def x169_4 : List (Ins tf2) := [(iMv r2_1 s2_30), (iCall r2_30 [r2_6] (some s2_31))]
noncomputable def x169_5 : List (Ins tf2) := [(iR1 bLd r2_3 s2_32), (iR1 bLd r2_3 s2_33), (iP1 bNil r2_33 s2_34), (iP1 (bFa 8) r2_34 s2_35), (iR1 bLd r2_35 s2_36), (iGr (r1 (rLdn 9)) [r2_6] (some s2_37)), (iGa (aBsl 1 9 [(.pointer none), (.int .i64 (.ofNat 0)), (.slice none 0 0), (.int .u8 (.ofNat 0)), (.int .i64 (.ofNat 0)), (.slice none 0 0), (.slice none 0 0), (.slice none 0 0), (.slice none 0 0)] [(0, 9)]) [r2_37] (some s2_38)), (iRc (iGm (m2 (sApp 9)) [r2_36, r2_38] (some s2_39)) [(rcLd r2_3 r2_32 [.o0, .o4] rfl)] rfl), (iP1 bNil r2_32 s2_40), (iP1 (bFa 8) r2_40 s2_41), (iM2 bSt r2_41 r2_39)]
noncomputable def x169 : XC tf2 := (.rg x169_0 (.seq (.rg x169_1 (.rg x169_2 (.cond r2_21 (.reg x169_3) .skip))) (.rg x169_4 (.reg x169_5))))
noncomputable def c169 : Code := Tryd.f169.body.getD .skip
theorem x169_b : Tryd.f169.body = some c169 := by kernel_rfl
theorem x169_c : cG (comp Tryd.prog) 2 2 42 x169 c169 = x169.den := by kernel_rfl
noncomputable def y169 : List (RR Tryd.prog 2 42 tf2) := []
theorem x169_r : y169.map RR.den = Tryd.f169.results.toList := by kernel_rfl
theorem x169_k : okFn Tryd.f169 = true := by kernel_rfl
theorem x169_D : 2 = dep Tryd.f169.ntmps := by kernel_rfl
theorem x169_s : ([s2_0, s2_1, s2_2, s2_3] : List (Slot tf2)).map Slot.p = (List.range' 0 4).map (pth 2) := by kernel_rfl
noncomputable def X169 : XFn Tryd.prog 2 (comp Tryd.prog) := ⟨X2, tf2, 169, Tryd.f169, c169, 2, 42, [s2_0, s2_1, s2_2, s2_3], z2, x169, y169, x169_D, Tryd.ntmps169.symm, Tryd.func169, x169_b, x169_k, x169_s, by decide, z2_ok, x169_c, x169_r⟩
noncomputable def x170_0 : List (Ins tf2) := [(iAs (rk (.pointer none)) s2_2)]
noncomputable def x170_1 : List (Ins tf2) := [(iMv r2_0 s2_7), (iGp (l2 (pEqD (tdOf 96) false)) [r2_7, (rk (.pointer none))] (some s2_8))]
noncomputable def x170_2 : List (Ins tf2) := [(iAs (rk (.pointer none)) s2_2)]
noncomputable def x170_3 : List (Ins tf2) := [(iMv r2_0 s2_9), (iP1 bNil r2_9 s2_10), (iP1 (bFa 0) r2_10 s2_11), (iR1 bLd r2_11 s2_12), (iMv r2_0 s2_13), (iP1 bNil r2_13 s2_14), (iP1 (bFa 1) r2_14 s2_15), (iR1 bLd r2_15 s2_16), (iP1 bLen r2_16 s2_17), (iGa (a2 (gMks 1 8 [(.int .i64 (.ofNat 0))])) [r2_17, r2_17] (some s2_18)), (iGp (pBld [(.pointer none), (.slice none 0 0), (.slice none 0 0)] [(0, 1), (1, 1)]) [r2_12, r2_18] (some s2_19)), (iGa (a1 gBox) [r2_19] (some s2_20)), (iAs r2_20 s2_3)]
noncomputable def x170_4 : List (Ins tf2) := [(iMv r2_3 s2_21), (iP1 bNil r2_21 s2_22), (iP1 (bFa 1) r2_22 s2_23), (iR1 bLd r2_23 s2_24), (iMv r2_0 s2_25), (iP1 bNil r2_25 s2_26), (iP1 (bFa 1) r2_26 s2_27), (iR1 bLd r2_27 s2_28), (iGm (m2 (sCopy 1)) [r2_24, r2_28] (some s2_29))]
noncomputable def x170_5 : List (Ins tf2) := [(iMv r2_0 s2_30), (iP1 bNil r2_30 s2_31), (iP1 (bFa 2) r2_31 s2_32), (iR1 bLd r2_32 s2_33), (iP1 bLen r2_33 s2_34), (iMv (rk (.int .i64 (.ofNat 0))) s2_35)]
noncomputable def x170_6 : List (Ins tf2) := [(iP2 bLt r2_35 r2_34 s2_36)]
noncomputable def x170_7 : List (Ins tf2) := [(iP2 (bIxs 1) r2_33 r2_35 s2_37), (iR1 bLd r2_37 s2_38), (iAs r2_38 s2_5)]
noncomputable def x170_8 : List (Ins tf2) := [(iMv r2_5 s2_39), (iP1 bLen r2_39 s2_40), (iGa (a2 (gMks 1 8 [(.int .i64 (.ofNat 0))])) [r2_40, r2_40] (some s2_41)), (iAs r2_41 s2_6)]
noncomputable def x170_9 : List (Ins tf2) := [(iMv r2_6 s2_42), (iMv r2_5 s2_43), (iGm (m2 (sCopy 1)) [r2_42, r2_43] (some s2_44))]
noncomputable def x170_10 : List (Ins tf2) := [(iMv r2_3 s2_45), (iMv r2_3 s2_46), (iP1 bNil r2_46 s2_47), (iP1 (bFa 2) r2_47 s2_48), (iR1 bLd r2_48 s2_49), (iMv r2_6 s2_50), (iGa (aBsl 1 1 [(.slice none 0 0)] [(0, 1)]) [r2_50] (some s2_51)), (iGm (m2 (sApp 1)) [r2_49, r2_51] (some s2_52)), (iP1 bNil r2_45 s2_53), (iP1 (bFa 2) r2_53 s2_54), (iM2 bSt r2_54 r2_52)]
noncomputable def x170_11 : List (Ins tf2) := [(iP2 bAdd r2_35 (rk (.int .i64 (.ofNat 1))) s2_55), (iMv r2_55 s2_35)]
noncomputable def x170_12 : List (Ins tf2) := [(iMv r2_3 s2_56), (iAs r2_56 s2_2)]
noncomputable def x170 : XC tf2 := (.rg x170_0 (.seq (.rg x170_1 (.cond r2_8 (.rg x170_2 .ret) .skip)) (.rg x170_3 (.rg x170_4 (.seq (.rg x170_5 (.block 0 (.loop (.rg x170_6 (.seq (.cond r2_36 .skip (.exit 0)) (.seq (.block 1 (.rg x170_7 (.rg x170_8 (.rg x170_9 (.reg x170_10))))) (.reg x170_11))))))) (.rg x170_12 .ret))))))
noncomputable def c170 : Code := Tryd.f170.body.getD .skip
theorem x170_b : Tryd.f170.body = some c170 := by kernel_rfl
theorem x170_c : cG (comp Tryd.prog) 2 2 57 x170 c170 = x170.den := by kernel_rfl
noncomputable def y170 : List (RR Tryd.prog 2 57 tf2) := [rrT r2_2 2 rfl rfl]
theorem x170_r : y170.map RR.den = Tryd.f170.results.toList := by kernel_rfl
theorem x170_k : okFn Tryd.f170 = true := by kernel_rfl
theorem x170_D : 2 = dep Tryd.f170.ntmps := by kernel_rfl
theorem x170_s : ([s2_0] : List (Slot tf2)).map Slot.p = (List.range' 0 1).map (pth 2) := by kernel_rfl
noncomputable def X170 : XFn Tryd.prog 2 (comp Tryd.prog) := ⟨X2, tf2, 170, Tryd.f170, c170, 2, 57, [s2_0], z2, x170, y170, x170_D, Tryd.ntmps170.symm, Tryd.func170, x170_b, x170_k, x170_s, by decide, z2_ok, x170_c, x170_r⟩
noncomputable def x172_0 : List (Ins tf1) := [(iGa (a1 gBox) [r1_0] (some s1_1)), (iAs (rk .nilFunc) s1_2)]
noncomputable def x172_1 : List (Ins tf1) := [(iGp (pMkf (.func 181) 0) [r1_1] (some s1_3)), (iAs r1_3 s1_2)]
noncomputable def x172 : XC tf1 := (.rg x172_0 (.rg x172_1 .ret))
noncomputable def c172 : Code := Tryd.f172.body.getD .skip
theorem x172_b : Tryd.f172.body = some c172 := by kernel_rfl
theorem x172_c : cG (comp Tryd.prog) 2 1 4 x172 c172 = x172.den := by kernel_rfl
noncomputable def y172 : List (RR Tryd.prog 1 4 tf1) := [rrT r1_2 2 rfl rfl]
theorem x172_r : y172.map RR.den = Tryd.f172.results.toList := by kernel_rfl
theorem x172_k : okFn Tryd.f172 = true := by kernel_rfl
theorem x172_D : 1 = dep Tryd.f172.ntmps := by kernel_rfl
theorem x172_s : ([s1_0] : List (Slot tf1)).map Slot.p = (List.range' 0 1).map (pth 1) := by kernel_rfl
noncomputable def X172 : XFn Tryd.prog 2 (comp Tryd.prog) := ⟨X1, tf1, 172, Tryd.f172, c172, 1, 4, [s1_0], z1, x172, y172, x172_D, Tryd.ntmps172.symm, Tryd.func172, x172_b, x172_k, x172_s, by decide, z1_ok, x172_c, x172_r⟩
noncomputable def x173_0 : List (Ins tf1) := [(iGa (a1 gBox) [r1_0] (some s1_1)), (iAs (rk .nilFunc) s1_2)]
noncomputable def x173_1 : List (Ins tf1) := [(iGp (pMkf (.func 183) 0) [r1_1] (some s1_3)), (iAs r1_3 s1_2)]
noncomputable def x173 : XC tf1 := (.rg x173_0 (.rg x173_1 .ret))
noncomputable def c173 : Code := Tryd.f173.body.getD .skip
theorem x173_b : Tryd.f173.body = some c173 := by kernel_rfl
theorem x173_c : cG (comp Tryd.prog) 2 1 4 x173 c173 = x173.den := by kernel_rfl
noncomputable def y173 : List (RR Tryd.prog 1 4 tf1) := [rrT r1_2 2 rfl rfl]
theorem x173_r : y173.map RR.den = Tryd.f173.results.toList := by kernel_rfl
theorem x173_k : okFn Tryd.f173 = true := by kernel_rfl
theorem x173_D : 1 = dep Tryd.f173.ntmps := by kernel_rfl
theorem x173_s : ([s1_0] : List (Slot tf1)).map Slot.p = (List.range' 0 1).map (pth 1) := by kernel_rfl
noncomputable def X173 : XFn Tryd.prog 2 (comp Tryd.prog) := ⟨X1, tf1, 173, Tryd.f173, c173, 1, 4, [s1_0], z1, x173, y173, x173_D, Tryd.ntmps173.symm, Tryd.func173, x173_b, x173_k, x173_s, by decide, z1_ok, x173_c, x173_r⟩
noncomputable def x174_0 : List (Ins tf1) := [(iGa (a1 gBox) [r1_0] (some s1_3)), (iGa (a1 gBox) [r1_1] (some s1_4)), (iGa (a1 gBox) [r1_2] (some s1_5)), (iAs (rk .nilFunc) s1_6)]
noncomputable def x174_1 : List (Ins tf1) := [(iGp (pMkf (.func 184) 0) [r1_3, r1_4, r1_5] (some s1_7)), (iAs r1_7 s1_6)]
noncomputable def x174 : XC tf1 := (.rg x174_0 (.rg x174_1 .ret))
noncomputable def c174 : Code := Tryd.f174.body.getD .skip
theorem x174_b : Tryd.f174.body = some c174 := by kernel_rfl
theorem x174_c : cG (comp Tryd.prog) 2 1 8 x174 c174 = x174.den := by kernel_rfl
noncomputable def y174 : List (RR Tryd.prog 1 8 tf1) := [rrT r1_6 6 rfl rfl]
theorem x174_r : y174.map RR.den = Tryd.f174.results.toList := by kernel_rfl
theorem x174_k : okFn Tryd.f174 = true := by kernel_rfl
theorem x174_D : 1 = dep Tryd.f174.ntmps := by kernel_rfl
theorem x174_s : ([s1_0, s1_1, s1_2] : List (Slot tf1)).map Slot.p = (List.range' 0 3).map (pth 1) := by kernel_rfl
noncomputable def X174 : XFn Tryd.prog 2 (comp Tryd.prog) := ⟨X1, tf1, 174, Tryd.f174, c174, 1, 8, [s1_0, s1_1, s1_2], z1, x174, y174, x174_D, Tryd.ntmps174.symm, Tryd.func174, x174_b, x174_k, x174_s, by decide, z1_ok, x174_c, x174_r⟩
noncomputable def x175_0 : List (Ins tf1) := [(iGa (a1 gBox) [r1_0] (some s1_1)), (iAs (rk .nilFunc) s1_2)]
noncomputable def x175_1 : List (Ins tf1) := [(iGp (pMkf (.func 185) 0) [r1_1] (some s1_3)), (iAs r1_3 s1_2)]
noncomputable def x175 : XC tf1 := (.rg x175_0 (.rg x175_1 .ret))
noncomputable def c175 : Code := Tryd.f175.body.getD .skip
theorem x175_b : Tryd.f175.body = some c175 := by kernel_rfl
theorem x175_c : cG (comp Tryd.prog) 2 1 4 x175 c175 = x175.den := by kernel_rfl
noncomputable def y175 : List (RR Tryd.prog 1 4 tf1) := [rrT r1_2 2 rfl rfl]
theorem x175_r : y175.map RR.den = Tryd.f175.results.toList := by kernel_rfl
theorem x175_k : okFn Tryd.f175 = true := by kernel_rfl
theorem x175_D : 1 = dep Tryd.f175.ntmps := by kernel_rfl
theorem x175_s : ([s1_0] : List (Slot tf1)).map Slot.p = (List.range' 0 1).map (pth 1) := by kernel_rfl
noncomputable def X175 : XFn Tryd.prog 2 (comp Tryd.prog) := ⟨X1, tf1, 175, Tryd.f175, c175, 1, 4, [s1_0], z1, x175, y175, x175_D, Tryd.ntmps175.symm, Tryd.func175, x175_b, x175_k, x175_s, by decide, z1_ok, x175_c, x175_r⟩
noncomputable def x180_0 : List (Ins tf3) := [(iAs (rk (.int .u8 (.ofNat 0))) s3_6), (iAs (rk (.slice none 0 0)) s3_7), (iAs (rk (.int .i64 (.ofNat 0))) s3_8)]
noncomputable def x180_1 : List (Ins tf3) := [(iMv r3_0 s3_21), (iGp (l2 (pEqD (tdOf 34) false)) [r3_21, (rk (.pointer none))] (some s3_22))]
noncomputable def x180_2 : List (Ins tf3) := [(iAs (rk (.int .u8 (.ofNat 0))) s3_6), (iAs (rk (.slice none 0 0)) s3_7), (iAs (rk (.int .i64 (.ofNat 1))) s3_8)]
noncomputable def x180_3 : List (Ins tf3) := [(iMv r3_0 s3_24), (iMv r3_2 s3_25), (iCall (rk (.func (.func 187) #[] #[])) [r3_24, r3_25] (some s3_26)), (iMv r3_26 s3_23), (iGp (l1 (pExt 0)) [r3_23] (some s3_27)), (iGp (l1 (pExt 1)) [r3_23] (some s3_28)), (iAs r3_27 s3_9), (iAs r3_28 s3_10)]
noncomputable def x180_4 : List (Ins tf3) := [(iMv r3_1 s3_29), (iP2 bLt r3_29 (rk (.int .i64 (.ofNat 0))) s3_30), (iMv r3_30 s3_31), (iGd r3_31 [.o7, .o3, .o0] false (iMv r3_1 s3_32) (some s3_32) rfl rfl rfl), (iGd r3_31 [.o7, .o3, .o0] false (iP2 bGt r3_32 (rk (.int .i64 (.ofNat 1099511627776))) s3_33) (some s3_33) rfl rfl rfl), (iGp (l3 pPick) [r3_31, (rk (.bool true)), r3_33] (some s3_34)), (iMv r3_34 s3_35), (iGd r3_35 [.o3, .o4, .o0] false (iMv r3_10 s3_36) (some s3_36) rfl rfl rfl), (iGd r3_35 [.o3, .o4, .o0] false (iP2 bNe r3_36 (rk (.int .i64 (.ofNat 0))) s3_37) (some s3_37) rfl rfl rfl), (iGp (l3 pPick) [r3_35, (rk (.bool true)), r3_37] (some s3_38))]
noncomputable def x180_5 : List (Ins tf3) := [(iAs (rk (.int .u8 (.ofNat 0))) s3_6), (iAs (rk (.slice none 0 0)) s3_7), (iAs (rk (.int .i64 (.ofNat 3))) s3_8)]
noncomputable def x180_6 : List (Ins tf3) := [(iCall (rk (.func (.func 188) #[] #[])) [] (some s3_39)), (iAs r3_39 s3_11)]
noncomputable def x180_7 : List (Ins tf3) := [(iMv r3_0 s3_41), (iMv r3_11 s3_42), (iCall (rk (.func (.func 189) #[] #[])) [r3_41, r3_42] (some s3_43)), (iMv r3_43 s3_40), (iGp (l1 (pExt 0)) [r3_40] (some s3_44)), (iGp (l1 (pExt 1)) [r3_40] (some s3_45)), (iAs r3_44 s3_12), (iAs r3_45 s3_13)]
noncomputable def x180_8 : List (Ins tf3) := [(iMv r3_11 s3_46), (iMv r3_12 s3_47), (iGp (pBld [(.pointer none), (.pointer none), (.int .i64 (.ofNat 0))] [(0, 1), (1, 1)]) [r3_46, r3_47] (some s3_48)), (iGa (a1 gBox) [r3_48] (some s3_49)), (iAs r3_49 s3_14)]
noncomputable def x180_9 : List (Ins tf3) := [(iMv r3_2 s3_50), (iP1 bLen r3_50 s3_51), (iMv (rk (.int .i64 (.ofNat 0))) s3_52)]
noncomputable def x180_10 : List (Ins tf3) := [(iP2 bLt r3_52 r3_51 s3_53)]
noncomputable def x180_11 : List (Ins tf3) := [(iP2 (bIxs 1) r3_50 r3_52 s3_54), (iR1 bLd r3_54 s3_55), (iAs r3_55 s3_16)]
noncomputable def x180_12 : List (Ins tf3) := [(iMv r3_14 s3_56), (iMv r3_16 s3_57), (iCall (rk (.func (.func 190) #[] #[])) [r3_56, r3_57] (some s3_58)), (iAs r3_58 s3_14)]
noncomputable def x180_13 : List (Ins tf3) := [(iP2 bAdd r3_52 (rk (.int .i64 (.ofNat 1))) s3_59), (iMv r3_59 s3_52)]
noncomputable def x180_14 : List (Ins tf3) := [(iMv r3_14 s3_60), (iP1 bNil r3_60 s3_61), (iP1 (bFa 2) r3_61 s3_62), (iR1 bLd r3_62 s3_63), (iP2 bNe r3_63 (rk (.int .i64 (.ofNat 0))) s3_64)]
noncomputable def x180_15 : List (Ins tf3) := [(iAs (rk (.int .u8 (.ofNat 0))) s3_6), (iAs (rk (.slice none 0 0)) s3_7), (iAs (rk (.int .i64 (.ofNat 10))) s3_8)]
noncomputable def x180_16 : List (Ins tf3) := [(iMv r3_14 s3_66), (iP1 bNil r3_66 s3_67), (iP1 (bFa 0) r3_67 s3_68), (iR1 bLd r3_68 s3_69), (iCall (rk (.func (.func 192) #[] #[])) [r3_69] (some s3_70)), (iMv r3_1 s3_71), (iCall (rk (.func (.func 191) #[] #[])) [r3_70, r3_71] (some s3_72)), (iMv r3_72 s3_65), (iGp (l1 (pExt 0)) [r3_65] (some s3_73)), (iGp (l1 (pExt 1)) [r3_65] (some s3_74)), (iGa (aAl 3 [(.int .u8 (.ofNat 0)), (.slice none 0 0), (.slice none 0 0)]) [] (some s3_17)), (iGm (m2 (sStn 3)) [r3_17, r3_73] none), (iAs r3_74 s3_10)]
noncomputable def x180_17 : List (Ins tf3) := [(iMv r3_10 s3_75), (iP2 bNe r3_75 (rk (.int .i64 (.ofNat 0))) s3_76)]
noncomputable def x180_18 : List (Ins tf3) := [(iAs (rk (.int .u8 (.ofNat 0))) s3_6), (iAs (rk (.slice none 0 0)) s3_7), (iAs (rk (.int .i64 (.ofNat 10))) s3_8)]
noncomputable def x180_19 : List (Ins tf3) := [(iP1 (bFa 0) r3_17 s3_77), (iR1 bLd r3_77 s3_78), (iP2 bNe r3_78 (rk (.int .u8 (.ofNat 1))) s3_79)]
noncomputable def x180_20 : List (Ins tf3) := [(iP1 (bFa 0) r3_17 s3_80), (iR1 bLd r3_80 s3_81), (iAs r3_81 s3_6), (iAs (rk (.slice none 0 0)) s3_7), (iAs (rk (.int .i64 (.ofNat 0))) s3_8)]
noncomputable def x180_21 : List (Ins tf3) := [(iAs (rk (.int .i64 (.ofNat 0))) s3_18)]
noncomputable def x180_22 : List (Ins tf3) := [(iMv r3_9 s3_82), (iP1 bLen r3_82 s3_83), (iP2 bGt r3_83 (rk (.int .i64 (.ofNat 0))) s3_84)]
noncomputable def x180_23 : List (Ins tf3) := [(iMv r3_9 s3_85), (iMv r3_9 s3_86), (iP1 bLen r3_86 s3_87), (iP2 bSub r3_87 (rk (.int .i64 (.ofNat 1))) s3_88), (iP2 (bIxs 1) r3_85 r3_88 s3_89), (iR1 bLd r3_89 s3_90), (iP2 bAdd r3_90 (rk (.int .i64 (.ofNat 1))) s3_91), (iAs r3_91 s3_18)]
noncomputable def x180_24 : List (Ins tf3) := [(iMv r3_12 s3_93), (iMv r3_18 s3_94), (iP1 (bFa 1) r3_17 s3_95), (iR1 bLd r3_95 s3_96), (iCall (rk (.func (.func 193) #[] #[])) [r3_93, r3_94, r3_96] (some s3_97)), (iMv r3_97 s3_92), (iGp (l1 (pExt 0)) [r3_92] (some s3_98)), (iGp (l1 (pExt 1)) [r3_92] (some s3_99)), (iAs r3_98 s3_19), (iAs r3_99 s3_20)]
noncomputable def x180_25 : List (Ins tf3) := [(iMv r3_19 s3_100), (iAs (rk (.int .u8 (.ofNat 1))) s3_6), (iAs r3_100 s3_7), (iAs (rk (.int .i64 (.ofNat 0))) s3_8)]
noncomputable def x180_26 : XC tf3 := (.seq (.rg x180_9 (.block 0 (.loop (.rg x180_10 (.seq (.cond r3_53 .skip (.exit 0)) (.seq (.block 1 (.rg x180_11 (.reg x180_12))) (.reg x180_13))))))) (.seq (.rg x180_14 (.cond r3_64 (.rg x180_15 .ret) .skip)) (.rg x180_16 (.seq (.rg x180_17 (.cond r3_76 (.rg x180_18 .ret) .skip)) (.seq (.rg x180_19 (.cond r3_79 (.rg x180_20 .ret) .skip)) (.rg x180_21 (.seq (.rg x180_22 (.cond r3_84 (.reg x180_23) .skip)) (.rg x180_24 (.rg x180_25 .ret)))))))))
noncomputable def x180 : XC tf3 := (.rg x180_0 (.seq (.rg x180_1 (.cond r3_22 (.rg x180_2 .ret) .skip)) (.rg x180_3 (.seq (.rg x180_4 (.cond r3_38 (.rg x180_5 .ret) .skip)) (.rg x180_6 (.rg x180_7 (.rg x180_8 x180_26)))))))
noncomputable def c180 : Code := Tryd.f180.body.getD .skip
theorem x180_b : Tryd.f180.body = some c180 := by kernel_rfl
theorem x180_c : cG (comp Tryd.prog) 2 3 101 x180 c180 = x180.den := by kernel_rfl
noncomputable def y180 : List (RR Tryd.prog 3 101 tf3) := [rrT r3_6 6 rfl rfl, rrT r3_7 7 rfl rfl, rrT r3_8 8 rfl rfl]
theorem x180_r : y180.map RR.den = Tryd.f180.results.toList := by kernel_rfl
theorem x180_k : okFn Tryd.f180 = true := by kernel_rfl
theorem x180_D : 3 = dep Tryd.f180.ntmps := by kernel_rfl
theorem x180_s : ([s3_0, s3_1, s3_2] : List (Slot tf3)).map Slot.p = (List.range' 0 3).map (pth 3) := by kernel_rfl
noncomputable def X180 : XFn Tryd.prog 2 (comp Tryd.prog) := ⟨X3, tf3, 180, Tryd.f180, c180, 3, 101, [s3_0, s3_1, s3_2], z3, x180, y180, x180_D, Tryd.ntmps180.symm, Tryd.func180, x180_b, x180_k, x180_s, by decide, z3_ok, x180_c, x180_r⟩
noncomputable def x183_0 : List (Ins tf2) := [(iGa (aAl 3 [(.int .u8 (.ofNat 0)), (.int .i64 (.ofNat 0)), (.int .u64 (.ofNat 0))]) [] (some s2_3))]
noncomputable def x183_1 : List (Ins tf2) := [(iMv r2_0 s2_4), (iP1 bNil r2_4 s2_5), (iP1 (bFa 2) r2_5 s2_6), (iR1 bLd r2_6 s2_7), (iP2 (bIxs 1) r2_7 (rk (.int .i64 (.ofNat 0))) s2_8), (iR1 bLd r2_8 s2_9), (iMv r2_0 s2_10), (iP1 bNil r2_10 s2_11), (iP1 (bFa 2) r2_11 s2_12), (iR1 bLd r2_12 s2_13), (iP2 (bIxs 1) r2_13 (rk (.int .i64 (.ofNat 1))) s2_14), (iR1 bLd r2_14 s2_15), (iP2 bEq r2_9 r2_15 s2_16)]
noncomputable def x183_2 : List (Ins tf2) := [(iR1 bLd r2_1 s2_17), (iGp (pBld [(.int .u8 (.ofNat 0)), (.int .i64 (.ofNat 0)), (.int .u64 (.ofNat 0))] [(0, 1), (2, 1)]) [(rk (.int .u8 (.ofNat 2))), r2_17] (some s2_18)), (iGm (m2 (sStn 3)) [r2_3, r2_18] none)]
noncomputable def x183_3 : List (Ins tf2) := [(iGp (pBld [(.int .u8 (.ofNat 0)), (.int .i64 (.ofNat 0)), (.int .u64 (.ofNat 0))] []) [] (some s2_19)), (iGm (m2 (sStn 3)) [r2_3, r2_19] none)]
noncomputable def x183 : XC tf2 := (.rg x183_0 (.seq (.rg x183_1 (.cond r2_16 (.rg x183_2 .ret) .skip)) (.rg x183_3 .ret)))
noncomputable def c183 : Code := Tryd.f183.body.getD .skip
theorem x183_b : Tryd.f183.body = some c183 := by kernel_rfl
theorem x183_c : cG (comp Tryd.prog) 2 2 20 x183 c183 = x183.den := by kernel_rfl
noncomputable def y183 : List (RR Tryd.prog 2 20 tf2) := [rrS (.cell 3 231)]
theorem x183_r : y183.map RR.den = Tryd.f183.results.toList := by kernel_rfl
theorem x183_k : okFn Tryd.f183 = true := by kernel_rfl
theorem x183_D : 2 = dep Tryd.f183.ntmps := by kernel_rfl
theorem x183_s : ([s2_0, s2_1] : List (Slot tf2)).map Slot.p = (List.range' 0 2).map (pth 2) := by kernel_rfl
noncomputable def X183 : XFn Tryd.prog 2 (comp Tryd.prog) := ⟨X2, tf2, 183, Tryd.f183, c183, 2, 20, [s2_0, s2_1], z2, x183, y183, x183_D, Tryd.ntmps183.symm, Tryd.func183, x183_b, x183_k, x183_s, by decide, z2_ok, x183_c, x183_r⟩
end Cr
end Go.Proofs.YtjhbabgcoemecaaDoor
namespace Go.Proofs.YtjhbabgcoemecaaDoor
namespace Cr
open Go Go.RowKit
set_option maxRecDepth 100000
noncomputable def x188_0 : List (Ins tf1) := [(iAs (rk (.pointer none)) s1_0)]
noncomputable def x188_1 : List (Ins tf1) := [(iGa (aBsl 1 1 [(.int .i64 (.ofNat 0))] [(0, 1)]) [(rk (.int .i64 (.ofNat 1)))] (some s1_1)), (iGa (aBsl 1 1 [(.slice none 0 0)] [(0, 1)]) [r1_1] (some s1_2)), (iGp (pBld [(.int .i64 (.ofNat 0)), (.slice none 0 0)] [(0, 1), (1, 1)]) [(rk (.int .i64 (.ofNat 1))), r1_2] (some s1_3)), (iGp (pBld [(.int .i64 (.ofNat 0)), (.slice none 0 0)] [(0, 2)]) [r1_3] (some s1_4)), (iGa (a1 gBox) [r1_4] (some s1_5)), (iAs r1_5 s1_0)]
noncomputable def x188 : XC tf1 := (.rg x188_0 (.rg x188_1 .ret))
noncomputable def c188 : Code := Tryd.f188.body.getD .skip
theorem x188_b : Tryd.f188.body = some c188 := by kernel_rfl
theorem x188_c : cG (comp Tryd.prog) 2 1 6 x188 c188 = x188.den := by kernel_rfl
noncomputable def y188 : List (RR Tryd.prog 1 6 tf1) := [rrT r1_0 0 rfl rfl]
theorem x188_r : y188.map RR.den = Tryd.f188.results.toList := by kernel_rfl
theorem x188_k : okFn Tryd.f188 = true := by kernel_rfl
theorem x188_D : 1 = dep Tryd.f188.ntmps := by kernel_rfl
theorem x188_s : ([] : List (Slot tf1)).map Slot.p = (List.range' 0 0).map (pth 1) := by kernel_rfl
noncomputable def X188 : XFn Tryd.prog 2 (comp Tryd.prog) := ⟨X1, tf1, 188, Tryd.f188, c188, 1, 6, [], z1, x188, y188, x188_D, Tryd.ntmps188.symm, Tryd.func188, x188_b, x188_k, x188_s, by decide, z1_ok, x188_c, x188_r⟩
noncomputable def x189_0 : List (Ins tf2) := [(iAs (rk (.pointer none)) s2_4), (iAs (rk (.int .i64 (.ofNat 0))) s2_5)]
noncomputable def x189_1 : List (Ins tf2) := [(iMv r2_0 s2_6), (iGp (l2 (pEqD (tdOf 34) false)) [r2_6, (rk (.pointer none))] (some s2_7)), (iMv r2_7 s2_8), (iGd r2_8 [.o0, .o1] false (iMv r2_1 s2_9) (some s2_9) rfl rfl rfl), (iGd r2_8 [.o0, .o1] false (iGp (l2 (pEqD (tdOf 249) false)) [r2_9, (rk (.pointer none))] (some s2_10)) (some s2_10) rfl rfl rfl), (iGp (l3 pPick) [r2_8, (rk (.bool true)), r2_10] (some s2_11))]
noncomputable def x189_2 : List (Ins tf2) := [(iAs (rk (.pointer none)) s2_4), (iAs (rk (.int .i64 (.ofNat 1))) s2_5)]
noncomputable def x189_3 : List (Ins tf2) := [(iMv r2_0 s2_12), (iMv r2_1 s2_13), (iGa aMm [] (some s2_14)), (iGa aMm [] (some s2_15)), (iGp (pBld [(.pointer none), (.pointer none), (.map none), (.map none)] [(0, 1), (1, 1), (2, 1), (3, 1)]) [r2_12, r2_13, r2_14, r2_15] (some s2_16)), (iGa (a1 gBox) [r2_16] (some s2_17)), (iAs r2_17 s2_4), (iAs (rk (.int .i64 (.ofNat 0))) s2_5)]
noncomputable def x189 : XC tf2 := (.rg x189_0 (.seq (.rg x189_1 (.cond r2_11 (.rg x189_2 .ret) .skip)) (.rg x189_3 .ret)))
noncomputable def c189 : Code := Tryd.f189.body.getD .skip
theorem x189_b : Tryd.f189.body = some c189 := by kernel_rfl
theorem x189_c : cG (comp Tryd.prog) 2 2 18 x189 c189 = x189.den := by kernel_rfl
noncomputable def y189 : List (RR Tryd.prog 2 18 tf2) := [rrT r2_4 4 rfl rfl, rrT r2_5 5 rfl rfl]
theorem x189_r : y189.map RR.den = Tryd.f189.results.toList := by kernel_rfl
theorem x189_k : okFn Tryd.f189 = true := by kernel_rfl
theorem x189_D : 2 = dep Tryd.f189.ntmps := by kernel_rfl
theorem x189_s : ([s2_0, s2_1] : List (Slot tf2)).map Slot.p = (List.range' 0 2).map (pth 2) := by kernel_rfl
noncomputable def X189 : XFn Tryd.prog 2 (comp Tryd.prog) := ⟨X2, tf2, 189, Tryd.f189, c189, 2, 18, [s2_0, s2_1], z2, x189, y189, x189_D, Tryd.ntmps189.symm, Tryd.func189, x189_b, x189_k, x189_s, by decide, z2_ok, x189_c, x189_r⟩
noncomputable def x190_0 : List (Ins tf2) := [(iAs (rk (.pointer none)) s2_4)]
noncomputable def x190_1 : List (Ins tf2) := [(iMv r2_0 s2_7), (iP1 bNil r2_7 s2_8), (iP1 (bFa 2) r2_8 s2_9), (iR1 bLd r2_9 s2_10), (iP2 bNe r2_10 (rk (.int .i64 (.ofNat 0))) s2_11)]
noncomputable def x190_2 : List (Ins tf2) := [(iMv r2_0 s2_12), (iAs r2_12 s2_4)]
noncomputable def x190_3 : List (Ins tf2) := [(iAs (rk (.slice none 0 0)) s2_5)]
noncomputable def x190_4 : List (Ins tf2) := [(iMv r2_0 s2_14), (iMv r2_0 s2_15), (iP1 bNil r2_15 s2_16), (iP1 (bFa 1) r2_16 s2_17), (iR1 bLd r2_17 s2_18), (iMv r2_1 s2_19), (iCall (rk (.func (.func 196) #[] #[])) [r2_18, r2_19] (some s2_20)), (iMv r2_20 s2_13), (iGp (l1 (pExt 0)) [r2_13] (some s2_21)), (iGp (l1 (pExt 1)) [r2_13] (some s2_22)), (iAs r2_21 s2_5), (iP1 bNil r2_14 s2_23), (iP1 (bFa 2) r2_23 s2_24), (iM2 bSt r2_24 r2_22)]
noncomputable def x190_5 : List (Ins tf2) := [(iMv r2_0 s2_25), (iP1 bNil r2_25 s2_26), (iP1 (bFa 2) r2_26 s2_27), (iR1 bLd r2_27 s2_28), (iP2 bNe r2_28 (rk (.int .i64 (.ofNat 0))) s2_29)]
noncomputable def x190_6 : List (Ins tf2) := [(iMv r2_0 s2_30), (iAs r2_30 s2_4)]
noncomputable def x190_7 : List (Ins tf2) := [(iAs (rk (.int .i64 (.ofNat 0))) s2_6)]
noncomputable def x190_8 : List (Ins tf2) := [(iMv r2_0 s2_32), (iMv r2_0 s2_33), (iP1 bNil r2_33 s2_34), (iP1 (bFa 0) r2_34 s2_35), (iR1 bLd r2_35 s2_36), (iMv r2_5 s2_37), (iCall (rk (.func (.func 197) #[] #[])) [r2_36, r2_37] (some s2_38)), (iMv r2_38 s2_31), (iGp (l1 (pExt 0)) [r2_31] (some s2_39)), (iGp (l1 (pExt 1)) [r2_31] (some s2_40)), (iAs r2_39 s2_6), (iP1 bNil r2_32 s2_41), (iP1 (bFa 2) r2_41 s2_42), (iM2 bSt r2_42 r2_40)]
noncomputable def x190_9 : List (Ins tf2) := [(iMv r2_0 s2_43), (iP1 bNil r2_43 s2_44), (iP1 (bFa 2) r2_44 s2_45), (iR1 bLd r2_45 s2_46), (iP2 bEq r2_46 (rk (.int .i64 (.ofNat 0))) s2_47)]
noncomputable def x190_10 : List (Ins tf2) := [(iMv r2_0 s2_48), (iMv r2_0 s2_49), (iP1 bNil r2_49 s2_50), (iP1 (bFa 0) r2_50 s2_51), (iR1 bLd r2_51 s2_52), (iMv r2_6 s2_53), (iGa (aBsl 1 1 [(.int .i64 (.ofNat 0))] [(0, 1)]) [r2_53] (some s2_54)), (iCall (rk (.func (.func 198) #[] #[])) [r2_52, r2_54] (some s2_55)), (iP1 bNil r2_48 s2_56), (iP1 (bFa 2) r2_56 s2_57), (iM2 bSt r2_57 r2_55)]
noncomputable def x190_11 : List (Ins tf2) := [(iMv r2_0 s2_58), (iAs r2_58 s2_4)]
noncomputable def x190 : XC tf2 := (.rg x190_0 (.seq (.rg x190_1 (.cond r2_11 (.rg x190_2 .ret) .skip)) (.rg x190_3 (.rg x190_4 (.seq (.rg x190_5 (.cond r2_29 (.rg x190_6 .ret) .skip)) (.rg x190_7 (.seq (.rg x190_8 (.rg x190_9 (.cond r2_47 (.reg x190_10) .skip))) (.rg x190_11 .ret))))))))
noncomputable def c190 : Code := Tryd.f190.body.getD .skip
theorem x190_b : Tryd.f190.body = some c190 := by kernel_rfl
theorem x190_c : cG (comp Tryd.prog) 2 2 59 x190 c190 = x190.den := by kernel_rfl
noncomputable def y190 : List (RR Tryd.prog 2 59 tf2) := [rrT r2_4 4 rfl rfl]
theorem x190_r : y190.map RR.den = Tryd.f190.results.toList := by kernel_rfl
theorem x190_k : okFn Tryd.f190 = true := by kernel_rfl
theorem x190_D : 2 = dep Tryd.f190.ntmps := by kernel_rfl
theorem x190_s : ([s2_0, s2_1] : List (Slot tf2)).map Slot.p = (List.range' 0 2).map (pth 2) := by kernel_rfl
noncomputable def X190 : XFn Tryd.prog 2 (comp Tryd.prog) := ⟨X2, tf2, 190, Tryd.f190, c190, 2, 59, [s2_0, s2_1], z2, x190, y190, x190_D, Tryd.ntmps190.symm, Tryd.func190, x190_b, x190_k, x190_s, by decide, z2_ok, x190_c, x190_r⟩
noncomputable def x191_0 : List (Ins tf3) := [(iGa (a1 gBox) [r3_0] (some s3_2)), (iGa (aAl 3 [(.int .u8 (.ofNat 0)), (.slice none 0 0), (.slice none 0 0)]) [] (some s3_4)), (iAs (rk (.int .i64 (.ofNat 0))) s3_5)]
noncomputable def x191_1 : List (Ins tf3) := [(iGr (r1 (rLdn 2)) [r3_2] (some s3_19)), (iCall (rk (.func (.func 199) #[] #[])) [r3_19] (some s3_20)), (iAs r3_20 s3_6)]
noncomputable def x191_2 : List (Ins tf3) := [(iMv r3_6 s3_21), (iP2 bNe r3_21 (rk (.int .i64 (.ofNat 0))) s3_22)]
noncomputable def x191_3 : List (Ins tf3) := [(iGp (pBld [(.int .u8 (.ofNat 0)), (.slice none 0 0), (.slice none 0 0)] []) [] (some s3_23)), (iMv r3_6 s3_24), (iGm (m2 (sStn 3)) [r3_4, r3_23] none), (iAs r3_24 s3_5)]
noncomputable def x191_4 : List (Ins tf3) := [(iMv r3_1 s3_25), (iP2 bLt r3_25 (rk (.int .i64 (.ofNat 0))) s3_26), (iMv r3_26 s3_27), (iGd r3_27 [.o3, .o3, .o0] false (iMv r3_1 s3_28) (some s3_28) rfl rfl rfl), (iGd r3_27 [.o3, .o3, .o0] false (iP2 bGt r3_28 (rk (.int .i64 (.ofNat 1099511627776))) s3_29) (some s3_29) rfl rfl rfl), (iGp (l3 pPick) [r3_27, (rk (.bool true)), r3_29] (some s3_30))]
noncomputable def x191_5 : List (Ins tf3) := [(iGp (pBld [(.int .u8 (.ofNat 0)), (.slice none 0 0), (.slice none 0 0)] []) [] (some s3_31)), (iGm (m2 (sStn 3)) [r3_4, r3_31] none), (iAs (rk (.int .i64 (.ofNat 3))) s3_5)]
noncomputable def x191_6 : List (Ins tf3) := [(iP1 (bFa 0) r3_2 s3_33), (iR1 bLd r3_33 s3_34), (iCall (rk (.func (.func 200) #[] #[])) [r3_34] (some s3_35)), (iMv r3_35 s3_32), (iGp (l1 (pExt 0)) [r3_32] (some s3_36)), (iGp (l1 (pExt 1)) [r3_32] (some s3_37)), (iAs r3_36 s3_7), (iAs r3_37 s3_8)]
noncomputable def x191_7 : List (Ins tf3) := [(iMv r3_8 s3_38), (iP2 bNe r3_38 (rk (.int .i64 (.ofNat 0))) s3_39)]
noncomputable def x191_8 : List (Ins tf3) := [(iGp (pBld [(.int .u8 (.ofNat 0)), (.slice none 0 0), (.slice none 0 0)] []) [] (some s3_40)), (iMv r3_8 s3_41), (iGm (m2 (sStn 3)) [r3_4, r3_40] none), (iAs r3_41 s3_5)]
noncomputable def x191_9 : List (Ins tf3) := [(iP1 (bFa 0) r3_2 s3_42), (iR1 bLd r3_42 s3_43), (iP2 bAdd r3_43 (rk (.int .i64 (.ofNat 1))) s3_44), (iAs r3_44 s3_9)]
noncomputable def x191_10 : List (Ins tf3) := [(iMv r3_7 s3_45), (iMv r3_9 s3_46), (iGp (l2 (pBin .mul)) [(rk (.int .i64 (.ofNat 2))), r3_46] (some s3_47)), (iGa (a2 (gMks 1 24 [(.slice none 0 0)])) [r3_47, r3_47] (some s3_48)), (iMv r3_9 s3_49), (iGa (a2 (gMks 1 1 [(.int .i8 (.ofNat 0))])) [r3_49, r3_49] (some s3_50)), (iMv r3_9 s3_51), (iGa (a2 (gMks 1 1 [(.int .i8 (.ofNat 0))])) [r3_51, r3_51] (some s3_52)), (iMv r3_9 s3_53), (iGa (a2 (gMks 1 8 [(.int .i64 (.ofNat 0))])) [r3_53, r3_53] (some s3_54)), (iMv r3_9 s3_55), (iGa (a2 (gMks 1 8 [(.int .i64 (.ofNat 0))])) [r3_55, r3_55] (some s3_56)), (iMv r3_9 s3_57), (iGa (a2 (gMks 1 1 [(.bool false)])) [r3_57, r3_57] (some s3_58)), (iGp (pBld [(.pointer none), (.slice none 0 0), (.slice none 0 0), (.slice none 0 0), (.slice none 0 0), (.slice none 0 0), (.slice none 0 0), (.slice none 0 0), (.slice none 0 0), (.int .i64 (.ofNat 0)), (.slice none 0 0), (.slice none 0 0), (.int .i64 (.ofNat 0))] [(0, 1), (2, 1), (3, 1), (4, 1), (5, 1), (6, 1), (7, 1), (12, 1)]) [r3_45, r3_48, r3_50, r3_52, r3_54, r3_56, r3_58, (rk (.int .i64 (.ofNat 16)))] (some s3_59)), (iGa (a1 gBox) [r3_59] (some s3_60)), (iAs r3_60 s3_10)]
noncomputable def x191_11 : List (Ins tf3) := [(iMv r3_10 s3_61), (iGr (r1 (rLdn 2)) [r3_2] (some s3_62)), (iCall (rk (.func (.func 201) #[] #[])) [r3_61, r3_62] (some s3_63)), (iGp (l1 (pUn .not)) [r3_63] (some s3_64))]
noncomputable def x191_12 : List (Ins tf3) := [(iMv r3_10 s3_65), (iCall (rk (.func (.func 202) #[] #[])) [r3_65] (some s3_66)), (iGm (m2 (sStn 3)) [r3_4, r3_66] none), (iAs (rk (.int .i64 (.ofNat 0))) s3_5)]
noncomputable def x191_13 : List (Ins tf3) := [(iAs (rk (.int .i64 (.ofNat 0))) s3_11), (iAs (rk (.int .i64 (.ofNat 1))) s3_12), (iAs (rk (.int .i64 (.ofNat 64))) s3_13)]
noncomputable def x191_14 : List (Ins tf3) := [(iMv r3_10 s3_67), (iCall (rk (.func (.func 203) #[] #[])) [r3_67] (some s3_68)), (iAs r3_68 s3_14)]
noncomputable def x191_15 : List (Ins tf3) := [(iMv r3_14 s3_107), (iP2 bGe r3_107 (rk (.int .i64 (.ofNat 0))) s3_108), (iMv r3_108 s3_109), (iGd r3_109 [.o5, .o5, .o1] true (iMv r3_10 s3_110) (some s3_110) rfl rfl rfl), (iGd r3_109 [.o5, .o5, .o1] true (iP1 bNil r3_110 s3_111) (some s3_111) rfl rfl rfl), (iGd r3_109 [.o5, .o5, .o1] true (iP1 (bFa 10) r3_111 s3_112) (some s3_112) rfl rfl rfl), (iGd r3_109 [.o5, .o5, .o1] true (iR1 bLd r3_112 s3_113) (some s3_113) rfl rfl rfl), (iGd r3_109 [.o5, .o5, .o1] true (iP1 bLen r3_113 s3_114) (some s3_114) rfl rfl rfl), (iGd r3_109 [.o5, .o5, .o1] true (iP2 bEq r3_114 (rk (.int .i64 (.ofNat 0))) s3_115) (some s3_115) rfl rfl rfl), (iGp (l3 pPick) [r3_109, r3_115, (rk (.bool false))] (some s3_116)), (iAs r3_116 s3_106)]
noncomputable def x191_16 : List (Ins tf3) := [(iMv r3_10 s3_117), (iCall (rk (.func (.func 202) #[] #[])) [r3_117] (some s3_118)), (iGm (m2 (sStn 3)) [r3_4, r3_118] none), (iAs (rk (.int .i64 (.ofNat 0))) s3_5)]
noncomputable def x191_17 : List (Ins tf3) := [(iMv r3_14 s3_120), (iP2 bGe r3_120 (rk (.int .i64 (.ofNat 0))) s3_121), (iAs r3_121 s3_119)]
noncomputable def x191_18 : List (Ins tf3) := [(iMv r3_11 s3_122), (iP2 bAdd r3_122 (rk (.int .i64 (.ofNat 1))) s3_123), (iAs r3_123 s3_11)]
noncomputable def x191_19 : List (Ins tf3) := [(iMv r3_10 s3_125), (iMv r3_14 s3_126), (iCall (rk (.func (.func 204) #[] #[])) [r3_125, r3_126] (some s3_127)), (iMv r3_127 s3_124), (iGp (l1 (pExt 0)) [r3_124] (some s3_128)), (iGp (l1 (pExt 1)) [r3_124] (some s3_129)), (iAs r3_128 s3_15), (iAs r3_129 s3_16)]
noncomputable def x191_20 : List (Ins tf3) := [(iMv r3_10 s3_130), (iMv r3_10 s3_131), (iP1 bNil r3_131 s3_132), (iP1 (bFa 11) r3_132 s3_133), (iR1 bLd r3_133 s3_134), (iMv r3_15 s3_135), (iRc (iGm (m2 (sApp 1)) [(rk (.slice none 0 0)), r3_135] (some s3_136)) [(rcLd r3_133 r3_134 [.o6, .o0, .o2] rfl)] rfl), (iGa (aBsl 1 1 [(.slice none 0 0)] [(0, 1)]) [r3_136] (some s3_137)), (iGm (m2 (sApp 1)) [r3_134, r3_137] (some s3_138)), (iP1 bNil r3_130 s3_139), (iP1 (bFa 11) r3_139 s3_140), (iM2 bSt r3_140 r3_138)]
noncomputable def x191_21 : List (Ins tf3) := [(iMv r3_10 s3_141), (iMv r3_16 s3_142), (iCall (rk (.func (.func 205) #[] #[])) [r3_141, r3_142] (some s3_143))]
noncomputable def x191_22 : List (Ins tf3) := [(iAs (rk (.int .i64 (.negSucc 0))) s3_17)]
noncomputable def x191_23 : List (Ins tf3) := [(iMv r3_15 s3_144), (iP1 bLen r3_144 s3_145), (iP2 bGt r3_145 (rk (.int .i64 (.ofNat 1))) s3_146)]
noncomputable def x191_24 : List (Ins tf3) := [(iMv r3_10 s3_147), (iMv r3_15 s3_148), (iCall (rk (.func (.func 206) #[] #[])) [r3_147, r3_148] (some s3_149)), (iAs r3_149 s3_17)]
noncomputable def x191_25 : List (Ins tf3) := [(iMv r3_10 s3_150), (iMv r3_15 s3_151), (iP2 (bIxs 1) r3_151 (rk (.int .i64 (.ofNat 0))) s3_152), (iR1 bLd r3_152 s3_153), (iMv r3_17 s3_154), (iCall (rk (.func (.func 207) #[] #[])) [r3_150, r3_153, r3_154] (some s3_155))]
noncomputable def x191_26 : List (Ins tf3) := [(iMv r3_10 s3_156), (iMv r3_10 s3_157), (iP1 bNil r3_157 s3_158), (iP1 (bFa 12) r3_158 s3_159), (iR1 bLd r3_159 s3_160), (iMv r3_10 s3_161), (iP1 bNil r3_161 s3_162), (iP1 (bFa 12) r3_162 s3_163), (iR1 bLd r3_163 s3_164), (iGp (l2 (pBin .quo)) [r3_164, (rk (.int .i64 (.ofNat 16)))] (some s3_165)), (iP2 bAdd r3_160 r3_165 s3_166), (iGp (l2 pMin) [r3_166, (rk (.int .i64 (.ofNat 1099511627776)))] (some s3_167)), (iP1 bNil r3_156 s3_168), (iP1 (bFa 12) r3_168 s3_169), (iM2 bSt r3_169 r3_167)]
noncomputable def x191_27 : List (Ins tf3) := [(iMv r3_1 s3_170), (iP2 bGt r3_170 (rk (.int .i64 (.ofNat 0))) s3_171), (iMv r3_171 s3_172), (iGd r3_172 [.o4, .o5, .o2] true (iMv r3_11 s3_173) (some s3_173) rfl rfl rfl), (iGd r3_172 [.o4, .o5, .o2] true (iMv r3_1 s3_174) (some s3_174) rfl rfl rfl), (iGd r3_172 [.o4, .o5, .o2] true (iP2 bGe r3_173 r3_174 s3_175) (some s3_175) rfl rfl rfl), (iGp (l3 pPick) [r3_172, r3_175, (rk (.bool false))] (some s3_176))]
noncomputable def x191_28 : List (Ins tf3) := [(iMv r3_11 s3_178), (iMv r3_13 s3_179), (iP2 bGe r3_178 r3_179 s3_180), (iAs r3_180 s3_177)]
noncomputable def x191_29 : List (Ins tf3) := [(iMv r3_12 s3_181), (iP2 bAdd r3_181 (rk (.int .i64 (.ofNat 1))) s3_182), (iAs r3_182 s3_12)]
noncomputable def x191_30 : List (Ins tf3) := [(iMv r3_11 s3_183), (iMv r3_12 s3_184), (iCall (rk (.func (.func 208) #[] #[])) [r3_184] (some s3_185)), (iGp (l2 (pBin .mul)) [(rk (.int .i64 (.ofNat 64))), r3_185] (some s3_186)), (iP2 bAdd r3_183 r3_186 s3_187), (iAs r3_187 s3_13)]
noncomputable def x191_31 : List (Ins tf3) := [(iMv r3_10 s3_188), (iCall (rk (.func (.func 205) #[] #[])) [r3_188, (rk (.int .i64 (.ofNat 0)))] (some s3_189))]
noncomputable def x191_32 : List (Ins tf3) := [(iMv r3_10 s3_69), (iCall (rk (.func (.func 209) #[] #[])) [r3_69] (some s3_70)), (iAs r3_70 s3_18)]
noncomputable def x191_33 : List (Ins tf3) := [(iMv r3_18 s3_71), (iP2 bEq r3_71 (rk (.int .i64 (.ofNat 0))) s3_72)]
noncomputable def x191_34 : List (Ins tf3) := [(iMv r3_10 s3_73), (iCall (rk (.func (.func 210) #[] #[])) [r3_73] (some s3_74)), (iGp (pBld [(.int .u8 (.ofNat 0)), (.slice none 0 0), (.slice none 0 0)] [(0, 1), (1, 1)]) [(rk (.int .u8 (.ofNat 1))), r3_74] (some s3_75)), (iGm (m2 (sStn 3)) [r3_4, r3_75] none), (iAs (rk (.int .i64 (.ofNat 0))) s3_5)]
noncomputable def x191_35 : List (Ins tf3) := [(iMv r3_10 s3_76), (iMv r3_10 s3_77), (iP1 bNil r3_77 s3_78), (iP1 (bFa 10) r3_78 s3_79), (iR1 bLd r3_79 s3_80), (iMv r3_10 s3_81), (iP1 bNil r3_81 s3_82), (iP1 (bFa 8) r3_82 s3_83), (iR1 bLd r3_83 s3_84), (iP1 bLen r3_84 s3_85), (iGp (pBld [(.int .i64 (.ofNat 0))] [(0, 1)]) [r3_85] (some s3_86)), (iGa (aBsl 1 1 [(.int .i64 (.ofNat 0))] [(0, 1)]) [r3_86] (some s3_87)), (iGm (m2 (sApp 1)) [r3_80, r3_87] (some s3_88)), (iP1 bNil r3_76 s3_89), (iP1 (bFa 10) r3_89 s3_90), (iM2 bSt r3_90 r3_88)]
noncomputable def x191_36 : List (Ins tf3) := [(iMv r3_10 s3_91), (iP1 bNil r3_91 s3_92), (iP1 (bFa 4) r3_92 s3_93), (iR1 bLd r3_93 s3_94), (iMv r3_18 s3_95), (iP2 (bIxs 1) r3_94 r3_95 s3_96), (iR1 bLd r3_96 s3_97), (iP2 bEq r3_97 (rk (.int .i8 (.ofNat 1))) s3_98)]
noncomputable def x191_37 : List (Ins tf3) := [(iMv r3_10 s3_99), (iMv r3_18 s3_100), (iCall (rk (.func (.func 207) #[] #[])) [r3_99, r3_100, (rk (.int .i64 (.negSucc 0)))] (some s3_101))]
noncomputable def x191_38 : List (Ins tf3) := [(iMv r3_10 s3_102), (iMv r3_18 s3_103), (iGp (l1 (pUn .neg)) [r3_103] (some s3_104)), (iCall (rk (.func (.func 207) #[] #[])) [r3_102, r3_104, (rk (.int .i64 (.negSucc 0)))] (some s3_105))]
noncomputable def x191_39 : XC tf3 := (.cond r3_119 (.rg x191_18 (.rg x191_19 (.rg x191_20 (.rg x191_21 (.rg x191_22 (.seq (.rg x191_23 (.cond r3_146 (.reg x191_24) .skip)) (.rg x191_25 (.rg x191_26 (.rg x191_27 (.cond r3_176 (.exit 0) .skip)))))))))) (.rg x191_28 (.cond r3_177 (.rg x191_29 (.rg x191_30 (.reg x191_31))) (.rg x191_32 (.seq (.rg x191_33 (.cond r3_72 (.rg x191_34 .ret) .skip)) (.rg x191_35 (.rg x191_36 (.cond r3_98 (.reg x191_37) (.reg x191_38)))))))))
noncomputable def x191_40 : List (Ins tf3) := [(iGp (pBld [(.int .u8 (.ofNat 0)), (.slice none 0 0), (.slice none 0 0)] []) [] (some s3_190)), (iGm (m2 (sStn 3)) [r3_4, r3_190] none), (iAs (rk (.int .i64 (.ofNat 0))) s3_5)]
noncomputable def x191_41 : XC tf3 := (.seq (.rg x191_1 (.rg x191_2 (.cond r3_22 (.rg x191_3 .ret) .skip))) (.seq (.rg x191_4 (.cond r3_30 (.rg x191_5 .ret) .skip)) (.rg x191_6 (.seq (.rg x191_7 (.cond r3_39 (.rg x191_8 .ret) .skip)) (.rg x191_9 (.rg x191_10 (.seq (.rg x191_11 (.cond r3_64 (.rg x191_12 .ret) .skip)) (.rg x191_13 (.seq .skip (.seq (.block 0 (.loop (.block 1 (.rg x191_14 (.block 2 (.rg x191_15 (.cond r3_106 (.rg x191_16 .ret) (.rg x191_17 x191_39)))))))) (.rg x191_40 .ret)))))))))))
noncomputable def x191 : XC tf3 := (.rg x191_0 (.scope x191_41))
noncomputable def c191 : Code := Tryd.f191.body.getD .skip
theorem x191_b : Tryd.f191.body = some c191 := by kernel_rfl
theorem x191_c : cG (comp Tryd.prog) 2 3 191 x191 c191 = x191.den := by kernel_rfl
noncomputable def y191 : List (RR Tryd.prog 3 191 tf3) := [rrS (.cell 4 259), rrT r3_5 5 rfl rfl]
theorem x191_r : y191.map RR.den = Tryd.f191.results.toList := by kernel_rfl
theorem x191_k : okFn Tryd.f191 = true := by kernel_rfl
theorem x191_D : 3 = dep Tryd.f191.ntmps := by kernel_rfl
theorem x191_s : ([s3_0, s3_1] : List (Slot tf3)).map Slot.p = (List.range' 0 2).map (pth 3) := by kernel_rfl
noncomputable def X191 : XFn Tryd.prog 2 (comp Tryd.prog) := ⟨X3, tf3, 191, Tryd.f191, c191, 3, 191, [s3_0, s3_1], z3, x191, y191, x191_D, Tryd.ntmps191.symm, Tryd.func191, x191_b, x191_k, x191_s, by decide, z3_ok, x191_c, x191_r⟩
noncomputable def x192_0 : List (Ins tf2) := [(iGa (aAl 2 [(.int .i64 (.ofNat 0)), (.slice none 0 0)]) [] (some s2_2))]
noncomputable def x192_1 : List (Ins tf2) := [(iMv r2_0 s2_6), (iGp (l2 (pEqD (tdOf 249) false)) [r2_6, (rk (.pointer none))] (some s2_7))]
noncomputable def x192_2 : List (Ins tf2) := [(iGp (pBld [(.int .i64 (.ofNat 0)), (.slice none 0 0)] []) [] (some s2_8)), (iGm (m2 (sStn 2)) [r2_2, r2_8] none)]
noncomputable def x192_3 : List (Ins tf2) := [(iMv r2_0 s2_9), (iP1 bNil r2_9 s2_10), (iP1 (bFa 0) r2_10 s2_11), (iP1 (bFa 0) r2_11 s2_12), (iR1 bLd r2_12 s2_13), (iMv r2_0 s2_14), (iP1 bNil r2_14 s2_15), (iP1 (bFa 0) r2_15 s2_16), (iP1 (bFa 1) r2_16 s2_17), (iR1 bLd r2_17 s2_18), (iP1 bLen r2_18 s2_19), (iGa (a2 (gMks 1 24 [(.slice none 0 0)])) [r2_19, r2_19] (some s2_20)), (iGp (pBld [(.int .i64 (.ofNat 0)), (.slice none 0 0)] [(0, 1), (1, 1)]) [r2_13, r2_20] (some s2_21)), (iGa (aAl 2 [(.int .i64 (.ofNat 0)), (.slice none 0 0)]) [] (some s2_3)), (iGm (m2 (sStn 2)) [r2_3, r2_21] none)]
noncomputable def x192_4 : List (Ins tf2) := [(iMv r2_0 s2_22), (iP1 bNil r2_22 s2_23), (iP1 (bFa 0) r2_23 s2_24), (iP1 (bFa 1) r2_24 s2_25), (iR1 bLd r2_25 s2_26), (iP1 bLen r2_26 s2_27), (iMv (rk (.int .i64 (.ofNat 0))) s2_28)]
noncomputable def x192_5 : List (Ins tf2) := [(iP2 bLt r2_28 r2_27 s2_29)]
noncomputable def x192_6 : List (Ins tf2) := [(iMv r2_28 s2_30), (iP2 (bIxs 1) r2_26 r2_28 s2_31), (iR1 bLd r2_31 s2_32), (iAs r2_30 s2_4), (iAs r2_32 s2_5)]
noncomputable def x192_7 : List (Ins tf2) := [(iP1 (bFa 1) r2_3 s2_33), (iR1 bLd r2_33 s2_34), (iMv r2_4 s2_35), (iMv r2_5 s2_36), (iRc (iGm (m2 (sApp 1)) [(rk (.slice none 0 0)), r2_36] (some s2_37)) [(rcLd r2_33 r2_34 [.o2, .o4] rfl)] rfl), (iP2 (bIxs 1) r2_34 r2_35 s2_38), (iM2 bSt r2_38 r2_37)]
noncomputable def x192_8 : List (Ins tf2) := [(iP2 bAdd r2_28 (rk (.int .i64 (.ofNat 1))) s2_39), (iMv r2_39 s2_28)]
noncomputable def x192_9 : List (Ins tf2) := [(iGr (r1 (rLdn 2)) [r2_3] (some s2_40)), (iGm (m2 (sStn 2)) [r2_2, r2_40] none)]
noncomputable def x192 : XC tf2 := (.rg x192_0 (.seq (.rg x192_1 (.cond r2_7 (.rg x192_2 .ret) .skip)) (.rg x192_3 (.seq (.rg x192_4 (.block 0 (.loop (.rg x192_5 (.seq (.cond r2_29 .skip (.exit 0)) (.seq (.block 1 (.rg x192_6 (.reg x192_7))) (.reg x192_8))))))) (.rg x192_9 .ret)))))
noncomputable def c192 : Code := Tryd.f192.body.getD .skip
theorem x192_b : Tryd.f192.body = some c192 := by kernel_rfl
theorem x192_c : cG (comp Tryd.prog) 2 2 41 x192 c192 = x192.den := by kernel_rfl
noncomputable def y192 : List (RR Tryd.prog 2 41 tf2) := [rrS (.cell 2 263)]
theorem x192_r : y192.map RR.den = Tryd.f192.results.toList := by kernel_rfl
theorem x192_k : okFn Tryd.f192 = true := by kernel_rfl
theorem x192_D : 2 = dep Tryd.f192.ntmps := by kernel_rfl
theorem x192_s : ([s2_0] : List (Slot tf2)).map Slot.p = (List.range' 0 1).map (pth 2) := by kernel_rfl
noncomputable def X192 : XFn Tryd.prog 2 (comp Tryd.prog) := ⟨X2, tf2, 192, Tryd.f192, c192, 2, 41, [s2_0], z2, x192, y192, x192_D, Tryd.ntmps192.symm, Tryd.func192, x192_b, x192_k, x192_s, by decide, z2_ok, x192_c, x192_r⟩
noncomputable def x193_0 : List (Ins tf3) := [(iAs (rk (.slice none 0 0)) s3_6), (iAs (rk (.int .i64 (.ofNat 0))) s3_7)]
noncomputable def x193_1 : List (Ins tf3) := [(iMv r3_0 s3_13), (iGp (l2 (pEqD (tdOf 251) false)) [r3_13, (rk (.pointer none))] (some s3_14))]
noncomputable def x193_2 : List (Ins tf3) := [(iAs (rk (.slice none 0 0)) s3_6), (iAs (rk (.int .i64 (.ofNat 1))) s3_7)]
noncomputable def x193_3 : List (Ins tf3) := [(iMv r3_1 s3_15), (iP2 bLt r3_15 (rk (.int .i64 (.ofNat 0))) s3_16), (iMv r3_16 s3_17), (iGd r3_17 [.o1, .o2, .o0] false (iMv r3_1 s3_18) (some s3_18) rfl rfl rfl), (iGd r3_17 [.o1, .o2, .o0] false (iP2 bGt r3_18 (rk (.int .i64 (.ofNat 4194304))) s3_19) (some s3_19) rfl rfl rfl), (iGp (l3 pPick) [r3_17, (rk (.bool true)), r3_19] (some s3_20))]
noncomputable def x193_4 : List (Ins tf3) := [(iAs (rk (.slice none 0 0)) s3_6), (iAs (rk (.int .i64 (.ofNat 3))) s3_7)]
noncomputable def x193_5 : List (Ins tf3) := [(iMv r3_1 s3_21), (iGa (a2 (gMks 1 8 [(.int .u64 (.ofNat 0))])) [r3_21, r3_21] (some s3_22)), (iAs r3_22 s3_8)]
noncomputable def x193_6 : List (Ins tf3) := [(iMv r3_0 s3_23), (iP1 bNil r3_23 s3_24), (iP1 (bFa 3) r3_24 s3_25), (iR1 bLd r3_25 s3_26), (iGm (m1 sRng) [r3_26] (some s3_27))]
noncomputable def x193_7 : List (Ins tf3) := [(iGm (m1 sNxt) [r3_27] (some s3_28)), (iGp (l1 (pExt 0)) [r3_28] (some s3_29))]
noncomputable def x193_8 : List (Ins tf3) := [(iGr (r1 rEnt) [r3_27] (some s3_30)), (iGp (l1 (pExt 0)) [r3_30] (some s3_31)), (iGp (l1 (pExt 1)) [r3_30] (some s3_32)), (iAs r3_31 s3_9), (iAs r3_32 s3_10)]
noncomputable def x193_9 : List (Ins tf3) := [(iMv r3_9 s3_33), (iMv r3_1 s3_34), (iP1 (bCv .u64) r3_34 s3_35), (iP2 bGe r3_33 r3_35 s3_36)]
noncomputable def x193_10 : List (Ins tf3) := [(iMv r3_0 s3_37), (iP1 bNil r3_37 s3_38), (iP1 (bFa 2) r3_38 s3_39), (iR1 bLd r3_39 s3_40), (iMv r3_10 s3_41), (iGr (r2 (rLook [0] false (.slice none 0 0) false)) [r3_40, r3_41] (some s3_42)), (iP1 bLen r3_42 s3_43), (iMv (rk (.int .i64 (.ofNat 0))) s3_44)]
noncomputable def x193_11 : List (Ins tf3) := [(iP2 bLt r3_44 r3_43 s3_45)]
noncomputable def x193_12 : List (Ins tf3) := [(iMv r3_44 s3_46), (iP2 (bIxs 1) r3_42 r3_44 s3_47), (iR1 bLd r3_47 s3_48), (iAs r3_46 s3_11), (iAs r3_48 s3_12)]
noncomputable def x193_13 : List (Ins tf3) := [(iMv r3_12 s3_49), (iP2 bSub r3_49 (rk (.int .i64 (.ofNat 1))) s3_50), (iMv r3_2 s3_51), (iP1 bLen r3_51 s3_52), (iP2 bLt r3_50 r3_52 s3_53), (iMv r3_53 s3_54), (iGd r3_54 [.o6, .o6, .o0] true (iMv r3_2 s3_55) (some s3_55) rfl rfl rfl), (iGd r3_54 [.o6, .o6, .o0] true (iMv r3_12 s3_56) (some s3_56) rfl rfl rfl), (iGd r3_54 [.o6, .o6, .o0] true (iP2 bSub r3_56 (rk (.int .i64 (.ofNat 1))) s3_57) (some s3_57) rfl rfl rfl), (iGd r3_54 [.o6, .o6, .o0] true (iP2 (bIxs 1) r3_55 r3_57 s3_58) (some s3_58) rfl rfl rfl), (iGd r3_54 [.o6, .o6, .o0] true (iR1 bLd r3_58 s3_59) (some s3_59) rfl rfl rfl), (iGp (l3 pPick) [r3_54, r3_59, (rk (.bool false))] (some s3_60))]
noncomputable def x193_14 : List (Ins tf3) := [(iMv r3_8 s3_61), (iMv r3_9 s3_62), (iP2 (bIxs 1) r3_61 r3_62 s3_63), (iR1 bLd r3_63 s3_64), (iMv r3_11 s3_65), (iGp (l2 (pBin .shl)) [(rk (.int .u64 (.ofNat 1))), r3_65] (some s3_66)), (iGp (l2 (pBin .or)) [r3_64, r3_66] (some s3_67)), (iP2 (bIxs 1) r3_61 r3_62 s3_68), (iM2 bSt r3_68 r3_67)]
noncomputable def x193_15 : List (Ins tf3) := [(iP2 bAdd r3_44 (rk (.int .i64 (.ofNat 1))) s3_69), (iMv r3_69 s3_44)]
noncomputable def x193_16 : List (Ins tf3) := [(iMv r3_8 s3_70), (iAs r3_70 s3_6), (iAs (rk (.int .i64 (.ofNat 0))) s3_7)]
noncomputable def x193_17 : XC tf3 := (.seq (.rg x193_3 (.cond r3_20 (.rg x193_4 .ret) .skip)) (.rg x193_5 (.seq (.rg x193_6 (.block 0 (.loop (.rg x193_7 (.seq (.cond r3_29 .skip (.exit 0)) (.block 1 (.rg x193_8 (.seq (.rg x193_9 (.cond r3_36 (.exit 1) .skip)) (.rg x193_10 (.block 2 (.loop (.rg x193_11 (.seq (.cond r3_45 .skip (.exit 2)) (.seq (.block 3 (.rg x193_12 (.rg x193_13 (.cond r3_60 (.reg x193_14) .skip)))) (.reg x193_15))))))))))))))) (.rg x193_16 .ret))))
noncomputable def x193 : XC tf3 := (.rg x193_0 (.seq (.rg x193_1 (.cond r3_14 (.rg x193_2 .ret) .skip)) x193_17))
noncomputable def c193 : Code := Tryd.f193.body.getD .skip
theorem x193_b : Tryd.f193.body = some c193 := by kernel_rfl
theorem x193_c : cG (comp Tryd.prog) 2 3 71 x193 c193 = x193.den := by kernel_rfl
noncomputable def y193 : List (RR Tryd.prog 3 71 tf3) := [rrT r3_6 6 rfl rfl, rrT r3_7 7 rfl rfl]
theorem x193_r : y193.map RR.den = Tryd.f193.results.toList := by kernel_rfl
theorem x193_k : okFn Tryd.f193 = true := by kernel_rfl
theorem x193_D : 3 = dep Tryd.f193.ntmps := by kernel_rfl
theorem x193_s : ([s3_0, s3_1, s3_2] : List (Slot tf3)).map Slot.p = (List.range' 0 3).map (pth 3) := by kernel_rfl
noncomputable def X193 : XFn Tryd.prog 2 (comp Tryd.prog) := ⟨X3, tf3, 193, Tryd.f193, c193, 3, 71, [s3_0, s3_1, s3_2], z3, x193, y193, x193_D, Tryd.ntmps193.symm, Tryd.func193, x193_b, x193_k, x193_s, by decide, z3_ok, x193_c, x193_r⟩
noncomputable def x194_0 : List (Ins tf3) := [(iAs (rk (.map none)) s3_4), (iAs (rk (.int .i64 (.ofNat 0))) s3_5)]
noncomputable def x194_1 : List (Ins tf3) := [(iMv r3_0 s3_15), (iGp (l2 (pEqD (tdOf 34) false)) [r3_15, (rk (.pointer none))] (some s3_16))]
noncomputable def x194_2 : List (Ins tf3) := [(iAs (rk (.map none)) s3_4), (iAs (rk (.int .i64 (.ofNat 1))) s3_5)]
noncomputable def x194_3 : List (Ins tf3) := [(iMv r3_1 s3_17), (iP1 bLen r3_17 s3_18), (iMv (rk (.int .i64 (.ofNat 0))) s3_19)]
noncomputable def x194_4 : List (Ins tf3) := [(iP2 bLt r3_19 r3_18 s3_20)]
noncomputable def x194_5 : List (Ins tf3) := [(iP2 (bIxs 1) r3_17 r3_19 s3_21), (iR1 bLd r3_21 s3_22), (iAs r3_22 s3_7)]
noncomputable def x194_6 : List (Ins tf3) := [(iMv r3_7 s3_23), (iP2 bLt r3_23 (rk (.int .i64 (.ofNat 0))) s3_24), (iMv r3_24 s3_25), (iGd r3_25 [.o1, .o3, .o0] false (iMv r3_7 s3_26) (some s3_26) rfl rfl rfl), (iGd r3_25 [.o1, .o3, .o0] false (iMv r3_0 s3_27) (some s3_27) rfl rfl rfl), (iGd r3_25 [.o1, .o3, .o0] false (iCall (rk (.func (.func 74) #[] #[])) [r3_27] (some s3_28)) (some s3_28) rfl rfl rfl), (iGd r3_25 [.o1, .o3, .o0] false (iP2 bGe r3_26 r3_28 s3_29) (some s3_29) rfl rfl rfl), (iGp (l3 pPick) [r3_25, (rk (.bool true)), r3_29] (some s3_30))]
noncomputable def x194_7 : List (Ins tf3) := [(iAs (rk (.map none)) s3_4), (iAs (rk (.int .i64 (.ofNat 3))) s3_5)]
noncomputable def x194_8 : List (Ins tf3) := [(iP2 bAdd r3_19 (rk (.int .i64 (.ofNat 1))) s3_31), (iMv r3_31 s3_19)]
noncomputable def x194_9 : List (Ins tf3) := [(iGa aMm [] (some s3_32)), (iAs r3_32 s3_8)]
noncomputable def x194_10 : List (Ins tf3) := [(iMv r3_1 s3_33), (iGm (m2 (sApp 1)) [(rk (.slice none 0 0)), r3_33] (some s3_34)), (iAs r3_34 s3_9)]
noncomputable def x194_11 : List (Ins tf3) := [(iMv r3_9 s3_35), (iP1 bLen r3_35 s3_36), (iP2 bGt r3_36 (rk (.int .i64 (.ofNat 0))) s3_37)]
noncomputable def x194_12 : List (Ins tf3) := [(iMv r3_9 s3_38), (iMv r3_9 s3_39), (iP1 bLen r3_39 s3_40), (iP2 bSub r3_40 (rk (.int .i64 (.ofNat 1))) s3_41), (iP2 (bIxs 1) r3_38 r3_41 s3_42), (iR1 bLd r3_42 s3_43), (iAs r3_43 s3_10)]
noncomputable def x194_13 : List (Ins tf3) := [(iMv r3_9 s3_44), (iMv r3_9 s3_45), (iP1 bLen r3_45 s3_46), (iP2 bSub r3_46 (rk (.int .i64 (.ofNat 1))) s3_47), (iGp (pSlB (pSl 1) false true false) [r3_44, r3_47] (some s3_48)), (iAs r3_48 s3_9)]
noncomputable def x194_14 : List (Ins tf3) := [(iMv r3_8 s3_50), (iMv r3_10 s3_51), (iGr (r2 (rLook [0] false (.agg ⟨[(.int .u8 (.ofNat 0)), (.int .u64 (.ofNat 0)), (.slice none 0 0)]⟩) true)) [r3_50, r3_51] (some s3_52)), (iMv r3_52 s3_49), (iGp (l1 (pExt 0)) [r3_49] (some s3_53)), (iGp (l1 (pExt 1)) [r3_49] (some s3_54)), (iGa (aAl 3 [(.int .u8 (.ofNat 0)), (.int .u64 (.ofNat 0)), (.slice none 0 0)]) [] (some s3_11)), (iGm (m2 (sStn 3)) [r3_11, r3_53] none), (iAs r3_54 s3_12)]
noncomputable def x194_15 : List (Ins tf3) := [(iMv r3_12 s3_55)]
noncomputable def x194_16 : List (Ins tf3) := [(iMv r3_0 s3_57), (iMv r3_10 s3_58), (iCall (rk (.func (.func 75) #[] #[])) [r3_57, r3_58] (some s3_59)), (iMv r3_59 s3_56), (iGp (l1 (pExt 0)) [r3_56] (some s3_60)), (iGp (l1 (pExt 1)) [r3_56] (some s3_61)), (iGa (aAl 3 [(.int .u8 (.ofNat 0)), (.int .u64 (.ofNat 0)), (.slice none 0 0)]) [] (some s3_13)), (iGm (m2 (sStn 3)) [r3_13, r3_60] none), (iAs r3_61 s3_14)]
noncomputable def x194_17 : List (Ins tf3) := [(iMv r3_8 s3_62), (iMv r3_10 s3_63), (iGr (r1 (rLdn 3)) [r3_13] (some s3_64)), (iGm (m3 (sUpd [0] false)) [r3_62, r3_63, r3_64] none)]
noncomputable def x194_18 : List (Ins tf3) := [(iMv r3_9 s3_65), (iP1 (bFa 2) r3_13 s3_66), (iR1 bLd r3_66 s3_67), (iGm (m2 (sApp 1)) [r3_65, r3_67] (some s3_68)), (iAs r3_68 s3_9)]
noncomputable def x194_19 : List (Ins tf3) := [(iMv r3_8 s3_69), (iAs r3_69 s3_4), (iAs (rk (.int .i64 (.ofNat 0))) s3_5)]
noncomputable def x194_20 : XC tf3 := (.seq (.rg x194_3 (.block 0 (.loop (.rg x194_4 (.seq (.cond r3_20 .skip (.exit 0)) (.seq (.block 1 (.rg x194_5 (.rg x194_6 (.cond r3_30 (.rg x194_7 .ret) .skip)))) (.reg x194_8))))))) (.rg x194_9 (.rg x194_10 (.seq .skip (.seq (.block 2 (.loop (.seq (.rg x194_11 (.cond r3_37 .skip (.exit 2))) (.block 3 (.rg x194_12 (.rg x194_13 (.seq (.rg x194_14 (.rg x194_15 (.cond r3_55 (.exit 3) .skip))) (.rg x194_16 (.rg x194_17 (.reg x194_18)))))))))) (.rg x194_19 .ret))))))
noncomputable def x194 : XC tf3 := (.rg x194_0 (.scope (.seq (.rg x194_1 (.cond r3_16 (.rg x194_2 .ret) .skip)) x194_20)))
noncomputable def c194 : Code := Tryd.f194.body.getD .skip
theorem x194_b : Tryd.f194.body = some c194 := by kernel_rfl
theorem x194_c : cG (comp Tryd.prog) 2 3 70 x194 c194 = x194.den := by kernel_rfl
noncomputable def y194 : List (RR Tryd.prog 3 70 tf3) := [rrT r3_4 4 rfl rfl, rrT r3_5 5 rfl rfl]
theorem x194_r : y194.map RR.den = Tryd.f194.results.toList := by kernel_rfl
theorem x194_k : okFn Tryd.f194 = true := by kernel_rfl
theorem x194_D : 3 = dep Tryd.f194.ntmps := by kernel_rfl
theorem x194_s : ([s3_0, s3_1] : List (Slot tf3)).map Slot.p = (List.range' 0 2).map (pth 3) := by kernel_rfl
noncomputable def X194 : XFn Tryd.prog 2 (comp Tryd.prog) := ⟨X3, tf3, 194, Tryd.f194, c194, 3, 70, [s3_0, s3_1], z3, x194, y194, x194_D, Tryd.ntmps194.symm, Tryd.func194, x194_b, x194_k, x194_s, by decide, z3_ok, x194_c, x194_r⟩
noncomputable def x195_0 : List (Ins tf2) := [(iMv r2_0 s2_3), (iP1 bLen r2_3 s2_4), (iAs r2_4 s2_2)]
noncomputable def x195_1 : List (Ins tf2) := [(iMv r2_0 s2_5), (iMv r2_2 s2_6), (iMv r2_2 s2_7), (iP1 (bCv .u64) r2_7 s2_8), (iCall (rk (.func (.func 212) #[] #[])) [r2_8] (some s2_9)), (iCall (rk (.func (.func 211) #[] #[])) [r2_5, (rk (.int .i64 (.ofNat 0))), r2_6, r2_9] (some s2_10))]
noncomputable def x195 : XC tf2 := (.rg x195_0 (.reg x195_1))
noncomputable def c195 : Code := Tryd.f195.body.getD .skip
theorem x195_b : Tryd.f195.body = some c195 := by kernel_rfl
theorem x195_c : cG (comp Tryd.prog) 2 2 11 x195 c195 = x195.den := by kernel_rfl
noncomputable def y195 : List (RR Tryd.prog 2 11 tf2) := []
theorem x195_r : y195.map RR.den = Tryd.f195.results.toList := by kernel_rfl
theorem x195_k : okFn Tryd.f195 = true := by kernel_rfl
theorem x195_D : 2 = dep Tryd.f195.ntmps := by kernel_rfl
theorem x195_s : ([s2_0] : List (Slot tf2)).map Slot.p = (List.range' 0 1).map (pth 2) := by kernel_rfl
noncomputable def X195 : XFn Tryd.prog 2 (comp Tryd.prog) := ⟨X2, tf2, 195, Tryd.f195, c195, 2, 11, [s2_0], z2, x195, y195, x195_D, Tryd.ntmps195.symm, Tryd.func195, x195_b, x195_k, x195_s, by decide, z2_ok, x195_c, x195_r⟩
noncomputable def x197_0 : List (Ins tf2) := [(iAs (rk (.int .i64 (.ofNat 0))) s2_4), (iAs (rk (.int .i64 (.ofNat 0))) s2_5)]
noncomputable def x197_1 : List (Ins tf2) := [(iMv r2_0 s2_11), (iMv r2_1 s2_12), (iGa (aBsl 1 1 [(.slice none 0 0)] [(0, 1)]) [r2_12] (some s2_13)), (iCall (rk (.func (.func 215) #[] #[])) [r2_11, (rk (.slice none 0 0)), r2_13] (some s2_14)), (iAs r2_14 s2_6)]
noncomputable def x197_2 : List (Ins tf2) := [(iMv r2_6 s2_15), (iP2 bNe r2_15 (rk (.int .i64 (.ofNat 0))) s2_16)]
noncomputable def x197_3 : List (Ins tf2) := [(iMv r2_6 s2_17), (iAs (rk (.int .i64 (.ofNat 0))) s2_4), (iAs r2_17 s2_5)]
noncomputable def x197_4 : List (Ins tf2) := [(iMv r2_0 s2_18), (iGp (pBld [(.pointer none), (.int .i64 (.ofNat 0))] [(0, 1)]) [r2_18] (some s2_19)), (iGa (a1 gBox) [r2_19] (some s2_20)), (iAs r2_20 s2_7)]
noncomputable def x197_5 : List (Ins tf2) := [(iMv r2_0 s2_21), (iCall (rk (.func (.func 216) #[] #[])) [r2_21] (some s2_22)), (iGp (l1 (pUn .neg)) [r2_22] (some s2_23)), (iAs r2_23 s2_8)]
noncomputable def x197_6 : List (Ins tf2) := [(iMv r2_1 s2_24), (iP1 bLen r2_24 s2_25), (iMv (rk (.int .i64 (.ofNat 0))) s2_26)]
noncomputable def x197_7 : List (Ins tf2) := [(iP2 bLt r2_26 r2_25 s2_27)]
noncomputable def x197_8 : List (Ins tf2) := [(iP2 (bIxs 1) r2_24 r2_26 s2_28), (iR1 bLd r2_28 s2_29), (iAs r2_29 s2_10)]
noncomputable def x197_9 : List (Ins tf2) := [(iMv r2_7 s2_30), (iMv r2_8 s2_31), (iMv r2_10 s2_32), (iCall (rk (.func (.func 217) #[] #[])) [r2_30, r2_31, r2_32] (some s2_33)), (iAs r2_33 s2_8)]
noncomputable def x197_10 : List (Ins tf2) := [(iP2 bAdd r2_26 (rk (.int .i64 (.ofNat 1))) s2_34), (iMv r2_34 s2_26)]
noncomputable def x197_11 : List (Ins tf2) := [(iMv r2_7 s2_35), (iMv r2_8 s2_36), (iCall (rk (.func (.func 218) #[] #[])) [r2_35, r2_36] (some s2_37)), (iGp (l1 (pExt 0)) [r2_37] (some s2_38)), (iGp (l1 (pExt 1)) [r2_37] (some s2_39)), (iAs r2_38 s2_4), (iAs r2_39 s2_5)]
noncomputable def x197 : XC tf2 := (.rg x197_0 (.seq (.rg x197_1 (.rg x197_2 (.cond r2_16 (.rg x197_3 .ret) .skip))) (.rg x197_4 (.rg x197_5 (.seq (.rg x197_6 (.block 0 (.loop (.rg x197_7 (.seq (.cond r2_27 .skip (.exit 0)) (.seq (.block 1 (.rg x197_8 (.reg x197_9))) (.reg x197_10))))))) (.rg x197_11 .ret))))))
noncomputable def c197 : Code := Tryd.f197.body.getD .skip
theorem x197_b : Tryd.f197.body = some c197 := by kernel_rfl
theorem x197_c : cG (comp Tryd.prog) 2 2 40 x197 c197 = x197.den := by kernel_rfl
noncomputable def y197 : List (RR Tryd.prog 2 40 tf2) := [rrT r2_4 4 rfl rfl, rrT r2_5 5 rfl rfl]
theorem x197_r : y197.map RR.den = Tryd.f197.results.toList := by kernel_rfl
theorem x197_k : okFn Tryd.f197 = true := by kernel_rfl
theorem x197_D : 2 = dep Tryd.f197.ntmps := by kernel_rfl
theorem x197_s : ([s2_0, s2_1] : List (Slot tf2)).map Slot.p = (List.range' 0 2).map (pth 2) := by kernel_rfl
noncomputable def X197 : XFn Tryd.prog 2 (comp Tryd.prog) := ⟨X2, tf2, 197, Tryd.f197, c197, 2, 40, [s2_0, s2_1], z2, x197, y197, x197_D, Tryd.ntmps197.symm, Tryd.func197, x197_b, x197_k, x197_s, by decide, z2_ok, x197_c, x197_r⟩
noncomputable def x198_0 : List (Ins tf2) := [(iAs (rk (.int .i64 (.ofNat 0))) s2_4)]
noncomputable def x198_1 : List (Ins tf2) := [(iMv r2_0 s2_5), (iGp (l2 (pEqD (tdOf 249) false)) [r2_5, (rk (.pointer none))] (some s2_6))]
noncomputable def x198_2 : List (Ins tf2) := [(iAs (rk (.int .i64 (.ofNat 1))) s2_4)]
noncomputable def x198_3 : List (Ins tf2) := [(iMv r2_0 s2_7), (iMv r2_1 s2_8), (iCall (rk (.func (.func 219) #[] #[])) [r2_7, r2_8] (some s2_9)), (iGp (l1 (pUn .not)) [r2_9] (some s2_10))]
noncomputable def x198_4 : List (Ins tf2) := [(iAs (rk (.int .i64 (.ofNat 3))) s2_4)]
noncomputable def x198_5 : List (Ins tf2) := [(iMv r2_1 s2_11), (iP1 bLen r2_11 s2_12), (iP2 bGt r2_12 (rk (.int .i64 (.ofNat 4096))) s2_13), (iMv r2_13 s2_14), (iGd r2_14 [.o6, .o1] false (iMv r2_0 s2_15) (some s2_15) rfl rfl rfl), (iGd r2_14 [.o6, .o1] false (iP1 bNil r2_15 s2_16) (some s2_16) rfl rfl rfl), (iGd r2_14 [.o6, .o1] false (iP1 (bFa 0) r2_16 s2_17) (some s2_17) rfl rfl rfl), (iGd r2_14 [.o6, .o1] false (iP1 (bFa 1) r2_17 s2_18) (some s2_18) rfl rfl rfl), (iGd r2_14 [.o6, .o1] false (iR1 bLd r2_18 s2_19) (some s2_19) rfl rfl rfl), (iGd r2_14 [.o6, .o1] false (iP1 bLen r2_19 s2_20) (some s2_20) rfl rfl rfl), (iGd r2_14 [.o6, .o1] false (iP2 bEq r2_20 (rk (.int .i64 (.ofNat 1048576))) s2_21) (some s2_21) rfl rfl rfl), (iGp (l3 pPick) [r2_14, (rk (.bool true)), r2_21] (some s2_22))]
noncomputable def x198_6 : List (Ins tf2) := [(iAs (rk (.int .i64 (.ofNat 5))) s2_4)]
noncomputable def x198_7 : List (Ins tf2) := [(iMv r2_0 s2_23), (iMv r2_0 s2_24), (iP1 bNil r2_24 s2_25), (iP1 (bFa 0) r2_25 s2_26), (iP1 (bFa 1) r2_26 s2_27), (iR1 bLd r2_27 s2_28), (iMv r2_1 s2_29), (iRc (iGm (m2 (sApp 1)) [(rk (.slice none 0 0)), r2_29] (some s2_30)) [(rcLd r2_27 r2_28 [.o4, .o3] rfl)] rfl), (iGa (aBsl 1 1 [(.slice none 0 0)] [(0, 1)]) [r2_30] (some s2_31)), (iGm (m2 (sApp 1)) [r2_28, r2_31] (some s2_32)), (iP1 bNil r2_23 s2_33), (iP1 (bFa 0) r2_33 s2_34), (iP1 (bFa 1) r2_34 s2_35), (iM2 bSt r2_35 r2_32)]
noncomputable def x198_8 : List (Ins tf2) := [(iAs (rk (.int .i64 (.ofNat 0))) s2_4)]
noncomputable def x198 : XC tf2 := (.rg x198_0 (.seq (.rg x198_1 (.cond r2_6 (.rg x198_2 .ret) .skip)) (.seq (.rg x198_3 (.cond r2_10 (.rg x198_4 .ret) .skip)) (.seq (.rg x198_5 (.cond r2_22 (.rg x198_6 .ret) .skip)) (.rg x198_7 (.rg x198_8 .ret))))))
noncomputable def c198 : Code := Tryd.f198.body.getD .skip
theorem x198_b : Tryd.f198.body = some c198 := by kernel_rfl
theorem x198_c : cG (comp Tryd.prog) 2 2 36 x198 c198 = x198.den := by kernel_rfl
noncomputable def y198 : List (RR Tryd.prog 2 36 tf2) := [rrT r2_4 4 rfl rfl]
theorem x198_r : y198.map RR.den = Tryd.f198.results.toList := by kernel_rfl
theorem x198_k : okFn Tryd.f198 = true := by kernel_rfl
theorem x198_D : 2 = dep Tryd.f198.ntmps := by kernel_rfl
theorem x198_s : ([s2_0, s2_1] : List (Slot tf2)).map Slot.p = (List.range' 0 2).map (pth 2) := by kernel_rfl
noncomputable def X198 : XFn Tryd.prog 2 (comp Tryd.prog) := ⟨X2, tf2, 198, Tryd.f198, c198, 2, 36, [s2_0, s2_1], z2, x198, y198, x198_D, Tryd.ntmps198.symm, Tryd.func198, x198_b, x198_k, x198_s, by decide, z2_ok, x198_c, x198_r⟩
noncomputable def x199_0 : List (Ins tf2) := [(iGa (a1 gBox) [r2_0] (some s2_1)), (iAs (rk (.int .i64 (.ofNat 0))) s2_2)]
noncomputable def x199_1 : List (Ins tf2) := [(iP1 (bFa 0) r2_1 s2_5), (iR1 bLd r2_5 s2_6), (iP2 bLt r2_6 (rk (.int .i64 (.ofNat 0))) s2_7), (iMv r2_7 s2_8), (iGd r2_8 [.o0, .o1] false (iP1 (bFa 0) r2_1 s2_9) (some s2_9) rfl rfl rfl), (iGd r2_8 [.o0, .o1] false (iR1 bLd r2_9 s2_10) (some s2_10) rfl rfl rfl), (iGd r2_8 [.o0, .o1] false (iP2 bGt r2_10 (rk (.int .i64 (.ofNat 1048576))) s2_11) (some s2_11) rfl rfl rfl), (iGp (l3 pPick) [r2_8, (rk (.bool true)), r2_11] (some s2_12))]
noncomputable def x199_2 : List (Ins tf2) := [(iAs (rk (.int .i64 (.ofNat 3))) s2_2)]
noncomputable def x199_3 : List (Ins tf2) := [(iP1 (bFa 1) r2_1 s2_13), (iR1 bLd r2_13 s2_14), (iP1 bLen r2_14 s2_15), (iP2 bGt r2_15 (rk (.int .i64 (.ofNat 1048576))) s2_16)]
noncomputable def x199_4 : List (Ins tf2) := [(iAs (rk (.int .i64 (.ofNat 5))) s2_2)]
noncomputable def x199_5 : List (Ins tf2) := [(iP1 (bFa 1) r2_1 s2_17), (iR1 bLd r2_17 s2_18), (iP1 bLen r2_18 s2_19), (iMv (rk (.int .i64 (.ofNat 0))) s2_20)]
noncomputable def x199_6 : List (Ins tf2) := [(iP2 bLt r2_20 r2_19 s2_21)]
noncomputable def x199_7 : List (Ins tf2) := [(iP2 (bIxs 1) r2_18 r2_20 s2_22), (iR1 bLd r2_22 s2_23), (iAs r2_23 s2_4)]
noncomputable def x199_8 : List (Ins tf2) := [(iP1 (bFa 0) r2_1 s2_24), (iR1 bLd r2_24 s2_25), (iMv r2_4 s2_26), (iCall (rk (.func (.func 220) #[] #[])) [r2_25, r2_26] (some s2_27)), (iAs r2_27 s2_2)]
noncomputable def x199_9 : List (Ins tf2) := [(iMv r2_2 s2_28), (iP2 bNe r2_28 (rk (.int .i64 (.ofNat 0))) s2_29)]
noncomputable def x199_10 : List (Ins tf2) := [(iP2 bAdd r2_20 (rk (.int .i64 (.ofNat 1))) s2_30), (iMv r2_30 s2_20)]
noncomputable def x199_11 : List (Ins tf2) := [(iAs (rk (.int .i64 (.ofNat 0))) s2_2)]
noncomputable def x199_12 : List (Ins tf2) := [(iMv r2_2 s2_31), (iAs r2_31 s2_2)]
noncomputable def x199 : XC tf2 := (.rg x199_0 (.scope (.seq (.rg x199_1 (.cond r2_12 (.rg x199_2 .ret) .skip)) (.seq (.rg x199_3 (.cond r2_16 (.rg x199_4 .ret) .skip)) (.seq (.rg x199_5 (.block 0 (.loop (.rg x199_6 (.seq (.cond r2_21 .skip (.exit 0)) (.seq (.block 1 (.rg x199_7 (.rg x199_8 (.rg x199_9 (.cond r2_29 .bad .skip))))) (.reg x199_10))))))) (.seq (.rg x199_11 .ret) (.seq .skip (.rg x199_12 .ret))))))))
noncomputable def c199 : Code := Tryd.f199.body.getD .skip
theorem x199_b : Tryd.f199.body = some c199 := by kernel_rfl
theorem x199_c : cG (comp Tryd.prog) 2 2 32 x199 c199 = x199.den := by kernel_rfl
noncomputable def y199 : List (RR Tryd.prog 2 32 tf2) := [rrT r2_2 2 rfl rfl]
theorem x199_r : y199.map RR.den = Tryd.f199.results.toList := by kernel_rfl
theorem x199_k : okFn Tryd.f199 = true := by kernel_rfl
theorem x199_D : 2 = dep Tryd.f199.ntmps := by kernel_rfl
theorem x199_s : ([s2_0] : List (Slot tf2)).map Slot.p = (List.range' 0 1).map (pth 2) := by kernel_rfl
noncomputable def X199 : XFn Tryd.prog 2 (comp Tryd.prog) := ⟨X2, tf2, 199, Tryd.f199, c199, 2, 32, [s2_0], z2, x199, y199, x199_D, Tryd.ntmps199.symm, Tryd.func199, x199_b, x199_k, x199_s, by decide, z2_ok, x199_c, x199_r⟩
noncomputable def x200_0 : List (Ins tf2) := [(iAs (rk (.pointer none)) s2_2), (iAs (rk (.int .i64 (.ofNat 0))) s2_3)]
noncomputable def x200_1 : List (Ins tf2) := [(iMv r2_0 s2_6), (iP2 bLt r2_6 (rk (.int .i64 (.ofNat 0))) s2_7), (iMv r2_7 s2_8), (iGd r2_8 [.o0, .o1] false (iMv r2_0 s2_9) (some s2_9) rfl rfl rfl), (iGd r2_8 [.o0, .o1] false (iP2 bGt r2_9 (rk (.int .i64 (.ofNat 1048576))) s2_10) (some s2_10) rfl rfl rfl), (iGp (l3 pPick) [r2_8, (rk (.bool true)), r2_10] (some s2_11))]
noncomputable def x200_2 : List (Ins tf2) := [(iAs (rk (.pointer none)) s2_2), (iAs (rk (.int .i64 (.ofNat 3))) s2_3)]
noncomputable def x200_3 : List (Ins tf2) := [(iMv r2_0 s2_12), (iP2 bAdd r2_12 (rk (.int .i64 (.ofNat 1))) s2_13), (iGa (a2 (gMks 1 8 [(.int .i64 (.ofNat 0))])) [r2_13, r2_13] (some s2_14)), (iGp (pBld [(.slice none 0 0), (.slice none 0 0), (.slice none 0 0), (.pointer none), .nilFunc] [(0, 1)]) [r2_14] (some s2_15)), (iGa (a1 gBox) [r2_15] (some s2_16)), (iAs r2_16 s2_4)]
noncomputable def x200_4 : List (Ins tf2) := [(iMv r2_4 s2_17), (iMv r2_0 s2_18), (iGa (a2 (gMks 1 8 [(.int .i64 (.ofNat 0))])) [r2_18, r2_18] (some s2_19)), (iMv r2_0 s2_20), (iP2 bAdd r2_20 (rk (.int .i64 (.ofNat 1))) s2_21), (iGa (a2 (gMks 1 8 [(.int .i64 (.ofNat 0))])) [r2_21, r2_21] (some s2_22)), (iMv r2_4 s2_23), (iGp (pBld [(.slice none 0 0), (.slice none 0 0), (.pointer none), .nilFunc] [(0, 1), (1, 1), (2, 1), (3, 1)]) [r2_19, r2_22, r2_23, (rk (.func (.func 221) #[] #[]))] (some s2_24)), (iP1 bNil r2_17 s2_25), (iP1 (bFa 1) r2_25 s2_26), (iGm (m2 (sStn 4)) [r2_26, r2_24] none)]
noncomputable def x200_5 : List (Ins tf2) := [(iMv r2_4 s2_27), (iP1 bNil r2_27 s2_28), (iP1 (bFa 1) r2_28 s2_29), (iP1 (bFa 1) r2_29 s2_30), (iR1 bLd r2_30 s2_31), (iP2 (bIxs 1) r2_31 (rk (.int .i64 (.ofNat 0))) s2_32), (iM2 bSt r2_32 (rk (.int .i64 (.negSucc 0))))]
noncomputable def x200_6 : List (Ins tf2) := [(iMv r2_0 s2_33), (iMv (rk (.int .i64 (.ofNat 0))) s2_34)]
noncomputable def x200_7 : List (Ins tf2) := [(iP2 bLt r2_34 r2_33 s2_35)]
noncomputable def x200_8 : List (Ins tf2) := [(iMv r2_34 s2_36), (iAs r2_36 s2_5)]
noncomputable def x200_9 : List (Ins tf2) := [(iMv r2_4 s2_37), (iP1 bNil r2_37 s2_38), (iP1 (bFa 1) r2_38 s2_39), (iP1 (bFa 0) r2_39 s2_40), (iR1 bLd r2_40 s2_41), (iMv r2_5 s2_42), (iMv r2_4 s2_43), (iP1 bNil r2_43 s2_44), (iP1 (bFa 1) r2_44 s2_45), (iP1 (bFa 1) r2_45 s2_46), (iR1 bLd r2_46 s2_47), (iMv r2_5 s2_48), (iP2 bAdd r2_48 (rk (.int .i64 (.ofNat 1))) s2_49), (iMv r2_5 s2_50), (iP2 bAdd r2_50 (rk (.int .i64 (.ofNat 1))) s2_51), (iMv r2_5 s2_52), (iP2 (bIxs 1) r2_41 r2_42 s2_53), (iM2 bSt r2_53 r2_51), (iP2 (bIxs 1) r2_47 r2_49 s2_54), (iM2 bSt r2_54 r2_52)]
noncomputable def x200_10 : List (Ins tf2) := [(iP2 bAdd r2_34 (rk (.int .i64 (.ofNat 1))) s2_55), (iMv r2_55 s2_34)]
noncomputable def x200_11 : List (Ins tf2) := [(iMv r2_4 s2_56), (iAs r2_56 s2_2), (iAs (rk (.int .i64 (.ofNat 0))) s2_3)]
noncomputable def x200 : XC tf2 := (.rg x200_0 (.seq (.rg x200_1 (.cond r2_11 (.rg x200_2 .ret) .skip)) (.rg x200_3 (.rg x200_4 (.rg x200_5 (.seq (.rg x200_6 (.block 0 (.loop (.rg x200_7 (.seq (.cond r2_35 .skip (.exit 0)) (.seq (.block 1 (.rg x200_8 (.reg x200_9))) (.reg x200_10))))))) (.rg x200_11 .ret)))))))
noncomputable def c200 : Code := Tryd.f200.body.getD .skip
theorem x200_b : Tryd.f200.body = some c200 := by kernel_rfl
theorem x200_c : cG (comp Tryd.prog) 2 2 57 x200 c200 = x200.den := by kernel_rfl
noncomputable def y200 : List (RR Tryd.prog 2 57 tf2) := [rrT r2_2 2 rfl rfl, rrT r2_3 3 rfl rfl]
theorem x200_r : y200.map RR.den = Tryd.f200.results.toList := by kernel_rfl
theorem x200_k : okFn Tryd.f200 = true := by kernel_rfl
theorem x200_D : 2 = dep Tryd.f200.ntmps := by kernel_rfl
theorem x200_s : ([s2_0] : List (Slot tf2)).map Slot.p = (List.range' 0 1).map (pth 2) := by kernel_rfl
noncomputable def X200 : XFn Tryd.prog 2 (comp Tryd.prog) := ⟨X2, tf2, 200, Tryd.f200, c200, 2, 57, [s2_0], z2, x200, y200, x200_D, Tryd.ntmps200.symm, Tryd.func200, x200_b, x200_k, x200_s, by decide, z2_ok, x200_c, x200_r⟩
noncomputable def x201_0 : List (Ins tf2) := [(iGa (a1 gBox) [r2_1] (some s2_3)), (iAs (rk (.bool false)) s2_4)]
noncomputable def x201_1 : List (Ins tf2) := [(iP1 (bFa 1) r2_3 s2_9), (iR1 bLd r2_9 s2_10), (iP1 bLen r2_10 s2_11), (iMv (rk (.int .i64 (.ofNat 0))) s2_12)]
noncomputable def x201_2 : List (Ins tf2) := [(iP2 bLt r2_12 r2_11 s2_13)]
noncomputable def x201_3 : List (Ins tf2) := [(iP2 (bIxs 1) r2_10 r2_12 s2_14), (iR1 bLd r2_14 s2_15), (iAs r2_15 s2_6)]
noncomputable def x201_4 : List (Ins tf2) := [(iMv r2_6 s2_17), (iCall (rk (.func (.func 222) #[] #[])) [r2_17] (some s2_18)), (iMv r2_18 s2_16), (iGp (l1 (pExt 0)) [r2_16] (some s2_19)), (iGp (l1 (pExt 1)) [r2_16] (some s2_20)), (iAs r2_19 s2_7), (iAs r2_20 s2_8)]
noncomputable def x201_5 : List (Ins tf2) := [(iMv r2_8 s2_25), (iAs r2_25 s2_24)]
noncomputable def x201_6 : List (Ins tf2) := [(iMv r2_7 s2_27), (iP1 bLen r2_27 s2_28), (iP2 bEq r2_28 (rk (.int .i64 (.ofNat 0))) s2_29), (iAs r2_29 s2_26)]
noncomputable def x201_7 : List (Ins tf2) := [(iAs (rk (.bool false)) s2_4)]
noncomputable def x201_8 : List (Ins tf2) := [(iMv r2_7 s2_31), (iP1 bLen r2_31 s2_32), (iP2 bEq r2_32 (rk (.int .i64 (.ofNat 1))) s2_33), (iAs r2_33 s2_30)]
noncomputable def x201_9 : List (Ins tf2) := [(iMv r2_0 s2_34), (iMv r2_7 s2_35), (iP2 (bIxs 1) r2_35 (rk (.int .i64 (.ofNat 0))) s2_36), (iR1 bLd r2_36 s2_37), (iCall (rk (.func (.func 223) #[] #[])) [r2_34, r2_37] (some s2_38)), (iP2 bEq r2_38 (rk (.int .i8 (.negSucc 0))) s2_39)]
noncomputable def x201_10 : List (Ins tf2) := [(iAs (rk (.bool false)) s2_4)]
noncomputable def x201_11 : List (Ins tf2) := [(iMv r2_0 s2_40), (iMv r2_7 s2_41), (iP2 (bIxs 1) r2_41 (rk (.int .i64 (.ofNat 0))) s2_42), (iR1 bLd r2_42 s2_43), (iCall (rk (.func (.func 223) #[] #[])) [r2_40, r2_43] (some s2_44)), (iP2 bEq r2_44 (rk (.int .i8 (.ofNat 0))) s2_45)]
noncomputable def x201_12 : List (Ins tf2) := [(iMv r2_0 s2_46), (iMv r2_7 s2_47), (iP2 (bIxs 1) r2_47 (rk (.int .i64 (.ofNat 0))) s2_48), (iR1 bLd r2_48 s2_49), (iCall (rk (.func (.func 207) #[] #[])) [r2_46, r2_49, (rk (.int .i64 (.negSucc 0)))] (some s2_50))]
noncomputable def x201_13 : List (Ins tf2) := [(iMv r2_0 s2_21), (iMv r2_7 s2_22), (iCall (rk (.func (.func 206) #[] #[])) [r2_21, r2_22] (some s2_23))]
noncomputable def x201_14 : List (Ins tf2) := [(iP2 bAdd r2_12 (rk (.int .i64 (.ofNat 1))) s2_51), (iMv r2_51 s2_12)]
noncomputable def x201_15 : List (Ins tf2) := [(iMv r2_0 s2_52), (iCall (rk (.func (.func 203) #[] #[])) [r2_52] (some s2_53)), (iP2 bLt r2_53 (rk (.int .i64 (.ofNat 0))) s2_54), (iAs r2_54 s2_4)]
noncomputable def x201_16 : XC tf2 := (.seq (.rg x201_1 (.block 0 (.loop (.rg x201_2 (.seq (.cond r2_13 .skip (.exit 0)) (.seq (.block 1 (.rg x201_3 (.rg x201_4 (.block 2 (.rg x201_5 (.cond r2_24 .skip (.rg x201_6 (.cond r2_26 (.rg x201_7 .ret) (.rg x201_8 (.cond r2_30 (.seq (.rg x201_9 (.cond r2_39 (.rg x201_10 .ret) .skip)) (.rg x201_11 (.cond r2_45 (.reg x201_12) .skip))) (.reg x201_13))))))))))) (.reg x201_14))))))) (.rg x201_15 .ret))
noncomputable def x201 : XC tf2 := (.rg x201_0 x201_16)
noncomputable def c201 : Code := Tryd.f201.body.getD .skip
theorem x201_b : Tryd.f201.body = some c201 := by kernel_rfl
theorem x201_c : cG (comp Tryd.prog) 2 2 55 x201 c201 = x201.den := by kernel_rfl
noncomputable def y201 : List (RR Tryd.prog 2 55 tf2) := [rrT r2_4 4 rfl rfl]
theorem x201_r : y201.map RR.den = Tryd.f201.results.toList := by kernel_rfl
theorem x201_k : okFn Tryd.f201 = true := by kernel_rfl
theorem x201_D : 2 = dep Tryd.f201.ntmps := by kernel_rfl
theorem x201_s : ([s2_0, s2_1] : List (Slot tf2)).map Slot.p = (List.range' 0 2).map (pth 2) := by kernel_rfl
noncomputable def X201 : XFn Tryd.prog 2 (comp Tryd.prog) := ⟨X2, tf2, 201, Tryd.f201, c201, 2, 55, [s2_0, s2_1], z2, x201, y201, x201_D, Tryd.ntmps201.symm, Tryd.func201, x201_b, x201_k, x201_s, by decide, z2_ok, x201_c, x201_r⟩
end Cr
end Go.Proofs.YtjhbabgcoemecaaDoor
namespace Go.Proofs.YtjhbabgcoemecaaDoor
namespace Cr
open Go Go.RowKit
set_option maxRecDepth 100000
noncomputable def x203_0 : List (Ins tf3) := [(iAs (rk (.int .i64 (.ofNat 0))) s3_2)]
noncomputable def x203_1 : List (Ins tf3) := [(iMv r3_0 s3_11), (iP1 bNil r3_11 s3_12), (iP1 (bFa 9) r3_12 s3_13), (iR1 bLd r3_13 s3_14), (iMv r3_0 s3_15), (iP1 bNil r3_15 s3_16), (iP1 (bFa 8) r3_16 s3_17), (iR1 bLd r3_17 s3_18), (iP1 bLen r3_18 s3_19), (iP2 bLt r3_14 r3_19 s3_20)]
noncomputable def x203_2 : List (Ins tf3) := [(iMv r3_0 s3_21), (iP1 bNil r3_21 s3_22), (iP1 (bFa 8) r3_22 s3_23), (iR1 bLd r3_23 s3_24), (iMv r3_0 s3_25), (iP1 bNil r3_25 s3_26), (iP1 (bFa 9) r3_26 s3_27), (iR1 bLd r3_27 s3_28), (iP2 (bIxs 1) r3_24 r3_28 s3_29), (iR1 bLd r3_29 s3_30), (iGp (l1 (pUn .neg)) [r3_30] (some s3_31)), (iAs r3_31 s3_3)]
noncomputable def x203_3 : List (Ins tf3) := [(iMv r3_0 s3_32), (iP1 bNil r3_32 s3_33), (iP1 (bFa 9) r3_33 s3_34), (iR1 bLd r3_34 s3_35), (iP2 bAdd r3_35 (rk (.int .i64 (.ofNat 1))) s3_36), (iP1 bNil r3_32 s3_37), (iP1 (bFa 9) r3_37 s3_38), (iM2 bSt r3_38 r3_36)]
noncomputable def x203_4 : List (Ins tf3) := [(iMv r3_0 s3_39), (iP1 bNil r3_39 s3_40), (iP1 (bFa 2) r3_40 s3_41), (iR1 bLd r3_41 s3_42), (iMv r3_3 s3_43), (iRc (iCall (rk (.func (.func 224) #[] #[])) [r3_43] (some s3_44)) [(rcLd r3_41 r3_42 [.o2, .o5, .o0] rfl)] rfl), (iP2 (bIxs 1) r3_42 r3_44 s3_45), (iR1 bLd r3_45 s3_46), (iAs r3_46 s3_4)]
noncomputable def x203_5 : List (Ins tf3) := [(iMv r3_4 s3_47), (iGp (pSlB (pSl 1) false true false) [r3_47, (rk (.int .i64 (.ofNat 0)))] (some s3_48)), (iAs r3_48 s3_5)]
noncomputable def x203_6 : List (Ins tf3) := [(iAs (rk (.int .i64 (.ofNat 0))) s3_6)]
noncomputable def x203_7 : List (Ins tf3) := [(iMv r3_6 s3_49), (iMv r3_4 s3_50), (iP1 bLen r3_50 s3_51), (iP2 bLt r3_49 r3_51 s3_52)]
noncomputable def x203_8 : List (Ins tf3) := [(iMv r3_4 s3_55), (iMv r3_6 s3_56), (iP2 (bIxs 1) r3_55 r3_56 s3_57), (iR1 bLd r3_57 s3_58), (iAs r3_58 s3_7)]
noncomputable def x203_9 : List (Ins tf3) := [(iMv r3_0 s3_59), (iP1 bNil r3_59 s3_60), (iP1 (bFa 1) r3_60 s3_61), (iR1 bLd r3_61 s3_62), (iMv r3_7 s3_63), (iP2 (bIxs 1) r3_62 r3_63 s3_64), (iR1 bLd r3_64 s3_65), (iAs r3_65 s3_8)]
noncomputable def x203_10 : List (Ins tf3) := [(iMv r3_8 s3_66), (iP2 (bIxs 1) r3_66 (rk (.int .i64 (.ofNat 0))) s3_67), (iR1 bLd r3_67 s3_68), (iMv r3_3 s3_69), (iP2 bEq r3_68 r3_69 s3_70)]
noncomputable def x203_11 : List (Ins tf3) := [(iMv r3_8 s3_71), (iMv r3_8 s3_72), (iMv r3_8 s3_73), (iP2 (bIxs 1) r3_73 (rk (.int .i64 (.ofNat 1))) s3_74), (iR1 bLd r3_74 s3_75), (iMv r3_8 s3_76), (iP2 (bIxs 1) r3_76 (rk (.int .i64 (.ofNat 0))) s3_77), (iR1 bLd r3_77 s3_78), (iP2 (bIxs 1) r3_71 (rk (.int .i64 (.ofNat 0))) s3_79), (iM2 bSt r3_79 r3_75), (iP2 (bIxs 1) r3_72 (rk (.int .i64 (.ofNat 1))) s3_80), (iM2 bSt r3_80 r3_78)]
noncomputable def x203_12 : List (Ins tf3) := [(iMv r3_0 s3_81), (iMv r3_8 s3_82), (iP2 (bIxs 1) r3_82 (rk (.int .i64 (.ofNat 0))) s3_83), (iR1 bLd r3_83 s3_84), (iCall (rk (.func (.func 223) #[] #[])) [r3_81, r3_84] (some s3_85)), (iP2 bEq r3_85 (rk (.int .i8 (.ofNat 1))) s3_86)]
noncomputable def x203_13 : List (Ins tf3) := [(iMv r3_5 s3_87), (iMv r3_7 s3_88), (iGa (aBsl 1 1 [(.int .i64 (.ofNat 0))] [(0, 1)]) [r3_88] (some s3_89)), (iGm (m2 (sApp 1)) [r3_87, r3_89] (some s3_90)), (iAs r3_90 s3_5)]
noncomputable def x203_14 : List (Ins tf3) := [(iAs (rk (.bool false)) s3_9)]
noncomputable def x203_15 : List (Ins tf3) := [(iAs (rk (.int .i64 (.ofNat 2))) s3_10)]
noncomputable def x203_16 : List (Ins tf3) := [(iMv r3_10 s3_91), (iMv r3_8 s3_92), (iP1 bLen r3_92 s3_93), (iP2 bLt r3_91 r3_93 s3_94)]
noncomputable def x203_17 : List (Ins tf3) := [(iMv r3_0 s3_97), (iMv r3_8 s3_98), (iMv r3_10 s3_99), (iP2 (bIxs 1) r3_98 r3_99 s3_100), (iR1 bLd r3_100 s3_101), (iCall (rk (.func (.func 223) #[] #[])) [r3_97, r3_101] (some s3_102)), (iP2 bNe r3_102 (rk (.int .i8 (.negSucc 0))) s3_103)]
noncomputable def x203_18 : List (Ins tf3) := [(iMv r3_8 s3_104), (iMv r3_8 s3_105), (iMv r3_10 s3_106), (iMv r3_8 s3_107), (iMv r3_10 s3_108), (iP2 (bIxs 1) r3_107 r3_108 s3_109), (iR1 bLd r3_109 s3_110), (iMv r3_8 s3_111), (iP2 (bIxs 1) r3_111 (rk (.int .i64 (.ofNat 1))) s3_112), (iR1 bLd r3_112 s3_113), (iP2 (bIxs 1) r3_104 (rk (.int .i64 (.ofNat 1))) s3_114), (iM2 bSt r3_114 r3_110), (iP2 (bIxs 1) r3_105 r3_106 s3_115), (iM2 bSt r3_115 r3_113)]
noncomputable def x203_19 : List (Ins tf3) := [(iMv r3_0 s3_116), (iP1 bNil r3_116 s3_117), (iP1 (bFa 2) r3_117 s3_118), (iR1 bLd r3_118 s3_119), (iMv r3_8 s3_120), (iP2 (bIxs 1) r3_120 (rk (.int .i64 (.ofNat 1))) s3_121), (iR1 bLd r3_121 s3_122), (iMv r3_0 s3_124), (iP1 bNil r3_124 s3_125), (iP1 (bFa 2) r3_125 s3_126), (iR1 bLd r3_126 s3_127), (iMv r3_8 s3_128), (iP2 (bIxs 1) r3_128 (rk (.int .i64 (.ofNat 1))) s3_129), (iR1 bLd r3_129 s3_130), (iMv r3_7 s3_134), (iGa (aBsl 1 1 [(.int .i64 (.ofNat 0))] [(0, 1)]) [r3_134] (some s3_135)), (iRc (iCall (rk (.func (.func 224) #[] #[])) [r3_122] (some s3_123)) [(rcLd r3_129 r3_130 [.o2, .o0, .o2] rfl), (rcLd r3_126 r3_127 [.o7, .o7, .o1] rfl), (rcLd r3_118 r3_119 [.o7, .o6, .o1] rfl)] rfl), (iRc (iCall (rk (.func (.func 224) #[] #[])) [r3_130] (some s3_131)) [(rcLd r3_126 r3_127 [.o7, .o7, .o1] rfl), (rcLd r3_118 r3_119 [.o7, .o6, .o1] rfl)] rfl), (iP2 (bIxs 1) r3_127 r3_131 s3_132), (iR1 bLd r3_132 s3_133), (iRc (iGm (m2 (sApp 1)) [r3_133, r3_135] (some s3_136)) [(rcLd r3_118 r3_119 [.o7, .o6, .o1] rfl)] rfl), (iP2 (bIxs 1) r3_119 r3_123 s3_137), (iM2 bSt r3_137 r3_136)]
noncomputable def x203_20 : List (Ins tf3) := [(iAs (rk (.bool true)) s3_9)]
noncomputable def x203_21 : List (Ins tf3) := [(iMv r3_10 s3_95), (iP2 bAdd r3_95 (rk (.int .i64 (.ofNat 1))) s3_96), (iAs r3_96 s3_10)]
noncomputable def x203_22 : List (Ins tf3) := [(iMv r3_9 s3_138)]
noncomputable def x203_23 : List (Ins tf3) := [(iMv r3_5 s3_139), (iMv r3_7 s3_140), (iGa (aBsl 1 1 [(.int .i64 (.ofNat 0))] [(0, 1)]) [r3_140] (some s3_141)), (iGm (m2 (sApp 1)) [r3_139, r3_141] (some s3_142)), (iAs r3_142 s3_5)]
noncomputable def x203_24 : List (Ins tf3) := [(iMv r3_0 s3_143), (iMv r3_8 s3_144), (iP2 (bIxs 1) r3_144 (rk (.int .i64 (.ofNat 0))) s3_145), (iR1 bLd r3_145 s3_146), (iCall (rk (.func (.func 223) #[] #[])) [r3_143, r3_146] (some s3_147)), (iP2 bEq r3_147 (rk (.int .i8 (.negSucc 0))) s3_148)]
noncomputable def x203_25 : List (Ins tf3) := [(iMv r3_5 s3_149), (iMv r3_4 s3_150), (iMv r3_6 s3_151), (iP2 bAdd r3_151 (rk (.int .i64 (.ofNat 1))) s3_152), (iGp (pSlB (pSl 1) true false false) [r3_150, r3_152] (some s3_153)), (iGm (m2 (sApp 1)) [r3_149, r3_153] (some s3_154)), (iAs r3_154 s3_5)]
noncomputable def x203_26 : List (Ins tf3) := [(iMv r3_0 s3_155), (iP1 bNil r3_155 s3_156), (iP1 (bFa 2) r3_156 s3_157), (iR1 bLd r3_157 s3_158), (iMv r3_3 s3_159), (iMv r3_5 s3_161), (iRc (iCall (rk (.func (.func 224) #[] #[])) [r3_159] (some s3_160)) [(rcLd r3_157 r3_158 [.o6, .o3, .o2] rfl)] rfl), (iP2 (bIxs 1) r3_158 r3_160 s3_162), (iM2 bSt r3_162 r3_161)]
noncomputable def x203_27 : List (Ins tf3) := [(iMv r3_7 s3_163), (iAs r3_163 s3_2)]
noncomputable def x203_28 : List (Ins tf3) := [(iMv r3_0 s3_164), (iMv r3_8 s3_165), (iP2 (bIxs 1) r3_165 (rk (.int .i64 (.ofNat 0))) s3_166), (iR1 bLd r3_166 s3_167), (iMv r3_7 s3_168), (iCall (rk (.func (.func 207) #[] #[])) [r3_164, r3_167, r3_168] (some s3_169))]
noncomputable def x203_29 : XC tf3 := (.seq (.rg x203_12 (.cond r3_86 (.rg x203_13 (.exit 3)) .skip)) (.rg x203_14 (.seq (.rg x203_15 (.block 4 (.loop (.seq (.rg x203_16 (.cond r3_94 .skip (.exit 4))) (.seq (.block 5 (.rg x203_17 (.cond r3_103 (.rg x203_18 (.rg x203_19 (.rg x203_20 (.exit 4)))) .skip))) (.reg x203_21)))))) (.seq (.rg x203_22 (.cond r3_138 (.exit 3) .skip)) (.rg x203_23 (.seq (.rg x203_24 (.cond r3_148 (.rg x203_25 (.rg x203_26 (.rg x203_27 .ret))) .skip)) (.reg x203_28)))))))
noncomputable def x203_30 : List (Ins tf3) := [(iMv r3_6 s3_53), (iP2 bAdd r3_53 (rk (.int .i64 (.ofNat 1))) s3_54), (iAs r3_54 s3_6)]
noncomputable def x203_31 : List (Ins tf3) := [(iMv r3_0 s3_170), (iP1 bNil r3_170 s3_171), (iP1 (bFa 2) r3_171 s3_172), (iR1 bLd r3_172 s3_173), (iMv r3_3 s3_174), (iMv r3_5 s3_176), (iRc (iCall (rk (.func (.func 224) #[] #[])) [r3_174] (some s3_175)) [(rcLd r3_172 r3_173 [.o5, .o5, .o2] rfl)] rfl), (iP2 (bIxs 1) r3_173 r3_175 s3_177), (iM2 bSt r3_177 r3_176)]
noncomputable def x203_32 : List (Ins tf3) := [(iAs (rk (.int .i64 (.negSucc 0))) s3_2)]
noncomputable def x203 : XC tf3 := (.rg x203_0 (.seq (.block 0 (.loop (.seq (.rg x203_1 (.cond r3_20 .skip (.exit 0))) (.block 1 (.rg x203_2 (.rg x203_3 (.rg x203_4 (.rg x203_5 (.seq (.rg x203_6 (.block 2 (.loop (.seq (.rg x203_7 (.cond r3_52 .skip (.exit 2))) (.seq (.block 3 (.rg x203_8 (.rg x203_9 (.seq (.rg x203_10 (.cond r3_70 (.reg x203_11) .skip)) x203_29)))) (.reg x203_30)))))) (.reg x203_31)))))))))) (.rg x203_32 .ret)))
noncomputable def c203 : Code := Tryd.f203.body.getD .skip
theorem x203_b : Tryd.f203.body = some c203 := by kernel_rfl
theorem x203_c : cG (comp Tryd.prog) 2 3 178 x203 c203 = x203.den := by kernel_rfl
noncomputable def y203 : List (RR Tryd.prog 3 178 tf3) := [rrT r3_2 2 rfl rfl]
theorem x203_r : y203.map RR.den = Tryd.f203.results.toList := by kernel_rfl
theorem x203_k : okFn Tryd.f203 = true := by kernel_rfl
theorem x203_D : 3 = dep Tryd.f203.ntmps := by kernel_rfl
theorem x203_s : ([s3_0] : List (Slot tf3)).map Slot.p = (List.range' 0 1).map (pth 3) := by kernel_rfl
noncomputable def X203 : XFn Tryd.prog 2 (comp Tryd.prog) := ⟨X3, tf3, 203, Tryd.f203, c203, 3, 178, [s3_0], z3, x203, y203, x203_D, Tryd.ntmps203.symm, Tryd.func203, x203_b, x203_k, x203_s, by decide, z3_ok, x203_c, x203_r⟩
noncomputable def x206_0 : List (Ins tf2) := [(iAs (rk (.int .i64 (.ofNat 0))) s2_4)]
noncomputable def x206_1 : List (Ins tf2) := [(iMv r2_0 s2_8), (iP1 bNil r2_8 s2_9), (iP1 (bFa 1) r2_9 s2_10), (iR1 bLd r2_10 s2_11), (iP1 bLen r2_11 s2_12), (iAs r2_12 s2_5)]
noncomputable def x206_2 : List (Ins tf2) := [(iMv r2_0 s2_13), (iMv r2_0 s2_14), (iP1 bNil r2_14 s2_15), (iP1 (bFa 1) r2_15 s2_16), (iR1 bLd r2_16 s2_17), (iMv r2_1 s2_18), (iGa (aBsl 1 1 [(.slice none 0 0)] [(0, 1)]) [r2_18] (some s2_19)), (iGm (m2 (sApp 1)) [r2_17, r2_19] (some s2_20)), (iP1 bNil r2_13 s2_21), (iP1 (bFa 1) r2_21 s2_22), (iM2 bSt r2_22 r2_20)]
noncomputable def x206_3 : List (Ins tf2) := [(iMv r2_1 s2_23), (iGp (pSlB (pSl 1) false true false) [r2_23, (rk (.int .i64 (.ofNat 2)))] (some s2_24)), (iP1 bLen r2_24 s2_25), (iMv (rk (.int .i64 (.ofNat 0))) s2_26)]
noncomputable def x206_4 : List (Ins tf2) := [(iP2 bLt r2_26 r2_25 s2_27)]
noncomputable def x206_5 : List (Ins tf2) := [(iP2 (bIxs 1) r2_24 r2_26 s2_28), (iR1 bLd r2_28 s2_29), (iAs r2_29 s2_7)]
noncomputable def x206_6 : List (Ins tf2) := [(iMv r2_0 s2_30), (iP1 bNil r2_30 s2_31), (iP1 (bFa 2) r2_31 s2_32), (iR1 bLd r2_32 s2_33), (iMv r2_7 s2_34), (iMv r2_0 s2_36), (iP1 bNil r2_36 s2_37), (iP1 (bFa 2) r2_37 s2_38), (iR1 bLd r2_38 s2_39), (iMv r2_7 s2_40), (iMv r2_5 s2_44), (iGa (aBsl 1 1 [(.int .i64 (.ofNat 0))] [(0, 1)]) [r2_44] (some s2_45)), (iRc (iCall (rk (.func (.func 224) #[] #[])) [r2_34] (some s2_35)) [(rcLd r2_38 r2_39 [.o7, .o4] rfl), (rcLd r2_32 r2_33 [.o1, .o4] rfl)] rfl), (iRc (iCall (rk (.func (.func 224) #[] #[])) [r2_40] (some s2_41)) [(rcLd r2_38 r2_39 [.o7, .o4] rfl), (rcLd r2_32 r2_33 [.o1, .o4] rfl)] rfl), (iP2 (bIxs 1) r2_39 r2_41 s2_42), (iR1 bLd r2_42 s2_43), (iRc (iGm (m2 (sApp 1)) [r2_43, r2_45] (some s2_46)) [(rcLd r2_32 r2_33 [.o1, .o4] rfl)] rfl), (iP2 (bIxs 1) r2_33 r2_35 s2_47), (iM2 bSt r2_47 r2_46)]
noncomputable def x206_7 : List (Ins tf2) := [(iP2 bAdd r2_26 (rk (.int .i64 (.ofNat 1))) s2_48), (iMv r2_48 s2_26)]
noncomputable def x206_8 : List (Ins tf2) := [(iMv r2_5 s2_49), (iAs r2_49 s2_4)]
noncomputable def x206 : XC tf2 := (.rg x206_0 (.rg x206_1 (.rg x206_2 (.seq (.rg x206_3 (.block 0 (.loop (.rg x206_4 (.seq (.cond r2_27 .skip (.exit 0)) (.seq (.block 1 (.rg x206_5 (.reg x206_6))) (.reg x206_7))))))) (.rg x206_8 .ret)))))
noncomputable def c206 : Code := Tryd.f206.body.getD .skip
theorem x206_b : Tryd.f206.body = some c206 := by kernel_rfl
theorem x206_c : cG (comp Tryd.prog) 2 2 50 x206 c206 = x206.den := by kernel_rfl
noncomputable def y206 : List (RR Tryd.prog 2 50 tf2) := [rrT r2_4 4 rfl rfl]
theorem x206_r : y206.map RR.den = Tryd.f206.results.toList := by kernel_rfl
theorem x206_k : okFn Tryd.f206 = true := by kernel_rfl
theorem x206_D : 2 = dep Tryd.f206.ntmps := by kernel_rfl
theorem x206_s : ([s2_0, s2_1] : List (Slot tf2)).map Slot.p = (List.range' 0 2).map (pth 2) := by kernel_rfl
noncomputable def X206 : XFn Tryd.prog 2 (comp Tryd.prog) := ⟨X2, tf2, 206, Tryd.f206, c206, 2, 50, [s2_0, s2_1], z2, x206, y206, x206_D, Tryd.ntmps206.symm, Tryd.func206, x206_b, x206_k, x206_s, by decide, z2_ok, x206_c, x206_r⟩
noncomputable def x207_0 : List (Ins tf2) := [(iMv r2_1 s2_7), (iCall (rk (.func (.func 225) #[] #[])) [r2_7] (some s2_8)), (iAs r2_8 s2_6)]
noncomputable def x207_1 : List (Ins tf2) := [(iMv r2_0 s2_9), (iP1 bNil r2_9 s2_10), (iP1 (bFa 3) r2_10 s2_11), (iR1 bLd r2_11 s2_12), (iMv r2_6 s2_13), (iP2 (bIxs 1) r2_12 r2_13 s2_14), (iM2 bSt r2_14 (rk (.int .i8 (.ofNat 1))))]
noncomputable def x207_2 : List (Ins tf2) := [(iMv r2_1 s2_15), (iP2 bLt r2_15 (rk (.int .i64 (.ofNat 0))) s2_16)]
noncomputable def x207_3 : List (Ins tf2) := [(iMv r2_0 s2_17), (iP1 bNil r2_17 s2_18), (iP1 (bFa 3) r2_18 s2_19), (iR1 bLd r2_19 s2_20), (iMv r2_6 s2_21), (iP2 (bIxs 1) r2_20 r2_21 s2_22), (iM2 bSt r2_22 (rk (.int .i8 (.negSucc 0))))]
noncomputable def x207_4 : List (Ins tf2) := [(iMv r2_0 s2_23), (iP1 bNil r2_23 s2_24), (iP1 (bFa 5) r2_24 s2_25), (iR1 bLd r2_25 s2_26), (iMv r2_6 s2_27), (iMv r2_0 s2_28), (iP1 bNil r2_28 s2_29), (iP1 (bFa 6) r2_29 s2_30), (iR1 bLd r2_30 s2_31), (iMv r2_6 s2_32), (iMv r2_0 s2_33), (iP1 bNil r2_33 s2_34), (iP1 (bFa 10) r2_34 s2_35), (iR1 bLd r2_35 s2_36), (iP1 bLen r2_36 s2_37), (iMv r2_2 s2_38), (iP2 (bIxs 1) r2_26 r2_27 s2_39), (iM2 bSt r2_39 r2_37), (iP2 (bIxs 1) r2_31 r2_32 s2_40), (iM2 bSt r2_40 r2_38)]
noncomputable def x207_5 : List (Ins tf2) := [(iMv r2_0 s2_41), (iMv r2_0 s2_42), (iP1 bNil r2_42 s2_43), (iP1 (bFa 8) r2_43 s2_44), (iR1 bLd r2_44 s2_45), (iMv r2_1 s2_46), (iGa (aBsl 1 1 [(.int .i64 (.ofNat 0))] [(0, 1)]) [r2_46] (some s2_47)), (iGm (m2 (sApp 1)) [r2_45, r2_47] (some s2_48)), (iP1 bNil r2_41 s2_49), (iP1 (bFa 8) r2_49 s2_50), (iM2 bSt r2_50 r2_48)]
noncomputable def x207 : XC tf2 := (.rg x207_0 (.rg x207_1 (.seq (.rg x207_2 (.cond r2_16 (.reg x207_3) .skip)) (.rg x207_4 (.reg x207_5)))))
noncomputable def c207 : Code := Tryd.f207.body.getD .skip
theorem x207_b : Tryd.f207.body = some c207 := by kernel_rfl
theorem x207_c : cG (comp Tryd.prog) 2 2 51 x207 c207 = x207.den := by kernel_rfl
noncomputable def y207 : List (RR Tryd.prog 2 51 tf2) := []
theorem x207_r : y207.map RR.den = Tryd.f207.results.toList := by kernel_rfl
theorem x207_k : okFn Tryd.f207 = true := by kernel_rfl
theorem x207_D : 2 = dep Tryd.f207.ntmps := by kernel_rfl
theorem x207_s : ([s2_0, s2_1, s2_2] : List (Slot tf2)).map Slot.p = (List.range' 0 3).map (pth 2) := by kernel_rfl
noncomputable def X207 : XFn Tryd.prog 2 (comp Tryd.prog) := ⟨X2, tf2, 207, Tryd.f207, c207, 2, 51, [s2_0, s2_1, s2_2], z2, x207, y207, x207_D, Tryd.ntmps207.symm, Tryd.func207, x207_b, x207_k, x207_s, by decide, z2_ok, x207_c, x207_r⟩
noncomputable def x209_0 : List (Ins tf2) := [(iAs (rk (.int .i64 (.ofNat 0))) s2_2)]
noncomputable def x209_1 : List (Ins tf2) := [(iMv r2_0 s2_5), (iP1 bNil r2_5 s2_6), (iP1 (bFa 0) r2_6 s2_7), (iR1 bLd r2_7 s2_8), (iCall (rk (.func (.func 228) #[] #[])) [r2_8] (some s2_9)), (iP2 bGt r2_9 (rk (.int .i64 (.ofNat 0))) s2_10)]
noncomputable def x209_2 : List (Ins tf2) := [(iMv r2_0 s2_12), (iP1 bNil r2_12 s2_13), (iP1 (bFa 0) r2_13 s2_14), (iR1 bLd r2_14 s2_15), (iCall (rk (.func (.func 229) #[] #[])) [r2_15] (some s2_16)), (iMv r2_16 s2_11), (iGp (l1 (pExt 0)) [r2_11] (some s2_17)), (iGp (l1 (pExt 1)) [r2_11] (some s2_18)), (iAs r2_17 s2_3), (iAs r2_18 s2_4)]
noncomputable def x209_3 : List (Ins tf2) := [(iMv r2_4 s2_19), (iP2 bNe r2_19 (rk (.int .i64 (.ofNat 0))) s2_20)]
noncomputable def x209_4 : List (Ins tf2) := [(iMv r2_0 s2_21), (iP1 bNil r2_21 s2_22), (iP1 (bFa 3) r2_22 s2_23), (iR1 bLd r2_23 s2_24), (iMv r2_3 s2_25), (iP2 (bIxs 1) r2_24 r2_25 s2_26), (iR1 bLd r2_26 s2_27), (iP2 bEq r2_27 (rk (.int .i8 (.ofNat 0))) s2_28)]
noncomputable def x209_5 : List (Ins tf2) := [(iMv r2_3 s2_29), (iAs r2_29 s2_2)]
noncomputable def x209_6 : List (Ins tf2) := [(iAs (rk (.int .i64 (.ofNat 0))) s2_2)]
noncomputable def x209 : XC tf2 := (.rg x209_0 (.seq (.block 0 (.loop (.seq (.rg x209_1 (.cond r2_10 .skip (.exit 0))) (.block 1 (.rg x209_2 (.seq (.rg x209_3 (.cond r2_20 (.exit 0) .skip)) (.rg x209_4 (.cond r2_28 (.rg x209_5 .ret) .skip)))))))) (.rg x209_6 .ret)))
noncomputable def c209 : Code := Tryd.f209.body.getD .skip
theorem x209_b : Tryd.f209.body = some c209 := by kernel_rfl
theorem x209_c : cG (comp Tryd.prog) 2 2 30 x209 c209 = x209.den := by kernel_rfl
noncomputable def y209 : List (RR Tryd.prog 2 30 tf2) := [rrT r2_2 2 rfl rfl]
theorem x209_r : y209.map RR.den = Tryd.f209.results.toList := by kernel_rfl
theorem x209_k : okFn Tryd.f209 = true := by kernel_rfl
theorem x209_D : 2 = dep Tryd.f209.ntmps := by kernel_rfl
theorem x209_s : ([s2_0] : List (Slot tf2)).map Slot.p = (List.range' 0 1).map (pth 2) := by kernel_rfl
noncomputable def X209 : XFn Tryd.prog 2 (comp Tryd.prog) := ⟨X2, tf2, 209, Tryd.f209, c209, 2, 30, [s2_0], z2, x209, y209, x209_D, Tryd.ntmps209.symm, Tryd.func209, x209_b, x209_k, x209_s, by decide, z2_ok, x209_c, x209_r⟩
noncomputable def x210_0 : List (Ins tf2) := [(iAs (rk (.slice none 0 0)) s2_2)]
noncomputable def x210_1 : List (Ins tf2) := [(iMv r2_0 s2_5), (iP1 bNil r2_5 s2_6), (iP1 (bFa 3) r2_6 s2_7), (iR1 bLd r2_7 s2_8), (iP1 bLen r2_8 s2_9), (iP2 bSub r2_9 (rk (.int .i64 (.ofNat 1))) s2_10), (iGa (a2 (gMks 1 1 [(.bool false)])) [r2_10, r2_10] (some s2_11)), (iAs r2_11 s2_3)]
noncomputable def x210_2 : List (Ins tf2) := [(iMv r2_3 s2_12), (iP1 bLen r2_12 s2_13), (iMv (rk (.int .i64 (.ofNat 0))) s2_14)]
noncomputable def x210_3 : List (Ins tf2) := [(iP2 bLt r2_14 r2_13 s2_15)]
noncomputable def x210_4 : List (Ins tf2) := [(iMv r2_14 s2_16), (iAs r2_16 s2_4)]
noncomputable def x210_5 : List (Ins tf2) := [(iMv r2_3 s2_17), (iMv r2_4 s2_18), (iMv r2_0 s2_19), (iP1 bNil r2_19 s2_20), (iP1 (bFa 3) r2_20 s2_21), (iR1 bLd r2_21 s2_22), (iMv r2_4 s2_23), (iP2 bAdd r2_23 (rk (.int .i64 (.ofNat 1))) s2_24), (iP2 (bIxs 1) r2_22 r2_24 s2_25), (iR1 bLd r2_25 s2_26), (iP2 bEq r2_26 (rk (.int .i8 (.ofNat 1))) s2_27), (iP2 (bIxs 1) r2_17 r2_18 s2_28), (iM2 bSt r2_28 r2_27)]
noncomputable def x210_6 : List (Ins tf2) := [(iP2 bAdd r2_14 (rk (.int .i64 (.ofNat 1))) s2_29), (iMv r2_29 s2_14)]
noncomputable def x210_7 : List (Ins tf2) := [(iMv r2_3 s2_30), (iAs r2_30 s2_2)]
noncomputable def x210 : XC tf2 := (.rg x210_0 (.rg x210_1 (.seq (.rg x210_2 (.block 0 (.loop (.rg x210_3 (.seq (.cond r2_15 .skip (.exit 0)) (.seq (.block 1 (.rg x210_4 (.reg x210_5))) (.reg x210_6))))))) (.rg x210_7 .ret))))
noncomputable def c210 : Code := Tryd.f210.body.getD .skip
theorem x210_b : Tryd.f210.body = some c210 := by kernel_rfl
theorem x210_c : cG (comp Tryd.prog) 2 2 31 x210 c210 = x210.den := by kernel_rfl
noncomputable def y210 : List (RR Tryd.prog 2 31 tf2) := [rrT r2_2 2 rfl rfl]
theorem x210_r : y210.map RR.den = Tryd.f210.results.toList := by kernel_rfl
theorem x210_k : okFn Tryd.f210 = true := by kernel_rfl
theorem x210_D : 2 = dep Tryd.f210.ntmps := by kernel_rfl
theorem x210_s : ([s2_0] : List (Slot tf2)).map Slot.p = (List.range' 0 1).map (pth 2) := by kernel_rfl
noncomputable def X210 : XFn Tryd.prog 2 (comp Tryd.prog) := ⟨X2, tf2, 210, Tryd.f210, c210, 2, 31, [s2_0], z2, x210, y210, x210_D, Tryd.ntmps210.symm, Tryd.func210, x210_b, x210_k, x210_s, by decide, z2_ok, x210_c, x210_r⟩
noncomputable def x211_0 : List (Ins tf3) := [(iAs (rk (.bool true)) s3_8)]
noncomputable def x211_1 : List (Ins tf3) := [(iAs (rk (.bool true)) s3_9)]
noncomputable def x211_2 : List (Ins tf3) := [(iMv r3_2 s3_19), (iMv r3_1 s3_20), (iP2 bSub r3_19 r3_20 s3_21), (iAs r3_21 s3_10)]
noncomputable def x211_3 : List (Ins tf3) := [(iMv r3_10 s3_22), (iP2 bLe r3_22 (rk (.int .i64 (.ofNat 12))) s3_23)]
noncomputable def x211_4 : List (Ins tf3) := [(iMv r3_0 s3_24), (iMv r3_1 s3_25), (iMv r3_2 s3_26), (iCall (rk (.func (.func 230) #[] #[])) [r3_24, r3_25, r3_26] (some s3_27))]
noncomputable def x211_5 : List (Ins tf3) := [(iMv r3_3 s3_28), (iP2 bEq r3_28 (rk (.int .i64 (.ofNat 0))) s3_29)]
noncomputable def x211_6 : List (Ins tf3) := [(iMv r3_0 s3_30), (iMv r3_1 s3_31), (iMv r3_2 s3_32), (iCall (rk (.func (.func 231) #[] #[])) [r3_30, r3_31, r3_32] (some s3_33))]
noncomputable def x211_7 : List (Ins tf3) := [(iMv r3_8 s3_34), (iGp (l1 (pUn .not)) [r3_34] (some s3_35))]
noncomputable def x211_8 : List (Ins tf3) := [(iMv r3_0 s3_36), (iMv r3_1 s3_37), (iMv r3_2 s3_38), (iCall (rk (.func (.func 232) #[] #[])) [r3_36, r3_37, r3_38] (some s3_39))]
noncomputable def x211_9 : List (Ins tf3) := [(iMv r3_3 s3_40), (iP2 bSub r3_40 (rk (.int .i64 (.ofNat 1))) s3_41), (iAs r3_41 s3_3)]
noncomputable def x211_10 : List (Ins tf3) := [(iMv r3_0 s3_43), (iMv r3_1 s3_44), (iMv r3_2 s3_45), (iCall (rk (.func (.func 233) #[] #[])) [r3_43, r3_44, r3_45] (some s3_46)), (iMv r3_46 s3_42), (iGp (l1 (pExt 0)) [r3_42] (some s3_47)), (iGp (l1 (pExt 1)) [r3_42] (some s3_48)), (iAs r3_47 s3_11), (iAs r3_48 s3_12)]
noncomputable def x211_11 : List (Ins tf3) := [(iMv r3_12 s3_49), (iP2 bEq r3_49 (rk (.int .i64 (.ofNat 2))) s3_50)]
noncomputable def x211_12 : List (Ins tf3) := [(iMv r3_0 s3_51), (iMv r3_1 s3_52), (iMv r3_2 s3_53), (iCall (rk (.func (.func 234) #[] #[])) [r3_51, r3_52, r3_53] (some s3_54))]
noncomputable def x211_13 : List (Ins tf3) := [(iMv r3_2 s3_55), (iP2 bSub r3_55 (rk (.int .i64 (.ofNat 1))) s3_56), (iMv r3_11 s3_57), (iMv r3_1 s3_58), (iP2 bSub r3_57 r3_58 s3_59), (iP2 bSub r3_56 r3_59 s3_60), (iAs r3_60 s3_11)]
noncomputable def x211_14 : List (Ins tf3) := [(iAs (rk (.int .i64 (.ofNat 1))) s3_12)]
noncomputable def x211_15 : List (Ins tf3) := [(iMv r3_8 s3_61), (iMv r3_61 s3_62), (iGd r3_62 [.o6, .o7, .o0] true (iMv r3_9 s3_63) (some s3_63) rfl rfl rfl), (iGp (l3 pPick) [r3_62, r3_63, (rk (.bool false))] (some s3_64)), (iMv r3_64 s3_65), (iGd r3_65 [.o1, .o0, .o1] true (iMv r3_12 s3_66) (some s3_66) rfl rfl rfl), (iGd r3_65 [.o1, .o0, .o1] true (iP2 bEq r3_66 (rk (.int .i64 (.ofNat 1))) s3_67) (some s3_67) rfl rfl rfl), (iGp (l3 pPick) [r3_65, r3_67, (rk (.bool false))] (some s3_68))]
noncomputable def x211_16 : List (Ins tf3) := [(iMv r3_0 s3_69), (iMv r3_1 s3_70), (iMv r3_2 s3_71), (iCall (rk (.func (.func 235) #[] #[])) [r3_69, r3_70, r3_71] (some s3_72))]
noncomputable def x211_17 : List (Ins tf3) := [(iMv r3_1 s3_73), (iP2 bGt r3_73 (rk (.int .i64 (.ofNat 0))) s3_74), (iMv r3_74 s3_75), (iGd r3_75 [.o3, .o1, .o1] true (iMv r3_0 s3_76) (some s3_76) rfl rfl rfl), (iGd r3_75 [.o3, .o1, .o1] true (iMv r3_1 s3_77) (some s3_77) rfl rfl rfl), (iGd r3_75 [.o3, .o1, .o1] true (iP2 bSub r3_77 (rk (.int .i64 (.ofNat 1))) s3_78) (some s3_78) rfl rfl rfl), (iGd r3_75 [.o3, .o1, .o1] true (iP2 (bIxs 1) r3_76 r3_78 s3_79) (some s3_79) rfl rfl rfl), (iGd r3_75 [.o3, .o1, .o1] true (iR1 bLd r3_79 s3_80) (some s3_80) rfl rfl rfl), (iGd r3_75 [.o3, .o1, .o1] true (iMv r3_0 s3_81) (some s3_81) rfl rfl rfl), (iGd r3_75 [.o3, .o1, .o1] true (iMv r3_11 s3_82) (some s3_82) rfl rfl rfl), (iGd r3_75 [.o3, .o1, .o1] true (iP2 (bIxs 1) r3_81 r3_82 s3_83) (some s3_83) rfl rfl rfl), (iGd r3_75 [.o3, .o1, .o1] true (iR1 bLd r3_83 s3_84) (some s3_84) rfl rfl rfl), (iGd r3_75 [.o3, .o1, .o1] true (iCall (rk (.func (.func 236) #[] #[])) [r3_80, r3_84] (some s3_85)) (some s3_85) rfl rfl rfl), (iGd r3_75 [.o3, .o1, .o1] true (iGp (l1 (pUn .not)) [r3_85] (some s3_86)) (some s3_86) rfl rfl rfl), (iGp (l3 pPick) [r3_75, r3_86, (rk (.bool false))] (some s3_87))]
noncomputable def x211_18 : List (Ins tf3) := [(iMv r3_0 s3_88), (iMv r3_1 s3_89), (iMv r3_2 s3_90), (iMv r3_11 s3_91), (iCall (rk (.func (.func 237) #[] #[])) [r3_88, r3_89, r3_90, r3_91] (some s3_92)), (iAs r3_92 s3_13)]
noncomputable def x211_19 : List (Ins tf3) := [(iMv r3_13 s3_93), (iAs r3_93 s3_1)]
noncomputable def x211_20 : List (Ins tf3) := [(iMv r3_0 s3_95), (iMv r3_1 s3_96), (iMv r3_2 s3_97), (iMv r3_11 s3_98), (iCall (rk (.func (.func 238) #[] #[])) [r3_95, r3_96, r3_97, r3_98] (some s3_99)), (iMv r3_99 s3_94), (iGp (l1 (pExt 0)) [r3_94] (some s3_100)), (iGp (l1 (pExt 1)) [r3_94] (some s3_101)), (iAs r3_100 s3_14), (iAs r3_101 s3_15)]
noncomputable def x211_21 : List (Ins tf3) := [(iMv r3_15 s3_102), (iAs r3_102 s3_9)]
noncomputable def x211_22 : List (Ins tf3) := [(iMv r3_14 s3_103), (iMv r3_1 s3_104), (iP2 bSub r3_103 r3_104 s3_105), (iMv r3_2 s3_106), (iMv r3_14 s3_107), (iP2 bSub r3_106 r3_107 s3_108), (iAs r3_105 s3_16), (iAs r3_108 s3_17)]
noncomputable def x211_23 : List (Ins tf3) := [(iMv r3_10 s3_109), (iGp (l2 (pBin .quo)) [r3_109, (rk (.int .i64 (.ofNat 8)))] (some s3_110)), (iAs r3_110 s3_18)]
noncomputable def x211_24 : List (Ins tf3) := [(iMv r3_16 s3_111), (iMv r3_17 s3_112), (iP2 bLt r3_111 r3_112 s3_113)]
noncomputable def x211_25 : List (Ins tf3) := [(iMv r3_16 s3_114), (iMv r3_18 s3_115), (iP2 bGe r3_114 r3_115 s3_116), (iAs r3_116 s3_8)]
noncomputable def x211_26 : List (Ins tf3) := [(iMv r3_0 s3_117), (iMv r3_1 s3_118), (iMv r3_14 s3_119), (iMv r3_3 s3_120), (iCall (rk (.func (.func 211) #[] #[])) [r3_117, r3_118, r3_119, r3_120] (some s3_121))]
noncomputable def x211_27 : List (Ins tf3) := [(iMv r3_14 s3_122), (iP2 bAdd r3_122 (rk (.int .i64 (.ofNat 1))) s3_123), (iAs r3_123 s3_1)]
noncomputable def x211_28 : List (Ins tf3) := [(iMv r3_17 s3_124), (iMv r3_18 s3_125), (iP2 bGe r3_124 r3_125 s3_126), (iAs r3_126 s3_8)]
noncomputable def x211_29 : List (Ins tf3) := [(iMv r3_0 s3_127), (iMv r3_14 s3_128), (iP2 bAdd r3_128 (rk (.int .i64 (.ofNat 1))) s3_129), (iMv r3_2 s3_130), (iMv r3_3 s3_131), (iCall (rk (.func (.func 211) #[] #[])) [r3_127, r3_129, r3_130, r3_131] (some s3_132))]
noncomputable def x211_30 : List (Ins tf3) := [(iMv r3_14 s3_133), (iAs r3_133 s3_2)]
noncomputable def x211_31 : XC tf3 := (.seq (.rg x211_11 (.cond r3_50 (.rg x211_12 (.rg x211_13 (.reg x211_14))) .skip)) (.seq (.rg x211_15 (.cond r3_68 (.rg x211_16 (.cond r3_72 .ret .skip)) .skip)) (.seq (.rg x211_17 (.cond r3_87 (.rg x211_18 (.rg x211_19 (.exit 1))) .skip)) (.rg x211_20 (.rg x211_21 (.rg x211_22 (.rg x211_23 (.rg x211_24 (.cond r3_113 (.rg x211_25 (.rg x211_26 (.reg x211_27))) (.rg x211_28 (.rg x211_29 (.reg x211_30))))))))))))
noncomputable def x211 : XC tf3 := (.rg x211_0 (.rg x211_1 (.block 0 (.loop (.block 1 (.rg x211_2 (.seq (.rg x211_3 (.cond r3_23 (.rg x211_4 .ret) .skip)) (.seq (.rg x211_5 (.cond r3_29 (.rg x211_6 .ret) .skip)) (.seq (.rg x211_7 (.cond r3_35 (.rg x211_8 (.reg x211_9)) .skip)) (.rg x211_10 x211_31))))))))))
noncomputable def c211 : Code := Tryd.f211.body.getD .skip
theorem x211_b : Tryd.f211.body = some c211 := by kernel_rfl
theorem x211_c : cG (comp Tryd.prog) 2 3 134 x211 c211 = x211.den := by kernel_rfl
noncomputable def y211 : List (RR Tryd.prog 3 134 tf3) := []
theorem x211_r : y211.map RR.den = Tryd.f211.results.toList := by kernel_rfl
theorem x211_k : okFn Tryd.f211 = true := by kernel_rfl
theorem x211_D : 3 = dep Tryd.f211.ntmps := by kernel_rfl
theorem x211_s : ([s3_0, s3_1, s3_2, s3_3] : List (Slot tf3)).map Slot.p = (List.range' 0 4).map (pth 3) := by kernel_rfl
noncomputable def X211 : XFn Tryd.prog 2 (comp Tryd.prog) := ⟨X3, tf3, 211, Tryd.f211, c211, 3, 134, [s3_0, s3_1, s3_2, s3_3], z3, x211, y211, x211_D, Tryd.ntmps211.symm, Tryd.func211, x211_b, x211_k, x211_s, by decide, z3_ok, x211_c, x211_r⟩
noncomputable def x212_0 : List (Ins tf1) := [(iAs (rk (.int .i64 (.ofNat 0))) s1_2)]
noncomputable def x212_1 : List (Ins tf1) := [(iMv r1_0 s1_3), (iP1 (bCv .u32) r1_3 s1_4), (iCall (rk (.func (.func 239) #[] #[])) [r1_4] (some s1_5)), (iAs r1_5 s1_2)]
noncomputable def x212_2 : List (Ins tf1) := [(iMv r1_0 s1_6), (iCall (rk (.func (.func 240) #[] #[])) [r1_6] (some s1_7)), (iAs r1_7 s1_2)]
noncomputable def x212 : XC tf1 := (.rg x212_0 (.seq (.cond (rk (.bool false)) (.rg x212_1 .ret) .skip) (.rg x212_2 .ret)))
noncomputable def c212 : Code := Tryd.f212.body.getD .skip
theorem x212_b : Tryd.f212.body = some c212 := by kernel_rfl
theorem x212_c : cG (comp Tryd.prog) 2 1 8 x212 c212 = x212.den := by kernel_rfl
noncomputable def y212 : List (RR Tryd.prog 1 8 tf1) := [rrT r1_2 2 rfl rfl]
theorem x212_r : y212.map RR.den = Tryd.f212.results.toList := by kernel_rfl
theorem x212_k : okFn Tryd.f212 = true := by kernel_rfl
theorem x212_D : 1 = dep Tryd.f212.ntmps := by kernel_rfl
theorem x212_s : ([s1_0] : List (Slot tf1)).map Slot.p = (List.range' 0 1).map (pth 1) := by kernel_rfl
noncomputable def X212 : XFn Tryd.prog 2 (comp Tryd.prog) := ⟨X1, tf1, 212, Tryd.f212, c212, 1, 8, [s1_0], z1, x212, y212, x212_D, Tryd.ntmps212.symm, Tryd.func212, x212_b, x212_k, x212_s, by decide, z1_ok, x212_c, x212_r⟩
noncomputable def x214_0 : List (Ins tf3) := [(iAs (rk (.slice none 0 0)) s3_4)]
noncomputable def x214_1 : List (Ins tf3) := [(iMv r3_0 s3_14), (iP1 bNil r3_14 s3_15), (iP1 (bFa 2) r3_15 s3_16), (iR1 bLd r3_16 s3_17), (iMv r3_1 s3_18), (iGr (r2 (rLook [0] false (.slice none 0 0) true)) [r3_17, r3_18] (some s3_19)), (iMv r3_19 s3_13), (iGp (l1 (pExt 0)) [r3_13] (some s3_20)), (iGp (l1 (pExt 1)) [r3_13] (some s3_21)), (iAs r3_20 s3_5), (iAs r3_21 s3_6)]
noncomputable def x214_2 : List (Ins tf3) := [(iMv r3_6 s3_22)]
noncomputable def x214_3 : List (Ins tf3) := [(iMv r3_5 s3_23), (iAs r3_23 s3_4)]
noncomputable def x214_4 : List (Ins tf3) := [(iMv r3_0 s3_25), (iP1 bNil r3_25 s3_26), (iP1 (bFa 0) r3_26 s3_27), (iR1 bLd r3_27 s3_28), (iMv r3_1 s3_29), (iCall (rk (.func (.func 75) #[] #[])) [r3_28, r3_29] (some s3_30)), (iMv r3_30 s3_24), (iGp (l1 (pExt 0)) [r3_24] (some s3_31)), (iGp (l1 (pExt 1)) [r3_24] (some s3_32)), (iGa (aAl 3 [(.int .u8 (.ofNat 0)), (.int .u64 (.ofNat 0)), (.slice none 0 0)]) [] (some s3_7)), (iGm (m2 (sStn 3)) [r3_7, r3_31] none), (iAs r3_32 s3_8)]
noncomputable def x214_5 : List (Ins tf3) := [(iAs (rk (.slice none 0 0)) s3_9)]
noncomputable def x214_6 : List (Ins tf3) := [(iP1 (bFa 2) r3_7 s3_33), (iR1 bLd r3_33 s3_34), (iP1 bLen r3_34 s3_35), (iP2 bEq r3_35 (rk (.int .i64 (.ofNat 0))) s3_36)]
noncomputable def x214_7 : List (Ins tf3) := [(iMv r3_0 s3_37), (iMv r3_1 s3_38), (iGr (r1 (rLdn 3)) [r3_7] (some s3_39)), (iCall (rk (.func (.func 241) #[] #[])) [r3_37, r3_38, r3_39] (some s3_40)), (iAs r3_40 s3_9)]
noncomputable def x214_8 : List (Ins tf3) := [(iP1 (bFa 2) r3_7 s3_41), (iR1 bLd r3_41 s3_42), (iP1 bLen r3_42 s3_43), (iGa (a2 (gMks 1 24 [(.slice none 0 0)])) [r3_43, r3_43] (some s3_44)), (iAs r3_44 s3_10)]
noncomputable def x214_9 : List (Ins tf3) := [(iP1 (bFa 2) r3_7 s3_45), (iR1 bLd r3_45 s3_46), (iP1 bLen r3_46 s3_47), (iMv (rk (.int .i64 (.ofNat 0))) s3_48)]
noncomputable def x214_10 : List (Ins tf3) := [(iP2 bLt r3_48 r3_47 s3_49)]
noncomputable def x214_11 : List (Ins tf3) := [(iMv r3_48 s3_50), (iP2 (bIxs 1) r3_46 r3_48 s3_51), (iR1 bLd r3_51 s3_52), (iAs r3_50 s3_11), (iAs r3_52 s3_12)]
noncomputable def x214_12 : List (Ins tf3) := [(iMv r3_10 s3_53), (iMv r3_11 s3_54), (iMv r3_0 s3_55), (iMv r3_12 s3_56), (iCall (rk (.func (.func 214) #[] #[])) [r3_55, r3_56] (some s3_57)), (iP2 (bIxs 1) r3_53 r3_54 s3_58), (iM2 bSt r3_58 r3_57)]
noncomputable def x214_13 : List (Ins tf3) := [(iP2 bAdd r3_48 (rk (.int .i64 (.ofNat 1))) s3_59), (iMv r3_59 s3_48)]
noncomputable def x214_14 : List (Ins tf3) := [(iMv r3_0 s3_60), (iP1 (bFa 0) r3_7 s3_61), (iR1 bLd r3_61 s3_62), (iMv r3_10 s3_63), (iCall (rk (.func (.func 242) #[] #[])) [r3_60, r3_62, r3_63] (some s3_64)), (iAs r3_64 s3_9)]
noncomputable def x214_15 : List (Ins tf3) := [(iMv r3_0 s3_65), (iP1 bNil r3_65 s3_66), (iP1 (bFa 2) r3_66 s3_67), (iR1 bLd r3_67 s3_68), (iMv r3_1 s3_69), (iMv r3_9 s3_70), (iGm (m3 (sUpd [0] false)) [r3_68, r3_69, r3_70] none)]
noncomputable def x214_16 : List (Ins tf3) := [(iMv r3_9 s3_71), (iAs r3_71 s3_4)]
noncomputable def x214 : XC tf3 := (.rg x214_0 (.seq (.rg x214_1 (.rg x214_2 (.cond r3_22 (.rg x214_3 .ret) .skip))) (.rg x214_4 (.rg x214_5 (.seq (.rg x214_6 (.cond r3_36 (.reg x214_7) (.rg x214_8 (.seq (.rg x214_9 (.block 0 (.loop (.rg x214_10 (.seq (.cond r3_49 .skip (.exit 0)) (.seq (.block 1 (.rg x214_11 (.reg x214_12))) (.reg x214_13))))))) (.reg x214_14))))) (.rg x214_15 (.rg x214_16 .ret)))))))
noncomputable def c214 : Code := Tryd.f214.body.getD .skip
theorem x214_b : Tryd.f214.body = some c214 := by kernel_rfl
theorem x214_c : cG (comp Tryd.prog) 2 3 72 x214 c214 = x214.den := by kernel_rfl
noncomputable def y214 : List (RR Tryd.prog 3 72 tf3) := [rrT r3_4 4 rfl rfl]
theorem x214_r : y214.map RR.den = Tryd.f214.results.toList := by kernel_rfl
theorem x214_k : okFn Tryd.f214 = true := by kernel_rfl
theorem x214_D : 3 = dep Tryd.f214.ntmps := by kernel_rfl
theorem x214_s : ([s3_0, s3_1] : List (Slot tf3)).map Slot.p = (List.range' 0 2).map (pth 3) := by kernel_rfl
noncomputable def X214 : XFn Tryd.prog 2 (comp Tryd.prog) := ⟨X3, tf3, 214, Tryd.f214, c214, 3, 72, [s3_0, s3_1], z3, x214, y214, x214_D, Tryd.ntmps214.symm, Tryd.func214, x214_b, x214_k, x214_s, by decide, z3_ok, x214_c, x214_r⟩
noncomputable def x215_0 : List (Ins tf3) := [(iAs (rk (.int .i64 (.ofNat 0))) s3_6)]
noncomputable def x215_1 : List (Ins tf3) := [(iMv r3_0 s3_15), (iGp (l2 (pEqD (tdOf 249) false)) [r3_15, (rk (.pointer none))] (some s3_16))]
noncomputable def x215_2 : List (Ins tf3) := [(iAs (rk (.int .i64 (.ofNat 1))) s3_6)]
noncomputable def x215_3 : List (Ins tf3) := [(iMv r3_2 s3_17), (iP1 bLen r3_17 s3_18), (iMv (rk (.int .i64 (.ofNat 0))) s3_19)]
noncomputable def x215_4 : List (Ins tf3) := [(iP2 bLt r3_19 r3_18 s3_20)]
noncomputable def x215_5 : List (Ins tf3) := [(iP2 (bIxs 1) r3_17 r3_19 s3_21), (iR1 bLd r3_21 s3_22), (iAs r3_22 s3_8)]
noncomputable def x215_6 : List (Ins tf3) := [(iMv r3_8 s3_23), (iP1 bLen r3_23 s3_24), (iP2 bLt r3_24 (rk (.int .i64 (.ofNat 1))) s3_25), (iMv r3_25 s3_26), (iGd r3_26 [.o2, .o3, .o0] false (iMv r3_8 s3_27) (some s3_27) rfl rfl rfl), (iGd r3_26 [.o2, .o3, .o0] false (iP1 bLen r3_27 s3_28) (some s3_28) rfl rfl rfl), (iGd r3_26 [.o2, .o3, .o0] false (iP2 bGt r3_28 (rk (.int .i64 (.ofNat 64))) s3_29) (some s3_29) rfl rfl rfl), (iGp (l3 pPick) [r3_26, (rk (.bool true)), r3_29] (some s3_30)), (iMv r3_30 s3_31), (iGd r3_31 [.o7, .o3, .o0] false (iMv r3_8 s3_32) (some s3_32) rfl rfl rfl), (iGd r3_31 [.o7, .o3, .o0] false (iP1 bLen r3_32 s3_33) (some s3_33) rfl rfl rfl), (iGd r3_31 [.o7, .o3, .o0] false (iMv r3_2 s3_34) (some s3_34) rfl rfl rfl), (iGd r3_31 [.o7, .o3, .o0] false (iP2 (bIxs 1) r3_34 (rk (.int .i64 (.ofNat 0))) s3_35) (some s3_35) rfl rfl rfl), (iGd r3_31 [.o7, .o3, .o0] false (iR1 bLd r3_35 s3_36) (some s3_36) rfl rfl rfl), (iGd r3_31 [.o7, .o3, .o0] false (iP1 bLen r3_36 s3_37) (some s3_37) rfl rfl rfl), (iGd r3_31 [.o7, .o3, .o0] false (iP2 bNe r3_33 r3_37 s3_38) (some s3_38) rfl rfl rfl), (iGp (l3 pPick) [r3_31, (rk (.bool true)), r3_38] (some s3_39))]
noncomputable def x215_7 : List (Ins tf3) := [(iAs (rk (.int .i64 (.ofNat 2))) s3_6)]
noncomputable def x215_8 : List (Ins tf3) := [(iP2 bAdd r3_19 (rk (.int .i64 (.ofNat 1))) s3_40), (iMv r3_40 s3_19)]
noncomputable def x215_9 : List (Ins tf3) := [(iMv r3_1 s3_41), (iGa (aBsl 1 1 [(.slice none 0 0)] [(0, 1)]) [r3_41] (some s3_42)), (iMv r3_2 s3_43), (iGm (m2 (sApp 1)) [r3_42, r3_43] (some s3_44)), (iP1 bLen r3_44 s3_45), (iMv (rk (.int .i64 (.ofNat 0))) s3_46)]
noncomputable def x215_10 : List (Ins tf3) := [(iP2 bLt r3_46 r3_45 s3_47)]
noncomputable def x215_11 : List (Ins tf3) := [(iP2 (bIxs 1) r3_44 r3_46 s3_48), (iR1 bLd r3_48 s3_49), (iAs r3_49 s3_10)]
noncomputable def x215_12 : List (Ins tf3) := [(iMv r3_10 s3_50), (iP1 bLen r3_50 s3_51), (iMv (rk (.int .i64 (.ofNat 0))) s3_52)]
noncomputable def x215_13 : List (Ins tf3) := [(iP2 bLt r3_52 r3_51 s3_53)]
noncomputable def x215_14 : List (Ins tf3) := [(iP2 (bIxs 1) r3_50 r3_52 s3_54), (iR1 bLd r3_54 s3_55), (iAs r3_55 s3_12)]
noncomputable def x215_15 : List (Ins tf3) := [(iMv r3_0 s3_57), (iMv r3_12 s3_58), (iMv r3_12 s3_59), (iCall (rk (.func (.func 243) #[] #[])) [r3_57, r3_58, r3_59] (some s3_60)), (iMv r3_60 s3_56), (iGp (l1 (pExt 0)) [r3_56] (some s3_61)), (iGp (l1 (pExt 1)) [r3_56] (some s3_62)), (iAs r3_61 s3_13), (iAs r3_62 s3_14)]
noncomputable def x215_16 : List (Ins tf3) := [(iMv r3_14 s3_63), (iP2 bNe r3_63 (rk (.int .i64 (.ofNat 0))) s3_64)]
noncomputable def x215_17 : List (Ins tf3) := [(iMv r3_14 s3_65), (iAs r3_65 s3_6)]
noncomputable def x215_18 : List (Ins tf3) := [(iP2 bAdd r3_52 (rk (.int .i64 (.ofNat 1))) s3_66), (iMv r3_66 s3_52)]
noncomputable def x215_19 : List (Ins tf3) := [(iP2 bAdd r3_46 (rk (.int .i64 (.ofNat 1))) s3_67), (iMv r3_67 s3_46)]
noncomputable def x215_20 : List (Ins tf3) := [(iAs (rk (.int .i64 (.ofNat 0))) s3_6)]
noncomputable def x215_21 : XC tf3 := (.seq (.rg x215_3 (.block 0 (.loop (.rg x215_4 (.seq (.cond r3_20 .skip (.exit 0)) (.seq (.block 1 (.rg x215_5 (.rg x215_6 (.cond r3_39 (.rg x215_7 .ret) .skip)))) (.reg x215_8))))))) (.seq (.rg x215_9 (.block 2 (.loop (.rg x215_10 (.seq (.cond r3_47 .skip (.exit 2)) (.seq (.block 3 (.rg x215_11 (.rg x215_12 (.block 4 (.loop (.rg x215_13 (.seq (.cond r3_53 .skip (.exit 4)) (.seq (.block 5 (.rg x215_14 (.rg x215_15 (.rg x215_16 (.cond r3_64 (.rg x215_17 .ret) .skip))))) (.reg x215_18))))))))) (.reg x215_19))))))) (.rg x215_20 .ret)))
noncomputable def x215 : XC tf3 := (.rg x215_0 (.seq (.rg x215_1 (.cond r3_16 (.rg x215_2 .ret) .skip)) x215_21))
noncomputable def c215 : Code := Tryd.f215.body.getD .skip
theorem x215_b : Tryd.f215.body = some c215 := by kernel_rfl
theorem x215_c : cG (comp Tryd.prog) 2 3 68 x215 c215 = x215.den := by kernel_rfl
noncomputable def y215 : List (RR Tryd.prog 3 68 tf3) := [rrT r3_6 6 rfl rfl]
theorem x215_r : y215.map RR.den = Tryd.f215.results.toList := by kernel_rfl
theorem x215_k : okFn Tryd.f215 = true := by kernel_rfl
theorem x215_D : 3 = dep Tryd.f215.ntmps := by kernel_rfl
theorem x215_s : ([s3_0, s3_1, s3_2] : List (Slot tf3)).map Slot.p = (List.range' 0 3).map (pth 3) := by kernel_rfl
noncomputable def X215 : XFn Tryd.prog 2 (comp Tryd.prog) := ⟨X3, tf3, 215, Tryd.f215, c215, 3, 68, [s3_0, s3_1, s3_2], z3, x215, y215, x215_D, Tryd.ntmps215.symm, Tryd.func215, x215_b, x215_k, x215_s, by decide, z3_ok, x215_c, x215_r⟩
noncomputable def x216_0 : List (Ins tf1) := [(iAs (rk (.int .i64 (.ofNat 0))) s1_2)]
noncomputable def x216_1 : List (Ins tf1) := [(iMv r1_0 s1_3), (iGp (l2 (pEqD (tdOf 249) false)) [r1_3, (rk (.pointer none))] (some s1_4))]
noncomputable def x216_2 : List (Ins tf1) := [(iAs (rk (.int .i64 (.ofNat 0))) s1_2)]
noncomputable def x216_3 : List (Ins tf1) := [(iAs (rk (.int .i64 (.ofNat 1))) s1_2)]
noncomputable def x216 : XC tf1 := (.rg x216_0 (.seq (.rg x216_1 (.cond r1_4 (.rg x216_2 .ret) .skip)) (.rg x216_3 .ret)))
noncomputable def c216 : Code := Tryd.f216.body.getD .skip
theorem x216_b : Tryd.f216.body = some c216 := by kernel_rfl
theorem x216_c : cG (comp Tryd.prog) 2 1 5 x216 c216 = x216.den := by kernel_rfl
noncomputable def y216 : List (RR Tryd.prog 1 5 tf1) := [rrT r1_2 2 rfl rfl]
theorem x216_r : y216.map RR.den = Tryd.f216.results.toList := by kernel_rfl
theorem x216_k : okFn Tryd.f216 = true := by kernel_rfl
theorem x216_D : 1 = dep Tryd.f216.ntmps := by kernel_rfl
theorem x216_s : ([s1_0] : List (Slot tf1)).map Slot.p = (List.range' 0 1).map (pth 1) := by kernel_rfl
noncomputable def X216 : XFn Tryd.prog 2 (comp Tryd.prog) := ⟨X1, tf1, 216, Tryd.f216, c216, 1, 5, [s1_0], z1, x216, y216, x216_D, Tryd.ntmps216.symm, Tryd.func216, x216_b, x216_k, x216_s, by decide, z1_ok, x216_c, x216_r⟩
noncomputable def x217_0 : List (Ins tf2) := [(iAs (rk (.int .i64 (.ofNat 0))) s2_6)]
noncomputable def x217_1 : List (Ins tf2) := [(iMv r2_0 s2_8), (iP1 bNil r2_8 s2_9), (iP1 (bFa 1) r2_9 s2_10), (iR1 bLd r2_10 s2_11), (iP2 bNe r2_11 (rk (.int .i64 (.ofNat 0))) s2_12)]
noncomputable def x217_2 : List (Ins tf2) := [(iAs (rk (.int .i64 (.ofNat 0))) s2_6)]
noncomputable def x217_3 : List (Ins tf2) := [(iAs (rk (.int .i64 (.ofNat 0))) s2_7)]
noncomputable def x217_4 : List (Ins tf2) := [(iMv r2_0 s2_14), (iMv r2_0 s2_15), (iP1 bNil r2_15 s2_16), (iP1 (bFa 0) r2_16 s2_17), (iR1 bLd r2_17 s2_18), (iMv r2_1 s2_19), (iMv r2_2 s2_20), (iCall (rk (.func (.func 244) #[] #[])) [r2_18, r2_19, r2_20] (some s2_21)), (iMv r2_21 s2_13), (iGp (l1 (pExt 0)) [r2_13] (some s2_22)), (iGp (l1 (pExt 1)) [r2_13] (some s2_23)), (iAs r2_22 s2_7), (iP1 bNil r2_14 s2_24), (iP1 (bFa 1) r2_24 s2_25), (iM2 bSt r2_25 r2_23)]
noncomputable def x217_5 : List (Ins tf2) := [(iMv r2_7 s2_26), (iAs r2_26 s2_6)]
noncomputable def x217 : XC tf2 := (.rg x217_0 (.seq (.rg x217_1 (.cond r2_12 (.rg x217_2 .ret) .skip)) (.rg x217_3 (.rg x217_4 (.rg x217_5 .ret)))))
noncomputable def c217 : Code := Tryd.f217.body.getD .skip
theorem x217_b : Tryd.f217.body = some c217 := by kernel_rfl
theorem x217_c : cG (comp Tryd.prog) 2 2 27 x217 c217 = x217.den := by kernel_rfl
noncomputable def y217 : List (RR Tryd.prog 2 27 tf2) := [rrT r2_6 6 rfl rfl]
theorem x217_r : y217.map RR.den = Tryd.f217.results.toList := by kernel_rfl
theorem x217_k : okFn Tryd.f217 = true := by kernel_rfl
theorem x217_D : 2 = dep Tryd.f217.ntmps := by kernel_rfl
theorem x217_s : ([s2_0, s2_1, s2_2] : List (Slot tf2)).map Slot.p = (List.range' 0 3).map (pth 2) := by kernel_rfl
noncomputable def X217 : XFn Tryd.prog 2 (comp Tryd.prog) := ⟨X2, tf2, 217, Tryd.f217, c217, 2, 27, [s2_0, s2_1, s2_2], z2, x217, y217, x217_D, Tryd.ntmps217.symm, Tryd.func217, x217_b, x217_k, x217_s, by decide, z2_ok, x217_c, x217_r⟩
noncomputable def x218_0 : List (Ins tf2) := [(iAs (rk (.int .i64 (.ofNat 0))) s2_4), (iAs (rk (.int .i64 (.ofNat 0))) s2_5)]
noncomputable def x218_1 : List (Ins tf2) := [(iMv r2_0 s2_6), (iP1 bNil r2_6 s2_7), (iP1 (bFa 1) r2_7 s2_8), (iR1 bLd r2_8 s2_9), (iP2 bNe r2_9 (rk (.int .i64 (.ofNat 0))) s2_10)]
noncomputable def x218_2 : List (Ins tf2) := [(iMv r2_0 s2_11), (iP1 bNil r2_11 s2_12), (iP1 (bFa 1) r2_12 s2_13), (iR1 bLd r2_13 s2_14), (iRc (iAs (rk (.int .i64 (.ofNat 0))) s2_4) [(rcLd r2_13 r2_14 [.o6, .o1] rfl)] rfl), (iAs r2_14 s2_5)]
noncomputable def x218_3 : List (Ins tf2) := [(iMv r2_1 s2_15), (iAs r2_15 s2_4), (iAs (rk (.int .i64 (.ofNat 0))) s2_5)]
noncomputable def x218 : XC tf2 := (.rg x218_0 (.seq (.rg x218_1 (.cond r2_10 (.rg x218_2 .ret) .skip)) (.rg x218_3 .ret)))
noncomputable def c218 : Code := Tryd.f218.body.getD .skip
theorem x218_b : Tryd.f218.body = some c218 := by kernel_rfl
theorem x218_c : cG (comp Tryd.prog) 2 2 16 x218 c218 = x218.den := by kernel_rfl
noncomputable def y218 : List (RR Tryd.prog 2 16 tf2) := [rrT r2_4 4 rfl rfl, rrT r2_5 5 rfl rfl]
theorem x218_r : y218.map RR.den = Tryd.f218.results.toList := by kernel_rfl
theorem x218_k : okFn Tryd.f218 = true := by kernel_rfl
theorem x218_D : 2 = dep Tryd.f218.ntmps := by kernel_rfl
theorem x218_s : ([s2_0, s2_1] : List (Slot tf2)).map Slot.p = (List.range' 0 2).map (pth 2) := by kernel_rfl
noncomputable def X218 : XFn Tryd.prog 2 (comp Tryd.prog) := ⟨X2, tf2, 218, Tryd.f218, c218, 2, 16, [s2_0, s2_1], z2, x218, y218, x218_D, Tryd.ntmps218.symm, Tryd.func218, x218_b, x218_k, x218_s, by decide, z2_ok, x218_c, x218_r⟩
noncomputable def x219_0 : List (Ins tf2) := [(iAs (rk (.bool false)) s2_4)]
noncomputable def x219_1 : List (Ins tf2) := [(iMv r2_1 s2_7), (iP1 bLen r2_7 s2_8), (iMv (rk (.int .i64 (.ofNat 0))) s2_9)]
noncomputable def x219_2 : List (Ins tf2) := [(iP2 bLt r2_9 r2_8 s2_10)]
noncomputable def x219_3 : List (Ins tf2) := [(iP2 (bIxs 1) r2_7 r2_9 s2_11), (iR1 bLd r2_11 s2_12), (iAs r2_12 s2_6)]
noncomputable def x219_4 : List (Ins tf2) := [(iMv r2_6 s2_13), (iP2 bEq r2_13 (rk (.int .i64 (.ofNat 0))) s2_14), (iMv r2_14 s2_15), (iGd r2_15 [.o7, .o1] false (iMv r2_6 s2_16) (some s2_16) rfl rfl rfl), (iGd r2_15 [.o7, .o1] false (iMv r2_0 s2_17) (some s2_17) rfl rfl rfl), (iGd r2_15 [.o7, .o1] false (iP1 bNil r2_17 s2_18) (some s2_18) rfl rfl rfl), (iGd r2_15 [.o7, .o1] false (iP1 (bFa 0) r2_18 s2_19) (some s2_19) rfl rfl rfl), (iGd r2_15 [.o7, .o1] false (iP1 (bFa 0) r2_19 s2_20) (some s2_20) rfl rfl rfl), (iGd r2_15 [.o7, .o1] false (iR1 bLd r2_20 s2_21) (some s2_21) rfl rfl rfl), (iGd r2_15 [.o7, .o1] false (iP2 bGt r2_16 r2_21 s2_22) (some s2_22) rfl rfl rfl), (iGp (l3 pPick) [r2_15, (rk (.bool true)), r2_22] (some s2_23)), (iMv r2_23 s2_24), (iGd r2_24 [.o0, .o3] false (iMv r2_6 s2_25) (some s2_25) rfl rfl rfl), (iGd r2_24 [.o0, .o3] false (iMv r2_0 s2_26) (some s2_26) rfl rfl rfl), (iGd r2_24 [.o0, .o3] false (iP1 bNil r2_26 s2_27) (some s2_27) rfl rfl rfl), (iGd r2_24 [.o0, .o3] false (iP1 (bFa 0) r2_27 s2_28) (some s2_28) rfl rfl rfl), (iGd r2_24 [.o0, .o3] false (iP1 (bFa 0) r2_28 s2_29) (some s2_29) rfl rfl rfl), (iGd r2_24 [.o0, .o3] false (iR1 bLd r2_29 s2_30) (some s2_30) rfl rfl rfl), (iGd r2_24 [.o0, .o3] false (iGp (l1 (pUn .neg)) [r2_30] (some s2_31)) (some s2_31) rfl rfl rfl), (iGd r2_24 [.o0, .o3] false (iP2 bLt r2_25 r2_31 s2_32) (some s2_32) rfl rfl rfl), (iGp (l3 pPick) [r2_24, (rk (.bool true)), r2_32] (some s2_33))]
noncomputable def x219_5 : List (Ins tf2) := [(iAs (rk (.bool false)) s2_4)]
noncomputable def x219_6 : List (Ins tf2) := [(iP2 bAdd r2_9 (rk (.int .i64 (.ofNat 1))) s2_34), (iMv r2_34 s2_9)]
noncomputable def x219_7 : List (Ins tf2) := [(iAs (rk (.bool true)) s2_4)]
noncomputable def x219 : XC tf2 := (.rg x219_0 (.seq (.rg x219_1 (.block 0 (.loop (.rg x219_2 (.seq (.cond r2_10 .skip (.exit 0)) (.seq (.block 1 (.rg x219_3 (.rg x219_4 (.cond r2_33 (.rg x219_5 .ret) .skip)))) (.reg x219_6))))))) (.rg x219_7 .ret)))
noncomputable def c219 : Code := Tryd.f219.body.getD .skip
theorem x219_b : Tryd.f219.body = some c219 := by kernel_rfl
theorem x219_c : cG (comp Tryd.prog) 2 2 35 x219 c219 = x219.den := by kernel_rfl
noncomputable def y219 : List (RR Tryd.prog 2 35 tf2) := [rrT r2_4 4 rfl rfl]
theorem x219_r : y219.map RR.den = Tryd.f219.results.toList := by kernel_rfl
theorem x219_k : okFn Tryd.f219 = true := by kernel_rfl
theorem x219_D : 2 = dep Tryd.f219.ntmps := by kernel_rfl
theorem x219_s : ([s2_0, s2_1] : List (Slot tf2)).map Slot.p = (List.range' 0 2).map (pth 2) := by kernel_rfl
noncomputable def X219 : XFn Tryd.prog 2 (comp Tryd.prog) := ⟨X2, tf2, 219, Tryd.f219, c219, 2, 35, [s2_0, s2_1], z2, x219, y219, x219_D, Tryd.ntmps219.symm, Tryd.func219, x219_b, x219_k, x219_s, by decide, z2_ok, x219_c, x219_r⟩
noncomputable def x220_0 : List (Ins tf2) := [(iAs (rk (.int .i64 (.ofNat 0))) s2_4)]
noncomputable def x220_1 : List (Ins tf2) := [(iMv r2_0 s2_7), (iP2 bLt r2_7 (rk (.int .i64 (.ofNat 0))) s2_8), (iMv r2_8 s2_9), (iGd r2_9 [.o1, .o1] false (iMv r2_0 s2_10) (some s2_10) rfl rfl rfl), (iGd r2_9 [.o1, .o1] false (iP2 bGt r2_10 (rk (.int .i64 (.ofNat 1048576))) s2_11) (some s2_11) rfl rfl rfl), (iGp (l3 pPick) [r2_9, (rk (.bool true)), r2_11] (some s2_12))]
noncomputable def x220_2 : List (Ins tf2) := [(iAs (rk (.int .i64 (.ofNat 3))) s2_4)]
noncomputable def x220_3 : List (Ins tf2) := [(iMv r2_1 s2_13), (iP1 bLen r2_13 s2_14), (iP2 bGt r2_14 (rk (.int .i64 (.ofNat 4096))) s2_15)]
noncomputable def x220_4 : List (Ins tf2) := [(iAs (rk (.int .i64 (.ofNat 5))) s2_4)]
noncomputable def x220_5 : List (Ins tf2) := [(iMv r2_1 s2_16), (iP1 bLen r2_16 s2_17), (iMv (rk (.int .i64 (.ofNat 0))) s2_18)]
noncomputable def x220_6 : List (Ins tf2) := [(iP2 bLt r2_18 r2_17 s2_19)]
noncomputable def x220_7 : List (Ins tf2) := [(iP2 (bIxs 1) r2_16 r2_18 s2_20), (iR1 bLd r2_20 s2_21), (iAs r2_21 s2_6)]
noncomputable def x220_8 : List (Ins tf2) := [(iMv r2_6 s2_22), (iP2 bEq r2_22 (rk (.int .i64 (.ofNat 0))) s2_23), (iMv r2_23 s2_24), (iGd r2_24 [.o0, .o3] false (iMv r2_6 s2_25) (some s2_25) rfl rfl rfl), (iGd r2_24 [.o0, .o3] false (iCall (rk (.func (.func 245) #[] #[])) [r2_25] (some s2_26)) (some s2_26) rfl rfl rfl), (iGd r2_24 [.o0, .o3] false (iMv r2_0 s2_27) (some s2_27) rfl rfl rfl), (iGd r2_24 [.o0, .o3] false (iP1 (bCv .u64) r2_27 s2_28) (some s2_28) rfl rfl rfl), (iGd r2_24 [.o0, .o3] false (iP2 bGt r2_26 r2_28 s2_29) (some s2_29) rfl rfl rfl), (iGp (l3 pPick) [r2_24, (rk (.bool true)), r2_29] (some s2_30))]
noncomputable def x220_9 : List (Ins tf2) := [(iAs (rk (.int .i64 (.ofNat 3))) s2_4)]
noncomputable def x220_10 : List (Ins tf2) := [(iP2 bAdd r2_18 (rk (.int .i64 (.ofNat 1))) s2_31), (iMv r2_31 s2_18)]
noncomputable def x220_11 : List (Ins tf2) := [(iAs (rk (.int .i64 (.ofNat 0))) s2_4)]
noncomputable def x220 : XC tf2 := (.rg x220_0 (.seq (.rg x220_1 (.cond r2_12 (.rg x220_2 .ret) .skip)) (.seq (.rg x220_3 (.cond r2_15 (.rg x220_4 .ret) .skip)) (.seq (.rg x220_5 (.block 0 (.loop (.rg x220_6 (.seq (.cond r2_19 .skip (.exit 0)) (.seq (.block 1 (.rg x220_7 (.rg x220_8 (.cond r2_30 (.rg x220_9 .ret) .skip)))) (.reg x220_10))))))) (.rg x220_11 .ret)))))
noncomputable def c220 : Code := Tryd.f220.body.getD .skip
theorem x220_b : Tryd.f220.body = some c220 := by kernel_rfl
theorem x220_c : cG (comp Tryd.prog) 2 2 32 x220 c220 = x220.den := by kernel_rfl
noncomputable def y220 : List (RR Tryd.prog 2 32 tf2) := [rrT r2_4 4 rfl rfl]
theorem x220_r : y220.map RR.den = Tryd.f220.results.toList := by kernel_rfl
theorem x220_k : okFn Tryd.f220 = true := by kernel_rfl
theorem x220_D : 2 = dep Tryd.f220.ntmps := by kernel_rfl
theorem x220_s : ([s2_0, s2_1] : List (Slot tf2)).map Slot.p = (List.range' 0 2).map (pth 2) := by kernel_rfl
noncomputable def X220 : XFn Tryd.prog 2 (comp Tryd.prog) := ⟨X2, tf2, 220, Tryd.f220, c220, 2, 32, [s2_0, s2_1], z2, x220, y220, x220_D, Tryd.ntmps220.symm, Tryd.func220, x220_b, x220_k, x220_s, by decide, z2_ok, x220_c, x220_r⟩
noncomputable def x221_0 : List (Ins tf2) := [(iAs (rk (.bool false)) s2_6)]
noncomputable def x221_1 : List (Ins tf2) := [(iMv r2_0 s2_7), (iP1 bNil r2_7 s2_8), (iP1 (bFa 0) r2_8 s2_9), (iR1 bLd r2_9 s2_10), (iMv r2_1 s2_11), (iP2 (bIxs 1) r2_10 r2_11 s2_12), (iR1 bLd r2_12 s2_13), (iMv r2_0 s2_14), (iP1 bNil r2_14 s2_15), (iP1 (bFa 0) r2_15 s2_16), (iR1 bLd r2_16 s2_17), (iMv r2_2 s2_18), (iP2 (bIxs 1) r2_17 r2_18 s2_19), (iR1 bLd r2_19 s2_20), (iP2 bNe r2_13 r2_20 s2_21)]
noncomputable def x221_2 : List (Ins tf2) := [(iMv r2_0 s2_22), (iP1 bNil r2_22 s2_23), (iP1 (bFa 0) r2_23 s2_24), (iR1 bLd r2_24 s2_25), (iMv r2_1 s2_26), (iP2 (bIxs 1) r2_25 r2_26 s2_27), (iR1 bLd r2_27 s2_28), (iMv r2_0 s2_29), (iP1 bNil r2_29 s2_30), (iP1 (bFa 0) r2_30 s2_31), (iR1 bLd r2_31 s2_32), (iMv r2_2 s2_33), (iP2 (bIxs 1) r2_32 r2_33 s2_34), (iR1 bLd r2_34 s2_35), (iP2 bGt r2_28 r2_35 s2_36), (iAs r2_36 s2_6)]
noncomputable def x221_3 : List (Ins tf2) := [(iMv r2_1 s2_37), (iMv r2_2 s2_38), (iP2 bLt r2_37 r2_38 s2_39), (iAs r2_39 s2_6)]
noncomputable def x221 : XC tf2 := (.rg x221_0 (.seq (.rg x221_1 (.cond r2_21 (.rg x221_2 .ret) .skip)) (.rg x221_3 .ret)))
noncomputable def c221 : Code := Tryd.f221.body.getD .skip
theorem x221_b : Tryd.f221.body = some c221 := by kernel_rfl
theorem x221_c : cG (comp Tryd.prog) 2 2 40 x221 c221 = x221.den := by kernel_rfl
noncomputable def y221 : List (RR Tryd.prog 2 40 tf2) := [rrT r2_6 6 rfl rfl]
theorem x221_r : y221.map RR.den = Tryd.f221.results.toList := by kernel_rfl
theorem x221_k : okFn Tryd.f221 = true := by kernel_rfl
theorem x221_D : 2 = dep Tryd.f221.ntmps := by kernel_rfl
theorem x221_s : ([s2_0, s2_1, s2_2] : List (Slot tf2)).map Slot.p = (List.range' 0 3).map (pth 2) := by kernel_rfl
noncomputable def X221 : XFn Tryd.prog 2 (comp Tryd.prog) := ⟨X2, tf2, 221, Tryd.f221, c221, 2, 40, [s2_0, s2_1, s2_2], z2, x221, y221, x221_D, Tryd.ntmps221.symm, Tryd.func221, x221_b, x221_k, x221_s, by decide, z2_ok, x221_c, x221_r⟩
noncomputable def x222_0 : List (Ins tf2) := [(iAs (rk (.slice none 0 0)) s2_2), (iAs (rk (.bool false)) s2_3)]
noncomputable def x222_1 : List (Ins tf2) := [(iMv r2_0 s2_6), (iCall (rk (.func (.func 246) #[] #[])) [r2_6, (rk (.func (.func 247) #[] #[]))] (some s2_7)), (iAs r2_7 s2_4)]
noncomputable def x222_2 : List (Ins tf2) := [(iMv r2_4 s2_8), (iP1 bLen r2_8 s2_9), (iP2 bGt r2_9 (rk (.int .i64 (.ofNat 0))) s2_10), (iMv r2_10 s2_11), (iGd r2_11 [.o3, .o1] true (iMv r2_4 s2_12) (some s2_12) rfl rfl rfl), (iGd r2_11 [.o3, .o1] true (iP2 (bIxs 1) r2_12 (rk (.int .i64 (.ofNat 0))) s2_13) (some s2_13) rfl rfl rfl), (iGd r2_11 [.o3, .o1] true (iR1 bLd r2_13 s2_14) (some s2_14) rfl rfl rfl), (iGd r2_11 [.o3, .o1] true (iP2 bEq r2_14 (rk (.int .i64 (.ofNat 0))) s2_15) (some s2_15) rfl rfl rfl), (iGp (l3 pPick) [r2_11, r2_15, (rk (.bool false))] (some s2_16))]
noncomputable def x222_3 : List (Ins tf2) := [(iMv r2_4 s2_17), (iGp (pSlB (pSl 1) true false false) [r2_17, (rk (.int .i64 (.ofNat 1)))] (some s2_18)), (iAs r2_18 s2_4)]
noncomputable def x222_4 : List (Ins tf2) := [(iAs (rk (.int .i64 (.ofNat 1))) s2_5)]
noncomputable def x222_5 : List (Ins tf2) := [(iMv r2_5 s2_19), (iMv r2_4 s2_20), (iP1 bLen r2_20 s2_21), (iP2 bLt r2_19 r2_21 s2_22)]
noncomputable def x222_6 : List (Ins tf2) := [(iMv r2_4 s2_25), (iMv r2_5 s2_26), (iP2 (bIxs 1) r2_25 r2_26 s2_27), (iR1 bLd r2_27 s2_28), (iMv r2_4 s2_30), (iMv r2_5 s2_31), (iP2 bSub r2_31 (rk (.int .i64 (.ofNat 1))) s2_32), (iP2 (bIxs 1) r2_30 r2_32 s2_33), (iR1 bLd r2_33 s2_34), (iRc (iCall (rk (.func (.func 245) #[] #[])) [r2_28] (some s2_29)) [(rcLd r2_33 r2_34 [.o2, .o4] rfl)] rfl), (iCall (rk (.func (.func 245) #[] #[])) [r2_34] (some s2_35)), (iP2 bEq r2_29 r2_35 s2_36)]
noncomputable def x222_7 : List (Ins tf2) := [(iAs (rk (.slice none 0 0)) s2_2), (iAs (rk (.bool true)) s2_3)]
noncomputable def x222_8 : List (Ins tf2) := [(iMv r2_5 s2_23), (iP2 bAdd r2_23 (rk (.int .i64 (.ofNat 1))) s2_24), (iAs r2_24 s2_5)]
noncomputable def x222_9 : List (Ins tf2) := [(iMv r2_4 s2_37), (iAs r2_37 s2_2), (iAs (rk (.bool false)) s2_3)]
noncomputable def x222 : XC tf2 := (.rg x222_0 (.rg x222_1 (.seq (.rg x222_2 (.cond r2_16 (.reg x222_3) .skip)) (.seq (.rg x222_4 (.block 0 (.loop (.seq (.rg x222_5 (.cond r2_22 .skip (.exit 0))) (.seq (.block 1 (.rg x222_6 (.cond r2_36 (.rg x222_7 .ret) .skip))) (.reg x222_8)))))) (.rg x222_9 .ret)))))
noncomputable def c222 : Code := Tryd.f222.body.getD .skip
theorem x222_b : Tryd.f222.body = some c222 := by kernel_rfl
theorem x222_c : cG (comp Tryd.prog) 2 2 38 x222 c222 = x222.den := by kernel_rfl
noncomputable def y222 : List (RR Tryd.prog 2 38 tf2) := [rrT r2_2 2 rfl rfl, rrT r2_3 3 rfl rfl]
theorem x222_r : y222.map RR.den = Tryd.f222.results.toList := by kernel_rfl
theorem x222_k : okFn Tryd.f222 = true := by kernel_rfl
theorem x222_D : 2 = dep Tryd.f222.ntmps := by kernel_rfl
theorem x222_s : ([s2_0] : List (Slot tf2)).map Slot.p = (List.range' 0 1).map (pth 2) := by kernel_rfl
noncomputable def X222 : XFn Tryd.prog 2 (comp Tryd.prog) := ⟨X2, tf2, 222, Tryd.f222, c222, 2, 38, [s2_0], z2, x222, y222, x222_D, Tryd.ntmps222.symm, Tryd.func222, x222_b, x222_k, x222_s, by decide, z2_ok, x222_c, x222_r⟩
noncomputable def x223_0 : List (Ins tf2) := [(iAs (rk (.int .i8 (.ofNat 0))) s2_4)]
noncomputable def x223_1 : List (Ins tf2) := [(iMv r2_1 s2_5), (iP2 bLt r2_5 (rk (.int .i64 (.ofNat 0))) s2_6)]
noncomputable def x223_2 : List (Ins tf2) := [(iMv r2_0 s2_7), (iP1 bNil r2_7 s2_8), (iP1 (bFa 3) r2_8 s2_9), (iR1 bLd r2_9 s2_10), (iMv r2_1 s2_11), (iGp (l1 (pUn .neg)) [r2_11] (some s2_12)), (iP2 (bIxs 1) r2_10 r2_12 s2_13), (iR1 bLd r2_13 s2_14), (iGp (l1 (pUn .neg)) [r2_14] (some s2_15)), (iAs r2_15 s2_4)]
noncomputable def x223_3 : List (Ins tf2) := [(iMv r2_0 s2_16), (iP1 bNil r2_16 s2_17), (iP1 (bFa 3) r2_17 s2_18), (iR1 bLd r2_18 s2_19), (iMv r2_1 s2_20), (iP2 (bIxs 1) r2_19 r2_20 s2_21), (iR1 bLd r2_21 s2_22), (iAs r2_22 s2_4)]
noncomputable def x223 : XC tf2 := (.rg x223_0 (.seq (.rg x223_1 (.cond r2_6 (.rg x223_2 .ret) .skip)) (.rg x223_3 .ret)))
noncomputable def c223 : Code := Tryd.f223.body.getD .skip
theorem x223_b : Tryd.f223.body = some c223 := by kernel_rfl
theorem x223_c : cG (comp Tryd.prog) 2 2 23 x223 c223 = x223.den := by kernel_rfl
noncomputable def y223 : List (RR Tryd.prog 2 23 tf2) := [rrT r2_4 4 rfl rfl]
theorem x223_r : y223.map RR.den = Tryd.f223.results.toList := by kernel_rfl
theorem x223_k : okFn Tryd.f223 = true := by kernel_rfl
theorem x223_D : 2 = dep Tryd.f223.ntmps := by kernel_rfl
theorem x223_s : ([s2_0, s2_1] : List (Slot tf2)).map Slot.p = (List.range' 0 2).map (pth 2) := by kernel_rfl
noncomputable def X223 : XFn Tryd.prog 2 (comp Tryd.prog) := ⟨X2, tf2, 223, Tryd.f223, c223, 2, 23, [s2_0, s2_1], z2, x223, y223, x223_D, Tryd.ntmps223.symm, Tryd.func223, x223_b, x223_k, x223_s, by decide, z2_ok, x223_c, x223_r⟩
noncomputable def x224_0 : List (Ins tf2) := [(iAs (rk (.int .i64 (.ofNat 0))) s2_2)]
noncomputable def x224_1 : List (Ins tf2) := [(iMv r2_0 s2_3), (iP2 bLt r2_3 (rk (.int .i64 (.ofNat 0))) s2_4)]
noncomputable def x224_2 : List (Ins tf2) := [(iMv r2_0 s2_5), (iGp (l2 (pBin .mul)) [(rk (.int .i64 (.negSucc 1))), r2_5] (some s2_6)), (iP2 bAdd r2_6 (rk (.int .i64 (.ofNat 1))) s2_7), (iAs r2_7 s2_2)]
noncomputable def x224_3 : List (Ins tf2) := [(iMv r2_0 s2_8), (iGp (l2 (pBin .mul)) [(rk (.int .i64 (.ofNat 2))), r2_8] (some s2_9)), (iAs r2_9 s2_2)]
noncomputable def x224 : XC tf2 := (.rg x224_0 (.seq (.rg x224_1 (.cond r2_4 (.rg x224_2 .ret) .skip)) (.rg x224_3 .ret)))
noncomputable def c224 : Code := Tryd.f224.body.getD .skip
theorem x224_b : Tryd.f224.body = some c224 := by kernel_rfl
theorem x224_c : cG (comp Tryd.prog) 2 2 10 x224 c224 = x224.den := by kernel_rfl
noncomputable def y224 : List (RR Tryd.prog 2 10 tf2) := [rrT r2_2 2 rfl rfl]
theorem x224_r : y224.map RR.den = Tryd.f224.results.toList := by kernel_rfl
theorem x224_k : okFn Tryd.f224 = true := by kernel_rfl
theorem x224_D : 2 = dep Tryd.f224.ntmps := by kernel_rfl
theorem x224_s : ([s2_0] : List (Slot tf2)).map Slot.p = (List.range' 0 1).map (pth 2) := by kernel_rfl
noncomputable def X224 : XFn Tryd.prog 2 (comp Tryd.prog) := ⟨X2, tf2, 224, Tryd.f224, c224, 2, 10, [s2_0], z2, x224, y224, x224_D, Tryd.ntmps224.symm, Tryd.func224, x224_b, x224_k, x224_s, by decide, z2_ok, x224_c, x224_r⟩
noncomputable def x225_0 : List (Ins tf1) := [(iAs (rk (.int .i64 (.ofNat 0))) s1_2)]
noncomputable def x225_1 : List (Ins tf1) := [(iMv r1_0 s1_3), (iMv r1_0 s1_4), (iGp (l1 (pUn .neg)) [r1_4] (some s1_5)), (iGp (l2 pMax) [r1_3, r1_5] (some s1_6)), (iAs r1_6 s1_2)]
noncomputable def x225 : XC tf1 := (.rg x225_0 (.rg x225_1 .ret))
noncomputable def c225 : Code := Tryd.f225.body.getD .skip
theorem x225_b : Tryd.f225.body = some c225 := by kernel_rfl
theorem x225_c : cG (comp Tryd.prog) 2 1 7 x225 c225 = x225.den := by kernel_rfl
noncomputable def y225 : List (RR Tryd.prog 1 7 tf1) := [rrT r1_2 2 rfl rfl]
theorem x225_r : y225.map RR.den = Tryd.f225.results.toList := by kernel_rfl
theorem x225_k : okFn Tryd.f225 = true := by kernel_rfl
theorem x225_D : 1 = dep Tryd.f225.ntmps := by kernel_rfl
theorem x225_s : ([s1_0] : List (Slot tf1)).map Slot.p = (List.range' 0 1).map (pth 1) := by kernel_rfl
noncomputable def X225 : XFn Tryd.prog 2 (comp Tryd.prog) := ⟨X1, tf1, 225, Tryd.f225, c225, 1, 7, [s1_0], z1, x225, y225, x225_D, Tryd.ntmps225.symm, Tryd.func225, x225_b, x225_k, x225_s, by decide, z1_ok, x225_c, x225_r⟩
end Cr
end Go.Proofs.YtjhbabgcoemecaaDoor
namespace Go.Proofs.YtjhbabgcoemecaaDoor
namespace Cr
open Go Go.RowKit
set_option maxRecDepth 100000
noncomputable def x228_0 : List (Ins tf2) := [(iAs (rk (.int .i64 (.ofNat 0))) s2_2)]
noncomputable def x228_1 : List (Ins tf2) := [(iMv r2_0 s2_3), (iGp (l2 (pEqD (tdOf 280) false)) [r2_3, (rk (.pointer none))] (some s2_4))]
noncomputable def x228_2 : List (Ins tf2) := [(iAs (rk (.int .i64 (.ofNat 0))) s2_2)]
noncomputable def x228_3 : List (Ins tf2) := [(iMv r2_0 s2_5), (iP1 bNil r2_5 s2_6), (iP1 (bFa 1) r2_6 s2_7), (iP1 (bFa 0) r2_7 s2_8), (iR1 bLd r2_8 s2_9), (iP1 bLen r2_9 s2_10), (iAs r2_10 s2_2)]
noncomputable def x228 : XC tf2 := (.rg x228_0 (.seq (.rg x228_1 (.cond r2_4 (.rg x228_2 .ret) .skip)) (.rg x228_3 .ret)))
noncomputable def c228 : Code := Tryd.f228.body.getD .skip
theorem x228_b : Tryd.f228.body = some c228 := by kernel_rfl
theorem x228_c : cG (comp Tryd.prog) 2 2 11 x228 c228 = x228.den := by kernel_rfl
noncomputable def y228 : List (RR Tryd.prog 2 11 tf2) := [rrT r2_2 2 rfl rfl]
theorem x228_r : y228.map RR.den = Tryd.f228.results.toList := by kernel_rfl
theorem x228_k : okFn Tryd.f228 = true := by kernel_rfl
theorem x228_D : 2 = dep Tryd.f228.ntmps := by kernel_rfl
theorem x228_s : ([s2_0] : List (Slot tf2)).map Slot.p = (List.range' 0 1).map (pth 2) := by kernel_rfl
noncomputable def X228 : XFn Tryd.prog 2 (comp Tryd.prog) := ⟨X2, tf2, 228, Tryd.f228, c228, 2, 11, [s2_0], z2, x228, y228, x228_D, Tryd.ntmps228.symm, Tryd.func228, x228_b, x228_k, x228_s, by decide, z2_ok, x228_c, x228_r⟩
noncomputable def x229_0 : List (Ins tf2) := [(iAs (rk (.int .i64 (.ofNat 0))) s2_2), (iAs (rk (.int .i64 (.ofNat 0))) s2_3)]
noncomputable def x229_1 : List (Ins tf2) := [(iMv r2_0 s2_6), (iGp (l2 (pEqD (tdOf 280) false)) [r2_6, (rk (.pointer none))] (some s2_7))]
noncomputable def x229_2 : List (Ins tf2) := [(iAs (rk (.int .i64 (.ofNat 0))) s2_2), (iAs (rk (.int .i64 (.ofNat 1))) s2_3)]
noncomputable def x229_3 : List (Ins tf2) := [(iMv r2_0 s2_8), (iP1 bNil r2_8 s2_9), (iP1 (bFa 1) r2_9 s2_10), (iP1 (bFa 0) r2_10 s2_11), (iR1 bLd r2_11 s2_12), (iP1 bLen r2_12 s2_13), (iP2 bSub r2_13 (rk (.int .i64 (.ofNat 1))) s2_14), (iAs r2_14 s2_4)]
noncomputable def x229_4 : List (Ins tf2) := [(iMv r2_4 s2_15), (iP2 bLt r2_15 (rk (.int .i64 (.ofNat 0))) s2_16)]
noncomputable def x229_5 : List (Ins tf2) := [(iAs (rk (.int .i64 (.ofNat 0))) s2_2), (iAs (rk (.int .i64 (.ofNat 6))) s2_3)]
noncomputable def x229_6 : List (Ins tf2) := [(iMv r2_0 s2_17), (iP1 bNil r2_17 s2_18), (iP1 (bFa 1) r2_18 s2_19), (iMv r2_4 s2_20), (iCall (rk (.func (.func 250) #[] #[])) [r2_19, (rk (.int .i64 (.ofNat 0))), r2_20] (some s2_21))]
noncomputable def x229_7 : List (Ins tf2) := [(iMv r2_0 s2_22), (iP1 bNil r2_22 s2_23), (iP1 (bFa 1) r2_23 s2_24), (iP1 (bFa 0) r2_24 s2_25), (iR1 bLd r2_25 s2_26), (iMv r2_4 s2_27), (iP2 (bIxs 1) r2_26 r2_27 s2_28), (iR1 bLd r2_28 s2_29), (iAs r2_29 s2_5)]
noncomputable def x229_8 : List (Ins tf2) := [(iMv r2_0 s2_30), (iMv r2_0 s2_31), (iP1 bNil r2_31 s2_32), (iP1 (bFa 1) r2_32 s2_33), (iP1 (bFa 1) r2_33 s2_34), (iR1 bLd r2_34 s2_35), (iMv r2_5 s2_36), (iMv r2_0 s2_37), (iP1 bNil r2_37 s2_38), (iP1 (bFa 1) r2_38 s2_39), (iP1 (bFa 0) r2_39 s2_40), (iR1 bLd r2_40 s2_41), (iMv r2_4 s2_42), (iGp (pSlB (pSl 1) false true false) [r2_41, r2_42] (some s2_43)), (iP1 bNil r2_30 s2_44), (iP1 (bFa 1) r2_44 s2_45), (iP1 (bFa 0) r2_45 s2_46), (iM2 bSt r2_46 r2_43), (iP2 (bIxs 1) r2_35 r2_36 s2_47), (iM2 bSt r2_47 (rk (.int .i64 (.negSucc 0))))]
noncomputable def x229_9 : List (Ins tf2) := [(iMv r2_4 s2_48), (iP2 bGt r2_48 (rk (.int .i64 (.ofNat 0))) s2_49)]
noncomputable def x229_10 : List (Ins tf2) := [(iMv r2_0 s2_50), (iP1 bNil r2_50 s2_51), (iP1 (bFa 1) r2_51 s2_52), (iCall (rk (.func (.func 251) #[] #[])) [r2_52, (rk (.int .i64 (.ofNat 0)))] (some s2_53))]
noncomputable def x229_11 : List (Ins tf2) := [(iMv r2_5 s2_54), (iAs r2_54 s2_2), (iAs (rk (.int .i64 (.ofNat 0))) s2_3)]
noncomputable def x229 : XC tf2 := (.rg x229_0 (.seq (.rg x229_1 (.cond r2_7 (.rg x229_2 .ret) .skip)) (.rg x229_3 (.seq (.rg x229_4 (.cond r2_16 (.rg x229_5 .ret) .skip)) (.rg x229_6 (.rg x229_7 (.rg x229_8 (.seq (.rg x229_9 (.cond r2_49 (.reg x229_10) .skip)) (.rg x229_11 .ret)))))))))
noncomputable def c229 : Code := Tryd.f229.body.getD .skip
theorem x229_b : Tryd.f229.body = some c229 := by kernel_rfl
theorem x229_c : cG (comp Tryd.prog) 2 2 55 x229 c229 = x229.den := by kernel_rfl
noncomputable def y229 : List (RR Tryd.prog 2 55 tf2) := [rrT r2_2 2 rfl rfl, rrT r2_3 3 rfl rfl]
theorem x229_r : y229.map RR.den = Tryd.f229.results.toList := by kernel_rfl
theorem x229_k : okFn Tryd.f229 = true := by kernel_rfl
theorem x229_D : 2 = dep Tryd.f229.ntmps := by kernel_rfl
theorem x229_s : ([s2_0] : List (Slot tf2)).map Slot.p = (List.range' 0 1).map (pth 2) := by kernel_rfl
noncomputable def X229 : XFn Tryd.prog 2 (comp Tryd.prog) := ⟨X2, tf2, 229, Tryd.f229, c229, 2, 55, [s2_0], z2, x229, y229, x229_D, Tryd.ntmps229.symm, Tryd.func229, x229_b, x229_k, x229_s, by decide, z2_ok, x229_c, x229_r⟩
noncomputable def x230_0 : List (Ins tf2) := [(iMv r2_1 s2_8), (iP2 bAdd r2_8 (rk (.int .i64 (.ofNat 1))) s2_9), (iAs r2_9 s2_6)]
noncomputable def x230_1 : List (Ins tf2) := [(iMv r2_6 s2_10), (iMv r2_2 s2_11), (iP2 bLt r2_10 r2_11 s2_12)]
noncomputable def x230_2 : List (Ins tf2) := [(iMv r2_6 s2_15), (iAs r2_15 s2_7)]
noncomputable def x230_3 : List (Ins tf2) := [(iMv r2_7 s2_16), (iMv r2_1 s2_17), (iP2 bGt r2_16 r2_17 s2_18), (iMv r2_18 s2_19), (iGd r2_19 [.o3, .o2] true (iMv r2_0 s2_20) (some s2_20) rfl rfl rfl), (iGd r2_19 [.o3, .o2] true (iMv r2_7 s2_21) (some s2_21) rfl rfl rfl), (iGd r2_19 [.o3, .o2] true (iP2 (bIxs 1) r2_20 r2_21 s2_22) (some s2_22) rfl rfl rfl), (iGd r2_19 [.o3, .o2] true (iR1 bLd r2_22 s2_23) (some s2_23) rfl rfl rfl), (iGd r2_19 [.o3, .o2] true (iMv r2_0 s2_24) (some s2_24) rfl rfl rfl), (iGd r2_19 [.o3, .o2] true (iMv r2_7 s2_25) (some s2_25) rfl rfl rfl), (iGd r2_19 [.o3, .o2] true (iP2 bSub r2_25 (rk (.int .i64 (.ofNat 1))) s2_26) (some s2_26) rfl rfl rfl), (iGd r2_19 [.o3, .o2] true (iP2 (bIxs 1) r2_24 r2_26 s2_27) (some s2_27) rfl rfl rfl), (iGd r2_19 [.o3, .o2] true (iR1 bLd r2_27 s2_28) (some s2_28) rfl rfl rfl), (iGd r2_19 [.o3, .o2] true (iCall (rk (.func (.func 236) #[] #[])) [r2_23, r2_28] (some s2_29)) (some s2_29) rfl rfl rfl), (iGp (l3 pPick) [r2_19, r2_29, (rk (.bool false))] (some s2_30))]
noncomputable def x230_4 : List (Ins tf2) := [(iMv r2_0 s2_33), (iMv r2_7 s2_34), (iMv r2_0 s2_35), (iMv r2_7 s2_36), (iP2 bSub r2_36 (rk (.int .i64 (.ofNat 1))) s2_37), (iMv r2_0 s2_38), (iMv r2_7 s2_39), (iP2 bSub r2_39 (rk (.int .i64 (.ofNat 1))) s2_40), (iP2 (bIxs 1) r2_38 r2_40 s2_41), (iR1 bLd r2_41 s2_42), (iMv r2_0 s2_43), (iMv r2_7 s2_44), (iP2 (bIxs 1) r2_43 r2_44 s2_45), (iR1 bLd r2_45 s2_46), (iP2 (bIxs 1) r2_33 r2_34 s2_47), (iM2 bSt r2_47 r2_42), (iP2 (bIxs 1) r2_35 r2_37 s2_48), (iM2 bSt r2_48 r2_46)]
noncomputable def x230_5 : List (Ins tf2) := [(iMv r2_7 s2_31), (iP2 bSub r2_31 (rk (.int .i64 (.ofNat 1))) s2_32), (iAs r2_32 s2_7)]
noncomputable def x230_6 : List (Ins tf2) := [(iMv r2_6 s2_13), (iP2 bAdd r2_13 (rk (.int .i64 (.ofNat 1))) s2_14), (iAs r2_14 s2_6)]
noncomputable def x230 : XC tf2 := (.rg x230_0 (.block 0 (.loop (.seq (.rg x230_1 (.cond r2_12 .skip (.exit 0))) (.seq (.block 1 (.rg x230_2 (.block 2 (.loop (.seq (.rg x230_3 (.cond r2_30 .skip (.exit 2))) (.seq (.block 3 (.reg x230_4)) (.reg x230_5))))))) (.reg x230_6))))))
noncomputable def c230 : Code := Tryd.f230.body.getD .skip
theorem x230_b : Tryd.f230.body = some c230 := by kernel_rfl
theorem x230_c : cG (comp Tryd.prog) 2 2 49 x230 c230 = x230.den := by kernel_rfl
noncomputable def y230 : List (RR Tryd.prog 2 49 tf2) := []
theorem x230_r : y230.map RR.den = Tryd.f230.results.toList := by kernel_rfl
theorem x230_k : okFn Tryd.f230 = true := by kernel_rfl
theorem x230_D : 2 = dep Tryd.f230.ntmps := by kernel_rfl
theorem x230_s : ([s2_0, s2_1, s2_2] : List (Slot tf2)).map Slot.p = (List.range' 0 3).map (pth 2) := by kernel_rfl
noncomputable def X230 : XFn Tryd.prog 2 (comp Tryd.prog) := ⟨X2, tf2, 230, Tryd.f230, c230, 2, 49, [s2_0, s2_1, s2_2], z2, x230, y230, x230_D, Tryd.ntmps230.symm, Tryd.func230, x230_b, x230_k, x230_s, by decide, z2_ok, x230_c, x230_r⟩
noncomputable def x240_0 : List (Ins tf2) := [(iAs (rk (.int .i64 (.ofNat 0))) s2_2)]
noncomputable def x240_1 : List (Ins tf2) := [(iMv r2_0 s2_3), (iP2 bGe r2_3 (rk (.int .u64 (.ofNat 4294967296))) s2_4)]
noncomputable def x240_2 : List (Ins tf2) := [(iMv r2_0 s2_5), (iGp (l2 (pBin .shr)) [r2_5, (rk (.int .u64 (.ofNat 32)))] (some s2_6)), (iAs r2_6 s2_0)]
noncomputable def x240_3 : List (Ins tf2) := [(iAs (rk (.int .i64 (.ofNat 32))) s2_2)]
noncomputable def x240_4 : List (Ins tf2) := [(iMv r2_0 s2_7), (iP2 bGe r2_7 (rk (.int .u64 (.ofNat 65536))) s2_8)]
noncomputable def x240_5 : List (Ins tf2) := [(iMv r2_0 s2_9), (iGp (l2 (pBin .shr)) [r2_9, (rk (.int .u64 (.ofNat 16)))] (some s2_10)), (iAs r2_10 s2_0)]
noncomputable def x240_6 : List (Ins tf2) := [(iMv r2_2 s2_11), (iP2 bAdd r2_11 (rk (.int .i64 (.ofNat 16))) s2_12), (iAs r2_12 s2_2)]
noncomputable def x240_7 : List (Ins tf2) := [(iMv r2_0 s2_13), (iP2 bGe r2_13 (rk (.int .u64 (.ofNat 256))) s2_14)]
noncomputable def x240_8 : List (Ins tf2) := [(iMv r2_0 s2_15), (iGp (l2 (pBin .shr)) [r2_15, (rk (.int .u64 (.ofNat 8)))] (some s2_16)), (iAs r2_16 s2_0)]
noncomputable def x240_9 : List (Ins tf2) := [(iMv r2_2 s2_17), (iP2 bAdd r2_17 (rk (.int .i64 (.ofNat 8))) s2_18), (iAs r2_18 s2_2)]
noncomputable def x240_10 : List (Ins tf2) := [(iMv r2_2 s2_19), (iMv r2_0 s2_20), (iP1 (bCv .u8) r2_20 s2_21), (iGp (l2 pIxStr) [(rk (.string ⟨⟨[0, 1, 2, 2, 3, 3, 3, 3, 4, 4, 4, 4, 4, 4, 4, 4, 5, 5, 5, 5, 5, 5, 5, 5, 5, 5, 5, 5, 5, 5, 5, 5, 6, 6, 6, 6, 6, 6, 6, 6, 6, 6, 6, 6, 6, 6, 6, 6, 6, 6, 6, 6, 6, 6, 6, 6, 6, 6, 6, 6, 6, 6, 6, 6, 7, 7, 7, 7, 7, 7, 7, 7, 7, 7, 7, 7, 7, 7, 7, 7, 7, 7, 7, 7, 7, 7, 7, 7, 7, 7, 7, 7, 7, 7, 7, 7, 7, 7, 7, 7, 7, 7, 7, 7, 7, 7, 7, 7, 7, 7, 7, 7, 7, 7, 7, 7, 7, 7, 7, 7, 7, 7, 7, 7, 7, 7, 7, 7, 8, 8, 8, 8, 8, 8, 8, 8, 8, 8, 8, 8, 8, 8, 8, 8, 8, 8, 8, 8, 8, 8, 8, 8, 8, 8, 8, 8, 8, 8, 8, 8, 8, 8, 8, 8, 8, 8, 8, 8, 8, 8, 8, 8, 8, 8, 8, 8, 8, 8, 8, 8, 8, 8, 8, 8, 8, 8, 8, 8, 8, 8, 8, 8, 8, 8, 8, 8, 8, 8, 8, 8, 8, 8, 8, 8, 8, 8, 8, 8, 8, 8, 8, 8, 8, 8, 8, 8, 8, 8, 8, 8, 8, 8, 8, 8, 8, 8, 8, 8, 8, 8, 8, 8, 8, 8, 8, 8, 8, 8, 8, 8, 8, 8, 8, 8, 8, 8, 8, 8, 8, 8, 8, 8, 8, 8, 8, 8]⟩⟩)), r2_21] (some s2_22)), (iP1 (bCv .i64) r2_22 s2_23), (iP2 bAdd r2_19 r2_23 s2_24), (iAs r2_24 s2_2)]
noncomputable def x240 : XC tf2 := (.rg x240_0 (.seq (.rg x240_1 (.cond r2_4 (.rg x240_2 (.reg x240_3)) .skip)) (.seq (.rg x240_4 (.cond r2_8 (.rg x240_5 (.reg x240_6)) .skip)) (.seq (.rg x240_7 (.cond r2_14 (.rg x240_8 (.reg x240_9)) .skip)) (.rg x240_10 .ret)))))
noncomputable def c240 : Code := Tryd.f240.body.getD .skip
theorem x240_b : Tryd.f240.body = some c240 := by kernel_rfl
theorem x240_c : cG (comp Tryd.prog) 2 2 25 x240 c240 = x240.den := by kernel_rfl
noncomputable def y240 : List (RR Tryd.prog 2 25 tf2) := [rrT r2_2 2 rfl rfl]
theorem x240_r : y240.map RR.den = Tryd.f240.results.toList := by kernel_rfl
theorem x240_k : okFn Tryd.f240 = true := by kernel_rfl
theorem x240_D : 2 = dep Tryd.f240.ntmps := by kernel_rfl
theorem x240_s : ([s2_0] : List (Slot tf2)).map Slot.p = (List.range' 0 1).map (pth 2) := by kernel_rfl
noncomputable def X240 : XFn Tryd.prog 2 (comp Tryd.prog) := ⟨X2, tf2, 240, Tryd.f240, c240, 2, 25, [s2_0], z2, x240, y240, x240_D, Tryd.ntmps240.symm, Tryd.func240, x240_b, x240_k, x240_s, by decide, z2_ok, x240_c, x240_r⟩
noncomputable def x241_0 : List (Ins tf3) := [(iGa (a1 gBox) [r3_2] (some s3_5)), (iAs (rk (.slice none 0 0)) s3_6)]
noncomputable def x241_1 : List (Ins tf3) := [(iMv r3_0 s3_9), (iP1 bNil r3_9 s3_10), (iP1 (bFa 0) r3_10 s3_11), (iR1 bLd r3_11 s3_12), (iCall (rk (.func (.func 41) #[] #[])) [r3_12] (some s3_13)), (iGa (a2 (gMks 1 8 [(.int .i64 (.ofNat 0))])) [r3_13, r3_13] (some s3_14)), (iAs r3_14 s3_7)]
noncomputable def x241_2 : List (Ins tf3) := [(iMv r3_7 s3_15), (iP1 bLen r3_15 s3_16), (iMv (rk (.int .i64 (.ofNat 0))) s3_17)]
noncomputable def x241_3 : List (Ins tf3) := [(iP2 bLt r3_17 r3_16 s3_18)]
noncomputable def x241_4 : List (Ins tf3) := [(iMv r3_17 s3_19), (iAs r3_19 s3_8)]
noncomputable def x241_5 : List (Ins tf3) := [(iP1 (bFa 0) r3_5 s3_30), (iR1 bLd r3_30 s3_31), (iP2 bEq r3_31 (rk (.int .u8 (.ofNat 1))) s3_32), (iAs r3_32 s3_29)]
noncomputable def x241_6 : List (Ins tf3) := [(iMv r3_7 s3_33), (iMv r3_8 s3_34), (iMv r3_0 s3_35), (iP1 bNil r3_35 s3_36), (iP1 (bFa 1) r3_36 s3_37), (iR1 bLd r3_37 s3_38), (iCall (rk (.func (.func 259) #[] #[])) [r3_38] (some s3_39)), (iGp (l1 (pExt 0)) [r3_39] (some s3_40)), (iGp (l1 (pExt 1)) [r3_39] (some s3_41)), (iCall (rk (.func (.func 258) #[] #[])) [r3_40, r3_41] (some s3_42)), (iP2 (bIxs 1) r3_33 r3_34 s3_43), (iM2 bSt r3_43 r3_42)]
noncomputable def x241_7 : List (Ins tf3) := [(iP1 (bFa 1) r3_5 s3_45), (iR1 bLd r3_45 s3_46), (iMv r3_8 s3_47), (iGp (l2 (pBin .shr)) [r3_46, r3_47] (some s3_48)), (iGp (l2 (pBin .and)) [r3_48, (rk (.int .u64 (.ofNat 1)))] (some s3_49)), (iP2 bEq r3_49 (rk (.int .u64 (.ofNat 1))) s3_50), (iAs r3_50 s3_44)]
noncomputable def x241_8 : List (Ins tf3) := [(iMv r3_7 s3_51), (iMv r3_8 s3_52), (iMv r3_0 s3_53), (iP1 bNil r3_53 s3_54), (iP1 (bFa 1) r3_54 s3_55), (iR1 bLd r3_55 s3_56), (iCall (rk (.func (.func 216) #[] #[])) [r3_56] (some s3_57)), (iP2 (bIxs 1) r3_51 r3_52 s3_58), (iM2 bSt r3_58 r3_57)]
noncomputable def x241_9 : List (Ins tf3) := [(iMv r3_7 s3_20), (iMv r3_8 s3_21), (iMv r3_0 s3_22), (iP1 bNil r3_22 s3_23), (iP1 (bFa 1) r3_23 s3_24), (iR1 bLd r3_24 s3_25), (iCall (rk (.func (.func 216) #[] #[])) [r3_25] (some s3_26)), (iGp (l1 (pUn .neg)) [r3_26] (some s3_27)), (iP2 (bIxs 1) r3_20 r3_21 s3_28), (iM2 bSt r3_28 r3_27)]
noncomputable def x241_10 : List (Ins tf3) := [(iP2 bAdd r3_17 (rk (.int .i64 (.ofNat 1))) s3_59), (iMv r3_59 s3_17)]
noncomputable def x241_11 : List (Ins tf3) := [(iP1 (bFa 0) r3_5 s3_60), (iR1 bLd r3_60 s3_61), (iP2 bEq r3_61 (rk (.int .u8 (.ofNat 1))) s3_62)]
noncomputable def x241_12 : List (Ins tf3) := [(iMv r3_0 s3_63), (iP1 bNil r3_63 s3_64), (iP1 (bFa 3) r3_64 s3_65), (iR1 bLd r3_65 s3_66), (iP1 (bFa 1) r3_5 s3_67), (iR1 bLd r3_67 s3_68), (iMv r3_1 s3_69), (iGm (m3 (sUpd [0] false)) [r3_66, r3_68, r3_69] none)]
noncomputable def x241_13 : List (Ins tf3) := [(iMv r3_7 s3_70), (iAs r3_70 s3_6)]
noncomputable def x241 : XC tf3 := (.rg x241_0 (.rg x241_1 (.seq (.rg x241_2 (.block 0 (.loop (.rg x241_3 (.seq (.cond r3_18 .skip (.exit 0)) (.seq (.block 1 (.rg x241_4 (.block 2 (.rg x241_5 (.cond r3_29 (.reg x241_6) (.rg x241_7 (.cond r3_44 (.reg x241_8) (.reg x241_9)))))))) (.reg x241_10))))))) (.seq (.rg x241_11 (.cond r3_62 (.reg x241_12) .skip)) (.rg x241_13 .ret)))))
noncomputable def c241 : Code := Tryd.f241.body.getD .skip
theorem x241_b : Tryd.f241.body = some c241 := by kernel_rfl
theorem x241_c : cG (comp Tryd.prog) 2 3 71 x241 c241 = x241.den := by kernel_rfl
noncomputable def y241 : List (RR Tryd.prog 3 71 tf3) := [rrT r3_6 6 rfl rfl]
theorem x241_r : y241.map RR.den = Tryd.f241.results.toList := by kernel_rfl
theorem x241_k : okFn Tryd.f241 = true := by kernel_rfl
theorem x241_D : 3 = dep Tryd.f241.ntmps := by kernel_rfl
theorem x241_s : ([s3_0, s3_1, s3_2] : List (Slot tf3)).map Slot.p = (List.range' 0 3).map (pth 3) := by kernel_rfl
noncomputable def X241 : XFn Tryd.prog 2 (comp Tryd.prog) := ⟨X3, tf3, 241, Tryd.f241, c241, 3, 71, [s3_0, s3_1, s3_2], z3, x241, y241, x241_D, Tryd.ntmps241.symm, Tryd.func241, x241_b, x241_k, x241_s, by decide, z3_ok, x241_c, x241_r⟩
noncomputable def x242_0 : List (Ins tf3) := [(iAs (rk (.slice none 0 0)) s3_6)]
noncomputable def x242_1 : List (Ins tf3) := [(iMv r3_0 s3_13), (iP1 bNil r3_13 s3_14), (iP1 (bFa 1) r3_14 s3_15), (iR1 bLd r3_15 s3_16), (iAs r3_16 s3_7)]
noncomputable def x242_2 : List (Ins tf3) := [(iMv r3_2 s3_17), (iP2 (bIxs 1) r3_17 (rk (.int .i64 (.ofNat 0))) s3_18), (iR1 bLd r3_18 s3_19), (iAs r3_19 s3_8)]
noncomputable def x242_3 : List (Ins tf3) := [(iMv r3_1 s3_20)]
noncomputable def x242_4 : List (Ins tf3) := [(iP2 bEq r3_20 (rk (.int .u8 (.ofNat 2))) s3_22), (iAs r3_22 s3_21)]
noncomputable def x242_5 : List (Ins tf3) := [(iMv r3_8 s3_23), (iCall (rk (.func (.func 260) #[] #[])) [r3_23] (some s3_24)), (iAs r3_24 s3_6)]
noncomputable def x242_6 : List (Ins tf3) := [(iP2 bEq r3_20 (rk (.int .u8 (.ofNat 3))) s3_26), (iAs r3_26 s3_25)]
noncomputable def x242_7 : List (Ins tf3) := [(iMv r3_7 s3_27), (iMv r3_0 s3_28), (iMv r3_7 s3_29), (iCall (rk (.func (.func 216) #[] #[])) [r3_29] (some s3_30)), (iGp (l1 (pUn .neg)) [r3_30] (some s3_31)), (iCall (rk (.func (.func 263) #[] #[])) [r3_28, r3_31] (some s3_32)), (iMv r3_8 s3_33), (iCall (rk (.func (.func 262) #[] #[])) [r3_27, r3_32, r3_33] (some s3_34)), (iGp (l1 (pExt 0)) [r3_34] (some s3_35)), (iGp (l1 (pExt 1)) [r3_34] (some s3_36)), (iCall (rk (.func (.func 261) #[] #[])) [r3_35, r3_36] (some s3_37)), (iAs r3_37 s3_6)]
noncomputable def x242_8 : List (Ins tf3) := [(iP2 bEq r3_20 (rk (.int .u8 (.ofNat 21))) s3_39), (iAs r3_39 s3_38)]
noncomputable def x242_9 : List (Ins tf3) := [(iMv r3_7 s3_40), (iMv r3_7 s3_41), (iMv r3_8 s3_42), (iMv r3_2 s3_47), (iP2 (bIxs 1) r3_47 (rk (.int .i64 (.ofNat 1))) s3_48), (iR1 bLd r3_48 s3_49), (iMv r3_2 s3_50), (iP2 (bIxs 1) r3_50 (rk (.int .i64 (.ofNat 2))) s3_51), (iR1 bLd r3_51 s3_52), (iRc (iCall (rk (.func (.func 197) #[] #[])) [r3_41, r3_42] (some s3_43)) [(rcLd r3_51 r3_52 [.o4, .o6, .o0] rfl), (rcLd r3_48 r3_49 [.o1, .o6, .o0] rfl)] rfl), (iGp (l1 (pExt 0)) [r3_43] (some s3_44)), (iGp (l1 (pExt 1)) [r3_43] (some s3_45)), (iRc (iCall (rk (.func (.func 258) #[] #[])) [r3_44, r3_45] (some s3_46)) [(rcLd r3_51 r3_52 [.o4, .o6, .o0] rfl), (rcLd r3_48 r3_49 [.o1, .o6, .o0] rfl)] rfl), (iCall (rk (.func (.func 264) #[] #[])) [r3_40, r3_46, r3_49, r3_52] (some s3_53)), (iGp (l1 (pExt 0)) [r3_53] (some s3_54)), (iGp (l1 (pExt 1)) [r3_53] (some s3_55)), (iCall (rk (.func (.func 261) #[] #[])) [r3_54, r3_55] (some s3_56)), (iAs r3_56 s3_6)]
noncomputable def x242_10 : List (Ins tf3) := [(iMv r3_2 s3_57), (iP2 (bIxs 1) r3_57 (rk (.int .i64 (.ofNat 1))) s3_58), (iR1 bLd r3_58 s3_59), (iAs r3_59 s3_9)]
noncomputable def x242_11 : List (Ins tf3) := [(iMv r3_1 s3_60)]
noncomputable def x242_12 : List (Ins tf3) := [(iP2 bEq r3_60 (rk (.int .u8 (.ofNat 4))) s3_62), (iAs r3_62 s3_61)]
noncomputable def x242_13 : List (Ins tf3) := [(iMv r3_7 s3_63), (iMv r3_8 s3_64), (iMv r3_9 s3_65), (iMv r3_7 s3_66), (iCall (rk (.func (.func 216) #[] #[])) [r3_66] (some s3_67)), (iGp (l1 (pUn .neg)) [r3_67] (some s3_68)), (iCall (rk (.func (.func 265) #[] #[])) [r3_63, r3_64, r3_65, r3_68] (some s3_69)), (iGp (l1 (pExt 0)) [r3_69] (some s3_70)), (iGp (l1 (pExt 1)) [r3_69] (some s3_71)), (iCall (rk (.func (.func 261) #[] #[])) [r3_70, r3_71] (some s3_72)), (iAs r3_72 s3_6)]
noncomputable def x242_14 : List (Ins tf3) := [(iP2 bEq r3_60 (rk (.int .u8 (.ofNat 5))) s3_74), (iAs r3_74 s3_73)]
noncomputable def x242_15 : List (Ins tf3) := [(iMv r3_7 s3_75), (iMv r3_8 s3_76), (iMv r3_9 s3_77), (iCall (rk (.func (.func 262) #[] #[])) [r3_75, r3_76, r3_77] (some s3_78)), (iGp (l1 (pExt 0)) [r3_78] (some s3_79)), (iGp (l1 (pExt 1)) [r3_78] (some s3_80)), (iCall (rk (.func (.func 261) #[] #[])) [r3_79, r3_80] (some s3_81)), (iAs r3_81 s3_6)]
noncomputable def x242_16 : List (Ins tf3) := [(iP2 bEq r3_60 (rk (.int .u8 (.ofNat 6))) s3_83), (iAs r3_83 s3_82)]
noncomputable def x242_17 : List (Ins tf3) := [(iMv r3_7 s3_84), (iMv r3_8 s3_85), (iMv r3_9 s3_86), (iCall (rk (.func (.func 266) #[] #[])) [r3_84, r3_85, r3_86] (some s3_87)), (iGp (l1 (pExt 0)) [r3_87] (some s3_88)), (iGp (l1 (pExt 1)) [r3_87] (some s3_89)), (iCall (rk (.func (.func 261) #[] #[])) [r3_88, r3_89] (some s3_90)), (iAs r3_90 s3_6)]
noncomputable def x242_18 : List (Ins tf3) := [(iP2 bEq r3_60 (rk (.int .u8 (.ofNat 7))) s3_92), (iAs r3_92 s3_91)]
noncomputable def x242_19 : List (Ins tf3) := [(iP2 bEq r3_60 (rk (.int .u8 (.ofNat 8))) s3_93), (iAs r3_93 s3_91)]
noncomputable def x242_20 : List (Ins tf3) := [(iMv r3_7 s3_95), (iMv r3_8 s3_96), (iMv r3_9 s3_97), (iCall (rk (.func (.func 267) #[] #[])) [r3_95, r3_96, r3_97] (some s3_98)), (iMv r3_98 s3_94), (iGp (l1 (pExt 0)) [r3_94] (some s3_99)), (iGp (l1 (pExt 1)) [r3_94] (some s3_100)), (iGp (l1 (pExt 2)) [r3_94] (some s3_101)), (iAs r3_99 s3_10), (iAs r3_100 s3_11), (iAs r3_101 s3_12)]
noncomputable def x242_21 : List (Ins tf3) := [(iMv r3_1 s3_102), (iP2 bEq r3_102 (rk (.int .u8 (.ofNat 7))) s3_103)]
noncomputable def x242_22 : List (Ins tf3) := [(iMv r3_10 s3_104), (iMv r3_12 s3_105), (iCall (rk (.func (.func 261) #[] #[])) [r3_104, r3_105] (some s3_106)), (iAs r3_106 s3_6)]
noncomputable def x242_23 : List (Ins tf3) := [(iMv r3_11 s3_107), (iMv r3_12 s3_108), (iCall (rk (.func (.func 261) #[] #[])) [r3_107, r3_108] (some s3_109)), (iAs r3_109 s3_6)]
noncomputable def x242_24 : List (Ins tf3) := [(iP2 bEq r3_60 (rk (.int .u8 (.ofNat 9))) s3_111), (iAs r3_111 s3_110)]
noncomputable def x242_25 : List (Ins tf3) := [(iMv r3_7 s3_112), (iGp (pMkf (.func 243) 1) [r3_112] (some s3_113)), (iMv r3_8 s3_114), (iMv r3_9 s3_115), (iCall (rk (.func (.func 268) #[] #[])) [r3_113, r3_114, r3_115] (some s3_116)), (iAs r3_116 s3_6)]
noncomputable def x242_26 : List (Ins tf3) := [(iP2 bEq r3_60 (rk (.int .u8 (.ofNat 10))) s3_118), (iAs r3_118 s3_117)]
noncomputable def x242_27 : List (Ins tf3) := [(iMv r3_7 s3_119), (iGp (pMkf (.func 244) 1) [r3_119] (some s3_120)), (iMv r3_8 s3_121), (iMv r3_9 s3_122), (iCall (rk (.func (.func 268) #[] #[])) [r3_120, r3_121, r3_122] (some s3_123)), (iAs r3_123 s3_6)]
noncomputable def x242_28 : List (Ins tf3) := [(iP2 bEq r3_60 (rk (.int .u8 (.ofNat 11))) s3_125), (iAs r3_125 s3_124)]
noncomputable def x242_29 : List (Ins tf3) := [(iMv r3_7 s3_126), (iGp (pMkf (.func 269) 1) [r3_126] (some s3_127)), (iMv r3_8 s3_128), (iMv r3_9 s3_129), (iCall (rk (.func (.func 268) #[] #[])) [r3_127, r3_128, r3_129] (some s3_130)), (iAs r3_130 s3_6)]
noncomputable def x242_30 : List (Ins tf3) := [(iP2 bEq r3_60 (rk (.int .u8 (.ofNat 12))) s3_132), (iAs r3_132 s3_131)]
noncomputable def x242_31 : List (Ins tf3) := [(iP2 bEq r3_60 (rk (.int .u8 (.ofNat 13))) s3_133), (iAs r3_133 s3_131)]
noncomputable def x242_32 : List (Ins tf3) := [(iP2 bEq r3_60 (rk (.int .u8 (.ofNat 14))) s3_134), (iAs r3_134 s3_131)]
noncomputable def x242_33 : List (Ins tf3) := [(iMv r3_7 s3_135), (iMv r3_1 s3_136), (iMv r3_8 s3_137), (iMv r3_9 s3_138), (iCall (rk (.func (.func 270) #[] #[])) [r3_135, r3_136, r3_137, r3_138] (some s3_139)), (iGp (l1 (pExt 0)) [r3_139] (some s3_140)), (iGp (l1 (pExt 1)) [r3_139] (some s3_141)), (iCall (rk (.func (.func 261) #[] #[])) [r3_140, r3_141] (some s3_142)), (iAs r3_142 s3_6)]
noncomputable def x242_34 : List (Ins tf3) := [(iP2 bEq r3_60 (rk (.int .u8 (.ofNat 15))) s3_144), (iAs r3_144 s3_143)]
noncomputable def x242_35 : List (Ins tf3) := [(iMv r3_0 s3_145), (iMv r3_7 s3_146), (iMv r3_8 s3_147), (iMv r3_9 s3_148), (iCall (rk (.func (.func 271) #[] #[])) [r3_146, r3_147, r3_148] (some s3_149)), (iGp (l1 (pExt 0)) [r3_149] (some s3_150)), (iGp (l1 (pExt 1)) [r3_149] (some s3_151)), (iCall (rk (.func (.func 258) #[] #[])) [r3_150, r3_151] (some s3_152)), (iCall (rk (.func (.func 263) #[] #[])) [r3_145, r3_152] (some s3_153)), (iAs r3_153 s3_6)]
noncomputable def x242_36 : List (Ins tf3) := [(iP2 bEq r3_60 (rk (.int .u8 (.ofNat 16))) s3_155), (iAs r3_155 s3_154)]
noncomputable def x242_37 : List (Ins tf3) := [(iMv r3_0 s3_156), (iMv r3_7 s3_157), (iMv r3_8 s3_158), (iMv r3_9 s3_159), (iCall (rk (.func (.func 271) #[] #[])) [r3_157, r3_158, r3_159] (some s3_160)), (iGp (l1 (pExt 0)) [r3_160] (some s3_161)), (iGp (l1 (pExt 1)) [r3_160] (some s3_162)), (iCall (rk (.func (.func 258) #[] #[])) [r3_161, r3_162] (some s3_163)), (iGp (l1 (pUn .neg)) [r3_163] (some s3_164)), (iCall (rk (.func (.func 263) #[] #[])) [r3_156, r3_164] (some s3_165)), (iAs r3_165 s3_6)]
noncomputable def x242_38 : List (Ins tf3) := [(iP2 bEq r3_60 (rk (.int .u8 (.ofNat 17))) s3_167), (iAs r3_167 s3_166)]
noncomputable def x242_39 : List (Ins tf3) := [(iP2 bEq r3_60 (rk (.int .u8 (.ofNat 19))) s3_168), (iAs r3_168 s3_166)]
noncomputable def x242_40 : List (Ins tf3) := [(iMv r3_0 s3_169), (iMv r3_7 s3_170), (iMv r3_8 s3_171), (iMv r3_9 s3_172), (iMv r3_1 s3_173), (iP2 bEq r3_173 (rk (.int .u8 (.ofNat 19))) s3_174), (iCall (rk (.func (.func 272) #[] #[])) [r3_170, r3_171, r3_172, r3_174] (some s3_175)), (iGp (l1 (pExt 0)) [r3_175] (some s3_176)), (iGp (l1 (pExt 1)) [r3_175] (some s3_177)), (iCall (rk (.func (.func 258) #[] #[])) [r3_176, r3_177] (some s3_178)), (iCall (rk (.func (.func 263) #[] #[])) [r3_169, r3_178] (some s3_179)), (iAs r3_179 s3_6)]
noncomputable def x242_41 : XC tf3 := (.cond r3_117 (.rg x242_27 .ret) (.rg x242_28 (.cond r3_124 (.rg x242_29 .ret) (.seq (.rg x242_30 (.cond r3_131 .skip (.rg x242_31 (.cond r3_131 .skip (.reg x242_32))))) (.cond r3_131 (.rg x242_33 .ret) (.rg x242_34 (.cond r3_143 (.rg x242_35 .ret) (.rg x242_36 (.cond r3_154 (.rg x242_37 .ret) (.seq (.rg x242_38 (.cond r3_166 .skip (.reg x242_39))) (.cond r3_166 (.rg x242_40 .ret) .skip)))))))))))
noncomputable def x242_42 : List (Ins tf3) := [(iMv r3_0 s3_180), (iMv r3_7 s3_181), (iMv r3_9 s3_182), (iMv r3_8 s3_183), (iMv r3_1 s3_184), (iP2 bEq r3_184 (rk (.int .u8 (.ofNat 20))) s3_185), (iCall (rk (.func (.func 272) #[] #[])) [r3_181, r3_182, r3_183, r3_185] (some s3_186)), (iGp (l1 (pExt 0)) [r3_186] (some s3_187)), (iGp (l1 (pExt 1)) [r3_186] (some s3_188)), (iCall (rk (.func (.func 258) #[] #[])) [r3_187, r3_188] (some s3_189)), (iGp (l1 (pUn .neg)) [r3_189] (some s3_190)), (iCall (rk (.func (.func 263) #[] #[])) [r3_180, r3_190] (some s3_191)), (iAs r3_191 s3_6)]
noncomputable def x242_43 : XC tf3 := (.seq (.rg x242_11 (.block 1 (.rg x242_12 (.cond r3_61 (.rg x242_13 .ret) (.rg x242_14 (.cond r3_73 (.rg x242_15 .ret) (.rg x242_16 (.cond r3_82 (.rg x242_17 .ret) (.seq (.rg x242_18 (.cond r3_91 .skip (.reg x242_19))) (.cond r3_91 (.rg x242_20 (.seq (.rg x242_21 (.cond r3_103 (.rg x242_22 .ret) .skip)) (.rg x242_23 .ret))) (.rg x242_24 (.cond r3_110 (.rg x242_25 .ret) (.rg x242_26 x242_41))))))))))))) (.rg x242_42 .ret))
noncomputable def x242 : XC tf3 := (.rg x242_0 (.rg x242_1 (.rg x242_2 (.seq (.rg x242_3 (.block 0 (.rg x242_4 (.cond r3_21 (.rg x242_5 .ret) (.rg x242_6 (.cond r3_25 (.rg x242_7 .ret) (.rg x242_8 (.cond r3_38 (.rg x242_9 .ret) .skip)))))))) (.rg x242_10 x242_43)))))
noncomputable def c242 : Code := Tryd.f242.body.getD .skip
theorem x242_b : Tryd.f242.body = some c242 := by kernel_rfl
theorem x242_c : cG (comp Tryd.prog) 2 3 192 x242 c242 = x242.den := by kernel_rfl
noncomputable def y242 : List (RR Tryd.prog 3 192 tf3) := [rrT r3_6 6 rfl rfl]
theorem x242_r : y242.map RR.den = Tryd.f242.results.toList := by kernel_rfl
theorem x242_k : okFn Tryd.f242 = true := by kernel_rfl
theorem x242_D : 3 = dep Tryd.f242.ntmps := by kernel_rfl
theorem x242_s : ([s3_0, s3_1, s3_2] : List (Slot tf3)).map Slot.p = (List.range' 0 3).map (pth 3) := by kernel_rfl
noncomputable def X242 : XFn Tryd.prog 2 (comp Tryd.prog) := ⟨X3, tf3, 242, Tryd.f242, c242, 3, 192, [s3_0, s3_1, s3_2], z3, x242, y242, x242_D, Tryd.ntmps242.symm, Tryd.func242, x242_b, x242_k, x242_s, by decide, z3_ok, x242_c, x242_r⟩
noncomputable def x243_0 : List (Ins tf2) := [(iAs (rk (.int .i64 (.ofNat 0))) s2_6), (iAs (rk (.int .i64 (.ofNat 0))) s2_7)]
noncomputable def x243_1 : List (Ins tf2) := [(iMv r2_0 s2_8), (iGp (l2 (pEqD (tdOf 249) false)) [r2_8, (rk (.pointer none))] (some s2_9))]
noncomputable def x243_2 : List (Ins tf2) := [(iAs (rk (.int .i64 (.ofNat 0))) s2_6), (iAs (rk (.int .i64 (.ofNat 1))) s2_7)]
noncomputable def x243_3 : List (Ins tf2) := [(iMv r2_0 s2_10), (iMv r2_1 s2_11), (iMv r2_2 s2_12), (iGa (aBsl 2 1 [(.int .i64 (.ofNat 0))] [(0, 1), (1, 1)]) [r2_11, r2_12] (some s2_13)), (iCall (rk (.func (.func 219) #[] #[])) [r2_10, r2_13] (some s2_14)), (iGp (l1 (pUn .not)) [r2_14] (some s2_15))]
noncomputable def x243_4 : List (Ins tf2) := [(iAs (rk (.int .i64 (.ofNat 0))) s2_6), (iAs (rk (.int .i64 (.ofNat 3))) s2_7)]
noncomputable def x243_5 : List (Ins tf2) := [(iMv r2_1 s2_17), (iMv r2_2 s2_18), (iP2 bEq r2_17 r2_18 s2_19), (iMv r2_19 s2_20), (iGd r2_20 [.o4, .o2] false (iMv r2_2 s2_21) (some s2_21) rfl rfl rfl), (iGd r2_20 [.o4, .o2] false (iP2 bEq r2_21 (rk (.int .i64 (.ofNat 1))) s2_22) (some s2_22) rfl rfl rfl), (iGp (l3 pPick) [r2_20, (rk (.bool true)), r2_22] (some s2_23)), (iAs r2_23 s2_16)]
noncomputable def x243_6 : List (Ins tf2) := [(iMv r2_1 s2_24), (iAs r2_24 s2_6), (iAs (rk (.int .i64 (.ofNat 0))) s2_7)]
noncomputable def x243_7 : List (Ins tf2) := [(iMv r2_1 s2_26), (iP2 bEq r2_26 (rk (.int .i64 (.ofNat 1))) s2_27), (iAs r2_27 s2_25)]
noncomputable def x243_8 : List (Ins tf2) := [(iMv r2_2 s2_28), (iAs r2_28 s2_6), (iAs (rk (.int .i64 (.ofNat 0))) s2_7)]
noncomputable def x243_9 : List (Ins tf2) := [(iMv r2_1 s2_30), (iMv r2_2 s2_31), (iGp (l1 (pUn .neg)) [r2_31] (some s2_32)), (iP2 bEq r2_30 r2_32 s2_33), (iMv r2_33 s2_34), (iGd r2_34 [.o2, .o4] false (iMv r2_1 s2_35) (some s2_35) rfl rfl rfl), (iGd r2_34 [.o2, .o4] false (iP2 bEq r2_35 (rk (.int .i64 (.negSucc 0))) s2_36) (some s2_36) rfl rfl rfl), (iGp (l3 pPick) [r2_34, (rk (.bool true)), r2_36] (some s2_37)), (iMv r2_37 s2_38), (iGd r2_38 [.o6, .o4] false (iMv r2_2 s2_39) (some s2_39) rfl rfl rfl), (iGd r2_38 [.o6, .o4] false (iP2 bEq r2_39 (rk (.int .i64 (.negSucc 0))) s2_40) (some s2_40) rfl rfl rfl), (iGp (l3 pPick) [r2_38, (rk (.bool true)), r2_40] (some s2_41)), (iAs r2_41 s2_29)]
noncomputable def x243_10 : List (Ins tf2) := [(iAs (rk (.int .i64 (.negSucc 0))) s2_6), (iAs (rk (.int .i64 (.ofNat 0))) s2_7)]
noncomputable def x243_11 : List (Ins tf2) := [(iMv r2_0 s2_42), (iMv r2_1 s2_43), (iMv r2_2 s2_44), (iGa (aBsl 2 1 [(.int .i64 (.ofNat 0))] [(0, 1), (1, 1)]) [r2_43, r2_44] (some s2_45)), (iCall (rk (.func (.func 273) #[] #[])) [r2_42, (rk (.int .i64 (.ofNat 0))), r2_45] (some s2_46)), (iGp (l1 (pExt 0)) [r2_46] (some s2_47)), (iGp (l1 (pExt 1)) [r2_46] (some s2_48)), (iAs r2_47 s2_6), (iAs r2_48 s2_7)]
noncomputable def x243 : XC tf2 := (.rg x243_0 (.seq (.rg x243_1 (.cond r2_9 (.rg x243_2 .ret) .skip)) (.seq (.rg x243_3 (.cond r2_15 (.rg x243_4 .ret) .skip)) (.seq (.block 0 (.rg x243_5 (.cond r2_16 (.rg x243_6 .ret) (.rg x243_7 (.cond r2_25 (.rg x243_8 .ret) (.rg x243_9 (.cond r2_29 (.rg x243_10 .ret) .skip))))))) (.rg x243_11 .ret)))))
noncomputable def c243 : Code := Tryd.f243.body.getD .skip
theorem x243_b : Tryd.f243.body = some c243 := by kernel_rfl
theorem x243_c : cG (comp Tryd.prog) 2 2 49 x243 c243 = x243.den := by kernel_rfl
noncomputable def y243 : List (RR Tryd.prog 2 49 tf2) := [rrT r2_6 6 rfl rfl, rrT r2_7 7 rfl rfl]
theorem x243_r : y243.map RR.den = Tryd.f243.results.toList := by kernel_rfl
theorem x243_k : okFn Tryd.f243 = true := by kernel_rfl
theorem x243_D : 2 = dep Tryd.f243.ntmps := by kernel_rfl
theorem x243_s : ([s2_0, s2_1, s2_2] : List (Slot tf2)).map Slot.p = (List.range' 0 3).map (pth 2) := by kernel_rfl
noncomputable def X243 : XFn Tryd.prog 2 (comp Tryd.prog) := ⟨X2, tf2, 243, Tryd.f243, c243, 2, 49, [s2_0, s2_1, s2_2], z2, x243, y243, x243_D, Tryd.ntmps243.symm, Tryd.func243, x243_b, x243_k, x243_s, by decide, z2_ok, x243_c, x243_r⟩
noncomputable def x244_0 : List (Ins tf2) := [(iAs (rk (.int .i64 (.ofNat 0))) s2_6), (iAs (rk (.int .i64 (.ofNat 0))) s2_7)]
noncomputable def x244_1 : List (Ins tf2) := [(iMv r2_0 s2_11), (iMv r2_1 s2_12), (iGp (l1 (pUn .neg)) [r2_12] (some s2_13)), (iMv r2_2 s2_14), (iGp (l1 (pUn .neg)) [r2_14] (some s2_15)), (iCall (rk (.func (.func 243) #[] #[])) [r2_11, r2_13, r2_15] (some s2_16)), (iMv r2_16 s2_10), (iGp (l1 (pExt 0)) [r2_10] (some s2_17)), (iGp (l1 (pExt 1)) [r2_10] (some s2_18)), (iAs r2_17 s2_8), (iAs r2_18 s2_9)]
noncomputable def x244_2 : List (Ins tf2) := [(iMv r2_8 s2_19), (iGp (l1 (pUn .neg)) [r2_19] (some s2_20)), (iMv r2_9 s2_21), (iAs r2_20 s2_6), (iAs r2_21 s2_7)]
noncomputable def x244 : XC tf2 := (.rg x244_0 (.rg x244_1 (.rg x244_2 .ret)))
noncomputable def c244 : Code := Tryd.f244.body.getD .skip
theorem x244_b : Tryd.f244.body = some c244 := by kernel_rfl
theorem x244_c : cG (comp Tryd.prog) 2 2 22 x244 c244 = x244.den := by kernel_rfl
noncomputable def y244 : List (RR Tryd.prog 2 22 tf2) := [rrT r2_6 6 rfl rfl, rrT r2_7 7 rfl rfl]
theorem x244_r : y244.map RR.den = Tryd.f244.results.toList := by kernel_rfl
theorem x244_k : okFn Tryd.f244 = true := by kernel_rfl
theorem x244_D : 2 = dep Tryd.f244.ntmps := by kernel_rfl
theorem x244_s : ([s2_0, s2_1, s2_2] : List (Slot tf2)).map Slot.p = (List.range' 0 3).map (pth 2) := by kernel_rfl
noncomputable def X244 : XFn Tryd.prog 2 (comp Tryd.prog) := ⟨X2, tf2, 244, Tryd.f244, c244, 2, 22, [s2_0, s2_1, s2_2], z2, x244, y244, x244_D, Tryd.ntmps244.symm, Tryd.func244, x244_b, x244_k, x244_s, by decide, z2_ok, x244_c, x244_r⟩
noncomputable def x245_0 : List (Ins tf2) := [(iAs (rk (.int .u64 (.ofNat 0))) s2_2)]
noncomputable def x245_1 : List (Ins tf2) := [(iMv r2_0 s2_3), (iP2 bLt r2_3 (rk (.int .i64 (.ofNat 0))) s2_4)]
noncomputable def x245_2 : List (Ins tf2) := [(iMv r2_0 s2_5), (iP1 (bCv .u64) r2_5 s2_6), (iGp (l1 (pUn .neg)) [r2_6] (some s2_7)), (iAs r2_7 s2_2)]
noncomputable def x245_3 : List (Ins tf2) := [(iMv r2_0 s2_8), (iP1 (bCv .u64) r2_8 s2_9), (iAs r2_9 s2_2)]
noncomputable def x245 : XC tf2 := (.rg x245_0 (.seq (.rg x245_1 (.cond r2_4 (.rg x245_2 .ret) .skip)) (.rg x245_3 .ret)))
noncomputable def c245 : Code := Tryd.f245.body.getD .skip
theorem x245_b : Tryd.f245.body = some c245 := by kernel_rfl
theorem x245_c : cG (comp Tryd.prog) 2 2 10 x245 c245 = x245.den := by kernel_rfl
noncomputable def y245 : List (RR Tryd.prog 2 10 tf2) := [rrT r2_2 2 rfl rfl]
theorem x245_r : y245.map RR.den = Tryd.f245.results.toList := by kernel_rfl
theorem x245_k : okFn Tryd.f245 = true := by kernel_rfl
theorem x245_D : 2 = dep Tryd.f245.ntmps := by kernel_rfl
theorem x245_s : ([s2_0] : List (Slot tf2)).map Slot.p = (List.range' 0 1).map (pth 2) := by kernel_rfl
noncomputable def X245 : XFn Tryd.prog 2 (comp Tryd.prog) := ⟨X2, tf2, 245, Tryd.f245, c245, 2, 10, [s2_0], z2, x245, y245, x245_D, Tryd.ntmps245.symm, Tryd.func245, x245_b, x245_k, x245_s, by decide, z2_ok, x245_c, x245_r⟩
noncomputable def x246_0 : List (Ins tf3) := [(iAs (rk (.slice none 0 0)) s3_4)]
noncomputable def x246_1 : List (Ins tf3) := [(iMv r3_0 s3_9), (iP1 bLen r3_9 s3_10), (iP2 bLt r3_10 (rk (.int .i64 (.ofNat 2))) s3_11)]
noncomputable def x246_2 : List (Ins tf3) := [(iMv r3_0 s3_12), (iGm (m2 (sApp 1)) [(rk (.slice none 0 0)), r3_12] (some s3_13)), (iAs r3_13 s3_4)]
noncomputable def x246_3 : List (Ins tf3) := [(iMv r3_0 s3_14), (iP1 bLen r3_14 s3_15), (iGp (l2 (pBin .quo)) [r3_15, (rk (.int .i64 (.ofNat 2)))] (some s3_16)), (iAs r3_16 s3_5)]
noncomputable def x246_4 : List (Ins tf3) := [(iMv r3_0 s3_17), (iMv r3_5 s3_18), (iMv r3_5 s3_19), (iGp (pSlB (pSl 1) false true true) [r3_17, r3_18, r3_19] (some s3_20)), (iMv r3_1 s3_21), (iMv r3_0 s3_23), (iMv r3_5 s3_24), (iGp (pSlB (pSl 1) true false false) [r3_23, r3_24] (some s3_25)), (iMv r3_1 s3_26), (iCall (rk (.func (.func 246) #[] #[])) [r3_20, r3_21] (some s3_22)), (iCall (rk (.func (.func 246) #[] #[])) [r3_25, r3_26] (some s3_27)), (iAs r3_22 s3_6), (iAs r3_27 s3_7)]
noncomputable def x246_5 : List (Ins tf3) := [(iMv r3_6 s3_28), (iP1 bLen r3_28 s3_29), (iMv r3_7 s3_30), (iP1 bLen r3_30 s3_31), (iP2 bAdd r3_29 r3_31 s3_32), (iGa (a2 (gMks 1 8 [(.int .i64 (.ofNat 0))])) [(rk (.int .i64 (.ofNat 0))), r3_32] (some s3_33)), (iAs r3_33 s3_8)]
noncomputable def x246_6 : List (Ins tf3) := [(iMv r3_6 s3_34), (iP1 bLen r3_34 s3_35), (iP2 bGt r3_35 (rk (.int .i64 (.ofNat 0))) s3_36), (iMv r3_36 s3_37), (iGd r3_37 [.o5, .o4, .o0] true (iMv r3_7 s3_38) (some s3_38) rfl rfl rfl), (iGd r3_37 [.o5, .o4, .o0] true (iP1 bLen r3_38 s3_39) (some s3_39) rfl rfl rfl), (iGd r3_37 [.o5, .o4, .o0] true (iP2 bGt r3_39 (rk (.int .i64 (.ofNat 0))) s3_40) (some s3_40) rfl rfl rfl), (iGp (l3 pPick) [r3_37, r3_40, (rk (.bool false))] (some s3_41))]
noncomputable def x246_7 : List (Ins tf3) := [(iMv r3_1 s3_45), (iMv r3_6 s3_46), (iP2 (bIxs 1) r3_46 (rk (.int .i64 (.ofNat 0))) s3_47), (iR1 bLd r3_47 s3_48), (iMv r3_7 s3_49), (iP2 (bIxs 1) r3_49 (rk (.int .i64 (.ofNat 0))) s3_50), (iR1 bLd r3_50 s3_51), (iCall r3_45 [r3_48, r3_51] (some s3_52)), (iAs r3_52 s3_44)]
noncomputable def x246_8 : List (Ins tf3) := [(iMv r3_8 s3_53), (iMv r3_6 s3_54), (iP2 (bIxs 1) r3_54 (rk (.int .i64 (.ofNat 0))) s3_55), (iR1 bLd r3_55 s3_56), (iGa (aBsl 1 1 [(.int .i64 (.ofNat 0))] [(0, 1)]) [r3_56] (some s3_57)), (iMv r3_6 s3_59), (iGp (pSlB (pSl 1) true false false) [r3_59, (rk (.int .i64 (.ofNat 1)))] (some s3_60)), (iGm (m2 (sApp 1)) [r3_53, r3_57] (some s3_58)), (iAs r3_58 s3_8), (iAs r3_60 s3_6)]
noncomputable def x246_9 : List (Ins tf3) := [(iMv r3_1 s3_62), (iMv r3_7 s3_63), (iP2 (bIxs 1) r3_63 (rk (.int .i64 (.ofNat 0))) s3_64), (iR1 bLd r3_64 s3_65), (iMv r3_6 s3_66), (iP2 (bIxs 1) r3_66 (rk (.int .i64 (.ofNat 0))) s3_67), (iR1 bLd r3_67 s3_68), (iCall r3_62 [r3_65, r3_68] (some s3_69)), (iAs r3_69 s3_61)]
noncomputable def x246_10 : List (Ins tf3) := [(iMv r3_8 s3_70), (iMv r3_7 s3_71), (iP2 (bIxs 1) r3_71 (rk (.int .i64 (.ofNat 0))) s3_72), (iR1 bLd r3_72 s3_73), (iGa (aBsl 1 1 [(.int .i64 (.ofNat 0))] [(0, 1)]) [r3_73] (some s3_74)), (iMv r3_7 s3_76), (iGp (pSlB (pSl 1) true false false) [r3_76, (rk (.int .i64 (.ofNat 1)))] (some s3_77)), (iGm (m2 (sApp 1)) [r3_70, r3_74] (some s3_75)), (iAs r3_75 s3_8), (iAs r3_77 s3_7)]
noncomputable def x246_11 : List (Ins tf3) := [(iMv r3_6 s3_42), (iGp (pSlB (pSl 1) true false false) [r3_42, (rk (.int .i64 (.ofNat 1)))] (some s3_43)), (iAs r3_43 s3_6)]
noncomputable def x246_12 : List (Ins tf3) := [(iMv r3_8 s3_78), (iMv r3_6 s3_79), (iGm (m2 (sApp 1)) [r3_78, r3_79] (some s3_80)), (iMv r3_7 s3_81), (iGm (m2 (sApp 1)) [r3_80, r3_81] (some s3_82)), (iAs r3_82 s3_4)]
noncomputable def x246 : XC tf3 := (.rg x246_0 (.seq (.rg x246_1 (.cond r3_11 (.rg x246_2 .ret) .skip)) (.rg x246_3 (.rg x246_4 (.rg x246_5 (.seq (.block 0 (.loop (.seq (.rg x246_6 (.cond r3_41 .skip (.exit 0))) (.block 1 (.block 2 (.rg x246_7 (.cond r3_44 (.reg x246_8) (.rg x246_9 (.cond r3_61 (.reg x246_10) (.reg x246_11)))))))))) (.rg x246_12 .ret)))))))
noncomputable def c246 : Code := Tryd.f246.body.getD .skip
theorem x246_b : Tryd.f246.body = some c246 := by kernel_rfl
theorem x246_c : cG (comp Tryd.prog) 2 3 83 x246 c246 = x246.den := by kernel_rfl
noncomputable def y246 : List (RR Tryd.prog 3 83 tf3) := [rrT r3_4 4 rfl rfl]
theorem x246_r : y246.map RR.den = Tryd.f246.results.toList := by kernel_rfl
theorem x246_k : okFn Tryd.f246 = true := by kernel_rfl
theorem x246_D : 3 = dep Tryd.f246.ntmps := by kernel_rfl
theorem x246_s : ([s3_0, s3_1] : List (Slot tf3)).map Slot.p = (List.range' 0 2).map (pth 3) := by kernel_rfl
noncomputable def X246 : XFn Tryd.prog 2 (comp Tryd.prog) := ⟨X3, tf3, 246, Tryd.f246, c246, 3, 83, [s3_0, s3_1], z3, x246, y246, x246_D, Tryd.ntmps246.symm, Tryd.func246, x246_b, x246_k, x246_s, by decide, z3_ok, x246_c, x246_r⟩
noncomputable def x247_0 : List (Ins tf2) := [(iAs (rk (.bool false)) s2_4)]
noncomputable def x247_1 : List (Ins tf2) := [(iMv r2_0 s2_5), (iCall (rk (.func (.func 245) #[] #[])) [r2_5] (some s2_6)), (iMv r2_1 s2_7), (iCall (rk (.func (.func 245) #[] #[])) [r2_7] (some s2_8)), (iP2 bNe r2_6 r2_8 s2_9)]
noncomputable def x247_2 : List (Ins tf2) := [(iMv r2_0 s2_10), (iCall (rk (.func (.func 245) #[] #[])) [r2_10] (some s2_11)), (iMv r2_1 s2_12), (iCall (rk (.func (.func 245) #[] #[])) [r2_12] (some s2_13)), (iP2 bLt r2_11 r2_13 s2_14), (iAs r2_14 s2_4)]
noncomputable def x247_3 : List (Ins tf2) := [(iMv r2_0 s2_15), (iMv r2_1 s2_16), (iP2 bGt r2_15 r2_16 s2_17), (iAs r2_17 s2_4)]
noncomputable def x247 : XC tf2 := (.rg x247_0 (.seq (.rg x247_1 (.cond r2_9 (.rg x247_2 .ret) .skip)) (.rg x247_3 .ret)))
noncomputable def c247 : Code := Tryd.f247.body.getD .skip
theorem x247_b : Tryd.f247.body = some c247 := by kernel_rfl
theorem x247_c : cG (comp Tryd.prog) 2 2 18 x247 c247 = x247.den := by kernel_rfl
noncomputable def y247 : List (RR Tryd.prog 2 18 tf2) := [rrT r2_4 4 rfl rfl]
theorem x247_r : y247.map RR.den = Tryd.f247.results.toList := by kernel_rfl
theorem x247_k : okFn Tryd.f247 = true := by kernel_rfl
theorem x247_D : 2 = dep Tryd.f247.ntmps := by kernel_rfl
theorem x247_s : ([s2_0, s2_1] : List (Slot tf2)).map Slot.p = (List.range' 0 2).map (pth 2) := by kernel_rfl
noncomputable def X247 : XFn Tryd.prog 2 (comp Tryd.prog) := ⟨X2, tf2, 247, Tryd.f247, c247, 2, 18, [s2_0, s2_1], z2, x247, y247, x247_D, Tryd.ntmps247.symm, Tryd.func247, x247_b, x247_k, x247_s, by decide, z2_ok, x247_c, x247_r⟩
noncomputable def x250_0 : List (Ins tf2) := [(iMv r2_0 s2_6), (iP1 bNil r2_6 s2_7), (iP1 (bFa 0) r2_7 s2_8), (iR1 bLd r2_8 s2_9), (iMv r2_1 s2_10), (iMv r2_0 s2_11), (iP1 bNil r2_11 s2_12), (iP1 (bFa 0) r2_12 s2_13), (iR1 bLd r2_13 s2_14), (iMv r2_2 s2_15), (iMv r2_0 s2_16), (iP1 bNil r2_16 s2_17), (iP1 (bFa 0) r2_17 s2_18), (iR1 bLd r2_18 s2_19), (iMv r2_2 s2_20), (iP2 (bIxs 1) r2_19 r2_20 s2_21), (iR1 bLd r2_21 s2_22), (iMv r2_0 s2_23), (iP1 bNil r2_23 s2_24), (iP1 (bFa 0) r2_24 s2_25), (iR1 bLd r2_25 s2_26), (iMv r2_1 s2_27), (iP2 (bIxs 1) r2_26 r2_27 s2_28), (iR1 bLd r2_28 s2_29), (iP2 (bIxs 1) r2_9 r2_10 s2_30), (iM2 bSt r2_30 r2_22), (iP2 (bIxs 1) r2_14 r2_15 s2_31), (iM2 bSt r2_31 r2_29)]
noncomputable def x250_1 : List (Ins tf2) := [(iMv r2_0 s2_32), (iP1 bNil r2_32 s2_33), (iP1 (bFa 1) r2_33 s2_34), (iR1 bLd r2_34 s2_35), (iMv r2_0 s2_36), (iP1 bNil r2_36 s2_37), (iP1 (bFa 0) r2_37 s2_38), (iR1 bLd r2_38 s2_39), (iMv r2_1 s2_40), (iP2 (bIxs 1) r2_39 r2_40 s2_41), (iR1 bLd r2_41 s2_42), (iMv r2_0 s2_43), (iP1 bNil r2_43 s2_44), (iP1 (bFa 1) r2_44 s2_45), (iR1 bLd r2_45 s2_46), (iMv r2_0 s2_47), (iP1 bNil r2_47 s2_48), (iP1 (bFa 0) r2_48 s2_49), (iR1 bLd r2_49 s2_50), (iMv r2_2 s2_51), (iP2 (bIxs 1) r2_50 r2_51 s2_52), (iR1 bLd r2_52 s2_53), (iMv r2_1 s2_54), (iMv r2_2 s2_55), (iP2 (bIxs 1) r2_35 r2_42 s2_56), (iM2 bSt r2_56 r2_54), (iP2 (bIxs 1) r2_46 r2_53 s2_57), (iM2 bSt r2_57 r2_55)]
noncomputable def x250 : XC tf2 := (.rg x250_0 (.reg x250_1))
noncomputable def c250 : Code := Tryd.f250.body.getD .skip
theorem x250_b : Tryd.f250.body = some c250 := by kernel_rfl
theorem x250_c : cG (comp Tryd.prog) 2 2 58 x250 c250 = x250.den := by kernel_rfl
noncomputable def y250 : List (RR Tryd.prog 2 58 tf2) := []
theorem x250_r : y250.map RR.den = Tryd.f250.results.toList := by kernel_rfl
theorem x250_k : okFn Tryd.f250 = true := by kernel_rfl
theorem x250_D : 2 = dep Tryd.f250.ntmps := by kernel_rfl
theorem x250_s : ([s2_0, s2_1, s2_2] : List (Slot tf2)).map Slot.p = (List.range' 0 3).map (pth 2) := by kernel_rfl
noncomputable def X250 : XFn Tryd.prog 2 (comp Tryd.prog) := ⟨X2, tf2, 250, Tryd.f250, c250, 2, 58, [s2_0, s2_1, s2_2], z2, x250, y250, x250_D, Tryd.ntmps250.symm, Tryd.func250, x250_b, x250_k, x250_s, by decide, z2_ok, x250_c, x250_r⟩
noncomputable def x251_0 : List (Ins tf2) := [(iMv r2_1 s2_7), (iAs r2_7 s2_4)]
noncomputable def x251_1 : List (Ins tf2) := [(iMv r2_1 s2_8), (iGp (l2 (pBin .mul)) [(rk (.int .i64 (.ofNat 2))), r2_8] (some s2_9)), (iP2 bAdd r2_9 (rk (.int .i64 (.ofNat 1))) s2_10), (iMv r2_1 s2_11), (iGp (l2 (pBin .mul)) [(rk (.int .i64 (.ofNat 2))), r2_11] (some s2_12)), (iP2 bAdd r2_12 (rk (.int .i64 (.ofNat 2))) s2_13), (iGp (pBld [(.int .i64 (.ofNat 0)), (.int .i64 (.ofNat 0))] [(0, 1), (1, 1)]) [r2_10, r2_13] (some s2_14)), (iMv (rk (.int .i64 (.ofNat 0))) s2_15)]
noncomputable def x251_2 : List (Ins tf2) := [(iP2 bLt r2_15 (rk (.int .i64 (.ofNat 2))) s2_16)]
noncomputable def x251_3 : List (Ins tf2) := [(iGp (l2 (pIx 2 none 1)) [r2_14, r2_15] (some s2_17)), (iAs r2_17 s2_6)]
noncomputable def x251_4 : List (Ins tf2) := [(iMv r2_6 s2_18), (iMv r2_0 s2_19), (iP1 bNil r2_19 s2_20), (iP1 (bFa 0) r2_20 s2_21), (iR1 bLd r2_21 s2_22), (iP1 bLen r2_22 s2_23), (iP2 bLt r2_18 r2_23 s2_24), (iMv r2_24 s2_25), (iGd r2_25 [.o1, .o3] true (iMv r2_0 s2_26) (some s2_26) rfl rfl rfl), (iGd r2_25 [.o1, .o3] true (iP1 bNil r2_26 s2_27) (some s2_27) rfl rfl rfl), (iGd r2_25 [.o1, .o3] true (iP1 (bFa 3) r2_27 s2_28) (some s2_28) rfl rfl rfl), (iGd r2_25 [.o1, .o3] true (iR1 bLd r2_28 s2_29) (some s2_29) rfl rfl rfl), (iGd r2_25 [.o1, .o3] true (iMv r2_0 s2_30) (some s2_30) rfl rfl rfl), (iGd r2_25 [.o1, .o3] true (iP1 bNil r2_30 s2_31) (some s2_31) rfl rfl rfl), (iGd r2_25 [.o1, .o3] true (iP1 (bFa 2) r2_31 s2_32) (some s2_32) rfl rfl rfl), (iGd r2_25 [.o1, .o3] true (iR1 bLd r2_32 s2_33) (some s2_33) rfl rfl rfl), (iGd r2_25 [.o1, .o3] true (iMv r2_0 s2_34) (some s2_34) rfl rfl rfl), (iGd r2_25 [.o1, .o3] true (iP1 bNil r2_34 s2_35) (some s2_35) rfl rfl rfl), (iGd r2_25 [.o1, .o3] true (iP1 (bFa 0) r2_35 s2_36) (some s2_36) rfl rfl rfl), (iGd r2_25 [.o1, .o3] true (iR1 bLd r2_36 s2_37) (some s2_37) rfl rfl rfl), (iGd r2_25 [.o1, .o3] true (iMv r2_6 s2_38) (some s2_38) rfl rfl rfl), (iGd r2_25 [.o1, .o3] true (iP2 (bIxs 1) r2_37 r2_38 s2_39) (some s2_39) rfl rfl rfl), (iGd r2_25 [.o1, .o3] true (iR1 bLd r2_39 s2_40) (some s2_40) rfl rfl rfl), (iGd r2_25 [.o1, .o3] true (iMv r2_0 s2_41) (some s2_41) rfl rfl rfl), (iGd r2_25 [.o1, .o3] true (iP1 bNil r2_41 s2_42) (some s2_42) rfl rfl rfl), (iGd r2_25 [.o1, .o3] true (iP1 (bFa 0) r2_42 s2_43) (some s2_43) rfl rfl rfl), (iGd r2_25 [.o1, .o3] true (iR1 bLd r2_43 s2_44) (some s2_44) rfl rfl rfl), (iGd r2_25 [.o1, .o3] true (iMv r2_4 s2_45) (some s2_45) rfl rfl rfl), (iGd r2_25 [.o1, .o3] true (iP2 (bIxs 1) r2_44 r2_45 s2_46) (some s2_46) rfl rfl rfl), (iGd r2_25 [.o1, .o3] true (iR1 bLd r2_46 s2_47) (some s2_47) rfl rfl rfl), (iGd r2_25 [.o1, .o3] true (iCall r2_29 [r2_33, r2_40, r2_47] (some s2_48)) (some s2_48) rfl rfl rfl), (iGp (l3 pPick) [r2_25, r2_48, (rk (.bool false))] (some s2_49))]
noncomputable def x251_5 : List (Ins tf2) := [(iMv r2_6 s2_50), (iAs r2_50 s2_4)]
noncomputable def x251_6 : List (Ins tf2) := [(iP2 bAdd r2_15 (rk (.int .i64 (.ofNat 1))) s2_51), (iMv r2_51 s2_15)]
noncomputable def x251_7 : List (Ins tf2) := [(iMv r2_4 s2_52), (iMv r2_1 s2_53), (iP2 bEq r2_52 r2_53 s2_54)]
noncomputable def x251_8 : List (Ins tf2) := [(iMv r2_0 s2_55), (iMv r2_1 s2_56), (iMv r2_4 s2_57), (iCall (rk (.func (.func 250) #[] #[])) [r2_55, r2_56, r2_57] (some s2_58))]
noncomputable def x251_9 : List (Ins tf2) := [(iMv r2_4 s2_59), (iAs r2_59 s2_1)]
noncomputable def x251 : XC tf2 := (.block 0 (.loop (.block 1 (.rg x251_0 (.seq (.rg x251_1 (.block 2 (.loop (.rg x251_2 (.seq (.cond r2_16 .skip (.exit 2)) (.seq (.block 3 (.rg x251_3 (.rg x251_4 (.cond r2_49 (.reg x251_5) .skip)))) (.reg x251_6))))))) (.seq (.rg x251_7 (.cond r2_54 .ret .skip)) (.rg x251_8 (.reg x251_9))))))))
noncomputable def c251 : Code := Tryd.f251.body.getD .skip
theorem x251_b : Tryd.f251.body = some c251 := by kernel_rfl
theorem x251_c : cG (comp Tryd.prog) 2 2 60 x251 c251 = x251.den := by kernel_rfl
noncomputable def y251 : List (RR Tryd.prog 2 60 tf2) := []
theorem x251_r : y251.map RR.den = Tryd.f251.results.toList := by kernel_rfl
theorem x251_k : okFn Tryd.f251 = true := by kernel_rfl
theorem x251_D : 2 = dep Tryd.f251.ntmps := by kernel_rfl
theorem x251_s : ([s2_0, s2_1] : List (Slot tf2)).map Slot.p = (List.range' 0 2).map (pth 2) := by kernel_rfl
noncomputable def X251 : XFn Tryd.prog 2 (comp Tryd.prog) := ⟨X2, tf2, 251, Tryd.f251, c251, 2, 60, [s2_0, s2_1], z2, x251, y251, x251_D, Tryd.ntmps251.symm, Tryd.func251, x251_b, x251_k, x251_s, by decide, z2_ok, x251_c, x251_r⟩
noncomputable def x258_0 : List (Ins tf2) := [(iAs (rk (.int .i64 (.ofNat 0))) s2_4)]
noncomputable def x258_1 : List (Ins tf2) := [(iMv r2_1 s2_5), (iP2 bNe r2_5 (rk (.int .i64 (.ofNat 0))) s2_6)]
noncomputable def x258_2 : List (Ins tf2) := [(iMv r2_0 s2_10), (iAs r2_10 s2_4)]
noncomputable def x258 : XC tf2 := (.rg x258_0 (.seq (.rg x258_1 (.cond r2_6 .bad .skip)) (.rg x258_2 .ret)))
noncomputable def c258 : Code := Tryd.f258.body.getD .skip
theorem x258_b : Tryd.f258.body = some c258 := by kernel_rfl
theorem x258_c : cG (comp Tryd.prog) 2 2 11 x258 c258 = x258.den := by kernel_rfl
noncomputable def y258 : List (RR Tryd.prog 2 11 tf2) := [rrT r2_4 4 rfl rfl]
theorem x258_r : y258.map RR.den = Tryd.f258.results.toList := by kernel_rfl
theorem x258_k : okFn Tryd.f258 = true := by kernel_rfl
theorem x258_D : 2 = dep Tryd.f258.ntmps := by kernel_rfl
theorem x258_s : ([s2_0, s2_1] : List (Slot tf2)).map Slot.p = (List.range' 0 2).map (pth 2) := by kernel_rfl
noncomputable def X258 : XFn Tryd.prog 2 (comp Tryd.prog) := ⟨X2, tf2, 258, Tryd.f258, c258, 2, 11, [s2_0, s2_1], z2, x258, y258, x258_D, Tryd.ntmps258.symm, Tryd.func258, x258_b, x258_k, x258_s, by decide, z2_ok, x258_c, x258_r⟩
noncomputable def x259_0 : List (Ins tf2) := [(iAs (rk (.int .i64 (.ofNat 0))) s2_2), (iAs (rk (.int .i64 (.ofNat 0))) s2_3)]
noncomputable def x259_1 : List (Ins tf2) := [(iMv r2_0 s2_4), (iGp (l2 (pEqD (tdOf 249) false)) [r2_4, (rk (.pointer none))] (some s2_5))]
noncomputable def x259_2 : List (Ins tf2) := [(iAs (rk (.int .i64 (.ofNat 0))) s2_2), (iAs (rk (.int .i64 (.ofNat 1))) s2_3)]
noncomputable def x259_3 : List (Ins tf2) := [(iMv r2_0 s2_6), (iP1 bNil r2_6 s2_7), (iP1 (bFa 0) r2_7 s2_8), (iP1 (bFa 0) r2_8 s2_9), (iR1 bLd r2_9 s2_10), (iP2 bEq r2_10 (rk (.int .i64 (.ofNat 1048576))) s2_11)]
noncomputable def x259_4 : List (Ins tf2) := [(iAs (rk (.int .i64 (.ofNat 0))) s2_2), (iAs (rk (.int .i64 (.ofNat 5))) s2_3)]
noncomputable def x259_5 : List (Ins tf2) := [(iMv r2_0 s2_12), (iP1 bNil r2_12 s2_13), (iP1 (bFa 0) r2_13 s2_14), (iP1 (bFa 0) r2_14 s2_15), (iR1 bLd r2_15 s2_16), (iP2 bAdd r2_16 (rk (.int .i64 (.ofNat 1))) s2_17), (iP1 bNil r2_12 s2_18), (iP1 (bFa 0) r2_18 s2_19), (iP1 (bFa 0) r2_19 s2_20), (iM2 bSt r2_20 r2_17)]
noncomputable def x259_6 : List (Ins tf2) := [(iMv r2_0 s2_21), (iP1 bNil r2_21 s2_22), (iP1 (bFa 0) r2_22 s2_23), (iP1 (bFa 0) r2_23 s2_24), (iR1 bLd r2_24 s2_25), (iAs r2_25 s2_2), (iAs (rk (.int .i64 (.ofNat 0))) s2_3)]
noncomputable def x259 : XC tf2 := (.rg x259_0 (.seq (.rg x259_1 (.cond r2_5 (.rg x259_2 .ret) .skip)) (.seq (.rg x259_3 (.cond r2_11 (.rg x259_4 .ret) .skip)) (.rg x259_5 (.rg x259_6 .ret)))))
noncomputable def c259 : Code := Tryd.f259.body.getD .skip
theorem x259_b : Tryd.f259.body = some c259 := by kernel_rfl
theorem x259_c : cG (comp Tryd.prog) 2 2 26 x259 c259 = x259.den := by kernel_rfl
noncomputable def y259 : List (RR Tryd.prog 2 26 tf2) := [rrT r2_2 2 rfl rfl, rrT r2_3 3 rfl rfl]
theorem x259_r : y259.map RR.den = Tryd.f259.results.toList := by kernel_rfl
theorem x259_k : okFn Tryd.f259 = true := by kernel_rfl
theorem x259_D : 2 = dep Tryd.f259.ntmps := by kernel_rfl
theorem x259_s : ([s2_0] : List (Slot tf2)).map Slot.p = (List.range' 0 1).map (pth 2) := by kernel_rfl
noncomputable def X259 : XFn Tryd.prog 2 (comp Tryd.prog) := ⟨X2, tf2, 259, Tryd.f259, c259, 2, 26, [s2_0], z2, x259, y259, x259_D, Tryd.ntmps259.symm, Tryd.func259, x259_b, x259_k, x259_s, by decide, z2_ok, x259_c, x259_r⟩
noncomputable def x263_0 : List (Ins tf2) := [(iAs (rk (.slice none 0 0)) s2_4)]
noncomputable def x263_1 : List (Ins tf2) := [(iMv r2_0 s2_7), (iP1 bNil r2_7 s2_8), (iP1 (bFa 0) r2_8 s2_9), (iR1 bLd r2_9 s2_10), (iCall (rk (.func (.func 41) #[] #[])) [r2_10] (some s2_11)), (iGa (a2 (gMks 1 8 [(.int .i64 (.ofNat 0))])) [r2_11, r2_11] (some s2_12)), (iAs r2_12 s2_5)]
noncomputable def x263_2 : List (Ins tf2) := [(iMv r2_5 s2_13), (iP1 bLen r2_13 s2_14), (iMv (rk (.int .i64 (.ofNat 0))) s2_15)]
noncomputable def x263_3 : List (Ins tf2) := [(iP2 bLt r2_15 r2_14 s2_16)]
noncomputable def x263_4 : List (Ins tf2) := [(iMv r2_15 s2_17), (iAs r2_17 s2_6)]
noncomputable def x263_5 : List (Ins tf2) := [(iMv r2_5 s2_18), (iMv r2_6 s2_19), (iMv r2_0 s2_20), (iP1 bNil r2_20 s2_21), (iP1 (bFa 1) r2_21 s2_22), (iR1 bLd r2_22 s2_23), (iCall (rk (.func (.func 216) #[] #[])) [r2_23] (some s2_24)), (iGp (l1 (pUn .neg)) [r2_24] (some s2_25)), (iP2 (bIxs 1) r2_18 r2_19 s2_26), (iM2 bSt r2_26 r2_25)]
noncomputable def x263_6 : List (Ins tf2) := [(iP2 bAdd r2_15 (rk (.int .i64 (.ofNat 1))) s2_27), (iMv r2_27 s2_15)]
noncomputable def x263_7 : List (Ins tf2) := [(iMv r2_5 s2_28), (iMv r2_1 s2_29), (iP2 (bIxs 1) r2_28 (rk (.int .i64 (.ofNat 0))) s2_30), (iM2 bSt r2_30 r2_29)]
noncomputable def x263_8 : List (Ins tf2) := [(iMv r2_5 s2_31), (iAs r2_31 s2_4)]
noncomputable def x263 : XC tf2 := (.rg x263_0 (.rg x263_1 (.seq (.rg x263_2 (.block 0 (.loop (.rg x263_3 (.seq (.cond r2_16 .skip (.exit 0)) (.seq (.block 1 (.rg x263_4 (.reg x263_5))) (.reg x263_6))))))) (.rg x263_7 (.rg x263_8 .ret)))))
noncomputable def c263 : Code := Tryd.f263.body.getD .skip
theorem x263_b : Tryd.f263.body = some c263 := by kernel_rfl
theorem x263_c : cG (comp Tryd.prog) 2 2 32 x263 c263 = x263.den := by kernel_rfl
noncomputable def y263 : List (RR Tryd.prog 2 32 tf2) := [rrT r2_4 4 rfl rfl]
theorem x263_r : y263.map RR.den = Tryd.f263.results.toList := by kernel_rfl
theorem x263_k : okFn Tryd.f263 = true := by kernel_rfl
theorem x263_D : 2 = dep Tryd.f263.ntmps := by kernel_rfl
theorem x263_s : ([s2_0, s2_1] : List (Slot tf2)).map Slot.p = (List.range' 0 2).map (pth 2) := by kernel_rfl
noncomputable def X263 : XFn Tryd.prog 2 (comp Tryd.prog) := ⟨X2, tf2, 263, Tryd.f263, c263, 2, 32, [s2_0, s2_1], z2, x263, y263, x263_D, Tryd.ntmps263.symm, Tryd.func263, x263_b, x263_k, x263_s, by decide, z2_ok, x263_c, x263_r⟩
noncomputable def x269_0 : List (Ins tf2) := [(iAs (rk (.int .i64 (.ofNat 0))) s2_6), (iAs (rk (.int .i64 (.ofNat 0))) s2_7)]
noncomputable def x269_1 : List (Ins tf2) := [(iMv r2_0 s2_8), (iGp (l2 (pEqD (tdOf 249) false)) [r2_8, (rk (.pointer none))] (some s2_9))]
noncomputable def x269_2 : List (Ins tf2) := [(iAs (rk (.int .i64 (.ofNat 0))) s2_6), (iAs (rk (.int .i64 (.ofNat 1))) s2_7)]
noncomputable def x269_3 : List (Ins tf2) := [(iMv r2_0 s2_10), (iMv r2_1 s2_11), (iMv r2_2 s2_12), (iGa (aBsl 2 1 [(.int .i64 (.ofNat 0))] [(0, 1), (1, 1)]) [r2_11, r2_12] (some s2_13)), (iCall (rk (.func (.func 219) #[] #[])) [r2_10, r2_13] (some s2_14)), (iGp (l1 (pUn .not)) [r2_14] (some s2_15))]
noncomputable def x269_4 : List (Ins tf2) := [(iAs (rk (.int .i64 (.ofNat 0))) s2_6), (iAs (rk (.int .i64 (.ofNat 3))) s2_7)]
noncomputable def x269_5 : List (Ins tf2) := [(iMv r2_1 s2_17), (iMv r2_2 s2_18), (iP2 bEq r2_17 r2_18 s2_19), (iAs r2_19 s2_16)]
noncomputable def x269_6 : List (Ins tf2) := [(iAs (rk (.int .i64 (.negSucc 0))) s2_6), (iAs (rk (.int .i64 (.ofNat 0))) s2_7)]
noncomputable def x269_7 : List (Ins tf2) := [(iMv r2_1 s2_21), (iMv r2_2 s2_22), (iGp (l1 (pUn .neg)) [r2_22] (some s2_23)), (iP2 bEq r2_21 r2_23 s2_24), (iAs r2_24 s2_20)]
noncomputable def x269_8 : List (Ins tf2) := [(iAs (rk (.int .i64 (.ofNat 1))) s2_6), (iAs (rk (.int .i64 (.ofNat 0))) s2_7)]
noncomputable def x269_9 : List (Ins tf2) := [(iMv r2_1 s2_26), (iP2 bEq r2_26 (rk (.int .i64 (.ofNat 1))) s2_27), (iMv r2_27 s2_28), (iGd r2_28 [.o4, .o3] false (iMv r2_1 s2_29) (some s2_29) rfl rfl rfl), (iGd r2_28 [.o4, .o3] false (iP2 bEq r2_29 (rk (.int .i64 (.negSucc 0))) s2_30) (some s2_30) rfl rfl rfl), (iGp (l3 pPick) [r2_28, (rk (.bool true)), r2_30] (some s2_31)), (iAs r2_31 s2_25)]
noncomputable def x269_10 : List (Ins tf2) := [(iMv r2_1 s2_32), (iGp (l1 (pUn .neg)) [r2_32] (some s2_33)), (iMv r2_2 s2_34), (iGp (l2 (pBin .mul)) [r2_33, r2_34] (some s2_35)), (iAs r2_35 s2_6), (iAs (rk (.int .i64 (.ofNat 0))) s2_7)]
noncomputable def x269_11 : List (Ins tf2) := [(iMv r2_2 s2_37), (iP2 bEq r2_37 (rk (.int .i64 (.ofNat 1))) s2_38), (iMv r2_38 s2_39), (iGd r2_39 [.o7, .o4] false (iMv r2_2 s2_40) (some s2_40) rfl rfl rfl), (iGd r2_39 [.o7, .o4] false (iP2 bEq r2_40 (rk (.int .i64 (.negSucc 0))) s2_41) (some s2_41) rfl rfl rfl), (iGp (l3 pPick) [r2_39, (rk (.bool true)), r2_41] (some s2_42)), (iAs r2_42 s2_36)]
noncomputable def x269_12 : List (Ins tf2) := [(iMv r2_2 s2_43), (iGp (l1 (pUn .neg)) [r2_43] (some s2_44)), (iMv r2_1 s2_45), (iGp (l2 (pBin .mul)) [r2_44, r2_45] (some s2_46)), (iAs r2_46 s2_6), (iAs (rk (.int .i64 (.ofNat 0))) s2_7)]
noncomputable def x269_13 : List (Ins tf2) := [(iMv r2_0 s2_47), (iMv r2_1 s2_48), (iMv r2_2 s2_49), (iGa (aBsl 2 1 [(.int .i64 (.ofNat 0))] [(0, 1), (1, 1)]) [r2_48, r2_49] (some s2_50)), (iCall (rk (.func (.func 273) #[] #[])) [r2_47, (rk (.int .i64 (.ofNat 1))), r2_50] (some s2_51)), (iGp (l1 (pExt 0)) [r2_51] (some s2_52)), (iGp (l1 (pExt 1)) [r2_51] (some s2_53)), (iAs r2_52 s2_6), (iAs r2_53 s2_7)]
noncomputable def x269 : XC tf2 := (.rg x269_0 (.seq (.rg x269_1 (.cond r2_9 (.rg x269_2 .ret) .skip)) (.seq (.rg x269_3 (.cond r2_15 (.rg x269_4 .ret) .skip)) (.seq (.block 0 (.rg x269_5 (.cond r2_16 (.rg x269_6 .ret) (.rg x269_7 (.cond r2_20 (.rg x269_8 .ret) (.rg x269_9 (.cond r2_25 (.rg x269_10 .ret) (.rg x269_11 (.cond r2_36 (.rg x269_12 .ret) .skip))))))))) (.rg x269_13 .ret)))))
noncomputable def c269 : Code := Tryd.f269.body.getD .skip
theorem x269_b : Tryd.f269.body = some c269 := by kernel_rfl
theorem x269_c : cG (comp Tryd.prog) 2 2 54 x269 c269 = x269.den := by kernel_rfl
noncomputable def y269 : List (RR Tryd.prog 2 54 tf2) := [rrT r2_6 6 rfl rfl, rrT r2_7 7 rfl rfl]
theorem x269_r : y269.map RR.den = Tryd.f269.results.toList := by kernel_rfl
theorem x269_k : okFn Tryd.f269 = true := by kernel_rfl
theorem x269_D : 2 = dep Tryd.f269.ntmps := by kernel_rfl
theorem x269_s : ([s2_0, s2_1, s2_2] : List (Slot tf2)).map Slot.p = (List.range' 0 3).map (pth 2) := by kernel_rfl
noncomputable def X269 : XFn Tryd.prog 2 (comp Tryd.prog) := ⟨X2, tf2, 269, Tryd.f269, c269, 2, 54, [s2_0, s2_1, s2_2], z2, x269, y269, x269_D, Tryd.ntmps269.symm, Tryd.func269, x269_b, x269_k, x269_s, by decide, z2_ok, x269_c, x269_r⟩
end Cr
end Go.Proofs.YtjhbabgcoemecaaDoor
namespace Go.Proofs.YtjhbabgcoemecaaDoor
namespace Cr
open Go Go.RowKit
set_option maxRecDepth 100000
noncomputable def x273_0 : List (Ins tf3) := [(iAs (rk (.int .i64 (.ofNat 0))) s3_6), (iAs (rk (.int .i64 (.ofNat 0))) s3_7)]
noncomputable def x273_1 : List (Ins tf3) := [(iCall (rk (.func (.func 286) #[] #[])) [] (some s3_15)), (iMv r3_1 s3_16), (iGp (l2 (pIx 3 none 1)) [r3_15, r3_16] (some s3_17)), (iAs r3_17 s3_8)]
noncomputable def x273_2 : List (Ins tf3) := [(iMv r3_0 s3_18), (iP1 bNil r3_18 s3_19), (iP1 (bFa 0) r3_19 s3_20), (iP1 (bFa 0) r3_20 s3_21), (iR1 bLd r3_21 s3_22), (iP2 bEq r3_22 (rk (.int .i64 (.ofNat 1048576))) s3_23), (iMv r3_23 s3_24), (iGd r3_24 [.o0, .o3, .o0] false (iMv r3_0 s3_25) (some s3_25) rfl rfl rfl), (iGd r3_24 [.o0, .o3, .o0] false (iP1 bNil r3_25 s3_26) (some s3_26) rfl rfl rfl), (iGd r3_24 [.o0, .o3, .o0] false (iP1 (bFa 0) r3_26 s3_27) (some s3_27) rfl rfl rfl), (iGd r3_24 [.o0, .o3, .o0] false (iP1 (bFa 1) r3_27 s3_28) (some s3_28) rfl rfl rfl), (iGd r3_24 [.o0, .o3, .o0] false (iR1 bLd r3_28 s3_29) (some s3_29) rfl rfl rfl), (iGd r3_24 [.o0, .o3, .o0] false (iP1 bLen r3_29 s3_30) (some s3_30) rfl rfl rfl), (iGd r3_24 [.o0, .o3, .o0] false (iMv r3_8 s3_31) (some s3_31) rfl rfl rfl), (iGd r3_24 [.o0, .o3, .o0] false (iP1 bLen r3_31 s3_32) (some s3_32) rfl rfl rfl), (iGd r3_24 [.o0, .o3, .o0] false (iP2 bAdd r3_30 r3_32 s3_33) (some s3_33) rfl rfl rfl), (iGd r3_24 [.o0, .o3, .o0] false (iP2 bGt r3_33 (rk (.int .i64 (.ofNat 1048576))) s3_34) (some s3_34) rfl rfl rfl), (iGp (l3 pPick) [r3_24, (rk (.bool true)), r3_34] (some s3_35))]
noncomputable def x273_3 : List (Ins tf3) := [(iAs (rk (.int .i64 (.ofNat 0))) s3_6), (iAs (rk (.int .i64 (.ofNat 5))) s3_7)]
noncomputable def x273_4 : List (Ins tf3) := [(iMv r3_0 s3_36), (iP1 bNil r3_36 s3_37), (iP1 (bFa 0) r3_37 s3_38), (iP1 (bFa 0) r3_38 s3_39), (iR1 bLd r3_39 s3_40), (iP2 bAdd r3_40 (rk (.int .i64 (.ofNat 1))) s3_41), (iP1 bNil r3_36 s3_42), (iP1 (bFa 0) r3_42 s3_43), (iP1 (bFa 0) r3_43 s3_44), (iM2 bSt r3_44 r3_41)]
noncomputable def x273_5 : List (Ins tf3) := [(iMv r3_0 s3_45), (iP1 bNil r3_45 s3_46), (iP1 (bFa 0) r3_46 s3_47), (iP1 (bFa 0) r3_47 s3_48), (iR1 bLd r3_48 s3_49), (iGa (aBsl 2 1 [(.int .i64 (.ofNat 0))] [(0, 1), (1, 1)]) [(rk (.int .i64 (.ofNat 0))), r3_49] (some s3_50)), (iMv r3_2 s3_51), (iGm (m2 (sApp 1)) [r3_50, r3_51] (some s3_52)), (iAs r3_52 s3_9)]
noncomputable def x273_6 : List (Ins tf3) := [(iMv r3_8 s3_53), (iP1 bLen r3_53 s3_54), (iMv (rk (.int .i64 (.ofNat 0))) s3_55)]
noncomputable def x273_7 : List (Ins tf3) := [(iP2 bLt r3_55 r3_54 s3_56)]
noncomputable def x273_8 : List (Ins tf3) := [(iP2 (bIxs 1) r3_53 r3_55 s3_57), (iR1 bLd r3_57 s3_58), (iAs r3_58 s3_11)]
noncomputable def x273_9 : List (Ins tf3) := [(iAs (rk (.slice none 0 0)) s3_12)]
noncomputable def x273_10 : List (Ins tf3) := [(iMv r3_11 s3_59), (iP1 bLen r3_59 s3_60), (iMv (rk (.int .i64 (.ofNat 0))) s3_61)]
noncomputable def x273_11 : List (Ins tf3) := [(iP2 bLt r3_61 r3_60 s3_62)]
noncomputable def x273_12 : List (Ins tf3) := [(iP2 (bIxs 1) r3_59 r3_61 s3_63), (iR1 bLd r3_63 s3_64), (iAs r3_64 s3_14)]
noncomputable def x273_13 : List (Ins tf3) := [(iMv r3_14 s3_65), (iP2 bLt r3_65 (rk (.int .i64 (.ofNat 0))) s3_66)]
noncomputable def x273_14 : List (Ins tf3) := [(iMv r3_12 s3_67), (iMv r3_9 s3_68), (iMv r3_14 s3_69), (iGp (l1 (pUn .neg)) [r3_69] (some s3_70)), (iP2 (bIxs 1) r3_68 r3_70 s3_71), (iR1 bLd r3_71 s3_72), (iGp (l1 (pUn .neg)) [r3_72] (some s3_73)), (iGa (aBsl 1 1 [(.int .i64 (.ofNat 0))] [(0, 1)]) [r3_73] (some s3_74)), (iGm (m2 (sApp 1)) [r3_67, r3_74] (some s3_75)), (iAs r3_75 s3_12)]
noncomputable def x273_15 : List (Ins tf3) := [(iMv r3_12 s3_76), (iMv r3_9 s3_77), (iMv r3_14 s3_78), (iP2 (bIxs 1) r3_77 r3_78 s3_79), (iR1 bLd r3_79 s3_80), (iGa (aBsl 1 1 [(.int .i64 (.ofNat 0))] [(0, 1)]) [r3_80] (some s3_81)), (iGm (m2 (sApp 1)) [r3_76, r3_81] (some s3_82)), (iAs r3_82 s3_12)]
noncomputable def x273_16 : List (Ins tf3) := [(iP2 bAdd r3_61 (rk (.int .i64 (.ofNat 1))) s3_83), (iMv r3_83 s3_61)]
noncomputable def x273_17 : List (Ins tf3) := [(iMv r3_0 s3_84), (iMv r3_0 s3_85), (iP1 bNil r3_85 s3_86), (iP1 (bFa 0) r3_86 s3_87), (iP1 (bFa 1) r3_87 s3_88), (iR1 bLd r3_88 s3_89), (iMv r3_12 s3_90), (iGa (aBsl 1 1 [(.slice none 0 0)] [(0, 1)]) [r3_90] (some s3_91)), (iGm (m2 (sApp 1)) [r3_89, r3_91] (some s3_92)), (iP1 bNil r3_84 s3_93), (iP1 (bFa 0) r3_93 s3_94), (iP1 (bFa 1) r3_94 s3_95), (iM2 bSt r3_95 r3_92)]
noncomputable def x273_18 : List (Ins tf3) := [(iP2 bAdd r3_55 (rk (.int .i64 (.ofNat 1))) s3_96), (iMv r3_96 s3_55)]
noncomputable def x273_19 : List (Ins tf3) := [(iMv r3_0 s3_97), (iP1 bNil r3_97 s3_98), (iP1 (bFa 0) r3_98 s3_99), (iP1 (bFa 0) r3_99 s3_100), (iR1 bLd r3_100 s3_101), (iAs r3_101 s3_6), (iAs (rk (.int .i64 (.ofNat 0))) s3_7)]
noncomputable def x273_20 : XC tf3 := (.rg x273_4 (.rg x273_5 (.seq (.rg x273_6 (.block 0 (.loop (.rg x273_7 (.seq (.cond r3_56 .skip (.exit 0)) (.seq (.block 1 (.rg x273_8 (.rg x273_9 (.seq (.rg x273_10 (.block 2 (.loop (.rg x273_11 (.seq (.cond r3_62 .skip (.exit 2)) (.seq (.block 3 (.rg x273_12 (.rg x273_13 (.cond r3_66 (.reg x273_14) (.reg x273_15))))) (.reg x273_16))))))) (.reg x273_17))))) (.reg x273_18))))))) (.rg x273_19 .ret))))
noncomputable def x273 : XC tf3 := (.rg x273_0 (.rg x273_1 (.seq (.rg x273_2 (.cond r3_35 (.rg x273_3 .ret) .skip)) x273_20)))
noncomputable def c273 : Code := Tryd.f273.body.getD .skip
theorem x273_b : Tryd.f273.body = some c273 := by kernel_rfl
theorem x273_c : cG (comp Tryd.prog) 2 3 102 x273 c273 = x273.den := by kernel_rfl
noncomputable def y273 : List (RR Tryd.prog 3 102 tf3) := [rrT r3_6 6 rfl rfl, rrT r3_7 7 rfl rfl]
theorem x273_r : y273.map RR.den = Tryd.f273.results.toList := by kernel_rfl
theorem x273_k : okFn Tryd.f273 = true := by kernel_rfl
theorem x273_D : 3 = dep Tryd.f273.ntmps := by kernel_rfl
theorem x273_s : ([s3_0, s3_1, s3_2] : List (Slot tf3)).map Slot.p = (List.range' 0 3).map (pth 3) := by kernel_rfl
noncomputable def X273 : XFn Tryd.prog 2 (comp Tryd.prog) := ⟨X3, tf3, 273, Tryd.f273, c273, 3, 102, [s3_0, s3_1, s3_2], z3, x273, y273, x273_D, Tryd.ntmps273.symm, Tryd.func273, x273_b, x273_k, x273_s, by decide, z3_ok, x273_c, x273_r⟩
noncomputable def x276_0 : List (Ins tf1) := [(iGa (a1 gBox) [r1_0] (some s1_2)), (iGa (a1 gBox) [r1_1] (some s1_3)), (iAs (rk .nilFunc) s1_4)]
noncomputable def x276_1 : List (Ins tf1) := [(iGp (pMkf (.func 287) 0) [r1_2, r1_3] (some s1_5)), (iAs r1_5 s1_4)]
noncomputable def x276 : XC tf1 := (.rg x276_0 (.rg x276_1 .ret))
noncomputable def c276 : Code := Tryd.f276.body.getD .skip
theorem x276_b : Tryd.f276.body = some c276 := by kernel_rfl
theorem x276_c : cG (comp Tryd.prog) 2 1 6 x276 c276 = x276.den := by kernel_rfl
noncomputable def y276 : List (RR Tryd.prog 1 6 tf1) := [rrT r1_4 4 rfl rfl]
theorem x276_r : y276.map RR.den = Tryd.f276.results.toList := by kernel_rfl
theorem x276_k : okFn Tryd.f276 = true := by kernel_rfl
theorem x276_D : 1 = dep Tryd.f276.ntmps := by kernel_rfl
theorem x276_s : ([s1_0, s1_1] : List (Slot tf1)).map Slot.p = (List.range' 0 2).map (pth 1) := by kernel_rfl
noncomputable def X276 : XFn Tryd.prog 2 (comp Tryd.prog) := ⟨X1, tf1, 276, Tryd.f276, c276, 1, 6, [s1_0, s1_1], z1, x276, y276, x276_D, Tryd.ntmps276.symm, Tryd.func276, x276_b, x276_k, x276_s, by decide, z1_ok, x276_c, x276_r⟩
noncomputable def x280_0 : List (Ins tf2) := [(iAs (rk (.int .i64 (.ofNat 0))) s2_6)]
noncomputable def x280_1 : List (Ins tf2) := [(iMv r2_0 s2_8), (iP1 bNil r2_8 s2_9), (iP1 (bFa 1) r2_9 s2_10), (iR1 bLd r2_10 s2_11), (iP2 bNe r2_11 (rk (.int .i64 (.ofNat 0))) s2_12)]
noncomputable def x280_2 : List (Ins tf2) := [(iAs (rk (.int .i64 (.ofNat 0))) s2_6)]
noncomputable def x280_3 : List (Ins tf2) := [(iAs (rk (.int .i64 (.ofNat 0))) s2_7)]
noncomputable def x280_4 : List (Ins tf2) := [(iMv r2_0 s2_14), (iMv r2_0 s2_15), (iP1 bNil r2_15 s2_16), (iP1 (bFa 0) r2_16 s2_17), (iR1 bLd r2_17 s2_18), (iMv r2_1 s2_19), (iMv r2_2 s2_20), (iCall (rk (.func (.func 269) #[] #[])) [r2_18, r2_19, r2_20] (some s2_21)), (iMv r2_21 s2_13), (iGp (l1 (pExt 0)) [r2_13] (some s2_22)), (iGp (l1 (pExt 1)) [r2_13] (some s2_23)), (iAs r2_22 s2_7), (iP1 bNil r2_14 s2_24), (iP1 (bFa 1) r2_24 s2_25), (iM2 bSt r2_25 r2_23)]
noncomputable def x280_5 : List (Ins tf2) := [(iMv r2_7 s2_26), (iAs r2_26 s2_6)]
noncomputable def x280 : XC tf2 := (.rg x280_0 (.seq (.rg x280_1 (.cond r2_12 (.rg x280_2 .ret) .skip)) (.rg x280_3 (.rg x280_4 (.rg x280_5 .ret)))))
noncomputable def c280 : Code := Tryd.f280.body.getD .skip
theorem x280_b : Tryd.f280.body = some c280 := by kernel_rfl
theorem x280_c : cG (comp Tryd.prog) 2 2 27 x280 c280 = x280.den := by kernel_rfl
noncomputable def y280 : List (RR Tryd.prog 2 27 tf2) := [rrT r2_6 6 rfl rfl]
theorem x280_r : y280.map RR.den = Tryd.f280.results.toList := by kernel_rfl
theorem x280_k : okFn Tryd.f280 = true := by kernel_rfl
theorem x280_D : 2 = dep Tryd.f280.ntmps := by kernel_rfl
theorem x280_s : ([s2_0, s2_1, s2_2] : List (Slot tf2)).map Slot.p = (List.range' 0 3).map (pth 2) := by kernel_rfl
noncomputable def X280 : XFn Tryd.prog 2 (comp Tryd.prog) := ⟨X2, tf2, 280, Tryd.f280, c280, 2, 27, [s2_0, s2_1, s2_2], z2, x280, y280, x280_D, Tryd.ntmps280.symm, Tryd.func280, x280_b, x280_k, x280_s, by decide, z2_ok, x280_c, x280_r⟩
noncomputable def x286_0 : List (Ins tf2) := [(iGa (aAl 3 [(.slice none 0 0), (.slice none 0 0), (.slice none 0 0)]) [] (some s2_0))]
noncomputable def x286_1 : List (Ins tf2) := [(iGa (aBsl 2 1 [(.int .i64 (.ofNat 0))] [(0, 1), (1, 1)]) [(rk (.int .i64 (.negSucc 0))), (rk (.int .i64 (.ofNat 2)))] (some s2_1)), (iGa (aBsl 2 1 [(.int .i64 (.ofNat 0))] [(0, 1), (1, 1)]) [(rk (.int .i64 (.negSucc 0))), (rk (.int .i64 (.ofNat 3)))] (some s2_2)), (iGa (aBsl 3 1 [(.int .i64 (.ofNat 0))] [(0, 1), (1, 1), (2, 1)]) [(rk (.int .i64 (.ofNat 1))), (rk (.int .i64 (.negSucc 1))), (rk (.int .i64 (.negSucc 2)))] (some s2_3)), (iGa (aBsl 3 1 [(.slice none 0 0)] [(0, 1), (1, 1), (2, 1)]) [r2_1, r2_2, r2_3] (some s2_4)), (iGa (aBsl 3 1 [(.int .i64 (.ofNat 0))] [(0, 1), (1, 1), (2, 1)]) [(rk (.int .i64 (.negSucc 0))), (rk (.int .i64 (.ofNat 2))), (rk (.int .i64 (.ofNat 3)))] (some s2_5)), (iGa (aBsl 3 1 [(.int .i64 (.ofNat 0))] [(0, 1), (1, 1), (2, 1)]) [(rk (.int .i64 (.negSucc 0))), (rk (.int .i64 (.negSucc 1))), (rk (.int .i64 (.negSucc 2)))] (some s2_6)), (iGa (aBsl 3 1 [(.int .i64 (.ofNat 0))] [(0, 1), (1, 1), (2, 1)]) [(rk (.int .i64 (.ofNat 1))), (rk (.int .i64 (.negSucc 1))), (rk (.int .i64 (.ofNat 3)))] (some s2_7)), (iGa (aBsl 3 1 [(.int .i64 (.ofNat 0))] [(0, 1), (1, 1), (2, 1)]) [(rk (.int .i64 (.ofNat 1))), (rk (.int .i64 (.ofNat 2))), (rk (.int .i64 (.negSucc 2)))] (some s2_8)), (iGa (aBsl 4 1 [(.slice none 0 0)] [(0, 1), (1, 1), (2, 1), (3, 1)]) [r2_5, r2_6, r2_7, r2_8] (some s2_9)), (iGa (aBsl 3 1 [(.int .i64 (.ofNat 0))] [(0, 1), (1, 1), (2, 1)]) [(rk (.int .i64 (.negSucc 1))), (rk (.int .i64 (.negSucc 2))), (rk (.int .i64 (.ofNat 1)))] (some s2_10)), (iGa (aBsl 3 1 [(.int .i64 (.ofNat 0))] [(0, 1), (1, 1), (2, 1)]) [(rk (.int .i64 (.negSucc 1))), (rk (.int .i64 (.ofNat 3))), (rk (.int .i64 (.negSucc 0)))] (some s2_11)), (iGa (aBsl 3 1 [(.int .i64 (.ofNat 0))] [(0, 1), (1, 1), (2, 1)]) [(rk (.int .i64 (.ofNat 2))), (rk (.int .i64 (.negSucc 3))), (rk (.int .i64 (.ofNat 1)))] (some s2_12)), (iGa (aBsl 3 1 [(.int .i64 (.ofNat 0))] [(0, 1), (1, 1), (2, 1)]) [(rk (.int .i64 (.ofNat 2))), (rk (.int .i64 (.ofNat 4))), (rk (.int .i64 (.negSucc 0)))] (some s2_13)), (iGa (aBsl 3 1 [(.int .i64 (.ofNat 0))] [(0, 1), (1, 1), (2, 1)]) [(rk (.int .i64 (.negSucc 2))), (rk (.int .i64 (.negSucc 3))), (rk (.int .i64 (.ofNat 1)))] (some s2_14)), (iGa (aBsl 3 1 [(.int .i64 (.ofNat 0))] [(0, 1), (1, 1), (2, 1)]) [(rk (.int .i64 (.ofNat 3))), (rk (.int .i64 (.ofNat 4))), (rk (.int .i64 (.negSucc 0)))] (some s2_15)), (iGa (aBsl 6 1 [(.slice none 0 0)] [(0, 1), (1, 1), (2, 1), (3, 1), (4, 1), (5, 1)]) [r2_10, r2_11, r2_12, r2_13, r2_14, r2_15] (some s2_16)), (iGp (pBld [(.slice none 0 0), (.slice none 0 0), (.slice none 0 0)] [(0, 1), (1, 1), (2, 1)]) [r2_4, r2_9, r2_16] (some s2_17)), (iGm (m2 (sStn 3)) [r2_0, r2_17] none)]
noncomputable def x286 : XC tf2 := (.rg x286_0 (.rg x286_1 .ret))
noncomputable def c286 : Code := Tryd.f286.body.getD .skip
theorem x286_b : Tryd.f286.body = some c286 := by kernel_rfl
theorem x286_c : cG (comp Tryd.prog) 2 2 18 x286 c286 = x286.den := by kernel_rfl
noncomputable def y286 : List (RR Tryd.prog 2 18 tf2) := [rrS (.cell 0 366)]
theorem x286_r : y286.map RR.den = Tryd.f286.results.toList := by kernel_rfl
theorem x286_k : okFn Tryd.f286 = true := by kernel_rfl
theorem x286_D : 2 = dep Tryd.f286.ntmps := by kernel_rfl
theorem x286_s : ([] : List (Slot tf2)).map Slot.p = (List.range' 0 0).map (pth 2) := by kernel_rfl
noncomputable def X286 : XFn Tryd.prog 2 (comp Tryd.prog) := ⟨X2, tf2, 286, Tryd.f286, c286, 2, 18, [], z2, x286, y286, x286_D, Tryd.ntmps286.symm, Tryd.func286, x286_b, x286_k, x286_s, by decide, z2_ok, x286_c, x286_r⟩
noncomputable def x287_0 : List (Ins tf2) := [(iR1 bLd r2_1 s2_5), (iP1 bLen r2_5 s2_6), (iMv (rk (.int .i64 (.ofNat 0))) s2_7)]
noncomputable def x287_1 : List (Ins tf2) := [(iP2 bLt r2_7 r2_6 s2_8)]
noncomputable def x287_2 : List (Ins tf2) := [(iMv r2_7 s2_9), (iAs r2_9 s2_4)]
noncomputable def x287_3 : List (Ins tf2) := [(iMv r2_0 s2_10), (iR1 bLd r2_1 s2_11), (iMv r2_4 s2_12), (iP2 (bIxs 1) r2_11 r2_12 s2_13), (iR1 bLd r2_13 s2_14), (iR1 bLd r2_2 s2_15), (iMv r2_4 s2_16), (iP2 (bIxs 1) r2_15 r2_16 s2_17), (iR1 bLd r2_17 s2_18), (iCall r2_10 [r2_14, r2_18] (some s2_19)), (iGp (l1 (pUn .not)) [r2_19] (some s2_20))]
noncomputable def x287_4 : List (Ins tf2) := [(iP2 bAdd r2_7 (rk (.int .i64 (.ofNat 1))) s2_21), (iMv r2_21 s2_7)]
noncomputable def x287 : XC tf2 := (.rg x287_0 (.block 0 (.loop (.rg x287_1 (.seq (.cond r2_8 .skip (.exit 0)) (.seq (.block 1 (.rg x287_2 (.rg x287_3 (.cond r2_20 .ret .skip)))) (.reg x287_4)))))))
noncomputable def c287 : Code := Tryd.f287.body.getD .skip
theorem x287_b : Tryd.f287.body = some c287 := by kernel_rfl
theorem x287_c : cG (comp Tryd.prog) 2 2 22 x287 c287 = x287.den := by kernel_rfl
noncomputable def y287 : List (RR Tryd.prog 2 22 tf2) := []
theorem x287_r : y287.map RR.den = Tryd.f287.results.toList := by kernel_rfl
theorem x287_k : okFn Tryd.f287 = true := by kernel_rfl
theorem x287_D : 2 = dep Tryd.f287.ntmps := by kernel_rfl
theorem x287_s : ([s2_0, s2_1, s2_2] : List (Slot tf2)).map Slot.p = (List.range' 0 3).map (pth 2) := by kernel_rfl
noncomputable def X287 : XFn Tryd.prog 2 (comp Tryd.prog) := ⟨X2, tf2, 287, Tryd.f287, c287, 2, 22, [s2_0, s2_1, s2_2], z2, x287, y287, x287_D, Tryd.ntmps287.symm, Tryd.func287, x287_b, x287_k, x287_s, by decide, z2_ok, x287_c, x287_r⟩
end Cr
end Go.Proofs.YtjhbabgcoemecaaDoor
namespace Go.Proofs.YtjhbabgcoemecaaDoor
namespace Cr
open Go Go.RowKit
noncomputable def tabX : Tb (XFn Tryd.prog 2 (comp Tryd.prog)) := (.n none (.n none (.n none (.n none (.n (some X15) (.n none (.n (some X63) .nil (.n (some X191) .nil .nil)) (.n none (.n (some X159) (.n (some X287) .nil .nil) .nil) (.n (some X223) .nil .nil))) (.n (some X47) (.n (some X79) .nil (.n (some X207) .nil .nil)) (.n none (.n (some X175) .nil .nil) .nil))) (.n (some X23) (.n (some X39) (.n none (.n (some X135) (.n (some X263) .nil .nil) .nil) (.n (some X199) .nil .nil)) .nil) (.n none (.n (some X87) .nil (.n (some X215) .nil .nil)) (.n none (.n (some X183) .nil .nil) (.n (some X247) .nil .nil))))) (.n (some X11) (.n none (.n (some X35) (.n (some X67) (.n none (.n (some X259) .nil .nil) .nil) (.n (some X195) .nil .nil)) .nil) (.n none (.n none (.n (some X147) .nil .nil) (.n (some X211) .nil .nil)) (.n none .nil (.n (some X243) .nil .nil)))) (.n none (.n (some X43) (.n (some X75) .nil (.n (some X203) .nil .nil)) .nil) (.n (some X59) (.n none .nil (.n (some X219) .nil .nil)) (.n none .nil (.n (some X251) .nil .nil)))))) (.n none (.n none (.n (some X17) (.n none (.n (some X65) .nil (.n (some X193) .nil .nil)) (.n none (.n (some X161) .nil .nil) (.n (some X225) .nil .nil))) (.n none (.n (some X81) (.n (some X145) (.n (some X273) .nil .nil) .nil) (.n (some X209) .nil .nil)) (.n none .nil (.n (some X241) .nil .nil)))) (.n (some X25) (.n (some X41) (.n none .nil (.n (some X201) .nil .nil)) (.n none (.n (some X169) .nil .nil) .nil)) (.n none (.n (some X89) (.n (some X153) .nil .nil) (.n (some X217) .nil .nil)) .nil))) (.n (some X13) (.n none (.n (some X37) (.n (some X69) .nil (.n (some X197) .nil .nil)) (.n (some X101) .nil (.n (some X229) .nil .nil))) (.n none (.n none (.n (some X149) .nil .nil) .nil) (.n none .nil (.n (some X245) .nil .nil)))) (.n none (.n (some X45) (.n (some X77) (.n (some X141) (.n (some X269) .nil .nil) .nil) .nil) (.n (some X109) (.n (some X173) .nil .nil) .nil)) (.n none (.n none (.n (some X157) .nil .nil) (.n (some X221) .nil .nil)) (.n none (.n (some X189) .nil .nil) .nil)))))) (.n none (.n (some X4) (.n none (.n (some X16) (.n (some X32) (.n (some X64) .nil (.n (some X192) .nil .nil)) (.n none (.n (some X160) .nil .nil) (.n (some X224) .nil .nil))) (.n none (.n (some X80) .nil .nil) (.n none .nil (.n (some X240) .nil .nil)))) (.n (some X24) (.n (some X40) (.n (some X72) .nil (.n (some X200) .nil .nil)) (.n none (.n (some X168) .nil .nil) .nil)) (.n (some X56) (.n none (.n none (.n (some X280) .nil .nil) .nil) (.n (some X216) .nil .nil)) .nil))) (.n none (.n (some X20) (.n none (.n (some X68) .nil .nil) (.n none .nil (.n (some X228) .nil .nil))) (.n (some X52) (.n (some X84) (.n (some X148) (.n (some X276) .nil .nil) .nil) (.n (some X212) .nil .nil)) (.n none (.n (some X180) .nil .nil) (.n (some X244) .nil .nil)))) (.n none (.n (some X44) (.n (some X76) .nil .nil) (.n none (.n (some X172) .nil .nil) .nil)) (.n none (.n none (.n (some X156) .nil .nil) (.n (some X220) .nil .nil)) (.n none (.n (some X188) .nil .nil) .nil))))) (.n none (.n (some X10) (.n (some X18) (.n (some X34) (.n (some X66) (.n none (.n (some X258) .nil .nil) .nil) (.n (some X194) .nil .nil)) .nil) (.n (some X50) (.n (some X82) (.n (some X146) .nil .nil) (.n (some X210) .nil .nil)) (.n none .nil (.n (some X242) .nil .nil)))) (.n none (.n (some X42) (.n (some X74) (.n (some X138) .nil .nil) .nil) (.n none (.n (some X170) .nil .nil) .nil)) (.n (some X58) (.n none .nil (.n (some X218) .nil .nil)) (.n none .nil (.n (some X250) .nil .nil))))) (.n (some X14) (.n none (.n (some X38) (.n none (.n (some X134) .nil .nil) (.n (some X198) .nil .nil)) (.n none .nil (.n (some X230) .nil .nil))) (.n (some X54) (.n none .nil (.n (some X214) .nil .nil)) (.n none .nil (.n (some X246) .nil .nil)))) (.n (some X30) (.n (some X46) (.n none (.n (some X142) .nil .nil) (.n (some X206) .nil .nil)) (.n none (.n (some X174) .nil .nil) .nil)) (.n none (.n none (.n (some X158) (.n (some X286) .nil .nil) .nil) (.n (some X222) .nil .nil)) (.n none (.n (some X190) .nil .nil) .nil)))))))
end Cr
end Go.Proofs.YtjhbabgcoemecaaDoor
