/- A machine for closed runs: compiled functions (written by gen). -/
import Derived.Test.YtjhbabgcoemecaaGreatDoorFxA
import Derived.KernelRfl
namespace Go.Proofs.YtjhbabgcoemecaaGreatDoor
namespace Cr
open Go Go.RowKit
set_option maxRecDepth 100000
noncomputable section
def x283_0 : List (Ins tf3) := [iAs (rk (.slice none 0 0)) s3_6]
def x283_1 : List (Ins tf3) := [iMv r3_0 s3_13,iP1 bNil r3_13 s3_14,iP1 (bFa 1) r3_14 s3_15,iR1 bLd r3_15 s3_16,iAs r3_16 s3_7]
def x283_2 : List (Ins tf3) := [iMv r3_2 s3_17,iP2 (bIxs 1) r3_17 (rk (.int .i64 (.ofNat 0))) s3_18,iR1 bLd r3_18 s3_19,iAs r3_19 s3_8]
def x283_3 : List (Ins tf3) := [iMv r3_1 s3_20]
def x283_4 : List (Ins tf3) := [iP2 bEq r3_20 (rk (.int .u8 (.ofNat 2))) s3_22,iAs r3_22 s3_21]
def x283_5 : List (Ins tf3) := [iMv r3_8 s3_23,iCall (rk (.func (.func 295) #[] #[])) [r3_23] (some s3_24),iAs r3_24 s3_6]
def x283_6 : List (Ins tf3) := [iP2 bEq r3_20 (rk (.int .u8 (.ofNat 3))) s3_26,iAs r3_26 s3_25]
def x283_7 : List (Ins tf3) := [iMv r3_7 s3_27,iMv r3_0 s3_28,iMv r3_7 s3_29,iCall (rk (.func (.func 268) #[] #[])) [r3_29] (some s3_30),iGp (l1 (pUn .neg)) [r3_30] (some s3_31),iCall (rk (.func (.func 298) #[] #[])) [r3_28,r3_31] (some s3_32),iMv r3_8 s3_33,iCall (rk (.func (.func 297) #[] #[])) [r3_27,r3_32,r3_33] (some s3_34),iGp (l1 (pExt 0)) [r3_34] (some s3_35),iGp (l1 (pExt 1)) [r3_34] (some s3_36),iCall (rk (.func (.func 296) #[] #[])) [r3_35,r3_36] (some s3_37),iAs r3_37 s3_6]
def x283_8 : List (Ins tf3) := [iP2 bEq r3_20 (rk (.int .u8 (.ofNat 21))) s3_39,iAs r3_39 s3_38]
def x283_9 : List (Ins tf3) := [iMv r3_7 s3_40,iMv r3_7 s3_41,iMv r3_8 s3_42,iMv r3_2 s3_47,iP2 (bIxs 1) r3_47 (rk (.int .i64 (.ofNat 1))) s3_48,iR1 bLd r3_48 s3_49,iMv r3_2 s3_50,iP2 (bIxs 1) r3_50 (rk (.int .i64 (.ofNat 2))) s3_51,iR1 bLd r3_51 s3_52,iRc (iCall (rk (.func (.func 251) #[] #[])) [r3_41,r3_42] (some s3_43)) [(rcLd r3_51 r3_52 [.o4,.o6,.o0] rfl),(rcLd r3_48 r3_49 [.o1,.o6,.o0] rfl)] rfl,iGp (l1 (pExt 0)) [r3_43] (some s3_44),iGp (l1 (pExt 1)) [r3_43] (some s3_45),iRc (iCall (rk (.func (.func 293) #[] #[])) [r3_44,r3_45] (some s3_46)) [(rcLd r3_51 r3_52 [.o4,.o6,.o0] rfl),(rcLd r3_48 r3_49 [.o1,.o6,.o0] rfl)] rfl,iCall (rk (.func (.func 299) #[] #[])) [r3_40,r3_46,r3_49,r3_52] (some s3_53),iGp (l1 (pExt 0)) [r3_53] (some s3_54),iGp (l1 (pExt 1)) [r3_53] (some s3_55),iCall (rk (.func (.func 296) #[] #[])) [r3_54,r3_55] (some s3_56),iAs r3_56 s3_6]
def x283_10 : List (Ins tf3) := [iMv r3_2 s3_57,iP2 (bIxs 1) r3_57 (rk (.int .i64 (.ofNat 1))) s3_58,iR1 bLd r3_58 s3_59,iAs r3_59 s3_9]
def x283_11 : List (Ins tf3) := [iMv r3_1 s3_60]
def x283_12 : List (Ins tf3) := [iP2 bEq r3_60 (rk (.int .u8 (.ofNat 4))) s3_62,iAs r3_62 s3_61]
def x283_13 : List (Ins tf3) := [iMv r3_7 s3_63,iMv r3_8 s3_64,iMv r3_9 s3_65,iMv r3_7 s3_66,iCall (rk (.func (.func 268) #[] #[])) [r3_66] (some s3_67),iGp (l1 (pUn .neg)) [r3_67] (some s3_68),iCall (rk (.func (.func 300) #[] #[])) [r3_63,r3_64,r3_65,r3_68] (some s3_69),iGp (l1 (pExt 0)) [r3_69] (some s3_70),iGp (l1 (pExt 1)) [r3_69] (some s3_71),iCall (rk (.func (.func 296) #[] #[])) [r3_70,r3_71] (some s3_72),iAs r3_72 s3_6]
def x283_14 : List (Ins tf3) := [iP2 bEq r3_60 (rk (.int .u8 (.ofNat 5))) s3_74,iAs r3_74 s3_73]
def x283_15 : List (Ins tf3) := [iMv r3_7 s3_75,iMv r3_8 s3_76,iMv r3_9 s3_77,iCall (rk (.func (.func 297) #[] #[])) [r3_75,r3_76,r3_77] (some s3_78),iGp (l1 (pExt 0)) [r3_78] (some s3_79),iGp (l1 (pExt 1)) [r3_78] (some s3_80),iCall (rk (.func (.func 296) #[] #[])) [r3_79,r3_80] (some s3_81),iAs r3_81 s3_6]
def x283_16 : List (Ins tf3) := [iP2 bEq r3_60 (rk (.int .u8 (.ofNat 6))) s3_83,iAs r3_83 s3_82]
def x283_17 : List (Ins tf3) := [iMv r3_7 s3_84,iMv r3_8 s3_85,iMv r3_9 s3_86,iCall (rk (.func (.func 301) #[] #[])) [r3_84,r3_85,r3_86] (some s3_87),iGp (l1 (pExt 0)) [r3_87] (some s3_88),iGp (l1 (pExt 1)) [r3_87] (some s3_89),iCall (rk (.func (.func 296) #[] #[])) [r3_88,r3_89] (some s3_90),iAs r3_90 s3_6]
def x283_18 : List (Ins tf3) := [iP2 bEq r3_60 (rk (.int .u8 (.ofNat 7))) s3_92,iAs r3_92 s3_91]
def x283_19 : List (Ins tf3) := [iP2 bEq r3_60 (rk (.int .u8 (.ofNat 8))) s3_93,iAs r3_93 s3_91]
def x283_20 : List (Ins tf3) := [iMv r3_7 s3_95,iMv r3_8 s3_96,iMv r3_9 s3_97,iCall (rk (.func (.func 302) #[] #[])) [r3_95,r3_96,r3_97] (some s3_98),iMv r3_98 s3_94,iGp (l1 (pExt 0)) [r3_94] (some s3_99),iGp (l1 (pExt 1)) [r3_94] (some s3_100),iGp (l1 (pExt 2)) [r3_94] (some s3_101),iAs r3_99 s3_10,iAs r3_100 s3_11,iAs r3_101 s3_12]
def x283_21 : List (Ins tf3) := [iMv r3_1 s3_102,iP2 bEq r3_102 (rk (.int .u8 (.ofNat 7))) s3_103]
def x283_22 : List (Ins tf3) := [iMv r3_10 s3_104,iMv r3_12 s3_105,iCall (rk (.func (.func 296) #[] #[])) [r3_104,r3_105] (some s3_106),iAs r3_106 s3_6]
def x283_23 : List (Ins tf3) := [iMv r3_11 s3_107,iMv r3_12 s3_108,iCall (rk (.func (.func 296) #[] #[])) [r3_107,r3_108] (some s3_109),iAs r3_109 s3_6]
def x283_24 : List (Ins tf3) := [iP2 bEq r3_60 (rk (.int .u8 (.ofNat 9))) s3_111,iAs r3_111 s3_110]
def x283_25 : List (Ins tf3) := [iMv r3_7 s3_112,iGp (pMkf (.func 284) 1) [r3_112] (some s3_113),iMv r3_8 s3_114,iMv r3_9 s3_115,iCall (rk (.func (.func 303) #[] #[])) [r3_113,r3_114,r3_115] (some s3_116),iAs r3_116 s3_6]
def x283_26 : List (Ins tf3) := [iP2 bEq r3_60 (rk (.int .u8 (.ofNat 10))) s3_118,iAs r3_118 s3_117]
def x283_27 : List (Ins tf3) := [iMv r3_7 s3_119,iGp (pMkf (.func 285) 1) [r3_119] (some s3_120),iMv r3_8 s3_121,iMv r3_9 s3_122,iCall (rk (.func (.func 303) #[] #[])) [r3_120,r3_121,r3_122] (some s3_123),iAs r3_123 s3_6]
def x283_28 : List (Ins tf3) := [iP2 bEq r3_60 (rk (.int .u8 (.ofNat 11))) s3_125,iAs r3_125 s3_124]
def x283_29 : List (Ins tf3) := [iMv r3_7 s3_126,iGp (pMkf (.func 304) 1) [r3_126] (some s3_127),iMv r3_8 s3_128,iMv r3_9 s3_129,iCall (rk (.func (.func 303) #[] #[])) [r3_127,r3_128,r3_129] (some s3_130),iAs r3_130 s3_6]
def x283_30 : List (Ins tf3) := [iP2 bEq r3_60 (rk (.int .u8 (.ofNat 12))) s3_132,iAs r3_132 s3_131]
def x283_31 : List (Ins tf3) := [iP2 bEq r3_60 (rk (.int .u8 (.ofNat 13))) s3_133,iAs r3_133 s3_131]
def x283_32 : List (Ins tf3) := [iP2 bEq r3_60 (rk (.int .u8 (.ofNat 14))) s3_134,iAs r3_134 s3_131]
def x283_33 : List (Ins tf3) := [iMv r3_7 s3_135,iMv r3_1 s3_136,iMv r3_8 s3_137,iMv r3_9 s3_138,iCall (rk (.func (.func 305) #[] #[])) [r3_135,r3_136,r3_137,r3_138] (some s3_139),iGp (l1 (pExt 0)) [r3_139] (some s3_140),iGp (l1 (pExt 1)) [r3_139] (some s3_141),iCall (rk (.func (.func 296) #[] #[])) [r3_140,r3_141] (some s3_142),iAs r3_142 s3_6]
def x283_34 : List (Ins tf3) := [iP2 bEq r3_60 (rk (.int .u8 (.ofNat 15))) s3_144,iAs r3_144 s3_143]
def x283_35 : List (Ins tf3) := [iMv r3_0 s3_145,iMv r3_7 s3_146,iMv r3_8 s3_147,iMv r3_9 s3_148,iCall (rk (.func (.func 306) #[] #[])) [r3_146,r3_147,r3_148] (some s3_149),iGp (l1 (pExt 0)) [r3_149] (some s3_150),iGp (l1 (pExt 1)) [r3_149] (some s3_151),iCall (rk (.func (.func 293) #[] #[])) [r3_150,r3_151] (some s3_152),iCall (rk (.func (.func 298) #[] #[])) [r3_145,r3_152] (some s3_153),iAs r3_153 s3_6]
def x283_36 : List (Ins tf3) := [iP2 bEq r3_60 (rk (.int .u8 (.ofNat 16))) s3_155,iAs r3_155 s3_154]
def x283_37 : List (Ins tf3) := [iMv r3_0 s3_156,iMv r3_7 s3_157,iMv r3_8 s3_158,iMv r3_9 s3_159,iCall (rk (.func (.func 306) #[] #[])) [r3_157,r3_158,r3_159] (some s3_160),iGp (l1 (pExt 0)) [r3_160] (some s3_161),iGp (l1 (pExt 1)) [r3_160] (some s3_162),iCall (rk (.func (.func 293) #[] #[])) [r3_161,r3_162] (some s3_163),iGp (l1 (pUn .neg)) [r3_163] (some s3_164),iCall (rk (.func (.func 298) #[] #[])) [r3_156,r3_164] (some s3_165),iAs r3_165 s3_6]
def x283_38 : List (Ins tf3) := [iP2 bEq r3_60 (rk (.int .u8 (.ofNat 17))) s3_167,iAs r3_167 s3_166]
def x283_39 : List (Ins tf3) := [iP2 bEq r3_60 (rk (.int .u8 (.ofNat 19))) s3_168,iAs r3_168 s3_166]
def x283_40 : List (Ins tf3) := [iMv r3_0 s3_169,iMv r3_7 s3_170,iMv r3_8 s3_171,iMv r3_9 s3_172,iMv r3_1 s3_173,iP2 bEq r3_173 (rk (.int .u8 (.ofNat 19))) s3_174,iCall (rk (.func (.func 307) #[] #[])) [r3_170,r3_171,r3_172,r3_174] (some s3_175),iGp (l1 (pExt 0)) [r3_175] (some s3_176),iGp (l1 (pExt 1)) [r3_175] (some s3_177),iCall (rk (.func (.func 293) #[] #[])) [r3_176,r3_177] (some s3_178),iCall (rk (.func (.func 298) #[] #[])) [r3_169,r3_178] (some s3_179),iAs r3_179 s3_6]
def x283_41 : XC tf3 := (.cond r3_117 (.rg x283_27 .ret) (.rg x283_28 (.cond r3_124 (.rg x283_29 .ret) (.seq (.rg x283_30 (.cond r3_131 .skip (.rg x283_31 (.cond r3_131 .skip (.reg x283_32))))) (.cond r3_131 (.rg x283_33 .ret) (.rg x283_34 (.cond r3_143 (.rg x283_35 .ret) (.rg x283_36 (.cond r3_154 (.rg x283_37 .ret) (.seq (.rg x283_38 (.cond r3_166 .skip (.reg x283_39))) (.cond r3_166 (.rg x283_40 .ret) .skip)))))))))))
def x283_42 : List (Ins tf3) := [iMv r3_0 s3_180,iMv r3_7 s3_181,iMv r3_9 s3_182,iMv r3_8 s3_183,iMv r3_1 s3_184,iP2 bEq r3_184 (rk (.int .u8 (.ofNat 20))) s3_185,iCall (rk (.func (.func 307) #[] #[])) [r3_181,r3_182,r3_183,r3_185] (some s3_186),iGp (l1 (pExt 0)) [r3_186] (some s3_187),iGp (l1 (pExt 1)) [r3_186] (some s3_188),iCall (rk (.func (.func 293) #[] #[])) [r3_187,r3_188] (some s3_189),iGp (l1 (pUn .neg)) [r3_189] (some s3_190),iCall (rk (.func (.func 298) #[] #[])) [r3_180,r3_190] (some s3_191),iAs r3_191 s3_6]
def x283_43 : XC tf3 := (.seq (.rg x283_11 (.block 1 (.rg x283_12 (.cond r3_61 (.rg x283_13 .ret) (.rg x283_14 (.cond r3_73 (.rg x283_15 .ret) (.rg x283_16 (.cond r3_82 (.rg x283_17 .ret) (.seq (.rg x283_18 (.cond r3_91 .skip (.reg x283_19))) (.cond r3_91 (.rg x283_20 (.seq (.rg x283_21 (.cond r3_103 (.rg x283_22 .ret) .skip)) (.rg x283_23 .ret))) (.rg x283_24 (.cond r3_110 (.rg x283_25 .ret) (.rg x283_26 x283_41))))))))))))) (.rg x283_42 .ret))
def x283 : XC tf3 := (.rg x283_0 (.rg x283_1 (.rg x283_2 (.seq (.rg x283_3 (.block 0 (.rg x283_4 (.cond r3_21 (.rg x283_5 .ret) (.rg x283_6 (.cond r3_25 (.rg x283_7 .ret) (.rg x283_8 (.cond r3_38 (.rg x283_9 .ret) .skip)))))))) (.rg x283_10 x283_43)))))
def c283 : Code := Tryz.f283.body.getD .skip
theorem x283_b : Tryz.f283.body = some c283 := by kernel_rfl
theorem x283_c : cG (comp Tryz.prog) 4 3 192 x283 c283 = x283.den := by kernel_rfl
def y283 : List (RR Tryz.prog 3 192 tf3) := [rrT r3_6 6 rfl rfl]
theorem x283_r : y283.map RR.den = Tryz.f283.results.toList := by kernel_rfl
theorem x283_k : okFn Tryz.f283 = true := by kernel_rfl
theorem x283_D : 3 = dep Tryz.f283.ntmps := by kernel_rfl
theorem x283_s : ([s3_0,s3_1,s3_2] : List (Slot tf3)).map Slot.p = (List.range' 0 3).map (pth 3) := by kernel_rfl
def X283 : XFn Tryz.prog 4 (comp Tryz.prog) := ⟨X3,tf3,283,Tryz.f283,c283,3,192,[s3_0,s3_1,s3_2],z3,x283,y283,x283_D,Tryz.ntmps283.symm,Tryz.func283,x283_b,x283_k,x283_s,by decide,z3_ok,x283_c,x283_r⟩
def x284_0 : List (Ins tf2) := [iAs (rk (.int .i64 (.ofNat 0))) s2_6,iAs (rk (.int .i64 (.ofNat 0))) s2_7]
def x284_1 : List (Ins tf2) := [iMv r2_0 s2_8,iGp (l2 (pEqD (tdOf 336) false)) [r2_8,(rk (.pointer none))] (some s2_9)]
def x284_2 : List (Ins tf2) := [iAs (rk (.int .i64 (.ofNat 0))) s2_6,iAs (rk (.int .i64 (.ofNat 1))) s2_7]
def x284_3 : List (Ins tf2) := [iMv r2_0 s2_10,iMv r2_1 s2_11,iMv r2_2 s2_12,iGa (aBsl 2 1 [(.int .i64 (.ofNat 0))] [(0,1),(1,1)]) [r2_11,r2_12] (some s2_13),iCall (rk (.func (.func 271) #[] #[])) [r2_10,r2_13] (some s2_14),iGp (l1 (pUn .not)) [r2_14] (some s2_15)]
def x284_4 : List (Ins tf2) := [iAs (rk (.int .i64 (.ofNat 0))) s2_6,iAs (rk (.int .i64 (.ofNat 3))) s2_7]
def x284_5 : List (Ins tf2) := [iMv r2_1 s2_17,iMv r2_2 s2_18,iP2 bEq r2_17 r2_18 s2_19,iMv r2_19 s2_20,iGd r2_20 [.o4,.o2] false (iMv r2_2 s2_21) (some s2_21) rfl rfl rfl,iGd r2_20 [.o4,.o2] false (iP2 bEq r2_21 (rk (.int .i64 (.ofNat 1))) s2_22) (some s2_22) rfl rfl rfl,iGp (l3 pPick) [r2_20,(rk (.bool true)),r2_22] (some s2_23),iAs r2_23 s2_16]
def x284_6 : List (Ins tf2) := [iMv r2_1 s2_24,iAs r2_24 s2_6,iAs (rk (.int .i64 (.ofNat 0))) s2_7]
def x284_7 : List (Ins tf2) := [iMv r2_1 s2_26,iP2 bEq r2_26 (rk (.int .i64 (.ofNat 1))) s2_27,iAs r2_27 s2_25]
def x284_8 : List (Ins tf2) := [iMv r2_2 s2_28,iAs r2_28 s2_6,iAs (rk (.int .i64 (.ofNat 0))) s2_7]
def x284_9 : List (Ins tf2) := [iMv r2_1 s2_30,iMv r2_2 s2_31,iGp (l1 (pUn .neg)) [r2_31] (some s2_32),iP2 bEq r2_30 r2_32 s2_33,iMv r2_33 s2_34,iGd r2_34 [.o2,.o4] false (iMv r2_1 s2_35) (some s2_35) rfl rfl rfl,iGd r2_34 [.o2,.o4] false (iP2 bEq r2_35 (rk (.int .i64 (.negSucc 0))) s2_36) (some s2_36) rfl rfl rfl,iGp (l3 pPick) [r2_34,(rk (.bool true)),r2_36] (some s2_37),iMv r2_37 s2_38,iGd r2_38 [.o6,.o4] false (iMv r2_2 s2_39) (some s2_39) rfl rfl rfl,iGd r2_38 [.o6,.o4] false (iP2 bEq r2_39 (rk (.int .i64 (.negSucc 0))) s2_40) (some s2_40) rfl rfl rfl,iGp (l3 pPick) [r2_38,(rk (.bool true)),r2_40] (some s2_41),iAs r2_41 s2_29]
def x284_10 : List (Ins tf2) := [iAs (rk (.int .i64 (.negSucc 0))) s2_6,iAs (rk (.int .i64 (.ofNat 0))) s2_7]
def x284_11 : List (Ins tf2) := [iMv r2_0 s2_42,iMv r2_1 s2_43,iMv r2_2 s2_44,iGa (aBsl 2 1 [(.int .i64 (.ofNat 0))] [(0,1),(1,1)]) [r2_43,r2_44] (some s2_45),iCall (rk (.func (.func 308) #[] #[])) [r2_42,(rk (.int .i64 (.ofNat 0))),r2_45] (some s2_46),iGp (l1 (pExt 0)) [r2_46] (some s2_47),iGp (l1 (pExt 1)) [r2_46] (some s2_48),iAs r2_47 s2_6,iAs r2_48 s2_7]
def x284 : XC tf2 := (.rg x284_0 (.seq (.rg x284_1 (.cond r2_9 (.rg x284_2 .ret) .skip)) (.seq (.rg x284_3 (.cond r2_15 (.rg x284_4 .ret) .skip)) (.seq (.block 0 (.rg x284_5 (.cond r2_16 (.rg x284_6 .ret) (.rg x284_7 (.cond r2_25 (.rg x284_8 .ret) (.rg x284_9 (.cond r2_29 (.rg x284_10 .ret) .skip))))))) (.rg x284_11 .ret)))))
def c284 : Code := Tryz.f284.body.getD .skip
theorem x284_b : Tryz.f284.body = some c284 := by kernel_rfl
theorem x284_c : cG (comp Tryz.prog) 4 2 49 x284 c284 = x284.den := by kernel_rfl
def y284 : List (RR Tryz.prog 2 49 tf2) := [rrT r2_6 6 rfl rfl,rrT r2_7 7 rfl rfl]
theorem x284_r : y284.map RR.den = Tryz.f284.results.toList := by kernel_rfl
theorem x284_k : okFn Tryz.f284 = true := by kernel_rfl
theorem x284_D : 2 = dep Tryz.f284.ntmps := by kernel_rfl
theorem x284_s : ([s2_0,s2_1,s2_2] : List (Slot tf2)).map Slot.p = (List.range' 0 3).map (pth 2) := by kernel_rfl
def X284 : XFn Tryz.prog 4 (comp Tryz.prog) := ⟨X2,tf2,284,Tryz.f284,c284,2,49,[s2_0,s2_1,s2_2],z2,x284,y284,x284_D,Tryz.ntmps284.symm,Tryz.func284,x284_b,x284_k,x284_s,by decide,z2_ok,x284_c,x284_r⟩
def x285_0 : List (Ins tf2) := [iAs (rk (.int .i64 (.ofNat 0))) s2_6,iAs (rk (.int .i64 (.ofNat 0))) s2_7]
def x285_1 : List (Ins tf2) := [iMv r2_0 s2_11,iMv r2_1 s2_12,iGp (l1 (pUn .neg)) [r2_12] (some s2_13),iMv r2_2 s2_14,iGp (l1 (pUn .neg)) [r2_14] (some s2_15),iCall (rk (.func (.func 284) #[] #[])) [r2_11,r2_13,r2_15] (some s2_16),iMv r2_16 s2_10,iGp (l1 (pExt 0)) [r2_10] (some s2_17),iGp (l1 (pExt 1)) [r2_10] (some s2_18),iAs r2_17 s2_8,iAs r2_18 s2_9]
def x285_2 : List (Ins tf2) := [iMv r2_8 s2_19,iGp (l1 (pUn .neg)) [r2_19] (some s2_20),iMv r2_9 s2_21,iAs r2_20 s2_6,iAs r2_21 s2_7]
def x285 : XC tf2 := (.rg x285_0 (.rg x285_1 (.rg x285_2 .ret)))
def c285 : Code := Tryz.f285.body.getD .skip
theorem x285_b : Tryz.f285.body = some c285 := by kernel_rfl
theorem x285_c : cG (comp Tryz.prog) 4 2 22 x285 c285 = x285.den := by kernel_rfl
def y285 : List (RR Tryz.prog 2 22 tf2) := [rrT r2_6 6 rfl rfl,rrT r2_7 7 rfl rfl]
theorem x285_r : y285.map RR.den = Tryz.f285.results.toList := by kernel_rfl
theorem x285_k : okFn Tryz.f285 = true := by kernel_rfl
theorem x285_D : 2 = dep Tryz.f285.ntmps := by kernel_rfl
theorem x285_s : ([s2_0,s2_1,s2_2] : List (Slot tf2)).map Slot.p = (List.range' 0 3).map (pth 2) := by kernel_rfl
def X285 : XFn Tryz.prog 4 (comp Tryz.prog) := ⟨X2,tf2,285,Tryz.f285,c285,2,22,[s2_0,s2_1,s2_2],z2,x285,y285,x285_D,Tryz.ntmps285.symm,Tryz.func285,x285_b,x285_k,x285_s,by decide,z2_ok,x285_c,x285_r⟩
def x286_0 : List (Ins tf2) := [iAs (rk (.int .u64 (.ofNat 0))) s2_2]
def x286_1 : List (Ins tf2) := [iMv r2_0 s2_3,iP2 bLt r2_3 (rk (.int .i64 (.ofNat 0))) s2_4]
def x286_2 : List (Ins tf2) := [iMv r2_0 s2_5,iP1 (bCv .u64) r2_5 s2_6,iGp (l1 (pUn .neg)) [r2_6] (some s2_7),iAs r2_7 s2_2]
def x286_3 : List (Ins tf2) := [iMv r2_0 s2_8,iP1 (bCv .u64) r2_8 s2_9,iAs r2_9 s2_2]
def x286 : XC tf2 := (.rg x286_0 (.seq (.rg x286_1 (.cond r2_4 (.rg x286_2 .ret) .skip)) (.rg x286_3 .ret)))
def c286 : Code := Tryz.f286.body.getD .skip
theorem x286_b : Tryz.f286.body = some c286 := by kernel_rfl
theorem x286_c : cG (comp Tryz.prog) 4 2 10 x286 c286 = x286.den := by kernel_rfl
def y286 : List (RR Tryz.prog 2 10 tf2) := [rrT r2_2 2 rfl rfl]
theorem x286_r : y286.map RR.den = Tryz.f286.results.toList := by kernel_rfl
theorem x286_k : okFn Tryz.f286 = true := by kernel_rfl
theorem x286_D : 2 = dep Tryz.f286.ntmps := by kernel_rfl
theorem x286_s : ([s2_0] : List (Slot tf2)).map Slot.p = (List.range' 0 1).map (pth 2) := by kernel_rfl
def X286 : XFn Tryz.prog 4 (comp Tryz.prog) := ⟨X2,tf2,286,Tryz.f286,c286,2,10,[s2_0],z2,x286,y286,x286_D,Tryz.ntmps286.symm,Tryz.func286,x286_b,x286_k,x286_s,by decide,z2_ok,x286_c,x286_r⟩
def x287_0 : List (Ins tf3) := [iAs (rk (.slice none 0 0)) s3_4]
def x287_1 : List (Ins tf3) := [iMv r3_0 s3_9,iP1 bLen r3_9 s3_10,iP2 bLt r3_10 (rk (.int .i64 (.ofNat 2))) s3_11]
def x287_2 : List (Ins tf3) := [iMv r3_0 s3_12,iGm (m2 (sApp 1)) [(rk (.slice none 0 0)),r3_12] (some s3_13),iAs r3_13 s3_4]
def x287_3 : List (Ins tf3) := [iMv r3_0 s3_14,iP1 bLen r3_14 s3_15,iGp (l2 (pBin .quo)) [r3_15,(rk (.int .i64 (.ofNat 2)))] (some s3_16),iAs r3_16 s3_5]
def x287_4 : List (Ins tf3) := [iMv r3_0 s3_17,iMv r3_5 s3_18,iMv r3_5 s3_19,iGp (pSlB (pSl 1) false true true) [r3_17,r3_18,r3_19] (some s3_20),iMv r3_1 s3_21,iMv r3_0 s3_23,iMv r3_5 s3_24,iGp (pSlB (pSl 1) true false false) [r3_23,r3_24] (some s3_25),iMv r3_1 s3_26,iCall (rk (.func (.func 287) #[] #[])) [r3_20,r3_21] (some s3_22),iCall (rk (.func (.func 287) #[] #[])) [r3_25,r3_26] (some s3_27),iAs r3_22 s3_6,iAs r3_27 s3_7]
def x287_5 : List (Ins tf3) := [iMv r3_6 s3_28,iP1 bLen r3_28 s3_29,iMv r3_7 s3_30,iP1 bLen r3_30 s3_31,iP2 bAdd r3_29 r3_31 s3_32,iGa (a2 (gMks 1 8 [(.int .i64 (.ofNat 0))])) [(rk (.int .i64 (.ofNat 0))),r3_32] (some s3_33),iAs r3_33 s3_8]
def x287_6 : List (Ins tf3) := [iMv r3_6 s3_34,iP1 bLen r3_34 s3_35,iP2 bGt r3_35 (rk (.int .i64 (.ofNat 0))) s3_36,iMv r3_36 s3_37,iGd r3_37 [.o5,.o4,.o0] true (iMv r3_7 s3_38) (some s3_38) rfl rfl rfl,iGd r3_37 [.o5,.o4,.o0] true (iP1 bLen r3_38 s3_39) (some s3_39) rfl rfl rfl,iGd r3_37 [.o5,.o4,.o0] true (iP2 bGt r3_39 (rk (.int .i64 (.ofNat 0))) s3_40) (some s3_40) rfl rfl rfl,iGp (l3 pPick) [r3_37,r3_40,(rk (.bool false))] (some s3_41)]
def x287_7 : List (Ins tf3) := [iMv r3_1 s3_45,iMv r3_6 s3_46,iP2 (bIxs 1) r3_46 (rk (.int .i64 (.ofNat 0))) s3_47,iR1 bLd r3_47 s3_48,iMv r3_7 s3_49,iP2 (bIxs 1) r3_49 (rk (.int .i64 (.ofNat 0))) s3_50,iR1 bLd r3_50 s3_51,iCall r3_45 [r3_48,r3_51] (some s3_52),iAs r3_52 s3_44]
def x287_8 : List (Ins tf3) := [iMv r3_8 s3_53,iMv r3_6 s3_54,iP2 (bIxs 1) r3_54 (rk (.int .i64 (.ofNat 0))) s3_55,iR1 bLd r3_55 s3_56,iGa (aBsl 1 1 [(.int .i64 (.ofNat 0))] [(0,1)]) [r3_56] (some s3_57),iMv r3_6 s3_59,iGp (pSlB (pSl 1) true false false) [r3_59,(rk (.int .i64 (.ofNat 1)))] (some s3_60),iGm (m2 (sApp 1)) [r3_53,r3_57] (some s3_58),iAs r3_58 s3_8,iAs r3_60 s3_6]
def x287_9 : List (Ins tf3) := [iMv r3_1 s3_62,iMv r3_7 s3_63,iP2 (bIxs 1) r3_63 (rk (.int .i64 (.ofNat 0))) s3_64,iR1 bLd r3_64 s3_65,iMv r3_6 s3_66,iP2 (bIxs 1) r3_66 (rk (.int .i64 (.ofNat 0))) s3_67,iR1 bLd r3_67 s3_68,iCall r3_62 [r3_65,r3_68] (some s3_69),iAs r3_69 s3_61]
def x287_10 : List (Ins tf3) := [iMv r3_8 s3_70,iMv r3_7 s3_71,iP2 (bIxs 1) r3_71 (rk (.int .i64 (.ofNat 0))) s3_72,iR1 bLd r3_72 s3_73,iGa (aBsl 1 1 [(.int .i64 (.ofNat 0))] [(0,1)]) [r3_73] (some s3_74),iMv r3_7 s3_76,iGp (pSlB (pSl 1) true false false) [r3_76,(rk (.int .i64 (.ofNat 1)))] (some s3_77),iGm (m2 (sApp 1)) [r3_70,r3_74] (some s3_75),iAs r3_75 s3_8,iAs r3_77 s3_7]
def x287_11 : List (Ins tf3) := [iMv r3_6 s3_42,iGp (pSlB (pSl 1) true false false) [r3_42,(rk (.int .i64 (.ofNat 1)))] (some s3_43),iAs r3_43 s3_6]
def x287_12 : List (Ins tf3) := [iMv r3_8 s3_78,iMv r3_6 s3_79,iGm (m2 (sApp 1)) [r3_78,r3_79] (some s3_80),iMv r3_7 s3_81,iGm (m2 (sApp 1)) [r3_80,r3_81] (some s3_82),iAs r3_82 s3_4]
def x287 : XC tf3 := (.rg x287_0 (.seq (.rg x287_1 (.cond r3_11 (.rg x287_2 .ret) .skip)) (.rg x287_3 (.rg x287_4 (.rg x287_5 (.seq (.block 0 (.loop (.seq (.rg x287_6 (.cond r3_41 .skip (.exit 0))) (.block 1 (.block 2 (.rg x287_7 (.cond r3_44 (.reg x287_8) (.rg x287_9 (.cond r3_61 (.reg x287_10) (.reg x287_11)))))))))) (.rg x287_12 .ret)))))))
def c287 : Code := Tryz.f287.body.getD .skip
theorem x287_b : Tryz.f287.body = some c287 := by kernel_rfl
theorem x287_c : cG (comp Tryz.prog) 4 3 83 x287 c287 = x287.den := by kernel_rfl
def y287 : List (RR Tryz.prog 3 83 tf3) := [rrT r3_4 4 rfl rfl]
theorem x287_r : y287.map RR.den = Tryz.f287.results.toList := by kernel_rfl
theorem x287_k : okFn Tryz.f287 = true := by kernel_rfl
theorem x287_D : 3 = dep Tryz.f287.ntmps := by kernel_rfl
theorem x287_s : ([s3_0,s3_1] : List (Slot tf3)).map Slot.p = (List.range' 0 2).map (pth 3) := by kernel_rfl
def X287 : XFn Tryz.prog 4 (comp Tryz.prog) := ⟨X3,tf3,287,Tryz.f287,c287,3,83,[s3_0,s3_1],z3,x287,y287,x287_D,Tryz.ntmps287.symm,Tryz.func287,x287_b,x287_k,x287_s,by decide,z3_ok,x287_c,x287_r⟩
def x288_0 : List (Ins tf2) := [iAs (rk (.bool false)) s2_4]
def x288_1 : List (Ins tf2) := [iMv r2_0 s2_5,iCall (rk (.func (.func 286) #[] #[])) [r2_5] (some s2_6),iMv r2_1 s2_7,iCall (rk (.func (.func 286) #[] #[])) [r2_7] (some s2_8),iP2 bNe r2_6 r2_8 s2_9]
def x288_2 : List (Ins tf2) := [iMv r2_0 s2_10,iCall (rk (.func (.func 286) #[] #[])) [r2_10] (some s2_11),iMv r2_1 s2_12,iCall (rk (.func (.func 286) #[] #[])) [r2_12] (some s2_13),iP2 bLt r2_11 r2_13 s2_14,iAs r2_14 s2_4]
def x288_3 : List (Ins tf2) := [iMv r2_0 s2_15,iMv r2_1 s2_16,iP2 bGt r2_15 r2_16 s2_17,iAs r2_17 s2_4]
def x288 : XC tf2 := (.rg x288_0 (.seq (.rg x288_1 (.cond r2_9 (.rg x288_2 .ret) .skip)) (.rg x288_3 .ret)))
def c288 : Code := Tryz.f288.body.getD .skip
theorem x288_b : Tryz.f288.body = some c288 := by kernel_rfl
theorem x288_c : cG (comp Tryz.prog) 4 2 18 x288 c288 = x288.den := by kernel_rfl
def y288 : List (RR Tryz.prog 2 18 tf2) := [rrT r2_4 4 rfl rfl]
theorem x288_r : y288.map RR.den = Tryz.f288.results.toList := by kernel_rfl
theorem x288_k : okFn Tryz.f288 = true := by kernel_rfl
theorem x288_D : 2 = dep Tryz.f288.ntmps := by kernel_rfl
theorem x288_s : ([s2_0,s2_1] : List (Slot tf2)).map Slot.p = (List.range' 0 2).map (pth 2) := by kernel_rfl
def X288 : XFn Tryz.prog 4 (comp Tryz.prog) := ⟨X2,tf2,288,Tryz.f288,c288,2,18,[s2_0,s2_1],z2,x288,y288,x288_D,Tryz.ntmps288.symm,Tryz.func288,x288_b,x288_k,x288_s,by decide,z2_ok,x288_c,x288_r⟩
def x291_0 : List (Ins tf2) := [iMv r2_0 s2_6,iP1 bNil r2_6 s2_7,iP1 (bFa 0) r2_7 s2_8,iR1 bLd r2_8 s2_9,iMv r2_1 s2_10,iMv r2_0 s2_11,iP1 bNil r2_11 s2_12,iP1 (bFa 0) r2_12 s2_13,iR1 bLd r2_13 s2_14,iMv r2_2 s2_15,iMv r2_0 s2_16,iP1 bNil r2_16 s2_17,iP1 (bFa 0) r2_17 s2_18,iR1 bLd r2_18 s2_19,iMv r2_2 s2_20,iP2 (bIxs 1) r2_19 r2_20 s2_21,iR1 bLd r2_21 s2_22,iMv r2_0 s2_23,iP1 bNil r2_23 s2_24,iP1 (bFa 0) r2_24 s2_25,iR1 bLd r2_25 s2_26,iMv r2_1 s2_27,iP2 (bIxs 1) r2_26 r2_27 s2_28,iR1 bLd r2_28 s2_29,iP2 (bIxs 1) r2_9 r2_10 s2_30,iM2 bSt r2_30 r2_22,iP2 (bIxs 1) r2_14 r2_15 s2_31,iM2 bSt r2_31 r2_29]
def x291_1 : List (Ins tf2) := [iMv r2_0 s2_32,iP1 bNil r2_32 s2_33,iP1 (bFa 1) r2_33 s2_34,iR1 bLd r2_34 s2_35,iMv r2_0 s2_36,iP1 bNil r2_36 s2_37,iP1 (bFa 0) r2_37 s2_38,iR1 bLd r2_38 s2_39,iMv r2_1 s2_40,iP2 (bIxs 1) r2_39 r2_40 s2_41,iR1 bLd r2_41 s2_42,iMv r2_0 s2_43,iP1 bNil r2_43 s2_44,iP1 (bFa 1) r2_44 s2_45,iR1 bLd r2_45 s2_46,iMv r2_0 s2_47,iP1 bNil r2_47 s2_48,iP1 (bFa 0) r2_48 s2_49,iR1 bLd r2_49 s2_50,iMv r2_2 s2_51,iP2 (bIxs 1) r2_50 r2_51 s2_52,iR1 bLd r2_52 s2_53,iMv r2_1 s2_54,iMv r2_2 s2_55,iP2 (bIxs 1) r2_35 r2_42 s2_56,iM2 bSt r2_56 r2_54,iP2 (bIxs 1) r2_46 r2_53 s2_57,iM2 bSt r2_57 r2_55]
def x291 : XC tf2 := (.rg x291_0 (.reg x291_1))
def c291 : Code := Tryz.f291.body.getD .skip
theorem x291_b : Tryz.f291.body = some c291 := by kernel_rfl
theorem x291_c : cG (comp Tryz.prog) 4 2 58 x291 c291 = x291.den := by kernel_rfl
def y291 : List (RR Tryz.prog 2 58 tf2) := []
theorem x291_r : y291.map RR.den = Tryz.f291.results.toList := by kernel_rfl
theorem x291_k : okFn Tryz.f291 = true := by kernel_rfl
theorem x291_D : 2 = dep Tryz.f291.ntmps := by kernel_rfl
theorem x291_s : ([s2_0,s2_1,s2_2] : List (Slot tf2)).map Slot.p = (List.range' 0 3).map (pth 2) := by kernel_rfl
def X291 : XFn Tryz.prog 4 (comp Tryz.prog) := ⟨X2,tf2,291,Tryz.f291,c291,2,58,[s2_0,s2_1,s2_2],z2,x291,y291,x291_D,Tryz.ntmps291.symm,Tryz.func291,x291_b,x291_k,x291_s,by decide,z2_ok,x291_c,x291_r⟩
def x292_0 : List (Ins tf2) := [iMv r2_1 s2_7,iAs r2_7 s2_4]
def x292_1 : List (Ins tf2) := [iMv r2_1 s2_8,iGp (l2 (pBin .mul)) [(rk (.int .i64 (.ofNat 2))),r2_8] (some s2_9),iP2 bAdd r2_9 (rk (.int .i64 (.ofNat 1))) s2_10,iMv r2_1 s2_11,iGp (l2 (pBin .mul)) [(rk (.int .i64 (.ofNat 2))),r2_11] (some s2_12),iP2 bAdd r2_12 (rk (.int .i64 (.ofNat 2))) s2_13,iGp (pBld [(.int .i64 (.ofNat 0)),(.int .i64 (.ofNat 0))] [(0,1),(1,1)]) [r2_10,r2_13] (some s2_14),iMv (rk (.int .i64 (.ofNat 0))) s2_15]
def x292_2 : List (Ins tf2) := [iP2 bLt r2_15 (rk (.int .i64 (.ofNat 2))) s2_16]
def x292_3 : List (Ins tf2) := [iGp (l2 (pIx 2 none 1)) [r2_14,r2_15] (some s2_17),iAs r2_17 s2_6]
def x292_4 : List (Ins tf2) := [iMv r2_6 s2_18,iMv r2_0 s2_19,iP1 bNil r2_19 s2_20,iP1 (bFa 0) r2_20 s2_21,iR1 bLd r2_21 s2_22,iP1 bLen r2_22 s2_23,iP2 bLt r2_18 r2_23 s2_24,iMv r2_24 s2_25,iGd r2_25 [.o1,.o3] true (iMv r2_0 s2_26) (some s2_26) rfl rfl rfl,iGd r2_25 [.o1,.o3] true (iP1 bNil r2_26 s2_27) (some s2_27) rfl rfl rfl,iGd r2_25 [.o1,.o3] true (iP1 (bFa 3) r2_27 s2_28) (some s2_28) rfl rfl rfl,iGd r2_25 [.o1,.o3] true (iR1 bLd r2_28 s2_29) (some s2_29) rfl rfl rfl,iGd r2_25 [.o1,.o3] true (iMv r2_0 s2_30) (some s2_30) rfl rfl rfl,iGd r2_25 [.o1,.o3] true (iP1 bNil r2_30 s2_31) (some s2_31) rfl rfl rfl,iGd r2_25 [.o1,.o3] true (iP1 (bFa 2) r2_31 s2_32) (some s2_32) rfl rfl rfl,iGd r2_25 [.o1,.o3] true (iR1 bLd r2_32 s2_33) (some s2_33) rfl rfl rfl,iGd r2_25 [.o1,.o3] true (iMv r2_0 s2_34) (some s2_34) rfl rfl rfl,iGd r2_25 [.o1,.o3] true (iP1 bNil r2_34 s2_35) (some s2_35) rfl rfl rfl,iGd r2_25 [.o1,.o3] true (iP1 (bFa 0) r2_35 s2_36) (some s2_36) rfl rfl rfl,iGd r2_25 [.o1,.o3] true (iR1 bLd r2_36 s2_37) (some s2_37) rfl rfl rfl,iGd r2_25 [.o1,.o3] true (iMv r2_6 s2_38) (some s2_38) rfl rfl rfl,iGd r2_25 [.o1,.o3] true (iP2 (bIxs 1) r2_37 r2_38 s2_39) (some s2_39) rfl rfl rfl,iGd r2_25 [.o1,.o3] true (iR1 bLd r2_39 s2_40) (some s2_40) rfl rfl rfl,iGd r2_25 [.o1,.o3] true (iMv r2_0 s2_41) (some s2_41) rfl rfl rfl,iGd r2_25 [.o1,.o3] true (iP1 bNil r2_41 s2_42) (some s2_42) rfl rfl rfl,iGd r2_25 [.o1,.o3] true (iP1 (bFa 0) r2_42 s2_43) (some s2_43) rfl rfl rfl,iGd r2_25 [.o1,.o3] true (iR1 bLd r2_43 s2_44) (some s2_44) rfl rfl rfl,iGd r2_25 [.o1,.o3] true (iMv r2_4 s2_45) (some s2_45) rfl rfl rfl,iGd r2_25 [.o1,.o3] true (iP2 (bIxs 1) r2_44 r2_45 s2_46) (some s2_46) rfl rfl rfl,iGd r2_25 [.o1,.o3] true (iR1 bLd r2_46 s2_47) (some s2_47) rfl rfl rfl,iGd r2_25 [.o1,.o3] true (iCall r2_29 [r2_33,r2_40,r2_47] (some s2_48)) (some s2_48) rfl rfl rfl,iGp (l3 pPick) [r2_25,r2_48,(rk (.bool false))] (some s2_49)]
def x292_5 : List (Ins tf2) := [iMv r2_6 s2_50,iAs r2_50 s2_4]
def x292_6 : List (Ins tf2) := [iP2 bAdd r2_15 (rk (.int .i64 (.ofNat 1))) s2_51,iMv r2_51 s2_15]
def x292_7 : List (Ins tf2) := [iMv r2_4 s2_52,iMv r2_1 s2_53,iP2 bEq r2_52 r2_53 s2_54]
def x292_8 : List (Ins tf2) := [iMv r2_0 s2_55,iMv r2_1 s2_56,iMv r2_4 s2_57,iCall (rk (.func (.func 291) #[] #[])) [r2_55,r2_56,r2_57] (some s2_58)]
def x292_9 : List (Ins tf2) := [iMv r2_4 s2_59,iAs r2_59 s2_1]
def x292 : XC tf2 := (.block 0 (.loop (.block 1 (.rg x292_0 (.seq (.rg x292_1 (.block 2 (.loop (.rg x292_2 (.seq (.cond r2_16 .skip (.exit 2)) (.seq (.block 3 (.rg x292_3 (.rg x292_4 (.cond r2_49 (.reg x292_5) .skip)))) (.reg x292_6))))))) (.seq (.rg x292_7 (.cond r2_54 .ret .skip)) (.rg x292_8 (.reg x292_9))))))))
def c292 : Code := Tryz.f292.body.getD .skip
theorem x292_b : Tryz.f292.body = some c292 := by kernel_rfl
theorem x292_c : cG (comp Tryz.prog) 4 2 60 x292 c292 = x292.den := by kernel_rfl
def y292 : List (RR Tryz.prog 2 60 tf2) := []
theorem x292_r : y292.map RR.den = Tryz.f292.results.toList := by kernel_rfl
theorem x292_k : okFn Tryz.f292 = true := by kernel_rfl
theorem x292_D : 2 = dep Tryz.f292.ntmps := by kernel_rfl
theorem x292_s : ([s2_0,s2_1] : List (Slot tf2)).map Slot.p = (List.range' 0 2).map (pth 2) := by kernel_rfl
def X292 : XFn Tryz.prog 4 (comp Tryz.prog) := ⟨X2,tf2,292,Tryz.f292,c292,2,60,[s2_0,s2_1],z2,x292,y292,x292_D,Tryz.ntmps292.symm,Tryz.func292,x292_b,x292_k,x292_s,by decide,z2_ok,x292_c,x292_r⟩
def x293_0 : List (Ins tf2) := [iAs (rk (.int .i64 (.ofNat 0))) s2_4]
def x293_1 : List (Ins tf2) := [iMv r2_1 s2_5,iP2 bNe r2_5 (rk (.int .i64 (.ofNat 0))) s2_6]
def x293_2 : List (Ins tf2) := [iMv r2_0 s2_10,iAs r2_10 s2_4]
def x293 : XC tf2 := (.rg x293_0 (.seq (.rg x293_1 (.cond r2_6 .bad .skip)) (.rg x293_2 .ret)))
def c293 : Code := Tryz.f293.body.getD .skip
theorem x293_b : Tryz.f293.body = some c293 := by kernel_rfl
theorem x293_c : cG (comp Tryz.prog) 4 2 11 x293 c293 = x293.den := by kernel_rfl
def y293 : List (RR Tryz.prog 2 11 tf2) := [rrT r2_4 4 rfl rfl]
theorem x293_r : y293.map RR.den = Tryz.f293.results.toList := by kernel_rfl
theorem x293_k : okFn Tryz.f293 = true := by kernel_rfl
theorem x293_D : 2 = dep Tryz.f293.ntmps := by kernel_rfl
theorem x293_s : ([s2_0,s2_1] : List (Slot tf2)).map Slot.p = (List.range' 0 2).map (pth 2) := by kernel_rfl
def X293 : XFn Tryz.prog 4 (comp Tryz.prog) := ⟨X2,tf2,293,Tryz.f293,c293,2,11,[s2_0,s2_1],z2,x293,y293,x293_D,Tryz.ntmps293.symm,Tryz.func293,x293_b,x293_k,x293_s,by decide,z2_ok,x293_c,x293_r⟩
def x294_0 : List (Ins tf2) := [iAs (rk (.int .i64 (.ofNat 0))) s2_2,iAs (rk (.int .i64 (.ofNat 0))) s2_3]
def x294_1 : List (Ins tf2) := [iMv r2_0 s2_4,iGp (l2 (pEqD (tdOf 336) false)) [r2_4,(rk (.pointer none))] (some s2_5)]
def x294_2 : List (Ins tf2) := [iAs (rk (.int .i64 (.ofNat 0))) s2_2,iAs (rk (.int .i64 (.ofNat 1))) s2_3]
def x294_3 : List (Ins tf2) := [iMv r2_0 s2_6,iP1 bNil r2_6 s2_7,iP1 (bFa 0) r2_7 s2_8,iP1 (bFa 0) r2_8 s2_9,iR1 bLd r2_9 s2_10,iP2 bEq r2_10 (rk (.int .i64 (.ofNat 1048576))) s2_11]
def x294_4 : List (Ins tf2) := [iAs (rk (.int .i64 (.ofNat 0))) s2_2,iAs (rk (.int .i64 (.ofNat 5))) s2_3]
def x294_5 : List (Ins tf2) := [iMv r2_0 s2_12,iP1 bNil r2_12 s2_13,iP1 (bFa 0) r2_13 s2_14,iP1 (bFa 0) r2_14 s2_15,iR1 bLd r2_15 s2_16,iP2 bAdd r2_16 (rk (.int .i64 (.ofNat 1))) s2_17,iP1 bNil r2_12 s2_18,iP1 (bFa 0) r2_18 s2_19,iP1 (bFa 0) r2_19 s2_20,iM2 bSt r2_20 r2_17]
def x294_6 : List (Ins tf2) := [iMv r2_0 s2_21,iP1 bNil r2_21 s2_22,iP1 (bFa 0) r2_22 s2_23,iP1 (bFa 0) r2_23 s2_24,iR1 bLd r2_24 s2_25,iAs r2_25 s2_2,iAs (rk (.int .i64 (.ofNat 0))) s2_3]
def x294 : XC tf2 := (.rg x294_0 (.seq (.rg x294_1 (.cond r2_5 (.rg x294_2 .ret) .skip)) (.seq (.rg x294_3 (.cond r2_11 (.rg x294_4 .ret) .skip)) (.rg x294_5 (.rg x294_6 .ret)))))
def c294 : Code := Tryz.f294.body.getD .skip
theorem x294_b : Tryz.f294.body = some c294 := by kernel_rfl
theorem x294_c : cG (comp Tryz.prog) 4 2 26 x294 c294 = x294.den := by kernel_rfl
def y294 : List (RR Tryz.prog 2 26 tf2) := [rrT r2_2 2 rfl rfl,rrT r2_3 3 rfl rfl]
theorem x294_r : y294.map RR.den = Tryz.f294.results.toList := by kernel_rfl
theorem x294_k : okFn Tryz.f294 = true := by kernel_rfl
theorem x294_D : 2 = dep Tryz.f294.ntmps := by kernel_rfl
theorem x294_s : ([s2_0] : List (Slot tf2)).map Slot.p = (List.range' 0 1).map (pth 2) := by kernel_rfl
def X294 : XFn Tryz.prog 4 (comp Tryz.prog) := ⟨X2,tf2,294,Tryz.f294,c294,2,26,[s2_0],z2,x294,y294,x294_D,Tryz.ntmps294.symm,Tryz.func294,x294_b,x294_k,x294_s,by decide,z2_ok,x294_c,x294_r⟩
def x298_0 : List (Ins tf2) := [iAs (rk (.slice none 0 0)) s2_4]
def x298_1 : List (Ins tf2) := [iMv r2_0 s2_7,iP1 bNil r2_7 s2_8,iP1 (bFa 0) r2_8 s2_9,iR1 bLd r2_9 s2_10,iCall (rk (.func (.func 71) #[] #[])) [r2_10] (some s2_11),iGa (a2 (gMks 1 8 [(.int .i64 (.ofNat 0))])) [r2_11,r2_11] (some s2_12),iAs r2_12 s2_5]
def x298_2 : List (Ins tf2) := [iMv r2_5 s2_13,iP1 bLen r2_13 s2_14,iMv (rk (.int .i64 (.ofNat 0))) s2_15]
def x298_3 : List (Ins tf2) := [iP2 bLt r2_15 r2_14 s2_16]
def x298_4 : List (Ins tf2) := [iMv r2_15 s2_17,iAs r2_17 s2_6]
def x298_5 : List (Ins tf2) := [iMv r2_5 s2_18,iMv r2_6 s2_19,iMv r2_0 s2_20,iP1 bNil r2_20 s2_21,iP1 (bFa 1) r2_21 s2_22,iR1 bLd r2_22 s2_23,iCall (rk (.func (.func 268) #[] #[])) [r2_23] (some s2_24),iGp (l1 (pUn .neg)) [r2_24] (some s2_25),iP2 (bIxs 1) r2_18 r2_19 s2_26,iM2 bSt r2_26 r2_25]
def x298_6 : List (Ins tf2) := [iP2 bAdd r2_15 (rk (.int .i64 (.ofNat 1))) s2_27,iMv r2_27 s2_15]
def x298_7 : List (Ins tf2) := [iMv r2_5 s2_28,iMv r2_1 s2_29,iP2 (bIxs 1) r2_28 (rk (.int .i64 (.ofNat 0))) s2_30,iM2 bSt r2_30 r2_29]
def x298_8 : List (Ins tf2) := [iMv r2_5 s2_31,iAs r2_31 s2_4]
def x298 : XC tf2 := (.rg x298_0 (.rg x298_1 (.seq (.rg x298_2 (.block 0 (.loop (.rg x298_3 (.seq (.cond r2_16 .skip (.exit 0)) (.seq (.block 1 (.rg x298_4 (.reg x298_5))) (.reg x298_6))))))) (.rg x298_7 (.rg x298_8 .ret)))))
def c298 : Code := Tryz.f298.body.getD .skip
theorem x298_b : Tryz.f298.body = some c298 := by kernel_rfl
theorem x298_c : cG (comp Tryz.prog) 4 2 32 x298 c298 = x298.den := by kernel_rfl
def y298 : List (RR Tryz.prog 2 32 tf2) := [rrT r2_4 4 rfl rfl]
theorem x298_r : y298.map RR.den = Tryz.f298.results.toList := by kernel_rfl
theorem x298_k : okFn Tryz.f298 = true := by kernel_rfl
theorem x298_D : 2 = dep Tryz.f298.ntmps := by kernel_rfl
theorem x298_s : ([s2_0,s2_1] : List (Slot tf2)).map Slot.p = (List.range' 0 2).map (pth 2) := by kernel_rfl
def X298 : XFn Tryz.prog 4 (comp Tryz.prog) := ⟨X2,tf2,298,Tryz.f298,c298,2,32,[s2_0,s2_1],z2,x298,y298,x298_D,Tryz.ntmps298.symm,Tryz.func298,x298_b,x298_k,x298_s,by decide,z2_ok,x298_c,x298_r⟩
def x304_0 : List (Ins tf2) := [iAs (rk (.int .i64 (.ofNat 0))) s2_6,iAs (rk (.int .i64 (.ofNat 0))) s2_7]
def x304_1 : List (Ins tf2) := [iMv r2_0 s2_8,iGp (l2 (pEqD (tdOf 336) false)) [r2_8,(rk (.pointer none))] (some s2_9)]
def x304_2 : List (Ins tf2) := [iAs (rk (.int .i64 (.ofNat 0))) s2_6,iAs (rk (.int .i64 (.ofNat 1))) s2_7]
def x304_3 : List (Ins tf2) := [iMv r2_0 s2_10,iMv r2_1 s2_11,iMv r2_2 s2_12,iGa (aBsl 2 1 [(.int .i64 (.ofNat 0))] [(0,1),(1,1)]) [r2_11,r2_12] (some s2_13),iCall (rk (.func (.func 271) #[] #[])) [r2_10,r2_13] (some s2_14),iGp (l1 (pUn .not)) [r2_14] (some s2_15)]
def x304_4 : List (Ins tf2) := [iAs (rk (.int .i64 (.ofNat 0))) s2_6,iAs (rk (.int .i64 (.ofNat 3))) s2_7]
def x304_5 : List (Ins tf2) := [iMv r2_1 s2_17,iMv r2_2 s2_18,iP2 bEq r2_17 r2_18 s2_19,iAs r2_19 s2_16]
def x304_6 : List (Ins tf2) := [iAs (rk (.int .i64 (.negSucc 0))) s2_6,iAs (rk (.int .i64 (.ofNat 0))) s2_7]
def x304_7 : List (Ins tf2) := [iMv r2_1 s2_21,iMv r2_2 s2_22,iGp (l1 (pUn .neg)) [r2_22] (some s2_23),iP2 bEq r2_21 r2_23 s2_24,iAs r2_24 s2_20]
def x304_8 : List (Ins tf2) := [iAs (rk (.int .i64 (.ofNat 1))) s2_6,iAs (rk (.int .i64 (.ofNat 0))) s2_7]
def x304_9 : List (Ins tf2) := [iMv r2_1 s2_26,iP2 bEq r2_26 (rk (.int .i64 (.ofNat 1))) s2_27,iMv r2_27 s2_28,iGd r2_28 [.o4,.o3] false (iMv r2_1 s2_29) (some s2_29) rfl rfl rfl,iGd r2_28 [.o4,.o3] false (iP2 bEq r2_29 (rk (.int .i64 (.negSucc 0))) s2_30) (some s2_30) rfl rfl rfl,iGp (l3 pPick) [r2_28,(rk (.bool true)),r2_30] (some s2_31),iAs r2_31 s2_25]
def x304_10 : List (Ins tf2) := [iMv r2_1 s2_32,iGp (l1 (pUn .neg)) [r2_32] (some s2_33),iMv r2_2 s2_34,iGp (l2 (pBin .mul)) [r2_33,r2_34] (some s2_35),iAs r2_35 s2_6,iAs (rk (.int .i64 (.ofNat 0))) s2_7]
def x304_11 : List (Ins tf2) := [iMv r2_2 s2_37,iP2 bEq r2_37 (rk (.int .i64 (.ofNat 1))) s2_38,iMv r2_38 s2_39,iGd r2_39 [.o7,.o4] false (iMv r2_2 s2_40) (some s2_40) rfl rfl rfl,iGd r2_39 [.o7,.o4] false (iP2 bEq r2_40 (rk (.int .i64 (.negSucc 0))) s2_41) (some s2_41) rfl rfl rfl,iGp (l3 pPick) [r2_39,(rk (.bool true)),r2_41] (some s2_42),iAs r2_42 s2_36]
def x304_12 : List (Ins tf2) := [iMv r2_2 s2_43,iGp (l1 (pUn .neg)) [r2_43] (some s2_44),iMv r2_1 s2_45,iGp (l2 (pBin .mul)) [r2_44,r2_45] (some s2_46),iAs r2_46 s2_6,iAs (rk (.int .i64 (.ofNat 0))) s2_7]
def x304_13 : List (Ins tf2) := [iMv r2_0 s2_47,iMv r2_1 s2_48,iMv r2_2 s2_49,iGa (aBsl 2 1 [(.int .i64 (.ofNat 0))] [(0,1),(1,1)]) [r2_48,r2_49] (some s2_50),iCall (rk (.func (.func 308) #[] #[])) [r2_47,(rk (.int .i64 (.ofNat 1))),r2_50] (some s2_51),iGp (l1 (pExt 0)) [r2_51] (some s2_52),iGp (l1 (pExt 1)) [r2_51] (some s2_53),iAs r2_52 s2_6,iAs r2_53 s2_7]
def x304 : XC tf2 := (.rg x304_0 (.seq (.rg x304_1 (.cond r2_9 (.rg x304_2 .ret) .skip)) (.seq (.rg x304_3 (.cond r2_15 (.rg x304_4 .ret) .skip)) (.seq (.block 0 (.rg x304_5 (.cond r2_16 (.rg x304_6 .ret) (.rg x304_7 (.cond r2_20 (.rg x304_8 .ret) (.rg x304_9 (.cond r2_25 (.rg x304_10 .ret) (.rg x304_11 (.cond r2_36 (.rg x304_12 .ret) .skip))))))))) (.rg x304_13 .ret)))))
def c304 : Code := Tryz.f304.body.getD .skip
theorem x304_b : Tryz.f304.body = some c304 := by kernel_rfl
theorem x304_c : cG (comp Tryz.prog) 4 2 54 x304 c304 = x304.den := by kernel_rfl
def y304 : List (RR Tryz.prog 2 54 tf2) := [rrT r2_6 6 rfl rfl,rrT r2_7 7 rfl rfl]
theorem x304_r : y304.map RR.den = Tryz.f304.results.toList := by kernel_rfl
theorem x304_k : okFn Tryz.f304 = true := by kernel_rfl
theorem x304_D : 2 = dep Tryz.f304.ntmps := by kernel_rfl
theorem x304_s : ([s2_0,s2_1,s2_2] : List (Slot tf2)).map Slot.p = (List.range' 0 3).map (pth 2) := by kernel_rfl
def X304 : XFn Tryz.prog 4 (comp Tryz.prog) := ⟨X2,tf2,304,Tryz.f304,c304,2,54,[s2_0,s2_1,s2_2],z2,x304,y304,x304_D,Tryz.ntmps304.symm,Tryz.func304,x304_b,x304_k,x304_s,by decide,z2_ok,x304_c,x304_r⟩
def x308_0 : List (Ins tf3) := [iAs (rk (.int .i64 (.ofNat 0))) s3_6,iAs (rk (.int .i64 (.ofNat 0))) s3_7]
def x308_1 : List (Ins tf3) := [iCall (rk (.func (.func 320) #[] #[])) [] (some s3_15),iMv r3_1 s3_16,iGp (l2 (pIx 3 none 1)) [r3_15,r3_16] (some s3_17),iAs r3_17 s3_8]
def x308_2 : List (Ins tf3) := [iMv r3_0 s3_18,iP1 bNil r3_18 s3_19,iP1 (bFa 0) r3_19 s3_20,iP1 (bFa 0) r3_20 s3_21,iR1 bLd r3_21 s3_22,iP2 bEq r3_22 (rk (.int .i64 (.ofNat 1048576))) s3_23,iMv r3_23 s3_24,iGd r3_24 [.o0,.o3,.o0] false (iMv r3_0 s3_25) (some s3_25) rfl rfl rfl,iGd r3_24 [.o0,.o3,.o0] false (iP1 bNil r3_25 s3_26) (some s3_26) rfl rfl rfl,iGd r3_24 [.o0,.o3,.o0] false (iP1 (bFa 0) r3_26 s3_27) (some s3_27) rfl rfl rfl,iGd r3_24 [.o0,.o3,.o0] false (iP1 (bFa 1) r3_27 s3_28) (some s3_28) rfl rfl rfl,iGd r3_24 [.o0,.o3,.o0] false (iR1 bLd r3_28 s3_29) (some s3_29) rfl rfl rfl,iGd r3_24 [.o0,.o3,.o0] false (iP1 bLen r3_29 s3_30) (some s3_30) rfl rfl rfl,iGd r3_24 [.o0,.o3,.o0] false (iMv r3_8 s3_31) (some s3_31) rfl rfl rfl,iGd r3_24 [.o0,.o3,.o0] false (iP1 bLen r3_31 s3_32) (some s3_32) rfl rfl rfl,iGd r3_24 [.o0,.o3,.o0] false (iP2 bAdd r3_30 r3_32 s3_33) (some s3_33) rfl rfl rfl,iGd r3_24 [.o0,.o3,.o0] false (iP2 bGt r3_33 (rk (.int .i64 (.ofNat 1048576))) s3_34) (some s3_34) rfl rfl rfl,iGp (l3 pPick) [r3_24,(rk (.bool true)),r3_34] (some s3_35)]
def x308_3 : List (Ins tf3) := [iAs (rk (.int .i64 (.ofNat 0))) s3_6,iAs (rk (.int .i64 (.ofNat 5))) s3_7]
def x308_4 : List (Ins tf3) := [iMv r3_0 s3_36,iP1 bNil r3_36 s3_37,iP1 (bFa 0) r3_37 s3_38,iP1 (bFa 0) r3_38 s3_39,iR1 bLd r3_39 s3_40,iP2 bAdd r3_40 (rk (.int .i64 (.ofNat 1))) s3_41,iP1 bNil r3_36 s3_42,iP1 (bFa 0) r3_42 s3_43,iP1 (bFa 0) r3_43 s3_44,iM2 bSt r3_44 r3_41]
def x308_5 : List (Ins tf3) := [iMv r3_0 s3_45,iP1 bNil r3_45 s3_46,iP1 (bFa 0) r3_46 s3_47,iP1 (bFa 0) r3_47 s3_48,iR1 bLd r3_48 s3_49,iGa (aBsl 2 1 [(.int .i64 (.ofNat 0))] [(0,1),(1,1)]) [(rk (.int .i64 (.ofNat 0))),r3_49] (some s3_50),iMv r3_2 s3_51,iGm (m2 (sApp 1)) [r3_50,r3_51] (some s3_52),iAs r3_52 s3_9]
def x308_6 : List (Ins tf3) := [iMv r3_8 s3_53,iP1 bLen r3_53 s3_54,iMv (rk (.int .i64 (.ofNat 0))) s3_55]
def x308_7 : List (Ins tf3) := [iP2 bLt r3_55 r3_54 s3_56]
def x308_8 : List (Ins tf3) := [iP2 (bIxs 1) r3_53 r3_55 s3_57,iR1 bLd r3_57 s3_58,iAs r3_58 s3_11]
def x308_9 : List (Ins tf3) := [iAs (rk (.slice none 0 0)) s3_12]
def x308_10 : List (Ins tf3) := [iMv r3_11 s3_59,iP1 bLen r3_59 s3_60,iMv (rk (.int .i64 (.ofNat 0))) s3_61]
def x308_11 : List (Ins tf3) := [iP2 bLt r3_61 r3_60 s3_62]
def x308_12 : List (Ins tf3) := [iP2 (bIxs 1) r3_59 r3_61 s3_63,iR1 bLd r3_63 s3_64,iAs r3_64 s3_14]
def x308_13 : List (Ins tf3) := [iMv r3_14 s3_65,iP2 bLt r3_65 (rk (.int .i64 (.ofNat 0))) s3_66]
def x308_14 : List (Ins tf3) := [iMv r3_12 s3_67,iMv r3_9 s3_68,iMv r3_14 s3_69,iGp (l1 (pUn .neg)) [r3_69] (some s3_70),iP2 (bIxs 1) r3_68 r3_70 s3_71,iR1 bLd r3_71 s3_72,iGp (l1 (pUn .neg)) [r3_72] (some s3_73),iGa (aBsl 1 1 [(.int .i64 (.ofNat 0))] [(0,1)]) [r3_73] (some s3_74),iGm (m2 (sApp 1)) [r3_67,r3_74] (some s3_75),iAs r3_75 s3_12]
def x308_15 : List (Ins tf3) := [iMv r3_12 s3_76,iMv r3_9 s3_77,iMv r3_14 s3_78,iP2 (bIxs 1) r3_77 r3_78 s3_79,iR1 bLd r3_79 s3_80,iGa (aBsl 1 1 [(.int .i64 (.ofNat 0))] [(0,1)]) [r3_80] (some s3_81),iGm (m2 (sApp 1)) [r3_76,r3_81] (some s3_82),iAs r3_82 s3_12]
def x308_16 : List (Ins tf3) := [iP2 bAdd r3_61 (rk (.int .i64 (.ofNat 1))) s3_83,iMv r3_83 s3_61]
def x308_17 : List (Ins tf3) := [iMv r3_0 s3_84,iMv r3_0 s3_85,iP1 bNil r3_85 s3_86,iP1 (bFa 0) r3_86 s3_87,iP1 (bFa 1) r3_87 s3_88,iR1 bLd r3_88 s3_89,iMv r3_12 s3_90,iGa (aBsl 1 1 [(.slice none 0 0)] [(0,1)]) [r3_90] (some s3_91),iGm (m2 (sApp 1)) [r3_89,r3_91] (some s3_92),iP1 bNil r3_84 s3_93,iP1 (bFa 0) r3_93 s3_94,iP1 (bFa 1) r3_94 s3_95,iM2 bSt r3_95 r3_92]
def x308_18 : List (Ins tf3) := [iP2 bAdd r3_55 (rk (.int .i64 (.ofNat 1))) s3_96,iMv r3_96 s3_55]
def x308_19 : List (Ins tf3) := [iMv r3_0 s3_97,iP1 bNil r3_97 s3_98,iP1 (bFa 0) r3_98 s3_99,iP1 (bFa 0) r3_99 s3_100,iR1 bLd r3_100 s3_101,iAs r3_101 s3_6,iAs (rk (.int .i64 (.ofNat 0))) s3_7]
def x308_20 : XC tf3 := (.rg x308_4 (.rg x308_5 (.seq (.rg x308_6 (.block 0 (.loop (.rg x308_7 (.seq (.cond r3_56 .skip (.exit 0)) (.seq (.block 1 (.rg x308_8 (.rg x308_9 (.seq (.rg x308_10 (.block 2 (.loop (.rg x308_11 (.seq (.cond r3_62 .skip (.exit 2)) (.seq (.block 3 (.rg x308_12 (.rg x308_13 (.cond r3_66 (.reg x308_14) (.reg x308_15))))) (.reg x308_16))))))) (.reg x308_17))))) (.reg x308_18))))))) (.rg x308_19 .ret))))
def x308 : XC tf3 := (.rg x308_0 (.rg x308_1 (.seq (.rg x308_2 (.cond r3_35 (.rg x308_3 .ret) .skip)) x308_20)))
def c308 : Code := Tryz.f308.body.getD .skip
theorem x308_b : Tryz.f308.body = some c308 := by kernel_rfl
theorem x308_c : cG (comp Tryz.prog) 4 3 102 x308 c308 = x308.den := by kernel_rfl
def y308 : List (RR Tryz.prog 3 102 tf3) := [rrT r3_6 6 rfl rfl,rrT r3_7 7 rfl rfl]
theorem x308_r : y308.map RR.den = Tryz.f308.results.toList := by kernel_rfl
theorem x308_k : okFn Tryz.f308 = true := by kernel_rfl
theorem x308_D : 3 = dep Tryz.f308.ntmps := by kernel_rfl
theorem x308_s : ([s3_0,s3_1,s3_2] : List (Slot tf3)).map Slot.p = (List.range' 0 3).map (pth 3) := by kernel_rfl
def X308 : XFn Tryz.prog 4 (comp Tryz.prog) := ⟨X3,tf3,308,Tryz.f308,c308,3,102,[s3_0,s3_1,s3_2],z3,x308,y308,x308_D,Tryz.ntmps308.symm,Tryz.func308,x308_b,x308_k,x308_s,by decide,z3_ok,x308_c,x308_r⟩
def x310_0 : List (Ins tf1) := [iGa (a1 gBox) [r1_0] (some s1_2),iGa (a1 gBox) [r1_1] (some s1_3),iAs (rk .nilFunc) s1_4]
def x310_1 : List (Ins tf1) := [iGp (pMkf (.func 321) 0) [r1_2,r1_3] (some s1_5),iAs r1_5 s1_4]
def x310 : XC tf1 := (.rg x310_0 (.rg x310_1 .ret))
def c310 : Code := Tryz.f310.body.getD .skip
theorem x310_b : Tryz.f310.body = some c310 := by kernel_rfl
theorem x310_c : cG (comp Tryz.prog) 4 1 6 x310 c310 = x310.den := by kernel_rfl
def y310 : List (RR Tryz.prog 1 6 tf1) := [rrT r1_4 4 rfl rfl]
theorem x310_r : y310.map RR.den = Tryz.f310.results.toList := by kernel_rfl
theorem x310_k : okFn Tryz.f310 = true := by kernel_rfl
theorem x310_D : 1 = dep Tryz.f310.ntmps := by kernel_rfl
theorem x310_s : ([s1_0,s1_1] : List (Slot tf1)).map Slot.p = (List.range' 0 2).map (pth 1) := by kernel_rfl
def X310 : XFn Tryz.prog 4 (comp Tryz.prog) := ⟨X1,tf1,310,Tryz.f310,c310,1,6,[s1_0,s1_1],z1,x310,y310,x310_D,Tryz.ntmps310.symm,Tryz.func310,x310_b,x310_k,x310_s,by decide,z1_ok,x310_c,x310_r⟩
def x314_0 : List (Ins tf2) := [iAs (rk (.int .i64 (.ofNat 0))) s2_6]
def x314_1 : List (Ins tf2) := [iMv r2_0 s2_8,iP1 bNil r2_8 s2_9,iP1 (bFa 1) r2_9 s2_10,iR1 bLd r2_10 s2_11,iP2 bNe r2_11 (rk (.int .i64 (.ofNat 0))) s2_12]
def x314_2 : List (Ins tf2) := [iAs (rk (.int .i64 (.ofNat 0))) s2_6]
def x314_3 : List (Ins tf2) := [iAs (rk (.int .i64 (.ofNat 0))) s2_7]
def x314_4 : List (Ins tf2) := [iMv r2_0 s2_14,iMv r2_0 s2_15,iP1 bNil r2_15 s2_16,iP1 (bFa 0) r2_16 s2_17,iR1 bLd r2_17 s2_18,iMv r2_1 s2_19,iMv r2_2 s2_20,iCall (rk (.func (.func 304) #[] #[])) [r2_18,r2_19,r2_20] (some s2_21),iMv r2_21 s2_13,iGp (l1 (pExt 0)) [r2_13] (some s2_22),iGp (l1 (pExt 1)) [r2_13] (some s2_23),iAs r2_22 s2_7,iP1 bNil r2_14 s2_24,iP1 (bFa 1) r2_24 s2_25,iM2 bSt r2_25 r2_23]
def x314_5 : List (Ins tf2) := [iMv r2_7 s2_26,iAs r2_26 s2_6]
def x314 : XC tf2 := (.rg x314_0 (.seq (.rg x314_1 (.cond r2_12 (.rg x314_2 .ret) .skip)) (.rg x314_3 (.rg x314_4 (.rg x314_5 .ret)))))
def c314 : Code := Tryz.f314.body.getD .skip
theorem x314_b : Tryz.f314.body = some c314 := by kernel_rfl
theorem x314_c : cG (comp Tryz.prog) 4 2 27 x314 c314 = x314.den := by kernel_rfl
def y314 : List (RR Tryz.prog 2 27 tf2) := [rrT r2_6 6 rfl rfl]
theorem x314_r : y314.map RR.den = Tryz.f314.results.toList := by kernel_rfl
theorem x314_k : okFn Tryz.f314 = true := by kernel_rfl
theorem x314_D : 2 = dep Tryz.f314.ntmps := by kernel_rfl
theorem x314_s : ([s2_0,s2_1,s2_2] : List (Slot tf2)).map Slot.p = (List.range' 0 3).map (pth 2) := by kernel_rfl
def X314 : XFn Tryz.prog 4 (comp Tryz.prog) := ⟨X2,tf2,314,Tryz.f314,c314,2,27,[s2_0,s2_1,s2_2],z2,x314,y314,x314_D,Tryz.ntmps314.symm,Tryz.func314,x314_b,x314_k,x314_s,by decide,z2_ok,x314_c,x314_r⟩
def x320_0 : List (Ins tf2) := [iGa (aAl 3 [(.slice none 0 0),(.slice none 0 0),(.slice none 0 0)]) [] (some s2_0)]
def x320_1 : List (Ins tf2) := [iGa (aBsl 2 1 [(.int .i64 (.ofNat 0))] [(0,1),(1,1)]) [(rk (.int .i64 (.negSucc 0))),(rk (.int .i64 (.ofNat 2)))] (some s2_1),iGa (aBsl 2 1 [(.int .i64 (.ofNat 0))] [(0,1),(1,1)]) [(rk (.int .i64 (.negSucc 0))),(rk (.int .i64 (.ofNat 3)))] (some s2_2),iGa (aBsl 3 1 [(.int .i64 (.ofNat 0))] [(0,1),(1,1),(2,1)]) [(rk (.int .i64 (.ofNat 1))),(rk (.int .i64 (.negSucc 1))),(rk (.int .i64 (.negSucc 2)))] (some s2_3),iGa (aBsl 3 1 [(.slice none 0 0)] [(0,1),(1,1),(2,1)]) [r2_1,r2_2,r2_3] (some s2_4),iGa (aBsl 3 1 [(.int .i64 (.ofNat 0))] [(0,1),(1,1),(2,1)]) [(rk (.int .i64 (.negSucc 0))),(rk (.int .i64 (.ofNat 2))),(rk (.int .i64 (.ofNat 3)))] (some s2_5),iGa (aBsl 3 1 [(.int .i64 (.ofNat 0))] [(0,1),(1,1),(2,1)]) [(rk (.int .i64 (.negSucc 0))),(rk (.int .i64 (.negSucc 1))),(rk (.int .i64 (.negSucc 2)))] (some s2_6),iGa (aBsl 3 1 [(.int .i64 (.ofNat 0))] [(0,1),(1,1),(2,1)]) [(rk (.int .i64 (.ofNat 1))),(rk (.int .i64 (.negSucc 1))),(rk (.int .i64 (.ofNat 3)))] (some s2_7),iGa (aBsl 3 1 [(.int .i64 (.ofNat 0))] [(0,1),(1,1),(2,1)]) [(rk (.int .i64 (.ofNat 1))),(rk (.int .i64 (.ofNat 2))),(rk (.int .i64 (.negSucc 2)))] (some s2_8),iGa (aBsl 4 1 [(.slice none 0 0)] [(0,1),(1,1),(2,1),(3,1)]) [r2_5,r2_6,r2_7,r2_8] (some s2_9),iGa (aBsl 3 1 [(.int .i64 (.ofNat 0))] [(0,1),(1,1),(2,1)]) [(rk (.int .i64 (.negSucc 1))),(rk (.int .i64 (.negSucc 2))),(rk (.int .i64 (.ofNat 1)))] (some s2_10),iGa (aBsl 3 1 [(.int .i64 (.ofNat 0))] [(0,1),(1,1),(2,1)]) [(rk (.int .i64 (.negSucc 1))),(rk (.int .i64 (.ofNat 3))),(rk (.int .i64 (.negSucc 0)))] (some s2_11),iGa (aBsl 3 1 [(.int .i64 (.ofNat 0))] [(0,1),(1,1),(2,1)]) [(rk (.int .i64 (.ofNat 2))),(rk (.int .i64 (.negSucc 3))),(rk (.int .i64 (.ofNat 1)))] (some s2_12),iGa (aBsl 3 1 [(.int .i64 (.ofNat 0))] [(0,1),(1,1),(2,1)]) [(rk (.int .i64 (.ofNat 2))),(rk (.int .i64 (.ofNat 4))),(rk (.int .i64 (.negSucc 0)))] (some s2_13),iGa (aBsl 3 1 [(.int .i64 (.ofNat 0))] [(0,1),(1,1),(2,1)]) [(rk (.int .i64 (.negSucc 2))),(rk (.int .i64 (.negSucc 3))),(rk (.int .i64 (.ofNat 1)))] (some s2_14),iGa (aBsl 3 1 [(.int .i64 (.ofNat 0))] [(0,1),(1,1),(2,1)]) [(rk (.int .i64 (.ofNat 3))),(rk (.int .i64 (.ofNat 4))),(rk (.int .i64 (.negSucc 0)))] (some s2_15),iGa (aBsl 6 1 [(.slice none 0 0)] [(0,1),(1,1),(2,1),(3,1),(4,1),(5,1)]) [r2_10,r2_11,r2_12,r2_13,r2_14,r2_15] (some s2_16),iGp (pBld [(.slice none 0 0),(.slice none 0 0),(.slice none 0 0)] [(0,1),(1,1),(2,1)]) [r2_4,r2_9,r2_16] (some s2_17),iGm (m2 (sStn 3)) [r2_0,r2_17] none]
def x320 : XC tf2 := (.rg x320_0 (.rg x320_1 .ret))
def c320 : Code := Tryz.f320.body.getD .skip
theorem x320_b : Tryz.f320.body = some c320 := by kernel_rfl
theorem x320_c : cG (comp Tryz.prog) 4 2 18 x320 c320 = x320.den := by kernel_rfl
def y320 : List (RR Tryz.prog 2 18 tf2) := [rrS (.cell 0 424)]
theorem x320_r : y320.map RR.den = Tryz.f320.results.toList := by kernel_rfl
theorem x320_k : okFn Tryz.f320 = true := by kernel_rfl
theorem x320_D : 2 = dep Tryz.f320.ntmps := by kernel_rfl
theorem x320_s : ([] : List (Slot tf2)).map Slot.p = (List.range' 0 0).map (pth 2) := by kernel_rfl
def X320 : XFn Tryz.prog 4 (comp Tryz.prog) := ⟨X2,tf2,320,Tryz.f320,c320,2,18,[],z2,x320,y320,x320_D,Tryz.ntmps320.symm,Tryz.func320,x320_b,x320_k,x320_s,by decide,z2_ok,x320_c,x320_r⟩
def x321_0 : List (Ins tf2) := [iR1 bLd r2_1 s2_5,iP1 bLen r2_5 s2_6,iMv (rk (.int .i64 (.ofNat 0))) s2_7]
def x321_1 : List (Ins tf2) := [iP2 bLt r2_7 r2_6 s2_8]
def x321_2 : List (Ins tf2) := [iMv r2_7 s2_9,iAs r2_9 s2_4]
def x321_3 : List (Ins tf2) := [iMv r2_0 s2_10,iR1 bLd r2_1 s2_11,iMv r2_4 s2_12,iP2 (bIxs 1) r2_11 r2_12 s2_13,iR1 bLd r2_13 s2_14,iR1 bLd r2_2 s2_15,iMv r2_4 s2_16,iP2 (bIxs 1) r2_15 r2_16 s2_17,iR1 bLd r2_17 s2_18,iCall r2_10 [r2_14,r2_18] (some s2_19),iGp (l1 (pUn .not)) [r2_19] (some s2_20)]
def x321_4 : List (Ins tf2) := [iP2 bAdd r2_7 (rk (.int .i64 (.ofNat 1))) s2_21,iMv r2_21 s2_7]
def x321 : XC tf2 := (.rg x321_0 (.block 0 (.loop (.rg x321_1 (.seq (.cond r2_8 .skip (.exit 0)) (.seq (.block 1 (.rg x321_2 (.rg x321_3 (.cond r2_20 .ret .skip)))) (.reg x321_4)))))))
def c321 : Code := Tryz.f321.body.getD .skip
theorem x321_b : Tryz.f321.body = some c321 := by kernel_rfl
theorem x321_c : cG (comp Tryz.prog) 4 2 22 x321 c321 = x321.den := by kernel_rfl
def y321 : List (RR Tryz.prog 2 22 tf2) := []
theorem x321_r : y321.map RR.den = Tryz.f321.results.toList := by kernel_rfl
theorem x321_k : okFn Tryz.f321 = true := by kernel_rfl
theorem x321_D : 2 = dep Tryz.f321.ntmps := by kernel_rfl
theorem x321_s : ([s2_0,s2_1,s2_2] : List (Slot tf2)).map Slot.p = (List.range' 0 3).map (pth 2) := by kernel_rfl
def X321 : XFn Tryz.prog 4 (comp Tryz.prog) := ⟨X2,tf2,321,Tryz.f321,c321,2,22,[s2_0,s2_1,s2_2],z2,x321,y321,x321_D,Tryz.ntmps321.symm,Tryz.func321,x321_b,x321_k,x321_s,by decide,z2_ok,x321_c,x321_r⟩
end
end Cr
end Go.Proofs.YtjhbabgcoemecaaGreatDoor
