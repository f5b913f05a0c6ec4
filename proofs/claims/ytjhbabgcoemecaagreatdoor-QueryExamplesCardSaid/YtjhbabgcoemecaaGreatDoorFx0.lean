/- A machine for closed runs: compiled functions (written by gen). -/
import Derived.Test.YtjhbabgcoemecaaGreatDoorFxA
import Derived.KernelRfl
namespace Go.Proofs.YtjhbabgcoemecaaGreatDoor
namespace Cr
open Go Go.RowKit
set_option maxRecDepth 100000
noncomputable section
def x5_0 : List (Ins tf3) := [iAs (rk (.bool false)) s3_0]
def x5_1 : List (Ins tf3) := [iCall (rk (.func (.func 15) #[] #[])) [] (some s3_23),iMv r3_23 s3_22,iGp (l1 (pExt 0)) [r3_22] (some s3_24),iGp (l1 (pExt 1)) [r3_22] (some s3_25),iGp (l1 (pExt 2)) [r3_22] (some s3_26),iAs r3_24 s3_1,iAs r3_25 s3_2,iAs r3_26 s3_3]
def x5_2 : List (Ins tf3) := [iMv r3_1 s3_27,iGp (l2 (pEqD (tdOf 32) false)) [r3_27,(rk (.pointer none))] (some s3_28)]
def x5_3 : List (Ins tf3) := [iAs (rk (.bool false)) s3_0]
def x5_4 : List (Ins tf3) := [iMv r3_1 s3_30,iMv r3_2 s3_31,iMv r3_3 s3_32,iP2 (bIxs 7) r3_32 (rk (.int .i64 (.ofNat 0))) s3_33,iGr (r1 (rLdn 7)) [r3_33] (some s3_34),iMv r3_3 s3_35,iP2 (bIxs 7) r3_35 (rk (.int .i64 (.ofNat 0))) s3_36,iGr (r1 (rLdn 7)) [r3_36] (some s3_37),iCall (rk (.func (.func 8) #[] #[])) [r3_30,r3_31,(rk (.int .i64 (.ofNat 0))),r3_34,r3_37] (some s3_38),iMv r3_38 s3_29,iGp (l1 (pExt 0)) [r3_29] (some s3_39),iGp (l1 (pExt 1)) [r3_29] (some s3_40),iAs r3_39 s3_4,iAs r3_40 s3_5]
def x5_5 : List (Ins tf3) := [iMv r3_1 s3_42,iMv r3_2 s3_43,iMv r3_3 s3_44,iP2 (bIxs 7) r3_44 (rk (.int .i64 (.ofNat 0))) s3_45,iGr (r1 (rLdn 7)) [r3_45] (some s3_46),iMv r3_3 s3_47,iP2 (bIxs 7) r3_47 (rk (.int .i64 (.ofNat 1))) s3_48,iGr (r1 (rLdn 7)) [r3_48] (some s3_49),iCall (rk (.func (.func 8) #[] #[])) [r3_42,r3_43,(rk (.int .i64 (.ofNat 1))),r3_46,r3_49] (some s3_50),iMv r3_50 s3_41,iGp (l1 (pExt 0)) [r3_41] (some s3_51),iGp (l1 (pExt 1)) [r3_41] (some s3_52),iAs r3_51 s3_6,iAs r3_52 s3_7]
def x5_6 : List (Ins tf3) := [iAs (rk (.int .u64 (.ofNat 0))) s3_8]
def x5_7 : List (Ins tf3) := [iMv r3_8 s3_53,iP2 bLt r3_53 (rk (.int .u64 (.ofNat 16))) s3_54]
def x5_8 : List (Ins tf3) := [iMv r3_2 s3_58,iMv r3_4 s3_59,iMv r3_8 s3_60,iGp (l2 (pBin .rem)) [r3_60,(rk (.int .u64 (.ofNat 4)))] (some s3_61),iMv r3_8 s3_62,iGp (l2 (pBin .quo)) [r3_62,(rk (.int .u64 (.ofNat 4)))] (some s3_63),iGa (aBsl 4 1 [(.int .u64 (.ofNat 0))] [(0,1),(1,1),(2,1),(3,1)]) [(rk (.int .u64 (.ofNat 0))),(rk (.int .u64 (.ofNat 0))),r3_61,r3_63] (some s3_64),iCall (rk (.func (.func 11) #[] #[])) [r3_58,r3_59,r3_64] (some s3_65),iMv r3_65 s3_57,iGp (l1 (pExt 0)) [r3_57] (some s3_66),iGp (l1 (pExt 1)) [r3_57] (some s3_67),iAs r3_66 s3_9,iAs r3_67 s3_10]
def x5_9 : List (Ins tf3) := [iMv r3_2 s3_69,iMv r3_6 s3_70,iMv r3_8 s3_71,iGp (l2 (pBin .rem)) [r3_71,(rk (.int .u64 (.ofNat 4)))] (some s3_72),iMv r3_8 s3_73,iGp (l2 (pBin .quo)) [r3_73,(rk (.int .u64 (.ofNat 4)))] (some s3_74),iGa (aBsl 4 1 [(.int .u64 (.ofNat 0))] [(0,1),(1,1),(2,1),(3,1)]) [(rk (.int .u64 (.ofNat 0))),(rk (.int .u64 (.ofNat 0))),r3_72,r3_74] (some s3_75),iCall (rk (.func (.func 11) #[] #[])) [r3_69,r3_70,r3_75] (some s3_76),iMv r3_76 s3_68,iGp (l1 (pExt 0)) [r3_68] (some s3_77),iGp (l1 (pExt 1)) [r3_68] (some s3_78),iAs r3_77 s3_11,iAs r3_78 s3_12]
def x5_10 : List (Ins tf3) := [iMv r3_9 s3_79,iP2 bNe r3_79 (rk (.int .u64 (.ofNat 0))) s3_80,iMv r3_80 s3_81,iGd r3_81 [.o1,.o2,.o1] false (iMv r3_10 s3_82) (some s3_82) rfl rfl rfl,iGd r3_81 [.o1,.o2,.o1] false (iP2 bNe r3_82 (rk (.int .i64 (.ofNat 0))) s3_83) (some s3_83) rfl rfl rfl,iGp (l3 pPick) [r3_81,(rk (.bool true)),r3_83] (some s3_84),iMv r3_84 s3_85,iGd r3_85 [.o5,.o2,.o1] false (iMv r3_11 s3_86) (some s3_86) rfl rfl rfl,iGd r3_85 [.o5,.o2,.o1] false (iP2 bNe r3_86 (rk (.int .u64 (.ofNat 0))) s3_87) (some s3_87) rfl rfl rfl,iGp (l3 pPick) [r3_85,(rk (.bool true)),r3_87] (some s3_88),iMv r3_88 s3_89,iGd r3_89 [.o1,.o3,.o1] false (iMv r3_12 s3_90) (some s3_90) rfl rfl rfl,iGd r3_89 [.o1,.o3,.o1] false (iP2 bNe r3_90 (rk (.int .i64 (.ofNat 0))) s3_91) (some s3_91) rfl rfl rfl,iGp (l3 pPick) [r3_89,(rk (.bool true)),r3_91] (some s3_92)]
def x5_11 : List (Ins tf3) := [iAs (rk (.bool false)) s3_0]
def x5_12 : List (Ins tf3) := [iMv r3_8 s3_55,iP2 bAdd r3_55 (rk (.int .u64 (.ofNat 1))) s3_56,iAs r3_56 s3_8]
def x5_13 : List (Ins tf3) := [iMv r3_1 s3_94,iMv r3_2 s3_95,iMv r3_3 s3_96,iP2 (bIxs 7) r3_96 (rk (.int .i64 (.ofNat 0))) s3_97,iGr (r1 (rLdn 7)) [r3_97] (some s3_98),iMv r3_3 s3_99,iP2 (bIxs 7) r3_99 (rk (.int .i64 (.ofNat 1))) s3_100,iGr (r1 (rLdn 7)) [r3_100] (some s3_101),iCall (rk (.func (.func 13) #[] #[])) [r3_94,r3_95,(rk (.int .i64 (.ofNat 0))),r3_98,r3_101] (some s3_102),iMv r3_102 s3_93,iGp (l1 (pExt 0)) [r3_93] (some s3_103),iGp (l1 (pExt 1)) [r3_93] (some s3_104),iAs r3_103 s3_13,iAs r3_104 s3_14]
def x5_14 : List (Ins tf3) := [iMv r3_5 s3_105,iP2 bNe r3_105 (rk (.int .i64 (.ofNat 0))) s3_106,iMv r3_106 s3_107,iGd r3_107 [.o3,.o5,.o1] false (iMv r3_7 s3_108) (some s3_108) rfl rfl rfl,iGd r3_107 [.o3,.o5,.o1] false (iP2 bNe r3_108 (rk (.int .i64 (.ofNat 0))) s3_109) (some s3_109) rfl rfl rfl,iGp (l3 pPick) [r3_107,(rk (.bool true)),r3_109] (some s3_110),iMv r3_110 s3_111,iGd r3_111 [.o7,.o5,.o1] false (iMv r3_13 s3_112) (some s3_112) rfl rfl rfl,iGp (l3 pPick) [r3_111,(rk (.bool true)),r3_112] (some s3_113),iMv r3_113 s3_114,iGd r3_114 [.o2,.o6,.o1] false (iMv r3_14 s3_115) (some s3_115) rfl rfl rfl,iGd r3_114 [.o2,.o6,.o1] false (iP2 bNe r3_115 (rk (.int .i64 (.ofNat 0))) s3_116) (some s3_116) rfl rfl rfl,iGp (l3 pPick) [r3_114,(rk (.bool true)),r3_116] (some s3_117)]
def x5_15 : List (Ins tf3) := [iAs (rk (.bool false)) s3_0]
def x5_16 : List (Ins tf3) := [iAs (rk (.pointer none)) s3_15]
def x5_17 : List (Ins tf3) := [iMv r3_15 s3_119,iMv r3_2 s3_120,iMv r3_3 s3_121,iP2 (bIxs 7) r3_121 (rk (.int .i64 (.ofNat 0))) s3_122,iGr (r1 (rLdn 7)) [r3_122] (some s3_123),iMv r3_3 s3_124,iP2 (bIxs 7) r3_124 (rk (.int .i64 (.ofNat 1))) s3_125,iGr (r1 (rLdn 7)) [r3_125] (some s3_126),iCall (rk (.func (.func 8) #[] #[])) [r3_119,r3_120,(rk (.int .i64 (.ofNat 0))),r3_123,r3_126] (some s3_127),iMv r3_127 s3_118,iGp (l1 (pExt 0)) [r3_118] (some s3_128),iGp (l1 (pExt 1)) [r3_118] (some s3_129),iAs r3_129 s3_5]
def x5_18 : List (Ins tf3) := [iMv r3_1 s3_131,iMv r3_3 s3_132,iP2 (bIxs 7) r3_132 (rk (.int .i64 (.ofNat 0))) s3_133,iGr (r1 (rLdn 7)) [r3_133] (some s3_134),iMv r3_3 s3_135,iP2 (bIxs 7) r3_135 (rk (.int .i64 (.ofNat 1))) s3_136,iGr (r1 (rLdn 7)) [r3_136] (some s3_137),iCall (rk (.func (.func 8) #[] #[])) [r3_131,(rk (.pointer none)),(rk (.int .i64 (.ofNat 0))),r3_134,r3_137] (some s3_138),iMv r3_138 s3_130,iGp (l1 (pExt 0)) [r3_130] (some s3_139),iGp (l1 (pExt 1)) [r3_130] (some s3_140),iAs r3_140 s3_7]
def x5_19 : List (Ins tf3) := [iMv r3_15 s3_142,iMv r3_2 s3_143,iMv r3_3 s3_144,iP2 (bIxs 7) r3_144 (rk (.int .i64 (.ofNat 0))) s3_145,iGr (r1 (rLdn 7)) [r3_145] (some s3_146),iMv r3_3 s3_147,iP2 (bIxs 7) r3_147 (rk (.int .i64 (.ofNat 1))) s3_148,iGr (r1 (rLdn 7)) [r3_148] (some s3_149),iCall (rk (.func (.func 13) #[] #[])) [r3_142,r3_143,(rk (.int .i64 (.ofNat 0))),r3_146,r3_149] (some s3_150),iMv r3_150 s3_141,iGp (l1 (pExt 0)) [r3_141] (some s3_151),iGp (l1 (pExt 1)) [r3_141] (some s3_152),iAs r3_152 s3_14]
def x5_20 : List (Ins tf3) := [iGa (aBsl 1 1 [(.int .i64 (.ofNat 0))] [(0,1)]) [(rk (.int .i64 (.ofNat 0)))] (some s3_154),iCall (rk (.func (.func 16) #[] #[])) [(rk (.pointer none)),r3_154,(rk (.slice none 0 0)),(rk (.bool true))] (some s3_155),iMv r3_155 s3_153,iGp (l1 (pExt 0)) [r3_153] (some s3_156),iGp (l1 (pExt 1)) [r3_153] (some s3_157),iAs r3_156 s3_16,iAs r3_157 s3_17]
def x5_21 : List (Ins tf3) := [iCall (rk (.func (.func 17) #[] #[])) [] (some s3_159),iCall (rk (.func (.func 16) #[] #[])) [r3_159,(rk (.slice none 0 0)),(rk (.slice none 0 0)),(rk (.bool true))] (some s3_160),iMv r3_160 s3_158,iGp (l1 (pExt 0)) [r3_158] (some s3_161),iGp (l1 (pExt 1)) [r3_158] (some s3_162),iAs r3_161 s3_18,iAs r3_162 s3_19]
def x5_22 : List (Ins tf3) := [iMv r3_1 s3_164,iMv r3_2 s3_165,iMv r3_3 s3_166,iP2 (bIxs 7) r3_166 (rk (.int .i64 (.ofNat 0))) s3_167,iGr (r1 (rLdn 7)) [r3_167] (some s3_168),iMv r3_3 s3_169,iP2 (bIxs 7) r3_169 (rk (.int .i64 (.ofNat 1))) s3_170,iGr (r1 (rLdn 7)) [r3_170] (some s3_171),iCall (rk (.func (.func 8) #[] #[])) [r3_164,r3_165,(rk (.int .i64 (.ofNat 2))),r3_168,r3_171] (some s3_172),iMv r3_172 s3_163,iGp (l1 (pExt 0)) [r3_163] (some s3_173),iGp (l1 (pExt 1)) [r3_163] (some s3_174),iAs r3_173 s3_20,iAs r3_174 s3_21]
def x5_23 : List (Ins tf3) := [iMv r3_5 s3_175,iP2 bEq r3_175 (rk (.int .i64 (.ofNat 1))) s3_176,iMv r3_176 s3_177,iGd r3_177 [.o1,.o6,.o2] true (iMv r3_7 s3_178) (some s3_178) rfl rfl rfl,iGd r3_177 [.o1,.o6,.o2] true (iP2 bEq r3_178 (rk (.int .i64 (.ofNat 1))) s3_179) (some s3_179) rfl rfl rfl,iGp (l3 pPick) [r3_177,r3_179,(rk (.bool false))] (some s3_180),iMv r3_180 s3_181,iGd r3_181 [.o5,.o6,.o2] true (iMv r3_14 s3_182) (some s3_182) rfl rfl rfl,iGd r3_181 [.o5,.o6,.o2] true (iP2 bEq r3_182 (rk (.int .i64 (.ofNat 1))) s3_183) (some s3_183) rfl rfl rfl,iGp (l3 pPick) [r3_181,r3_183,(rk (.bool false))] (some s3_184),iMv r3_184 s3_185,iGd r3_185 [.o1,.o7,.o2] true (iMv r3_17 s3_186) (some s3_186) rfl rfl rfl,iGd r3_185 [.o1,.o7,.o2] true (iP2 bEq r3_186 (rk (.int .i64 (.ofNat 1))) s3_187) (some s3_187) rfl rfl rfl,iGp (l3 pPick) [r3_185,r3_187,(rk (.bool false))] (some s3_188),iMv r3_188 s3_189,iGd r3_189 [.o5,.o7,.o2] true (iMv r3_19 s3_190) (some s3_190) rfl rfl rfl,iGd r3_189 [.o5,.o7,.o2] true (iP2 bEq r3_190 (rk (.int .i64 (.ofNat 3))) s3_191) (some s3_191) rfl rfl rfl,iGp (l3 pPick) [r3_189,r3_191,(rk (.bool false))] (some s3_192),iMv r3_192 s3_193,iGd r3_193 [.o1,.o0,.o3] true (iMv r3_21 s3_194) (some s3_194) rfl rfl rfl,iGd r3_193 [.o1,.o0,.o3] true (iP2 bEq r3_194 (rk (.int .i64 (.ofNat 3))) s3_195) (some s3_195) rfl rfl rfl,iGp (l3 pPick) [r3_193,r3_195,(rk (.bool false))] (some s3_196),iMv r3_196 s3_197,iGd r3_197 [.o5,.o0,.o3] true (iCall (rk (.func (.func 7) #[] #[])) [] (some s3_198)) (some s3_198) rfl rfl rfl,iGp (l3 pPick) [r3_197,r3_198,(rk (.bool false))] (some s3_199),iAs r3_199 s3_0]
def x5_24 : XC tf3 := (.seq (.rg x5_2 (.cond r3_28 (.rg x5_3 .ret) .skip)) (.rg x5_4 (.rg x5_5 (.seq (.rg x5_6 (.block 0 (.loop (.seq (.rg x5_7 (.cond r3_54 .skip (.exit 0))) (.seq (.block 1 (.rg x5_8 (.rg x5_9 (.rg x5_10 (.cond r3_92 (.rg x5_11 .ret) .skip))))) (.reg x5_12)))))) (.rg x5_13 (.seq (.rg x5_14 (.cond r3_117 (.rg x5_15 .ret) .skip)) (.rg x5_16 (.rg x5_17 (.rg x5_18 (.rg x5_19 (.rg x5_20 (.rg x5_21 (.rg x5_22 (.rg x5_23 .ret))))))))))))))
def x5 : XC tf3 := (.rg x5_0 (.rg x5_1 x5_24))
def c5 : Code := Tryz.f5.body.getD .skip
theorem x5_b : Tryz.f5.body = some c5 := by kernel_rfl
theorem x5_c : cG (comp Tryz.prog) 4 3 200 x5 c5 = x5.den := by kernel_rfl
def y5 : List (RR Tryz.prog 3 200 tf3) := [rrT r3_0 0 rfl rfl]
theorem x5_r : y5.map RR.den = Tryz.f5.results.toList := by kernel_rfl
theorem x5_k : okFn Tryz.f5 = true := by kernel_rfl
theorem x5_D : 3 = dep Tryz.f5.ntmps := by kernel_rfl
theorem x5_s : ([] : List (Slot tf3)).map Slot.p = (List.range' 0 0).map (pth 3) := by kernel_rfl
def X5 : XFn Tryz.prog 4 (comp Tryz.prog) := ⟨X3,tf3,5,Tryz.f5,c5,3,200,[],z3,x5,y5,x5_D,Tryz.ntmps5.symm,Tryz.func5,x5_b,x5_k,x5_s,by decide,z3_ok,x5_c,x5_r⟩
def x7_0 : List (Ins tf3) := [iAs (rk (.bool false)) s3_0]
def x7_1 : List (Ins tf3) := [iCall (rk (.func (.func 15) #[] #[])) [] (some s3_12),iMv r3_12 s3_11,iGp (l1 (pExt 0)) [r3_11] (some s3_13),iGp (l1 (pExt 1)) [r3_11] (some s3_14),iGp (l1 (pExt 2)) [r3_11] (some s3_15),iAs r3_13 s3_1,iAs r3_14 s3_2,iAs r3_15 s3_3]
def x7_2 : List (Ins tf3) := [iMv r3_1 s3_16,iGp (l2 (pEqD (tdOf 32) false)) [r3_16,(rk (.pointer none))] (some s3_17)]
def x7_3 : List (Ins tf3) := [iAs (rk (.bool false)) s3_0]
def x7_4 : List (Ins tf3) := [iMv r3_1 s3_19,iMv r3_2 s3_20,iMv r3_3 s3_21,iP2 (bIxs 7) r3_21 (rk (.int .i64 (.ofNat 0))) s3_22,iGr (r1 (rLdn 7)) [r3_22] (some s3_23),iMv r3_3 s3_24,iP2 (bIxs 7) r3_24 (rk (.int .i64 (.ofNat 1))) s3_25,iGr (r1 (rLdn 7)) [r3_25] (some s3_26),iCall (rk (.func (.func 8) #[] #[])) [r3_19,r3_20,(rk (.int .i64 (.ofNat 0))),r3_23,r3_26] (some s3_27),iMv r3_27 s3_18,iGp (l1 (pExt 0)) [r3_18] (some s3_28),iGp (l1 (pExt 1)) [r3_18] (some s3_29),iAs r3_28 s3_4,iAs r3_29 s3_5]
def x7_5 : List (Ins tf3) := [iAs (rk (.int .u64 (.ofNat 0))) s3_6]
def x7_6 : List (Ins tf3) := [iMv r3_6 s3_30,iP2 bLt r3_30 (rk (.int .u64 (.ofNat 16))) s3_31]
def x7_7 : List (Ins tf3) := [iMv r3_2 s3_35,iMv r3_4 s3_36,iMv r3_6 s3_37,iGp (l2 (pBin .rem)) [r3_37,(rk (.int .u64 (.ofNat 4)))] (some s3_38),iMv r3_6 s3_39,iGp (l2 (pBin .quo)) [r3_39,(rk (.int .u64 (.ofNat 4)))] (some s3_40),iGa (aBsl 4 1 [(.int .u64 (.ofNat 0))] [(0,1),(1,1),(2,1),(3,1)]) [(rk (.int .u64 (.ofNat 0))),(rk (.int .u64 (.ofNat 0))),r3_38,r3_40] (some s3_41),iCall (rk (.func (.func 11) #[] #[])) [r3_35,r3_36,r3_41] (some s3_42),iMv r3_42 s3_34,iGp (l1 (pExt 0)) [r3_34] (some s3_43),iGp (l1 (pExt 1)) [r3_34] (some s3_44),iAs r3_43 s3_7,iAs r3_44 s3_8]
def x7_8 : List (Ins tf3) := [iMv r3_8 s3_45,iP2 bNe r3_45 (rk (.int .i64 (.ofNat 0))) s3_46,iMv r3_46 s3_47,iGd r3_47 [.o7,.o5,.o0] false (iMv r3_7 s3_48) (some s3_48) rfl rfl rfl,iGd r3_47 [.o7,.o5,.o0] false (iP2 bNe r3_48 (rk (.int .u64 (.ofNat 0))) s3_49) (some s3_49) rfl rfl rfl,iGd r3_47 [.o7,.o5,.o0] false (iMv r3_6 s3_50) (some s3_50) rfl rfl rfl,iGd r3_47 [.o7,.o5,.o0] false (iGp (l2 (pBin .rem)) [r3_50,(rk (.int .u64 (.ofNat 4)))] (some s3_51)) (some s3_51) rfl rfl rfl,iGd r3_47 [.o7,.o5,.o0] false (iP2 bNe r3_51 (rk (.int .u64 (.ofNat 3))) s3_52) (some s3_52) rfl rfl rfl,iGd r3_47 [.o7,.o5,.o0] false (iMv r3_52 s3_53) (some s3_53) rfl rfl rfl,iGd r3_53 [.o5,.o6,.o0] true (iMv r3_6 s3_54) (some s3_54) rfl rfl rfl,iGd r3_53 [.o5,.o6,.o0] true (iGp (l2 (pBin .quo)) [r3_54,(rk (.int .u64 (.ofNat 4)))] (some s3_55)) (some s3_55) rfl rfl rfl,iGd r3_53 [.o5,.o6,.o0] true (iP2 bEq r3_55 (rk (.int .u64 (.ofNat 3))) s3_56) (some s3_56) rfl rfl rfl,iGd r3_47 [.o7,.o5,.o0] false (iGp (l3 pPick) [r3_53,r3_56,(rk (.bool false))] (some s3_57)) (some s3_57) rfl rfl rfl,iGd r3_47 [.o7,.o5,.o0] false (iGp (l2 (pEqD (tdOf 4) true)) [r3_49,r3_57] (some s3_58)) (some s3_58) rfl rfl rfl,iGp (l3 pPick) [r3_47,(rk (.bool true)),r3_58] (some s3_59)]
def x7_9 : List (Ins tf3) := [iAs (rk (.bool false)) s3_0]
def x7_10 : List (Ins tf3) := [iMv r3_6 s3_32,iP2 bAdd r3_32 (rk (.int .u64 (.ofNat 1))) s3_33,iAs r3_33 s3_6]
def x7_11 : List (Ins tf3) := [iMv r3_1 s3_61,iMv r3_2 s3_62,iMv r3_3 s3_63,iP2 (bIxs 7) r3_63 (rk (.int .i64 (.ofNat 0))) s3_64,iGr (r1 (rLdn 7)) [r3_64] (some s3_65),iMv r3_3 s3_66,iP2 (bIxs 7) r3_66 (rk (.int .i64 (.ofNat 0))) s3_67,iGr (r1 (rLdn 7)) [r3_67] (some s3_68),iCall (rk (.func (.func 13) #[] #[])) [r3_61,r3_62,(rk (.int .i64 (.ofNat 0))),r3_65,r3_68] (some s3_69),iMv r3_69 s3_60,iGp (l1 (pExt 0)) [r3_60] (some s3_70),iGp (l1 (pExt 1)) [r3_60] (some s3_71),iAs r3_70 s3_9,iAs r3_71 s3_10]
def x7_12 : List (Ins tf3) := [iMv r3_5 s3_72,iP2 bEq r3_72 (rk (.int .i64 (.ofNat 0))) s3_73,iMv r3_73 s3_74,iGd r3_74 [.o2,.o1,.o1] true (iMv r3_9 s3_75) (some s3_75) rfl rfl rfl,iGp (l3 pPick) [r3_74,r3_75,(rk (.bool false))] (some s3_76),iMv r3_76 s3_77,iGd r3_77 [.o5,.o1,.o1] true (iMv r3_10 s3_78) (some s3_78) rfl rfl rfl,iGd r3_77 [.o5,.o1,.o1] true (iP2 bEq r3_78 (rk (.int .i64 (.ofNat 0))) s3_79) (some s3_79) rfl rfl rfl,iGp (l3 pPick) [r3_77,r3_79,(rk (.bool false))] (some s3_80),iAs r3_80 s3_0]
def x7 : XC tf3 := (.rg x7_0 (.rg x7_1 (.seq (.rg x7_2 (.cond r3_17 (.rg x7_3 .ret) .skip)) (.rg x7_4 (.seq (.rg x7_5 (.block 0 (.loop (.seq (.rg x7_6 (.cond r3_31 .skip (.exit 0))) (.seq (.block 1 (.rg x7_7 (.rg x7_8 (.cond r3_59 (.rg x7_9 .ret) .skip)))) (.reg x7_10)))))) (.rg x7_11 (.rg x7_12 .ret)))))))
def c7 : Code := Tryz.f7.body.getD .skip
theorem x7_b : Tryz.f7.body = some c7 := by kernel_rfl
theorem x7_c : cG (comp Tryz.prog) 4 3 81 x7 c7 = x7.den := by kernel_rfl
def y7 : List (RR Tryz.prog 3 81 tf3) := [rrT r3_0 0 rfl rfl]
theorem x7_r : y7.map RR.den = Tryz.f7.results.toList := by kernel_rfl
theorem x7_k : okFn Tryz.f7 = true := by kernel_rfl
theorem x7_D : 3 = dep Tryz.f7.ntmps := by kernel_rfl
theorem x7_s : ([] : List (Slot tf3)).map Slot.p = (List.range' 0 0).map (pth 3) := by kernel_rfl
def X7 : XFn Tryz.prog 4 (comp Tryz.prog) := ⟨X3,tf3,7,Tryz.f7,c7,3,81,[],z3,x7,y7,x7_D,Tryz.ntmps7.symm,Tryz.func7,x7_b,x7_k,x7_s,by decide,z3_ok,x7_c,x7_r⟩
def x8_0 : List (Ins tf3) := [iGa (a1 gBox) [r3_0] (some s3_5),iGa (a1 gBox) [r3_1] (some s3_6),iGa (a1 gBox) [r3_2] (some s3_7),iGa (a1 gBox) [r3_3] (some s3_8),iGa (a1 gBox) [r3_4] (some s3_9),iAs (rk (.int .i64 (.ofNat 0))) s3_10,iAs (rk (.int .i64 (.ofNat 0))) s3_11]
def x8_1 : List (Ins tf3) := [iR1 bLd r3_5 s3_27,iR1 bLd r3_6 s3_28,iR1 bLd r3_7 s3_29,iGr (r1 (rLdn 7)) [r3_8] (some s3_30),iGr (r1 (rLdn 7)) [r3_9] (some s3_31),iGa (aBsl 2 7 [(.slice none 0 0),(.int .u8 (.ofNat 0)),(.int .i64 (.ofNat 0)),(.slice none 0 0),(.slice none 0 0),(.slice none 0 0),(.slice none 0 0)] [(0,7),(7,7)]) [r3_30,r3_31] (some s3_32),iCall (rk (.func (.func 23) #[] #[])) [r3_27,r3_28,r3_29,r3_32] (some s3_33),iAs r3_33 s3_12]
def x8_2 : List (Ins tf3) := [iMv r3_12 s3_34,iP2 bNe r3_34 (rk (.int .i64 (.ofNat 0))) s3_35]
def x8_3 : List (Ins tf3) := [iMv r3_12 s3_36,iAs (rk (.int .i64 (.ofNat 0))) s3_10,iAs r3_36 s3_11]
def x8_4 : List (Ins tf3) := [iR1 bLd r3_6 s3_38,iGr (r1 (rLdn 7)) [r3_8] (some s3_39),iGr (r1 (rLdn 7)) [r3_9] (some s3_41),iRc (iCall (rk (.func (.func 25) #[] #[])) [r3_39] (some s3_40)) [(rcS ⟨none,.r (r1 (rLdn 7)),[(.t [.o1,.o1,.o0])],(some [.o1,.o5,.o0])⟩),(rcLd r3_6 r3_38 [.o6,.o4,.o0] rfl)] rfl,iRc (iCall (rk (.func (.func 25) #[] #[])) [r3_41] (some s3_42)) [(rcLd r3_6 r3_38 [.o6,.o4,.o0] rfl)] rfl,iRc (iGm (m2 (sApp 1)) [r3_40,r3_42] (some s3_43)) [(rcLd r3_6 r3_38 [.o6,.o4,.o0] rfl)] rfl,iCall (rk (.func (.func 24) #[] #[])) [r3_38,r3_43] (some s3_44),iMv r3_44 s3_37,iGp (l1 (pExt 0)) [r3_37] (some s3_45),iGp (l1 (pExt 1)) [r3_37] (some s3_46),iAs r3_45 s3_13,iAs r3_46 s3_14]
def x8_5 : List (Ins tf3) := [iMv r3_14 s3_47,iP2 bNe r3_47 (rk (.int .i64 (.ofNat 0))) s3_48]
def x8_6 : List (Ins tf3) := [iMv r3_14 s3_49,iAs (rk (.int .i64 (.ofNat 0))) s3_10,iAs r3_49 s3_11]
def x8_7 : List (Ins tf3) := [iMv r3_13 s3_50,iP1 bLen r3_50 s3_51,iMv (rk (.int .i64 (.ofNat 0))) s3_52]
def x8_8 : List (Ins tf3) := [iP2 bLt r3_52 r3_51 s3_53]
def x8_9 : List (Ins tf3) := [iP2 (bIxs 1) r3_50 r3_52 s3_54,iR1 bLd r3_54 s3_55,iAs r3_55 s3_16]
def x8_10 : List (Ins tf3) := [iMv r3_16 s3_56,iGp (l2 (pBin .rem)) [r3_56,(rk (.int .i64 (.ofNat 2)))] (some s3_57),iP2 bEq r3_57 (rk (.int .i64 (.ofNat 1))) s3_58,iMv r3_58 s3_59,iGd r3_59 [.o3,.o7,.o0] false (iMv r3_16 s3_60) (some s3_60) rfl rfl rfl,iGd r3_59 [.o3,.o7,.o0] false (iP2 bGt r3_60 (rk (.int .i64 (.ofNat 4194302))) s3_61) (some s3_61) rfl rfl rfl,iGp (l3 pPick) [r3_59,(rk (.bool true)),r3_61] (some s3_62)]
def x8_11 : List (Ins tf3) := [iAs (rk (.int .i64 (.ofNat 0))) s3_10,iAs (rk (.int .i64 (.ofNat 2))) s3_11]
def x8_12 : List (Ins tf3) := [iP2 bAdd r3_52 (rk (.int .i64 (.ofNat 1))) s3_63,iMv r3_63 s3_52]
def x8_13 : List (Ins tf3) := [iR1 bLd r3_6 s3_64,iGp (pBld [(.pointer none),(.int .i64 (.ofNat 0))] [(0,1)]) [r3_64] (some s3_65),iGa (a1 gBox) [r3_65] (some s3_66),iGa (aAl 1 [(.pointer none)]) [] (some s3_17),iM2 bSt r3_17 r3_66]
def x8_14 : List (Ins tf3) := [iGp (pMkf (.func 26) 0) [r3_17,r3_6,r3_5,r3_7] (some s3_67),iGa (aAl 1 [.nilFunc]) [] (some s3_18),iM2 bSt r3_18 r3_67]
def x8_15 : List (Ins tf3) := [iGp (pMkf (.func 28) 0) [r3_18] (some s3_68),iAs r3_68 s3_19]
def x8_16 : List (Ins tf3) := [iAs (rk (.int .i64 (.ofNat 0))) s3_20]
def x8_17 : List (Ins tf3) := [iR1 bLd r3_5 s3_69,iP1 bNil r3_69 s3_70,iP1 (bFa 3) r3_70 s3_71,iR1 bLd r3_71 s3_72,iGp (l1 (pUn .not)) [r3_72] (some s3_73),iMv r3_73 s3_74,iGd r3_74 [.o2,.o1,.o1] true (iP1 (bFa 1) r3_8 s3_75) (some s3_75) rfl rfl rfl,iGd r3_74 [.o2,.o1,.o1] true (iR1 bLd r3_75 s3_76) (some s3_76) rfl rfl rfl,iGd r3_74 [.o2,.o1,.o1] true (iP2 bEq r3_76 (rk (.int .u8 (.ofNat 2))) s3_77) (some s3_77) rfl rfl rfl,iGd r3_74 [.o2,.o1,.o1] true (iMv r3_77 s3_78) (some s3_78) rfl rfl rfl,iGd r3_78 [.o6,.o1,.o1] false (iP1 (bFa 1) r3_9 s3_79) (some s3_79) rfl rfl rfl,iGd r3_78 [.o6,.o1,.o1] false (iR1 bLd r3_79 s3_80) (some s3_80) rfl rfl rfl,iGd r3_78 [.o6,.o1,.o1] false (iP2 bEq r3_80 (rk (.int .u8 (.ofNat 2))) s3_81) (some s3_81) rfl rfl rfl,iGd r3_74 [.o2,.o1,.o1] true (iGp (l3 pPick) [r3_78,(rk (.bool true)),r3_81] (some s3_82)) (some s3_82) rfl rfl rfl,iGp (l3 pPick) [r3_74,r3_82,(rk (.bool false))] (some s3_83)]
def x8_18 : List (Ins tf3) := [iAs (rk (.int .i64 (.ofNat 1))) s3_20]
def x8_19 : List (Ins tf3) := [iMv r3_20 s3_84,iP2 (bIxa 2 1) (rk (.pointer (some ⟨0,0,none⟩))) r3_84 s3_85,iR1 bLd r3_85 s3_86,iR1 bLd r3_17 s3_87,iR1 bLd r3_5 s3_88,iR1 bLd r3_7 s3_89,iR1 bLd r3_5 s3_90,iP1 bNil r3_90 s3_91,iP1 (bFa 2) r3_91 s3_92,iR1 bLd r3_92 s3_93,iP1 (bFa 4) r3_8 s3_94,iR1 bLd r3_94 s3_95,iMv r3_19 s3_97,iR1 bLd r3_5 s3_98,iR1 bLd r3_7 s3_99,iR1 bLd r3_5 s3_100,iP1 bNil r3_100 s3_101,iP1 (bFa 2) r3_101 s3_102,iR1 bLd r3_102 s3_103,iP1 (bFa 4) r3_9 s3_104,iR1 bLd r3_104 s3_105,iRc (iCall (rk (.func (.func 29) #[] #[])) [r3_88,r3_89,r3_93,r3_95] (some s3_96)) [(rcLd r3_104 r3_105 [.o1,.o5,.o1] rfl),(rcLd r3_102 r3_103 [.o7,.o4,.o1] rfl),(rcLd r3_5 r3_100 [.o4,.o4,.o1] rfl),(rcLd r3_7 r3_99 [.o3,.o4,.o1] rfl),(rcLd r3_5 r3_98 [.o2,.o4,.o1] rfl),(rcLd r3_17 r3_87 [.o7,.o2,.o1] rfl),(rcLd r3_85 r3_86 [.o6,.o2,.o1] rfl)] rfl,iRc (iCall (rk (.func (.func 29) #[] #[])) [r3_98,r3_99,r3_103,r3_105] (some s3_106)) [(rcLd r3_17 r3_87 [.o7,.o2,.o1] rfl),(rcLd r3_85 r3_86 [.o6,.o2,.o1] rfl)] rfl,iRc (iCall r3_97 [r3_106] (some s3_107)) [(rcLd r3_17 r3_87 [.o7,.o2,.o1] rfl),(rcLd r3_85 r3_86 [.o6,.o2,.o1] rfl)] rfl,iCall r3_86 [r3_87,r3_96,r3_107] (some s3_108),iAs r3_108 s3_21]
def x8_20 : List (Ins tf3) := [iR1 bLd r3_17 s3_109,iCall (rk (.func (.func 30) #[] #[])) [r3_109,(rk (.int .u64 (.ofNat 0)))] (some s3_110),iAs r3_110 s3_22]
def x8_21 : List (Ins tf3) := [iMv r3_20 s3_111,iP2 bEq r3_111 (rk (.int .i64 (.ofNat 1))) s3_112,iMv r3_112 s3_113,iGd r3_113 [.o1,.o6,.o1] false (iP1 (bFa 1) r3_8 s3_114) (some s3_114) rfl rfl rfl,iGd r3_113 [.o1,.o6,.o1] false (iR1 bLd r3_114 s3_115) (some s3_115) rfl rfl rfl,iGd r3_113 [.o1,.o6,.o1] false (iP1 (bFa 1) r3_9 s3_116) (some s3_116) rfl rfl rfl,iGd r3_113 [.o1,.o6,.o1] false (iR1 bLd r3_116 s3_117) (some s3_117) rfl rfl rfl,iGd r3_113 [.o1,.o6,.o1] false (iP2 bEq r3_115 r3_117 s3_118) (some s3_118) rfl rfl rfl,iGp (l3 pPick) [r3_113,(rk (.bool true)),r3_118] (some s3_119)]
def x8_22 : List (Ins tf3) := [iMv r3_20 s3_120,iP2 (bIxa 2 1) (rk (.pointer (some ⟨0,0,none⟩))) r3_120 s3_121,iR1 bLd r3_121 s3_122,iR1 bLd r3_17 s3_123,iR1 bLd r3_5 s3_124,iR1 bLd r3_7 s3_125,iR1 bLd r3_5 s3_126,iP1 bNil r3_126 s3_127,iP1 (bFa 1) r3_127 s3_128,iR1 bLd r3_128 s3_129,iP1 (bFa 3) r3_8 s3_130,iR1 bLd r3_130 s3_131,iMv r3_19 s3_133,iR1 bLd r3_5 s3_134,iR1 bLd r3_7 s3_135,iR1 bLd r3_5 s3_136,iP1 bNil r3_136 s3_137,iP1 (bFa 1) r3_137 s3_138,iR1 bLd r3_138 s3_139,iP1 (bFa 3) r3_9 s3_140,iR1 bLd r3_140 s3_141,iRc (iCall (rk (.func (.func 29) #[] #[])) [r3_124,r3_125,r3_129,r3_131] (some s3_132)) [(rcLd r3_140 r3_141 [.o5,.o1,.o2] rfl),(rcLd r3_138 r3_139 [.o3,.o1,.o2] rfl),(rcLd r3_5 r3_136 [.o0,.o1,.o2] rfl),(rcLd r3_7 r3_135 [.o7,.o0,.o2] rfl),(rcLd r3_5 r3_134 [.o6,.o0,.o2] rfl),(rcLd r3_17 r3_123 [.o3,.o7,.o1] rfl),(rcLd r3_121 r3_122 [.o2,.o7,.o1] rfl)] rfl,iRc (iCall (rk (.func (.func 29) #[] #[])) [r3_134,r3_135,r3_139,r3_141] (some s3_142)) [(rcLd r3_17 r3_123 [.o3,.o7,.o1] rfl),(rcLd r3_121 r3_122 [.o2,.o7,.o1] rfl)] rfl,iRc (iCall r3_133 [r3_142] (some s3_143)) [(rcLd r3_17 r3_123 [.o3,.o7,.o1] rfl),(rcLd r3_121 r3_122 [.o2,.o7,.o1] rfl)] rfl,iCall r3_122 [r3_123,r3_132,r3_143] (some s3_144),iAs r3_144 s3_22]
def x8_23 : List (Ins tf3) := [iP1 (bFa 0) r3_8 s3_145,iR1 bLd r3_145 s3_146,iGm (m2 (sApp 1)) [(rk (.slice none 0 0)),r3_146] (some s3_147),iAs r3_147 s3_23]
def x8_24 : List (Ins tf3) := [iP1 (bFa 0) r3_9 s3_148,iR1 bLd r3_148 s3_149,iP1 bLen r3_149 s3_150,iMv (rk (.int .i64 (.ofNat 0))) s3_151]
def x8_25 : List (Ins tf3) := [iP2 bLt r3_151 r3_150 s3_152]
def x8_26 : List (Ins tf3) := [iP2 (bIxs 1) r3_149 r3_151 s3_153,iR1 bLd r3_153 s3_154,iAs r3_154 s3_25]
def x8_27 : List (Ins tf3) := [iMv r3_23 s3_155,iR1 bLd r3_18 s3_156,iMv r3_25 s3_157,iCall r3_156 [r3_157] (some s3_158),iGa (aBsl 1 1 [(.int .i64 (.ofNat 0))] [(0,1)]) [r3_158] (some s3_159),iGm (m2 (sApp 1)) [r3_155,r3_159] (some s3_160),iAs r3_160 s3_23]
def x8_28 : List (Ins tf3) := [iP2 bAdd r3_151 (rk (.int .i64 (.ofNat 1))) s3_161,iMv r3_161 s3_151]
def x8_29 : List (Ins tf3) := [iR1 bLd r3_17 s3_162,iMv r3_23 s3_163,iMv r3_21 s3_164,iR1 bLd r3_17 s3_165,iMv r3_22 s3_166,iR1 bLd r3_17 s3_167,iRc (iCall (rk (.func (.func 30) #[] #[])) [r3_167,(rk (.int .u64 (.ofNat 0)))] (some s3_168)) [(rcLd r3_17 r3_165 [.o5,.o4,.o2] rfl),(rcLd r3_17 r3_162 [.o2,.o4,.o2] rfl)] rfl,iGa (aBsl 2 1 [(.int .i64 (.ofNat 0))] [(0,1),(1,1)]) [r3_166,r3_168] (some s3_169),iRc (iCall (rk (.func (.func 32) #[] #[])) [r3_165,(rk (.int .u8 (.ofNat 15))),r3_169] (some s3_170)) [(rcLd r3_17 r3_162 [.o2,.o4,.o2] rfl)] rfl,iGa (aBsl 2 1 [(.int .i64 (.ofNat 0))] [(0,1),(1,1)]) [r3_164,r3_170] (some s3_171),iRc (iGm (m2 (sApp 1)) [r3_163,r3_171] (some s3_172)) [(rcLd r3_17 r3_162 [.o2,.o4,.o2] rfl)] rfl,iCall (rk (.func (.func 31) #[] #[])) [r3_162,r3_172] (some s3_173),iAs r3_173 s3_26]
def x8_30 : List (Ins tf3) := [iR1 bLd r3_17 s3_174,iP1 bNil r3_174 s3_175,iP1 (bFa 1) r3_175 s3_176,iR1 bLd r3_176 s3_177,iP2 bNe r3_177 (rk (.int .i64 (.ofNat 0))) s3_178]
def x8_31 : List (Ins tf3) := [iR1 bLd r3_17 s3_179,iP1 bNil r3_179 s3_180,iP1 (bFa 1) r3_180 s3_181,iR1 bLd r3_181 s3_182,iRc (iAs (rk (.int .i64 (.ofNat 0))) s3_10) [(rcLd r3_181 r3_182 [.o6,.o6,.o2] rfl),(rcLd r3_17 r3_179 [.o3,.o6,.o2] rfl)] rfl,iAs r3_182 s3_11]
def x8_32 : List (Ins tf3) := [iMv r3_26 s3_183,iAs r3_183 s3_10,iAs (rk (.int .i64 (.ofNat 0))) s3_11]
def x8_33 : XC tf3 := (.rg x8_14 (.rg x8_15 (.rg x8_16 (.seq (.rg x8_17 (.cond r3_83 (.reg x8_18) .skip)) (.rg x8_19 (.rg x8_20 (.seq (.rg x8_21 (.cond r3_119 (.reg x8_22) .skip)) (.rg x8_23 (.seq (.rg x8_24 (.block 2 (.loop (.rg x8_25 (.seq (.cond r3_152 .skip (.exit 2)) (.seq (.block 3 (.rg x8_26 (.reg x8_27))) (.reg x8_28))))))) (.rg x8_29 (.seq (.rg x8_30 (.cond r3_178 (.rg x8_31 .ret) .skip)) (.rg x8_32 .ret))))))))))))
def x8 : XC tf3 := (.rg x8_0 (.seq (.rg x8_1 (.rg x8_2 (.cond r3_35 (.rg x8_3 .ret) .skip))) (.rg x8_4 (.seq (.rg x8_5 (.cond r3_48 (.rg x8_6 .ret) .skip)) (.seq (.rg x8_7 (.block 0 (.loop (.rg x8_8 (.seq (.cond r3_53 .skip (.exit 0)) (.seq (.block 1 (.rg x8_9 (.rg x8_10 (.cond r3_62 (.rg x8_11 .ret) .skip)))) (.reg x8_12))))))) (.rg x8_13 x8_33))))))
def c8 : Code := Tryz.f8.body.getD .skip
theorem x8_b : Tryz.f8.body = some c8 := by kernel_rfl
theorem x8_c : cG (comp Tryz.prog) 4 3 184 x8 c8 = x8.den := by kernel_rfl
def y8 : List (RR Tryz.prog 3 184 tf3) := [rrT r3_10 10 rfl rfl,rrT r3_11 11 rfl rfl]
theorem x8_r : y8.map RR.den = Tryz.f8.results.toList := by kernel_rfl
theorem x8_k : okFn Tryz.f8 = true := by kernel_rfl
theorem x8_D : 3 = dep Tryz.f8.ntmps := by kernel_rfl
theorem x8_s : ([s3_0,s3_1,s3_2,s3_3,s3_4] : List (Slot tf3)).map Slot.p = (List.range' 0 5).map (pth 3) := by kernel_rfl
def X8 : XFn Tryz.prog 4 (comp Tryz.prog) := ⟨X3,tf3,8,Tryz.f8,c8,3,184,[s3_0,s3_1,s3_2,s3_3,s3_4],z3,x8,y8,x8_D,Tryz.ntmps8.symm,Tryz.func8,x8_b,x8_k,x8_s,by decide,z3_ok,x8_c,x8_r⟩
def x11_0 : List (Ins tf2) := [iAs (rk (.int .u64 (.ofNat 0))) s2_6,iAs (rk (.int .i64 (.ofNat 0))) s2_7]
def x11_1 : List (Ins tf2) := [iMv r2_0 s2_11,iMv r2_1 s2_12,iGa (aBsl 1 1 [(.int .i64 (.ofNat 0))] [(0,1)]) [r2_12] (some s2_13),iMv r2_2 s2_14,iCall (rk (.func (.func 35) #[] #[])) [r2_11,r2_13,r2_14] (some s2_15),iMv r2_15 s2_10,iGp (l1 (pExt 0)) [r2_10] (some s2_16),iGp (l1 (pExt 1)) [r2_10] (some s2_17),iAs r2_16 s2_8,iAs r2_17 s2_9]
def x11_2 : List (Ins tf2) := [iMv r2_9 s2_18,iP2 bNe r2_18 (rk (.int .i64 (.ofNat 0))) s2_19]
def x11_3 : List (Ins tf2) := [iMv r2_9 s2_20,iAs (rk (.int .u64 (.ofNat 0))) s2_6,iAs r2_20 s2_7]
def x11_4 : List (Ins tf2) := [iMv r2_8 s2_21,iP2 (bIxs 1) r2_21 (rk (.int .i64 (.ofNat 0))) s2_22,iR1 bLd r2_22 s2_23,iAs r2_23 s2_6,iAs (rk (.int .i64 (.ofNat 0))) s2_7]
def x11 : XC tf2 := (.rg x11_0 (.rg x11_1 (.seq (.rg x11_2 (.cond r2_19 (.rg x11_3 .ret) .skip)) (.rg x11_4 .ret))))
def c11 : Code := Tryz.f11.body.getD .skip
theorem x11_b : Tryz.f11.body = some c11 := by kernel_rfl
theorem x11_c : cG (comp Tryz.prog) 4 2 24 x11 c11 = x11.den := by kernel_rfl
def y11 : List (RR Tryz.prog 2 24 tf2) := [rrT r2_6 6 rfl rfl,rrT r2_7 7 rfl rfl]
theorem x11_r : y11.map RR.den = Tryz.f11.results.toList := by kernel_rfl
theorem x11_k : okFn Tryz.f11 = true := by kernel_rfl
theorem x11_D : 2 = dep Tryz.f11.ntmps := by kernel_rfl
theorem x11_s : ([s2_0,s2_1,s2_2] : List (Slot tf2)).map Slot.p = (List.range' 0 3).map (pth 2) := by kernel_rfl
def X11 : XFn Tryz.prog 4 (comp Tryz.prog) := ⟨X2,tf2,11,Tryz.f11,c11,2,24,[s2_0,s2_1,s2_2],z2,x11,y11,x11_D,Tryz.ntmps11.symm,Tryz.func11,x11_b,x11_k,x11_s,by decide,z2_ok,x11_c,x11_r⟩
def x13_0 : List (Ins tf3) := [iGa (a1 gBox) [r3_3] (some s3_8),iGa (a1 gBox) [r3_4] (some s3_9),iAs (rk (.bool false)) s3_10,iAs (rk (.int .i64 (.ofNat 0))) s3_11]
def x13_1 : List (Ins tf3) := [iMv r3_0 s3_20,iMv r3_1 s3_21,iMv r3_2 s3_22,iGr (r1 (rLdn 7)) [r3_8] (some s3_23),iGr (r1 (rLdn 7)) [r3_9] (some s3_24),iGa (aBsl 2 7 [(.slice none 0 0),(.int .u8 (.ofNat 0)),(.int .i64 (.ofNat 0)),(.slice none 0 0),(.slice none 0 0),(.slice none 0 0),(.slice none 0 0)] [(0,7),(7,7)]) [r3_23,r3_24] (some s3_25),iCall (rk (.func (.func 23) #[] #[])) [r3_20,r3_21,r3_22,r3_25] (some s3_26),iAs r3_26 s3_12]
def x13_2 : List (Ins tf3) := [iMv r3_12 s3_27,iP2 bNe r3_27 (rk (.int .i64 (.ofNat 0))) s3_28]
def x13_3 : List (Ins tf3) := [iMv r3_12 s3_29,iAs (rk (.bool false)) s3_10,iAs r3_29 s3_11]
def x13_4 : List (Ins tf3) := [iMv r3_0 s3_30,iMv r3_2 s3_31,iMv r3_0 s3_32,iP1 bNil r3_32 s3_33,iP1 (bFa 1) r3_33 s3_34,iR1 bLd r3_34 s3_35,iP1 (bFa 3) r3_8 s3_36,iR1 bLd r3_36 s3_37,iMv r3_0 s3_39,iMv r3_2 s3_40,iMv r3_0 s3_41,iP1 bNil r3_41 s3_42,iP1 (bFa 1) r3_42 s3_43,iR1 bLd r3_43 s3_44,iP1 (bFa 3) r3_9 s3_45,iR1 bLd r3_45 s3_46,iRc (iCall (rk (.func (.func 29) #[] #[])) [r3_30,r3_31,r3_35,r3_37] (some s3_38)) [(rcLd r3_45 r3_46 [.o6,.o5,.o0] rfl),(rcLd r3_43 r3_44 [.o4,.o5,.o0] rfl)] rfl,iCall (rk (.func (.func 29) #[] #[])) [r3_39,r3_40,r3_44,r3_46] (some s3_47),iAs r3_38 s3_13,iAs r3_47 s3_14]
def x13_5 : List (Ins tf3) := [iP1 (bFa 1) r3_8 s3_48,iR1 bLd r3_48 s3_49,iP1 (bFa 1) r3_9 s3_50,iR1 bLd r3_50 s3_51,iP2 bNe r3_49 r3_51 s3_52,iMv r3_52 s3_53,iGd r3_53 [.o5,.o6,.o0] false (iP1 (bFa 1) r3_8 s3_54) (some s3_54) rfl rfl rfl,iGd r3_53 [.o5,.o6,.o0] false (iR1 bLd r3_54 s3_55) (some s3_55) rfl rfl rfl,iGd r3_53 [.o5,.o6,.o0] false (iP2 bEq r3_55 (rk (.int .u8 (.ofNat 2))) s3_56) (some s3_56) rfl rfl rfl,iGp (l3 pPick) [r3_53,(rk (.bool true)),r3_56] (some s3_57),iMv r3_57 s3_58,iGd r3_58 [.o2,.o7,.o0] false (iMv r3_13 s3_59) (some s3_59) rfl rfl rfl,iGd r3_58 [.o2,.o7,.o0] false (iP1 bLen r3_59 s3_60) (some s3_60) rfl rfl rfl,iGd r3_58 [.o2,.o7,.o0] false (iMv r3_14 s3_61) (some s3_61) rfl rfl rfl,iGd r3_58 [.o2,.o7,.o0] false (iP1 bLen r3_61 s3_62) (some s3_62) rfl rfl rfl,iGd r3_58 [.o2,.o7,.o0] false (iP2 bNe r3_60 r3_62 s3_63) (some s3_63) rfl rfl rfl,iGp (l3 pPick) [r3_58,(rk (.bool true)),r3_63] (some s3_64)]
def x13_6 : List (Ins tf3) := [iAs (rk (.bool false)) s3_10,iAs (rk (.int .i64 (.ofNat 0))) s3_11]
def x13_7 : List (Ins tf3) := [iMv r3_13 s3_65,iP1 bLen r3_65 s3_66,iMv (rk (.int .i64 (.ofNat 0))) s3_67]
def x13_8 : List (Ins tf3) := [iP2 bLt r3_67 r3_66 s3_68]
def x13_9 : List (Ins tf3) := [iMv r3_67 s3_69,iAs r3_69 s3_15]
def x13_10 : List (Ins tf3) := [iMv r3_13 s3_70,iMv r3_15 s3_71,iP2 (bIxs 2) r3_70 r3_71 s3_72,iGr (r1 (rLdn 2)) [r3_72] (some s3_73),iMv r3_14 s3_74,iMv r3_15 s3_75,iP2 (bIxs 2) r3_74 r3_75 s3_76,iGr (r1 (rLdn 2)) [r3_76] (some s3_77),iGp (l2 (pEqS [0,0] true)) [r3_73,r3_77] (some s3_78)]
def x13_11 : List (Ins tf3) := [iAs (rk (.bool false)) s3_10,iAs (rk (.int .i64 (.ofNat 0))) s3_11]
def x13_12 : List (Ins tf3) := [iMv r3_1 s3_80,iMv r3_13 s3_81,iMv r3_15 s3_82,iP2 (bIxs 2) r3_81 r3_82 s3_83,iP1 (bFa 1) r3_83 s3_84,iR1 bLd r3_84 s3_85,iGa (aBsl 1 1 [(.int .i64 (.ofNat 0))] [(0,1)]) [r3_85] (some s3_86),iCall (rk (.func (.func 24) #[] #[])) [r3_80,r3_86] (some s3_87),iMv r3_87 s3_79,iGp (l1 (pExt 0)) [r3_79] (some s3_88),iGp (l1 (pExt 1)) [r3_79] (some s3_89),iAs r3_88 s3_16,iAs r3_89 s3_17]
def x13_13 : List (Ins tf3) := [iMv r3_17 s3_90,iP2 bNe r3_90 (rk (.int .i64 (.ofNat 0))) s3_91]
def x13_14 : List (Ins tf3) := [iMv r3_17 s3_92,iAs (rk (.bool false)) s3_10,iAs r3_92 s3_11]
def x13_15 : List (Ins tf3) := [iMv r3_16 s3_93,iP1 bLen r3_93 s3_94,iMv (rk (.int .i64 (.ofNat 0))) s3_95]
def x13_16 : List (Ins tf3) := [iP2 bLt r3_95 r3_94 s3_96]
def x13_17 : List (Ins tf3) := [iP2 (bIxs 1) r3_93 r3_95 s3_97,iR1 bLd r3_97 s3_98,iAs r3_98 s3_19]
def x13_18 : List (Ins tf3) := [iMv r3_19 s3_99,iGp (l2 (pBin .rem)) [r3_99,(rk (.int .i64 (.ofNat 2)))] (some s3_100),iP2 bEq r3_100 (rk (.int .i64 (.ofNat 1))) s3_101,iMv r3_101 s3_102,iGd r3_102 [.o6,.o4,.o1] false (iMv r3_0 s3_103) (some s3_103) rfl rfl rfl,iGd r3_102 [.o6,.o4,.o1] false (iP1 bNil r3_103 s3_104) (some s3_104) rfl rfl rfl,iGd r3_102 [.o6,.o4,.o1] false (iP1 (bFa 0) r3_104 s3_105) (some s3_105) rfl rfl rfl,iGd r3_102 [.o6,.o4,.o1] false (iR1 bLd r3_105 s3_106) (some s3_106) rfl rfl rfl,iGd r3_102 [.o6,.o4,.o1] false (iMv r3_0 s3_107) (some s3_107) rfl rfl rfl,iGd r3_102 [.o6,.o4,.o1] false (iP1 bNil r3_107 s3_108) (some s3_108) rfl rfl rfl,iGd r3_102 [.o6,.o4,.o1] false (iP1 (bFa 1) r3_108 s3_109) (some s3_109) rfl rfl rfl,iGd r3_102 [.o6,.o4,.o1] false (iR1 bLd r3_109 s3_110) (some s3_110) rfl rfl rfl,iGd r3_102 [.o6,.o4,.o1] false (iMv r3_19 s3_111) (some s3_111) rfl rfl rfl,iGd r3_102 [.o6,.o4,.o1] false (iGp (l2 (pBin .quo)) [r3_111,(rk (.int .i64 (.ofNat 2)))] (some s3_112)) (some s3_112) rfl rfl rfl,iGd r3_102 [.o6,.o4,.o1] false (iMv r3_0 s3_113) (some s3_113) rfl rfl rfl,iGd r3_102 [.o6,.o4,.o1] false (iP1 bNil r3_113 s3_114) (some s3_114) rfl rfl rfl,iGd r3_102 [.o6,.o4,.o1] false (iP1 (bFa 1) r3_114 s3_115) (some s3_115) rfl rfl rfl,iGd r3_102 [.o6,.o4,.o1] false (iR1 bLd r3_115 s3_116) (some s3_116) rfl rfl rfl,iGd r3_102 [.o6,.o4,.o1] false (iP1 bLen r3_116 s3_117) (some s3_117) rfl rfl rfl,iGd r3_102 [.o6,.o4,.o1] false (iGp (l2 (pBin .rem)) [r3_112,r3_117] (some s3_118)) (some s3_118) rfl rfl rfl,iGd r3_102 [.o6,.o4,.o1] false (iP2 (bIxs 1) r3_110 r3_118 s3_119) (some s3_119) rfl rfl rfl,iGd r3_102 [.o6,.o4,.o1] false (iR1 bLd r3_119 s3_120) (some s3_120) rfl rfl rfl,iGd r3_102 [.o6,.o4,.o1] false (iMv r3_2 s3_121) (some s3_121) rfl rfl rfl,iGd r3_102 [.o6,.o4,.o1] false (iCall (rk (.func (.func 40) #[] #[])) [r3_106,r3_120,r3_121] (some s3_122)) (some s3_122) rfl rfl rfl,iGd r3_102 [.o6,.o4,.o1] false (iGp (l1 (pUn .not)) [r3_122] (some s3_123)) (some s3_123) rfl rfl rfl,iGp (l3 pPick) [r3_102,(rk (.bool true)),r3_123] (some s3_124)]
def x13_19 : List (Ins tf3) := [iAs (rk (.bool false)) s3_10,iAs (rk (.int .i64 (.ofNat 0))) s3_11]
def x13_20 : List (Ins tf3) := [iP2 bAdd r3_95 (rk (.int .i64 (.ofNat 1))) s3_125,iMv r3_125 s3_95]
def x13_21 : List (Ins tf3) := [iP2 bAdd r3_67 (rk (.int .i64 (.ofNat 1))) s3_126,iMv r3_126 s3_67]
def x13_22 : XC tf3 := (.rg x13_8 (.seq (.cond r3_68 .skip (.exit 0)) (.seq (.block 1 (.rg x13_9 (.seq (.rg x13_10 (.cond r3_78 (.rg x13_11 .ret) .skip)) (.rg x13_12 (.seq (.rg x13_13 (.cond r3_91 (.rg x13_14 .ret) .skip)) (.rg x13_15 (.block 2 (.loop (.rg x13_16 (.seq (.cond r3_96 .skip (.exit 2)) (.seq (.block 3 (.rg x13_17 (.rg x13_18 (.cond r3_124 (.rg x13_19 .ret) .skip)))) (.reg x13_20)))))))))))) (.reg x13_21))))
def x13_23 : List (Ins tf3) := [iAs (rk (.bool true)) s3_10,iAs (rk (.int .i64 (.ofNat 0))) s3_11]
def x13 : XC tf3 := (.rg x13_0 (.seq (.rg x13_1 (.rg x13_2 (.cond r3_28 (.rg x13_3 .ret) .skip))) (.rg x13_4 (.seq (.rg x13_5 (.cond r3_64 (.rg x13_6 .ret) .skip)) (.seq (.rg x13_7 (.block 0 (.loop x13_22))) (.rg x13_23 .ret))))))
def c13 : Code := Tryz.f13.body.getD .skip
theorem x13_b : Tryz.f13.body = some c13 := by kernel_rfl
theorem x13_c : cG (comp Tryz.prog) 4 3 127 x13 c13 = x13.den := by kernel_rfl
def y13 : List (RR Tryz.prog 3 127 tf3) := [rrT r3_10 10 rfl rfl,rrT r3_11 11 rfl rfl]
theorem x13_r : y13.map RR.den = Tryz.f13.results.toList := by kernel_rfl
theorem x13_k : okFn Tryz.f13 = true := by kernel_rfl
theorem x13_D : 3 = dep Tryz.f13.ntmps := by kernel_rfl
theorem x13_s : ([s3_0,s3_1,s3_2,s3_3,s3_4] : List (Slot tf3)).map Slot.p = (List.range' 0 5).map (pth 3) := by kernel_rfl
def X13 : XFn Tryz.prog 4 (comp Tryz.prog) := ⟨X3,tf3,13,Tryz.f13,c13,3,127,[s3_0,s3_1,s3_2,s3_3,s3_4],z3,x13,y13,x13_D,Tryz.ntmps13.symm,Tryz.func13,x13_b,x13_k,x13_s,by decide,z3_ok,x13_c,x13_r⟩
def x15_0 : List (Ins tf2) := [iAs (rk (.pointer none)) s2_0,iAs (rk (.pointer none)) s2_1,iAs (rk (.slice none 0 0)) s2_2]
def x15_1 : List (Ins tf2) := [iCall (rk (.func (.func 43) #[] #[])) [(rk (.int .u64 (.ofNat 0)))] (some s2_11),iGa (aAl 6 [(.int .i64 (.ofNat 0)),(.int .i64 (.ofNat 0)),(.slice none 0 0),(.slice none 0 0),(.slice none 0 0),(.slice none 0 0)]) [] (some s2_3),iGm (m2 (sStn 6)) [r2_3,r2_11] none]
def x15_2 : List (Ins tf2) := [iGr (r1 (rLdn 6)) [r2_3] (some s2_13),iRc (iCall (rk (.func (.func 17) #[] #[])) [] (some s2_12)) [(rcS ⟨none,.r (r1 (rLdn 6)),[(.t [.o3,.o0])],(some [.o5,.o1])⟩)] rfl,iCall (rk (.func (.func 44) #[] #[])) [r2_13] (some s2_14),iAs r2_12 s2_4,iAs r2_14 s2_5]
def x15_3 : List (Ins tf2) := [iMv r2_4 s2_15,iGp (l2 (pEqD (tdOf 60) false)) [r2_15,(rk (.pointer none))] (some s2_16),iMv r2_16 s2_17,iGd r2_17 [.o1,.o2] false (iMv r2_5 s2_18) (some s2_18) rfl rfl rfl,iGd r2_17 [.o1,.o2] false (iGp (l2 (pEqD (tdOf 34) false)) [r2_18,(rk (.pointer none))] (some s2_19)) (some s2_19) rfl rfl rfl,iGp (l3 pPick) [r2_17,(rk (.bool true)),r2_19] (some s2_20)]
def x15_4 : List (Ins tf2) := [iAs (rk (.pointer none)) s2_0,iAs (rk (.pointer none)) s2_1,iAs (rk (.slice none 0 0)) s2_2]
def x15_5 : List (Ins tf2) := [iMv r2_4 s2_22,iGa (aBsl 2 1 [(.int .i64 (.ofNat 0))] [(0,1),(1,1)]) [(rk (.int .i64 (.ofNat 0))),(rk (.int .i64 (.ofNat 1)))] (some s2_23),iCall (rk (.func (.func 16) #[] #[])) [r2_22,r2_23,(rk (.slice none 0 0)),(rk (.bool true))] (some s2_24),iMv r2_24 s2_21,iGp (l1 (pExt 0)) [r2_21] (some s2_25),iGp (l1 (pExt 1)) [r2_21] (some s2_26),iAs r2_25 s2_6,iAs r2_26 s2_7]
def x15_6 : List (Ins tf2) := [iMv r2_5 s2_28,iGr (r1 (rLdn 6)) [r2_3] (some s2_29),iCall (rk (.func (.func 45) #[] #[])) [r2_28,r2_29,(rk (.int .i64 (.ofNat 20))),(rk (.int .i64 (.ofNat 16))),(rk (.int .i64 (.ofNat 0)))] (some s2_30),iMv r2_30 s2_27,iGp (l1 (pExt 0)) [r2_27] (some s2_31),iGp (l1 (pExt 1)) [r2_27] (some s2_32),iGp (l1 (pExt 2)) [r2_27] (some s2_33),iAs r2_31 s2_8,iAs r2_32 s2_9,iAs r2_33 s2_10]
def x15_7 : List (Ins tf2) := [iMv r2_7 s2_34,iP2 bNe r2_34 (rk (.int .i64 (.ofNat 0))) s2_35,iMv r2_35 s2_36,iGd r2_36 [.o4,.o4] false (iMv r2_10 s2_37) (some s2_37) rfl rfl rfl,iGd r2_36 [.o4,.o4] false (iP2 bNe r2_37 (rk (.int .i64 (.ofNat 0))) s2_38) (some s2_38) rfl rfl rfl,iGp (l3 pPick) [r2_36,(rk (.bool true)),r2_38] (some s2_39),iMv r2_39 s2_40,iGd r2_40 [.o0,.o5] false (iMv r2_9 s2_41) (some s2_41) rfl rfl rfl,iGd r2_40 [.o0,.o5] false (iP2 bNe r2_41 (rk (.int .u8 (.ofNat 0))) s2_42) (some s2_42) rfl rfl rfl,iGp (l3 pPick) [r2_40,(rk (.bool true)),r2_42] (some s2_43),iMv r2_43 s2_44,iGd r2_44 [.o4,.o5] false (iMv r2_8 s2_45) (some s2_45) rfl rfl rfl,iGd r2_44 [.o4,.o5] false (iP1 bLen r2_45 s2_46) (some s2_46) rfl rfl rfl,iGd r2_44 [.o4,.o5] false (iP2 bNe r2_46 (rk (.int .i64 (.ofNat 2))) s2_47) (some s2_47) rfl rfl rfl,iGp (l3 pPick) [r2_44,(rk (.bool true)),r2_47] (some s2_48)]
def x15_8 : List (Ins tf2) := [iAs (rk (.pointer none)) s2_0,iAs (rk (.pointer none)) s2_1,iAs (rk (.slice none 0 0)) s2_2]
def x15_9 : List (Ins tf2) := [iMv r2_6 s2_49,iMv r2_5 s2_50,iMv r2_8 s2_51,iAs r2_49 s2_0,iAs r2_50 s2_1,iAs r2_51 s2_2]
def x15 : XC tf2 := (.rg x15_0 (.rg x15_1 (.rg x15_2 (.seq (.rg x15_3 (.cond r2_20 (.rg x15_4 .ret) .skip)) (.rg x15_5 (.rg x15_6 (.seq (.rg x15_7 (.cond r2_48 (.rg x15_8 .ret) .skip)) (.rg x15_9 .ret))))))))
def c15 : Code := Tryz.f15.body.getD .skip
theorem x15_b : Tryz.f15.body = some c15 := by kernel_rfl
theorem x15_c : cG (comp Tryz.prog) 4 2 52 x15 c15 = x15.den := by kernel_rfl
def y15 : List (RR Tryz.prog 2 52 tf2) := [rrT r2_0 0 rfl rfl,rrT r2_1 1 rfl rfl,rrT r2_2 2 rfl rfl]
theorem x15_r : y15.map RR.den = Tryz.f15.results.toList := by kernel_rfl
theorem x15_k : okFn Tryz.f15 = true := by kernel_rfl
theorem x15_D : 2 = dep Tryz.f15.ntmps := by kernel_rfl
theorem x15_s : ([] : List (Slot tf2)).map Slot.p = (List.range' 0 0).map (pth 2) := by kernel_rfl
def X15 : XFn Tryz.prog 4 (comp Tryz.prog) := ⟨X2,tf2,15,Tryz.f15,c15,2,52,[],z2,x15,y15,x15_D,Tryz.ntmps15.symm,Tryz.func15,x15_b,x15_k,x15_s,by decide,z2_ok,x15_c,x15_r⟩
def x16_0 : List (Ins tf2) := [iAs (rk (.pointer none)) s2_8,iAs (rk (.int .i64 (.ofNat 0))) s2_9]
def x16_1 : List (Ins tf2) := [iMv r2_0 s2_12,iGp (l2 (pEqD (tdOf 60) false)) [r2_12,(rk (.pointer none))] (some s2_13)]
def x16_2 : List (Ins tf2) := [iAs (rk (.pointer none)) s2_8,iAs (rk (.int .i64 (.ofNat 1))) s2_9]
def x16_3 : List (Ins tf2) := [iMv r2_1 s2_14,iP1 bLen r2_14 s2_15,iP2 bLt r2_15 (rk (.int .i64 (.ofNat 1))) s2_16,iMv r2_16 s2_17,iGd r2_17 [.o1,.o2] false (iMv r2_1 s2_18) (some s2_18) rfl rfl rfl,iGd r2_17 [.o1,.o2] false (iP1 bLen r2_18 s2_19) (some s2_19) rfl rfl rfl,iGd r2_17 [.o1,.o2] false (iP2 bGt r2_19 (rk (.int .i64 (.ofNat 32))) s2_20) (some s2_20) rfl rfl rfl,iGp (l3 pPick) [r2_17,(rk (.bool true)),r2_20] (some s2_21),iMv r2_21 s2_22,iGd r2_22 [.o6,.o2] false (iMv r2_2 s2_23) (some s2_23) rfl rfl rfl,iGd r2_22 [.o6,.o2] false (iP1 bLen r2_23 s2_24) (some s2_24) rfl rfl rfl,iGd r2_22 [.o6,.o2] false (iP2 bGt r2_24 (rk (.int .i64 (.ofNat 32))) s2_25) (some s2_25) rfl rfl rfl,iGp (l3 pPick) [r2_22,(rk (.bool true)),r2_25] (some s2_26)]
def x16_4 : List (Ins tf2) := [iAs (rk (.pointer none)) s2_8,iAs (rk (.int .i64 (.ofNat 3))) s2_9]
def x16_5 : List (Ins tf2) := [iMv r2_1 s2_27,iGm (m2 (sApp 1)) [(rk (.slice none 0 0)),r2_27] (some s2_28),iMv r2_2 s2_29,iGm (m2 (sApp 1)) [r2_28,r2_29] (some s2_30),iP1 bLen r2_30 s2_31,iMv (rk (.int .i64 (.ofNat 0))) s2_32]
def x16_6 : List (Ins tf2) := [iP2 bLt r2_32 r2_31 s2_33]
def x16_7 : List (Ins tf2) := [iP2 (bIxs 1) r2_30 r2_32 s2_34,iR1 bLd r2_34 s2_35,iAs r2_35 s2_11]
def x16_8 : List (Ins tf2) := [iMv r2_11 s2_36,iP2 bLt r2_36 (rk (.int .i64 (.ofNat 0))) s2_37,iMv r2_37 s2_38,iGd r2_38 [.o6,.o4] false (iMv r2_11 s2_39) (some s2_39) rfl rfl rfl,iGd r2_38 [.o6,.o4] false (iMv r2_0 s2_40) (some s2_40) rfl rfl rfl,iGd r2_38 [.o6,.o4] false (iCall (rk (.func (.func 46) #[] #[])) [r2_40] (some s2_41)) (some s2_41) rfl rfl rfl,iGd r2_38 [.o6,.o4] false (iP2 bGe r2_39 r2_41 s2_42) (some s2_42) rfl rfl rfl,iGp (l3 pPick) [r2_38,(rk (.bool true)),r2_42] (some s2_43)]
def x16_9 : List (Ins tf2) := [iAs (rk (.pointer none)) s2_8,iAs (rk (.int .i64 (.ofNat 3))) s2_9]
def x16_10 : List (Ins tf2) := [iP2 bAdd r2_32 (rk (.int .i64 (.ofNat 1))) s2_44,iMv r2_44 s2_32]
def x16_11 : List (Ins tf2) := [iMv r2_0 s2_45,iMv r2_1 s2_46,iGm (m2 (sApp 1)) [(rk (.slice none 0 0)),r2_46] (some s2_47),iMv r2_2 s2_48,iGm (m2 (sApp 1)) [(rk (.slice none 0 0)),r2_48] (some s2_49),iMv r2_3 s2_50,iGp (pBld [(.pointer none),(.slice none 0 0),(.slice none 0 0),(.bool false)] [(0,1),(1,1),(2,1),(3,1)]) [r2_45,r2_47,r2_49,r2_50] (some s2_51),iGa (a1 gBox) [r2_51] (some s2_52),iAs r2_52 s2_8,iAs (rk (.int .i64 (.ofNat 0))) s2_9]
def x16 : XC tf2 := (.rg x16_0 (.seq (.rg x16_1 (.cond r2_13 (.rg x16_2 .ret) .skip)) (.seq (.rg x16_3 (.cond r2_26 (.rg x16_4 .ret) .skip)) (.seq (.rg x16_5 (.block 0 (.loop (.rg x16_6 (.seq (.cond r2_33 .skip (.exit 0)) (.seq (.block 1 (.rg x16_7 (.rg x16_8 (.cond r2_43 (.rg x16_9 .ret) .skip)))) (.reg x16_10))))))) (.rg x16_11 .ret)))))
def c16 : Code := Tryz.f16.body.getD .skip
theorem x16_b : Tryz.f16.body = some c16 := by kernel_rfl
theorem x16_c : cG (comp Tryz.prog) 4 2 53 x16 c16 = x16.den := by kernel_rfl
def y16 : List (RR Tryz.prog 2 53 tf2) := [rrT r2_8 8 rfl rfl,rrT r2_9 9 rfl rfl]
theorem x16_r : y16.map RR.den = Tryz.f16.results.toList := by kernel_rfl
theorem x16_k : okFn Tryz.f16 = true := by kernel_rfl
theorem x16_D : 2 = dep Tryz.f16.ntmps := by kernel_rfl
theorem x16_s : ([s2_0,s2_1,s2_2,s2_3] : List (Slot tf2)).map Slot.p = (List.range' 0 4).map (pth 2) := by kernel_rfl
def X16 : XFn Tryz.prog 4 (comp Tryz.prog) := ⟨X2,tf2,16,Tryz.f16,c16,2,53,[s2_0,s2_1,s2_2,s2_3],z2,x16,y16,x16_D,Tryz.ntmps16.symm,Tryz.func16,x16_b,x16_k,x16_s,by decide,z2_ok,x16_c,x16_r⟩
def x17_0 : List (Ins tf2) := [iAs (rk (.pointer none)) s2_0]
def x17_1 : List (Ins tf2) := [iGp (pBld [(.int .i64 (.ofNat 0)),(.int .i64 (.ofNat 0))] [(0,1),(1,1)]) [(rk (.int .i64 (.ofNat 0))),(rk (.int .i64 (.ofNat 1)))] (some s2_4),iGa (aBsl 1 2 [(.int .i64 (.ofNat 0)),(.int .i64 (.ofNat 0))] [(0,2)]) [r2_4] (some s2_5),iCall (rk (.func (.func 47) #[] #[])) [(rk (.int .i64 (.ofNat 2))),r2_5] (some s2_6),iMv r2_6 s2_3,iGp (l1 (pExt 0)) [r2_3] (some s2_7),iGp (l1 (pExt 1)) [r2_3] (some s2_8),iAs r2_7 s2_1,iAs r2_8 s2_2]
def x17_2 : List (Ins tf2) := [iMv r2_2 s2_9,iP2 bNe r2_9 (rk (.int .i64 (.ofNat 0))) s2_10]
def x17_3 : List (Ins tf2) := [iAs (rk (.pointer none)) s2_0]
def x17_4 : List (Ins tf2) := [iMv r2_1 s2_11,iAs r2_11 s2_0]
def x17 : XC tf2 := (.rg x17_0 (.rg x17_1 (.seq (.rg x17_2 (.cond r2_10 (.rg x17_3 .ret) .skip)) (.rg x17_4 .ret))))
def c17 : Code := Tryz.f17.body.getD .skip
theorem x17_b : Tryz.f17.body = some c17 := by kernel_rfl
theorem x17_c : cG (comp Tryz.prog) 4 2 12 x17 c17 = x17.den := by kernel_rfl
def y17 : List (RR Tryz.prog 2 12 tf2) := [rrT r2_0 0 rfl rfl]
theorem x17_r : y17.map RR.den = Tryz.f17.results.toList := by kernel_rfl
theorem x17_k : okFn Tryz.f17 = true := by kernel_rfl
theorem x17_D : 2 = dep Tryz.f17.ntmps := by kernel_rfl
theorem x17_s : ([] : List (Slot tf2)).map Slot.p = (List.range' 0 0).map (pth 2) := by kernel_rfl
def X17 : XFn Tryz.prog 4 (comp Tryz.prog) := ⟨X2,tf2,17,Tryz.f17,c17,2,12,[],z2,x17,y17,x17_D,Tryz.ntmps17.symm,Tryz.func17,x17_b,x17_k,x17_s,by decide,z2_ok,x17_c,x17_r⟩
def x23_0 : List (Ins tf3) := [iAs (rk (.int .i64 (.ofNat 0))) s3_8]
def x23_1 : List (Ins tf3) := [iMv r3_0 s3_17,iGp (l2 (pEqD (tdOf 32) false)) [r3_17,(rk (.pointer none))] (some s3_18),iMv r3_18 s3_19,iGd r3_19 [.o3,.o2,.o0] false (iMv r3_1 s3_20) (some s3_20) rfl rfl rfl,iGd r3_19 [.o3,.o2,.o0] false (iGp (l2 (pEqD (tdOf 34) false)) [r3_20,(rk (.pointer none))] (some s3_21)) (some s3_21) rfl rfl rfl,iGp (l3 pPick) [r3_19,(rk (.bool true)),r3_21] (some s3_22)]
def x23_2 : List (Ins tf3) := [iAs (rk (.int .i64 (.ofNat 1))) s3_8]
def x23_3 : List (Ins tf3) := [iMv r3_2 s3_23,iP2 bLt r3_23 (rk (.int .i64 (.ofNat 0))) s3_24,iMv r3_24 s3_25,iGd r3_25 [.o1,.o3,.o0] false (iMv r3_2 s3_26) (some s3_26) rfl rfl rfl,iGd r3_25 [.o1,.o3,.o0] false (iMv r3_0 s3_27) (some s3_27) rfl rfl rfl,iGd r3_25 [.o1,.o3,.o0] false (iP1 bNil r3_27 s3_28) (some s3_28) rfl rfl rfl,iGd r3_25 [.o1,.o3,.o0] false (iP1 (bFa 0) r3_28 s3_29) (some s3_29) rfl rfl rfl,iGd r3_25 [.o1,.o3,.o0] false (iR1 bLd r3_29 s3_30) (some s3_30) rfl rfl rfl,iGd r3_25 [.o1,.o3,.o0] false (iCall (rk (.func (.func 46) #[] #[])) [r3_30] (some s3_31)) (some s3_31) rfl rfl rfl,iGd r3_25 [.o1,.o3,.o0] false (iP2 bGe r3_26 r3_31 s3_32) (some s3_32) rfl rfl rfl,iGp (l3 pPick) [r3_25,(rk (.bool true)),r3_32] (some s3_33)]
def x23_4 : List (Ins tf3) := [iAs (rk (.int .i64 (.ofNat 3))) s3_8]
def x23_5 : List (Ins tf3) := [iMv r3_3 s3_34,iP1 bLen r3_34 s3_35,iMv (rk (.int .i64 (.ofNat 0))) s3_36]
def x23_6 : List (Ins tf3) := [iP2 bLt r3_36 r3_35 s3_37]
def x23_7 : List (Ins tf3) := [iP2 (bIxs 7) r3_34 r3_36 s3_38,iGr (r1 (rLdn 7)) [r3_38] (some s3_39),iGa (aAl 7 [(.slice none 0 0),(.int .u8 (.ofNat 0)),(.int .i64 (.ofNat 0)),(.slice none 0 0),(.slice none 0 0),(.slice none 0 0),(.slice none 0 0)]) [] (some s3_10),iGm (m2 (sStn 7)) [r3_10,r3_39] none]
def x23_8 : List (Ins tf3) := [iP1 (bFa 3) r3_10 s3_40,iR1 bLd r3_40 s3_41,iP1 bLen r3_41 s3_42,iMv (rk (.int .i64 (.ofNat 0))) s3_43]
def x23_9 : List (Ins tf3) := [iP2 bLt r3_43 r3_42 s3_44]
def x23_10 : List (Ins tf3) := [iP2 (bIxs 2) r3_41 r3_43 s3_45,iGr (r1 (rLdn 2)) [r3_45] (some s3_46),iGa (aAl 2 [(.int .i64 (.ofNat 0)),(.int .i64 (.ofNat 0))]) [] (some s3_12),iGm (m2 (sStn 2)) [r3_12,r3_46] none]
def x23_11 : List (Ins tf3) := [iP1 (bFa 0) r3_12 s3_47,iR1 bLd r3_47 s3_48,iP2 bLt r3_48 (rk (.int .i64 (.ofNat 0))) s3_49,iMv r3_49 s3_50,iGd r3_50 [.o2,.o6,.o0] false (iP1 (bFa 0) r3_12 s3_51) (some s3_51) rfl rfl rfl,iGd r3_50 [.o2,.o6,.o0] false (iR1 bLd r3_51 s3_52) (some s3_52) rfl rfl rfl,iGd r3_50 [.o2,.o6,.o0] false (iMv r3_0 s3_53) (some s3_53) rfl rfl rfl,iGd r3_50 [.o2,.o6,.o0] false (iP1 bNil r3_53 s3_54) (some s3_54) rfl rfl rfl,iGd r3_50 [.o2,.o6,.o0] false (iP1 (bFa 1) r3_54 s3_55) (some s3_55) rfl rfl rfl,iGd r3_50 [.o2,.o6,.o0] false (iR1 bLd r3_55 s3_56) (some s3_56) rfl rfl rfl,iGd r3_50 [.o2,.o6,.o0] false (iP1 bLen r3_56 s3_57) (some s3_57) rfl rfl rfl,iGd r3_50 [.o2,.o6,.o0] false (iP2 bGe r3_52 r3_57 s3_58) (some s3_58) rfl rfl rfl,iGp (l3 pPick) [r3_50,(rk (.bool true)),r3_58] (some s3_59)]
def x23_12 : List (Ins tf3) := [iAs (rk (.int .i64 (.ofNat 3))) s3_8]
def x23_13 : List (Ins tf3) := [iP2 bAdd r3_43 (rk (.int .i64 (.ofNat 1))) s3_60,iMv r3_60 s3_43]
def x23_14 : List (Ins tf3) := [iP1 (bFa 4) r3_10 s3_61,iR1 bLd r3_61 s3_62,iP1 bLen r3_62 s3_63,iMv (rk (.int .i64 (.ofNat 0))) s3_64]
def x23_15 : List (Ins tf3) := [iP2 bLt r3_64 r3_63 s3_65]
def x23_16 : List (Ins tf3) := [iP2 (bIxs 2) r3_62 r3_64 s3_66,iGr (r1 (rLdn 2)) [r3_66] (some s3_67),iGa (aAl 2 [(.int .i64 (.ofNat 0)),(.int .i64 (.ofNat 0))]) [] (some s3_14),iGm (m2 (sStn 2)) [r3_14,r3_67] none]
def x23_17 : List (Ins tf3) := [iP1 (bFa 0) r3_14 s3_68,iR1 bLd r3_68 s3_69,iP2 bLt r3_69 (rk (.int .i64 (.ofNat 0))) s3_70,iMv r3_70 s3_71,iGd r3_71 [.o7,.o0,.o1] false (iP1 (bFa 0) r3_14 s3_72) (some s3_72) rfl rfl rfl,iGd r3_71 [.o7,.o0,.o1] false (iR1 bLd r3_72 s3_73) (some s3_73) rfl rfl rfl,iGd r3_71 [.o7,.o0,.o1] false (iMv r3_0 s3_74) (some s3_74) rfl rfl rfl,iGd r3_71 [.o7,.o0,.o1] false (iP1 bNil r3_74 s3_75) (some s3_75) rfl rfl rfl,iGd r3_71 [.o7,.o0,.o1] false (iP1 (bFa 2) r3_75 s3_76) (some s3_76) rfl rfl rfl,iGd r3_71 [.o7,.o0,.o1] false (iR1 bLd r3_76 s3_77) (some s3_77) rfl rfl rfl,iGd r3_71 [.o7,.o0,.o1] false (iP1 bLen r3_77 s3_78) (some s3_78) rfl rfl rfl,iGd r3_71 [.o7,.o0,.o1] false (iP2 bGe r3_73 r3_78 s3_79) (some s3_79) rfl rfl rfl,iGp (l3 pPick) [r3_71,(rk (.bool true)),r3_79] (some s3_80)]
def x23_18 : List (Ins tf3) := [iAs (rk (.int .i64 (.ofNat 3))) s3_8]
def x23_19 : List (Ins tf3) := [iP2 bAdd r3_64 (rk (.int .i64 (.ofNat 1))) s3_81,iMv r3_81 s3_64]
def x23_20 : List (Ins tf3) := [iGr (r1 (rLdn 7)) [r3_10] (some s3_82),iCall (rk (.func (.func 25) #[] #[])) [r3_82] (some s3_83),iP1 bLen r3_83 s3_84,iMv (rk (.int .i64 (.ofNat 0))) s3_85]
def x23_21 : List (Ins tf3) := [iP2 bLt r3_85 r3_84 s3_86]
def x23_22 : List (Ins tf3) := [iP2 (bIxs 1) r3_83 r3_85 s3_87,iR1 bLd r3_87 s3_88,iAs r3_88 s3_16]
def x23_23 : List (Ins tf3) := [iMv r3_16 s3_89,iP2 bLt r3_89 (rk (.int .i64 (.ofNat 0))) s3_90,iMv r3_90 s3_91,iGd r3_91 [.o3,.o3,.o1] false (iMv r3_16 s3_92) (some s3_92) rfl rfl rfl,iGd r3_91 [.o3,.o3,.o1] false (iMv r3_1 s3_93) (some s3_93) rfl rfl rfl,iGd r3_91 [.o3,.o3,.o1] false (iCall (rk (.func (.func 58) #[] #[])) [r3_93] (some s3_94)) (some s3_94) rfl rfl rfl,iGd r3_91 [.o3,.o3,.o1] false (iP2 bGe r3_92 r3_94 s3_95) (some s3_95) rfl rfl rfl,iGp (l3 pPick) [r3_91,(rk (.bool true)),r3_95] (some s3_96)]
def x23_24 : List (Ins tf3) := [iAs (rk (.int .i64 (.ofNat 3))) s3_8]
def x23_25 : List (Ins tf3) := [iP2 bAdd r3_85 (rk (.int .i64 (.ofNat 1))) s3_97,iMv r3_97 s3_85]
def x23_26 : XC tf3 := (.seq (.rg x23_8 (.block 2 (.loop (.rg x23_9 (.seq (.cond r3_44 .skip (.exit 2)) (.seq (.block 3 (.rg x23_10 (.rg x23_11 (.cond r3_59 (.rg x23_12 .ret) .skip)))) (.reg x23_13))))))) (.seq (.rg x23_14 (.block 4 (.loop (.rg x23_15 (.seq (.cond r3_65 .skip (.exit 4)) (.seq (.block 5 (.rg x23_16 (.rg x23_17 (.cond r3_80 (.rg x23_18 .ret) .skip)))) (.reg x23_19))))))) (.rg x23_20 (.block 6 (.loop (.rg x23_21 (.seq (.cond r3_86 .skip (.exit 6)) (.seq (.block 7 (.rg x23_22 (.rg x23_23 (.cond r3_96 (.rg x23_24 .ret) .skip)))) (.reg x23_25)))))))))
def x23_27 : List (Ins tf3) := [iP2 bAdd r3_36 (rk (.int .i64 (.ofNat 1))) s3_98,iMv r3_98 s3_36]
def x23_28 : List (Ins tf3) := [iAs (rk (.int .i64 (.ofNat 0))) s3_8]
def x23 : XC tf3 := (.rg x23_0 (.seq (.rg x23_1 (.cond r3_22 (.rg x23_2 .ret) .skip)) (.seq (.rg x23_3 (.cond r3_33 (.rg x23_4 .ret) .skip)) (.seq (.rg x23_5 (.block 0 (.loop (.rg x23_6 (.seq (.cond r3_37 .skip (.exit 0)) (.seq (.block 1 (.rg x23_7 x23_26)) (.reg x23_27))))))) (.rg x23_28 .ret)))))
def c23 : Code := Tryz.f23.body.getD .skip
theorem x23_b : Tryz.f23.body = some c23 := by kernel_rfl
theorem x23_c : cG (comp Tryz.prog) 4 3 99 x23 c23 = x23.den := by kernel_rfl
def y23 : List (RR Tryz.prog 3 99 tf3) := [rrT r3_8 8 rfl rfl]
theorem x23_r : y23.map RR.den = Tryz.f23.results.toList := by kernel_rfl
theorem x23_k : okFn Tryz.f23 = true := by kernel_rfl
theorem x23_D : 3 = dep Tryz.f23.ntmps := by kernel_rfl
theorem x23_s : ([s3_0,s3_1,s3_2,s3_3] : List (Slot tf3)).map Slot.p = (List.range' 0 4).map (pth 3) := by kernel_rfl
def X23 : XFn Tryz.prog 4 (comp Tryz.prog) := ⟨X3,tf3,23,Tryz.f23,c23,3,99,[s3_0,s3_1,s3_2,s3_3],z3,x23,y23,x23_D,Tryz.ntmps23.symm,Tryz.func23,x23_b,x23_k,x23_s,by decide,z3_ok,x23_c,x23_r⟩
def x25_0 : List (Ins tf2) := [iGa (a1 gBox) [r2_0] (some s2_1),iAs (rk (.slice none 0 0)) s2_2]
def x25_1 : List (Ins tf2) := [iP1 (bFa 0) r2_1 s2_8,iR1 bLd r2_8 s2_9,iGm (m2 (sApp 1)) [(rk (.slice none 0 0)),r2_9] (some s2_10),iAs r2_10 s2_3]
def x25_2 : List (Ins tf2) := [iP1 (bFa 3) r2_1 s2_11,iR1 bLd r2_11 s2_12,iP1 bLen r2_12 s2_13,iMv (rk (.int .i64 (.ofNat 0))) s2_14]
def x25_3 : List (Ins tf2) := [iP2 bLt r2_14 r2_13 s2_15]
def x25_4 : List (Ins tf2) := [iP2 (bIxs 2) r2_12 r2_14 s2_16,iGr (r1 (rLdn 2)) [r2_16] (some s2_17),iGa (aAl 2 [(.int .i64 (.ofNat 0)),(.int .i64 (.ofNat 0))]) [] (some s2_5),iGm (m2 (sStn 2)) [r2_5,r2_17] none]
def x25_5 : List (Ins tf2) := [iMv r2_3 s2_18,iP1 (bFa 1) r2_5 s2_19,iR1 bLd r2_19 s2_20,iGa (aBsl 1 1 [(.int .i64 (.ofNat 0))] [(0,1)]) [r2_20] (some s2_21),iGm (m2 (sApp 1)) [r2_18,r2_21] (some s2_22),iAs r2_22 s2_3]
def x25_6 : List (Ins tf2) := [iP2 bAdd r2_14 (rk (.int .i64 (.ofNat 1))) s2_23,iMv r2_23 s2_14]
def x25_7 : List (Ins tf2) := [iP1 (bFa 4) r2_1 s2_24,iR1 bLd r2_24 s2_25,iP1 bLen r2_25 s2_26,iMv (rk (.int .i64 (.ofNat 0))) s2_27]
def x25_8 : List (Ins tf2) := [iP2 bLt r2_27 r2_26 s2_28]
def x25_9 : List (Ins tf2) := [iP2 (bIxs 2) r2_25 r2_27 s2_29,iGr (r1 (rLdn 2)) [r2_29] (some s2_30),iGa (aAl 2 [(.int .i64 (.ofNat 0)),(.int .i64 (.ofNat 0))]) [] (some s2_7),iGm (m2 (sStn 2)) [r2_7,r2_30] none]
def x25_10 : List (Ins tf2) := [iMv r2_3 s2_31,iP1 (bFa 1) r2_7 s2_32,iR1 bLd r2_32 s2_33,iGa (aBsl 1 1 [(.int .i64 (.ofNat 0))] [(0,1)]) [r2_33] (some s2_34),iGm (m2 (sApp 1)) [r2_31,r2_34] (some s2_35),iAs r2_35 s2_3]
def x25_11 : List (Ins tf2) := [iP2 bAdd r2_27 (rk (.int .i64 (.ofNat 1))) s2_36,iMv r2_36 s2_27]
def x25_12 : List (Ins tf2) := [iMv r2_3 s2_37,iAs r2_37 s2_2]
def x25 : XC tf2 := (.rg x25_0 (.rg x25_1 (.seq (.rg x25_2 (.block 0 (.loop (.rg x25_3 (.seq (.cond r2_15 .skip (.exit 0)) (.seq (.block 1 (.rg x25_4 (.reg x25_5))) (.reg x25_6))))))) (.seq (.rg x25_7 (.block 2 (.loop (.rg x25_8 (.seq (.cond r2_28 .skip (.exit 2)) (.seq (.block 3 (.rg x25_9 (.reg x25_10))) (.reg x25_11))))))) (.rg x25_12 .ret)))))
def c25 : Code := Tryz.f25.body.getD .skip
theorem x25_b : Tryz.f25.body = some c25 := by kernel_rfl
theorem x25_c : cG (comp Tryz.prog) 4 2 38 x25 c25 = x25.den := by kernel_rfl
def y25 : List (RR Tryz.prog 2 38 tf2) := [rrT r2_2 2 rfl rfl]
theorem x25_r : y25.map RR.den = Tryz.f25.results.toList := by kernel_rfl
theorem x25_k : okFn Tryz.f25 = true := by kernel_rfl
theorem x25_D : 2 = dep Tryz.f25.ntmps := by kernel_rfl
theorem x25_s : ([s2_0] : List (Slot tf2)).map Slot.p = (List.range' 0 1).map (pth 2) := by kernel_rfl
def X25 : XFn Tryz.prog 4 (comp Tryz.prog) := ⟨X2,tf2,25,Tryz.f25,c25,2,38,[s2_0],z2,x25,y25,x25_D,Tryz.ntmps25.symm,Tryz.func25,x25_b,x25_k,x25_s,by decide,z2_ok,x25_c,x25_r⟩
def x26_0 : List (Ins tf2) := [iAs (rk (.int .i64 (.ofNat 0))) s2_6]
def x26_1 : List (Ins tf2) := [iR1 bLd r2_1 s2_9,iP1 bNil r2_9 s2_10,iP1 (bFa 1) r2_10 s2_11,iR1 bLd r2_11 s2_12,iP2 bNe r2_12 (rk (.int .i64 (.ofNat 0))) s2_13]
def x26_2 : List (Ins tf2) := [iAs (rk (.int .i64 (.ofNat 0))) s2_6]
def x26_3 : List (Ins tf2) := [iR1 bLd r2_2 s2_15,iR1 bLd r2_3 s2_16,iP1 bNil r2_16 s2_17,iP1 (bFa 0) r2_17 s2_18,iR1 bLd r2_18 s2_19,iR1 bLd r2_4 s2_20,iR1 bLd r2_3 s2_21,iP1 bNil r2_21 s2_22,iP1 (bFa 1) r2_22 s2_23,iR1 bLd r2_23 s2_24,iMv r2_0 s2_25,iCall (rk (.func (.func 27) #[] #[])) [r2_15,r2_19,r2_20,r2_24,r2_25] (some s2_26),iMv r2_26 s2_14,iGp (l1 (pExt 0)) [r2_14] (some s2_27),iGp (l1 (pExt 1)) [r2_14] (some s2_28),iAs r2_27 s2_7,iAs r2_28 s2_8]
def x26_4 : List (Ins tf2) := [iR1 bLd r2_1 s2_29,iMv r2_8 s2_30,iP1 bNil r2_29 s2_31,iP1 (bFa 1) r2_31 s2_32,iM2 bSt r2_32 r2_30]
def x26_5 : List (Ins tf2) := [iMv r2_7 s2_33,iAs r2_33 s2_6]
def x26 : XC tf2 := (.rg x26_0 (.seq (.rg x26_1 (.cond r2_13 (.rg x26_2 .ret) .skip)) (.rg x26_3 (.rg x26_4 (.rg x26_5 .ret)))))
def c26 : Code := Tryz.f26.body.getD .skip
theorem x26_b : Tryz.f26.body = some c26 := by kernel_rfl
theorem x26_c : cG (comp Tryz.prog) 4 2 34 x26 c26 = x26.den := by kernel_rfl
def y26 : List (RR Tryz.prog 2 34 tf2) := [rrT r2_6 6 rfl rfl]
theorem x26_r : y26.map RR.den = Tryz.f26.results.toList := by kernel_rfl
theorem x26_k : okFn Tryz.f26 = true := by kernel_rfl
theorem x26_D : 2 = dep Tryz.f26.ntmps := by kernel_rfl
theorem x26_s : ([s2_0,s2_1,s2_2,s2_3,s2_4] : List (Slot tf2)).map Slot.p = (List.range' 0 5).map (pth 2) := by kernel_rfl
def X26 : XFn Tryz.prog 4 (comp Tryz.prog) := ⟨X2,tf2,26,Tryz.f26,c26,2,34,[s2_0,s2_1,s2_2,s2_3,s2_4],z2,x26,y26,x26_D,Tryz.ntmps26.symm,Tryz.func26,x26_b,x26_k,x26_s,by decide,z2_ok,x26_c,x26_r⟩
end
end Cr
end Go.Proofs.YtjhbabgcoemecaaGreatDoor
