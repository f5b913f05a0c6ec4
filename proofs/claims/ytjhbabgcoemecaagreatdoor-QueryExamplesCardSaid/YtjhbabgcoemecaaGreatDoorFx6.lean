/- A machine for closed runs: compiled functions (written by gen). -/
import Derived.Test.YtjhbabgcoemecaaGreatDoorFxA
import Derived.KernelRfl
namespace Go.Proofs.YtjhbabgcoemecaaGreatDoor
namespace Cr
open Go Go.RowKit
set_option maxRecDepth 100000
noncomputable section
def x254_0 : List (Ins tf2) := [iAs (rk (.pointer none)) s2_2,iAs (rk (.int .i64 (.ofNat 0))) s2_3]
def x254_1 : List (Ins tf2) := [iMv r2_0 s2_6,iP2 bLt r2_6 (rk (.int .i64 (.ofNat 0))) s2_7,iMv r2_7 s2_8,iGd r2_8 [.o0,.o1] false (iMv r2_0 s2_9) (some s2_9) rfl rfl rfl,iGd r2_8 [.o0,.o1] false (iP2 bGt r2_9 (rk (.int .i64 (.ofNat 1048576))) s2_10) (some s2_10) rfl rfl rfl,iGp (l3 pPick) [r2_8,(rk (.bool true)),r2_10] (some s2_11)]
def x254_2 : List (Ins tf2) := [iAs (rk (.pointer none)) s2_2,iAs (rk (.int .i64 (.ofNat 3))) s2_3]
def x254_3 : List (Ins tf2) := [iMv r2_0 s2_12,iP2 bAdd r2_12 (rk (.int .i64 (.ofNat 1))) s2_13,iGa (a2 (gMks 1 8 [(.int .i64 (.ofNat 0))])) [r2_13,r2_13] (some s2_14),iGp (pBld [(.slice none 0 0),(.slice none 0 0),(.slice none 0 0),(.pointer none),.nilFunc] [(0,1)]) [r2_14] (some s2_15),iGa (a1 gBox) [r2_15] (some s2_16),iAs r2_16 s2_4]
def x254_4 : List (Ins tf2) := [iMv r2_4 s2_17,iMv r2_0 s2_18,iGa (a2 (gMks 1 8 [(.int .i64 (.ofNat 0))])) [r2_18,r2_18] (some s2_19),iMv r2_0 s2_20,iP2 bAdd r2_20 (rk (.int .i64 (.ofNat 1))) s2_21,iGa (a2 (gMks 1 8 [(.int .i64 (.ofNat 0))])) [r2_21,r2_21] (some s2_22),iMv r2_4 s2_23,iGp (pBld [(.slice none 0 0),(.slice none 0 0),(.pointer none),.nilFunc] [(0,1),(1,1),(2,1),(3,1)]) [r2_19,r2_22,r2_23,(rk (.func (.func 273) #[] #[]))] (some s2_24),iP1 bNil r2_17 s2_25,iP1 (bFa 1) r2_25 s2_26,iGm (m2 (sStn 4)) [r2_26,r2_24] none]
def x254_5 : List (Ins tf2) := [iMv r2_4 s2_27,iP1 bNil r2_27 s2_28,iP1 (bFa 1) r2_28 s2_29,iP1 (bFa 1) r2_29 s2_30,iR1 bLd r2_30 s2_31,iP2 (bIxs 1) r2_31 (rk (.int .i64 (.ofNat 0))) s2_32,iM2 bSt r2_32 (rk (.int .i64 (.negSucc 0)))]
def x254_6 : List (Ins tf2) := [iMv r2_0 s2_33,iMv (rk (.int .i64 (.ofNat 0))) s2_34]
def x254_7 : List (Ins tf2) := [iP2 bLt r2_34 r2_33 s2_35]
def x254_8 : List (Ins tf2) := [iMv r2_34 s2_36,iAs r2_36 s2_5]
def x254_9 : List (Ins tf2) := [iMv r2_4 s2_37,iP1 bNil r2_37 s2_38,iP1 (bFa 1) r2_38 s2_39,iP1 (bFa 0) r2_39 s2_40,iR1 bLd r2_40 s2_41,iMv r2_5 s2_42,iMv r2_4 s2_43,iP1 bNil r2_43 s2_44,iP1 (bFa 1) r2_44 s2_45,iP1 (bFa 1) r2_45 s2_46,iR1 bLd r2_46 s2_47,iMv r2_5 s2_48,iP2 bAdd r2_48 (rk (.int .i64 (.ofNat 1))) s2_49,iMv r2_5 s2_50,iP2 bAdd r2_50 (rk (.int .i64 (.ofNat 1))) s2_51,iMv r2_5 s2_52,iP2 (bIxs 1) r2_41 r2_42 s2_53,iM2 bSt r2_53 r2_51,iP2 (bIxs 1) r2_47 r2_49 s2_54,iM2 bSt r2_54 r2_52]
def x254_10 : List (Ins tf2) := [iP2 bAdd r2_34 (rk (.int .i64 (.ofNat 1))) s2_55,iMv r2_55 s2_34]
def x254_11 : List (Ins tf2) := [iMv r2_4 s2_56,iAs r2_56 s2_2,iAs (rk (.int .i64 (.ofNat 0))) s2_3]
def x254 : XC tf2 := (.rg x254_0 (.seq (.rg x254_1 (.cond r2_11 (.rg x254_2 .ret) .skip)) (.rg x254_3 (.rg x254_4 (.rg x254_5 (.seq (.rg x254_6 (.block 0 (.loop (.rg x254_7 (.seq (.cond r2_35 .skip (.exit 0)) (.seq (.block 1 (.rg x254_8 (.reg x254_9))) (.reg x254_10))))))) (.rg x254_11 .ret)))))))
def c254 : Code := Tryz.f254.body.getD .skip
theorem x254_b : Tryz.f254.body = some c254 := by kernel_rfl
theorem x254_c : cG (comp Tryz.prog) 4 2 57 x254 c254 = x254.den := by kernel_rfl
def y254 : List (RR Tryz.prog 2 57 tf2) := [rrT r2_2 2 rfl rfl,rrT r2_3 3 rfl rfl]
theorem x254_r : y254.map RR.den = Tryz.f254.results.toList := by kernel_rfl
theorem x254_k : okFn Tryz.f254 = true := by kernel_rfl
theorem x254_D : 2 = dep Tryz.f254.ntmps := by kernel_rfl
theorem x254_s : ([s2_0] : List (Slot tf2)).map Slot.p = (List.range' 0 1).map (pth 2) := by kernel_rfl
def X254 : XFn Tryz.prog 4 (comp Tryz.prog) := ⟨X2,tf2,254,Tryz.f254,c254,2,57,[s2_0],z2,x254,y254,x254_D,Tryz.ntmps254.symm,Tryz.func254,x254_b,x254_k,x254_s,by decide,z2_ok,x254_c,x254_r⟩
def x255_0 : List (Ins tf2) := [iGa (a1 gBox) [r2_1] (some s2_3),iAs (rk (.bool false)) s2_4]
def x255_1 : List (Ins tf2) := [iP1 (bFa 1) r2_3 s2_9,iR1 bLd r2_9 s2_10,iP1 bLen r2_10 s2_11,iMv (rk (.int .i64 (.ofNat 0))) s2_12]
def x255_2 : List (Ins tf2) := [iP2 bLt r2_12 r2_11 s2_13]
def x255_3 : List (Ins tf2) := [iP2 (bIxs 1) r2_10 r2_12 s2_14,iR1 bLd r2_14 s2_15,iAs r2_15 s2_6]
def x255_4 : List (Ins tf2) := [iMv r2_6 s2_17,iCall (rk (.func (.func 274) #[] #[])) [r2_17] (some s2_18),iMv r2_18 s2_16,iGp (l1 (pExt 0)) [r2_16] (some s2_19),iGp (l1 (pExt 1)) [r2_16] (some s2_20),iAs r2_19 s2_7,iAs r2_20 s2_8]
def x255_5 : List (Ins tf2) := [iMv r2_8 s2_25,iAs r2_25 s2_24]
def x255_6 : List (Ins tf2) := [iMv r2_7 s2_27,iP1 bLen r2_27 s2_28,iP2 bEq r2_28 (rk (.int .i64 (.ofNat 0))) s2_29,iAs r2_29 s2_26]
def x255_7 : List (Ins tf2) := [iAs (rk (.bool false)) s2_4]
def x255_8 : List (Ins tf2) := [iMv r2_7 s2_31,iP1 bLen r2_31 s2_32,iP2 bEq r2_32 (rk (.int .i64 (.ofNat 1))) s2_33,iAs r2_33 s2_30]
def x255_9 : List (Ins tf2) := [iMv r2_0 s2_34,iMv r2_7 s2_35,iP2 (bIxs 1) r2_35 (rk (.int .i64 (.ofNat 0))) s2_36,iR1 bLd r2_36 s2_37,iCall (rk (.func (.func 275) #[] #[])) [r2_34,r2_37] (some s2_38),iP2 bEq r2_38 (rk (.int .i8 (.negSucc 0))) s2_39]
def x255_10 : List (Ins tf2) := [iAs (rk (.bool false)) s2_4]
def x255_11 : List (Ins tf2) := [iMv r2_0 s2_40,iMv r2_7 s2_41,iP2 (bIxs 1) r2_41 (rk (.int .i64 (.ofNat 0))) s2_42,iR1 bLd r2_42 s2_43,iCall (rk (.func (.func 275) #[] #[])) [r2_40,r2_43] (some s2_44),iP2 bEq r2_44 (rk (.int .i8 (.ofNat 0))) s2_45]
def x255_12 : List (Ins tf2) := [iMv r2_0 s2_46,iMv r2_7 s2_47,iP2 (bIxs 1) r2_47 (rk (.int .i64 (.ofNat 0))) s2_48,iR1 bLd r2_48 s2_49,iCall (rk (.func (.func 261) #[] #[])) [r2_46,r2_49,(rk (.int .i64 (.negSucc 0)))] (some s2_50)]
def x255_13 : List (Ins tf2) := [iMv r2_0 s2_21,iMv r2_7 s2_22,iCall (rk (.func (.func 260) #[] #[])) [r2_21,r2_22] (some s2_23)]
def x255_14 : List (Ins tf2) := [iP2 bAdd r2_12 (rk (.int .i64 (.ofNat 1))) s2_51,iMv r2_51 s2_12]
def x255_15 : List (Ins tf2) := [iMv r2_0 s2_52,iCall (rk (.func (.func 257) #[] #[])) [r2_52] (some s2_53),iP2 bLt r2_53 (rk (.int .i64 (.ofNat 0))) s2_54,iAs r2_54 s2_4]
def x255_16 : XC tf2 := (.seq (.rg x255_1 (.block 0 (.loop (.rg x255_2 (.seq (.cond r2_13 .skip (.exit 0)) (.seq (.block 1 (.rg x255_3 (.rg x255_4 (.block 2 (.rg x255_5 (.cond r2_24 .skip (.rg x255_6 (.cond r2_26 (.rg x255_7 .ret) (.rg x255_8 (.cond r2_30 (.seq (.rg x255_9 (.cond r2_39 (.rg x255_10 .ret) .skip)) (.rg x255_11 (.cond r2_45 (.reg x255_12) .skip))) (.reg x255_13))))))))))) (.reg x255_14))))))) (.rg x255_15 .ret))
def x255 : XC tf2 := (.rg x255_0 x255_16)
def c255 : Code := Tryz.f255.body.getD .skip
theorem x255_b : Tryz.f255.body = some c255 := by kernel_rfl
theorem x255_c : cG (comp Tryz.prog) 4 2 55 x255 c255 = x255.den := by kernel_rfl
def y255 : List (RR Tryz.prog 2 55 tf2) := [rrT r2_4 4 rfl rfl]
theorem x255_r : y255.map RR.den = Tryz.f255.results.toList := by kernel_rfl
theorem x255_k : okFn Tryz.f255 = true := by kernel_rfl
theorem x255_D : 2 = dep Tryz.f255.ntmps := by kernel_rfl
theorem x255_s : ([s2_0,s2_1] : List (Slot tf2)).map Slot.p = (List.range' 0 2).map (pth 2) := by kernel_rfl
def X255 : XFn Tryz.prog 4 (comp Tryz.prog) := ⟨X2,tf2,255,Tryz.f255,c255,2,55,[s2_0,s2_1],z2,x255,y255,x255_D,Tryz.ntmps255.symm,Tryz.func255,x255_b,x255_k,x255_s,by decide,z2_ok,x255_c,x255_r⟩
def x257_0 : List (Ins tf3) := [iAs (rk (.int .i64 (.ofNat 0))) s3_2]
def x257_1 : List (Ins tf3) := [iMv r3_0 s3_11,iP1 bNil r3_11 s3_12,iP1 (bFa 9) r3_12 s3_13,iR1 bLd r3_13 s3_14,iMv r3_0 s3_15,iP1 bNil r3_15 s3_16,iP1 (bFa 8) r3_16 s3_17,iR1 bLd r3_17 s3_18,iP1 bLen r3_18 s3_19,iP2 bLt r3_14 r3_19 s3_20]
def x257_2 : List (Ins tf3) := [iMv r3_0 s3_21,iP1 bNil r3_21 s3_22,iP1 (bFa 8) r3_22 s3_23,iR1 bLd r3_23 s3_24,iMv r3_0 s3_25,iP1 bNil r3_25 s3_26,iP1 (bFa 9) r3_26 s3_27,iR1 bLd r3_27 s3_28,iP2 (bIxs 1) r3_24 r3_28 s3_29,iR1 bLd r3_29 s3_30,iGp (l1 (pUn .neg)) [r3_30] (some s3_31),iAs r3_31 s3_3]
def x257_3 : List (Ins tf3) := [iMv r3_0 s3_32,iP1 bNil r3_32 s3_33,iP1 (bFa 9) r3_33 s3_34,iR1 bLd r3_34 s3_35,iP2 bAdd r3_35 (rk (.int .i64 (.ofNat 1))) s3_36,iP1 bNil r3_32 s3_37,iP1 (bFa 9) r3_37 s3_38,iM2 bSt r3_38 r3_36]
def x257_4 : List (Ins tf3) := [iMv r3_0 s3_39,iP1 bNil r3_39 s3_40,iP1 (bFa 2) r3_40 s3_41,iR1 bLd r3_41 s3_42,iMv r3_3 s3_43,iRc (iCall (rk (.func (.func 276) #[] #[])) [r3_43] (some s3_44)) [(rcLd r3_41 r3_42 [.o2,.o5,.o0] rfl)] rfl,iP2 (bIxs 1) r3_42 r3_44 s3_45,iR1 bLd r3_45 s3_46,iAs r3_46 s3_4]
def x257_5 : List (Ins tf3) := [iMv r3_4 s3_47,iGp (pSlB (pSl 1) false true false) [r3_47,(rk (.int .i64 (.ofNat 0)))] (some s3_48),iAs r3_48 s3_5]
def x257_6 : List (Ins tf3) := [iAs (rk (.int .i64 (.ofNat 0))) s3_6]
def x257_7 : List (Ins tf3) := [iMv r3_6 s3_49,iMv r3_4 s3_50,iP1 bLen r3_50 s3_51,iP2 bLt r3_49 r3_51 s3_52]
def x257_8 : List (Ins tf3) := [iMv r3_4 s3_55,iMv r3_6 s3_56,iP2 (bIxs 1) r3_55 r3_56 s3_57,iR1 bLd r3_57 s3_58,iAs r3_58 s3_7]
def x257_9 : List (Ins tf3) := [iMv r3_0 s3_59,iP1 bNil r3_59 s3_60,iP1 (bFa 1) r3_60 s3_61,iR1 bLd r3_61 s3_62,iMv r3_7 s3_63,iP2 (bIxs 1) r3_62 r3_63 s3_64,iR1 bLd r3_64 s3_65,iAs r3_65 s3_8]
def x257_10 : List (Ins tf3) := [iMv r3_8 s3_66,iP2 (bIxs 1) r3_66 (rk (.int .i64 (.ofNat 0))) s3_67,iR1 bLd r3_67 s3_68,iMv r3_3 s3_69,iP2 bEq r3_68 r3_69 s3_70]
def x257_11 : List (Ins tf3) := [iMv r3_8 s3_71,iMv r3_8 s3_72,iMv r3_8 s3_73,iP2 (bIxs 1) r3_73 (rk (.int .i64 (.ofNat 1))) s3_74,iR1 bLd r3_74 s3_75,iMv r3_8 s3_76,iP2 (bIxs 1) r3_76 (rk (.int .i64 (.ofNat 0))) s3_77,iR1 bLd r3_77 s3_78,iP2 (bIxs 1) r3_71 (rk (.int .i64 (.ofNat 0))) s3_79,iM2 bSt r3_79 r3_75,iP2 (bIxs 1) r3_72 (rk (.int .i64 (.ofNat 1))) s3_80,iM2 bSt r3_80 r3_78]
def x257_12 : List (Ins tf3) := [iMv r3_0 s3_81,iMv r3_8 s3_82,iP2 (bIxs 1) r3_82 (rk (.int .i64 (.ofNat 0))) s3_83,iR1 bLd r3_83 s3_84,iCall (rk (.func (.func 275) #[] #[])) [r3_81,r3_84] (some s3_85),iP2 bEq r3_85 (rk (.int .i8 (.ofNat 1))) s3_86]
def x257_13 : List (Ins tf3) := [iMv r3_5 s3_87,iMv r3_7 s3_88,iGa (aBsl 1 1 [(.int .i64 (.ofNat 0))] [(0,1)]) [r3_88] (some s3_89),iGm (m2 (sApp 1)) [r3_87,r3_89] (some s3_90),iAs r3_90 s3_5]
def x257_14 : List (Ins tf3) := [iAs (rk (.bool false)) s3_9]
def x257_15 : List (Ins tf3) := [iAs (rk (.int .i64 (.ofNat 2))) s3_10]
def x257_16 : List (Ins tf3) := [iMv r3_10 s3_91,iMv r3_8 s3_92,iP1 bLen r3_92 s3_93,iP2 bLt r3_91 r3_93 s3_94]
def x257_17 : List (Ins tf3) := [iMv r3_0 s3_97,iMv r3_8 s3_98,iMv r3_10 s3_99,iP2 (bIxs 1) r3_98 r3_99 s3_100,iR1 bLd r3_100 s3_101,iCall (rk (.func (.func 275) #[] #[])) [r3_97,r3_101] (some s3_102),iP2 bNe r3_102 (rk (.int .i8 (.negSucc 0))) s3_103]
def x257_18 : List (Ins tf3) := [iMv r3_8 s3_104,iMv r3_8 s3_105,iMv r3_10 s3_106,iMv r3_8 s3_107,iMv r3_10 s3_108,iP2 (bIxs 1) r3_107 r3_108 s3_109,iR1 bLd r3_109 s3_110,iMv r3_8 s3_111,iP2 (bIxs 1) r3_111 (rk (.int .i64 (.ofNat 1))) s3_112,iR1 bLd r3_112 s3_113,iP2 (bIxs 1) r3_104 (rk (.int .i64 (.ofNat 1))) s3_114,iM2 bSt r3_114 r3_110,iP2 (bIxs 1) r3_105 r3_106 s3_115,iM2 bSt r3_115 r3_113]
def x257_19 : List (Ins tf3) := [iMv r3_0 s3_116,iP1 bNil r3_116 s3_117,iP1 (bFa 2) r3_117 s3_118,iR1 bLd r3_118 s3_119,iMv r3_8 s3_120,iP2 (bIxs 1) r3_120 (rk (.int .i64 (.ofNat 1))) s3_121,iR1 bLd r3_121 s3_122,iMv r3_0 s3_124,iP1 bNil r3_124 s3_125,iP1 (bFa 2) r3_125 s3_126,iR1 bLd r3_126 s3_127,iMv r3_8 s3_128,iP2 (bIxs 1) r3_128 (rk (.int .i64 (.ofNat 1))) s3_129,iR1 bLd r3_129 s3_130,iMv r3_7 s3_134,iGa (aBsl 1 1 [(.int .i64 (.ofNat 0))] [(0,1)]) [r3_134] (some s3_135),iRc (iCall (rk (.func (.func 276) #[] #[])) [r3_122] (some s3_123)) [(rcLd r3_129 r3_130 [.o2,.o0,.o2] rfl),(rcLd r3_126 r3_127 [.o7,.o7,.o1] rfl),(rcLd r3_118 r3_119 [.o7,.o6,.o1] rfl)] rfl,iRc (iCall (rk (.func (.func 276) #[] #[])) [r3_130] (some s3_131)) [(rcLd r3_126 r3_127 [.o7,.o7,.o1] rfl),(rcLd r3_118 r3_119 [.o7,.o6,.o1] rfl)] rfl,iP2 (bIxs 1) r3_127 r3_131 s3_132,iR1 bLd r3_132 s3_133,iRc (iGm (m2 (sApp 1)) [r3_133,r3_135] (some s3_136)) [(rcLd r3_118 r3_119 [.o7,.o6,.o1] rfl)] rfl,iP2 (bIxs 1) r3_119 r3_123 s3_137,iM2 bSt r3_137 r3_136]
def x257_20 : List (Ins tf3) := [iAs (rk (.bool true)) s3_9]
def x257_21 : List (Ins tf3) := [iMv r3_10 s3_95,iP2 bAdd r3_95 (rk (.int .i64 (.ofNat 1))) s3_96,iAs r3_96 s3_10]
def x257_22 : List (Ins tf3) := [iMv r3_9 s3_138]
def x257_23 : List (Ins tf3) := [iMv r3_5 s3_139,iMv r3_7 s3_140,iGa (aBsl 1 1 [(.int .i64 (.ofNat 0))] [(0,1)]) [r3_140] (some s3_141),iGm (m2 (sApp 1)) [r3_139,r3_141] (some s3_142),iAs r3_142 s3_5]
def x257_24 : List (Ins tf3) := [iMv r3_0 s3_143,iMv r3_8 s3_144,iP2 (bIxs 1) r3_144 (rk (.int .i64 (.ofNat 0))) s3_145,iR1 bLd r3_145 s3_146,iCall (rk (.func (.func 275) #[] #[])) [r3_143,r3_146] (some s3_147),iP2 bEq r3_147 (rk (.int .i8 (.negSucc 0))) s3_148]
def x257_25 : List (Ins tf3) := [iMv r3_5 s3_149,iMv r3_4 s3_150,iMv r3_6 s3_151,iP2 bAdd r3_151 (rk (.int .i64 (.ofNat 1))) s3_152,iGp (pSlB (pSl 1) true false false) [r3_150,r3_152] (some s3_153),iGm (m2 (sApp 1)) [r3_149,r3_153] (some s3_154),iAs r3_154 s3_5]
def x257_26 : List (Ins tf3) := [iMv r3_0 s3_155,iP1 bNil r3_155 s3_156,iP1 (bFa 2) r3_156 s3_157,iR1 bLd r3_157 s3_158,iMv r3_3 s3_159,iMv r3_5 s3_161,iRc (iCall (rk (.func (.func 276) #[] #[])) [r3_159] (some s3_160)) [(rcLd r3_157 r3_158 [.o6,.o3,.o2] rfl)] rfl,iP2 (bIxs 1) r3_158 r3_160 s3_162,iM2 bSt r3_162 r3_161]
def x257_27 : List (Ins tf3) := [iMv r3_7 s3_163,iAs r3_163 s3_2]
def x257_28 : List (Ins tf3) := [iMv r3_0 s3_164,iMv r3_8 s3_165,iP2 (bIxs 1) r3_165 (rk (.int .i64 (.ofNat 0))) s3_166,iR1 bLd r3_166 s3_167,iMv r3_7 s3_168,iCall (rk (.func (.func 261) #[] #[])) [r3_164,r3_167,r3_168] (some s3_169)]
def x257_29 : XC tf3 := (.seq (.rg x257_12 (.cond r3_86 (.rg x257_13 (.exit 3)) .skip)) (.rg x257_14 (.seq (.rg x257_15 (.block 4 (.loop (.seq (.rg x257_16 (.cond r3_94 .skip (.exit 4))) (.seq (.block 5 (.rg x257_17 (.cond r3_103 (.rg x257_18 (.rg x257_19 (.rg x257_20 (.exit 4)))) .skip))) (.reg x257_21)))))) (.seq (.rg x257_22 (.cond r3_138 (.exit 3) .skip)) (.rg x257_23 (.seq (.rg x257_24 (.cond r3_148 (.rg x257_25 (.rg x257_26 (.rg x257_27 .ret))) .skip)) (.reg x257_28)))))))
def x257_30 : List (Ins tf3) := [iMv r3_6 s3_53,iP2 bAdd r3_53 (rk (.int .i64 (.ofNat 1))) s3_54,iAs r3_54 s3_6]
def x257_31 : List (Ins tf3) := [iMv r3_0 s3_170,iP1 bNil r3_170 s3_171,iP1 (bFa 2) r3_171 s3_172,iR1 bLd r3_172 s3_173,iMv r3_3 s3_174,iMv r3_5 s3_176,iRc (iCall (rk (.func (.func 276) #[] #[])) [r3_174] (some s3_175)) [(rcLd r3_172 r3_173 [.o5,.o5,.o2] rfl)] rfl,iP2 (bIxs 1) r3_173 r3_175 s3_177,iM2 bSt r3_177 r3_176]
def x257_32 : List (Ins tf3) := [iAs (rk (.int .i64 (.negSucc 0))) s3_2]
def x257 : XC tf3 := (.rg x257_0 (.seq (.block 0 (.loop (.seq (.rg x257_1 (.cond r3_20 .skip (.exit 0))) (.block 1 (.rg x257_2 (.rg x257_3 (.rg x257_4 (.rg x257_5 (.seq (.rg x257_6 (.block 2 (.loop (.seq (.rg x257_7 (.cond r3_52 .skip (.exit 2))) (.seq (.block 3 (.rg x257_8 (.rg x257_9 (.seq (.rg x257_10 (.cond r3_70 (.reg x257_11) .skip)) x257_29)))) (.reg x257_30)))))) (.reg x257_31)))))))))) (.rg x257_32 .ret)))
def c257 : Code := Tryz.f257.body.getD .skip
theorem x257_b : Tryz.f257.body = some c257 := by kernel_rfl
theorem x257_c : cG (comp Tryz.prog) 4 3 178 x257 c257 = x257.den := by kernel_rfl
def y257 : List (RR Tryz.prog 3 178 tf3) := [rrT r3_2 2 rfl rfl]
theorem x257_r : y257.map RR.den = Tryz.f257.results.toList := by kernel_rfl
theorem x257_k : okFn Tryz.f257 = true := by kernel_rfl
theorem x257_D : 3 = dep Tryz.f257.ntmps := by kernel_rfl
theorem x257_s : ([s3_0] : List (Slot tf3)).map Slot.p = (List.range' 0 1).map (pth 3) := by kernel_rfl
def X257 : XFn Tryz.prog 4 (comp Tryz.prog) := ⟨X3,tf3,257,Tryz.f257,c257,3,178,[s3_0],z3,x257,y257,x257_D,Tryz.ntmps257.symm,Tryz.func257,x257_b,x257_k,x257_s,by decide,z3_ok,x257_c,x257_r⟩
def x260_0 : List (Ins tf2) := [iAs (rk (.int .i64 (.ofNat 0))) s2_4]
def x260_1 : List (Ins tf2) := [iMv r2_0 s2_8,iP1 bNil r2_8 s2_9,iP1 (bFa 1) r2_9 s2_10,iR1 bLd r2_10 s2_11,iP1 bLen r2_11 s2_12,iAs r2_12 s2_5]
def x260_2 : List (Ins tf2) := [iMv r2_0 s2_13,iMv r2_0 s2_14,iP1 bNil r2_14 s2_15,iP1 (bFa 1) r2_15 s2_16,iR1 bLd r2_16 s2_17,iMv r2_1 s2_18,iGa (aBsl 1 1 [(.slice none 0 0)] [(0,1)]) [r2_18] (some s2_19),iGm (m2 (sApp 1)) [r2_17,r2_19] (some s2_20),iP1 bNil r2_13 s2_21,iP1 (bFa 1) r2_21 s2_22,iM2 bSt r2_22 r2_20]
def x260_3 : List (Ins tf2) := [iMv r2_1 s2_23,iGp (pSlB (pSl 1) false true false) [r2_23,(rk (.int .i64 (.ofNat 2)))] (some s2_24),iP1 bLen r2_24 s2_25,iMv (rk (.int .i64 (.ofNat 0))) s2_26]
def x260_4 : List (Ins tf2) := [iP2 bLt r2_26 r2_25 s2_27]
def x260_5 : List (Ins tf2) := [iP2 (bIxs 1) r2_24 r2_26 s2_28,iR1 bLd r2_28 s2_29,iAs r2_29 s2_7]
def x260_6 : List (Ins tf2) := [iMv r2_0 s2_30,iP1 bNil r2_30 s2_31,iP1 (bFa 2) r2_31 s2_32,iR1 bLd r2_32 s2_33,iMv r2_7 s2_34,iMv r2_0 s2_36,iP1 bNil r2_36 s2_37,iP1 (bFa 2) r2_37 s2_38,iR1 bLd r2_38 s2_39,iMv r2_7 s2_40,iMv r2_5 s2_44,iGa (aBsl 1 1 [(.int .i64 (.ofNat 0))] [(0,1)]) [r2_44] (some s2_45),iRc (iCall (rk (.func (.func 276) #[] #[])) [r2_34] (some s2_35)) [(rcLd r2_38 r2_39 [.o7,.o4] rfl),(rcLd r2_32 r2_33 [.o1,.o4] rfl)] rfl,iRc (iCall (rk (.func (.func 276) #[] #[])) [r2_40] (some s2_41)) [(rcLd r2_38 r2_39 [.o7,.o4] rfl),(rcLd r2_32 r2_33 [.o1,.o4] rfl)] rfl,iP2 (bIxs 1) r2_39 r2_41 s2_42,iR1 bLd r2_42 s2_43,iRc (iGm (m2 (sApp 1)) [r2_43,r2_45] (some s2_46)) [(rcLd r2_32 r2_33 [.o1,.o4] rfl)] rfl,iP2 (bIxs 1) r2_33 r2_35 s2_47,iM2 bSt r2_47 r2_46]
def x260_7 : List (Ins tf2) := [iP2 bAdd r2_26 (rk (.int .i64 (.ofNat 1))) s2_48,iMv r2_48 s2_26]
def x260_8 : List (Ins tf2) := [iMv r2_5 s2_49,iAs r2_49 s2_4]
def x260 : XC tf2 := (.rg x260_0 (.rg x260_1 (.rg x260_2 (.seq (.rg x260_3 (.block 0 (.loop (.rg x260_4 (.seq (.cond r2_27 .skip (.exit 0)) (.seq (.block 1 (.rg x260_5 (.reg x260_6))) (.reg x260_7))))))) (.rg x260_8 .ret)))))
def c260 : Code := Tryz.f260.body.getD .skip
theorem x260_b : Tryz.f260.body = some c260 := by kernel_rfl
theorem x260_c : cG (comp Tryz.prog) 4 2 50 x260 c260 = x260.den := by kernel_rfl
def y260 : List (RR Tryz.prog 2 50 tf2) := [rrT r2_4 4 rfl rfl]
theorem x260_r : y260.map RR.den = Tryz.f260.results.toList := by kernel_rfl
theorem x260_k : okFn Tryz.f260 = true := by kernel_rfl
theorem x260_D : 2 = dep Tryz.f260.ntmps := by kernel_rfl
theorem x260_s : ([s2_0,s2_1] : List (Slot tf2)).map Slot.p = (List.range' 0 2).map (pth 2) := by kernel_rfl
def X260 : XFn Tryz.prog 4 (comp Tryz.prog) := ⟨X2,tf2,260,Tryz.f260,c260,2,50,[s2_0,s2_1],z2,x260,y260,x260_D,Tryz.ntmps260.symm,Tryz.func260,x260_b,x260_k,x260_s,by decide,z2_ok,x260_c,x260_r⟩
def x261_0 : List (Ins tf2) := [iMv r2_1 s2_7,iCall (rk (.func (.func 277) #[] #[])) [r2_7] (some s2_8),iAs r2_8 s2_6]
def x261_1 : List (Ins tf2) := [iMv r2_0 s2_9,iP1 bNil r2_9 s2_10,iP1 (bFa 3) r2_10 s2_11,iR1 bLd r2_11 s2_12,iMv r2_6 s2_13,iP2 (bIxs 1) r2_12 r2_13 s2_14,iM2 bSt r2_14 (rk (.int .i8 (.ofNat 1)))]
def x261_2 : List (Ins tf2) := [iMv r2_1 s2_15,iP2 bLt r2_15 (rk (.int .i64 (.ofNat 0))) s2_16]
def x261_3 : List (Ins tf2) := [iMv r2_0 s2_17,iP1 bNil r2_17 s2_18,iP1 (bFa 3) r2_18 s2_19,iR1 bLd r2_19 s2_20,iMv r2_6 s2_21,iP2 (bIxs 1) r2_20 r2_21 s2_22,iM2 bSt r2_22 (rk (.int .i8 (.negSucc 0)))]
def x261_4 : List (Ins tf2) := [iMv r2_0 s2_23,iP1 bNil r2_23 s2_24,iP1 (bFa 5) r2_24 s2_25,iR1 bLd r2_25 s2_26,iMv r2_6 s2_27,iMv r2_0 s2_28,iP1 bNil r2_28 s2_29,iP1 (bFa 6) r2_29 s2_30,iR1 bLd r2_30 s2_31,iMv r2_6 s2_32,iMv r2_0 s2_33,iP1 bNil r2_33 s2_34,iP1 (bFa 10) r2_34 s2_35,iR1 bLd r2_35 s2_36,iP1 bLen r2_36 s2_37,iMv r2_2 s2_38,iP2 (bIxs 1) r2_26 r2_27 s2_39,iM2 bSt r2_39 r2_37,iP2 (bIxs 1) r2_31 r2_32 s2_40,iM2 bSt r2_40 r2_38]
def x261_5 : List (Ins tf2) := [iMv r2_0 s2_41,iMv r2_0 s2_42,iP1 bNil r2_42 s2_43,iP1 (bFa 8) r2_43 s2_44,iR1 bLd r2_44 s2_45,iMv r2_1 s2_46,iGa (aBsl 1 1 [(.int .i64 (.ofNat 0))] [(0,1)]) [r2_46] (some s2_47),iGm (m2 (sApp 1)) [r2_45,r2_47] (some s2_48),iP1 bNil r2_41 s2_49,iP1 (bFa 8) r2_49 s2_50,iM2 bSt r2_50 r2_48]
def x261 : XC tf2 := (.rg x261_0 (.rg x261_1 (.seq (.rg x261_2 (.cond r2_16 (.reg x261_3) .skip)) (.rg x261_4 (.reg x261_5)))))
def c261 : Code := Tryz.f261.body.getD .skip
theorem x261_b : Tryz.f261.body = some c261 := by kernel_rfl
theorem x261_c : cG (comp Tryz.prog) 4 2 51 x261 c261 = x261.den := by kernel_rfl
def y261 : List (RR Tryz.prog 2 51 tf2) := []
theorem x261_r : y261.map RR.den = Tryz.f261.results.toList := by kernel_rfl
theorem x261_k : okFn Tryz.f261 = true := by kernel_rfl
theorem x261_D : 2 = dep Tryz.f261.ntmps := by kernel_rfl
theorem x261_s : ([s2_0,s2_1,s2_2] : List (Slot tf2)).map Slot.p = (List.range' 0 3).map (pth 2) := by kernel_rfl
def X261 : XFn Tryz.prog 4 (comp Tryz.prog) := ⟨X2,tf2,261,Tryz.f261,c261,2,51,[s2_0,s2_1,s2_2],z2,x261,y261,x261_D,Tryz.ntmps261.symm,Tryz.func261,x261_b,x261_k,x261_s,by decide,z2_ok,x261_c,x261_r⟩
def x263_0 : List (Ins tf2) := [iAs (rk (.int .i64 (.ofNat 0))) s2_2]
def x263_1 : List (Ins tf2) := [iMv r2_0 s2_5,iP1 bNil r2_5 s2_6,iP1 (bFa 0) r2_6 s2_7,iR1 bLd r2_7 s2_8,iCall (rk (.func (.func 280) #[] #[])) [r2_8] (some s2_9),iP2 bGt r2_9 (rk (.int .i64 (.ofNat 0))) s2_10]
def x263_2 : List (Ins tf2) := [iMv r2_0 s2_12,iP1 bNil r2_12 s2_13,iP1 (bFa 0) r2_13 s2_14,iR1 bLd r2_14 s2_15,iCall (rk (.func (.func 281) #[] #[])) [r2_15] (some s2_16),iMv r2_16 s2_11,iGp (l1 (pExt 0)) [r2_11] (some s2_17),iGp (l1 (pExt 1)) [r2_11] (some s2_18),iAs r2_17 s2_3,iAs r2_18 s2_4]
def x263_3 : List (Ins tf2) := [iMv r2_4 s2_19,iP2 bNe r2_19 (rk (.int .i64 (.ofNat 0))) s2_20]
def x263_4 : List (Ins tf2) := [iMv r2_0 s2_21,iP1 bNil r2_21 s2_22,iP1 (bFa 3) r2_22 s2_23,iR1 bLd r2_23 s2_24,iMv r2_3 s2_25,iP2 (bIxs 1) r2_24 r2_25 s2_26,iR1 bLd r2_26 s2_27,iP2 bEq r2_27 (rk (.int .i8 (.ofNat 0))) s2_28]
def x263_5 : List (Ins tf2) := [iMv r2_3 s2_29,iAs r2_29 s2_2]
def x263_6 : List (Ins tf2) := [iAs (rk (.int .i64 (.ofNat 0))) s2_2]
def x263 : XC tf2 := (.rg x263_0 (.seq (.block 0 (.loop (.seq (.rg x263_1 (.cond r2_10 .skip (.exit 0))) (.block 1 (.rg x263_2 (.seq (.rg x263_3 (.cond r2_20 (.exit 0) .skip)) (.rg x263_4 (.cond r2_28 (.rg x263_5 .ret) .skip)))))))) (.rg x263_6 .ret)))
def c263 : Code := Tryz.f263.body.getD .skip
theorem x263_b : Tryz.f263.body = some c263 := by kernel_rfl
theorem x263_c : cG (comp Tryz.prog) 4 2 30 x263 c263 = x263.den := by kernel_rfl
def y263 : List (RR Tryz.prog 2 30 tf2) := [rrT r2_2 2 rfl rfl]
theorem x263_r : y263.map RR.den = Tryz.f263.results.toList := by kernel_rfl
theorem x263_k : okFn Tryz.f263 = true := by kernel_rfl
theorem x263_D : 2 = dep Tryz.f263.ntmps := by kernel_rfl
theorem x263_s : ([s2_0] : List (Slot tf2)).map Slot.p = (List.range' 0 1).map (pth 2) := by kernel_rfl
def X263 : XFn Tryz.prog 4 (comp Tryz.prog) := ⟨X2,tf2,263,Tryz.f263,c263,2,30,[s2_0],z2,x263,y263,x263_D,Tryz.ntmps263.symm,Tryz.func263,x263_b,x263_k,x263_s,by decide,z2_ok,x263_c,x263_r⟩
def x264_0 : List (Ins tf2) := [iAs (rk (.slice none 0 0)) s2_2]
def x264_1 : List (Ins tf2) := [iMv r2_0 s2_5,iP1 bNil r2_5 s2_6,iP1 (bFa 3) r2_6 s2_7,iR1 bLd r2_7 s2_8,iP1 bLen r2_8 s2_9,iP2 bSub r2_9 (rk (.int .i64 (.ofNat 1))) s2_10,iGa (a2 (gMks 1 1 [(.bool false)])) [r2_10,r2_10] (some s2_11),iAs r2_11 s2_3]
def x264_2 : List (Ins tf2) := [iMv r2_3 s2_12,iP1 bLen r2_12 s2_13,iMv (rk (.int .i64 (.ofNat 0))) s2_14]
def x264_3 : List (Ins tf2) := [iP2 bLt r2_14 r2_13 s2_15]
def x264_4 : List (Ins tf2) := [iMv r2_14 s2_16,iAs r2_16 s2_4]
def x264_5 : List (Ins tf2) := [iMv r2_3 s2_17,iMv r2_4 s2_18,iMv r2_0 s2_19,iP1 bNil r2_19 s2_20,iP1 (bFa 3) r2_20 s2_21,iR1 bLd r2_21 s2_22,iMv r2_4 s2_23,iP2 bAdd r2_23 (rk (.int .i64 (.ofNat 1))) s2_24,iP2 (bIxs 1) r2_22 r2_24 s2_25,iR1 bLd r2_25 s2_26,iP2 bEq r2_26 (rk (.int .i8 (.ofNat 1))) s2_27,iP2 (bIxs 1) r2_17 r2_18 s2_28,iM2 bSt r2_28 r2_27]
def x264_6 : List (Ins tf2) := [iP2 bAdd r2_14 (rk (.int .i64 (.ofNat 1))) s2_29,iMv r2_29 s2_14]
def x264_7 : List (Ins tf2) := [iMv r2_3 s2_30,iAs r2_30 s2_2]
def x264 : XC tf2 := (.rg x264_0 (.rg x264_1 (.seq (.rg x264_2 (.block 0 (.loop (.rg x264_3 (.seq (.cond r2_15 .skip (.exit 0)) (.seq (.block 1 (.rg x264_4 (.reg x264_5))) (.reg x264_6))))))) (.rg x264_7 .ret))))
def c264 : Code := Tryz.f264.body.getD .skip
theorem x264_b : Tryz.f264.body = some c264 := by kernel_rfl
theorem x264_c : cG (comp Tryz.prog) 4 2 31 x264 c264 = x264.den := by kernel_rfl
def y264 : List (RR Tryz.prog 2 31 tf2) := [rrT r2_2 2 rfl rfl]
theorem x264_r : y264.map RR.den = Tryz.f264.results.toList := by kernel_rfl
theorem x264_k : okFn Tryz.f264 = true := by kernel_rfl
theorem x264_D : 2 = dep Tryz.f264.ntmps := by kernel_rfl
theorem x264_s : ([s2_0] : List (Slot tf2)).map Slot.p = (List.range' 0 1).map (pth 2) := by kernel_rfl
def X264 : XFn Tryz.prog 4 (comp Tryz.prog) := ⟨X2,tf2,264,Tryz.f264,c264,2,31,[s2_0],z2,x264,y264,x264_D,Tryz.ntmps264.symm,Tryz.func264,x264_b,x264_k,x264_s,by decide,z2_ok,x264_c,x264_r⟩
def x266_0 : List (Ins tf3) := [iAs (rk (.slice none 0 0)) s3_4]
def x266_1 : List (Ins tf3) := [iMv r3_0 s3_14,iP1 bNil r3_14 s3_15,iP1 (bFa 2) r3_15 s3_16,iR1 bLd r3_16 s3_17,iMv r3_1 s3_18,iGr (r2 (rLook [0] false (.slice none 0 0) true)) [r3_17,r3_18] (some s3_19),iMv r3_19 s3_13,iGp (l1 (pExt 0)) [r3_13] (some s3_20),iGp (l1 (pExt 1)) [r3_13] (some s3_21),iAs r3_20 s3_5,iAs r3_21 s3_6]
def x266_2 : List (Ins tf3) := [iMv r3_6 s3_22]
def x266_3 : List (Ins tf3) := [iMv r3_5 s3_23,iAs r3_23 s3_4]
def x266_4 : List (Ins tf3) := [iMv r3_0 s3_25,iP1 bNil r3_25 s3_26,iP1 (bFa 0) r3_26 s3_27,iR1 bLd r3_27 s3_28,iMv r3_1 s3_29,iCall (rk (.func (.func 70) #[] #[])) [r3_28,r3_29] (some s3_30),iMv r3_30 s3_24,iGp (l1 (pExt 0)) [r3_24] (some s3_31),iGp (l1 (pExt 1)) [r3_24] (some s3_32),iGa (aAl 3 [(.int .u8 (.ofNat 0)),(.int .u64 (.ofNat 0)),(.slice none 0 0)]) [] (some s3_7),iGm (m2 (sStn 3)) [r3_7,r3_31] none,iAs r3_32 s3_8]
def x266_5 : List (Ins tf3) := [iAs (rk (.slice none 0 0)) s3_9]
def x266_6 : List (Ins tf3) := [iP1 (bFa 2) r3_7 s3_33,iR1 bLd r3_33 s3_34,iP1 bLen r3_34 s3_35,iP2 bEq r3_35 (rk (.int .i64 (.ofNat 0))) s3_36]
def x266_7 : List (Ins tf3) := [iMv r3_0 s3_37,iMv r3_1 s3_38,iGr (r1 (rLdn 3)) [r3_7] (some s3_39),iCall (rk (.func (.func 282) #[] #[])) [r3_37,r3_38,r3_39] (some s3_40),iAs r3_40 s3_9]
def x266_8 : List (Ins tf3) := [iP1 (bFa 2) r3_7 s3_41,iR1 bLd r3_41 s3_42,iP1 bLen r3_42 s3_43,iGa (a2 (gMks 1 24 [(.slice none 0 0)])) [r3_43,r3_43] (some s3_44),iAs r3_44 s3_10]
def x266_9 : List (Ins tf3) := [iP1 (bFa 2) r3_7 s3_45,iR1 bLd r3_45 s3_46,iP1 bLen r3_46 s3_47,iMv (rk (.int .i64 (.ofNat 0))) s3_48]
def x266_10 : List (Ins tf3) := [iP2 bLt r3_48 r3_47 s3_49]
def x266_11 : List (Ins tf3) := [iMv r3_48 s3_50,iP2 (bIxs 1) r3_46 r3_48 s3_51,iR1 bLd r3_51 s3_52,iAs r3_50 s3_11,iAs r3_52 s3_12]
def x266_12 : List (Ins tf3) := [iMv r3_10 s3_53,iMv r3_11 s3_54,iMv r3_0 s3_55,iMv r3_12 s3_56,iCall (rk (.func (.func 266) #[] #[])) [r3_55,r3_56] (some s3_57),iP2 (bIxs 1) r3_53 r3_54 s3_58,iM2 bSt r3_58 r3_57]
def x266_13 : List (Ins tf3) := [iP2 bAdd r3_48 (rk (.int .i64 (.ofNat 1))) s3_59,iMv r3_59 s3_48]
def x266_14 : List (Ins tf3) := [iMv r3_0 s3_60,iP1 (bFa 0) r3_7 s3_61,iR1 bLd r3_61 s3_62,iMv r3_10 s3_63,iCall (rk (.func (.func 283) #[] #[])) [r3_60,r3_62,r3_63] (some s3_64),iAs r3_64 s3_9]
def x266_15 : List (Ins tf3) := [iMv r3_0 s3_65,iP1 bNil r3_65 s3_66,iP1 (bFa 2) r3_66 s3_67,iR1 bLd r3_67 s3_68,iMv r3_1 s3_69,iMv r3_9 s3_70,iGm (m3 (sUpd [0] false)) [r3_68,r3_69,r3_70] none]
def x266_16 : List (Ins tf3) := [iMv r3_9 s3_71,iAs r3_71 s3_4]
def x266 : XC tf3 := (.rg x266_0 (.seq (.rg x266_1 (.rg x266_2 (.cond r3_22 (.rg x266_3 .ret) .skip))) (.rg x266_4 (.rg x266_5 (.seq (.rg x266_6 (.cond r3_36 (.reg x266_7) (.rg x266_8 (.seq (.rg x266_9 (.block 0 (.loop (.rg x266_10 (.seq (.cond r3_49 .skip (.exit 0)) (.seq (.block 1 (.rg x266_11 (.reg x266_12))) (.reg x266_13))))))) (.reg x266_14))))) (.rg x266_15 (.rg x266_16 .ret)))))))
def c266 : Code := Tryz.f266.body.getD .skip
theorem x266_b : Tryz.f266.body = some c266 := by kernel_rfl
theorem x266_c : cG (comp Tryz.prog) 4 3 72 x266 c266 = x266.den := by kernel_rfl
def y266 : List (RR Tryz.prog 3 72 tf3) := [rrT r3_4 4 rfl rfl]
theorem x266_r : y266.map RR.den = Tryz.f266.results.toList := by kernel_rfl
theorem x266_k : okFn Tryz.f266 = true := by kernel_rfl
theorem x266_D : 3 = dep Tryz.f266.ntmps := by kernel_rfl
theorem x266_s : ([s3_0,s3_1] : List (Slot tf3)).map Slot.p = (List.range' 0 2).map (pth 3) := by kernel_rfl
def X266 : XFn Tryz.prog 4 (comp Tryz.prog) := ⟨X3,tf3,266,Tryz.f266,c266,3,72,[s3_0,s3_1],z3,x266,y266,x266_D,Tryz.ntmps266.symm,Tryz.func266,x266_b,x266_k,x266_s,by decide,z3_ok,x266_c,x266_r⟩
def x267_0 : List (Ins tf3) := [iAs (rk (.int .i64 (.ofNat 0))) s3_6]
def x267_1 : List (Ins tf3) := [iMv r3_0 s3_15,iGp (l2 (pEqD (tdOf 336) false)) [r3_15,(rk (.pointer none))] (some s3_16)]
def x267_2 : List (Ins tf3) := [iAs (rk (.int .i64 (.ofNat 1))) s3_6]
def x267_3 : List (Ins tf3) := [iMv r3_2 s3_17,iP1 bLen r3_17 s3_18,iMv (rk (.int .i64 (.ofNat 0))) s3_19]
def x267_4 : List (Ins tf3) := [iP2 bLt r3_19 r3_18 s3_20]
def x267_5 : List (Ins tf3) := [iP2 (bIxs 1) r3_17 r3_19 s3_21,iR1 bLd r3_21 s3_22,iAs r3_22 s3_8]
def x267_6 : List (Ins tf3) := [iMv r3_8 s3_23,iP1 bLen r3_23 s3_24,iP2 bLt r3_24 (rk (.int .i64 (.ofNat 1))) s3_25,iMv r3_25 s3_26,iGd r3_26 [.o2,.o3,.o0] false (iMv r3_8 s3_27) (some s3_27) rfl rfl rfl,iGd r3_26 [.o2,.o3,.o0] false (iP1 bLen r3_27 s3_28) (some s3_28) rfl rfl rfl,iGd r3_26 [.o2,.o3,.o0] false (iP2 bGt r3_28 (rk (.int .i64 (.ofNat 64))) s3_29) (some s3_29) rfl rfl rfl,iGp (l3 pPick) [r3_26,(rk (.bool true)),r3_29] (some s3_30),iMv r3_30 s3_31,iGd r3_31 [.o7,.o3,.o0] false (iMv r3_8 s3_32) (some s3_32) rfl rfl rfl,iGd r3_31 [.o7,.o3,.o0] false (iP1 bLen r3_32 s3_33) (some s3_33) rfl rfl rfl,iGd r3_31 [.o7,.o3,.o0] false (iMv r3_2 s3_34) (some s3_34) rfl rfl rfl,iGd r3_31 [.o7,.o3,.o0] false (iP2 (bIxs 1) r3_34 (rk (.int .i64 (.ofNat 0))) s3_35) (some s3_35) rfl rfl rfl,iGd r3_31 [.o7,.o3,.o0] false (iR1 bLd r3_35 s3_36) (some s3_36) rfl rfl rfl,iGd r3_31 [.o7,.o3,.o0] false (iP1 bLen r3_36 s3_37) (some s3_37) rfl rfl rfl,iGd r3_31 [.o7,.o3,.o0] false (iP2 bNe r3_33 r3_37 s3_38) (some s3_38) rfl rfl rfl,iGp (l3 pPick) [r3_31,(rk (.bool true)),r3_38] (some s3_39)]
def x267_7 : List (Ins tf3) := [iAs (rk (.int .i64 (.ofNat 2))) s3_6]
def x267_8 : List (Ins tf3) := [iP2 bAdd r3_19 (rk (.int .i64 (.ofNat 1))) s3_40,iMv r3_40 s3_19]
def x267_9 : List (Ins tf3) := [iMv r3_1 s3_41,iGa (aBsl 1 1 [(.slice none 0 0)] [(0,1)]) [r3_41] (some s3_42),iMv r3_2 s3_43,iGm (m2 (sApp 1)) [r3_42,r3_43] (some s3_44),iP1 bLen r3_44 s3_45,iMv (rk (.int .i64 (.ofNat 0))) s3_46]
def x267_10 : List (Ins tf3) := [iP2 bLt r3_46 r3_45 s3_47]
def x267_11 : List (Ins tf3) := [iP2 (bIxs 1) r3_44 r3_46 s3_48,iR1 bLd r3_48 s3_49,iAs r3_49 s3_10]
def x267_12 : List (Ins tf3) := [iMv r3_10 s3_50,iP1 bLen r3_50 s3_51,iMv (rk (.int .i64 (.ofNat 0))) s3_52]
def x267_13 : List (Ins tf3) := [iP2 bLt r3_52 r3_51 s3_53]
def x267_14 : List (Ins tf3) := [iP2 (bIxs 1) r3_50 r3_52 s3_54,iR1 bLd r3_54 s3_55,iAs r3_55 s3_12]
def x267_15 : List (Ins tf3) := [iMv r3_0 s3_57,iMv r3_12 s3_58,iMv r3_12 s3_59,iCall (rk (.func (.func 284) #[] #[])) [r3_57,r3_58,r3_59] (some s3_60),iMv r3_60 s3_56,iGp (l1 (pExt 0)) [r3_56] (some s3_61),iGp (l1 (pExt 1)) [r3_56] (some s3_62),iAs r3_61 s3_13,iAs r3_62 s3_14]
def x267_16 : List (Ins tf3) := [iMv r3_14 s3_63,iP2 bNe r3_63 (rk (.int .i64 (.ofNat 0))) s3_64]
def x267_17 : List (Ins tf3) := [iMv r3_14 s3_65,iAs r3_65 s3_6]
def x267_18 : List (Ins tf3) := [iP2 bAdd r3_52 (rk (.int .i64 (.ofNat 1))) s3_66,iMv r3_66 s3_52]
def x267_19 : List (Ins tf3) := [iP2 bAdd r3_46 (rk (.int .i64 (.ofNat 1))) s3_67,iMv r3_67 s3_46]
def x267_20 : List (Ins tf3) := [iAs (rk (.int .i64 (.ofNat 0))) s3_6]
def x267_21 : XC tf3 := (.seq (.rg x267_3 (.block 0 (.loop (.rg x267_4 (.seq (.cond r3_20 .skip (.exit 0)) (.seq (.block 1 (.rg x267_5 (.rg x267_6 (.cond r3_39 (.rg x267_7 .ret) .skip)))) (.reg x267_8))))))) (.seq (.rg x267_9 (.block 2 (.loop (.rg x267_10 (.seq (.cond r3_47 .skip (.exit 2)) (.seq (.block 3 (.rg x267_11 (.rg x267_12 (.block 4 (.loop (.rg x267_13 (.seq (.cond r3_53 .skip (.exit 4)) (.seq (.block 5 (.rg x267_14 (.rg x267_15 (.rg x267_16 (.cond r3_64 (.rg x267_17 .ret) .skip))))) (.reg x267_18))))))))) (.reg x267_19))))))) (.rg x267_20 .ret)))
def x267 : XC tf3 := (.rg x267_0 (.seq (.rg x267_1 (.cond r3_16 (.rg x267_2 .ret) .skip)) x267_21))
def c267 : Code := Tryz.f267.body.getD .skip
theorem x267_b : Tryz.f267.body = some c267 := by kernel_rfl
theorem x267_c : cG (comp Tryz.prog) 4 3 68 x267 c267 = x267.den := by kernel_rfl
def y267 : List (RR Tryz.prog 3 68 tf3) := [rrT r3_6 6 rfl rfl]
theorem x267_r : y267.map RR.den = Tryz.f267.results.toList := by kernel_rfl
theorem x267_k : okFn Tryz.f267 = true := by kernel_rfl
theorem x267_D : 3 = dep Tryz.f267.ntmps := by kernel_rfl
theorem x267_s : ([s3_0,s3_1,s3_2] : List (Slot tf3)).map Slot.p = (List.range' 0 3).map (pth 3) := by kernel_rfl
def X267 : XFn Tryz.prog 4 (comp Tryz.prog) := ⟨X3,tf3,267,Tryz.f267,c267,3,68,[s3_0,s3_1,s3_2],z3,x267,y267,x267_D,Tryz.ntmps267.symm,Tryz.func267,x267_b,x267_k,x267_s,by decide,z3_ok,x267_c,x267_r⟩
def x268_0 : List (Ins tf1) := [iAs (rk (.int .i64 (.ofNat 0))) s1_2]
def x268_1 : List (Ins tf1) := [iMv r1_0 s1_3,iGp (l2 (pEqD (tdOf 336) false)) [r1_3,(rk (.pointer none))] (some s1_4)]
def x268_2 : List (Ins tf1) := [iAs (rk (.int .i64 (.ofNat 0))) s1_2]
def x268_3 : List (Ins tf1) := [iAs (rk (.int .i64 (.ofNat 1))) s1_2]
def x268 : XC tf1 := (.rg x268_0 (.seq (.rg x268_1 (.cond r1_4 (.rg x268_2 .ret) .skip)) (.rg x268_3 .ret)))
def c268 : Code := Tryz.f268.body.getD .skip
theorem x268_b : Tryz.f268.body = some c268 := by kernel_rfl
theorem x268_c : cG (comp Tryz.prog) 4 1 5 x268 c268 = x268.den := by kernel_rfl
def y268 : List (RR Tryz.prog 1 5 tf1) := [rrT r1_2 2 rfl rfl]
theorem x268_r : y268.map RR.den = Tryz.f268.results.toList := by kernel_rfl
theorem x268_k : okFn Tryz.f268 = true := by kernel_rfl
theorem x268_D : 1 = dep Tryz.f268.ntmps := by kernel_rfl
theorem x268_s : ([s1_0] : List (Slot tf1)).map Slot.p = (List.range' 0 1).map (pth 1) := by kernel_rfl
def X268 : XFn Tryz.prog 4 (comp Tryz.prog) := ⟨X1,tf1,268,Tryz.f268,c268,1,5,[s1_0],z1,x268,y268,x268_D,Tryz.ntmps268.symm,Tryz.func268,x268_b,x268_k,x268_s,by decide,z1_ok,x268_c,x268_r⟩
def x269_0 : List (Ins tf2) := [iAs (rk (.int .i64 (.ofNat 0))) s2_6]
def x269_1 : List (Ins tf2) := [iMv r2_0 s2_8,iP1 bNil r2_8 s2_9,iP1 (bFa 1) r2_9 s2_10,iR1 bLd r2_10 s2_11,iP2 bNe r2_11 (rk (.int .i64 (.ofNat 0))) s2_12]
def x269_2 : List (Ins tf2) := [iAs (rk (.int .i64 (.ofNat 0))) s2_6]
def x269_3 : List (Ins tf2) := [iAs (rk (.int .i64 (.ofNat 0))) s2_7]
def x269_4 : List (Ins tf2) := [iMv r2_0 s2_14,iMv r2_0 s2_15,iP1 bNil r2_15 s2_16,iP1 (bFa 0) r2_16 s2_17,iR1 bLd r2_17 s2_18,iMv r2_1 s2_19,iMv r2_2 s2_20,iCall (rk (.func (.func 285) #[] #[])) [r2_18,r2_19,r2_20] (some s2_21),iMv r2_21 s2_13,iGp (l1 (pExt 0)) [r2_13] (some s2_22),iGp (l1 (pExt 1)) [r2_13] (some s2_23),iAs r2_22 s2_7,iP1 bNil r2_14 s2_24,iP1 (bFa 1) r2_24 s2_25,iM2 bSt r2_25 r2_23]
def x269_5 : List (Ins tf2) := [iMv r2_7 s2_26,iAs r2_26 s2_6]
def x269 : XC tf2 := (.rg x269_0 (.seq (.rg x269_1 (.cond r2_12 (.rg x269_2 .ret) .skip)) (.rg x269_3 (.rg x269_4 (.rg x269_5 .ret)))))
def c269 : Code := Tryz.f269.body.getD .skip
theorem x269_b : Tryz.f269.body = some c269 := by kernel_rfl
theorem x269_c : cG (comp Tryz.prog) 4 2 27 x269 c269 = x269.den := by kernel_rfl
def y269 : List (RR Tryz.prog 2 27 tf2) := [rrT r2_6 6 rfl rfl]
theorem x269_r : y269.map RR.den = Tryz.f269.results.toList := by kernel_rfl
theorem x269_k : okFn Tryz.f269 = true := by kernel_rfl
theorem x269_D : 2 = dep Tryz.f269.ntmps := by kernel_rfl
theorem x269_s : ([s2_0,s2_1,s2_2] : List (Slot tf2)).map Slot.p = (List.range' 0 3).map (pth 2) := by kernel_rfl
def X269 : XFn Tryz.prog 4 (comp Tryz.prog) := ⟨X2,tf2,269,Tryz.f269,c269,2,27,[s2_0,s2_1,s2_2],z2,x269,y269,x269_D,Tryz.ntmps269.symm,Tryz.func269,x269_b,x269_k,x269_s,by decide,z2_ok,x269_c,x269_r⟩
def x270_0 : List (Ins tf2) := [iAs (rk (.int .i64 (.ofNat 0))) s2_4,iAs (rk (.int .i64 (.ofNat 0))) s2_5]
def x270_1 : List (Ins tf2) := [iMv r2_0 s2_6,iP1 bNil r2_6 s2_7,iP1 (bFa 1) r2_7 s2_8,iR1 bLd r2_8 s2_9,iP2 bNe r2_9 (rk (.int .i64 (.ofNat 0))) s2_10]
def x270_2 : List (Ins tf2) := [iMv r2_0 s2_11,iP1 bNil r2_11 s2_12,iP1 (bFa 1) r2_12 s2_13,iR1 bLd r2_13 s2_14,iRc (iAs (rk (.int .i64 (.ofNat 0))) s2_4) [(rcLd r2_13 r2_14 [.o6,.o1] rfl)] rfl,iAs r2_14 s2_5]
def x270_3 : List (Ins tf2) := [iMv r2_1 s2_15,iAs r2_15 s2_4,iAs (rk (.int .i64 (.ofNat 0))) s2_5]
def x270 : XC tf2 := (.rg x270_0 (.seq (.rg x270_1 (.cond r2_10 (.rg x270_2 .ret) .skip)) (.rg x270_3 .ret)))
def c270 : Code := Tryz.f270.body.getD .skip
theorem x270_b : Tryz.f270.body = some c270 := by kernel_rfl
theorem x270_c : cG (comp Tryz.prog) 4 2 16 x270 c270 = x270.den := by kernel_rfl
def y270 : List (RR Tryz.prog 2 16 tf2) := [rrT r2_4 4 rfl rfl,rrT r2_5 5 rfl rfl]
theorem x270_r : y270.map RR.den = Tryz.f270.results.toList := by kernel_rfl
theorem x270_k : okFn Tryz.f270 = true := by kernel_rfl
theorem x270_D : 2 = dep Tryz.f270.ntmps := by kernel_rfl
theorem x270_s : ([s2_0,s2_1] : List (Slot tf2)).map Slot.p = (List.range' 0 2).map (pth 2) := by kernel_rfl
def X270 : XFn Tryz.prog 4 (comp Tryz.prog) := ⟨X2,tf2,270,Tryz.f270,c270,2,16,[s2_0,s2_1],z2,x270,y270,x270_D,Tryz.ntmps270.symm,Tryz.func270,x270_b,x270_k,x270_s,by decide,z2_ok,x270_c,x270_r⟩
def x271_0 : List (Ins tf2) := [iAs (rk (.bool false)) s2_4]
def x271_1 : List (Ins tf2) := [iMv r2_1 s2_7,iP1 bLen r2_7 s2_8,iMv (rk (.int .i64 (.ofNat 0))) s2_9]
def x271_2 : List (Ins tf2) := [iP2 bLt r2_9 r2_8 s2_10]
def x271_3 : List (Ins tf2) := [iP2 (bIxs 1) r2_7 r2_9 s2_11,iR1 bLd r2_11 s2_12,iAs r2_12 s2_6]
def x271_4 : List (Ins tf2) := [iMv r2_6 s2_13,iP2 bEq r2_13 (rk (.int .i64 (.ofNat 0))) s2_14,iMv r2_14 s2_15,iGd r2_15 [.o7,.o1] false (iMv r2_6 s2_16) (some s2_16) rfl rfl rfl,iGd r2_15 [.o7,.o1] false (iMv r2_0 s2_17) (some s2_17) rfl rfl rfl,iGd r2_15 [.o7,.o1] false (iP1 bNil r2_17 s2_18) (some s2_18) rfl rfl rfl,iGd r2_15 [.o7,.o1] false (iP1 (bFa 0) r2_18 s2_19) (some s2_19) rfl rfl rfl,iGd r2_15 [.o7,.o1] false (iP1 (bFa 0) r2_19 s2_20) (some s2_20) rfl rfl rfl,iGd r2_15 [.o7,.o1] false (iR1 bLd r2_20 s2_21) (some s2_21) rfl rfl rfl,iGd r2_15 [.o7,.o1] false (iP2 bGt r2_16 r2_21 s2_22) (some s2_22) rfl rfl rfl,iGp (l3 pPick) [r2_15,(rk (.bool true)),r2_22] (some s2_23),iMv r2_23 s2_24,iGd r2_24 [.o0,.o3] false (iMv r2_6 s2_25) (some s2_25) rfl rfl rfl,iGd r2_24 [.o0,.o3] false (iMv r2_0 s2_26) (some s2_26) rfl rfl rfl,iGd r2_24 [.o0,.o3] false (iP1 bNil r2_26 s2_27) (some s2_27) rfl rfl rfl,iGd r2_24 [.o0,.o3] false (iP1 (bFa 0) r2_27 s2_28) (some s2_28) rfl rfl rfl,iGd r2_24 [.o0,.o3] false (iP1 (bFa 0) r2_28 s2_29) (some s2_29) rfl rfl rfl,iGd r2_24 [.o0,.o3] false (iR1 bLd r2_29 s2_30) (some s2_30) rfl rfl rfl,iGd r2_24 [.o0,.o3] false (iGp (l1 (pUn .neg)) [r2_30] (some s2_31)) (some s2_31) rfl rfl rfl,iGd r2_24 [.o0,.o3] false (iP2 bLt r2_25 r2_31 s2_32) (some s2_32) rfl rfl rfl,iGp (l3 pPick) [r2_24,(rk (.bool true)),r2_32] (some s2_33)]
def x271_5 : List (Ins tf2) := [iAs (rk (.bool false)) s2_4]
def x271_6 : List (Ins tf2) := [iP2 bAdd r2_9 (rk (.int .i64 (.ofNat 1))) s2_34,iMv r2_34 s2_9]
def x271_7 : List (Ins tf2) := [iAs (rk (.bool true)) s2_4]
def x271 : XC tf2 := (.rg x271_0 (.seq (.rg x271_1 (.block 0 (.loop (.rg x271_2 (.seq (.cond r2_10 .skip (.exit 0)) (.seq (.block 1 (.rg x271_3 (.rg x271_4 (.cond r2_33 (.rg x271_5 .ret) .skip)))) (.reg x271_6))))))) (.rg x271_7 .ret)))
def c271 : Code := Tryz.f271.body.getD .skip
theorem x271_b : Tryz.f271.body = some c271 := by kernel_rfl
theorem x271_c : cG (comp Tryz.prog) 4 2 35 x271 c271 = x271.den := by kernel_rfl
def y271 : List (RR Tryz.prog 2 35 tf2) := [rrT r2_4 4 rfl rfl]
theorem x271_r : y271.map RR.den = Tryz.f271.results.toList := by kernel_rfl
theorem x271_k : okFn Tryz.f271 = true := by kernel_rfl
theorem x271_D : 2 = dep Tryz.f271.ntmps := by kernel_rfl
theorem x271_s : ([s2_0,s2_1] : List (Slot tf2)).map Slot.p = (List.range' 0 2).map (pth 2) := by kernel_rfl
def X271 : XFn Tryz.prog 4 (comp Tryz.prog) := ⟨X2,tf2,271,Tryz.f271,c271,2,35,[s2_0,s2_1],z2,x271,y271,x271_D,Tryz.ntmps271.symm,Tryz.func271,x271_b,x271_k,x271_s,by decide,z2_ok,x271_c,x271_r⟩
def x272_0 : List (Ins tf2) := [iAs (rk (.int .i64 (.ofNat 0))) s2_4]
def x272_1 : List (Ins tf2) := [iMv r2_0 s2_7,iP2 bLt r2_7 (rk (.int .i64 (.ofNat 0))) s2_8,iMv r2_8 s2_9,iGd r2_9 [.o1,.o1] false (iMv r2_0 s2_10) (some s2_10) rfl rfl rfl,iGd r2_9 [.o1,.o1] false (iP2 bGt r2_10 (rk (.int .i64 (.ofNat 1048576))) s2_11) (some s2_11) rfl rfl rfl,iGp (l3 pPick) [r2_9,(rk (.bool true)),r2_11] (some s2_12)]
def x272_2 : List (Ins tf2) := [iAs (rk (.int .i64 (.ofNat 3))) s2_4]
def x272_3 : List (Ins tf2) := [iMv r2_1 s2_13,iP1 bLen r2_13 s2_14,iP2 bGt r2_14 (rk (.int .i64 (.ofNat 4096))) s2_15]
def x272_4 : List (Ins tf2) := [iAs (rk (.int .i64 (.ofNat 5))) s2_4]
def x272_5 : List (Ins tf2) := [iMv r2_1 s2_16,iP1 bLen r2_16 s2_17,iMv (rk (.int .i64 (.ofNat 0))) s2_18]
def x272_6 : List (Ins tf2) := [iP2 bLt r2_18 r2_17 s2_19]
def x272_7 : List (Ins tf2) := [iP2 (bIxs 1) r2_16 r2_18 s2_20,iR1 bLd r2_20 s2_21,iAs r2_21 s2_6]
def x272_8 : List (Ins tf2) := [iMv r2_6 s2_22,iP2 bEq r2_22 (rk (.int .i64 (.ofNat 0))) s2_23,iMv r2_23 s2_24,iGd r2_24 [.o0,.o3] false (iMv r2_6 s2_25) (some s2_25) rfl rfl rfl,iGd r2_24 [.o0,.o3] false (iCall (rk (.func (.func 286) #[] #[])) [r2_25] (some s2_26)) (some s2_26) rfl rfl rfl,iGd r2_24 [.o0,.o3] false (iMv r2_0 s2_27) (some s2_27) rfl rfl rfl,iGd r2_24 [.o0,.o3] false (iP1 (bCv .u64) r2_27 s2_28) (some s2_28) rfl rfl rfl,iGd r2_24 [.o0,.o3] false (iP2 bGt r2_26 r2_28 s2_29) (some s2_29) rfl rfl rfl,iGp (l3 pPick) [r2_24,(rk (.bool true)),r2_29] (some s2_30)]
def x272_9 : List (Ins tf2) := [iAs (rk (.int .i64 (.ofNat 3))) s2_4]
def x272_10 : List (Ins tf2) := [iP2 bAdd r2_18 (rk (.int .i64 (.ofNat 1))) s2_31,iMv r2_31 s2_18]
def x272_11 : List (Ins tf2) := [iAs (rk (.int .i64 (.ofNat 0))) s2_4]
def x272 : XC tf2 := (.rg x272_0 (.seq (.rg x272_1 (.cond r2_12 (.rg x272_2 .ret) .skip)) (.seq (.rg x272_3 (.cond r2_15 (.rg x272_4 .ret) .skip)) (.seq (.rg x272_5 (.block 0 (.loop (.rg x272_6 (.seq (.cond r2_19 .skip (.exit 0)) (.seq (.block 1 (.rg x272_7 (.rg x272_8 (.cond r2_30 (.rg x272_9 .ret) .skip)))) (.reg x272_10))))))) (.rg x272_11 .ret)))))
def c272 : Code := Tryz.f272.body.getD .skip
theorem x272_b : Tryz.f272.body = some c272 := by kernel_rfl
theorem x272_c : cG (comp Tryz.prog) 4 2 32 x272 c272 = x272.den := by kernel_rfl
def y272 : List (RR Tryz.prog 2 32 tf2) := [rrT r2_4 4 rfl rfl]
theorem x272_r : y272.map RR.den = Tryz.f272.results.toList := by kernel_rfl
theorem x272_k : okFn Tryz.f272 = true := by kernel_rfl
theorem x272_D : 2 = dep Tryz.f272.ntmps := by kernel_rfl
theorem x272_s : ([s2_0,s2_1] : List (Slot tf2)).map Slot.p = (List.range' 0 2).map (pth 2) := by kernel_rfl
def X272 : XFn Tryz.prog 4 (comp Tryz.prog) := ⟨X2,tf2,272,Tryz.f272,c272,2,32,[s2_0,s2_1],z2,x272,y272,x272_D,Tryz.ntmps272.symm,Tryz.func272,x272_b,x272_k,x272_s,by decide,z2_ok,x272_c,x272_r⟩
def x273_0 : List (Ins tf2) := [iAs (rk (.bool false)) s2_6]
def x273_1 : List (Ins tf2) := [iMv r2_0 s2_7,iP1 bNil r2_7 s2_8,iP1 (bFa 0) r2_8 s2_9,iR1 bLd r2_9 s2_10,iMv r2_1 s2_11,iP2 (bIxs 1) r2_10 r2_11 s2_12,iR1 bLd r2_12 s2_13,iMv r2_0 s2_14,iP1 bNil r2_14 s2_15,iP1 (bFa 0) r2_15 s2_16,iR1 bLd r2_16 s2_17,iMv r2_2 s2_18,iP2 (bIxs 1) r2_17 r2_18 s2_19,iR1 bLd r2_19 s2_20,iP2 bNe r2_13 r2_20 s2_21]
def x273_2 : List (Ins tf2) := [iMv r2_0 s2_22,iP1 bNil r2_22 s2_23,iP1 (bFa 0) r2_23 s2_24,iR1 bLd r2_24 s2_25,iMv r2_1 s2_26,iP2 (bIxs 1) r2_25 r2_26 s2_27,iR1 bLd r2_27 s2_28,iMv r2_0 s2_29,iP1 bNil r2_29 s2_30,iP1 (bFa 0) r2_30 s2_31,iR1 bLd r2_31 s2_32,iMv r2_2 s2_33,iP2 (bIxs 1) r2_32 r2_33 s2_34,iR1 bLd r2_34 s2_35,iP2 bGt r2_28 r2_35 s2_36,iAs r2_36 s2_6]
def x273_3 : List (Ins tf2) := [iMv r2_1 s2_37,iMv r2_2 s2_38,iP2 bLt r2_37 r2_38 s2_39,iAs r2_39 s2_6]
def x273 : XC tf2 := (.rg x273_0 (.seq (.rg x273_1 (.cond r2_21 (.rg x273_2 .ret) .skip)) (.rg x273_3 .ret)))
def c273 : Code := Tryz.f273.body.getD .skip
theorem x273_b : Tryz.f273.body = some c273 := by kernel_rfl
theorem x273_c : cG (comp Tryz.prog) 4 2 40 x273 c273 = x273.den := by kernel_rfl
def y273 : List (RR Tryz.prog 2 40 tf2) := [rrT r2_6 6 rfl rfl]
theorem x273_r : y273.map RR.den = Tryz.f273.results.toList := by kernel_rfl
theorem x273_k : okFn Tryz.f273 = true := by kernel_rfl
theorem x273_D : 2 = dep Tryz.f273.ntmps := by kernel_rfl
theorem x273_s : ([s2_0,s2_1,s2_2] : List (Slot tf2)).map Slot.p = (List.range' 0 3).map (pth 2) := by kernel_rfl
def X273 : XFn Tryz.prog 4 (comp Tryz.prog) := ⟨X2,tf2,273,Tryz.f273,c273,2,40,[s2_0,s2_1,s2_2],z2,x273,y273,x273_D,Tryz.ntmps273.symm,Tryz.func273,x273_b,x273_k,x273_s,by decide,z2_ok,x273_c,x273_r⟩
def x274_0 : List (Ins tf2) := [iAs (rk (.slice none 0 0)) s2_2,iAs (rk (.bool false)) s2_3]
def x274_1 : List (Ins tf2) := [iMv r2_0 s2_6,iCall (rk (.func (.func 287) #[] #[])) [r2_6,(rk (.func (.func 288) #[] #[]))] (some s2_7),iAs r2_7 s2_4]
def x274_2 : List (Ins tf2) := [iMv r2_4 s2_8,iP1 bLen r2_8 s2_9,iP2 bGt r2_9 (rk (.int .i64 (.ofNat 0))) s2_10,iMv r2_10 s2_11,iGd r2_11 [.o3,.o1] true (iMv r2_4 s2_12) (some s2_12) rfl rfl rfl,iGd r2_11 [.o3,.o1] true (iP2 (bIxs 1) r2_12 (rk (.int .i64 (.ofNat 0))) s2_13) (some s2_13) rfl rfl rfl,iGd r2_11 [.o3,.o1] true (iR1 bLd r2_13 s2_14) (some s2_14) rfl rfl rfl,iGd r2_11 [.o3,.o1] true (iP2 bEq r2_14 (rk (.int .i64 (.ofNat 0))) s2_15) (some s2_15) rfl rfl rfl,iGp (l3 pPick) [r2_11,r2_15,(rk (.bool false))] (some s2_16)]
def x274_3 : List (Ins tf2) := [iMv r2_4 s2_17,iGp (pSlB (pSl 1) true false false) [r2_17,(rk (.int .i64 (.ofNat 1)))] (some s2_18),iAs r2_18 s2_4]
def x274_4 : List (Ins tf2) := [iAs (rk (.int .i64 (.ofNat 1))) s2_5]
def x274_5 : List (Ins tf2) := [iMv r2_5 s2_19,iMv r2_4 s2_20,iP1 bLen r2_20 s2_21,iP2 bLt r2_19 r2_21 s2_22]
def x274_6 : List (Ins tf2) := [iMv r2_4 s2_25,iMv r2_5 s2_26,iP2 (bIxs 1) r2_25 r2_26 s2_27,iR1 bLd r2_27 s2_28,iMv r2_4 s2_30,iMv r2_5 s2_31,iP2 bSub r2_31 (rk (.int .i64 (.ofNat 1))) s2_32,iP2 (bIxs 1) r2_30 r2_32 s2_33,iR1 bLd r2_33 s2_34,iRc (iCall (rk (.func (.func 286) #[] #[])) [r2_28] (some s2_29)) [(rcLd r2_33 r2_34 [.o2,.o4] rfl)] rfl,iCall (rk (.func (.func 286) #[] #[])) [r2_34] (some s2_35),iP2 bEq r2_29 r2_35 s2_36]
def x274_7 : List (Ins tf2) := [iAs (rk (.slice none 0 0)) s2_2,iAs (rk (.bool true)) s2_3]
def x274_8 : List (Ins tf2) := [iMv r2_5 s2_23,iP2 bAdd r2_23 (rk (.int .i64 (.ofNat 1))) s2_24,iAs r2_24 s2_5]
def x274_9 : List (Ins tf2) := [iMv r2_4 s2_37,iAs r2_37 s2_2,iAs (rk (.bool false)) s2_3]
def x274 : XC tf2 := (.rg x274_0 (.rg x274_1 (.seq (.rg x274_2 (.cond r2_16 (.reg x274_3) .skip)) (.seq (.rg x274_4 (.block 0 (.loop (.seq (.rg x274_5 (.cond r2_22 .skip (.exit 0))) (.seq (.block 1 (.rg x274_6 (.cond r2_36 (.rg x274_7 .ret) .skip))) (.reg x274_8)))))) (.rg x274_9 .ret)))))
def c274 : Code := Tryz.f274.body.getD .skip
theorem x274_b : Tryz.f274.body = some c274 := by kernel_rfl
theorem x274_c : cG (comp Tryz.prog) 4 2 38 x274 c274 = x274.den := by kernel_rfl
def y274 : List (RR Tryz.prog 2 38 tf2) := [rrT r2_2 2 rfl rfl,rrT r2_3 3 rfl rfl]
theorem x274_r : y274.map RR.den = Tryz.f274.results.toList := by kernel_rfl
theorem x274_k : okFn Tryz.f274 = true := by kernel_rfl
theorem x274_D : 2 = dep Tryz.f274.ntmps := by kernel_rfl
theorem x274_s : ([s2_0] : List (Slot tf2)).map Slot.p = (List.range' 0 1).map (pth 2) := by kernel_rfl
def X274 : XFn Tryz.prog 4 (comp Tryz.prog) := ⟨X2,tf2,274,Tryz.f274,c274,2,38,[s2_0],z2,x274,y274,x274_D,Tryz.ntmps274.symm,Tryz.func274,x274_b,x274_k,x274_s,by decide,z2_ok,x274_c,x274_r⟩
def x275_0 : List (Ins tf2) := [iAs (rk (.int .i8 (.ofNat 0))) s2_4]
def x275_1 : List (Ins tf2) := [iMv r2_1 s2_5,iP2 bLt r2_5 (rk (.int .i64 (.ofNat 0))) s2_6]
def x275_2 : List (Ins tf2) := [iMv r2_0 s2_7,iP1 bNil r2_7 s2_8,iP1 (bFa 3) r2_8 s2_9,iR1 bLd r2_9 s2_10,iMv r2_1 s2_11,iGp (l1 (pUn .neg)) [r2_11] (some s2_12),iP2 (bIxs 1) r2_10 r2_12 s2_13,iR1 bLd r2_13 s2_14,iGp (l1 (pUn .neg)) [r2_14] (some s2_15),iAs r2_15 s2_4]
def x275_3 : List (Ins tf2) := [iMv r2_0 s2_16,iP1 bNil r2_16 s2_17,iP1 (bFa 3) r2_17 s2_18,iR1 bLd r2_18 s2_19,iMv r2_1 s2_20,iP2 (bIxs 1) r2_19 r2_20 s2_21,iR1 bLd r2_21 s2_22,iAs r2_22 s2_4]
def x275 : XC tf2 := (.rg x275_0 (.seq (.rg x275_1 (.cond r2_6 (.rg x275_2 .ret) .skip)) (.rg x275_3 .ret)))
def c275 : Code := Tryz.f275.body.getD .skip
theorem x275_b : Tryz.f275.body = some c275 := by kernel_rfl
theorem x275_c : cG (comp Tryz.prog) 4 2 23 x275 c275 = x275.den := by kernel_rfl
def y275 : List (RR Tryz.prog 2 23 tf2) := [rrT r2_4 4 rfl rfl]
theorem x275_r : y275.map RR.den = Tryz.f275.results.toList := by kernel_rfl
theorem x275_k : okFn Tryz.f275 = true := by kernel_rfl
theorem x275_D : 2 = dep Tryz.f275.ntmps := by kernel_rfl
theorem x275_s : ([s2_0,s2_1] : List (Slot tf2)).map Slot.p = (List.range' 0 2).map (pth 2) := by kernel_rfl
def X275 : XFn Tryz.prog 4 (comp Tryz.prog) := ⟨X2,tf2,275,Tryz.f275,c275,2,23,[s2_0,s2_1],z2,x275,y275,x275_D,Tryz.ntmps275.symm,Tryz.func275,x275_b,x275_k,x275_s,by decide,z2_ok,x275_c,x275_r⟩
def x276_0 : List (Ins tf2) := [iAs (rk (.int .i64 (.ofNat 0))) s2_2]
def x276_1 : List (Ins tf2) := [iMv r2_0 s2_3,iP2 bLt r2_3 (rk (.int .i64 (.ofNat 0))) s2_4]
def x276_2 : List (Ins tf2) := [iMv r2_0 s2_5,iGp (l2 (pBin .mul)) [(rk (.int .i64 (.negSucc 1))),r2_5] (some s2_6),iP2 bAdd r2_6 (rk (.int .i64 (.ofNat 1))) s2_7,iAs r2_7 s2_2]
def x276_3 : List (Ins tf2) := [iMv r2_0 s2_8,iGp (l2 (pBin .mul)) [(rk (.int .i64 (.ofNat 2))),r2_8] (some s2_9),iAs r2_9 s2_2]
def x276 : XC tf2 := (.rg x276_0 (.seq (.rg x276_1 (.cond r2_4 (.rg x276_2 .ret) .skip)) (.rg x276_3 .ret)))
def c276 : Code := Tryz.f276.body.getD .skip
theorem x276_b : Tryz.f276.body = some c276 := by kernel_rfl
theorem x276_c : cG (comp Tryz.prog) 4 2 10 x276 c276 = x276.den := by kernel_rfl
def y276 : List (RR Tryz.prog 2 10 tf2) := [rrT r2_2 2 rfl rfl]
theorem x276_r : y276.map RR.den = Tryz.f276.results.toList := by kernel_rfl
theorem x276_k : okFn Tryz.f276 = true := by kernel_rfl
theorem x276_D : 2 = dep Tryz.f276.ntmps := by kernel_rfl
theorem x276_s : ([s2_0] : List (Slot tf2)).map Slot.p = (List.range' 0 1).map (pth 2) := by kernel_rfl
def X276 : XFn Tryz.prog 4 (comp Tryz.prog) := ⟨X2,tf2,276,Tryz.f276,c276,2,10,[s2_0],z2,x276,y276,x276_D,Tryz.ntmps276.symm,Tryz.func276,x276_b,x276_k,x276_s,by decide,z2_ok,x276_c,x276_r⟩
def x277_0 : List (Ins tf1) := [iAs (rk (.int .i64 (.ofNat 0))) s1_2]
def x277_1 : List (Ins tf1) := [iMv r1_0 s1_3,iMv r1_0 s1_4,iGp (l1 (pUn .neg)) [r1_4] (some s1_5),iGp (l2 pMax) [r1_3,r1_5] (some s1_6),iAs r1_6 s1_2]
def x277 : XC tf1 := (.rg x277_0 (.rg x277_1 .ret))
def c277 : Code := Tryz.f277.body.getD .skip
theorem x277_b : Tryz.f277.body = some c277 := by kernel_rfl
theorem x277_c : cG (comp Tryz.prog) 4 1 7 x277 c277 = x277.den := by kernel_rfl
def y277 : List (RR Tryz.prog 1 7 tf1) := [rrT r1_2 2 rfl rfl]
theorem x277_r : y277.map RR.den = Tryz.f277.results.toList := by kernel_rfl
theorem x277_k : okFn Tryz.f277 = true := by kernel_rfl
theorem x277_D : 1 = dep Tryz.f277.ntmps := by kernel_rfl
theorem x277_s : ([s1_0] : List (Slot tf1)).map Slot.p = (List.range' 0 1).map (pth 1) := by kernel_rfl
def X277 : XFn Tryz.prog 4 (comp Tryz.prog) := ⟨X1,tf1,277,Tryz.f277,c277,1,7,[s1_0],z1,x277,y277,x277_D,Tryz.ntmps277.symm,Tryz.func277,x277_b,x277_k,x277_s,by decide,z1_ok,x277_c,x277_r⟩
def x280_0 : List (Ins tf2) := [iAs (rk (.int .i64 (.ofNat 0))) s2_2]
def x280_1 : List (Ins tf2) := [iMv r2_0 s2_3,iGp (l2 (pEqD (tdOf 362) false)) [r2_3,(rk (.pointer none))] (some s2_4)]
def x280_2 : List (Ins tf2) := [iAs (rk (.int .i64 (.ofNat 0))) s2_2]
def x280_3 : List (Ins tf2) := [iMv r2_0 s2_5,iP1 bNil r2_5 s2_6,iP1 (bFa 1) r2_6 s2_7,iP1 (bFa 0) r2_7 s2_8,iR1 bLd r2_8 s2_9,iP1 bLen r2_9 s2_10,iAs r2_10 s2_2]
def x280 : XC tf2 := (.rg x280_0 (.seq (.rg x280_1 (.cond r2_4 (.rg x280_2 .ret) .skip)) (.rg x280_3 .ret)))
def c280 : Code := Tryz.f280.body.getD .skip
theorem x280_b : Tryz.f280.body = some c280 := by kernel_rfl
theorem x280_c : cG (comp Tryz.prog) 4 2 11 x280 c280 = x280.den := by kernel_rfl
def y280 : List (RR Tryz.prog 2 11 tf2) := [rrT r2_2 2 rfl rfl]
theorem x280_r : y280.map RR.den = Tryz.f280.results.toList := by kernel_rfl
theorem x280_k : okFn Tryz.f280 = true := by kernel_rfl
theorem x280_D : 2 = dep Tryz.f280.ntmps := by kernel_rfl
theorem x280_s : ([s2_0] : List (Slot tf2)).map Slot.p = (List.range' 0 1).map (pth 2) := by kernel_rfl
def X280 : XFn Tryz.prog 4 (comp Tryz.prog) := ⟨X2,tf2,280,Tryz.f280,c280,2,11,[s2_0],z2,x280,y280,x280_D,Tryz.ntmps280.symm,Tryz.func280,x280_b,x280_k,x280_s,by decide,z2_ok,x280_c,x280_r⟩
def x281_0 : List (Ins tf2) := [iAs (rk (.int .i64 (.ofNat 0))) s2_2,iAs (rk (.int .i64 (.ofNat 0))) s2_3]
def x281_1 : List (Ins tf2) := [iMv r2_0 s2_6,iGp (l2 (pEqD (tdOf 362) false)) [r2_6,(rk (.pointer none))] (some s2_7)]
def x281_2 : List (Ins tf2) := [iAs (rk (.int .i64 (.ofNat 0))) s2_2,iAs (rk (.int .i64 (.ofNat 1))) s2_3]
def x281_3 : List (Ins tf2) := [iMv r2_0 s2_8,iP1 bNil r2_8 s2_9,iP1 (bFa 1) r2_9 s2_10,iP1 (bFa 0) r2_10 s2_11,iR1 bLd r2_11 s2_12,iP1 bLen r2_12 s2_13,iP2 bSub r2_13 (rk (.int .i64 (.ofNat 1))) s2_14,iAs r2_14 s2_4]
def x281_4 : List (Ins tf2) := [iMv r2_4 s2_15,iP2 bLt r2_15 (rk (.int .i64 (.ofNat 0))) s2_16]
def x281_5 : List (Ins tf2) := [iAs (rk (.int .i64 (.ofNat 0))) s2_2,iAs (rk (.int .i64 (.ofNat 6))) s2_3]
def x281_6 : List (Ins tf2) := [iMv r2_0 s2_17,iP1 bNil r2_17 s2_18,iP1 (bFa 1) r2_18 s2_19,iMv r2_4 s2_20,iCall (rk (.func (.func 291) #[] #[])) [r2_19,(rk (.int .i64 (.ofNat 0))),r2_20] (some s2_21)]
def x281_7 : List (Ins tf2) := [iMv r2_0 s2_22,iP1 bNil r2_22 s2_23,iP1 (bFa 1) r2_23 s2_24,iP1 (bFa 0) r2_24 s2_25,iR1 bLd r2_25 s2_26,iMv r2_4 s2_27,iP2 (bIxs 1) r2_26 r2_27 s2_28,iR1 bLd r2_28 s2_29,iAs r2_29 s2_5]
def x281_8 : List (Ins tf2) := [iMv r2_0 s2_30,iMv r2_0 s2_31,iP1 bNil r2_31 s2_32,iP1 (bFa 1) r2_32 s2_33,iP1 (bFa 1) r2_33 s2_34,iR1 bLd r2_34 s2_35,iMv r2_5 s2_36,iMv r2_0 s2_37,iP1 bNil r2_37 s2_38,iP1 (bFa 1) r2_38 s2_39,iP1 (bFa 0) r2_39 s2_40,iR1 bLd r2_40 s2_41,iMv r2_4 s2_42,iGp (pSlB (pSl 1) false true false) [r2_41,r2_42] (some s2_43),iP1 bNil r2_30 s2_44,iP1 (bFa 1) r2_44 s2_45,iP1 (bFa 0) r2_45 s2_46,iM2 bSt r2_46 r2_43,iP2 (bIxs 1) r2_35 r2_36 s2_47,iM2 bSt r2_47 (rk (.int .i64 (.negSucc 0)))]
def x281_9 : List (Ins tf2) := [iMv r2_4 s2_48,iP2 bGt r2_48 (rk (.int .i64 (.ofNat 0))) s2_49]
def x281_10 : List (Ins tf2) := [iMv r2_0 s2_50,iP1 bNil r2_50 s2_51,iP1 (bFa 1) r2_51 s2_52,iCall (rk (.func (.func 292) #[] #[])) [r2_52,(rk (.int .i64 (.ofNat 0)))] (some s2_53)]
def x281_11 : List (Ins tf2) := [iMv r2_5 s2_54,iAs r2_54 s2_2,iAs (rk (.int .i64 (.ofNat 0))) s2_3]
def x281 : XC tf2 := (.rg x281_0 (.seq (.rg x281_1 (.cond r2_7 (.rg x281_2 .ret) .skip)) (.rg x281_3 (.seq (.rg x281_4 (.cond r2_16 (.rg x281_5 .ret) .skip)) (.rg x281_6 (.rg x281_7 (.rg x281_8 (.seq (.rg x281_9 (.cond r2_49 (.reg x281_10) .skip)) (.rg x281_11 .ret)))))))))
def c281 : Code := Tryz.f281.body.getD .skip
theorem x281_b : Tryz.f281.body = some c281 := by kernel_rfl
theorem x281_c : cG (comp Tryz.prog) 4 2 55 x281 c281 = x281.den := by kernel_rfl
def y281 : List (RR Tryz.prog 2 55 tf2) := [rrT r2_2 2 rfl rfl,rrT r2_3 3 rfl rfl]
theorem x281_r : y281.map RR.den = Tryz.f281.results.toList := by kernel_rfl
theorem x281_k : okFn Tryz.f281 = true := by kernel_rfl
theorem x281_D : 2 = dep Tryz.f281.ntmps := by kernel_rfl
theorem x281_s : ([s2_0] : List (Slot tf2)).map Slot.p = (List.range' 0 1).map (pth 2) := by kernel_rfl
def X281 : XFn Tryz.prog 4 (comp Tryz.prog) := ⟨X2,tf2,281,Tryz.f281,c281,2,55,[s2_0],z2,x281,y281,x281_D,Tryz.ntmps281.symm,Tryz.func281,x281_b,x281_k,x281_s,by decide,z2_ok,x281_c,x281_r⟩
def x282_0 : List (Ins tf3) := [iGa (a1 gBox) [r3_2] (some s3_5),iAs (rk (.slice none 0 0)) s3_6]
def x282_1 : List (Ins tf3) := [iMv r3_0 s3_9,iP1 bNil r3_9 s3_10,iP1 (bFa 0) r3_10 s3_11,iR1 bLd r3_11 s3_12,iCall (rk (.func (.func 71) #[] #[])) [r3_12] (some s3_13),iGa (a2 (gMks 1 8 [(.int .i64 (.ofNat 0))])) [r3_13,r3_13] (some s3_14),iAs r3_14 s3_7]
def x282_2 : List (Ins tf3) := [iMv r3_7 s3_15,iP1 bLen r3_15 s3_16,iMv (rk (.int .i64 (.ofNat 0))) s3_17]
def x282_3 : List (Ins tf3) := [iP2 bLt r3_17 r3_16 s3_18]
def x282_4 : List (Ins tf3) := [iMv r3_17 s3_19,iAs r3_19 s3_8]
def x282_5 : List (Ins tf3) := [iP1 (bFa 0) r3_5 s3_30,iR1 bLd r3_30 s3_31,iP2 bEq r3_31 (rk (.int .u8 (.ofNat 1))) s3_32,iAs r3_32 s3_29]
def x282_6 : List (Ins tf3) := [iMv r3_7 s3_33,iMv r3_8 s3_34,iMv r3_0 s3_35,iP1 bNil r3_35 s3_36,iP1 (bFa 1) r3_36 s3_37,iR1 bLd r3_37 s3_38,iCall (rk (.func (.func 294) #[] #[])) [r3_38] (some s3_39),iGp (l1 (pExt 0)) [r3_39] (some s3_40),iGp (l1 (pExt 1)) [r3_39] (some s3_41),iCall (rk (.func (.func 293) #[] #[])) [r3_40,r3_41] (some s3_42),iP2 (bIxs 1) r3_33 r3_34 s3_43,iM2 bSt r3_43 r3_42]
def x282_7 : List (Ins tf3) := [iP1 (bFa 1) r3_5 s3_45,iR1 bLd r3_45 s3_46,iMv r3_8 s3_47,iGp (l2 (pBin .shr)) [r3_46,r3_47] (some s3_48),iGp (l2 (pBin .and)) [r3_48,(rk (.int .u64 (.ofNat 1)))] (some s3_49),iP2 bEq r3_49 (rk (.int .u64 (.ofNat 1))) s3_50,iAs r3_50 s3_44]
def x282_8 : List (Ins tf3) := [iMv r3_7 s3_51,iMv r3_8 s3_52,iMv r3_0 s3_53,iP1 bNil r3_53 s3_54,iP1 (bFa 1) r3_54 s3_55,iR1 bLd r3_55 s3_56,iCall (rk (.func (.func 268) #[] #[])) [r3_56] (some s3_57),iP2 (bIxs 1) r3_51 r3_52 s3_58,iM2 bSt r3_58 r3_57]
def x282_9 : List (Ins tf3) := [iMv r3_7 s3_20,iMv r3_8 s3_21,iMv r3_0 s3_22,iP1 bNil r3_22 s3_23,iP1 (bFa 1) r3_23 s3_24,iR1 bLd r3_24 s3_25,iCall (rk (.func (.func 268) #[] #[])) [r3_25] (some s3_26),iGp (l1 (pUn .neg)) [r3_26] (some s3_27),iP2 (bIxs 1) r3_20 r3_21 s3_28,iM2 bSt r3_28 r3_27]
def x282_10 : List (Ins tf3) := [iP2 bAdd r3_17 (rk (.int .i64 (.ofNat 1))) s3_59,iMv r3_59 s3_17]
def x282_11 : List (Ins tf3) := [iP1 (bFa 0) r3_5 s3_60,iR1 bLd r3_60 s3_61,iP2 bEq r3_61 (rk (.int .u8 (.ofNat 1))) s3_62]
def x282_12 : List (Ins tf3) := [iMv r3_0 s3_63,iP1 bNil r3_63 s3_64,iP1 (bFa 3) r3_64 s3_65,iR1 bLd r3_65 s3_66,iP1 (bFa 1) r3_5 s3_67,iR1 bLd r3_67 s3_68,iMv r3_1 s3_69,iGm (m3 (sUpd [0] false)) [r3_66,r3_68,r3_69] none]
def x282_13 : List (Ins tf3) := [iMv r3_7 s3_70,iAs r3_70 s3_6]
def x282 : XC tf3 := (.rg x282_0 (.rg x282_1 (.seq (.rg x282_2 (.block 0 (.loop (.rg x282_3 (.seq (.cond r3_18 .skip (.exit 0)) (.seq (.block 1 (.rg x282_4 (.block 2 (.rg x282_5 (.cond r3_29 (.reg x282_6) (.rg x282_7 (.cond r3_44 (.reg x282_8) (.reg x282_9)))))))) (.reg x282_10))))))) (.seq (.rg x282_11 (.cond r3_62 (.reg x282_12) .skip)) (.rg x282_13 .ret)))))
def c282 : Code := Tryz.f282.body.getD .skip
theorem x282_b : Tryz.f282.body = some c282 := by kernel_rfl
theorem x282_c : cG (comp Tryz.prog) 4 3 71 x282 c282 = x282.den := by kernel_rfl
def y282 : List (RR Tryz.prog 3 71 tf3) := [rrT r3_6 6 rfl rfl]
theorem x282_r : y282.map RR.den = Tryz.f282.results.toList := by kernel_rfl
theorem x282_k : okFn Tryz.f282 = true := by kernel_rfl
theorem x282_D : 3 = dep Tryz.f282.ntmps := by kernel_rfl
theorem x282_s : ([s3_0,s3_1,s3_2] : List (Slot tf3)).map Slot.p = (List.range' 0 3).map (pth 3) := by kernel_rfl
def X282 : XFn Tryz.prog 4 (comp Tryz.prog) := ⟨X3,tf3,282,Tryz.f282,c282,3,71,[s3_0,s3_1,s3_2],z3,x282,y282,x282_D,Tryz.ntmps282.symm,Tryz.func282,x282_b,x282_k,x282_s,by decide,z3_ok,x282_c,x282_r⟩
end
end Cr
end Go.Proofs.YtjhbabgcoemecaaGreatDoor
