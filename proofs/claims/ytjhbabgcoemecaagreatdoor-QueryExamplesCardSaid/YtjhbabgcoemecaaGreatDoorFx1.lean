/- A machine for closed runs: compiled functions (written by gen). -/
import Derived.Test.YtjhbabgcoemecaaGreatDoorFxA
import Derived.KernelRfl
namespace Go.Proofs.YtjhbabgcoemecaaGreatDoor
namespace Cr
open Go Go.RowKit
set_option maxRecDepth 100000
noncomputable section
def x27_0 : List (Ins tf3) := [iGa (a1 gBox) [r3_0] (some s3_5),iGa (a1 gBox) [r3_1] (some s3_6),iGa (a1 gBox) [r3_2] (some s3_7),iGa (a1 gBox) [r3_3] (some s3_8),iAs (rk (.int .i64 (.ofNat 0))) s3_10,iAs (rk (.int .i64 (.ofNat 0))) s3_11]
def x27_1 : List (Ins tf3) := [iR1 bLd r3_5 s3_24,iGp (l2 (pEqD (tdOf 34) false)) [r3_24,(rk (.pointer none))] (some s3_25)]
def x27_2 : List (Ins tf3) := [iAs (rk (.int .i64 (.ofNat 0))) s3_10,iAs (rk (.int .i64 (.ofNat 1))) s3_11]
def x27_3 : List (Ins tf3) := [iR1 bLd r3_6 s3_26,iR1 bLd r3_7 s3_27,iR1 bLd r3_8 s3_28,iCall (rk (.func (.func 61) #[] #[])) [r3_26,r3_27,r3_28] (some s3_29),iAs r3_29 s3_12]
def x27_4 : List (Ins tf3) := [iMv r3_12 s3_30,iP2 bNe r3_30 (rk (.int .i64 (.ofNat 0))) s3_31]
def x27_5 : List (Ins tf3) := [iMv r3_12 s3_32,iAs (rk (.int .i64 (.ofNat 0))) s3_10,iAs r3_32 s3_11]
def x27_6 : List (Ins tf3) := [iR1 bLd r3_5 s3_34,iMv r3_4 s3_35,iGa (aBsl 1 1 [(.int .i64 (.ofNat 0))] [(0,1)]) [r3_35] (some s3_36),iCall (rk (.func (.func 24) #[] #[])) [r3_34,r3_36] (some s3_37),iMv r3_37 s3_33,iGp (l1 (pExt 0)) [r3_33] (some s3_38),iGp (l1 (pExt 1)) [r3_33] (some s3_39),iAs r3_38 s3_13,iAs r3_39 s3_14]
def x27_7 : List (Ins tf3) := [iMv r3_14 s3_40,iP2 bNe r3_40 (rk (.int .i64 (.ofNat 0))) s3_41]
def x27_8 : List (Ins tf3) := [iMv r3_14 s3_42,iAs (rk (.int .i64 (.ofNat 0))) s3_10,iAs r3_42 s3_11]
def x27_9 : List (Ins tf3) := [iMv r3_13 s3_43,iP1 bLen r3_43 s3_44,iMv (rk (.int .i64 (.ofNat 0))) s3_45]
def x27_10 : List (Ins tf3) := [iP2 bLt r3_45 r3_44 s3_46]
def x27_11 : List (Ins tf3) := [iP2 (bIxs 1) r3_43 r3_45 s3_47,iR1 bLd r3_47 s3_48,iAs r3_48 s3_16]
def x27_12 : List (Ins tf3) := [iMv r3_16 s3_49,iGp (l2 (pBin .rem)) [r3_49,(rk (.int .i64 (.ofNat 2)))] (some s3_50),iP2 bEq r3_50 (rk (.int .i64 (.ofNat 1))) s3_51,iMv r3_51 s3_52,iGd r3_52 [.o4,.o6,.o0] false (iMv r3_16 s3_53) (some s3_53) rfl rfl rfl,iGd r3_52 [.o4,.o6,.o0] false (iP2 bGt r3_53 (rk (.int .i64 (.ofNat 4194302))) s3_54) (some s3_54) rfl rfl rfl,iGp (l3 pPick) [r3_52,(rk (.bool true)),r3_54] (some s3_55)]
def x27_13 : List (Ins tf3) := [iAs (rk (.int .i64 (.ofNat 0))) s3_10,iAs (rk (.int .i64 (.ofNat 2))) s3_11]
def x27_14 : List (Ins tf3) := [iP2 bAdd r3_45 (rk (.int .i64 (.ofNat 1))) s3_56,iMv r3_56 s3_45]
def x27_15 : List (Ins tf3) := [iGp (pMkf (.func 62) 0) [r3_5,r3_6,r3_7,r3_8] (some s3_57),iAs r3_57 s3_17]
def x27_16 : List (Ins tf3) := [iAs (rk (.slice none 0 0)) s3_18,iAs (rk (.slice none 0 0)) s3_19]
def x27_17 : List (Ins tf3) := [iMv r3_13 s3_58,iP1 bLen r3_58 s3_59,iMv (rk (.int .i64 (.ofNat 0))) s3_60]
def x27_18 : List (Ins tf3) := [iP2 bLt r3_60 r3_59 s3_61]
def x27_19 : List (Ins tf3) := [iP2 (bIxs 1) r3_58 r3_60 s3_62,iR1 bLd r3_62 s3_63,iAs r3_63 s3_21]
def x27_20 : List (Ins tf3) := [iR1 bLd r3_6 s3_64,iR1 bLd r3_7 s3_65,iR1 bLd r3_8 s3_66,iMv r3_21 s3_67,iCall (rk (.func (.func 63) #[] #[])) [r3_64,r3_65,r3_66,r3_67] (some s3_68),iMv r3_21 s3_69,iP2 bEq r3_68 r3_69 s3_70]
def x27_21 : List (Ins tf3) := [iMv r3_17 s3_72,iMv r3_21 s3_73,iCall r3_72 [r3_73] (some s3_74),iMv r3_74 s3_71,iGp (l1 (pExt 0)) [r3_71] (some s3_75),iGp (l1 (pExt 1)) [r3_71] (some s3_76),iAs r3_75 s3_22,iAs r3_76 s3_23]
def x27_22 : List (Ins tf3) := [iMv r3_23 s3_77,iP2 bNe r3_77 (rk (.int .i64 (.ofNat 0))) s3_78]
def x27_23 : List (Ins tf3) := [iMv r3_23 s3_79,iAs (rk (.int .i64 (.ofNat 0))) s3_10,iAs r3_79 s3_11]
def x27_24 : List (Ins tf3) := [iMv r3_18 s3_80,iMv r3_21 s3_81,iGa (aBsl 1 1 [(.int .i64 (.ofNat 0))] [(0,1)]) [r3_81] (some s3_82),iGm (m2 (sApp 1)) [r3_80,r3_82] (some s3_83),iMv r3_19 s3_84,iMv r3_22 s3_85,iGa (aBsl 1 1 [(.int .i64 (.ofNat 0))] [(0,1)]) [r3_85] (some s3_86),iGm (m2 (sApp 1)) [r3_84,r3_86] (some s3_87),iAs r3_83 s3_18,iAs r3_87 s3_19]
def x27_25 : List (Ins tf3) := [iP2 bAdd r3_60 (rk (.int .i64 (.ofNat 1))) s3_88,iMv r3_88 s3_60]
def x27_26 : List (Ins tf3) := [iR1 bLd r3_5 s3_89,iMv r3_4 s3_90,iMv r3_18 s3_91,iMv r3_19 s3_92,iCall (rk (.func (.func 64) #[] #[])) [r3_89,r3_90,r3_91,r3_92] (some s3_93),iGp (l1 (pExt 0)) [r3_93] (some s3_94),iGp (l1 (pExt 1)) [r3_93] (some s3_95),iAs r3_94 s3_10,iAs r3_95 s3_11]
def x27_27 : XC tf3 := (.seq (.rg x27_9 (.block 0 (.loop (.rg x27_10 (.seq (.cond r3_46 .skip (.exit 0)) (.seq (.block 1 (.rg x27_11 (.rg x27_12 (.cond r3_55 (.rg x27_13 .ret) .skip)))) (.reg x27_14))))))) (.rg x27_15 (.rg x27_16 (.seq .skip (.seq (.rg x27_17 (.block 2 (.loop (.rg x27_18 (.seq (.cond r3_61 .skip (.exit 2)) (.seq (.block 3 (.rg x27_19 (.seq (.rg x27_20 (.cond r3_70 (.exit 3) .skip)) (.rg x27_21 (.seq (.rg x27_22 (.cond r3_78 (.rg x27_23 .ret) .skip)) (.reg x27_24)))))) (.reg x27_25))))))) (.rg x27_26 .ret))))))
def x27 : XC tf3 := (.rg x27_0 (.scope (.seq (.rg x27_1 (.cond r3_25 (.rg x27_2 .ret) .skip)) (.seq (.rg x27_3 (.rg x27_4 (.cond r3_31 (.rg x27_5 .ret) .skip))) (.rg x27_6 (.seq (.rg x27_7 (.cond r3_41 (.rg x27_8 .ret) .skip)) x27_27))))))
def c27 : Code := Tryz.f27.body.getD .skip
theorem x27_b : Tryz.f27.body = some c27 := by kernel_rfl
theorem x27_c : cG (comp Tryz.prog) 4 3 96 x27 c27 = x27.den := by kernel_rfl
def y27 : List (RR Tryz.prog 3 96 tf3) := [rrT r3_10 10 rfl rfl,rrT r3_11 11 rfl rfl]
theorem x27_r : y27.map RR.den = Tryz.f27.results.toList := by kernel_rfl
theorem x27_k : okFn Tryz.f27 = true := by kernel_rfl
theorem x27_D : 3 = dep Tryz.f27.ntmps := by kernel_rfl
theorem x27_s : ([s3_0,s3_1,s3_2,s3_3,s3_4] : List (Slot tf3)).map Slot.p = (List.range' 0 5).map (pth 3) := by kernel_rfl
def X27 : XFn Tryz.prog 4 (comp Tryz.prog) := ⟨X3,tf3,27,Tryz.f27,c27,3,96,[s3_0,s3_1,s3_2,s3_3,s3_4],z3,x27,y27,x27_D,Tryz.ntmps27.symm,Tryz.func27,x27_b,x27_k,x27_s,by decide,z3_ok,x27_c,x27_r⟩
def x28_0 : List (Ins tf2) := [iAs (rk (.slice none 0 0)) s2_3]
def x28_1 : List (Ins tf2) := [iAs (rk (.slice none 0 0)) s2_4]
def x28_2 : List (Ins tf2) := [iMv r2_0 s2_7,iP1 bLen r2_7 s2_8,iMv (rk (.int .i64 (.ofNat 0))) s2_9]
def x28_3 : List (Ins tf2) := [iP2 bLt r2_9 r2_8 s2_10]
def x28_4 : List (Ins tf2) := [iP2 (bIxs 2) r2_7 r2_9 s2_11,iGr (r1 (rLdn 2)) [r2_11] (some s2_12),iGa (aAl 2 [(.int .i64 (.ofNat 0)),(.int .i64 (.ofNat 0))]) [] (some s2_6),iGm (m2 (sStn 2)) [r2_6,r2_12] none]
def x28_5 : List (Ins tf2) := [iMv r2_4 s2_13,iP1 (bFa 0) r2_6 s2_14,iR1 bLd r2_14 s2_15,iR1 bLd r2_1 s2_16,iP1 (bFa 1) r2_6 s2_17,iR1 bLd r2_17 s2_18,iRc (iCall r2_16 [r2_18] (some s2_19)) [(rcLd r2_14 r2_15 [.o7,.o1] rfl)] rfl,iGp (pBld [(.int .i64 (.ofNat 0)),(.int .i64 (.ofNat 0))] [(0,1),(1,1)]) [r2_15,r2_19] (some s2_20),iGa (aBsl 1 2 [(.int .i64 (.ofNat 0)),(.int .i64 (.ofNat 0))] [(0,2)]) [r2_20] (some s2_21),iGm (m2 (sApp 2)) [r2_13,r2_21] (some s2_22),iAs r2_22 s2_4]
def x28_6 : List (Ins tf2) := [iP2 bAdd r2_9 (rk (.int .i64 (.ofNat 1))) s2_23,iMv r2_23 s2_9]
def x28_7 : List (Ins tf2) := [iMv r2_4 s2_24,iAs r2_24 s2_3]
def x28 : XC tf2 := (.rg x28_0 (.rg x28_1 (.seq (.rg x28_2 (.block 0 (.loop (.rg x28_3 (.seq (.cond r2_10 .skip (.exit 0)) (.seq (.block 1 (.rg x28_4 (.reg x28_5))) (.reg x28_6))))))) (.rg x28_7 .ret))))
def c28 : Code := Tryz.f28.body.getD .skip
theorem x28_b : Tryz.f28.body = some c28 := by kernel_rfl
theorem x28_c : cG (comp Tryz.prog) 4 2 25 x28 c28 = x28.den := by kernel_rfl
def y28 : List (RR Tryz.prog 2 25 tf2) := [rrT r2_3 3 rfl rfl]
theorem x28_r : y28.map RR.den = Tryz.f28.results.toList := by kernel_rfl
theorem x28_k : okFn Tryz.f28 = true := by kernel_rfl
theorem x28_D : 2 = dep Tryz.f28.ntmps := by kernel_rfl
theorem x28_s : ([s2_0,s2_1] : List (Slot tf2)).map Slot.p = (List.range' 0 2).map (pth 2) := by kernel_rfl
def X28 : XFn Tryz.prog 4 (comp Tryz.prog) := ⟨X2,tf2,28,Tryz.f28,c28,2,25,[s2_0,s2_1],z2,x28,y28,x28_D,Tryz.ntmps28.symm,Tryz.func28,x28_b,x28_k,x28_s,by decide,z2_ok,x28_c,x28_r⟩
def x29_0 : List (Ins tf2) := [iAs (rk (.slice none 0 0)) s2_8]
def x29_1 : List (Ins tf2) := [iAs (rk (.slice none 0 0)) s2_9]
def x29_2 : List (Ins tf2) := [iMv r2_3 s2_12,iP1 bLen r2_12 s2_13,iMv (rk (.int .i64 (.ofNat 0))) s2_14]
def x29_3 : List (Ins tf2) := [iP2 bLt r2_14 r2_13 s2_15]
def x29_4 : List (Ins tf2) := [iP2 (bIxs 2) r2_12 r2_14 s2_16,iGr (r1 (rLdn 2)) [r2_16] (some s2_17),iGa (aAl 2 [(.int .i64 (.ofNat 0)),(.int .i64 (.ofNat 0))]) [] (some s2_11),iGm (m2 (sStn 2)) [r2_11,r2_17] none]
def x29_5 : List (Ins tf2) := [iMv r2_0 s2_18,iP1 bNil r2_18 s2_19,iP1 (bFa 0) r2_19 s2_20,iR1 bLd r2_20 s2_21,iMv r2_2 s2_22,iP1 (bFa 0) r2_11 s2_23,iR1 bLd r2_23 s2_24,iP2 (bIxs 1) r2_22 r2_24 s2_25,iR1 bLd r2_25 s2_26,iMv r2_1 s2_27,iCall (rk (.func (.func 40) #[] #[])) [r2_21,r2_26,r2_27] (some s2_28)]
def x29_6 : List (Ins tf2) := [iMv r2_9 s2_29,iGr (r1 (rLdn 2)) [r2_11] (some s2_30),iGa (aBsl 1 2 [(.int .i64 (.ofNat 0)),(.int .i64 (.ofNat 0))] [(0,2)]) [r2_30] (some s2_31),iGm (m2 (sApp 2)) [r2_29,r2_31] (some s2_32),iAs r2_32 s2_9]
def x29_7 : List (Ins tf2) := [iP2 bAdd r2_14 (rk (.int .i64 (.ofNat 1))) s2_33,iMv r2_33 s2_14]
def x29_8 : List (Ins tf2) := [iMv r2_9 s2_34,iAs r2_34 s2_8]
def x29 : XC tf2 := (.rg x29_0 (.rg x29_1 (.seq (.rg x29_2 (.block 0 (.loop (.rg x29_3 (.seq (.cond r2_15 .skip (.exit 0)) (.seq (.block 1 (.rg x29_4 (.rg x29_5 (.cond r2_28 (.reg x29_6) .skip)))) (.reg x29_7))))))) (.rg x29_8 .ret))))
def c29 : Code := Tryz.f29.body.getD .skip
theorem x29_b : Tryz.f29.body = some c29 := by kernel_rfl
theorem x29_c : cG (comp Tryz.prog) 4 2 35 x29 c29 = x29.den := by kernel_rfl
def y29 : List (RR Tryz.prog 2 35 tf2) := [rrT r2_8 8 rfl rfl]
theorem x29_r : y29.map RR.den = Tryz.f29.results.toList := by kernel_rfl
theorem x29_k : okFn Tryz.f29 = true := by kernel_rfl
theorem x29_D : 2 = dep Tryz.f29.ntmps := by kernel_rfl
theorem x29_s : ([s2_0,s2_1,s2_2,s2_3] : List (Slot tf2)).map Slot.p = (List.range' 0 4).map (pth 2) := by kernel_rfl
def X29 : XFn Tryz.prog 4 (comp Tryz.prog) := ⟨X2,tf2,29,Tryz.f29,c29,2,35,[s2_0,s2_1,s2_2,s2_3],z2,x29,y29,x29_D,Tryz.ntmps29.symm,Tryz.func29,x29_b,x29_k,x29_s,by decide,z2_ok,x29_c,x29_r⟩
def x30_0 : List (Ins tf2) := [iAs (rk (.int .i64 (.ofNat 0))) s2_4]
def x30_1 : List (Ins tf2) := [iMv r2_0 s2_7,iP1 bNil r2_7 s2_8,iP1 (bFa 1) r2_8 s2_9,iR1 bLd r2_9 s2_10,iP2 bNe r2_10 (rk (.int .i64 (.ofNat 0))) s2_11]
def x30_2 : List (Ins tf2) := [iAs (rk (.int .i64 (.ofNat 0))) s2_4]
def x30_3 : List (Ins tf2) := [iMv r2_0 s2_13,iP1 bNil r2_13 s2_14,iP1 (bFa 0) r2_14 s2_15,iR1 bLd r2_15 s2_16,iMv r2_1 s2_17,iCall (rk (.func (.func 52) #[] #[])) [r2_16,r2_17] (some s2_18),iMv r2_18 s2_12,iGp (l1 (pExt 0)) [r2_12] (some s2_19),iGp (l1 (pExt 1)) [r2_12] (some s2_20),iAs r2_19 s2_5,iAs r2_20 s2_6]
def x30_4 : List (Ins tf2) := [iMv r2_0 s2_21,iMv r2_6 s2_22,iP1 bNil r2_21 s2_23,iP1 (bFa 1) r2_23 s2_24,iM2 bSt r2_24 r2_22]
def x30_5 : List (Ins tf2) := [iMv r2_5 s2_25,iAs r2_25 s2_4]
def x30 : XC tf2 := (.rg x30_0 (.seq (.rg x30_1 (.cond r2_11 (.rg x30_2 .ret) .skip)) (.rg x30_3 (.rg x30_4 (.rg x30_5 .ret)))))
def c30 : Code := Tryz.f30.body.getD .skip
theorem x30_b : Tryz.f30.body = some c30 := by kernel_rfl
theorem x30_c : cG (comp Tryz.prog) 4 2 26 x30 c30 = x30.den := by kernel_rfl
def y30 : List (RR Tryz.prog 2 26 tf2) := [rrT r2_4 4 rfl rfl]
theorem x30_r : y30.map RR.den = Tryz.f30.results.toList := by kernel_rfl
theorem x30_k : okFn Tryz.f30 = true := by kernel_rfl
theorem x30_D : 2 = dep Tryz.f30.ntmps := by kernel_rfl
theorem x30_s : ([s2_0,s2_1] : List (Slot tf2)).map Slot.p = (List.range' 0 2).map (pth 2) := by kernel_rfl
def X30 : XFn Tryz.prog 4 (comp Tryz.prog) := ⟨X2,tf2,30,Tryz.f30,c30,2,26,[s2_0,s2_1],z2,x30,y30,x30_D,Tryz.ntmps30.symm,Tryz.func30,x30_b,x30_k,x30_s,by decide,z2_ok,x30_c,x30_r⟩
def x31_0 : List (Ins tf2) := [iGa (a1 gBox) [r2_0] (some s2_2),iAs (rk (.int .i64 (.ofNat 0))) s2_4]
def x31_1 : List (Ins tf2) := [iR1 bLd r2_2 s2_9,iCall (rk (.func (.func 30) #[] #[])) [r2_9,(rk (.int .u64 (.ofNat 1)))] (some s2_10),iGa (aAl 1 [(.int .i64 (.ofNat 0))]) [] (some s2_5),iM2 bSt r2_5 r2_10]
def x31_2 : List (Ins tf2) := [iGp (pMkf (.func 65) 0) [r2_2,r2_5] (some s2_11),iAs r2_11 s2_6]
def x31_3 : List (Ins tf2) := [iMv r2_1 s2_12,iP1 bLen r2_12 s2_13,iMv (rk (.int .i64 (.ofNat 0))) s2_14]
def x31_4 : List (Ins tf2) := [iP2 bLt r2_14 r2_13 s2_15]
def x31_5 : List (Ins tf2) := [iP2 (bIxs 1) r2_12 r2_14 s2_16,iR1 bLd r2_16 s2_17,iAs r2_17 s2_8]
def x31_6 : List (Ins tf2) := [iMv r2_6 s2_18,iMv r2_8 s2_19,iCall r2_18 [r2_19] (some s2_20)]
def x31_7 : List (Ins tf2) := [iP2 bAdd r2_14 (rk (.int .i64 (.ofNat 1))) s2_21,iMv r2_21 s2_14]
def x31_8 : List (Ins tf2) := [iR1 bLd r2_5 s2_22,iAs r2_22 s2_4]
def x31 : XC tf2 := (.rg x31_0 (.rg x31_1 (.rg x31_2 (.seq (.rg x31_3 (.block 0 (.loop (.rg x31_4 (.seq (.cond r2_15 .skip (.exit 0)) (.seq (.block 1 (.rg x31_5 (.reg x31_6))) (.reg x31_7))))))) (.rg x31_8 .ret)))))
def c31 : Code := Tryz.f31.body.getD .skip
theorem x31_b : Tryz.f31.body = some c31 := by kernel_rfl
theorem x31_c : cG (comp Tryz.prog) 4 2 23 x31 c31 = x31.den := by kernel_rfl
def y31 : List (RR Tryz.prog 2 23 tf2) := [rrT r2_4 4 rfl rfl]
theorem x31_r : y31.map RR.den = Tryz.f31.results.toList := by kernel_rfl
theorem x31_k : okFn Tryz.f31 = true := by kernel_rfl
theorem x31_D : 2 = dep Tryz.f31.ntmps := by kernel_rfl
theorem x31_s : ([s2_0,s2_1] : List (Slot tf2)).map Slot.p = (List.range' 0 2).map (pth 2) := by kernel_rfl
def X31 : XFn Tryz.prog 4 (comp Tryz.prog) := ⟨X2,tf2,31,Tryz.f31,c31,2,23,[s2_0,s2_1],z2,x31,y31,x31_D,Tryz.ntmps31.symm,Tryz.func31,x31_b,x31_k,x31_s,by decide,z2_ok,x31_c,x31_r⟩
def x32_0 : List (Ins tf2) := [iAs (rk (.int .i64 (.ofNat 0))) s2_6]
def x32_1 : List (Ins tf2) := [iMv r2_0 s2_9,iP1 bNil r2_9 s2_10,iP1 (bFa 1) r2_10 s2_11,iR1 bLd r2_11 s2_12,iP2 bNe r2_12 (rk (.int .i64 (.ofNat 0))) s2_13]
def x32_2 : List (Ins tf2) := [iAs (rk (.int .i64 (.ofNat 0))) s2_6]
def x32_3 : List (Ins tf2) := [iMv r2_0 s2_15,iP1 bNil r2_15 s2_16,iP1 (bFa 0) r2_16 s2_17,iR1 bLd r2_17 s2_18,iMv r2_1 s2_19,iMv r2_2 s2_20,iCall (rk (.func (.func 66) #[] #[])) [r2_18,r2_19,r2_20] (some s2_21),iMv r2_21 s2_14,iGp (l1 (pExt 0)) [r2_14] (some s2_22),iGp (l1 (pExt 1)) [r2_14] (some s2_23),iAs r2_22 s2_7,iAs r2_23 s2_8]
def x32_4 : List (Ins tf2) := [iMv r2_0 s2_24,iMv r2_8 s2_25,iP1 bNil r2_24 s2_26,iP1 (bFa 1) r2_26 s2_27,iM2 bSt r2_27 r2_25]
def x32_5 : List (Ins tf2) := [iMv r2_7 s2_28,iAs r2_28 s2_6]
def x32 : XC tf2 := (.rg x32_0 (.seq (.rg x32_1 (.cond r2_13 (.rg x32_2 .ret) .skip)) (.rg x32_3 (.rg x32_4 (.rg x32_5 .ret)))))
def c32 : Code := Tryz.f32.body.getD .skip
theorem x32_b : Tryz.f32.body = some c32 := by kernel_rfl
theorem x32_c : cG (comp Tryz.prog) 4 2 29 x32 c32 = x32.den := by kernel_rfl
def y32 : List (RR Tryz.prog 2 29 tf2) := [rrT r2_6 6 rfl rfl]
theorem x32_r : y32.map RR.den = Tryz.f32.results.toList := by kernel_rfl
theorem x32_k : okFn Tryz.f32 = true := by kernel_rfl
theorem x32_D : 2 = dep Tryz.f32.ntmps := by kernel_rfl
theorem x32_s : ([s2_0,s2_1,s2_2] : List (Slot tf2)).map Slot.p = (List.range' 0 3).map (pth 2) := by kernel_rfl
def X32 : XFn Tryz.prog 4 (comp Tryz.prog) := ⟨X2,tf2,32,Tryz.f32,c32,2,29,[s2_0,s2_1,s2_2],z2,x32,y32,x32_D,Tryz.ntmps32.symm,Tryz.func32,x32_b,x32_k,x32_s,by decide,z2_ok,x32_c,x32_r⟩
def x35_0 : List (Ins tf3) := [iGa (a1 gBox) [r3_2] (some s3_5),iAs (rk (.slice none 0 0)) s3_6,iAs (rk (.int .i64 (.ofNat 0))) s3_7]
def x35_1 : List (Ins tf3) := [iMv r3_0 s3_25,iGp (l2 (pEqD (tdOf 34) false)) [r3_25,(rk (.pointer none))] (some s3_26)]
def x35_2 : List (Ins tf3) := [iAs (rk (.slice none 0 0)) s3_6,iAs (rk (.int .i64 (.ofNat 1))) s3_7]
def x35_3 : List (Ins tf3) := [iAs (rk (.int .i64 (.negSucc 0))) s3_8]
def x35_4 : List (Ins tf3) := [iMv r3_1 s3_27,iP1 bLen r3_27 s3_28,iMv (rk (.int .i64 (.ofNat 0))) s3_29]
def x35_5 : List (Ins tf3) := [iP2 bLt r3_29 r3_28 s3_30]
def x35_6 : List (Ins tf3) := [iP2 (bIxs 1) r3_27 r3_29 s3_31,iR1 bLd r3_31 s3_32,iAs r3_32 s3_10]
def x35_7 : List (Ins tf3) := [iMv r3_10 s3_33,iP2 bLt r3_33 (rk (.int .i64 (.ofNat 0))) s3_34,iMv r3_34 s3_35,iGd r3_35 [.o3,.o4,.o0] false (iMv r3_10 s3_36) (some s3_36) rfl rfl rfl,iGd r3_35 [.o3,.o4,.o0] false (iMv r3_0 s3_37) (some s3_37) rfl rfl rfl,iGd r3_35 [.o3,.o4,.o0] false (iCall (rk (.func (.func 58) #[] #[])) [r3_37] (some s3_38)) (some s3_38) rfl rfl rfl,iGd r3_35 [.o3,.o4,.o0] false (iP2 bGe r3_36 r3_38 s3_39) (some s3_39) rfl rfl rfl,iGp (l3 pPick) [r3_35,(rk (.bool true)),r3_39] (some s3_40)]
def x35_8 : List (Ins tf3) := [iAs (rk (.slice none 0 0)) s3_6,iAs (rk (.int .i64 (.ofNat 3))) s3_7]
def x35_9 : List (Ins tf3) := [iMv r3_8 s3_41,iMv r3_10 s3_42,iGp (l2 pMax) [r3_41,r3_42] (some s3_43),iAs r3_43 s3_8]
def x35_10 : List (Ins tf3) := [iP2 bAdd r3_29 (rk (.int .i64 (.ofNat 1))) s3_44,iMv r3_44 s3_29]
def x35_11 : List (Ins tf3) := [iMv r3_8 s3_45,iP2 bAdd r3_45 (rk (.int .i64 (.ofNat 1))) s3_46,iGa (a2 (gMks 3 40 [(.int .u8 (.ofNat 0)),(.int .u64 (.ofNat 0)),(.slice none 0 0)])) [r3_46,r3_46] (some s3_47),iAs r3_47 s3_11]
def x35_12 : List (Ins tf3) := [iMv r3_8 s3_48,iP2 bAdd r3_48 (rk (.int .i64 (.ofNat 1))) s3_49,iGa (a2 (gMks 1 1 [(.bool false)])) [r3_49,r3_49] (some s3_50),iAs r3_50 s3_12]
def x35_13 : List (Ins tf3) := [iMv r3_1 s3_51,iP1 bLen r3_51 s3_52,iMv (rk (.int .i64 (.ofNat 0))) s3_53]
def x35_14 : List (Ins tf3) := [iP2 bLt r3_53 r3_52 s3_54]
def x35_15 : List (Ins tf3) := [iP2 (bIxs 1) r3_51 r3_53 s3_55,iR1 bLd r3_55 s3_56,iAs r3_56 s3_14]
def x35_16 : List (Ins tf3) := [iMv r3_12 s3_57,iMv r3_14 s3_58,iP2 (bIxs 1) r3_57 r3_58 s3_59,iM2 bSt r3_59 (rk (.bool true))]
def x35_17 : List (Ins tf3) := [iP2 bAdd r3_53 (rk (.int .i64 (.ofNat 1))) s3_60,iMv r3_60 s3_53]
def x35_18 : List (Ins tf3) := [iMv r3_8 s3_61,iAs r3_61 s3_15]
def x35_19 : List (Ins tf3) := [iMv r3_15 s3_62,iP2 bGe r3_62 (rk (.int .i64 (.ofNat 0))) s3_63]
def x35_20 : List (Ins tf3) := [iMv r3_12 s3_66,iMv r3_15 s3_67,iP2 (bIxs 1) r3_66 r3_67 s3_68,iR1 bLd r3_68 s3_69]
def x35_21 : List (Ins tf3) := [iMv r3_11 s3_71,iMv r3_15 s3_72,iMv r3_0 s3_73,iMv r3_15 s3_74,iCall (rk (.func (.func 70) #[] #[])) [r3_73,r3_74] (some s3_75),iMv r3_75 s3_70,iGp (l1 (pExt 0)) [r3_70] (some s3_76),iGp (l1 (pExt 1)) [r3_70] (some s3_77),iP2 (bIxs 3) r3_71 r3_72 s3_78,iGm (m2 (sStn 3)) [r3_78,r3_76] none]
def x35_22 : List (Ins tf3) := [iMv r3_11 s3_79,iMv r3_15 s3_80,iP2 (bIxs 3) r3_79 r3_80 s3_81,iP1 (bFa 2) r3_81 s3_82,iR1 bLd r3_82 s3_83,iP1 bLen r3_83 s3_84,iMv (rk (.int .i64 (.ofNat 0))) s3_85]
def x35_23 : List (Ins tf3) := [iP2 bLt r3_85 r3_84 s3_86]
def x35_24 : List (Ins tf3) := [iP2 (bIxs 1) r3_83 r3_85 s3_87,iR1 bLd r3_87 s3_88,iAs r3_88 s3_17]
def x35_25 : List (Ins tf3) := [iMv r3_12 s3_89,iMv r3_17 s3_90,iP2 (bIxs 1) r3_89 r3_90 s3_91,iM2 bSt r3_91 (rk (.bool true))]
def x35_26 : List (Ins tf3) := [iP2 bAdd r3_85 (rk (.int .i64 (.ofNat 1))) s3_92,iMv r3_92 s3_85]
def x35_27 : List (Ins tf3) := [iMv r3_15 s3_64,iP2 bSub r3_64 (rk (.int .i64 (.ofNat 1))) s3_65,iAs r3_65 s3_15]
def x35_28 : List (Ins tf3) := [iMv r3_8 s3_93,iP2 bAdd r3_93 (rk (.int .i64 (.ofNat 1))) s3_94,iGa (a2 (gMks 1 8 [(.int .u64 (.ofNat 0))])) [r3_94,r3_94] (some s3_95),iGa (aAl 1 [(.slice none 0 0)]) [] (some s3_18),iM2 bSt r3_18 r3_95]
def x35_29 : List (Ins tf3) := [iMv r3_0 s3_96,iCall (rk (.func (.func 71) #[] #[])) [r3_96] (some s3_97),iGa (aAl 1 [(.int .i64 (.ofNat 0))]) [] (some s3_19),iM2 bSt r3_19 r3_97]
def x35_30 : List (Ins tf3) := [iGp (pMkf (.func 72) 0) [r3_5,r3_19,r3_18] (some s3_98),iAs r3_98 s3_20]
def x35_31 : List (Ins tf3) := [iR1 bLd r3_18 s3_99,iP1 bLen r3_99 s3_100,iMv (rk (.int .i64 (.ofNat 0))) s3_101]
def x35_32 : List (Ins tf3) := [iP2 bLt r3_101 r3_100 s3_102]
def x35_33 : List (Ins tf3) := [iMv r3_101 s3_103,iAs r3_103 s3_21]
def x35_34 : List (Ins tf3) := [iMv r3_12 s3_104,iMv r3_21 s3_105,iP2 (bIxs 1) r3_104 r3_105 s3_106,iR1 bLd r3_106 s3_107]
def x35_35 : List (Ins tf3) := [iR1 bLd r3_18 s3_108,iMv r3_21 s3_109,iMv r3_20 s3_110,iMv r3_11 s3_111,iMv r3_21 s3_112,iP2 (bIxs 3) r3_111 r3_112 s3_113,iGr (r1 (rLdn 3)) [r3_113] (some s3_114),iRc (iCall r3_110 [r3_114] (some s3_115)) [(rcLd r3_18 r3_108 [.o4,.o5,.o1] rfl)] rfl,iP2 (bIxs 1) r3_108 r3_109 s3_116,iM2 bSt r3_116 r3_115]
def x35_36 : List (Ins tf3) := [iP2 bAdd r3_101 (rk (.int .i64 (.ofNat 1))) s3_117,iMv r3_117 s3_101]
def x35_37 : List (Ins tf3) := [iMv r3_1 s3_118,iP1 bLen r3_118 s3_119,iGa (a2 (gMks 1 8 [(.int .u64 (.ofNat 0))])) [r3_119,r3_119] (some s3_120),iAs r3_120 s3_22]
def x35_38 : List (Ins tf3) := [iMv r3_1 s3_121,iP1 bLen r3_121 s3_122,iMv (rk (.int .i64 (.ofNat 0))) s3_123]
def x35_39 : List (Ins tf3) := [iP2 bLt r3_123 r3_122 s3_124]
def x35_40 : List (Ins tf3) := [iMv r3_123 s3_125,iP2 (bIxs 1) r3_121 r3_123 s3_126,iR1 bLd r3_126 s3_127,iAs r3_125 s3_23,iAs r3_127 s3_24]
def x35_41 : List (Ins tf3) := [iMv r3_22 s3_128,iMv r3_23 s3_129,iR1 bLd r3_18 s3_130,iMv r3_24 s3_131,iP2 (bIxs 1) r3_130 r3_131 s3_132,iR1 bLd r3_132 s3_133,iP2 (bIxs 1) r3_128 r3_129 s3_134,iM2 bSt r3_134 r3_133]
def x35_42 : List (Ins tf3) := [iP2 bAdd r3_123 (rk (.int .i64 (.ofNat 1))) s3_135,iMv r3_135 s3_123]
def x35_43 : List (Ins tf3) := [iMv r3_22 s3_136,iAs r3_136 s3_6,iAs (rk (.int .i64 (.ofNat 0))) s3_7]
def x35_44 : XC tf3 := (.rg x35_28 (.rg x35_29 (.rg x35_30 (.seq (.rg x35_31 (.block 8 (.loop (.rg x35_32 (.seq (.cond r3_102 .skip (.exit 8)) (.seq (.block 9 (.rg x35_33 (.rg x35_34 (.cond r3_107 (.reg x35_35) .skip)))) (.reg x35_36))))))) (.rg x35_37 (.seq (.rg x35_38 (.block 10 (.loop (.rg x35_39 (.seq (.cond r3_124 .skip (.exit 10)) (.seq (.block 11 (.rg x35_40 (.reg x35_41))) (.reg x35_42))))))) (.rg x35_43 .ret)))))))
def x35_45 : XC tf3 := (.seq (.rg x35_13 (.block 2 (.loop (.rg x35_14 (.seq (.cond r3_54 .skip (.exit 2)) (.seq (.block 3 (.rg x35_15 (.reg x35_16))) (.reg x35_17))))))) (.seq (.rg x35_18 (.block 4 (.loop (.seq (.rg x35_19 (.cond r3_63 .skip (.exit 4))) (.seq (.block 5 (.rg x35_20 (.cond r3_69 (.rg x35_21 (.rg x35_22 (.block 6 (.loop (.rg x35_23 (.seq (.cond r3_86 .skip (.exit 6)) (.seq (.block 7 (.rg x35_24 (.reg x35_25))) (.reg x35_26)))))))) .skip))) (.reg x35_27)))))) x35_44))
def x35 : XC tf3 := (.rg x35_0 (.seq (.rg x35_1 (.cond r3_26 (.rg x35_2 .ret) .skip)) (.rg x35_3 (.seq (.rg x35_4 (.block 0 (.loop (.rg x35_5 (.seq (.cond r3_30 .skip (.exit 0)) (.seq (.block 1 (.rg x35_6 (.seq (.rg x35_7 (.cond r3_40 (.rg x35_8 .ret) .skip)) (.reg x35_9)))) (.reg x35_10))))))) (.rg x35_11 (.rg x35_12 x35_45))))))
def c35 : Code := Tryz.f35.body.getD .skip
theorem x35_b : Tryz.f35.body = some c35 := by kernel_rfl
theorem x35_c : cG (comp Tryz.prog) 4 3 137 x35 c35 = x35.den := by kernel_rfl
def y35 : List (RR Tryz.prog 3 137 tf3) := [rrT r3_6 6 rfl rfl,rrT r3_7 7 rfl rfl]
theorem x35_r : y35.map RR.den = Tryz.f35.results.toList := by kernel_rfl
theorem x35_k : okFn Tryz.f35 = true := by kernel_rfl
theorem x35_D : 3 = dep Tryz.f35.ntmps := by kernel_rfl
theorem x35_s : ([s3_0,s3_1,s3_2] : List (Slot tf3)).map Slot.p = (List.range' 0 3).map (pth 3) := by kernel_rfl
def X35 : XFn Tryz.prog 4 (comp Tryz.prog) := ⟨X3,tf3,35,Tryz.f35,c35,3,137,[s3_0,s3_1,s3_2],z3,x35,y35,x35_D,Tryz.ntmps35.symm,Tryz.func35,x35_b,x35_k,x35_s,by decide,z3_ok,x35_c,x35_r⟩
def x40_0 : List (Ins tf2) := [iAs (rk (.bool false)) s2_6]
def x40_1 : List (Ins tf2) := [iMv r2_0 s2_7,iMv r2_1 s2_8,iCall (rk (.func (.func 83) #[] #[])) [r2_7,r2_8] (some s2_9),iMv r2_9 s2_10,iGd r2_10 [.o2,.o1] true (iMv r2_0 s2_11) (some s2_11) rfl rfl rfl,iGd r2_10 [.o2,.o1] true (iMv r2_2 s2_12) (some s2_12) rfl rfl rfl,iGd r2_10 [.o2,.o1] true (iCall (rk (.func (.func 83) #[] #[])) [r2_11,r2_12] (some s2_13)) (some s2_13) rfl rfl rfl,iGp (l3 pPick) [r2_10,r2_13,(rk (.bool false))] (some s2_14),iMv r2_14 s2_15,iGd r2_15 [.o7,.o1] true (iMv r2_0 s2_16) (some s2_16) rfl rfl rfl,iGd r2_15 [.o7,.o1] true (iMv r2_1 s2_17) (some s2_17) rfl rfl rfl,iGd r2_15 [.o7,.o1] true (iP1 bNil r2_16 s2_18) (some s2_18) rfl rfl rfl,iGd r2_15 [.o7,.o1] true (iP1 (bFa 1) r2_18 s2_19) (some s2_19) rfl rfl rfl,iGd r2_15 [.o7,.o1] true (iP2 (bIxa 32 1) r2_19 r2_17 s2_20) (some s2_20) rfl rfl rfl,iGd r2_15 [.o7,.o1] true (iR1 bLd r2_20 s2_21) (some s2_21) rfl rfl rfl,iGd r2_15 [.o7,.o1] true (iMv r2_2 s2_22) (some s2_22) rfl rfl rfl,iGd r2_15 [.o7,.o1] true (iGp (l2 (pBin .shr)) [r2_21,r2_22] (some s2_23)) (some s2_23) rfl rfl rfl,iGd r2_15 [.o7,.o1] true (iGp (l2 (pBin .and)) [r2_23,(rk (.int .u32 (.ofNat 1)))] (some s2_24)) (some s2_24) rfl rfl rfl,iGd r2_15 [.o7,.o1] true (iP2 bEq r2_24 (rk (.int .u32 (.ofNat 1))) s2_25) (some s2_25) rfl rfl rfl,iGp (l3 pPick) [r2_15,r2_25,(rk (.bool false))] (some s2_26),iAs r2_26 s2_6]
def x40 : XC tf2 := (.rg x40_0 (.rg x40_1 .ret))
def c40 : Code := Tryz.f40.body.getD .skip
theorem x40_b : Tryz.f40.body = some c40 := by kernel_rfl
theorem x40_c : cG (comp Tryz.prog) 4 2 27 x40 c40 = x40.den := by kernel_rfl
def y40 : List (RR Tryz.prog 2 27 tf2) := [rrT r2_6 6 rfl rfl]
theorem x40_r : y40.map RR.den = Tryz.f40.results.toList := by kernel_rfl
theorem x40_k : okFn Tryz.f40 = true := by kernel_rfl
theorem x40_D : 2 = dep Tryz.f40.ntmps := by kernel_rfl
theorem x40_s : ([s2_0,s2_1,s2_2] : List (Slot tf2)).map Slot.p = (List.range' 0 3).map (pth 2) := by kernel_rfl
def X40 : XFn Tryz.prog 4 (comp Tryz.prog) := ⟨X2,tf2,40,Tryz.f40,c40,2,27,[s2_0,s2_1,s2_2],z2,x40,y40,x40_D,Tryz.ntmps40.symm,Tryz.func40,x40_b,x40_k,x40_s,by decide,z2_ok,x40_c,x40_r⟩
def x43_0 : List (Ins tf2) := [iGa (aAl 6 [(.int .i64 (.ofNat 0)),(.int .i64 (.ofNat 0)),(.slice none 0 0),(.slice none 0 0),(.slice none 0 0),(.slice none 0 0)]) [] (some s2_2)]
def x43_1 : List (Ins tf2) := [iAs (rk (.func (.func 85) #[] #[])) s2_3]
def x43_2 : List (Ins tf2) := [iGa (aBsl 2 1 [(.string ⟨⟨[]⟩⟩)] [(0,1),(1,1)]) [(rk (.string ⟨⟨[112,117,98]⟩⟩)),(rk (.string ⟨⟨[115,101,99]⟩⟩))] (some s2_4),iGp (pBld [(.int .u8 (.ofNat 0)),(.int .u8 (.ofNat 0)),(.int .i64 (.ofNat 0)),(.int .i64 (.ofNat 0)),(.int .i64 (.ofNat 0)),(.int .u64 (.ofNat 0)),(.int .i64 (.ofNat 0)),(.int .u64 (.ofNat 0))] [(0,1),(2,1),(3,1)]) [(rk (.int .u8 (.ofNat 4))),(rk (.int .i64 (.ofNat 0))),(rk (.int .i64 (.ofNat 1)))] (some s2_5),iGp (pBld [(.int .i64 (.ofNat 0)),(.int .u64 (.ofNat 0))] [(0,1)]) [(rk (.int .i64 (.ofNat 0)))] (some s2_6),iMv r2_3 s2_7,iCall r2_7 [(rk (.int .u64 (.ofNat 3)))] (some s2_8),iGp (pBld [(.int .u8 (.ofNat 0)),(.int .u8 (.ofNat 0)),(.int .i64 (.ofNat 0)),(.int .i64 (.ofNat 0)),(.int .i64 (.ofNat 0)),(.int .u64 (.ofNat 0)),(.int .i64 (.ofNat 0)),(.int .u64 (.ofNat 0))] [(0,1),(1,1),(2,1),(4,2),(6,2)]) [(rk (.int .u8 (.ofNat 1))),(rk (.int .u8 (.ofNat 15))),(rk (.int .i64 (.ofNat 1))),r2_6,r2_8] (some s2_9),iGp (pBld [(.int .i64 (.ofNat 0)),(.int .u64 (.ofNat 0))] [(0,1)]) [(rk (.int .i64 (.ofNat 1)))] (some s2_10),iGp (pBld [(.int .u8 (.ofNat 0)),(.int .u8 (.ofNat 0)),(.int .i64 (.ofNat 0)),(.int .i64 (.ofNat 0)),(.int .i64 (.ofNat 0)),(.int .u64 (.ofNat 0)),(.int .i64 (.ofNat 0)),(.int .u64 (.ofNat 0))] [(0,1),(3,1),(4,2)]) [(rk (.int .u8 (.ofNat 8))),(rk (.int .i64 (.ofNat 5))),r2_10] (some s2_11),iMv r2_3 s2_12,iCall r2_12 [(rk (.int .u64 (.ofNat 1)))] (some s2_13),iGp (pBld [(.int .u8 (.ofNat 0)),(.int .u8 (.ofNat 0)),(.int .i64 (.ofNat 0)),(.int .i64 (.ofNat 0)),(.int .i64 (.ofNat 0)),(.int .u64 (.ofNat 0)),(.int .i64 (.ofNat 0)),(.int .u64 (.ofNat 0))] [(0,1),(4,2)]) [(rk (.int .u8 (.ofNat 5))),r2_13] (some s2_14),iGp (pBld [(.int .u8 (.ofNat 0)),(.int .u8 (.ofNat 0)),(.int .i64 (.ofNat 0)),(.int .i64 (.ofNat 0)),(.int .i64 (.ofNat 0)),(.int .u64 (.ofNat 0)),(.int .i64 (.ofNat 0)),(.int .u64 (.ofNat 0))] [(0,1)]) [(rk (.int .u8 (.ofNat 9)))] (some s2_15),iMv r2_3 s2_16,iMv r2_0 s2_17,iCall r2_16 [r2_17] (some s2_18),iGp (pBld [(.int .u8 (.ofNat 0)),(.int .u8 (.ofNat 0)),(.int .i64 (.ofNat 0)),(.int .i64 (.ofNat 0)),(.int .i64 (.ofNat 0)),(.int .u64 (.ofNat 0)),(.int .i64 (.ofNat 0)),(.int .u64 (.ofNat 0))] [(0,1),(4,2)]) [(rk (.int .u8 (.ofNat 5))),r2_18] (some s2_19),iGp (pBld [(.int .u8 (.ofNat 0)),(.int .u8 (.ofNat 0)),(.int .i64 (.ofNat 0)),(.int .i64 (.ofNat 0)),(.int .i64 (.ofNat 0)),(.int .u64 (.ofNat 0)),(.int .i64 (.ofNat 0)),(.int .u64 (.ofNat 0))] [(0,1)]) [(rk (.int .u8 (.ofNat 9)))] (some s2_20),iGa (aBsl 7 8 [(.int .u8 (.ofNat 0)),(.int .u8 (.ofNat 0)),(.int .i64 (.ofNat 0)),(.int .i64 (.ofNat 0)),(.int .i64 (.ofNat 0)),(.int .u64 (.ofNat 0)),(.int .i64 (.ofNat 0)),(.int .u64 (.ofNat 0))] [(0,8),(8,8),(16,8),(24,8),(32,8),(40,8),(48,8)]) [r2_5,r2_9,r2_11,r2_14,r2_15,r2_19,r2_20] (some s2_21),iGp (pBld [(.int .i64 (.ofNat 0)),(.int .i64 (.ofNat 0)),(.slice none 0 0),(.slice none 0 0),(.slice none 0 0),(.slice none 0 0)] [(0,1),(1,1),(2,1),(5,1)]) [(rk (.int .i64 (.ofNat 2))),(rk (.int .i64 (.ofNat 2))),r2_4,r2_21] (some s2_22),iGm (m2 (sStn 6)) [r2_2,r2_22] none]
def x43 : XC tf2 := (.rg x43_0 (.rg x43_1 (.rg x43_2 .ret)))
def c43 : Code := Tryz.f43.body.getD .skip
theorem x43_b : Tryz.f43.body = some c43 := by kernel_rfl
theorem x43_c : cG (comp Tryz.prog) 4 2 23 x43 c43 = x43.den := by kernel_rfl
def y43 : List (RR Tryz.prog 2 23 tf2) := [rrS (.cell 2 112)]
theorem x43_r : y43.map RR.den = Tryz.f43.results.toList := by kernel_rfl
theorem x43_k : okFn Tryz.f43 = true := by kernel_rfl
theorem x43_D : 2 = dep Tryz.f43.ntmps := by kernel_rfl
theorem x43_s : ([s2_0] : List (Slot tf2)).map Slot.p = (List.range' 0 1).map (pth 2) := by kernel_rfl
def X43 : XFn Tryz.prog 4 (comp Tryz.prog) := ⟨X2,tf2,43,Tryz.f43,c43,2,23,[s2_0],z2,x43,y43,x43_D,Tryz.ntmps43.symm,Tryz.func43,x43_b,x43_k,x43_s,by decide,z2_ok,x43_c,x43_r⟩
def x44_0 : List (Ins tf2) := [iGa (a1 gBox) [r2_0] (some s2_1),iAs (rk (.pointer none)) s2_2]
def x44_1 : List (Ins tf2) := [iP1 (bFa 0) r2_1 s2_6,iR1 bLd r2_6 s2_7,iCall (rk (.func (.func 50) #[] #[])) [r2_7,(rk (.int .i64 (.ofNat 1048576)))] (some s2_8),iMv r2_8 s2_5,iGp (l1 (pExt 0)) [r2_5] (some s2_9),iGp (l1 (pExt 1)) [r2_5] (some s2_10),iAs r2_9 s2_3,iAs r2_10 s2_4]
def x44_2 : List (Ins tf2) := [iMv r2_4 s2_11,iP2 bNe r2_11 (rk (.int .i64 (.ofNat 0))) s2_12]
def x44_3 : List (Ins tf2) := [iAs (rk (.pointer none)) s2_2]
def x44_4 : List (Ins tf2) := [iMv r2_3 s2_13,iAs r2_13 s2_2]
def x44 : XC tf2 := (.rg x44_0 (.rg x44_1 (.seq (.rg x44_2 (.cond r2_12 (.rg x44_3 .ret) .skip)) (.rg x44_4 .ret))))
def c44 : Code := Tryz.f44.body.getD .skip
theorem x44_b : Tryz.f44.body = some c44 := by kernel_rfl
theorem x44_c : cG (comp Tryz.prog) 4 2 14 x44 c44 = x44.den := by kernel_rfl
def y44 : List (RR Tryz.prog 2 14 tf2) := [rrT r2_2 2 rfl rfl]
theorem x44_r : y44.map RR.den = Tryz.f44.results.toList := by kernel_rfl
theorem x44_k : okFn Tryz.f44 = true := by kernel_rfl
theorem x44_D : 2 = dep Tryz.f44.ntmps := by kernel_rfl
theorem x44_s : ([s2_0] : List (Slot tf2)).map Slot.p = (List.range' 0 1).map (pth 2) := by kernel_rfl
def X44 : XFn Tryz.prog 4 (comp Tryz.prog) := ⟨X2,tf2,44,Tryz.f44,c44,2,14,[s2_0],z2,x44,y44,x44_D,Tryz.ntmps44.symm,Tryz.func44,x44_b,x44_k,x44_s,by decide,z2_ok,x44_c,x44_r⟩
def x45_0 : List (Ins tf3) := [iGa (a1 gBox) [r3_1] (some s3_6),iAs (rk (.slice none 0 0)) s3_10,iAs (rk (.int .u8 (.ofNat 0))) s3_11,iAs (rk (.int .i64 (.ofNat 0))) s3_12]
def x45_1 : List (Ins tf3) := [iMv r3_0 s3_18,iGp (l2 (pEqD (tdOf 34) false)) [r3_18,(rk (.pointer none))] (some s3_19)]
def x45_2 : List (Ins tf3) := [iAs (rk (.slice none 0 0)) s3_10,iAs (rk (.int .u8 (.ofNat 0))) s3_11,iAs (rk (.int .i64 (.ofNat 1))) s3_12]
def x45_3 : List (Ins tf3) := [iGr (r1 (rLdn 6)) [r3_6] (some s3_20),iCall (rk (.func (.func 86) #[] #[])) [r3_20] (some s3_21),iP2 bNe r3_21 (rk (.int .i64 (.ofNat 0))) s3_22,iMv r3_22 s3_23,iGd r3_23 [.o7,.o2,.o0] false (iP1 (bFa 0) r3_6 s3_24) (some s3_24) rfl rfl rfl,iGd r3_23 [.o7,.o2,.o0] false (iR1 bLd r3_24 s3_25) (some s3_25) rfl rfl rfl,iGd r3_23 [.o7,.o2,.o0] false (iMv r3_0 s3_26) (some s3_26) rfl rfl rfl,iRc (iGd r3_23 [.o7,.o2,.o0] false (iCall (rk (.func (.func 71) #[] #[])) [r3_26] (some s3_27)) (some s3_27) rfl rfl rfl) [(rcS ⟨(some ([.o7,.o2,.o0],false)),.r (r1 rLd),[(.t [.o0,.o3,.o0])],(some [.o1,.o3,.o0])⟩)] rfl,iGd r3_23 [.o7,.o2,.o0] false (iP2 bNe r3_25 r3_27 s3_28) (some s3_28) rfl rfl rfl,iGp (l3 pPick) [r3_23,(rk (.bool true)),r3_28] (some s3_29)]
def x45_4 : List (Ins tf3) := [iAs (rk (.slice none 0 0)) s3_10,iAs (rk (.int .u8 (.ofNat 0))) s3_11,iAs (rk (.int .i64 (.ofNat 2))) s3_12]
def x45_5 : List (Ins tf3) := [iMv r3_2 s3_30,iP2 bLt r3_30 (rk (.int .i64 (.ofNat 1))) s3_31,iMv r3_31 s3_32,iGd r3_32 [.o0,.o4,.o0] false (iMv r3_2 s3_33) (some s3_33) rfl rfl rfl,iGd r3_32 [.o0,.o4,.o0] false (iP2 bGt r3_33 (rk (.int .i64 (.ofNat 65536))) s3_34) (some s3_34) rfl rfl rfl,iGp (l3 pPick) [r3_32,(rk (.bool true)),r3_34] (some s3_35),iMv r3_35 s3_36,iGd r3_36 [.o4,.o4,.o0] false (iMv r3_3 s3_37) (some s3_37) rfl rfl rfl,iGd r3_36 [.o4,.o4,.o0] false (iP2 bLt r3_37 (rk (.int .i64 (.ofNat 1))) s3_38) (some s3_38) rfl rfl rfl,iGp (l3 pPick) [r3_36,(rk (.bool true)),r3_38] (some s3_39),iMv r3_39 s3_40,iGd r3_40 [.o0,.o5,.o0] false (iMv r3_3 s3_41) (some s3_41) rfl rfl rfl,iGd r3_40 [.o0,.o5,.o0] false (iP2 bGt r3_41 (rk (.int .i64 (.ofNat 4096))) s3_42) (some s3_42) rfl rfl rfl,iGp (l3 pPick) [r3_40,(rk (.bool true)),r3_42] (some s3_43),iMv r3_43 s3_44,iGd r3_44 [.o4,.o5,.o0] false (iMv r3_4 s3_45) (some s3_45) rfl rfl rfl,iGd r3_44 [.o4,.o5,.o0] false (iP2 bLt r3_45 (rk (.int .i64 (.ofNat 0))) s3_46) (some s3_46) rfl rfl rfl,iGp (l3 pPick) [r3_44,(rk (.bool true)),r3_46] (some s3_47),iMv r3_47 s3_48,iGd r3_48 [.o0,.o6,.o0] false (iMv r3_4 s3_49) (some s3_49) rfl rfl rfl,iGd r3_48 [.o0,.o6,.o0] false (iP2 bGt r3_49 (rk (.int .i64 (.ofNat 1099511627776))) s3_50) (some s3_50) rfl rfl rfl,iGp (l3 pPick) [r3_48,(rk (.bool true)),r3_50] (some s3_51)]
def x45_6 : List (Ins tf3) := [iAs (rk (.slice none 0 0)) s3_10,iAs (rk (.int .u8 (.ofNat 0))) s3_11,iAs (rk (.int .i64 (.ofNat 3))) s3_12]
def x45_7 : List (Ins tf3) := [iMv r3_0 s3_52,iGr (r1 (rLdn 6)) [r3_6] (some s3_53),iMv r3_4 s3_54,iGp (pBld [(.pointer none),(.int .i64 (.ofNat 0)),(.int .i64 (.ofNat 0)),(.slice none 0 0),(.slice none 0 0),(.slice none 0 0),(.slice none 0 0),(.int .i64 (.ofNat 0)),(.slice none 0 0),(.int .u8 (.ofNat 0))] [(0,1),(1,6),(7,1)]) [r3_52,r3_53,r3_54] (some s3_55),iGa (a1 gBox) [r3_55] (some s3_56),iAs r3_56 s3_13]
def x45_8 : List (Ins tf3) := [iMv r3_0 s3_58,iGr (r1 (rLdn 6)) [r3_6] (some s3_59),iCall (rk (.func (.func 87) #[] #[])) [r3_58,r3_59] (some s3_60),iMv r3_60 s3_57,iGp (l1 (pExt 0)) [r3_57] (some s3_61),iGp (l1 (pExt 1)) [r3_57] (some s3_62),iAs r3_61 s3_14,iAs r3_62 s3_12]
def x45_9 : List (Ins tf3) := [iMv r3_13 s3_63,iMv r3_12 s3_64,iCall (rk (.func (.func 88) #[] #[])) [r3_63,r3_64] (some s3_65)]
def x45_10 : List (Ins tf3) := [iMv r3_13 s3_66,iP1 bNil r3_66 s3_67,iP1 (bFa 9) r3_67 s3_68,iR1 bLd r3_68 s3_69,iRc (iAs (rk (.slice none 0 0)) s3_10) [(rcLd r3_68 r3_69 [.o5,.o0,.o1] rfl)] rfl,iAs r3_69 s3_11,iAs (rk (.int .i64 (.ofNat 0))) s3_12]
def x45_11 : List (Ins tf3) := [iMv r3_13 s3_70,iMv r3_14 s3_71,iP1 (bFa 2) r3_6 s3_72,iR1 bLd r3_72 s3_73,iP1 bLen r3_73 s3_74,iGa (a2 (gMks 1 8 [(.int .i64 (.ofNat 0))])) [r3_74,r3_74] (some s3_75),iGp (pBld [(.slice none 0 0),(.int .u8 (.ofNat 0)),(.int .i64 (.ofNat 0)),(.slice none 0 0),(.slice none 0 0),(.slice none 0 0),(.slice none 0 0)] [(6,1)]) [r3_75] (some s3_76),iGp (pBld [(.pointer none),(.int .i64 (.ofNat 0)),(.slice none 0 0),(.int .u8 (.ofNat 0)),(.int .i64 (.ofNat 0)),(.slice none 0 0),(.slice none 0 0),(.slice none 0 0),(.slice none 0 0)] [(0,1),(2,7)]) [r3_71,r3_76] (some s3_77),iGa (aBsl 1 9 [(.pointer none),(.int .i64 (.ofNat 0)),(.slice none 0 0),(.int .u8 (.ofNat 0)),(.int .i64 (.ofNat 0)),(.slice none 0 0),(.slice none 0 0),(.slice none 0 0),(.slice none 0 0)] [(0,9)]) [r3_77] (some s3_78),iP1 bNil r3_70 s3_79,iP1 (bFa 8) r3_79 s3_80,iM2 bSt r3_80 r3_78]
def x45_12 : List (Ins tf3) := [iMv r3_13 s3_81,iP1 bNil r3_81 s3_82,iP1 (bFa 8) r3_82 s3_83,iR1 bLd r3_83 s3_84,iP1 bLen r3_84 s3_85,iP2 bGt r3_85 (rk (.int .i64 (.ofNat 0))) s3_86]
def x45_13 : List (Ins tf3) := [iMv r3_13 s3_87,iP1 bNil r3_87 s3_88,iP1 (bFa 8) r3_88 s3_89,iR1 bLd r3_89 s3_90,iMv r3_13 s3_91,iP1 bNil r3_91 s3_92,iP1 (bFa 8) r3_92 s3_93,iR1 bLd r3_93 s3_94,iP1 bLen r3_94 s3_95,iP2 bSub r3_95 (rk (.int .i64 (.ofNat 1))) s3_96,iP2 (bIxs 9) r3_90 r3_96 s3_97,iGr (r1 (rLdn 9)) [r3_97] (some s3_98),iGa (aAl 9 [(.pointer none),(.int .i64 (.ofNat 0)),(.slice none 0 0),(.int .u8 (.ofNat 0)),(.int .i64 (.ofNat 0)),(.slice none 0 0),(.slice none 0 0),(.slice none 0 0),(.slice none 0 0)]) [] (some s3_15),iGm (m2 (sStn 9)) [r3_15,r3_98] none]
def x45_14 : List (Ins tf3) := [iMv r3_13 s3_99,iMv r3_13 s3_100,iP1 bNil r3_100 s3_101,iP1 (bFa 8) r3_101 s3_102,iR1 bLd r3_102 s3_103,iMv r3_13 s3_104,iP1 bNil r3_104 s3_105,iP1 (bFa 8) r3_105 s3_106,iR1 bLd r3_106 s3_107,iP1 bLen r3_107 s3_108,iP2 bSub r3_108 (rk (.int .i64 (.ofNat 1))) s3_109,iGp (pSlB (pSl 9) false true false) [r3_103,r3_109] (some s3_110),iP1 bNil r3_99 s3_111,iP1 (bFa 8) r3_111 s3_112,iM2 bSt r3_112 r3_110]
def x45_15 : List (Ins tf3) := [iP1 (bFa 1) r3_15 s3_143,iR1 bLd r3_143 s3_144,iP2 bLt r3_144 (rk (.int .i64 (.ofNat 0))) s3_145,iAs r3_145 s3_142]
def x45_16 : List (Ins tf3) := [iP1 (bFa 2) r3_15 s3_146,iP1 (bFa 1) r3_146 s3_147,iM2 bSt r3_147 (rk (.int .u8 (.ofNat 1)))]
def x45_17 : List (Ins tf3) := [iP1 (bFa 2) r3_15 s3_149,iP1 (bFa 2) r3_149 s3_150,iR1 bLd r3_150 s3_151,iMv r3_2 s3_152,iP2 bEq r3_151 r3_152 s3_153,iAs r3_153 s3_148]
def x45_18 : List (Ins tf3) := [iP1 (bFa 2) r3_15 s3_154,iP1 (bFa 1) r3_154 s3_155,iM2 bSt r3_155 (rk (.int .u8 (.ofNat 2)))]
def x45_19 : List (Ins tf3) := [iP1 (bFa 2) r3_15 s3_113,iP1 (bFa 2) r3_113 s3_114,iR1 bLd r3_114 s3_115,iP2 bAdd r3_115 (rk (.int .i64 (.ofNat 1))) s3_116,iP1 (bFa 2) r3_15 s3_117,iP1 (bFa 2) r3_117 s3_118,iM2 bSt r3_118 r3_116]
def x45_20 : List (Ins tf3) := [iMv r3_13 s3_119,iP1 bNil r3_119 s3_120,iP1 (bFa 1) r3_120 s3_121,iP1 (bFa 5) r3_121 s3_122,iR1 bLd r3_122 s3_123,iP1 (bFa 1) r3_15 s3_124,iR1 bLd r3_124 s3_125,iP2 (bIxs 8) r3_123 r3_125 s3_126,iGr (r1 (rLdn 8)) [r3_126] (some s3_127),iGa (aAl 8 [(.int .u8 (.ofNat 0)),(.int .u8 (.ofNat 0)),(.int .i64 (.ofNat 0)),(.int .i64 (.ofNat 0)),(.int .i64 (.ofNat 0)),(.int .u64 (.ofNat 0)),(.int .i64 (.ofNat 0)),(.int .u64 (.ofNat 0))]) [] (some s3_16),iGm (m2 (sStn 8)) [r3_16,r3_127] none]
def x45_21 : List (Ins tf3) := [iR1 bLd (rk (.pointer (some ⟨1,0,none⟩))) s3_128,iP1 (bFa 0) r3_16 s3_129,iR1 bLd r3_129 s3_130,iGr (r2 (rLook [0] false .nilFunc false)) [r3_128,r3_130] (some s3_131),iMv r3_13 s3_132,iGr (r1 (rLdn 8)) [r3_16] (some s3_133),iCall r3_131 [r3_132,r3_15,r3_133] (some s3_134),iAs r3_134 s3_17]
def x45_22 : List (Ins tf3) := [iMv r3_17 s3_135,iGp (l1 (pUn .not)) [r3_135] (some s3_136)]
def x45_23 : List (Ins tf3) := [iMv r3_13 s3_137,iP1 bNil r3_137 s3_138,iP1 (bFa 9) r3_138 s3_139,iR1 bLd r3_139 s3_140,iP2 bNe r3_140 (rk (.int .u8 (.ofNat 0))) s3_141]
def x45_24 : List (Ins tf3) := [iMv r3_10 s3_156,iP1 bLen r3_156 s3_157,iMv r3_3 s3_158,iP2 bEq r3_157 r3_158 s3_159]
def x45_25 : List (Ins tf3) := [iMv r3_13 s3_160,iP1 bNil r3_160 s3_161,iP1 (bFa 9) r3_161 s3_162,iM2 bSt r3_162 (rk (.int .u8 (.ofNat 1)))]
def x45_26 : List (Ins tf3) := [iMv r3_10 s3_163,iP1 (bFa 2) r3_15 s3_164,iGr (r1 (rLdn 7)) [r3_164] (some s3_165),iGa (aBsl 1 7 [(.slice none 0 0),(.int .u8 (.ofNat 0)),(.int .i64 (.ofNat 0)),(.slice none 0 0),(.slice none 0 0),(.slice none 0 0),(.slice none 0 0)] [(0,7)]) [r3_165] (some s3_166),iGm (m2 (sApp 7)) [r3_163,r3_166] (some s3_167),iAs r3_167 s3_10]
def x45_27 : XC tf3 := (.seq (.rg x45_12 (.cond r3_86 .skip (.exit 0))) (.block 1 (.rg x45_13 (.rg x45_14 (.seq (.block 2 (.rg x45_15 (.cond r3_142 (.reg x45_16) (.rg x45_17 (.cond r3_148 (.reg x45_18) (.rg x45_19 (.rg x45_20 (.rg x45_21 (.rg x45_22 (.cond r3_136 (.seq (.rg x45_23 (.cond r3_141 (.exit 0) .skip)) (.exit 1)) .skip)))))))))) (.seq (.rg x45_24 (.cond r3_159 (.rg x45_25 (.exit 0)) .skip)) (.reg x45_26)))))))
def x45_28 : List (Ins tf3) := [iMv r3_13 s3_168,iP1 bNil r3_168 s3_169,iP1 (bFa 9) r3_169 s3_170,iR1 bLd r3_170 s3_171,iP2 bNe r3_171 (rk (.int .u8 (.ofNat 0))) s3_172]
def x45_29 : List (Ins tf3) := [iMv r3_13 s3_173,iP1 bNil r3_173 s3_174,iP1 (bFa 9) r3_174 s3_175,iR1 bLd r3_175 s3_176,iRc (iAs (rk (.slice none 0 0)) s3_10) [(rcLd r3_175 r3_176 [.o0,.o6,.o2] rfl)] rfl,iAs r3_176 s3_11,iAs (rk (.int .i64 (.ofNat 0))) s3_12]
def x45_30 : List (Ins tf3) := [iMv r3_10 s3_177,iAs r3_177 s3_10,iAs (rk (.int .u8 (.ofNat 0))) s3_11,iAs (rk (.int .i64 (.ofNat 0))) s3_12]
def x45_31 : XC tf3 := (.rg x45_0 (.scope (.seq (.rg x45_1 (.cond r3_19 (.rg x45_2 .ret) .skip)) (.seq (.rg x45_3 (.cond r3_29 (.rg x45_4 .ret) .skip)) (.seq (.rg x45_5 (.cond r3_51 (.rg x45_6 .ret) .skip)) (.rg x45_7 (.rg x45_8 (.seq (.rg x45_9 (.cond r3_65 (.rg x45_10 .ret) .skip)) (.rg x45_11 (.seq .skip (.seq (.block 0 (.loop x45_27)) (.seq (.rg x45_28 (.cond r3_172 (.rg x45_29 .ret) .skip)) (.rg x45_30 .ret)))))))))))))
def x45 : XC tf3 := x45_31
def c45 : Code := Tryz.f45.body.getD .skip
theorem x45_b : Tryz.f45.body = some c45 := by kernel_rfl
theorem x45_c : cG (comp Tryz.prog) 4 3 178 x45 c45 = x45.den := by kernel_rfl
def y45 : List (RR Tryz.prog 3 178 tf3) := [rrT r3_10 10 rfl rfl,rrT r3_11 11 rfl rfl,rrT r3_12 12 rfl rfl]
theorem x45_r : y45.map RR.den = Tryz.f45.results.toList := by kernel_rfl
theorem x45_k : okFn Tryz.f45 = true := by kernel_rfl
theorem x45_D : 3 = dep Tryz.f45.ntmps := by kernel_rfl
theorem x45_s : ([s3_0,s3_1,s3_2,s3_3,s3_4] : List (Slot tf3)).map Slot.p = (List.range' 0 5).map (pth 3) := by kernel_rfl
def X45 : XFn Tryz.prog 4 (comp Tryz.prog) := ⟨X3,tf3,45,Tryz.f45,c45,3,178,[s3_0,s3_1,s3_2,s3_3,s3_4],z3,x45,y45,x45_D,Tryz.ntmps45.symm,Tryz.func45,x45_b,x45_k,x45_s,by decide,z3_ok,x45_c,x45_r⟩
def x46_0 : List (Ins tf2) := [iAs (rk (.int .i64 (.ofNat 0))) s2_2]
def x46_1 : List (Ins tf2) := [iMv r2_0 s2_3,iGp (l2 (pEqD (tdOf 60) false)) [r2_3,(rk (.pointer none))] (some s2_4)]
def x46_2 : List (Ins tf2) := [iAs (rk (.int .i64 (.ofNat 0))) s2_2]
def x46_3 : List (Ins tf2) := [iMv r2_0 s2_5,iP1 bNil r2_5 s2_6,iP1 (bFa 0) r2_6 s2_7,iR1 bLd r2_7 s2_8,iAs r2_8 s2_2]
def x46 : XC tf2 := (.rg x46_0 (.seq (.rg x46_1 (.cond r2_4 (.rg x46_2 .ret) .skip)) (.rg x46_3 .ret)))
def c46 : Code := Tryz.f46.body.getD .skip
theorem x46_b : Tryz.f46.body = some c46 := by kernel_rfl
theorem x46_c : cG (comp Tryz.prog) 4 2 9 x46 c46 = x46.den := by kernel_rfl
def y46 : List (RR Tryz.prog 2 9 tf2) := [rrT r2_2 2 rfl rfl]
theorem x46_r : y46.map RR.den = Tryz.f46.results.toList := by kernel_rfl
theorem x46_k : okFn Tryz.f46 = true := by kernel_rfl
theorem x46_D : 2 = dep Tryz.f46.ntmps := by kernel_rfl
theorem x46_s : ([s2_0] : List (Slot tf2)).map Slot.p = (List.range' 0 1).map (pth 2) := by kernel_rfl
def X46 : XFn Tryz.prog 4 (comp Tryz.prog) := ⟨X2,tf2,46,Tryz.f46,c46,2,9,[s2_0],z2,x46,y46,x46_D,Tryz.ntmps46.symm,Tryz.func46,x46_b,x46_k,x46_s,by decide,z2_ok,x46_c,x46_r⟩
def x47_0 : List (Ins tf3) := [iGa (a1 gBox) [r3_0] (some s3_2),iAs (rk (.pointer none)) s3_4,iAs (rk (.int .i64 (.ofNat 0))) s3_5]
def x47_1 : List (Ins tf3) := [iR1 bLd r3_2 s3_16,iP2 bLt r3_16 (rk (.int .i64 (.ofNat 1))) s3_17,iMv r3_17 s3_18,iGd r3_18 [.o2,.o2,.o0] false (iR1 bLd r3_2 s3_19) (some s3_19) rfl rfl rfl,iGd r3_18 [.o2,.o2,.o0] false (iP2 bGt r3_19 (rk (.int .i64 (.ofNat 32))) s3_20) (some s3_20) rfl rfl rfl,iGp (l3 pPick) [r3_18,(rk (.bool true)),r3_20] (some s3_21)]
def x47_2 : List (Ins tf3) := [iAs (rk (.pointer none)) s3_4,iAs (rk (.int .i64 (.ofNat 3))) s3_5]
def x47_3 : List (Ins tf3) := [iMv r3_1 s3_22,iP1 bLen r3_22 s3_23,iP2 bGt r3_23 (rk (.int .i64 (.ofNat 1024))) s3_24]
def x47_4 : List (Ins tf3) := [iAs (rk (.pointer none)) s3_4,iAs (rk (.int .i64 (.ofNat 5))) s3_5]
def x47_5 : List (Ins tf3) := [iR1 bLd r3_2 s3_25,iGp (pBld [(.int .i64 (.ofNat 0)),(.int .u32 (.ofNat 0)),(.int .u32 (.ofNat 0)),(.int .u32 (.ofNat 0)),(.int .u32 (.ofNat 0)),(.int .u32 (.ofNat 0)),(.int .u32 (.ofNat 0)),(.int .u32 (.ofNat 0)),(.int .u32 (.ofNat 0)),(.int .u32 (.ofNat 0)),(.int .u32 (.ofNat 0)),(.int .u32 (.ofNat 0)),(.int .u32 (.ofNat 0)),(.int .u32 (.ofNat 0)),(.int .u32 (.ofNat 0)),(.int .u32 (.ofNat 0)),(.int .u32 (.ofNat 0)),(.int .u32 (.ofNat 0)),(.int .u32 (.ofNat 0)),(.int .u32 (.ofNat 0)),(.int .u32 (.ofNat 0)),(.int .u32 (.ofNat 0)),(.int .u32 (.ofNat 0)),(.int .u32 (.ofNat 0)),(.int .u32 (.ofNat 0)),(.int .u32 (.ofNat 0)),(.int .u32 (.ofNat 0)),(.int .u32 (.ofNat 0)),(.int .u32 (.ofNat 0)),(.int .u32 (.ofNat 0)),(.int .u32 (.ofNat 0)),(.int .u32 (.ofNat 0)),(.int .u32 (.ofNat 0)),(.int .u32 (.ofNat 0)),(.int .u32 (.ofNat 0)),(.int .u32 (.ofNat 0)),(.int .u32 (.ofNat 0)),(.int .u32 (.ofNat 0)),(.int .u32 (.ofNat 0)),(.int .u32 (.ofNat 0)),(.int .u32 (.ofNat 0)),(.int .u32 (.ofNat 0)),(.int .u32 (.ofNat 0)),(.int .u32 (.ofNat 0)),(.int .u32 (.ofNat 0)),(.int .u32 (.ofNat 0)),(.int .u32 (.ofNat 0)),(.int .u32 (.ofNat 0)),(.int .u32 (.ofNat 0)),(.int .u32 (.ofNat 0)),(.int .u32 (.ofNat 0)),(.int .u32 (.ofNat 0)),(.int .u32 (.ofNat 0)),(.int .u32 (.ofNat 0)),(.int .u32 (.ofNat 0)),(.int .u32 (.ofNat 0)),(.int .u32 (.ofNat 0)),(.int .u32 (.ofNat 0)),(.int .u32 (.ofNat 0)),(.int .u32 (.ofNat 0)),(.int .u32 (.ofNat 0)),(.int .u32 (.ofNat 0)),(.int .u32 (.ofNat 0)),(.int .u32 (.ofNat 0)),(.int .u32 (.ofNat 0))] [(0,1)]) [r3_25] (some s3_26),iGa (a1 gBox) [r3_26] (some s3_27),iAs r3_27 s3_6]
def x47_6 : List (Ins tf3) := [iR1 bLd r3_2 s3_28,iMv (rk (.int .i64 (.ofNat 0))) s3_29]
def x47_7 : List (Ins tf3) := [iP2 bLt r3_29 r3_28 s3_30]
def x47_8 : List (Ins tf3) := [iMv r3_29 s3_31,iAs r3_31 s3_7]
def x47_9 : List (Ins tf3) := [iMv r3_6 s3_32,iMv r3_7 s3_33,iMv r3_7 s3_34,iGp (l2 (pBin .shl)) [(rk (.int .u32 (.ofNat 1))),r3_34] (some s3_35),iP1 bNil r3_32 s3_36,iP1 (bFa 1) r3_36 s3_37,iP2 (bIxa 32 1) r3_37 r3_33 s3_38,iM2 bSt r3_38 r3_35]
def x47_10 : List (Ins tf3) := [iP2 bAdd r3_29 (rk (.int .i64 (.ofNat 1))) s3_39,iMv r3_39 s3_29]
def x47_11 : List (Ins tf3) := [iMv r3_1 s3_40,iP1 bLen r3_40 s3_41,iMv (rk (.int .i64 (.ofNat 0))) s3_42]
def x47_12 : List (Ins tf3) := [iP2 bLt r3_42 r3_41 s3_43]
def x47_13 : List (Ins tf3) := [iP2 (bIxs 2) r3_40 r3_42 s3_44,iGr (r1 (rLdn 2)) [r3_44] (some s3_45),iGa (aAl 2 [(.int .i64 (.ofNat 0)),(.int .i64 (.ofNat 0))]) [] (some s3_9),iGm (m2 (sStn 2)) [r3_9,r3_45] none]
def x47_14 : List (Ins tf3) := [iP2 (bIxa 2 1) r3_9 (rk (.int .i64 (.ofNat 0))) s3_46,iR1 bLd r3_46 s3_47,iP2 bLt r3_47 (rk (.int .i64 (.ofNat 0))) s3_48,iMv r3_48 s3_49,iGd r3_49 [.o1,.o6,.o0] false (iP2 (bIxa 2 1) r3_9 (rk (.int .i64 (.ofNat 0))) s3_50) (some s3_50) rfl rfl rfl,iGd r3_49 [.o1,.o6,.o0] false (iR1 bLd r3_50 s3_51) (some s3_51) rfl rfl rfl,iGd r3_49 [.o1,.o6,.o0] false (iR1 bLd r3_2 s3_52) (some s3_52) rfl rfl rfl,iGd r3_49 [.o1,.o6,.o0] false (iP2 bGe r3_51 r3_52 s3_53) (some s3_53) rfl rfl rfl,iGp (l3 pPick) [r3_49,(rk (.bool true)),r3_53] (some s3_54),iMv r3_54 s3_55,iGd r3_55 [.o7,.o6,.o0] false (iP2 (bIxa 2 1) r3_9 (rk (.int .i64 (.ofNat 1))) s3_56) (some s3_56) rfl rfl rfl,iGd r3_55 [.o7,.o6,.o0] false (iR1 bLd r3_56 s3_57) (some s3_57) rfl rfl rfl,iGd r3_55 [.o7,.o6,.o0] false (iP2 bLt r3_57 (rk (.int .i64 (.ofNat 0))) s3_58) (some s3_58) rfl rfl rfl,iGp (l3 pPick) [r3_55,(rk (.bool true)),r3_58] (some s3_59),iMv r3_59 s3_60,iGd r3_60 [.o4,.o7,.o0] false (iP2 (bIxa 2 1) r3_9 (rk (.int .i64 (.ofNat 1))) s3_61) (some s3_61) rfl rfl rfl,iGd r3_60 [.o4,.o7,.o0] false (iR1 bLd r3_61 s3_62) (some s3_62) rfl rfl rfl,iGd r3_60 [.o4,.o7,.o0] false (iR1 bLd r3_2 s3_63) (some s3_63) rfl rfl rfl,iGd r3_60 [.o4,.o7,.o0] false (iP2 bGe r3_62 r3_63 s3_64) (some s3_64) rfl rfl rfl,iGp (l3 pPick) [r3_60,(rk (.bool true)),r3_64] (some s3_65)]
def x47_15 : List (Ins tf3) := [iAs (rk (.pointer none)) s3_4,iAs (rk (.int .i64 (.ofNat 3))) s3_5]
def x47_16 : List (Ins tf3) := [iMv r3_6 s3_66,iP2 (bIxa 2 1) r3_9 (rk (.int .i64 (.ofNat 0))) s3_67,iR1 bLd r3_67 s3_68,iP1 bNil r3_66 s3_69,iP1 (bFa 1) r3_69 s3_70,iP2 (bIxa 32 1) r3_70 r3_68 s3_71,iR1 bLd r3_71 s3_72,iP2 (bIxa 2 1) r3_9 (rk (.int .i64 (.ofNat 1))) s3_73,iR1 bLd r3_73 s3_74,iGp (l2 (pBin .shl)) [(rk (.int .u32 (.ofNat 1))),r3_74] (some s3_75),iGp (l2 (pBin .or)) [r3_72,r3_75] (some s3_76),iP1 bNil r3_66 s3_77,iP1 (bFa 1) r3_77 s3_78,iP2 (bIxa 32 1) r3_78 r3_68 s3_79,iM2 bSt r3_79 r3_76]
def x47_17 : List (Ins tf3) := [iP2 bAdd r3_42 (rk (.int .i64 (.ofNat 1))) s3_80,iMv r3_80 s3_42]
def x47_18 : List (Ins tf3) := [iR1 bLd r3_2 s3_81,iMv (rk (.int .i64 (.ofNat 0))) s3_82]
def x47_19 : List (Ins tf3) := [iP2 bLt r3_82 r3_81 s3_83]
def x47_20 : List (Ins tf3) := [iMv r3_82 s3_84,iAs r3_84 s3_10]
def x47_21 : List (Ins tf3) := [iR1 bLd r3_2 s3_85,iMv (rk (.int .i64 (.ofNat 0))) s3_86]
def x47_22 : List (Ins tf3) := [iP2 bLt r3_86 r3_85 s3_87]
def x47_23 : List (Ins tf3) := [iMv r3_86 s3_88,iAs r3_88 s3_11]
def x47_24 : List (Ins tf3) := [iMv r3_6 s3_89,iMv r3_11 s3_90,iP1 bNil r3_89 s3_91,iP1 (bFa 1) r3_91 s3_92,iP2 (bIxa 32 1) r3_92 r3_90 s3_93,iR1 bLd r3_93 s3_94,iMv r3_10 s3_95,iGp (l2 (pBin .shr)) [r3_94,r3_95] (some s3_96),iGp (l2 (pBin .and)) [r3_96,(rk (.int .u32 (.ofNat 1)))] (some s3_97),iP2 bEq r3_97 (rk (.int .u32 (.ofNat 1))) s3_98]
def x47_25 : List (Ins tf3) := [iMv r3_6 s3_99,iMv r3_11 s3_100,iP1 bNil r3_99 s3_101,iP1 (bFa 1) r3_101 s3_102,iP2 (bIxa 32 1) r3_102 r3_100 s3_103,iR1 bLd r3_103 s3_104,iMv r3_6 s3_105,iMv r3_10 s3_106,iP1 bNil r3_105 s3_107,iP1 (bFa 1) r3_107 s3_108,iP2 (bIxa 32 1) r3_108 r3_106 s3_109,iR1 bLd r3_109 s3_110,iGp (l2 (pBin .or)) [r3_104,r3_110] (some s3_111),iP1 bNil r3_99 s3_112,iP1 (bFa 1) r3_112 s3_113,iP2 (bIxa 32 1) r3_113 r3_100 s3_114,iM2 bSt r3_114 r3_111]
def x47_26 : List (Ins tf3) := [iP2 bAdd r3_86 (rk (.int .i64 (.ofNat 1))) s3_115,iMv r3_115 s3_86]
def x47_27 : List (Ins tf3) := [iP2 bAdd r3_82 (rk (.int .i64 (.ofNat 1))) s3_116,iMv r3_116 s3_82]
def x47_28 : List (Ins tf3) := [iR1 bLd r3_2 s3_117,iMv (rk (.int .i64 (.ofNat 0))) s3_118]
def x47_29 : List (Ins tf3) := [iP2 bLt r3_118 r3_117 s3_119]
def x47_30 : List (Ins tf3) := [iMv r3_118 s3_120,iAs r3_120 s3_12]
def x47_31 : List (Ins tf3) := [iR1 bLd r3_2 s3_121,iMv (rk (.int .i64 (.ofNat 0))) s3_122]
def x47_32 : List (Ins tf3) := [iP2 bLt r3_122 r3_121 s3_123]
def x47_33 : List (Ins tf3) := [iMv r3_122 s3_124,iAs r3_124 s3_13]
def x47_34 : List (Ins tf3) := [iMv r3_6 s3_125,iMv r3_12 s3_126,iP1 bNil r3_125 s3_127,iP1 (bFa 1) r3_127 s3_128,iP2 (bIxa 32 1) r3_128 r3_126 s3_129,iR1 bLd r3_129 s3_130,iMv r3_13 s3_131,iGp (l2 (pBin .shr)) [r3_130,r3_131] (some s3_132),iGp (l2 (pBin .and)) [r3_132,(rk (.int .u32 (.ofNat 1)))] (some s3_133),iP2 bEq r3_133 (rk (.int .u32 (.ofNat 1))) s3_134]
def x47_35 : List (Ins tf3) := [iMv r3_6 s3_135,iMv r3_13 s3_136,iP1 bNil r3_135 s3_137,iP1 (bFa 33) r3_137 s3_138,iP2 (bIxa 32 1) r3_138 r3_136 s3_139,iR1 bLd r3_139 s3_140,iMv r3_12 s3_141,iGp (l2 (pBin .shl)) [(rk (.int .u32 (.ofNat 1))),r3_141] (some s3_142),iGp (l2 (pBin .or)) [r3_140,r3_142] (some s3_143),iP1 bNil r3_135 s3_144,iP1 (bFa 33) r3_144 s3_145,iP2 (bIxa 32 1) r3_145 r3_136 s3_146,iM2 bSt r3_146 r3_143]
def x47_36 : List (Ins tf3) := [iP2 bAdd r3_122 (rk (.int .i64 (.ofNat 1))) s3_147,iMv r3_147 s3_122]
def x47_37 : List (Ins tf3) := [iP2 bAdd r3_118 (rk (.int .i64 (.ofNat 1))) s3_148,iMv r3_148 s3_118]
def x47_38 : List (Ins tf3) := [iR1 bLd r3_2 s3_149,iMv (rk (.int .i64 (.ofNat 0))) s3_150]
def x47_39 : List (Ins tf3) := [iP2 bLt r3_150 r3_149 s3_151]
def x47_40 : List (Ins tf3) := [iMv r3_150 s3_152,iAs r3_152 s3_14]
def x47_41 : List (Ins tf3) := [iMv r3_6 s3_153,iMv r3_14 s3_154,iP1 bNil r3_153 s3_155,iP1 (bFa 1) r3_155 s3_156,iP2 (bIxa 32 1) r3_156 r3_154 s3_157,iR1 bLd r3_157 s3_158,iMv r3_6 s3_159,iMv r3_14 s3_160,iP1 bNil r3_159 s3_161,iP1 (bFa 33) r3_161 s3_162,iP2 (bIxa 32 1) r3_162 r3_160 s3_163,iR1 bLd r3_163 s3_164,iGp (l2 (pBin .and)) [r3_158,r3_164] (some s3_165),iMv r3_14 s3_166,iGp (l2 (pBin .shl)) [(rk (.int .u32 (.ofNat 1))),r3_166] (some s3_167),iP2 bNe r3_165 r3_167 s3_168]
def x47_42 : List (Ins tf3) := [iAs (rk (.pointer none)) s3_4,iAs (rk (.int .i64 (.ofNat 9))) s3_5]
def x47_43 : List (Ins tf3) := [iP2 bAdd r3_150 (rk (.int .i64 (.ofNat 1))) s3_169,iMv r3_169 s3_150]
def x47_44 : List (Ins tf3) := [iGp (pMkf (.func 89) 0) [r3_2] (some s3_170),iAs r3_170 s3_15]
def x47_45 : List (Ins tf3) := [iMv r3_15 s3_171,iMv r3_6 s3_172,iP1 bNil r3_172 s3_173,iP1 (bFa 1) r3_173 s3_174,iCall r3_171 [r3_174] (some s3_175),iGp (l1 (pUn .not)) [r3_175] (some s3_176),iMv r3_176 s3_177,iGd r3_177 [.o1,.o6,.o2] false (iMv r3_15 s3_178) (some s3_178) rfl rfl rfl,iGd r3_177 [.o1,.o6,.o2] false (iMv r3_6 s3_179) (some s3_179) rfl rfl rfl,iGd r3_177 [.o1,.o6,.o2] false (iP1 bNil r3_179 s3_180) (some s3_180) rfl rfl rfl,iGd r3_177 [.o1,.o6,.o2] false (iP1 (bFa 33) r3_180 s3_181) (some s3_181) rfl rfl rfl,iGd r3_177 [.o1,.o6,.o2] false (iCall r3_178 [r3_181] (some s3_182)) (some s3_182) rfl rfl rfl,iGd r3_177 [.o1,.o6,.o2] false (iGp (l1 (pUn .not)) [r3_182] (some s3_183)) (some s3_183) rfl rfl rfl,iGp (l3 pPick) [r3_177,(rk (.bool true)),r3_183] (some s3_184)]
def x47_46 : List (Ins tf3) := [iAs (rk (.pointer none)) s3_4,iAs (rk (.int .i64 (.ofNat 4))) s3_5]
def x47_47 : List (Ins tf3) := [iMv r3_6 s3_185,iAs r3_185 s3_4,iAs (rk (.int .i64 (.ofNat 0))) s3_5]
def x47_48 : XC tf3 := (.seq (.rg x47_28 (.block 8 (.loop (.rg x47_29 (.seq (.cond r3_119 .skip (.exit 8)) (.seq (.block 9 (.rg x47_30 (.rg x47_31 (.block 10 (.loop (.rg x47_32 (.seq (.cond r3_123 .skip (.exit 10)) (.seq (.block 11 (.rg x47_33 (.rg x47_34 (.cond r3_134 (.reg x47_35) .skip)))) (.reg x47_36))))))))) (.reg x47_37))))))) (.seq (.rg x47_38 (.block 12 (.loop (.rg x47_39 (.seq (.cond r3_151 .skip (.exit 12)) (.seq (.block 13 (.rg x47_40 (.rg x47_41 (.cond r3_168 (.rg x47_42 .ret) .skip)))) (.reg x47_43))))))) (.rg x47_44 (.seq (.rg x47_45 (.cond r3_184 (.rg x47_46 .ret) .skip)) (.rg x47_47 .ret)))))
def x47_49 : XC tf3 := (.seq (.rg x47_11 (.block 2 (.loop (.rg x47_12 (.seq (.cond r3_43 .skip (.exit 2)) (.seq (.block 3 (.rg x47_13 (.seq (.rg x47_14 (.cond r3_65 (.rg x47_15 .ret) .skip)) (.reg x47_16)))) (.reg x47_17))))))) (.seq (.rg x47_18 (.block 4 (.loop (.rg x47_19 (.seq (.cond r3_83 .skip (.exit 4)) (.seq (.block 5 (.rg x47_20 (.rg x47_21 (.block 6 (.loop (.rg x47_22 (.seq (.cond r3_87 .skip (.exit 6)) (.seq (.block 7 (.rg x47_23 (.rg x47_24 (.cond r3_98 (.reg x47_25) .skip)))) (.reg x47_26))))))))) (.reg x47_27))))))) x47_48))
def x47 : XC tf3 := (.rg x47_0 (.seq (.rg x47_1 (.cond r3_21 (.rg x47_2 .ret) .skip)) (.seq (.rg x47_3 (.cond r3_24 (.rg x47_4 .ret) .skip)) (.rg x47_5 (.seq (.rg x47_6 (.block 0 (.loop (.rg x47_7 (.seq (.cond r3_30 .skip (.exit 0)) (.seq (.block 1 (.rg x47_8 (.reg x47_9))) (.reg x47_10))))))) x47_49)))))
def c47 : Code := Tryz.f47.body.getD .skip
theorem x47_b : Tryz.f47.body = some c47 := by kernel_rfl
theorem x47_c : cG (comp Tryz.prog) 4 3 186 x47 c47 = x47.den := by kernel_rfl
def y47 : List (RR Tryz.prog 3 186 tf3) := [rrT r3_4 4 rfl rfl,rrT r3_5 5 rfl rfl]
theorem x47_r : y47.map RR.den = Tryz.f47.results.toList := by kernel_rfl
theorem x47_k : okFn Tryz.f47 = true := by kernel_rfl
theorem x47_D : 3 = dep Tryz.f47.ntmps := by kernel_rfl
theorem x47_s : ([s3_0,s3_1] : List (Slot tf3)).map Slot.p = (List.range' 0 2).map (pth 3) := by kernel_rfl
def X47 : XFn Tryz.prog 4 (comp Tryz.prog) := ⟨X3,tf3,47,Tryz.f47,c47,3,186,[s3_0,s3_1],z3,x47,y47,x47_D,Tryz.ntmps47.symm,Tryz.func47,x47_b,x47_k,x47_s,by decide,z3_ok,x47_c,x47_r⟩
def x50_0 : List (Ins tf2) := [iAs (rk (.pointer none)) s2_4,iAs (rk (.int .i64 (.ofNat 0))) s2_5]
def x50_1 : List (Ins tf2) := [iMv r2_0 s2_6,iCall (rk (.func (.func 93) #[] #[])) [r2_6] (some s2_7),iP2 bNe r2_7 (rk (.int .i64 (.ofNat 0))) s2_8,iMv r2_8 s2_9,iGd r2_9 [.o1,.o1] false (iMv r2_1 s2_10) (some s2_10) rfl rfl rfl,iGd r2_9 [.o1,.o1] false (iP2 bLt r2_10 (rk (.int .i64 (.ofNat 0))) s2_11) (some s2_11) rfl rfl rfl,iGp (l3 pPick) [r2_9,(rk (.bool true)),r2_11] (some s2_12),iMv r2_12 s2_13,iGd r2_13 [.o5,.o1] false (iMv r2_1 s2_14) (some s2_14) rfl rfl rfl,iGd r2_13 [.o5,.o1] false (iP2 bGt r2_14 (rk (.int .i64 (.ofNat 1048576))) s2_15) (some s2_15) rfl rfl rfl,iGp (l3 pPick) [r2_13,(rk (.bool true)),r2_15] (some s2_16)]
def x50_2 : List (Ins tf2) := [iAs (rk (.pointer none)) s2_4,iAs (rk (.int .i64 (.ofNat 3))) s2_5]
def x50_3 : List (Ins tf2) := [iMv r2_1 s2_17,iP2 bEq r2_17 (rk (.int .i64 (.ofNat 0))) s2_18]
def x50_4 : List (Ins tf2) := [iAs (rk (.int .i64 (.ofNat 1048576))) s2_1]
def x50_5 : List (Ins tf2) := [iMv r2_0 s2_19,iMv r2_1 s2_20,iGa aMm [] (some s2_21),iGp (pBld [(.int .i64 (.ofNat 0)),(.int .i64 (.ofNat 0)),(.slice none 0 0),(.map none)] [(0,1),(1,1),(3,1)]) [r2_19,r2_20,r2_21] (some s2_22),iGa (a1 gBox) [r2_22] (some s2_23),iAs r2_23 s2_4,iAs (rk (.int .i64 (.ofNat 0))) s2_5]
def x50 : XC tf2 := (.rg x50_0 (.seq (.rg x50_1 (.cond r2_16 (.rg x50_2 .ret) .skip)) (.seq (.rg x50_3 (.cond r2_18 (.reg x50_4) .skip)) (.rg x50_5 .ret))))
def c50 : Code := Tryz.f50.body.getD .skip
theorem x50_b : Tryz.f50.body = some c50 := by kernel_rfl
theorem x50_c : cG (comp Tryz.prog) 4 2 24 x50 c50 = x50.den := by kernel_rfl
def y50 : List (RR Tryz.prog 2 24 tf2) := [rrT r2_4 4 rfl rfl,rrT r2_5 5 rfl rfl]
theorem x50_r : y50.map RR.den = Tryz.f50.results.toList := by kernel_rfl
theorem x50_k : okFn Tryz.f50 = true := by kernel_rfl
theorem x50_D : 2 = dep Tryz.f50.ntmps := by kernel_rfl
theorem x50_s : ([s2_0,s2_1] : List (Slot tf2)).map Slot.p = (List.range' 0 2).map (pth 2) := by kernel_rfl
def X50 : XFn Tryz.prog 4 (comp Tryz.prog) := ⟨X2,tf2,50,Tryz.f50,c50,2,24,[s2_0,s2_1],z2,x50,y50,x50_D,Tryz.ntmps50.symm,Tryz.func50,x50_b,x50_k,x50_s,by decide,z2_ok,x50_c,x50_r⟩
def x52_0 : List (Ins tf2) := [iAs (rk (.int .i64 (.ofNat 0))) s2_4,iAs (rk (.int .i64 (.ofNat 0))) s2_5]
def x52_1 : List (Ins tf2) := [iMv r2_0 s2_6,iGp (l2 (pEqD (tdOf 34) false)) [r2_6,(rk (.pointer none))] (some s2_7)]
def x52_2 : List (Ins tf2) := [iAs (rk (.int .i64 (.ofNat 0))) s2_4,iAs (rk (.int .i64 (.ofNat 1))) s2_5]
def x52_3 : List (Ins tf2) := [iMv r2_0 s2_9,iP1 bNil r2_9 s2_10,iP1 (bFa 0) r2_10 s2_11,iR1 bLd r2_11 s2_12,iMv r2_1 s2_13,iCall (rk (.func (.func 73) #[] #[])) [r2_12,r2_13] (some s2_14),iMv r2_14 s2_8,iGp (l1 (pExt 0)) [r2_8] (some s2_15),iGp (l1 (pExt 1)) [r2_8] (some s2_16),iAs r2_15 s2_1]
def x52_4 : List (Ins tf2) := [iMv r2_0 s2_17,iMv r2_1 s2_18,iGp (pBld [(.int .u8 (.ofNat 0)),(.int .u64 (.ofNat 0)),(.slice none 0 0)] [(0,1),(1,1)]) [(rk (.int .u8 (.ofNat 0))),r2_18] (some s2_19),iCall (rk (.func (.func 94) #[] #[])) [r2_17,r2_19] (some s2_20),iGp (l1 (pExt 0)) [r2_20] (some s2_21),iGp (l1 (pExt 1)) [r2_20] (some s2_22),iAs r2_21 s2_4,iAs r2_22 s2_5]
def x52 : XC tf2 := (.rg x52_0 (.seq (.rg x52_1 (.cond r2_7 (.rg x52_2 .ret) .skip)) (.rg x52_3 (.rg x52_4 .ret))))
def c52 : Code := Tryz.f52.body.getD .skip
theorem x52_b : Tryz.f52.body = some c52 := by kernel_rfl
theorem x52_c : cG (comp Tryz.prog) 4 2 23 x52 c52 = x52.den := by kernel_rfl
def y52 : List (RR Tryz.prog 2 23 tf2) := [rrT r2_4 4 rfl rfl,rrT r2_5 5 rfl rfl]
theorem x52_r : y52.map RR.den = Tryz.f52.results.toList := by kernel_rfl
theorem x52_k : okFn Tryz.f52 = true := by kernel_rfl
theorem x52_D : 2 = dep Tryz.f52.ntmps := by kernel_rfl
theorem x52_s : ([s2_0,s2_1] : List (Slot tf2)).map Slot.p = (List.range' 0 2).map (pth 2) := by kernel_rfl
def X52 : XFn Tryz.prog 4 (comp Tryz.prog) := ⟨X2,tf2,52,Tryz.f52,c52,2,23,[s2_0,s2_1],z2,x52,y52,x52_D,Tryz.ntmps52.symm,Tryz.func52,x52_b,x52_k,x52_s,by decide,z2_ok,x52_c,x52_r⟩
end
end Cr
end Go.Proofs.YtjhbabgcoemecaaGreatDoor
