/- A machine for closed runs: compiled functions (written by gen). -/
import Derived.Test.YtjhbabgcoemecaaGreatDoorFxA
import Derived.KernelRfl
namespace Go.Proofs.YtjhbabgcoemecaaGreatDoor
namespace Cr
open Go Go.RowKit
set_option maxRecDepth 100000
noncomputable section
def x87_0 : List (Ins tf2) := [iGa (a1 gBox) [r2_1] (some s2_3),iAs (rk (.pointer none)) s2_4,iAs (rk (.int .i64 (.ofNat 0))) s2_5]
def x87_1 : List (Ins tf2) := [iMv r2_0 s2_12,iGp (l2 (pEqD (tdOf 34) false)) [r2_12,(rk (.pointer none))] (some s2_13)]
def x87_2 : List (Ins tf2) := [iAs (rk (.pointer none)) s2_4,iAs (rk (.int .i64 (.ofNat 1))) s2_5]
def x87_3 : List (Ins tf2) := [iGr (r1 (rLdn 6)) [r2_3] (some s2_14),iCall (rk (.func (.func 86) #[] #[])) [r2_14] (some s2_15),iP2 bNe r2_15 (rk (.int .i64 (.ofNat 0))) s2_16,iMv r2_16 s2_17,iGd r2_17 [.o1,.o2] false (iP1 (bFa 0) r2_3 s2_18) (some s2_18) rfl rfl rfl,iGd r2_17 [.o1,.o2] false (iR1 bLd r2_18 s2_19) (some s2_19) rfl rfl rfl,iGd r2_17 [.o1,.o2] false (iMv r2_0 s2_20) (some s2_20) rfl rfl rfl,iRc (iGd r2_17 [.o1,.o2] false (iCall (rk (.func (.func 71) #[] #[])) [r2_20] (some s2_21)) (some s2_21) rfl rfl rfl) [(rcS ⟨(some ([.o1,.o2],false)),.r (r1 rLd),[(.t [.o2,.o2])],(some [.o3,.o2])⟩)] rfl,iGd r2_17 [.o1,.o2] false (iP2 bNe r2_19 r2_21 s2_22) (some s2_22) rfl rfl rfl,iGp (l3 pPick) [r2_17,(rk (.bool true)),r2_22] (some s2_23)]
def x87_4 : List (Ins tf2) := [iAs (rk (.pointer none)) s2_4,iAs (rk (.int .i64 (.ofNat 2))) s2_5]
def x87_5 : List (Ins tf2) := [iMv r2_0 s2_25,iCall (rk (.func (.func 52) #[] #[])) [r2_25,(rk (.int .u64 (.ofNat 0)))] (some s2_26),iMv r2_26 s2_24,iGp (l1 (pExt 0)) [r2_24] (some s2_27),iGp (l1 (pExt 1)) [r2_24] (some s2_28),iGa (aAl 1 [(.int .i64 (.ofNat 0))]) [] (some s2_6),iM2 bSt r2_6 r2_27,iAs r2_28 s2_7]
def x87_6 : List (Ins tf2) := [iMv r2_7 s2_29,iP2 bNe r2_29 (rk (.int .i64 (.ofNat 0))) s2_30]
def x87_7 : List (Ins tf2) := [iMv r2_7 s2_31,iAs (rk (.pointer none)) s2_4,iAs r2_31 s2_5]
def x87_8 : List (Ins tf2) := [iGp (pMkf (.func 116) 0) [r2_6] (some s2_32),iAs r2_32 s2_8]
def x87_9 : List (Ins tf2) := [iMv r2_0 s2_33,iMv r2_8 s2_34,iP1 (bFa 1) r2_3 s2_35,iR1 bLd r2_35 s2_36,iCall r2_34 [r2_36] (some s2_37),iGp (pBld [(.pointer none),(.slice none 0 0),(.slice none 0 0)] [(0,1),(1,1)]) [r2_33,r2_37] (some s2_38),iGa (a1 gBox) [r2_38] (some s2_39),iAs r2_39 s2_9]
def x87_10 : List (Ins tf2) := [iP1 (bFa 4) r2_3 s2_40,iR1 bLd r2_40 s2_41,iP1 bLen r2_41 s2_42,iMv (rk (.int .i64 (.ofNat 0))) s2_43]
def x87_11 : List (Ins tf2) := [iP2 bLt r2_43 r2_42 s2_44]
def x87_12 : List (Ins tf2) := [iP2 (bIxs 1) r2_41 r2_43 s2_45,iR1 bLd r2_45 s2_46,iAs r2_46 s2_11]
def x87_13 : List (Ins tf2) := [iMv r2_9 s2_47,iMv r2_9 s2_48,iP1 bNil r2_48 s2_49,iP1 (bFa 2) r2_49 s2_50,iR1 bLd r2_50 s2_51,iMv r2_8 s2_52,iMv r2_11 s2_53,iRc (iCall r2_52 [r2_53] (some s2_54)) [(rcLd r2_50 r2_51 [.o3,.o6] rfl)] rfl,iGa (aBsl 1 1 [(.slice none 0 0)] [(0,1)]) [r2_54] (some s2_55),iGm (m2 (sApp 1)) [r2_51,r2_55] (some s2_56),iP1 bNil r2_47 s2_57,iP1 (bFa 2) r2_57 s2_58,iM2 bSt r2_58 r2_56]
def x87_14 : List (Ins tf2) := [iP2 bAdd r2_43 (rk (.int .i64 (.ofNat 1))) s2_59,iMv r2_59 s2_43]
def x87_15 : List (Ins tf2) := [iMv r2_9 s2_60,iAs r2_60 s2_4,iAs (rk (.int .i64 (.ofNat 0))) s2_5]
def x87 : XC tf2 := (.rg x87_0 (.seq (.rg x87_1 (.cond r2_13 (.rg x87_2 .ret) .skip)) (.seq (.rg x87_3 (.cond r2_23 (.rg x87_4 .ret) .skip)) (.rg x87_5 (.seq (.rg x87_6 (.cond r2_30 (.rg x87_7 .ret) .skip)) (.rg x87_8 (.rg x87_9 (.seq (.rg x87_10 (.block 0 (.loop (.rg x87_11 (.seq (.cond r2_44 .skip (.exit 0)) (.seq (.block 1 (.rg x87_12 (.reg x87_13))) (.reg x87_14))))))) (.rg x87_15 .ret)))))))))
def c87 : Code := Tryz.f87.body.getD .skip
theorem x87_b : Tryz.f87.body = some c87 := by kernel_rfl
theorem x87_c : cG (comp Tryz.prog) 4 2 61 x87 c87 = x87.den := by kernel_rfl
def y87 : List (RR Tryz.prog 2 61 tf2) := [rrT r2_4 4 rfl rfl,rrT r2_5 5 rfl rfl]
theorem x87_r : y87.map RR.den = Tryz.f87.results.toList := by kernel_rfl
theorem x87_k : okFn Tryz.f87 = true := by kernel_rfl
theorem x87_D : 2 = dep Tryz.f87.ntmps := by kernel_rfl
theorem x87_s : ([s2_0,s2_1] : List (Slot tf2)).map Slot.p = (List.range' 0 2).map (pth 2) := by kernel_rfl
def X87 : XFn Tryz.prog 4 (comp Tryz.prog) := ⟨X2,tf2,87,Tryz.f87,c87,2,61,[s2_0,s2_1],z2,x87,y87,x87_D,Tryz.ntmps87.symm,Tryz.func87,x87_b,x87_k,x87_s,by decide,z2_ok,x87_c,x87_r⟩
def x88_0 : List (Ins tf2) := [iAs (rk (.bool false)) s2_4]
def x88_1 : List (Ins tf2) := [iMv r2_1 s2_5,iP2 bNe r2_5 (rk (.int .i64 (.ofNat 0))) s2_6]
def x88_2 : List (Ins tf2) := [iMv r2_0 s2_7,iP1 bNil r2_7 s2_8,iP1 (bFa 9) r2_8 s2_9,iM2 bSt r2_9 (rk (.int .u8 (.ofNat 2)))]
def x88_3 : List (Ins tf2) := [iMv r2_1 s2_10,iP2 bNe r2_10 (rk (.int .i64 (.ofNat 0))) s2_11,iAs r2_11 s2_4]
def x88 : XC tf2 := (.rg x88_0 (.seq (.rg x88_1 (.cond r2_6 (.reg x88_2) .skip)) (.rg x88_3 .ret)))
def c88 : Code := Tryz.f88.body.getD .skip
theorem x88_b : Tryz.f88.body = some c88 := by kernel_rfl
theorem x88_c : cG (comp Tryz.prog) 4 2 12 x88 c88 = x88.den := by kernel_rfl
def y88 : List (RR Tryz.prog 2 12 tf2) := [rrT r2_4 4 rfl rfl]
theorem x88_r : y88.map RR.den = Tryz.f88.results.toList := by kernel_rfl
theorem x88_k : okFn Tryz.f88 = true := by kernel_rfl
theorem x88_D : 2 = dep Tryz.f88.ntmps := by kernel_rfl
theorem x88_s : ([s2_0,s2_1] : List (Slot tf2)).map Slot.p = (List.range' 0 2).map (pth 2) := by kernel_rfl
def X88 : XFn Tryz.prog 4 (comp Tryz.prog) := ⟨X2,tf2,88,Tryz.f88,c88,2,12,[s2_0,s2_1],z2,x88,y88,x88_D,Tryz.ntmps88.symm,Tryz.func88,x88_b,x88_k,x88_s,by decide,z2_ok,x88_c,x88_r⟩
def x89_0 : List (Ins tf2) := [iAs (rk (.bool false)) s2_3]
def x89_1 : List (Ins tf2) := [iR1 bLd r2_1 s2_6,iMv (rk (.int .i64 (.ofNat 0))) s2_7]
def x89_2 : List (Ins tf2) := [iP2 bLt r2_7 r2_6 s2_8]
def x89_3 : List (Ins tf2) := [iMv r2_7 s2_9,iAs r2_9 s2_4]
def x89_4 : List (Ins tf2) := [iR1 bLd r2_1 s2_10,iMv (rk (.int .i64 (.ofNat 0))) s2_11]
def x89_5 : List (Ins tf2) := [iP2 bLt r2_11 r2_10 s2_12]
def x89_6 : List (Ins tf2) := [iMv r2_11 s2_13,iAs r2_13 s2_5]
def x89_7 : List (Ins tf2) := [iMv r2_0 s2_14,iMv r2_0 s2_15,iMv r2_4 s2_16,iP1 bNil r2_15 s2_17,iP2 (bIxa 32 1) r2_17 r2_16 s2_18,iR1 bLd r2_18 s2_19,iMv r2_0 s2_20,iMv r2_5 s2_21,iP1 bNil r2_20 s2_22,iP2 (bIxa 32 1) r2_22 r2_21 s2_23,iR1 bLd r2_23 s2_24,iGp (l2 (pBin .and)) [r2_19,r2_24] (some s2_25),iCall (rk (.func (.func 90) #[] #[])) [r2_14,r2_25] (some s2_26),iP2 bLt r2_26 (rk (.int .i64 (.ofNat 0))) s2_27]
def x89_8 : List (Ins tf2) := [iAs (rk (.bool false)) s2_3]
def x89_9 : List (Ins tf2) := [iP2 bAdd r2_11 (rk (.int .i64 (.ofNat 1))) s2_28,iMv r2_28 s2_11]
def x89_10 : List (Ins tf2) := [iP2 bAdd r2_7 (rk (.int .i64 (.ofNat 1))) s2_29,iMv r2_29 s2_7]
def x89_11 : List (Ins tf2) := [iAs (rk (.bool true)) s2_3]
def x89 : XC tf2 := (.rg x89_0 (.seq (.rg x89_1 (.block 0 (.loop (.rg x89_2 (.seq (.cond r2_8 .skip (.exit 0)) (.seq (.block 1 (.rg x89_3 (.rg x89_4 (.block 2 (.loop (.rg x89_5 (.seq (.cond r2_12 .skip (.exit 2)) (.seq (.block 3 (.rg x89_6 (.rg x89_7 (.cond r2_27 (.rg x89_8 .ret) .skip)))) (.reg x89_9))))))))) (.reg x89_10))))))) (.rg x89_11 .ret)))
def c89 : Code := Tryz.f89.body.getD .skip
theorem x89_b : Tryz.f89.body = some c89 := by kernel_rfl
theorem x89_c : cG (comp Tryz.prog) 4 2 30 x89 c89 = x89.den := by kernel_rfl
def y89 : List (RR Tryz.prog 2 30 tf2) := [rrT r2_3 3 rfl rfl]
theorem x89_r : y89.map RR.den = Tryz.f89.results.toList := by kernel_rfl
theorem x89_k : okFn Tryz.f89 = true := by kernel_rfl
theorem x89_D : 2 = dep Tryz.f89.ntmps := by kernel_rfl
theorem x89_s : ([s2_0,s2_1] : List (Slot tf2)).map Slot.p = (List.range' 0 2).map (pth 2) := by kernel_rfl
def X89 : XFn Tryz.prog 4 (comp Tryz.prog) := ⟨X2,tf2,89,Tryz.f89,c89,2,30,[s2_0,s2_1],z2,x89,y89,x89_D,Tryz.ntmps89.symm,Tryz.func89,x89_b,x89_k,x89_s,by decide,z2_ok,x89_c,x89_r⟩
def x90_0 : List (Ins tf2) := [iAs (rk (.int .i64 (.ofNat 0))) s2_4]
def x90_1 : List (Ins tf2) := [iMv r2_1 s2_7,iAs r2_7 s2_5]
def x90_2 : List (Ins tf2) := [iMv r2_5 s2_8,iP2 bNe r2_8 (rk (.int .u32 (.ofNat 0))) s2_9]
def x90_3 : List (Ins tf2) := [iMv r2_5 s2_14,iCall (rk (.func (.func 117) #[] #[])) [r2_14] (some s2_15),iAs r2_15 s2_6]
def x90_4 : List (Ins tf2) := [iMv r2_1 s2_16,iMv r2_0 s2_17,iMv r2_6 s2_18,iP1 bNil r2_17 s2_19,iP2 (bIxa 32 1) r2_19 r2_18 s2_20,iR1 bLd r2_20 s2_21,iGp (l2 (pBin .andNot)) [r2_16,r2_21] (some s2_22),iP2 bEq r2_22 (rk (.int .u32 (.ofNat 0))) s2_23]
def x90_5 : List (Ins tf2) := [iMv r2_6 s2_24,iAs r2_24 s2_4]
def x90_6 : List (Ins tf2) := [iMv r2_5 s2_10,iMv r2_5 s2_11,iP2 bSub r2_11 (rk (.int .u32 (.ofNat 1))) s2_12,iGp (l2 (pBin .and)) [r2_10,r2_12] (some s2_13),iAs r2_13 s2_5]
def x90_7 : List (Ins tf2) := [iAs (rk (.int .i64 (.negSucc 0))) s2_4]
def x90 : XC tf2 := (.rg x90_0 (.seq (.rg x90_1 (.block 0 (.loop (.seq (.rg x90_2 (.cond r2_9 .skip (.exit 0))) (.seq (.block 1 (.rg x90_3 (.rg x90_4 (.cond r2_23 (.rg x90_5 .ret) .skip)))) (.reg x90_6)))))) (.rg x90_7 .ret)))
def c90 : Code := Tryz.f90.body.getD .skip
theorem x90_b : Tryz.f90.body = some c90 := by kernel_rfl
theorem x90_c : cG (comp Tryz.prog) 4 2 25 x90 c90 = x90.den := by kernel_rfl
def y90 : List (RR Tryz.prog 2 25 tf2) := [rrT r2_4 4 rfl rfl]
theorem x90_r : y90.map RR.den = Tryz.f90.results.toList := by kernel_rfl
theorem x90_k : okFn Tryz.f90 = true := by kernel_rfl
theorem x90_D : 2 = dep Tryz.f90.ntmps := by kernel_rfl
theorem x90_s : ([s2_0,s2_1] : List (Slot tf2)).map Slot.p = (List.range' 0 2).map (pth 2) := by kernel_rfl
def X90 : XFn Tryz.prog 4 (comp Tryz.prog) := ⟨X2,tf2,90,Tryz.f90,c90,2,25,[s2_0,s2_1],z2,x90,y90,x90_D,Tryz.ntmps90.symm,Tryz.func90,x90_b,x90_k,x90_s,by decide,z2_ok,x90_c,x90_r⟩
def x93_0 : List (Ins tf2) := [iAs (rk (.int .i64 (.ofNat 0))) s2_2]
def x93_1 : List (Ins tf2) := [iMv r2_0 s2_3,iP2 bLt r2_3 (rk (.int .i64 (.ofNat 1))) s2_4,iMv r2_4 s2_5,iGd r2_5 [.o5,.o0] false (iMv r2_0 s2_6) (some s2_6) rfl rfl rfl,iGd r2_5 [.o5,.o0] false (iP2 bGt r2_6 (rk (.int .i64 (.ofNat 64))) s2_7) (some s2_7) rfl rfl rfl,iGp (l3 pPick) [r2_5,(rk (.bool true)),r2_7] (some s2_8)]
def x93_2 : List (Ins tf2) := [iAs (rk (.int .i64 (.ofNat 3))) s2_2]
def x93_3 : List (Ins tf2) := [iAs (rk (.int .i64 (.ofNat 0))) s2_2]
def x93 : XC tf2 := (.rg x93_0 (.seq (.rg x93_1 (.cond r2_8 (.rg x93_2 .ret) .skip)) (.rg x93_3 .ret)))
def c93 : Code := Tryz.f93.body.getD .skip
theorem x93_b : Tryz.f93.body = some c93 := by kernel_rfl
theorem x93_c : cG (comp Tryz.prog) 4 2 9 x93 c93 = x93.den := by kernel_rfl
def y93 : List (RR Tryz.prog 2 9 tf2) := [rrT r2_2 2 rfl rfl]
theorem x93_r : y93.map RR.den = Tryz.f93.results.toList := by kernel_rfl
theorem x93_k : okFn Tryz.f93 = true := by kernel_rfl
theorem x93_D : 2 = dep Tryz.f93.ntmps := by kernel_rfl
theorem x93_s : ([s2_0] : List (Slot tf2)).map Slot.p = (List.range' 0 1).map (pth 2) := by kernel_rfl
def X93 : XFn Tryz.prog 4 (comp Tryz.prog) := ⟨X2,tf2,93,Tryz.f93,c93,2,9,[s2_0],z2,x93,y93,x93_D,Tryz.ntmps93.symm,Tryz.func93,x93_b,x93_k,x93_s,by decide,z2_ok,x93_c,x93_r⟩
def x94_0 : List (Ins tf2) := [iGa (a1 gBox) [r2_1] (some s2_3),iAs (rk (.int .i64 (.ofNat 0))) s2_4,iAs (rk (.int .i64 (.ofNat 0))) s2_5]
def x94_1 : List (Ins tf2) := [iP1 (bFa 0) r2_3 s2_10,iR1 bLd r2_10 s2_11,iP1 (bFa 1) r2_3 s2_12,iR1 bLd r2_12 s2_13,iGp (pBld [(.int .u8 (.ofNat 0)),(.int .u64 (.ofNat 0)),(.int .i64 (.ofNat 0)),(.int .i64 (.ofNat 0)),(.int .i64 (.ofNat 0))] [(0,1),(1,1)]) [r2_11,r2_13] (some s2_14),iGa (aAl 5 [(.int .u8 (.ofNat 0)),(.int .u64 (.ofNat 0)),(.int .i64 (.ofNat 0)),(.int .i64 (.ofNat 0)),(.int .i64 (.ofNat 0))]) [] (some s2_6),iGm (m2 (sStn 5)) [r2_6,r2_14] none]
def x94_2 : List (Ins tf2) := [iP1 (bFa 2) r2_6 s2_15,iGp (pSlB (pSlA 3 1) false false false) [r2_15] (some s2_16),iP1 (bFa 2) r2_3 s2_17,iR1 bLd r2_17 s2_18,iGm (m2 (sCopy 1)) [r2_16,r2_18] (some s2_19)]
def x94_3 : List (Ins tf2) := [iMv r2_0 s2_21,iP1 bNil r2_21 s2_22,iP1 (bFa 3) r2_22 s2_23,iR1 bLd r2_23 s2_24,iGr (r1 (rLdn 5)) [r2_6] (some s2_25),iGr (r2 (rLook [0,0,0,0,0] true (.int .i64 (.ofNat 0)) true)) [r2_24,r2_25] (some s2_26),iMv r2_26 s2_20,iGp (l1 (pExt 0)) [r2_20] (some s2_27),iGp (l1 (pExt 1)) [r2_20] (some s2_28),iAs r2_27 s2_7,iAs r2_28 s2_8]
def x94_4 : List (Ins tf2) := [iMv r2_8 s2_29]
def x94_5 : List (Ins tf2) := [iMv r2_7 s2_30,iAs r2_30 s2_4,iAs (rk (.int .i64 (.ofNat 0))) s2_5]
def x94_6 : List (Ins tf2) := [iMv r2_0 s2_31,iP1 bNil r2_31 s2_32,iP1 (bFa 2) r2_32 s2_33,iR1 bLd r2_33 s2_34,iP1 bLen r2_34 s2_35,iMv r2_0 s2_36,iP1 bNil r2_36 s2_37,iP1 (bFa 1) r2_37 s2_38,iR1 bLd r2_38 s2_39,iP2 bGe r2_35 r2_39 s2_40]
def x94_7 : List (Ins tf2) := [iAs (rk (.int .i64 (.ofNat 0))) s2_4,iAs (rk (.int .i64 (.ofNat 10))) s2_5]
def x94_8 : List (Ins tf2) := [iMv r2_0 s2_41,iP1 bNil r2_41 s2_42,iP1 (bFa 2) r2_42 s2_43,iR1 bLd r2_43 s2_44,iP1 bLen r2_44 s2_45,iAs r2_45 s2_9]
def x94_9 : List (Ins tf2) := [iMv r2_0 s2_46,iMv r2_0 s2_47,iP1 bNil r2_47 s2_48,iP1 (bFa 2) r2_48 s2_49,iR1 bLd r2_49 s2_50,iGr (r1 (rLdn 3)) [r2_3] (some s2_51),iGa (aBsl 1 3 [(.int .u8 (.ofNat 0)),(.int .u64 (.ofNat 0)),(.slice none 0 0)] [(0,3)]) [r2_51] (some s2_52),iGm (m2 (sApp 3)) [r2_50,r2_52] (some s2_53),iP1 bNil r2_46 s2_54,iP1 (bFa 2) r2_54 s2_55,iM2 bSt r2_55 r2_53]
def x94_10 : List (Ins tf2) := [iMv r2_0 s2_56,iP1 bNil r2_56 s2_57,iP1 (bFa 3) r2_57 s2_58,iR1 bLd r2_58 s2_59,iGr (r1 (rLdn 5)) [r2_6] (some s2_60),iMv r2_9 s2_61,iGm (m3 (sUpd [0,0,0,0,0] true)) [r2_59,r2_60,r2_61] none]
def x94_11 : List (Ins tf2) := [iMv r2_9 s2_62,iAs r2_62 s2_4,iAs (rk (.int .i64 (.ofNat 0))) s2_5]
def x94 : XC tf2 := (.rg x94_0 (.rg x94_1 (.rg x94_2 (.seq (.rg x94_3 (.rg x94_4 (.cond r2_29 (.rg x94_5 .ret) .skip))) (.seq (.rg x94_6 (.cond r2_40 (.rg x94_7 .ret) .skip)) (.rg x94_8 (.rg x94_9 (.rg x94_10 (.rg x94_11 .ret)))))))))
def c94 : Code := Tryz.f94.body.getD .skip
theorem x94_b : Tryz.f94.body = some c94 := by kernel_rfl
theorem x94_c : cG (comp Tryz.prog) 4 2 63 x94 c94 = x94.den := by kernel_rfl
def y94 : List (RR Tryz.prog 2 63 tf2) := [rrT r2_4 4 rfl rfl,rrT r2_5 5 rfl rfl]
theorem x94_r : y94.map RR.den = Tryz.f94.results.toList := by kernel_rfl
theorem x94_k : okFn Tryz.f94 = true := by kernel_rfl
theorem x94_D : 2 = dep Tryz.f94.ntmps := by kernel_rfl
theorem x94_s : ([s2_0,s2_1] : List (Slot tf2)).map Slot.p = (List.range' 0 2).map (pth 2) := by kernel_rfl
def X94 : XFn Tryz.prog 4 (comp Tryz.prog) := ⟨X2,tf2,94,Tryz.f94,c94,2,63,[s2_0,s2_1],z2,x94,y94,x94_D,Tryz.ntmps94.symm,Tryz.func94,x94_b,x94_k,x94_s,by decide,z2_ok,x94_c,x94_r⟩
def x97_0 : List (Ins tf2) := [iAs (rk (.int .i64 (.ofNat 0))) s2_2,iAs (rk (.int .i64 (.ofNat 0))) s2_3]
def x97_1 : List (Ins tf2) := [iMv r2_0 s2_4,iP2 bGt r2_4 (rk (.int .u8 (.ofNat 21))) s2_5]
def x97_2 : List (Ins tf2) := [iAs (rk (.int .i64 (.ofNat 0))) s2_2,iAs (rk (.int .i64 (.ofNat 3))) s2_3]
def x97_3 : List (Ins tf2) := [iCall (rk (.func (.func 119) #[] #[])) [] (some s2_6),iMv r2_0 s2_7,iGp (l2 (pIx 22 none 1)) [r2_6,r2_7] (some s2_8),iP1 (bCv .i64) r2_8 s2_9,iAs r2_9 s2_2,iAs (rk (.int .i64 (.ofNat 0))) s2_3]
def x97 : XC tf2 := (.rg x97_0 (.seq (.rg x97_1 (.cond r2_5 (.rg x97_2 .ret) .skip)) (.rg x97_3 .ret)))
def c97 : Code := Tryz.f97.body.getD .skip
theorem x97_b : Tryz.f97.body = some c97 := by kernel_rfl
theorem x97_c : cG (comp Tryz.prog) 4 2 10 x97 c97 = x97.den := by kernel_rfl
def y97 : List (RR Tryz.prog 2 10 tf2) := [rrT r2_2 2 rfl rfl,rrT r2_3 3 rfl rfl]
theorem x97_r : y97.map RR.den = Tryz.f97.results.toList := by kernel_rfl
theorem x97_k : okFn Tryz.f97 = true := by kernel_rfl
theorem x97_D : 2 = dep Tryz.f97.ntmps := by kernel_rfl
theorem x97_s : ([s2_0] : List (Slot tf2)).map Slot.p = (List.range' 0 1).map (pth 2) := by kernel_rfl
def X97 : XFn Tryz.prog 4 (comp Tryz.prog) := ⟨X2,tf2,97,Tryz.f97,c97,2,10,[s2_0],z2,x97,y97,x97_D,Tryz.ntmps97.symm,Tryz.func97,x97_b,x97_k,x97_s,by decide,z2_ok,x97_c,x97_r⟩
def x99_0 : List (Ins tf3) := [iAs (rk (.bool true)) s3_8]
def x99_1 : List (Ins tf3) := [iAs (rk (.bool true)) s3_9]
def x99_2 : List (Ins tf3) := [iMv r3_2 s3_19,iMv r3_1 s3_20,iP2 bSub r3_19 r3_20 s3_21,iAs r3_21 s3_10]
def x99_3 : List (Ins tf3) := [iMv r3_10 s3_22,iP2 bLe r3_22 (rk (.int .i64 (.ofNat 12))) s3_23]
def x99_4 : List (Ins tf3) := [iMv r3_0 s3_24,iMv r3_1 s3_25,iMv r3_2 s3_26,iCall (rk (.func (.func 121) #[] #[])) [r3_24,r3_25,r3_26] (some s3_27)]
def x99_5 : List (Ins tf3) := [iMv r3_3 s3_28,iP2 bEq r3_28 (rk (.int .i64 (.ofNat 0))) s3_29]
def x99_6 : List (Ins tf3) := [iMv r3_0 s3_30,iMv r3_1 s3_31,iMv r3_2 s3_32,iCall (rk (.func (.func 122) #[] #[])) [r3_30,r3_31,r3_32] (some s3_33)]
def x99_7 : List (Ins tf3) := [iMv r3_8 s3_34,iGp (l1 (pUn .not)) [r3_34] (some s3_35)]
def x99_8 : List (Ins tf3) := [iMv r3_0 s3_36,iMv r3_1 s3_37,iMv r3_2 s3_38,iCall (rk (.func (.func 123) #[] #[])) [r3_36,r3_37,r3_38] (some s3_39)]
def x99_9 : List (Ins tf3) := [iMv r3_3 s3_40,iP2 bSub r3_40 (rk (.int .i64 (.ofNat 1))) s3_41,iAs r3_41 s3_3]
def x99_10 : List (Ins tf3) := [iMv r3_0 s3_43,iMv r3_1 s3_44,iMv r3_2 s3_45,iCall (rk (.func (.func 124) #[] #[])) [r3_43,r3_44,r3_45] (some s3_46),iMv r3_46 s3_42,iGp (l1 (pExt 0)) [r3_42] (some s3_47),iGp (l1 (pExt 1)) [r3_42] (some s3_48),iAs r3_47 s3_11,iAs r3_48 s3_12]
def x99_11 : List (Ins tf3) := [iMv r3_12 s3_49,iP2 bEq r3_49 (rk (.int .i64 (.ofNat 2))) s3_50]
def x99_12 : List (Ins tf3) := [iMv r3_0 s3_51,iMv r3_1 s3_52,iMv r3_2 s3_53,iCall (rk (.func (.func 125) #[] #[])) [r3_51,r3_52,r3_53] (some s3_54)]
def x99_13 : List (Ins tf3) := [iMv r3_2 s3_55,iP2 bSub r3_55 (rk (.int .i64 (.ofNat 1))) s3_56,iMv r3_11 s3_57,iMv r3_1 s3_58,iP2 bSub r3_57 r3_58 s3_59,iP2 bSub r3_56 r3_59 s3_60,iAs r3_60 s3_11]
def x99_14 : List (Ins tf3) := [iAs (rk (.int .i64 (.ofNat 1))) s3_12]
def x99_15 : List (Ins tf3) := [iMv r3_8 s3_61,iMv r3_61 s3_62,iGd r3_62 [.o6,.o7,.o0] true (iMv r3_9 s3_63) (some s3_63) rfl rfl rfl,iGp (l3 pPick) [r3_62,r3_63,(rk (.bool false))] (some s3_64),iMv r3_64 s3_65,iGd r3_65 [.o1,.o0,.o1] true (iMv r3_12 s3_66) (some s3_66) rfl rfl rfl,iGd r3_65 [.o1,.o0,.o1] true (iP2 bEq r3_66 (rk (.int .i64 (.ofNat 1))) s3_67) (some s3_67) rfl rfl rfl,iGp (l3 pPick) [r3_65,r3_67,(rk (.bool false))] (some s3_68)]
def x99_16 : List (Ins tf3) := [iMv r3_0 s3_69,iMv r3_1 s3_70,iMv r3_2 s3_71,iCall (rk (.func (.func 126) #[] #[])) [r3_69,r3_70,r3_71] (some s3_72)]
def x99_17 : List (Ins tf3) := [iMv r3_1 s3_73,iP2 bGt r3_73 (rk (.int .i64 (.ofNat 0))) s3_74,iMv r3_74 s3_75,iGd r3_75 [.o3,.o1,.o1] true (iMv r3_0 s3_76) (some s3_76) rfl rfl rfl,iGd r3_75 [.o3,.o1,.o1] true (iMv r3_1 s3_77) (some s3_77) rfl rfl rfl,iGd r3_75 [.o3,.o1,.o1] true (iP2 bSub r3_77 (rk (.int .i64 (.ofNat 1))) s3_78) (some s3_78) rfl rfl rfl,iGd r3_75 [.o3,.o1,.o1] true (iP2 (bIxs 1) r3_76 r3_78 s3_79) (some s3_79) rfl rfl rfl,iGd r3_75 [.o3,.o1,.o1] true (iR1 bLd r3_79 s3_80) (some s3_80) rfl rfl rfl,iGd r3_75 [.o3,.o1,.o1] true (iMv r3_0 s3_81) (some s3_81) rfl rfl rfl,iGd r3_75 [.o3,.o1,.o1] true (iMv r3_11 s3_82) (some s3_82) rfl rfl rfl,iGd r3_75 [.o3,.o1,.o1] true (iP2 (bIxs 1) r3_81 r3_82 s3_83) (some s3_83) rfl rfl rfl,iGd r3_75 [.o3,.o1,.o1] true (iR1 bLd r3_83 s3_84) (some s3_84) rfl rfl rfl,iGd r3_75 [.o3,.o1,.o1] true (iCall (rk (.func (.func 127) #[] #[])) [r3_80,r3_84] (some s3_85)) (some s3_85) rfl rfl rfl,iGd r3_75 [.o3,.o1,.o1] true (iGp (l1 (pUn .not)) [r3_85] (some s3_86)) (some s3_86) rfl rfl rfl,iGp (l3 pPick) [r3_75,r3_86,(rk (.bool false))] (some s3_87)]
def x99_18 : List (Ins tf3) := [iMv r3_0 s3_88,iMv r3_1 s3_89,iMv r3_2 s3_90,iMv r3_11 s3_91,iCall (rk (.func (.func 128) #[] #[])) [r3_88,r3_89,r3_90,r3_91] (some s3_92),iAs r3_92 s3_13]
def x99_19 : List (Ins tf3) := [iMv r3_13 s3_93,iAs r3_93 s3_1]
def x99_20 : List (Ins tf3) := [iMv r3_0 s3_95,iMv r3_1 s3_96,iMv r3_2 s3_97,iMv r3_11 s3_98,iCall (rk (.func (.func 129) #[] #[])) [r3_95,r3_96,r3_97,r3_98] (some s3_99),iMv r3_99 s3_94,iGp (l1 (pExt 0)) [r3_94] (some s3_100),iGp (l1 (pExt 1)) [r3_94] (some s3_101),iAs r3_100 s3_14,iAs r3_101 s3_15]
def x99_21 : List (Ins tf3) := [iMv r3_15 s3_102,iAs r3_102 s3_9]
def x99_22 : List (Ins tf3) := [iMv r3_14 s3_103,iMv r3_1 s3_104,iP2 bSub r3_103 r3_104 s3_105,iMv r3_2 s3_106,iMv r3_14 s3_107,iP2 bSub r3_106 r3_107 s3_108,iAs r3_105 s3_16,iAs r3_108 s3_17]
def x99_23 : List (Ins tf3) := [iMv r3_10 s3_109,iGp (l2 (pBin .quo)) [r3_109,(rk (.int .i64 (.ofNat 8)))] (some s3_110),iAs r3_110 s3_18]
def x99_24 : List (Ins tf3) := [iMv r3_16 s3_111,iMv r3_17 s3_112,iP2 bLt r3_111 r3_112 s3_113]
def x99_25 : List (Ins tf3) := [iMv r3_16 s3_114,iMv r3_18 s3_115,iP2 bGe r3_114 r3_115 s3_116,iAs r3_116 s3_8]
def x99_26 : List (Ins tf3) := [iMv r3_0 s3_117,iMv r3_1 s3_118,iMv r3_14 s3_119,iMv r3_3 s3_120,iCall (rk (.func (.func 99) #[] #[])) [r3_117,r3_118,r3_119,r3_120] (some s3_121)]
def x99_27 : List (Ins tf3) := [iMv r3_14 s3_122,iP2 bAdd r3_122 (rk (.int .i64 (.ofNat 1))) s3_123,iAs r3_123 s3_1]
def x99_28 : List (Ins tf3) := [iMv r3_17 s3_124,iMv r3_18 s3_125,iP2 bGe r3_124 r3_125 s3_126,iAs r3_126 s3_8]
def x99_29 : List (Ins tf3) := [iMv r3_0 s3_127,iMv r3_14 s3_128,iP2 bAdd r3_128 (rk (.int .i64 (.ofNat 1))) s3_129,iMv r3_2 s3_130,iMv r3_3 s3_131,iCall (rk (.func (.func 99) #[] #[])) [r3_127,r3_129,r3_130,r3_131] (some s3_132)]
def x99_30 : List (Ins tf3) := [iMv r3_14 s3_133,iAs r3_133 s3_2]
def x99_31 : XC tf3 := (.rg x99_10 (.seq (.rg x99_11 (.cond r3_50 (.rg x99_12 (.rg x99_13 (.reg x99_14))) .skip)) (.seq (.rg x99_15 (.cond r3_68 (.rg x99_16 (.cond r3_72 .ret .skip)) .skip)) (.seq (.rg x99_17 (.cond r3_87 (.rg x99_18 (.rg x99_19 (.exit 1))) .skip)) (.rg x99_20 (.rg x99_21 (.rg x99_22 (.rg x99_23 (.rg x99_24 (.cond r3_113 (.rg x99_25 (.rg x99_26 (.reg x99_27))) (.rg x99_28 (.rg x99_29 (.reg x99_30)))))))))))))
def x99 : XC tf3 := (.rg x99_0 (.rg x99_1 (.block 0 (.loop (.block 1 (.rg x99_2 (.seq (.rg x99_3 (.cond r3_23 (.rg x99_4 .ret) .skip)) (.seq (.rg x99_5 (.cond r3_29 (.rg x99_6 .ret) .skip)) (.seq (.rg x99_7 (.cond r3_35 (.rg x99_8 (.reg x99_9)) .skip)) x99_31)))))))))
def c99 : Code := Tryz.f99.body.getD .skip
theorem x99_b : Tryz.f99.body = some c99 := by kernel_rfl
theorem x99_c : cG (comp Tryz.prog) 4 3 134 x99 c99 = x99.den := by kernel_rfl
def y99 : List (RR Tryz.prog 3 134 tf3) := []
theorem x99_r : y99.map RR.den = Tryz.f99.results.toList := by kernel_rfl
theorem x99_k : okFn Tryz.f99 = true := by kernel_rfl
theorem x99_D : 3 = dep Tryz.f99.ntmps := by kernel_rfl
theorem x99_s : ([s3_0,s3_1,s3_2,s3_3] : List (Slot tf3)).map Slot.p = (List.range' 0 4).map (pth 3) := by kernel_rfl
def X99 : XFn Tryz.prog 4 (comp Tryz.prog) := ⟨X3,tf3,99,Tryz.f99,c99,3,134,[s3_0,s3_1,s3_2,s3_3],z3,x99,y99,x99_D,Tryz.ntmps99.symm,Tryz.func99,x99_b,x99_k,x99_s,by decide,z3_ok,x99_c,x99_r⟩
def x100_0 : List (Ins tf1) := [iAs (rk (.int .i64 (.ofNat 0))) s1_2]
def x100_1 : List (Ins tf1) := [iMv r1_0 s1_3,iP1 (bCv .u32) r1_3 s1_4,iCall (rk (.func (.func 130) #[] #[])) [r1_4] (some s1_5),iAs r1_5 s1_2]
def x100_2 : List (Ins tf1) := [iMv r1_0 s1_6,iCall (rk (.func (.func 131) #[] #[])) [r1_6] (some s1_7),iAs r1_7 s1_2]
def x100 : XC tf1 := (.rg x100_0 (.seq (.cond (rk (.bool false)) (.rg x100_1 .ret) .skip) (.rg x100_2 .ret)))
def c100 : Code := Tryz.f100.body.getD .skip
theorem x100_b : Tryz.f100.body = some c100 := by kernel_rfl
theorem x100_c : cG (comp Tryz.prog) 4 1 8 x100 c100 = x100.den := by kernel_rfl
def y100 : List (RR Tryz.prog 1 8 tf1) := [rrT r1_2 2 rfl rfl]
theorem x100_r : y100.map RR.den = Tryz.f100.results.toList := by kernel_rfl
theorem x100_k : okFn Tryz.f100 = true := by kernel_rfl
theorem x100_D : 1 = dep Tryz.f100.ntmps := by kernel_rfl
theorem x100_s : ([s1_0] : List (Slot tf1)).map Slot.p = (List.range' 0 1).map (pth 1) := by kernel_rfl
def X100 : XFn Tryz.prog 4 (comp Tryz.prog) := ⟨X1,tf1,100,Tryz.f100,c100,1,8,[s1_0],z1,x100,y100,x100_D,Tryz.ntmps100.symm,Tryz.func100,x100_b,x100_k,x100_s,by decide,z1_ok,x100_c,x100_r⟩
def x102_0 : List (Ins tf3) := [iGa (a1 gBox) [r3_2] (some s3_5),iAs (rk (.int .i64 (.ofNat 0))) s3_6]
def x102_1 : List (Ins tf3) := [iP1 (bFa 0) r3_5 s3_14,iR1 bLd r3_14 s3_15,iP2 bEq r3_15 (rk (.int .u8 (.ofNat 1))) s3_16]
def x102_2 : List (Ins tf3) := [iMv r3_0 s3_18,iP1 bNil r3_18 s3_19,iP1 (bFa 2) r3_19 s3_20,iR1 bLd r3_20 s3_21,iP1 (bFa 1) r3_5 s3_22,iR1 bLd r3_22 s3_23,iGr (r2 (rLook [0] false (.int .i64 (.ofNat 0)) true)) [r3_21,r3_23] (some s3_24),iMv r3_24 s3_17,iGp (l1 (pExt 0)) [r3_17] (some s3_25),iGp (l1 (pExt 1)) [r3_17] (some s3_26),iAs r3_25 s3_7,iAs r3_26 s3_8]
def x102_3 : List (Ins tf3) := [iMv r3_8 s3_27]
def x102_4 : List (Ins tf3) := [iMv r3_7 s3_28,iAs r3_28 s3_6]
def x102_5 : List (Ins tf3) := [iP1 (bFa 2) r3_5 s3_29,iR1 bLd r3_29 s3_30,iP1 bLen r3_30 s3_31,iP2 bEq r3_31 (rk (.int .i64 (.ofNat 0))) s3_32]
def x102_6 : List (Ins tf3) := [iMv r3_1 s3_33,iAs r3_33 s3_6]
def x102_7 : List (Ins tf3) := [iP1 (bFa 2) r3_5 s3_34,iR1 bLd r3_34 s3_35,iP1 bLen r3_35 s3_36,iGa (a2 (gMks 1 8 [(.int .i64 (.ofNat 0))])) [r3_36,r3_36] (some s3_37),iAs r3_37 s3_9]
def x102_8 : List (Ins tf3) := [iP1 (bFa 2) r3_5 s3_38,iR1 bLd r3_38 s3_39,iP1 bLen r3_39 s3_40,iMv (rk (.int .i64 (.ofNat 0))) s3_41]
def x102_9 : List (Ins tf3) := [iP2 bLt r3_41 r3_40 s3_42]
def x102_10 : List (Ins tf3) := [iMv r3_41 s3_43,iP2 (bIxs 1) r3_39 r3_41 s3_44,iR1 bLd r3_44 s3_45,iAs r3_43 s3_10,iAs r3_45 s3_11]
def x102_11 : List (Ins tf3) := [iMv r3_9 s3_46,iMv r3_10 s3_47,iMv r3_0 s3_48,iP1 bNil r3_48 s3_49,iP1 (bFa 1) r3_49 s3_50,iR1 bLd r3_50 s3_51,iMv r3_11 s3_52,iGr (r2 (rLook [0] false (.int .i64 (.ofNat 0)) false)) [r3_51,r3_52] (some s3_53),iP2 (bIxs 1) r3_46 r3_47 s3_54,iM2 bSt r3_54 r3_53]
def x102_12 : List (Ins tf3) := [iP2 bAdd r3_41 (rk (.int .i64 (.ofNat 1))) s3_55,iMv r3_55 s3_41]
def x102_13 : List (Ins tf3) := [iMv r3_0 s3_57,iP1 bNil r3_57 s3_58,iP1 (bFa 0) r3_58 s3_59,iR1 bLd r3_59 s3_60,iP1 (bFa 0) r3_5 s3_61,iR1 bLd r3_61 s3_62,iMv r3_9 s3_63,iCall (rk (.func (.func 66) #[] #[])) [r3_60,r3_62,r3_63] (some s3_64),iMv r3_64 s3_56,iGp (l1 (pExt 0)) [r3_56] (some s3_65),iGp (l1 (pExt 1)) [r3_56] (some s3_66),iAs r3_65 s3_12,iAs r3_66 s3_13]
def x102_14 : List (Ins tf3) := [iMv r3_13 s3_67,iP2 bNe r3_67 (rk (.int .i64 (.ofNat 0))) s3_68]
def x102_15 : List (Ins tf3) := [iMv r3_12 s3_72,iAs r3_72 s3_6]
def x102_16 : XC tf3 := (.seq (.rg x102_1 (.cond r3_16 (.rg x102_2 (.rg x102_3 (.cond r3_27 (.rg x102_4 .ret) .skip))) .skip)) (.seq (.rg x102_5 (.cond r3_32 (.rg x102_6 .ret) .skip)) (.rg x102_7 (.seq (.rg x102_8 (.block 0 (.loop (.rg x102_9 (.seq (.cond r3_42 .skip (.exit 0)) (.seq (.block 1 (.rg x102_10 (.reg x102_11))) (.reg x102_12))))))) (.rg x102_13 (.seq (.rg x102_14 (.cond r3_68 .bad .skip)) (.rg x102_15 .ret)))))))
def x102 : XC tf3 := (.rg x102_0 x102_16)
def c102 : Code := Tryz.f102.body.getD .skip
theorem x102_b : Tryz.f102.body = some c102 := by kernel_rfl
theorem x102_c : cG (comp Tryz.prog) 4 3 73 x102 c102 = x102.den := by kernel_rfl
def y102 : List (RR Tryz.prog 3 73 tf3) := [rrT r3_6 6 rfl rfl]
theorem x102_r : y102.map RR.den = Tryz.f102.results.toList := by kernel_rfl
theorem x102_k : okFn Tryz.f102 = true := by kernel_rfl
theorem x102_D : 3 = dep Tryz.f102.ntmps := by kernel_rfl
theorem x102_s : ([s3_0,s3_1,s3_2] : List (Slot tf3)).map Slot.p = (List.range' 0 3).map (pth 3) := by kernel_rfl
def X102 : XFn Tryz.prog 4 (comp Tryz.prog) := ⟨X3,tf3,102,Tryz.f102,c102,3,73,[s3_0,s3_1,s3_2],z3,x102,y102,x102_D,Tryz.ntmps102.symm,Tryz.func102,x102_b,x102_k,x102_s,by decide,z3_ok,x102_c,x102_r⟩
def x103_0 : List (Ins tf2) := [iAs (rk (.int .u64 (.ofNat 0))) s2_4,iAs (rk (.bool false)) s2_5]
def x103_1 : List (Ins tf2) := [iMv r2_0 s2_9,iMv r2_1 s2_10,iCall (rk (.func (.func 70) #[] #[])) [r2_9,r2_10] (some s2_11),iMv r2_11 s2_8,iGp (l1 (pExt 0)) [r2_8] (some s2_12),iGp (l1 (pExt 1)) [r2_8] (some s2_13),iGa (aAl 3 [(.int .u8 (.ofNat 0)),(.int .u64 (.ofNat 0)),(.slice none 0 0)]) [] (some s2_6),iGm (m2 (sStn 3)) [r2_6,r2_12] none,iAs r2_13 s2_7]
def x103_2 : List (Ins tf2) := [iMv r2_7 s2_14,iP2 bNe r2_14 (rk (.int .i64 (.ofNat 0))) s2_15,iMv r2_15 s2_16,iGd r2_16 [.o0,.o2] false (iP1 (bFa 0) r2_6 s2_17) (some s2_17) rfl rfl rfl,iGd r2_16 [.o0,.o2] false (iR1 bLd r2_17 s2_18) (some s2_18) rfl rfl rfl,iGd r2_16 [.o0,.o2] false (iP2 bNe r2_18 (rk (.int .u8 (.ofNat 0))) s2_19) (some s2_19) rfl rfl rfl,iGp (l3 pPick) [r2_16,(rk (.bool true)),r2_19] (some s2_20)]
def x103_3 : List (Ins tf2) := [iAs (rk (.int .u64 (.ofNat 0))) s2_4,iAs (rk (.bool false)) s2_5]
def x103_4 : List (Ins tf2) := [iP1 (bFa 1) r2_6 s2_21,iR1 bLd r2_21 s2_22,iAs r2_22 s2_4,iAs (rk (.bool true)) s2_5]
def x103 : XC tf2 := (.rg x103_0 (.rg x103_1 (.seq (.rg x103_2 (.cond r2_20 (.rg x103_3 .ret) .skip)) (.rg x103_4 .ret))))
def c103 : Code := Tryz.f103.body.getD .skip
theorem x103_b : Tryz.f103.body = some c103 := by kernel_rfl
theorem x103_c : cG (comp Tryz.prog) 4 2 23 x103 c103 = x103.den := by kernel_rfl
def y103 : List (RR Tryz.prog 2 23 tf2) := [rrT r2_4 4 rfl rfl,rrT r2_5 5 rfl rfl]
theorem x103_r : y103.map RR.den = Tryz.f103.results.toList := by kernel_rfl
theorem x103_k : okFn Tryz.f103 = true := by kernel_rfl
theorem x103_D : 2 = dep Tryz.f103.ntmps := by kernel_rfl
theorem x103_s : ([s2_0,s2_1] : List (Slot tf2)).map Slot.p = (List.range' 0 2).map (pth 2) := by kernel_rfl
def X103 : XFn Tryz.prog 4 (comp Tryz.prog) := ⟨X2,tf2,103,Tryz.f103,c103,2,23,[s2_0,s2_1],z2,x103,y103,x103_D,Tryz.ntmps103.symm,Tryz.func103,x103_b,x103_k,x103_s,by decide,z2_ok,x103_c,x103_r⟩
def x104_0 : List (Ins tf2) := [iAs (rk (.bool false)) s2_2]
def x104_1 : List (Ins tf2) := [iMv r2_0 s2_3]
def x104_2 : List (Ins tf2) := [iP2 bEq r2_3 (rk (.int .u8 (.ofNat 4))) s2_5,iAs r2_5 s2_4]
def x104_3 : List (Ins tf2) := [iP2 bEq r2_3 (rk (.int .u8 (.ofNat 6))) s2_6,iAs r2_6 s2_4]
def x104_4 : List (Ins tf2) := [iP2 bEq r2_3 (rk (.int .u8 (.ofNat 9))) s2_7,iAs r2_7 s2_4]
def x104_5 : List (Ins tf2) := [iP2 bEq r2_3 (rk (.int .u8 (.ofNat 10))) s2_8,iAs r2_8 s2_4]
def x104_6 : List (Ins tf2) := [iP2 bEq r2_3 (rk (.int .u8 (.ofNat 11))) s2_9,iAs r2_9 s2_4]
def x104_7 : List (Ins tf2) := [iP2 bEq r2_3 (rk (.int .u8 (.ofNat 15))) s2_10,iAs r2_10 s2_4]
def x104_8 : List (Ins tf2) := [iP2 bEq r2_3 (rk (.int .u8 (.ofNat 16))) s2_11,iAs r2_11 s2_4]
def x104_9 : List (Ins tf2) := [iAs (rk (.bool true)) s2_2]
def x104_10 : List (Ins tf2) := [iAs (rk (.bool false)) s2_2]
def x104 : XC tf2 := (.rg x104_0 (.seq (.rg x104_1 (.block 0 (.seq (.rg x104_2 (.cond r2_4 .skip (.rg x104_3 (.cond r2_4 .skip (.rg x104_4 (.cond r2_4 .skip (.rg x104_5 (.cond r2_4 .skip (.rg x104_6 (.cond r2_4 .skip (.rg x104_7 (.cond r2_4 .skip (.reg x104_8))))))))))))) (.cond r2_4 (.rg x104_9 .ret) .skip)))) (.rg x104_10 .ret)))
def c104 : Code := Tryz.f104.body.getD .skip
theorem x104_b : Tryz.f104.body = some c104 := by kernel_rfl
theorem x104_c : cG (comp Tryz.prog) 4 2 12 x104 c104 = x104.den := by kernel_rfl
def y104 : List (RR Tryz.prog 2 12 tf2) := [rrT r2_2 2 rfl rfl]
theorem x104_r : y104.map RR.den = Tryz.f104.results.toList := by kernel_rfl
theorem x104_k : okFn Tryz.f104 = true := by kernel_rfl
theorem x104_D : 2 = dep Tryz.f104.ntmps := by kernel_rfl
theorem x104_s : ([s2_0] : List (Slot tf2)).map Slot.p = (List.range' 0 1).map (pth 2) := by kernel_rfl
def X104 : XFn Tryz.prog 4 (comp Tryz.prog) := ⟨X2,tf2,104,Tryz.f104,c104,2,12,[s2_0],z2,x104,y104,x104_D,Tryz.ntmps104.symm,Tryz.func104,x104_b,x104_k,x104_s,by decide,z2_ok,x104_c,x104_r⟩
def x105_0 : List (Ins tf2) := [iAs (rk (.slice none 0 0)) s2_2]
def x105_1 : List (Ins tf2) := [iGa aMm [] (some s2_3),iGa (aBsl 1 1 [.nilFunc] [(0,1)]) [(rk (.func (.func 132) #[] #[]))] (some s2_4),iGm (m3 (sUpd [0] false)) [r2_3,(rk (.int .u8 (.ofNat 2))),r2_4] none,iGa (aBsl 1 1 [.nilFunc] [(0,1)]) [(rk (.func (.func 132) #[] #[]))] (some s2_5),iGm (m3 (sUpd [0] false)) [r2_3,(rk (.int .u8 (.ofNat 3))),r2_5] none,iCall (rk (.func (.func 133) #[] #[])) [(rk (.int .u64 (.ofNat 0)))] (some s2_6),iGa (aBsl 1 1 [.nilFunc] [(0,1)]) [r2_6] (some s2_7),iGm (m3 (sUpd [0] false)) [r2_3,(rk (.int .u8 (.ofNat 4))),r2_7] none,iCall (rk (.func (.func 133) #[] #[])) [(rk (.int .u64 (.ofNat 0)))] (some s2_8),iCall (rk (.func (.func 134) #[] #[])) [(rk (.int .u64 (.ofNat 0)))] (some s2_9),iGa (aBsl 2 1 [.nilFunc] [(0,1),(1,1)]) [r2_8,r2_9] (some s2_10),iGm (m3 (sUpd [0] false)) [r2_3,(rk (.int .u8 (.ofNat 5))),r2_10] none,iCall (rk (.func (.func 135) #[] #[])) [(rk (.int .i64 (.ofNat 1))),(rk (.int .u64 (.ofNat 0))),(rk (.int .u64 (.ofNat 0)))] (some s2_11),iCall (rk (.func (.func 133) #[] #[])) [(rk (.int .u64 (.ofNat 1)))] (some s2_12),iGa (aBsl 2 1 [.nilFunc] [(0,1),(1,1)]) [r2_11,r2_12] (some s2_13),iGm (m3 (sUpd [0] false)) [r2_3,(rk (.int .u8 (.ofNat 6))),r2_13] none,iCall (rk (.func (.func 133) #[] #[])) [(rk (.int .u64 (.ofNat 1)))] (some s2_14),iGa (aBsl 1 1 [.nilFunc] [(0,1)]) [r2_14] (some s2_15),iGm (m3 (sUpd [0] false)) [r2_3,(rk (.int .u8 (.ofNat 7))),r2_15] none,iCall (rk (.func (.func 135) #[] #[])) [(rk (.int .i64 (.ofNat 1))),(rk (.int .u64 (.ofNat 1))),(rk (.int .u64 (.ofNat 0)))] (some s2_16),iGa (aBsl 1 1 [.nilFunc] [(0,1)]) [r2_16] (some s2_17),iGm (m3 (sUpd [0] false)) [r2_3,(rk (.int .u8 (.ofNat 8))),r2_17] none,iCall (rk (.func (.func 135) #[] #[])) [(rk (.int .i64 (.ofNat 1))),(rk (.int .u64 (.ofNat 0))),(rk (.int .u64 (.ofNat 0)))] (some s2_18),iCall (rk (.func (.func 136) #[] #[])) [(rk (.int .u8 (.ofNat 1)))] (some s2_19),iGa (aBsl 3 1 [.nilFunc] [(0,1),(1,1),(2,1)]) [r2_18,r2_19,(rk (.func (.func 137) #[] #[]))] (some s2_20),iGm (m3 (sUpd [0] false)) [r2_3,(rk (.int .u8 (.ofNat 9))),r2_20] none,iCall (rk (.func (.func 133) #[] #[])) [(rk (.int .u64 (.ofNat 0)))] (some s2_21),iCall (rk (.func (.func 136) #[] #[])) [(rk (.int .u8 (.ofNat 2)))] (some s2_22),iGa (aBsl 3 1 [.nilFunc] [(0,1),(1,1),(2,1)]) [r2_21,r2_22,(rk (.func (.func 137) #[] #[]))] (some s2_23),iGm (m3 (sUpd [0] false)) [r2_3,(rk (.int .u8 (.ofNat 10))),r2_23] none,iCall (rk (.func (.func 133) #[] #[])) [(rk (.int .u64 (.ofNat 0)))] (some s2_24),iCall (rk (.func (.func 136) #[] #[])) [(rk (.int .u8 (.ofNat 3)))] (some s2_25),iCall (rk (.func (.func 134) #[] #[])) [(rk (.int .u64 (.ofNat 0)))] (some s2_26),iGa (aBsl 3 1 [.nilFunc] [(0,1),(1,1),(2,1)]) [r2_24,r2_25,r2_26] (some s2_27),iGm (m3 (sUpd [0] false)) [r2_3,(rk (.int .u8 (.ofNat 11))),r2_27] none,iCall (rk (.func (.func 133) #[] #[])) [(rk (.int .u64 (.ofNat 0)))] (some s2_28),iGa (aBsl 2 1 [.nilFunc] [(0,1),(1,1)]) [r2_28,(rk (.func (.func 138) #[] #[]))] (some s2_29),iGm (m3 (sUpd [0] false)) [r2_3,(rk (.int .u8 (.ofNat 12))),r2_29] none,iCall (rk (.func (.func 133) #[] #[])) [(rk (.int .u64 (.ofNat 0)))] (some s2_30),iGa (aBsl 2 1 [.nilFunc] [(0,1),(1,1)]) [r2_30,(rk (.func (.func 138) #[] #[]))] (some s2_31),iGm (m3 (sUpd [0] false)) [r2_3,(rk (.int .u8 (.ofNat 13))),r2_31] none,iCall (rk (.func (.func 133) #[] #[])) [(rk (.int .u64 (.ofNat 0)))] (some s2_32),iGa (aBsl 1 1 [.nilFunc] [(0,1)]) [r2_32] (some s2_33),iGm (m3 (sUpd [0] false)) [r2_3,(rk (.int .u8 (.ofNat 14))),r2_33] none,iCall (rk (.func (.func 134) #[] #[])) [(rk (.int .u64 (.ofNat 1)))] (some s2_34),iGa (aBsl 1 1 [.nilFunc] [(0,1)]) [r2_34] (some s2_35),iGm (m3 (sUpd [0] false)) [r2_3,(rk (.int .u8 (.ofNat 15))),r2_35] none,iCall (rk (.func (.func 134) #[] #[])) [(rk (.int .u64 (.ofNat 1)))] (some s2_36),iCall (rk (.func (.func 135) #[] #[])) [(rk (.int .i64 (.ofNat 0))),(rk (.int .u64 (.ofNat 0))),(rk (.int .u64 (.ofNat 1)))] (some s2_37),iGa (aBsl 2 1 [.nilFunc] [(0,1),(1,1)]) [r2_36,r2_37] (some s2_38),iGm (m3 (sUpd [0] false)) [r2_3,(rk (.int .u8 (.ofNat 18))),r2_38] none,iCall (rk (.func (.func 134) #[] #[])) [(rk (.int .u64 (.ofNat 1)))] (some s2_39),iGa (aBsl 1 1 [.nilFunc] [(0,1)]) [r2_39] (some s2_40),iGm (m3 (sUpd [0] false)) [r2_3,(rk (.int .u8 (.ofNat 20))),r2_40] none,iCall (rk (.func (.func 134) #[] #[])) [(rk (.int .u64 (.ofNat 0)))] (some s2_41),iGa (aBsl 1 1 [.nilFunc] [(0,1)]) [r2_41] (some s2_42),iGm (m3 (sUpd [0] false)) [r2_3,(rk (.int .u8 (.ofNat 16))),r2_42] none,iCall (rk (.func (.func 134) #[] #[])) [(rk (.int .u64 (.ofNat 0)))] (some s2_43),iCall (rk (.func (.func 135) #[] #[])) [(rk (.int .i64 (.ofNat 1))),(rk (.int .u64 (.ofNat 0))),(rk (.int .u64 (.ofNat 0)))] (some s2_44),iGa (aBsl 2 1 [.nilFunc] [(0,1),(1,1)]) [r2_43,r2_44] (some s2_45),iGm (m3 (sUpd [0] false)) [r2_3,(rk (.int .u8 (.ofNat 17))),r2_45] none,iCall (rk (.func (.func 134) #[] #[])) [(rk (.int .u64 (.ofNat 0)))] (some s2_46),iGa (aBsl 1 1 [.nilFunc] [(0,1)]) [r2_46] (some s2_47),iGm (m3 (sUpd [0] false)) [r2_3,(rk (.int .u8 (.ofNat 19))),r2_47] none,iGa (aBsl 1 1 [.nilFunc] [(0,1)]) [(rk (.func (.func 139) #[] #[]))] (some s2_48),iGm (m3 (sUpd [0] false)) [r2_3,(rk (.int .u8 (.ofNat 21))),r2_48] none,iMv r2_3 s2_49,iMv r2_0 s2_50,iGr (r2 (rLook [0] false (.slice none 0 0) false)) [r2_49,r2_50] (some s2_51),iAs r2_51 s2_2]
def x105 : XC tf2 := (.rg x105_0 (.rg x105_1 .ret))
def c105 : Code := Tryz.f105.body.getD .skip
theorem x105_b : Tryz.f105.body = some c105 := by kernel_rfl
theorem x105_c : cG (comp Tryz.prog) 4 2 52 x105 c105 = x105.den := by kernel_rfl
def y105 : List (RR Tryz.prog 2 52 tf2) := [rrT r2_2 2 rfl rfl]
theorem x105_r : y105.map RR.den = Tryz.f105.results.toList := by kernel_rfl
theorem x105_k : okFn Tryz.f105 = true := by kernel_rfl
theorem x105_D : 2 = dep Tryz.f105.ntmps := by kernel_rfl
theorem x105_s : ([s2_0] : List (Slot tf2)).map Slot.p = (List.range' 0 1).map (pth 2) := by kernel_rfl
def X105 : XFn Tryz.prog 4 (comp Tryz.prog) := ⟨X2,tf2,105,Tryz.f105,c105,2,52,[s2_0],z2,x105,y105,x105_D,Tryz.ntmps105.symm,Tryz.func105,x105_b,x105_k,x105_s,by decide,z2_ok,x105_c,x105_r⟩
def x107_0 : List (Ins tf1) := [iAs (rk (.int .u64 (.ofNat 0))) s1_2]
def x107_1 : List (Ins tf1) := [iMv r1_0 s1_3,iP1 (bCv .u64) r1_3 s1_4,iGp (l2 (pBin .shl)) [(rk (.int .u64 (.ofNat 1))),r1_4] (some s1_5),iP2 bSub r1_5 (rk (.int .u64 (.ofNat 1))) s1_6,iAs r1_6 s1_2]
def x107 : XC tf1 := (.rg x107_0 (.rg x107_1 .ret))
def c107 : Code := Tryz.f107.body.getD .skip
theorem x107_b : Tryz.f107.body = some c107 := by kernel_rfl
theorem x107_c : cG (comp Tryz.prog) 4 1 7 x107 c107 = x107.den := by kernel_rfl
def y107 : List (RR Tryz.prog 1 7 tf1) := [rrT r1_2 2 rfl rfl]
theorem x107_r : y107.map RR.den = Tryz.f107.results.toList := by kernel_rfl
theorem x107_k : okFn Tryz.f107 = true := by kernel_rfl
theorem x107_D : 1 = dep Tryz.f107.ntmps := by kernel_rfl
theorem x107_s : ([s1_0] : List (Slot tf1)).map Slot.p = (List.range' 0 1).map (pth 1) := by kernel_rfl
def X107 : XFn Tryz.prog 4 (comp Tryz.prog) := ⟨X1,tf1,107,Tryz.f107,c107,1,7,[s1_0],z1,x107,y107,x107_D,Tryz.ntmps107.symm,Tryz.func107,x107_b,x107_k,x107_s,by decide,z1_ok,x107_c,x107_r⟩
def x108_0 : List (Ins tf2) := [iGa (aAl 22 [.nilFunc,.nilFunc,.nilFunc,.nilFunc,.nilFunc,.nilFunc,.nilFunc,.nilFunc,.nilFunc,.nilFunc,.nilFunc,.nilFunc,.nilFunc,.nilFunc,.nilFunc,.nilFunc,.nilFunc,.nilFunc,.nilFunc,.nilFunc,.nilFunc,.nilFunc]) [] (some s2_0)]
def x108_1 : List (Ins tf2) := [iGp (pBld [.nilFunc] [(0,1)]) [(rk (.func (.func 140) #[] #[]))] (some s2_1),iGp (pBld [.nilFunc] [(0,1)]) [(rk (.func (.func 141) #[] #[]))] (some s2_2),iGp (pBld [.nilFunc] [(0,1)]) [(rk (.func (.func 142) #[] #[]))] (some s2_3),iGp (pBld [.nilFunc] [(0,1)]) [(rk (.func (.func 143) #[] #[]))] (some s2_4),iGp (pBld [.nilFunc] [(0,1)]) [(rk (.func (.func 144) #[] #[]))] (some s2_5),iGp (pBld [.nilFunc] [(0,1)]) [(rk (.func (.func 145) #[] #[]))] (some s2_6),iGp (pBld [.nilFunc] [(0,1)]) [(rk (.func (.func 146) #[] #[]))] (some s2_7),iGp (pBld [.nilFunc] [(0,1)]) [(rk (.func (.func 147) #[] #[]))] (some s2_8),iGp (pBld [.nilFunc] [(0,1)]) [(rk (.func (.func 148) #[] #[]))] (some s2_9),iGp (pBld [.nilFunc] [(0,1)]) [(rk (.func (.func 149) #[] #[]))] (some s2_10),iGp (pBld [.nilFunc] [(0,1)]) [(rk (.func (.func 150) #[] #[]))] (some s2_11),iGp (pBld [.nilFunc] [(0,1)]) [(rk (.func (.func 151) #[] #[]))] (some s2_12),iGp (pBld [.nilFunc] [(0,1)]) [(rk (.func (.func 152) #[] #[]))] (some s2_13),iGp (pBld [.nilFunc] [(0,1)]) [(rk (.func (.func 153) #[] #[]))] (some s2_14),iGp (pBld [.nilFunc] [(0,1)]) [(rk (.func (.func 154) #[] #[]))] (some s2_15),iGp (pBld [.nilFunc] [(0,1)]) [(rk (.func (.func 155) #[] #[]))] (some s2_16),iGp (pBld [.nilFunc] [(0,1)]) [(rk (.func (.func 156) #[] #[]))] (some s2_17),iGp (pBld [.nilFunc,.nilFunc,.nilFunc,.nilFunc,.nilFunc,.nilFunc,.nilFunc,.nilFunc,.nilFunc,.nilFunc,.nilFunc,.nilFunc,.nilFunc,.nilFunc,.nilFunc,.nilFunc,.nilFunc,.nilFunc,.nilFunc,.nilFunc,.nilFunc,.nilFunc] [(4,1),(5,1),(6,1),(7,1),(8,1),(9,1),(10,1),(11,1),(12,1),(13,1),(14,1),(15,1),(16,1),(17,1),(18,1),(19,1),(20,1)]) [r2_1,r2_2,r2_3,r2_4,r2_5,r2_6,r2_7,r2_8,r2_9,r2_10,r2_11,r2_12,r2_13,r2_14,r2_15,r2_16,r2_17] (some s2_18),iGm (m2 (sStn 22)) [r2_0,r2_18] none]
def x108 : XC tf2 := (.rg x108_0 (.rg x108_1 .ret))
def c108 : Code := Tryz.f108.body.getD .skip
theorem x108_b : Tryz.f108.body = some c108 := by kernel_rfl
theorem x108_c : cG (comp Tryz.prog) 4 2 19 x108 c108 = x108.den := by kernel_rfl
def y108 : List (RR Tryz.prog 2 19 tf2) := [rrS (.cell 0 232)]
theorem x108_r : y108.map RR.den = Tryz.f108.results.toList := by kernel_rfl
theorem x108_k : okFn Tryz.f108 = true := by kernel_rfl
theorem x108_D : 2 = dep Tryz.f108.ntmps := by kernel_rfl
theorem x108_s : ([] : List (Slot tf2)).map Slot.p = (List.range' 0 0).map (pth 2) := by kernel_rfl
def X108 : XFn Tryz.prog 4 (comp Tryz.prog) := ⟨X2,tf2,108,Tryz.f108,c108,2,19,[],z2,x108,y108,x108_D,Tryz.ntmps108.symm,Tryz.func108,x108_b,x108_k,x108_s,by decide,z2_ok,x108_c,x108_r⟩
def x114_0 : List (Ins tf2) := [iAs (rk (.bool false)) s2_2]
def x114_1 : List (Ins tf2) := [iMv r2_0 s2_5,iP1 bLen r2_5 s2_6,iMv (rk (.int .i64 (.ofNat 0))) s2_7]
def x114_2 : List (Ins tf2) := [iP2 bLt r2_7 r2_6 s2_8]
def x114_3 : List (Ins tf2) := [iMv r2_7 s2_9,iP2 (bIxs 1) r2_5 r2_7 s2_10,iR1 bLd r2_10 s2_11,iAs r2_9 s2_3,iAs r2_11 s2_4]
def x114_4 : List (Ins tf2) := [iMv r2_4 s2_12,iCall (rk (.func (.func 161) #[] #[])) [r2_12] (some s2_13),iGp (l1 (pUn .not)) [r2_13] (some s2_14),iMv r2_14 s2_15,iGd r2_15 [.o7,.o1] false (iMv r2_0 s2_16) (some s2_16) rfl rfl rfl,iGd r2_15 [.o7,.o1] false (iMv r2_3 s2_17) (some s2_17) rfl rfl rfl,iGd r2_15 [.o7,.o1] false (iGp (pSlB (pSl 1) false true false) [r2_16,r2_17] (some s2_18)) (some s2_18) rfl rfl rfl,iGd r2_15 [.o7,.o1] false (iMv r2_4 s2_19) (some s2_19) rfl rfl rfl,iGd r2_15 [.o7,.o1] false (iCall (rk (.func (.func 162) #[] #[])) [r2_18,r2_19] (some s2_20)) (some s2_20) rfl rfl rfl,iGp (l3 pPick) [r2_15,(rk (.bool true)),r2_20] (some s2_21)]
def x114_5 : List (Ins tf2) := [iAs (rk (.bool false)) s2_2]
def x114_6 : List (Ins tf2) := [iP2 bAdd r2_7 (rk (.int .i64 (.ofNat 1))) s2_22,iMv r2_22 s2_7]
def x114_7 : List (Ins tf2) := [iMv r2_0 s2_23,iP1 bLen r2_23 s2_24,iP2 bLe r2_24 (rk (.int .i64 (.ofNat 32))) s2_25,iAs r2_25 s2_2]
def x114 : XC tf2 := (.rg x114_0 (.seq (.rg x114_1 (.block 0 (.loop (.rg x114_2 (.seq (.cond r2_8 .skip (.exit 0)) (.seq (.block 1 (.rg x114_3 (.rg x114_4 (.cond r2_21 (.rg x114_5 .ret) .skip)))) (.reg x114_6))))))) (.rg x114_7 .ret)))
def c114 : Code := Tryz.f114.body.getD .skip
theorem x114_b : Tryz.f114.body = some c114 := by kernel_rfl
theorem x114_c : cG (comp Tryz.prog) 4 2 26 x114 c114 = x114.den := by kernel_rfl
def y114 : List (RR Tryz.prog 2 26 tf2) := [rrT r2_2 2 rfl rfl]
theorem x114_r : y114.map RR.den = Tryz.f114.results.toList := by kernel_rfl
theorem x114_k : okFn Tryz.f114 = true := by kernel_rfl
theorem x114_D : 2 = dep Tryz.f114.ntmps := by kernel_rfl
theorem x114_s : ([s2_0] : List (Slot tf2)).map Slot.p = (List.range' 0 1).map (pth 2) := by kernel_rfl
def X114 : XFn Tryz.prog 4 (comp Tryz.prog) := ⟨X2,tf2,114,Tryz.f114,c114,2,26,[s2_0],z2,x114,y114,x114_D,Tryz.ntmps114.symm,Tryz.func114,x114_b,x114_k,x114_s,by decide,z2_ok,x114_c,x114_r⟩
def x115_0 : List (Ins tf3) := [iGa (a1 gBox) [r3_0] (some s3_2),iGa (a1 gBox) [r3_1] (some s3_3),iAs (rk (.bool false)) s3_4]
def x115_1 : List (Ins tf3) := [iP1 (bFa 0) r3_3 s3_9,iR1 bLd r3_9 s3_10,iP1 (bCv .i64) r3_10 s3_11,iP2 bGe r3_11 (rk (.int .i64 (.ofNat 10))) s3_12]
def x115_2 : List (Ins tf3) := [iAs (rk (.bool false)) s3_4]
def x115_3 : List (Ins tf3) := [iP1 (bFa 0) r3_3 s3_13,iR1 bLd r3_13 s3_14,iP2 (bIxa 10 4) (rk (.pointer (some ⟨2,0,none⟩))) r3_14 s3_15,iGr (r1 (rLdn 4)) [r3_15] (some s3_16),iGa (aAl 4 [(.bool false),(.bool false),(.bool false),(.int .i64 (.ofNat 0))]) [] (some s3_5),iGm (m2 (sStn 4)) [r3_5,r3_16] none]
def x115_4 : List (Ins tf3) := [iP1 (bFa 0) r3_3 s3_17,iR1 bLd r3_17 s3_18,iP2 bEq r3_18 (rk (.int .u8 (.ofNat 1))) s3_19]
def x115_5 : List (Ins tf3) := [iP1 (bFa 1) r3_3 s3_20,iR1 bLd r3_20 s3_21,iP2 bLt r3_21 (rk (.int .u8 (.ofNat 2))) s3_22,iMv r3_22 s3_23,iGd r3_23 [.o7,.o2,.o0] false (iP1 (bFa 1) r3_3 s3_24) (some s3_24) rfl rfl rfl,iGd r3_23 [.o7,.o2,.o0] false (iR1 bLd r3_24 s3_25) (some s3_25) rfl rfl rfl,iGd r3_23 [.o7,.o2,.o0] false (iP2 bGt r3_25 (rk (.int .u8 (.ofNat 20))) s3_26) (some s3_26) rfl rfl rfl,iGp (l3 pPick) [r3_23,(rk (.bool true)),r3_26] (some s3_27)]
def x115_6 : List (Ins tf3) := [iAs (rk (.bool false)) s3_4]
def x115_7 : List (Ins tf3) := [iP1 (bFa 1) r3_3 s3_29,iR1 bLd r3_29 s3_30,iCall (rk (.func (.func 97) #[] #[])) [r3_30] (some s3_31),iMv r3_31 s3_28,iGp (l1 (pExt 0)) [r3_28] (some s3_32),iGp (l1 (pExt 1)) [r3_28] (some s3_33),iAs r3_32 s3_6,iAs r3_33 s3_7]
def x115_8 : List (Ins tf3) := [iMv r3_6 s3_34,iP2 bEq r3_34 (rk (.int .i64 (.ofNat 2))) s3_35,iP1 (bFa 2) r3_5 s3_36,iM2 bSt r3_36 r3_35]
def x115_9 : List (Ins tf3) := [iP1 (bFa 1) r3_3 s3_37,iR1 bLd r3_37 s3_38,iP2 bNe r3_38 (rk (.int .u8 (.ofNat 0))) s3_39]
def x115_10 : List (Ins tf3) := [iAs (rk (.bool false)) s3_4]
def x115_11 : List (Ins tf3) := [iP1 (bFa 4) r3_2 s3_40,iR1 bLd r3_40 s3_41,iP1 bLen r3_41 s3_42,iP1 (bFa 2) r3_2 s3_43,iR1 bLd r3_43 s3_44,iP1 bLen r3_44 s3_45,iP1 (bFa 3) r3_2 s3_46,iR1 bLd r3_46 s3_47,iP1 bLen r3_47 s3_48,iP1 (bFa 5) r3_2 s3_49,iR1 bLd r3_49 s3_50,iP1 bLen r3_50 s3_51,iGp (pBld [(.int .i64 (.ofNat 0)),(.int .i64 (.ofNat 0)),(.int .i64 (.ofNat 0)),(.int .i64 (.ofNat 0)),(.int .i64 (.ofNat 0))] [(0,1),(1,1),(2,1),(3,1),(4,1)]) [(rk (.int .i64 (.ofNat 1))),r3_42,r3_45,r3_48,r3_51] (some s3_52),iP1 (bFa 3) r3_5 s3_53,iR1 bLd r3_53 s3_54,iGp (l2 (pIx 5 none 1)) [r3_52,r3_54] (some s3_55),iAs r3_55 s3_8]
def x115_12 : List (Ins tf3) := [iP1 (bFa 3) r3_3 s3_56,iR1 bLd r3_56 s3_57,iP2 bLt r3_57 (rk (.int .i64 (.ofNat 0))) s3_58,iMv r3_58 s3_59,iGd r3_59 [.o3,.o7,.o0] false (iP1 (bFa 3) r3_3 s3_60) (some s3_60) rfl rfl rfl,iGd r3_59 [.o3,.o7,.o0] false (iR1 bLd r3_60 s3_61) (some s3_61) rfl rfl rfl,iGd r3_59 [.o3,.o7,.o0] false (iMv r3_8 s3_62) (some s3_62) rfl rfl rfl,iGd r3_59 [.o3,.o7,.o0] false (iP2 bGe r3_61 r3_62 s3_63) (some s3_63) rfl rfl rfl,iGp (l3 pPick) [r3_59,(rk (.bool true)),r3_63] (some s3_64),iMv r3_64 s3_65,iGd r3_65 [.o1,.o0,.o1] false (iP1 (bFa 0) r3_5 s3_66) (some s3_66) rfl rfl rfl,iGd r3_65 [.o1,.o0,.o1] false (iR1 bLd r3_66 s3_67) (some s3_67) rfl rfl rfl,iGd r3_65 [.o1,.o0,.o1] false (iGp (l1 (pUn .not)) [r3_67] (some s3_68)) (some s3_68) rfl rfl rfl,iGd r3_65 [.o1,.o0,.o1] false (iMv r3_68 s3_69) (some s3_69) rfl rfl rfl,iGd r3_69 [.o5,.o0,.o1] true (iP1 (bFa 2) r3_3 s3_70) (some s3_70) rfl rfl rfl,iGd r3_69 [.o5,.o0,.o1] true (iR1 bLd r3_70 s3_71) (some s3_71) rfl rfl rfl,iGd r3_69 [.o5,.o0,.o1] true (iP2 bNe r3_71 (rk (.int .i64 (.ofNat 0))) s3_72) (some s3_72) rfl rfl rfl,iGd r3_65 [.o1,.o0,.o1] false (iGp (l3 pPick) [r3_69,r3_72,(rk (.bool false))] (some s3_73)) (some s3_73) rfl rfl rfl,iGp (l3 pPick) [r3_65,(rk (.bool true)),r3_73] (some s3_74),iMv r3_74 s3_75,iGd r3_75 [.o3,.o1,.o1] false (iP1 (bFa 0) r3_5 s3_76) (some s3_76) rfl rfl rfl,iGd r3_75 [.o3,.o1,.o1] false (iR1 bLd r3_76 s3_77) (some s3_77) rfl rfl rfl,iGd r3_75 [.o3,.o1,.o1] false (iMv r3_77 s3_78) (some s3_78) rfl rfl rfl,iGd r3_78 [.o6,.o1,.o1] true (iP1 (bFa 2) r3_3 s3_79) (some s3_79) rfl rfl rfl,iGd r3_78 [.o6,.o1,.o1] true (iR1 bLd r3_79 s3_80) (some s3_80) rfl rfl rfl,iGd r3_78 [.o6,.o1,.o1] true (iP2 bLt r3_80 (rk (.int .i64 (.ofNat 0))) s3_81) (some s3_81) rfl rfl rfl,iGd r3_78 [.o6,.o1,.o1] true (iMv r3_81 s3_82) (some s3_82) rfl rfl rfl,iGd r3_82 [.o2,.o2,.o1] false (iP1 (bFa 2) r3_3 s3_83) (some s3_83) rfl rfl rfl,iGd r3_82 [.o2,.o2,.o1] false (iR1 bLd r3_83 s3_84) (some s3_84) rfl rfl rfl,iGd r3_82 [.o2,.o2,.o1] false (iP1 (bFa 1) r3_2 s3_85) (some s3_85) rfl rfl rfl,iGd r3_82 [.o2,.o2,.o1] false (iR1 bLd r3_85 s3_86) (some s3_86) rfl rfl rfl,iGd r3_82 [.o2,.o2,.o1] false (iP2 bGe r3_84 r3_86 s3_87) (some s3_87) rfl rfl rfl,iGd r3_78 [.o6,.o1,.o1] true (iGp (l3 pPick) [r3_82,(rk (.bool true)),r3_87] (some s3_88)) (some s3_88) rfl rfl rfl,iGd r3_75 [.o3,.o1,.o1] false (iGp (l3 pPick) [r3_78,r3_88,(rk (.bool false))] (some s3_89)) (some s3_89) rfl rfl rfl,iGp (l3 pPick) [r3_75,(rk (.bool true)),r3_89] (some s3_90)]
def x115_13 : List (Ins tf3) := [iAs (rk (.bool false)) s3_4]
def x115_14 : List (Ins tf3) := [iGr (r1 (rLdn 6)) [r3_2] (some s3_91),iP1 (bFa 4) r3_3 s3_92,iGr (r1 (rLdn 2)) [r3_92] (some s3_93),iP1 (bFa 1) r3_5 s3_94,iR1 bLd r3_94 s3_95,iCall (rk (.func (.func 163) #[] #[])) [r3_91,r3_93,r3_95] (some s3_96),iMv r3_96 s3_97,iGd r3_97 [.o1,.o4,.o1] true (iGr (r1 (rLdn 6)) [r3_2] (some s3_98)) (some s3_98) rfl rfl rfl,iGd r3_97 [.o1,.o4,.o1] true (iP1 (bFa 6) r3_3 s3_99) (some s3_99) rfl rfl rfl,iGd r3_97 [.o1,.o4,.o1] true (iGr (r1 (rLdn 2)) [r3_99] (some s3_100)) (some s3_100) rfl rfl rfl,iGd r3_97 [.o1,.o4,.o1] true (iP1 (bFa 2) r3_5 s3_101) (some s3_101) rfl rfl rfl,iGd r3_97 [.o1,.o4,.o1] true (iR1 bLd r3_101 s3_102) (some s3_102) rfl rfl rfl,iGd r3_97 [.o1,.o4,.o1] true (iCall (rk (.func (.func 163) #[] #[])) [r3_98,r3_100,r3_102] (some s3_103)) (some s3_103) rfl rfl rfl,iGp (l3 pPick) [r3_97,r3_103,(rk (.bool false))] (some s3_104),iAs r3_104 s3_4]
def x115 : XC tf3 := (.rg x115_0 (.seq (.rg x115_1 (.cond r3_12 (.rg x115_2 .ret) .skip)) (.rg x115_3 (.seq (.rg x115_4 (.cond r3_19 (.seq (.rg x115_5 (.cond r3_27 (.rg x115_6 .ret) .skip)) (.rg x115_7 (.reg x115_8))) (.rg x115_9 (.cond r3_39 (.rg x115_10 .ret) .skip)))) (.rg x115_11 (.seq (.rg x115_12 (.cond r3_90 (.rg x115_13 .ret) .skip)) (.rg x115_14 .ret)))))))
def c115 : Code := Tryz.f115.body.getD .skip
theorem x115_b : Tryz.f115.body = some c115 := by kernel_rfl
theorem x115_c : cG (comp Tryz.prog) 4 3 105 x115 c115 = x115.den := by kernel_rfl
def y115 : List (RR Tryz.prog 3 105 tf3) := [rrT r3_4 4 rfl rfl]
theorem x115_r : y115.map RR.den = Tryz.f115.results.toList := by kernel_rfl
theorem x115_k : okFn Tryz.f115 = true := by kernel_rfl
theorem x115_D : 3 = dep Tryz.f115.ntmps := by kernel_rfl
theorem x115_s : ([s3_0,s3_1] : List (Slot tf3)).map Slot.p = (List.range' 0 2).map (pth 3) := by kernel_rfl
def X115 : XFn Tryz.prog 4 (comp Tryz.prog) := ⟨X3,tf3,115,Tryz.f115,c115,3,105,[s3_0,s3_1],z3,x115,y115,x115_D,Tryz.ntmps115.symm,Tryz.func115,x115_b,x115_k,x115_s,by decide,z3_ok,x115_c,x115_r⟩
def x116_0 : List (Ins tf2) := [iAs (rk (.slice none 0 0)) s2_3]
def x116_1 : List (Ins tf2) := [iMv r2_0 s2_6,iGa (a2 (gMks 1 8 [(.int .i64 (.ofNat 0))])) [r2_6,r2_6] (some s2_7),iAs r2_7 s2_4]
def x116_2 : List (Ins tf2) := [iMv r2_4 s2_8,iP1 bLen r2_8 s2_9,iMv (rk (.int .i64 (.ofNat 0))) s2_10]
def x116_3 : List (Ins tf2) := [iP2 bLt r2_10 r2_9 s2_11]
def x116_4 : List (Ins tf2) := [iMv r2_10 s2_12,iAs r2_12 s2_5]
def x116_5 : List (Ins tf2) := [iMv r2_4 s2_13,iMv r2_5 s2_14,iR1 bLd r2_1 s2_15,iP2 (bIxs 1) r2_13 r2_14 s2_16,iM2 bSt r2_16 r2_15]
def x116_6 : List (Ins tf2) := [iP2 bAdd r2_10 (rk (.int .i64 (.ofNat 1))) s2_17,iMv r2_17 s2_10]
def x116_7 : List (Ins tf2) := [iMv r2_4 s2_18,iAs r2_18 s2_3]
def x116 : XC tf2 := (.rg x116_0 (.rg x116_1 (.seq (.rg x116_2 (.block 0 (.loop (.rg x116_3 (.seq (.cond r2_11 .skip (.exit 0)) (.seq (.block 1 (.rg x116_4 (.reg x116_5))) (.reg x116_6))))))) (.rg x116_7 .ret))))
def c116 : Code := Tryz.f116.body.getD .skip
theorem x116_b : Tryz.f116.body = some c116 := by kernel_rfl
theorem x116_c : cG (comp Tryz.prog) 4 2 19 x116 c116 = x116.den := by kernel_rfl
def y116 : List (RR Tryz.prog 2 19 tf2) := [rrT r2_3 3 rfl rfl]
theorem x116_r : y116.map RR.den = Tryz.f116.results.toList := by kernel_rfl
theorem x116_k : okFn Tryz.f116 = true := by kernel_rfl
theorem x116_D : 2 = dep Tryz.f116.ntmps := by kernel_rfl
theorem x116_s : ([s2_0,s2_1] : List (Slot tf2)).map Slot.p = (List.range' 0 2).map (pth 2) := by kernel_rfl
def X116 : XFn Tryz.prog 4 (comp Tryz.prog) := ⟨X2,tf2,116,Tryz.f116,c116,2,19,[s2_0,s2_1],z2,x116,y116,x116_D,Tryz.ntmps116.symm,Tryz.func116,x116_b,x116_k,x116_s,by decide,z2_ok,x116_c,x116_r⟩
def x117_0 : List (Ins tf2) := [iAs (rk (.int .i64 (.ofNat 0))) s2_2]
def x117_1 : List (Ins tf2) := [iMv r2_0 s2_3,iP2 bEq r2_3 (rk (.int .u32 (.ofNat 0))) s2_4]
def x117_2 : List (Ins tf2) := [iAs (rk (.int .i64 (.ofNat 32))) s2_2]
def x117_3 : List (Ins tf2) := [iMv r2_0 s2_5,iMv r2_0 s2_6,iGp (l1 (pUn .neg)) [r2_6] (some s2_7),iGp (l2 (pBin .and)) [r2_5,r2_7] (some s2_8),iGp (l2 (pBin .mul)) [r2_8,(rk (.int .u32 (.ofNat 125613361)))] (some s2_9),iGp (l2 (pBin .shr)) [r2_9,(rk (.int .u64 (.ofNat 27)))] (some s2_10),iP2 (bIxa 32 1) (rk (.pointer (some ⟨3,0,none⟩))) r2_10 s2_11,iR1 bLd r2_11 s2_12,iP1 (bCv .i64) r2_12 s2_13,iAs r2_13 s2_2]
def x117 : XC tf2 := (.rg x117_0 (.seq (.rg x117_1 (.cond r2_4 (.rg x117_2 .ret) .skip)) (.rg x117_3 .ret)))
def c117 : Code := Tryz.f117.body.getD .skip
theorem x117_b : Tryz.f117.body = some c117 := by kernel_rfl
theorem x117_c : cG (comp Tryz.prog) 4 2 14 x117 c117 = x117.den := by kernel_rfl
def y117 : List (RR Tryz.prog 2 14 tf2) := [rrT r2_2 2 rfl rfl]
theorem x117_r : y117.map RR.den = Tryz.f117.results.toList := by kernel_rfl
theorem x117_k : okFn Tryz.f117 = true := by kernel_rfl
theorem x117_D : 2 = dep Tryz.f117.ntmps := by kernel_rfl
theorem x117_s : ([s2_0] : List (Slot tf2)).map Slot.p = (List.range' 0 1).map (pth 2) := by kernel_rfl
def X117 : XFn Tryz.prog 4 (comp Tryz.prog) := ⟨X2,tf2,117,Tryz.f117,c117,2,14,[s2_0],z2,x117,y117,x117_D,Tryz.ntmps117.symm,Tryz.func117,x117_b,x117_k,x117_s,by decide,z2_ok,x117_c,x117_r⟩
def x119_0 : List (Ins tf2) := [iGa (aAl 22 [(.int .u8 (.ofNat 0)),(.int .u8 (.ofNat 0)),(.int .u8 (.ofNat 0)),(.int .u8 (.ofNat 0)),(.int .u8 (.ofNat 0)),(.int .u8 (.ofNat 0)),(.int .u8 (.ofNat 0)),(.int .u8 (.ofNat 0)),(.int .u8 (.ofNat 0)),(.int .u8 (.ofNat 0)),(.int .u8 (.ofNat 0)),(.int .u8 (.ofNat 0)),(.int .u8 (.ofNat 0)),(.int .u8 (.ofNat 0)),(.int .u8 (.ofNat 0)),(.int .u8 (.ofNat 0)),(.int .u8 (.ofNat 0)),(.int .u8 (.ofNat 0)),(.int .u8 (.ofNat 0)),(.int .u8 (.ofNat 0)),(.int .u8 (.ofNat 0)),(.int .u8 (.ofNat 0))]) [] (some s2_0)]
def x119_1 : List (Ins tf2) := [iGa (aAl 22 [(.int .u8 (.ofNat 0)),(.int .u8 (.ofNat 0)),(.int .u8 (.ofNat 0)),(.int .u8 (.ofNat 0)),(.int .u8 (.ofNat 0)),(.int .u8 (.ofNat 0)),(.int .u8 (.ofNat 0)),(.int .u8 (.ofNat 0)),(.int .u8 (.ofNat 0)),(.int .u8 (.ofNat 0)),(.int .u8 (.ofNat 0)),(.int .u8 (.ofNat 0)),(.int .u8 (.ofNat 0)),(.int .u8 (.ofNat 0)),(.int .u8 (.ofNat 0)),(.int .u8 (.ofNat 0)),(.int .u8 (.ofNat 0)),(.int .u8 (.ofNat 0)),(.int .u8 (.ofNat 0)),(.int .u8 (.ofNat 0)),(.int .u8 (.ofNat 0)),(.int .u8 (.ofNat 0))]) [] (some s2_1)]
def x119_2 : List (Ins tf2) := [iMv (rk (.int .i64 (.ofNat 0))) s2_3]
def x119_3 : List (Ins tf2) := [iP2 bLt r2_3 (rk (.int .i64 (.ofNat 22))) s2_4]
def x119_4 : List (Ins tf2) := [iMv r2_3 s2_5,iAs r2_5 s2_2]
def x119_5 : List (Ins tf2) := [iMv r2_2 s2_6,iP2 (bIxa 22 1) r2_1 r2_6 s2_7,iM2 bSt r2_7 (rk (.int .u8 (.ofNat 2)))]
def x119_6 : List (Ins tf2) := [iP2 bAdd r2_3 (rk (.int .i64 (.ofNat 1))) s2_8,iMv r2_8 s2_3]
def x119_7 : List (Ins tf2) := [iP2 (bIxa 22 1) r2_1 (rk (.int .u8 (.ofNat 0))) s2_9,iM2 bSt r2_9 (rk (.int .u8 (.ofNat 0))),iP2 (bIxa 22 1) r2_1 (rk (.int .u8 (.ofNat 1))) s2_10,iM2 bSt r2_10 (rk (.int .u8 (.ofNat 0)))]
def x119_8 : List (Ins tf2) := [iP2 (bIxa 22 1) r2_1 (rk (.int .u8 (.ofNat 2))) s2_11,iM2 bSt r2_11 (rk (.int .u8 (.ofNat 1))),iP2 (bIxa 22 1) r2_1 (rk (.int .u8 (.ofNat 3))) s2_12,iM2 bSt r2_12 (rk (.int .u8 (.ofNat 1)))]
def x119_9 : List (Ins tf2) := [iP2 (bIxa 22 1) r2_1 (rk (.int .u8 (.ofNat 21))) s2_13,iM2 bSt r2_13 (rk (.int .u8 (.ofNat 3)))]
def x119_10 : List (Ins tf2) := [iGr (r1 (rLdn 22)) [r2_1] (some s2_14),iGm (m2 (sStn 22)) [r2_0,r2_14] none]
def x119 : XC tf2 := (.rg x119_0 (.rg x119_1 (.seq (.rg x119_2 (.block 0 (.loop (.rg x119_3 (.seq (.cond r2_4 .skip (.exit 0)) (.seq (.block 1 (.rg x119_4 (.reg x119_5))) (.reg x119_6))))))) (.rg x119_7 (.rg x119_8 (.rg x119_9 (.rg x119_10 .ret)))))))
def c119 : Code := Tryz.f119.body.getD .skip
theorem x119_b : Tryz.f119.body = some c119 := by kernel_rfl
theorem x119_c : cG (comp Tryz.prog) 4 2 15 x119 c119 = x119.den := by kernel_rfl
def y119 : List (RR Tryz.prog 2 15 tf2) := [rrS (.cell 0 253)]
theorem x119_r : y119.map RR.den = Tryz.f119.results.toList := by kernel_rfl
theorem x119_k : okFn Tryz.f119 = true := by kernel_rfl
theorem x119_D : 2 = dep Tryz.f119.ntmps := by kernel_rfl
theorem x119_s : ([] : List (Slot tf2)).map Slot.p = (List.range' 0 0).map (pth 2) := by kernel_rfl
def X119 : XFn Tryz.prog 4 (comp Tryz.prog) := ⟨X2,tf2,119,Tryz.f119,c119,2,15,[],z2,x119,y119,x119_D,Tryz.ntmps119.symm,Tryz.func119,x119_b,x119_k,x119_s,by decide,z2_ok,x119_c,x119_r⟩
def x121_0 : List (Ins tf2) := [iMv r2_1 s2_8,iP2 bAdd r2_8 (rk (.int .i64 (.ofNat 1))) s2_9,iAs r2_9 s2_6]
def x121_1 : List (Ins tf2) := [iMv r2_6 s2_10,iMv r2_2 s2_11,iP2 bLt r2_10 r2_11 s2_12]
def x121_2 : List (Ins tf2) := [iMv r2_6 s2_15,iAs r2_15 s2_7]
def x121_3 : List (Ins tf2) := [iMv r2_7 s2_16,iMv r2_1 s2_17,iP2 bGt r2_16 r2_17 s2_18,iMv r2_18 s2_19,iGd r2_19 [.o3,.o2] true (iMv r2_0 s2_20) (some s2_20) rfl rfl rfl,iGd r2_19 [.o3,.o2] true (iMv r2_7 s2_21) (some s2_21) rfl rfl rfl,iGd r2_19 [.o3,.o2] true (iP2 (bIxs 1) r2_20 r2_21 s2_22) (some s2_22) rfl rfl rfl,iGd r2_19 [.o3,.o2] true (iR1 bLd r2_22 s2_23) (some s2_23) rfl rfl rfl,iGd r2_19 [.o3,.o2] true (iMv r2_0 s2_24) (some s2_24) rfl rfl rfl,iGd r2_19 [.o3,.o2] true (iMv r2_7 s2_25) (some s2_25) rfl rfl rfl,iGd r2_19 [.o3,.o2] true (iP2 bSub r2_25 (rk (.int .i64 (.ofNat 1))) s2_26) (some s2_26) rfl rfl rfl,iGd r2_19 [.o3,.o2] true (iP2 (bIxs 1) r2_24 r2_26 s2_27) (some s2_27) rfl rfl rfl,iGd r2_19 [.o3,.o2] true (iR1 bLd r2_27 s2_28) (some s2_28) rfl rfl rfl,iGd r2_19 [.o3,.o2] true (iCall (rk (.func (.func 127) #[] #[])) [r2_23,r2_28] (some s2_29)) (some s2_29) rfl rfl rfl,iGp (l3 pPick) [r2_19,r2_29,(rk (.bool false))] (some s2_30)]
def x121_4 : List (Ins tf2) := [iMv r2_0 s2_33,iMv r2_7 s2_34,iMv r2_0 s2_35,iMv r2_7 s2_36,iP2 bSub r2_36 (rk (.int .i64 (.ofNat 1))) s2_37,iMv r2_0 s2_38,iMv r2_7 s2_39,iP2 bSub r2_39 (rk (.int .i64 (.ofNat 1))) s2_40,iP2 (bIxs 1) r2_38 r2_40 s2_41,iR1 bLd r2_41 s2_42,iMv r2_0 s2_43,iMv r2_7 s2_44,iP2 (bIxs 1) r2_43 r2_44 s2_45,iR1 bLd r2_45 s2_46,iP2 (bIxs 1) r2_33 r2_34 s2_47,iM2 bSt r2_47 r2_42,iP2 (bIxs 1) r2_35 r2_37 s2_48,iM2 bSt r2_48 r2_46]
def x121_5 : List (Ins tf2) := [iMv r2_7 s2_31,iP2 bSub r2_31 (rk (.int .i64 (.ofNat 1))) s2_32,iAs r2_32 s2_7]
def x121_6 : List (Ins tf2) := [iMv r2_6 s2_13,iP2 bAdd r2_13 (rk (.int .i64 (.ofNat 1))) s2_14,iAs r2_14 s2_6]
def x121 : XC tf2 := (.rg x121_0 (.block 0 (.loop (.seq (.rg x121_1 (.cond r2_12 .skip (.exit 0))) (.seq (.block 1 (.rg x121_2 (.block 2 (.loop (.seq (.rg x121_3 (.cond r2_30 .skip (.exit 2))) (.seq (.block 3 (.reg x121_4)) (.reg x121_5))))))) (.reg x121_6))))))
def c121 : Code := Tryz.f121.body.getD .skip
theorem x121_b : Tryz.f121.body = some c121 := by kernel_rfl
theorem x121_c : cG (comp Tryz.prog) 4 2 49 x121 c121 = x121.den := by kernel_rfl
def y121 : List (RR Tryz.prog 2 49 tf2) := []
theorem x121_r : y121.map RR.den = Tryz.f121.results.toList := by kernel_rfl
theorem x121_k : okFn Tryz.f121 = true := by kernel_rfl
theorem x121_D : 2 = dep Tryz.f121.ntmps := by kernel_rfl
theorem x121_s : ([s2_0,s2_1,s2_2] : List (Slot tf2)).map Slot.p = (List.range' 0 3).map (pth 2) := by kernel_rfl
def X121 : XFn Tryz.prog 4 (comp Tryz.prog) := ⟨X2,tf2,121,Tryz.f121,c121,2,49,[s2_0,s2_1,s2_2],z2,x121,y121,x121_D,Tryz.ntmps121.symm,Tryz.func121,x121_b,x121_k,x121_s,by decide,z2_ok,x121_c,x121_r⟩
end
end Cr
end Go.Proofs.YtjhbabgcoemecaaGreatDoor
