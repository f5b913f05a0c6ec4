/- A machine for closed runs: compiled functions (written by gen). -/
import Derived.Test.YtjhbabgcoemecaaGreatDoorFxA
import Derived.KernelRfl
namespace Go.Proofs.YtjhbabgcoemecaaGreatDoor
namespace Cr
open Go Go.RowKit
set_option maxRecDepth 100000
noncomputable section
def x226_0 : List (Ins tf2) := [iAs (rk (.int .i64 (.ofNat 0))) s2_6]
def x226_1 : List (Ins tf2) := [iMv r2_0 s2_7,iGp (l2 (pEqD (tdOf 180) false)) [r2_7,(rk (.pointer none))] (some s2_8)]
def x226_2 : List (Ins tf2) := [iAs (rk (.int .i64 (.ofNat 1))) s2_6]
def x226_3 : List (Ins tf2) := [iMv r2_1 s2_9,iP2 bLt r2_9 (rk (.int .i64 (.ofNat 0))) s2_10,iMv r2_10 s2_11,iGd r2_11 [.o3,.o1] false (iMv r2_1 s2_12) (some s2_12) rfl rfl rfl,iGd r2_11 [.o3,.o1] false (iMv r2_0 s2_13) (some s2_13) rfl rfl rfl,iGd r2_11 [.o3,.o1] false (iP1 bNil r2_13 s2_14) (some s2_14) rfl rfl rfl,iGd r2_11 [.o3,.o1] false (iP1 (bFa 1) r2_14 s2_15) (some s2_15) rfl rfl rfl,iGd r2_11 [.o3,.o1] false (iR1 bLd r2_15 s2_16) (some s2_16) rfl rfl rfl,iGd r2_11 [.o3,.o1] false (iP1 bLen r2_16 s2_17) (some s2_17) rfl rfl rfl,iGd r2_11 [.o3,.o1] false (iP2 bGe r2_12 r2_17 s2_18) (some s2_18) rfl rfl rfl,iGp (l3 pPick) [r2_11,(rk (.bool true)),r2_18] (some s2_19),iMv r2_19 s2_20,iGd r2_20 [.o4,.o2] false (iMv r2_0 s2_21) (some s2_21) rfl rfl rfl,iGd r2_20 [.o4,.o2] false (iMv r2_2 s2_22) (some s2_22) rfl rfl rfl,iGd r2_20 [.o4,.o2] false (iCall (rk (.func (.func 206) #[] #[])) [r2_21,r2_22] (some s2_23)) (some s2_23) rfl rfl rfl,iGd r2_20 [.o4,.o2] false (iGp (l1 (pUn .not)) [r2_23] (some s2_24)) (some s2_24) rfl rfl rfl,iGp (l3 pPick) [r2_20,(rk (.bool true)),r2_24] (some s2_25)]
def x226_4 : List (Ins tf2) := [iAs (rk (.int .i64 (.ofNat 3))) s2_6]
def x226_5 : List (Ins tf2) := [iMv r2_0 s2_26,iP1 bNil r2_26 s2_27,iP1 (bFa 1) r2_27 s2_28,iR1 bLd r2_28 s2_29,iMv r2_1 s2_30,iMv r2_2 s2_31,iP2 (bIxs 1) r2_29 r2_30 s2_32,iM2 bSt r2_32 r2_31]
def x226_6 : List (Ins tf2) := [iAs (rk (.int .i64 (.ofNat 0))) s2_6]
def x226 : XC tf2 := (.rg x226_0 (.seq (.rg x226_1 (.cond r2_8 (.rg x226_2 .ret) .skip)) (.seq (.rg x226_3 (.cond r2_25 (.rg x226_4 .ret) .skip)) (.rg x226_5 (.rg x226_6 .ret)))))
def c226 : Code := Tryz.f226.body.getD .skip
theorem x226_b : Tryz.f226.body = some c226 := by kernel_rfl
theorem x226_c : cG (comp Tryz.prog) 4 2 33 x226 c226 = x226.den := by kernel_rfl
def y226 : List (RR Tryz.prog 2 33 tf2) := [rrT r2_6 6 rfl rfl]
theorem x226_r : y226.map RR.den = Tryz.f226.results.toList := by kernel_rfl
theorem x226_k : okFn Tryz.f226 = true := by kernel_rfl
theorem x226_D : 2 = dep Tryz.f226.ntmps := by kernel_rfl
theorem x226_s : ([s2_0,s2_1,s2_2] : List (Slot tf2)).map Slot.p = (List.range' 0 3).map (pth 2) := by kernel_rfl
def X226 : XFn Tryz.prog 4 (comp Tryz.prog) := ⟨X2,tf2,226,Tryz.f226,c226,2,33,[s2_0,s2_1,s2_2],z2,x226,y226,x226_D,Tryz.ntmps226.symm,Tryz.func226,x226_b,x226_k,x226_s,by decide,z2_ok,x226_c,x226_r⟩
def x229_0 : List (Ins tf2) := [iAs (rk (.int .i64 (.ofNat 0))) s2_6,iAs (rk (.int .i64 (.ofNat 0))) s2_7]
def x229_1 : List (Ins tf2) := [iMv r2_0 s2_8,iP2 bLt r2_8 (rk (.int .i64 (.ofNat 1))) s2_9,iMv r2_9 s2_10,iGd r2_10 [.o2,.o1] false (iMv r2_0 s2_11) (some s2_11) rfl rfl rfl,iGd r2_10 [.o2,.o1] false (iP2 bGt r2_11 (rk (.int .i64 (.ofNat 32))) s2_12) (some s2_12) rfl rfl rfl,iGp (l3 pPick) [r2_10,(rk (.bool true)),r2_12] (some s2_13),iMv r2_13 s2_14,iGd r2_14 [.o6,.o1] false (iMv r2_1 s2_15) (some s2_15) rfl rfl rfl,iGd r2_14 [.o6,.o1] false (iP2 bLt r2_15 (rk (.int .i64 (.ofNat 0))) s2_16) (some s2_16) rfl rfl rfl,iGp (l3 pPick) [r2_14,(rk (.bool true)),r2_16] (some s2_17),iMv r2_17 s2_18,iGd r2_18 [.o2,.o2] false (iMv r2_1 s2_19) (some s2_19) rfl rfl rfl,iGd r2_18 [.o2,.o2] false (iMv r2_0 s2_20) (some s2_20) rfl rfl rfl,iGd r2_18 [.o2,.o2] false (iP2 bGe r2_19 r2_20 s2_21) (some s2_21) rfl rfl rfl,iGp (l3 pPick) [r2_18,(rk (.bool true)),r2_21] (some s2_22),iMv r2_22 s2_23,iGd r2_23 [.o7,.o2] false (iMv r2_2 s2_24) (some s2_24) rfl rfl rfl,iGd r2_23 [.o7,.o2] false (iP2 bLt r2_24 (rk (.int .i64 (.ofNat 0))) s2_25) (some s2_25) rfl rfl rfl,iGp (l3 pPick) [r2_23,(rk (.bool true)),r2_25] (some s2_26),iMv r2_26 s2_27,iGd r2_27 [.o3,.o3] false (iMv r2_2 s2_28) (some s2_28) rfl rfl rfl,iGd r2_27 [.o3,.o3] false (iP2 bGe r2_28 (rk (.int .i64 (.ofNat 65536))) s2_29) (some s2_29) rfl rfl rfl,iGp (l3 pPick) [r2_27,(rk (.bool true)),r2_29] (some s2_30)]
def x229_2 : List (Ins tf2) := [iAs (rk (.int .i64 (.ofNat 0))) s2_6,iAs (rk (.int .i64 (.ofNat 3))) s2_7]
def x229_3 : List (Ins tf2) := [iMv r2_2 s2_31,iMv r2_0 s2_32,iGp (l2 (pBin .mul)) [r2_31,r2_32] (some s2_33),iMv r2_1 s2_34,iP2 bAdd r2_33 r2_34 s2_35,iGp (l2 (pBin .mul)) [(rk (.int .i64 (.ofNat 2))),r2_35] (some s2_36),iAs r2_36 s2_6,iAs (rk (.int .i64 (.ofNat 0))) s2_7]
def x229 : XC tf2 := (.rg x229_0 (.seq (.rg x229_1 (.cond r2_30 (.rg x229_2 .ret) .skip)) (.rg x229_3 .ret)))
def c229 : Code := Tryz.f229.body.getD .skip
theorem x229_b : Tryz.f229.body = some c229 := by kernel_rfl
theorem x229_c : cG (comp Tryz.prog) 4 2 37 x229 c229 = x229.den := by kernel_rfl
def y229 : List (RR Tryz.prog 2 37 tf2) := [rrT r2_6 6 rfl rfl,rrT r2_7 7 rfl rfl]
theorem x229_r : y229.map RR.den = Tryz.f229.results.toList := by kernel_rfl
theorem x229_k : okFn Tryz.f229 = true := by kernel_rfl
theorem x229_D : 2 = dep Tryz.f229.ntmps := by kernel_rfl
theorem x229_s : ([s2_0,s2_1,s2_2] : List (Slot tf2)).map Slot.p = (List.range' 0 3).map (pth 2) := by kernel_rfl
def X229 : XFn Tryz.prog 4 (comp Tryz.prog) := ⟨X2,tf2,229,Tryz.f229,c229,2,37,[s2_0,s2_1,s2_2],z2,x229,y229,x229_D,Tryz.ntmps229.symm,Tryz.func229,x229_b,x229_k,x229_s,by decide,z2_ok,x229_c,x229_r⟩
def x230_0 : List (Ins tf3) := [iGa (a1 gBox) [r3_0] (some s3_5),iGa (a1 gBox) [r3_1] (some s3_6)]
def x230_1 : List (Ins tf3) := [iR1 bLd r3_5 s3_17,iP1 bNil r3_17 s3_18,iP1 (bFa 0) r3_18 s3_19,iR1 bLd r3_19 s3_20,iCall (rk (.func (.func 52) #[] #[])) [r3_20,(rk (.int .u64 (.ofNat 0)))] (some s3_21),iMv r3_21 s3_16,iGp (l1 (pExt 0)) [r3_16] (some s3_22),iGp (l1 (pExt 1)) [r3_16] (some s3_23),iAs r3_22 s3_10,iAs r3_23 s3_11]
def x230_2 : List (Ins tf3) := [iR1 bLd r3_5 s3_24,iMv r3_11 s3_25,iCall (rk (.func (.func 88) #[] #[])) [r3_24,r3_25] (some s3_26)]
def x230_3 : List (Ins tf3) := [iR1 bLd r3_5 s3_28,iP1 bNil r3_28 s3_29,iP1 (bFa 0) r3_29 s3_30,iR1 bLd r3_30 s3_31,iMv r3_2 s3_32,iMv r3_10 s3_33,iGa (aBsl 2 1 [(.int .i64 (.ofNat 0))] [(0,1),(1,1)]) [r3_32,r3_33] (some s3_34),iCall (rk (.func (.func 66) #[] #[])) [r3_31,(rk (.int .u8 (.ofNat 15))),r3_34] (some s3_35),iMv r3_35 s3_27,iGp (l1 (pExt 0)) [r3_27] (some s3_36),iGp (l1 (pExt 1)) [r3_27] (some s3_37),iAs r3_36 s3_12,iAs r3_37 s3_11]
def x230_4 : List (Ins tf3) := [iR1 bLd r3_5 s3_38,iMv r3_11 s3_39,iCall (rk (.func (.func 88) #[] #[])) [r3_38,r3_39] (some s3_40)]
def x230_5 : List (Ins tf3) := [iR1 bLd r3_5 s3_41,iGr (r1 (rLdn 9)) [r3_6] (some s3_42),iMv r3_2 s3_43,iCall (rk (.func (.func 239) #[] #[])) [r3_41,r3_42,r3_43] (some s3_44),iAs r3_44 s3_13]
def x230_6 : List (Ins tf3) := [iR1 bLd r3_5 s3_45,iP1 bNil r3_45 s3_46,iP1 (bFa 9) r3_46 s3_47,iR1 bLd r3_47 s3_48,iP2 bNe r3_48 (rk (.int .u8 (.ofNat 0))) s3_49]
def x230_7 : List (Ins tf3) := [iMv r3_13 s3_50,iGp (l1 (pUn .not)) [r3_50] (some s3_51),iAs r3_51 s3_14]
def x230_8 : List (Ins tf3) := [iMv r3_13 s3_52]
def x230_9 : List (Ins tf3) := [iR1 bLd r3_5 s3_53,iGr (r1 (rLdn 9)) [r3_6] (some s3_54),iMv r3_12 s3_55,iCall (rk (.func (.func 239) #[] #[])) [r3_53,r3_54,r3_55] (some s3_56),iAs r3_56 s3_14]
def x230_10 : List (Ins tf3) := [iR1 bLd r3_5 s3_57,iP1 bNil r3_57 s3_58,iP1 (bFa 9) r3_58 s3_59,iR1 bLd r3_59 s3_60,iP2 bNe r3_60 (rk (.int .u8 (.ofNat 0))) s3_61]
def x230_11 : List (Ins tf3) := [iGp (pMkf (.func 240) 0) [r3_6,r3_5] (some s3_62),iAs r3_62 s3_15]
def x230_12 : List (Ins tf3) := [iMv r3_14 s3_63]
def x230_13 : List (Ins tf3) := [iMv r3_15 s3_64,iMv r3_12 s3_65,iMv r3_4 s3_66,iCall r3_64 [r3_65,r3_66] (some s3_67)]
def x230_14 : List (Ins tf3) := [iMv r3_13 s3_68]
def x230_15 : List (Ins tf3) := [iMv r3_15 s3_69,iMv r3_2 s3_70,iMv r3_3 s3_71,iCall r3_69 [r3_70,r3_71] (some s3_72)]
def x230_16 : XC tf3 := (.rg x230_1 (.seq (.rg x230_2 (.cond r3_26 .ret .skip)) (.rg x230_3 (.seq (.rg x230_4 (.cond r3_40 .ret .skip)) (.rg x230_5 (.seq (.rg x230_6 (.cond r3_49 .ret .skip)) (.rg x230_7 (.seq (.rg x230_8 (.cond r3_52 (.reg x230_9) .skip)) (.seq (.rg x230_10 (.cond r3_61 .ret .skip)) (.rg x230_11 (.seq (.rg x230_12 (.cond r3_63 (.reg x230_13) .skip)) (.rg x230_14 (.cond r3_68 (.reg x230_15) .skip)))))))))))))
def x230 : XC tf3 := (.rg x230_0 x230_16)
def c230 : Code := Tryz.f230.body.getD .skip
theorem x230_b : Tryz.f230.body = some c230 := by kernel_rfl
theorem x230_c : cG (comp Tryz.prog) 4 3 73 x230 c230 = x230.den := by kernel_rfl
def y230 : List (RR Tryz.prog 3 73 tf3) := []
theorem x230_r : y230.map RR.den = Tryz.f230.results.toList := by kernel_rfl
theorem x230_k : okFn Tryz.f230 = true := by kernel_rfl
theorem x230_D : 3 = dep Tryz.f230.ntmps := by kernel_rfl
theorem x230_s : ([s3_0,s3_1,s3_2,s3_3,s3_4] : List (Slot tf3)).map Slot.p = (List.range' 0 5).map (pth 3) := by kernel_rfl
def X230 : XFn Tryz.prog 4 (comp Tryz.prog) := ⟨X3,tf3,230,Tryz.f230,c230,3,73,[s3_0,s3_1,s3_2,s3_3,s3_4],z3,x230,y230,x230_D,Tryz.ntmps230.symm,Tryz.func230,x230_b,x230_k,x230_s,by decide,z3_ok,x230_c,x230_r⟩
def x231_0 : List (Ins tf2) := [iMv r2_0 s2_2,iMv r2_0 s2_3,iP1 bNil r2_3 s2_4,iP1 (bFa 2) r2_4 s2_5,iP1 (bFa 5) r2_5 s2_6,iR1 bLd r2_6 s2_7,iGa (aBsl 1 1 [(.bool false)] [(0,1)]) [(rk (.bool false))] (some s2_8),iGm (m2 (sApp 1)) [r2_7,r2_8] (some s2_9),iP1 bNil r2_2 s2_10,iP1 (bFa 2) r2_10 s2_11,iP1 (bFa 5) r2_11 s2_12,iM2 bSt r2_12 r2_9]
def x231_1 : List (Ins tf2) := [iMv r2_0 s2_13,iP1 bNil r2_13 s2_14,iP1 (bFa 1) r2_14 s2_15,iR1 bLd r2_15 s2_16,iP2 bAdd r2_16 (rk (.int .i64 (.ofNat 1))) s2_17,iP1 bNil r2_13 s2_18,iP1 (bFa 1) r2_18 s2_19,iM2 bSt r2_19 r2_17]
def x231 : XC tf2 := (.rg x231_0 (.reg x231_1))
def c231 : Code := Tryz.f231.body.getD .skip
theorem x231_b : Tryz.f231.body = some c231 := by kernel_rfl
theorem x231_c : cG (comp Tryz.prog) 4 2 20 x231 c231 = x231.den := by kernel_rfl
def y231 : List (RR Tryz.prog 2 20 tf2) := []
theorem x231_r : y231.map RR.den = Tryz.f231.results.toList := by kernel_rfl
theorem x231_k : okFn Tryz.f231 = true := by kernel_rfl
theorem x231_D : 2 = dep Tryz.f231.ntmps := by kernel_rfl
theorem x231_s : ([s2_0] : List (Slot tf2)).map Slot.p = (List.range' 0 1).map (pth 2) := by kernel_rfl
def X231 : XFn Tryz.prog 4 (comp Tryz.prog) := ⟨X2,tf2,231,Tryz.f231,c231,2,20,[s2_0],z2,x231,y231,x231_D,Tryz.ntmps231.symm,Tryz.func231,x231_b,x231_k,x231_s,by decide,z2_ok,x231_c,x231_r⟩
def x232_0 : List (Ins tf2) := [iMv r2_0 s2_3,iMv r2_0 s2_4,iP1 bNil r2_4 s2_5,iP1 (bFa 2) r2_5 s2_6,iP1 (bFa 5) r2_6 s2_7,iR1 bLd r2_7 s2_8,iGa (aBsl 1 1 [(.bool false)] [(0,1)]) [(rk (.bool true))] (some s2_9),iGm (m2 (sApp 1)) [r2_8,r2_9] (some s2_10),iP1 bNil r2_3 s2_11,iP1 (bFa 2) r2_11 s2_12,iP1 (bFa 5) r2_12 s2_13,iM2 bSt r2_13 r2_10]
def x232_1 : List (Ins tf2) := [iMv r2_0 s2_14,iP1 (bFa 3) r2_1 s2_15,iR1 bLd r2_15 s2_16,iP1 bNil r2_14 s2_17,iP1 (bFa 1) r2_17 s2_18,iM2 bSt r2_18 r2_16]
def x232 : XC tf2 := (.rg x232_0 (.reg x232_1))
def c232 : Code := Tryz.f232.body.getD .skip
theorem x232_b : Tryz.f232.body = some c232 := by kernel_rfl
theorem x232_c : cG (comp Tryz.prog) 4 2 19 x232 c232 = x232.den := by kernel_rfl
def y232 : List (RR Tryz.prog 2 19 tf2) := []
theorem x232_r : y232.map RR.den = Tryz.f232.results.toList := by kernel_rfl
theorem x232_k : okFn Tryz.f232 = true := by kernel_rfl
theorem x232_D : 2 = dep Tryz.f232.ntmps := by kernel_rfl
theorem x232_s : ([s2_0,s2_1] : List (Slot tf2)).map Slot.p = (List.range' 0 2).map (pth 2) := by kernel_rfl
def X232 : XFn Tryz.prog 4 (comp Tryz.prog) := ⟨X2,tf2,232,Tryz.f232,c232,2,19,[s2_0,s2_1],z2,x232,y232,x232_D,Tryz.ntmps232.symm,Tryz.func232,x232_b,x232_k,x232_s,by decide,z2_ok,x232_c,x232_r⟩
def x239_0 : List (Ins tf2) := [iGa (a1 gBox) [r2_1] (some s2_4),iAs (rk (.bool false)) s2_6]
def x239_1 : List (Ins tf2) := [iMv r2_0 s2_13,iP1 bNil r2_13 s2_14,iP1 (bFa 0) r2_14 s2_15,iR1 bLd r2_15 s2_16,iMv r2_2 s2_17,iCall (rk (.func (.func 103) #[] #[])) [r2_16,r2_17] (some s2_18),iMv r2_18 s2_12,iGp (l1 (pExt 0)) [r2_12] (some s2_19),iGp (l1 (pExt 1)) [r2_12] (some s2_20),iAs r2_19 s2_7,iAs r2_20 s2_8]
def x239_2 : List (Ins tf2) := [iMv r2_8 s2_21]
def x239_3 : List (Ins tf2) := [iMv r2_7 s2_22,iP2 bNe r2_22 (rk (.int .u64 (.ofNat 0))) s2_23,iAs r2_23 s2_6]
def x239_4 : List (Ins tf2) := [iMv r2_0 s2_25,iP1 bNil r2_25 s2_26,iP1 (bFa 0) r2_26 s2_27,iR1 bLd r2_27 s2_28,iMv r2_0 s2_29,iP1 bNil r2_29 s2_30,iP1 (bFa 7) r2_30 s2_31,iR1 bLd r2_31 s2_32,iP1 (bFa 2) r2_4 s2_33,iP1 (bFa 0) r2_33 s2_34,iR1 bLd r2_34 s2_35,iMv r2_2 s2_37,iGa (aBsl 1 1 [(.int .i64 (.ofNat 0))] [(0,1)]) [r2_37] (some s2_38),iRc (iGm (m2 (sApp 1)) [(rk (.slice none 0 0)),r2_35] (some s2_36)) [(rcLd r2_31 r2_32 [.o0,.o4] rfl),(rcLd r2_27 r2_28 [.o4,.o3] rfl)] rfl,iRc (iGm (m2 (sApp 1)) [r2_36,r2_38] (some s2_39)) [(rcLd r2_31 r2_32 [.o0,.o4] rfl),(rcLd r2_27 r2_28 [.o4,.o3] rfl)] rfl,iCall (rk (.func (.func 243) #[] #[])) [r2_28,r2_32,r2_39] (some s2_40),iMv r2_40 s2_24,iGp (l1 (pExt 0)) [r2_24] (some s2_41),iGp (l1 (pExt 1)) [r2_24] (some s2_42),iGp (l1 (pExt 2)) [r2_24] (some s2_43),iAs r2_41 s2_9,iAs r2_42 s2_10,iAs r2_43 s2_11]
def x239_5 : List (Ins tf2) := [iMv r2_0 s2_44,iMv r2_11 s2_45,iCall (rk (.func (.func 88) #[] #[])) [r2_44,r2_45] (some s2_46),iGp (l1 (pUn .not)) [r2_46] (some s2_47),iMv r2_47 s2_48,iGd r2_48 [.o0,.o6] true (iMv r2_9 s2_49) (some s2_49) rfl rfl rfl,iGd r2_48 [.o0,.o6] true (iP2 bEq r2_49 (rk (.int .u8 (.ofNat 0))) s2_50) (some s2_50) rfl rfl rfl,iGp (l3 pPick) [r2_48,r2_50,(rk (.bool false))] (some s2_51)]
def x239_6 : List (Ins tf2) := [iMv r2_0 s2_52,iP1 bNil r2_52 s2_53,iP1 (bFa 9) r2_53 s2_54,iM2 bSt r2_54 (rk (.int .u8 (.ofNat 3)))]
def x239_7 : List (Ins tf2) := [iMv r2_9 s2_55,iP2 bEq r2_55 (rk (.int .u8 (.ofNat 1))) s2_56,iAs r2_56 s2_6]
def x239 : XC tf2 := (.rg x239_0 (.seq (.rg x239_1 (.rg x239_2 (.cond r2_21 (.rg x239_3 .ret) .skip))) (.rg x239_4 (.seq (.rg x239_5 (.cond r2_51 (.reg x239_6) .skip)) (.rg x239_7 .ret)))))
def c239 : Code := Tryz.f239.body.getD .skip
theorem x239_b : Tryz.f239.body = some c239 := by kernel_rfl
theorem x239_c : cG (comp Tryz.prog) 4 2 57 x239 c239 = x239.den := by kernel_rfl
def y239 : List (RR Tryz.prog 2 57 tf2) := [rrT r2_6 6 rfl rfl]
theorem x239_r : y239.map RR.den = Tryz.f239.results.toList := by kernel_rfl
theorem x239_k : okFn Tryz.f239 = true := by kernel_rfl
theorem x239_D : 2 = dep Tryz.f239.ntmps := by kernel_rfl
theorem x239_s : ([s2_0,s2_1,s2_2] : List (Slot tf2)).map Slot.p = (List.range' 0 3).map (pth 2) := by kernel_rfl
def X239 : XFn Tryz.prog 4 (comp Tryz.prog) := ⟨X2,tf2,239,Tryz.f239,c239,2,57,[s2_0,s2_1,s2_2],z2,x239,y239,x239_D,Tryz.ntmps239.symm,Tryz.func239,x239_b,x239_k,x239_s,by decide,z2_ok,x239_c,x239_r⟩
def x240_0 : List (Ins tf2) := [iGr (r1 (rLdn 9)) [r2_2] (some s2_9),iCall (rk (.func (.func 207) #[] #[])) [r2_9] (some s2_10),iGa (aAl 9 [(.pointer none),(.int .i64 (.ofNat 0)),(.slice none 0 0),(.int .u8 (.ofNat 0)),(.int .i64 (.ofNat 0)),(.slice none 0 0),(.slice none 0 0),(.slice none 0 0),(.slice none 0 0)]) [] (some s2_6),iGm (m2 (sStn 9)) [r2_6,r2_10] none]
def x240_1 : List (Ins tf2) := [iR1 bLd r2_3 s2_12,iP1 bNil r2_12 s2_13,iP1 (bFa 0) r2_13 s2_14,iR1 bLd r2_14 s2_15,iMv r2_0 s2_16,iCall (rk (.func (.func 103) #[] #[])) [r2_15,r2_16] (some s2_17),iMv r2_17 s2_11,iGp (l1 (pExt 0)) [r2_11] (some s2_18),iGp (l1 (pExt 1)) [r2_11] (some s2_19),iAs r2_18 s2_7,iAs r2_19 s2_8]
def x240_2 : List (Ins tf2) := [iMv r2_8 s2_20,iGp (l1 (pUn .not)) [r2_20] (some s2_21)]
def x240_3 : List (Ins tf2) := [iP1 (bFa 2) r2_6 s2_22,iP1 (bFa 0) r2_22 s2_23,iR1 bLd r2_23 s2_24,iMv r2_0 s2_25,iGa (aBsl 1 1 [(.int .i64 (.ofNat 0))] [(0,1)]) [r2_25] (some s2_26),iGm (m2 (sApp 1)) [r2_24,r2_26] (some s2_27),iP1 (bFa 2) r2_6 s2_28,iP1 (bFa 0) r2_28 s2_29,iM2 bSt r2_29 r2_27]
def x240_4 : List (Ins tf2) := [iMv r2_1 s2_30,iCall r2_30 [r2_6] (some s2_31)]
def x240_5 : List (Ins tf2) := [iR1 bLd r2_3 s2_32,iR1 bLd r2_3 s2_33,iP1 bNil r2_33 s2_34,iP1 (bFa 8) r2_34 s2_35,iR1 bLd r2_35 s2_36,iGr (r1 (rLdn 9)) [r2_6] (some s2_37),iGa (aBsl 1 9 [(.pointer none),(.int .i64 (.ofNat 0)),(.slice none 0 0),(.int .u8 (.ofNat 0)),(.int .i64 (.ofNat 0)),(.slice none 0 0),(.slice none 0 0),(.slice none 0 0),(.slice none 0 0)] [(0,9)]) [r2_37] (some s2_38),iRc (iGm (m2 (sApp 9)) [r2_36,r2_38] (some s2_39)) [(rcLd r2_3 r2_32 [.o0,.o4] rfl)] rfl,iP1 bNil r2_32 s2_40,iP1 (bFa 8) r2_40 s2_41,iM2 bSt r2_41 r2_39]
def x240 : XC tf2 := (.rg x240_0 (.seq (.rg x240_1 (.rg x240_2 (.cond r2_21 (.reg x240_3) .skip))) (.rg x240_4 (.reg x240_5))))
def c240 : Code := Tryz.f240.body.getD .skip
theorem x240_b : Tryz.f240.body = some c240 := by kernel_rfl
theorem x240_c : cG (comp Tryz.prog) 4 2 42 x240 c240 = x240.den := by kernel_rfl
def y240 : List (RR Tryz.prog 2 42 tf2) := []
theorem x240_r : y240.map RR.den = Tryz.f240.results.toList := by kernel_rfl
theorem x240_k : okFn Tryz.f240 = true := by kernel_rfl
theorem x240_D : 2 = dep Tryz.f240.ntmps := by kernel_rfl
theorem x240_s : ([s2_0,s2_1,s2_2,s2_3] : List (Slot tf2)).map Slot.p = (List.range' 0 4).map (pth 2) := by kernel_rfl
def X240 : XFn Tryz.prog 4 (comp Tryz.prog) := ⟨X2,tf2,240,Tryz.f240,c240,2,42,[s2_0,s2_1,s2_2,s2_3],z2,x240,y240,x240_D,Tryz.ntmps240.symm,Tryz.func240,x240_b,x240_k,x240_s,by decide,z2_ok,x240_c,x240_r⟩
def x241_0 : List (Ins tf2) := [iAs (rk (.pointer none)) s2_2]
def x241_1 : List (Ins tf2) := [iMv r2_0 s2_7,iGp (l2 (pEqD (tdOf 180) false)) [r2_7,(rk (.pointer none))] (some s2_8)]
def x241_2 : List (Ins tf2) := [iAs (rk (.pointer none)) s2_2]
def x241_3 : List (Ins tf2) := [iMv r2_0 s2_9,iP1 bNil r2_9 s2_10,iP1 (bFa 0) r2_10 s2_11,iR1 bLd r2_11 s2_12,iMv r2_0 s2_13,iP1 bNil r2_13 s2_14,iP1 (bFa 1) r2_14 s2_15,iR1 bLd r2_15 s2_16,iP1 bLen r2_16 s2_17,iGa (a2 (gMks 1 8 [(.int .i64 (.ofNat 0))])) [r2_17,r2_17] (some s2_18),iGp (pBld [(.pointer none),(.slice none 0 0),(.slice none 0 0)] [(0,1),(1,1)]) [r2_12,r2_18] (some s2_19),iGa (a1 gBox) [r2_19] (some s2_20),iAs r2_20 s2_3]
def x241_4 : List (Ins tf2) := [iMv r2_3 s2_21,iP1 bNil r2_21 s2_22,iP1 (bFa 1) r2_22 s2_23,iR1 bLd r2_23 s2_24,iMv r2_0 s2_25,iP1 bNil r2_25 s2_26,iP1 (bFa 1) r2_26 s2_27,iR1 bLd r2_27 s2_28,iGm (m2 (sCopy 1)) [r2_24,r2_28] (some s2_29)]
def x241_5 : List (Ins tf2) := [iMv r2_0 s2_30,iP1 bNil r2_30 s2_31,iP1 (bFa 2) r2_31 s2_32,iR1 bLd r2_32 s2_33,iP1 bLen r2_33 s2_34,iMv (rk (.int .i64 (.ofNat 0))) s2_35]
def x241_6 : List (Ins tf2) := [iP2 bLt r2_35 r2_34 s2_36]
def x241_7 : List (Ins tf2) := [iP2 (bIxs 1) r2_33 r2_35 s2_37,iR1 bLd r2_37 s2_38,iAs r2_38 s2_5]
def x241_8 : List (Ins tf2) := [iMv r2_5 s2_39,iP1 bLen r2_39 s2_40,iGa (a2 (gMks 1 8 [(.int .i64 (.ofNat 0))])) [r2_40,r2_40] (some s2_41),iAs r2_41 s2_6]
def x241_9 : List (Ins tf2) := [iMv r2_6 s2_42,iMv r2_5 s2_43,iGm (m2 (sCopy 1)) [r2_42,r2_43] (some s2_44)]
def x241_10 : List (Ins tf2) := [iMv r2_3 s2_45,iMv r2_3 s2_46,iP1 bNil r2_46 s2_47,iP1 (bFa 2) r2_47 s2_48,iR1 bLd r2_48 s2_49,iMv r2_6 s2_50,iGa (aBsl 1 1 [(.slice none 0 0)] [(0,1)]) [r2_50] (some s2_51),iGm (m2 (sApp 1)) [r2_49,r2_51] (some s2_52),iP1 bNil r2_45 s2_53,iP1 (bFa 2) r2_53 s2_54,iM2 bSt r2_54 r2_52]
def x241_11 : List (Ins tf2) := [iP2 bAdd r2_35 (rk (.int .i64 (.ofNat 1))) s2_55,iMv r2_55 s2_35]
def x241_12 : List (Ins tf2) := [iMv r2_3 s2_56,iAs r2_56 s2_2]
def x241 : XC tf2 := (.rg x241_0 (.seq (.rg x241_1 (.cond r2_8 (.rg x241_2 .ret) .skip)) (.rg x241_3 (.rg x241_4 (.seq (.rg x241_5 (.block 0 (.loop (.rg x241_6 (.seq (.cond r2_36 .skip (.exit 0)) (.seq (.block 1 (.rg x241_7 (.rg x241_8 (.rg x241_9 (.reg x241_10))))) (.reg x241_11))))))) (.rg x241_12 .ret))))))
def c241 : Code := Tryz.f241.body.getD .skip
theorem x241_b : Tryz.f241.body = some c241 := by kernel_rfl
theorem x241_c : cG (comp Tryz.prog) 4 2 57 x241 c241 = x241.den := by kernel_rfl
def y241 : List (RR Tryz.prog 2 57 tf2) := [rrT r2_2 2 rfl rfl]
theorem x241_r : y241.map RR.den = Tryz.f241.results.toList := by kernel_rfl
theorem x241_k : okFn Tryz.f241 = true := by kernel_rfl
theorem x241_D : 2 = dep Tryz.f241.ntmps := by kernel_rfl
theorem x241_s : ([s2_0] : List (Slot tf2)).map Slot.p = (List.range' 0 1).map (pth 2) := by kernel_rfl
def X241 : XFn Tryz.prog 4 (comp Tryz.prog) := ⟨X2,tf2,241,Tryz.f241,c241,2,57,[s2_0],z2,x241,y241,x241_D,Tryz.ntmps241.symm,Tryz.func241,x241_b,x241_k,x241_s,by decide,z2_ok,x241_c,x241_r⟩
def x243_0 : List (Ins tf3) := [iAs (rk (.int .u8 (.ofNat 0))) s3_6,iAs (rk (.slice none 0 0)) s3_7,iAs (rk (.int .i64 (.ofNat 0))) s3_8]
def x243_1 : List (Ins tf3) := [iMv r3_0 s3_21,iGp (l2 (pEqD (tdOf 34) false)) [r3_21,(rk (.pointer none))] (some s3_22)]
def x243_2 : List (Ins tf3) := [iAs (rk (.int .u8 (.ofNat 0))) s3_6,iAs (rk (.slice none 0 0)) s3_7,iAs (rk (.int .i64 (.ofNat 1))) s3_8]
def x243_3 : List (Ins tf3) := [iMv r3_0 s3_24,iMv r3_2 s3_25,iCall (rk (.func (.func 24) #[] #[])) [r3_24,r3_25] (some s3_26),iMv r3_26 s3_23,iGp (l1 (pExt 0)) [r3_23] (some s3_27),iGp (l1 (pExt 1)) [r3_23] (some s3_28),iAs r3_27 s3_9,iAs r3_28 s3_10]
def x243_4 : List (Ins tf3) := [iMv r3_1 s3_29,iP2 bLt r3_29 (rk (.int .i64 (.ofNat 0))) s3_30,iMv r3_30 s3_31,iGd r3_31 [.o7,.o3,.o0] false (iMv r3_1 s3_32) (some s3_32) rfl rfl rfl,iGd r3_31 [.o7,.o3,.o0] false (iP2 bGt r3_32 (rk (.int .i64 (.ofNat 1099511627776))) s3_33) (some s3_33) rfl rfl rfl,iGp (l3 pPick) [r3_31,(rk (.bool true)),r3_33] (some s3_34),iMv r3_34 s3_35,iGd r3_35 [.o3,.o4,.o0] false (iMv r3_10 s3_36) (some s3_36) rfl rfl rfl,iGd r3_35 [.o3,.o4,.o0] false (iP2 bNe r3_36 (rk (.int .i64 (.ofNat 0))) s3_37) (some s3_37) rfl rfl rfl,iGp (l3 pPick) [r3_35,(rk (.bool true)),r3_37] (some s3_38)]
def x243_5 : List (Ins tf3) := [iAs (rk (.int .u8 (.ofNat 0))) s3_6,iAs (rk (.slice none 0 0)) s3_7,iAs (rk (.int .i64 (.ofNat 3))) s3_8]
def x243_6 : List (Ins tf3) := [iCall (rk (.func (.func 244) #[] #[])) [] (some s3_39),iAs r3_39 s3_11]
def x243_7 : List (Ins tf3) := [iMv r3_0 s3_41,iMv r3_11 s3_42,iCall (rk (.func (.func 245) #[] #[])) [r3_41,r3_42] (some s3_43),iMv r3_43 s3_40,iGp (l1 (pExt 0)) [r3_40] (some s3_44),iGp (l1 (pExt 1)) [r3_40] (some s3_45),iAs r3_44 s3_12,iAs r3_45 s3_13]
def x243_8 : List (Ins tf3) := [iMv r3_11 s3_46,iMv r3_12 s3_47,iGp (pBld [(.pointer none),(.pointer none),(.int .i64 (.ofNat 0))] [(0,1),(1,1)]) [r3_46,r3_47] (some s3_48),iGa (a1 gBox) [r3_48] (some s3_49),iAs r3_49 s3_14]
def x243_9 : List (Ins tf3) := [iMv r3_2 s3_50,iP1 bLen r3_50 s3_51,iMv (rk (.int .i64 (.ofNat 0))) s3_52]
def x243_10 : List (Ins tf3) := [iP2 bLt r3_52 r3_51 s3_53]
def x243_11 : List (Ins tf3) := [iP2 (bIxs 1) r3_50 r3_52 s3_54,iR1 bLd r3_54 s3_55,iAs r3_55 s3_16]
def x243_12 : List (Ins tf3) := [iMv r3_14 s3_56,iMv r3_16 s3_57,iCall (rk (.func (.func 246) #[] #[])) [r3_56,r3_57] (some s3_58),iAs r3_58 s3_14]
def x243_13 : List (Ins tf3) := [iP2 bAdd r3_52 (rk (.int .i64 (.ofNat 1))) s3_59,iMv r3_59 s3_52]
def x243_14 : List (Ins tf3) := [iMv r3_14 s3_60,iP1 bNil r3_60 s3_61,iP1 (bFa 2) r3_61 s3_62,iR1 bLd r3_62 s3_63,iP2 bNe r3_63 (rk (.int .i64 (.ofNat 0))) s3_64]
def x243_15 : List (Ins tf3) := [iAs (rk (.int .u8 (.ofNat 0))) s3_6,iAs (rk (.slice none 0 0)) s3_7,iAs (rk (.int .i64 (.ofNat 10))) s3_8]
def x243_16 : List (Ins tf3) := [iMv r3_14 s3_66,iP1 bNil r3_66 s3_67,iP1 (bFa 0) r3_67 s3_68,iR1 bLd r3_68 s3_69,iCall (rk (.func (.func 248) #[] #[])) [r3_69] (some s3_70),iMv r3_1 s3_71,iCall (rk (.func (.func 247) #[] #[])) [r3_70,r3_71] (some s3_72),iMv r3_72 s3_65,iGp (l1 (pExt 0)) [r3_65] (some s3_73),iGp (l1 (pExt 1)) [r3_65] (some s3_74),iGa (aAl 3 [(.int .u8 (.ofNat 0)),(.slice none 0 0),(.slice none 0 0)]) [] (some s3_17),iGm (m2 (sStn 3)) [r3_17,r3_73] none,iAs r3_74 s3_10]
def x243_17 : List (Ins tf3) := [iMv r3_10 s3_75,iP2 bNe r3_75 (rk (.int .i64 (.ofNat 0))) s3_76]
def x243_18 : List (Ins tf3) := [iAs (rk (.int .u8 (.ofNat 0))) s3_6,iAs (rk (.slice none 0 0)) s3_7,iAs (rk (.int .i64 (.ofNat 10))) s3_8]
def x243_19 : List (Ins tf3) := [iP1 (bFa 0) r3_17 s3_77,iR1 bLd r3_77 s3_78,iP2 bNe r3_78 (rk (.int .u8 (.ofNat 1))) s3_79]
def x243_20 : List (Ins tf3) := [iP1 (bFa 0) r3_17 s3_80,iR1 bLd r3_80 s3_81,iAs r3_81 s3_6,iAs (rk (.slice none 0 0)) s3_7,iAs (rk (.int .i64 (.ofNat 0))) s3_8]
def x243_21 : List (Ins tf3) := [iAs (rk (.int .i64 (.ofNat 0))) s3_18]
def x243_22 : List (Ins tf3) := [iMv r3_9 s3_82,iP1 bLen r3_82 s3_83,iP2 bGt r3_83 (rk (.int .i64 (.ofNat 0))) s3_84]
def x243_23 : List (Ins tf3) := [iMv r3_9 s3_85,iMv r3_9 s3_86,iP1 bLen r3_86 s3_87,iP2 bSub r3_87 (rk (.int .i64 (.ofNat 1))) s3_88,iP2 (bIxs 1) r3_85 r3_88 s3_89,iR1 bLd r3_89 s3_90,iP2 bAdd r3_90 (rk (.int .i64 (.ofNat 1))) s3_91,iAs r3_91 s3_18]
def x243_24 : List (Ins tf3) := [iMv r3_12 s3_93,iMv r3_18 s3_94,iP1 (bFa 1) r3_17 s3_95,iR1 bLd r3_95 s3_96,iCall (rk (.func (.func 249) #[] #[])) [r3_93,r3_94,r3_96] (some s3_97),iMv r3_97 s3_92,iGp (l1 (pExt 0)) [r3_92] (some s3_98),iGp (l1 (pExt 1)) [r3_92] (some s3_99),iAs r3_98 s3_19,iAs r3_99 s3_20]
def x243_25 : List (Ins tf3) := [iMv r3_19 s3_100,iAs (rk (.int .u8 (.ofNat 1))) s3_6,iAs r3_100 s3_7,iAs (rk (.int .i64 (.ofNat 0))) s3_8]
def x243_26 : XC tf3 := (.seq (.rg x243_9 (.block 0 (.loop (.rg x243_10 (.seq (.cond r3_53 .skip (.exit 0)) (.seq (.block 1 (.rg x243_11 (.reg x243_12))) (.reg x243_13))))))) (.seq (.rg x243_14 (.cond r3_64 (.rg x243_15 .ret) .skip)) (.rg x243_16 (.seq (.rg x243_17 (.cond r3_76 (.rg x243_18 .ret) .skip)) (.seq (.rg x243_19 (.cond r3_79 (.rg x243_20 .ret) .skip)) (.rg x243_21 (.seq (.rg x243_22 (.cond r3_84 (.reg x243_23) .skip)) (.rg x243_24 (.rg x243_25 .ret)))))))))
def x243 : XC tf3 := (.rg x243_0 (.seq (.rg x243_1 (.cond r3_22 (.rg x243_2 .ret) .skip)) (.rg x243_3 (.seq (.rg x243_4 (.cond r3_38 (.rg x243_5 .ret) .skip)) (.rg x243_6 (.rg x243_7 (.rg x243_8 x243_26)))))))
def c243 : Code := Tryz.f243.body.getD .skip
theorem x243_b : Tryz.f243.body = some c243 := by kernel_rfl
theorem x243_c : cG (comp Tryz.prog) 4 3 101 x243 c243 = x243.den := by kernel_rfl
def y243 : List (RR Tryz.prog 3 101 tf3) := [rrT r3_6 6 rfl rfl,rrT r3_7 7 rfl rfl,rrT r3_8 8 rfl rfl]
theorem x243_r : y243.map RR.den = Tryz.f243.results.toList := by kernel_rfl
theorem x243_k : okFn Tryz.f243 = true := by kernel_rfl
theorem x243_D : 3 = dep Tryz.f243.ntmps := by kernel_rfl
theorem x243_s : ([s3_0,s3_1,s3_2] : List (Slot tf3)).map Slot.p = (List.range' 0 3).map (pth 3) := by kernel_rfl
def X243 : XFn Tryz.prog 4 (comp Tryz.prog) := ⟨X3,tf3,243,Tryz.f243,c243,3,101,[s3_0,s3_1,s3_2],z3,x243,y243,x243_D,Tryz.ntmps243.symm,Tryz.func243,x243_b,x243_k,x243_s,by decide,z3_ok,x243_c,x243_r⟩
def x244_0 : List (Ins tf1) := [iAs (rk (.pointer none)) s1_0]
def x244_1 : List (Ins tf1) := [iGa (aBsl 1 1 [(.int .i64 (.ofNat 0))] [(0,1)]) [(rk (.int .i64 (.ofNat 1)))] (some s1_1),iGa (aBsl 1 1 [(.slice none 0 0)] [(0,1)]) [r1_1] (some s1_2),iGp (pBld [(.int .i64 (.ofNat 0)),(.slice none 0 0)] [(0,1),(1,1)]) [(rk (.int .i64 (.ofNat 1))),r1_2] (some s1_3),iGp (pBld [(.int .i64 (.ofNat 0)),(.slice none 0 0)] [(0,2)]) [r1_3] (some s1_4),iGa (a1 gBox) [r1_4] (some s1_5),iAs r1_5 s1_0]
def x244 : XC tf1 := (.rg x244_0 (.rg x244_1 .ret))
def c244 : Code := Tryz.f244.body.getD .skip
theorem x244_b : Tryz.f244.body = some c244 := by kernel_rfl
theorem x244_c : cG (comp Tryz.prog) 4 1 6 x244 c244 = x244.den := by kernel_rfl
def y244 : List (RR Tryz.prog 1 6 tf1) := [rrT r1_0 0 rfl rfl]
theorem x244_r : y244.map RR.den = Tryz.f244.results.toList := by kernel_rfl
theorem x244_k : okFn Tryz.f244 = true := by kernel_rfl
theorem x244_D : 1 = dep Tryz.f244.ntmps := by kernel_rfl
theorem x244_s : ([] : List (Slot tf1)).map Slot.p = (List.range' 0 0).map (pth 1) := by kernel_rfl
def X244 : XFn Tryz.prog 4 (comp Tryz.prog) := ⟨X1,tf1,244,Tryz.f244,c244,1,6,[],z1,x244,y244,x244_D,Tryz.ntmps244.symm,Tryz.func244,x244_b,x244_k,x244_s,by decide,z1_ok,x244_c,x244_r⟩
def x245_0 : List (Ins tf2) := [iAs (rk (.pointer none)) s2_4,iAs (rk (.int .i64 (.ofNat 0))) s2_5]
def x245_1 : List (Ins tf2) := [iMv r2_0 s2_6,iGp (l2 (pEqD (tdOf 34) false)) [r2_6,(rk (.pointer none))] (some s2_7),iMv r2_7 s2_8,iGd r2_8 [.o0,.o1] false (iMv r2_1 s2_9) (some s2_9) rfl rfl rfl,iGd r2_8 [.o0,.o1] false (iGp (l2 (pEqD (tdOf 336) false)) [r2_9,(rk (.pointer none))] (some s2_10)) (some s2_10) rfl rfl rfl,iGp (l3 pPick) [r2_8,(rk (.bool true)),r2_10] (some s2_11)]
def x245_2 : List (Ins tf2) := [iAs (rk (.pointer none)) s2_4,iAs (rk (.int .i64 (.ofNat 1))) s2_5]
def x245_3 : List (Ins tf2) := [iMv r2_0 s2_12,iMv r2_1 s2_13,iGa aMm [] (some s2_14),iGa aMm [] (some s2_15),iGp (pBld [(.pointer none),(.pointer none),(.map none),(.map none)] [(0,1),(1,1),(2,1),(3,1)]) [r2_12,r2_13,r2_14,r2_15] (some s2_16),iGa (a1 gBox) [r2_16] (some s2_17),iAs r2_17 s2_4,iAs (rk (.int .i64 (.ofNat 0))) s2_5]
def x245 : XC tf2 := (.rg x245_0 (.seq (.rg x245_1 (.cond r2_11 (.rg x245_2 .ret) .skip)) (.rg x245_3 .ret)))
def c245 : Code := Tryz.f245.body.getD .skip
theorem x245_b : Tryz.f245.body = some c245 := by kernel_rfl
theorem x245_c : cG (comp Tryz.prog) 4 2 18 x245 c245 = x245.den := by kernel_rfl
def y245 : List (RR Tryz.prog 2 18 tf2) := [rrT r2_4 4 rfl rfl,rrT r2_5 5 rfl rfl]
theorem x245_r : y245.map RR.den = Tryz.f245.results.toList := by kernel_rfl
theorem x245_k : okFn Tryz.f245 = true := by kernel_rfl
theorem x245_D : 2 = dep Tryz.f245.ntmps := by kernel_rfl
theorem x245_s : ([s2_0,s2_1] : List (Slot tf2)).map Slot.p = (List.range' 0 2).map (pth 2) := by kernel_rfl
def X245 : XFn Tryz.prog 4 (comp Tryz.prog) := ⟨X2,tf2,245,Tryz.f245,c245,2,18,[s2_0,s2_1],z2,x245,y245,x245_D,Tryz.ntmps245.symm,Tryz.func245,x245_b,x245_k,x245_s,by decide,z2_ok,x245_c,x245_r⟩
def x246_0 : List (Ins tf2) := [iAs (rk (.pointer none)) s2_4]
def x246_1 : List (Ins tf2) := [iMv r2_0 s2_7,iP1 bNil r2_7 s2_8,iP1 (bFa 2) r2_8 s2_9,iR1 bLd r2_9 s2_10,iP2 bNe r2_10 (rk (.int .i64 (.ofNat 0))) s2_11]
def x246_2 : List (Ins tf2) := [iMv r2_0 s2_12,iAs r2_12 s2_4]
def x246_3 : List (Ins tf2) := [iAs (rk (.slice none 0 0)) s2_5]
def x246_4 : List (Ins tf2) := [iMv r2_0 s2_14,iMv r2_0 s2_15,iP1 bNil r2_15 s2_16,iP1 (bFa 1) r2_16 s2_17,iR1 bLd r2_17 s2_18,iMv r2_1 s2_19,iCall (rk (.func (.func 250) #[] #[])) [r2_18,r2_19] (some s2_20),iMv r2_20 s2_13,iGp (l1 (pExt 0)) [r2_13] (some s2_21),iGp (l1 (pExt 1)) [r2_13] (some s2_22),iAs r2_21 s2_5,iP1 bNil r2_14 s2_23,iP1 (bFa 2) r2_23 s2_24,iM2 bSt r2_24 r2_22]
def x246_5 : List (Ins tf2) := [iMv r2_0 s2_25,iP1 bNil r2_25 s2_26,iP1 (bFa 2) r2_26 s2_27,iR1 bLd r2_27 s2_28,iP2 bNe r2_28 (rk (.int .i64 (.ofNat 0))) s2_29]
def x246_6 : List (Ins tf2) := [iMv r2_0 s2_30,iAs r2_30 s2_4]
def x246_7 : List (Ins tf2) := [iAs (rk (.int .i64 (.ofNat 0))) s2_6]
def x246_8 : List (Ins tf2) := [iMv r2_0 s2_32,iMv r2_0 s2_33,iP1 bNil r2_33 s2_34,iP1 (bFa 0) r2_34 s2_35,iR1 bLd r2_35 s2_36,iMv r2_5 s2_37,iCall (rk (.func (.func 251) #[] #[])) [r2_36,r2_37] (some s2_38),iMv r2_38 s2_31,iGp (l1 (pExt 0)) [r2_31] (some s2_39),iGp (l1 (pExt 1)) [r2_31] (some s2_40),iAs r2_39 s2_6,iP1 bNil r2_32 s2_41,iP1 (bFa 2) r2_41 s2_42,iM2 bSt r2_42 r2_40]
def x246_9 : List (Ins tf2) := [iMv r2_0 s2_43,iP1 bNil r2_43 s2_44,iP1 (bFa 2) r2_44 s2_45,iR1 bLd r2_45 s2_46,iP2 bEq r2_46 (rk (.int .i64 (.ofNat 0))) s2_47]
def x246_10 : List (Ins tf2) := [iMv r2_0 s2_48,iMv r2_0 s2_49,iP1 bNil r2_49 s2_50,iP1 (bFa 0) r2_50 s2_51,iR1 bLd r2_51 s2_52,iMv r2_6 s2_53,iGa (aBsl 1 1 [(.int .i64 (.ofNat 0))] [(0,1)]) [r2_53] (some s2_54),iCall (rk (.func (.func 252) #[] #[])) [r2_52,r2_54] (some s2_55),iP1 bNil r2_48 s2_56,iP1 (bFa 2) r2_56 s2_57,iM2 bSt r2_57 r2_55]
def x246_11 : List (Ins tf2) := [iMv r2_0 s2_58,iAs r2_58 s2_4]
def x246 : XC tf2 := (.rg x246_0 (.seq (.rg x246_1 (.cond r2_11 (.rg x246_2 .ret) .skip)) (.rg x246_3 (.rg x246_4 (.seq (.rg x246_5 (.cond r2_29 (.rg x246_6 .ret) .skip)) (.rg x246_7 (.seq (.rg x246_8 (.rg x246_9 (.cond r2_47 (.reg x246_10) .skip))) (.rg x246_11 .ret))))))))
def c246 : Code := Tryz.f246.body.getD .skip
theorem x246_b : Tryz.f246.body = some c246 := by kernel_rfl
theorem x246_c : cG (comp Tryz.prog) 4 2 59 x246 c246 = x246.den := by kernel_rfl
def y246 : List (RR Tryz.prog 2 59 tf2) := [rrT r2_4 4 rfl rfl]
theorem x246_r : y246.map RR.den = Tryz.f246.results.toList := by kernel_rfl
theorem x246_k : okFn Tryz.f246 = true := by kernel_rfl
theorem x246_D : 2 = dep Tryz.f246.ntmps := by kernel_rfl
theorem x246_s : ([s2_0,s2_1] : List (Slot tf2)).map Slot.p = (List.range' 0 2).map (pth 2) := by kernel_rfl
def X246 : XFn Tryz.prog 4 (comp Tryz.prog) := ⟨X2,tf2,246,Tryz.f246,c246,2,59,[s2_0,s2_1],z2,x246,y246,x246_D,Tryz.ntmps246.symm,Tryz.func246,x246_b,x246_k,x246_s,by decide,z2_ok,x246_c,x246_r⟩
def x247_0 : List (Ins tf3) := [iGa (a1 gBox) [r3_0] (some s3_2),iGa (aAl 3 [(.int .u8 (.ofNat 0)),(.slice none 0 0),(.slice none 0 0)]) [] (some s3_4),iAs (rk (.int .i64 (.ofNat 0))) s3_5]
def x247_1 : List (Ins tf3) := [iGr (r1 (rLdn 2)) [r3_2] (some s3_19),iCall (rk (.func (.func 253) #[] #[])) [r3_19] (some s3_20),iAs r3_20 s3_6]
def x247_2 : List (Ins tf3) := [iMv r3_6 s3_21,iP2 bNe r3_21 (rk (.int .i64 (.ofNat 0))) s3_22]
def x247_3 : List (Ins tf3) := [iGp (pBld [(.int .u8 (.ofNat 0)),(.slice none 0 0),(.slice none 0 0)] []) [] (some s3_23),iMv r3_6 s3_24,iGm (m2 (sStn 3)) [r3_4,r3_23] none,iAs r3_24 s3_5]
def x247_4 : List (Ins tf3) := [iMv r3_1 s3_25,iP2 bLt r3_25 (rk (.int .i64 (.ofNat 0))) s3_26,iMv r3_26 s3_27,iGd r3_27 [.o3,.o3,.o0] false (iMv r3_1 s3_28) (some s3_28) rfl rfl rfl,iGd r3_27 [.o3,.o3,.o0] false (iP2 bGt r3_28 (rk (.int .i64 (.ofNat 1099511627776))) s3_29) (some s3_29) rfl rfl rfl,iGp (l3 pPick) [r3_27,(rk (.bool true)),r3_29] (some s3_30)]
def x247_5 : List (Ins tf3) := [iGp (pBld [(.int .u8 (.ofNat 0)),(.slice none 0 0),(.slice none 0 0)] []) [] (some s3_31),iGm (m2 (sStn 3)) [r3_4,r3_31] none,iAs (rk (.int .i64 (.ofNat 3))) s3_5]
def x247_6 : List (Ins tf3) := [iP1 (bFa 0) r3_2 s3_33,iR1 bLd r3_33 s3_34,iCall (rk (.func (.func 254) #[] #[])) [r3_34] (some s3_35),iMv r3_35 s3_32,iGp (l1 (pExt 0)) [r3_32] (some s3_36),iGp (l1 (pExt 1)) [r3_32] (some s3_37),iAs r3_36 s3_7,iAs r3_37 s3_8]
def x247_7 : List (Ins tf3) := [iMv r3_8 s3_38,iP2 bNe r3_38 (rk (.int .i64 (.ofNat 0))) s3_39]
def x247_8 : List (Ins tf3) := [iGp (pBld [(.int .u8 (.ofNat 0)),(.slice none 0 0),(.slice none 0 0)] []) [] (some s3_40),iMv r3_8 s3_41,iGm (m2 (sStn 3)) [r3_4,r3_40] none,iAs r3_41 s3_5]
def x247_9 : List (Ins tf3) := [iP1 (bFa 0) r3_2 s3_42,iR1 bLd r3_42 s3_43,iP2 bAdd r3_43 (rk (.int .i64 (.ofNat 1))) s3_44,iAs r3_44 s3_9]
def x247_10 : List (Ins tf3) := [iMv r3_7 s3_45,iMv r3_9 s3_46,iGp (l2 (pBin .mul)) [(rk (.int .i64 (.ofNat 2))),r3_46] (some s3_47),iGa (a2 (gMks 1 24 [(.slice none 0 0)])) [r3_47,r3_47] (some s3_48),iMv r3_9 s3_49,iGa (a2 (gMks 1 1 [(.int .i8 (.ofNat 0))])) [r3_49,r3_49] (some s3_50),iMv r3_9 s3_51,iGa (a2 (gMks 1 1 [(.int .i8 (.ofNat 0))])) [r3_51,r3_51] (some s3_52),iMv r3_9 s3_53,iGa (a2 (gMks 1 8 [(.int .i64 (.ofNat 0))])) [r3_53,r3_53] (some s3_54),iMv r3_9 s3_55,iGa (a2 (gMks 1 8 [(.int .i64 (.ofNat 0))])) [r3_55,r3_55] (some s3_56),iMv r3_9 s3_57,iGa (a2 (gMks 1 1 [(.bool false)])) [r3_57,r3_57] (some s3_58),iGp (pBld [(.pointer none),(.slice none 0 0),(.slice none 0 0),(.slice none 0 0),(.slice none 0 0),(.slice none 0 0),(.slice none 0 0),(.slice none 0 0),(.slice none 0 0),(.int .i64 (.ofNat 0)),(.slice none 0 0),(.slice none 0 0),(.int .i64 (.ofNat 0))] [(0,1),(2,1),(3,1),(4,1),(5,1),(6,1),(7,1),(12,1)]) [r3_45,r3_48,r3_50,r3_52,r3_54,r3_56,r3_58,(rk (.int .i64 (.ofNat 16)))] (some s3_59),iGa (a1 gBox) [r3_59] (some s3_60),iAs r3_60 s3_10]
def x247_11 : List (Ins tf3) := [iMv r3_10 s3_61,iGr (r1 (rLdn 2)) [r3_2] (some s3_62),iCall (rk (.func (.func 255) #[] #[])) [r3_61,r3_62] (some s3_63),iGp (l1 (pUn .not)) [r3_63] (some s3_64)]
def x247_12 : List (Ins tf3) := [iMv r3_10 s3_65,iCall (rk (.func (.func 256) #[] #[])) [r3_65] (some s3_66),iGm (m2 (sStn 3)) [r3_4,r3_66] none,iAs (rk (.int .i64 (.ofNat 0))) s3_5]
def x247_13 : List (Ins tf3) := [iAs (rk (.int .i64 (.ofNat 0))) s3_11,iAs (rk (.int .i64 (.ofNat 1))) s3_12,iAs (rk (.int .i64 (.ofNat 64))) s3_13]
def x247_14 : List (Ins tf3) := [iMv r3_10 s3_67,iCall (rk (.func (.func 257) #[] #[])) [r3_67] (some s3_68),iAs r3_68 s3_14]
def x247_15 : List (Ins tf3) := [iMv r3_14 s3_107,iP2 bGe r3_107 (rk (.int .i64 (.ofNat 0))) s3_108,iMv r3_108 s3_109,iGd r3_109 [.o5,.o5,.o1] true (iMv r3_10 s3_110) (some s3_110) rfl rfl rfl,iGd r3_109 [.o5,.o5,.o1] true (iP1 bNil r3_110 s3_111) (some s3_111) rfl rfl rfl,iGd r3_109 [.o5,.o5,.o1] true (iP1 (bFa 10) r3_111 s3_112) (some s3_112) rfl rfl rfl,iGd r3_109 [.o5,.o5,.o1] true (iR1 bLd r3_112 s3_113) (some s3_113) rfl rfl rfl,iGd r3_109 [.o5,.o5,.o1] true (iP1 bLen r3_113 s3_114) (some s3_114) rfl rfl rfl,iGd r3_109 [.o5,.o5,.o1] true (iP2 bEq r3_114 (rk (.int .i64 (.ofNat 0))) s3_115) (some s3_115) rfl rfl rfl,iGp (l3 pPick) [r3_109,r3_115,(rk (.bool false))] (some s3_116),iAs r3_116 s3_106]
def x247_16 : List (Ins tf3) := [iMv r3_10 s3_117,iCall (rk (.func (.func 256) #[] #[])) [r3_117] (some s3_118),iGm (m2 (sStn 3)) [r3_4,r3_118] none,iAs (rk (.int .i64 (.ofNat 0))) s3_5]
def x247_17 : List (Ins tf3) := [iMv r3_14 s3_120,iP2 bGe r3_120 (rk (.int .i64 (.ofNat 0))) s3_121,iAs r3_121 s3_119]
def x247_18 : List (Ins tf3) := [iMv r3_11 s3_122,iP2 bAdd r3_122 (rk (.int .i64 (.ofNat 1))) s3_123,iAs r3_123 s3_11]
def x247_19 : List (Ins tf3) := [iMv r3_10 s3_125,iMv r3_14 s3_126,iCall (rk (.func (.func 258) #[] #[])) [r3_125,r3_126] (some s3_127),iMv r3_127 s3_124,iGp (l1 (pExt 0)) [r3_124] (some s3_128),iGp (l1 (pExt 1)) [r3_124] (some s3_129),iAs r3_128 s3_15,iAs r3_129 s3_16]
def x247_20 : List (Ins tf3) := [iMv r3_10 s3_130,iMv r3_10 s3_131,iP1 bNil r3_131 s3_132,iP1 (bFa 11) r3_132 s3_133,iR1 bLd r3_133 s3_134,iMv r3_15 s3_135,iRc (iGm (m2 (sApp 1)) [(rk (.slice none 0 0)),r3_135] (some s3_136)) [(rcLd r3_133 r3_134 [.o6,.o0,.o2] rfl)] rfl,iGa (aBsl 1 1 [(.slice none 0 0)] [(0,1)]) [r3_136] (some s3_137),iGm (m2 (sApp 1)) [r3_134,r3_137] (some s3_138),iP1 bNil r3_130 s3_139,iP1 (bFa 11) r3_139 s3_140,iM2 bSt r3_140 r3_138]
def x247_21 : List (Ins tf3) := [iMv r3_10 s3_141,iMv r3_16 s3_142,iCall (rk (.func (.func 259) #[] #[])) [r3_141,r3_142] (some s3_143)]
def x247_22 : List (Ins tf3) := [iAs (rk (.int .i64 (.negSucc 0))) s3_17]
def x247_23 : List (Ins tf3) := [iMv r3_15 s3_144,iP1 bLen r3_144 s3_145,iP2 bGt r3_145 (rk (.int .i64 (.ofNat 1))) s3_146]
def x247_24 : List (Ins tf3) := [iMv r3_10 s3_147,iMv r3_15 s3_148,iCall (rk (.func (.func 260) #[] #[])) [r3_147,r3_148] (some s3_149),iAs r3_149 s3_17]
def x247_25 : List (Ins tf3) := [iMv r3_10 s3_150,iMv r3_15 s3_151,iP2 (bIxs 1) r3_151 (rk (.int .i64 (.ofNat 0))) s3_152,iR1 bLd r3_152 s3_153,iMv r3_17 s3_154,iCall (rk (.func (.func 261) #[] #[])) [r3_150,r3_153,r3_154] (some s3_155)]
def x247_26 : List (Ins tf3) := [iMv r3_10 s3_156,iMv r3_10 s3_157,iP1 bNil r3_157 s3_158,iP1 (bFa 12) r3_158 s3_159,iR1 bLd r3_159 s3_160,iMv r3_10 s3_161,iP1 bNil r3_161 s3_162,iP1 (bFa 12) r3_162 s3_163,iR1 bLd r3_163 s3_164,iGp (l2 (pBin .quo)) [r3_164,(rk (.int .i64 (.ofNat 16)))] (some s3_165),iP2 bAdd r3_160 r3_165 s3_166,iGp (l2 pMin) [r3_166,(rk (.int .i64 (.ofNat 1099511627776)))] (some s3_167),iP1 bNil r3_156 s3_168,iP1 (bFa 12) r3_168 s3_169,iM2 bSt r3_169 r3_167]
def x247_27 : List (Ins tf3) := [iMv r3_1 s3_170,iP2 bGt r3_170 (rk (.int .i64 (.ofNat 0))) s3_171,iMv r3_171 s3_172,iGd r3_172 [.o4,.o5,.o2] true (iMv r3_11 s3_173) (some s3_173) rfl rfl rfl,iGd r3_172 [.o4,.o5,.o2] true (iMv r3_1 s3_174) (some s3_174) rfl rfl rfl,iGd r3_172 [.o4,.o5,.o2] true (iP2 bGe r3_173 r3_174 s3_175) (some s3_175) rfl rfl rfl,iGp (l3 pPick) [r3_172,r3_175,(rk (.bool false))] (some s3_176)]
def x247_28 : List (Ins tf3) := [iMv r3_11 s3_178,iMv r3_13 s3_179,iP2 bGe r3_178 r3_179 s3_180,iAs r3_180 s3_177]
def x247_29 : List (Ins tf3) := [iMv r3_12 s3_181,iP2 bAdd r3_181 (rk (.int .i64 (.ofNat 1))) s3_182,iAs r3_182 s3_12]
def x247_30 : List (Ins tf3) := [iMv r3_11 s3_183,iMv r3_12 s3_184,iCall (rk (.func (.func 262) #[] #[])) [r3_184] (some s3_185),iGp (l2 (pBin .mul)) [(rk (.int .i64 (.ofNat 64))),r3_185] (some s3_186),iP2 bAdd r3_183 r3_186 s3_187,iAs r3_187 s3_13]
def x247_31 : List (Ins tf3) := [iMv r3_10 s3_188,iCall (rk (.func (.func 259) #[] #[])) [r3_188,(rk (.int .i64 (.ofNat 0)))] (some s3_189)]
def x247_32 : List (Ins tf3) := [iMv r3_10 s3_69,iCall (rk (.func (.func 263) #[] #[])) [r3_69] (some s3_70),iAs r3_70 s3_18]
def x247_33 : List (Ins tf3) := [iMv r3_18 s3_71,iP2 bEq r3_71 (rk (.int .i64 (.ofNat 0))) s3_72]
def x247_34 : List (Ins tf3) := [iMv r3_10 s3_73,iCall (rk (.func (.func 264) #[] #[])) [r3_73] (some s3_74),iGp (pBld [(.int .u8 (.ofNat 0)),(.slice none 0 0),(.slice none 0 0)] [(0,1),(1,1)]) [(rk (.int .u8 (.ofNat 1))),r3_74] (some s3_75),iGm (m2 (sStn 3)) [r3_4,r3_75] none,iAs (rk (.int .i64 (.ofNat 0))) s3_5]
def x247_35 : List (Ins tf3) := [iMv r3_10 s3_76,iMv r3_10 s3_77,iP1 bNil r3_77 s3_78,iP1 (bFa 10) r3_78 s3_79,iR1 bLd r3_79 s3_80,iMv r3_10 s3_81,iP1 bNil r3_81 s3_82,iP1 (bFa 8) r3_82 s3_83,iR1 bLd r3_83 s3_84,iP1 bLen r3_84 s3_85,iGp (pBld [(.int .i64 (.ofNat 0))] [(0,1)]) [r3_85] (some s3_86),iGa (aBsl 1 1 [(.int .i64 (.ofNat 0))] [(0,1)]) [r3_86] (some s3_87),iGm (m2 (sApp 1)) [r3_80,r3_87] (some s3_88),iP1 bNil r3_76 s3_89,iP1 (bFa 10) r3_89 s3_90,iM2 bSt r3_90 r3_88]
def x247_36 : List (Ins tf3) := [iMv r3_10 s3_91,iP1 bNil r3_91 s3_92,iP1 (bFa 4) r3_92 s3_93,iR1 bLd r3_93 s3_94,iMv r3_18 s3_95,iP2 (bIxs 1) r3_94 r3_95 s3_96,iR1 bLd r3_96 s3_97,iP2 bEq r3_97 (rk (.int .i8 (.ofNat 1))) s3_98]
def x247_37 : List (Ins tf3) := [iMv r3_10 s3_99,iMv r3_18 s3_100,iCall (rk (.func (.func 261) #[] #[])) [r3_99,r3_100,(rk (.int .i64 (.negSucc 0)))] (some s3_101)]
def x247_38 : List (Ins tf3) := [iMv r3_10 s3_102,iMv r3_18 s3_103,iGp (l1 (pUn .neg)) [r3_103] (some s3_104),iCall (rk (.func (.func 261) #[] #[])) [r3_102,r3_104,(rk (.int .i64 (.negSucc 0)))] (some s3_105)]
def x247_39 : XC tf3 := (.cond r3_119 (.rg x247_18 (.rg x247_19 (.rg x247_20 (.rg x247_21 (.rg x247_22 (.seq (.rg x247_23 (.cond r3_146 (.reg x247_24) .skip)) (.rg x247_25 (.rg x247_26 (.rg x247_27 (.cond r3_176 (.exit 0) .skip)))))))))) (.rg x247_28 (.cond r3_177 (.rg x247_29 (.rg x247_30 (.reg x247_31))) (.rg x247_32 (.seq (.rg x247_33 (.cond r3_72 (.rg x247_34 .ret) .skip)) (.rg x247_35 (.rg x247_36 (.cond r3_98 (.reg x247_37) (.reg x247_38)))))))))
def x247_40 : List (Ins tf3) := [iGp (pBld [(.int .u8 (.ofNat 0)),(.slice none 0 0),(.slice none 0 0)] []) [] (some s3_190),iGm (m2 (sStn 3)) [r3_4,r3_190] none,iAs (rk (.int .i64 (.ofNat 0))) s3_5]
def x247_41 : XC tf3 := (.seq (.rg x247_1 (.rg x247_2 (.cond r3_22 (.rg x247_3 .ret) .skip))) (.seq (.rg x247_4 (.cond r3_30 (.rg x247_5 .ret) .skip)) (.rg x247_6 (.seq (.rg x247_7 (.cond r3_39 (.rg x247_8 .ret) .skip)) (.rg x247_9 (.rg x247_10 (.seq (.rg x247_11 (.cond r3_64 (.rg x247_12 .ret) .skip)) (.rg x247_13 (.seq .skip (.seq (.block 0 (.loop (.block 1 (.rg x247_14 (.block 2 (.rg x247_15 (.cond r3_106 (.rg x247_16 .ret) (.rg x247_17 x247_39)))))))) (.rg x247_40 .ret)))))))))))
def x247 : XC tf3 := (.rg x247_0 (.scope x247_41))
def c247 : Code := Tryz.f247.body.getD .skip
theorem x247_b : Tryz.f247.body = some c247 := by kernel_rfl
theorem x247_c : cG (comp Tryz.prog) 4 3 191 x247 c247 = x247.den := by kernel_rfl
def y247 : List (RR Tryz.prog 3 191 tf3) := [rrS (.cell 4 346),rrT r3_5 5 rfl rfl]
theorem x247_r : y247.map RR.den = Tryz.f247.results.toList := by kernel_rfl
theorem x247_k : okFn Tryz.f247 = true := by kernel_rfl
theorem x247_D : 3 = dep Tryz.f247.ntmps := by kernel_rfl
theorem x247_s : ([s3_0,s3_1] : List (Slot tf3)).map Slot.p = (List.range' 0 2).map (pth 3) := by kernel_rfl
def X247 : XFn Tryz.prog 4 (comp Tryz.prog) := ⟨X3,tf3,247,Tryz.f247,c247,3,191,[s3_0,s3_1],z3,x247,y247,x247_D,Tryz.ntmps247.symm,Tryz.func247,x247_b,x247_k,x247_s,by decide,z3_ok,x247_c,x247_r⟩
def x248_0 : List (Ins tf2) := [iGa (aAl 2 [(.int .i64 (.ofNat 0)),(.slice none 0 0)]) [] (some s2_2)]
def x248_1 : List (Ins tf2) := [iMv r2_0 s2_6,iGp (l2 (pEqD (tdOf 336) false)) [r2_6,(rk (.pointer none))] (some s2_7)]
def x248_2 : List (Ins tf2) := [iGp (pBld [(.int .i64 (.ofNat 0)),(.slice none 0 0)] []) [] (some s2_8),iGm (m2 (sStn 2)) [r2_2,r2_8] none]
def x248_3 : List (Ins tf2) := [iMv r2_0 s2_9,iP1 bNil r2_9 s2_10,iP1 (bFa 0) r2_10 s2_11,iP1 (bFa 0) r2_11 s2_12,iR1 bLd r2_12 s2_13,iMv r2_0 s2_14,iP1 bNil r2_14 s2_15,iP1 (bFa 0) r2_15 s2_16,iP1 (bFa 1) r2_16 s2_17,iR1 bLd r2_17 s2_18,iP1 bLen r2_18 s2_19,iGa (a2 (gMks 1 24 [(.slice none 0 0)])) [r2_19,r2_19] (some s2_20),iGp (pBld [(.int .i64 (.ofNat 0)),(.slice none 0 0)] [(0,1),(1,1)]) [r2_13,r2_20] (some s2_21),iGa (aAl 2 [(.int .i64 (.ofNat 0)),(.slice none 0 0)]) [] (some s2_3),iGm (m2 (sStn 2)) [r2_3,r2_21] none]
def x248_4 : List (Ins tf2) := [iMv r2_0 s2_22,iP1 bNil r2_22 s2_23,iP1 (bFa 0) r2_23 s2_24,iP1 (bFa 1) r2_24 s2_25,iR1 bLd r2_25 s2_26,iP1 bLen r2_26 s2_27,iMv (rk (.int .i64 (.ofNat 0))) s2_28]
def x248_5 : List (Ins tf2) := [iP2 bLt r2_28 r2_27 s2_29]
def x248_6 : List (Ins tf2) := [iMv r2_28 s2_30,iP2 (bIxs 1) r2_26 r2_28 s2_31,iR1 bLd r2_31 s2_32,iAs r2_30 s2_4,iAs r2_32 s2_5]
def x248_7 : List (Ins tf2) := [iP1 (bFa 1) r2_3 s2_33,iR1 bLd r2_33 s2_34,iMv r2_4 s2_35,iMv r2_5 s2_36,iRc (iGm (m2 (sApp 1)) [(rk (.slice none 0 0)),r2_36] (some s2_37)) [(rcLd r2_33 r2_34 [.o2,.o4] rfl)] rfl,iP2 (bIxs 1) r2_34 r2_35 s2_38,iM2 bSt r2_38 r2_37]
def x248_8 : List (Ins tf2) := [iP2 bAdd r2_28 (rk (.int .i64 (.ofNat 1))) s2_39,iMv r2_39 s2_28]
def x248_9 : List (Ins tf2) := [iGr (r1 (rLdn 2)) [r2_3] (some s2_40),iGm (m2 (sStn 2)) [r2_2,r2_40] none]
def x248 : XC tf2 := (.rg x248_0 (.seq (.rg x248_1 (.cond r2_7 (.rg x248_2 .ret) .skip)) (.rg x248_3 (.seq (.rg x248_4 (.block 0 (.loop (.rg x248_5 (.seq (.cond r2_29 .skip (.exit 0)) (.seq (.block 1 (.rg x248_6 (.reg x248_7))) (.reg x248_8))))))) (.rg x248_9 .ret)))))
def c248 : Code := Tryz.f248.body.getD .skip
theorem x248_b : Tryz.f248.body = some c248 := by kernel_rfl
theorem x248_c : cG (comp Tryz.prog) 4 2 41 x248 c248 = x248.den := by kernel_rfl
def y248 : List (RR Tryz.prog 2 41 tf2) := [rrS (.cell 2 350)]
theorem x248_r : y248.map RR.den = Tryz.f248.results.toList := by kernel_rfl
theorem x248_k : okFn Tryz.f248 = true := by kernel_rfl
theorem x248_D : 2 = dep Tryz.f248.ntmps := by kernel_rfl
theorem x248_s : ([s2_0] : List (Slot tf2)).map Slot.p = (List.range' 0 1).map (pth 2) := by kernel_rfl
def X248 : XFn Tryz.prog 4 (comp Tryz.prog) := ⟨X2,tf2,248,Tryz.f248,c248,2,41,[s2_0],z2,x248,y248,x248_D,Tryz.ntmps248.symm,Tryz.func248,x248_b,x248_k,x248_s,by decide,z2_ok,x248_c,x248_r⟩
def x249_0 : List (Ins tf3) := [iAs (rk (.slice none 0 0)) s3_6,iAs (rk (.int .i64 (.ofNat 0))) s3_7]
def x249_1 : List (Ins tf3) := [iMv r3_0 s3_13,iGp (l2 (pEqD (tdOf 338) false)) [r3_13,(rk (.pointer none))] (some s3_14)]
def x249_2 : List (Ins tf3) := [iAs (rk (.slice none 0 0)) s3_6,iAs (rk (.int .i64 (.ofNat 1))) s3_7]
def x249_3 : List (Ins tf3) := [iMv r3_1 s3_15,iP2 bLt r3_15 (rk (.int .i64 (.ofNat 0))) s3_16,iMv r3_16 s3_17,iGd r3_17 [.o1,.o2,.o0] false (iMv r3_1 s3_18) (some s3_18) rfl rfl rfl,iGd r3_17 [.o1,.o2,.o0] false (iP2 bGt r3_18 (rk (.int .i64 (.ofNat 4194304))) s3_19) (some s3_19) rfl rfl rfl,iGp (l3 pPick) [r3_17,(rk (.bool true)),r3_19] (some s3_20)]
def x249_4 : List (Ins tf3) := [iAs (rk (.slice none 0 0)) s3_6,iAs (rk (.int .i64 (.ofNat 3))) s3_7]
def x249_5 : List (Ins tf3) := [iMv r3_1 s3_21,iGa (a2 (gMks 1 8 [(.int .u64 (.ofNat 0))])) [r3_21,r3_21] (some s3_22),iAs r3_22 s3_8]
def x249_6 : List (Ins tf3) := [iMv r3_0 s3_23,iP1 bNil r3_23 s3_24,iP1 (bFa 3) r3_24 s3_25,iR1 bLd r3_25 s3_26,iGm (m1 sRng) [r3_26] (some s3_27)]
def x249_7 : List (Ins tf3) := [iGm (m1 sNxt) [r3_27] (some s3_28),iGp (l1 (pExt 0)) [r3_28] (some s3_29)]
def x249_8 : List (Ins tf3) := [iGr (r1 rEnt) [r3_27] (some s3_30),iGp (l1 (pExt 0)) [r3_30] (some s3_31),iGp (l1 (pExt 1)) [r3_30] (some s3_32),iAs r3_31 s3_9,iAs r3_32 s3_10]
def x249_9 : List (Ins tf3) := [iMv r3_9 s3_33,iMv r3_1 s3_34,iP1 (bCv .u64) r3_34 s3_35,iP2 bGe r3_33 r3_35 s3_36]
def x249_10 : List (Ins tf3) := [iMv r3_0 s3_37,iP1 bNil r3_37 s3_38,iP1 (bFa 2) r3_38 s3_39,iR1 bLd r3_39 s3_40,iMv r3_10 s3_41,iGr (r2 (rLook [0] false (.slice none 0 0) false)) [r3_40,r3_41] (some s3_42),iP1 bLen r3_42 s3_43,iMv (rk (.int .i64 (.ofNat 0))) s3_44]
def x249_11 : List (Ins tf3) := [iP2 bLt r3_44 r3_43 s3_45]
def x249_12 : List (Ins tf3) := [iMv r3_44 s3_46,iP2 (bIxs 1) r3_42 r3_44 s3_47,iR1 bLd r3_47 s3_48,iAs r3_46 s3_11,iAs r3_48 s3_12]
def x249_13 : List (Ins tf3) := [iMv r3_12 s3_49,iP2 bSub r3_49 (rk (.int .i64 (.ofNat 1))) s3_50,iMv r3_2 s3_51,iP1 bLen r3_51 s3_52,iP2 bLt r3_50 r3_52 s3_53,iMv r3_53 s3_54,iGd r3_54 [.o6,.o6,.o0] true (iMv r3_2 s3_55) (some s3_55) rfl rfl rfl,iGd r3_54 [.o6,.o6,.o0] true (iMv r3_12 s3_56) (some s3_56) rfl rfl rfl,iGd r3_54 [.o6,.o6,.o0] true (iP2 bSub r3_56 (rk (.int .i64 (.ofNat 1))) s3_57) (some s3_57) rfl rfl rfl,iGd r3_54 [.o6,.o6,.o0] true (iP2 (bIxs 1) r3_55 r3_57 s3_58) (some s3_58) rfl rfl rfl,iGd r3_54 [.o6,.o6,.o0] true (iR1 bLd r3_58 s3_59) (some s3_59) rfl rfl rfl,iGp (l3 pPick) [r3_54,r3_59,(rk (.bool false))] (some s3_60)]
def x249_14 : List (Ins tf3) := [iMv r3_8 s3_61,iMv r3_9 s3_62,iP2 (bIxs 1) r3_61 r3_62 s3_63,iR1 bLd r3_63 s3_64,iMv r3_11 s3_65,iGp (l2 (pBin .shl)) [(rk (.int .u64 (.ofNat 1))),r3_65] (some s3_66),iGp (l2 (pBin .or)) [r3_64,r3_66] (some s3_67),iP2 (bIxs 1) r3_61 r3_62 s3_68,iM2 bSt r3_68 r3_67]
def x249_15 : List (Ins tf3) := [iP2 bAdd r3_44 (rk (.int .i64 (.ofNat 1))) s3_69,iMv r3_69 s3_44]
def x249_16 : List (Ins tf3) := [iMv r3_8 s3_70,iAs r3_70 s3_6,iAs (rk (.int .i64 (.ofNat 0))) s3_7]
def x249_17 : XC tf3 := (.seq (.rg x249_3 (.cond r3_20 (.rg x249_4 .ret) .skip)) (.rg x249_5 (.seq (.rg x249_6 (.block 0 (.loop (.rg x249_7 (.seq (.cond r3_29 .skip (.exit 0)) (.block 1 (.rg x249_8 (.seq (.rg x249_9 (.cond r3_36 (.exit 1) .skip)) (.rg x249_10 (.block 2 (.loop (.rg x249_11 (.seq (.cond r3_45 .skip (.exit 2)) (.seq (.block 3 (.rg x249_12 (.rg x249_13 (.cond r3_60 (.reg x249_14) .skip)))) (.reg x249_15))))))))))))))) (.rg x249_16 .ret))))
def x249 : XC tf3 := (.rg x249_0 (.seq (.rg x249_1 (.cond r3_14 (.rg x249_2 .ret) .skip)) x249_17))
def c249 : Code := Tryz.f249.body.getD .skip
theorem x249_b : Tryz.f249.body = some c249 := by kernel_rfl
theorem x249_c : cG (comp Tryz.prog) 4 3 71 x249 c249 = x249.den := by kernel_rfl
def y249 : List (RR Tryz.prog 3 71 tf3) := [rrT r3_6 6 rfl rfl,rrT r3_7 7 rfl rfl]
theorem x249_r : y249.map RR.den = Tryz.f249.results.toList := by kernel_rfl
theorem x249_k : okFn Tryz.f249 = true := by kernel_rfl
theorem x249_D : 3 = dep Tryz.f249.ntmps := by kernel_rfl
theorem x249_s : ([s3_0,s3_1,s3_2] : List (Slot tf3)).map Slot.p = (List.range' 0 3).map (pth 3) := by kernel_rfl
def X249 : XFn Tryz.prog 4 (comp Tryz.prog) := ⟨X3,tf3,249,Tryz.f249,c249,3,71,[s3_0,s3_1,s3_2],z3,x249,y249,x249_D,Tryz.ntmps249.symm,Tryz.func249,x249_b,x249_k,x249_s,by decide,z3_ok,x249_c,x249_r⟩
def x251_0 : List (Ins tf2) := [iAs (rk (.int .i64 (.ofNat 0))) s2_4,iAs (rk (.int .i64 (.ofNat 0))) s2_5]
def x251_1 : List (Ins tf2) := [iMv r2_0 s2_11,iMv r2_1 s2_12,iGa (aBsl 1 1 [(.slice none 0 0)] [(0,1)]) [r2_12] (some s2_13),iCall (rk (.func (.func 267) #[] #[])) [r2_11,(rk (.slice none 0 0)),r2_13] (some s2_14),iAs r2_14 s2_6]
def x251_2 : List (Ins tf2) := [iMv r2_6 s2_15,iP2 bNe r2_15 (rk (.int .i64 (.ofNat 0))) s2_16]
def x251_3 : List (Ins tf2) := [iMv r2_6 s2_17,iAs (rk (.int .i64 (.ofNat 0))) s2_4,iAs r2_17 s2_5]
def x251_4 : List (Ins tf2) := [iMv r2_0 s2_18,iGp (pBld [(.pointer none),(.int .i64 (.ofNat 0))] [(0,1)]) [r2_18] (some s2_19),iGa (a1 gBox) [r2_19] (some s2_20),iAs r2_20 s2_7]
def x251_5 : List (Ins tf2) := [iMv r2_0 s2_21,iCall (rk (.func (.func 268) #[] #[])) [r2_21] (some s2_22),iGp (l1 (pUn .neg)) [r2_22] (some s2_23),iAs r2_23 s2_8]
def x251_6 : List (Ins tf2) := [iMv r2_1 s2_24,iP1 bLen r2_24 s2_25,iMv (rk (.int .i64 (.ofNat 0))) s2_26]
def x251_7 : List (Ins tf2) := [iP2 bLt r2_26 r2_25 s2_27]
def x251_8 : List (Ins tf2) := [iP2 (bIxs 1) r2_24 r2_26 s2_28,iR1 bLd r2_28 s2_29,iAs r2_29 s2_10]
def x251_9 : List (Ins tf2) := [iMv r2_7 s2_30,iMv r2_8 s2_31,iMv r2_10 s2_32,iCall (rk (.func (.func 269) #[] #[])) [r2_30,r2_31,r2_32] (some s2_33),iAs r2_33 s2_8]
def x251_10 : List (Ins tf2) := [iP2 bAdd r2_26 (rk (.int .i64 (.ofNat 1))) s2_34,iMv r2_34 s2_26]
def x251_11 : List (Ins tf2) := [iMv r2_7 s2_35,iMv r2_8 s2_36,iCall (rk (.func (.func 270) #[] #[])) [r2_35,r2_36] (some s2_37),iGp (l1 (pExt 0)) [r2_37] (some s2_38),iGp (l1 (pExt 1)) [r2_37] (some s2_39),iAs r2_38 s2_4,iAs r2_39 s2_5]
def x251 : XC tf2 := (.rg x251_0 (.seq (.rg x251_1 (.rg x251_2 (.cond r2_16 (.rg x251_3 .ret) .skip))) (.rg x251_4 (.rg x251_5 (.seq (.rg x251_6 (.block 0 (.loop (.rg x251_7 (.seq (.cond r2_27 .skip (.exit 0)) (.seq (.block 1 (.rg x251_8 (.reg x251_9))) (.reg x251_10))))))) (.rg x251_11 .ret))))))
def c251 : Code := Tryz.f251.body.getD .skip
theorem x251_b : Tryz.f251.body = some c251 := by kernel_rfl
theorem x251_c : cG (comp Tryz.prog) 4 2 40 x251 c251 = x251.den := by kernel_rfl
def y251 : List (RR Tryz.prog 2 40 tf2) := [rrT r2_4 4 rfl rfl,rrT r2_5 5 rfl rfl]
theorem x251_r : y251.map RR.den = Tryz.f251.results.toList := by kernel_rfl
theorem x251_k : okFn Tryz.f251 = true := by kernel_rfl
theorem x251_D : 2 = dep Tryz.f251.ntmps := by kernel_rfl
theorem x251_s : ([s2_0,s2_1] : List (Slot tf2)).map Slot.p = (List.range' 0 2).map (pth 2) := by kernel_rfl
def X251 : XFn Tryz.prog 4 (comp Tryz.prog) := ⟨X2,tf2,251,Tryz.f251,c251,2,40,[s2_0,s2_1],z2,x251,y251,x251_D,Tryz.ntmps251.symm,Tryz.func251,x251_b,x251_k,x251_s,by decide,z2_ok,x251_c,x251_r⟩
def x252_0 : List (Ins tf2) := [iAs (rk (.int .i64 (.ofNat 0))) s2_4]
def x252_1 : List (Ins tf2) := [iMv r2_0 s2_5,iGp (l2 (pEqD (tdOf 336) false)) [r2_5,(rk (.pointer none))] (some s2_6)]
def x252_2 : List (Ins tf2) := [iAs (rk (.int .i64 (.ofNat 1))) s2_4]
def x252_3 : List (Ins tf2) := [iMv r2_0 s2_7,iMv r2_1 s2_8,iCall (rk (.func (.func 271) #[] #[])) [r2_7,r2_8] (some s2_9),iGp (l1 (pUn .not)) [r2_9] (some s2_10)]
def x252_4 : List (Ins tf2) := [iAs (rk (.int .i64 (.ofNat 3))) s2_4]
def x252_5 : List (Ins tf2) := [iMv r2_1 s2_11,iP1 bLen r2_11 s2_12,iP2 bGt r2_12 (rk (.int .i64 (.ofNat 4096))) s2_13,iMv r2_13 s2_14,iGd r2_14 [.o6,.o1] false (iMv r2_0 s2_15) (some s2_15) rfl rfl rfl,iGd r2_14 [.o6,.o1] false (iP1 bNil r2_15 s2_16) (some s2_16) rfl rfl rfl,iGd r2_14 [.o6,.o1] false (iP1 (bFa 0) r2_16 s2_17) (some s2_17) rfl rfl rfl,iGd r2_14 [.o6,.o1] false (iP1 (bFa 1) r2_17 s2_18) (some s2_18) rfl rfl rfl,iGd r2_14 [.o6,.o1] false (iR1 bLd r2_18 s2_19) (some s2_19) rfl rfl rfl,iGd r2_14 [.o6,.o1] false (iP1 bLen r2_19 s2_20) (some s2_20) rfl rfl rfl,iGd r2_14 [.o6,.o1] false (iP2 bEq r2_20 (rk (.int .i64 (.ofNat 1048576))) s2_21) (some s2_21) rfl rfl rfl,iGp (l3 pPick) [r2_14,(rk (.bool true)),r2_21] (some s2_22)]
def x252_6 : List (Ins tf2) := [iAs (rk (.int .i64 (.ofNat 5))) s2_4]
def x252_7 : List (Ins tf2) := [iMv r2_0 s2_23,iMv r2_0 s2_24,iP1 bNil r2_24 s2_25,iP1 (bFa 0) r2_25 s2_26,iP1 (bFa 1) r2_26 s2_27,iR1 bLd r2_27 s2_28,iMv r2_1 s2_29,iRc (iGm (m2 (sApp 1)) [(rk (.slice none 0 0)),r2_29] (some s2_30)) [(rcLd r2_27 r2_28 [.o4,.o3] rfl)] rfl,iGa (aBsl 1 1 [(.slice none 0 0)] [(0,1)]) [r2_30] (some s2_31),iGm (m2 (sApp 1)) [r2_28,r2_31] (some s2_32),iP1 bNil r2_23 s2_33,iP1 (bFa 0) r2_33 s2_34,iP1 (bFa 1) r2_34 s2_35,iM2 bSt r2_35 r2_32]
def x252_8 : List (Ins tf2) := [iAs (rk (.int .i64 (.ofNat 0))) s2_4]
def x252 : XC tf2 := (.rg x252_0 (.seq (.rg x252_1 (.cond r2_6 (.rg x252_2 .ret) .skip)) (.seq (.rg x252_3 (.cond r2_10 (.rg x252_4 .ret) .skip)) (.seq (.rg x252_5 (.cond r2_22 (.rg x252_6 .ret) .skip)) (.rg x252_7 (.rg x252_8 .ret))))))
def c252 : Code := Tryz.f252.body.getD .skip
theorem x252_b : Tryz.f252.body = some c252 := by kernel_rfl
theorem x252_c : cG (comp Tryz.prog) 4 2 36 x252 c252 = x252.den := by kernel_rfl
def y252 : List (RR Tryz.prog 2 36 tf2) := [rrT r2_4 4 rfl rfl]
theorem x252_r : y252.map RR.den = Tryz.f252.results.toList := by kernel_rfl
theorem x252_k : okFn Tryz.f252 = true := by kernel_rfl
theorem x252_D : 2 = dep Tryz.f252.ntmps := by kernel_rfl
theorem x252_s : ([s2_0,s2_1] : List (Slot tf2)).map Slot.p = (List.range' 0 2).map (pth 2) := by kernel_rfl
def X252 : XFn Tryz.prog 4 (comp Tryz.prog) := ⟨X2,tf2,252,Tryz.f252,c252,2,36,[s2_0,s2_1],z2,x252,y252,x252_D,Tryz.ntmps252.symm,Tryz.func252,x252_b,x252_k,x252_s,by decide,z2_ok,x252_c,x252_r⟩
def x253_0 : List (Ins tf2) := [iGa (a1 gBox) [r2_0] (some s2_1),iAs (rk (.int .i64 (.ofNat 0))) s2_2]
def x253_1 : List (Ins tf2) := [iP1 (bFa 0) r2_1 s2_5,iR1 bLd r2_5 s2_6,iP2 bLt r2_6 (rk (.int .i64 (.ofNat 0))) s2_7,iMv r2_7 s2_8,iGd r2_8 [.o0,.o1] false (iP1 (bFa 0) r2_1 s2_9) (some s2_9) rfl rfl rfl,iGd r2_8 [.o0,.o1] false (iR1 bLd r2_9 s2_10) (some s2_10) rfl rfl rfl,iGd r2_8 [.o0,.o1] false (iP2 bGt r2_10 (rk (.int .i64 (.ofNat 1048576))) s2_11) (some s2_11) rfl rfl rfl,iGp (l3 pPick) [r2_8,(rk (.bool true)),r2_11] (some s2_12)]
def x253_2 : List (Ins tf2) := [iAs (rk (.int .i64 (.ofNat 3))) s2_2]
def x253_3 : List (Ins tf2) := [iP1 (bFa 1) r2_1 s2_13,iR1 bLd r2_13 s2_14,iP1 bLen r2_14 s2_15,iP2 bGt r2_15 (rk (.int .i64 (.ofNat 1048576))) s2_16]
def x253_4 : List (Ins tf2) := [iAs (rk (.int .i64 (.ofNat 5))) s2_2]
def x253_5 : List (Ins tf2) := [iP1 (bFa 1) r2_1 s2_17,iR1 bLd r2_17 s2_18,iP1 bLen r2_18 s2_19,iMv (rk (.int .i64 (.ofNat 0))) s2_20]
def x253_6 : List (Ins tf2) := [iP2 bLt r2_20 r2_19 s2_21]
def x253_7 : List (Ins tf2) := [iP2 (bIxs 1) r2_18 r2_20 s2_22,iR1 bLd r2_22 s2_23,iAs r2_23 s2_4]
def x253_8 : List (Ins tf2) := [iP1 (bFa 0) r2_1 s2_24,iR1 bLd r2_24 s2_25,iMv r2_4 s2_26,iCall (rk (.func (.func 272) #[] #[])) [r2_25,r2_26] (some s2_27),iAs r2_27 s2_2]
def x253_9 : List (Ins tf2) := [iMv r2_2 s2_28,iP2 bNe r2_28 (rk (.int .i64 (.ofNat 0))) s2_29]
def x253_10 : List (Ins tf2) := [iP2 bAdd r2_20 (rk (.int .i64 (.ofNat 1))) s2_30,iMv r2_30 s2_20]
def x253_11 : List (Ins tf2) := [iAs (rk (.int .i64 (.ofNat 0))) s2_2]
def x253_12 : List (Ins tf2) := [iMv r2_2 s2_31,iAs r2_31 s2_2]
def x253 : XC tf2 := (.rg x253_0 (.scope (.seq (.rg x253_1 (.cond r2_12 (.rg x253_2 .ret) .skip)) (.seq (.rg x253_3 (.cond r2_16 (.rg x253_4 .ret) .skip)) (.seq (.rg x253_5 (.block 0 (.loop (.rg x253_6 (.seq (.cond r2_21 .skip (.exit 0)) (.seq (.block 1 (.rg x253_7 (.rg x253_8 (.rg x253_9 (.cond r2_29 .bad .skip))))) (.reg x253_10))))))) (.seq (.rg x253_11 .ret) (.seq .skip (.rg x253_12 .ret))))))))
def c253 : Code := Tryz.f253.body.getD .skip
theorem x253_b : Tryz.f253.body = some c253 := by kernel_rfl
theorem x253_c : cG (comp Tryz.prog) 4 2 32 x253 c253 = x253.den := by kernel_rfl
def y253 : List (RR Tryz.prog 2 32 tf2) := [rrT r2_2 2 rfl rfl]
theorem x253_r : y253.map RR.den = Tryz.f253.results.toList := by kernel_rfl
theorem x253_k : okFn Tryz.f253 = true := by kernel_rfl
theorem x253_D : 2 = dep Tryz.f253.ntmps := by kernel_rfl
theorem x253_s : ([s2_0] : List (Slot tf2)).map Slot.p = (List.range' 0 1).map (pth 2) := by kernel_rfl
def X253 : XFn Tryz.prog 4 (comp Tryz.prog) := ⟨X2,tf2,253,Tryz.f253,c253,2,32,[s2_0],z2,x253,y253,x253_D,Tryz.ntmps253.symm,Tryz.func253,x253_b,x253_k,x253_s,by decide,z2_ok,x253_c,x253_r⟩
end
end Cr
end Go.Proofs.YtjhbabgcoemecaaGreatDoor
