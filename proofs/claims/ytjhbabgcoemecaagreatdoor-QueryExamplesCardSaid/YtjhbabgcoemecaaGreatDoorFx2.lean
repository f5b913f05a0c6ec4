/- A machine for closed runs: compiled functions (written by gen). -/
import Derived.Test.YtjhbabgcoemecaaGreatDoorFxA
import Derived.KernelRfl
namespace Go.Proofs.YtjhbabgcoemecaaGreatDoor
namespace Cr
open Go Go.RowKit
set_option maxRecDepth 100000
noncomputable section
def x54_0 : List (Ins tf2) := [iAs (rk (.int .i64 (.ofNat 0))) s2_4,iAs (rk (.int .i64 (.ofNat 0))) s2_5]
def x54_1 : List (Ins tf2) := [iMv r2_0 s2_6,iGp (l2 (pEqD (tdOf 34) false)) [r2_6,(rk (.pointer none))] (some s2_7)]
def x54_2 : List (Ins tf2) := [iAs (rk (.int .i64 (.ofNat 0))) s2_4,iAs (rk (.int .i64 (.ofNat 1))) s2_5]
def x54_3 : List (Ins tf2) := [iMv r2_1 s2_8,iP2 bLt r2_8 (rk (.int .i64 (.ofNat 0))) s2_9,iMv r2_9 s2_10,iGd r2_10 [.o2,.o1] false (iMv r2_1 s2_11) (some s2_11) rfl rfl rfl,iGd r2_10 [.o2,.o1] false (iP2 bGt r2_11 (rk (.int .i64 (.ofNat 4194303))) s2_12) (some s2_12) rfl rfl rfl,iGp (l3 pPick) [r2_10,(rk (.bool true)),r2_12] (some s2_13)]
def x54_4 : List (Ins tf2) := [iAs (rk (.int .i64 (.ofNat 0))) s2_4,iAs (rk (.int .i64 (.ofNat 3))) s2_5]
def x54_5 : List (Ins tf2) := [iMv r2_0 s2_14,iMv r2_1 s2_15,iP1 (bCv .u64) r2_15 s2_16,iGp (pBld [(.int .u8 (.ofNat 0)),(.int .u64 (.ofNat 0)),(.slice none 0 0)] [(0,1),(1,1)]) [(rk (.int .u8 (.ofNat 1))),r2_16] (some s2_17),iCall (rk (.func (.func 94) #[] #[])) [r2_14,r2_17] (some s2_18),iGp (l1 (pExt 0)) [r2_18] (some s2_19),iGp (l1 (pExt 1)) [r2_18] (some s2_20),iAs r2_19 s2_4,iAs r2_20 s2_5]
def x54 : XC tf2 := (.rg x54_0 (.seq (.rg x54_1 (.cond r2_7 (.rg x54_2 .ret) .skip)) (.seq (.rg x54_3 (.cond r2_13 (.rg x54_4 .ret) .skip)) (.rg x54_5 .ret))))
def c54 : Code := Tryz.f54.body.getD .skip
theorem x54_b : Tryz.f54.body = some c54 := by kernel_rfl
theorem x54_c : cG (comp Tryz.prog) 4 2 21 x54 c54 = x54.den := by kernel_rfl
def y54 : List (RR Tryz.prog 2 21 tf2) := [rrT r2_4 4 rfl rfl,rrT r2_5 5 rfl rfl]
theorem x54_r : y54.map RR.den = Tryz.f54.results.toList := by kernel_rfl
theorem x54_k : okFn Tryz.f54 = true := by kernel_rfl
theorem x54_D : 2 = dep Tryz.f54.ntmps := by kernel_rfl
theorem x54_s : ([s2_0,s2_1] : List (Slot tf2)).map Slot.p = (List.range' 0 2).map (pth 2) := by kernel_rfl
def X54 : XFn Tryz.prog 4 (comp Tryz.prog) := ⟨X2,tf2,54,Tryz.f54,c54,2,21,[s2_0,s2_1],z2,x54,y54,x54_D,Tryz.ntmps54.symm,Tryz.func54,x54_b,x54_k,x54_s,by decide,z2_ok,x54_c,x54_r⟩
def x56_0 : List (Ins tf2) := [iAs (rk (.int .i64 (.ofNat 0))) s2_6,iAs (rk (.int .i64 (.ofNat 0))) s2_7]
def x56_1 : List (Ins tf2) := [iMv r2_0 s2_12,iGp (l2 (pEqD (tdOf 34) false)) [r2_12,(rk (.pointer none))] (some s2_13)]
def x56_2 : List (Ins tf2) := [iAs (rk (.int .i64 (.ofNat 0))) s2_6,iAs (rk (.int .i64 (.ofNat 1))) s2_7]
def x56_3 : List (Ins tf2) := [iMv r2_1 s2_15,iCall (rk (.func (.func 97) #[] #[])) [r2_15] (some s2_16),iMv r2_16 s2_14,iGp (l1 (pExt 0)) [r2_14] (some s2_17),iGp (l1 (pExt 1)) [r2_14] (some s2_18),iAs r2_17 s2_8,iAs r2_18 s2_9]
def x56_4 : List (Ins tf2) := [iMv r2_9 s2_19,iP2 bNe r2_19 (rk (.int .i64 (.ofNat 0))) s2_20,iMv r2_20 s2_21,iGd r2_21 [.o5,.o2] false (iMv r2_8 s2_22) (some s2_22) rfl rfl rfl,iGd r2_21 [.o5,.o2] false (iP2 bEq r2_22 (rk (.int .i64 (.ofNat 0))) s2_23) (some s2_23) rfl rfl rfl,iGp (l3 pPick) [r2_21,(rk (.bool true)),r2_23] (some s2_24),iMv r2_24 s2_25,iGd r2_25 [.o1,.o3] false (iMv r2_8 s2_26) (some s2_26) rfl rfl rfl,iGd r2_25 [.o1,.o3] false (iMv r2_2 s2_27) (some s2_27) rfl rfl rfl,iGd r2_25 [.o1,.o3] false (iP1 bLen r2_27 s2_28) (some s2_28) rfl rfl rfl,iGd r2_25 [.o1,.o3] false (iP2 bNe r2_26 r2_28 s2_29) (some s2_29) rfl rfl rfl,iGp (l3 pPick) [r2_25,(rk (.bool true)),r2_29] (some s2_30)]
def x56_5 : List (Ins tf2) := [iAs (rk (.int .i64 (.ofNat 0))) s2_6,iAs (rk (.int .i64 (.ofNat 2))) s2_7]
def x56_6 : List (Ins tf2) := [iMv r2_2 s2_31,iP1 bLen r2_31 s2_32,iMv (rk (.int .i64 (.ofNat 0))) s2_33]
def x56_7 : List (Ins tf2) := [iP2 bLt r2_33 r2_32 s2_34]
def x56_8 : List (Ins tf2) := [iP2 (bIxs 1) r2_31 r2_33 s2_35,iR1 bLd r2_35 s2_36,iAs r2_36 s2_11]
def x56_9 : List (Ins tf2) := [iMv r2_11 s2_37,iP2 bLt r2_37 (rk (.int .i64 (.ofNat 0))) s2_38,iMv r2_38 s2_39,iGd r2_39 [.o7,.o4] false (iMv r2_11 s2_40) (some s2_40) rfl rfl rfl,iGd r2_39 [.o7,.o4] false (iMv r2_0 s2_41) (some s2_41) rfl rfl rfl,iGd r2_39 [.o7,.o4] false (iP1 bNil r2_41 s2_42) (some s2_42) rfl rfl rfl,iGd r2_39 [.o7,.o4] false (iP1 (bFa 2) r2_42 s2_43) (some s2_43) rfl rfl rfl,iGd r2_39 [.o7,.o4] false (iR1 bLd r2_43 s2_44) (some s2_44) rfl rfl rfl,iGd r2_39 [.o7,.o4] false (iP1 bLen r2_44 s2_45) (some s2_45) rfl rfl rfl,iGd r2_39 [.o7,.o4] false (iP2 bGe r2_40 r2_45 s2_46) (some s2_46) rfl rfl rfl,iGp (l3 pPick) [r2_39,(rk (.bool true)),r2_46] (some s2_47)]
def x56_10 : List (Ins tf2) := [iAs (rk (.int .i64 (.ofNat 0))) s2_6,iAs (rk (.int .i64 (.ofNat 3))) s2_7]
def x56_11 : List (Ins tf2) := [iP2 bAdd r2_33 (rk (.int .i64 (.ofNat 1))) s2_48,iMv r2_48 s2_33]
def x56_12 : List (Ins tf2) := [iMv r2_0 s2_49,iMv r2_1 s2_50,iMv r2_2 s2_51,iGm (m2 (sApp 1)) [(rk (.slice none 0 0)),r2_51] (some s2_52),iGp (pBld [(.int .u8 (.ofNat 0)),(.int .u64 (.ofNat 0)),(.slice none 0 0)] [(0,1),(2,1)]) [r2_50,r2_52] (some s2_53),iCall (rk (.func (.func 94) #[] #[])) [r2_49,r2_53] (some s2_54),iGp (l1 (pExt 0)) [r2_54] (some s2_55),iGp (l1 (pExt 1)) [r2_54] (some s2_56),iAs r2_55 s2_6,iAs r2_56 s2_7]
def x56 : XC tf2 := (.rg x56_0 (.seq (.rg x56_1 (.cond r2_13 (.rg x56_2 .ret) .skip)) (.seq (.rg x56_3 (.rg x56_4 (.cond r2_30 (.rg x56_5 .ret) .skip))) (.seq (.rg x56_6 (.block 0 (.loop (.rg x56_7 (.seq (.cond r2_34 .skip (.exit 0)) (.seq (.block 1 (.rg x56_8 (.rg x56_9 (.cond r2_47 (.rg x56_10 .ret) .skip)))) (.reg x56_11))))))) (.rg x56_12 .ret)))))
def c56 : Code := Tryz.f56.body.getD .skip
theorem x56_b : Tryz.f56.body = some c56 := by kernel_rfl
theorem x56_c : cG (comp Tryz.prog) 4 2 57 x56 c56 = x56.den := by kernel_rfl
def y56 : List (RR Tryz.prog 2 57 tf2) := [rrT r2_6 6 rfl rfl,rrT r2_7 7 rfl rfl]
theorem x56_r : y56.map RR.den = Tryz.f56.results.toList := by kernel_rfl
theorem x56_k : okFn Tryz.f56 = true := by kernel_rfl
theorem x56_D : 2 = dep Tryz.f56.ntmps := by kernel_rfl
theorem x56_s : ([s2_0,s2_1,s2_2] : List (Slot tf2)).map Slot.p = (List.range' 0 3).map (pth 2) := by kernel_rfl
def X56 : XFn Tryz.prog 4 (comp Tryz.prog) := ⟨X2,tf2,56,Tryz.f56,c56,2,57,[s2_0,s2_1,s2_2],z2,x56,y56,x56_D,Tryz.ntmps56.symm,Tryz.func56,x56_b,x56_k,x56_s,by decide,z2_ok,x56_c,x56_r⟩
def x58_0 : List (Ins tf2) := [iAs (rk (.int .i64 (.ofNat 0))) s2_2]
def x58_1 : List (Ins tf2) := [iMv r2_0 s2_3,iGp (l2 (pEqD (tdOf 34) false)) [r2_3,(rk (.pointer none))] (some s2_4)]
def x58_2 : List (Ins tf2) := [iAs (rk (.int .i64 (.ofNat 0))) s2_2]
def x58_3 : List (Ins tf2) := [iMv r2_0 s2_5,iP1 bNil r2_5 s2_6,iP1 (bFa 2) r2_6 s2_7,iR1 bLd r2_7 s2_8,iP1 bLen r2_8 s2_9,iAs r2_9 s2_2]
def x58 : XC tf2 := (.rg x58_0 (.seq (.rg x58_1 (.cond r2_4 (.rg x58_2 .ret) .skip)) (.rg x58_3 .ret)))
def c58 : Code := Tryz.f58.body.getD .skip
theorem x58_b : Tryz.f58.body = some c58 := by kernel_rfl
theorem x58_c : cG (comp Tryz.prog) 4 2 10 x58 c58 = x58.den := by kernel_rfl
def y58 : List (RR Tryz.prog 2 10 tf2) := [rrT r2_2 2 rfl rfl]
theorem x58_r : y58.map RR.den = Tryz.f58.results.toList := by kernel_rfl
theorem x58_k : okFn Tryz.f58 = true := by kernel_rfl
theorem x58_D : 2 = dep Tryz.f58.ntmps := by kernel_rfl
theorem x58_s : ([s2_0] : List (Slot tf2)).map Slot.p = (List.range' 0 1).map (pth 2) := by kernel_rfl
def X58 : XFn Tryz.prog 4 (comp Tryz.prog) := ⟨X2,tf2,58,Tryz.f58,c58,2,10,[s2_0],z2,x58,y58,x58_D,Tryz.ntmps58.symm,Tryz.func58,x58_b,x58_k,x58_s,by decide,z2_ok,x58_c,x58_r⟩
def x59_0 : List (Ins tf3) := [iAs (rk (.map none)) s3_4,iAs (rk (.int .i64 (.ofNat 0))) s3_5]
def x59_1 : List (Ins tf3) := [iMv r3_0 s3_15,iGp (l2 (pEqD (tdOf 34) false)) [r3_15,(rk (.pointer none))] (some s3_16)]
def x59_2 : List (Ins tf3) := [iAs (rk (.map none)) s3_4,iAs (rk (.int .i64 (.ofNat 1))) s3_5]
def x59_3 : List (Ins tf3) := [iMv r3_1 s3_17,iP1 bLen r3_17 s3_18,iMv (rk (.int .i64 (.ofNat 0))) s3_19]
def x59_4 : List (Ins tf3) := [iP2 bLt r3_19 r3_18 s3_20]
def x59_5 : List (Ins tf3) := [iP2 (bIxs 1) r3_17 r3_19 s3_21,iR1 bLd r3_21 s3_22,iAs r3_22 s3_7]
def x59_6 : List (Ins tf3) := [iMv r3_7 s3_23,iP2 bLt r3_23 (rk (.int .i64 (.ofNat 0))) s3_24,iMv r3_24 s3_25,iGd r3_25 [.o1,.o3,.o0] false (iMv r3_7 s3_26) (some s3_26) rfl rfl rfl,iGd r3_25 [.o1,.o3,.o0] false (iMv r3_0 s3_27) (some s3_27) rfl rfl rfl,iGd r3_25 [.o1,.o3,.o0] false (iCall (rk (.func (.func 58) #[] #[])) [r3_27] (some s3_28)) (some s3_28) rfl rfl rfl,iGd r3_25 [.o1,.o3,.o0] false (iP2 bGe r3_26 r3_28 s3_29) (some s3_29) rfl rfl rfl,iGp (l3 pPick) [r3_25,(rk (.bool true)),r3_29] (some s3_30)]
def x59_7 : List (Ins tf3) := [iAs (rk (.map none)) s3_4,iAs (rk (.int .i64 (.ofNat 3))) s3_5]
def x59_8 : List (Ins tf3) := [iP2 bAdd r3_19 (rk (.int .i64 (.ofNat 1))) s3_31,iMv r3_31 s3_19]
def x59_9 : List (Ins tf3) := [iGa aMm [] (some s3_32),iAs r3_32 s3_8]
def x59_10 : List (Ins tf3) := [iMv r3_1 s3_33,iGm (m2 (sApp 1)) [(rk (.slice none 0 0)),r3_33] (some s3_34),iAs r3_34 s3_9]
def x59_11 : List (Ins tf3) := [iMv r3_9 s3_35,iP1 bLen r3_35 s3_36,iP2 bGt r3_36 (rk (.int .i64 (.ofNat 0))) s3_37]
def x59_12 : List (Ins tf3) := [iMv r3_9 s3_38,iMv r3_9 s3_39,iP1 bLen r3_39 s3_40,iP2 bSub r3_40 (rk (.int .i64 (.ofNat 1))) s3_41,iP2 (bIxs 1) r3_38 r3_41 s3_42,iR1 bLd r3_42 s3_43,iAs r3_43 s3_10]
def x59_13 : List (Ins tf3) := [iMv r3_9 s3_44,iMv r3_9 s3_45,iP1 bLen r3_45 s3_46,iP2 bSub r3_46 (rk (.int .i64 (.ofNat 1))) s3_47,iGp (pSlB (pSl 1) false true false) [r3_44,r3_47] (some s3_48),iAs r3_48 s3_9]
def x59_14 : List (Ins tf3) := [iMv r3_8 s3_50,iMv r3_10 s3_51,iGr (r2 (rLook [0] false (.agg ⟨[(.int .u8 (.ofNat 0)),(.int .u64 (.ofNat 0)),(.slice none 0 0)]⟩) true)) [r3_50,r3_51] (some s3_52),iMv r3_52 s3_49,iGp (l1 (pExt 0)) [r3_49] (some s3_53),iGp (l1 (pExt 1)) [r3_49] (some s3_54),iGa (aAl 3 [(.int .u8 (.ofNat 0)),(.int .u64 (.ofNat 0)),(.slice none 0 0)]) [] (some s3_11),iGm (m2 (sStn 3)) [r3_11,r3_53] none,iAs r3_54 s3_12]
def x59_15 : List (Ins tf3) := [iMv r3_12 s3_55]
def x59_16 : List (Ins tf3) := [iMv r3_0 s3_57,iMv r3_10 s3_58,iCall (rk (.func (.func 70) #[] #[])) [r3_57,r3_58] (some s3_59),iMv r3_59 s3_56,iGp (l1 (pExt 0)) [r3_56] (some s3_60),iGp (l1 (pExt 1)) [r3_56] (some s3_61),iGa (aAl 3 [(.int .u8 (.ofNat 0)),(.int .u64 (.ofNat 0)),(.slice none 0 0)]) [] (some s3_13),iGm (m2 (sStn 3)) [r3_13,r3_60] none,iAs r3_61 s3_14]
def x59_17 : List (Ins tf3) := [iMv r3_8 s3_62,iMv r3_10 s3_63,iGr (r1 (rLdn 3)) [r3_13] (some s3_64),iGm (m3 (sUpd [0] false)) [r3_62,r3_63,r3_64] none]
def x59_18 : List (Ins tf3) := [iMv r3_9 s3_65,iP1 (bFa 2) r3_13 s3_66,iR1 bLd r3_66 s3_67,iGm (m2 (sApp 1)) [r3_65,r3_67] (some s3_68),iAs r3_68 s3_9]
def x59_19 : List (Ins tf3) := [iMv r3_8 s3_69,iAs r3_69 s3_4,iAs (rk (.int .i64 (.ofNat 0))) s3_5]
def x59_20 : XC tf3 := (.seq (.rg x59_3 (.block 0 (.loop (.rg x59_4 (.seq (.cond r3_20 .skip (.exit 0)) (.seq (.block 1 (.rg x59_5 (.rg x59_6 (.cond r3_30 (.rg x59_7 .ret) .skip)))) (.reg x59_8))))))) (.rg x59_9 (.rg x59_10 (.seq .skip (.seq (.block 2 (.loop (.seq (.rg x59_11 (.cond r3_37 .skip (.exit 2))) (.block 3 (.rg x59_12 (.rg x59_13 (.seq (.rg x59_14 (.rg x59_15 (.cond r3_55 (.exit 3) .skip))) (.rg x59_16 (.rg x59_17 (.reg x59_18)))))))))) (.rg x59_19 .ret))))))
def x59 : XC tf3 := (.rg x59_0 (.scope (.seq (.rg x59_1 (.cond r3_16 (.rg x59_2 .ret) .skip)) x59_20)))
def c59 : Code := Tryz.f59.body.getD .skip
theorem x59_b : Tryz.f59.body = some c59 := by kernel_rfl
theorem x59_c : cG (comp Tryz.prog) 4 3 70 x59 c59 = x59.den := by kernel_rfl
def y59 : List (RR Tryz.prog 3 70 tf3) := [rrT r3_4 4 rfl rfl,rrT r3_5 5 rfl rfl]
theorem x59_r : y59.map RR.den = Tryz.f59.results.toList := by kernel_rfl
theorem x59_k : okFn Tryz.f59 = true := by kernel_rfl
theorem x59_D : 3 = dep Tryz.f59.ntmps := by kernel_rfl
theorem x59_s : ([s3_0,s3_1] : List (Slot tf3)).map Slot.p = (List.range' 0 2).map (pth 3) := by kernel_rfl
def X59 : XFn Tryz.prog 4 (comp Tryz.prog) := ⟨X3,tf3,59,Tryz.f59,c59,3,70,[s3_0,s3_1],z3,x59,y59,x59_D,Tryz.ntmps59.symm,Tryz.func59,x59_b,x59_k,x59_s,by decide,z3_ok,x59_c,x59_r⟩
def x60_0 : List (Ins tf2) := [iMv r2_0 s2_3,iP1 bLen r2_3 s2_4,iAs r2_4 s2_2]
def x60_1 : List (Ins tf2) := [iMv r2_0 s2_5,iMv r2_2 s2_6,iMv r2_2 s2_7,iP1 (bCv .u64) r2_7 s2_8,iCall (rk (.func (.func 100) #[] #[])) [r2_8] (some s2_9),iCall (rk (.func (.func 99) #[] #[])) [r2_5,(rk (.int .i64 (.ofNat 0))),r2_6,r2_9] (some s2_10)]
def x60 : XC tf2 := (.rg x60_0 (.reg x60_1))
def c60 : Code := Tryz.f60.body.getD .skip
theorem x60_b : Tryz.f60.body = some c60 := by kernel_rfl
theorem x60_c : cG (comp Tryz.prog) 4 2 11 x60 c60 = x60.den := by kernel_rfl
def y60 : List (RR Tryz.prog 2 11 tf2) := []
theorem x60_r : y60.map RR.den = Tryz.f60.results.toList := by kernel_rfl
theorem x60_k : okFn Tryz.f60 = true := by kernel_rfl
theorem x60_D : 2 = dep Tryz.f60.ntmps := by kernel_rfl
theorem x60_s : ([s2_0] : List (Slot tf2)).map Slot.p = (List.range' 0 1).map (pth 2) := by kernel_rfl
def X60 : XFn Tryz.prog 4 (comp Tryz.prog) := ⟨X2,tf2,60,Tryz.f60,c60,2,11,[s2_0],z2,x60,y60,x60_D,Tryz.ntmps60.symm,Tryz.func60,x60_b,x60_k,x60_s,by decide,z2_ok,x60_c,x60_r⟩
def x61_0 : List (Ins tf2) := [iAs (rk (.int .i64 (.ofNat 0))) s2_6]
def x61_1 : List (Ins tf2) := [iMv r2_0 s2_9,iGp (l2 (pEqD (tdOf 60) false)) [r2_9,(rk (.pointer none))] (some s2_10)]
def x61_2 : List (Ins tf2) := [iAs (rk (.int .i64 (.ofNat 1))) s2_6]
def x61_3 : List (Ins tf2) := [iMv r2_2 s2_11,iP1 bLen r2_11 s2_12,iP2 bLt r2_12 (rk (.int .i64 (.ofNat 1))) s2_13,iMv r2_13 s2_14,iGd r2_14 [.o6,.o1] false (iMv r2_2 s2_15) (some s2_15) rfl rfl rfl,iGd r2_14 [.o6,.o1] false (iP1 bLen r2_15 s2_16) (some s2_16) rfl rfl rfl,iGd r2_14 [.o6,.o1] false (iP2 bGt r2_16 (rk (.int .i64 (.ofNat 32))) s2_17) (some s2_17) rfl rfl rfl,iGp (l3 pPick) [r2_14,(rk (.bool true)),r2_17] (some s2_18),iMv r2_18 s2_19,iGd r2_19 [.o3,.o2] false (iMv r2_1 s2_20) (some s2_20) rfl rfl rfl,iGd r2_19 [.o3,.o2] false (iP2 bLt r2_20 (rk (.int .i64 (.ofNat 0))) s2_21) (some s2_21) rfl rfl rfl,iGp (l3 pPick) [r2_19,(rk (.bool true)),r2_21] (some s2_22),iMv r2_22 s2_23,iGd r2_23 [.o7,.o2] false (iMv r2_1 s2_24) (some s2_24) rfl rfl rfl,iGd r2_23 [.o7,.o2] false (iMv r2_0 s2_25) (some s2_25) rfl rfl rfl,iGd r2_23 [.o7,.o2] false (iCall (rk (.func (.func 46) #[] #[])) [r2_25] (some s2_26)) (some s2_26) rfl rfl rfl,iGd r2_23 [.o7,.o2] false (iP2 bGe r2_24 r2_26 s2_27) (some s2_27) rfl rfl rfl,iGp (l3 pPick) [r2_23,(rk (.bool true)),r2_27] (some s2_28)]
def x61_4 : List (Ins tf2) := [iAs (rk (.int .i64 (.ofNat 3))) s2_6]
def x61_5 : List (Ins tf2) := [iMv r2_2 s2_29,iP1 bLen r2_29 s2_30,iMv (rk (.int .i64 (.ofNat 0))) s2_31]
def x61_6 : List (Ins tf2) := [iP2 bLt r2_31 r2_30 s2_32]
def x61_7 : List (Ins tf2) := [iP2 (bIxs 1) r2_29 r2_31 s2_33,iR1 bLd r2_33 s2_34,iAs r2_34 s2_8]
def x61_8 : List (Ins tf2) := [iMv r2_8 s2_35,iP2 bLt r2_35 (rk (.int .i64 (.ofNat 0))) s2_36,iMv r2_36 s2_37,iGd r2_37 [.o5,.o4] false (iMv r2_8 s2_38) (some s2_38) rfl rfl rfl,iGd r2_37 [.o5,.o4] false (iMv r2_0 s2_39) (some s2_39) rfl rfl rfl,iGd r2_37 [.o5,.o4] false (iCall (rk (.func (.func 46) #[] #[])) [r2_39] (some s2_40)) (some s2_40) rfl rfl rfl,iGd r2_37 [.o5,.o4] false (iP2 bGe r2_38 r2_40 s2_41) (some s2_41) rfl rfl rfl,iGp (l3 pPick) [r2_37,(rk (.bool true)),r2_41] (some s2_42)]
def x61_9 : List (Ins tf2) := [iAs (rk (.int .i64 (.ofNat 3))) s2_6]
def x61_10 : List (Ins tf2) := [iP2 bAdd r2_31 (rk (.int .i64 (.ofNat 1))) s2_43,iMv r2_43 s2_31]
def x61_11 : List (Ins tf2) := [iAs (rk (.int .i64 (.ofNat 0))) s2_6]
def x61 : XC tf2 := (.rg x61_0 (.seq (.rg x61_1 (.cond r2_10 (.rg x61_2 .ret) .skip)) (.seq (.rg x61_3 (.cond r2_28 (.rg x61_4 .ret) .skip)) (.seq (.rg x61_5 (.block 0 (.loop (.rg x61_6 (.seq (.cond r2_32 .skip (.exit 0)) (.seq (.block 1 (.rg x61_7 (.rg x61_8 (.cond r2_42 (.rg x61_9 .ret) .skip)))) (.reg x61_10))))))) (.rg x61_11 .ret)))))
def c61 : Code := Tryz.f61.body.getD .skip
theorem x61_b : Tryz.f61.body = some c61 := by kernel_rfl
theorem x61_c : cG (comp Tryz.prog) 4 2 44 x61 c61 = x61.den := by kernel_rfl
def y61 : List (RR Tryz.prog 2 44 tf2) := [rrT r2_6 6 rfl rfl]
theorem x61_r : y61.map RR.den = Tryz.f61.results.toList := by kernel_rfl
theorem x61_k : okFn Tryz.f61 = true := by kernel_rfl
theorem x61_D : 2 = dep Tryz.f61.ntmps := by kernel_rfl
theorem x61_s : ([s2_0,s2_1,s2_2] : List (Slot tf2)).map Slot.p = (List.range' 0 3).map (pth 2) := by kernel_rfl
def X61 : XFn Tryz.prog 4 (comp Tryz.prog) := ⟨X2,tf2,61,Tryz.f61,c61,2,44,[s2_0,s2_1,s2_2],z2,x61,y61,x61_D,Tryz.ntmps61.symm,Tryz.func61,x61_b,x61_k,x61_s,by decide,z2_ok,x61_c,x61_r⟩
def x62_0 : List (Ins tf2) := [iAs (rk (.int .i64 (.ofNat 0))) s2_6,iAs (rk (.int .i64 (.ofNat 0))) s2_7]
def x62_1 : List (Ins tf2) := [iR1 bLd r2_1 s2_8,iR1 bLd r2_2 s2_9,iR1 bLd r2_3 s2_10,iR1 bLd r2_4 s2_11,iMv r2_0 s2_12,iRc (iCall (rk (.func (.func 63) #[] #[])) [r2_9,r2_10,r2_11,r2_12] (some s2_13)) [(rcLd r2_1 r2_8 [.o0,.o1] rfl)] rfl,iCall (rk (.func (.func 54) #[] #[])) [r2_8,r2_13] (some s2_14),iGp (l1 (pExt 0)) [r2_14] (some s2_15),iGp (l1 (pExt 1)) [r2_14] (some s2_16),iAs r2_15 s2_6,iAs r2_16 s2_7]
def x62 : XC tf2 := (.rg x62_0 (.rg x62_1 .ret))
def c62 : Code := Tryz.f62.body.getD .skip
theorem x62_b : Tryz.f62.body = some c62 := by kernel_rfl
theorem x62_c : cG (comp Tryz.prog) 4 2 17 x62 c62 = x62.den := by kernel_rfl
def y62 : List (RR Tryz.prog 2 17 tf2) := [rrT r2_6 6 rfl rfl,rrT r2_7 7 rfl rfl]
theorem x62_r : y62.map RR.den = Tryz.f62.results.toList := by kernel_rfl
theorem x62_k : okFn Tryz.f62 = true := by kernel_rfl
theorem x62_D : 2 = dep Tryz.f62.ntmps := by kernel_rfl
theorem x62_s : ([s2_0,s2_1,s2_2,s2_3,s2_4] : List (Slot tf2)).map Slot.p = (List.range' 0 5).map (pth 2) := by kernel_rfl
def X62 : XFn Tryz.prog 4 (comp Tryz.prog) := ⟨X2,tf2,62,Tryz.f62,c62,2,17,[s2_0,s2_1,s2_2,s2_3,s2_4],z2,x62,y62,x62_D,Tryz.ntmps62.symm,Tryz.func62,x62_b,x62_k,x62_s,by decide,z2_ok,x62_c,x62_r⟩
def x63_0 : List (Ins tf2) := [iAs (rk (.int .i64 (.ofNat 0))) s2_8]
def x63_1 : List (Ins tf2) := [iMv r2_0 s2_9,iMv r2_2 s2_10,iMv r2_3 s2_11,iGp (l2 (pBin .quo)) [r2_11,(rk (.int .i64 (.ofNat 2)))] (some s2_12),iMv r2_2 s2_13,iP1 bLen r2_13 s2_14,iGp (l2 (pBin .rem)) [r2_12,r2_14] (some s2_15),iP2 (bIxs 1) r2_10 r2_15 s2_16,iR1 bLd r2_16 s2_17,iMv r2_1 s2_18,iCall (rk (.func (.func 40) #[] #[])) [r2_9,r2_17,r2_18] (some s2_19)]
def x63_2 : List (Ins tf2) := [iMv r2_3 s2_20,iAs r2_20 s2_8]
def x63_3 : List (Ins tf2) := [iMv r2_3 s2_21,iP2 bAdd r2_21 (rk (.int .i64 (.ofNat 1))) s2_22,iAs r2_22 s2_8]
def x63 : XC tf2 := (.rg x63_0 (.seq (.rg x63_1 (.cond r2_19 (.rg x63_2 .ret) .skip)) (.rg x63_3 .ret)))
def c63 : Code := Tryz.f63.body.getD .skip
theorem x63_b : Tryz.f63.body = some c63 := by kernel_rfl
theorem x63_c : cG (comp Tryz.prog) 4 2 23 x63 c63 = x63.den := by kernel_rfl
def y63 : List (RR Tryz.prog 2 23 tf2) := [rrT r2_8 8 rfl rfl]
theorem x63_r : y63.map RR.den = Tryz.f63.results.toList := by kernel_rfl
theorem x63_k : okFn Tryz.f63 = true := by kernel_rfl
theorem x63_D : 2 = dep Tryz.f63.ntmps := by kernel_rfl
theorem x63_s : ([s2_0,s2_1,s2_2,s2_3] : List (Slot tf2)).map Slot.p = (List.range' 0 4).map (pth 2) := by kernel_rfl
def X63 : XFn Tryz.prog 4 (comp Tryz.prog) := ⟨X2,tf2,63,Tryz.f63,c63,2,23,[s2_0,s2_1,s2_2,s2_3],z2,x63,y63,x63_D,Tryz.ntmps63.symm,Tryz.func63,x63_b,x63_k,x63_s,by decide,z2_ok,x63_c,x63_r⟩
def x65_0 : List (Ins tf2) := [iR1 bLd r2_1 s2_4,iR1 bLd r2_2 s2_5,iR1 bLd r2_1 s2_6,iMv r2_0 s2_7,iR1 bLd r2_1 s2_8,iRc (iCall (rk (.func (.func 30) #[] #[])) [r2_8,(rk (.int .u64 (.ofNat 0)))] (some s2_9)) [(rcLd r2_1 r2_6 [.o6,.o0] rfl),(rcLd r2_2 r2_5 [.o5,.o0] rfl),(rcLd r2_1 r2_4 [.o4,.o0] rfl)] rfl,iGa (aBsl 2 1 [(.int .i64 (.ofNat 0))] [(0,1),(1,1)]) [r2_7,r2_9] (some s2_10),iRc (iCall (rk (.func (.func 32) #[] #[])) [r2_6,(rk (.int .u8 (.ofNat 16))),r2_10] (some s2_11)) [(rcLd r2_2 r2_5 [.o5,.o0] rfl),(rcLd r2_1 r2_4 [.o4,.o0] rfl)] rfl,iGa (aBsl 2 1 [(.int .i64 (.ofNat 0))] [(0,1),(1,1)]) [r2_5,r2_11] (some s2_12),iCall (rk (.func (.func 32) #[] #[])) [r2_4,(rk (.int .u8 (.ofNat 9))),r2_12] (some s2_13),iM2 bSt r2_2 r2_13]
def x65 : XC tf2 := (.reg x65_0)
def c65 : Code := Tryz.f65.body.getD .skip
theorem x65_b : Tryz.f65.body = some c65 := by kernel_rfl
theorem x65_c : cG (comp Tryz.prog) 4 2 14 x65 c65 = x65.den := by kernel_rfl
def y65 : List (RR Tryz.prog 2 14 tf2) := []
theorem x65_r : y65.map RR.den = Tryz.f65.results.toList := by kernel_rfl
theorem x65_k : okFn Tryz.f65 = true := by kernel_rfl
theorem x65_D : 2 = dep Tryz.f65.ntmps := by kernel_rfl
theorem x65_s : ([s2_0,s2_1,s2_2] : List (Slot tf2)).map Slot.p = (List.range' 0 3).map (pth 2) := by kernel_rfl
def X65 : XFn Tryz.prog 4 (comp Tryz.prog) := ⟨X2,tf2,65,Tryz.f65,c65,2,14,[s2_0,s2_1,s2_2],z2,x65,y65,x65_D,Tryz.ntmps65.symm,Tryz.func65,x65_b,x65_k,x65_s,by decide,z2_ok,x65_c,x65_r⟩
def x66_0 : List (Ins tf3) := [iAs (rk (.int .i64 (.ofNat 0))) s3_6,iAs (rk (.int .i64 (.ofNat 0))) s3_7]
def x66_1 : List (Ins tf3) := [iMv r3_0 s3_19,iGp (l2 (pEqD (tdOf 34) false)) [r3_19,(rk (.pointer none))] (some s3_20)]
def x66_2 : List (Ins tf3) := [iAs (rk (.int .i64 (.ofNat 0))) s3_6,iAs (rk (.int .i64 (.ofNat 1))) s3_7]
def x66_3 : List (Ins tf3) := [iMv r3_1 s3_22,iCall (rk (.func (.func 97) #[] #[])) [r3_22] (some s3_23),iMv r3_23 s3_21,iGp (l1 (pExt 0)) [r3_21] (some s3_24),iGp (l1 (pExt 1)) [r3_21] (some s3_25),iAs r3_24 s3_8,iAs r3_25 s3_9]
def x66_4 : List (Ins tf3) := [iMv r3_9 s3_26,iP2 bNe r3_26 (rk (.int .i64 (.ofNat 0))) s3_27,iMv r3_27 s3_28,iGd r3_28 [.o4,.o3,.o0] false (iMv r3_8 s3_29) (some s3_29) rfl rfl rfl,iGd r3_28 [.o4,.o3,.o0] false (iP2 bEq r3_29 (rk (.int .i64 (.ofNat 0))) s3_30) (some s3_30) rfl rfl rfl,iGp (l3 pPick) [r3_28,(rk (.bool true)),r3_30] (some s3_31),iMv r3_31 s3_32,iGd r3_32 [.o0,.o4,.o0] false (iMv r3_8 s3_33) (some s3_33) rfl rfl rfl,iGd r3_32 [.o0,.o4,.o0] false (iMv r3_2 s3_34) (some s3_34) rfl rfl rfl,iGd r3_32 [.o0,.o4,.o0] false (iP1 bLen r3_34 s3_35) (some s3_35) rfl rfl rfl,iGd r3_32 [.o0,.o4,.o0] false (iP2 bNe r3_33 r3_35 s3_36) (some s3_36) rfl rfl rfl,iGp (l3 pPick) [r3_32,(rk (.bool true)),r3_36] (some s3_37)]
def x66_5 : List (Ins tf3) := [iAs (rk (.int .i64 (.ofNat 0))) s3_6,iAs (rk (.int .i64 (.ofNat 2))) s3_7]
def x66_6 : List (Ins tf3) := [iMv r3_0 s3_38,iMv r3_1 s3_39,iMv r3_2 s3_40,iMv r3_2 s3_42,iP1 bLen r3_42 s3_43,iGa (a2 (gMks 1 8 [(.int .u64 (.ofNat 0))])) [r3_43,r3_43] (some s3_44),iMv r3_2 s3_45,iP1 bLen r3_45 s3_46,iGa (a2 (gMks 1 1 [(.bool false)])) [r3_46,r3_46] (some s3_47),iGm (m2 (sApp 1)) [(rk (.slice none 0 0)),r3_40] (some s3_41),iGp (pBld [(.pointer none),(.int .u8 (.ofNat 0)),(.slice none 0 0),(.slice none 0 0),(.slice none 0 0)] [(0,1),(1,1),(2,1),(3,1),(4,1)]) [r3_38,r3_39,r3_41,r3_44,r3_47] (some s3_48),iGa (a1 gBox) [r3_48] (some s3_49),iAs r3_49 s3_10]
def x66_7 : List (Ins tf3) := [iAs (rk (.bool true)) s3_11]
def x66_8 : List (Ins tf3) := [iMv r3_2 s3_50,iP1 bLen r3_50 s3_51,iMv (rk (.int .i64 (.ofNat 0))) s3_52]
def x66_9 : List (Ins tf3) := [iP2 bLt r3_52 r3_51 s3_53]
def x66_10 : List (Ins tf3) := [iMv r3_52 s3_54,iP2 (bIxs 1) r3_50 r3_52 s3_55,iR1 bLd r3_55 s3_56,iAs r3_54 s3_12,iAs r3_56 s3_13]
def x66_11 : List (Ins tf3) := [iMv r3_13 s3_57,iP2 bLt r3_57 (rk (.int .i64 (.ofNat 0))) s3_58,iMv r3_58 s3_59,iGd r3_59 [.o3,.o7,.o0] false (iMv r3_13 s3_60) (some s3_60) rfl rfl rfl,iGd r3_59 [.o3,.o7,.o0] false (iMv r3_0 s3_61) (some s3_61) rfl rfl rfl,iGd r3_59 [.o3,.o7,.o0] false (iCall (rk (.func (.func 58) #[] #[])) [r3_61] (some s3_62)) (some s3_62) rfl rfl rfl,iGd r3_59 [.o3,.o7,.o0] false (iP2 bGe r3_60 r3_62 s3_63) (some s3_63) rfl rfl rfl,iGp (l3 pPick) [r3_59,(rk (.bool true)),r3_63] (some s3_64)]
def x66_12 : List (Ins tf3) := [iAs (rk (.int .i64 (.ofNat 0))) s3_6,iAs (rk (.int .i64 (.ofNat 3))) s3_7]
def x66_13 : List (Ins tf3) := [iMv r3_10 s3_66,iP1 bNil r3_66 s3_67,iP1 (bFa 3) r3_67 s3_68,iR1 bLd r3_68 s3_69,iMv r3_12 s3_70,iMv r3_10 s3_71,iP1 bNil r3_71 s3_72,iP1 (bFa 4) r3_72 s3_73,iR1 bLd r3_73 s3_74,iMv r3_12 s3_75,iMv r3_0 s3_76,iMv r3_13 s3_77,iRc (iCall (rk (.func (.func 103) #[] #[])) [r3_76,r3_77] (some s3_78)) [(rcLd r3_73 r3_74 [.o2,.o1,.o1] rfl),(rcLd r3_68 r3_69 [.o5,.o0,.o1] rfl)] rfl,iMv r3_78 s3_65,iGp (l1 (pExt 0)) [r3_65] (some s3_79),iGp (l1 (pExt 1)) [r3_65] (some s3_80),iP2 (bIxs 1) r3_69 r3_70 s3_81,iM2 bSt r3_81 r3_79,iP2 (bIxs 1) r3_74 r3_75 s3_82,iM2 bSt r3_82 r3_80]
def x66_14 : List (Ins tf3) := [iMv r3_11 s3_83,iMv r3_83 s3_84,iGd r3_84 [.o4,.o2,.o1] true (iMv r3_10 s3_85) (some s3_85) rfl rfl rfl,iGd r3_84 [.o4,.o2,.o1] true (iP1 bNil r3_85 s3_86) (some s3_86) rfl rfl rfl,iGd r3_84 [.o4,.o2,.o1] true (iP1 (bFa 4) r3_86 s3_87) (some s3_87) rfl rfl rfl,iGd r3_84 [.o4,.o2,.o1] true (iR1 bLd r3_87 s3_88) (some s3_88) rfl rfl rfl,iGd r3_84 [.o4,.o2,.o1] true (iMv r3_12 s3_89) (some s3_89) rfl rfl rfl,iGd r3_84 [.o4,.o2,.o1] true (iP2 (bIxs 1) r3_88 r3_89 s3_90) (some s3_90) rfl rfl rfl,iGd r3_84 [.o4,.o2,.o1] true (iR1 bLd r3_90 s3_91) (some s3_91) rfl rfl rfl,iGp (l3 pPick) [r3_84,r3_91,(rk (.bool false))] (some s3_92),iAs r3_92 s3_11]
def x66_15 : List (Ins tf3) := [iP2 bAdd r3_52 (rk (.int .i64 (.ofNat 1))) s3_93,iMv r3_93 s3_52]
def x66_16 : List (Ins tf3) := [iMv r3_11 s3_94]
def x66_17 : List (Ins tf3) := [iMv r3_1 s3_96,iMv r3_0 s3_97,iMv r3_10 s3_99,iP1 bNil r3_99 s3_100,iP1 (bFa 3) r3_100 s3_101,iR1 bLd r3_101 s3_102,iRc (iCall (rk (.func (.func 71) #[] #[])) [r3_97] (some s3_98)) [(rcLd r3_101 r3_102 [.o6,.o4,.o1] rfl)] rfl,iCall (rk (.func (.func 74) #[] #[])) [r3_96,r3_98,r3_102] (some s3_103),iMv r3_103 s3_95,iGp (l1 (pExt 0)) [r3_95] (some s3_104),iGp (l1 (pExt 1)) [r3_95] (some s3_105),iAs r3_104 s3_14,iAs r3_105 s3_15]
def x66_18 : List (Ins tf3) := [iMv r3_0 s3_106,iMv r3_14 s3_107,iCall (rk (.func (.func 52) #[] #[])) [r3_106,r3_107] (some s3_108),iGp (l1 (pExt 0)) [r3_108] (some s3_109),iGp (l1 (pExt 1)) [r3_108] (some s3_110),iAs r3_109 s3_6,iAs r3_110 s3_7]
def x66_19 : List (Ins tf3) := [iMv r3_1 s3_111,iCall (rk (.func (.func 104) #[] #[])) [r3_111] (some s3_112),iMv r3_112 s3_113,iGd r3_113 [.o1,.o6,.o1] true (iMv r3_10 s3_114) (some s3_114) rfl rfl rfl,iGd r3_113 [.o1,.o6,.o1] true (iP1 bNil r3_114 s3_115) (some s3_115) rfl rfl rfl,iGd r3_113 [.o1,.o6,.o1] true (iP1 (bFa 4) r3_115 s3_116) (some s3_116) rfl rfl rfl,iGd r3_113 [.o1,.o6,.o1] true (iR1 bLd r3_116 s3_117) (some s3_117) rfl rfl rfl,iGd r3_113 [.o1,.o6,.o1] true (iP2 (bIxs 1) r3_117 (rk (.int .i64 (.ofNat 0))) s3_118) (some s3_118) rfl rfl rfl,iGd r3_113 [.o1,.o6,.o1] true (iR1 bLd r3_118 s3_119) (some s3_119) rfl rfl rfl,iGd r3_113 [.o1,.o6,.o1] true (iMv r3_119 s3_120) (some s3_120) rfl rfl rfl,iGd r3_120 [.o0,.o7,.o1] false (iMv r3_10 s3_121) (some s3_121) rfl rfl rfl,iGd r3_120 [.o0,.o7,.o1] false (iP1 bNil r3_121 s3_122) (some s3_122) rfl rfl rfl,iGd r3_120 [.o0,.o7,.o1] false (iP1 (bFa 4) r3_122 s3_123) (some s3_123) rfl rfl rfl,iGd r3_120 [.o0,.o7,.o1] false (iR1 bLd r3_123 s3_124) (some s3_124) rfl rfl rfl,iGd r3_120 [.o0,.o7,.o1] false (iP2 (bIxs 1) r3_124 (rk (.int .i64 (.ofNat 1))) s3_125) (some s3_125) rfl rfl rfl,iGd r3_120 [.o0,.o7,.o1] false (iR1 bLd r3_125 s3_126) (some s3_126) rfl rfl rfl,iGd r3_120 [.o0,.o7,.o1] false (iGp (l1 (pUn .not)) [r3_126] (some s3_127)) (some s3_127) rfl rfl rfl,iGd r3_120 [.o0,.o7,.o1] false (iMv r3_127 s3_128) (some s3_128) rfl rfl rfl,iGd r3_128 [.o0,.o0,.o2] true (iMv r3_10 s3_129) (some s3_129) rfl rfl rfl,iGd r3_128 [.o0,.o0,.o2] true (iP1 bNil r3_129 s3_130) (some s3_130) rfl rfl rfl,iGd r3_128 [.o0,.o0,.o2] true (iP1 (bFa 2) r3_130 s3_131) (some s3_131) rfl rfl rfl,iGd r3_128 [.o0,.o0,.o2] true (iR1 bLd r3_131 s3_132) (some s3_132) rfl rfl rfl,iGd r3_128 [.o0,.o0,.o2] true (iP2 (bIxs 1) r3_132 (rk (.int .i64 (.ofNat 0))) s3_133) (some s3_133) rfl rfl rfl,iGd r3_128 [.o0,.o0,.o2] true (iR1 bLd r3_133 s3_134) (some s3_134) rfl rfl rfl,iGd r3_128 [.o0,.o0,.o2] true (iMv r3_10 s3_135) (some s3_135) rfl rfl rfl,iGd r3_128 [.o0,.o0,.o2] true (iP1 bNil r3_135 s3_136) (some s3_136) rfl rfl rfl,iGd r3_128 [.o0,.o0,.o2] true (iP1 (bFa 2) r3_136 s3_137) (some s3_137) rfl rfl rfl,iGd r3_128 [.o0,.o0,.o2] true (iR1 bLd r3_137 s3_138) (some s3_138) rfl rfl rfl,iGd r3_128 [.o0,.o0,.o2] true (iP2 (bIxs 1) r3_138 (rk (.int .i64 (.ofNat 1))) s3_139) (some s3_139) rfl rfl rfl,iGd r3_128 [.o0,.o0,.o2] true (iR1 bLd r3_139 s3_140) (some s3_140) rfl rfl rfl,iGd r3_128 [.o0,.o0,.o2] true (iP2 bGt r3_134 r3_140 s3_141) (some s3_141) rfl rfl rfl,iGd r3_120 [.o0,.o7,.o1] false (iGp (l3 pPick) [r3_128,r3_141,(rk (.bool false))] (some s3_142)) (some s3_142) rfl rfl rfl,iGd r3_113 [.o1,.o6,.o1] true (iGp (l3 pPick) [r3_120,(rk (.bool true)),r3_142] (some s3_143)) (some s3_143) rfl rfl rfl,iGp (l3 pPick) [r3_113,r3_143,(rk (.bool false))] (some s3_144)]
def x66_20 : List (Ins tf3) := [iMv r3_10 s3_145,iP1 bNil r3_145 s3_146,iP1 (bFa 2) r3_146 s3_147,iR1 bLd r3_147 s3_148,iMv r3_10 s3_149,iP1 bNil r3_149 s3_150,iP1 (bFa 2) r3_150 s3_151,iR1 bLd r3_151 s3_152,iMv r3_10 s3_153,iP1 bNil r3_153 s3_154,iP1 (bFa 2) r3_154 s3_155,iR1 bLd r3_155 s3_156,iP2 (bIxs 1) r3_156 (rk (.int .i64 (.ofNat 1))) s3_157,iR1 bLd r3_157 s3_158,iMv r3_10 s3_159,iP1 bNil r3_159 s3_160,iP1 (bFa 2) r3_160 s3_161,iR1 bLd r3_161 s3_162,iP2 (bIxs 1) r3_162 (rk (.int .i64 (.ofNat 0))) s3_163,iR1 bLd r3_163 s3_164,iP2 (bIxs 1) r3_148 (rk (.int .i64 (.ofNat 0))) s3_165,iM2 bSt r3_165 r3_158,iP2 (bIxs 1) r3_152 (rk (.int .i64 (.ofNat 1))) s3_166,iM2 bSt r3_166 r3_164]
def x66_21 : List (Ins tf3) := [iMv r3_10 s3_167,iP1 bNil r3_167 s3_168,iP1 (bFa 3) r3_168 s3_169,iR1 bLd r3_169 s3_170,iMv r3_10 s3_171,iP1 bNil r3_171 s3_172,iP1 (bFa 3) r3_172 s3_173,iR1 bLd r3_173 s3_174,iMv r3_10 s3_175,iP1 bNil r3_175 s3_176,iP1 (bFa 3) r3_176 s3_177,iR1 bLd r3_177 s3_178,iP2 (bIxs 1) r3_178 (rk (.int .i64 (.ofNat 1))) s3_179,iR1 bLd r3_179 s3_180,iMv r3_10 s3_181,iP1 bNil r3_181 s3_182,iP1 (bFa 3) r3_182 s3_183,iR1 bLd r3_183 s3_184,iP2 (bIxs 1) r3_184 (rk (.int .i64 (.ofNat 0))) s3_185,iR1 bLd r3_185 s3_186,iP2 (bIxs 1) r3_170 (rk (.int .i64 (.ofNat 0))) s3_187,iM2 bSt r3_187 r3_180,iP2 (bIxs 1) r3_174 (rk (.int .i64 (.ofNat 1))) s3_188,iM2 bSt r3_188 r3_186]
def x66_22 : List (Ins tf3) := [iMv r3_10 s3_189,iP1 bNil r3_189 s3_190,iP1 (bFa 4) r3_190 s3_191,iR1 bLd r3_191 s3_192,iMv r3_10 s3_193,iP1 bNil r3_193 s3_194,iP1 (bFa 4) r3_194 s3_195,iR1 bLd r3_195 s3_196,iMv r3_10 s3_197,iP1 bNil r3_197 s3_198,iP1 (bFa 4) r3_198 s3_199,iR1 bLd r3_199 s3_200,iP2 (bIxs 1) r3_200 (rk (.int .i64 (.ofNat 1))) s3_201,iR1 bLd r3_201 s3_202,iMv r3_10 s3_203,iP1 bNil r3_203 s3_204,iP1 (bFa 4) r3_204 s3_205,iR1 bLd r3_205 s3_206,iP2 (bIxs 1) r3_206 (rk (.int .i64 (.ofNat 0))) s3_207,iR1 bLd r3_207 s3_208,iP2 (bIxs 1) r3_192 (rk (.int .i64 (.ofNat 0))) s3_209,iM2 bSt r3_209 r3_202,iP2 (bIxs 1) r3_196 (rk (.int .i64 (.ofNat 1))) s3_210,iM2 bSt r3_210 r3_208]
def x66_23 : List (Ins tf3) := [iMv r3_1 s3_211,iCall (rk (.func (.func 105) #[] #[])) [r3_211] (some s3_212),iP1 bLen r3_212 s3_213,iMv (rk (.int .i64 (.ofNat 0))) s3_214]
def x66_24 : List (Ins tf3) := [iP2 bLt r3_214 r3_213 s3_215]
def x66_25 : List (Ins tf3) := [iP2 (bIxs 1) r3_212 r3_214 s3_216,iR1 bLd r3_216 s3_217,iAs r3_217 s3_17]
def x66_26 : List (Ins tf3) := [iMv r3_17 s3_218,iMv r3_10 s3_219,iCall r3_218 [r3_219] (some s3_220),iGa (aAl 3 [(.int .u8 (.ofNat 0)),(.int .i64 (.ofNat 0)),(.int .u64 (.ofNat 0))]) [] (some s3_18),iGm (m2 (sStn 3)) [r3_18,r3_220] none]
def x66_27 : List (Ins tf3) := [iP1 (bFa 0) r3_18 s3_221,iR1 bLd r3_221 s3_222]
def x66_28 : List (Ins tf3) := [iP2 bEq r3_222 (rk (.int .u8 (.ofNat 1))) s3_224,iAs r3_224 s3_223]
def x66_29 : List (Ins tf3) := [iP1 (bFa 1) r3_18 s3_225,iR1 bLd r3_225 s3_226,iAs r3_226 s3_6,iAs (rk (.int .i64 (.ofNat 0))) s3_7]
def x66_30 : List (Ins tf3) := [iP2 bEq r3_222 (rk (.int .u8 (.ofNat 2))) s3_228,iAs r3_228 s3_227]
def x66_31 : List (Ins tf3) := [iMv r3_0 s3_229,iP1 (bFa 2) r3_18 s3_230,iR1 bLd r3_230 s3_231,iCall (rk (.func (.func 52) #[] #[])) [r3_229,r3_231] (some s3_232),iGp (l1 (pExt 0)) [r3_232] (some s3_233),iGp (l1 (pExt 1)) [r3_232] (some s3_234),iAs r3_233 s3_6,iAs r3_234 s3_7]
def x66_32 : List (Ins tf3) := [iP2 bEq r3_222 (rk (.int .u8 (.ofNat 3))) s3_236,iAs r3_236 s3_235]
def x66_33 : List (Ins tf3) := [iMv r3_0 s3_237,iP1 (bFa 1) r3_18 s3_238,iR1 bLd r3_238 s3_239,iGa (aBsl 1 1 [(.int .i64 (.ofNat 0))] [(0,1)]) [r3_239] (some s3_240),iCall (rk (.func (.func 66) #[] #[])) [r3_237,(rk (.int .u8 (.ofNat 2))),r3_240] (some s3_241),iGp (l1 (pExt 0)) [r3_241] (some s3_242),iGp (l1 (pExt 1)) [r3_241] (some s3_243),iAs r3_242 s3_6,iAs r3_243 s3_7]
def x66_34 : List (Ins tf3) := [iP2 bAdd r3_214 (rk (.int .i64 (.ofNat 1))) s3_244,iMv r3_244 s3_214]
def x66_35 : List (Ins tf3) := [iMv r3_0 s3_245,iMv r3_1 s3_246,iMv r3_10 s3_247,iP1 bNil r3_247 s3_248,iP1 (bFa 2) r3_248 s3_249,iR1 bLd r3_249 s3_250,iCall (rk (.func (.func 56) #[] #[])) [r3_245,r3_246,r3_250] (some s3_251),iGp (l1 (pExt 0)) [r3_251] (some s3_252),iGp (l1 (pExt 1)) [r3_251] (some s3_253),iAs r3_252 s3_6,iAs r3_253 s3_7]
def x66_36 : XC tf3 := (.seq (.rg x66_19 (.cond r3_144 (.rg x66_20 (.rg x66_21 (.reg x66_22))) .skip)) (.seq (.rg x66_23 (.block 2 (.loop (.rg x66_24 (.seq (.cond r3_215 .skip (.exit 2)) (.seq (.block 3 (.rg x66_25 (.rg x66_26 (.rg x66_27 (.block 4 (.rg x66_28 (.cond r3_223 (.rg x66_29 .ret) (.rg x66_30 (.cond r3_227 (.rg x66_31 .ret) (.rg x66_32 (.cond r3_235 (.rg x66_33 .ret) .skip))))))))))) (.reg x66_34))))))) (.rg x66_35 .ret)))
def x66_37 : XC tf3 := (.seq (.rg x66_1 (.cond r3_20 (.rg x66_2 .ret) .skip)) (.seq (.rg x66_3 (.rg x66_4 (.cond r3_37 (.rg x66_5 .ret) .skip))) (.rg x66_6 (.rg x66_7 (.seq (.rg x66_8 (.block 0 (.loop (.rg x66_9 (.seq (.cond r3_53 .skip (.exit 0)) (.seq (.block 1 (.rg x66_10 (.seq (.rg x66_11 (.cond r3_64 (.rg x66_12 .ret) .skip)) (.rg x66_13 (.reg x66_14))))) (.reg x66_15))))))) (.seq (.rg x66_16 (.cond r3_94 (.rg x66_17 (.rg x66_18 .ret)) .skip)) x66_36))))))
def x66 : XC tf3 := (.rg x66_0 x66_37)
def c66 : Code := Tryz.f66.body.getD .skip
theorem x66_b : Tryz.f66.body = some c66 := by kernel_rfl
theorem x66_c : cG (comp Tryz.prog) 4 3 254 x66 c66 = x66.den := by kernel_rfl
def y66 : List (RR Tryz.prog 3 254 tf3) := [rrT r3_6 6 rfl rfl,rrT r3_7 7 rfl rfl]
theorem x66_r : y66.map RR.den = Tryz.f66.results.toList := by kernel_rfl
theorem x66_k : okFn Tryz.f66 = true := by kernel_rfl
theorem x66_D : 3 = dep Tryz.f66.ntmps := by kernel_rfl
theorem x66_s : ([s3_0,s3_1,s3_2] : List (Slot tf3)).map Slot.p = (List.range' 0 3).map (pth 3) := by kernel_rfl
def X66 : XFn Tryz.prog 4 (comp Tryz.prog) := ⟨X3,tf3,66,Tryz.f66,c66,3,254,[s3_0,s3_1,s3_2],z3,x66,y66,x66_D,Tryz.ntmps66.symm,Tryz.func66,x66_b,x66_k,x66_s,by decide,z3_ok,x66_c,x66_r⟩
def x70_0 : List (Ins tf2) := [iGa (aAl 3 [(.int .u8 (.ofNat 0)),(.int .u64 (.ofNat 0)),(.slice none 0 0)]) [] (some s2_4),iAs (rk (.int .i64 (.ofNat 0))) s2_5]
def x70_1 : List (Ins tf2) := [iMv r2_0 s2_7,iGp (l2 (pEqD (tdOf 34) false)) [r2_7,(rk (.pointer none))] (some s2_8)]
def x70_2 : List (Ins tf2) := [iGp (pBld [(.int .u8 (.ofNat 0)),(.int .u64 (.ofNat 0)),(.slice none 0 0)] []) [] (some s2_9),iGm (m2 (sStn 3)) [r2_4,r2_9] none,iAs (rk (.int .i64 (.ofNat 1))) s2_5]
def x70_3 : List (Ins tf2) := [iMv r2_1 s2_10,iP2 bLt r2_10 (rk (.int .i64 (.ofNat 0))) s2_11,iMv r2_11 s2_12,iGd r2_12 [.o4,.o1] false (iMv r2_1 s2_13) (some s2_13) rfl rfl rfl,iGd r2_12 [.o4,.o1] false (iMv r2_0 s2_14) (some s2_14) rfl rfl rfl,iGd r2_12 [.o4,.o1] false (iP1 bNil r2_14 s2_15) (some s2_15) rfl rfl rfl,iGd r2_12 [.o4,.o1] false (iP1 (bFa 2) r2_15 s2_16) (some s2_16) rfl rfl rfl,iGd r2_12 [.o4,.o1] false (iR1 bLd r2_16 s2_17) (some s2_17) rfl rfl rfl,iGd r2_12 [.o4,.o1] false (iP1 bLen r2_17 s2_18) (some s2_18) rfl rfl rfl,iGd r2_12 [.o4,.o1] false (iP2 bGe r2_13 r2_18 s2_19) (some s2_19) rfl rfl rfl,iGp (l3 pPick) [r2_12,(rk (.bool true)),r2_19] (some s2_20)]
def x70_4 : List (Ins tf2) := [iGp (pBld [(.int .u8 (.ofNat 0)),(.int .u64 (.ofNat 0)),(.slice none 0 0)] []) [] (some s2_21),iGm (m2 (sStn 3)) [r2_4,r2_21] none,iAs (rk (.int .i64 (.ofNat 3))) s2_5]
def x70_5 : List (Ins tf2) := [iMv r2_0 s2_22,iP1 bNil r2_22 s2_23,iP1 (bFa 2) r2_23 s2_24,iR1 bLd r2_24 s2_25,iMv r2_1 s2_26,iP2 (bIxs 3) r2_25 r2_26 s2_27,iGr (r1 (rLdn 3)) [r2_27] (some s2_28),iGa (aAl 3 [(.int .u8 (.ofNat 0)),(.int .u64 (.ofNat 0)),(.slice none 0 0)]) [] (some s2_6),iGm (m2 (sStn 3)) [r2_6,r2_28] none]
def x70_6 : List (Ins tf2) := [iP1 (bFa 2) r2_6 s2_29,iR1 bLd r2_29 s2_30,iGm (m2 (sApp 1)) [(rk (.slice none 0 0)),r2_30] (some s2_31),iP1 (bFa 2) r2_6 s2_32,iM2 bSt r2_32 r2_31]
def x70_7 : List (Ins tf2) := [iGr (r1 (rLdn 3)) [r2_6] (some s2_33),iGm (m2 (sStn 3)) [r2_4,r2_33] none,iAs (rk (.int .i64 (.ofNat 0))) s2_5]
def x70 : XC tf2 := (.rg x70_0 (.seq (.rg x70_1 (.cond r2_8 (.rg x70_2 .ret) .skip)) (.seq (.rg x70_3 (.cond r2_20 (.rg x70_4 .ret) .skip)) (.rg x70_5 (.rg x70_6 (.rg x70_7 .ret))))))
def c70 : Code := Tryz.f70.body.getD .skip
theorem x70_b : Tryz.f70.body = some c70 := by kernel_rfl
theorem x70_c : cG (comp Tryz.prog) 4 2 34 x70 c70 = x70.den := by kernel_rfl
def y70 : List (RR Tryz.prog 2 34 tf2) := [rrS (.cell 4 141),rrT r2_5 5 rfl rfl]
theorem x70_r : y70.map RR.den = Tryz.f70.results.toList := by kernel_rfl
theorem x70_k : okFn Tryz.f70 = true := by kernel_rfl
theorem x70_D : 2 = dep Tryz.f70.ntmps := by kernel_rfl
theorem x70_s : ([s2_0,s2_1] : List (Slot tf2)).map Slot.p = (List.range' 0 2).map (pth 2) := by kernel_rfl
def X70 : XFn Tryz.prog 4 (comp Tryz.prog) := ⟨X2,tf2,70,Tryz.f70,c70,2,34,[s2_0,s2_1],z2,x70,y70,x70_D,Tryz.ntmps70.symm,Tryz.func70,x70_b,x70_k,x70_s,by decide,z2_ok,x70_c,x70_r⟩
def x71_0 : List (Ins tf2) := [iAs (rk (.int .i64 (.ofNat 0))) s2_2]
def x71_1 : List (Ins tf2) := [iMv r2_0 s2_3,iGp (l2 (pEqD (tdOf 34) false)) [r2_3,(rk (.pointer none))] (some s2_4)]
def x71_2 : List (Ins tf2) := [iAs (rk (.int .i64 (.ofNat 0))) s2_2]
def x71_3 : List (Ins tf2) := [iMv r2_0 s2_5,iP1 bNil r2_5 s2_6,iP1 (bFa 0) r2_6 s2_7,iR1 bLd r2_7 s2_8,iAs r2_8 s2_2]
def x71 : XC tf2 := (.rg x71_0 (.seq (.rg x71_1 (.cond r2_4 (.rg x71_2 .ret) .skip)) (.rg x71_3 .ret)))
def c71 : Code := Tryz.f71.body.getD .skip
theorem x71_b : Tryz.f71.body = some c71 := by kernel_rfl
theorem x71_c : cG (comp Tryz.prog) 4 2 9 x71 c71 = x71.den := by kernel_rfl
def y71 : List (RR Tryz.prog 2 9 tf2) := [rrT r2_2 2 rfl rfl]
theorem x71_r : y71.map RR.den = Tryz.f71.results.toList := by kernel_rfl
theorem x71_k : okFn Tryz.f71 = true := by kernel_rfl
theorem x71_D : 2 = dep Tryz.f71.ntmps := by kernel_rfl
theorem x71_s : ([s2_0] : List (Slot tf2)).map Slot.p = (List.range' 0 1).map (pth 2) := by kernel_rfl
def X71 : XFn Tryz.prog 4 (comp Tryz.prog) := ⟨X2,tf2,71,Tryz.f71,c71,2,9,[s2_0],z2,x71,y71,x71_D,Tryz.ntmps71.symm,Tryz.func71,x71_b,x71_k,x71_s,by decide,z2_ok,x71_c,x71_r⟩
def x72_0 : List (Ins tf3) := [iGa (a1 gBox) [r3_0] (some s3_4),iAs (rk (.int .u64 (.ofNat 0))) s3_5]
def x72_1 : List (Ins tf3) := [iP1 (bFa 0) r3_4 s3_13,iR1 bLd r3_13 s3_14]
def x72_2 : List (Ins tf3) := [iP2 bEq r3_14 (rk (.int .u8 (.ofNat 0))) s3_16,iAs r3_16 s3_15]
def x72_3 : List (Ins tf3) := [iP1 (bFa 1) r3_4 s3_17,iR1 bLd r3_17 s3_18,iAs r3_18 s3_5]
def x72_4 : List (Ins tf3) := [iP2 bEq r3_14 (rk (.int .u8 (.ofNat 1))) s3_20,iAs r3_20 s3_19]
def x72_5 : List (Ins tf3) := [iP1 (bFa 1) r3_4 s3_21,iR1 bLd r3_21 s3_22,iR1 bLd r3_1 s3_23,iP1 bLen r3_23 s3_24,iP1 (bCv .u64) r3_24 s3_25,iP2 bGe r3_22 r3_25 s3_26]
def x72_6 : List (Ins tf3) := [iAs (rk (.int .u64 (.ofNat 0))) s3_5]
def x72_7 : List (Ins tf3) := [iR1 bLd r3_2 s3_28,iR1 bLd r3_1 s3_29,iP1 (bFa 1) r3_4 s3_30,iR1 bLd r3_30 s3_31,iP2 (bIxs 1) r3_29 r3_31 s3_32,iR1 bLd r3_32 s3_33,iCall (rk (.func (.func 73) #[] #[])) [r3_28,r3_33] (some s3_34),iMv r3_34 s3_27,iGp (l1 (pExt 0)) [r3_27] (some s3_35),iGp (l1 (pExt 1)) [r3_27] (some s3_36),iAs r3_35 s3_6,iAs r3_36 s3_7]
def x72_8 : List (Ins tf3) := [iMv r3_6 s3_37,iAs r3_37 s3_5]
def x72_9 : List (Ins tf3) := [iP1 (bFa 2) r3_4 s3_38,iR1 bLd r3_38 s3_39,iP1 bLen r3_39 s3_40,iGa (a2 (gMks 1 8 [(.int .u64 (.ofNat 0))])) [r3_40,r3_40] (some s3_41),iAs r3_41 s3_8]
def x72_10 : List (Ins tf3) := [iP1 (bFa 2) r3_4 s3_42,iR1 bLd r3_42 s3_43,iP1 bLen r3_43 s3_44,iMv (rk (.int .i64 (.ofNat 0))) s3_45]
def x72_11 : List (Ins tf3) := [iP2 bLt r3_45 r3_44 s3_46]
def x72_12 : List (Ins tf3) := [iMv r3_45 s3_47,iP2 (bIxs 1) r3_43 r3_45 s3_48,iR1 bLd r3_48 s3_49,iAs r3_47 s3_9,iAs r3_49 s3_10]
def x72_13 : List (Ins tf3) := [iMv r3_8 s3_50,iMv r3_9 s3_51,iR1 bLd r3_3 s3_52,iMv r3_10 s3_53,iP2 (bIxs 1) r3_52 r3_53 s3_54,iR1 bLd r3_54 s3_55,iP2 (bIxs 1) r3_50 r3_51 s3_56,iM2 bSt r3_56 r3_55]
def x72_14 : List (Ins tf3) := [iP2 bAdd r3_45 (rk (.int .i64 (.ofNat 1))) s3_57,iMv r3_57 s3_45]
def x72_15 : List (Ins tf3) := [iP1 (bFa 0) r3_4 s3_59,iR1 bLd r3_59 s3_60,iR1 bLd r3_2 s3_61,iMv r3_8 s3_62,iCall (rk (.func (.func 74) #[] #[])) [r3_60,r3_61,r3_62] (some s3_63),iMv r3_63 s3_58,iGp (l1 (pExt 0)) [r3_58] (some s3_64),iGp (l1 (pExt 1)) [r3_58] (some s3_65),iAs r3_64 s3_11,iAs r3_65 s3_12]
def x72_16 : List (Ins tf3) := [iMv r3_11 s3_66,iAs r3_66 s3_5]
def x72 : XC tf3 := (.rg x72_0 (.seq (.rg x72_1 (.block 0 (.rg x72_2 (.cond r3_15 (.rg x72_3 .ret) (.rg x72_4 (.cond r3_19 (.seq (.rg x72_5 (.cond r3_26 (.rg x72_6 .ret) .skip)) (.rg x72_7 (.rg x72_8 .ret))) .skip)))))) (.rg x72_9 (.seq (.rg x72_10 (.block 1 (.loop (.rg x72_11 (.seq (.cond r3_46 .skip (.exit 1)) (.seq (.block 2 (.rg x72_12 (.reg x72_13))) (.reg x72_14))))))) (.rg x72_15 (.rg x72_16 .ret))))))
def c72 : Code := Tryz.f72.body.getD .skip
theorem x72_b : Tryz.f72.body = some c72 := by kernel_rfl
theorem x72_c : cG (comp Tryz.prog) 4 3 67 x72 c72 = x72.den := by kernel_rfl
def y72 : List (RR Tryz.prog 3 67 tf3) := [rrT r3_5 5 rfl rfl]
theorem x72_r : y72.map RR.den = Tryz.f72.results.toList := by kernel_rfl
theorem x72_k : okFn Tryz.f72 = true := by kernel_rfl
theorem x72_D : 3 = dep Tryz.f72.ntmps := by kernel_rfl
theorem x72_s : ([s3_0,s3_1,s3_2,s3_3] : List (Slot tf3)).map Slot.p = (List.range' 0 4).map (pth 3) := by kernel_rfl
def X72 : XFn Tryz.prog 4 (comp Tryz.prog) := ⟨X3,tf3,72,Tryz.f72,c72,3,67,[s3_0,s3_1,s3_2,s3_3],z3,x72,y72,x72_D,Tryz.ntmps72.symm,Tryz.func72,x72_b,x72_k,x72_s,by decide,z3_ok,x72_c,x72_r⟩
def x73_0 : List (Ins tf2) := [iAs (rk (.int .u64 (.ofNat 0))) s2_4,iAs (rk (.int .i64 (.ofNat 0))) s2_5]
def x73_1 : List (Ins tf2) := [iMv r2_0 s2_7,iCall (rk (.func (.func 93) #[] #[])) [r2_7] (some s2_8),iAs r2_8 s2_6]
def x73_2 : List (Ins tf2) := [iMv r2_6 s2_9,iP2 bNe r2_9 (rk (.int .i64 (.ofNat 0))) s2_10]
def x73_3 : List (Ins tf2) := [iMv r2_6 s2_11,iAs (rk (.int .u64 (.ofNat 0))) s2_4,iAs r2_11 s2_5]
def x73_4 : List (Ins tf2) := [iMv r2_1 s2_12,iMv r2_0 s2_13,iCall (rk (.func (.func 107) #[] #[])) [r2_13] (some s2_14),iGp (l2 (pBin .and)) [r2_12,r2_14] (some s2_15),iAs r2_15 s2_4,iAs (rk (.int .i64 (.ofNat 0))) s2_5]
def x73 : XC tf2 := (.rg x73_0 (.seq (.rg x73_1 (.rg x73_2 (.cond r2_10 (.rg x73_3 .ret) .skip))) (.rg x73_4 .ret)))
def c73 : Code := Tryz.f73.body.getD .skip
theorem x73_b : Tryz.f73.body = some c73 := by kernel_rfl
theorem x73_c : cG (comp Tryz.prog) 4 2 16 x73 c73 = x73.den := by kernel_rfl
def y73 : List (RR Tryz.prog 2 16 tf2) := [rrT r2_4 4 rfl rfl,rrT r2_5 5 rfl rfl]
theorem x73_r : y73.map RR.den = Tryz.f73.results.toList := by kernel_rfl
theorem x73_k : okFn Tryz.f73 = true := by kernel_rfl
theorem x73_D : 2 = dep Tryz.f73.ntmps := by kernel_rfl
theorem x73_s : ([s2_0,s2_1] : List (Slot tf2)).map Slot.p = (List.range' 0 2).map (pth 2) := by kernel_rfl
def X73 : XFn Tryz.prog 4 (comp Tryz.prog) := ⟨X2,tf2,73,Tryz.f73,c73,2,16,[s2_0,s2_1],z2,x73,y73,x73_D,Tryz.ntmps73.symm,Tryz.func73,x73_b,x73_k,x73_s,by decide,z2_ok,x73_c,x73_r⟩
def x74_0 : List (Ins tf3) := [iAs (rk (.int .u64 (.ofNat 0))) s3_6,iAs (rk (.int .i64 (.ofNat 0))) s3_7]
def x74_1 : List (Ins tf3) := [iMv r3_1 s3_16,iCall (rk (.func (.func 93) #[] #[])) [r3_16] (some s3_17),iAs r3_17 s3_8]
def x74_2 : List (Ins tf3) := [iMv r3_8 s3_18,iP2 bNe r3_18 (rk (.int .i64 (.ofNat 0))) s3_19]
def x74_3 : List (Ins tf3) := [iMv r3_8 s3_20,iAs (rk (.int .u64 (.ofNat 0))) s3_6,iAs r3_20 s3_7]
def x74_4 : List (Ins tf3) := [iMv r3_0 s3_21,iP2 bLt r3_21 (rk (.int .u8 (.ofNat 2))) s3_22,iMv r3_22 s3_23,iGd r3_23 [.o7,.o2,.o0] false (iMv r3_0 s3_24) (some s3_24) rfl rfl rfl,iGd r3_23 [.o7,.o2,.o0] false (iP2 bGt r3_24 (rk (.int .u8 (.ofNat 21))) s3_25) (some s3_25) rfl rfl rfl,iGp (l3 pPick) [r3_23,(rk (.bool true)),r3_25] (some s3_26)]
def x74_5 : List (Ins tf3) := [iAs (rk (.int .u64 (.ofNat 0))) s3_6,iAs (rk (.int .i64 (.ofNat 3))) s3_7]
def x74_6 : List (Ins tf3) := [iMv r3_0 s3_28,iCall (rk (.func (.func 97) #[] #[])) [r3_28] (some s3_29),iMv r3_29 s3_27,iGp (l1 (pExt 0)) [r3_27] (some s3_30),iGp (l1 (pExt 1)) [r3_27] (some s3_31),iAs r3_30 s3_9,iAs r3_31 s3_10]
def x74_7 : List (Ins tf3) := [iMv r3_10 s3_32,iP2 bNe r3_32 (rk (.int .i64 (.ofNat 0))) s3_33]
def x74_8 : List (Ins tf3) := [iMv r3_10 s3_34,iAs (rk (.int .u64 (.ofNat 0))) s3_6,iAs r3_34 s3_7]
def x74_9 : List (Ins tf3) := [iMv r3_9 s3_35,iMv r3_2 s3_36,iP1 bLen r3_36 s3_37,iP2 bNe r3_35 r3_37 s3_38]
def x74_10 : List (Ins tf3) := [iAs (rk (.int .u64 (.ofNat 0))) s3_6,iAs (rk (.int .i64 (.ofNat 2))) s3_7]
def x74_11 : List (Ins tf3) := [iMv r3_1 s3_39,iAs r3_39 s3_11]
def x74_12 : List (Ins tf3) := [iGa (aAl 3 [(.int .u64 (.ofNat 0)),(.int .u64 (.ofNat 0)),(.int .u64 (.ofNat 0))]) [] (some s3_12)]
def x74_13 : List (Ins tf3) := [iMv r3_2 s3_40,iP1 bLen r3_40 s3_41,iMv (rk (.int .i64 (.ofNat 0))) s3_42]
def x74_14 : List (Ins tf3) := [iP2 bLt r3_42 r3_41 s3_43]
def x74_15 : List (Ins tf3) := [iMv r3_42 s3_44,iP2 (bIxs 1) r3_40 r3_42 s3_45,iR1 bLd r3_45 s3_46,iAs r3_44 s3_13,iAs r3_46 s3_14]
def x74_16 : List (Ins tf3) := [iMv r3_13 s3_47,iMv r3_14 s3_48,iMv r3_11 s3_49,iCall (rk (.func (.func 107) #[] #[])) [r3_49] (some s3_50),iGp (l2 (pBin .and)) [r3_48,r3_50] (some s3_51),iP2 (bIxa 3 1) r3_12 r3_47 s3_52,iM2 bSt r3_52 r3_51]
def x74_17 : List (Ins tf3) := [iP2 bAdd r3_42 (rk (.int .i64 (.ofNat 1))) s3_53,iMv r3_53 s3_42]
def x74_18 : List (Ins tf3) := [iAs (rk (.int .u64 (.ofNat 0))) s3_15]
def x74_19 : List (Ins tf3) := [iMv r3_0 s3_54]
def x74_20 : List (Ins tf3) := [iP2 bEq r3_54 (rk (.int .u8 (.ofNat 2))) s3_66,iAs r3_66 s3_65]
def x74_21 : List (Ins tf3) := [iP2 (bIxa 3 1) r3_12 (rk (.int .i64 (.ofNat 0))) s3_67,iR1 bLd r3_67 s3_68,iGp (l1 (pUn .xor)) [r3_68] (some s3_69),iAs r3_69 s3_15]
def x74_22 : List (Ins tf3) := [iP2 bEq r3_54 (rk (.int .u8 (.ofNat 3))) s3_71,iAs r3_71 s3_70]
def x74_23 : List (Ins tf3) := [iP2 (bIxa 3 1) r3_12 (rk (.int .i64 (.ofNat 0))) s3_72,iR1 bLd r3_72 s3_73,iGp (l1 (pUn .neg)) [r3_73] (some s3_74),iAs r3_74 s3_15]
def x74_24 : List (Ins tf3) := [iP2 bEq r3_54 (rk (.int .u8 (.ofNat 21))) s3_76,iAs r3_76 s3_75]
def x74_25 : List (Ins tf3) := [iP2 (bIxa 3 1) r3_12 (rk (.int .i64 (.ofNat 2))) s3_77,iR1 bLd r3_77 s3_78,iAs r3_78 s3_15]
def x74_26 : List (Ins tf3) := [iP2 (bIxa 3 1) r3_12 (rk (.int .i64 (.ofNat 0))) s3_79,iR1 bLd r3_79 s3_80,iP2 bNe r3_80 (rk (.int .u64 (.ofNat 0))) s3_81]
def x74_27 : List (Ins tf3) := [iP2 (bIxa 3 1) r3_12 (rk (.int .i64 (.ofNat 1))) s3_82,iR1 bLd r3_82 s3_83,iAs r3_83 s3_15]
def x74_28 : List (Ins tf3) := [iMv r3_0 s3_56,iMv r3_11 s3_59,iP2 (bIxa 3 1) r3_12 (rk (.int .i64 (.ofNat 0))) s3_60,iR1 bLd r3_60 s3_61,iP2 (bIxa 3 1) r3_12 (rk (.int .i64 (.ofNat 1))) s3_62,iR1 bLd r3_62 s3_63,iRc (iCall (rk (.func (.func 108) #[] #[])) [] (some s3_55)) [(rcLd r3_62 r3_63 [.o7,.o7,.o0] rfl),(rcLd r3_60 r3_61 [.o5,.o7,.o0] rfl)] rfl,iGp (l2 (pIx 22 (some 1) 1)) [r3_55,r3_56] (some s3_57),iGp (l1 (pFld none 0)) [r3_57] (some s3_58),iCall r3_58 [r3_59,r3_61,r3_63] (some s3_64),iAs r3_64 s3_15]
def x74_29 : List (Ins tf3) := [iMv r3_15 s3_84,iMv r3_11 s3_85,iCall (rk (.func (.func 107) #[] #[])) [r3_85] (some s3_86),iGp (l2 (pBin .and)) [r3_84,r3_86] (some s3_87),iAs r3_87 s3_6,iAs (rk (.int .i64 (.ofNat 0))) s3_7]
def x74_30 : XC tf3 := (.rg x74_12 (.seq (.rg x74_13 (.block 0 (.loop (.rg x74_14 (.seq (.cond r3_43 .skip (.exit 0)) (.seq (.block 1 (.rg x74_15 (.reg x74_16))) (.reg x74_17))))))) (.rg x74_18 (.seq (.rg x74_19 (.block 2 (.rg x74_20 (.cond r3_65 (.reg x74_21) (.rg x74_22 (.cond r3_70 (.reg x74_23) (.rg x74_24 (.cond r3_75 (.rg x74_25 (.rg x74_26 (.cond r3_81 (.reg x74_27) .skip))) (.reg x74_28))))))))) (.rg x74_29 .ret)))))
def x74 : XC tf3 := (.rg x74_0 (.seq (.rg x74_1 (.rg x74_2 (.cond r3_19 (.rg x74_3 .ret) .skip))) (.seq (.rg x74_4 (.cond r3_26 (.rg x74_5 .ret) .skip)) (.rg x74_6 (.seq (.rg x74_7 (.cond r3_33 (.rg x74_8 .ret) .skip)) (.seq (.rg x74_9 (.cond r3_38 (.rg x74_10 .ret) .skip)) (.rg x74_11 x74_30)))))))
def c74 : Code := Tryz.f74.body.getD .skip
theorem x74_b : Tryz.f74.body = some c74 := by kernel_rfl
theorem x74_c : cG (comp Tryz.prog) 4 3 88 x74 c74 = x74.den := by kernel_rfl
def y74 : List (RR Tryz.prog 3 88 tf3) := [rrT r3_6 6 rfl rfl,rrT r3_7 7 rfl rfl]
theorem x74_r : y74.map RR.den = Tryz.f74.results.toList := by kernel_rfl
theorem x74_k : okFn Tryz.f74 = true := by kernel_rfl
theorem x74_D : 3 = dep Tryz.f74.ntmps := by kernel_rfl
theorem x74_s : ([s3_0,s3_1,s3_2] : List (Slot tf3)).map Slot.p = (List.range' 0 3).map (pth 3) := by kernel_rfl
def X74 : XFn Tryz.prog 4 (comp Tryz.prog) := ⟨X3,tf3,74,Tryz.f74,c74,3,88,[s3_0,s3_1,s3_2],z3,x74,y74,x74_D,Tryz.ntmps74.symm,Tryz.func74,x74_b,x74_k,x74_s,by decide,z3_ok,x74_c,x74_r⟩
def x83_0 : List (Ins tf2) := [iAs (rk (.bool false)) s2_4]
def x83_1 : List (Ins tf2) := [iMv r2_0 s2_5,iGp (l2 (pEqD (tdOf 60) true)) [r2_5,(rk (.pointer none))] (some s2_6),iMv r2_6 s2_7,iGd r2_7 [.o7,.o0] true (iMv r2_1 s2_8) (some s2_8) rfl rfl rfl,iGd r2_7 [.o7,.o0] true (iP2 bGe r2_8 (rk (.int .i64 (.ofNat 0))) s2_9) (some s2_9) rfl rfl rfl,iGp (l3 pPick) [r2_7,r2_9,(rk (.bool false))] (some s2_10),iMv r2_10 s2_11,iGd r2_11 [.o3,.o1] true (iMv r2_1 s2_12) (some s2_12) rfl rfl rfl,iGd r2_11 [.o3,.o1] true (iMv r2_0 s2_13) (some s2_13) rfl rfl rfl,iGd r2_11 [.o3,.o1] true (iP1 bNil r2_13 s2_14) (some s2_14) rfl rfl rfl,iGd r2_11 [.o3,.o1] true (iP1 (bFa 0) r2_14 s2_15) (some s2_15) rfl rfl rfl,iGd r2_11 [.o3,.o1] true (iR1 bLd r2_15 s2_16) (some s2_16) rfl rfl rfl,iGd r2_11 [.o3,.o1] true (iP2 bLt r2_12 r2_16 s2_17) (some s2_17) rfl rfl rfl,iGp (l3 pPick) [r2_11,r2_17,(rk (.bool false))] (some s2_18),iAs r2_18 s2_4]
def x83 : XC tf2 := (.rg x83_0 (.rg x83_1 .ret))
def c83 : Code := Tryz.f83.body.getD .skip
theorem x83_b : Tryz.f83.body = some c83 := by kernel_rfl
theorem x83_c : cG (comp Tryz.prog) 4 2 19 x83 c83 = x83.den := by kernel_rfl
def y83 : List (RR Tryz.prog 2 19 tf2) := [rrT r2_4 4 rfl rfl]
theorem x83_r : y83.map RR.den = Tryz.f83.results.toList := by kernel_rfl
theorem x83_k : okFn Tryz.f83 = true := by kernel_rfl
theorem x83_D : 2 = dep Tryz.f83.ntmps := by kernel_rfl
theorem x83_s : ([s2_0,s2_1] : List (Slot tf2)).map Slot.p = (List.range' 0 2).map (pth 2) := by kernel_rfl
def X83 : XFn Tryz.prog 4 (comp Tryz.prog) := ⟨X2,tf2,83,Tryz.f83,c83,2,19,[s2_0,s2_1],z2,x83,y83,x83_D,Tryz.ntmps83.symm,Tryz.func83,x83_b,x83_k,x83_s,by decide,z2_ok,x83_c,x83_r⟩
def x85_0 : List (Ins tf1) := [iGa (aAl 2 [(.int .i64 (.ofNat 0)),(.int .u64 (.ofNat 0))]) [] (some s1_2)]
def x85_1 : List (Ins tf1) := [iMv r1_0 s1_3,iGp (pBld [(.int .i64 (.ofNat 0)),(.int .u64 (.ofNat 0))] [(0,1),(1,1)]) [(rk (.int .i64 (.negSucc 0))),r1_3] (some s1_4),iGm (m2 (sStn 2)) [r1_2,r1_4] none]
def x85 : XC tf1 := (.rg x85_0 (.rg x85_1 .ret))
def c85 : Code := Tryz.f85.body.getD .skip
theorem x85_b : Tryz.f85.body = some c85 := by kernel_rfl
theorem x85_c : cG (comp Tryz.prog) 4 1 5 x85 c85 = x85.den := by kernel_rfl
def y85 : List (RR Tryz.prog 1 5 tf1) := [rrS (.cell 2 171)]
theorem x85_r : y85.map RR.den = Tryz.f85.results.toList := by kernel_rfl
theorem x85_k : okFn Tryz.f85 = true := by kernel_rfl
theorem x85_D : 1 = dep Tryz.f85.ntmps := by kernel_rfl
theorem x85_s : ([s1_0] : List (Slot tf1)).map Slot.p = (List.range' 0 1).map (pth 1) := by kernel_rfl
def X85 : XFn Tryz.prog 4 (comp Tryz.prog) := ⟨X1,tf1,85,Tryz.f85,c85,1,5,[s1_0],z1,x85,y85,x85_D,Tryz.ntmps85.symm,Tryz.func85,x85_b,x85_k,x85_s,by decide,z1_ok,x85_c,x85_r⟩
def x86_0 : List (Ins tf3) := [iGa (a1 gBox) [r3_0] (some s3_1),iAs (rk (.int .i64 (.ofNat 0))) s3_2]
def x86_1 : List (Ins tf3) := [iP1 (bFa 0) r3_1 s3_9,iR1 bLd r3_9 s3_10,iP2 bGe r3_10 (rk (.int .i64 (.ofNat 1))) s3_11,iMv r3_11 s3_12,iGd r3_12 [.o4,.o1,.o0] true (iP1 (bFa 0) r3_1 s3_13) (some s3_13) rfl rfl rfl,iGd r3_12 [.o4,.o1,.o0] true (iR1 bLd r3_13 s3_14) (some s3_14) rfl rfl rfl,iGd r3_12 [.o4,.o1,.o0] true (iP2 bLe r3_14 (rk (.int .i64 (.ofNat 64))) s3_15) (some s3_15) rfl rfl rfl,iGp (l3 pPick) [r3_12,r3_15,(rk (.bool false))] (some s3_16),iMv r3_16 s3_17,iGd r3_17 [.o1,.o2,.o0] true (iP1 (bFa 1) r3_1 s3_18) (some s3_18) rfl rfl rfl,iGd r3_17 [.o1,.o2,.o0] true (iR1 bLd r3_18 s3_19) (some s3_19) rfl rfl rfl,iGd r3_17 [.o1,.o2,.o0] true (iP2 bGe r3_19 (rk (.int .i64 (.ofNat 0))) s3_20) (some s3_20) rfl rfl rfl,iGp (l3 pPick) [r3_17,r3_20,(rk (.bool false))] (some s3_21),iMv r3_21 s3_22,iGd r3_22 [.o6,.o2,.o0] true (iP1 (bFa 1) r3_1 s3_23) (some s3_23) rfl rfl rfl,iGd r3_22 [.o6,.o2,.o0] true (iR1 bLd r3_23 s3_24) (some s3_24) rfl rfl rfl,iGd r3_22 [.o6,.o2,.o0] true (iP2 bLe r3_24 (rk (.int .i64 (.ofNat 2097152))) s3_25) (some s3_25) rfl rfl rfl,iGp (l3 pPick) [r3_22,r3_25,(rk (.bool false))] (some s3_26),iMv r3_26 s3_27,iGd r3_27 [.o3,.o3,.o0] true (iP1 (bFa 2) r3_1 s3_28) (some s3_28) rfl rfl rfl,iGd r3_27 [.o3,.o3,.o0] true (iR1 bLd r3_28 s3_29) (some s3_29) rfl rfl rfl,iGd r3_27 [.o3,.o3,.o0] true (iCall (rk (.func (.func 114) #[] #[])) [r3_29] (some s3_30)) (some s3_30) rfl rfl rfl,iGp (l3 pPick) [r3_27,r3_30,(rk (.bool false))] (some s3_31),iMv r3_31 s3_32,iGd r3_32 [.o0,.o4,.o0] true (iP1 (bFa 3) r3_1 s3_33) (some s3_33) rfl rfl rfl,iGd r3_32 [.o0,.o4,.o0] true (iR1 bLd r3_33 s3_34) (some s3_34) rfl rfl rfl,iGd r3_32 [.o0,.o4,.o0] true (iCall (rk (.func (.func 114) #[] #[])) [r3_34] (some s3_35)) (some s3_35) rfl rfl rfl,iGp (l3 pPick) [r3_32,r3_35,(rk (.bool false))] (some s3_36),iAs r3_36 s3_3]
def x86_2 : List (Ins tf3) := [iMv r3_3 s3_37,iGp (l1 (pUn .not)) [r3_37] (some s3_38),iMv r3_38 s3_39,iGd r3_39 [.o7,.o4,.o0] false (iP1 (bFa 4) r3_1 s3_40) (some s3_40) rfl rfl rfl,iGd r3_39 [.o7,.o4,.o0] false (iR1 bLd r3_40 s3_41) (some s3_41) rfl rfl rfl,iGd r3_39 [.o7,.o4,.o0] false (iP1 bLen r3_41 s3_42) (some s3_42) rfl rfl rfl,iGd r3_39 [.o7,.o4,.o0] false (iP2 bGt r3_42 (rk (.int .i64 (.ofNat 32))) s3_43) (some s3_43) rfl rfl rfl,iGp (l3 pPick) [r3_39,(rk (.bool true)),r3_43] (some s3_44),iMv r3_44 s3_45,iGd r3_45 [.o5,.o5,.o0] false (iP1 (bFa 5) r3_1 s3_46) (some s3_46) rfl rfl rfl,iGd r3_45 [.o5,.o5,.o0] false (iR1 bLd r3_46 s3_47) (some s3_47) rfl rfl rfl,iGd r3_45 [.o5,.o5,.o0] false (iP1 bLen r3_47 s3_48) (some s3_48) rfl rfl rfl,iGd r3_45 [.o5,.o5,.o0] false (iP2 bLt r3_48 (rk (.int .i64 (.ofNat 1))) s3_49) (some s3_49) rfl rfl rfl,iGp (l3 pPick) [r3_45,(rk (.bool true)),r3_49] (some s3_50),iMv r3_50 s3_51,iGd r3_51 [.o3,.o6,.o0] false (iP1 (bFa 5) r3_1 s3_52) (some s3_52) rfl rfl rfl,iGd r3_51 [.o3,.o6,.o0] false (iR1 bLd r3_52 s3_53) (some s3_53) rfl rfl rfl,iGd r3_51 [.o3,.o6,.o0] false (iP1 bLen r3_53 s3_54) (some s3_54) rfl rfl rfl,iGd r3_51 [.o3,.o6,.o0] false (iP2 bGt r3_54 (rk (.int .i64 (.ofNat 4096))) s3_55) (some s3_55) rfl rfl rfl,iGp (l3 pPick) [r3_51,(rk (.bool true)),r3_55] (some s3_56)]
def x86_3 : List (Ins tf3) := [iAs (rk (.int .i64 (.ofNat 2))) s3_2]
def x86_4 : List (Ins tf3) := [iP1 (bFa 4) r3_1 s3_57,iR1 bLd r3_57 s3_58,iP1 bLen r3_58 s3_59,iMv (rk (.int .i64 (.ofNat 0))) s3_60]
def x86_5 : List (Ins tf3) := [iP2 bLt r3_60 r3_59 s3_61]
def x86_6 : List (Ins tf3) := [iP2 (bIxs 1) r3_58 r3_60 s3_62,iR1 bLd r3_62 s3_63,iAs r3_63 s3_5]
def x86_7 : List (Ins tf3) := [iMv r3_5 s3_64,iP2 bLt r3_64 (rk (.int .i64 (.ofNat 1))) s3_65,iMv r3_65 s3_66,iGd r3_66 [.o2,.o0,.o1] false (iMv r3_5 s3_67) (some s3_67) rfl rfl rfl,iGd r3_66 [.o2,.o0,.o1] false (iP2 bGt r3_67 (rk (.int .i64 (.ofNat 64))) s3_68) (some s3_68) rfl rfl rfl,iGp (l3 pPick) [r3_66,(rk (.bool true)),r3_68] (some s3_69)]
def x86_8 : List (Ins tf3) := [iAs (rk (.int .i64 (.ofNat 2))) s3_2]
def x86_9 : List (Ins tf3) := [iP2 bAdd r3_60 (rk (.int .i64 (.ofNat 1))) s3_70,iMv r3_70 s3_60]
def x86_10 : List (Ins tf3) := [iP1 (bFa 5) r3_1 s3_71,iR1 bLd r3_71 s3_72,iP1 bLen r3_72 s3_73,iMv (rk (.int .i64 (.ofNat 0))) s3_74]
def x86_11 : List (Ins tf3) := [iP2 bLt r3_74 r3_73 s3_75]
def x86_12 : List (Ins tf3) := [iP2 (bIxs 8) r3_72 r3_74 s3_76,iGr (r1 (rLdn 8)) [r3_76] (some s3_77),iGa (aAl 8 [(.int .u8 (.ofNat 0)),(.int .u8 (.ofNat 0)),(.int .i64 (.ofNat 0)),(.int .i64 (.ofNat 0)),(.int .i64 (.ofNat 0)),(.int .u64 (.ofNat 0)),(.int .i64 (.ofNat 0)),(.int .u64 (.ofNat 0))]) [] (some s3_7),iGm (m2 (sStn 8)) [r3_7,r3_77] none]
def x86_13 : List (Ins tf3) := [iGr (r1 (rLdn 6)) [r3_1] (some s3_78),iGr (r1 (rLdn 8)) [r3_7] (some s3_79),iCall (rk (.func (.func 115) #[] #[])) [r3_78,r3_79] (some s3_80),iGp (l1 (pUn .not)) [r3_80] (some s3_81)]
def x86_14 : List (Ins tf3) := [iAs (rk (.int .i64 (.ofNat 2))) s3_2]
def x86_15 : List (Ins tf3) := [iP2 bAdd r3_74 (rk (.int .i64 (.ofNat 1))) s3_82,iMv r3_82 s3_74]
def x86_16 : List (Ins tf3) := [iP1 (bFa 5) r3_1 s3_83,iR1 bLd r3_83 s3_84,iP1 (bFa 5) r3_1 s3_85,iR1 bLd r3_85 s3_86,iP1 bLen r3_86 s3_87,iP2 bSub r3_87 (rk (.int .i64 (.ofNat 1))) s3_88,iP2 (bIxs 8) r3_84 r3_88 s3_89,iP1 (bFa 0) r3_89 s3_90,iR1 bLd r3_90 s3_91,iAs r3_91 s3_8]
def x86_17 : List (Ins tf3) := [iMv r3_8 s3_92,iP2 bNe r3_92 (rk (.int .u8 (.ofNat 9))) s3_93,iMv r3_93 s3_94,iGd r3_94 [.o6,.o3,.o1] true (iMv r3_8 s3_95) (some s3_95) rfl rfl rfl,iGd r3_94 [.o6,.o3,.o1] true (iP2 bNe r3_95 (rk (.int .u8 (.ofNat 7))) s3_96) (some s3_96) rfl rfl rfl,iGp (l3 pPick) [r3_94,r3_96,(rk (.bool false))] (some s3_97)]
def x86_18 : List (Ins tf3) := [iAs (rk (.int .i64 (.ofNat 2))) s3_2]
def x86_19 : List (Ins tf3) := [iAs (rk (.int .i64 (.ofNat 0))) s3_2]
def x86_20 : XC tf3 := (.seq (.rg x86_4 (.block 0 (.loop (.rg x86_5 (.seq (.cond r3_61 .skip (.exit 0)) (.seq (.block 1 (.rg x86_6 (.rg x86_7 (.cond r3_69 (.rg x86_8 .ret) .skip)))) (.reg x86_9))))))) (.seq (.rg x86_10 (.block 2 (.loop (.rg x86_11 (.seq (.cond r3_75 .skip (.exit 2)) (.seq (.block 3 (.rg x86_12 (.rg x86_13 (.cond r3_81 (.rg x86_14 .ret) .skip)))) (.reg x86_15))))))) (.seq (.rg x86_16 (.rg x86_17 (.cond r3_97 (.rg x86_18 .ret) .skip))) (.rg x86_19 .ret))))
def x86 : XC tf3 := (.rg x86_0 (.rg x86_1 (.seq (.rg x86_2 (.cond r3_56 (.rg x86_3 .ret) .skip)) x86_20)))
def c86 : Code := Tryz.f86.body.getD .skip
theorem x86_b : Tryz.f86.body = some c86 := by kernel_rfl
theorem x86_c : cG (comp Tryz.prog) 4 3 98 x86 c86 = x86.den := by kernel_rfl
def y86 : List (RR Tryz.prog 3 98 tf3) := [rrT r3_2 2 rfl rfl]
theorem x86_r : y86.map RR.den = Tryz.f86.results.toList := by kernel_rfl
theorem x86_k : okFn Tryz.f86 = true := by kernel_rfl
theorem x86_D : 3 = dep Tryz.f86.ntmps := by kernel_rfl
theorem x86_s : ([s3_0] : List (Slot tf3)).map Slot.p = (List.range' 0 1).map (pth 3) := by kernel_rfl
def X86 : XFn Tryz.prog 4 (comp Tryz.prog) := ⟨X3,tf3,86,Tryz.f86,c86,3,98,[s3_0],z3,x86,y86,x86_D,Tryz.ntmps86.symm,Tryz.func86,x86_b,x86_k,x86_s,by decide,z3_ok,x86_c,x86_r⟩
end
end Cr
end Go.Proofs.YtjhbabgcoemecaaGreatDoor
