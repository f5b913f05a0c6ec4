/- A machine for closed runs: for the compiled functions. (and what follows on it). -/
import Derived.Test.YtjhbabgcoemecaaDoorProg
import Derived.Test.YtjhbabgcoemecaaDoorK3
import Derived.KernelRfl
namespace Go.Proofs.YtjhbabgcoemecaaDoor
namespace Cr
open Go Go.RowKit
noncomputable def tdOf (t : TypeId) : TypeDesc := (Tryd.prog.underlying t).getD .bool
end Cr
end Go.Proofs.YtjhbabgcoemecaaDoor
namespace Go.Proofs.YtjhbabgcoemecaaDoor
namespace Cr
open Go Go.RowKit
set_option maxRecDepth 100000
noncomputable section
def x11_0 : List (Ins tf2) := [iAs (rk (.int .i64 (.ofNat 0))) s2_6,iAs (rk (.int .i64 (.ofNat 0))) s2_7]
def x11_1 : List (Ins tf2) := [iMv r2_0 s2_8,iP2 bLt r2_8 (rk (.int .i64 (.ofNat 1))) s2_9,iMv r2_9 s2_10,iGd r2_10 [.o2,.o1] false (iMv r2_0 s2_11) (some s2_11) rfl rfl rfl,iGd r2_10 [.o2,.o1] false (iP2 bGt r2_11 (rk (.int .i64 (.ofNat 32))) s2_12) (some s2_12) rfl rfl rfl,iGp (l3 pPick) [r2_10,(rk (.bool true)),r2_12] (some s2_13),iMv r2_13 s2_14,iGd r2_14 [.o6,.o1] false (iMv r2_1 s2_15) (some s2_15) rfl rfl rfl,iGd r2_14 [.o6,.o1] false (iP2 bLt r2_15 (rk (.int .i64 (.ofNat 0))) s2_16) (some s2_16) rfl rfl rfl,iGp (l3 pPick) [r2_14,(rk (.bool true)),r2_16] (some s2_17),iMv r2_17 s2_18,iGd r2_18 [.o2,.o2] false (iMv r2_1 s2_19) (some s2_19) rfl rfl rfl,iGd r2_18 [.o2,.o2] false (iMv r2_0 s2_20) (some s2_20) rfl rfl rfl,iGd r2_18 [.o2,.o2] false (iP2 bGe r2_19 r2_20 s2_21) (some s2_21) rfl rfl rfl,iGp (l3 pPick) [r2_18,(rk (.bool true)),r2_21] (some s2_22),iMv r2_22 s2_23,iGd r2_23 [.o7,.o2] false (iMv r2_2 s2_24) (some s2_24) rfl rfl rfl,iGd r2_23 [.o7,.o2] false (iP2 bLt r2_24 (rk (.int .i64 (.ofNat 0))) s2_25) (some s2_25) rfl rfl rfl,iGp (l3 pPick) [r2_23,(rk (.bool true)),r2_25] (some s2_26),iMv r2_26 s2_27,iGd r2_27 [.o3,.o3] false (iMv r2_2 s2_28) (some s2_28) rfl rfl rfl,iGd r2_27 [.o3,.o3] false (iP2 bGe r2_28 (rk (.int .i64 (.ofNat 65536))) s2_29) (some s2_29) rfl rfl rfl,iGp (l3 pPick) [r2_27,(rk (.bool true)),r2_29] (some s2_30)]
def x11_2 : List (Ins tf2) := [iAs (rk (.int .i64 (.ofNat 0))) s2_6,iAs (rk (.int .i64 (.ofNat 3))) s2_7]
def x11_3 : List (Ins tf2) := [iMv r2_2 s2_31,iMv r2_0 s2_32,iGp (l2 (pBin .mul)) [r2_31,r2_32] (some s2_33),iMv r2_1 s2_34,iP2 bAdd r2_33 r2_34 s2_35,iGp (l2 (pBin .mul)) [(rk (.int .i64 (.ofNat 2))),r2_35] (some s2_36),iAs r2_36 s2_6,iAs (rk (.int .i64 (.ofNat 0))) s2_7]
def x11 : XC tf2 := (.rg x11_0 (.seq (.rg x11_1 (.cond r2_30 (.rg x11_2 .ret) .skip)) (.rg x11_3 .ret)))
def c11 : Code := Tryd.f11.body.getD .skip
theorem x11_b : Tryd.f11.body = some c11 := by kernel_rfl
theorem x11_c : cG (comp Tryd.prog) 2 2 37 x11 c11 = x11.den := by kernel_rfl
def y11 : List (RR Tryd.prog 2 37 tf2) := [rrT r2_6 6 rfl rfl,rrT r2_7 7 rfl rfl]
theorem x11_r : y11.map RR.den = Tryd.f11.results.toList := by kernel_rfl
theorem x11_k : okFn Tryd.f11 = true := by kernel_rfl
theorem x11_D : 2 = dep Tryd.f11.ntmps := by kernel_rfl
theorem x11_s : ([s2_0,s2_1,s2_2] : List (Slot tf2)).map Slot.p = (List.range' 0 3).map (pth 2) := by kernel_rfl
def X11 : XFn Tryd.prog 2 (comp Tryd.prog) := ⟨X2,tf2,11,Tryd.f11,c11,2,37,[s2_0,s2_1,s2_2],z2,x11,y11,x11_D,Tryd.ntmps11.symm,Tryd.func11,x11_b,x11_k,x11_s,by decide,z2_ok,x11_c,x11_r⟩
def x18_0 : List (Ins tf2) := [iAs (rk (.bool false)) s2_0]
def x18_1 : List (Ins tf2) := [iCall (rk (.func (.func 14) #[] #[])) [(rk (.int .u64 (.ofNat 1)))] (some s2_10),iGa (aAl 6 [(.int .i64 (.ofNat 0)),(.int .i64 (.ofNat 0)),(.slice none 0 0),(.slice none 0 0),(.slice none 0 0),(.slice none 0 0)]) [] (some s2_1),iGm (m2 (sStn 6)) [r2_1,r2_10] none]
def x18_2 : List (Ins tf2) := [iGr (r1 (rLdn 6)) [r2_1] (some s2_11),iCall (rk (.func (.func 15) #[] #[])) [r2_11] (some s2_12),iAs r2_12 s2_2]
def x18_3 : List (Ins tf2) := [iMv r2_2 s2_13,iGp (l2 (pEqD (tdOf 34) false)) [r2_13,(rk (.pointer none))] (some s2_14)]
def x18_4 : List (Ins tf2) := [iAs (rk (.bool false)) s2_0]
def x18_5 : List (Ins tf2) := [iMv r2_2 s2_16,iGr (r1 (rLdn 6)) [r2_1] (some s2_17),iCall (rk (.func (.func 16) #[] #[])) [r2_16,r2_17,(rk (.int .i64 (.ofNat 20))),(rk (.int .i64 (.ofNat 16))),(rk (.int .i64 (.ofNat 0)))] (some s2_18),iMv r2_18 s2_15,iGp (l1 (pExt 0)) [r2_15] (some s2_19),iGp (l1 (pExt 1)) [r2_15] (some s2_20),iGp (l1 (pExt 2)) [r2_15] (some s2_21),iAs r2_19 s2_3,iAs r2_20 s2_4,iAs r2_21 s2_5]
def x18_6 : List (Ins tf2) := [iGa (aBsl 1 1 [(.int .u64 (.ofNat 0))] [(0,1)]) [(rk (.int .u64 (.ofNat 3)))] (some s2_23),iGa (aBsl 2 1 [(.slice none 0 0)] [(0,1),(1,1)]) [(rk (.slice none 0 0)),r2_23] (some s2_24),iCall (rk (.func (.func 20) #[] #[])) [(rk (.int .i64 (.ofNat 2))),r2_24] (some s2_25),iMv r2_25 s2_22,iGp (l1 (pExt 0)) [r2_22] (some s2_26),iGp (l1 (pExt 1)) [r2_22] (some s2_27),iAs r2_26 s2_6,iAs r2_27 s2_7]
def x18_7 : List (Ins tf2) := [iMv r2_2 s2_29,iMv r2_3 s2_30,iMv r2_6 s2_31,iCall (rk (.func (.func 35) #[] #[])) [r2_29,r2_30,r2_31] (some s2_32),iMv r2_32 s2_28,iGp (l1 (pExt 0)) [r2_28] (some s2_33),iGp (l1 (pExt 1)) [r2_28] (some s2_34),iAs r2_33 s2_8,iAs r2_34 s2_9]
def x18_8 : List (Ins tf2) := [iMv r2_5 s2_35,iP2 bEq r2_35 (rk (.int .i64 (.ofNat 0))) s2_36,iMv r2_36 s2_37,iGd r2_37 [.o5,.o4] true (iMv r2_7 s2_38) (some s2_38) rfl rfl rfl,iGd r2_37 [.o5,.o4] true (iP2 bEq r2_38 (rk (.int .i64 (.ofNat 0))) s2_39) (some s2_39) rfl rfl rfl,iGp (l3 pPick) [r2_37,r2_39,(rk (.bool false))] (some s2_40),iMv r2_40 s2_41,iGd r2_41 [.o1,.o5] true (iMv r2_8 s2_42) (some s2_42) rfl rfl rfl,iGd r2_41 [.o1,.o5] true (iP2 bEq r2_42 (rk (.int .i64 (.ofNat 1))) s2_43) (some s2_43) rfl rfl rfl,iGp (l3 pPick) [r2_41,r2_43,(rk (.bool false))] (some s2_44),iMv r2_44 s2_45,iGd r2_45 [.o5,.o5] true (iMv r2_9 s2_46) (some s2_46) rfl rfl rfl,iGd r2_45 [.o5,.o5] true (iP2 bEq r2_46 (rk (.int .i64 (.ofNat 0))) s2_47) (some s2_47) rfl rfl rfl,iGp (l3 pPick) [r2_45,r2_47,(rk (.bool false))] (some s2_48),iAs r2_48 s2_0]
def x18 : XC tf2 := (.rg x18_0 (.rg x18_1 (.rg x18_2 (.seq (.rg x18_3 (.cond r2_14 (.rg x18_4 .ret) .skip)) (.rg x18_5 (.rg x18_6 (.rg x18_7 (.rg x18_8 .ret))))))))
def c18 : Code := Tryd.f18.body.getD .skip
theorem x18_b : Tryd.f18.body = some c18 := by kernel_rfl
theorem x18_c : cG (comp Tryd.prog) 2 2 49 x18 c18 = x18.den := by kernel_rfl
def y18 : List (RR Tryd.prog 2 49 tf2) := [rrT r2_0 0 rfl rfl]
theorem x18_r : y18.map RR.den = Tryd.f18.results.toList := by kernel_rfl
theorem x18_k : okFn Tryd.f18 = true := by kernel_rfl
theorem x18_D : 2 = dep Tryd.f18.ntmps := by kernel_rfl
theorem x18_s : ([] : List (Slot tf2)).map Slot.p = (List.range' 0 0).map (pth 2) := by kernel_rfl
def X18 : XFn Tryd.prog 2 (comp Tryd.prog) := ⟨X2,tf2,18,Tryd.f18,c18,2,49,[],z2,x18,y18,x18_D,Tryd.ntmps18.symm,Tryd.func18,x18_b,x18_k,x18_s,by decide,z2_ok,x18_c,x18_r⟩
def x30_0 : List (Ins tf2) := [iGa (a1 gBox) [r2_1] (some s2_4),iAs (rk (.bool false)) s2_6,iAs (rk (.int .i64 (.ofNat 0))) s2_7]
def x30_1 : List (Ins tf2) := [iMv r2_0 s2_13,iP1 (bFa 0) r2_4 s2_14,iR1 bLd r2_14 s2_15,iMv r2_2 s2_16,iCall (rk (.func (.func 56) #[] #[])) [r2_13,r2_15,r2_16] (some s2_17),iMv r2_17 s2_12,iGp (l1 (pExt 0)) [r2_12] (some s2_18),iGp (l1 (pExt 1)) [r2_12] (some s2_19),iAs r2_18 s2_8,iAs r2_19 s2_9]
def x30_2 : List (Ins tf2) := [iMv r2_9 s2_20,iP2 bNe r2_20 (rk (.int .i64 (.ofNat 0))) s2_21]
def x30_3 : List (Ins tf2) := [iMv r2_9 s2_22,iAs (rk (.bool false)) s2_6,iAs r2_22 s2_7]
def x30_4 : List (Ins tf2) := [iMv r2_8 s2_23,iP1 bLen r2_23 s2_24,iMv (rk (.int .i64 (.ofNat 0))) s2_25]
def x30_5 : List (Ins tf2) := [iP2 bLt r2_25 r2_24 s2_26]
def x30_6 : List (Ins tf2) := [iP2 (bIxs 1) r2_23 r2_25 s2_27,iR1 bLd r2_27 s2_28,iAs r2_28 s2_11]
def x30_7 : List (Ins tf2) := [iMv r2_11 s2_29,iP2 bEq r2_29 (rk (.int .u64 (.ofNat 0))) s2_30]
def x30_8 : List (Ins tf2) := [iAs (rk (.bool false)) s2_6,iAs (rk (.int .i64 (.ofNat 0))) s2_7]
def x30_9 : List (Ins tf2) := [iP2 bAdd r2_25 (rk (.int .i64 (.ofNat 1))) s2_31,iMv r2_31 s2_25]
def x30_10 : List (Ins tf2) := [iAs (rk (.bool true)) s2_6,iAs (rk (.int .i64 (.ofNat 0))) s2_7]
def x30 : XC tf2 := (.rg x30_0 (.rg x30_1 (.seq (.rg x30_2 (.cond r2_21 (.rg x30_3 .ret) .skip)) (.seq (.rg x30_4 (.block 0 (.loop (.rg x30_5 (.seq (.cond r2_26 .skip (.exit 0)) (.seq (.block 1 (.rg x30_6 (.rg x30_7 (.cond r2_30 (.rg x30_8 .ret) .skip)))) (.reg x30_9))))))) (.rg x30_10 .ret)))))
def c30 : Code := Tryd.f30.body.getD .skip
theorem x30_b : Tryd.f30.body = some c30 := by kernel_rfl
theorem x30_c : cG (comp Tryd.prog) 2 2 32 x30 c30 = x30.den := by kernel_rfl
def y30 : List (RR Tryd.prog 2 32 tf2) := [rrT r2_6 6 rfl rfl,rrT r2_7 7 rfl rfl]
theorem x30_r : y30.map RR.den = Tryd.f30.results.toList := by kernel_rfl
theorem x30_k : okFn Tryd.f30 = true := by kernel_rfl
theorem x30_D : 2 = dep Tryd.f30.ntmps := by kernel_rfl
theorem x30_s : ([s2_0,s2_1,s2_2] : List (Slot tf2)).map Slot.p = (List.range' 0 3).map (pth 2) := by kernel_rfl
def X30 : XFn Tryd.prog 2 (comp Tryd.prog) := ⟨X2,tf2,30,Tryd.f30,c30,2,32,[s2_0,s2_1,s2_2],z2,x30,y30,x30_D,Tryd.ntmps30.symm,Tryd.func30,x30_b,x30_k,x30_s,by decide,z2_ok,x30_c,x30_r⟩
def x41_0 : List (Ins tf2) := [iAs (rk (.int .i64 (.ofNat 0))) s2_2]
def x41_1 : List (Ins tf2) := [iMv r2_0 s2_3,iGp (l2 (pEqD (tdOf 34) false)) [r2_3,(rk (.pointer none))] (some s2_4)]
def x41_2 : List (Ins tf2) := [iAs (rk (.int .i64 (.ofNat 0))) s2_2]
def x41_3 : List (Ins tf2) := [iMv r2_0 s2_5,iP1 bNil r2_5 s2_6,iP1 (bFa 0) r2_6 s2_7,iR1 bLd r2_7 s2_8,iAs r2_8 s2_2]
def x41 : XC tf2 := (.rg x41_0 (.seq (.rg x41_1 (.cond r2_4 (.rg x41_2 .ret) .skip)) (.rg x41_3 .ret)))
def c41 : Code := Tryd.f41.body.getD .skip
theorem x41_b : Tryd.f41.body = some c41 := by kernel_rfl
theorem x41_c : cG (comp Tryd.prog) 2 2 9 x41 c41 = x41.den := by kernel_rfl
def y41 : List (RR Tryd.prog 2 9 tf2) := [rrT r2_2 2 rfl rfl]
theorem x41_r : y41.map RR.den = Tryd.f41.results.toList := by kernel_rfl
theorem x41_k : okFn Tryd.f41 = true := by kernel_rfl
theorem x41_D : 2 = dep Tryd.f41.ntmps := by kernel_rfl
theorem x41_s : ([s2_0] : List (Slot tf2)).map Slot.p = (List.range' 0 1).map (pth 2) := by kernel_rfl
def X41 : XFn Tryd.prog 2 (comp Tryd.prog) := ⟨X2,tf2,41,Tryd.f41,c41,2,9,[s2_0],z2,x41,y41,x41_D,Tryd.ntmps41.symm,Tryd.func41,x41_b,x41_k,x41_s,by decide,z2_ok,x41_c,x41_r⟩
def x43_0 : List (Ins tf2) := [iAs (rk (.bool false)) s2_4]
def x43_1 : List (Ins tf2) := [iMv r2_1 s2_5,iP2 bNe r2_5 (rk (.int .i64 (.ofNat 0))) s2_6]
def x43_2 : List (Ins tf2) := [iMv r2_0 s2_7,iP1 bNil r2_7 s2_8,iP1 (bFa 9) r2_8 s2_9,iM2 bSt r2_9 (rk (.int .u8 (.ofNat 2)))]
def x43_3 : List (Ins tf2) := [iMv r2_1 s2_10,iP2 bNe r2_10 (rk (.int .i64 (.ofNat 0))) s2_11,iAs r2_11 s2_4]
def x43 : XC tf2 := (.rg x43_0 (.seq (.rg x43_1 (.cond r2_6 (.reg x43_2) .skip)) (.rg x43_3 .ret)))
def c43 : Code := Tryd.f43.body.getD .skip
theorem x43_b : Tryd.f43.body = some c43 := by kernel_rfl
theorem x43_c : cG (comp Tryd.prog) 2 2 12 x43 c43 = x43.den := by kernel_rfl
def y43 : List (RR Tryd.prog 2 12 tf2) := [rrT r2_4 4 rfl rfl]
theorem x43_r : y43.map RR.den = Tryd.f43.results.toList := by kernel_rfl
theorem x43_k : okFn Tryd.f43 = true := by kernel_rfl
theorem x43_D : 2 = dep Tryd.f43.ntmps := by kernel_rfl
theorem x43_s : ([s2_0,s2_1] : List (Slot tf2)).map Slot.p = (List.range' 0 2).map (pth 2) := by kernel_rfl
def X43 : XFn Tryd.prog 2 (comp Tryd.prog) := ⟨X2,tf2,43,Tryd.f43,c43,2,12,[s2_0,s2_1],z2,x43,y43,x43_D,Tryd.ntmps43.symm,Tryd.func43,x43_b,x43_k,x43_s,by decide,z2_ok,x43_c,x43_r⟩
def x50_0 : List (Ins tf2) := [iAs (rk (.int .i64 (.ofNat 0))) s2_4,iAs (rk (.int .i64 (.ofNat 0))) s2_5]
def x50_1 : List (Ins tf2) := [iMv r2_0 s2_6,iGp (l2 (pEqD (tdOf 34) false)) [r2_6,(rk (.pointer none))] (some s2_7)]
def x50_2 : List (Ins tf2) := [iAs (rk (.int .i64 (.ofNat 0))) s2_4,iAs (rk (.int .i64 (.ofNat 1))) s2_5]
def x50_3 : List (Ins tf2) := [iMv r2_0 s2_9,iP1 bNil r2_9 s2_10,iP1 (bFa 0) r2_10 s2_11,iR1 bLd r2_11 s2_12,iMv r2_1 s2_13,iCall (rk (.func (.func 68) #[] #[])) [r2_12,r2_13] (some s2_14),iMv r2_14 s2_8,iGp (l1 (pExt 0)) [r2_8] (some s2_15),iGp (l1 (pExt 1)) [r2_8] (some s2_16),iAs r2_15 s2_1]
def x50_4 : List (Ins tf2) := [iMv r2_0 s2_17,iMv r2_1 s2_18,iGp (pBld [(.int .u8 (.ofNat 0)),(.int .u64 (.ofNat 0)),(.slice none 0 0)] [(0,1),(1,1)]) [(rk (.int .u8 (.ofNat 0))),r2_18] (some s2_19),iCall (rk (.func (.func 69) #[] #[])) [r2_17,r2_19] (some s2_20),iGp (l1 (pExt 0)) [r2_20] (some s2_21),iGp (l1 (pExt 1)) [r2_20] (some s2_22),iAs r2_21 s2_4,iAs r2_22 s2_5]
def x50 : XC tf2 := (.rg x50_0 (.seq (.rg x50_1 (.cond r2_7 (.rg x50_2 .ret) .skip)) (.rg x50_3 (.rg x50_4 .ret))))
def c50 : Code := Tryd.f50.body.getD .skip
theorem x50_b : Tryd.f50.body = some c50 := by kernel_rfl
theorem x50_c : cG (comp Tryd.prog) 2 2 23 x50 c50 = x50.den := by kernel_rfl
def y50 : List (RR Tryd.prog 2 23 tf2) := [rrT r2_4 4 rfl rfl,rrT r2_5 5 rfl rfl]
theorem x50_r : y50.map RR.den = Tryd.f50.results.toList := by kernel_rfl
theorem x50_k : okFn Tryd.f50 = true := by kernel_rfl
theorem x50_D : 2 = dep Tryd.f50.ntmps := by kernel_rfl
theorem x50_s : ([s2_0,s2_1] : List (Slot tf2)).map Slot.p = (List.range' 0 2).map (pth 2) := by kernel_rfl
def X50 : XFn Tryd.prog 2 (comp Tryd.prog) := ⟨X2,tf2,50,Tryd.f50,c50,2,23,[s2_0,s2_1],z2,x50,y50,x50_D,Tryd.ntmps50.symm,Tryd.func50,x50_b,x50_k,x50_s,by decide,z2_ok,x50_c,x50_r⟩
def x52_0 : List (Ins tf2) := [iAs (rk (.int .i64 (.ofNat 0))) s2_4,iAs (rk (.int .i64 (.ofNat 0))) s2_5]
def x52_1 : List (Ins tf2) := [iMv r2_0 s2_6,iGp (l2 (pEqD (tdOf 34) false)) [r2_6,(rk (.pointer none))] (some s2_7)]
def x52_2 : List (Ins tf2) := [iAs (rk (.int .i64 (.ofNat 0))) s2_4,iAs (rk (.int .i64 (.ofNat 1))) s2_5]
def x52_3 : List (Ins tf2) := [iMv r2_1 s2_8,iP2 bLt r2_8 (rk (.int .i64 (.ofNat 0))) s2_9,iMv r2_9 s2_10,iGd r2_10 [.o2,.o1] false (iMv r2_1 s2_11) (some s2_11) rfl rfl rfl,iGd r2_10 [.o2,.o1] false (iP2 bGt r2_11 (rk (.int .i64 (.ofNat 4194303))) s2_12) (some s2_12) rfl rfl rfl,iGp (l3 pPick) [r2_10,(rk (.bool true)),r2_12] (some s2_13)]
def x52_4 : List (Ins tf2) := [iAs (rk (.int .i64 (.ofNat 0))) s2_4,iAs (rk (.int .i64 (.ofNat 3))) s2_5]
def x52_5 : List (Ins tf2) := [iMv r2_0 s2_14,iMv r2_1 s2_15,iP1 (bCv .u64) r2_15 s2_16,iGp (pBld [(.int .u8 (.ofNat 0)),(.int .u64 (.ofNat 0)),(.slice none 0 0)] [(0,1),(1,1)]) [(rk (.int .u8 (.ofNat 1))),r2_16] (some s2_17),iCall (rk (.func (.func 69) #[] #[])) [r2_14,r2_17] (some s2_18),iGp (l1 (pExt 0)) [r2_18] (some s2_19),iGp (l1 (pExt 1)) [r2_18] (some s2_20),iAs r2_19 s2_4,iAs r2_20 s2_5]
def x52 : XC tf2 := (.rg x52_0 (.seq (.rg x52_1 (.cond r2_7 (.rg x52_2 .ret) .skip)) (.seq (.rg x52_3 (.cond r2_13 (.rg x52_4 .ret) .skip)) (.rg x52_5 .ret))))
def c52 : Code := Tryd.f52.body.getD .skip
theorem x52_b : Tryd.f52.body = some c52 := by kernel_rfl
theorem x52_c : cG (comp Tryd.prog) 2 2 21 x52 c52 = x52.den := by kernel_rfl
def y52 : List (RR Tryd.prog 2 21 tf2) := [rrT r2_4 4 rfl rfl,rrT r2_5 5 rfl rfl]
theorem x52_r : y52.map RR.den = Tryd.f52.results.toList := by kernel_rfl
theorem x52_k : okFn Tryd.f52 = true := by kernel_rfl
theorem x52_D : 2 = dep Tryd.f52.ntmps := by kernel_rfl
theorem x52_s : ([s2_0,s2_1] : List (Slot tf2)).map Slot.p = (List.range' 0 2).map (pth 2) := by kernel_rfl
def X52 : XFn Tryd.prog 2 (comp Tryd.prog) := ⟨X2,tf2,52,Tryd.f52,c52,2,21,[s2_0,s2_1],z2,x52,y52,x52_D,Tryd.ntmps52.symm,Tryd.func52,x52_b,x52_k,x52_s,by decide,z2_ok,x52_c,x52_r⟩
def x54_0 : List (Ins tf2) := [iAs (rk (.int .i64 (.ofNat 0))) s2_6,iAs (rk (.int .i64 (.ofNat 0))) s2_7]
def x54_1 : List (Ins tf2) := [iMv r2_0 s2_12,iGp (l2 (pEqD (tdOf 34) false)) [r2_12,(rk (.pointer none))] (some s2_13)]
def x54_2 : List (Ins tf2) := [iAs (rk (.int .i64 (.ofNat 0))) s2_6,iAs (rk (.int .i64 (.ofNat 1))) s2_7]
def x54_3 : List (Ins tf2) := [iMv r2_1 s2_15,iCall (rk (.func (.func 72) #[] #[])) [r2_15] (some s2_16),iMv r2_16 s2_14,iGp (l1 (pExt 0)) [r2_14] (some s2_17),iGp (l1 (pExt 1)) [r2_14] (some s2_18),iAs r2_17 s2_8,iAs r2_18 s2_9]
def x54_4 : List (Ins tf2) := [iMv r2_9 s2_19,iP2 bNe r2_19 (rk (.int .i64 (.ofNat 0))) s2_20,iMv r2_20 s2_21,iGd r2_21 [.o5,.o2] false (iMv r2_8 s2_22) (some s2_22) rfl rfl rfl,iGd r2_21 [.o5,.o2] false (iP2 bEq r2_22 (rk (.int .i64 (.ofNat 0))) s2_23) (some s2_23) rfl rfl rfl,iGp (l3 pPick) [r2_21,(rk (.bool true)),r2_23] (some s2_24),iMv r2_24 s2_25,iGd r2_25 [.o1,.o3] false (iMv r2_8 s2_26) (some s2_26) rfl rfl rfl,iGd r2_25 [.o1,.o3] false (iMv r2_2 s2_27) (some s2_27) rfl rfl rfl,iGd r2_25 [.o1,.o3] false (iP1 bLen r2_27 s2_28) (some s2_28) rfl rfl rfl,iGd r2_25 [.o1,.o3] false (iP2 bNe r2_26 r2_28 s2_29) (some s2_29) rfl rfl rfl,iGp (l3 pPick) [r2_25,(rk (.bool true)),r2_29] (some s2_30)]
def x54_5 : List (Ins tf2) := [iAs (rk (.int .i64 (.ofNat 0))) s2_6,iAs (rk (.int .i64 (.ofNat 2))) s2_7]
def x54_6 : List (Ins tf2) := [iMv r2_2 s2_31,iP1 bLen r2_31 s2_32,iMv (rk (.int .i64 (.ofNat 0))) s2_33]
def x54_7 : List (Ins tf2) := [iP2 bLt r2_33 r2_32 s2_34]
def x54_8 : List (Ins tf2) := [iP2 (bIxs 1) r2_31 r2_33 s2_35,iR1 bLd r2_35 s2_36,iAs r2_36 s2_11]
def x54_9 : List (Ins tf2) := [iMv r2_11 s2_37,iP2 bLt r2_37 (rk (.int .i64 (.ofNat 0))) s2_38,iMv r2_38 s2_39,iGd r2_39 [.o7,.o4] false (iMv r2_11 s2_40) (some s2_40) rfl rfl rfl,iGd r2_39 [.o7,.o4] false (iMv r2_0 s2_41) (some s2_41) rfl rfl rfl,iGd r2_39 [.o7,.o4] false (iP1 bNil r2_41 s2_42) (some s2_42) rfl rfl rfl,iGd r2_39 [.o7,.o4] false (iP1 (bFa 2) r2_42 s2_43) (some s2_43) rfl rfl rfl,iGd r2_39 [.o7,.o4] false (iR1 bLd r2_43 s2_44) (some s2_44) rfl rfl rfl,iGd r2_39 [.o7,.o4] false (iP1 bLen r2_44 s2_45) (some s2_45) rfl rfl rfl,iGd r2_39 [.o7,.o4] false (iP2 bGe r2_40 r2_45 s2_46) (some s2_46) rfl rfl rfl,iGp (l3 pPick) [r2_39,(rk (.bool true)),r2_46] (some s2_47)]
def x54_10 : List (Ins tf2) := [iAs (rk (.int .i64 (.ofNat 0))) s2_6,iAs (rk (.int .i64 (.ofNat 3))) s2_7]
def x54_11 : List (Ins tf2) := [iP2 bAdd r2_33 (rk (.int .i64 (.ofNat 1))) s2_48,iMv r2_48 s2_33]
def x54_12 : List (Ins tf2) := [iMv r2_0 s2_49,iMv r2_1 s2_50,iMv r2_2 s2_51,iGm (m2 (sApp 1)) [(rk (.slice none 0 0)),r2_51] (some s2_52),iGp (pBld [(.int .u8 (.ofNat 0)),(.int .u64 (.ofNat 0)),(.slice none 0 0)] [(0,1),(2,1)]) [r2_50,r2_52] (some s2_53),iCall (rk (.func (.func 69) #[] #[])) [r2_49,r2_53] (some s2_54),iGp (l1 (pExt 0)) [r2_54] (some s2_55),iGp (l1 (pExt 1)) [r2_54] (some s2_56),iAs r2_55 s2_6,iAs r2_56 s2_7]
def x54 : XC tf2 := (.rg x54_0 (.seq (.rg x54_1 (.cond r2_13 (.rg x54_2 .ret) .skip)) (.seq (.rg x54_3 (.rg x54_4 (.cond r2_30 (.rg x54_5 .ret) .skip))) (.seq (.rg x54_6 (.block 0 (.loop (.rg x54_7 (.seq (.cond r2_34 .skip (.exit 0)) (.seq (.block 1 (.rg x54_8 (.rg x54_9 (.cond r2_47 (.rg x54_10 .ret) .skip)))) (.reg x54_11))))))) (.rg x54_12 .ret)))))
def c54 : Code := Tryd.f54.body.getD .skip
theorem x54_b : Tryd.f54.body = some c54 := by kernel_rfl
theorem x54_c : cG (comp Tryd.prog) 2 2 57 x54 c54 = x54.den := by kernel_rfl
def y54 : List (RR Tryd.prog 2 57 tf2) := [rrT r2_6 6 rfl rfl,rrT r2_7 7 rfl rfl]
theorem x54_r : y54.map RR.den = Tryd.f54.results.toList := by kernel_rfl
theorem x54_k : okFn Tryd.f54 = true := by kernel_rfl
theorem x54_D : 2 = dep Tryd.f54.ntmps := by kernel_rfl
theorem x54_s : ([s2_0,s2_1,s2_2] : List (Slot tf2)).map Slot.p = (List.range' 0 3).map (pth 2) := by kernel_rfl
def X54 : XFn Tryd.prog 2 (comp Tryd.prog) := ⟨X2,tf2,54,Tryd.f54,c54,2,57,[s2_0,s2_1,s2_2],z2,x54,y54,x54_D,Tryd.ntmps54.symm,Tryd.func54,x54_b,x54_k,x54_s,by decide,z2_ok,x54_c,x54_r⟩
end
end Cr
end Go.Proofs.YtjhbabgcoemecaaDoor
namespace Go.Proofs.YtjhbabgcoemecaaDoor
namespace Cr
open Go Go.RowKit
set_option maxRecDepth 100000
noncomputable section
def x64_0 : List (Ins tf2) := [iAs (rk (.int .i64 (.ofNat 0))) s2_2]
def x64_1 : List (Ins tf2) := [iMv r2_0 s2_3,iP2 bLt r2_3 (rk (.int .i64 (.ofNat 1))) s2_4,iMv r2_4 s2_5,iGd r2_5 [.o5,.o0] false (iMv r2_0 s2_6) (some s2_6) rfl rfl rfl,iGd r2_5 [.o5,.o0] false (iP2 bGt r2_6 (rk (.int .i64 (.ofNat 64))) s2_7) (some s2_7) rfl rfl rfl,iGp (l3 pPick) [r2_5,(rk (.bool true)),r2_7] (some s2_8)]
def x64_2 : List (Ins tf2) := [iAs (rk (.int .i64 (.ofNat 3))) s2_2]
def x64_3 : List (Ins tf2) := [iAs (rk (.int .i64 (.ofNat 0))) s2_2]
def x64 : XC tf2 := (.rg x64_0 (.seq (.rg x64_1 (.cond r2_8 (.rg x64_2 .ret) .skip)) (.rg x64_3 .ret)))
def c64 : Code := Tryd.f64.body.getD .skip
theorem x64_b : Tryd.f64.body = some c64 := by kernel_rfl
theorem x64_c : cG (comp Tryd.prog) 2 2 9 x64 c64 = x64.den := by kernel_rfl
def y64 : List (RR Tryd.prog 2 9 tf2) := [rrT r2_2 2 rfl rfl]
theorem x64_r : y64.map RR.den = Tryd.f64.results.toList := by kernel_rfl
theorem x64_k : okFn Tryd.f64 = true := by kernel_rfl
theorem x64_D : 2 = dep Tryd.f64.ntmps := by kernel_rfl
theorem x64_s : ([s2_0] : List (Slot tf2)).map Slot.p = (List.range' 0 1).map (pth 2) := by kernel_rfl
def X64 : XFn Tryd.prog 2 (comp Tryd.prog) := ⟨X2,tf2,64,Tryd.f64,c64,2,9,[s2_0],z2,x64,y64,x64_D,Tryd.ntmps64.symm,Tryd.func64,x64_b,x64_k,x64_s,by decide,z2_ok,x64_c,x64_r⟩
def x67_0 : List (Ins tf2) := [iAs (rk (.slice none 0 0)) s2_3]
def x67_1 : List (Ins tf2) := [iMv r2_0 s2_6,iGa (a2 (gMks 1 8 [(.int .i64 (.ofNat 0))])) [r2_6,r2_6] (some s2_7),iAs r2_7 s2_4]
def x67_2 : List (Ins tf2) := [iMv r2_4 s2_8,iP1 bLen r2_8 s2_9,iMv (rk (.int .i64 (.ofNat 0))) s2_10]
def x67_3 : List (Ins tf2) := [iP2 bLt r2_10 r2_9 s2_11]
def x67_4 : List (Ins tf2) := [iMv r2_10 s2_12,iAs r2_12 s2_5]
def x67_5 : List (Ins tf2) := [iMv r2_4 s2_13,iMv r2_5 s2_14,iR1 bLd r2_1 s2_15,iP2 (bIxs 1) r2_13 r2_14 s2_16,iM2 bSt r2_16 r2_15]
def x67_6 : List (Ins tf2) := [iP2 bAdd r2_10 (rk (.int .i64 (.ofNat 1))) s2_17,iMv r2_17 s2_10]
def x67_7 : List (Ins tf2) := [iMv r2_4 s2_18,iAs r2_18 s2_3]
def x67 : XC tf2 := (.rg x67_0 (.rg x67_1 (.seq (.rg x67_2 (.block 0 (.loop (.rg x67_3 (.seq (.cond r2_11 .skip (.exit 0)) (.seq (.block 1 (.rg x67_4 (.reg x67_5))) (.reg x67_6))))))) (.rg x67_7 .ret))))
def c67 : Code := Tryd.f67.body.getD .skip
theorem x67_b : Tryd.f67.body = some c67 := by kernel_rfl
theorem x67_c : cG (comp Tryd.prog) 2 2 19 x67 c67 = x67.den := by kernel_rfl
def y67 : List (RR Tryd.prog 2 19 tf2) := [rrT r2_3 3 rfl rfl]
theorem x67_r : y67.map RR.den = Tryd.f67.results.toList := by kernel_rfl
theorem x67_k : okFn Tryd.f67 = true := by kernel_rfl
theorem x67_D : 2 = dep Tryd.f67.ntmps := by kernel_rfl
theorem x67_s : ([s2_0,s2_1] : List (Slot tf2)).map Slot.p = (List.range' 0 2).map (pth 2) := by kernel_rfl
def X67 : XFn Tryd.prog 2 (comp Tryd.prog) := ⟨X2,tf2,67,Tryd.f67,c67,2,19,[s2_0,s2_1],z2,x67,y67,x67_D,Tryd.ntmps67.symm,Tryd.func67,x67_b,x67_k,x67_s,by decide,z2_ok,x67_c,x67_r⟩
def x68_0 : List (Ins tf2) := [iAs (rk (.int .u64 (.ofNat 0))) s2_4,iAs (rk (.int .i64 (.ofNat 0))) s2_5]
def x68_1 : List (Ins tf2) := [iMv r2_0 s2_7,iCall (rk (.func (.func 64) #[] #[])) [r2_7] (some s2_8),iAs r2_8 s2_6]
def x68_2 : List (Ins tf2) := [iMv r2_6 s2_9,iP2 bNe r2_9 (rk (.int .i64 (.ofNat 0))) s2_10]
def x68_3 : List (Ins tf2) := [iMv r2_6 s2_11,iAs (rk (.int .u64 (.ofNat 0))) s2_4,iAs r2_11 s2_5]
def x68_4 : List (Ins tf2) := [iMv r2_1 s2_12,iMv r2_0 s2_13,iCall (rk (.func (.func 82) #[] #[])) [r2_13] (some s2_14),iGp (l2 (pBin .and)) [r2_12,r2_14] (some s2_15),iAs r2_15 s2_4,iAs (rk (.int .i64 (.ofNat 0))) s2_5]
def x68 : XC tf2 := (.rg x68_0 (.seq (.rg x68_1 (.rg x68_2 (.cond r2_10 (.rg x68_3 .ret) .skip))) (.rg x68_4 .ret)))
def c68 : Code := Tryd.f68.body.getD .skip
theorem x68_b : Tryd.f68.body = some c68 := by kernel_rfl
theorem x68_c : cG (comp Tryd.prog) 2 2 16 x68 c68 = x68.den := by kernel_rfl
def y68 : List (RR Tryd.prog 2 16 tf2) := [rrT r2_4 4 rfl rfl,rrT r2_5 5 rfl rfl]
theorem x68_r : y68.map RR.den = Tryd.f68.results.toList := by kernel_rfl
theorem x68_k : okFn Tryd.f68 = true := by kernel_rfl
theorem x68_D : 2 = dep Tryd.f68.ntmps := by kernel_rfl
theorem x68_s : ([s2_0,s2_1] : List (Slot tf2)).map Slot.p = (List.range' 0 2).map (pth 2) := by kernel_rfl
def X68 : XFn Tryd.prog 2 (comp Tryd.prog) := ⟨X2,tf2,68,Tryd.f68,c68,2,16,[s2_0,s2_1],z2,x68,y68,x68_D,Tryd.ntmps68.symm,Tryd.func68,x68_b,x68_k,x68_s,by decide,z2_ok,x68_c,x68_r⟩
def x69_0 : List (Ins tf2) := [iGa (a1 gBox) [r2_1] (some s2_3),iAs (rk (.int .i64 (.ofNat 0))) s2_4,iAs (rk (.int .i64 (.ofNat 0))) s2_5]
def x69_1 : List (Ins tf2) := [iP1 (bFa 0) r2_3 s2_10,iR1 bLd r2_10 s2_11,iP1 (bFa 1) r2_3 s2_12,iR1 bLd r2_12 s2_13,iGp (pBld [(.int .u8 (.ofNat 0)),(.int .u64 (.ofNat 0)),(.int .i64 (.ofNat 0)),(.int .i64 (.ofNat 0)),(.int .i64 (.ofNat 0))] [(0,1),(1,1)]) [r2_11,r2_13] (some s2_14),iGa (aAl 5 [(.int .u8 (.ofNat 0)),(.int .u64 (.ofNat 0)),(.int .i64 (.ofNat 0)),(.int .i64 (.ofNat 0)),(.int .i64 (.ofNat 0))]) [] (some s2_6),iGm (m2 (sStn 5)) [r2_6,r2_14] none]
def x69_2 : List (Ins tf2) := [iP1 (bFa 2) r2_6 s2_15,iGp (pSlB (pSlA 3 1) false false false) [r2_15] (some s2_16),iP1 (bFa 2) r2_3 s2_17,iR1 bLd r2_17 s2_18,iGm (m2 (sCopy 1)) [r2_16,r2_18] (some s2_19)]
def x69_3 : List (Ins tf2) := [iMv r2_0 s2_21,iP1 bNil r2_21 s2_22,iP1 (bFa 3) r2_22 s2_23,iR1 bLd r2_23 s2_24,iGr (r1 (rLdn 5)) [r2_6] (some s2_25),iGr (r2 (rLook [0,0,0,0,0] true (.int .i64 (.ofNat 0)) true)) [r2_24,r2_25] (some s2_26),iMv r2_26 s2_20,iGp (l1 (pExt 0)) [r2_20] (some s2_27),iGp (l1 (pExt 1)) [r2_20] (some s2_28),iAs r2_27 s2_7,iAs r2_28 s2_8]
def x69_4 : List (Ins tf2) := [iMv r2_8 s2_29]
def x69_5 : List (Ins tf2) := [iMv r2_7 s2_30,iAs r2_30 s2_4,iAs (rk (.int .i64 (.ofNat 0))) s2_5]
def x69_6 : List (Ins tf2) := [iMv r2_0 s2_31,iP1 bNil r2_31 s2_32,iP1 (bFa 2) r2_32 s2_33,iR1 bLd r2_33 s2_34,iP1 bLen r2_34 s2_35,iMv r2_0 s2_36,iP1 bNil r2_36 s2_37,iP1 (bFa 1) r2_37 s2_38,iR1 bLd r2_38 s2_39,iP2 bGe r2_35 r2_39 s2_40]
def x69_7 : List (Ins tf2) := [iAs (rk (.int .i64 (.ofNat 0))) s2_4,iAs (rk (.int .i64 (.ofNat 10))) s2_5]
def x69_8 : List (Ins tf2) := [iMv r2_0 s2_41,iP1 bNil r2_41 s2_42,iP1 (bFa 2) r2_42 s2_43,iR1 bLd r2_43 s2_44,iP1 bLen r2_44 s2_45,iAs r2_45 s2_9]
def x69_9 : List (Ins tf2) := [iMv r2_0 s2_46,iMv r2_0 s2_47,iP1 bNil r2_47 s2_48,iP1 (bFa 2) r2_48 s2_49,iR1 bLd r2_49 s2_50,iGr (r1 (rLdn 3)) [r2_3] (some s2_51),iGa (aBsl 1 3 [(.int .u8 (.ofNat 0)),(.int .u64 (.ofNat 0)),(.slice none 0 0)] [(0,3)]) [r2_51] (some s2_52),iGm (m2 (sApp 3)) [r2_50,r2_52] (some s2_53),iP1 bNil r2_46 s2_54,iP1 (bFa 2) r2_54 s2_55,iM2 bSt r2_55 r2_53]
def x69_10 : List (Ins tf2) := [iMv r2_0 s2_56,iP1 bNil r2_56 s2_57,iP1 (bFa 3) r2_57 s2_58,iR1 bLd r2_58 s2_59,iGr (r1 (rLdn 5)) [r2_6] (some s2_60),iMv r2_9 s2_61,iGm (m3 (sUpd [0,0,0,0,0] true)) [r2_59,r2_60,r2_61] none]
def x69_11 : List (Ins tf2) := [iMv r2_9 s2_62,iAs r2_62 s2_4,iAs (rk (.int .i64 (.ofNat 0))) s2_5]
def x69 : XC tf2 := (.rg x69_0 (.rg x69_1 (.rg x69_2 (.seq (.rg x69_3 (.rg x69_4 (.cond r2_29 (.rg x69_5 .ret) .skip))) (.seq (.rg x69_6 (.cond r2_40 (.rg x69_7 .ret) .skip)) (.rg x69_8 (.rg x69_9 (.rg x69_10 (.rg x69_11 .ret)))))))))
def c69 : Code := Tryd.f69.body.getD .skip
theorem x69_b : Tryd.f69.body = some c69 := by kernel_rfl
theorem x69_c : cG (comp Tryd.prog) 2 2 63 x69 c69 = x69.den := by kernel_rfl
def y69 : List (RR Tryd.prog 2 63 tf2) := [rrT r2_4 4 rfl rfl,rrT r2_5 5 rfl rfl]
theorem x69_r : y69.map RR.den = Tryd.f69.results.toList := by kernel_rfl
theorem x69_k : okFn Tryd.f69 = true := by kernel_rfl
theorem x69_D : 2 = dep Tryd.f69.ntmps := by kernel_rfl
theorem x69_s : ([s2_0,s2_1] : List (Slot tf2)).map Slot.p = (List.range' 0 2).map (pth 2) := by kernel_rfl
def X69 : XFn Tryd.prog 2 (comp Tryd.prog) := ⟨X2,tf2,69,Tryd.f69,c69,2,63,[s2_0,s2_1],z2,x69,y69,x69_D,Tryd.ntmps69.symm,Tryd.func69,x69_b,x69_k,x69_s,by decide,z2_ok,x69_c,x69_r⟩
def x72_0 : List (Ins tf2) := [iAs (rk (.int .i64 (.ofNat 0))) s2_2,iAs (rk (.int .i64 (.ofNat 0))) s2_3]
def x72_1 : List (Ins tf2) := [iMv r2_0 s2_4,iP2 bGt r2_4 (rk (.int .u8 (.ofNat 21))) s2_5]
def x72_2 : List (Ins tf2) := [iAs (rk (.int .i64 (.ofNat 0))) s2_2,iAs (rk (.int .i64 (.ofNat 3))) s2_3]
def x72_3 : List (Ins tf2) := [iCall (rk (.func (.func 84) #[] #[])) [] (some s2_6),iMv r2_0 s2_7,iGp (l2 (pIx 22 none 1)) [r2_6,r2_7] (some s2_8),iP1 (bCv .i64) r2_8 s2_9,iAs r2_9 s2_2,iAs (rk (.int .i64 (.ofNat 0))) s2_3]
def x72 : XC tf2 := (.rg x72_0 (.seq (.rg x72_1 (.cond r2_5 (.rg x72_2 .ret) .skip)) (.rg x72_3 .ret)))
def c72 : Code := Tryd.f72.body.getD .skip
theorem x72_b : Tryd.f72.body = some c72 := by kernel_rfl
theorem x72_c : cG (comp Tryd.prog) 2 2 10 x72 c72 = x72.den := by kernel_rfl
def y72 : List (RR Tryd.prog 2 10 tf2) := [rrT r2_2 2 rfl rfl,rrT r2_3 3 rfl rfl]
theorem x72_r : y72.map RR.den = Tryd.f72.results.toList := by kernel_rfl
theorem x72_k : okFn Tryd.f72 = true := by kernel_rfl
theorem x72_D : 2 = dep Tryd.f72.ntmps := by kernel_rfl
theorem x72_s : ([s2_0] : List (Slot tf2)).map Slot.p = (List.range' 0 1).map (pth 2) := by kernel_rfl
def X72 : XFn Tryd.prog 2 (comp Tryd.prog) := ⟨X2,tf2,72,Tryd.f72,c72,2,10,[s2_0],z2,x72,y72,x72_D,Tryd.ntmps72.symm,Tryd.func72,x72_b,x72_k,x72_s,by decide,z2_ok,x72_c,x72_r⟩
def x74_0 : List (Ins tf2) := [iAs (rk (.int .i64 (.ofNat 0))) s2_2]
def x74_1 : List (Ins tf2) := [iMv r2_0 s2_3,iGp (l2 (pEqD (tdOf 34) false)) [r2_3,(rk (.pointer none))] (some s2_4)]
def x74_2 : List (Ins tf2) := [iAs (rk (.int .i64 (.ofNat 0))) s2_2]
def x74_3 : List (Ins tf2) := [iMv r2_0 s2_5,iP1 bNil r2_5 s2_6,iP1 (bFa 2) r2_6 s2_7,iR1 bLd r2_7 s2_8,iP1 bLen r2_8 s2_9,iAs r2_9 s2_2]
def x74 : XC tf2 := (.rg x74_0 (.seq (.rg x74_1 (.cond r2_4 (.rg x74_2 .ret) .skip)) (.rg x74_3 .ret)))
def c74 : Code := Tryd.f74.body.getD .skip
theorem x74_b : Tryd.f74.body = some c74 := by kernel_rfl
theorem x74_c : cG (comp Tryd.prog) 2 2 10 x74 c74 = x74.den := by kernel_rfl
def y74 : List (RR Tryd.prog 2 10 tf2) := [rrT r2_2 2 rfl rfl]
theorem x74_r : y74.map RR.den = Tryd.f74.results.toList := by kernel_rfl
theorem x74_k : okFn Tryd.f74 = true := by kernel_rfl
theorem x74_D : 2 = dep Tryd.f74.ntmps := by kernel_rfl
theorem x74_s : ([s2_0] : List (Slot tf2)).map Slot.p = (List.range' 0 1).map (pth 2) := by kernel_rfl
def X74 : XFn Tryd.prog 2 (comp Tryd.prog) := ⟨X2,tf2,74,Tryd.f74,c74,2,10,[s2_0],z2,x74,y74,x74_D,Tryd.ntmps74.symm,Tryd.func74,x74_b,x74_k,x74_s,by decide,z2_ok,x74_c,x74_r⟩
def x75_0 : List (Ins tf2) := [iGa (aAl 3 [(.int .u8 (.ofNat 0)),(.int .u64 (.ofNat 0)),(.slice none 0 0)]) [] (some s2_4),iAs (rk (.int .i64 (.ofNat 0))) s2_5]
def x75_1 : List (Ins tf2) := [iMv r2_0 s2_7,iGp (l2 (pEqD (tdOf 34) false)) [r2_7,(rk (.pointer none))] (some s2_8)]
def x75_2 : List (Ins tf2) := [iGp (pBld [(.int .u8 (.ofNat 0)),(.int .u64 (.ofNat 0)),(.slice none 0 0)] []) [] (some s2_9),iGm (m2 (sStn 3)) [r2_4,r2_9] none,iAs (rk (.int .i64 (.ofNat 1))) s2_5]
def x75_3 : List (Ins tf2) := [iMv r2_1 s2_10,iP2 bLt r2_10 (rk (.int .i64 (.ofNat 0))) s2_11,iMv r2_11 s2_12,iGd r2_12 [.o4,.o1] false (iMv r2_1 s2_13) (some s2_13) rfl rfl rfl,iGd r2_12 [.o4,.o1] false (iMv r2_0 s2_14) (some s2_14) rfl rfl rfl,iGd r2_12 [.o4,.o1] false (iP1 bNil r2_14 s2_15) (some s2_15) rfl rfl rfl,iGd r2_12 [.o4,.o1] false (iP1 (bFa 2) r2_15 s2_16) (some s2_16) rfl rfl rfl,iGd r2_12 [.o4,.o1] false (iR1 bLd r2_16 s2_17) (some s2_17) rfl rfl rfl,iGd r2_12 [.o4,.o1] false (iP1 bLen r2_17 s2_18) (some s2_18) rfl rfl rfl,iGd r2_12 [.o4,.o1] false (iP2 bGe r2_13 r2_18 s2_19) (some s2_19) rfl rfl rfl,iGp (l3 pPick) [r2_12,(rk (.bool true)),r2_19] (some s2_20)]
def x75_4 : List (Ins tf2) := [iGp (pBld [(.int .u8 (.ofNat 0)),(.int .u64 (.ofNat 0)),(.slice none 0 0)] []) [] (some s2_21),iGm (m2 (sStn 3)) [r2_4,r2_21] none,iAs (rk (.int .i64 (.ofNat 3))) s2_5]
def x75_5 : List (Ins tf2) := [iMv r2_0 s2_22,iP1 bNil r2_22 s2_23,iP1 (bFa 2) r2_23 s2_24,iR1 bLd r2_24 s2_25,iMv r2_1 s2_26,iP2 (bIxs 3) r2_25 r2_26 s2_27,iGr (r1 (rLdn 3)) [r2_27] (some s2_28),iGa (aAl 3 [(.int .u8 (.ofNat 0)),(.int .u64 (.ofNat 0)),(.slice none 0 0)]) [] (some s2_6),iGm (m2 (sStn 3)) [r2_6,r2_28] none]
def x75_6 : List (Ins tf2) := [iP1 (bFa 2) r2_6 s2_29,iR1 bLd r2_29 s2_30,iGm (m2 (sApp 1)) [(rk (.slice none 0 0)),r2_30] (some s2_31),iP1 (bFa 2) r2_6 s2_32,iM2 bSt r2_32 r2_31]
def x75_7 : List (Ins tf2) := [iGr (r1 (rLdn 3)) [r2_6] (some s2_33),iGm (m2 (sStn 3)) [r2_4,r2_33] none,iAs (rk (.int .i64 (.ofNat 0))) s2_5]
def x75 : XC tf2 := (.rg x75_0 (.seq (.rg x75_1 (.cond r2_8 (.rg x75_2 .ret) .skip)) (.seq (.rg x75_3 (.cond r2_20 (.rg x75_4 .ret) .skip)) (.rg x75_5 (.rg x75_6 (.rg x75_7 .ret))))))
def c75 : Code := Tryd.f75.body.getD .skip
theorem x75_b : Tryd.f75.body = some c75 := by kernel_rfl
theorem x75_c : cG (comp Tryd.prog) 2 2 34 x75 c75 = x75.den := by kernel_rfl
def y75 : List (RR Tryd.prog 2 34 tf2) := [rrS (.cell 4 147),rrT r2_5 5 rfl rfl]
theorem x75_r : y75.map RR.den = Tryd.f75.results.toList := by kernel_rfl
theorem x75_k : okFn Tryd.f75 = true := by kernel_rfl
theorem x75_D : 2 = dep Tryd.f75.ntmps := by kernel_rfl
theorem x75_s : ([s2_0,s2_1] : List (Slot tf2)).map Slot.p = (List.range' 0 2).map (pth 2) := by kernel_rfl
def X75 : XFn Tryd.prog 2 (comp Tryd.prog) := ⟨X2,tf2,75,Tryd.f75,c75,2,34,[s2_0,s2_1],z2,x75,y75,x75_D,Tryd.ntmps75.symm,Tryd.func75,x75_b,x75_k,x75_s,by decide,z2_ok,x75_c,x75_r⟩
def x80_0 : List (Ins tf2) := [iAs (rk (.bool false)) s2_4]
def x80_1 : List (Ins tf2) := [iMv r2_0 s2_5,iMv r2_1 s2_6,iCall (rk (.func (.func 89) #[] #[])) [r2_5,r2_6] (some s2_7),iP2 bGe r2_7 (rk (.int .i64 (.ofNat 0))) s2_8,iAs r2_8 s2_4]
def x80 : XC tf2 := (.rg x80_0 (.rg x80_1 .ret))
def c80 : Code := Tryd.f80.body.getD .skip
theorem x80_b : Tryd.f80.body = some c80 := by kernel_rfl
theorem x80_c : cG (comp Tryd.prog) 2 2 9 x80 c80 = x80.den := by kernel_rfl
def y80 : List (RR Tryd.prog 2 9 tf2) := [rrT r2_4 4 rfl rfl]
theorem x80_r : y80.map RR.den = Tryd.f80.results.toList := by kernel_rfl
theorem x80_k : okFn Tryd.f80 = true := by kernel_rfl
theorem x80_D : 2 = dep Tryd.f80.ntmps := by kernel_rfl
theorem x80_s : ([s2_0,s2_1] : List (Slot tf2)).map Slot.p = (List.range' 0 2).map (pth 2) := by kernel_rfl
def X80 : XFn Tryd.prog 2 (comp Tryd.prog) := ⟨X2,tf2,80,Tryd.f80,c80,2,9,[s2_0,s2_1],z2,x80,y80,x80_D,Tryd.ntmps80.symm,Tryd.func80,x80_b,x80_k,x80_s,by decide,z2_ok,x80_c,x80_r⟩
def x82_0 : List (Ins tf1) := [iAs (rk (.int .u64 (.ofNat 0))) s1_2]
def x82_1 : List (Ins tf1) := [iMv r1_0 s1_3,iP1 (bCv .u64) r1_3 s1_4,iGp (l2 (pBin .shl)) [(rk (.int .u64 (.ofNat 1))),r1_4] (some s1_5),iP2 bSub r1_5 (rk (.int .u64 (.ofNat 1))) s1_6,iAs r1_6 s1_2]
def x82 : XC tf1 := (.rg x82_0 (.rg x82_1 .ret))
def c82 : Code := Tryd.f82.body.getD .skip
theorem x82_b : Tryd.f82.body = some c82 := by kernel_rfl
theorem x82_c : cG (comp Tryd.prog) 2 1 7 x82 c82 = x82.den := by kernel_rfl
def y82 : List (RR Tryd.prog 1 7 tf1) := [rrT r1_2 2 rfl rfl]
theorem x82_r : y82.map RR.den = Tryd.f82.results.toList := by kernel_rfl
theorem x82_k : okFn Tryd.f82 = true := by kernel_rfl
theorem x82_D : 1 = dep Tryd.f82.ntmps := by kernel_rfl
theorem x82_s : ([s1_0] : List (Slot tf1)).map Slot.p = (List.range' 0 1).map (pth 1) := by kernel_rfl
def X82 : XFn Tryd.prog 2 (comp Tryd.prog) := ⟨X1,tf1,82,Tryd.f82,c82,1,7,[s1_0],z1,x82,y82,x82_D,Tryd.ntmps82.symm,Tryd.func82,x82_b,x82_k,x82_s,by decide,z1_ok,x82_c,x82_r⟩
def x87_0 : List (Ins tf2) := [iGa (aAl 22 [.nilFunc,.nilFunc,.nilFunc,.nilFunc,.nilFunc,.nilFunc,.nilFunc,.nilFunc,.nilFunc,.nilFunc,.nilFunc,.nilFunc,.nilFunc,.nilFunc,.nilFunc,.nilFunc,.nilFunc,.nilFunc,.nilFunc,.nilFunc,.nilFunc,.nilFunc]) [] (some s2_0)]
def x87_1 : List (Ins tf2) := [iGp (pBld [.nilFunc] [(0,1)]) [(rk (.func (.func 90) #[] #[]))] (some s2_1),iGp (pBld [.nilFunc] [(0,1)]) [(rk (.func (.func 91) #[] #[]))] (some s2_2),iGp (pBld [.nilFunc] [(0,1)]) [(rk (.func (.func 92) #[] #[]))] (some s2_3),iGp (pBld [.nilFunc] [(0,1)]) [(rk (.func (.func 93) #[] #[]))] (some s2_4),iGp (pBld [.nilFunc] [(0,1)]) [(rk (.func (.func 94) #[] #[]))] (some s2_5),iGp (pBld [.nilFunc] [(0,1)]) [(rk (.func (.func 95) #[] #[]))] (some s2_6),iGp (pBld [.nilFunc] [(0,1)]) [(rk (.func (.func 96) #[] #[]))] (some s2_7),iGp (pBld [.nilFunc] [(0,1)]) [(rk (.func (.func 97) #[] #[]))] (some s2_8),iGp (pBld [.nilFunc] [(0,1)]) [(rk (.func (.func 98) #[] #[]))] (some s2_9),iGp (pBld [.nilFunc] [(0,1)]) [(rk (.func (.func 99) #[] #[]))] (some s2_10),iGp (pBld [.nilFunc] [(0,1)]) [(rk (.func (.func 100) #[] #[]))] (some s2_11),iGp (pBld [.nilFunc] [(0,1)]) [(rk (.func (.func 101) #[] #[]))] (some s2_12),iGp (pBld [.nilFunc] [(0,1)]) [(rk (.func (.func 102) #[] #[]))] (some s2_13),iGp (pBld [.nilFunc] [(0,1)]) [(rk (.func (.func 103) #[] #[]))] (some s2_14),iGp (pBld [.nilFunc] [(0,1)]) [(rk (.func (.func 104) #[] #[]))] (some s2_15),iGp (pBld [.nilFunc] [(0,1)]) [(rk (.func (.func 105) #[] #[]))] (some s2_16),iGp (pBld [.nilFunc] [(0,1)]) [(rk (.func (.func 106) #[] #[]))] (some s2_17),iGp (pBld [.nilFunc,.nilFunc,.nilFunc,.nilFunc,.nilFunc,.nilFunc,.nilFunc,.nilFunc,.nilFunc,.nilFunc,.nilFunc,.nilFunc,.nilFunc,.nilFunc,.nilFunc,.nilFunc,.nilFunc,.nilFunc,.nilFunc,.nilFunc,.nilFunc,.nilFunc] [(4,1),(5,1),(6,1),(7,1),(8,1),(9,1),(10,1),(11,1),(12,1),(13,1),(14,1),(15,1),(16,1),(17,1),(18,1),(19,1),(20,1)]) [r2_1,r2_2,r2_3,r2_4,r2_5,r2_6,r2_7,r2_8,r2_9,r2_10,r2_11,r2_12,r2_13,r2_14,r2_15,r2_16,r2_17] (some s2_18),iGm (m2 (sStn 22)) [r2_0,r2_18] none]
def x87 : XC tf2 := (.rg x87_0 (.rg x87_1 .ret))
def c87 : Code := Tryd.f87.body.getD .skip
theorem x87_b : Tryd.f87.body = some c87 := by kernel_rfl
theorem x87_c : cG (comp Tryd.prog) 2 2 19 x87 c87 = x87.den := by kernel_rfl
def y87 : List (RR Tryd.prog 2 19 tf2) := [rrS (.cell 0 178)]
theorem x87_r : y87.map RR.den = Tryd.f87.results.toList := by kernel_rfl
theorem x87_k : okFn Tryd.f87 = true := by kernel_rfl
theorem x87_D : 2 = dep Tryd.f87.ntmps := by kernel_rfl
theorem x87_s : ([] : List (Slot tf2)).map Slot.p = (List.range' 0 0).map (pth 2) := by kernel_rfl
def X87 : XFn Tryd.prog 2 (comp Tryd.prog) := ⟨X2,tf2,87,Tryd.f87,c87,2,19,[],z2,x87,y87,x87_D,Tryd.ntmps87.symm,Tryd.func87,x87_b,x87_k,x87_s,by decide,z2_ok,x87_c,x87_r⟩
def x89_0 : List (Ins tf2) := [iAs (rk (.int .i64 (.ofNat 0))) s2_4]
def x89_1 : List (Ins tf2) := [iMv r2_0 s2_6,iP1 bLen r2_6 s2_7,iMv (rk (.int .i64 (.ofNat 0))) s2_8]
def x89_2 : List (Ins tf2) := [iP2 bLt r2_8 r2_7 s2_9]
def x89_3 : List (Ins tf2) := [iMv r2_8 s2_10,iAs r2_10 s2_5]
def x89_4 : List (Ins tf2) := [iMv r2_1 s2_11,iMv r2_0 s2_12,iMv r2_5 s2_13,iP2 (bIxs 1) r2_12 r2_13 s2_14,iR1 bLd r2_14 s2_15,iGp (l2 (pBin .eql)) [r2_11,r2_15] (some s2_16)]
def x89_5 : List (Ins tf2) := [iMv r2_5 s2_17,iAs r2_17 s2_4]
def x89_6 : List (Ins tf2) := [iP2 bAdd r2_8 (rk (.int .i64 (.ofNat 1))) s2_18,iMv r2_18 s2_8]
def x89_7 : List (Ins tf2) := [iAs (rk (.int .i64 (.negSucc 0))) s2_4]
def x89 : XC tf2 := (.rg x89_0 (.seq (.rg x89_1 (.block 0 (.loop (.rg x89_2 (.seq (.cond r2_9 .skip (.exit 0)) (.seq (.block 1 (.rg x89_3 (.rg x89_4 (.cond r2_16 (.rg x89_5 .ret) .skip)))) (.reg x89_6))))))) (.rg x89_7 .ret)))
def c89 : Code := Tryd.f89.body.getD .skip
theorem x89_b : Tryd.f89.body = some c89 := by kernel_rfl
theorem x89_c : cG (comp Tryd.prog) 2 2 19 x89 c89 = x89.den := by kernel_rfl
def y89 : List (RR Tryd.prog 2 19 tf2) := [rrT r2_4 4 rfl rfl]
theorem x89_r : y89.map RR.den = Tryd.f89.results.toList := by kernel_rfl
theorem x89_k : okFn Tryd.f89 = true := by kernel_rfl
theorem x89_D : 2 = dep Tryd.f89.ntmps := by kernel_rfl
theorem x89_s : ([s2_0,s2_1] : List (Slot tf2)).map Slot.p = (List.range' 0 2).map (pth 2) := by kernel_rfl
def X89 : XFn Tryd.prog 2 (comp Tryd.prog) := ⟨X2,tf2,89,Tryd.f89,c89,2,19,[s2_0,s2_1],z2,x89,y89,x89_D,Tryd.ntmps89.symm,Tryd.func89,x89_b,x89_k,x89_s,by decide,z2_ok,x89_c,x89_r⟩
def x101_0 : List (Ins tf2) := [iAs (rk (.int .u64 (.ofNat 0))) s2_6]
def x101_1 : List (Ins tf2) := [iMv r2_1 s2_7,iMv r2_2 s2_8,iP2 bEq r2_7 r2_8 s2_9,iCall (rk (.func (.func 109) #[] #[])) [r2_9] (some s2_10),iAs r2_10 s2_6]
def x101 : XC tf2 := (.rg x101_0 (.rg x101_1 .ret))
def c101 : Code := Tryd.f101.body.getD .skip
theorem x101_b : Tryd.f101.body = some c101 := by kernel_rfl
theorem x101_c : cG (comp Tryd.prog) 2 2 11 x101 c101 = x101.den := by kernel_rfl
def y101 : List (RR Tryd.prog 2 11 tf2) := [rrT r2_6 6 rfl rfl]
theorem x101_r : y101.map RR.den = Tryd.f101.results.toList := by kernel_rfl
theorem x101_k : okFn Tryd.f101 = true := by kernel_rfl
theorem x101_D : 2 = dep Tryd.f101.ntmps := by kernel_rfl
theorem x101_s : ([s2_0,s2_1,s2_2] : List (Slot tf2)).map Slot.p = (List.range' 0 3).map (pth 2) := by kernel_rfl
def X101 : XFn Tryd.prog 2 (comp Tryd.prog) := ⟨X2,tf2,101,Tryd.f101,c101,2,11,[s2_0,s2_1,s2_2],z2,x101,y101,x101_D,Tryd.ntmps101.symm,Tryd.func101,x101_b,x101_k,x101_s,by decide,z2_ok,x101_c,x101_r⟩
def x109_0 : List (Ins tf1) := [iAs (rk (.int .u64 (.ofNat 0))) s1_2]
def x109_1 : List (Ins tf1) := [iMv r1_0 s1_3]
def x109_2 : List (Ins tf1) := [iAs (rk (.int .u64 (.ofNat 1))) s1_2]
def x109_3 : List (Ins tf1) := [iAs (rk (.int .u64 (.ofNat 0))) s1_2]
def x109 : XC tf1 := (.rg x109_0 (.seq (.rg x109_1 (.cond r1_3 (.rg x109_2 .ret) .skip)) (.rg x109_3 .ret)))
def c109 : Code := Tryd.f109.body.getD .skip
theorem x109_b : Tryd.f109.body = some c109 := by kernel_rfl
theorem x109_c : cG (comp Tryd.prog) 2 1 4 x109 c109 = x109.den := by kernel_rfl
def y109 : List (RR Tryd.prog 1 4 tf1) := [rrT r1_2 2 rfl rfl]
theorem x109_r : y109.map RR.den = Tryd.f109.results.toList := by kernel_rfl
theorem x109_k : okFn Tryd.f109 = true := by kernel_rfl
theorem x109_D : 1 = dep Tryd.f109.ntmps := by kernel_rfl
theorem x109_s : ([s1_0] : List (Slot tf1)).map Slot.p = (List.range' 0 1).map (pth 1) := by kernel_rfl
def X109 : XFn Tryd.prog 2 (comp Tryd.prog) := ⟨X1,tf1,109,Tryd.f109,c109,1,4,[s1_0],z1,x109,y109,x109_D,Tryd.ntmps109.symm,Tryd.func109,x109_b,x109_k,x109_s,by decide,z1_ok,x109_c,x109_r⟩
end
end Cr
end Go.Proofs.YtjhbabgcoemecaaDoor
namespace Go.Proofs.YtjhbabgcoemecaaDoor
namespace Cr
open Go Go.RowKit
set_option maxRecDepth 100000
noncomputable section
def x134_0 : List (Ins tf2) := [iAs (rk (.bool false)) s2_4]
def x134_1 : List (Ins tf2) := [iMv r2_1 s2_5,iP2 bGe r2_5 (rk (.int .i64 (.ofNat 0))) s2_6,iMv r2_6 s2_7,iGd r2_7 [.o7,.o0] true (iMv r2_1 s2_8) (some s2_8) rfl rfl rfl,iGd r2_7 [.o7,.o0] true (iMv r2_0 s2_9) (some s2_9) rfl rfl rfl,iGd r2_7 [.o7,.o0] true (iP1 bNil r2_9 s2_10) (some s2_10) rfl rfl rfl,iGd r2_7 [.o7,.o0] true (iP1 (bFa 0) r2_10 s2_11) (some s2_11) rfl rfl rfl,iGd r2_7 [.o7,.o0] true (iR1 bLd r2_11 s2_12) (some s2_12) rfl rfl rfl,iGd r2_7 [.o7,.o0] true (iCall (rk (.func (.func 74) #[] #[])) [r2_12] (some s2_13)) (some s2_13) rfl rfl rfl,iGd r2_7 [.o7,.o0] true (iP2 bLt r2_8 r2_13 s2_14) (some s2_14) rfl rfl rfl,iGp (l3 pPick) [r2_7,r2_14,(rk (.bool false))] (some s2_15),iAs r2_15 s2_4]
def x134 : XC tf2 := (.rg x134_0 (.rg x134_1 .ret))
def c134 : Code := Tryd.f134.body.getD .skip
theorem x134_b : Tryd.f134.body = some c134 := by kernel_rfl
theorem x134_c : cG (comp Tryd.prog) 2 2 16 x134 c134 = x134.den := by kernel_rfl
def y134 : List (RR Tryd.prog 2 16 tf2) := [rrT r2_4 4 rfl rfl]
theorem x134_r : y134.map RR.den = Tryd.f134.results.toList := by kernel_rfl
theorem x134_k : okFn Tryd.f134 = true := by kernel_rfl
theorem x134_D : 2 = dep Tryd.f134.ntmps := by kernel_rfl
theorem x134_s : ([s2_0,s2_1] : List (Slot tf2)).map Slot.p = (List.range' 0 2).map (pth 2) := by kernel_rfl
def X134 : XFn Tryd.prog 2 (comp Tryd.prog) := ⟨X2,tf2,134,Tryd.f134,c134,2,16,[s2_0,s2_1],z2,x134,y134,x134_D,Tryd.ntmps134.symm,Tryd.func134,x134_b,x134_k,x134_s,by decide,z2_ok,x134_c,x134_r⟩
def x141_0 : List (Ins tf2) := [iGa (a1 gBox) [r2_2] (some s2_5),iAs (rk (.bool false)) s2_6]
def x141_1 : List (Ins tf2) := [iMv r2_0 s2_11,iP1 bNil r2_11 s2_12,iP1 (bFa 1) r2_12 s2_13,iP1 (bFa 2) r2_13 s2_14,iR1 bLd r2_14 s2_15,iP1 bLen r2_15 s2_16,iP1 (bFa 3) r2_5 s2_17,iR1 bLd r2_17 s2_18,iMv r2_1 s2_19,iP1 bNil r2_19 s2_20,iP1 (bFa 2) r2_20 s2_21,iP1 (bFa 6) r2_21 s2_22,iR1 bLd r2_22 s2_23,iP1 (bFa 3) r2_5 s2_24,iR1 bLd r2_24 s2_25,iP2 (bIxs 1) r2_23 r2_25 s2_26,iR1 bLd r2_26 s2_27,iCall (rk (.func (.func 11) #[] #[])) [r2_16,r2_18,r2_27] (some s2_28),iMv r2_28 s2_10,iGp (l1 (pExt 0)) [r2_10] (some s2_29),iGp (l1 (pExt 1)) [r2_10] (some s2_30),iAs r2_29 s2_7,iAs r2_30 s2_8]
def x141_2 : List (Ins tf2) := [iMv r2_0 s2_31,iMv r2_8 s2_32,iCall (rk (.func (.func 43) #[] #[])) [r2_31,r2_32] (some s2_33)]
def x141_3 : List (Ins tf2) := [iAs (rk (.bool false)) s2_6]
def x141_4 : List (Ins tf2) := [iMv r2_1 s2_34,iP1 bNil r2_34 s2_35,iP1 (bFa 2) r2_35 s2_36,iP1 (bFa 6) r2_36 s2_37,iR1 bLd r2_37 s2_38,iP1 (bFa 3) r2_5 s2_39,iR1 bLd r2_39 s2_40,iP2 (bIxs 1) r2_38 r2_40 s2_41,iR1 bLd r2_41 s2_42,iP2 bAdd r2_42 (rk (.int .i64 (.ofNat 1))) s2_43,iP2 (bIxs 1) r2_38 r2_40 s2_44,iM2 bSt r2_44 r2_43]
def x141_5 : List (Ins tf2) := [iMv r2_0 s2_46,iP1 bNil r2_46 s2_47,iP1 (bFa 0) r2_47 s2_48,iR1 bLd r2_48 s2_49,iMv r2_7 s2_50,iCall (rk (.func (.func 52) #[] #[])) [r2_49,r2_50] (some s2_51),iMv r2_51 s2_45,iGp (l1 (pExt 0)) [r2_45] (some s2_52),iGp (l1 (pExt 1)) [r2_45] (some s2_53),iAs r2_52 s2_9,iAs r2_53 s2_8]
def x141_6 : List (Ins tf2) := [iMv r2_0 s2_54,iMv r2_1 s2_55,iP1 (bFa 2) r2_5 s2_56,iR1 bLd r2_56 s2_57,iMv r2_9 s2_58,iMv r2_8 s2_59,iCall (rk (.func (.func 148) #[] #[])) [r2_54,r2_55,r2_57,r2_58,r2_59] (some s2_60),iAs r2_60 s2_6]
def x141 : XC tf2 := (.rg x141_0 (.rg x141_1 (.seq (.rg x141_2 (.cond r2_33 (.rg x141_3 .ret) .skip)) (.rg x141_4 (.rg x141_5 (.rg x141_6 .ret))))))
def c141 : Code := Tryd.f141.body.getD .skip
theorem x141_b : Tryd.f141.body = some c141 := by kernel_rfl
theorem x141_c : cG (comp Tryd.prog) 2 2 61 x141 c141 = x141.den := by kernel_rfl
def y141 : List (RR Tryd.prog 2 61 tf2) := [rrT r2_6 6 rfl rfl]
theorem x141_r : y141.map RR.den = Tryd.f141.results.toList := by kernel_rfl
theorem x141_k : okFn Tryd.f141 = true := by kernel_rfl
theorem x141_D : 2 = dep Tryd.f141.ntmps := by kernel_rfl
theorem x141_s : ([s2_0,s2_1,s2_2] : List (Slot tf2)).map Slot.p = (List.range' 0 3).map (pth 2) := by kernel_rfl
def X141 : XFn Tryd.prog 2 (comp Tryd.prog) := ⟨X2,tf2,141,Tryd.f141,c141,2,61,[s2_0,s2_1,s2_2],z2,x141,y141,x141_D,Tryd.ntmps141.symm,Tryd.func141,x141_b,x141_k,x141_s,by decide,z2_ok,x141_c,x141_r⟩
def x146_0 : List (Ins tf2) := [iGa (a1 gBox) [r2_2] (some s2_5),iAs (rk (.bool false)) s2_6]
def x146_1 : List (Ins tf2) := [iMv r2_1 s2_7,iP1 bNil r2_7 s2_8,iP1 (bFa 2) r2_8 s2_9,iP1 (bFa 1) r2_9 s2_10,iM2 bSt r2_10 (rk (.int .u8 (.ofNat 0)))]
def x146_2 : List (Ins tf2) := [iAs (rk (.bool true)) s2_6]
def x146 : XC tf2 := (.rg x146_0 (.rg x146_1 (.rg x146_2 .ret)))
def c146 : Code := Tryd.f146.body.getD .skip
theorem x146_b : Tryd.f146.body = some c146 := by kernel_rfl
theorem x146_c : cG (comp Tryd.prog) 2 2 11 x146 c146 = x146.den := by kernel_rfl
def y146 : List (RR Tryd.prog 2 11 tf2) := [rrT r2_6 6 rfl rfl]
theorem x146_r : y146.map RR.den = Tryd.f146.results.toList := by kernel_rfl
theorem x146_k : okFn Tryd.f146 = true := by kernel_rfl
theorem x146_D : 2 = dep Tryd.f146.ntmps := by kernel_rfl
theorem x146_s : ([s2_0,s2_1,s2_2] : List (Slot tf2)).map Slot.p = (List.range' 0 3).map (pth 2) := by kernel_rfl
def X146 : XFn Tryd.prog 2 (comp Tryd.prog) := ⟨X2,tf2,146,Tryd.f146,c146,2,11,[s2_0,s2_1,s2_2],z2,x146,y146,x146_D,Tryd.ntmps146.symm,Tryd.func146,x146_b,x146_k,x146_s,by decide,z2_ok,x146_c,x146_r⟩
def x153_0 : List (Ins tf2) := [iAs (rk (.int .i64 (.ofNat 0))) s2_6]
def x153_1 : List (Ins tf2) := [iMv r2_0 s2_7,iGp (l2 (pEqD (tdOf 96) false)) [r2_7,(rk (.pointer none))] (some s2_8)]
def x153_2 : List (Ins tf2) := [iAs (rk (.int .i64 (.ofNat 1))) s2_6]
def x153_3 : List (Ins tf2) := [iMv r2_1 s2_9,iP2 bLt r2_9 (rk (.int .i64 (.ofNat 0))) s2_10,iMv r2_10 s2_11,iGd r2_11 [.o3,.o1] false (iMv r2_1 s2_12) (some s2_12) rfl rfl rfl,iGd r2_11 [.o3,.o1] false (iMv r2_0 s2_13) (some s2_13) rfl rfl rfl,iGd r2_11 [.o3,.o1] false (iP1 bNil r2_13 s2_14) (some s2_14) rfl rfl rfl,iGd r2_11 [.o3,.o1] false (iP1 (bFa 1) r2_14 s2_15) (some s2_15) rfl rfl rfl,iGd r2_11 [.o3,.o1] false (iR1 bLd r2_15 s2_16) (some s2_16) rfl rfl rfl,iGd r2_11 [.o3,.o1] false (iP1 bLen r2_16 s2_17) (some s2_17) rfl rfl rfl,iGd r2_11 [.o3,.o1] false (iP2 bGe r2_12 r2_17 s2_18) (some s2_18) rfl rfl rfl,iGp (l3 pPick) [r2_11,(rk (.bool true)),r2_18] (some s2_19),iMv r2_19 s2_20,iGd r2_20 [.o4,.o2] false (iMv r2_0 s2_21) (some s2_21) rfl rfl rfl,iGd r2_20 [.o4,.o2] false (iMv r2_2 s2_22) (some s2_22) rfl rfl rfl,iGd r2_20 [.o4,.o2] false (iCall (rk (.func (.func 134) #[] #[])) [r2_21,r2_22] (some s2_23)) (some s2_23) rfl rfl rfl,iGd r2_20 [.o4,.o2] false (iGp (l1 (pUn .not)) [r2_23] (some s2_24)) (some s2_24) rfl rfl rfl,iGp (l3 pPick) [r2_20,(rk (.bool true)),r2_24] (some s2_25)]
def x153_4 : List (Ins tf2) := [iAs (rk (.int .i64 (.ofNat 3))) s2_6]
def x153_5 : List (Ins tf2) := [iMv r2_0 s2_26,iP1 bNil r2_26 s2_27,iP1 (bFa 1) r2_27 s2_28,iR1 bLd r2_28 s2_29,iMv r2_1 s2_30,iMv r2_2 s2_31,iP2 (bIxs 1) r2_29 r2_30 s2_32,iM2 bSt r2_32 r2_31]
def x153_6 : List (Ins tf2) := [iAs (rk (.int .i64 (.ofNat 0))) s2_6]
def x153 : XC tf2 := (.rg x153_0 (.seq (.rg x153_1 (.cond r2_8 (.rg x153_2 .ret) .skip)) (.seq (.rg x153_3 (.cond r2_25 (.rg x153_4 .ret) .skip)) (.rg x153_5 (.rg x153_6 .ret)))))
def c153 : Code := Tryd.f153.body.getD .skip
theorem x153_b : Tryd.f153.body = some c153 := by kernel_rfl
theorem x153_c : cG (comp Tryd.prog) 2 2 33 x153 c153 = x153.den := by kernel_rfl
def y153 : List (RR Tryd.prog 2 33 tf2) := [rrT r2_6 6 rfl rfl]
theorem x153_r : y153.map RR.den = Tryd.f153.results.toList := by kernel_rfl
theorem x153_k : okFn Tryd.f153 = true := by kernel_rfl
theorem x153_D : 2 = dep Tryd.f153.ntmps := by kernel_rfl
theorem x153_s : ([s2_0,s2_1,s2_2] : List (Slot tf2)).map Slot.p = (List.range' 0 3).map (pth 2) := by kernel_rfl
def X153 : XFn Tryd.prog 2 (comp Tryd.prog) := ⟨X2,tf2,153,Tryd.f153,c153,2,33,[s2_0,s2_1,s2_2],z2,x153,y153,x153_D,Tryd.ntmps153.symm,Tryd.func153,x153_b,x153_k,x153_s,by decide,z2_ok,x153_c,x153_r⟩
def x157_0 : List (Ins tf2) := [iMv r2_0 s2_2,iMv r2_0 s2_3,iP1 bNil r2_3 s2_4,iP1 (bFa 2) r2_4 s2_5,iP1 (bFa 5) r2_5 s2_6,iR1 bLd r2_6 s2_7,iGa (aBsl 1 1 [(.bool false)] [(0,1)]) [(rk (.bool false))] (some s2_8),iGm (m2 (sApp 1)) [r2_7,r2_8] (some s2_9),iP1 bNil r2_2 s2_10,iP1 (bFa 2) r2_10 s2_11,iP1 (bFa 5) r2_11 s2_12,iM2 bSt r2_12 r2_9]
def x157_1 : List (Ins tf2) := [iMv r2_0 s2_13,iP1 bNil r2_13 s2_14,iP1 (bFa 1) r2_14 s2_15,iR1 bLd r2_15 s2_16,iP2 bAdd r2_16 (rk (.int .i64 (.ofNat 1))) s2_17,iP1 bNil r2_13 s2_18,iP1 (bFa 1) r2_18 s2_19,iM2 bSt r2_19 r2_17]
def x157 : XC tf2 := (.rg x157_0 (.reg x157_1))
def c157 : Code := Tryd.f157.body.getD .skip
theorem x157_b : Tryd.f157.body = some c157 := by kernel_rfl
theorem x157_c : cG (comp Tryd.prog) 2 2 20 x157 c157 = x157.den := by kernel_rfl
def y157 : List (RR Tryd.prog 2 20 tf2) := []
theorem x157_r : y157.map RR.den = Tryd.f157.results.toList := by kernel_rfl
theorem x157_k : okFn Tryd.f157 = true := by kernel_rfl
theorem x157_D : 2 = dep Tryd.f157.ntmps := by kernel_rfl
theorem x157_s : ([s2_0] : List (Slot tf2)).map Slot.p = (List.range' 0 1).map (pth 2) := by kernel_rfl
def X157 : XFn Tryd.prog 2 (comp Tryd.prog) := ⟨X2,tf2,157,Tryd.f157,c157,2,20,[s2_0],z2,x157,y157,x157_D,Tryd.ntmps157.symm,Tryd.func157,x157_b,x157_k,x157_s,by decide,z2_ok,x157_c,x157_r⟩
def x158_0 : List (Ins tf2) := [iMv r2_0 s2_3,iMv r2_0 s2_4,iP1 bNil r2_4 s2_5,iP1 (bFa 2) r2_5 s2_6,iP1 (bFa 5) r2_6 s2_7,iR1 bLd r2_7 s2_8,iGa (aBsl 1 1 [(.bool false)] [(0,1)]) [(rk (.bool true))] (some s2_9),iGm (m2 (sApp 1)) [r2_8,r2_9] (some s2_10),iP1 bNil r2_3 s2_11,iP1 (bFa 2) r2_11 s2_12,iP1 (bFa 5) r2_12 s2_13,iM2 bSt r2_13 r2_10]
def x158_1 : List (Ins tf2) := [iMv r2_0 s2_14,iP1 (bFa 3) r2_1 s2_15,iR1 bLd r2_15 s2_16,iP1 bNil r2_14 s2_17,iP1 (bFa 1) r2_17 s2_18,iM2 bSt r2_18 r2_16]
def x158 : XC tf2 := (.rg x158_0 (.reg x158_1))
def c158 : Code := Tryd.f158.body.getD .skip
theorem x158_b : Tryd.f158.body = some c158 := by kernel_rfl
theorem x158_c : cG (comp Tryd.prog) 2 2 19 x158 c158 = x158.den := by kernel_rfl
def y158 : List (RR Tryd.prog 2 19 tf2) := []
theorem x158_r : y158.map RR.den = Tryd.f158.results.toList := by kernel_rfl
theorem x158_k : okFn Tryd.f158 = true := by kernel_rfl
theorem x158_D : 2 = dep Tryd.f158.ntmps := by kernel_rfl
theorem x158_s : ([s2_0,s2_1] : List (Slot tf2)).map Slot.p = (List.range' 0 2).map (pth 2) := by kernel_rfl
def X158 : XFn Tryd.prog 2 (comp Tryd.prog) := ⟨X2,tf2,158,Tryd.f158,c158,2,19,[s2_0,s2_1],z2,x158,y158,x158_D,Tryd.ntmps158.symm,Tryd.func158,x158_b,x158_k,x158_s,by decide,z2_ok,x158_c,x158_r⟩
def x159_0 : List (Ins tf2) := [iAs (rk (.int .u64 (.ofNat 0))) s2_4,iAs (rk (.bool false)) s2_5]
def x159_1 : List (Ins tf2) := [iMv r2_0 s2_9,iMv r2_1 s2_10,iCall (rk (.func (.func 75) #[] #[])) [r2_9,r2_10] (some s2_11),iMv r2_11 s2_8,iGp (l1 (pExt 0)) [r2_8] (some s2_12),iGp (l1 (pExt 1)) [r2_8] (some s2_13),iGa (aAl 3 [(.int .u8 (.ofNat 0)),(.int .u64 (.ofNat 0)),(.slice none 0 0)]) [] (some s2_6),iGm (m2 (sStn 3)) [r2_6,r2_12] none,iAs r2_13 s2_7]
def x159_2 : List (Ins tf2) := [iMv r2_7 s2_14,iP2 bNe r2_14 (rk (.int .i64 (.ofNat 0))) s2_15,iMv r2_15 s2_16,iGd r2_16 [.o0,.o2] false (iP1 (bFa 0) r2_6 s2_17) (some s2_17) rfl rfl rfl,iGd r2_16 [.o0,.o2] false (iR1 bLd r2_17 s2_18) (some s2_18) rfl rfl rfl,iGd r2_16 [.o0,.o2] false (iP2 bNe r2_18 (rk (.int .u8 (.ofNat 0))) s2_19) (some s2_19) rfl rfl rfl,iGp (l3 pPick) [r2_16,(rk (.bool true)),r2_19] (some s2_20)]
def x159_3 : List (Ins tf2) := [iAs (rk (.int .u64 (.ofNat 0))) s2_4,iAs (rk (.bool false)) s2_5]
def x159_4 : List (Ins tf2) := [iP1 (bFa 1) r2_6 s2_21,iR1 bLd r2_21 s2_22,iAs r2_22 s2_4,iAs (rk (.bool true)) s2_5]
def x159 : XC tf2 := (.rg x159_0 (.rg x159_1 (.seq (.rg x159_2 (.cond r2_20 (.rg x159_3 .ret) .skip)) (.rg x159_4 .ret))))
def c159 : Code := Tryd.f159.body.getD .skip
theorem x159_b : Tryd.f159.body = some c159 := by kernel_rfl
theorem x159_c : cG (comp Tryd.prog) 2 2 23 x159 c159 = x159.den := by kernel_rfl
def y159 : List (RR Tryd.prog 2 23 tf2) := [rrT r2_4 4 rfl rfl,rrT r2_5 5 rfl rfl]
theorem x159_r : y159.map RR.den = Tryd.f159.results.toList := by kernel_rfl
theorem x159_k : okFn Tryd.f159 = true := by kernel_rfl
theorem x159_D : 2 = dep Tryd.f159.ntmps := by kernel_rfl
theorem x159_s : ([s2_0,s2_1] : List (Slot tf2)).map Slot.p = (List.range' 0 2).map (pth 2) := by kernel_rfl
def X159 : XFn Tryd.prog 2 (comp Tryd.prog) := ⟨X2,tf2,159,Tryd.f159,c159,2,23,[s2_0,s2_1],z2,x159,y159,x159_D,Tryd.ntmps159.symm,Tryd.func159,x159_b,x159_k,x159_s,by decide,z2_ok,x159_c,x159_r⟩
def x160_0 : List (Ins tf2) := [iAs (rk (.bool false)) s2_2]
def x160_1 : List (Ins tf2) := [iMv r2_0 s2_3]
def x160_2 : List (Ins tf2) := [iP2 bEq r2_3 (rk (.int .u8 (.ofNat 4))) s2_5,iAs r2_5 s2_4]
def x160_3 : List (Ins tf2) := [iP2 bEq r2_3 (rk (.int .u8 (.ofNat 6))) s2_6,iAs r2_6 s2_4]
def x160_4 : List (Ins tf2) := [iP2 bEq r2_3 (rk (.int .u8 (.ofNat 9))) s2_7,iAs r2_7 s2_4]
def x160_5 : List (Ins tf2) := [iP2 bEq r2_3 (rk (.int .u8 (.ofNat 10))) s2_8,iAs r2_8 s2_4]
def x160_6 : List (Ins tf2) := [iP2 bEq r2_3 (rk (.int .u8 (.ofNat 11))) s2_9,iAs r2_9 s2_4]
def x160_7 : List (Ins tf2) := [iP2 bEq r2_3 (rk (.int .u8 (.ofNat 15))) s2_10,iAs r2_10 s2_4]
def x160_8 : List (Ins tf2) := [iP2 bEq r2_3 (rk (.int .u8 (.ofNat 16))) s2_11,iAs r2_11 s2_4]
def x160_9 : List (Ins tf2) := [iAs (rk (.bool true)) s2_2]
def x160_10 : List (Ins tf2) := [iAs (rk (.bool false)) s2_2]
def x160 : XC tf2 := (.rg x160_0 (.seq (.rg x160_1 (.block 0 (.seq (.rg x160_2 (.cond r2_4 .skip (.rg x160_3 (.cond r2_4 .skip (.rg x160_4 (.cond r2_4 .skip (.rg x160_5 (.cond r2_4 .skip (.rg x160_6 (.cond r2_4 .skip (.rg x160_7 (.cond r2_4 .skip (.reg x160_8))))))))))))) (.cond r2_4 (.rg x160_9 .ret) .skip)))) (.rg x160_10 .ret)))
def c160 : Code := Tryd.f160.body.getD .skip
theorem x160_b : Tryd.f160.body = some c160 := by kernel_rfl
theorem x160_c : cG (comp Tryd.prog) 2 2 12 x160 c160 = x160.den := by kernel_rfl
def y160 : List (RR Tryd.prog 2 12 tf2) := [rrT r2_2 2 rfl rfl]
theorem x160_r : y160.map RR.den = Tryd.f160.results.toList := by kernel_rfl
theorem x160_k : okFn Tryd.f160 = true := by kernel_rfl
theorem x160_D : 2 = dep Tryd.f160.ntmps := by kernel_rfl
theorem x160_s : ([s2_0] : List (Slot tf2)).map Slot.p = (List.range' 0 1).map (pth 2) := by kernel_rfl
def X160 : XFn Tryd.prog 2 (comp Tryd.prog) := ⟨X2,tf2,160,Tryd.f160,c160,2,12,[s2_0],z2,x160,y160,x160_D,Tryd.ntmps160.symm,Tryd.func160,x160_b,x160_k,x160_s,by decide,z2_ok,x160_c,x160_r⟩
def x168_0 : List (Ins tf2) := [iGa (a1 gBox) [r2_1] (some s2_4),iAs (rk (.bool false)) s2_6]
def x168_1 : List (Ins tf2) := [iMv r2_0 s2_13,iP1 bNil r2_13 s2_14,iP1 (bFa 0) r2_14 s2_15,iR1 bLd r2_15 s2_16,iMv r2_2 s2_17,iCall (rk (.func (.func 159) #[] #[])) [r2_16,r2_17] (some s2_18),iMv r2_18 s2_12,iGp (l1 (pExt 0)) [r2_12] (some s2_19),iGp (l1 (pExt 1)) [r2_12] (some s2_20),iAs r2_19 s2_7,iAs r2_20 s2_8]
def x168_2 : List (Ins tf2) := [iMv r2_8 s2_21]
def x168_3 : List (Ins tf2) := [iMv r2_7 s2_22,iP2 bNe r2_22 (rk (.int .u64 (.ofNat 0))) s2_23,iAs r2_23 s2_6]
def x168_4 : List (Ins tf2) := [iMv r2_0 s2_25,iP1 bNil r2_25 s2_26,iP1 (bFa 0) r2_26 s2_27,iR1 bLd r2_27 s2_28,iMv r2_0 s2_29,iP1 bNil r2_29 s2_30,iP1 (bFa 7) r2_30 s2_31,iR1 bLd r2_31 s2_32,iP1 (bFa 2) r2_4 s2_33,iP1 (bFa 0) r2_33 s2_34,iR1 bLd r2_34 s2_35,iMv r2_2 s2_37,iGa (aBsl 1 1 [(.int .i64 (.ofNat 0))] [(0,1)]) [r2_37] (some s2_38),iRc (iGm (m2 (sApp 1)) [(rk (.slice none 0 0)),r2_35] (some s2_36)) [(rcLd r2_31 r2_32 [.o0,.o4] rfl),(rcLd r2_27 r2_28 [.o4,.o3] rfl)] rfl,iRc (iGm (m2 (sApp 1)) [r2_36,r2_38] (some s2_39)) [(rcLd r2_31 r2_32 [.o0,.o4] rfl),(rcLd r2_27 r2_28 [.o4,.o3] rfl)] rfl,iCall (rk (.func (.func 180) #[] #[])) [r2_28,r2_32,r2_39] (some s2_40),iMv r2_40 s2_24,iGp (l1 (pExt 0)) [r2_24] (some s2_41),iGp (l1 (pExt 1)) [r2_24] (some s2_42),iGp (l1 (pExt 2)) [r2_24] (some s2_43),iAs r2_41 s2_9,iAs r2_42 s2_10,iAs r2_43 s2_11]
def x168_5 : List (Ins tf2) := [iMv r2_0 s2_44,iMv r2_11 s2_45,iCall (rk (.func (.func 43) #[] #[])) [r2_44,r2_45] (some s2_46),iGp (l1 (pUn .not)) [r2_46] (some s2_47),iMv r2_47 s2_48,iGd r2_48 [.o0,.o6] true (iMv r2_9 s2_49) (some s2_49) rfl rfl rfl,iGd r2_48 [.o0,.o6] true (iP2 bEq r2_49 (rk (.int .u8 (.ofNat 0))) s2_50) (some s2_50) rfl rfl rfl,iGp (l3 pPick) [r2_48,r2_50,(rk (.bool false))] (some s2_51)]
def x168_6 : List (Ins tf2) := [iMv r2_0 s2_52,iP1 bNil r2_52 s2_53,iP1 (bFa 9) r2_53 s2_54,iM2 bSt r2_54 (rk (.int .u8 (.ofNat 3)))]
def x168_7 : List (Ins tf2) := [iMv r2_9 s2_55,iP2 bEq r2_55 (rk (.int .u8 (.ofNat 1))) s2_56,iAs r2_56 s2_6]
def x168 : XC tf2 := (.rg x168_0 (.seq (.rg x168_1 (.rg x168_2 (.cond r2_21 (.rg x168_3 .ret) .skip))) (.rg x168_4 (.seq (.rg x168_5 (.cond r2_51 (.reg x168_6) .skip)) (.rg x168_7 .ret)))))
def c168 : Code := Tryd.f168.body.getD .skip
theorem x168_b : Tryd.f168.body = some c168 := by kernel_rfl
theorem x168_c : cG (comp Tryd.prog) 2 2 57 x168 c168 = x168.den := by kernel_rfl
def y168 : List (RR Tryd.prog 2 57 tf2) := [rrT r2_6 6 rfl rfl]
theorem x168_r : y168.map RR.den = Tryd.f168.results.toList := by kernel_rfl
theorem x168_k : okFn Tryd.f168 = true := by kernel_rfl
theorem x168_D : 2 = dep Tryd.f168.ntmps := by kernel_rfl
theorem x168_s : ([s2_0,s2_1,s2_2] : List (Slot tf2)).map Slot.p = (List.range' 0 3).map (pth 2) := by kernel_rfl
def X168 : XFn Tryd.prog 2 (comp Tryd.prog) := ⟨X2,tf2,168,Tryd.f168,c168,2,57,[s2_0,s2_1,s2_2],z2,x168,y168,x168_D,Tryd.ntmps168.symm,Tryd.func168,x168_b,x168_k,x168_s,by decide,z2_ok,x168_c,x168_r⟩
end
end Cr
end Go.Proofs.YtjhbabgcoemecaaDoor
namespace Go.Proofs.YtjhbabgcoemecaaDoor
namespace Cr
open Go Go.RowKit
set_option maxRecDepth 100000
noncomputable section
def x169_0 : List (Ins tf2) := [iGr (r1 (rLdn 9)) [r2_2] (some s2_9),iCall (rk (.func (.func 135) #[] #[])) [r2_9] (some s2_10),iGa (aAl 9 [(.pointer none),(.int .i64 (.ofNat 0)),(.slice none 0 0),(.int .u8 (.ofNat 0)),(.int .i64 (.ofNat 0)),(.slice none 0 0),(.slice none 0 0),(.slice none 0 0),(.slice none 0 0)]) [] (some s2_6),iGm (m2 (sStn 9)) [r2_6,r2_10] none]
def x169_1 : List (Ins tf2) := [iR1 bLd r2_3 s2_12,iP1 bNil r2_12 s2_13,iP1 (bFa 0) r2_13 s2_14,iR1 bLd r2_14 s2_15,iMv r2_0 s2_16,iCall (rk (.func (.func 159) #[] #[])) [r2_15,r2_16] (some s2_17),iMv r2_17 s2_11,iGp (l1 (pExt 0)) [r2_11] (some s2_18),iGp (l1 (pExt 1)) [r2_11] (some s2_19),iAs r2_18 s2_7,iAs r2_19 s2_8]
def x169_2 : List (Ins tf2) := [iMv r2_8 s2_20,iGp (l1 (pUn .not)) [r2_20] (some s2_21)]
def x169_3 : List (Ins tf2) := [iP1 (bFa 2) r2_6 s2_22,iP1 (bFa 0) r2_22 s2_23,iR1 bLd r2_23 s2_24,iMv r2_0 s2_25,iGa (aBsl 1 1 [(.int .i64 (.ofNat 0))] [(0,1)]) [r2_25] (some s2_26),iGm (m2 (sApp 1)) [r2_24,r2_26] (some s2_27),iP1 (bFa 2) r2_6 s2_28,iP1 (bFa 0) r2_28 s2_29,iM2 bSt r2_29 r2_27]
def x169_4 : List (Ins tf2) := [iMv r2_1 s2_30,iCall r2_30 [r2_6] (some s2_31)]
def x169_5 : List (Ins tf2) := [iR1 bLd r2_3 s2_32,iR1 bLd r2_3 s2_33,iP1 bNil r2_33 s2_34,iP1 (bFa 8) r2_34 s2_35,iR1 bLd r2_35 s2_36,iGr (r1 (rLdn 9)) [r2_6] (some s2_37),iGa (aBsl 1 9 [(.pointer none),(.int .i64 (.ofNat 0)),(.slice none 0 0),(.int .u8 (.ofNat 0)),(.int .i64 (.ofNat 0)),(.slice none 0 0),(.slice none 0 0),(.slice none 0 0),(.slice none 0 0)] [(0,9)]) [r2_37] (some s2_38),iRc (iGm (m2 (sApp 9)) [r2_36,r2_38] (some s2_39)) [(rcLd r2_3 r2_32 [.o0,.o4] rfl)] rfl,iP1 bNil r2_32 s2_40,iP1 (bFa 8) r2_40 s2_41,iM2 bSt r2_41 r2_39]
def x169 : XC tf2 := (.rg x169_0 (.seq (.rg x169_1 (.rg x169_2 (.cond r2_21 (.reg x169_3) .skip))) (.rg x169_4 (.reg x169_5))))
def c169 : Code := Tryd.f169.body.getD .skip
theorem x169_b : Tryd.f169.body = some c169 := by kernel_rfl
theorem x169_c : cG (comp Tryd.prog) 2 2 42 x169 c169 = x169.den := by kernel_rfl
def y169 : List (RR Tryd.prog 2 42 tf2) := []
theorem x169_r : y169.map RR.den = Tryd.f169.results.toList := by kernel_rfl
theorem x169_k : okFn Tryd.f169 = true := by kernel_rfl
theorem x169_D : 2 = dep Tryd.f169.ntmps := by kernel_rfl
theorem x169_s : ([s2_0,s2_1,s2_2,s2_3] : List (Slot tf2)).map Slot.p = (List.range' 0 4).map (pth 2) := by kernel_rfl
def X169 : XFn Tryd.prog 2 (comp Tryd.prog) := ⟨X2,tf2,169,Tryd.f169,c169,2,42,[s2_0,s2_1,s2_2,s2_3],z2,x169,y169,x169_D,Tryd.ntmps169.symm,Tryd.func169,x169_b,x169_k,x169_s,by decide,z2_ok,x169_c,x169_r⟩
def x172_0 : List (Ins tf1) := [iGa (a1 gBox) [r1_0] (some s1_1),iAs (rk .nilFunc) s1_2]
def x172_1 : List (Ins tf1) := [iGp (pMkf (.func 181) 0) [r1_1] (some s1_3),iAs r1_3 s1_2]
def x172 : XC tf1 := (.rg x172_0 (.rg x172_1 .ret))
def c172 : Code := Tryd.f172.body.getD .skip
theorem x172_b : Tryd.f172.body = some c172 := by kernel_rfl
theorem x172_c : cG (comp Tryd.prog) 2 1 4 x172 c172 = x172.den := by kernel_rfl
def y172 : List (RR Tryd.prog 1 4 tf1) := [rrT r1_2 2 rfl rfl]
theorem x172_r : y172.map RR.den = Tryd.f172.results.toList := by kernel_rfl
theorem x172_k : okFn Tryd.f172 = true := by kernel_rfl
theorem x172_D : 1 = dep Tryd.f172.ntmps := by kernel_rfl
theorem x172_s : ([s1_0] : List (Slot tf1)).map Slot.p = (List.range' 0 1).map (pth 1) := by kernel_rfl
def X172 : XFn Tryd.prog 2 (comp Tryd.prog) := ⟨X1,tf1,172,Tryd.f172,c172,1,4,[s1_0],z1,x172,y172,x172_D,Tryd.ntmps172.symm,Tryd.func172,x172_b,x172_k,x172_s,by decide,z1_ok,x172_c,x172_r⟩
def x173_0 : List (Ins tf1) := [iGa (a1 gBox) [r1_0] (some s1_1),iAs (rk .nilFunc) s1_2]
def x173_1 : List (Ins tf1) := [iGp (pMkf (.func 183) 0) [r1_1] (some s1_3),iAs r1_3 s1_2]
def x173 : XC tf1 := (.rg x173_0 (.rg x173_1 .ret))
def c173 : Code := Tryd.f173.body.getD .skip
theorem x173_b : Tryd.f173.body = some c173 := by kernel_rfl
theorem x173_c : cG (comp Tryd.prog) 2 1 4 x173 c173 = x173.den := by kernel_rfl
def y173 : List (RR Tryd.prog 1 4 tf1) := [rrT r1_2 2 rfl rfl]
theorem x173_r : y173.map RR.den = Tryd.f173.results.toList := by kernel_rfl
theorem x173_k : okFn Tryd.f173 = true := by kernel_rfl
theorem x173_D : 1 = dep Tryd.f173.ntmps := by kernel_rfl
theorem x173_s : ([s1_0] : List (Slot tf1)).map Slot.p = (List.range' 0 1).map (pth 1) := by kernel_rfl
def X173 : XFn Tryd.prog 2 (comp Tryd.prog) := ⟨X1,tf1,173,Tryd.f173,c173,1,4,[s1_0],z1,x173,y173,x173_D,Tryd.ntmps173.symm,Tryd.func173,x173_b,x173_k,x173_s,by decide,z1_ok,x173_c,x173_r⟩
def x174_0 : List (Ins tf1) := [iGa (a1 gBox) [r1_0] (some s1_3),iGa (a1 gBox) [r1_1] (some s1_4),iGa (a1 gBox) [r1_2] (some s1_5),iAs (rk .nilFunc) s1_6]
def x174_1 : List (Ins tf1) := [iGp (pMkf (.func 184) 0) [r1_3,r1_4,r1_5] (some s1_7),iAs r1_7 s1_6]
def x174 : XC tf1 := (.rg x174_0 (.rg x174_1 .ret))
def c174 : Code := Tryd.f174.body.getD .skip
theorem x174_b : Tryd.f174.body = some c174 := by kernel_rfl
theorem x174_c : cG (comp Tryd.prog) 2 1 8 x174 c174 = x174.den := by kernel_rfl
def y174 : List (RR Tryd.prog 1 8 tf1) := [rrT r1_6 6 rfl rfl]
theorem x174_r : y174.map RR.den = Tryd.f174.results.toList := by kernel_rfl
theorem x174_k : okFn Tryd.f174 = true := by kernel_rfl
theorem x174_D : 1 = dep Tryd.f174.ntmps := by kernel_rfl
theorem x174_s : ([s1_0,s1_1,s1_2] : List (Slot tf1)).map Slot.p = (List.range' 0 3).map (pth 1) := by kernel_rfl
def X174 : XFn Tryd.prog 2 (comp Tryd.prog) := ⟨X1,tf1,174,Tryd.f174,c174,1,8,[s1_0,s1_1,s1_2],z1,x174,y174,x174_D,Tryd.ntmps174.symm,Tryd.func174,x174_b,x174_k,x174_s,by decide,z1_ok,x174_c,x174_r⟩
def x175_0 : List (Ins tf1) := [iGa (a1 gBox) [r1_0] (some s1_1),iAs (rk .nilFunc) s1_2]
def x175_1 : List (Ins tf1) := [iGp (pMkf (.func 185) 0) [r1_1] (some s1_3),iAs r1_3 s1_2]
def x175 : XC tf1 := (.rg x175_0 (.rg x175_1 .ret))
def c175 : Code := Tryd.f175.body.getD .skip
theorem x175_b : Tryd.f175.body = some c175 := by kernel_rfl
theorem x175_c : cG (comp Tryd.prog) 2 1 4 x175 c175 = x175.den := by kernel_rfl
def y175 : List (RR Tryd.prog 1 4 tf1) := [rrT r1_2 2 rfl rfl]
theorem x175_r : y175.map RR.den = Tryd.f175.results.toList := by kernel_rfl
theorem x175_k : okFn Tryd.f175 = true := by kernel_rfl
theorem x175_D : 1 = dep Tryd.f175.ntmps := by kernel_rfl
theorem x175_s : ([s1_0] : List (Slot tf1)).map Slot.p = (List.range' 0 1).map (pth 1) := by kernel_rfl
def X175 : XFn Tryd.prog 2 (comp Tryd.prog) := ⟨X1,tf1,175,Tryd.f175,c175,1,4,[s1_0],z1,x175,y175,x175_D,Tryd.ntmps175.symm,Tryd.func175,x175_b,x175_k,x175_s,by decide,z1_ok,x175_c,x175_r⟩
def x183_0 : List (Ins tf2) := [iGa (aAl 3 [(.int .u8 (.ofNat 0)),(.int .i64 (.ofNat 0)),(.int .u64 (.ofNat 0))]) [] (some s2_3)]
def x183_1 : List (Ins tf2) := [iMv r2_0 s2_4,iP1 bNil r2_4 s2_5,iP1 (bFa 2) r2_5 s2_6,iR1 bLd r2_6 s2_7,iP2 (bIxs 1) r2_7 (rk (.int .i64 (.ofNat 0))) s2_8,iR1 bLd r2_8 s2_9,iMv r2_0 s2_10,iP1 bNil r2_10 s2_11,iP1 (bFa 2) r2_11 s2_12,iR1 bLd r2_12 s2_13,iP2 (bIxs 1) r2_13 (rk (.int .i64 (.ofNat 1))) s2_14,iR1 bLd r2_14 s2_15,iP2 bEq r2_9 r2_15 s2_16]
def x183_2 : List (Ins tf2) := [iR1 bLd r2_1 s2_17,iGp (pBld [(.int .u8 (.ofNat 0)),(.int .i64 (.ofNat 0)),(.int .u64 (.ofNat 0))] [(0,1),(2,1)]) [(rk (.int .u8 (.ofNat 2))),r2_17] (some s2_18),iGm (m2 (sStn 3)) [r2_3,r2_18] none]
def x183_3 : List (Ins tf2) := [iGp (pBld [(.int .u8 (.ofNat 0)),(.int .i64 (.ofNat 0)),(.int .u64 (.ofNat 0))] []) [] (some s2_19),iGm (m2 (sStn 3)) [r2_3,r2_19] none]
def x183 : XC tf2 := (.rg x183_0 (.seq (.rg x183_1 (.cond r2_16 (.rg x183_2 .ret) .skip)) (.rg x183_3 .ret)))
def c183 : Code := Tryd.f183.body.getD .skip
theorem x183_b : Tryd.f183.body = some c183 := by kernel_rfl
theorem x183_c : cG (comp Tryd.prog) 2 2 20 x183 c183 = x183.den := by kernel_rfl
def y183 : List (RR Tryd.prog 2 20 tf2) := [rrS (.cell 3 231)]
theorem x183_r : y183.map RR.den = Tryd.f183.results.toList := by kernel_rfl
theorem x183_k : okFn Tryd.f183 = true := by kernel_rfl
theorem x183_D : 2 = dep Tryd.f183.ntmps := by kernel_rfl
theorem x183_s : ([s2_0,s2_1] : List (Slot tf2)).map Slot.p = (List.range' 0 2).map (pth 2) := by kernel_rfl
def X183 : XFn Tryd.prog 2 (comp Tryd.prog) := ⟨X2,tf2,183,Tryd.f183,c183,2,20,[s2_0,s2_1],z2,x183,y183,x183_D,Tryd.ntmps183.symm,Tryd.func183,x183_b,x183_k,x183_s,by decide,z2_ok,x183_c,x183_r⟩
def x192_0 : List (Ins tf2) := [iGa (aAl 2 [(.int .i64 (.ofNat 0)),(.slice none 0 0)]) [] (some s2_2)]
def x192_1 : List (Ins tf2) := [iMv r2_0 s2_6,iGp (l2 (pEqD (tdOf 249) false)) [r2_6,(rk (.pointer none))] (some s2_7)]
def x192_2 : List (Ins tf2) := [iGp (pBld [(.int .i64 (.ofNat 0)),(.slice none 0 0)] []) [] (some s2_8),iGm (m2 (sStn 2)) [r2_2,r2_8] none]
def x192_3 : List (Ins tf2) := [iMv r2_0 s2_9,iP1 bNil r2_9 s2_10,iP1 (bFa 0) r2_10 s2_11,iP1 (bFa 0) r2_11 s2_12,iR1 bLd r2_12 s2_13,iMv r2_0 s2_14,iP1 bNil r2_14 s2_15,iP1 (bFa 0) r2_15 s2_16,iP1 (bFa 1) r2_16 s2_17,iR1 bLd r2_17 s2_18,iP1 bLen r2_18 s2_19,iGa (a2 (gMks 1 24 [(.slice none 0 0)])) [r2_19,r2_19] (some s2_20),iGp (pBld [(.int .i64 (.ofNat 0)),(.slice none 0 0)] [(0,1),(1,1)]) [r2_13,r2_20] (some s2_21),iGa (aAl 2 [(.int .i64 (.ofNat 0)),(.slice none 0 0)]) [] (some s2_3),iGm (m2 (sStn 2)) [r2_3,r2_21] none]
def x192_4 : List (Ins tf2) := [iMv r2_0 s2_22,iP1 bNil r2_22 s2_23,iP1 (bFa 0) r2_23 s2_24,iP1 (bFa 1) r2_24 s2_25,iR1 bLd r2_25 s2_26,iP1 bLen r2_26 s2_27,iMv (rk (.int .i64 (.ofNat 0))) s2_28]
def x192_5 : List (Ins tf2) := [iP2 bLt r2_28 r2_27 s2_29]
def x192_6 : List (Ins tf2) := [iMv r2_28 s2_30,iP2 (bIxs 1) r2_26 r2_28 s2_31,iR1 bLd r2_31 s2_32,iAs r2_30 s2_4,iAs r2_32 s2_5]
def x192_7 : List (Ins tf2) := [iP1 (bFa 1) r2_3 s2_33,iR1 bLd r2_33 s2_34,iMv r2_4 s2_35,iMv r2_5 s2_36,iRc (iGm (m2 (sApp 1)) [(rk (.slice none 0 0)),r2_36] (some s2_37)) [(rcLd r2_33 r2_34 [.o2,.o4] rfl)] rfl,iP2 (bIxs 1) r2_34 r2_35 s2_38,iM2 bSt r2_38 r2_37]
def x192_8 : List (Ins tf2) := [iP2 bAdd r2_28 (rk (.int .i64 (.ofNat 1))) s2_39,iMv r2_39 s2_28]
def x192_9 : List (Ins tf2) := [iGr (r1 (rLdn 2)) [r2_3] (some s2_40),iGm (m2 (sStn 2)) [r2_2,r2_40] none]
def x192 : XC tf2 := (.rg x192_0 (.seq (.rg x192_1 (.cond r2_7 (.rg x192_2 .ret) .skip)) (.rg x192_3 (.seq (.rg x192_4 (.block 0 (.loop (.rg x192_5 (.seq (.cond r2_29 .skip (.exit 0)) (.seq (.block 1 (.rg x192_6 (.reg x192_7))) (.reg x192_8))))))) (.rg x192_9 .ret)))))
def c192 : Code := Tryd.f192.body.getD .skip
theorem x192_b : Tryd.f192.body = some c192 := by kernel_rfl
theorem x192_c : cG (comp Tryd.prog) 2 2 41 x192 c192 = x192.den := by kernel_rfl
def y192 : List (RR Tryd.prog 2 41 tf2) := [rrS (.cell 2 263)]
theorem x192_r : y192.map RR.den = Tryd.f192.results.toList := by kernel_rfl
theorem x192_k : okFn Tryd.f192 = true := by kernel_rfl
theorem x192_D : 2 = dep Tryd.f192.ntmps := by kernel_rfl
theorem x192_s : ([s2_0] : List (Slot tf2)).map Slot.p = (List.range' 0 1).map (pth 2) := by kernel_rfl
def X192 : XFn Tryd.prog 2 (comp Tryd.prog) := ⟨X2,tf2,192,Tryd.f192,c192,2,41,[s2_0],z2,x192,y192,x192_D,Tryd.ntmps192.symm,Tryd.func192,x192_b,x192_k,x192_s,by decide,z2_ok,x192_c,x192_r⟩
def x195_0 : List (Ins tf2) := [iMv r2_0 s2_3,iP1 bLen r2_3 s2_4,iAs r2_4 s2_2]
def x195_1 : List (Ins tf2) := [iMv r2_0 s2_5,iMv r2_2 s2_6,iMv r2_2 s2_7,iP1 (bCv .u64) r2_7 s2_8,iCall (rk (.func (.func 212) #[] #[])) [r2_8] (some s2_9),iCall (rk (.func (.func 211) #[] #[])) [r2_5,(rk (.int .i64 (.ofNat 0))),r2_6,r2_9] (some s2_10)]
def x195 : XC tf2 := (.rg x195_0 (.reg x195_1))
def c195 : Code := Tryd.f195.body.getD .skip
theorem x195_b : Tryd.f195.body = some c195 := by kernel_rfl
theorem x195_c : cG (comp Tryd.prog) 2 2 11 x195 c195 = x195.den := by kernel_rfl
def y195 : List (RR Tryd.prog 2 11 tf2) := []
theorem x195_r : y195.map RR.den = Tryd.f195.results.toList := by kernel_rfl
theorem x195_k : okFn Tryd.f195 = true := by kernel_rfl
theorem x195_D : 2 = dep Tryd.f195.ntmps := by kernel_rfl
theorem x195_s : ([s2_0] : List (Slot tf2)).map Slot.p = (List.range' 0 1).map (pth 2) := by kernel_rfl
def X195 : XFn Tryd.prog 2 (comp Tryd.prog) := ⟨X2,tf2,195,Tryd.f195,c195,2,11,[s2_0],z2,x195,y195,x195_D,Tryd.ntmps195.symm,Tryd.func195,x195_b,x195_k,x195_s,by decide,z2_ok,x195_c,x195_r⟩
def x197_0 : List (Ins tf2) := [iAs (rk (.int .i64 (.ofNat 0))) s2_4,iAs (rk (.int .i64 (.ofNat 0))) s2_5]
def x197_1 : List (Ins tf2) := [iMv r2_0 s2_11,iMv r2_1 s2_12,iGa (aBsl 1 1 [(.slice none 0 0)] [(0,1)]) [r2_12] (some s2_13),iCall (rk (.func (.func 215) #[] #[])) [r2_11,(rk (.slice none 0 0)),r2_13] (some s2_14),iAs r2_14 s2_6]
def x197_2 : List (Ins tf2) := [iMv r2_6 s2_15,iP2 bNe r2_15 (rk (.int .i64 (.ofNat 0))) s2_16]
def x197_3 : List (Ins tf2) := [iMv r2_6 s2_17,iAs (rk (.int .i64 (.ofNat 0))) s2_4,iAs r2_17 s2_5]
def x197_4 : List (Ins tf2) := [iMv r2_0 s2_18,iGp (pBld [(.pointer none),(.int .i64 (.ofNat 0))] [(0,1)]) [r2_18] (some s2_19),iGa (a1 gBox) [r2_19] (some s2_20),iAs r2_20 s2_7]
def x197_5 : List (Ins tf2) := [iMv r2_0 s2_21,iCall (rk (.func (.func 216) #[] #[])) [r2_21] (some s2_22),iGp (l1 (pUn .neg)) [r2_22] (some s2_23),iAs r2_23 s2_8]
def x197_6 : List (Ins tf2) := [iMv r2_1 s2_24,iP1 bLen r2_24 s2_25,iMv (rk (.int .i64 (.ofNat 0))) s2_26]
def x197_7 : List (Ins tf2) := [iP2 bLt r2_26 r2_25 s2_27]
def x197_8 : List (Ins tf2) := [iP2 (bIxs 1) r2_24 r2_26 s2_28,iR1 bLd r2_28 s2_29,iAs r2_29 s2_10]
def x197_9 : List (Ins tf2) := [iMv r2_7 s2_30,iMv r2_8 s2_31,iMv r2_10 s2_32,iCall (rk (.func (.func 217) #[] #[])) [r2_30,r2_31,r2_32] (some s2_33),iAs r2_33 s2_8]
def x197_10 : List (Ins tf2) := [iP2 bAdd r2_26 (rk (.int .i64 (.ofNat 1))) s2_34,iMv r2_34 s2_26]
def x197_11 : List (Ins tf2) := [iMv r2_7 s2_35,iMv r2_8 s2_36,iCall (rk (.func (.func 218) #[] #[])) [r2_35,r2_36] (some s2_37),iGp (l1 (pExt 0)) [r2_37] (some s2_38),iGp (l1 (pExt 1)) [r2_37] (some s2_39),iAs r2_38 s2_4,iAs r2_39 s2_5]
def x197 : XC tf2 := (.rg x197_0 (.seq (.rg x197_1 (.rg x197_2 (.cond r2_16 (.rg x197_3 .ret) .skip))) (.rg x197_4 (.rg x197_5 (.seq (.rg x197_6 (.block 0 (.loop (.rg x197_7 (.seq (.cond r2_27 .skip (.exit 0)) (.seq (.block 1 (.rg x197_8 (.reg x197_9))) (.reg x197_10))))))) (.rg x197_11 .ret))))))
def c197 : Code := Tryd.f197.body.getD .skip
theorem x197_b : Tryd.f197.body = some c197 := by kernel_rfl
theorem x197_c : cG (comp Tryd.prog) 2 2 40 x197 c197 = x197.den := by kernel_rfl
def y197 : List (RR Tryd.prog 2 40 tf2) := [rrT r2_4 4 rfl rfl,rrT r2_5 5 rfl rfl]
theorem x197_r : y197.map RR.den = Tryd.f197.results.toList := by kernel_rfl
theorem x197_k : okFn Tryd.f197 = true := by kernel_rfl
theorem x197_D : 2 = dep Tryd.f197.ntmps := by kernel_rfl
theorem x197_s : ([s2_0,s2_1] : List (Slot tf2)).map Slot.p = (List.range' 0 2).map (pth 2) := by kernel_rfl
def X197 : XFn Tryd.prog 2 (comp Tryd.prog) := ⟨X2,tf2,197,Tryd.f197,c197,2,40,[s2_0,s2_1],z2,x197,y197,x197_D,Tryd.ntmps197.symm,Tryd.func197,x197_b,x197_k,x197_s,by decide,z2_ok,x197_c,x197_r⟩
def x198_0 : List (Ins tf2) := [iAs (rk (.int .i64 (.ofNat 0))) s2_4]
def x198_1 : List (Ins tf2) := [iMv r2_0 s2_5,iGp (l2 (pEqD (tdOf 249) false)) [r2_5,(rk (.pointer none))] (some s2_6)]
def x198_2 : List (Ins tf2) := [iAs (rk (.int .i64 (.ofNat 1))) s2_4]
def x198_3 : List (Ins tf2) := [iMv r2_0 s2_7,iMv r2_1 s2_8,iCall (rk (.func (.func 219) #[] #[])) [r2_7,r2_8] (some s2_9),iGp (l1 (pUn .not)) [r2_9] (some s2_10)]
def x198_4 : List (Ins tf2) := [iAs (rk (.int .i64 (.ofNat 3))) s2_4]
def x198_5 : List (Ins tf2) := [iMv r2_1 s2_11,iP1 bLen r2_11 s2_12,iP2 bGt r2_12 (rk (.int .i64 (.ofNat 4096))) s2_13,iMv r2_13 s2_14,iGd r2_14 [.o6,.o1] false (iMv r2_0 s2_15) (some s2_15) rfl rfl rfl,iGd r2_14 [.o6,.o1] false (iP1 bNil r2_15 s2_16) (some s2_16) rfl rfl rfl,iGd r2_14 [.o6,.o1] false (iP1 (bFa 0) r2_16 s2_17) (some s2_17) rfl rfl rfl,iGd r2_14 [.o6,.o1] false (iP1 (bFa 1) r2_17 s2_18) (some s2_18) rfl rfl rfl,iGd r2_14 [.o6,.o1] false (iR1 bLd r2_18 s2_19) (some s2_19) rfl rfl rfl,iGd r2_14 [.o6,.o1] false (iP1 bLen r2_19 s2_20) (some s2_20) rfl rfl rfl,iGd r2_14 [.o6,.o1] false (iP2 bEq r2_20 (rk (.int .i64 (.ofNat 1048576))) s2_21) (some s2_21) rfl rfl rfl,iGp (l3 pPick) [r2_14,(rk (.bool true)),r2_21] (some s2_22)]
def x198_6 : List (Ins tf2) := [iAs (rk (.int .i64 (.ofNat 5))) s2_4]
def x198_7 : List (Ins tf2) := [iMv r2_0 s2_23,iMv r2_0 s2_24,iP1 bNil r2_24 s2_25,iP1 (bFa 0) r2_25 s2_26,iP1 (bFa 1) r2_26 s2_27,iR1 bLd r2_27 s2_28,iMv r2_1 s2_29,iRc (iGm (m2 (sApp 1)) [(rk (.slice none 0 0)),r2_29] (some s2_30)) [(rcLd r2_27 r2_28 [.o4,.o3] rfl)] rfl,iGa (aBsl 1 1 [(.slice none 0 0)] [(0,1)]) [r2_30] (some s2_31),iGm (m2 (sApp 1)) [r2_28,r2_31] (some s2_32),iP1 bNil r2_23 s2_33,iP1 (bFa 0) r2_33 s2_34,iP1 (bFa 1) r2_34 s2_35,iM2 bSt r2_35 r2_32]
def x198_8 : List (Ins tf2) := [iAs (rk (.int .i64 (.ofNat 0))) s2_4]
def x198 : XC tf2 := (.rg x198_0 (.seq (.rg x198_1 (.cond r2_6 (.rg x198_2 .ret) .skip)) (.seq (.rg x198_3 (.cond r2_10 (.rg x198_4 .ret) .skip)) (.seq (.rg x198_5 (.cond r2_22 (.rg x198_6 .ret) .skip)) (.rg x198_7 (.rg x198_8 .ret))))))
def c198 : Code := Tryd.f198.body.getD .skip
theorem x198_b : Tryd.f198.body = some c198 := by kernel_rfl
theorem x198_c : cG (comp Tryd.prog) 2 2 36 x198 c198 = x198.den := by kernel_rfl
def y198 : List (RR Tryd.prog 2 36 tf2) := [rrT r2_4 4 rfl rfl]
theorem x198_r : y198.map RR.den = Tryd.f198.results.toList := by kernel_rfl
theorem x198_k : okFn Tryd.f198 = true := by kernel_rfl
theorem x198_D : 2 = dep Tryd.f198.ntmps := by kernel_rfl
theorem x198_s : ([s2_0,s2_1] : List (Slot tf2)).map Slot.p = (List.range' 0 2).map (pth 2) := by kernel_rfl
def X198 : XFn Tryd.prog 2 (comp Tryd.prog) := ⟨X2,tf2,198,Tryd.f198,c198,2,36,[s2_0,s2_1],z2,x198,y198,x198_D,Tryd.ntmps198.symm,Tryd.func198,x198_b,x198_k,x198_s,by decide,z2_ok,x198_c,x198_r⟩
def x199_0 : List (Ins tf2) := [iGa (a1 gBox) [r2_0] (some s2_1),iAs (rk (.int .i64 (.ofNat 0))) s2_2]
def x199_1 : List (Ins tf2) := [iP1 (bFa 0) r2_1 s2_5,iR1 bLd r2_5 s2_6,iP2 bLt r2_6 (rk (.int .i64 (.ofNat 0))) s2_7,iMv r2_7 s2_8,iGd r2_8 [.o0,.o1] false (iP1 (bFa 0) r2_1 s2_9) (some s2_9) rfl rfl rfl,iGd r2_8 [.o0,.o1] false (iR1 bLd r2_9 s2_10) (some s2_10) rfl rfl rfl,iGd r2_8 [.o0,.o1] false (iP2 bGt r2_10 (rk (.int .i64 (.ofNat 1048576))) s2_11) (some s2_11) rfl rfl rfl,iGp (l3 pPick) [r2_8,(rk (.bool true)),r2_11] (some s2_12)]
def x199_2 : List (Ins tf2) := [iAs (rk (.int .i64 (.ofNat 3))) s2_2]
def x199_3 : List (Ins tf2) := [iP1 (bFa 1) r2_1 s2_13,iR1 bLd r2_13 s2_14,iP1 bLen r2_14 s2_15,iP2 bGt r2_15 (rk (.int .i64 (.ofNat 1048576))) s2_16]
def x199_4 : List (Ins tf2) := [iAs (rk (.int .i64 (.ofNat 5))) s2_2]
def x199_5 : List (Ins tf2) := [iP1 (bFa 1) r2_1 s2_17,iR1 bLd r2_17 s2_18,iP1 bLen r2_18 s2_19,iMv (rk (.int .i64 (.ofNat 0))) s2_20]
def x199_6 : List (Ins tf2) := [iP2 bLt r2_20 r2_19 s2_21]
def x199_7 : List (Ins tf2) := [iP2 (bIxs 1) r2_18 r2_20 s2_22,iR1 bLd r2_22 s2_23,iAs r2_23 s2_4]
def x199_8 : List (Ins tf2) := [iP1 (bFa 0) r2_1 s2_24,iR1 bLd r2_24 s2_25,iMv r2_4 s2_26,iCall (rk (.func (.func 220) #[] #[])) [r2_25,r2_26] (some s2_27),iAs r2_27 s2_2]
def x199_9 : List (Ins tf2) := [iMv r2_2 s2_28,iP2 bNe r2_28 (rk (.int .i64 (.ofNat 0))) s2_29]
def x199_10 : List (Ins tf2) := [iP2 bAdd r2_20 (rk (.int .i64 (.ofNat 1))) s2_30,iMv r2_30 s2_20]
def x199_11 : List (Ins tf2) := [iAs (rk (.int .i64 (.ofNat 0))) s2_2]
def x199_12 : List (Ins tf2) := [iMv r2_2 s2_31,iAs r2_31 s2_2]
def x199 : XC tf2 := (.rg x199_0 (.scope (.seq (.rg x199_1 (.cond r2_12 (.rg x199_2 .ret) .skip)) (.seq (.rg x199_3 (.cond r2_16 (.rg x199_4 .ret) .skip)) (.seq (.rg x199_5 (.block 0 (.loop (.rg x199_6 (.seq (.cond r2_21 .skip (.exit 0)) (.seq (.block 1 (.rg x199_7 (.rg x199_8 (.rg x199_9 (.cond r2_29 .bad .skip))))) (.reg x199_10))))))) (.seq (.rg x199_11 .ret) (.seq .skip (.rg x199_12 .ret))))))))
def c199 : Code := Tryd.f199.body.getD .skip
theorem x199_b : Tryd.f199.body = some c199 := by kernel_rfl
theorem x199_c : cG (comp Tryd.prog) 2 2 32 x199 c199 = x199.den := by kernel_rfl
def y199 : List (RR Tryd.prog 2 32 tf2) := [rrT r2_2 2 rfl rfl]
theorem x199_r : y199.map RR.den = Tryd.f199.results.toList := by kernel_rfl
theorem x199_k : okFn Tryd.f199 = true := by kernel_rfl
theorem x199_D : 2 = dep Tryd.f199.ntmps := by kernel_rfl
theorem x199_s : ([s2_0] : List (Slot tf2)).map Slot.p = (List.range' 0 1).map (pth 2) := by kernel_rfl
def X199 : XFn Tryd.prog 2 (comp Tryd.prog) := ⟨X2,tf2,199,Tryd.f199,c199,2,32,[s2_0],z2,x199,y199,x199_D,Tryd.ntmps199.symm,Tryd.func199,x199_b,x199_k,x199_s,by decide,z2_ok,x199_c,x199_r⟩
end
end Cr
end Go.Proofs.YtjhbabgcoemecaaDoor
