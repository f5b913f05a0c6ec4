/- A machine for closed runs: compiled functions (written by gen). (and what follows on it). -/
import Derived.Test.YtjhbabgcoemecaaDoorF1
import Derived.KernelRfl
namespace Go.Proofs.YtjhbabgcoemecaaDoor
namespace Cr
open Go Go.RowKit
set_option maxRecDepth 100000
noncomputable section
def x201_0 : List (Ins tf2) := [iGa (a1 gBox) [r2_1] (some s2_3),iAs (rk (.bool false)) s2_4]
def x201_1 : List (Ins tf2) := [iP1 (bFa 1) r2_3 s2_9,iR1 bLd r2_9 s2_10,iP1 bLen r2_10 s2_11,iMv (rk (.int .i64 (.ofNat 0))) s2_12]
def x201_2 : List (Ins tf2) := [iP2 bLt r2_12 r2_11 s2_13]
def x201_3 : List (Ins tf2) := [iP2 (bIxs 1) r2_10 r2_12 s2_14,iR1 bLd r2_14 s2_15,iAs r2_15 s2_6]
def x201_4 : List (Ins tf2) := [iMv r2_6 s2_17,iCall (rk (.func (.func 222) #[] #[])) [r2_17] (some s2_18),iMv r2_18 s2_16,iGp (l1 (pExt 0)) [r2_16] (some s2_19),iGp (l1 (pExt 1)) [r2_16] (some s2_20),iAs r2_19 s2_7,iAs r2_20 s2_8]
def x201_5 : List (Ins tf2) := [iMv r2_8 s2_25,iAs r2_25 s2_24]
def x201_6 : List (Ins tf2) := [iMv r2_7 s2_27,iP1 bLen r2_27 s2_28,iP2 bEq r2_28 (rk (.int .i64 (.ofNat 0))) s2_29,iAs r2_29 s2_26]
def x201_7 : List (Ins tf2) := [iAs (rk (.bool false)) s2_4]
def x201_8 : List (Ins tf2) := [iMv r2_7 s2_31,iP1 bLen r2_31 s2_32,iP2 bEq r2_32 (rk (.int .i64 (.ofNat 1))) s2_33,iAs r2_33 s2_30]
def x201_9 : List (Ins tf2) := [iMv r2_0 s2_34,iMv r2_7 s2_35,iP2 (bIxs 1) r2_35 (rk (.int .i64 (.ofNat 0))) s2_36,iR1 bLd r2_36 s2_37,iCall (rk (.func (.func 223) #[] #[])) [r2_34,r2_37] (some s2_38),iP2 bEq r2_38 (rk (.int .i8 (.negSucc 0))) s2_39]
def x201_10 : List (Ins tf2) := [iAs (rk (.bool false)) s2_4]
def x201_11 : List (Ins tf2) := [iMv r2_0 s2_40,iMv r2_7 s2_41,iP2 (bIxs 1) r2_41 (rk (.int .i64 (.ofNat 0))) s2_42,iR1 bLd r2_42 s2_43,iCall (rk (.func (.func 223) #[] #[])) [r2_40,r2_43] (some s2_44),iP2 bEq r2_44 (rk (.int .i8 (.ofNat 0))) s2_45]
def x201_12 : List (Ins tf2) := [iMv r2_0 s2_46,iMv r2_7 s2_47,iP2 (bIxs 1) r2_47 (rk (.int .i64 (.ofNat 0))) s2_48,iR1 bLd r2_48 s2_49,iCall (rk (.func (.func 207) #[] #[])) [r2_46,r2_49,(rk (.int .i64 (.negSucc 0)))] (some s2_50)]
def x201_13 : List (Ins tf2) := [iMv r2_0 s2_21,iMv r2_7 s2_22,iCall (rk (.func (.func 206) #[] #[])) [r2_21,r2_22] (some s2_23)]
def x201_14 : List (Ins tf2) := [iP2 bAdd r2_12 (rk (.int .i64 (.ofNat 1))) s2_51,iMv r2_51 s2_12]
def x201_15 : List (Ins tf2) := [iMv r2_0 s2_52,iCall (rk (.func (.func 203) #[] #[])) [r2_52] (some s2_53),iP2 bLt r2_53 (rk (.int .i64 (.ofNat 0))) s2_54,iAs r2_54 s2_4]
def x201_16 : XC tf2 := (.seq (.rg x201_1 (.block 0 (.loop (.rg x201_2 (.seq (.cond r2_13 .skip (.exit 0)) (.seq (.block 1 (.rg x201_3 (.rg x201_4 (.block 2 (.rg x201_5 (.cond r2_24 .skip (.rg x201_6 (.cond r2_26 (.rg x201_7 .ret) (.rg x201_8 (.cond r2_30 (.seq (.rg x201_9 (.cond r2_39 (.rg x201_10 .ret) .skip)) (.rg x201_11 (.cond r2_45 (.reg x201_12) .skip))) (.reg x201_13))))))))))) (.reg x201_14))))))) (.rg x201_15 .ret))
def x201 : XC tf2 := (.rg x201_0 x201_16)
def c201 : Code := Tryd.f201.body.getD .skip
theorem x201_b : Tryd.f201.body = some c201 := by kernel_rfl
theorem x201_c : cG (comp Tryd.prog) 2 2 55 x201 c201 = x201.den := by kernel_rfl
def y201 : List (RR Tryd.prog 2 55 tf2) := [rrT r2_4 4 rfl rfl]
theorem x201_r : y201.map RR.den = Tryd.f201.results.toList := by kernel_rfl
theorem x201_k : okFn Tryd.f201 = true := by kernel_rfl
theorem x201_D : 2 = dep Tryd.f201.ntmps := by kernel_rfl
theorem x201_s : ([s2_0,s2_1] : List (Slot tf2)).map Slot.p = (List.range' 0 2).map (pth 2) := by kernel_rfl
def X201 : XFn Tryd.prog 2 (comp Tryd.prog) := ⟨X2,tf2,201,Tryd.f201,c201,2,55,[s2_0,s2_1],z2,x201,y201,x201_D,Tryd.ntmps201.symm,Tryd.func201,x201_b,x201_k,x201_s,by decide,z2_ok,x201_c,x201_r⟩
def x206_0 : List (Ins tf2) := [iAs (rk (.int .i64 (.ofNat 0))) s2_4]
def x206_1 : List (Ins tf2) := [iMv r2_0 s2_8,iP1 bNil r2_8 s2_9,iP1 (bFa 1) r2_9 s2_10,iR1 bLd r2_10 s2_11,iP1 bLen r2_11 s2_12,iAs r2_12 s2_5]
def x206_2 : List (Ins tf2) := [iMv r2_0 s2_13,iMv r2_0 s2_14,iP1 bNil r2_14 s2_15,iP1 (bFa 1) r2_15 s2_16,iR1 bLd r2_16 s2_17,iMv r2_1 s2_18,iGa (aBsl 1 1 [(.slice none 0 0)] [(0,1)]) [r2_18] (some s2_19),iGm (m2 (sApp 1)) [r2_17,r2_19] (some s2_20),iP1 bNil r2_13 s2_21,iP1 (bFa 1) r2_21 s2_22,iM2 bSt r2_22 r2_20]
def x206_3 : List (Ins tf2) := [iMv r2_1 s2_23,iGp (pSlB (pSl 1) false true false) [r2_23,(rk (.int .i64 (.ofNat 2)))] (some s2_24),iP1 bLen r2_24 s2_25,iMv (rk (.int .i64 (.ofNat 0))) s2_26]
def x206_4 : List (Ins tf2) := [iP2 bLt r2_26 r2_25 s2_27]
def x206_5 : List (Ins tf2) := [iP2 (bIxs 1) r2_24 r2_26 s2_28,iR1 bLd r2_28 s2_29,iAs r2_29 s2_7]
def x206_6 : List (Ins tf2) := [iMv r2_0 s2_30,iP1 bNil r2_30 s2_31,iP1 (bFa 2) r2_31 s2_32,iR1 bLd r2_32 s2_33,iMv r2_7 s2_34,iMv r2_0 s2_36,iP1 bNil r2_36 s2_37,iP1 (bFa 2) r2_37 s2_38,iR1 bLd r2_38 s2_39,iMv r2_7 s2_40,iMv r2_5 s2_44,iGa (aBsl 1 1 [(.int .i64 (.ofNat 0))] [(0,1)]) [r2_44] (some s2_45),iRc (iCall (rk (.func (.func 224) #[] #[])) [r2_34] (some s2_35)) [(rcLd r2_38 r2_39 [.o7,.o4] rfl),(rcLd r2_32 r2_33 [.o1,.o4] rfl)] rfl,iRc (iCall (rk (.func (.func 224) #[] #[])) [r2_40] (some s2_41)) [(rcLd r2_38 r2_39 [.o7,.o4] rfl),(rcLd r2_32 r2_33 [.o1,.o4] rfl)] rfl,iP2 (bIxs 1) r2_39 r2_41 s2_42,iR1 bLd r2_42 s2_43,iRc (iGm (m2 (sApp 1)) [r2_43,r2_45] (some s2_46)) [(rcLd r2_32 r2_33 [.o1,.o4] rfl)] rfl,iP2 (bIxs 1) r2_33 r2_35 s2_47,iM2 bSt r2_47 r2_46]
def x206_7 : List (Ins tf2) := [iP2 bAdd r2_26 (rk (.int .i64 (.ofNat 1))) s2_48,iMv r2_48 s2_26]
def x206_8 : List (Ins tf2) := [iMv r2_5 s2_49,iAs r2_49 s2_4]
def x206 : XC tf2 := (.rg x206_0 (.rg x206_1 (.rg x206_2 (.seq (.rg x206_3 (.block 0 (.loop (.rg x206_4 (.seq (.cond r2_27 .skip (.exit 0)) (.seq (.block 1 (.rg x206_5 (.reg x206_6))) (.reg x206_7))))))) (.rg x206_8 .ret)))))
def c206 : Code := Tryd.f206.body.getD .skip
theorem x206_b : Tryd.f206.body = some c206 := by kernel_rfl
theorem x206_c : cG (comp Tryd.prog) 2 2 50 x206 c206 = x206.den := by kernel_rfl
def y206 : List (RR Tryd.prog 2 50 tf2) := [rrT r2_4 4 rfl rfl]
theorem x206_r : y206.map RR.den = Tryd.f206.results.toList := by kernel_rfl
theorem x206_k : okFn Tryd.f206 = true := by kernel_rfl
theorem x206_D : 2 = dep Tryd.f206.ntmps := by kernel_rfl
theorem x206_s : ([s2_0,s2_1] : List (Slot tf2)).map Slot.p = (List.range' 0 2).map (pth 2) := by kernel_rfl
def X206 : XFn Tryd.prog 2 (comp Tryd.prog) := ⟨X2,tf2,206,Tryd.f206,c206,2,50,[s2_0,s2_1],z2,x206,y206,x206_D,Tryd.ntmps206.symm,Tryd.func206,x206_b,x206_k,x206_s,by decide,z2_ok,x206_c,x206_r⟩
def x207_0 : List (Ins tf2) := [iMv r2_1 s2_7,iCall (rk (.func (.func 225) #[] #[])) [r2_7] (some s2_8),iAs r2_8 s2_6]
def x207_1 : List (Ins tf2) := [iMv r2_0 s2_9,iP1 bNil r2_9 s2_10,iP1 (bFa 3) r2_10 s2_11,iR1 bLd r2_11 s2_12,iMv r2_6 s2_13,iP2 (bIxs 1) r2_12 r2_13 s2_14,iM2 bSt r2_14 (rk (.int .i8 (.ofNat 1)))]
def x207_2 : List (Ins tf2) := [iMv r2_1 s2_15,iP2 bLt r2_15 (rk (.int .i64 (.ofNat 0))) s2_16]
def x207_3 : List (Ins tf2) := [iMv r2_0 s2_17,iP1 bNil r2_17 s2_18,iP1 (bFa 3) r2_18 s2_19,iR1 bLd r2_19 s2_20,iMv r2_6 s2_21,iP2 (bIxs 1) r2_20 r2_21 s2_22,iM2 bSt r2_22 (rk (.int .i8 (.negSucc 0)))]
def x207_4 : List (Ins tf2) := [iMv r2_0 s2_23,iP1 bNil r2_23 s2_24,iP1 (bFa 5) r2_24 s2_25,iR1 bLd r2_25 s2_26,iMv r2_6 s2_27,iMv r2_0 s2_28,iP1 bNil r2_28 s2_29,iP1 (bFa 6) r2_29 s2_30,iR1 bLd r2_30 s2_31,iMv r2_6 s2_32,iMv r2_0 s2_33,iP1 bNil r2_33 s2_34,iP1 (bFa 10) r2_34 s2_35,iR1 bLd r2_35 s2_36,iP1 bLen r2_36 s2_37,iMv r2_2 s2_38,iP2 (bIxs 1) r2_26 r2_27 s2_39,iM2 bSt r2_39 r2_37,iP2 (bIxs 1) r2_31 r2_32 s2_40,iM2 bSt r2_40 r2_38]
def x207_5 : List (Ins tf2) := [iMv r2_0 s2_41,iMv r2_0 s2_42,iP1 bNil r2_42 s2_43,iP1 (bFa 8) r2_43 s2_44,iR1 bLd r2_44 s2_45,iMv r2_1 s2_46,iGa (aBsl 1 1 [(.int .i64 (.ofNat 0))] [(0,1)]) [r2_46] (some s2_47),iGm (m2 (sApp 1)) [r2_45,r2_47] (some s2_48),iP1 bNil r2_41 s2_49,iP1 (bFa 8) r2_49 s2_50,iM2 bSt r2_50 r2_48]
def x207 : XC tf2 := (.rg x207_0 (.rg x207_1 (.seq (.rg x207_2 (.cond r2_16 (.reg x207_3) .skip)) (.rg x207_4 (.reg x207_5)))))
def c207 : Code := Tryd.f207.body.getD .skip
theorem x207_b : Tryd.f207.body = some c207 := by kernel_rfl
theorem x207_c : cG (comp Tryd.prog) 2 2 51 x207 c207 = x207.den := by kernel_rfl
def y207 : List (RR Tryd.prog 2 51 tf2) := []
theorem x207_r : y207.map RR.den = Tryd.f207.results.toList := by kernel_rfl
theorem x207_k : okFn Tryd.f207 = true := by kernel_rfl
theorem x207_D : 2 = dep Tryd.f207.ntmps := by kernel_rfl
theorem x207_s : ([s2_0,s2_1,s2_2] : List (Slot tf2)).map Slot.p = (List.range' 0 3).map (pth 2) := by kernel_rfl
def X207 : XFn Tryd.prog 2 (comp Tryd.prog) := ⟨X2,tf2,207,Tryd.f207,c207,2,51,[s2_0,s2_1,s2_2],z2,x207,y207,x207_D,Tryd.ntmps207.symm,Tryd.func207,x207_b,x207_k,x207_s,by decide,z2_ok,x207_c,x207_r⟩
def x209_0 : List (Ins tf2) := [iAs (rk (.int .i64 (.ofNat 0))) s2_2]
def x209_1 : List (Ins tf2) := [iMv r2_0 s2_5,iP1 bNil r2_5 s2_6,iP1 (bFa 0) r2_6 s2_7,iR1 bLd r2_7 s2_8,iCall (rk (.func (.func 228) #[] #[])) [r2_8] (some s2_9),iP2 bGt r2_9 (rk (.int .i64 (.ofNat 0))) s2_10]
def x209_2 : List (Ins tf2) := [iMv r2_0 s2_12,iP1 bNil r2_12 s2_13,iP1 (bFa 0) r2_13 s2_14,iR1 bLd r2_14 s2_15,iCall (rk (.func (.func 229) #[] #[])) [r2_15] (some s2_16),iMv r2_16 s2_11,iGp (l1 (pExt 0)) [r2_11] (some s2_17),iGp (l1 (pExt 1)) [r2_11] (some s2_18),iAs r2_17 s2_3,iAs r2_18 s2_4]
def x209_3 : List (Ins tf2) := [iMv r2_4 s2_19,iP2 bNe r2_19 (rk (.int .i64 (.ofNat 0))) s2_20]
def x209_4 : List (Ins tf2) := [iMv r2_0 s2_21,iP1 bNil r2_21 s2_22,iP1 (bFa 3) r2_22 s2_23,iR1 bLd r2_23 s2_24,iMv r2_3 s2_25,iP2 (bIxs 1) r2_24 r2_25 s2_26,iR1 bLd r2_26 s2_27,iP2 bEq r2_27 (rk (.int .i8 (.ofNat 0))) s2_28]
def x209_5 : List (Ins tf2) := [iMv r2_3 s2_29,iAs r2_29 s2_2]
def x209_6 : List (Ins tf2) := [iAs (rk (.int .i64 (.ofNat 0))) s2_2]
def x209 : XC tf2 := (.rg x209_0 (.seq (.block 0 (.loop (.seq (.rg x209_1 (.cond r2_10 .skip (.exit 0))) (.block 1 (.rg x209_2 (.seq (.rg x209_3 (.cond r2_20 (.exit 0) .skip)) (.rg x209_4 (.cond r2_28 (.rg x209_5 .ret) .skip)))))))) (.rg x209_6 .ret)))
def c209 : Code := Tryd.f209.body.getD .skip
theorem x209_b : Tryd.f209.body = some c209 := by kernel_rfl
theorem x209_c : cG (comp Tryd.prog) 2 2 30 x209 c209 = x209.den := by kernel_rfl
def y209 : List (RR Tryd.prog 2 30 tf2) := [rrT r2_2 2 rfl rfl]
theorem x209_r : y209.map RR.den = Tryd.f209.results.toList := by kernel_rfl
theorem x209_k : okFn Tryd.f209 = true := by kernel_rfl
theorem x209_D : 2 = dep Tryd.f209.ntmps := by kernel_rfl
theorem x209_s : ([s2_0] : List (Slot tf2)).map Slot.p = (List.range' 0 1).map (pth 2) := by kernel_rfl
def X209 : XFn Tryd.prog 2 (comp Tryd.prog) := ⟨X2,tf2,209,Tryd.f209,c209,2,30,[s2_0],z2,x209,y209,x209_D,Tryd.ntmps209.symm,Tryd.func209,x209_b,x209_k,x209_s,by decide,z2_ok,x209_c,x209_r⟩
def x210_0 : List (Ins tf2) := [iAs (rk (.slice none 0 0)) s2_2]
def x210_1 : List (Ins tf2) := [iMv r2_0 s2_5,iP1 bNil r2_5 s2_6,iP1 (bFa 3) r2_6 s2_7,iR1 bLd r2_7 s2_8,iP1 bLen r2_8 s2_9,iP2 bSub r2_9 (rk (.int .i64 (.ofNat 1))) s2_10,iGa (a2 (gMks 1 1 [(.bool false)])) [r2_10,r2_10] (some s2_11),iAs r2_11 s2_3]
def x210_2 : List (Ins tf2) := [iMv r2_3 s2_12,iP1 bLen r2_12 s2_13,iMv (rk (.int .i64 (.ofNat 0))) s2_14]
def x210_3 : List (Ins tf2) := [iP2 bLt r2_14 r2_13 s2_15]
def x210_4 : List (Ins tf2) := [iMv r2_14 s2_16,iAs r2_16 s2_4]
def x210_5 : List (Ins tf2) := [iMv r2_3 s2_17,iMv r2_4 s2_18,iMv r2_0 s2_19,iP1 bNil r2_19 s2_20,iP1 (bFa 3) r2_20 s2_21,iR1 bLd r2_21 s2_22,iMv r2_4 s2_23,iP2 bAdd r2_23 (rk (.int .i64 (.ofNat 1))) s2_24,iP2 (bIxs 1) r2_22 r2_24 s2_25,iR1 bLd r2_25 s2_26,iP2 bEq r2_26 (rk (.int .i8 (.ofNat 1))) s2_27,iP2 (bIxs 1) r2_17 r2_18 s2_28,iM2 bSt r2_28 r2_27]
def x210_6 : List (Ins tf2) := [iP2 bAdd r2_14 (rk (.int .i64 (.ofNat 1))) s2_29,iMv r2_29 s2_14]
def x210_7 : List (Ins tf2) := [iMv r2_3 s2_30,iAs r2_30 s2_2]
def x210 : XC tf2 := (.rg x210_0 (.rg x210_1 (.seq (.rg x210_2 (.block 0 (.loop (.rg x210_3 (.seq (.cond r2_15 .skip (.exit 0)) (.seq (.block 1 (.rg x210_4 (.reg x210_5))) (.reg x210_6))))))) (.rg x210_7 .ret))))
def c210 : Code := Tryd.f210.body.getD .skip
theorem x210_b : Tryd.f210.body = some c210 := by kernel_rfl
theorem x210_c : cG (comp Tryd.prog) 2 2 31 x210 c210 = x210.den := by kernel_rfl
def y210 : List (RR Tryd.prog 2 31 tf2) := [rrT r2_2 2 rfl rfl]
theorem x210_r : y210.map RR.den = Tryd.f210.results.toList := by kernel_rfl
theorem x210_k : okFn Tryd.f210 = true := by kernel_rfl
theorem x210_D : 2 = dep Tryd.f210.ntmps := by kernel_rfl
theorem x210_s : ([s2_0] : List (Slot tf2)).map Slot.p = (List.range' 0 1).map (pth 2) := by kernel_rfl
def X210 : XFn Tryd.prog 2 (comp Tryd.prog) := ⟨X2,tf2,210,Tryd.f210,c210,2,31,[s2_0],z2,x210,y210,x210_D,Tryd.ntmps210.symm,Tryd.func210,x210_b,x210_k,x210_s,by decide,z2_ok,x210_c,x210_r⟩
def x212_0 : List (Ins tf1) := [iAs (rk (.int .i64 (.ofNat 0))) s1_2]
def x212_1 : List (Ins tf1) := [iMv r1_0 s1_3,iP1 (bCv .u32) r1_3 s1_4,iCall (rk (.func (.func 239) #[] #[])) [r1_4] (some s1_5),iAs r1_5 s1_2]
def x212_2 : List (Ins tf1) := [iMv r1_0 s1_6,iCall (rk (.func (.func 240) #[] #[])) [r1_6] (some s1_7),iAs r1_7 s1_2]
def x212 : XC tf1 := (.rg x212_0 (.seq (.cond (rk (.bool false)) (.rg x212_1 .ret) .skip) (.rg x212_2 .ret)))
def c212 : Code := Tryd.f212.body.getD .skip
theorem x212_b : Tryd.f212.body = some c212 := by kernel_rfl
theorem x212_c : cG (comp Tryd.prog) 2 1 8 x212 c212 = x212.den := by kernel_rfl
def y212 : List (RR Tryd.prog 1 8 tf1) := [rrT r1_2 2 rfl rfl]
theorem x212_r : y212.map RR.den = Tryd.f212.results.toList := by kernel_rfl
theorem x212_k : okFn Tryd.f212 = true := by kernel_rfl
theorem x212_D : 1 = dep Tryd.f212.ntmps := by kernel_rfl
theorem x212_s : ([s1_0] : List (Slot tf1)).map Slot.p = (List.range' 0 1).map (pth 1) := by kernel_rfl
def X212 : XFn Tryd.prog 2 (comp Tryd.prog) := ⟨X1,tf1,212,Tryd.f212,c212,1,8,[s1_0],z1,x212,y212,x212_D,Tryd.ntmps212.symm,Tryd.func212,x212_b,x212_k,x212_s,by decide,z1_ok,x212_c,x212_r⟩
def x216_0 : List (Ins tf1) := [iAs (rk (.int .i64 (.ofNat 0))) s1_2]
def x216_1 : List (Ins tf1) := [iMv r1_0 s1_3,iGp (l2 (pEqD (tdOf 249) false)) [r1_3,(rk (.pointer none))] (some s1_4)]
def x216_2 : List (Ins tf1) := [iAs (rk (.int .i64 (.ofNat 0))) s1_2]
def x216_3 : List (Ins tf1) := [iAs (rk (.int .i64 (.ofNat 1))) s1_2]
def x216 : XC tf1 := (.rg x216_0 (.seq (.rg x216_1 (.cond r1_4 (.rg x216_2 .ret) .skip)) (.rg x216_3 .ret)))
def c216 : Code := Tryd.f216.body.getD .skip
theorem x216_b : Tryd.f216.body = some c216 := by kernel_rfl
theorem x216_c : cG (comp Tryd.prog) 2 1 5 x216 c216 = x216.den := by kernel_rfl
def y216 : List (RR Tryd.prog 1 5 tf1) := [rrT r1_2 2 rfl rfl]
theorem x216_r : y216.map RR.den = Tryd.f216.results.toList := by kernel_rfl
theorem x216_k : okFn Tryd.f216 = true := by kernel_rfl
theorem x216_D : 1 = dep Tryd.f216.ntmps := by kernel_rfl
theorem x216_s : ([s1_0] : List (Slot tf1)).map Slot.p = (List.range' 0 1).map (pth 1) := by kernel_rfl
def X216 : XFn Tryd.prog 2 (comp Tryd.prog) := ⟨X1,tf1,216,Tryd.f216,c216,1,5,[s1_0],z1,x216,y216,x216_D,Tryd.ntmps216.symm,Tryd.func216,x216_b,x216_k,x216_s,by decide,z1_ok,x216_c,x216_r⟩
def x217_0 : List (Ins tf2) := [iAs (rk (.int .i64 (.ofNat 0))) s2_6]
def x217_1 : List (Ins tf2) := [iMv r2_0 s2_8,iP1 bNil r2_8 s2_9,iP1 (bFa 1) r2_9 s2_10,iR1 bLd r2_10 s2_11,iP2 bNe r2_11 (rk (.int .i64 (.ofNat 0))) s2_12]
def x217_2 : List (Ins tf2) := [iAs (rk (.int .i64 (.ofNat 0))) s2_6]
def x217_3 : List (Ins tf2) := [iAs (rk (.int .i64 (.ofNat 0))) s2_7]
def x217_4 : List (Ins tf2) := [iMv r2_0 s2_14,iMv r2_0 s2_15,iP1 bNil r2_15 s2_16,iP1 (bFa 0) r2_16 s2_17,iR1 bLd r2_17 s2_18,iMv r2_1 s2_19,iMv r2_2 s2_20,iCall (rk (.func (.func 244) #[] #[])) [r2_18,r2_19,r2_20] (some s2_21),iMv r2_21 s2_13,iGp (l1 (pExt 0)) [r2_13] (some s2_22),iGp (l1 (pExt 1)) [r2_13] (some s2_23),iAs r2_22 s2_7,iP1 bNil r2_14 s2_24,iP1 (bFa 1) r2_24 s2_25,iM2 bSt r2_25 r2_23]
def x217_5 : List (Ins tf2) := [iMv r2_7 s2_26,iAs r2_26 s2_6]
def x217 : XC tf2 := (.rg x217_0 (.seq (.rg x217_1 (.cond r2_12 (.rg x217_2 .ret) .skip)) (.rg x217_3 (.rg x217_4 (.rg x217_5 .ret)))))
def c217 : Code := Tryd.f217.body.getD .skip
theorem x217_b : Tryd.f217.body = some c217 := by kernel_rfl
theorem x217_c : cG (comp Tryd.prog) 2 2 27 x217 c217 = x217.den := by kernel_rfl
def y217 : List (RR Tryd.prog 2 27 tf2) := [rrT r2_6 6 rfl rfl]
theorem x217_r : y217.map RR.den = Tryd.f217.results.toList := by kernel_rfl
theorem x217_k : okFn Tryd.f217 = true := by kernel_rfl
theorem x217_D : 2 = dep Tryd.f217.ntmps := by kernel_rfl
theorem x217_s : ([s2_0,s2_1,s2_2] : List (Slot tf2)).map Slot.p = (List.range' 0 3).map (pth 2) := by kernel_rfl
def X217 : XFn Tryd.prog 2 (comp Tryd.prog) := ⟨X2,tf2,217,Tryd.f217,c217,2,27,[s2_0,s2_1,s2_2],z2,x217,y217,x217_D,Tryd.ntmps217.symm,Tryd.func217,x217_b,x217_k,x217_s,by decide,z2_ok,x217_c,x217_r⟩
def x218_0 : List (Ins tf2) := [iAs (rk (.int .i64 (.ofNat 0))) s2_4,iAs (rk (.int .i64 (.ofNat 0))) s2_5]
def x218_1 : List (Ins tf2) := [iMv r2_0 s2_6,iP1 bNil r2_6 s2_7,iP1 (bFa 1) r2_7 s2_8,iR1 bLd r2_8 s2_9,iP2 bNe r2_9 (rk (.int .i64 (.ofNat 0))) s2_10]
def x218_2 : List (Ins tf2) := [iMv r2_0 s2_11,iP1 bNil r2_11 s2_12,iP1 (bFa 1) r2_12 s2_13,iR1 bLd r2_13 s2_14,iRc (iAs (rk (.int .i64 (.ofNat 0))) s2_4) [(rcLd r2_13 r2_14 [.o6,.o1] rfl)] rfl,iAs r2_14 s2_5]
def x218_3 : List (Ins tf2) := [iMv r2_1 s2_15,iAs r2_15 s2_4,iAs (rk (.int .i64 (.ofNat 0))) s2_5]
def x218 : XC tf2 := (.rg x218_0 (.seq (.rg x218_1 (.cond r2_10 (.rg x218_2 .ret) .skip)) (.rg x218_3 .ret)))
def c218 : Code := Tryd.f218.body.getD .skip
theorem x218_b : Tryd.f218.body = some c218 := by kernel_rfl
theorem x218_c : cG (comp Tryd.prog) 2 2 16 x218 c218 = x218.den := by kernel_rfl
def y218 : List (RR Tryd.prog 2 16 tf2) := [rrT r2_4 4 rfl rfl,rrT r2_5 5 rfl rfl]
theorem x218_r : y218.map RR.den = Tryd.f218.results.toList := by kernel_rfl
theorem x218_k : okFn Tryd.f218 = true := by kernel_rfl
theorem x218_D : 2 = dep Tryd.f218.ntmps := by kernel_rfl
theorem x218_s : ([s2_0,s2_1] : List (Slot tf2)).map Slot.p = (List.range' 0 2).map (pth 2) := by kernel_rfl
def X218 : XFn Tryd.prog 2 (comp Tryd.prog) := ⟨X2,tf2,218,Tryd.f218,c218,2,16,[s2_0,s2_1],z2,x218,y218,x218_D,Tryd.ntmps218.symm,Tryd.func218,x218_b,x218_k,x218_s,by decide,z2_ok,x218_c,x218_r⟩
def x219_0 : List (Ins tf2) := [iAs (rk (.bool false)) s2_4]
def x219_1 : List (Ins tf2) := [iMv r2_1 s2_7,iP1 bLen r2_7 s2_8,iMv (rk (.int .i64 (.ofNat 0))) s2_9]
def x219_2 : List (Ins tf2) := [iP2 bLt r2_9 r2_8 s2_10]
def x219_3 : List (Ins tf2) := [iP2 (bIxs 1) r2_7 r2_9 s2_11,iR1 bLd r2_11 s2_12,iAs r2_12 s2_6]
def x219_4 : List (Ins tf2) := [iMv r2_6 s2_13,iP2 bEq r2_13 (rk (.int .i64 (.ofNat 0))) s2_14,iMv r2_14 s2_15,iGd r2_15 [.o7,.o1] false (iMv r2_6 s2_16) (some s2_16) rfl rfl rfl,iGd r2_15 [.o7,.o1] false (iMv r2_0 s2_17) (some s2_17) rfl rfl rfl,iGd r2_15 [.o7,.o1] false (iP1 bNil r2_17 s2_18) (some s2_18) rfl rfl rfl,iGd r2_15 [.o7,.o1] false (iP1 (bFa 0) r2_18 s2_19) (some s2_19) rfl rfl rfl,iGd r2_15 [.o7,.o1] false (iP1 (bFa 0) r2_19 s2_20) (some s2_20) rfl rfl rfl,iGd r2_15 [.o7,.o1] false (iR1 bLd r2_20 s2_21) (some s2_21) rfl rfl rfl,iGd r2_15 [.o7,.o1] false (iP2 bGt r2_16 r2_21 s2_22) (some s2_22) rfl rfl rfl,iGp (l3 pPick) [r2_15,(rk (.bool true)),r2_22] (some s2_23),iMv r2_23 s2_24,iGd r2_24 [.o0,.o3] false (iMv r2_6 s2_25) (some s2_25) rfl rfl rfl,iGd r2_24 [.o0,.o3] false (iMv r2_0 s2_26) (some s2_26) rfl rfl rfl,iGd r2_24 [.o0,.o3] false (iP1 bNil r2_26 s2_27) (some s2_27) rfl rfl rfl,iGd r2_24 [.o0,.o3] false (iP1 (bFa 0) r2_27 s2_28) (some s2_28) rfl rfl rfl,iGd r2_24 [.o0,.o3] false (iP1 (bFa 0) r2_28 s2_29) (some s2_29) rfl rfl rfl,iGd r2_24 [.o0,.o3] false (iR1 bLd r2_29 s2_30) (some s2_30) rfl rfl rfl,iGd r2_24 [.o0,.o3] false (iGp (l1 (pUn .neg)) [r2_30] (some s2_31)) (some s2_31) rfl rfl rfl,iGd r2_24 [.o0,.o3] false (iP2 bLt r2_25 r2_31 s2_32) (some s2_32) rfl rfl rfl,iGp (l3 pPick) [r2_24,(rk (.bool true)),r2_32] (some s2_33)]
def x219_5 : List (Ins tf2) := [iAs (rk (.bool false)) s2_4]
def x219_6 : List (Ins tf2) := [iP2 bAdd r2_9 (rk (.int .i64 (.ofNat 1))) s2_34,iMv r2_34 s2_9]
def x219_7 : List (Ins tf2) := [iAs (rk (.bool true)) s2_4]
def x219 : XC tf2 := (.rg x219_0 (.seq (.rg x219_1 (.block 0 (.loop (.rg x219_2 (.seq (.cond r2_10 .skip (.exit 0)) (.seq (.block 1 (.rg x219_3 (.rg x219_4 (.cond r2_33 (.rg x219_5 .ret) .skip)))) (.reg x219_6))))))) (.rg x219_7 .ret)))
def c219 : Code := Tryd.f219.body.getD .skip
theorem x219_b : Tryd.f219.body = some c219 := by kernel_rfl
theorem x219_c : cG (comp Tryd.prog) 2 2 35 x219 c219 = x219.den := by kernel_rfl
def y219 : List (RR Tryd.prog 2 35 tf2) := [rrT r2_4 4 rfl rfl]
theorem x219_r : y219.map RR.den = Tryd.f219.results.toList := by kernel_rfl
theorem x219_k : okFn Tryd.f219 = true := by kernel_rfl
theorem x219_D : 2 = dep Tryd.f219.ntmps := by kernel_rfl
theorem x219_s : ([s2_0,s2_1] : List (Slot tf2)).map Slot.p = (List.range' 0 2).map (pth 2) := by kernel_rfl
def X219 : XFn Tryd.prog 2 (comp Tryd.prog) := ⟨X2,tf2,219,Tryd.f219,c219,2,35,[s2_0,s2_1],z2,x219,y219,x219_D,Tryd.ntmps219.symm,Tryd.func219,x219_b,x219_k,x219_s,by decide,z2_ok,x219_c,x219_r⟩
def x220_0 : List (Ins tf2) := [iAs (rk (.int .i64 (.ofNat 0))) s2_4]
def x220_1 : List (Ins tf2) := [iMv r2_0 s2_7,iP2 bLt r2_7 (rk (.int .i64 (.ofNat 0))) s2_8,iMv r2_8 s2_9,iGd r2_9 [.o1,.o1] false (iMv r2_0 s2_10) (some s2_10) rfl rfl rfl,iGd r2_9 [.o1,.o1] false (iP2 bGt r2_10 (rk (.int .i64 (.ofNat 1048576))) s2_11) (some s2_11) rfl rfl rfl,iGp (l3 pPick) [r2_9,(rk (.bool true)),r2_11] (some s2_12)]
def x220_2 : List (Ins tf2) := [iAs (rk (.int .i64 (.ofNat 3))) s2_4]
def x220_3 : List (Ins tf2) := [iMv r2_1 s2_13,iP1 bLen r2_13 s2_14,iP2 bGt r2_14 (rk (.int .i64 (.ofNat 4096))) s2_15]
def x220_4 : List (Ins tf2) := [iAs (rk (.int .i64 (.ofNat 5))) s2_4]
def x220_5 : List (Ins tf2) := [iMv r2_1 s2_16,iP1 bLen r2_16 s2_17,iMv (rk (.int .i64 (.ofNat 0))) s2_18]
def x220_6 : List (Ins tf2) := [iP2 bLt r2_18 r2_17 s2_19]
def x220_7 : List (Ins tf2) := [iP2 (bIxs 1) r2_16 r2_18 s2_20,iR1 bLd r2_20 s2_21,iAs r2_21 s2_6]
def x220_8 : List (Ins tf2) := [iMv r2_6 s2_22,iP2 bEq r2_22 (rk (.int .i64 (.ofNat 0))) s2_23,iMv r2_23 s2_24,iGd r2_24 [.o0,.o3] false (iMv r2_6 s2_25) (some s2_25) rfl rfl rfl,iGd r2_24 [.o0,.o3] false (iCall (rk (.func (.func 245) #[] #[])) [r2_25] (some s2_26)) (some s2_26) rfl rfl rfl,iGd r2_24 [.o0,.o3] false (iMv r2_0 s2_27) (some s2_27) rfl rfl rfl,iGd r2_24 [.o0,.o3] false (iP1 (bCv .u64) r2_27 s2_28) (some s2_28) rfl rfl rfl,iGd r2_24 [.o0,.o3] false (iP2 bGt r2_26 r2_28 s2_29) (some s2_29) rfl rfl rfl,iGp (l3 pPick) [r2_24,(rk (.bool true)),r2_29] (some s2_30)]
def x220_9 : List (Ins tf2) := [iAs (rk (.int .i64 (.ofNat 3))) s2_4]
def x220_10 : List (Ins tf2) := [iP2 bAdd r2_18 (rk (.int .i64 (.ofNat 1))) s2_31,iMv r2_31 s2_18]
def x220_11 : List (Ins tf2) := [iAs (rk (.int .i64 (.ofNat 0))) s2_4]
def x220 : XC tf2 := (.rg x220_0 (.seq (.rg x220_1 (.cond r2_12 (.rg x220_2 .ret) .skip)) (.seq (.rg x220_3 (.cond r2_15 (.rg x220_4 .ret) .skip)) (.seq (.rg x220_5 (.block 0 (.loop (.rg x220_6 (.seq (.cond r2_19 .skip (.exit 0)) (.seq (.block 1 (.rg x220_7 (.rg x220_8 (.cond r2_30 (.rg x220_9 .ret) .skip)))) (.reg x220_10))))))) (.rg x220_11 .ret)))))
def c220 : Code := Tryd.f220.body.getD .skip
theorem x220_b : Tryd.f220.body = some c220 := by kernel_rfl
theorem x220_c : cG (comp Tryd.prog) 2 2 32 x220 c220 = x220.den := by kernel_rfl
def y220 : List (RR Tryd.prog 2 32 tf2) := [rrT r2_4 4 rfl rfl]
theorem x220_r : y220.map RR.den = Tryd.f220.results.toList := by kernel_rfl
theorem x220_k : okFn Tryd.f220 = true := by kernel_rfl
theorem x220_D : 2 = dep Tryd.f220.ntmps := by kernel_rfl
theorem x220_s : ([s2_0,s2_1] : List (Slot tf2)).map Slot.p = (List.range' 0 2).map (pth 2) := by kernel_rfl
def X220 : XFn Tryd.prog 2 (comp Tryd.prog) := ⟨X2,tf2,220,Tryd.f220,c220,2,32,[s2_0,s2_1],z2,x220,y220,x220_D,Tryd.ntmps220.symm,Tryd.func220,x220_b,x220_k,x220_s,by decide,z2_ok,x220_c,x220_r⟩
def x221_0 : List (Ins tf2) := [iAs (rk (.bool false)) s2_6]
def x221_1 : List (Ins tf2) := [iMv r2_0 s2_7,iP1 bNil r2_7 s2_8,iP1 (bFa 0) r2_8 s2_9,iR1 bLd r2_9 s2_10,iMv r2_1 s2_11,iP2 (bIxs 1) r2_10 r2_11 s2_12,iR1 bLd r2_12 s2_13,iMv r2_0 s2_14,iP1 bNil r2_14 s2_15,iP1 (bFa 0) r2_15 s2_16,iR1 bLd r2_16 s2_17,iMv r2_2 s2_18,iP2 (bIxs 1) r2_17 r2_18 s2_19,iR1 bLd r2_19 s2_20,iP2 bNe r2_13 r2_20 s2_21]
def x221_2 : List (Ins tf2) := [iMv r2_0 s2_22,iP1 bNil r2_22 s2_23,iP1 (bFa 0) r2_23 s2_24,iR1 bLd r2_24 s2_25,iMv r2_1 s2_26,iP2 (bIxs 1) r2_25 r2_26 s2_27,iR1 bLd r2_27 s2_28,iMv r2_0 s2_29,iP1 bNil r2_29 s2_30,iP1 (bFa 0) r2_30 s2_31,iR1 bLd r2_31 s2_32,iMv r2_2 s2_33,iP2 (bIxs 1) r2_32 r2_33 s2_34,iR1 bLd r2_34 s2_35,iP2 bGt r2_28 r2_35 s2_36,iAs r2_36 s2_6]
def x221_3 : List (Ins tf2) := [iMv r2_1 s2_37,iMv r2_2 s2_38,iP2 bLt r2_37 r2_38 s2_39,iAs r2_39 s2_6]
def x221 : XC tf2 := (.rg x221_0 (.seq (.rg x221_1 (.cond r2_21 (.rg x221_2 .ret) .skip)) (.rg x221_3 .ret)))
def c221 : Code := Tryd.f221.body.getD .skip
theorem x221_b : Tryd.f221.body = some c221 := by kernel_rfl
theorem x221_c : cG (comp Tryd.prog) 2 2 40 x221 c221 = x221.den := by kernel_rfl
def y221 : List (RR Tryd.prog 2 40 tf2) := [rrT r2_6 6 rfl rfl]
theorem x221_r : y221.map RR.den = Tryd.f221.results.toList := by kernel_rfl
theorem x221_k : okFn Tryd.f221 = true := by kernel_rfl
theorem x221_D : 2 = dep Tryd.f221.ntmps := by kernel_rfl
theorem x221_s : ([s2_0,s2_1,s2_2] : List (Slot tf2)).map Slot.p = (List.range' 0 3).map (pth 2) := by kernel_rfl
def X221 : XFn Tryd.prog 2 (comp Tryd.prog) := ⟨X2,tf2,221,Tryd.f221,c221,2,40,[s2_0,s2_1,s2_2],z2,x221,y221,x221_D,Tryd.ntmps221.symm,Tryd.func221,x221_b,x221_k,x221_s,by decide,z2_ok,x221_c,x221_r⟩
def x222_0 : List (Ins tf2) := [iAs (rk (.slice none 0 0)) s2_2,iAs (rk (.bool false)) s2_3]
def x222_1 : List (Ins tf2) := [iMv r2_0 s2_6,iCall (rk (.func (.func 246) #[] #[])) [r2_6,(rk (.func (.func 247) #[] #[]))] (some s2_7),iAs r2_7 s2_4]
def x222_2 : List (Ins tf2) := [iMv r2_4 s2_8,iP1 bLen r2_8 s2_9,iP2 bGt r2_9 (rk (.int .i64 (.ofNat 0))) s2_10,iMv r2_10 s2_11,iGd r2_11 [.o3,.o1] true (iMv r2_4 s2_12) (some s2_12) rfl rfl rfl,iGd r2_11 [.o3,.o1] true (iP2 (bIxs 1) r2_12 (rk (.int .i64 (.ofNat 0))) s2_13) (some s2_13) rfl rfl rfl,iGd r2_11 [.o3,.o1] true (iR1 bLd r2_13 s2_14) (some s2_14) rfl rfl rfl,iGd r2_11 [.o3,.o1] true (iP2 bEq r2_14 (rk (.int .i64 (.ofNat 0))) s2_15) (some s2_15) rfl rfl rfl,iGp (l3 pPick) [r2_11,r2_15,(rk (.bool false))] (some s2_16)]
def x222_3 : List (Ins tf2) := [iMv r2_4 s2_17,iGp (pSlB (pSl 1) true false false) [r2_17,(rk (.int .i64 (.ofNat 1)))] (some s2_18),iAs r2_18 s2_4]
def x222_4 : List (Ins tf2) := [iAs (rk (.int .i64 (.ofNat 1))) s2_5]
def x222_5 : List (Ins tf2) := [iMv r2_5 s2_19,iMv r2_4 s2_20,iP1 bLen r2_20 s2_21,iP2 bLt r2_19 r2_21 s2_22]
def x222_6 : List (Ins tf2) := [iMv r2_4 s2_25,iMv r2_5 s2_26,iP2 (bIxs 1) r2_25 r2_26 s2_27,iR1 bLd r2_27 s2_28,iMv r2_4 s2_30,iMv r2_5 s2_31,iP2 bSub r2_31 (rk (.int .i64 (.ofNat 1))) s2_32,iP2 (bIxs 1) r2_30 r2_32 s2_33,iR1 bLd r2_33 s2_34,iRc (iCall (rk (.func (.func 245) #[] #[])) [r2_28] (some s2_29)) [(rcLd r2_33 r2_34 [.o2,.o4] rfl)] rfl,iCall (rk (.func (.func 245) #[] #[])) [r2_34] (some s2_35),iP2 bEq r2_29 r2_35 s2_36]
def x222_7 : List (Ins tf2) := [iAs (rk (.slice none 0 0)) s2_2,iAs (rk (.bool true)) s2_3]
def x222_8 : List (Ins tf2) := [iMv r2_5 s2_23,iP2 bAdd r2_23 (rk (.int .i64 (.ofNat 1))) s2_24,iAs r2_24 s2_5]
def x222_9 : List (Ins tf2) := [iMv r2_4 s2_37,iAs r2_37 s2_2,iAs (rk (.bool false)) s2_3]
def x222 : XC tf2 := (.rg x222_0 (.rg x222_1 (.seq (.rg x222_2 (.cond r2_16 (.reg x222_3) .skip)) (.seq (.rg x222_4 (.block 0 (.loop (.seq (.rg x222_5 (.cond r2_22 .skip (.exit 0))) (.seq (.block 1 (.rg x222_6 (.cond r2_36 (.rg x222_7 .ret) .skip))) (.reg x222_8)))))) (.rg x222_9 .ret)))))
def c222 : Code := Tryd.f222.body.getD .skip
theorem x222_b : Tryd.f222.body = some c222 := by kernel_rfl
theorem x222_c : cG (comp Tryd.prog) 2 2 38 x222 c222 = x222.den := by kernel_rfl
def y222 : List (RR Tryd.prog 2 38 tf2) := [rrT r2_2 2 rfl rfl,rrT r2_3 3 rfl rfl]
theorem x222_r : y222.map RR.den = Tryd.f222.results.toList := by kernel_rfl
theorem x222_k : okFn Tryd.f222 = true := by kernel_rfl
theorem x222_D : 2 = dep Tryd.f222.ntmps := by kernel_rfl
theorem x222_s : ([s2_0] : List (Slot tf2)).map Slot.p = (List.range' 0 1).map (pth 2) := by kernel_rfl
def X222 : XFn Tryd.prog 2 (comp Tryd.prog) := ⟨X2,tf2,222,Tryd.f222,c222,2,38,[s2_0],z2,x222,y222,x222_D,Tryd.ntmps222.symm,Tryd.func222,x222_b,x222_k,x222_s,by decide,z2_ok,x222_c,x222_r⟩
def x223_0 : List (Ins tf2) := [iAs (rk (.int .i8 (.ofNat 0))) s2_4]
def x223_1 : List (Ins tf2) := [iMv r2_1 s2_5,iP2 bLt r2_5 (rk (.int .i64 (.ofNat 0))) s2_6]
def x223_2 : List (Ins tf2) := [iMv r2_0 s2_7,iP1 bNil r2_7 s2_8,iP1 (bFa 3) r2_8 s2_9,iR1 bLd r2_9 s2_10,iMv r2_1 s2_11,iGp (l1 (pUn .neg)) [r2_11] (some s2_12),iP2 (bIxs 1) r2_10 r2_12 s2_13,iR1 bLd r2_13 s2_14,iGp (l1 (pUn .neg)) [r2_14] (some s2_15),iAs r2_15 s2_4]
def x223_3 : List (Ins tf2) := [iMv r2_0 s2_16,iP1 bNil r2_16 s2_17,iP1 (bFa 3) r2_17 s2_18,iR1 bLd r2_18 s2_19,iMv r2_1 s2_20,iP2 (bIxs 1) r2_19 r2_20 s2_21,iR1 bLd r2_21 s2_22,iAs r2_22 s2_4]
def x223 : XC tf2 := (.rg x223_0 (.seq (.rg x223_1 (.cond r2_6 (.rg x223_2 .ret) .skip)) (.rg x223_3 .ret)))
def c223 : Code := Tryd.f223.body.getD .skip
theorem x223_b : Tryd.f223.body = some c223 := by kernel_rfl
theorem x223_c : cG (comp Tryd.prog) 2 2 23 x223 c223 = x223.den := by kernel_rfl
def y223 : List (RR Tryd.prog 2 23 tf2) := [rrT r2_4 4 rfl rfl]
theorem x223_r : y223.map RR.den = Tryd.f223.results.toList := by kernel_rfl
theorem x223_k : okFn Tryd.f223 = true := by kernel_rfl
theorem x223_D : 2 = dep Tryd.f223.ntmps := by kernel_rfl
theorem x223_s : ([s2_0,s2_1] : List (Slot tf2)).map Slot.p = (List.range' 0 2).map (pth 2) := by kernel_rfl
def X223 : XFn Tryd.prog 2 (comp Tryd.prog) := ⟨X2,tf2,223,Tryd.f223,c223,2,23,[s2_0,s2_1],z2,x223,y223,x223_D,Tryd.ntmps223.symm,Tryd.func223,x223_b,x223_k,x223_s,by decide,z2_ok,x223_c,x223_r⟩
def x224_0 : List (Ins tf2) := [iAs (rk (.int .i64 (.ofNat 0))) s2_2]
def x224_1 : List (Ins tf2) := [iMv r2_0 s2_3,iP2 bLt r2_3 (rk (.int .i64 (.ofNat 0))) s2_4]
def x224_2 : List (Ins tf2) := [iMv r2_0 s2_5,iGp (l2 (pBin .mul)) [(rk (.int .i64 (.negSucc 1))),r2_5] (some s2_6),iP2 bAdd r2_6 (rk (.int .i64 (.ofNat 1))) s2_7,iAs r2_7 s2_2]
def x224_3 : List (Ins tf2) := [iMv r2_0 s2_8,iGp (l2 (pBin .mul)) [(rk (.int .i64 (.ofNat 2))),r2_8] (some s2_9),iAs r2_9 s2_2]
def x224 : XC tf2 := (.rg x224_0 (.seq (.rg x224_1 (.cond r2_4 (.rg x224_2 .ret) .skip)) (.rg x224_3 .ret)))
def c224 : Code := Tryd.f224.body.getD .skip
theorem x224_b : Tryd.f224.body = some c224 := by kernel_rfl
theorem x224_c : cG (comp Tryd.prog) 2 2 10 x224 c224 = x224.den := by kernel_rfl
def y224 : List (RR Tryd.prog 2 10 tf2) := [rrT r2_2 2 rfl rfl]
theorem x224_r : y224.map RR.den = Tryd.f224.results.toList := by kernel_rfl
theorem x224_k : okFn Tryd.f224 = true := by kernel_rfl
theorem x224_D : 2 = dep Tryd.f224.ntmps := by kernel_rfl
theorem x224_s : ([s2_0] : List (Slot tf2)).map Slot.p = (List.range' 0 1).map (pth 2) := by kernel_rfl
def X224 : XFn Tryd.prog 2 (comp Tryd.prog) := ⟨X2,tf2,224,Tryd.f224,c224,2,10,[s2_0],z2,x224,y224,x224_D,Tryd.ntmps224.symm,Tryd.func224,x224_b,x224_k,x224_s,by decide,z2_ok,x224_c,x224_r⟩
def x225_0 : List (Ins tf1) := [iAs (rk (.int .i64 (.ofNat 0))) s1_2]
def x225_1 : List (Ins tf1) := [iMv r1_0 s1_3,iMv r1_0 s1_4,iGp (l1 (pUn .neg)) [r1_4] (some s1_5),iGp (l2 pMax) [r1_3,r1_5] (some s1_6),iAs r1_6 s1_2]
def x225 : XC tf1 := (.rg x225_0 (.rg x225_1 .ret))
def c225 : Code := Tryd.f225.body.getD .skip
theorem x225_b : Tryd.f225.body = some c225 := by kernel_rfl
theorem x225_c : cG (comp Tryd.prog) 2 1 7 x225 c225 = x225.den := by kernel_rfl
def y225 : List (RR Tryd.prog 1 7 tf1) := [rrT r1_2 2 rfl rfl]
theorem x225_r : y225.map RR.den = Tryd.f225.results.toList := by kernel_rfl
theorem x225_k : okFn Tryd.f225 = true := by kernel_rfl
theorem x225_D : 1 = dep Tryd.f225.ntmps := by kernel_rfl
theorem x225_s : ([s1_0] : List (Slot tf1)).map Slot.p = (List.range' 0 1).map (pth 1) := by kernel_rfl
def X225 : XFn Tryd.prog 2 (comp Tryd.prog) := ⟨X1,tf1,225,Tryd.f225,c225,1,7,[s1_0],z1,x225,y225,x225_D,Tryd.ntmps225.symm,Tryd.func225,x225_b,x225_k,x225_s,by decide,z1_ok,x225_c,x225_r⟩
def x228_0 : List (Ins tf2) := [iAs (rk (.int .i64 (.ofNat 0))) s2_2]
def x228_1 : List (Ins tf2) := [iMv r2_0 s2_3,iGp (l2 (pEqD (tdOf 280) false)) [r2_3,(rk (.pointer none))] (some s2_4)]
def x228_2 : List (Ins tf2) := [iAs (rk (.int .i64 (.ofNat 0))) s2_2]
def x228_3 : List (Ins tf2) := [iMv r2_0 s2_5,iP1 bNil r2_5 s2_6,iP1 (bFa 1) r2_6 s2_7,iP1 (bFa 0) r2_7 s2_8,iR1 bLd r2_8 s2_9,iP1 bLen r2_9 s2_10,iAs r2_10 s2_2]
def x228 : XC tf2 := (.rg x228_0 (.seq (.rg x228_1 (.cond r2_4 (.rg x228_2 .ret) .skip)) (.rg x228_3 .ret)))
def c228 : Code := Tryd.f228.body.getD .skip
theorem x228_b : Tryd.f228.body = some c228 := by kernel_rfl
theorem x228_c : cG (comp Tryd.prog) 2 2 11 x228 c228 = x228.den := by kernel_rfl
def y228 : List (RR Tryd.prog 2 11 tf2) := [rrT r2_2 2 rfl rfl]
theorem x228_r : y228.map RR.den = Tryd.f228.results.toList := by kernel_rfl
theorem x228_k : okFn Tryd.f228 = true := by kernel_rfl
theorem x228_D : 2 = dep Tryd.f228.ntmps := by kernel_rfl
theorem x228_s : ([s2_0] : List (Slot tf2)).map Slot.p = (List.range' 0 1).map (pth 2) := by kernel_rfl
def X228 : XFn Tryd.prog 2 (comp Tryd.prog) := ⟨X2,tf2,228,Tryd.f228,c228,2,11,[s2_0],z2,x228,y228,x228_D,Tryd.ntmps228.symm,Tryd.func228,x228_b,x228_k,x228_s,by decide,z2_ok,x228_c,x228_r⟩
def x229_0 : List (Ins tf2) := [iAs (rk (.int .i64 (.ofNat 0))) s2_2,iAs (rk (.int .i64 (.ofNat 0))) s2_3]
def x229_1 : List (Ins tf2) := [iMv r2_0 s2_6,iGp (l2 (pEqD (tdOf 280) false)) [r2_6,(rk (.pointer none))] (some s2_7)]
def x229_2 : List (Ins tf2) := [iAs (rk (.int .i64 (.ofNat 0))) s2_2,iAs (rk (.int .i64 (.ofNat 1))) s2_3]
def x229_3 : List (Ins tf2) := [iMv r2_0 s2_8,iP1 bNil r2_8 s2_9,iP1 (bFa 1) r2_9 s2_10,iP1 (bFa 0) r2_10 s2_11,iR1 bLd r2_11 s2_12,iP1 bLen r2_12 s2_13,iP2 bSub r2_13 (rk (.int .i64 (.ofNat 1))) s2_14,iAs r2_14 s2_4]
def x229_4 : List (Ins tf2) := [iMv r2_4 s2_15,iP2 bLt r2_15 (rk (.int .i64 (.ofNat 0))) s2_16]
def x229_5 : List (Ins tf2) := [iAs (rk (.int .i64 (.ofNat 0))) s2_2,iAs (rk (.int .i64 (.ofNat 6))) s2_3]
def x229_6 : List (Ins tf2) := [iMv r2_0 s2_17,iP1 bNil r2_17 s2_18,iP1 (bFa 1) r2_18 s2_19,iMv r2_4 s2_20,iCall (rk (.func (.func 250) #[] #[])) [r2_19,(rk (.int .i64 (.ofNat 0))),r2_20] (some s2_21)]
def x229_7 : List (Ins tf2) := [iMv r2_0 s2_22,iP1 bNil r2_22 s2_23,iP1 (bFa 1) r2_23 s2_24,iP1 (bFa 0) r2_24 s2_25,iR1 bLd r2_25 s2_26,iMv r2_4 s2_27,iP2 (bIxs 1) r2_26 r2_27 s2_28,iR1 bLd r2_28 s2_29,iAs r2_29 s2_5]
def x229_8 : List (Ins tf2) := [iMv r2_0 s2_30,iMv r2_0 s2_31,iP1 bNil r2_31 s2_32,iP1 (bFa 1) r2_32 s2_33,iP1 (bFa 1) r2_33 s2_34,iR1 bLd r2_34 s2_35,iMv r2_5 s2_36,iMv r2_0 s2_37,iP1 bNil r2_37 s2_38,iP1 (bFa 1) r2_38 s2_39,iP1 (bFa 0) r2_39 s2_40,iR1 bLd r2_40 s2_41,iMv r2_4 s2_42,iGp (pSlB (pSl 1) false true false) [r2_41,r2_42] (some s2_43),iP1 bNil r2_30 s2_44,iP1 (bFa 1) r2_44 s2_45,iP1 (bFa 0) r2_45 s2_46,iM2 bSt r2_46 r2_43,iP2 (bIxs 1) r2_35 r2_36 s2_47,iM2 bSt r2_47 (rk (.int .i64 (.negSucc 0)))]
def x229_9 : List (Ins tf2) := [iMv r2_4 s2_48,iP2 bGt r2_48 (rk (.int .i64 (.ofNat 0))) s2_49]
def x229_10 : List (Ins tf2) := [iMv r2_0 s2_50,iP1 bNil r2_50 s2_51,iP1 (bFa 1) r2_51 s2_52,iCall (rk (.func (.func 251) #[] #[])) [r2_52,(rk (.int .i64 (.ofNat 0)))] (some s2_53)]
def x229_11 : List (Ins tf2) := [iMv r2_5 s2_54,iAs r2_54 s2_2,iAs (rk (.int .i64 (.ofNat 0))) s2_3]
def x229 : XC tf2 := (.rg x229_0 (.seq (.rg x229_1 (.cond r2_7 (.rg x229_2 .ret) .skip)) (.rg x229_3 (.seq (.rg x229_4 (.cond r2_16 (.rg x229_5 .ret) .skip)) (.rg x229_6 (.rg x229_7 (.rg x229_8 (.seq (.rg x229_9 (.cond r2_49 (.reg x229_10) .skip)) (.rg x229_11 .ret)))))))))
def c229 : Code := Tryd.f229.body.getD .skip
theorem x229_b : Tryd.f229.body = some c229 := by kernel_rfl
theorem x229_c : cG (comp Tryd.prog) 2 2 55 x229 c229 = x229.den := by kernel_rfl
def y229 : List (RR Tryd.prog 2 55 tf2) := [rrT r2_2 2 rfl rfl,rrT r2_3 3 rfl rfl]
theorem x229_r : y229.map RR.den = Tryd.f229.results.toList := by kernel_rfl
theorem x229_k : okFn Tryd.f229 = true := by kernel_rfl
theorem x229_D : 2 = dep Tryd.f229.ntmps := by kernel_rfl
theorem x229_s : ([s2_0] : List (Slot tf2)).map Slot.p = (List.range' 0 1).map (pth 2) := by kernel_rfl
def X229 : XFn Tryd.prog 2 (comp Tryd.prog) := ⟨X2,tf2,229,Tryd.f229,c229,2,55,[s2_0],z2,x229,y229,x229_D,Tryd.ntmps229.symm,Tryd.func229,x229_b,x229_k,x229_s,by decide,z2_ok,x229_c,x229_r⟩
end
end Cr
end Go.Proofs.YtjhbabgcoemecaaDoor
namespace Go.Proofs.YtjhbabgcoemecaaDoor
namespace Cr
open Go Go.RowKit
set_option maxRecDepth 100000
noncomputable section
def x230_0 : List (Ins tf2) := [iMv r2_1 s2_8,iP2 bAdd r2_8 (rk (.int .i64 (.ofNat 1))) s2_9,iAs r2_9 s2_6]
def x230_1 : List (Ins tf2) := [iMv r2_6 s2_10,iMv r2_2 s2_11,iP2 bLt r2_10 r2_11 s2_12]
def x230_2 : List (Ins tf2) := [iMv r2_6 s2_15,iAs r2_15 s2_7]
def x230_3 : List (Ins tf2) := [iMv r2_7 s2_16,iMv r2_1 s2_17,iP2 bGt r2_16 r2_17 s2_18,iMv r2_18 s2_19,iGd r2_19 [.o3,.o2] true (iMv r2_0 s2_20) (some s2_20) rfl rfl rfl,iGd r2_19 [.o3,.o2] true (iMv r2_7 s2_21) (some s2_21) rfl rfl rfl,iGd r2_19 [.o3,.o2] true (iP2 (bIxs 1) r2_20 r2_21 s2_22) (some s2_22) rfl rfl rfl,iGd r2_19 [.o3,.o2] true (iR1 bLd r2_22 s2_23) (some s2_23) rfl rfl rfl,iGd r2_19 [.o3,.o2] true (iMv r2_0 s2_24) (some s2_24) rfl rfl rfl,iGd r2_19 [.o3,.o2] true (iMv r2_7 s2_25) (some s2_25) rfl rfl rfl,iGd r2_19 [.o3,.o2] true (iP2 bSub r2_25 (rk (.int .i64 (.ofNat 1))) s2_26) (some s2_26) rfl rfl rfl,iGd r2_19 [.o3,.o2] true (iP2 (bIxs 1) r2_24 r2_26 s2_27) (some s2_27) rfl rfl rfl,iGd r2_19 [.o3,.o2] true (iR1 bLd r2_27 s2_28) (some s2_28) rfl rfl rfl,iGd r2_19 [.o3,.o2] true (iCall (rk (.func (.func 236) #[] #[])) [r2_23,r2_28] (some s2_29)) (some s2_29) rfl rfl rfl,iGp (l3 pPick) [r2_19,r2_29,(rk (.bool false))] (some s2_30)]
def x230_4 : List (Ins tf2) := [iMv r2_0 s2_33,iMv r2_7 s2_34,iMv r2_0 s2_35,iMv r2_7 s2_36,iP2 bSub r2_36 (rk (.int .i64 (.ofNat 1))) s2_37,iMv r2_0 s2_38,iMv r2_7 s2_39,iP2 bSub r2_39 (rk (.int .i64 (.ofNat 1))) s2_40,iP2 (bIxs 1) r2_38 r2_40 s2_41,iR1 bLd r2_41 s2_42,iMv r2_0 s2_43,iMv r2_7 s2_44,iP2 (bIxs 1) r2_43 r2_44 s2_45,iR1 bLd r2_45 s2_46,iP2 (bIxs 1) r2_33 r2_34 s2_47,iM2 bSt r2_47 r2_42,iP2 (bIxs 1) r2_35 r2_37 s2_48,iM2 bSt r2_48 r2_46]
def x230_5 : List (Ins tf2) := [iMv r2_7 s2_31,iP2 bSub r2_31 (rk (.int .i64 (.ofNat 1))) s2_32,iAs r2_32 s2_7]
def x230_6 : List (Ins tf2) := [iMv r2_6 s2_13,iP2 bAdd r2_13 (rk (.int .i64 (.ofNat 1))) s2_14,iAs r2_14 s2_6]
def x230 : XC tf2 := (.rg x230_0 (.block 0 (.loop (.seq (.rg x230_1 (.cond r2_12 .skip (.exit 0))) (.seq (.block 1 (.rg x230_2 (.block 2 (.loop (.seq (.rg x230_3 (.cond r2_30 .skip (.exit 2))) (.seq (.block 3 (.reg x230_4)) (.reg x230_5))))))) (.reg x230_6))))))
def c230 : Code := Tryd.f230.body.getD .skip
theorem x230_b : Tryd.f230.body = some c230 := by kernel_rfl
theorem x230_c : cG (comp Tryd.prog) 2 2 49 x230 c230 = x230.den := by kernel_rfl
def y230 : List (RR Tryd.prog 2 49 tf2) := []
theorem x230_r : y230.map RR.den = Tryd.f230.results.toList := by kernel_rfl
theorem x230_k : okFn Tryd.f230 = true := by kernel_rfl
theorem x230_D : 2 = dep Tryd.f230.ntmps := by kernel_rfl
theorem x230_s : ([s2_0,s2_1,s2_2] : List (Slot tf2)).map Slot.p = (List.range' 0 3).map (pth 2) := by kernel_rfl
def X230 : XFn Tryd.prog 2 (comp Tryd.prog) := ⟨X2,tf2,230,Tryd.f230,c230,2,49,[s2_0,s2_1,s2_2],z2,x230,y230,x230_D,Tryd.ntmps230.symm,Tryd.func230,x230_b,x230_k,x230_s,by decide,z2_ok,x230_c,x230_r⟩
def x240_0 : List (Ins tf2) := [iAs (rk (.int .i64 (.ofNat 0))) s2_2]
def x240_1 : List (Ins tf2) := [iMv r2_0 s2_3,iP2 bGe r2_3 (rk (.int .u64 (.ofNat 4294967296))) s2_4]
def x240_2 : List (Ins tf2) := [iMv r2_0 s2_5,iGp (l2 (pBin .shr)) [r2_5,(rk (.int .u64 (.ofNat 32)))] (some s2_6),iAs r2_6 s2_0]
def x240_3 : List (Ins tf2) := [iAs (rk (.int .i64 (.ofNat 32))) s2_2]
def x240_4 : List (Ins tf2) := [iMv r2_0 s2_7,iP2 bGe r2_7 (rk (.int .u64 (.ofNat 65536))) s2_8]
def x240_5 : List (Ins tf2) := [iMv r2_0 s2_9,iGp (l2 (pBin .shr)) [r2_9,(rk (.int .u64 (.ofNat 16)))] (some s2_10),iAs r2_10 s2_0]
def x240_6 : List (Ins tf2) := [iMv r2_2 s2_11,iP2 bAdd r2_11 (rk (.int .i64 (.ofNat 16))) s2_12,iAs r2_12 s2_2]
def x240_7 : List (Ins tf2) := [iMv r2_0 s2_13,iP2 bGe r2_13 (rk (.int .u64 (.ofNat 256))) s2_14]
def x240_8 : List (Ins tf2) := [iMv r2_0 s2_15,iGp (l2 (pBin .shr)) [r2_15,(rk (.int .u64 (.ofNat 8)))] (some s2_16),iAs r2_16 s2_0]
def x240_9 : List (Ins tf2) := [iMv r2_2 s2_17,iP2 bAdd r2_17 (rk (.int .i64 (.ofNat 8))) s2_18,iAs r2_18 s2_2]
def x240_10 : List (Ins tf2) := [iMv r2_2 s2_19,iMv r2_0 s2_20,iP1 (bCv .u8) r2_20 s2_21,iGp (l2 pIxStr) [(rk (.string ⟨⟨[0,1,2,2,3,3,3,3,4,4,4,4,4,4,4,4,5,5,5,5,5,5,5,5,5,5,5,5,5,5,5,5,6,6,6,6,6,6,6,6,6,6,6,6,6,6,6,6,6,6,6,6,6,6,6,6,6,6,6,6,6,6,6,6,7,7,7,7,7,7,7,7,7,7,7,7,7,7,7,7,7,7,7,7,7,7,7,7,7,7,7,7,7,7,7,7,7,7,7,7,7,7,7,7,7,7,7,7,7,7,7,7,7,7,7,7,7,7,7,7,7,7,7,7,7,7,7,7,8,8,8,8,8,8,8,8,8,8,8,8,8,8,8,8,8,8,8,8,8,8,8,8,8,8,8,8,8,8,8,8,8,8,8,8,8,8,8,8,8,8,8,8,8,8,8,8,8,8,8,8,8,8,8,8,8,8,8,8,8,8,8,8,8,8,8,8,8,8,8,8,8,8,8,8,8,8,8,8,8,8,8,8,8,8,8,8,8,8,8,8,8,8,8,8,8,8,8,8,8,8,8,8,8,8,8,8,8,8,8,8,8,8,8,8,8,8,8,8,8,8,8,8,8,8,8,8]⟩⟩)),r2_21] (some s2_22),iP1 (bCv .i64) r2_22 s2_23,iP2 bAdd r2_19 r2_23 s2_24,iAs r2_24 s2_2]
def x240 : XC tf2 := (.rg x240_0 (.seq (.rg x240_1 (.cond r2_4 (.rg x240_2 (.reg x240_3)) .skip)) (.seq (.rg x240_4 (.cond r2_8 (.rg x240_5 (.reg x240_6)) .skip)) (.seq (.rg x240_7 (.cond r2_14 (.rg x240_8 (.reg x240_9)) .skip)) (.rg x240_10 .ret)))))
def c240 : Code := Tryd.f240.body.getD .skip
theorem x240_b : Tryd.f240.body = some c240 := by kernel_rfl
theorem x240_c : cG (comp Tryd.prog) 2 2 25 x240 c240 = x240.den := by kernel_rfl
def y240 : List (RR Tryd.prog 2 25 tf2) := [rrT r2_2 2 rfl rfl]
theorem x240_r : y240.map RR.den = Tryd.f240.results.toList := by kernel_rfl
theorem x240_k : okFn Tryd.f240 = true := by kernel_rfl
theorem x240_D : 2 = dep Tryd.f240.ntmps := by kernel_rfl
theorem x240_s : ([s2_0] : List (Slot tf2)).map Slot.p = (List.range' 0 1).map (pth 2) := by kernel_rfl
def X240 : XFn Tryd.prog 2 (comp Tryd.prog) := ⟨X2,tf2,240,Tryd.f240,c240,2,25,[s2_0],z2,x240,y240,x240_D,Tryd.ntmps240.symm,Tryd.func240,x240_b,x240_k,x240_s,by decide,z2_ok,x240_c,x240_r⟩
def x243_0 : List (Ins tf2) := [iAs (rk (.int .i64 (.ofNat 0))) s2_6,iAs (rk (.int .i64 (.ofNat 0))) s2_7]
def x243_1 : List (Ins tf2) := [iMv r2_0 s2_8,iGp (l2 (pEqD (tdOf 249) false)) [r2_8,(rk (.pointer none))] (some s2_9)]
def x243_2 : List (Ins tf2) := [iAs (rk (.int .i64 (.ofNat 0))) s2_6,iAs (rk (.int .i64 (.ofNat 1))) s2_7]
def x243_3 : List (Ins tf2) := [iMv r2_0 s2_10,iMv r2_1 s2_11,iMv r2_2 s2_12,iGa (aBsl 2 1 [(.int .i64 (.ofNat 0))] [(0,1),(1,1)]) [r2_11,r2_12] (some s2_13),iCall (rk (.func (.func 219) #[] #[])) [r2_10,r2_13] (some s2_14),iGp (l1 (pUn .not)) [r2_14] (some s2_15)]
def x243_4 : List (Ins tf2) := [iAs (rk (.int .i64 (.ofNat 0))) s2_6,iAs (rk (.int .i64 (.ofNat 3))) s2_7]
def x243_5 : List (Ins tf2) := [iMv r2_1 s2_17,iMv r2_2 s2_18,iP2 bEq r2_17 r2_18 s2_19,iMv r2_19 s2_20,iGd r2_20 [.o4,.o2] false (iMv r2_2 s2_21) (some s2_21) rfl rfl rfl,iGd r2_20 [.o4,.o2] false (iP2 bEq r2_21 (rk (.int .i64 (.ofNat 1))) s2_22) (some s2_22) rfl rfl rfl,iGp (l3 pPick) [r2_20,(rk (.bool true)),r2_22] (some s2_23),iAs r2_23 s2_16]
def x243_6 : List (Ins tf2) := [iMv r2_1 s2_24,iAs r2_24 s2_6,iAs (rk (.int .i64 (.ofNat 0))) s2_7]
def x243_7 : List (Ins tf2) := [iMv r2_1 s2_26,iP2 bEq r2_26 (rk (.int .i64 (.ofNat 1))) s2_27,iAs r2_27 s2_25]
def x243_8 : List (Ins tf2) := [iMv r2_2 s2_28,iAs r2_28 s2_6,iAs (rk (.int .i64 (.ofNat 0))) s2_7]
def x243_9 : List (Ins tf2) := [iMv r2_1 s2_30,iMv r2_2 s2_31,iGp (l1 (pUn .neg)) [r2_31] (some s2_32),iP2 bEq r2_30 r2_32 s2_33,iMv r2_33 s2_34,iGd r2_34 [.o2,.o4] false (iMv r2_1 s2_35) (some s2_35) rfl rfl rfl,iGd r2_34 [.o2,.o4] false (iP2 bEq r2_35 (rk (.int .i64 (.negSucc 0))) s2_36) (some s2_36) rfl rfl rfl,iGp (l3 pPick) [r2_34,(rk (.bool true)),r2_36] (some s2_37),iMv r2_37 s2_38,iGd r2_38 [.o6,.o4] false (iMv r2_2 s2_39) (some s2_39) rfl rfl rfl,iGd r2_38 [.o6,.o4] false (iP2 bEq r2_39 (rk (.int .i64 (.negSucc 0))) s2_40) (some s2_40) rfl rfl rfl,iGp (l3 pPick) [r2_38,(rk (.bool true)),r2_40] (some s2_41),iAs r2_41 s2_29]
def x243_10 : List (Ins tf2) := [iAs (rk (.int .i64 (.negSucc 0))) s2_6,iAs (rk (.int .i64 (.ofNat 0))) s2_7]
def x243_11 : List (Ins tf2) := [iMv r2_0 s2_42,iMv r2_1 s2_43,iMv r2_2 s2_44,iGa (aBsl 2 1 [(.int .i64 (.ofNat 0))] [(0,1),(1,1)]) [r2_43,r2_44] (some s2_45),iCall (rk (.func (.func 273) #[] #[])) [r2_42,(rk (.int .i64 (.ofNat 0))),r2_45] (some s2_46),iGp (l1 (pExt 0)) [r2_46] (some s2_47),iGp (l1 (pExt 1)) [r2_46] (some s2_48),iAs r2_47 s2_6,iAs r2_48 s2_7]
def x243 : XC tf2 := (.rg x243_0 (.seq (.rg x243_1 (.cond r2_9 (.rg x243_2 .ret) .skip)) (.seq (.rg x243_3 (.cond r2_15 (.rg x243_4 .ret) .skip)) (.seq (.block 0 (.rg x243_5 (.cond r2_16 (.rg x243_6 .ret) (.rg x243_7 (.cond r2_25 (.rg x243_8 .ret) (.rg x243_9 (.cond r2_29 (.rg x243_10 .ret) .skip))))))) (.rg x243_11 .ret)))))
def c243 : Code := Tryd.f243.body.getD .skip
theorem x243_b : Tryd.f243.body = some c243 := by kernel_rfl
theorem x243_c : cG (comp Tryd.prog) 2 2 49 x243 c243 = x243.den := by kernel_rfl
def y243 : List (RR Tryd.prog 2 49 tf2) := [rrT r2_6 6 rfl rfl,rrT r2_7 7 rfl rfl]
theorem x243_r : y243.map RR.den = Tryd.f243.results.toList := by kernel_rfl
theorem x243_k : okFn Tryd.f243 = true := by kernel_rfl
theorem x243_D : 2 = dep Tryd.f243.ntmps := by kernel_rfl
theorem x243_s : ([s2_0,s2_1,s2_2] : List (Slot tf2)).map Slot.p = (List.range' 0 3).map (pth 2) := by kernel_rfl
def X243 : XFn Tryd.prog 2 (comp Tryd.prog) := ⟨X2,tf2,243,Tryd.f243,c243,2,49,[s2_0,s2_1,s2_2],z2,x243,y243,x243_D,Tryd.ntmps243.symm,Tryd.func243,x243_b,x243_k,x243_s,by decide,z2_ok,x243_c,x243_r⟩
def x244_0 : List (Ins tf2) := [iAs (rk (.int .i64 (.ofNat 0))) s2_6,iAs (rk (.int .i64 (.ofNat 0))) s2_7]
def x244_1 : List (Ins tf2) := [iMv r2_0 s2_11,iMv r2_1 s2_12,iGp (l1 (pUn .neg)) [r2_12] (some s2_13),iMv r2_2 s2_14,iGp (l1 (pUn .neg)) [r2_14] (some s2_15),iCall (rk (.func (.func 243) #[] #[])) [r2_11,r2_13,r2_15] (some s2_16),iMv r2_16 s2_10,iGp (l1 (pExt 0)) [r2_10] (some s2_17),iGp (l1 (pExt 1)) [r2_10] (some s2_18),iAs r2_17 s2_8,iAs r2_18 s2_9]
def x244_2 : List (Ins tf2) := [iMv r2_8 s2_19,iGp (l1 (pUn .neg)) [r2_19] (some s2_20),iMv r2_9 s2_21,iAs r2_20 s2_6,iAs r2_21 s2_7]
def x244 : XC tf2 := (.rg x244_0 (.rg x244_1 (.rg x244_2 .ret)))
def c244 : Code := Tryd.f244.body.getD .skip
theorem x244_b : Tryd.f244.body = some c244 := by kernel_rfl
theorem x244_c : cG (comp Tryd.prog) 2 2 22 x244 c244 = x244.den := by kernel_rfl
def y244 : List (RR Tryd.prog 2 22 tf2) := [rrT r2_6 6 rfl rfl,rrT r2_7 7 rfl rfl]
theorem x244_r : y244.map RR.den = Tryd.f244.results.toList := by kernel_rfl
theorem x244_k : okFn Tryd.f244 = true := by kernel_rfl
theorem x244_D : 2 = dep Tryd.f244.ntmps := by kernel_rfl
theorem x244_s : ([s2_0,s2_1,s2_2] : List (Slot tf2)).map Slot.p = (List.range' 0 3).map (pth 2) := by kernel_rfl
def X244 : XFn Tryd.prog 2 (comp Tryd.prog) := ⟨X2,tf2,244,Tryd.f244,c244,2,22,[s2_0,s2_1,s2_2],z2,x244,y244,x244_D,Tryd.ntmps244.symm,Tryd.func244,x244_b,x244_k,x244_s,by decide,z2_ok,x244_c,x244_r⟩
def x245_0 : List (Ins tf2) := [iAs (rk (.int .u64 (.ofNat 0))) s2_2]
def x245_1 : List (Ins tf2) := [iMv r2_0 s2_3,iP2 bLt r2_3 (rk (.int .i64 (.ofNat 0))) s2_4]
def x245_2 : List (Ins tf2) := [iMv r2_0 s2_5,iP1 (bCv .u64) r2_5 s2_6,iGp (l1 (pUn .neg)) [r2_6] (some s2_7),iAs r2_7 s2_2]
def x245_3 : List (Ins tf2) := [iMv r2_0 s2_8,iP1 (bCv .u64) r2_8 s2_9,iAs r2_9 s2_2]
def x245 : XC tf2 := (.rg x245_0 (.seq (.rg x245_1 (.cond r2_4 (.rg x245_2 .ret) .skip)) (.rg x245_3 .ret)))
def c245 : Code := Tryd.f245.body.getD .skip
theorem x245_b : Tryd.f245.body = some c245 := by kernel_rfl
theorem x245_c : cG (comp Tryd.prog) 2 2 10 x245 c245 = x245.den := by kernel_rfl
def y245 : List (RR Tryd.prog 2 10 tf2) := [rrT r2_2 2 rfl rfl]
theorem x245_r : y245.map RR.den = Tryd.f245.results.toList := by kernel_rfl
theorem x245_k : okFn Tryd.f245 = true := by kernel_rfl
theorem x245_D : 2 = dep Tryd.f245.ntmps := by kernel_rfl
theorem x245_s : ([s2_0] : List (Slot tf2)).map Slot.p = (List.range' 0 1).map (pth 2) := by kernel_rfl
def X245 : XFn Tryd.prog 2 (comp Tryd.prog) := ⟨X2,tf2,245,Tryd.f245,c245,2,10,[s2_0],z2,x245,y245,x245_D,Tryd.ntmps245.symm,Tryd.func245,x245_b,x245_k,x245_s,by decide,z2_ok,x245_c,x245_r⟩
def x247_0 : List (Ins tf2) := [iAs (rk (.bool false)) s2_4]
def x247_1 : List (Ins tf2) := [iMv r2_0 s2_5,iCall (rk (.func (.func 245) #[] #[])) [r2_5] (some s2_6),iMv r2_1 s2_7,iCall (rk (.func (.func 245) #[] #[])) [r2_7] (some s2_8),iP2 bNe r2_6 r2_8 s2_9]
def x247_2 : List (Ins tf2) := [iMv r2_0 s2_10,iCall (rk (.func (.func 245) #[] #[])) [r2_10] (some s2_11),iMv r2_1 s2_12,iCall (rk (.func (.func 245) #[] #[])) [r2_12] (some s2_13),iP2 bLt r2_11 r2_13 s2_14,iAs r2_14 s2_4]
def x247_3 : List (Ins tf2) := [iMv r2_0 s2_15,iMv r2_1 s2_16,iP2 bGt r2_15 r2_16 s2_17,iAs r2_17 s2_4]
def x247 : XC tf2 := (.rg x247_0 (.seq (.rg x247_1 (.cond r2_9 (.rg x247_2 .ret) .skip)) (.rg x247_3 .ret)))
def c247 : Code := Tryd.f247.body.getD .skip
theorem x247_b : Tryd.f247.body = some c247 := by kernel_rfl
theorem x247_c : cG (comp Tryd.prog) 2 2 18 x247 c247 = x247.den := by kernel_rfl
def y247 : List (RR Tryd.prog 2 18 tf2) := [rrT r2_4 4 rfl rfl]
theorem x247_r : y247.map RR.den = Tryd.f247.results.toList := by kernel_rfl
theorem x247_k : okFn Tryd.f247 = true := by kernel_rfl
theorem x247_D : 2 = dep Tryd.f247.ntmps := by kernel_rfl
theorem x247_s : ([s2_0,s2_1] : List (Slot tf2)).map Slot.p = (List.range' 0 2).map (pth 2) := by kernel_rfl
def X247 : XFn Tryd.prog 2 (comp Tryd.prog) := ⟨X2,tf2,247,Tryd.f247,c247,2,18,[s2_0,s2_1],z2,x247,y247,x247_D,Tryd.ntmps247.symm,Tryd.func247,x247_b,x247_k,x247_s,by decide,z2_ok,x247_c,x247_r⟩
def x250_0 : List (Ins tf2) := [iMv r2_0 s2_6,iP1 bNil r2_6 s2_7,iP1 (bFa 0) r2_7 s2_8,iR1 bLd r2_8 s2_9,iMv r2_1 s2_10,iMv r2_0 s2_11,iP1 bNil r2_11 s2_12,iP1 (bFa 0) r2_12 s2_13,iR1 bLd r2_13 s2_14,iMv r2_2 s2_15,iMv r2_0 s2_16,iP1 bNil r2_16 s2_17,iP1 (bFa 0) r2_17 s2_18,iR1 bLd r2_18 s2_19,iMv r2_2 s2_20,iP2 (bIxs 1) r2_19 r2_20 s2_21,iR1 bLd r2_21 s2_22,iMv r2_0 s2_23,iP1 bNil r2_23 s2_24,iP1 (bFa 0) r2_24 s2_25,iR1 bLd r2_25 s2_26,iMv r2_1 s2_27,iP2 (bIxs 1) r2_26 r2_27 s2_28,iR1 bLd r2_28 s2_29,iP2 (bIxs 1) r2_9 r2_10 s2_30,iM2 bSt r2_30 r2_22,iP2 (bIxs 1) r2_14 r2_15 s2_31,iM2 bSt r2_31 r2_29]
def x250_1 : List (Ins tf2) := [iMv r2_0 s2_32,iP1 bNil r2_32 s2_33,iP1 (bFa 1) r2_33 s2_34,iR1 bLd r2_34 s2_35,iMv r2_0 s2_36,iP1 bNil r2_36 s2_37,iP1 (bFa 0) r2_37 s2_38,iR1 bLd r2_38 s2_39,iMv r2_1 s2_40,iP2 (bIxs 1) r2_39 r2_40 s2_41,iR1 bLd r2_41 s2_42,iMv r2_0 s2_43,iP1 bNil r2_43 s2_44,iP1 (bFa 1) r2_44 s2_45,iR1 bLd r2_45 s2_46,iMv r2_0 s2_47,iP1 bNil r2_47 s2_48,iP1 (bFa 0) r2_48 s2_49,iR1 bLd r2_49 s2_50,iMv r2_2 s2_51,iP2 (bIxs 1) r2_50 r2_51 s2_52,iR1 bLd r2_52 s2_53,iMv r2_1 s2_54,iMv r2_2 s2_55,iP2 (bIxs 1) r2_35 r2_42 s2_56,iM2 bSt r2_56 r2_54,iP2 (bIxs 1) r2_46 r2_53 s2_57,iM2 bSt r2_57 r2_55]
def x250 : XC tf2 := (.rg x250_0 (.reg x250_1))
def c250 : Code := Tryd.f250.body.getD .skip
theorem x250_b : Tryd.f250.body = some c250 := by kernel_rfl
theorem x250_c : cG (comp Tryd.prog) 2 2 58 x250 c250 = x250.den := by kernel_rfl
def y250 : List (RR Tryd.prog 2 58 tf2) := []
theorem x250_r : y250.map RR.den = Tryd.f250.results.toList := by kernel_rfl
theorem x250_k : okFn Tryd.f250 = true := by kernel_rfl
theorem x250_D : 2 = dep Tryd.f250.ntmps := by kernel_rfl
theorem x250_s : ([s2_0,s2_1,s2_2] : List (Slot tf2)).map Slot.p = (List.range' 0 3).map (pth 2) := by kernel_rfl
def X250 : XFn Tryd.prog 2 (comp Tryd.prog) := ⟨X2,tf2,250,Tryd.f250,c250,2,58,[s2_0,s2_1,s2_2],z2,x250,y250,x250_D,Tryd.ntmps250.symm,Tryd.func250,x250_b,x250_k,x250_s,by decide,z2_ok,x250_c,x250_r⟩
def x251_0 : List (Ins tf2) := [iMv r2_1 s2_7,iAs r2_7 s2_4]
def x251_1 : List (Ins tf2) := [iMv r2_1 s2_8,iGp (l2 (pBin .mul)) [(rk (.int .i64 (.ofNat 2))),r2_8] (some s2_9),iP2 bAdd r2_9 (rk (.int .i64 (.ofNat 1))) s2_10,iMv r2_1 s2_11,iGp (l2 (pBin .mul)) [(rk (.int .i64 (.ofNat 2))),r2_11] (some s2_12),iP2 bAdd r2_12 (rk (.int .i64 (.ofNat 2))) s2_13,iGp (pBld [(.int .i64 (.ofNat 0)),(.int .i64 (.ofNat 0))] [(0,1),(1,1)]) [r2_10,r2_13] (some s2_14),iMv (rk (.int .i64 (.ofNat 0))) s2_15]
def x251_2 : List (Ins tf2) := [iP2 bLt r2_15 (rk (.int .i64 (.ofNat 2))) s2_16]
def x251_3 : List (Ins tf2) := [iGp (l2 (pIx 2 none 1)) [r2_14,r2_15] (some s2_17),iAs r2_17 s2_6]
def x251_4 : List (Ins tf2) := [iMv r2_6 s2_18,iMv r2_0 s2_19,iP1 bNil r2_19 s2_20,iP1 (bFa 0) r2_20 s2_21,iR1 bLd r2_21 s2_22,iP1 bLen r2_22 s2_23,iP2 bLt r2_18 r2_23 s2_24,iMv r2_24 s2_25,iGd r2_25 [.o1,.o3] true (iMv r2_0 s2_26) (some s2_26) rfl rfl rfl,iGd r2_25 [.o1,.o3] true (iP1 bNil r2_26 s2_27) (some s2_27) rfl rfl rfl,iGd r2_25 [.o1,.o3] true (iP1 (bFa 3) r2_27 s2_28) (some s2_28) rfl rfl rfl,iGd r2_25 [.o1,.o3] true (iR1 bLd r2_28 s2_29) (some s2_29) rfl rfl rfl,iGd r2_25 [.o1,.o3] true (iMv r2_0 s2_30) (some s2_30) rfl rfl rfl,iGd r2_25 [.o1,.o3] true (iP1 bNil r2_30 s2_31) (some s2_31) rfl rfl rfl,iGd r2_25 [.o1,.o3] true (iP1 (bFa 2) r2_31 s2_32) (some s2_32) rfl rfl rfl,iGd r2_25 [.o1,.o3] true (iR1 bLd r2_32 s2_33) (some s2_33) rfl rfl rfl,iGd r2_25 [.o1,.o3] true (iMv r2_0 s2_34) (some s2_34) rfl rfl rfl,iGd r2_25 [.o1,.o3] true (iP1 bNil r2_34 s2_35) (some s2_35) rfl rfl rfl,iGd r2_25 [.o1,.o3] true (iP1 (bFa 0) r2_35 s2_36) (some s2_36) rfl rfl rfl,iGd r2_25 [.o1,.o3] true (iR1 bLd r2_36 s2_37) (some s2_37) rfl rfl rfl,iGd r2_25 [.o1,.o3] true (iMv r2_6 s2_38) (some s2_38) rfl rfl rfl,iGd r2_25 [.o1,.o3] true (iP2 (bIxs 1) r2_37 r2_38 s2_39) (some s2_39) rfl rfl rfl,iGd r2_25 [.o1,.o3] true (iR1 bLd r2_39 s2_40) (some s2_40) rfl rfl rfl,iGd r2_25 [.o1,.o3] true (iMv r2_0 s2_41) (some s2_41) rfl rfl rfl,iGd r2_25 [.o1,.o3] true (iP1 bNil r2_41 s2_42) (some s2_42) rfl rfl rfl,iGd r2_25 [.o1,.o3] true (iP1 (bFa 0) r2_42 s2_43) (some s2_43) rfl rfl rfl,iGd r2_25 [.o1,.o3] true (iR1 bLd r2_43 s2_44) (some s2_44) rfl rfl rfl,iGd r2_25 [.o1,.o3] true (iMv r2_4 s2_45) (some s2_45) rfl rfl rfl,iGd r2_25 [.o1,.o3] true (iP2 (bIxs 1) r2_44 r2_45 s2_46) (some s2_46) rfl rfl rfl,iGd r2_25 [.o1,.o3] true (iR1 bLd r2_46 s2_47) (some s2_47) rfl rfl rfl,iGd r2_25 [.o1,.o3] true (iCall r2_29 [r2_33,r2_40,r2_47] (some s2_48)) (some s2_48) rfl rfl rfl,iGp (l3 pPick) [r2_25,r2_48,(rk (.bool false))] (some s2_49)]
def x251_5 : List (Ins tf2) := [iMv r2_6 s2_50,iAs r2_50 s2_4]
def x251_6 : List (Ins tf2) := [iP2 bAdd r2_15 (rk (.int .i64 (.ofNat 1))) s2_51,iMv r2_51 s2_15]
def x251_7 : List (Ins tf2) := [iMv r2_4 s2_52,iMv r2_1 s2_53,iP2 bEq r2_52 r2_53 s2_54]
def x251_8 : List (Ins tf2) := [iMv r2_0 s2_55,iMv r2_1 s2_56,iMv r2_4 s2_57,iCall (rk (.func (.func 250) #[] #[])) [r2_55,r2_56,r2_57] (some s2_58)]
def x251_9 : List (Ins tf2) := [iMv r2_4 s2_59,iAs r2_59 s2_1]
def x251 : XC tf2 := (.block 0 (.loop (.block 1 (.rg x251_0 (.seq (.rg x251_1 (.block 2 (.loop (.rg x251_2 (.seq (.cond r2_16 .skip (.exit 2)) (.seq (.block 3 (.rg x251_3 (.rg x251_4 (.cond r2_49 (.reg x251_5) .skip)))) (.reg x251_6))))))) (.seq (.rg x251_7 (.cond r2_54 .ret .skip)) (.rg x251_8 (.reg x251_9))))))))
def c251 : Code := Tryd.f251.body.getD .skip
theorem x251_b : Tryd.f251.body = some c251 := by kernel_rfl
theorem x251_c : cG (comp Tryd.prog) 2 2 60 x251 c251 = x251.den := by kernel_rfl
def y251 : List (RR Tryd.prog 2 60 tf2) := []
theorem x251_r : y251.map RR.den = Tryd.f251.results.toList := by kernel_rfl
theorem x251_k : okFn Tryd.f251 = true := by kernel_rfl
theorem x251_D : 2 = dep Tryd.f251.ntmps := by kernel_rfl
theorem x251_s : ([s2_0,s2_1] : List (Slot tf2)).map Slot.p = (List.range' 0 2).map (pth 2) := by kernel_rfl
def X251 : XFn Tryd.prog 2 (comp Tryd.prog) := ⟨X2,tf2,251,Tryd.f251,c251,2,60,[s2_0,s2_1],z2,x251,y251,x251_D,Tryd.ntmps251.symm,Tryd.func251,x251_b,x251_k,x251_s,by decide,z2_ok,x251_c,x251_r⟩
def x258_0 : List (Ins tf2) := [iAs (rk (.int .i64 (.ofNat 0))) s2_4]
def x258_1 : List (Ins tf2) := [iMv r2_1 s2_5,iP2 bNe r2_5 (rk (.int .i64 (.ofNat 0))) s2_6]
def x258_2 : List (Ins tf2) := [iMv r2_0 s2_10,iAs r2_10 s2_4]
def x258 : XC tf2 := (.rg x258_0 (.seq (.rg x258_1 (.cond r2_6 .bad .skip)) (.rg x258_2 .ret)))
def c258 : Code := Tryd.f258.body.getD .skip
theorem x258_b : Tryd.f258.body = some c258 := by kernel_rfl
theorem x258_c : cG (comp Tryd.prog) 2 2 11 x258 c258 = x258.den := by kernel_rfl
def y258 : List (RR Tryd.prog 2 11 tf2) := [rrT r2_4 4 rfl rfl]
theorem x258_r : y258.map RR.den = Tryd.f258.results.toList := by kernel_rfl
theorem x258_k : okFn Tryd.f258 = true := by kernel_rfl
theorem x258_D : 2 = dep Tryd.f258.ntmps := by kernel_rfl
theorem x258_s : ([s2_0,s2_1] : List (Slot tf2)).map Slot.p = (List.range' 0 2).map (pth 2) := by kernel_rfl
def X258 : XFn Tryd.prog 2 (comp Tryd.prog) := ⟨X2,tf2,258,Tryd.f258,c258,2,11,[s2_0,s2_1],z2,x258,y258,x258_D,Tryd.ntmps258.symm,Tryd.func258,x258_b,x258_k,x258_s,by decide,z2_ok,x258_c,x258_r⟩
def x259_0 : List (Ins tf2) := [iAs (rk (.int .i64 (.ofNat 0))) s2_2,iAs (rk (.int .i64 (.ofNat 0))) s2_3]
def x259_1 : List (Ins tf2) := [iMv r2_0 s2_4,iGp (l2 (pEqD (tdOf 249) false)) [r2_4,(rk (.pointer none))] (some s2_5)]
def x259_2 : List (Ins tf2) := [iAs (rk (.int .i64 (.ofNat 0))) s2_2,iAs (rk (.int .i64 (.ofNat 1))) s2_3]
def x259_3 : List (Ins tf2) := [iMv r2_0 s2_6,iP1 bNil r2_6 s2_7,iP1 (bFa 0) r2_7 s2_8,iP1 (bFa 0) r2_8 s2_9,iR1 bLd r2_9 s2_10,iP2 bEq r2_10 (rk (.int .i64 (.ofNat 1048576))) s2_11]
def x259_4 : List (Ins tf2) := [iAs (rk (.int .i64 (.ofNat 0))) s2_2,iAs (rk (.int .i64 (.ofNat 5))) s2_3]
def x259_5 : List (Ins tf2) := [iMv r2_0 s2_12,iP1 bNil r2_12 s2_13,iP1 (bFa 0) r2_13 s2_14,iP1 (bFa 0) r2_14 s2_15,iR1 bLd r2_15 s2_16,iP2 bAdd r2_16 (rk (.int .i64 (.ofNat 1))) s2_17,iP1 bNil r2_12 s2_18,iP1 (bFa 0) r2_18 s2_19,iP1 (bFa 0) r2_19 s2_20,iM2 bSt r2_20 r2_17]
def x259_6 : List (Ins tf2) := [iMv r2_0 s2_21,iP1 bNil r2_21 s2_22,iP1 (bFa 0) r2_22 s2_23,iP1 (bFa 0) r2_23 s2_24,iR1 bLd r2_24 s2_25,iAs r2_25 s2_2,iAs (rk (.int .i64 (.ofNat 0))) s2_3]
def x259 : XC tf2 := (.rg x259_0 (.seq (.rg x259_1 (.cond r2_5 (.rg x259_2 .ret) .skip)) (.seq (.rg x259_3 (.cond r2_11 (.rg x259_4 .ret) .skip)) (.rg x259_5 (.rg x259_6 .ret)))))
def c259 : Code := Tryd.f259.body.getD .skip
theorem x259_b : Tryd.f259.body = some c259 := by kernel_rfl
theorem x259_c : cG (comp Tryd.prog) 2 2 26 x259 c259 = x259.den := by kernel_rfl
def y259 : List (RR Tryd.prog 2 26 tf2) := [rrT r2_2 2 rfl rfl,rrT r2_3 3 rfl rfl]
theorem x259_r : y259.map RR.den = Tryd.f259.results.toList := by kernel_rfl
theorem x259_k : okFn Tryd.f259 = true := by kernel_rfl
theorem x259_D : 2 = dep Tryd.f259.ntmps := by kernel_rfl
theorem x259_s : ([s2_0] : List (Slot tf2)).map Slot.p = (List.range' 0 1).map (pth 2) := by kernel_rfl
def X259 : XFn Tryd.prog 2 (comp Tryd.prog) := ⟨X2,tf2,259,Tryd.f259,c259,2,26,[s2_0],z2,x259,y259,x259_D,Tryd.ntmps259.symm,Tryd.func259,x259_b,x259_k,x259_s,by decide,z2_ok,x259_c,x259_r⟩
def x263_0 : List (Ins tf2) := [iAs (rk (.slice none 0 0)) s2_4]
def x263_1 : List (Ins tf2) := [iMv r2_0 s2_7,iP1 bNil r2_7 s2_8,iP1 (bFa 0) r2_8 s2_9,iR1 bLd r2_9 s2_10,iCall (rk (.func (.func 41) #[] #[])) [r2_10] (some s2_11),iGa (a2 (gMks 1 8 [(.int .i64 (.ofNat 0))])) [r2_11,r2_11] (some s2_12),iAs r2_12 s2_5]
def x263_2 : List (Ins tf2) := [iMv r2_5 s2_13,iP1 bLen r2_13 s2_14,iMv (rk (.int .i64 (.ofNat 0))) s2_15]
def x263_3 : List (Ins tf2) := [iP2 bLt r2_15 r2_14 s2_16]
def x263_4 : List (Ins tf2) := [iMv r2_15 s2_17,iAs r2_17 s2_6]
def x263_5 : List (Ins tf2) := [iMv r2_5 s2_18,iMv r2_6 s2_19,iMv r2_0 s2_20,iP1 bNil r2_20 s2_21,iP1 (bFa 1) r2_21 s2_22,iR1 bLd r2_22 s2_23,iCall (rk (.func (.func 216) #[] #[])) [r2_23] (some s2_24),iGp (l1 (pUn .neg)) [r2_24] (some s2_25),iP2 (bIxs 1) r2_18 r2_19 s2_26,iM2 bSt r2_26 r2_25]
def x263_6 : List (Ins tf2) := [iP2 bAdd r2_15 (rk (.int .i64 (.ofNat 1))) s2_27,iMv r2_27 s2_15]
def x263_7 : List (Ins tf2) := [iMv r2_5 s2_28,iMv r2_1 s2_29,iP2 (bIxs 1) r2_28 (rk (.int .i64 (.ofNat 0))) s2_30,iM2 bSt r2_30 r2_29]
def x263_8 : List (Ins tf2) := [iMv r2_5 s2_31,iAs r2_31 s2_4]
def x263 : XC tf2 := (.rg x263_0 (.rg x263_1 (.seq (.rg x263_2 (.block 0 (.loop (.rg x263_3 (.seq (.cond r2_16 .skip (.exit 0)) (.seq (.block 1 (.rg x263_4 (.reg x263_5))) (.reg x263_6))))))) (.rg x263_7 (.rg x263_8 .ret)))))
def c263 : Code := Tryd.f263.body.getD .skip
theorem x263_b : Tryd.f263.body = some c263 := by kernel_rfl
theorem x263_c : cG (comp Tryd.prog) 2 2 32 x263 c263 = x263.den := by kernel_rfl
def y263 : List (RR Tryd.prog 2 32 tf2) := [rrT r2_4 4 rfl rfl]
theorem x263_r : y263.map RR.den = Tryd.f263.results.toList := by kernel_rfl
theorem x263_k : okFn Tryd.f263 = true := by kernel_rfl
theorem x263_D : 2 = dep Tryd.f263.ntmps := by kernel_rfl
theorem x263_s : ([s2_0,s2_1] : List (Slot tf2)).map Slot.p = (List.range' 0 2).map (pth 2) := by kernel_rfl
def X263 : XFn Tryd.prog 2 (comp Tryd.prog) := ⟨X2,tf2,263,Tryd.f263,c263,2,32,[s2_0,s2_1],z2,x263,y263,x263_D,Tryd.ntmps263.symm,Tryd.func263,x263_b,x263_k,x263_s,by decide,z2_ok,x263_c,x263_r⟩
def x269_0 : List (Ins tf2) := [iAs (rk (.int .i64 (.ofNat 0))) s2_6,iAs (rk (.int .i64 (.ofNat 0))) s2_7]
def x269_1 : List (Ins tf2) := [iMv r2_0 s2_8,iGp (l2 (pEqD (tdOf 249) false)) [r2_8,(rk (.pointer none))] (some s2_9)]
def x269_2 : List (Ins tf2) := [iAs (rk (.int .i64 (.ofNat 0))) s2_6,iAs (rk (.int .i64 (.ofNat 1))) s2_7]
def x269_3 : List (Ins tf2) := [iMv r2_0 s2_10,iMv r2_1 s2_11,iMv r2_2 s2_12,iGa (aBsl 2 1 [(.int .i64 (.ofNat 0))] [(0,1),(1,1)]) [r2_11,r2_12] (some s2_13),iCall (rk (.func (.func 219) #[] #[])) [r2_10,r2_13] (some s2_14),iGp (l1 (pUn .not)) [r2_14] (some s2_15)]
def x269_4 : List (Ins tf2) := [iAs (rk (.int .i64 (.ofNat 0))) s2_6,iAs (rk (.int .i64 (.ofNat 3))) s2_7]
def x269_5 : List (Ins tf2) := [iMv r2_1 s2_17,iMv r2_2 s2_18,iP2 bEq r2_17 r2_18 s2_19,iAs r2_19 s2_16]
def x269_6 : List (Ins tf2) := [iAs (rk (.int .i64 (.negSucc 0))) s2_6,iAs (rk (.int .i64 (.ofNat 0))) s2_7]
def x269_7 : List (Ins tf2) := [iMv r2_1 s2_21,iMv r2_2 s2_22,iGp (l1 (pUn .neg)) [r2_22] (some s2_23),iP2 bEq r2_21 r2_23 s2_24,iAs r2_24 s2_20]
def x269_8 : List (Ins tf2) := [iAs (rk (.int .i64 (.ofNat 1))) s2_6,iAs (rk (.int .i64 (.ofNat 0))) s2_7]
def x269_9 : List (Ins tf2) := [iMv r2_1 s2_26,iP2 bEq r2_26 (rk (.int .i64 (.ofNat 1))) s2_27,iMv r2_27 s2_28,iGd r2_28 [.o4,.o3] false (iMv r2_1 s2_29) (some s2_29) rfl rfl rfl,iGd r2_28 [.o4,.o3] false (iP2 bEq r2_29 (rk (.int .i64 (.negSucc 0))) s2_30) (some s2_30) rfl rfl rfl,iGp (l3 pPick) [r2_28,(rk (.bool true)),r2_30] (some s2_31),iAs r2_31 s2_25]
def x269_10 : List (Ins tf2) := [iMv r2_1 s2_32,iGp (l1 (pUn .neg)) [r2_32] (some s2_33),iMv r2_2 s2_34,iGp (l2 (pBin .mul)) [r2_33,r2_34] (some s2_35),iAs r2_35 s2_6,iAs (rk (.int .i64 (.ofNat 0))) s2_7]
def x269_11 : List (Ins tf2) := [iMv r2_2 s2_37,iP2 bEq r2_37 (rk (.int .i64 (.ofNat 1))) s2_38,iMv r2_38 s2_39,iGd r2_39 [.o7,.o4] false (iMv r2_2 s2_40) (some s2_40) rfl rfl rfl,iGd r2_39 [.o7,.o4] false (iP2 bEq r2_40 (rk (.int .i64 (.negSucc 0))) s2_41) (some s2_41) rfl rfl rfl,iGp (l3 pPick) [r2_39,(rk (.bool true)),r2_41] (some s2_42),iAs r2_42 s2_36]
def x269_12 : List (Ins tf2) := [iMv r2_2 s2_43,iGp (l1 (pUn .neg)) [r2_43] (some s2_44),iMv r2_1 s2_45,iGp (l2 (pBin .mul)) [r2_44,r2_45] (some s2_46),iAs r2_46 s2_6,iAs (rk (.int .i64 (.ofNat 0))) s2_7]
def x269_13 : List (Ins tf2) := [iMv r2_0 s2_47,iMv r2_1 s2_48,iMv r2_2 s2_49,iGa (aBsl 2 1 [(.int .i64 (.ofNat 0))] [(0,1),(1,1)]) [r2_48,r2_49] (some s2_50),iCall (rk (.func (.func 273) #[] #[])) [r2_47,(rk (.int .i64 (.ofNat 1))),r2_50] (some s2_51),iGp (l1 (pExt 0)) [r2_51] (some s2_52),iGp (l1 (pExt 1)) [r2_51] (some s2_53),iAs r2_52 s2_6,iAs r2_53 s2_7]
def x269 : XC tf2 := (.rg x269_0 (.seq (.rg x269_1 (.cond r2_9 (.rg x269_2 .ret) .skip)) (.seq (.rg x269_3 (.cond r2_15 (.rg x269_4 .ret) .skip)) (.seq (.block 0 (.rg x269_5 (.cond r2_16 (.rg x269_6 .ret) (.rg x269_7 (.cond r2_20 (.rg x269_8 .ret) (.rg x269_9 (.cond r2_25 (.rg x269_10 .ret) (.rg x269_11 (.cond r2_36 (.rg x269_12 .ret) .skip))))))))) (.rg x269_13 .ret)))))
def c269 : Code := Tryd.f269.body.getD .skip
theorem x269_b : Tryd.f269.body = some c269 := by kernel_rfl
theorem x269_c : cG (comp Tryd.prog) 2 2 54 x269 c269 = x269.den := by kernel_rfl
def y269 : List (RR Tryd.prog 2 54 tf2) := [rrT r2_6 6 rfl rfl,rrT r2_7 7 rfl rfl]
theorem x269_r : y269.map RR.den = Tryd.f269.results.toList := by kernel_rfl
theorem x269_k : okFn Tryd.f269 = true := by kernel_rfl
theorem x269_D : 2 = dep Tryd.f269.ntmps := by kernel_rfl
theorem x269_s : ([s2_0,s2_1,s2_2] : List (Slot tf2)).map Slot.p = (List.range' 0 3).map (pth 2) := by kernel_rfl
def X269 : XFn Tryd.prog 2 (comp Tryd.prog) := ⟨X2,tf2,269,Tryd.f269,c269,2,54,[s2_0,s2_1,s2_2],z2,x269,y269,x269_D,Tryd.ntmps269.symm,Tryd.func269,x269_b,x269_k,x269_s,by decide,z2_ok,x269_c,x269_r⟩
def x276_0 : List (Ins tf1) := [iGa (a1 gBox) [r1_0] (some s1_2),iGa (a1 gBox) [r1_1] (some s1_3),iAs (rk .nilFunc) s1_4]
def x276_1 : List (Ins tf1) := [iGp (pMkf (.func 287) 0) [r1_2,r1_3] (some s1_5),iAs r1_5 s1_4]
def x276 : XC tf1 := (.rg x276_0 (.rg x276_1 .ret))
def c276 : Code := Tryd.f276.body.getD .skip
theorem x276_b : Tryd.f276.body = some c276 := by kernel_rfl
theorem x276_c : cG (comp Tryd.prog) 2 1 6 x276 c276 = x276.den := by kernel_rfl
def y276 : List (RR Tryd.prog 1 6 tf1) := [rrT r1_4 4 rfl rfl]
theorem x276_r : y276.map RR.den = Tryd.f276.results.toList := by kernel_rfl
theorem x276_k : okFn Tryd.f276 = true := by kernel_rfl
theorem x276_D : 1 = dep Tryd.f276.ntmps := by kernel_rfl
theorem x276_s : ([s1_0,s1_1] : List (Slot tf1)).map Slot.p = (List.range' 0 2).map (pth 1) := by kernel_rfl
def X276 : XFn Tryd.prog 2 (comp Tryd.prog) := ⟨X1,tf1,276,Tryd.f276,c276,1,6,[s1_0,s1_1],z1,x276,y276,x276_D,Tryd.ntmps276.symm,Tryd.func276,x276_b,x276_k,x276_s,by decide,z1_ok,x276_c,x276_r⟩
def x280_0 : List (Ins tf2) := [iAs (rk (.int .i64 (.ofNat 0))) s2_6]
def x280_1 : List (Ins tf2) := [iMv r2_0 s2_8,iP1 bNil r2_8 s2_9,iP1 (bFa 1) r2_9 s2_10,iR1 bLd r2_10 s2_11,iP2 bNe r2_11 (rk (.int .i64 (.ofNat 0))) s2_12]
def x280_2 : List (Ins tf2) := [iAs (rk (.int .i64 (.ofNat 0))) s2_6]
def x280_3 : List (Ins tf2) := [iAs (rk (.int .i64 (.ofNat 0))) s2_7]
def x280_4 : List (Ins tf2) := [iMv r2_0 s2_14,iMv r2_0 s2_15,iP1 bNil r2_15 s2_16,iP1 (bFa 0) r2_16 s2_17,iR1 bLd r2_17 s2_18,iMv r2_1 s2_19,iMv r2_2 s2_20,iCall (rk (.func (.func 269) #[] #[])) [r2_18,r2_19,r2_20] (some s2_21),iMv r2_21 s2_13,iGp (l1 (pExt 0)) [r2_13] (some s2_22),iGp (l1 (pExt 1)) [r2_13] (some s2_23),iAs r2_22 s2_7,iP1 bNil r2_14 s2_24,iP1 (bFa 1) r2_24 s2_25,iM2 bSt r2_25 r2_23]
def x280_5 : List (Ins tf2) := [iMv r2_7 s2_26,iAs r2_26 s2_6]
def x280 : XC tf2 := (.rg x280_0 (.seq (.rg x280_1 (.cond r2_12 (.rg x280_2 .ret) .skip)) (.rg x280_3 (.rg x280_4 (.rg x280_5 .ret)))))
def c280 : Code := Tryd.f280.body.getD .skip
theorem x280_b : Tryd.f280.body = some c280 := by kernel_rfl
theorem x280_c : cG (comp Tryd.prog) 2 2 27 x280 c280 = x280.den := by kernel_rfl
def y280 : List (RR Tryd.prog 2 27 tf2) := [rrT r2_6 6 rfl rfl]
theorem x280_r : y280.map RR.den = Tryd.f280.results.toList := by kernel_rfl
theorem x280_k : okFn Tryd.f280 = true := by kernel_rfl
theorem x280_D : 2 = dep Tryd.f280.ntmps := by kernel_rfl
theorem x280_s : ([s2_0,s2_1,s2_2] : List (Slot tf2)).map Slot.p = (List.range' 0 3).map (pth 2) := by kernel_rfl
def X280 : XFn Tryd.prog 2 (comp Tryd.prog) := ⟨X2,tf2,280,Tryd.f280,c280,2,27,[s2_0,s2_1,s2_2],z2,x280,y280,x280_D,Tryd.ntmps280.symm,Tryd.func280,x280_b,x280_k,x280_s,by decide,z2_ok,x280_c,x280_r⟩
def x287_0 : List (Ins tf2) := [iR1 bLd r2_1 s2_5,iP1 bLen r2_5 s2_6,iMv (rk (.int .i64 (.ofNat 0))) s2_7]
def x287_1 : List (Ins tf2) := [iP2 bLt r2_7 r2_6 s2_8]
def x287_2 : List (Ins tf2) := [iMv r2_7 s2_9,iAs r2_9 s2_4]
def x287_3 : List (Ins tf2) := [iMv r2_0 s2_10,iR1 bLd r2_1 s2_11,iMv r2_4 s2_12,iP2 (bIxs 1) r2_11 r2_12 s2_13,iR1 bLd r2_13 s2_14,iR1 bLd r2_2 s2_15,iMv r2_4 s2_16,iP2 (bIxs 1) r2_15 r2_16 s2_17,iR1 bLd r2_17 s2_18,iCall r2_10 [r2_14,r2_18] (some s2_19),iGp (l1 (pUn .not)) [r2_19] (some s2_20)]
def x287_4 : List (Ins tf2) := [iP2 bAdd r2_7 (rk (.int .i64 (.ofNat 1))) s2_21,iMv r2_21 s2_7]
def x287 : XC tf2 := (.rg x287_0 (.block 0 (.loop (.rg x287_1 (.seq (.cond r2_8 .skip (.exit 0)) (.seq (.block 1 (.rg x287_2 (.rg x287_3 (.cond r2_20 .ret .skip)))) (.reg x287_4)))))))
def c287 : Code := Tryd.f287.body.getD .skip
theorem x287_b : Tryd.f287.body = some c287 := by kernel_rfl
theorem x287_c : cG (comp Tryd.prog) 2 2 22 x287 c287 = x287.den := by kernel_rfl
def y287 : List (RR Tryd.prog 2 22 tf2) := []
theorem x287_r : y287.map RR.den = Tryd.f287.results.toList := by kernel_rfl
theorem x287_k : okFn Tryd.f287 = true := by kernel_rfl
theorem x287_D : 2 = dep Tryd.f287.ntmps := by kernel_rfl
theorem x287_s : ([s2_0,s2_1,s2_2] : List (Slot tf2)).map Slot.p = (List.range' 0 3).map (pth 2) := by kernel_rfl
def X287 : XFn Tryd.prog 2 (comp Tryd.prog) := ⟨X2,tf2,287,Tryd.f287,c287,2,22,[s2_0,s2_1,s2_2],z2,x287,y287,x287_D,Tryd.ntmps287.symm,Tryd.func287,x287_b,x287_k,x287_s,by decide,z2_ok,x287_c,x287_r⟩
end
end Cr
end Go.Proofs.YtjhbabgcoemecaaDoor
namespace Go.Proofs.YtjhbabgcoemecaaDoor
namespace Cr
open Go Go.RowKit
noncomputable def tabX : Tb (XFn Tryd.prog 2 (comp Tryd.prog)) := (.n none (.n none (.n none (.n none (.n none (.n none .nil (.n none (.n (some X159) (.n (some X287) .nil .nil) .nil) (.n (some X223) .nil .nil))) (.n none (.n none .nil (.n (some X207) .nil .nil)) (.n none (.n (some X175) .nil .nil) .nil))) (.n none (.n none (.n none (.n none (.n (some X263) .nil .nil) .nil) (.n (some X199) .nil .nil)) .nil) (.n none (.n (some X87) .nil .nil) (.n none (.n (some X183) .nil .nil) (.n (some X247) .nil .nil))))) (.n (some X11) (.n none (.n none (.n (some X67) (.n none (.n (some X259) .nil .nil) .nil) (.n (some X195) .nil .nil)) .nil) (.n none .nil (.n none .nil (.n (some X243) .nil .nil)))) (.n none (.n (some X43) (.n (some X75) .nil .nil) .nil) (.n none (.n none .nil (.n (some X219) .nil .nil)) (.n none .nil (.n (some X251) .nil .nil)))))) (.n none (.n none (.n none (.n none .nil (.n none .nil (.n (some X225) .nil .nil))) (.n none (.n none .nil (.n (some X209) .nil .nil)) .nil)) (.n none (.n (some X41) (.n none .nil (.n (some X201) .nil .nil)) (.n none (.n (some X169) .nil .nil) .nil)) (.n none (.n (some X89) (.n (some X153) .nil .nil) (.n (some X217) .nil .nil)) .nil))) (.n none (.n none (.n none (.n (some X69) .nil (.n (some X197) .nil .nil)) (.n (some X101) .nil (.n (some X229) .nil .nil))) (.n none .nil (.n none .nil (.n (some X245) .nil .nil)))) (.n none (.n none (.n none (.n (some X141) (.n (some X269) .nil .nil) .nil) .nil) (.n (some X109) (.n (some X173) .nil .nil) .nil)) (.n none (.n none (.n (some X157) .nil .nil) (.n (some X221) .nil .nil)) .nil))))) (.n none (.n none (.n none (.n none (.n none (.n (some X64) .nil (.n (some X192) .nil .nil)) (.n none (.n (some X160) .nil .nil) (.n (some X224) .nil .nil))) (.n none (.n (some X80) .nil .nil) (.n none .nil (.n (some X240) .nil .nil)))) (.n none (.n none (.n (some X72) .nil .nil) (.n none (.n (some X168) .nil .nil) .nil)) (.n none (.n none (.n none (.n (some X280) .nil .nil) .nil) (.n (some X216) .nil .nil)) .nil))) (.n none (.n none (.n none (.n (some X68) .nil .nil) (.n none .nil (.n (some X228) .nil .nil))) (.n (some X52) (.n none (.n none (.n (some X276) .nil .nil) .nil) (.n (some X212) .nil .nil)) (.n none .nil (.n (some X244) .nil .nil)))) (.n none (.n none .nil (.n none (.n (some X172) .nil .nil) .nil)) (.n none (.n none .nil (.n (some X220) .nil .nil)) .nil)))) (.n none (.n none (.n (some X18) (.n none (.n none (.n none (.n (some X258) .nil .nil) .nil) .nil) .nil) (.n (some X50) (.n (some X82) (.n (some X146) .nil .nil) (.n (some X210) .nil .nil)) .nil)) (.n none (.n none (.n (some X74) .nil .nil) .nil) (.n none (.n none .nil (.n (some X218) .nil .nil)) (.n none .nil (.n (some X250) .nil .nil))))) (.n none (.n none (.n none (.n none (.n (some X134) .nil .nil) (.n (some X198) .nil .nil)) (.n none .nil (.n (some X230) .nil .nil))) (.n (some X54) .nil .nil)) (.n (some X30) (.n none (.n none .nil (.n (some X206) .nil .nil)) (.n none (.n (some X174) .nil .nil) .nil)) (.n none (.n none (.n (some X158) .nil .nil) (.n (some X222) .nil .nil)) .nil))))))
end Cr
end Go.Proofs.YtjhbabgcoemecaaDoor
