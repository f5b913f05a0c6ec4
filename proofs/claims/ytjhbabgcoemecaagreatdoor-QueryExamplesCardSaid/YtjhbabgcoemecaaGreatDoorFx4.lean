/- A machine for closed runs: compiled functions (written by gen). -/
import Derived.Test.YtjhbabgcoemecaaGreatDoorFxA
import Derived.KernelRfl
namespace Go.Proofs.YtjhbabgcoemecaaGreatDoor
namespace Cr
open Go Go.RowKit
set_option maxRecDepth 100000
noncomputable section
def x131_0 : List (Ins tf2) := [iAs (rk (.int .i64 (.ofNat 0))) s2_2]
def x131_1 : List (Ins tf2) := [iMv r2_0 s2_3,iP2 bGe r2_3 (rk (.int .u64 (.ofNat 4294967296))) s2_4]
def x131_2 : List (Ins tf2) := [iMv r2_0 s2_5,iGp (l2 (pBin .shr)) [r2_5,(rk (.int .u64 (.ofNat 32)))] (some s2_6),iAs r2_6 s2_0]
def x131_3 : List (Ins tf2) := [iAs (rk (.int .i64 (.ofNat 32))) s2_2]
def x131_4 : List (Ins tf2) := [iMv r2_0 s2_7,iP2 bGe r2_7 (rk (.int .u64 (.ofNat 65536))) s2_8]
def x131_5 : List (Ins tf2) := [iMv r2_0 s2_9,iGp (l2 (pBin .shr)) [r2_9,(rk (.int .u64 (.ofNat 16)))] (some s2_10),iAs r2_10 s2_0]
def x131_6 : List (Ins tf2) := [iMv r2_2 s2_11,iP2 bAdd r2_11 (rk (.int .i64 (.ofNat 16))) s2_12,iAs r2_12 s2_2]
def x131_7 : List (Ins tf2) := [iMv r2_0 s2_13,iP2 bGe r2_13 (rk (.int .u64 (.ofNat 256))) s2_14]
def x131_8 : List (Ins tf2) := [iMv r2_0 s2_15,iGp (l2 (pBin .shr)) [r2_15,(rk (.int .u64 (.ofNat 8)))] (some s2_16),iAs r2_16 s2_0]
def x131_9 : List (Ins tf2) := [iMv r2_2 s2_17,iP2 bAdd r2_17 (rk (.int .i64 (.ofNat 8))) s2_18,iAs r2_18 s2_2]
def x131_10 : List (Ins tf2) := [iMv r2_2 s2_19,iMv r2_0 s2_20,iP1 (bCv .u8) r2_20 s2_21,iGp (l2 pIxStr) [(rk (.string ⟨⟨[0,1,2,2,3,3,3,3,4,4,4,4,4,4,4,4,5,5,5,5,5,5,5,5,5,5,5,5,5,5,5,5,6,6,6,6,6,6,6,6,6,6,6,6,6,6,6,6,6,6,6,6,6,6,6,6,6,6,6,6,6,6,6,6,7,7,7,7,7,7,7,7,7,7,7,7,7,7,7,7,7,7,7,7,7,7,7,7,7,7,7,7,7,7,7,7,7,7,7,7,7,7,7,7,7,7,7,7,7,7,7,7,7,7,7,7,7,7,7,7,7,7,7,7,7,7,7,7,8,8,8,8,8,8,8,8,8,8,8,8,8,8,8,8,8,8,8,8,8,8,8,8,8,8,8,8,8,8,8,8,8,8,8,8,8,8,8,8,8,8,8,8,8,8,8,8,8,8,8,8,8,8,8,8,8,8,8,8,8,8,8,8,8,8,8,8,8,8,8,8,8,8,8,8,8,8,8,8,8,8,8,8,8,8,8,8,8,8,8,8,8,8,8,8,8,8,8,8,8,8,8,8,8,8,8,8,8,8,8,8,8,8,8,8,8,8,8,8,8,8,8,8,8,8,8,8]⟩⟩)),r2_21] (some s2_22),iP1 (bCv .i64) r2_22 s2_23,iP2 bAdd r2_19 r2_23 s2_24,iAs r2_24 s2_2]
def x131 : XC tf2 := (.rg x131_0 (.seq (.rg x131_1 (.cond r2_4 (.rg x131_2 (.reg x131_3)) .skip)) (.seq (.rg x131_4 (.cond r2_8 (.rg x131_5 (.reg x131_6)) .skip)) (.seq (.rg x131_7 (.cond r2_14 (.rg x131_8 (.reg x131_9)) .skip)) (.rg x131_10 .ret)))))
def c131 : Code := Tryz.f131.body.getD .skip
theorem x131_b : Tryz.f131.body = some c131 := by kernel_rfl
theorem x131_c : cG (comp Tryz.prog) 4 2 25 x131 c131 = x131.den := by kernel_rfl
def y131 : List (RR Tryz.prog 2 25 tf2) := [rrT r2_2 2 rfl rfl]
theorem x131_r : y131.map RR.den = Tryz.f131.results.toList := by kernel_rfl
theorem x131_k : okFn Tryz.f131 = true := by kernel_rfl
theorem x131_D : 2 = dep Tryz.f131.ntmps := by kernel_rfl
theorem x131_s : ([s2_0] : List (Slot tf2)).map Slot.p = (List.range' 0 1).map (pth 2) := by kernel_rfl
def X131 : XFn Tryz.prog 4 (comp Tryz.prog) := ⟨X2,tf2,131,Tryz.f131,c131,2,25,[s2_0],z2,x131,y131,x131_D,Tryz.ntmps131.symm,Tryz.func131,x131_b,x131_k,x131_s,by decide,z2_ok,x131_c,x131_r⟩
def x133_0 : List (Ins tf1) := [iGa (a1 gBox) [r1_0] (some s1_1),iAs (rk .nilFunc) s1_2]
def x133_1 : List (Ins tf1) := [iGp (pMkf (.func 171) 0) [r1_1] (some s1_3),iAs r1_3 s1_2]
def x133 : XC tf1 := (.rg x133_0 (.rg x133_1 .ret))
def c133 : Code := Tryz.f133.body.getD .skip
theorem x133_b : Tryz.f133.body = some c133 := by kernel_rfl
theorem x133_c : cG (comp Tryz.prog) 4 1 4 x133 c133 = x133.den := by kernel_rfl
def y133 : List (RR Tryz.prog 1 4 tf1) := [rrT r1_2 2 rfl rfl]
theorem x133_r : y133.map RR.den = Tryz.f133.results.toList := by kernel_rfl
theorem x133_k : okFn Tryz.f133 = true := by kernel_rfl
theorem x133_D : 1 = dep Tryz.f133.ntmps := by kernel_rfl
theorem x133_s : ([s1_0] : List (Slot tf1)).map Slot.p = (List.range' 0 1).map (pth 1) := by kernel_rfl
def X133 : XFn Tryz.prog 4 (comp Tryz.prog) := ⟨X1,tf1,133,Tryz.f133,c133,1,4,[s1_0],z1,x133,y133,x133_D,Tryz.ntmps133.symm,Tryz.func133,x133_b,x133_k,x133_s,by decide,z1_ok,x133_c,x133_r⟩
def x134_0 : List (Ins tf1) := [iGa (a1 gBox) [r1_0] (some s1_1),iAs (rk .nilFunc) s1_2]
def x134_1 : List (Ins tf1) := [iGp (pMkf (.func 173) 0) [r1_1] (some s1_3),iAs r1_3 s1_2]
def x134 : XC tf1 := (.rg x134_0 (.rg x134_1 .ret))
def c134 : Code := Tryz.f134.body.getD .skip
theorem x134_b : Tryz.f134.body = some c134 := by kernel_rfl
theorem x134_c : cG (comp Tryz.prog) 4 1 4 x134 c134 = x134.den := by kernel_rfl
def y134 : List (RR Tryz.prog 1 4 tf1) := [rrT r1_2 2 rfl rfl]
theorem x134_r : y134.map RR.den = Tryz.f134.results.toList := by kernel_rfl
theorem x134_k : okFn Tryz.f134 = true := by kernel_rfl
theorem x134_D : 1 = dep Tryz.f134.ntmps := by kernel_rfl
theorem x134_s : ([s1_0] : List (Slot tf1)).map Slot.p = (List.range' 0 1).map (pth 1) := by kernel_rfl
def X134 : XFn Tryz.prog 4 (comp Tryz.prog) := ⟨X1,tf1,134,Tryz.f134,c134,1,4,[s1_0],z1,x134,y134,x134_D,Tryz.ntmps134.symm,Tryz.func134,x134_b,x134_k,x134_s,by decide,z1_ok,x134_c,x134_r⟩
def x135_0 : List (Ins tf1) := [iGa (a1 gBox) [r1_0] (some s1_3),iGa (a1 gBox) [r1_1] (some s1_4),iGa (a1 gBox) [r1_2] (some s1_5),iAs (rk .nilFunc) s1_6]
def x135_1 : List (Ins tf1) := [iGp (pMkf (.func 174) 0) [r1_3,r1_4,r1_5] (some s1_7),iAs r1_7 s1_6]
def x135 : XC tf1 := (.rg x135_0 (.rg x135_1 .ret))
def c135 : Code := Tryz.f135.body.getD .skip
theorem x135_b : Tryz.f135.body = some c135 := by kernel_rfl
theorem x135_c : cG (comp Tryz.prog) 4 1 8 x135 c135 = x135.den := by kernel_rfl
def y135 : List (RR Tryz.prog 1 8 tf1) := [rrT r1_6 6 rfl rfl]
theorem x135_r : y135.map RR.den = Tryz.f135.results.toList := by kernel_rfl
theorem x135_k : okFn Tryz.f135 = true := by kernel_rfl
theorem x135_D : 1 = dep Tryz.f135.ntmps := by kernel_rfl
theorem x135_s : ([s1_0,s1_1,s1_2] : List (Slot tf1)).map Slot.p = (List.range' 0 3).map (pth 1) := by kernel_rfl
def X135 : XFn Tryz.prog 4 (comp Tryz.prog) := ⟨X1,tf1,135,Tryz.f135,c135,1,8,[s1_0,s1_1,s1_2],z1,x135,y135,x135_D,Tryz.ntmps135.symm,Tryz.func135,x135_b,x135_k,x135_s,by decide,z1_ok,x135_c,x135_r⟩
def x136_0 : List (Ins tf1) := [iGa (a1 gBox) [r1_0] (some s1_1),iAs (rk .nilFunc) s1_2]
def x136_1 : List (Ins tf1) := [iGp (pMkf (.func 175) 0) [r1_1] (some s1_3),iAs r1_3 s1_2]
def x136 : XC tf1 := (.rg x136_0 (.rg x136_1 .ret))
def c136 : Code := Tryz.f136.body.getD .skip
theorem x136_b : Tryz.f136.body = some c136 := by kernel_rfl
theorem x136_c : cG (comp Tryz.prog) 4 1 4 x136 c136 = x136.den := by kernel_rfl
def y136 : List (RR Tryz.prog 1 4 tf1) := [rrT r1_2 2 rfl rfl]
theorem x136_r : y136.map RR.den = Tryz.f136.results.toList := by kernel_rfl
theorem x136_k : okFn Tryz.f136 = true := by kernel_rfl
theorem x136_D : 1 = dep Tryz.f136.ntmps := by kernel_rfl
theorem x136_s : ([s1_0] : List (Slot tf1)).map Slot.p = (List.range' 0 1).map (pth 1) := by kernel_rfl
def X136 : XFn Tryz.prog 4 (comp Tryz.prog) := ⟨X1,tf1,136,Tryz.f136,c136,1,4,[s1_0],z1,x136,y136,x136_D,Tryz.ntmps136.symm,Tryz.func136,x136_b,x136_k,x136_s,by decide,z1_ok,x136_c,x136_r⟩
def x137_0 : List (Ins tf2) := [iGa (aAl 3 [(.int .u8 (.ofNat 0)),(.int .i64 (.ofNat 0)),(.int .u64 (.ofNat 0))]) [] (some s2_2)]
def x137_1 : List (Ins tf2) := [iMv r2_0 s2_3,iP1 bNil r2_3 s2_4,iP1 (bFa 2) r2_4 s2_5,iR1 bLd r2_5 s2_6,iP2 (bIxs 1) r2_6 (rk (.int .i64 (.ofNat 0))) s2_7,iR1 bLd r2_7 s2_8,iMv r2_0 s2_9,iP1 bNil r2_9 s2_10,iP1 (bFa 2) r2_10 s2_11,iR1 bLd r2_11 s2_12,iP2 (bIxs 1) r2_12 (rk (.int .i64 (.ofNat 1))) s2_13,iR1 bLd r2_13 s2_14,iP2 bEq r2_8 r2_14 s2_15]
def x137_2 : List (Ins tf2) := [iMv r2_0 s2_16,iP1 bNil r2_16 s2_17,iP1 (bFa 2) r2_17 s2_18,iR1 bLd r2_18 s2_19,iP2 (bIxs 1) r2_19 (rk (.int .i64 (.ofNat 0))) s2_20,iR1 bLd r2_20 s2_21,iGp (pBld [(.int .u8 (.ofNat 0)),(.int .i64 (.ofNat 0)),(.int .u64 (.ofNat 0))] [(0,1),(1,1)]) [(rk (.int .u8 (.ofNat 1))),r2_21] (some s2_22),iGm (m2 (sStn 3)) [r2_2,r2_22] none]
def x137_3 : List (Ins tf2) := [iGp (pBld [(.int .u8 (.ofNat 0)),(.int .i64 (.ofNat 0)),(.int .u64 (.ofNat 0))] []) [] (some s2_23),iGm (m2 (sStn 3)) [r2_2,r2_23] none]
def x137 : XC tf2 := (.rg x137_0 (.seq (.rg x137_1 (.cond r2_15 (.rg x137_2 .ret) .skip)) (.rg x137_3 .ret)))
def c137 : Code := Tryz.f137.body.getD .skip
theorem x137_b : Tryz.f137.body = some c137 := by kernel_rfl
theorem x137_c : cG (comp Tryz.prog) 4 2 24 x137 c137 = x137.den := by kernel_rfl
def y137 : List (RR Tryz.prog 2 24 tf2) := [rrS (.cell 2 225)]
theorem x137_r : y137.map RR.den = Tryz.f137.results.toList := by kernel_rfl
theorem x137_k : okFn Tryz.f137 = true := by kernel_rfl
theorem x137_D : 2 = dep Tryz.f137.ntmps := by kernel_rfl
theorem x137_s : ([s2_0] : List (Slot tf2)).map Slot.p = (List.range' 0 1).map (pth 2) := by kernel_rfl
def X137 : XFn Tryz.prog 4 (comp Tryz.prog) := ⟨X2,tf2,137,Tryz.f137,c137,2,24,[s2_0],z2,x137,y137,x137_D,Tryz.ntmps137.symm,Tryz.func137,x137_b,x137_k,x137_s,by decide,z2_ok,x137_c,x137_r⟩
def x145_0 : List (Ins tf2) := [iAs (rk (.int .u64 (.ofNat 0))) s2_6]
def x145_1 : List (Ins tf2) := [iMv r2_1 s2_7,iMv r2_2 s2_8,iGp (l2 (pBin .and)) [r2_7,r2_8] (some s2_9),iAs r2_9 s2_6]
def x145 : XC tf2 := (.rg x145_0 (.rg x145_1 .ret))
def c145 : Code := Tryz.f145.body.getD .skip
theorem x145_b : Tryz.f145.body = some c145 := by kernel_rfl
theorem x145_c : cG (comp Tryz.prog) 4 2 10 x145 c145 = x145.den := by kernel_rfl
def y145 : List (RR Tryz.prog 2 10 tf2) := [rrT r2_6 6 rfl rfl]
theorem x145_r : y145.map RR.den = Tryz.f145.results.toList := by kernel_rfl
theorem x145_k : okFn Tryz.f145 = true := by kernel_rfl
theorem x145_D : 2 = dep Tryz.f145.ntmps := by kernel_rfl
theorem x145_s : ([s2_0,s2_1,s2_2] : List (Slot tf2)).map Slot.p = (List.range' 0 3).map (pth 2) := by kernel_rfl
def X145 : XFn Tryz.prog 4 (comp Tryz.prog) := ⟨X2,tf2,145,Tryz.f145,c145,2,10,[s2_0,s2_1,s2_2],z2,x145,y145,x145_D,Tryz.ntmps145.symm,Tryz.func145,x145_b,x145_k,x145_s,by decide,z2_ok,x145_c,x145_r⟩
def x151_0 : List (Ins tf2) := [iAs (rk (.int .u64 (.ofNat 0))) s2_6]
def x151_1 : List (Ins tf2) := [iMv r2_1 s2_7,iMv r2_2 s2_8,iP2 bEq r2_7 r2_8 s2_9,iCall (rk (.func (.func 178) #[] #[])) [r2_9] (some s2_10),iAs r2_10 s2_6]
def x151 : XC tf2 := (.rg x151_0 (.rg x151_1 .ret))
def c151 : Code := Tryz.f151.body.getD .skip
theorem x151_b : Tryz.f151.body = some c151 := by kernel_rfl
theorem x151_c : cG (comp Tryz.prog) 4 2 11 x151 c151 = x151.den := by kernel_rfl
def y151 : List (RR Tryz.prog 2 11 tf2) := [rrT r2_6 6 rfl rfl]
theorem x151_r : y151.map RR.den = Tryz.f151.results.toList := by kernel_rfl
theorem x151_k : okFn Tryz.f151 = true := by kernel_rfl
theorem x151_D : 2 = dep Tryz.f151.ntmps := by kernel_rfl
theorem x151_s : ([s2_0,s2_1,s2_2] : List (Slot tf2)).map Slot.p = (List.range' 0 3).map (pth 2) := by kernel_rfl
def X151 : XFn Tryz.prog 4 (comp Tryz.prog) := ⟨X2,tf2,151,Tryz.f151,c151,2,11,[s2_0,s2_1,s2_2],z2,x151,y151,x151_D,Tryz.ntmps151.symm,Tryz.func151,x151_b,x151_k,x151_s,by decide,z2_ok,x151_c,x151_r⟩
def x152_0 : List (Ins tf2) := [iAs (rk (.int .u64 (.ofNat 0))) s2_6]
def x152_1 : List (Ins tf2) := [iMv r2_1 s2_7,iMv r2_2 s2_8,iP2 bNe r2_7 r2_8 s2_9,iCall (rk (.func (.func 178) #[] #[])) [r2_9] (some s2_10),iAs r2_10 s2_6]
def x152 : XC tf2 := (.rg x152_0 (.rg x152_1 .ret))
def c152 : Code := Tryz.f152.body.getD .skip
theorem x152_b : Tryz.f152.body = some c152 := by kernel_rfl
theorem x152_c : cG (comp Tryz.prog) 4 2 11 x152 c152 = x152.den := by kernel_rfl
def y152 : List (RR Tryz.prog 2 11 tf2) := [rrT r2_6 6 rfl rfl]
theorem x152_r : y152.map RR.den = Tryz.f152.results.toList := by kernel_rfl
theorem x152_k : okFn Tryz.f152 = true := by kernel_rfl
theorem x152_D : 2 = dep Tryz.f152.ntmps := by kernel_rfl
theorem x152_s : ([s2_0,s2_1,s2_2] : List (Slot tf2)).map Slot.p = (List.range' 0 3).map (pth 2) := by kernel_rfl
def X152 : XFn Tryz.prog 4 (comp Tryz.prog) := ⟨X2,tf2,152,Tryz.f152,c152,2,11,[s2_0,s2_1,s2_2],z2,x152,y152,x152_D,Tryz.ntmps152.symm,Tryz.func152,x152_b,x152_k,x152_s,by decide,z2_ok,x152_c,x152_r⟩
def x161_0 : List (Ins tf2) := [iAs (rk (.bool false)) s2_2]
def x161_1 : List (Ins tf2) := [iMv r2_0 s2_5,iGp (l2 (pBin .eql)) [r2_5,(rk (.string ⟨⟨[]⟩⟩))] (some s2_6),iMv r2_6 s2_7,iGd r2_7 [.o7,.o0] false (iMv r2_0 s2_8) (some s2_8) rfl rfl rfl,iGd r2_7 [.o7,.o0] false (iGp (l1 pLenS) [r2_8] (some s2_9)) (some s2_9) rfl rfl rfl,iGd r2_7 [.o7,.o0] false (iP2 bGt r2_9 (rk (.int .i64 (.ofNat 32))) s2_10) (some s2_10) rfl rfl rfl,iGp (l3 pPick) [r2_7,(rk (.bool true)),r2_10] (some s2_11),iMv r2_11 s2_12,iGd r2_12 [.o4,.o1] false (iMv r2_0 s2_13) (some s2_13) rfl rfl rfl,iGd r2_12 [.o4,.o1] false (iGp (l2 pIxStr) [r2_13,(rk (.int .i64 (.ofNat 0)))] (some s2_14)) (some s2_14) rfl rfl rfl,iGd r2_12 [.o4,.o1] false (iP2 bGe r2_14 (rk (.int .u8 (.ofNat 48))) s2_15) (some s2_15) rfl rfl rfl,iGd r2_12 [.o4,.o1] false (iMv r2_15 s2_16) (some s2_16) rfl rfl rfl,iGd r2_16 [.o0,.o2] true (iMv r2_0 s2_17) (some s2_17) rfl rfl rfl,iGd r2_16 [.o0,.o2] true (iGp (l2 pIxStr) [r2_17,(rk (.int .i64 (.ofNat 0)))] (some s2_18)) (some s2_18) rfl rfl rfl,iGd r2_16 [.o0,.o2] true (iP2 bLe r2_18 (rk (.int .u8 (.ofNat 57))) s2_19) (some s2_19) rfl rfl rfl,iGd r2_12 [.o4,.o1] false (iGp (l3 pPick) [r2_16,r2_19,(rk (.bool false))] (some s2_20)) (some s2_20) rfl rfl rfl,iGp (l3 pPick) [r2_12,(rk (.bool true)),r2_20] (some s2_21)]
def x161_2 : List (Ins tf2) := [iAs (rk (.bool false)) s2_2]
def x161_3 : List (Ins tf2) := [iMv r2_0 s2_22,iGa (a1 gS2b) [r2_22] (some s2_23),iP1 bLen r2_23 s2_24,iMv (rk (.int .i64 (.ofNat 0))) s2_25]
def x161_4 : List (Ins tf2) := [iP2 bLt r2_25 r2_24 s2_26]
def x161_5 : List (Ins tf2) := [iP2 (bIxs 1) r2_23 r2_25 s2_27,iR1 bLd r2_27 s2_28,iAs r2_28 s2_4]
def x161_6 : List (Ins tf2) := [iMv r2_4 s2_29,iP2 bNe r2_29 (rk (.int .u8 (.ofNat 95))) s2_30,iMv r2_30 s2_31,iGd r2_31 [.o7,.o3] true (iMv r2_4 s2_32) (some s2_32) rfl rfl rfl,iGd r2_31 [.o7,.o3] true (iP2 bLt r2_32 (rk (.int .u8 (.ofNat 48))) s2_33) (some s2_33) rfl rfl rfl,iGd r2_31 [.o7,.o3] true (iMv r2_33 s2_34) (some s2_34) rfl rfl rfl,iGd r2_34 [.o2,.o4] false (iMv r2_4 s2_35) (some s2_35) rfl rfl rfl,iGd r2_34 [.o2,.o4] false (iP2 bGt r2_35 (rk (.int .u8 (.ofNat 57))) s2_36) (some s2_36) rfl rfl rfl,iGd r2_31 [.o7,.o3] true (iGp (l3 pPick) [r2_34,(rk (.bool true)),r2_36] (some s2_37)) (some s2_37) rfl rfl rfl,iGp (l3 pPick) [r2_31,r2_37,(rk (.bool false))] (some s2_38),iMv r2_38 s2_39,iGd r2_39 [.o7,.o4] true (iMv r2_4 s2_40) (some s2_40) rfl rfl rfl,iGd r2_39 [.o7,.o4] true (iP2 bLt r2_40 (rk (.int .u8 (.ofNat 97))) s2_41) (some s2_41) rfl rfl rfl,iGd r2_39 [.o7,.o4] true (iMv r2_41 s2_42) (some s2_42) rfl rfl rfl,iGd r2_42 [.o2,.o5] false (iMv r2_4 s2_43) (some s2_43) rfl rfl rfl,iGd r2_42 [.o2,.o5] false (iP2 bGt r2_43 (rk (.int .u8 (.ofNat 122))) s2_44) (some s2_44) rfl rfl rfl,iGd r2_39 [.o7,.o4] true (iGp (l3 pPick) [r2_42,(rk (.bool true)),r2_44] (some s2_45)) (some s2_45) rfl rfl rfl,iGp (l3 pPick) [r2_39,r2_45,(rk (.bool false))] (some s2_46),iMv r2_46 s2_47,iGd r2_47 [.o7,.o5] true (iMv r2_4 s2_48) (some s2_48) rfl rfl rfl,iGd r2_47 [.o7,.o5] true (iP2 bLt r2_48 (rk (.int .u8 (.ofNat 65))) s2_49) (some s2_49) rfl rfl rfl,iGd r2_47 [.o7,.o5] true (iMv r2_49 s2_50) (some s2_50) rfl rfl rfl,iGd r2_50 [.o2,.o6] false (iMv r2_4 s2_51) (some s2_51) rfl rfl rfl,iGd r2_50 [.o2,.o6] false (iP2 bGt r2_51 (rk (.int .u8 (.ofNat 90))) s2_52) (some s2_52) rfl rfl rfl,iGd r2_47 [.o7,.o5] true (iGp (l3 pPick) [r2_50,(rk (.bool true)),r2_52] (some s2_53)) (some s2_53) rfl rfl rfl,iGp (l3 pPick) [r2_47,r2_53,(rk (.bool false))] (some s2_54)]
def x161_7 : List (Ins tf2) := [iAs (rk (.bool false)) s2_2]
def x161_8 : List (Ins tf2) := [iP2 bAdd r2_25 (rk (.int .i64 (.ofNat 1))) s2_55,iMv r2_55 s2_25]
def x161_9 : List (Ins tf2) := [iAs (rk (.bool true)) s2_2]
def x161 : XC tf2 := (.rg x161_0 (.seq (.rg x161_1 (.cond r2_21 (.rg x161_2 .ret) .skip)) (.seq (.rg x161_3 (.block 0 (.loop (.rg x161_4 (.seq (.cond r2_26 .skip (.exit 0)) (.seq (.block 1 (.rg x161_5 (.rg x161_6 (.cond r2_54 (.rg x161_7 .ret) .skip)))) (.reg x161_8))))))) (.rg x161_9 .ret))))
def c161 : Code := Tryz.f161.body.getD .skip
theorem x161_b : Tryz.f161.body = some c161 := by kernel_rfl
theorem x161_c : cG (comp Tryz.prog) 4 2 56 x161 c161 = x161.den := by kernel_rfl
def y161 : List (RR Tryz.prog 2 56 tf2) := [rrT r2_2 2 rfl rfl]
theorem x161_r : y161.map RR.den = Tryz.f161.results.toList := by kernel_rfl
theorem x161_k : okFn Tryz.f161 = true := by kernel_rfl
theorem x161_D : 2 = dep Tryz.f161.ntmps := by kernel_rfl
theorem x161_s : ([s2_0] : List (Slot tf2)).map Slot.p = (List.range' 0 1).map (pth 2) := by kernel_rfl
def X161 : XFn Tryz.prog 4 (comp Tryz.prog) := ⟨X2,tf2,161,Tryz.f161,c161,2,56,[s2_0],z2,x161,y161,x161_D,Tryz.ntmps161.symm,Tryz.func161,x161_b,x161_k,x161_s,by decide,z2_ok,x161_c,x161_r⟩
def x162_0 : List (Ins tf2) := [iAs (rk (.bool false)) s2_4]
def x162_1 : List (Ins tf2) := [iMv r2_0 s2_5,iMv r2_1 s2_6,iCall (rk (.func (.func 180) #[] #[])) [r2_5,r2_6] (some s2_7),iP2 bGe r2_7 (rk (.int .i64 (.ofNat 0))) s2_8,iAs r2_8 s2_4]
def x162 : XC tf2 := (.rg x162_0 (.rg x162_1 .ret))
def c162 : Code := Tryz.f162.body.getD .skip
theorem x162_b : Tryz.f162.body = some c162 := by kernel_rfl
theorem x162_c : cG (comp Tryz.prog) 4 2 9 x162 c162 = x162.den := by kernel_rfl
def y162 : List (RR Tryz.prog 2 9 tf2) := [rrT r2_4 4 rfl rfl]
theorem x162_r : y162.map RR.den = Tryz.f162.results.toList := by kernel_rfl
theorem x162_k : okFn Tryz.f162 = true := by kernel_rfl
theorem x162_D : 2 = dep Tryz.f162.ntmps := by kernel_rfl
theorem x162_s : ([s2_0,s2_1] : List (Slot tf2)).map Slot.p = (List.range' 0 2).map (pth 2) := by kernel_rfl
def X162 : XFn Tryz.prog 4 (comp Tryz.prog) := ⟨X2,tf2,162,Tryz.f162,c162,2,9,[s2_0,s2_1],z2,x162,y162,x162_D,Tryz.ntmps162.symm,Tryz.func162,x162_b,x162_k,x162_s,by decide,z2_ok,x162_c,x162_r⟩
def x163_0 : List (Ins tf2) := [iGa (a1 gBox) [r2_0] (some s2_3),iGa (a1 gBox) [r2_1] (some s2_4),iAs (rk (.bool false)) s2_6]
def x163_1 : List (Ins tf2) := [iMv r2_2 s2_8,iGp (l1 (pUn .not)) [r2_8] (some s2_9),iAs r2_9 s2_7]
def x163_2 : List (Ins tf2) := [iGr (r1 (rLdn 2)) [r2_4] (some s2_10),iGp (pBld [(.int .i64 (.ofNat 0)),(.int .u64 (.ofNat 0))] []) [] (some s2_11),iGp (l2 (pEqS [0,0] false)) [r2_10,r2_11] (some s2_12),iAs r2_12 s2_6]
def x163_3 : List (Ins tf2) := [iP1 (bFa 0) r2_4 s2_14,iR1 bLd r2_14 s2_15,iP2 bEq r2_15 (rk (.int .i64 (.negSucc 0))) s2_16,iAs r2_16 s2_13]
def x163_4 : List (Ins tf2) := [iP1 (bFa 0) r2_3 s2_17,iR1 bLd r2_17 s2_18,iP2 bEq r2_18 (rk (.int .i64 (.ofNat 64))) s2_19,iMv r2_19 s2_20,iGd r2_20 [.o4,.o2] false (iP1 (bFa 1) r2_4 s2_21) (some s2_21) rfl rfl rfl,iGd r2_20 [.o4,.o2] false (iR1 bLd r2_21 s2_22) (some s2_22) rfl rfl rfl,iGd r2_20 [.o4,.o2] false (iP1 (bFa 0) r2_3 s2_23) (some s2_23) rfl rfl rfl,iGd r2_20 [.o4,.o2] false (iR1 bLd r2_23 s2_24) (some s2_24) rfl rfl rfl,iGd r2_20 [.o4,.o2] false (iGp (l2 (pBin .shl)) [(rk (.int .u64 (.ofNat 1))),r2_24] (some s2_25)) (some s2_25) rfl rfl rfl,iGd r2_20 [.o4,.o2] false (iP2 bLt r2_22 r2_25 s2_26) (some s2_26) rfl rfl rfl,iGp (l3 pPick) [r2_20,(rk (.bool true)),r2_26] (some s2_27),iAs r2_27 s2_6]
def x163_5 : List (Ins tf2) := [iP1 (bFa 0) r2_4 s2_28,iR1 bLd r2_28 s2_29,iP2 bGe r2_29 (rk (.int .i64 (.ofNat 0))) s2_30,iMv r2_30 s2_31,iGd r2_31 [.o7,.o3] true (iP1 (bFa 0) r2_4 s2_32) (some s2_32) rfl rfl rfl,iGd r2_31 [.o7,.o3] true (iR1 bLd r2_32 s2_33) (some s2_33) rfl rfl rfl,iGd r2_31 [.o7,.o3] true (iP1 (bFa 1) r2_3 s2_34) (some s2_34) rfl rfl rfl,iGd r2_31 [.o7,.o3] true (iR1 bLd r2_34 s2_35) (some s2_35) rfl rfl rfl,iGd r2_31 [.o7,.o3] true (iP2 bLt r2_33 r2_35 s2_36) (some s2_36) rfl rfl rfl,iGp (l3 pPick) [r2_31,r2_36,(rk (.bool false))] (some s2_37),iMv r2_37 s2_38,iGd r2_38 [.o6,.o4] true (iP1 (bFa 1) r2_4 s2_39) (some s2_39) rfl rfl rfl,iGd r2_38 [.o6,.o4] true (iR1 bLd r2_39 s2_40) (some s2_40) rfl rfl rfl,iGd r2_38 [.o6,.o4] true (iP2 bEq r2_40 (rk (.int .u64 (.ofNat 0))) s2_41) (some s2_41) rfl rfl rfl,iGp (l3 pPick) [r2_38,r2_41,(rk (.bool false))] (some s2_42),iAs r2_42 s2_6]
def x163 : XC tf2 := (.rg x163_0 (.seq (.block 0 (.rg x163_1 (.cond r2_7 (.rg x163_2 .ret) (.rg x163_3 (.cond r2_13 (.rg x163_4 .ret) .skip))))) (.rg x163_5 .ret)))
def c163 : Code := Tryz.f163.body.getD .skip
theorem x163_b : Tryz.f163.body = some c163 := by kernel_rfl
theorem x163_c : cG (comp Tryz.prog) 4 2 43 x163 c163 = x163.den := by kernel_rfl
def y163 : List (RR Tryz.prog 2 43 tf2) := [rrT r2_6 6 rfl rfl]
theorem x163_r : y163.map RR.den = Tryz.f163.results.toList := by kernel_rfl
theorem x163_k : okFn Tryz.f163 = true := by kernel_rfl
theorem x163_D : 2 = dep Tryz.f163.ntmps := by kernel_rfl
theorem x163_s : ([s2_0,s2_1,s2_2] : List (Slot tf2)).map Slot.p = (List.range' 0 3).map (pth 2) := by kernel_rfl
def X163 : XFn Tryz.prog 4 (comp Tryz.prog) := ⟨X2,tf2,163,Tryz.f163,c163,2,43,[s2_0,s2_1,s2_2],z2,x163,y163,x163_D,Tryz.ntmps163.symm,Tryz.func163,x163_b,x163_k,x163_s,by decide,z2_ok,x163_c,x163_r⟩
def x172_0 : List (Ins tf2) := [iAs (rk (.bool false)) s2_6]
def x172_1 : List (Ins tf2) := [iMv r2_0 s2_7,iP1 bNil r2_7 s2_8,iP1 (bFa 4) r2_8 s2_9,iR1 bLd r2_9 s2_10,iMv r2_1 s2_11,iP2 (bIxs 1) r2_10 r2_11 s2_12,iR1 bLd r2_12 s2_13,iMv r2_13 s2_14,iGd r2_14 [.o6,.o1] true (iMv r2_0 s2_15) (some s2_15) rfl rfl rfl,iGd r2_14 [.o6,.o1] true (iP1 bNil r2_15 s2_16) (some s2_16) rfl rfl rfl,iGd r2_14 [.o6,.o1] true (iP1 (bFa 3) r2_16 s2_17) (some s2_17) rfl rfl rfl,iGd r2_14 [.o6,.o1] true (iR1 bLd r2_17 s2_18) (some s2_18) rfl rfl rfl,iGd r2_14 [.o6,.o1] true (iMv r2_1 s2_19) (some s2_19) rfl rfl rfl,iGd r2_14 [.o6,.o1] true (iP2 (bIxs 1) r2_18 r2_19 s2_20) (some s2_20) rfl rfl rfl,iGd r2_14 [.o6,.o1] true (iR1 bLd r2_20 s2_21) (some s2_21) rfl rfl rfl,iGd r2_14 [.o6,.o1] true (iMv r2_2 s2_22) (some s2_22) rfl rfl rfl,iGd r2_14 [.o6,.o1] true (iP2 bEq r2_21 r2_22 s2_23) (some s2_23) rfl rfl rfl,iGp (l3 pPick) [r2_14,r2_23,(rk (.bool false))] (some s2_24),iAs r2_24 s2_6]
def x172 : XC tf2 := (.rg x172_0 (.rg x172_1 .ret))
def c172 : Code := Tryz.f172.body.getD .skip
theorem x172_b : Tryz.f172.body = some c172 := by kernel_rfl
theorem x172_c : cG (comp Tryz.prog) 4 2 25 x172 c172 = x172.den := by kernel_rfl
def y172 : List (RR Tryz.prog 2 25 tf2) := [rrT r2_6 6 rfl rfl]
theorem x172_r : y172.map RR.den = Tryz.f172.results.toList := by kernel_rfl
theorem x172_k : okFn Tryz.f172 = true := by kernel_rfl
theorem x172_D : 2 = dep Tryz.f172.ntmps := by kernel_rfl
theorem x172_s : ([s2_0,s2_1,s2_2] : List (Slot tf2)).map Slot.p = (List.range' 0 3).map (pth 2) := by kernel_rfl
def X172 : XFn Tryz.prog 4 (comp Tryz.prog) := ⟨X2,tf2,172,Tryz.f172,c172,2,25,[s2_0,s2_1,s2_2],z2,x172,y172,x172_D,Tryz.ntmps172.symm,Tryz.func172,x172_b,x172_k,x172_s,by decide,z2_ok,x172_c,x172_r⟩
def x173_0 : List (Ins tf2) := [iGa (aAl 3 [(.int .u8 (.ofNat 0)),(.int .i64 (.ofNat 0)),(.int .u64 (.ofNat 0))]) [] (some s2_3)]
def x173_1 : List (Ins tf2) := [iMv r2_0 s2_4,iP1 bNil r2_4 s2_5,iP1 (bFa 2) r2_5 s2_6,iR1 bLd r2_6 s2_7,iP2 (bIxs 1) r2_7 (rk (.int .i64 (.ofNat 0))) s2_8,iR1 bLd r2_8 s2_9,iMv r2_0 s2_10,iP1 bNil r2_10 s2_11,iP1 (bFa 2) r2_11 s2_12,iR1 bLd r2_12 s2_13,iP2 (bIxs 1) r2_13 (rk (.int .i64 (.ofNat 1))) s2_14,iR1 bLd r2_14 s2_15,iP2 bEq r2_9 r2_15 s2_16]
def x173_2 : List (Ins tf2) := [iR1 bLd r2_1 s2_17,iGp (pBld [(.int .u8 (.ofNat 0)),(.int .i64 (.ofNat 0)),(.int .u64 (.ofNat 0))] [(0,1),(2,1)]) [(rk (.int .u8 (.ofNat 2))),r2_17] (some s2_18),iGm (m2 (sStn 3)) [r2_3,r2_18] none]
def x173_3 : List (Ins tf2) := [iGp (pBld [(.int .u8 (.ofNat 0)),(.int .i64 (.ofNat 0)),(.int .u64 (.ofNat 0))] []) [] (some s2_19),iGm (m2 (sStn 3)) [r2_3,r2_19] none]
def x173 : XC tf2 := (.rg x173_0 (.seq (.rg x173_1 (.cond r2_16 (.rg x173_2 .ret) .skip)) (.rg x173_3 .ret)))
def c173 : Code := Tryz.f173.body.getD .skip
theorem x173_b : Tryz.f173.body = some c173 := by kernel_rfl
theorem x173_c : cG (comp Tryz.prog) 4 2 20 x173 c173 = x173.den := by kernel_rfl
def y173 : List (RR Tryz.prog 2 20 tf2) := [rrS (.cell 3 225)]
theorem x173_r : y173.map RR.den = Tryz.f173.results.toList := by kernel_rfl
theorem x173_k : okFn Tryz.f173 = true := by kernel_rfl
theorem x173_D : 2 = dep Tryz.f173.ntmps := by kernel_rfl
theorem x173_s : ([s2_0,s2_1] : List (Slot tf2)).map Slot.p = (List.range' 0 2).map (pth 2) := by kernel_rfl
def X173 : XFn Tryz.prog 4 (comp Tryz.prog) := ⟨X2,tf2,173,Tryz.f173,c173,2,20,[s2_0,s2_1],z2,x173,y173,x173_D,Tryz.ntmps173.symm,Tryz.func173,x173_b,x173_k,x173_s,by decide,z2_ok,x173_c,x173_r⟩
def x174_0 : List (Ins tf2) := [iGa (aAl 3 [(.int .u8 (.ofNat 0)),(.int .i64 (.ofNat 0)),(.int .u64 (.ofNat 0))]) [] (some s2_5)]
def x174_1 : List (Ins tf2) := [iMv r2_0 s2_6,iR1 bLd r2_1 s2_7,iR1 bLd r2_2 s2_8,iCall (rk (.func (.func 172) #[] #[])) [r2_6,r2_7,r2_8] (some s2_9)]
def x174_2 : List (Ins tf2) := [iR1 bLd r2_3 s2_10,iGp (pBld [(.int .u8 (.ofNat 0)),(.int .i64 (.ofNat 0)),(.int .u64 (.ofNat 0))] [(0,1),(2,1)]) [(rk (.int .u8 (.ofNat 2))),r2_10] (some s2_11),iGm (m2 (sStn 3)) [r2_5,r2_11] none]
def x174_3 : List (Ins tf2) := [iGp (pBld [(.int .u8 (.ofNat 0)),(.int .i64 (.ofNat 0)),(.int .u64 (.ofNat 0))] []) [] (some s2_12),iGm (m2 (sStn 3)) [r2_5,r2_12] none]
def x174 : XC tf2 := (.rg x174_0 (.seq (.rg x174_1 (.cond r2_9 (.rg x174_2 .ret) .skip)) (.rg x174_3 .ret)))
def c174 : Code := Tryz.f174.body.getD .skip
theorem x174_b : Tryz.f174.body = some c174 := by kernel_rfl
theorem x174_c : cG (comp Tryz.prog) 4 2 13 x174 c174 = x174.den := by kernel_rfl
def y174 : List (RR Tryz.prog 2 13 tf2) := [rrS (.cell 5 225)]
theorem x174_r : y174.map RR.den = Tryz.f174.results.toList := by kernel_rfl
theorem x174_k : okFn Tryz.f174 = true := by kernel_rfl
theorem x174_D : 2 = dep Tryz.f174.ntmps := by kernel_rfl
theorem x174_s : ([s2_0,s2_1,s2_2,s2_3] : List (Slot tf2)).map Slot.p = (List.range' 0 4).map (pth 2) := by kernel_rfl
def X174 : XFn Tryz.prog 4 (comp Tryz.prog) := ⟨X2,tf2,174,Tryz.f174,c174,2,13,[s2_0,s2_1,s2_2,s2_3],z2,x174,y174,x174_D,Tryz.ntmps174.symm,Tryz.func174,x174_b,x174_k,x174_s,by decide,z2_ok,x174_c,x174_r⟩
def x175_0 : List (Ins tf2) := [iGa (aAl 3 [(.int .u8 (.ofNat 0)),(.int .i64 (.ofNat 0)),(.int .u64 (.ofNat 0))]) [] (some s2_3)]
def x175_1 : List (Ins tf2) := [iMv r2_0 s2_4,iMv r2_0 s2_5,iCall (rk (.func (.func 176) #[] #[])) [r2_5] (some s2_6),iCall (rk (.func (.func 172) #[] #[])) [r2_4,(rk (.int .i64 (.ofNat 1))),r2_6] (some s2_7)]
def x175_2 : List (Ins tf2) := [iR1 bLd r2_1 s2_8,iMv r2_0 s2_9,iP1 bNil r2_9 s2_10,iP1 (bFa 2) r2_10 s2_11,iR1 bLd r2_11 s2_12,iP2 (bIxs 1) r2_12 (rk (.int .i64 (.ofNat 0))) s2_13,iR1 bLd r2_13 s2_14,iMv r2_0 s2_15,iRc (iCall (rk (.func (.func 176) #[] #[])) [r2_15] (some s2_16)) [(rcLd r2_13 r2_14 [.o6,.o1] rfl),(rcLd r2_11 r2_12 [.o4,.o1] rfl),(rcLd r2_1 r2_8 [.o0,.o1] rfl)] rfl,iGp (pBld [(.int .u8 (.ofNat 0)),(.int .i64 (.ofNat 0)),(.int .u64 (.ofNat 0))] [(0,1),(1,1),(2,1)]) [r2_8,r2_14,r2_16] (some s2_17),iGm (m2 (sStn 3)) [r2_3,r2_17] none]
def x175_3 : List (Ins tf2) := [iGp (pBld [(.int .u8 (.ofNat 0)),(.int .i64 (.ofNat 0)),(.int .u64 (.ofNat 0))] []) [] (some s2_18),iGm (m2 (sStn 3)) [r2_3,r2_18] none]
def x175 : XC tf2 := (.rg x175_0 (.seq (.rg x175_1 (.cond r2_7 (.rg x175_2 .ret) .skip)) (.rg x175_3 .ret)))
def c175 : Code := Tryz.f175.body.getD .skip
theorem x175_b : Tryz.f175.body = some c175 := by kernel_rfl
theorem x175_c : cG (comp Tryz.prog) 4 2 19 x175 c175 = x175.den := by kernel_rfl
def y175 : List (RR Tryz.prog 2 19 tf2) := [rrS (.cell 3 225)]
theorem x175_r : y175.map RR.den = Tryz.f175.results.toList := by kernel_rfl
theorem x175_k : okFn Tryz.f175 = true := by kernel_rfl
theorem x175_D : 2 = dep Tryz.f175.ntmps := by kernel_rfl
theorem x175_s : ([s2_0,s2_1] : List (Slot tf2)).map Slot.p = (List.range' 0 2).map (pth 2) := by kernel_rfl
def X175 : XFn Tryz.prog 4 (comp Tryz.prog) := ⟨X2,tf2,175,Tryz.f175,c175,2,19,[s2_0,s2_1],z2,x175,y175,x175_D,Tryz.ntmps175.symm,Tryz.func175,x175_b,x175_k,x175_s,by decide,z2_ok,x175_c,x175_r⟩
def x176_0 : List (Ins tf2) := [iAs (rk (.int .u64 (.ofNat 0))) s2_2]
def x176_1 : List (Ins tf2) := [iMv r2_0 s2_6,iP1 bNil r2_6 s2_7,iP1 (bFa 0) r2_7 s2_8,iR1 bLd r2_8 s2_9,iCall (rk (.func (.func 71) #[] #[])) [r2_9] (some s2_10),iCall (rk (.func (.func 73) #[] #[])) [r2_10,(rk (.int .u64 (.ofNat 18446744073709551615)))] (some s2_11),iMv r2_11 s2_5,iGp (l1 (pExt 0)) [r2_5] (some s2_12),iGp (l1 (pExt 1)) [r2_5] (some s2_13),iAs r2_12 s2_3,iAs r2_13 s2_4]
def x176_2 : List (Ins tf2) := [iMv r2_3 s2_14,iAs r2_14 s2_2]
def x176 : XC tf2 := (.rg x176_0 (.rg x176_1 (.rg x176_2 .ret)))
def c176 : Code := Tryz.f176.body.getD .skip
theorem x176_b : Tryz.f176.body = some c176 := by kernel_rfl
theorem x176_c : cG (comp Tryz.prog) 4 2 15 x176 c176 = x176.den := by kernel_rfl
def y176 : List (RR Tryz.prog 2 15 tf2) := [rrT r2_2 2 rfl rfl]
theorem x176_r : y176.map RR.den = Tryz.f176.results.toList := by kernel_rfl
theorem x176_k : okFn Tryz.f176 = true := by kernel_rfl
theorem x176_D : 2 = dep Tryz.f176.ntmps := by kernel_rfl
theorem x176_s : ([s2_0] : List (Slot tf2)).map Slot.p = (List.range' 0 1).map (pth 2) := by kernel_rfl
def X176 : XFn Tryz.prog 4 (comp Tryz.prog) := ⟨X2,tf2,176,Tryz.f176,c176,2,15,[s2_0],z2,x176,y176,x176_D,Tryz.ntmps176.symm,Tryz.func176,x176_b,x176_k,x176_s,by decide,z2_ok,x176_c,x176_r⟩
def x178_0 : List (Ins tf1) := [iAs (rk (.int .u64 (.ofNat 0))) s1_2]
def x178_1 : List (Ins tf1) := [iMv r1_0 s1_3]
def x178_2 : List (Ins tf1) := [iAs (rk (.int .u64 (.ofNat 1))) s1_2]
def x178_3 : List (Ins tf1) := [iAs (rk (.int .u64 (.ofNat 0))) s1_2]
def x178 : XC tf1 := (.rg x178_0 (.seq (.rg x178_1 (.cond r1_3 (.rg x178_2 .ret) .skip)) (.rg x178_3 .ret)))
def c178 : Code := Tryz.f178.body.getD .skip
theorem x178_b : Tryz.f178.body = some c178 := by kernel_rfl
theorem x178_c : cG (comp Tryz.prog) 4 1 4 x178 c178 = x178.den := by kernel_rfl
def y178 : List (RR Tryz.prog 1 4 tf1) := [rrT r1_2 2 rfl rfl]
theorem x178_r : y178.map RR.den = Tryz.f178.results.toList := by kernel_rfl
theorem x178_k : okFn Tryz.f178 = true := by kernel_rfl
theorem x178_D : 1 = dep Tryz.f178.ntmps := by kernel_rfl
theorem x178_s : ([s1_0] : List (Slot tf1)).map Slot.p = (List.range' 0 1).map (pth 1) := by kernel_rfl
def X178 : XFn Tryz.prog 4 (comp Tryz.prog) := ⟨X1,tf1,178,Tryz.f178,c178,1,4,[s1_0],z1,x178,y178,x178_D,Tryz.ntmps178.symm,Tryz.func178,x178_b,x178_k,x178_s,by decide,z1_ok,x178_c,x178_r⟩
def x180_0 : List (Ins tf2) := [iAs (rk (.int .i64 (.ofNat 0))) s2_4]
def x180_1 : List (Ins tf2) := [iMv r2_0 s2_6,iP1 bLen r2_6 s2_7,iMv (rk (.int .i64 (.ofNat 0))) s2_8]
def x180_2 : List (Ins tf2) := [iP2 bLt r2_8 r2_7 s2_9]
def x180_3 : List (Ins tf2) := [iMv r2_8 s2_10,iAs r2_10 s2_5]
def x180_4 : List (Ins tf2) := [iMv r2_1 s2_11,iMv r2_0 s2_12,iMv r2_5 s2_13,iP2 (bIxs 1) r2_12 r2_13 s2_14,iR1 bLd r2_14 s2_15,iGp (l2 (pBin .eql)) [r2_11,r2_15] (some s2_16)]
def x180_5 : List (Ins tf2) := [iMv r2_5 s2_17,iAs r2_17 s2_4]
def x180_6 : List (Ins tf2) := [iP2 bAdd r2_8 (rk (.int .i64 (.ofNat 1))) s2_18,iMv r2_18 s2_8]
def x180_7 : List (Ins tf2) := [iAs (rk (.int .i64 (.negSucc 0))) s2_4]
def x180 : XC tf2 := (.rg x180_0 (.seq (.rg x180_1 (.block 0 (.loop (.rg x180_2 (.seq (.cond r2_9 .skip (.exit 0)) (.seq (.block 1 (.rg x180_3 (.rg x180_4 (.cond r2_16 (.rg x180_5 .ret) .skip)))) (.reg x180_6))))))) (.rg x180_7 .ret)))
def c180 : Code := Tryz.f180.body.getD .skip
theorem x180_b : Tryz.f180.body = some c180 := by kernel_rfl
theorem x180_c : cG (comp Tryz.prog) 4 2 19 x180 c180 = x180.den := by kernel_rfl
def y180 : List (RR Tryz.prog 2 19 tf2) := [rrT r2_4 4 rfl rfl]
theorem x180_r : y180.map RR.den = Tryz.f180.results.toList := by kernel_rfl
theorem x180_k : okFn Tryz.f180 = true := by kernel_rfl
theorem x180_D : 2 = dep Tryz.f180.ntmps := by kernel_rfl
theorem x180_s : ([s2_0,s2_1] : List (Slot tf2)).map Slot.p = (List.range' 0 2).map (pth 2) := by kernel_rfl
def X180 : XFn Tryz.prog 4 (comp Tryz.prog) := ⟨X2,tf2,180,Tryz.f180,c180,2,19,[s2_0,s2_1],z2,x180,y180,x180_D,Tryz.ntmps180.symm,Tryz.func180,x180_b,x180_k,x180_s,by decide,z2_ok,x180_c,x180_r⟩
def x206_0 : List (Ins tf2) := [iAs (rk (.bool false)) s2_4]
def x206_1 : List (Ins tf2) := [iMv r2_1 s2_5,iP2 bGe r2_5 (rk (.int .i64 (.ofNat 0))) s2_6,iMv r2_6 s2_7,iGd r2_7 [.o7,.o0] true (iMv r2_1 s2_8) (some s2_8) rfl rfl rfl,iGd r2_7 [.o7,.o0] true (iMv r2_0 s2_9) (some s2_9) rfl rfl rfl,iGd r2_7 [.o7,.o0] true (iP1 bNil r2_9 s2_10) (some s2_10) rfl rfl rfl,iGd r2_7 [.o7,.o0] true (iP1 (bFa 0) r2_10 s2_11) (some s2_11) rfl rfl rfl,iGd r2_7 [.o7,.o0] true (iR1 bLd r2_11 s2_12) (some s2_12) rfl rfl rfl,iGd r2_7 [.o7,.o0] true (iCall (rk (.func (.func 58) #[] #[])) [r2_12] (some s2_13)) (some s2_13) rfl rfl rfl,iGd r2_7 [.o7,.o0] true (iP2 bLt r2_8 r2_13 s2_14) (some s2_14) rfl rfl rfl,iGp (l3 pPick) [r2_7,r2_14,(rk (.bool false))] (some s2_15),iAs r2_15 s2_4]
def x206 : XC tf2 := (.rg x206_0 (.rg x206_1 .ret))
def c206 : Code := Tryz.f206.body.getD .skip
theorem x206_b : Tryz.f206.body = some c206 := by kernel_rfl
theorem x206_c : cG (comp Tryz.prog) 4 2 16 x206 c206 = x206.den := by kernel_rfl
def y206 : List (RR Tryz.prog 2 16 tf2) := [rrT r2_4 4 rfl rfl]
theorem x206_r : y206.map RR.den = Tryz.f206.results.toList := by kernel_rfl
theorem x206_k : okFn Tryz.f206 = true := by kernel_rfl
theorem x206_D : 2 = dep Tryz.f206.ntmps := by kernel_rfl
theorem x206_s : ([s2_0,s2_1] : List (Slot tf2)).map Slot.p = (List.range' 0 2).map (pth 2) := by kernel_rfl
def X206 : XFn Tryz.prog 4 (comp Tryz.prog) := ⟨X2,tf2,206,Tryz.f206,c206,2,16,[s2_0,s2_1],z2,x206,y206,x206_D,Tryz.ntmps206.symm,Tryz.func206,x206_b,x206_k,x206_s,by decide,z2_ok,x206_c,x206_r⟩
def x207_0 : List (Ins tf2) := [iGa (a1 gBox) [r2_0] (some s2_1),iGa (aAl 9 [(.pointer none),(.int .i64 (.ofNat 0)),(.slice none 0 0),(.int .u8 (.ofNat 0)),(.int .i64 (.ofNat 0)),(.slice none 0 0),(.slice none 0 0),(.slice none 0 0),(.slice none 0 0)]) [] (some s2_2)]
def x207_1 : List (Ins tf2) := [iP1 (bFa 2) r2_1 s2_4,iGr (r1 (rLdn 7)) [r2_4] (some s2_5),iGa (aAl 7 [(.slice none 0 0),(.int .u8 (.ofNat 0)),(.int .i64 (.ofNat 0)),(.slice none 0 0),(.slice none 0 0),(.slice none 0 0),(.slice none 0 0)]) [] (some s2_3),iGm (m2 (sStn 7)) [r2_3,r2_5] none]
def x207_2 : List (Ins tf2) := [iP1 (bFa 0) r2_3 s2_6,iR1 bLd r2_6 s2_7,iGm (m2 (sApp 1)) [(rk (.slice none 0 0)),r2_7] (some s2_8),iP1 (bFa 0) r2_3 s2_9,iM2 bSt r2_9 r2_8]
def x207_3 : List (Ins tf2) := [iP1 (bFa 3) r2_3 s2_10,iR1 bLd r2_10 s2_11,iGm (m2 (sApp 2)) [(rk (.slice none 0 0)),r2_11] (some s2_12),iP1 (bFa 3) r2_3 s2_13,iM2 bSt r2_13 r2_12]
def x207_4 : List (Ins tf2) := [iP1 (bFa 4) r2_3 s2_14,iR1 bLd r2_14 s2_15,iGm (m2 (sApp 2)) [(rk (.slice none 0 0)),r2_15] (some s2_16),iP1 (bFa 4) r2_3 s2_17,iM2 bSt r2_17 r2_16]
def x207_5 : List (Ins tf2) := [iP1 (bFa 5) r2_3 s2_18,iR1 bLd r2_18 s2_19,iGm (m2 (sApp 1)) [(rk (.slice none 0 0)),r2_19] (some s2_20),iP1 (bFa 5) r2_3 s2_21,iM2 bSt r2_21 r2_20]
def x207_6 : List (Ins tf2) := [iP1 (bFa 6) r2_3 s2_22,iR1 bLd r2_22 s2_23,iGm (m2 (sApp 1)) [(rk (.slice none 0 0)),r2_23] (some s2_24),iP1 (bFa 6) r2_3 s2_25,iM2 bSt r2_25 r2_24]
def x207_7 : List (Ins tf2) := [iP1 (bFa 0) r2_1 s2_26,iR1 bLd r2_26 s2_27,iP1 (bFa 1) r2_1 s2_29,iR1 bLd r2_29 s2_30,iGr (r1 (rLdn 7)) [r2_3] (some s2_31),iRc (iCall (rk (.func (.func 241) #[] #[])) [r2_27] (some s2_28)) [(rcS ⟨none,.r (r1 (rLdn 7)),[(.t [.o3,.o0])],(some [.o7,.o3])⟩),(rcLd r2_29 r2_30 [.o6,.o3] rfl)] rfl,iGp (pBld [(.pointer none),(.int .i64 (.ofNat 0)),(.slice none 0 0),(.int .u8 (.ofNat 0)),(.int .i64 (.ofNat 0)),(.slice none 0 0),(.slice none 0 0),(.slice none 0 0),(.slice none 0 0)] [(0,1),(1,1),(2,7)]) [r2_28,r2_30,r2_31] (some s2_32),iGm (m2 (sStn 9)) [r2_2,r2_32] none]
def x207 : XC tf2 := (.rg x207_0 (.rg x207_1 (.rg x207_2 (.rg x207_3 (.rg x207_4 (.rg x207_5 (.rg x207_6 (.rg x207_7 .ret))))))))
def c207 : Code := Tryz.f207.body.getD .skip
theorem x207_b : Tryz.f207.body = some c207 := by kernel_rfl
theorem x207_c : cG (comp Tryz.prog) 4 2 33 x207 c207 = x207.den := by kernel_rfl
def y207 : List (RR Tryz.prog 2 33 tf2) := [rrS (.cell 2 185)]
theorem x207_r : y207.map RR.den = Tryz.f207.results.toList := by kernel_rfl
theorem x207_k : okFn Tryz.f207 = true := by kernel_rfl
theorem x207_D : 2 = dep Tryz.f207.ntmps := by kernel_rfl
theorem x207_s : ([s2_0] : List (Slot tf2)).map Slot.p = (List.range' 0 1).map (pth 2) := by kernel_rfl
def X207 : XFn Tryz.prog 4 (comp Tryz.prog) := ⟨X2,tf2,207,Tryz.f207,c207,2,33,[s2_0],z2,x207,y207,x207_D,Tryz.ntmps207.symm,Tryz.func207,x207_b,x207_k,x207_s,by decide,z2_ok,x207_c,x207_r⟩
def x209_0 : List (Ins tf2) := [iAs (rk (.int .i64 (.ofNat 0))) s2_6]
def x209_1 : List (Ins tf2) := [iMv r2_1 s2_7,iP1 bLen r2_7 s2_8,iMv r2_2 s2_9,iP1 bLen r2_9 s2_10,iP2 bNe r2_8 r2_10 s2_11]
def x209_2 : List (Ins tf2) := [iMv r2_0 s2_12,iCall (rk (.func (.func 30) #[] #[])) [r2_12,(rk (.int .u64 (.ofNat 0)))] (some s2_13),iAs r2_13 s2_6]
def x209_3 : List (Ins tf2) := [iMv r2_0 s2_14,iMv r2_1 s2_15,iMv r2_2 s2_16,iCall (rk (.func (.func 210) #[] #[])) [r2_14,r2_15,r2_16] (some s2_17),iAs r2_17 s2_6]
def x209 : XC tf2 := (.rg x209_0 (.seq (.rg x209_1 (.cond r2_11 (.rg x209_2 .ret) .skip)) (.rg x209_3 .ret)))
def c209 : Code := Tryz.f209.body.getD .skip
theorem x209_b : Tryz.f209.body = some c209 := by kernel_rfl
theorem x209_c : cG (comp Tryz.prog) 4 2 18 x209 c209 = x209.den := by kernel_rfl
def y209 : List (RR Tryz.prog 2 18 tf2) := [rrT r2_6 6 rfl rfl]
theorem x209_r : y209.map RR.den = Tryz.f209.results.toList := by kernel_rfl
theorem x209_k : okFn Tryz.f209 = true := by kernel_rfl
theorem x209_D : 2 = dep Tryz.f209.ntmps := by kernel_rfl
theorem x209_s : ([s2_0,s2_1,s2_2] : List (Slot tf2)).map Slot.p = (List.range' 0 3).map (pth 2) := by kernel_rfl
def X209 : XFn Tryz.prog 4 (comp Tryz.prog) := ⟨X2,tf2,209,Tryz.f209,c209,2,18,[s2_0,s2_1,s2_2],z2,x209,y209,x209_D,Tryz.ntmps209.symm,Tryz.func209,x209_b,x209_k,x209_s,by decide,z2_ok,x209_c,x209_r⟩
def x210_0 : List (Ins tf2) := [iAs (rk (.int .i64 (.ofNat 0))) s2_6]
def x210_1 : List (Ins tf2) := [iAs (rk (.slice none 0 0)) s2_7]
def x210_2 : List (Ins tf2) := [iMv r2_1 s2_9,iP1 bLen r2_9 s2_10,iMv r2_2 s2_11,iP1 bLen r2_11 s2_12,iGp (l2 pMin) [r2_10,r2_12] (some s2_13),iMv (rk (.int .i64 (.ofNat 0))) s2_14]
def x210_3 : List (Ins tf2) := [iP2 bLt r2_14 r2_13 s2_15]
def x210_4 : List (Ins tf2) := [iMv r2_14 s2_16,iAs r2_16 s2_8]
def x210_5 : List (Ins tf2) := [iMv r2_1 s2_17,iMv r2_8 s2_18,iP2 (bIxs 2) r2_17 r2_18 s2_19,iP1 (bFa 0) r2_19 s2_20,iR1 bLd r2_20 s2_21,iMv r2_2 s2_22,iMv r2_8 s2_23,iP2 (bIxs 2) r2_22 r2_23 s2_24,iP1 (bFa 0) r2_24 s2_25,iR1 bLd r2_25 s2_26,iP2 bNe r2_21 r2_26 s2_27]
def x210_6 : List (Ins tf2) := [iMv r2_0 s2_28,iCall (rk (.func (.func 30) #[] #[])) [r2_28,(rk (.int .u64 (.ofNat 0)))] (some s2_29),iAs r2_29 s2_6]
def x210_7 : List (Ins tf2) := [iMv r2_7 s2_30,iMv r2_0 s2_31,iMv r2_1 s2_32,iMv r2_8 s2_33,iP2 (bIxs 2) r2_32 r2_33 s2_34,iP1 (bFa 1) r2_34 s2_35,iR1 bLd r2_35 s2_36,iMv r2_2 s2_37,iMv r2_8 s2_38,iP2 (bIxs 2) r2_37 r2_38 s2_39,iP1 (bFa 1) r2_39 s2_40,iR1 bLd r2_40 s2_41,iGa (aBsl 2 1 [(.int .i64 (.ofNat 0))] [(0,1),(1,1)]) [r2_36,r2_41] (some s2_42),iCall (rk (.func (.func 32) #[] #[])) [r2_31,(rk (.int .u8 (.ofNat 15))),r2_42] (some s2_43),iGa (aBsl 1 1 [(.int .i64 (.ofNat 0))] [(0,1)]) [r2_43] (some s2_44),iGm (m2 (sApp 1)) [r2_30,r2_44] (some s2_45),iAs r2_45 s2_7]
def x210_8 : List (Ins tf2) := [iP2 bAdd r2_14 (rk (.int .i64 (.ofNat 1))) s2_46,iMv r2_46 s2_14]
def x210_9 : List (Ins tf2) := [iMv r2_0 s2_47,iMv r2_7 s2_48,iCall (rk (.func (.func 31) #[] #[])) [r2_47,r2_48] (some s2_49),iAs r2_49 s2_6]
def x210 : XC tf2 := (.rg x210_0 (.rg x210_1 (.seq (.rg x210_2 (.block 0 (.loop (.rg x210_3 (.seq (.cond r2_15 .skip (.exit 0)) (.seq (.block 1 (.rg x210_4 (.seq (.rg x210_5 (.cond r2_27 (.rg x210_6 .ret) .skip)) (.reg x210_7)))) (.reg x210_8))))))) (.rg x210_9 .ret))))
def c210 : Code := Tryz.f210.body.getD .skip
theorem x210_b : Tryz.f210.body = some c210 := by kernel_rfl
theorem x210_c : cG (comp Tryz.prog) 4 2 50 x210 c210 = x210.den := by kernel_rfl
def y210 : List (RR Tryz.prog 2 50 tf2) := [rrT r2_6 6 rfl rfl]
theorem x210_r : y210.map RR.den = Tryz.f210.results.toList := by kernel_rfl
theorem x210_k : okFn Tryz.f210 = true := by kernel_rfl
theorem x210_D : 2 = dep Tryz.f210.ntmps := by kernel_rfl
theorem x210_s : ([s2_0,s2_1,s2_2] : List (Slot tf2)).map Slot.p = (List.range' 0 3).map (pth 2) := by kernel_rfl
def X210 : XFn Tryz.prog 4 (comp Tryz.prog) := ⟨X2,tf2,210,Tryz.f210,c210,2,50,[s2_0,s2_1,s2_2],z2,x210,y210,x210_D,Tryz.ntmps210.symm,Tryz.func210,x210_b,x210_k,x210_s,by decide,z2_ok,x210_c,x210_r⟩
def x212_0 : List (Ins tf3) := [iGa (a1 gBox) [r3_2] (some s3_5),iAs (rk (.bool false)) s3_6]
def x212_1 : List (Ins tf3) := [iMv r3_1 s3_14,iP1 bNil r3_14 s3_15,iP1 (bFa 0) r3_15 s3_16,iR1 bLd r3_16 s3_17,iP1 (bFa 4) r3_5 s3_18,iGr (r1 (rLdn 2)) [r3_18] (some s3_19),iCall (rk (.func (.func 221) #[] #[])) [r3_17,r3_19] (some s3_20),iMv r3_20 s3_13,iGp (l1 (pExt 0)) [r3_13] (some s3_21),iGp (l1 (pExt 1)) [r3_13] (some s3_22),iAs r3_21 s3_7,iAs r3_22 s3_8]
def x212_2 : List (Ins tf3) := [iMv r3_0 s3_23,iMv r3_8 s3_24,iCall (rk (.func (.func 88) #[] #[])) [r3_23,r3_24] (some s3_25)]
def x212_3 : List (Ins tf3) := [iAs (rk (.bool false)) s3_6]
def x212_4 : List (Ins tf3) := [iMv r3_7 s3_26,iGa (aBsl 1 1 [(.int .i64 (.ofNat 0))] [(0,1)]) [r3_26] (some s3_27),iAs r3_27 s3_9]
def x212_5 : List (Ins tf3) := [iP1 (bFa 1) r3_5 s3_28,iR1 bLd r3_28 s3_29,iP2 bNe r3_29 (rk (.int .u8 (.ofNat 2))) s3_30,iMv r3_30 s3_31,iGd r3_31 [.o7,.o3,.o0] true (iP1 (bFa 1) r3_5 s3_32) (some s3_32) rfl rfl rfl,iGd r3_31 [.o7,.o3,.o0] true (iR1 bLd r3_32 s3_33) (some s3_33) rfl rfl rfl,iGd r3_31 [.o7,.o3,.o0] true (iP2 bNe r3_33 (rk (.int .u8 (.ofNat 3))) s3_34) (some s3_34) rfl rfl rfl,iGp (l3 pPick) [r3_31,r3_34,(rk (.bool false))] (some s3_35)]
def x212_6 : List (Ins tf3) := [iMv r3_1 s3_37,iP1 bNil r3_37 s3_38,iP1 (bFa 0) r3_38 s3_39,iR1 bLd r3_39 s3_40,iP1 (bFa 6) r3_5 s3_41,iGr (r1 (rLdn 2)) [r3_41] (some s3_42),iCall (rk (.func (.func 221) #[] #[])) [r3_40,r3_42] (some s3_43),iMv r3_43 s3_36,iGp (l1 (pExt 0)) [r3_36] (some s3_44),iGp (l1 (pExt 1)) [r3_36] (some s3_45),iAs r3_44 s3_10,iAs r3_45 s3_11]
def x212_7 : List (Ins tf3) := [iMv r3_0 s3_46,iMv r3_11 s3_47,iCall (rk (.func (.func 88) #[] #[])) [r3_46,r3_47] (some s3_48)]
def x212_8 : List (Ins tf3) := [iAs (rk (.bool false)) s3_6]
def x212_9 : List (Ins tf3) := [iMv r3_9 s3_49,iMv r3_10 s3_50,iGa (aBsl 1 1 [(.int .i64 (.ofNat 0))] [(0,1)]) [r3_50] (some s3_51),iGm (m2 (sApp 1)) [r3_49,r3_51] (some s3_52),iAs r3_52 s3_9]
def x212_10 : List (Ins tf3) := [iMv r3_0 s3_54,iP1 bNil r3_54 s3_55,iP1 (bFa 0) r3_55 s3_56,iR1 bLd r3_56 s3_57,iP1 (bFa 1) r3_5 s3_58,iR1 bLd r3_58 s3_59,iMv r3_9 s3_60,iCall (rk (.func (.func 66) #[] #[])) [r3_57,r3_59,r3_60] (some s3_61),iMv r3_61 s3_53,iGp (l1 (pExt 0)) [r3_53] (some s3_62),iGp (l1 (pExt 1)) [r3_53] (some s3_63),iAs r3_62 s3_12,iAs r3_63 s3_8]
def x212_11 : List (Ins tf3) := [iMv r3_0 s3_64,iMv r3_1 s3_65,iP1 (bFa 2) r3_5 s3_66,iR1 bLd r3_66 s3_67,iMv r3_12 s3_68,iMv r3_8 s3_69,iCall (rk (.func (.func 222) #[] #[])) [r3_64,r3_65,r3_67,r3_68,r3_69] (some s3_70),iAs r3_70 s3_6]
def x212 : XC tf3 := (.rg x212_0 (.rg x212_1 (.seq (.rg x212_2 (.cond r3_25 (.rg x212_3 .ret) .skip)) (.rg x212_4 (.seq (.rg x212_5 (.cond r3_35 (.rg x212_6 (.seq (.rg x212_7 (.cond r3_48 (.rg x212_8 .ret) .skip)) (.reg x212_9))) .skip)) (.rg x212_10 (.rg x212_11 .ret)))))))
def c212 : Code := Tryz.f212.body.getD .skip
theorem x212_b : Tryz.f212.body = some c212 := by kernel_rfl
theorem x212_c : cG (comp Tryz.prog) 4 3 71 x212 c212 = x212.den := by kernel_rfl
def y212 : List (RR Tryz.prog 3 71 tf3) := [rrT r3_6 6 rfl rfl]
theorem x212_r : y212.map RR.den = Tryz.f212.results.toList := by kernel_rfl
theorem x212_k : okFn Tryz.f212 = true := by kernel_rfl
theorem x212_D : 3 = dep Tryz.f212.ntmps := by kernel_rfl
theorem x212_s : ([s3_0,s3_1,s3_2] : List (Slot tf3)).map Slot.p = (List.range' 0 3).map (pth 3) := by kernel_rfl
def X212 : XFn Tryz.prog 4 (comp Tryz.prog) := ⟨X3,tf3,212,Tryz.f212,c212,3,71,[s3_0,s3_1,s3_2],z3,x212,y212,x212_D,Tryz.ntmps212.symm,Tryz.func212,x212_b,x212_k,x212_s,by decide,z3_ok,x212_c,x212_r⟩
def x215_0 : List (Ins tf2) := [iGa (a1 gBox) [r2_2] (some s2_5),iAs (rk (.bool false)) s2_6]
def x215_1 : List (Ins tf2) := [iMv r2_0 s2_11,iP1 bNil r2_11 s2_12,iP1 (bFa 1) r2_12 s2_13,iP1 (bFa 2) r2_13 s2_14,iR1 bLd r2_14 s2_15,iP1 bLen r2_15 s2_16,iP1 (bFa 3) r2_5 s2_17,iR1 bLd r2_17 s2_18,iMv r2_1 s2_19,iP1 bNil r2_19 s2_20,iP1 (bFa 2) r2_20 s2_21,iP1 (bFa 6) r2_21 s2_22,iR1 bLd r2_22 s2_23,iP1 (bFa 3) r2_5 s2_24,iR1 bLd r2_24 s2_25,iP2 (bIxs 1) r2_23 r2_25 s2_26,iR1 bLd r2_26 s2_27,iCall (rk (.func (.func 229) #[] #[])) [r2_16,r2_18,r2_27] (some s2_28),iMv r2_28 s2_10,iGp (l1 (pExt 0)) [r2_10] (some s2_29),iGp (l1 (pExt 1)) [r2_10] (some s2_30),iAs r2_29 s2_7,iAs r2_30 s2_8]
def x215_2 : List (Ins tf2) := [iMv r2_0 s2_31,iMv r2_8 s2_32,iCall (rk (.func (.func 88) #[] #[])) [r2_31,r2_32] (some s2_33)]
def x215_3 : List (Ins tf2) := [iAs (rk (.bool false)) s2_6]
def x215_4 : List (Ins tf2) := [iMv r2_1 s2_34,iP1 bNil r2_34 s2_35,iP1 (bFa 2) r2_35 s2_36,iP1 (bFa 6) r2_36 s2_37,iR1 bLd r2_37 s2_38,iP1 (bFa 3) r2_5 s2_39,iR1 bLd r2_39 s2_40,iP2 (bIxs 1) r2_38 r2_40 s2_41,iR1 bLd r2_41 s2_42,iP2 bAdd r2_42 (rk (.int .i64 (.ofNat 1))) s2_43,iP2 (bIxs 1) r2_38 r2_40 s2_44,iM2 bSt r2_44 r2_43]
def x215_5 : List (Ins tf2) := [iMv r2_0 s2_46,iP1 bNil r2_46 s2_47,iP1 (bFa 0) r2_47 s2_48,iR1 bLd r2_48 s2_49,iMv r2_7 s2_50,iCall (rk (.func (.func 54) #[] #[])) [r2_49,r2_50] (some s2_51),iMv r2_51 s2_45,iGp (l1 (pExt 0)) [r2_45] (some s2_52),iGp (l1 (pExt 1)) [r2_45] (some s2_53),iAs r2_52 s2_9,iAs r2_53 s2_8]
def x215_6 : List (Ins tf2) := [iMv r2_0 s2_54,iMv r2_1 s2_55,iP1 (bFa 2) r2_5 s2_56,iR1 bLd r2_56 s2_57,iMv r2_9 s2_58,iMv r2_8 s2_59,iCall (rk (.func (.func 222) #[] #[])) [r2_54,r2_55,r2_57,r2_58,r2_59] (some s2_60),iAs r2_60 s2_6]
def x215 : XC tf2 := (.rg x215_0 (.rg x215_1 (.seq (.rg x215_2 (.cond r2_33 (.rg x215_3 .ret) .skip)) (.rg x215_4 (.rg x215_5 (.rg x215_6 .ret))))))
def c215 : Code := Tryz.f215.body.getD .skip
theorem x215_b : Tryz.f215.body = some c215 := by kernel_rfl
theorem x215_c : cG (comp Tryz.prog) 4 2 61 x215 c215 = x215.den := by kernel_rfl
def y215 : List (RR Tryz.prog 2 61 tf2) := [rrT r2_6 6 rfl rfl]
theorem x215_r : y215.map RR.den = Tryz.f215.results.toList := by kernel_rfl
theorem x215_k : okFn Tryz.f215 = true := by kernel_rfl
theorem x215_D : 2 = dep Tryz.f215.ntmps := by kernel_rfl
theorem x215_s : ([s2_0,s2_1,s2_2] : List (Slot tf2)).map Slot.p = (List.range' 0 3).map (pth 2) := by kernel_rfl
def X215 : XFn Tryz.prog 4 (comp Tryz.prog) := ⟨X2,tf2,215,Tryz.f215,c215,2,61,[s2_0,s2_1,s2_2],z2,x215,y215,x215_D,Tryz.ntmps215.symm,Tryz.func215,x215_b,x215_k,x215_s,by decide,z2_ok,x215_c,x215_r⟩
def x216_0 : List (Ins tf2) := [iGa (a1 gBox) [r2_2] (some s2_5),iAs (rk (.bool false)) s2_6]
def x216_1 : List (Ins tf2) := [iMv r2_1 s2_10,iP1 bNil r2_10 s2_11,iP1 (bFa 0) r2_11 s2_12,iR1 bLd r2_12 s2_13,iP1 (bFa 4) r2_5 s2_14,iGr (r1 (rLdn 2)) [r2_14] (some s2_15),iCall (rk (.func (.func 221) #[] #[])) [r2_13,r2_15] (some s2_16),iMv r2_16 s2_9,iGp (l1 (pExt 0)) [r2_9] (some s2_17),iGp (l1 (pExt 1)) [r2_9] (some s2_18),iAs r2_17 s2_7,iAs r2_18 s2_8]
def x216_2 : List (Ins tf2) := [iMv r2_0 s2_19,iMv r2_8 s2_20,iCall (rk (.func (.func 88) #[] #[])) [r2_19,r2_20] (some s2_21)]
def x216_3 : List (Ins tf2) := [iAs (rk (.bool false)) s2_6]
def x216_4 : List (Ins tf2) := [iMv r2_1 s2_22,iMv r2_1 s2_23,iP1 bNil r2_23 s2_24,iP1 (bFa 2) r2_24 s2_25,iP1 (bFa 3) r2_25 s2_26,iR1 bLd r2_26 s2_27,iP1 (bFa 3) r2_5 s2_28,iR1 bLd r2_28 s2_29,iMv r2_7 s2_30,iGp (pBld [(.int .i64 (.ofNat 0)),(.int .i64 (.ofNat 0))] [(0,1),(1,1)]) [r2_29,r2_30] (some s2_31),iGa (aBsl 1 2 [(.int .i64 (.ofNat 0)),(.int .i64 (.ofNat 0))] [(0,2)]) [r2_31] (some s2_32),iGm (m2 (sApp 2)) [r2_27,r2_32] (some s2_33),iP1 bNil r2_22 s2_34,iP1 (bFa 2) r2_34 s2_35,iP1 (bFa 3) r2_35 s2_36,iM2 bSt r2_36 r2_33]
def x216_5 : List (Ins tf2) := [iMv r2_1 s2_37,iP1 bNil r2_37 s2_38,iP1 (bFa 1) r2_38 s2_39,iR1 bLd r2_39 s2_40,iP2 bAdd r2_40 (rk (.int .i64 (.ofNat 1))) s2_41,iP1 bNil r2_37 s2_42,iP1 (bFa 1) r2_42 s2_43,iM2 bSt r2_43 r2_41]
def x216_6 : List (Ins tf2) := [iMv r2_0 s2_44,iMv r2_0 s2_45,iP1 bNil r2_45 s2_46,iP1 (bFa 8) r2_46 s2_47,iR1 bLd r2_47 s2_48,iMv r2_1 s2_49,iP1 bNil r2_49 s2_50,iGr (r1 (rLdn 9)) [r2_50] (some s2_51),iGa (aBsl 1 9 [(.pointer none),(.int .i64 (.ofNat 0)),(.slice none 0 0),(.int .u8 (.ofNat 0)),(.int .i64 (.ofNat 0)),(.slice none 0 0),(.slice none 0 0),(.slice none 0 0),(.slice none 0 0)] [(0,9)]) [r2_51] (some s2_52),iGm (m2 (sApp 9)) [r2_48,r2_52] (some s2_53),iP1 bNil r2_44 s2_54,iP1 (bFa 8) r2_54 s2_55,iM2 bSt r2_55 r2_53]
def x216_7 : List (Ins tf2) := [iAs (rk (.bool false)) s2_6]
def x216 : XC tf2 := (.rg x216_0 (.rg x216_1 (.seq (.rg x216_2 (.cond r2_21 (.rg x216_3 .ret) .skip)) (.rg x216_4 (.rg x216_5 (.rg x216_6 (.rg x216_7 .ret)))))))
def c216 : Code := Tryz.f216.body.getD .skip
theorem x216_b : Tryz.f216.body = some c216 := by kernel_rfl
theorem x216_c : cG (comp Tryz.prog) 4 2 56 x216 c216 = x216.den := by kernel_rfl
def y216 : List (RR Tryz.prog 2 56 tf2) := [rrT r2_6 6 rfl rfl]
theorem x216_r : y216.map RR.den = Tryz.f216.results.toList := by kernel_rfl
theorem x216_k : okFn Tryz.f216 = true := by kernel_rfl
theorem x216_D : 2 = dep Tryz.f216.ntmps := by kernel_rfl
theorem x216_s : ([s2_0,s2_1,s2_2] : List (Slot tf2)).map Slot.p = (List.range' 0 3).map (pth 2) := by kernel_rfl
def X216 : XFn Tryz.prog 4 (comp Tryz.prog) := ⟨X2,tf2,216,Tryz.f216,c216,2,56,[s2_0,s2_1,s2_2],z2,x216,y216,x216_D,Tryz.ntmps216.symm,Tryz.func216,x216_b,x216_k,x216_s,by decide,z2_ok,x216_c,x216_r⟩
def x219_0 : List (Ins tf2) := [iGa (a1 gBox) [r2_2] (some s2_5),iAs (rk (.bool false)) s2_6]
def x219_1 : List (Ins tf2) := [iMv r2_1 s2_12,iP1 bNil r2_12 s2_13,iP1 (bFa 0) r2_13 s2_14,iR1 bLd r2_14 s2_15,iP1 (bFa 4) r2_5 s2_16,iGr (r1 (rLdn 2)) [r2_16] (some s2_17),iCall (rk (.func (.func 221) #[] #[])) [r2_15,r2_17] (some s2_18),iMv r2_18 s2_11,iGp (l1 (pExt 0)) [r2_11] (some s2_19),iGp (l1 (pExt 1)) [r2_11] (some s2_20),iAs r2_19 s2_7,iAs r2_20 s2_8]
def x219_2 : List (Ins tf2) := [iMv r2_0 s2_21,iMv r2_8 s2_22,iCall (rk (.func (.func 88) #[] #[])) [r2_21,r2_22] (some s2_23)]
def x219_3 : List (Ins tf2) := [iAs (rk (.bool false)) s2_6]
def x219_4 : List (Ins tf2) := [iMv r2_0 s2_25,iP1 bNil r2_25 s2_26,iP1 (bFa 0) r2_26 s2_27,iR1 bLd r2_27 s2_28,iCall (rk (.func (.func 52) #[] #[])) [r2_28,(rk (.int .u64 (.ofNat 0)))] (some s2_29),iMv r2_29 s2_24,iGp (l1 (pExt 0)) [r2_24] (some s2_30),iGp (l1 (pExt 1)) [r2_24] (some s2_31),iAs r2_30 s2_9,iAs r2_31 s2_8]
def x219_5 : List (Ins tf2) := [iMv r2_0 s2_32,iMv r2_8 s2_33,iCall (rk (.func (.func 88) #[] #[])) [r2_32,r2_33] (some s2_34)]
def x219_6 : List (Ins tf2) := [iAs (rk (.bool false)) s2_6]
def x219_7 : List (Ins tf2) := [iMv r2_0 s2_36,iP1 bNil r2_36 s2_37,iP1 (bFa 0) r2_37 s2_38,iR1 bLd r2_38 s2_39,iMv r2_7 s2_40,iMv r2_9 s2_41,iGa (aBsl 2 1 [(.int .i64 (.ofNat 0))] [(0,1),(1,1)]) [r2_40,r2_41] (some s2_42),iCall (rk (.func (.func 66) #[] #[])) [r2_39,(rk (.int .u8 (.ofNat 15))),r2_42] (some s2_43),iMv r2_43 s2_35,iGp (l1 (pExt 0)) [r2_35] (some s2_44),iGp (l1 (pExt 1)) [r2_35] (some s2_45),iAs r2_44 s2_10,iAs r2_45 s2_8]
def x219_8 : List (Ins tf2) := [iMv r2_0 s2_46,iMv r2_8 s2_47,iCall (rk (.func (.func 88) #[] #[])) [r2_46,r2_47] (some s2_48)]
def x219_9 : List (Ins tf2) := [iAs (rk (.bool false)) s2_6]
def x219_10 : List (Ins tf2) := [iMv r2_0 s2_49,iMv r2_1 s2_50,iP1 bNil r2_50 s2_51,iGr (r1 (rLdn 9)) [r2_51] (some s2_52),iMv r2_10 s2_53,iGp (pMkf (.func 232) 0) [r2_5] (some s2_54),iCall (rk (.func (.func 230) #[] #[])) [r2_49,r2_52,r2_53,(rk (.func (.func 231) #[] #[])),r2_54] (some s2_55)]
def x219_11 : List (Ins tf2) := [iAs (rk (.bool false)) s2_6]
def x219 : XC tf2 := (.rg x219_0 (.rg x219_1 (.seq (.rg x219_2 (.cond r2_23 (.rg x219_3 .ret) .skip)) (.rg x219_4 (.seq (.rg x219_5 (.cond r2_34 (.rg x219_6 .ret) .skip)) (.rg x219_7 (.seq (.rg x219_8 (.cond r2_48 (.rg x219_9 .ret) .skip)) (.rg x219_10 (.rg x219_11 .ret)))))))))
def c219 : Code := Tryz.f219.body.getD .skip
theorem x219_b : Tryz.f219.body = some c219 := by kernel_rfl
theorem x219_c : cG (comp Tryz.prog) 4 2 56 x219 c219 = x219.den := by kernel_rfl
def y219 : List (RR Tryz.prog 2 56 tf2) := [rrT r2_6 6 rfl rfl]
theorem x219_r : y219.map RR.den = Tryz.f219.results.toList := by kernel_rfl
theorem x219_k : okFn Tryz.f219 = true := by kernel_rfl
theorem x219_D : 2 = dep Tryz.f219.ntmps := by kernel_rfl
theorem x219_s : ([s2_0,s2_1,s2_2] : List (Slot tf2)).map Slot.p = (List.range' 0 3).map (pth 2) := by kernel_rfl
def X219 : XFn Tryz.prog 4 (comp Tryz.prog) := ⟨X2,tf2,219,Tryz.f219,c219,2,56,[s2_0,s2_1,s2_2],z2,x219,y219,x219_D,Tryz.ntmps219.symm,Tryz.func219,x219_b,x219_k,x219_s,by decide,z2_ok,x219_c,x219_r⟩
def x220_0 : List (Ins tf2) := [iGa (a1 gBox) [r2_2] (some s2_5),iAs (rk (.bool false)) s2_6]
def x220_1 : List (Ins tf2) := [iMv r2_1 s2_7,iP1 bNil r2_7 s2_8,iP1 (bFa 2) r2_8 s2_9,iP1 (bFa 1) r2_9 s2_10,iM2 bSt r2_10 (rk (.int .u8 (.ofNat 0)))]
def x220_2 : List (Ins tf2) := [iAs (rk (.bool true)) s2_6]
def x220 : XC tf2 := (.rg x220_0 (.rg x220_1 (.rg x220_2 .ret)))
def c220 : Code := Tryz.f220.body.getD .skip
theorem x220_b : Tryz.f220.body = some c220 := by kernel_rfl
theorem x220_c : cG (comp Tryz.prog) 4 2 11 x220 c220 = x220.den := by kernel_rfl
def y220 : List (RR Tryz.prog 2 11 tf2) := [rrT r2_6 6 rfl rfl]
theorem x220_r : y220.map RR.den = Tryz.f220.results.toList := by kernel_rfl
theorem x220_k : okFn Tryz.f220 = true := by kernel_rfl
theorem x220_D : 2 = dep Tryz.f220.ntmps := by kernel_rfl
theorem x220_s : ([s2_0,s2_1,s2_2] : List (Slot tf2)).map Slot.p = (List.range' 0 3).map (pth 2) := by kernel_rfl
def X220 : XFn Tryz.prog 4 (comp Tryz.prog) := ⟨X2,tf2,220,Tryz.f220,c220,2,11,[s2_0,s2_1,s2_2],z2,x220,y220,x220_D,Tryz.ntmps220.symm,Tryz.func220,x220_b,x220_k,x220_s,by decide,z2_ok,x220_c,x220_r⟩
def x221_0 : List (Ins tf2) := [iGa (a1 gBox) [r2_1] (some s2_3),iAs (rk (.int .i64 (.ofNat 0))) s2_4,iAs (rk (.int .i64 (.ofNat 0))) s2_5]
def x221_1 : List (Ins tf2) := [iMv r2_0 s2_6,iGp (l2 (pEqD (tdOf 180) false)) [r2_6,(rk (.pointer none))] (some s2_7)]
def x221_2 : List (Ins tf2) := [iAs (rk (.int .i64 (.ofNat 0))) s2_4,iAs (rk (.int .i64 (.ofNat 1))) s2_5]
def x221_3 : List (Ins tf2) := [iP1 (bFa 0) r2_3 s2_8,iR1 bLd r2_8 s2_9,iP2 bLt r2_9 (rk (.int .i64 (.negSucc 0))) s2_10,iMv r2_10 s2_11,iGd r2_11 [.o3,.o1] false (iP1 (bFa 0) r2_3 s2_12) (some s2_12) rfl rfl rfl,iGd r2_11 [.o3,.o1] false (iR1 bLd r2_12 s2_13) (some s2_13) rfl rfl rfl,iGd r2_11 [.o3,.o1] false (iMv r2_0 s2_14) (some s2_14) rfl rfl rfl,iGd r2_11 [.o3,.o1] false (iP1 bNil r2_14 s2_15) (some s2_15) rfl rfl rfl,iGd r2_11 [.o3,.o1] false (iP1 (bFa 1) r2_15 s2_16) (some s2_16) rfl rfl rfl,iGd r2_11 [.o3,.o1] false (iR1 bLd r2_16 s2_17) (some s2_17) rfl rfl rfl,iGd r2_11 [.o3,.o1] false (iP1 bLen r2_17 s2_18) (some s2_18) rfl rfl rfl,iGd r2_11 [.o3,.o1] false (iP2 bGe r2_13 r2_18 s2_19) (some s2_19) rfl rfl rfl,iGp (l3 pPick) [r2_11,(rk (.bool true)),r2_19] (some s2_20)]
def x221_4 : List (Ins tf2) := [iAs (rk (.int .i64 (.ofNat 0))) s2_4,iAs (rk (.int .i64 (.ofNat 3))) s2_5]
def x221_5 : List (Ins tf2) := [iP1 (bFa 0) r2_3 s2_21,iR1 bLd r2_21 s2_22,iP2 bEq r2_22 (rk (.int .i64 (.negSucc 0))) s2_23]
def x221_6 : List (Ins tf2) := [iMv r2_0 s2_24,iP1 bNil r2_24 s2_25,iP1 (bFa 0) r2_25 s2_26,iR1 bLd r2_26 s2_27,iP1 (bFa 1) r2_3 s2_28,iR1 bLd r2_28 s2_29,iCall (rk (.func (.func 52) #[] #[])) [r2_27,r2_29] (some s2_30),iGp (l1 (pExt 0)) [r2_30] (some s2_31),iGp (l1 (pExt 1)) [r2_30] (some s2_32),iAs r2_31 s2_4,iAs r2_32 s2_5]
def x221_7 : List (Ins tf2) := [iMv r2_0 s2_33,iP1 bNil r2_33 s2_34,iP1 (bFa 1) r2_34 s2_35,iR1 bLd r2_35 s2_36,iP1 (bFa 0) r2_3 s2_37,iR1 bLd r2_37 s2_38,iP2 (bIxs 1) r2_36 r2_38 s2_39,iR1 bLd r2_39 s2_40,iAs r2_40 s2_4,iAs (rk (.int .i64 (.ofNat 0))) s2_5]
def x221 : XC tf2 := (.rg x221_0 (.seq (.rg x221_1 (.cond r2_7 (.rg x221_2 .ret) .skip)) (.seq (.rg x221_3 (.cond r2_20 (.rg x221_4 .ret) .skip)) (.seq (.rg x221_5 (.cond r2_23 (.rg x221_6 .ret) .skip)) (.rg x221_7 .ret)))))
def c221 : Code := Tryz.f221.body.getD .skip
theorem x221_b : Tryz.f221.body = some c221 := by kernel_rfl
theorem x221_c : cG (comp Tryz.prog) 4 2 41 x221 c221 = x221.den := by kernel_rfl
def y221 : List (RR Tryz.prog 2 41 tf2) := [rrT r2_4 4 rfl rfl,rrT r2_5 5 rfl rfl]
theorem x221_r : y221.map RR.den = Tryz.f221.results.toList := by kernel_rfl
theorem x221_k : okFn Tryz.f221 = true := by kernel_rfl
theorem x221_D : 2 = dep Tryz.f221.ntmps := by kernel_rfl
theorem x221_s : ([s2_0,s2_1] : List (Slot tf2)).map Slot.p = (List.range' 0 2).map (pth 2) := by kernel_rfl
def X221 : XFn Tryz.prog 4 (comp Tryz.prog) := ⟨X2,tf2,221,Tryz.f221,c221,2,41,[s2_0,s2_1],z2,x221,y221,x221_D,Tryz.ntmps221.symm,Tryz.func221,x221_b,x221_k,x221_s,by decide,z2_ok,x221_c,x221_r⟩
def x222_0 : List (Ins tf2) := [iAs (rk (.bool false)) s2_10]
def x222_1 : List (Ins tf2) := [iMv r2_0 s2_11,iMv r2_4 s2_12,iCall (rk (.func (.func 88) #[] #[])) [r2_11,r2_12] (some s2_13),iMv r2_13 s2_14,iGd r2_14 [.o6,.o1] false (iMv r2_0 s2_15) (some s2_15) rfl rfl rfl,iGd r2_14 [.o6,.o1] false (iMv r2_1 s2_16) (some s2_16) rfl rfl rfl,iGd r2_14 [.o6,.o1] false (iP1 bNil r2_16 s2_17) (some s2_17) rfl rfl rfl,iGd r2_14 [.o6,.o1] false (iP1 (bFa 0) r2_17 s2_18) (some s2_18) rfl rfl rfl,iGd r2_14 [.o6,.o1] false (iR1 bLd r2_18 s2_19) (some s2_19) rfl rfl rfl,iGd r2_14 [.o6,.o1] false (iMv r2_2 s2_20) (some s2_20) rfl rfl rfl,iGd r2_14 [.o6,.o1] false (iMv r2_3 s2_21) (some s2_21) rfl rfl rfl,iGd r2_14 [.o6,.o1] false (iCall (rk (.func (.func 226) #[] #[])) [r2_19,r2_20,r2_21] (some s2_22)) (some s2_22) rfl rfl rfl,iGd r2_14 [.o6,.o1] false (iCall (rk (.func (.func 88) #[] #[])) [r2_15,r2_22] (some s2_23)) (some s2_23) rfl rfl rfl,iGp (l3 pPick) [r2_14,(rk (.bool true)),r2_23] (some s2_24)]
def x222_2 : List (Ins tf2) := [iAs (rk (.bool false)) s2_10]
def x222_3 : List (Ins tf2) := [iMv r2_1 s2_25,iP1 bNil r2_25 s2_26,iP1 (bFa 1) r2_26 s2_27,iR1 bLd r2_27 s2_28,iP2 bAdd r2_28 (rk (.int .i64 (.ofNat 1))) s2_29,iP1 bNil r2_25 s2_30,iP1 (bFa 1) r2_30 s2_31,iM2 bSt r2_31 r2_29]
def x222_4 : List (Ins tf2) := [iMv r2_0 s2_32,iMv r2_0 s2_33,iP1 bNil r2_33 s2_34,iP1 (bFa 8) r2_34 s2_35,iR1 bLd r2_35 s2_36,iMv r2_1 s2_37,iP1 bNil r2_37 s2_38,iGr (r1 (rLdn 9)) [r2_38] (some s2_39),iGa (aBsl 1 9 [(.pointer none),(.int .i64 (.ofNat 0)),(.slice none 0 0),(.int .u8 (.ofNat 0)),(.int .i64 (.ofNat 0)),(.slice none 0 0),(.slice none 0 0),(.slice none 0 0),(.slice none 0 0)] [(0,9)]) [r2_39] (some s2_40),iGm (m2 (sApp 9)) [r2_36,r2_40] (some s2_41),iP1 bNil r2_32 s2_42,iP1 (bFa 8) r2_42 s2_43,iM2 bSt r2_43 r2_41]
def x222_5 : List (Ins tf2) := [iAs (rk (.bool false)) s2_10]
def x222 : XC tf2 := (.rg x222_0 (.seq (.rg x222_1 (.cond r2_24 (.rg x222_2 .ret) .skip)) (.rg x222_3 (.rg x222_4 (.rg x222_5 .ret)))))
def c222 : Code := Tryz.f222.body.getD .skip
theorem x222_b : Tryz.f222.body = some c222 := by kernel_rfl
theorem x222_c : cG (comp Tryz.prog) 4 2 44 x222 c222 = x222.den := by kernel_rfl
def y222 : List (RR Tryz.prog 2 44 tf2) := [rrT r2_10 10 rfl rfl]
theorem x222_r : y222.map RR.den = Tryz.f222.results.toList := by kernel_rfl
theorem x222_k : okFn Tryz.f222 = true := by kernel_rfl
theorem x222_D : 2 = dep Tryz.f222.ntmps := by kernel_rfl
theorem x222_s : ([s2_0,s2_1,s2_2,s2_3,s2_4] : List (Slot tf2)).map Slot.p = (List.range' 0 5).map (pth 2) := by kernel_rfl
def X222 : XFn Tryz.prog 4 (comp Tryz.prog) := ⟨X2,tf2,222,Tryz.f222,c222,2,44,[s2_0,s2_1,s2_2,s2_3,s2_4],z2,x222,y222,x222_D,Tryz.ntmps222.symm,Tryz.func222,x222_b,x222_k,x222_s,by decide,z2_ok,x222_c,x222_r⟩
end
end Cr
end Go.Proofs.YtjhbabgcoemecaaGreatDoor
