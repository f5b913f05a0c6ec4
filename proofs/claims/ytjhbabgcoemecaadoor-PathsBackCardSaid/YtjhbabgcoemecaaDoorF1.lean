/- A machine for closed runs: for the compiled functions. (and what follows on it). -/
import Derived.Test.YtjhbabgcoemecaaDoorProg
import Derived.Test.YtjhbabgcoemecaaDoorK3
import Derived.KernelRfl
namespace Go.Proofs.YtjhbabgcoemecaaDoor
namespace Cr
open Go Go.RowKit
noncomputable def tdOf (t : TypeId) : TypeDesc := (Tryd.prog.underlying t).getD .bool
end Cr
end Go.Proofs.YtjhbabgcoemecaaDoor
namespace Go.Proofs.YtjhbabgcoemecaaDoor
namespace Cr
open Go Go.RowKit
set_option maxRecDepth 100000
noncomputable section
def x11_0 : List (Ins tf2) := [iAs (rk (.int .i64 (.ofNat 0))) s2_6,iAs (rk (.int .i64 (.ofNat 0))) s2_7]
def x11_1 : List (Ins tf2) := [iMv r2_0 s2_8,iP2 bLt r2_8 (rk (.int .i64 (.ofNat 1))) s2_9,iMv r2_9 s2_10,iGd r2_10 [.o2,.o1] false (iMv r2_0 s2_11) (some s2_11) rfl rfl rfl,iGd r2_10 [.o2,.o1] false (iP2 bGt r2_11 (rk (.int .i64 (.ofNat 32))) s2_12) (some s2_12) rfl rfl rfl,iGp (l3 pPick) [r2_10,(rk (.bool true)),r2_12] (some s2_13),iMv r2_13 s2_14,iGd r2_14 [.o6,.o1] false (iMv r2_1 s2_15) (some s2_15) rfl rfl rfl,iGd r2_14 [.o6,.o1] false (iP2 bLt r2_15 (rk (.int .i64 (.ofNat 0))) s2_16) (some s2_16) rfl rfl rfl,iGp (l3 pPick) [r2_14,(rk (.bool true)),r2_16] (some s2_17),iMv r2_17 s2_18,iGd r2_18 [.o2,.o2] false (iMv r2_1 s2_19) (some s2_19) rfl rfl rfl,iGd r2_18 [.o2,.o2] false (iMv r2_0 s2_20) (some s2_20) rfl rfl rfl,iGd r2_18 [.o2,.o2] false (iP2 bGe r2_19 r2_20 s2_21) (some s2_21) rfl rfl rfl,iGp (l3 pPick) [r2_18,(rk (.bool true)),r2_21] (some s2_22),iMv r2_22 s2_23,iGd r2_23 [.o7,.o2] false (iMv r2_2 s2_24) (some s2_24) rfl rfl rfl,iGd r2_23 [.o7,.o2] false (iP2 bLt r2_24 (rk (.int .i64 (.ofNat 0))) s2_25) (some s2_25) rfl rfl rfl,iGp (l3 pPick) [r2_23,(rk (.bool true)),r2_25] (some s2_26),iMv r2_26 s2_27,iGd r2_27 [.o3,.o3] false (iMv r2_2 s2_28) (some s2_28) rfl rfl rfl,iGd r2_27 [.o3,.o3] false (iP2 bGe r2_28 (rk (.int .i64 (.ofNat 65536))) s2_29) (some s2_29) rfl rfl rfl,iGp (l3 pPick) [r2_27,(rk (.bool true)),r2_29] (some s2_30)]
def x11_2 : List (Ins tf2) := [iAs (rk (.int .i64 (.ofNat 0))) s2_6,iAs (rk (.int .i64 (.ofNat 3))) s2_7]
def x11_3 : List (Ins tf2) := [iMv r2_2 s2_31,iMv r2_0 s2_32,iGp (l2 (pBin .mul)) [r2_31,r2_32] (some s2_33),iMv r2_1 s2_34,iP2 bAdd r2_33 r2_34 s2_35,iGp (l2 (pBin .mul)) [(rk (.int .i64 (.ofNat 2))),r2_35] (some s2_36),iAs r2_36 s2_6,iAs (rk (.int .i64 (.ofNat 0))) s2_7]
def x11 : XC tf2 := (.rg x11_0 (.seq (.rg x11_1 (.cond r2_30 (.rg x11_2 .ret) .skip)) (.rg x11_3 .ret)))
def c11 : Code := Tryd.f11.body.getD .skip
theorem x11_b : Tryd.f11.body = some c11 := by kernel_rfl
theorem x11_c : cG (comp Tryd.prog) 2 2 37 x11 c11 = x11.den := by kernel_rfl
def y11 : List (RR Tryd.prog 2 37 tf2) := [rrT r2_6 6 rfl rfl,rrT r2_7 7 rfl rfl]
theorem x11_r : y11.map RR.den = Tryd.f11.results.toList := by kernel_rfl
theorem x11_k : okFn Tryd.f11 = true := by kernel_rfl
theorem x11_D : 2 = dep Tryd.f11.ntmps := by kernel_rfl
theorem x11_s : ([s2_0,s2_1,s2_2] : List (Slot tf2)).map Slot.p = (List.range' 0 3).map (pth 2) := by kernel_rfl
def X11 : XFn Tryd.prog 2 (comp Tryd.prog) := ⟨X2,tf2,11,Tryd.f11,c11,2,37,[s2_0,s2_1,s2_2],z2,x11,y11,x11_D,Tryd.ntmps11.symm,Tryd.func11,x11_b,x11_k,x11_s,by decide,z2_ok,x11_c,x11_r⟩
def x14_0 : List (Ins tf2) := [iGa (aAl 6 [(.int .i64 (.ofNat 0)),(.int .i64 (.ofNat 0)),(.slice none 0 0),(.slice none 0 0),(.slice none 0 0),(.slice none 0 0)]) [] (some s2_2)]
def x14_1 : List (Ins tf2) := [iAs (rk (.func (.func 38) #[] #[])) s2_3]
def x14_2 : List (Ins tf2) := [iGa (aBsl 2 1 [(.string ⟨⟨[]⟩⟩)] [(0,1),(1,1)]) [(rk (.string ⟨⟨[112,117,98]⟩⟩)),(rk (.string ⟨⟨[115,101,99]⟩⟩))] (some s2_4),iGp (pBld [(.int .u8 (.ofNat 0)),(.int .u8 (.ofNat 0)),(.int .i64 (.ofNat 0)),(.int .i64 (.ofNat 0)),(.int .i64 (.ofNat 0)),(.int .u64 (.ofNat 0)),(.int .i64 (.ofNat 0)),(.int .u64 (.ofNat 0))] [(0,1),(2,1),(3,1)]) [(rk (.int .u8 (.ofNat 4))),(rk (.int .i64 (.ofNat 0))),(rk (.int .i64 (.ofNat 1)))] (some s2_5),iGp (pBld [(.int .i64 (.ofNat 0)),(.int .u64 (.ofNat 0))] [(0,1)]) [(rk (.int .i64 (.ofNat 0)))] (some s2_6),iMv r2_3 s2_7,iCall r2_7 [(rk (.int .u64 (.ofNat 3)))] (some s2_8),iGp (pBld [(.int .u8 (.ofNat 0)),(.int .u8 (.ofNat 0)),(.int .i64 (.ofNat 0)),(.int .i64 (.ofNat 0)),(.int .i64 (.ofNat 0)),(.int .u64 (.ofNat 0)),(.int .i64 (.ofNat 0)),(.int .u64 (.ofNat 0))] [(0,1),(1,1),(2,1),(4,2),(6,2)]) [(rk (.int .u8 (.ofNat 1))),(rk (.int .u8 (.ofNat 15))),(rk (.int .i64 (.ofNat 1))),r2_6,r2_8] (some s2_9),iGp (pBld [(.int .i64 (.ofNat 0)),(.int .u64 (.ofNat 0))] [(0,1)]) [(rk (.int .i64 (.ofNat 1)))] (some s2_10),iGp (pBld [(.int .u8 (.ofNat 0)),(.int .u8 (.ofNat 0)),(.int .i64 (.ofNat 0)),(.int .i64 (.ofNat 0)),(.int .i64 (.ofNat 0)),(.int .u64 (.ofNat 0)),(.int .i64 (.ofNat 0)),(.int .u64 (.ofNat 0))] [(0,1),(3,1),(4,2)]) [(rk (.int .u8 (.ofNat 8))),(rk (.int .i64 (.ofNat 5))),r2_10] (some s2_11),iMv r2_3 s2_12,iCall r2_12 [(rk (.int .u64 (.ofNat 1)))] (some s2_13),iGp (pBld [(.int .u8 (.ofNat 0)),(.int .u8 (.ofNat 0)),(.int .i64 (.ofNat 0)),(.int .i64 (.ofNat 0)),(.int .i64 (.ofNat 0)),(.int .u64 (.ofNat 0)),(.int .i64 (.ofNat 0)),(.int .u64 (.ofNat 0))] [(0,1),(4,2)]) [(rk (.int .u8 (.ofNat 5))),r2_13] (some s2_14),iGp (pBld [(.int .u8 (.ofNat 0)),(.int .u8 (.ofNat 0)),(.int .i64 (.ofNat 0)),(.int .i64 (.ofNat 0)),(.int .i64 (.ofNat 0)),(.int .u64 (.ofNat 0)),(.int .i64 (.ofNat 0)),(.int .u64 (.ofNat 0))] [(0,1)]) [(rk (.int .u8 (.ofNat 9)))] (some s2_15),iMv r2_3 s2_16,iMv r2_0 s2_17,iCall r2_16 [r2_17] (some s2_18),iGp (pBld [(.int .u8 (.ofNat 0)),(.int .u8 (.ofNat 0)),(.int .i64 (.ofNat 0)),(.int .i64 (.ofNat 0)),(.int .i64 (.ofNat 0)),(.int .u64 (.ofNat 0)),(.int .i64 (.ofNat 0)),(.int .u64 (.ofNat 0))] [(0,1),(4,2)]) [(rk (.int .u8 (.ofNat 5))),r2_18] (some s2_19),iGp (pBld [(.int .u8 (.ofNat 0)),(.int .u8 (.ofNat 0)),(.int .i64 (.ofNat 0)),(.int .i64 (.ofNat 0)),(.int .i64 (.ofNat 0)),(.int .u64 (.ofNat 0)),(.int .i64 (.ofNat 0)),(.int .u64 (.ofNat 0))] [(0,1)]) [(rk (.int .u8 (.ofNat 9)))] (some s2_20),iGa (aBsl 7 8 [(.int .u8 (.ofNat 0)),(.int .u8 (.ofNat 0)),(.int .i64 (.ofNat 0)),(.int .i64 (.ofNat 0)),(.int .i64 (.ofNat 0)),(.int .u64 (.ofNat 0)),(.int .i64 (.ofNat 0)),(.int .u64 (.ofNat 0))] [(0,8),(8,8),(16,8),(24,8),(32,8),(40,8),(48,8)]) [r2_5,r2_9,r2_11,r2_14,r2_15,r2_19,r2_20] (some s2_21),iGp (pBld [(.int .i64 (.ofNat 0)),(.int .i64 (.ofNat 0)),(.slice none 0 0),(.slice none 0 0),(.slice none 0 0),(.slice none 0 0)] [(0,1),(1,1),(2,1),(5,1)]) [(rk (.int .i64 (.ofNat 2))),(rk (.int .i64 (.ofNat 2))),r2_4,r2_21] (some s2_22),iGm (m2 (sStn 6)) [r2_2,r2_22] none]
def x14 : XC tf2 := (.rg x14_0 (.rg x14_1 (.rg x14_2 .ret)))
def c14 : Code := Tryd.f14.body.getD .skip
theorem x14_b : Tryd.f14.body = some c14 := by kernel_rfl
theorem x14_c : cG (comp Tryd.prog) 2 2 23 x14 c14 = x14.den := by kernel_rfl
def y14 : List (RR Tryd.prog 2 23 tf2) := [rrS (.cell 2 31)]
theorem x14_r : y14.map RR.den = Tryd.f14.results.toList := by kernel_rfl
theorem x14_k : okFn Tryd.f14 = true := by kernel_rfl
theorem x14_D : 2 = dep Tryd.f14.ntmps := by kernel_rfl
theorem x14_s : ([s2_0] : List (Slot tf2)).map Slot.p = (List.range' 0 1).map (pth 2) := by kernel_rfl
def X14 : XFn Tryd.prog 2 (comp Tryd.prog) := ⟨X2,tf2,14,Tryd.f14,c14,2,23,[s2_0],z2,x14,y14,x14_D,Tryd.ntmps14.symm,Tryd.func14,x14_b,x14_k,x14_s,by decide,z2_ok,x14_c,x14_r⟩
def x15_0 : List (Ins tf2) := [iGa (a1 gBox) [r2_0] (some s2_1),iAs (rk (.pointer none)) s2_2]
def x15_1 : List (Ins tf2) := [iP1 (bFa 0) r2_1 s2_6,iR1 bLd r2_6 s2_7,iCall (rk (.func (.func 39) #[] #[])) [r2_7,(rk (.int .i64 (.ofNat 1048576)))] (some s2_8),iMv r2_8 s2_5,iGp (l1 (pExt 0)) [r2_5] (some s2_9),iGp (l1 (pExt 1)) [r2_5] (some s2_10),iAs r2_9 s2_3,iAs r2_10 s2_4]
def x15_2 : List (Ins tf2) := [iMv r2_4 s2_11,iP2 bNe r2_11 (rk (.int .i64 (.ofNat 0))) s2_12]
def x15_3 : List (Ins tf2) := [iAs (rk (.pointer none)) s2_2]
def x15_4 : List (Ins tf2) := [iMv r2_3 s2_13,iAs r2_13 s2_2]
def x15 : XC tf2 := (.rg x15_0 (.rg x15_1 (.seq (.rg x15_2 (.cond r2_12 (.rg x15_3 .ret) .skip)) (.rg x15_4 .ret))))
def c15 : Code := Tryd.f15.body.getD .skip
theorem x15_b : Tryd.f15.body = some c15 := by kernel_rfl
theorem x15_c : cG (comp Tryd.prog) 2 2 14 x15 c15 = x15.den := by kernel_rfl
def y15 : List (RR Tryd.prog 2 14 tf2) := [rrT r2_2 2 rfl rfl]
theorem x15_r : y15.map RR.den = Tryd.f15.results.toList := by kernel_rfl
theorem x15_k : okFn Tryd.f15 = true := by kernel_rfl
theorem x15_D : 2 = dep Tryd.f15.ntmps := by kernel_rfl
theorem x15_s : ([s2_0] : List (Slot tf2)).map Slot.p = (List.range' 0 1).map (pth 2) := by kernel_rfl
def X15 : XFn Tryd.prog 2 (comp Tryd.prog) := ⟨X2,tf2,15,Tryd.f15,c15,2,14,[s2_0],z2,x15,y15,x15_D,Tryd.ntmps15.symm,Tryd.func15,x15_b,x15_k,x15_s,by decide,z2_ok,x15_c,x15_r⟩
def x16_0 : List (Ins tf3) := [iGa (a1 gBox) [r3_1] (some s3_6),iAs (rk (.slice none 0 0)) s3_10,iAs (rk (.int .u8 (.ofNat 0))) s3_11,iAs (rk (.int .i64 (.ofNat 0))) s3_12]
def x16_1 : List (Ins tf3) := [iMv r3_0 s3_18,iGp (l2 (pEqD (tdOf 34) false)) [r3_18,(rk (.pointer none))] (some s3_19)]
def x16_2 : List (Ins tf3) := [iAs (rk (.slice none 0 0)) s3_10,iAs (rk (.int .u8 (.ofNat 0))) s3_11,iAs (rk (.int .i64 (.ofNat 1))) s3_12]
def x16_3 : List (Ins tf3) := [iGr (r1 (rLdn 6)) [r3_6] (some s3_20),iCall (rk (.func (.func 40) #[] #[])) [r3_20] (some s3_21),iP2 bNe r3_21 (rk (.int .i64 (.ofNat 0))) s3_22,iMv r3_22 s3_23,iGd r3_23 [.o7,.o2,.o0] false (iP1 (bFa 0) r3_6 s3_24) (some s3_24) rfl rfl rfl,iGd r3_23 [.o7,.o2,.o0] false (iR1 bLd r3_24 s3_25) (some s3_25) rfl rfl rfl,iGd r3_23 [.o7,.o2,.o0] false (iMv r3_0 s3_26) (some s3_26) rfl rfl rfl,iRc (iGd r3_23 [.o7,.o2,.o0] false (iCall (rk (.func (.func 41) #[] #[])) [r3_26] (some s3_27)) (some s3_27) rfl rfl rfl) [(rcS ⟨(some ([.o7,.o2,.o0],false)),.r (r1 rLd),[(.t [.o0,.o3,.o0])],(some [.o1,.o3,.o0])⟩)] rfl,iGd r3_23 [.o7,.o2,.o0] false (iP2 bNe r3_25 r3_27 s3_28) (some s3_28) rfl rfl rfl,iGp (l3 pPick) [r3_23,(rk (.bool true)),r3_28] (some s3_29)]
def x16_4 : List (Ins tf3) := [iAs (rk (.slice none 0 0)) s3_10,iAs (rk (.int .u8 (.ofNat 0))) s3_11,iAs (rk (.int .i64 (.ofNat 2))) s3_12]
def x16_5 : List (Ins tf3) := [iMv r3_2 s3_30,iP2 bLt r3_30 (rk (.int .i64 (.ofNat 1))) s3_31,iMv r3_31 s3_32,iGd r3_32 [.o0,.o4,.o0] false (iMv r3_2 s3_33) (some s3_33) rfl rfl rfl,iGd r3_32 [.o0,.o4,.o0] false (iP2 bGt r3_33 (rk (.int .i64 (.ofNat 65536))) s3_34) (some s3_34) rfl rfl rfl,iGp (l3 pPick) [r3_32,(rk (.bool true)),r3_34] (some s3_35),iMv r3_35 s3_36,iGd r3_36 [.o4,.o4,.o0] false (iMv r3_3 s3_37) (some s3_37) rfl rfl rfl,iGd r3_36 [.o4,.o4,.o0] false (iP2 bLt r3_37 (rk (.int .i64 (.ofNat 1))) s3_38) (some s3_38) rfl rfl rfl,iGp (l3 pPick) [r3_36,(rk (.bool true)),r3_38] (some s3_39),iMv r3_39 s3_40,iGd r3_40 [.o0,.o5,.o0] false (iMv r3_3 s3_41) (some s3_41) rfl rfl rfl,iGd r3_40 [.o0,.o5,.o0] false (iP2 bGt r3_41 (rk (.int .i64 (.ofNat 4096))) s3_42) (some s3_42) rfl rfl rfl,iGp (l3 pPick) [r3_40,(rk (.bool true)),r3_42] (some s3_43),iMv r3_43 s3_44,iGd r3_44 [.o4,.o5,.o0] false (iMv r3_4 s3_45) (some s3_45) rfl rfl rfl,iGd r3_44 [.o4,.o5,.o0] false (iP2 bLt r3_45 (rk (.int .i64 (.ofNat 0))) s3_46) (some s3_46) rfl rfl rfl,iGp (l3 pPick) [r3_44,(rk (.bool true)),r3_46] (some s3_47),iMv r3_47 s3_48,iGd r3_48 [.o0,.o6,.o0] false (iMv r3_4 s3_49) (some s3_49) rfl rfl rfl,iGd r3_48 [.o0,.o6,.o0] false (iP2 bGt r3_49 (rk (.int .i64 (.ofNat 1099511627776))) s3_50) (some s3_50) rfl rfl rfl,iGp (l3 pPick) [r3_48,(rk (.bool true)),r3_50] (some s3_51)]
def x16_6 : List (Ins tf3) := [iAs (rk (.slice none 0 0)) s3_10,iAs (rk (.int .u8 (.ofNat 0))) s3_11,iAs (rk (.int .i64 (.ofNat 3))) s3_12]
def x16_7 : List (Ins tf3) := [iMv r3_0 s3_52,iGr (r1 (rLdn 6)) [r3_6] (some s3_53),iMv r3_4 s3_54,iGp (pBld [(.pointer none),(.int .i64 (.ofNat 0)),(.int .i64 (.ofNat 0)),(.slice none 0 0),(.slice none 0 0),(.slice none 0 0),(.slice none 0 0),(.int .i64 (.ofNat 0)),(.slice none 0 0),(.int .u8 (.ofNat 0))] [(0,1),(1,6),(7,1)]) [r3_52,r3_53,r3_54] (some s3_55),iGa (a1 gBox) [r3_55] (some s3_56),iAs r3_56 s3_13]
def x16_8 : List (Ins tf3) := [iMv r3_0 s3_58,iGr (r1 (rLdn 6)) [r3_6] (some s3_59),iCall (rk (.func (.func 42) #[] #[])) [r3_58,r3_59] (some s3_60),iMv r3_60 s3_57,iGp (l1 (pExt 0)) [r3_57] (some s3_61),iGp (l1 (pExt 1)) [r3_57] (some s3_62),iAs r3_61 s3_14,iAs r3_62 s3_12]
def x16_9 : List (Ins tf3) := [iMv r3_13 s3_63,iMv r3_12 s3_64,iCall (rk (.func (.func 43) #[] #[])) [r3_63,r3_64] (some s3_65)]
def x16_10 : List (Ins tf3) := [iMv r3_13 s3_66,iP1 bNil r3_66 s3_67,iP1 (bFa 9) r3_67 s3_68,iR1 bLd r3_68 s3_69,iRc (iAs (rk (.slice none 0 0)) s3_10) [(rcLd r3_68 r3_69 [.o5,.o0,.o1] rfl)] rfl,iAs r3_69 s3_11,iAs (rk (.int .i64 (.ofNat 0))) s3_12]
def x16_11 : List (Ins tf3) := [iMv r3_13 s3_70,iMv r3_14 s3_71,iP1 (bFa 2) r3_6 s3_72,iR1 bLd r3_72 s3_73,iP1 bLen r3_73 s3_74,iGa (a2 (gMks 1 8 [(.int .i64 (.ofNat 0))])) [r3_74,r3_74] (some s3_75),iGp (pBld [(.slice none 0 0),(.int .u8 (.ofNat 0)),(.int .i64 (.ofNat 0)),(.slice none 0 0),(.slice none 0 0),(.slice none 0 0),(.slice none 0 0)] [(6,1)]) [r3_75] (some s3_76),iGp (pBld [(.pointer none),(.int .i64 (.ofNat 0)),(.slice none 0 0),(.int .u8 (.ofNat 0)),(.int .i64 (.ofNat 0)),(.slice none 0 0),(.slice none 0 0),(.slice none 0 0),(.slice none 0 0)] [(0,1),(2,7)]) [r3_71,r3_76] (some s3_77),iGa (aBsl 1 9 [(.pointer none),(.int .i64 (.ofNat 0)),(.slice none 0 0),(.int .u8 (.ofNat 0)),(.int .i64 (.ofNat 0)),(.slice none 0 0),(.slice none 0 0),(.slice none 0 0),(.slice none 0 0)] [(0,9)]) [r3_77] (some s3_78),iP1 bNil r3_70 s3_79,iP1 (bFa 8) r3_79 s3_80,iM2 bSt r3_80 r3_78]
def x16_12 : List (Ins tf3) := [iMv r3_13 s3_81,iP1 bNil r3_81 s3_82,iP1 (bFa 8) r3_82 s3_83,iR1 bLd r3_83 s3_84,iP1 bLen r3_84 s3_85,iP2 bGt r3_85 (rk (.int .i64 (.ofNat 0))) s3_86]
def x16_13 : List (Ins tf3) := [iMv r3_13 s3_87,iP1 bNil r3_87 s3_88,iP1 (bFa 8) r3_88 s3_89,iR1 bLd r3_89 s3_90,iMv r3_13 s3_91,iP1 bNil r3_91 s3_92,iP1 (bFa 8) r3_92 s3_93,iR1 bLd r3_93 s3_94,iP1 bLen r3_94 s3_95,iP2 bSub r3_95 (rk (.int .i64 (.ofNat 1))) s3_96,iP2 (bIxs 9) r3_90 r3_96 s3_97,iGr (r1 (rLdn 9)) [r3_97] (some s3_98),iGa (aAl 9 [(.pointer none),(.int .i64 (.ofNat 0)),(.slice none 0 0),(.int .u8 (.ofNat 0)),(.int .i64 (.ofNat 0)),(.slice none 0 0),(.slice none 0 0),(.slice none 0 0),(.slice none 0 0)]) [] (some s3_15),iGm (m2 (sStn 9)) [r3_15,r3_98] none]
def x16_14 : List (Ins tf3) := [iMv r3_13 s3_99,iMv r3_13 s3_100,iP1 bNil r3_100 s3_101,iP1 (bFa 8) r3_101 s3_102,iR1 bLd r3_102 s3_103,iMv r3_13 s3_104,iP1 bNil r3_104 s3_105,iP1 (bFa 8) r3_105 s3_106,iR1 bLd r3_106 s3_107,iP1 bLen r3_107 s3_108,iP2 bSub r3_108 (rk (.int .i64 (.ofNat 1))) s3_109,iGp (pSlB (pSl 9) false true false) [r3_103,r3_109] (some s3_110),iP1 bNil r3_99 s3_111,iP1 (bFa 8) r3_111 s3_112,iM2 bSt r3_112 r3_110]
def x16_15 : List (Ins tf3) := [iP1 (bFa 1) r3_15 s3_143,iR1 bLd r3_143 s3_144,iP2 bLt r3_144 (rk (.int .i64 (.ofNat 0))) s3_145,iAs r3_145 s3_142]
def x16_16 : List (Ins tf3) := [iP1 (bFa 2) r3_15 s3_146,iP1 (bFa 1) r3_146 s3_147,iM2 bSt r3_147 (rk (.int .u8 (.ofNat 1)))]
def x16_17 : List (Ins tf3) := [iP1 (bFa 2) r3_15 s3_149,iP1 (bFa 2) r3_149 s3_150,iR1 bLd r3_150 s3_151,iMv r3_2 s3_152,iP2 bEq r3_151 r3_152 s3_153,iAs r3_153 s3_148]
def x16_18 : List (Ins tf3) := [iP1 (bFa 2) r3_15 s3_154,iP1 (bFa 1) r3_154 s3_155,iM2 bSt r3_155 (rk (.int .u8 (.ofNat 2)))]
def x16_19 : List (Ins tf3) := [iP1 (bFa 2) r3_15 s3_113,iP1 (bFa 2) r3_113 s3_114,iR1 bLd r3_114 s3_115,iP2 bAdd r3_115 (rk (.int .i64 (.ofNat 1))) s3_116,iP1 (bFa 2) r3_15 s3_117,iP1 (bFa 2) r3_117 s3_118,iM2 bSt r3_118 r3_116]
def x16_20 : List (Ins tf3) := [iMv r3_13 s3_119,iP1 bNil r3_119 s3_120,iP1 (bFa 1) r3_120 s3_121,iP1 (bFa 5) r3_121 s3_122,iR1 bLd r3_122 s3_123,iP1 (bFa 1) r3_15 s3_124,iR1 bLd r3_124 s3_125,iP2 (bIxs 8) r3_123 r3_125 s3_126,iGr (r1 (rLdn 8)) [r3_126] (some s3_127),iGa (aAl 8 [(.int .u8 (.ofNat 0)),(.int .u8 (.ofNat 0)),(.int .i64 (.ofNat 0)),(.int .i64 (.ofNat 0)),(.int .i64 (.ofNat 0)),(.int .u64 (.ofNat 0)),(.int .i64 (.ofNat 0)),(.int .u64 (.ofNat 0))]) [] (some s3_16),iGm (m2 (sStn 8)) [r3_16,r3_127] none]
def x16_21 : List (Ins tf3) := [iR1 bLd (rk (.pointer (some ⟨0,0,none⟩))) s3_128,iP1 (bFa 0) r3_16 s3_129,iR1 bLd r3_129 s3_130,iGr (r2 (rLook [0] false .nilFunc false)) [r3_128,r3_130] (some s3_131),iMv r3_13 s3_132,iGr (r1 (rLdn 8)) [r3_16] (some s3_133),iCall r3_131 [r3_132,r3_15,r3_133] (some s3_134),iAs r3_134 s3_17]
def x16_22 : List (Ins tf3) := [iMv r3_17 s3_135,iGp (l1 (pUn .not)) [r3_135] (some s3_136)]
def x16_23 : List (Ins tf3) := [iMv r3_13 s3_137,iP1 bNil r3_137 s3_138,iP1 (bFa 9) r3_138 s3_139,iR1 bLd r3_139 s3_140,iP2 bNe r3_140 (rk (.int .u8 (.ofNat 0))) s3_141]
def x16_24 : List (Ins tf3) := [iMv r3_10 s3_156,iP1 bLen r3_156 s3_157,iMv r3_3 s3_158,iP2 bEq r3_157 r3_158 s3_159]
def x16_25 : List (Ins tf3) := [iMv r3_13 s3_160,iP1 bNil r3_160 s3_161,iP1 (bFa 9) r3_161 s3_162,iM2 bSt r3_162 (rk (.int .u8 (.ofNat 1)))]
def x16_26 : List (Ins tf3) := [iMv r3_10 s3_163,iP1 (bFa 2) r3_15 s3_164,iGr (r1 (rLdn 7)) [r3_164] (some s3_165),iGa (aBsl 1 7 [(.slice none 0 0),(.int .u8 (.ofNat 0)),(.int .i64 (.ofNat 0)),(.slice none 0 0),(.slice none 0 0),(.slice none 0 0),(.slice none 0 0)] [(0,7)]) [r3_165] (some s3_166),iGm (m2 (sApp 7)) [r3_163,r3_166] (some s3_167),iAs r3_167 s3_10]
def x16_27 : XC tf3 := (.seq (.rg x16_12 (.cond r3_86 .skip (.exit 0))) (.block 1 (.rg x16_13 (.rg x16_14 (.seq (.block 2 (.rg x16_15 (.cond r3_142 (.reg x16_16) (.rg x16_17 (.cond r3_148 (.reg x16_18) (.rg x16_19 (.rg x16_20 (.rg x16_21 (.rg x16_22 (.cond r3_136 (.seq (.rg x16_23 (.cond r3_141 (.exit 0) .skip)) (.exit 1)) .skip)))))))))) (.seq (.rg x16_24 (.cond r3_159 (.rg x16_25 (.exit 0)) .skip)) (.reg x16_26)))))))
def x16_28 : List (Ins tf3) := [iMv r3_13 s3_168,iP1 bNil r3_168 s3_169,iP1 (bFa 9) r3_169 s3_170,iR1 bLd r3_170 s3_171,iP2 bNe r3_171 (rk (.int .u8 (.ofNat 0))) s3_172]
def x16_29 : List (Ins tf3) := [iMv r3_13 s3_173,iP1 bNil r3_173 s3_174,iP1 (bFa 9) r3_174 s3_175,iR1 bLd r3_175 s3_176,iRc (iAs (rk (.slice none 0 0)) s3_10) [(rcLd r3_175 r3_176 [.o0,.o6,.o2] rfl)] rfl,iAs r3_176 s3_11,iAs (rk (.int .i64 (.ofNat 0))) s3_12]
def x16_30 : List (Ins tf3) := [iMv r3_10 s3_177,iAs r3_177 s3_10,iAs (rk (.int .u8 (.ofNat 0))) s3_11,iAs (rk (.int .i64 (.ofNat 0))) s3_12]
def x16_31 : XC tf3 := (.rg x16_0 (.scope (.seq (.rg x16_1 (.cond r3_19 (.rg x16_2 .ret) .skip)) (.seq (.rg x16_3 (.cond r3_29 (.rg x16_4 .ret) .skip)) (.seq (.rg x16_5 (.cond r3_51 (.rg x16_6 .ret) .skip)) (.rg x16_7 (.rg x16_8 (.seq (.rg x16_9 (.cond r3_65 (.rg x16_10 .ret) .skip)) (.rg x16_11 (.seq .skip (.seq (.block 0 (.loop x16_27)) (.seq (.rg x16_28 (.cond r3_172 (.rg x16_29 .ret) .skip)) (.rg x16_30 .ret)))))))))))))
def x16 : XC tf3 := x16_31
def c16 : Code := Tryd.f16.body.getD .skip
theorem x16_b : Tryd.f16.body = some c16 := by kernel_rfl
theorem x16_c : cG (comp Tryd.prog) 2 3 178 x16 c16 = x16.den := by kernel_rfl
def y16 : List (RR Tryd.prog 3 178 tf3) := [rrT r3_10 10 rfl rfl,rrT r3_11 11 rfl rfl,rrT r3_12 12 rfl rfl]
theorem x16_r : y16.map RR.den = Tryd.f16.results.toList := by kernel_rfl
theorem x16_k : okFn Tryd.f16 = true := by kernel_rfl
theorem x16_D : 3 = dep Tryd.f16.ntmps := by kernel_rfl
theorem x16_s : ([s3_0,s3_1,s3_2,s3_3,s3_4] : List (Slot tf3)).map Slot.p = (List.range' 0 5).map (pth 3) := by kernel_rfl
def X16 : XFn Tryd.prog 2 (comp Tryd.prog) := ⟨X3,tf3,16,Tryd.f16,c16,3,178,[s3_0,s3_1,s3_2,s3_3,s3_4],z3,x16,y16,x16_D,Tryd.ntmps16.symm,Tryd.func16,x16_b,x16_k,x16_s,by decide,z3_ok,x16_c,x16_r⟩
def x18_0 : List (Ins tf2) := [iAs (rk (.bool false)) s2_0]
def x18_1 : List (Ins tf2) := [iCall (rk (.func (.func 14) #[] #[])) [(rk (.int .u64 (.ofNat 1)))] (some s2_10),iGa (aAl 6 [(.int .i64 (.ofNat 0)),(.int .i64 (.ofNat 0)),(.slice none 0 0),(.slice none 0 0),(.slice none 0 0),(.slice none 0 0)]) [] (some s2_1),iGm (m2 (sStn 6)) [r2_1,r2_10] none]
def x18_2 : List (Ins tf2) := [iGr (r1 (rLdn 6)) [r2_1] (some s2_11),iCall (rk (.func (.func 15) #[] #[])) [r2_11] (some s2_12),iAs r2_12 s2_2]
def x18_3 : List (Ins tf2) := [iMv r2_2 s2_13,iGp (l2 (pEqD (tdOf 34) false)) [r2_13,(rk (.pointer none))] (some s2_14)]
def x18_4 : List (Ins tf2) := [iAs (rk (.bool false)) s2_0]
def x18_5 : List (Ins tf2) := [iMv r2_2 s2_16,iGr (r1 (rLdn 6)) [r2_1] (some s2_17),iCall (rk (.func (.func 16) #[] #[])) [r2_16,r2_17,(rk (.int .i64 (.ofNat 20))),(rk (.int .i64 (.ofNat 16))),(rk (.int .i64 (.ofNat 0)))] (some s2_18),iMv r2_18 s2_15,iGp (l1 (pExt 0)) [r2_15] (some s2_19),iGp (l1 (pExt 1)) [r2_15] (some s2_20),iGp (l1 (pExt 2)) [r2_15] (some s2_21),iAs r2_19 s2_3,iAs r2_20 s2_4,iAs r2_21 s2_5]
def x18_6 : List (Ins tf2) := [iGa (aBsl 1 1 [(.int .u64 (.ofNat 0))] [(0,1)]) [(rk (.int .u64 (.ofNat 3)))] (some s2_23),iGa (aBsl 2 1 [(.slice none 0 0)] [(0,1),(1,1)]) [(rk (.slice none 0 0)),r2_23] (some s2_24),iCall (rk (.func (.func 20) #[] #[])) [(rk (.int .i64 (.ofNat 2))),r2_24] (some s2_25),iMv r2_25 s2_22,iGp (l1 (pExt 0)) [r2_22] (some s2_26),iGp (l1 (pExt 1)) [r2_22] (some s2_27),iAs r2_26 s2_6,iAs r2_27 s2_7]
def x18_7 : List (Ins tf2) := [iMv r2_2 s2_29,iMv r2_3 s2_30,iMv r2_6 s2_31,iCall (rk (.func (.func 35) #[] #[])) [r2_29,r2_30,r2_31] (some s2_32),iMv r2_32 s2_28,iGp (l1 (pExt 0)) [r2_28] (some s2_33),iGp (l1 (pExt 1)) [r2_28] (some s2_34),iAs r2_33 s2_8,iAs r2_34 s2_9]
def x18_8 : List (Ins tf2) := [iMv r2_5 s2_35,iP2 bEq r2_35 (rk (.int .i64 (.ofNat 0))) s2_36,iMv r2_36 s2_37,iGd r2_37 [.o5,.o4] true (iMv r2_7 s2_38) (some s2_38) rfl rfl rfl,iGd r2_37 [.o5,.o4] true (iP2 bEq r2_38 (rk (.int .i64 (.ofNat 0))) s2_39) (some s2_39) rfl rfl rfl,iGp (l3 pPick) [r2_37,r2_39,(rk (.bool false))] (some s2_40),iMv r2_40 s2_41,iGd r2_41 [.o1,.o5] true (iMv r2_8 s2_42) (some s2_42) rfl rfl rfl,iGd r2_41 [.o1,.o5] true (iP2 bEq r2_42 (rk (.int .i64 (.ofNat 1))) s2_43) (some s2_43) rfl rfl rfl,iGp (l3 pPick) [r2_41,r2_43,(rk (.bool false))] (some s2_44),iMv r2_44 s2_45,iGd r2_45 [.o5,.o5] true (iMv r2_9 s2_46) (some s2_46) rfl rfl rfl,iGd r2_45 [.o5,.o5] true (iP2 bEq r2_46 (rk (.int .i64 (.ofNat 0))) s2_47) (some s2_47) rfl rfl rfl,iGp (l3 pPick) [r2_45,r2_47,(rk (.bool false))] (some s2_48),iAs r2_48 s2_0]
def x18 : XC tf2 := (.rg x18_0 (.rg x18_1 (.rg x18_2 (.seq (.rg x18_3 (.cond r2_14 (.rg x18_4 .ret) .skip)) (.rg x18_5 (.rg x18_6 (.rg x18_7 (.rg x18_8 .ret))))))))
def c18 : Code := Tryd.f18.body.getD .skip
theorem x18_b : Tryd.f18.body = some c18 := by kernel_rfl
theorem x18_c : cG (comp Tryd.prog) 2 2 49 x18 c18 = x18.den := by kernel_rfl
def y18 : List (RR Tryd.prog 2 49 tf2) := [rrT r2_0 0 rfl rfl]
theorem x18_r : y18.map RR.den = Tryd.f18.results.toList := by kernel_rfl
theorem x18_k : okFn Tryd.f18 = true := by kernel_rfl
theorem x18_D : 2 = dep Tryd.f18.ntmps := by kernel_rfl
theorem x18_s : ([] : List (Slot tf2)).map Slot.p = (List.range' 0 0).map (pth 2) := by kernel_rfl
def X18 : XFn Tryd.prog 2 (comp Tryd.prog) := ⟨X2,tf2,18,Tryd.f18,c18,2,49,[],z2,x18,y18,x18_D,Tryd.ntmps18.symm,Tryd.func18,x18_b,x18_k,x18_s,by decide,z2_ok,x18_c,x18_r⟩
def x20_0 : List (Ins tf3) := [iAs (rk (.slice none 0 0)) s3_4,iAs (rk (.int .i64 (.ofNat 0))) s3_5]
def x20_1 : List (Ins tf3) := [iMv r3_0 s3_14,iP2 bLt r3_14 (rk (.int .i64 (.ofNat 1))) s3_15,iMv r3_15 s3_16,iGd r3_16 [.o0,.o2,.o0] false (iMv r3_0 s3_17) (some s3_17) rfl rfl rfl,iGd r3_16 [.o0,.o2,.o0] false (iP2 bGt r3_17 (rk (.int .i64 (.ofNat 32))) s3_18) (some s3_18) rfl rfl rfl,iGp (l3 pPick) [r3_16,(rk (.bool true)),r3_18] (some s3_19),iMv r3_19 s3_20,iGd r3_20 [.o4,.o2,.o0] false (iMv r3_1 s3_21) (some s3_21) rfl rfl rfl,iGd r3_20 [.o4,.o2,.o0] false (iP1 bLen r3_21 s3_22) (some s3_22) rfl rfl rfl,iGd r3_20 [.o4,.o2,.o0] false (iMv r3_0 s3_23) (some s3_23) rfl rfl rfl,iGd r3_20 [.o4,.o2,.o0] false (iP2 bGt r3_22 r3_23 s3_24) (some s3_24) rfl rfl rfl,iGp (l3 pPick) [r3_20,(rk (.bool true)),r3_24] (some s3_25)]
def x20_2 : List (Ins tf3) := [iAs (rk (.slice none 0 0)) s3_4,iAs (rk (.int .i64 (.ofNat 3))) s3_5]
def x20_3 : List (Ins tf3) := [iMv r3_1 s3_26,iP1 bLen r3_26 s3_27,iMv (rk (.int .i64 (.ofNat 0))) s3_28]
def x20_4 : List (Ins tf3) := [iP2 bLt r3_28 r3_27 s3_29]
def x20_5 : List (Ins tf3) := [iP2 (bIxs 1) r3_26 r3_28 s3_30,iR1 bLd r3_30 s3_31,iAs r3_31 s3_7]
def x20_6 : List (Ins tf3) := [iMv r3_7 s3_32,iP1 bLen r3_32 s3_33,iP2 bGt r3_33 (rk (.int .i64 (.ofNat 65536))) s3_34]
def x20_7 : List (Ins tf3) := [iAs (rk (.slice none 0 0)) s3_4,iAs (rk (.int .i64 (.ofNat 5))) s3_5]
def x20_8 : List (Ins tf3) := [iP2 bAdd r3_28 (rk (.int .i64 (.ofNat 1))) s3_35,iMv r3_35 s3_28]
def x20_9 : List (Ins tf3) := [iAs (rk (.slice none 0 0)) s3_8]
def x20_10 : List (Ins tf3) := [iMv r3_1 s3_36,iP1 bLen r3_36 s3_37,iMv (rk (.int .i64 (.ofNat 0))) s3_38]
def x20_11 : List (Ins tf3) := [iP2 bLt r3_38 r3_37 s3_39]
def x20_12 : List (Ins tf3) := [iMv r3_38 s3_40,iAs r3_40 s3_9]
def x20_13 : List (Ins tf3) := [iMv r3_1 s3_41,iMv r3_9 s3_42,iP2 (bIxs 1) r3_41 r3_42 s3_43,iR1 bLd r3_43 s3_44,iP1 bLen r3_44 s3_45,iMv (rk (.int .i64 (.ofNat 0))) s3_46]
def x20_14 : List (Ins tf3) := [iP2 bLt r3_46 r3_45 s3_47]
def x20_15 : List (Ins tf3) := [iMv r3_46 s3_48,iP2 (bIxs 1) r3_44 r3_46 s3_49,iR1 bLd r3_49 s3_50,iAs r3_48 s3_10,iAs r3_50 s3_11]
def x20_16 : List (Ins tf3) := [iMv r3_0 s3_52,iMv r3_9 s3_53,iMv r3_10 s3_54,iCall (rk (.func (.func 11) #[] #[])) [r3_52,r3_53,r3_54] (some s3_55),iMv r3_55 s3_51,iGp (l1 (pExt 0)) [r3_51] (some s3_56),iGp (l1 (pExt 1)) [r3_51] (some s3_57),iAs r3_56 s3_12,iAs r3_57 s3_13]
def x20_17 : List (Ins tf3) := [iMv r3_8 s3_58,iP1 bLen r3_58 s3_59,iMv r3_12 s3_60,iP2 bLe r3_59 r3_60 s3_61]
def x20_18 : List (Ins tf3) := [iMv r3_8 s3_62,iGa (aBsl 1 1 [(.int .u64 (.ofNat 0))] [(0,1)]) [(rk (.int .u64 (.ofNat 0)))] (some s3_63),iGm (m2 (sApp 1)) [r3_62,r3_63] (some s3_64),iAs r3_64 s3_8]
def x20_19 : List (Ins tf3) := [iMv r3_8 s3_65,iMv r3_12 s3_66,iMv r3_11 s3_67,iP2 (bIxs 1) r3_65 r3_66 s3_68,iM2 bSt r3_68 r3_67]
def x20_20 : List (Ins tf3) := [iP2 bAdd r3_46 (rk (.int .i64 (.ofNat 1))) s3_69,iMv r3_69 s3_46]
def x20_21 : List (Ins tf3) := [iP2 bAdd r3_38 (rk (.int .i64 (.ofNat 1))) s3_70,iMv r3_70 s3_38]
def x20_22 : List (Ins tf3) := [iMv r3_8 s3_71,iAs r3_71 s3_4,iAs (rk (.int .i64 (.ofNat 0))) s3_5]
def x20_23 : XC tf3 := (.seq (.rg x20_10 (.block 2 (.loop (.rg x20_11 (.seq (.cond r3_39 .skip (.exit 2)) (.seq (.block 3 (.rg x20_12 (.rg x20_13 (.block 4 (.loop (.rg x20_14 (.seq (.cond r3_47 .skip (.exit 4)) (.seq (.block 5 (.rg x20_15 (.rg x20_16 (.seq (.block 6 (.loop (.seq (.rg x20_17 (.cond r3_61 .skip (.exit 6))) (.block 7 (.reg x20_18))))) (.reg x20_19))))) (.reg x20_20))))))))) (.reg x20_21))))))) (.rg x20_22 .ret))
def x20 : XC tf3 := (.rg x20_0 (.seq (.rg x20_1 (.cond r3_25 (.rg x20_2 .ret) .skip)) (.seq (.rg x20_3 (.block 0 (.loop (.rg x20_4 (.seq (.cond r3_29 .skip (.exit 0)) (.seq (.block 1 (.rg x20_5 (.rg x20_6 (.cond r3_34 (.rg x20_7 .ret) .skip)))) (.reg x20_8))))))) (.rg x20_9 x20_23))))
def c20 : Code := Tryd.f20.body.getD .skip
theorem x20_b : Tryd.f20.body = some c20 := by kernel_rfl
theorem x20_c : cG (comp Tryd.prog) 2 3 72 x20 c20 = x20.den := by kernel_rfl
def y20 : List (RR Tryd.prog 3 72 tf3) := [rrT r3_4 4 rfl rfl,rrT r3_5 5 rfl rfl]
theorem x20_r : y20.map RR.den = Tryd.f20.results.toList := by kernel_rfl
theorem x20_k : okFn Tryd.f20 = true := by kernel_rfl
theorem x20_D : 3 = dep Tryd.f20.ntmps := by kernel_rfl
theorem x20_s : ([s3_0,s3_1] : List (Slot tf3)).map Slot.p = (List.range' 0 2).map (pth 3) := by kernel_rfl
def X20 : XFn Tryd.prog 2 (comp Tryd.prog) := ⟨X3,tf3,20,Tryd.f20,c20,3,72,[s3_0,s3_1],z3,x20,y20,x20_D,Tryd.ntmps20.symm,Tryd.func20,x20_b,x20_k,x20_s,by decide,z3_ok,x20_c,x20_r⟩
def x30_0 : List (Ins tf2) := [iGa (a1 gBox) [r2_1] (some s2_4),iAs (rk (.bool false)) s2_6,iAs (rk (.int .i64 (.ofNat 0))) s2_7]
def x30_1 : List (Ins tf2) := [iMv r2_0 s2_13,iP1 (bFa 0) r2_4 s2_14,iR1 bLd r2_14 s2_15,iMv r2_2 s2_16,iCall (rk (.func (.func 56) #[] #[])) [r2_13,r2_15,r2_16] (some s2_17),iMv r2_17 s2_12,iGp (l1 (pExt 0)) [r2_12] (some s2_18),iGp (l1 (pExt 1)) [r2_12] (some s2_19),iAs r2_18 s2_8,iAs r2_19 s2_9]
def x30_2 : List (Ins tf2) := [iMv r2_9 s2_20,iP2 bNe r2_20 (rk (.int .i64 (.ofNat 0))) s2_21]
def x30_3 : List (Ins tf2) := [iMv r2_9 s2_22,iAs (rk (.bool false)) s2_6,iAs r2_22 s2_7]
def x30_4 : List (Ins tf2) := [iMv r2_8 s2_23,iP1 bLen r2_23 s2_24,iMv (rk (.int .i64 (.ofNat 0))) s2_25]
def x30_5 : List (Ins tf2) := [iP2 bLt r2_25 r2_24 s2_26]
def x30_6 : List (Ins tf2) := [iP2 (bIxs 1) r2_23 r2_25 s2_27,iR1 bLd r2_27 s2_28,iAs r2_28 s2_11]
def x30_7 : List (Ins tf2) := [iMv r2_11 s2_29,iP2 bEq r2_29 (rk (.int .u64 (.ofNat 0))) s2_30]
def x30_8 : List (Ins tf2) := [iAs (rk (.bool false)) s2_6,iAs (rk (.int .i64 (.ofNat 0))) s2_7]
def x30_9 : List (Ins tf2) := [iP2 bAdd r2_25 (rk (.int .i64 (.ofNat 1))) s2_31,iMv r2_31 s2_25]
def x30_10 : List (Ins tf2) := [iAs (rk (.bool true)) s2_6,iAs (rk (.int .i64 (.ofNat 0))) s2_7]
def x30 : XC tf2 := (.rg x30_0 (.rg x30_1 (.seq (.rg x30_2 (.cond r2_21 (.rg x30_3 .ret) .skip)) (.seq (.rg x30_4 (.block 0 (.loop (.rg x30_5 (.seq (.cond r2_26 .skip (.exit 0)) (.seq (.block 1 (.rg x30_6 (.rg x30_7 (.cond r2_30 (.rg x30_8 .ret) .skip)))) (.reg x30_9))))))) (.rg x30_10 .ret)))))
def c30 : Code := Tryd.f30.body.getD .skip
theorem x30_b : Tryd.f30.body = some c30 := by kernel_rfl
theorem x30_c : cG (comp Tryd.prog) 2 2 32 x30 c30 = x30.den := by kernel_rfl
def y30 : List (RR Tryd.prog 2 32 tf2) := [rrT r2_6 6 rfl rfl,rrT r2_7 7 rfl rfl]
theorem x30_r : y30.map RR.den = Tryd.f30.results.toList := by kernel_rfl
theorem x30_k : okFn Tryd.f30 = true := by kernel_rfl
theorem x30_D : 2 = dep Tryd.f30.ntmps := by kernel_rfl
theorem x30_s : ([s2_0,s2_1,s2_2] : List (Slot tf2)).map Slot.p = (List.range' 0 3).map (pth 2) := by kernel_rfl
def X30 : XFn Tryd.prog 2 (comp Tryd.prog) := ⟨X2,tf2,30,Tryd.f30,c30,2,32,[s2_0,s2_1,s2_2],z2,x30,y30,x30_D,Tryd.ntmps30.symm,Tryd.func30,x30_b,x30_k,x30_s,by decide,z2_ok,x30_c,x30_r⟩
def x35_0 : List (Ins tf2) := [iAs (rk (.int .i64 (.ofNat 0))) s2_6,iAs (rk (.int .i64 (.ofNat 0))) s2_7]
def x35_1 : List (Ins tf2) := [iMv r2_0 s2_14,iGp (l2 (pEqD (tdOf 34) false)) [r2_14,(rk (.pointer none))] (some s2_15)]
def x35_2 : List (Ins tf2) := [iAs (rk (.int .i64 (.ofNat 0))) s2_6,iAs (rk (.int .i64 (.ofNat 1))) s2_7]
def x35_3 : List (Ins tf2) := [iAs (rk (.int .i64 (.negSucc 0))) s2_8,iAs (rk (.int .i64 (.ofNat 0))) s2_9]
def x35_4 : List (Ins tf2) := [iMv r2_1 s2_16,iP1 bLen r2_16 s2_17,iMv (rk (.int .i64 (.ofNat 0))) s2_18]
def x35_5 : List (Ins tf2) := [iP2 bLt r2_18 r2_17 s2_19]
def x35_6 : List (Ins tf2) := [iMv r2_18 s2_20,iP2 (bIxs 7) r2_16 r2_18 s2_21,iGr (r1 (rLdn 7)) [r2_21] (some s2_22),iGa (aAl 7 [(.slice none 0 0),(.int .u8 (.ofNat 0)),(.int .i64 (.ofNat 0)),(.slice none 0 0),(.slice none 0 0),(.slice none 0 0),(.slice none 0 0)]) [] (some s2_11),iAs r2_20 s2_10,iGm (m2 (sStn 7)) [r2_11,r2_22] none]
def x35_7 : List (Ins tf2) := [iMv r2_0 s2_24,iGr (r1 (rLdn 7)) [r2_11] (some s2_25),iMv r2_2 s2_26,iCall (rk (.func (.func 30) #[] #[])) [r2_24,r2_25,r2_26] (some s2_27),iMv r2_27 s2_23,iGp (l1 (pExt 0)) [r2_23] (some s2_28),iGp (l1 (pExt 1)) [r2_23] (some s2_29),iAs r2_28 s2_12,iAs r2_29 s2_13]
def x35_8 : List (Ins tf2) := [iMv r2_13 s2_30,iP2 bNe r2_30 (rk (.int .i64 (.ofNat 0))) s2_31]
def x35_9 : List (Ins tf2) := [iMv r2_13 s2_32,iAs (rk (.int .i64 (.ofNat 0))) s2_6,iAs r2_32 s2_7]
def x35_10 : List (Ins tf2) := [iMv r2_12 s2_33]
def x35_11 : List (Ins tf2) := [iMv r2_10 s2_34,iAs r2_34 s2_8]
def x35_12 : List (Ins tf2) := [iMv r2_9 s2_35,iP2 bAdd r2_35 (rk (.int .i64 (.ofNat 1))) s2_36,iAs r2_36 s2_9]
def x35_13 : List (Ins tf2) := [iP2 bAdd r2_18 (rk (.int .i64 (.ofNat 1))) s2_37,iMv r2_37 s2_18]
def x35_14 : List (Ins tf2) := [iMv r2_9 s2_38,iP2 bNe r2_38 (rk (.int .i64 (.ofNat 1))) s2_39]
def x35_15 : List (Ins tf2) := [iAs (rk (.int .i64 (.negSucc 0))) s2_6,iAs (rk (.int .i64 (.ofNat 0))) s2_7]
def x35_16 : List (Ins tf2) := [iMv r2_8 s2_40,iAs r2_40 s2_6,iAs (rk (.int .i64 (.ofNat 0))) s2_7]
def x35_17 : XC tf2 := (.seq (.rg x35_1 (.cond r2_15 (.rg x35_2 .ret) .skip)) (.rg x35_3 (.seq (.rg x35_4 (.block 0 (.loop (.rg x35_5 (.seq (.cond r2_19 .skip (.exit 0)) (.seq (.block 1 (.rg x35_6 (.rg x35_7 (.seq (.rg x35_8 (.cond r2_31 (.rg x35_9 .ret) .skip)) (.rg x35_10 (.cond r2_33 (.rg x35_11 (.reg x35_12)) .skip)))))) (.reg x35_13))))))) (.seq (.rg x35_14 (.cond r2_39 (.rg x35_15 .ret) .skip)) (.rg x35_16 .ret)))))
def x35 : XC tf2 := (.rg x35_0 x35_17)
def c35 : Code := Tryd.f35.body.getD .skip
theorem x35_b : Tryd.f35.body = some c35 := by kernel_rfl
theorem x35_c : cG (comp Tryd.prog) 2 2 41 x35 c35 = x35.den := by kernel_rfl
def y35 : List (RR Tryd.prog 2 41 tf2) := [rrT r2_6 6 rfl rfl,rrT r2_7 7 rfl rfl]
theorem x35_r : y35.map RR.den = Tryd.f35.results.toList := by kernel_rfl
theorem x35_k : okFn Tryd.f35 = true := by kernel_rfl
theorem x35_D : 2 = dep Tryd.f35.ntmps := by kernel_rfl
theorem x35_s : ([s2_0,s2_1,s2_2] : List (Slot tf2)).map Slot.p = (List.range' 0 3).map (pth 2) := by kernel_rfl
def X35 : XFn Tryd.prog 2 (comp Tryd.prog) := ⟨X2,tf2,35,Tryd.f35,c35,2,41,[s2_0,s2_1,s2_2],z2,x35,y35,x35_D,Tryd.ntmps35.symm,Tryd.func35,x35_b,x35_k,x35_s,by decide,z2_ok,x35_c,x35_r⟩
def x38_0 : List (Ins tf1) := [iGa (aAl 2 [(.int .i64 (.ofNat 0)),(.int .u64 (.ofNat 0))]) [] (some s1_2)]
def x38_1 : List (Ins tf1) := [iMv r1_0 s1_3,iGp (pBld [(.int .i64 (.ofNat 0)),(.int .u64 (.ofNat 0))] [(0,1),(1,1)]) [(rk (.int .i64 (.negSucc 0))),r1_3] (some s1_4),iGm (m2 (sStn 2)) [r1_2,r1_4] none]
def x38 : XC tf1 := (.rg x38_0 (.rg x38_1 .ret))
def c38 : Code := Tryd.f38.body.getD .skip
theorem x38_b : Tryd.f38.body = some c38 := by kernel_rfl
theorem x38_c : cG (comp Tryd.prog) 2 1 5 x38 c38 = x38.den := by kernel_rfl
def y38 : List (RR Tryd.prog 1 5 tf1) := [rrS (.cell 2 84)]
theorem x38_r : y38.map RR.den = Tryd.f38.results.toList := by kernel_rfl
theorem x38_k : okFn Tryd.f38 = true := by kernel_rfl
theorem x38_D : 1 = dep Tryd.f38.ntmps := by kernel_rfl
theorem x38_s : ([s1_0] : List (Slot tf1)).map Slot.p = (List.range' 0 1).map (pth 1) := by kernel_rfl
def X38 : XFn Tryd.prog 2 (comp Tryd.prog) := ⟨X1,tf1,38,Tryd.f38,c38,1,5,[s1_0],z1,x38,y38,x38_D,Tryd.ntmps38.symm,Tryd.func38,x38_b,x38_k,x38_s,by decide,z1_ok,x38_c,x38_r⟩
def x39_0 : List (Ins tf2) := [iAs (rk (.pointer none)) s2_4,iAs (rk (.int .i64 (.ofNat 0))) s2_5]
def x39_1 : List (Ins tf2) := [iMv r2_0 s2_6,iCall (rk (.func (.func 64) #[] #[])) [r2_6] (some s2_7),iP2 bNe r2_7 (rk (.int .i64 (.ofNat 0))) s2_8,iMv r2_8 s2_9,iGd r2_9 [.o1,.o1] false (iMv r2_1 s2_10) (some s2_10) rfl rfl rfl,iGd r2_9 [.o1,.o1] false (iP2 bLt r2_10 (rk (.int .i64 (.ofNat 0))) s2_11) (some s2_11) rfl rfl rfl,iGp (l3 pPick) [r2_9,(rk (.bool true)),r2_11] (some s2_12),iMv r2_12 s2_13,iGd r2_13 [.o5,.o1] false (iMv r2_1 s2_14) (some s2_14) rfl rfl rfl,iGd r2_13 [.o5,.o1] false (iP2 bGt r2_14 (rk (.int .i64 (.ofNat 1048576))) s2_15) (some s2_15) rfl rfl rfl,iGp (l3 pPick) [r2_13,(rk (.bool true)),r2_15] (some s2_16)]
def x39_2 : List (Ins tf2) := [iAs (rk (.pointer none)) s2_4,iAs (rk (.int .i64 (.ofNat 3))) s2_5]
def x39_3 : List (Ins tf2) := [iMv r2_1 s2_17,iP2 bEq r2_17 (rk (.int .i64 (.ofNat 0))) s2_18]
def x39_4 : List (Ins tf2) := [iAs (rk (.int .i64 (.ofNat 1048576))) s2_1]
def x39_5 : List (Ins tf2) := [iMv r2_0 s2_19,iMv r2_1 s2_20,iGa aMm [] (some s2_21),iGp (pBld [(.int .i64 (.ofNat 0)),(.int .i64 (.ofNat 0)),(.slice none 0 0),(.map none)] [(0,1),(1,1),(3,1)]) [r2_19,r2_20,r2_21] (some s2_22),iGa (a1 gBox) [r2_22] (some s2_23),iAs r2_23 s2_4,iAs (rk (.int .i64 (.ofNat 0))) s2_5]
def x39 : XC tf2 := (.rg x39_0 (.seq (.rg x39_1 (.cond r2_16 (.rg x39_2 .ret) .skip)) (.seq (.rg x39_3 (.cond r2_18 (.reg x39_4) .skip)) (.rg x39_5 .ret))))
def c39 : Code := Tryd.f39.body.getD .skip
theorem x39_b : Tryd.f39.body = some c39 := by kernel_rfl
theorem x39_c : cG (comp Tryd.prog) 2 2 24 x39 c39 = x39.den := by kernel_rfl
def y39 : List (RR Tryd.prog 2 24 tf2) := [rrT r2_4 4 rfl rfl,rrT r2_5 5 rfl rfl]
theorem x39_r : y39.map RR.den = Tryd.f39.results.toList := by kernel_rfl
theorem x39_k : okFn Tryd.f39 = true := by kernel_rfl
theorem x39_D : 2 = dep Tryd.f39.ntmps := by kernel_rfl
theorem x39_s : ([s2_0,s2_1] : List (Slot tf2)).map Slot.p = (List.range' 0 2).map (pth 2) := by kernel_rfl
def X39 : XFn Tryd.prog 2 (comp Tryd.prog) := ⟨X2,tf2,39,Tryd.f39,c39,2,24,[s2_0,s2_1],z2,x39,y39,x39_D,Tryd.ntmps39.symm,Tryd.func39,x39_b,x39_k,x39_s,by decide,z2_ok,x39_c,x39_r⟩
def x40_0 : List (Ins tf3) := [iGa (a1 gBox) [r3_0] (some s3_1),iAs (rk (.int .i64 (.ofNat 0))) s3_2]
def x40_1 : List (Ins tf3) := [iP1 (bFa 0) r3_1 s3_9,iR1 bLd r3_9 s3_10,iP2 bGe r3_10 (rk (.int .i64 (.ofNat 1))) s3_11,iMv r3_11 s3_12,iGd r3_12 [.o4,.o1,.o0] true (iP1 (bFa 0) r3_1 s3_13) (some s3_13) rfl rfl rfl,iGd r3_12 [.o4,.o1,.o0] true (iR1 bLd r3_13 s3_14) (some s3_14) rfl rfl rfl,iGd r3_12 [.o4,.o1,.o0] true (iP2 bLe r3_14 (rk (.int .i64 (.ofNat 64))) s3_15) (some s3_15) rfl rfl rfl,iGp (l3 pPick) [r3_12,r3_15,(rk (.bool false))] (some s3_16),iMv r3_16 s3_17,iGd r3_17 [.o1,.o2,.o0] true (iP1 (bFa 1) r3_1 s3_18) (some s3_18) rfl rfl rfl,iGd r3_17 [.o1,.o2,.o0] true (iR1 bLd r3_18 s3_19) (some s3_19) rfl rfl rfl,iGd r3_17 [.o1,.o2,.o0] true (iP2 bGe r3_19 (rk (.int .i64 (.ofNat 0))) s3_20) (some s3_20) rfl rfl rfl,iGp (l3 pPick) [r3_17,r3_20,(rk (.bool false))] (some s3_21),iMv r3_21 s3_22,iGd r3_22 [.o6,.o2,.o0] true (iP1 (bFa 1) r3_1 s3_23) (some s3_23) rfl rfl rfl,iGd r3_22 [.o6,.o2,.o0] true (iR1 bLd r3_23 s3_24) (some s3_24) rfl rfl rfl,iGd r3_22 [.o6,.o2,.o0] true (iP2 bLe r3_24 (rk (.int .i64 (.ofNat 2097152))) s3_25) (some s3_25) rfl rfl rfl,iGp (l3 pPick) [r3_22,r3_25,(rk (.bool false))] (some s3_26),iMv r3_26 s3_27,iGd r3_27 [.o3,.o3,.o0] true (iP1 (bFa 2) r3_1 s3_28) (some s3_28) rfl rfl rfl,iGd r3_27 [.o3,.o3,.o0] true (iR1 bLd r3_28 s3_29) (some s3_29) rfl rfl rfl,iGd r3_27 [.o3,.o3,.o0] true (iCall (rk (.func (.func 65) #[] #[])) [r3_29] (some s3_30)) (some s3_30) rfl rfl rfl,iGp (l3 pPick) [r3_27,r3_30,(rk (.bool false))] (some s3_31),iMv r3_31 s3_32,iGd r3_32 [.o0,.o4,.o0] true (iP1 (bFa 3) r3_1 s3_33) (some s3_33) rfl rfl rfl,iGd r3_32 [.o0,.o4,.o0] true (iR1 bLd r3_33 s3_34) (some s3_34) rfl rfl rfl,iGd r3_32 [.o0,.o4,.o0] true (iCall (rk (.func (.func 65) #[] #[])) [r3_34] (some s3_35)) (some s3_35) rfl rfl rfl,iGp (l3 pPick) [r3_32,r3_35,(rk (.bool false))] (some s3_36),iAs r3_36 s3_3]
def x40_2 : List (Ins tf3) := [iMv r3_3 s3_37,iGp (l1 (pUn .not)) [r3_37] (some s3_38),iMv r3_38 s3_39,iGd r3_39 [.o7,.o4,.o0] false (iP1 (bFa 4) r3_1 s3_40) (some s3_40) rfl rfl rfl,iGd r3_39 [.o7,.o4,.o0] false (iR1 bLd r3_40 s3_41) (some s3_41) rfl rfl rfl,iGd r3_39 [.o7,.o4,.o0] false (iP1 bLen r3_41 s3_42) (some s3_42) rfl rfl rfl,iGd r3_39 [.o7,.o4,.o0] false (iP2 bGt r3_42 (rk (.int .i64 (.ofNat 32))) s3_43) (some s3_43) rfl rfl rfl,iGp (l3 pPick) [r3_39,(rk (.bool true)),r3_43] (some s3_44),iMv r3_44 s3_45,iGd r3_45 [.o5,.o5,.o0] false (iP1 (bFa 5) r3_1 s3_46) (some s3_46) rfl rfl rfl,iGd r3_45 [.o5,.o5,.o0] false (iR1 bLd r3_46 s3_47) (some s3_47) rfl rfl rfl,iGd r3_45 [.o5,.o5,.o0] false (iP1 bLen r3_47 s3_48) (some s3_48) rfl rfl rfl,iGd r3_45 [.o5,.o5,.o0] false (iP2 bLt r3_48 (rk (.int .i64 (.ofNat 1))) s3_49) (some s3_49) rfl rfl rfl,iGp (l3 pPick) [r3_45,(rk (.bool true)),r3_49] (some s3_50),iMv r3_50 s3_51,iGd r3_51 [.o3,.o6,.o0] false (iP1 (bFa 5) r3_1 s3_52) (some s3_52) rfl rfl rfl,iGd r3_51 [.o3,.o6,.o0] false (iR1 bLd r3_52 s3_53) (some s3_53) rfl rfl rfl,iGd r3_51 [.o3,.o6,.o0] false (iP1 bLen r3_53 s3_54) (some s3_54) rfl rfl rfl,iGd r3_51 [.o3,.o6,.o0] false (iP2 bGt r3_54 (rk (.int .i64 (.ofNat 4096))) s3_55) (some s3_55) rfl rfl rfl,iGp (l3 pPick) [r3_51,(rk (.bool true)),r3_55] (some s3_56)]
def x40_3 : List (Ins tf3) := [iAs (rk (.int .i64 (.ofNat 2))) s3_2]
def x40_4 : List (Ins tf3) := [iP1 (bFa 4) r3_1 s3_57,iR1 bLd r3_57 s3_58,iP1 bLen r3_58 s3_59,iMv (rk (.int .i64 (.ofNat 0))) s3_60]
def x40_5 : List (Ins tf3) := [iP2 bLt r3_60 r3_59 s3_61]
def x40_6 : List (Ins tf3) := [iP2 (bIxs 1) r3_58 r3_60 s3_62,iR1 bLd r3_62 s3_63,iAs r3_63 s3_5]
def x40_7 : List (Ins tf3) := [iMv r3_5 s3_64,iP2 bLt r3_64 (rk (.int .i64 (.ofNat 1))) s3_65,iMv r3_65 s3_66,iGd r3_66 [.o2,.o0,.o1] false (iMv r3_5 s3_67) (some s3_67) rfl rfl rfl,iGd r3_66 [.o2,.o0,.o1] false (iP2 bGt r3_67 (rk (.int .i64 (.ofNat 64))) s3_68) (some s3_68) rfl rfl rfl,iGp (l3 pPick) [r3_66,(rk (.bool true)),r3_68] (some s3_69)]
def x40_8 : List (Ins tf3) := [iAs (rk (.int .i64 (.ofNat 2))) s3_2]
def x40_9 : List (Ins tf3) := [iP2 bAdd r3_60 (rk (.int .i64 (.ofNat 1))) s3_70,iMv r3_70 s3_60]
def x40_10 : List (Ins tf3) := [iP1 (bFa 5) r3_1 s3_71,iR1 bLd r3_71 s3_72,iP1 bLen r3_72 s3_73,iMv (rk (.int .i64 (.ofNat 0))) s3_74]
def x40_11 : List (Ins tf3) := [iP2 bLt r3_74 r3_73 s3_75]
def x40_12 : List (Ins tf3) := [iP2 (bIxs 8) r3_72 r3_74 s3_76,iGr (r1 (rLdn 8)) [r3_76] (some s3_77),iGa (aAl 8 [(.int .u8 (.ofNat 0)),(.int .u8 (.ofNat 0)),(.int .i64 (.ofNat 0)),(.int .i64 (.ofNat 0)),(.int .i64 (.ofNat 0)),(.int .u64 (.ofNat 0)),(.int .i64 (.ofNat 0)),(.int .u64 (.ofNat 0))]) [] (some s3_7),iGm (m2 (sStn 8)) [r3_7,r3_77] none]
def x40_13 : List (Ins tf3) := [iGr (r1 (rLdn 6)) [r3_1] (some s3_78),iGr (r1 (rLdn 8)) [r3_7] (some s3_79),iCall (rk (.func (.func 66) #[] #[])) [r3_78,r3_79] (some s3_80),iGp (l1 (pUn .not)) [r3_80] (some s3_81)]
def x40_14 : List (Ins tf3) := [iAs (rk (.int .i64 (.ofNat 2))) s3_2]
def x40_15 : List (Ins tf3) := [iP2 bAdd r3_74 (rk (.int .i64 (.ofNat 1))) s3_82,iMv r3_82 s3_74]
def x40_16 : List (Ins tf3) := [iP1 (bFa 5) r3_1 s3_83,iR1 bLd r3_83 s3_84,iP1 (bFa 5) r3_1 s3_85,iR1 bLd r3_85 s3_86,iP1 bLen r3_86 s3_87,iP2 bSub r3_87 (rk (.int .i64 (.ofNat 1))) s3_88,iP2 (bIxs 8) r3_84 r3_88 s3_89,iP1 (bFa 0) r3_89 s3_90,iR1 bLd r3_90 s3_91,iAs r3_91 s3_8]
def x40_17 : List (Ins tf3) := [iMv r3_8 s3_92,iP2 bNe r3_92 (rk (.int .u8 (.ofNat 9))) s3_93,iMv r3_93 s3_94,iGd r3_94 [.o6,.o3,.o1] true (iMv r3_8 s3_95) (some s3_95) rfl rfl rfl,iGd r3_94 [.o6,.o3,.o1] true (iP2 bNe r3_95 (rk (.int .u8 (.ofNat 7))) s3_96) (some s3_96) rfl rfl rfl,iGp (l3 pPick) [r3_94,r3_96,(rk (.bool false))] (some s3_97)]
def x40_18 : List (Ins tf3) := [iAs (rk (.int .i64 (.ofNat 2))) s3_2]
def x40_19 : List (Ins tf3) := [iAs (rk (.int .i64 (.ofNat 0))) s3_2]
def x40_20 : XC tf3 := (.seq (.rg x40_4 (.block 0 (.loop (.rg x40_5 (.seq (.cond r3_61 .skip (.exit 0)) (.seq (.block 1 (.rg x40_6 (.rg x40_7 (.cond r3_69 (.rg x40_8 .ret) .skip)))) (.reg x40_9))))))) (.seq (.rg x40_10 (.block 2 (.loop (.rg x40_11 (.seq (.cond r3_75 .skip (.exit 2)) (.seq (.block 3 (.rg x40_12 (.rg x40_13 (.cond r3_81 (.rg x40_14 .ret) .skip)))) (.reg x40_15))))))) (.seq (.rg x40_16 (.rg x40_17 (.cond r3_97 (.rg x40_18 .ret) .skip))) (.rg x40_19 .ret))))
def x40 : XC tf3 := (.rg x40_0 (.rg x40_1 (.seq (.rg x40_2 (.cond r3_56 (.rg x40_3 .ret) .skip)) x40_20)))
def c40 : Code := Tryd.f40.body.getD .skip
theorem x40_b : Tryd.f40.body = some c40 := by kernel_rfl
theorem x40_c : cG (comp Tryd.prog) 2 3 98 x40 c40 = x40.den := by kernel_rfl
def y40 : List (RR Tryd.prog 3 98 tf3) := [rrT r3_2 2 rfl rfl]
theorem x40_r : y40.map RR.den = Tryd.f40.results.toList := by kernel_rfl
theorem x40_k : okFn Tryd.f40 = true := by kernel_rfl
theorem x40_D : 3 = dep Tryd.f40.ntmps := by kernel_rfl
theorem x40_s : ([s3_0] : List (Slot tf3)).map Slot.p = (List.range' 0 1).map (pth 3) := by kernel_rfl
def X40 : XFn Tryd.prog 2 (comp Tryd.prog) := ⟨X3,tf3,40,Tryd.f40,c40,3,98,[s3_0],z3,x40,y40,x40_D,Tryd.ntmps40.symm,Tryd.func40,x40_b,x40_k,x40_s,by decide,z3_ok,x40_c,x40_r⟩
def x41_0 : List (Ins tf2) := [iAs (rk (.int .i64 (.ofNat 0))) s2_2]
def x41_1 : List (Ins tf2) := [iMv r2_0 s2_3,iGp (l2 (pEqD (tdOf 34) false)) [r2_3,(rk (.pointer none))] (some s2_4)]
def x41_2 : List (Ins tf2) := [iAs (rk (.int .i64 (.ofNat 0))) s2_2]
def x41_3 : List (Ins tf2) := [iMv r2_0 s2_5,iP1 bNil r2_5 s2_6,iP1 (bFa 0) r2_6 s2_7,iR1 bLd r2_7 s2_8,iAs r2_8 s2_2]
def x41 : XC tf2 := (.rg x41_0 (.seq (.rg x41_1 (.cond r2_4 (.rg x41_2 .ret) .skip)) (.rg x41_3 .ret)))
def c41 : Code := Tryd.f41.body.getD .skip
theorem x41_b : Tryd.f41.body = some c41 := by kernel_rfl
theorem x41_c : cG (comp Tryd.prog) 2 2 9 x41 c41 = x41.den := by kernel_rfl
def y41 : List (RR Tryd.prog 2 9 tf2) := [rrT r2_2 2 rfl rfl]
theorem x41_r : y41.map RR.den = Tryd.f41.results.toList := by kernel_rfl
theorem x41_k : okFn Tryd.f41 = true := by kernel_rfl
theorem x41_D : 2 = dep Tryd.f41.ntmps := by kernel_rfl
theorem x41_s : ([s2_0] : List (Slot tf2)).map Slot.p = (List.range' 0 1).map (pth 2) := by kernel_rfl
def X41 : XFn Tryd.prog 2 (comp Tryd.prog) := ⟨X2,tf2,41,Tryd.f41,c41,2,9,[s2_0],z2,x41,y41,x41_D,Tryd.ntmps41.symm,Tryd.func41,x41_b,x41_k,x41_s,by decide,z2_ok,x41_c,x41_r⟩
def x42_0 : List (Ins tf2) := [iGa (a1 gBox) [r2_1] (some s2_3),iAs (rk (.pointer none)) s2_4,iAs (rk (.int .i64 (.ofNat 0))) s2_5]
def x42_1 : List (Ins tf2) := [iMv r2_0 s2_12,iGp (l2 (pEqD (tdOf 34) false)) [r2_12,(rk (.pointer none))] (some s2_13)]
def x42_2 : List (Ins tf2) := [iAs (rk (.pointer none)) s2_4,iAs (rk (.int .i64 (.ofNat 1))) s2_5]
def x42_3 : List (Ins tf2) := [iGr (r1 (rLdn 6)) [r2_3] (some s2_14),iCall (rk (.func (.func 40) #[] #[])) [r2_14] (some s2_15),iP2 bNe r2_15 (rk (.int .i64 (.ofNat 0))) s2_16,iMv r2_16 s2_17,iGd r2_17 [.o1,.o2] false (iP1 (bFa 0) r2_3 s2_18) (some s2_18) rfl rfl rfl,iGd r2_17 [.o1,.o2] false (iR1 bLd r2_18 s2_19) (some s2_19) rfl rfl rfl,iGd r2_17 [.o1,.o2] false (iMv r2_0 s2_20) (some s2_20) rfl rfl rfl,iRc (iGd r2_17 [.o1,.o2] false (iCall (rk (.func (.func 41) #[] #[])) [r2_20] (some s2_21)) (some s2_21) rfl rfl rfl) [(rcS ⟨(some ([.o1,.o2],false)),.r (r1 rLd),[(.t [.o2,.o2])],(some [.o3,.o2])⟩)] rfl,iGd r2_17 [.o1,.o2] false (iP2 bNe r2_19 r2_21 s2_22) (some s2_22) rfl rfl rfl,iGp (l3 pPick) [r2_17,(rk (.bool true)),r2_22] (some s2_23)]
def x42_4 : List (Ins tf2) := [iAs (rk (.pointer none)) s2_4,iAs (rk (.int .i64 (.ofNat 2))) s2_5]
def x42_5 : List (Ins tf2) := [iMv r2_0 s2_25,iCall (rk (.func (.func 50) #[] #[])) [r2_25,(rk (.int .u64 (.ofNat 0)))] (some s2_26),iMv r2_26 s2_24,iGp (l1 (pExt 0)) [r2_24] (some s2_27),iGp (l1 (pExt 1)) [r2_24] (some s2_28),iGa (aAl 1 [(.int .i64 (.ofNat 0))]) [] (some s2_6),iM2 bSt r2_6 r2_27,iAs r2_28 s2_7]
def x42_6 : List (Ins tf2) := [iMv r2_7 s2_29,iP2 bNe r2_29 (rk (.int .i64 (.ofNat 0))) s2_30]
def x42_7 : List (Ins tf2) := [iMv r2_7 s2_31,iAs (rk (.pointer none)) s2_4,iAs r2_31 s2_5]
def x42_8 : List (Ins tf2) := [iGp (pMkf (.func 67) 0) [r2_6] (some s2_32),iAs r2_32 s2_8]
def x42_9 : List (Ins tf2) := [iMv r2_0 s2_33,iMv r2_8 s2_34,iP1 (bFa 1) r2_3 s2_35,iR1 bLd r2_35 s2_36,iCall r2_34 [r2_36] (some s2_37),iGp (pBld [(.pointer none),(.slice none 0 0),(.slice none 0 0)] [(0,1),(1,1)]) [r2_33,r2_37] (some s2_38),iGa (a1 gBox) [r2_38] (some s2_39),iAs r2_39 s2_9]
def x42_10 : List (Ins tf2) := [iP1 (bFa 4) r2_3 s2_40,iR1 bLd r2_40 s2_41,iP1 bLen r2_41 s2_42,iMv (rk (.int .i64 (.ofNat 0))) s2_43]
def x42_11 : List (Ins tf2) := [iP2 bLt r2_43 r2_42 s2_44]
def x42_12 : List (Ins tf2) := [iP2 (bIxs 1) r2_41 r2_43 s2_45,iR1 bLd r2_45 s2_46,iAs r2_46 s2_11]
def x42_13 : List (Ins tf2) := [iMv r2_9 s2_47,iMv r2_9 s2_48,iP1 bNil r2_48 s2_49,iP1 (bFa 2) r2_49 s2_50,iR1 bLd r2_50 s2_51,iMv r2_8 s2_52,iMv r2_11 s2_53,iRc (iCall r2_52 [r2_53] (some s2_54)) [(rcLd r2_50 r2_51 [.o3,.o6] rfl)] rfl,iGa (aBsl 1 1 [(.slice none 0 0)] [(0,1)]) [r2_54] (some s2_55),iGm (m2 (sApp 1)) [r2_51,r2_55] (some s2_56),iP1 bNil r2_47 s2_57,iP1 (bFa 2) r2_57 s2_58,iM2 bSt r2_58 r2_56]
def x42_14 : List (Ins tf2) := [iP2 bAdd r2_43 (rk (.int .i64 (.ofNat 1))) s2_59,iMv r2_59 s2_43]
def x42_15 : List (Ins tf2) := [iMv r2_9 s2_60,iAs r2_60 s2_4,iAs (rk (.int .i64 (.ofNat 0))) s2_5]
def x42 : XC tf2 := (.rg x42_0 (.seq (.rg x42_1 (.cond r2_13 (.rg x42_2 .ret) .skip)) (.seq (.rg x42_3 (.cond r2_23 (.rg x42_4 .ret) .skip)) (.rg x42_5 (.seq (.rg x42_6 (.cond r2_30 (.rg x42_7 .ret) .skip)) (.rg x42_8 (.rg x42_9 (.seq (.rg x42_10 (.block 0 (.loop (.rg x42_11 (.seq (.cond r2_44 .skip (.exit 0)) (.seq (.block 1 (.rg x42_12 (.reg x42_13))) (.reg x42_14))))))) (.rg x42_15 .ret)))))))))
def c42 : Code := Tryd.f42.body.getD .skip
theorem x42_b : Tryd.f42.body = some c42 := by kernel_rfl
theorem x42_c : cG (comp Tryd.prog) 2 2 61 x42 c42 = x42.den := by kernel_rfl
def y42 : List (RR Tryd.prog 2 61 tf2) := [rrT r2_4 4 rfl rfl,rrT r2_5 5 rfl rfl]
theorem x42_r : y42.map RR.den = Tryd.f42.results.toList := by kernel_rfl
theorem x42_k : okFn Tryd.f42 = true := by kernel_rfl
theorem x42_D : 2 = dep Tryd.f42.ntmps := by kernel_rfl
theorem x42_s : ([s2_0,s2_1] : List (Slot tf2)).map Slot.p = (List.range' 0 2).map (pth 2) := by kernel_rfl
def X42 : XFn Tryd.prog 2 (comp Tryd.prog) := ⟨X2,tf2,42,Tryd.f42,c42,2,61,[s2_0,s2_1],z2,x42,y42,x42_D,Tryd.ntmps42.symm,Tryd.func42,x42_b,x42_k,x42_s,by decide,z2_ok,x42_c,x42_r⟩
def x43_0 : List (Ins tf2) := [iAs (rk (.bool false)) s2_4]
def x43_1 : List (Ins tf2) := [iMv r2_1 s2_5,iP2 bNe r2_5 (rk (.int .i64 (.ofNat 0))) s2_6]
def x43_2 : List (Ins tf2) := [iMv r2_0 s2_7,iP1 bNil r2_7 s2_8,iP1 (bFa 9) r2_8 s2_9,iM2 bSt r2_9 (rk (.int .u8 (.ofNat 2)))]
def x43_3 : List (Ins tf2) := [iMv r2_1 s2_10,iP2 bNe r2_10 (rk (.int .i64 (.ofNat 0))) s2_11,iAs r2_11 s2_4]
def x43 : XC tf2 := (.rg x43_0 (.seq (.rg x43_1 (.cond r2_6 (.reg x43_2) .skip)) (.rg x43_3 .ret)))
def c43 : Code := Tryd.f43.body.getD .skip
theorem x43_b : Tryd.f43.body = some c43 := by kernel_rfl
theorem x43_c : cG (comp Tryd.prog) 2 2 12 x43 c43 = x43.den := by kernel_rfl
def y43 : List (RR Tryd.prog 2 12 tf2) := [rrT r2_4 4 rfl rfl]
theorem x43_r : y43.map RR.den = Tryd.f43.results.toList := by kernel_rfl
theorem x43_k : okFn Tryd.f43 = true := by kernel_rfl
theorem x43_D : 2 = dep Tryd.f43.ntmps := by kernel_rfl
theorem x43_s : ([s2_0,s2_1] : List (Slot tf2)).map Slot.p = (List.range' 0 2).map (pth 2) := by kernel_rfl
def X43 : XFn Tryd.prog 2 (comp Tryd.prog) := ⟨X2,tf2,43,Tryd.f43,c43,2,12,[s2_0,s2_1],z2,x43,y43,x43_D,Tryd.ntmps43.symm,Tryd.func43,x43_b,x43_k,x43_s,by decide,z2_ok,x43_c,x43_r⟩
def x50_0 : List (Ins tf2) := [iAs (rk (.int .i64 (.ofNat 0))) s2_4,iAs (rk (.int .i64 (.ofNat 0))) s2_5]
def x50_1 : List (Ins tf2) := [iMv r2_0 s2_6,iGp (l2 (pEqD (tdOf 34) false)) [r2_6,(rk (.pointer none))] (some s2_7)]
def x50_2 : List (Ins tf2) := [iAs (rk (.int .i64 (.ofNat 0))) s2_4,iAs (rk (.int .i64 (.ofNat 1))) s2_5]
def x50_3 : List (Ins tf2) := [iMv r2_0 s2_9,iP1 bNil r2_9 s2_10,iP1 (bFa 0) r2_10 s2_11,iR1 bLd r2_11 s2_12,iMv r2_1 s2_13,iCall (rk (.func (.func 68) #[] #[])) [r2_12,r2_13] (some s2_14),iMv r2_14 s2_8,iGp (l1 (pExt 0)) [r2_8] (some s2_15),iGp (l1 (pExt 1)) [r2_8] (some s2_16),iAs r2_15 s2_1]
def x50_4 : List (Ins tf2) := [iMv r2_0 s2_17,iMv r2_1 s2_18,iGp (pBld [(.int .u8 (.ofNat 0)),(.int .u64 (.ofNat 0)),(.slice none 0 0)] [(0,1),(1,1)]) [(rk (.int .u8 (.ofNat 0))),r2_18] (some s2_19),iCall (rk (.func (.func 69) #[] #[])) [r2_17,r2_19] (some s2_20),iGp (l1 (pExt 0)) [r2_20] (some s2_21),iGp (l1 (pExt 1)) [r2_20] (some s2_22),iAs r2_21 s2_4,iAs r2_22 s2_5]
def x50 : XC tf2 := (.rg x50_0 (.seq (.rg x50_1 (.cond r2_7 (.rg x50_2 .ret) .skip)) (.rg x50_3 (.rg x50_4 .ret))))
def c50 : Code := Tryd.f50.body.getD .skip
theorem x50_b : Tryd.f50.body = some c50 := by kernel_rfl
theorem x50_c : cG (comp Tryd.prog) 2 2 23 x50 c50 = x50.den := by kernel_rfl
def y50 : List (RR Tryd.prog 2 23 tf2) := [rrT r2_4 4 rfl rfl,rrT r2_5 5 rfl rfl]
theorem x50_r : y50.map RR.den = Tryd.f50.results.toList := by kernel_rfl
theorem x50_k : okFn Tryd.f50 = true := by kernel_rfl
theorem x50_D : 2 = dep Tryd.f50.ntmps := by kernel_rfl
theorem x50_s : ([s2_0,s2_1] : List (Slot tf2)).map Slot.p = (List.range' 0 2).map (pth 2) := by kernel_rfl
def X50 : XFn Tryd.prog 2 (comp Tryd.prog) := ⟨X2,tf2,50,Tryd.f50,c50,2,23,[s2_0,s2_1],z2,x50,y50,x50_D,Tryd.ntmps50.symm,Tryd.func50,x50_b,x50_k,x50_s,by decide,z2_ok,x50_c,x50_r⟩
def x52_0 : List (Ins tf2) := [iAs (rk (.int .i64 (.ofNat 0))) s2_4,iAs (rk (.int .i64 (.ofNat 0))) s2_5]
def x52_1 : List (Ins tf2) := [iMv r2_0 s2_6,iGp (l2 (pEqD (tdOf 34) false)) [r2_6,(rk (.pointer none))] (some s2_7)]
def x52_2 : List (Ins tf2) := [iAs (rk (.int .i64 (.ofNat 0))) s2_4,iAs (rk (.int .i64 (.ofNat 1))) s2_5]
def x52_3 : List (Ins tf2) := [iMv r2_1 s2_8,iP2 bLt r2_8 (rk (.int .i64 (.ofNat 0))) s2_9,iMv r2_9 s2_10,iGd r2_10 [.o2,.o1] false (iMv r2_1 s2_11) (some s2_11) rfl rfl rfl,iGd r2_10 [.o2,.o1] false (iP2 bGt r2_11 (rk (.int .i64 (.ofNat 4194303))) s2_12) (some s2_12) rfl rfl rfl,iGp (l3 pPick) [r2_10,(rk (.bool true)),r2_12] (some s2_13)]
def x52_4 : List (Ins tf2) := [iAs (rk (.int .i64 (.ofNat 0))) s2_4,iAs (rk (.int .i64 (.ofNat 3))) s2_5]
def x52_5 : List (Ins tf2) := [iMv r2_0 s2_14,iMv r2_1 s2_15,iP1 (bCv .u64) r2_15 s2_16,iGp (pBld [(.int .u8 (.ofNat 0)),(.int .u64 (.ofNat 0)),(.slice none 0 0)] [(0,1),(1,1)]) [(rk (.int .u8 (.ofNat 1))),r2_16] (some s2_17),iCall (rk (.func (.func 69) #[] #[])) [r2_14,r2_17] (some s2_18),iGp (l1 (pExt 0)) [r2_18] (some s2_19),iGp (l1 (pExt 1)) [r2_18] (some s2_20),iAs r2_19 s2_4,iAs r2_20 s2_5]
def x52 : XC tf2 := (.rg x52_0 (.seq (.rg x52_1 (.cond r2_7 (.rg x52_2 .ret) .skip)) (.seq (.rg x52_3 (.cond r2_13 (.rg x52_4 .ret) .skip)) (.rg x52_5 .ret))))
def c52 : Code := Tryd.f52.body.getD .skip
theorem x52_b : Tryd.f52.body = some c52 := by kernel_rfl
theorem x52_c : cG (comp Tryd.prog) 2 2 21 x52 c52 = x52.den := by kernel_rfl
def y52 : List (RR Tryd.prog 2 21 tf2) := [rrT r2_4 4 rfl rfl,rrT r2_5 5 rfl rfl]
theorem x52_r : y52.map RR.den = Tryd.f52.results.toList := by kernel_rfl
theorem x52_k : okFn Tryd.f52 = true := by kernel_rfl
theorem x52_D : 2 = dep Tryd.f52.ntmps := by kernel_rfl
theorem x52_s : ([s2_0,s2_1] : List (Slot tf2)).map Slot.p = (List.range' 0 2).map (pth 2) := by kernel_rfl
def X52 : XFn Tryd.prog 2 (comp Tryd.prog) := ⟨X2,tf2,52,Tryd.f52,c52,2,21,[s2_0,s2_1],z2,x52,y52,x52_D,Tryd.ntmps52.symm,Tryd.func52,x52_b,x52_k,x52_s,by decide,z2_ok,x52_c,x52_r⟩
def x54_0 : List (Ins tf2) := [iAs (rk (.int .i64 (.ofNat 0))) s2_6,iAs (rk (.int .i64 (.ofNat 0))) s2_7]
def x54_1 : List (Ins tf2) := [iMv r2_0 s2_12,iGp (l2 (pEqD (tdOf 34) false)) [r2_12,(rk (.pointer none))] (some s2_13)]
def x54_2 : List (Ins tf2) := [iAs (rk (.int .i64 (.ofNat 0))) s2_6,iAs (rk (.int .i64 (.ofNat 1))) s2_7]
def x54_3 : List (Ins tf2) := [iMv r2_1 s2_15,iCall (rk (.func (.func 72) #[] #[])) [r2_15] (some s2_16),iMv r2_16 s2_14,iGp (l1 (pExt 0)) [r2_14] (some s2_17),iGp (l1 (pExt 1)) [r2_14] (some s2_18),iAs r2_17 s2_8,iAs r2_18 s2_9]
def x54_4 : List (Ins tf2) := [iMv r2_9 s2_19,iP2 bNe r2_19 (rk (.int .i64 (.ofNat 0))) s2_20,iMv r2_20 s2_21,iGd r2_21 [.o5,.o2] false (iMv r2_8 s2_22) (some s2_22) rfl rfl rfl,iGd r2_21 [.o5,.o2] false (iP2 bEq r2_22 (rk (.int .i64 (.ofNat 0))) s2_23) (some s2_23) rfl rfl rfl,iGp (l3 pPick) [r2_21,(rk (.bool true)),r2_23] (some s2_24),iMv r2_24 s2_25,iGd r2_25 [.o1,.o3] false (iMv r2_8 s2_26) (some s2_26) rfl rfl rfl,iGd r2_25 [.o1,.o3] false (iMv r2_2 s2_27) (some s2_27) rfl rfl rfl,iGd r2_25 [.o1,.o3] false (iP1 bLen r2_27 s2_28) (some s2_28) rfl rfl rfl,iGd r2_25 [.o1,.o3] false (iP2 bNe r2_26 r2_28 s2_29) (some s2_29) rfl rfl rfl,iGp (l3 pPick) [r2_25,(rk (.bool true)),r2_29] (some s2_30)]
def x54_5 : List (Ins tf2) := [iAs (rk (.int .i64 (.ofNat 0))) s2_6,iAs (rk (.int .i64 (.ofNat 2))) s2_7]
def x54_6 : List (Ins tf2) := [iMv r2_2 s2_31,iP1 bLen r2_31 s2_32,iMv (rk (.int .i64 (.ofNat 0))) s2_33]
def x54_7 : List (Ins tf2) := [iP2 bLt r2_33 r2_32 s2_34]
def x54_8 : List (Ins tf2) := [iP2 (bIxs 1) r2_31 r2_33 s2_35,iR1 bLd r2_35 s2_36,iAs r2_36 s2_11]
def x54_9 : List (Ins tf2) := [iMv r2_11 s2_37,iP2 bLt r2_37 (rk (.int .i64 (.ofNat 0))) s2_38,iMv r2_38 s2_39,iGd r2_39 [.o7,.o4] false (iMv r2_11 s2_40) (some s2_40) rfl rfl rfl,iGd r2_39 [.o7,.o4] false (iMv r2_0 s2_41) (some s2_41) rfl rfl rfl,iGd r2_39 [.o7,.o4] false (iP1 bNil r2_41 s2_42) (some s2_42) rfl rfl rfl,iGd r2_39 [.o7,.o4] false (iP1 (bFa 2) r2_42 s2_43) (some s2_43) rfl rfl rfl,iGd r2_39 [.o7,.o4] false (iR1 bLd r2_43 s2_44) (some s2_44) rfl rfl rfl,iGd r2_39 [.o7,.o4] false (iP1 bLen r2_44 s2_45) (some s2_45) rfl rfl rfl,iGd r2_39 [.o7,.o4] false (iP2 bGe r2_40 r2_45 s2_46) (some s2_46) rfl rfl rfl,iGp (l3 pPick) [r2_39,(rk (.bool true)),r2_46] (some s2_47)]
def x54_10 : List (Ins tf2) := [iAs (rk (.int .i64 (.ofNat 0))) s2_6,iAs (rk (.int .i64 (.ofNat 3))) s2_7]
def x54_11 : List (Ins tf2) := [iP2 bAdd r2_33 (rk (.int .i64 (.ofNat 1))) s2_48,iMv r2_48 s2_33]
def x54_12 : List (Ins tf2) := [iMv r2_0 s2_49,iMv r2_1 s2_50,iMv r2_2 s2_51,iGm (m2 (sApp 1)) [(rk (.slice none 0 0)),r2_51] (some s2_52),iGp (pBld [(.int .u8 (.ofNat 0)),(.int .u64 (.ofNat 0)),(.slice none 0 0)] [(0,1),(2,1)]) [r2_50,r2_52] (some s2_53),iCall (rk (.func (.func 69) #[] #[])) [r2_49,r2_53] (some s2_54),iGp (l1 (pExt 0)) [r2_54] (some s2_55),iGp (l1 (pExt 1)) [r2_54] (some s2_56),iAs r2_55 s2_6,iAs r2_56 s2_7]
def x54 : XC tf2 := (.rg x54_0 (.seq (.rg x54_1 (.cond r2_13 (.rg x54_2 .ret) .skip)) (.seq (.rg x54_3 (.rg x54_4 (.cond r2_30 (.rg x54_5 .ret) .skip))) (.seq (.rg x54_6 (.block 0 (.loop (.rg x54_7 (.seq (.cond r2_34 .skip (.exit 0)) (.seq (.block 1 (.rg x54_8 (.rg x54_9 (.cond r2_47 (.rg x54_10 .ret) .skip)))) (.reg x54_11))))))) (.rg x54_12 .ret)))))
def c54 : Code := Tryd.f54.body.getD .skip
theorem x54_b : Tryd.f54.body = some c54 := by kernel_rfl
theorem x54_c : cG (comp Tryd.prog) 2 2 57 x54 c54 = x54.den := by kernel_rfl
def y54 : List (RR Tryd.prog 2 57 tf2) := [rrT r2_6 6 rfl rfl,rrT r2_7 7 rfl rfl]
theorem x54_r : y54.map RR.den = Tryd.f54.results.toList := by kernel_rfl
theorem x54_k : okFn Tryd.f54 = true := by kernel_rfl
theorem x54_D : 2 = dep Tryd.f54.ntmps := by kernel_rfl
theorem x54_s : ([s2_0,s2_1,s2_2] : List (Slot tf2)).map Slot.p = (List.range' 0 3).map (pth 2) := by kernel_rfl
def X54 : XFn Tryd.prog 2 (comp Tryd.prog) := ⟨X2,tf2,54,Tryd.f54,c54,2,57,[s2_0,s2_1,s2_2],z2,x54,y54,x54_D,Tryd.ntmps54.symm,Tryd.func54,x54_b,x54_k,x54_s,by decide,z2_ok,x54_c,x54_r⟩
end
end Cr
end Go.Proofs.YtjhbabgcoemecaaDoor
namespace Go.Proofs.YtjhbabgcoemecaaDoor
namespace Cr
open Go Go.RowKit
set_option maxRecDepth 100000
noncomputable section
def x56_0 : List (Ins tf3) := [iGa (a1 gBox) [r3_2] (some s3_5),iAs (rk (.slice none 0 0)) s3_6,iAs (rk (.int .i64 (.ofNat 0))) s3_7]
def x56_1 : List (Ins tf3) := [iMv r3_0 s3_25,iGp (l2 (pEqD (tdOf 34) false)) [r3_25,(rk (.pointer none))] (some s3_26)]
def x56_2 : List (Ins tf3) := [iAs (rk (.slice none 0 0)) s3_6,iAs (rk (.int .i64 (.ofNat 1))) s3_7]
def x56_3 : List (Ins tf3) := [iAs (rk (.int .i64 (.negSucc 0))) s3_8]
def x56_4 : List (Ins tf3) := [iMv r3_1 s3_27,iP1 bLen r3_27 s3_28,iMv (rk (.int .i64 (.ofNat 0))) s3_29]
def x56_5 : List (Ins tf3) := [iP2 bLt r3_29 r3_28 s3_30]
def x56_6 : List (Ins tf3) := [iP2 (bIxs 1) r3_27 r3_29 s3_31,iR1 bLd r3_31 s3_32,iAs r3_32 s3_10]
def x56_7 : List (Ins tf3) := [iMv r3_10 s3_33,iP2 bLt r3_33 (rk (.int .i64 (.ofNat 0))) s3_34,iMv r3_34 s3_35,iGd r3_35 [.o3,.o4,.o0] false (iMv r3_10 s3_36) (some s3_36) rfl rfl rfl,iGd r3_35 [.o3,.o4,.o0] false (iMv r3_0 s3_37) (some s3_37) rfl rfl rfl,iGd r3_35 [.o3,.o4,.o0] false (iCall (rk (.func (.func 74) #[] #[])) [r3_37] (some s3_38)) (some s3_38) rfl rfl rfl,iGd r3_35 [.o3,.o4,.o0] false (iP2 bGe r3_36 r3_38 s3_39) (some s3_39) rfl rfl rfl,iGp (l3 pPick) [r3_35,(rk (.bool true)),r3_39] (some s3_40)]
def x56_8 : List (Ins tf3) := [iAs (rk (.slice none 0 0)) s3_6,iAs (rk (.int .i64 (.ofNat 3))) s3_7]
def x56_9 : List (Ins tf3) := [iMv r3_8 s3_41,iMv r3_10 s3_42,iGp (l2 pMax) [r3_41,r3_42] (some s3_43),iAs r3_43 s3_8]
def x56_10 : List (Ins tf3) := [iP2 bAdd r3_29 (rk (.int .i64 (.ofNat 1))) s3_44,iMv r3_44 s3_29]
def x56_11 : List (Ins tf3) := [iMv r3_8 s3_45,iP2 bAdd r3_45 (rk (.int .i64 (.ofNat 1))) s3_46,iGa (a2 (gMks 3 40 [(.int .u8 (.ofNat 0)),(.int .u64 (.ofNat 0)),(.slice none 0 0)])) [r3_46,r3_46] (some s3_47),iAs r3_47 s3_11]
def x56_12 : List (Ins tf3) := [iMv r3_8 s3_48,iP2 bAdd r3_48 (rk (.int .i64 (.ofNat 1))) s3_49,iGa (a2 (gMks 1 1 [(.bool false)])) [r3_49,r3_49] (some s3_50),iAs r3_50 s3_12]
def x56_13 : List (Ins tf3) := [iMv r3_1 s3_51,iP1 bLen r3_51 s3_52,iMv (rk (.int .i64 (.ofNat 0))) s3_53]
def x56_14 : List (Ins tf3) := [iP2 bLt r3_53 r3_52 s3_54]
def x56_15 : List (Ins tf3) := [iP2 (bIxs 1) r3_51 r3_53 s3_55,iR1 bLd r3_55 s3_56,iAs r3_56 s3_14]
def x56_16 : List (Ins tf3) := [iMv r3_12 s3_57,iMv r3_14 s3_58,iP2 (bIxs 1) r3_57 r3_58 s3_59,iM2 bSt r3_59 (rk (.bool true))]
def x56_17 : List (Ins tf3) := [iP2 bAdd r3_53 (rk (.int .i64 (.ofNat 1))) s3_60,iMv r3_60 s3_53]
def x56_18 : List (Ins tf3) := [iMv r3_8 s3_61,iAs r3_61 s3_15]
def x56_19 : List (Ins tf3) := [iMv r3_15 s3_62,iP2 bGe r3_62 (rk (.int .i64 (.ofNat 0))) s3_63]
def x56_20 : List (Ins tf3) := [iMv r3_12 s3_66,iMv r3_15 s3_67,iP2 (bIxs 1) r3_66 r3_67 s3_68,iR1 bLd r3_68 s3_69]
def x56_21 : List (Ins tf3) := [iMv r3_11 s3_71,iMv r3_15 s3_72,iMv r3_0 s3_73,iMv r3_15 s3_74,iCall (rk (.func (.func 75) #[] #[])) [r3_73,r3_74] (some s3_75),iMv r3_75 s3_70,iGp (l1 (pExt 0)) [r3_70] (some s3_76),iGp (l1 (pExt 1)) [r3_70] (some s3_77),iP2 (bIxs 3) r3_71 r3_72 s3_78,iGm (m2 (sStn 3)) [r3_78,r3_76] none]
def x56_22 : List (Ins tf3) := [iMv r3_11 s3_79,iMv r3_15 s3_80,iP2 (bIxs 3) r3_79 r3_80 s3_81,iP1 (bFa 2) r3_81 s3_82,iR1 bLd r3_82 s3_83,iP1 bLen r3_83 s3_84,iMv (rk (.int .i64 (.ofNat 0))) s3_85]
def x56_23 : List (Ins tf3) := [iP2 bLt r3_85 r3_84 s3_86]
def x56_24 : List (Ins tf3) := [iP2 (bIxs 1) r3_83 r3_85 s3_87,iR1 bLd r3_87 s3_88,iAs r3_88 s3_17]
def x56_25 : List (Ins tf3) := [iMv r3_12 s3_89,iMv r3_17 s3_90,iP2 (bIxs 1) r3_89 r3_90 s3_91,iM2 bSt r3_91 (rk (.bool true))]
def x56_26 : List (Ins tf3) := [iP2 bAdd r3_85 (rk (.int .i64 (.ofNat 1))) s3_92,iMv r3_92 s3_85]
def x56_27 : List (Ins tf3) := [iMv r3_15 s3_64,iP2 bSub r3_64 (rk (.int .i64 (.ofNat 1))) s3_65,iAs r3_65 s3_15]
def x56_28 : List (Ins tf3) := [iMv r3_8 s3_93,iP2 bAdd r3_93 (rk (.int .i64 (.ofNat 1))) s3_94,iGa (a2 (gMks 1 8 [(.int .u64 (.ofNat 0))])) [r3_94,r3_94] (some s3_95),iGa (aAl 1 [(.slice none 0 0)]) [] (some s3_18),iM2 bSt r3_18 r3_95]
def x56_29 : List (Ins tf3) := [iMv r3_0 s3_96,iCall (rk (.func (.func 41) #[] #[])) [r3_96] (some s3_97),iGa (aAl 1 [(.int .i64 (.ofNat 0))]) [] (some s3_19),iM2 bSt r3_19 r3_97]
def x56_30 : List (Ins tf3) := [iGp (pMkf (.func 76) 0) [r3_5,r3_19,r3_18] (some s3_98),iAs r3_98 s3_20]
def x56_31 : List (Ins tf3) := [iR1 bLd r3_18 s3_99,iP1 bLen r3_99 s3_100,iMv (rk (.int .i64 (.ofNat 0))) s3_101]
def x56_32 : List (Ins tf3) := [iP2 bLt r3_101 r3_100 s3_102]
def x56_33 : List (Ins tf3) := [iMv r3_101 s3_103,iAs r3_103 s3_21]
def x56_34 : List (Ins tf3) := [iMv r3_12 s3_104,iMv r3_21 s3_105,iP2 (bIxs 1) r3_104 r3_105 s3_106,iR1 bLd r3_106 s3_107]
def x56_35 : List (Ins tf3) := [iR1 bLd r3_18 s3_108,iMv r3_21 s3_109,iMv r3_20 s3_110,iMv r3_11 s3_111,iMv r3_21 s3_112,iP2 (bIxs 3) r3_111 r3_112 s3_113,iGr (r1 (rLdn 3)) [r3_113] (some s3_114),iRc (iCall r3_110 [r3_114] (some s3_115)) [(rcLd r3_18 r3_108 [.o4,.o5,.o1] rfl)] rfl,iP2 (bIxs 1) r3_108 r3_109 s3_116,iM2 bSt r3_116 r3_115]
def x56_36 : List (Ins tf3) := [iP2 bAdd r3_101 (rk (.int .i64 (.ofNat 1))) s3_117,iMv r3_117 s3_101]
def x56_37 : List (Ins tf3) := [iMv r3_1 s3_118,iP1 bLen r3_118 s3_119,iGa (a2 (gMks 1 8 [(.int .u64 (.ofNat 0))])) [r3_119,r3_119] (some s3_120),iAs r3_120 s3_22]
def x56_38 : List (Ins tf3) := [iMv r3_1 s3_121,iP1 bLen r3_121 s3_122,iMv (rk (.int .i64 (.ofNat 0))) s3_123]
def x56_39 : List (Ins tf3) := [iP2 bLt r3_123 r3_122 s3_124]
def x56_40 : List (Ins tf3) := [iMv r3_123 s3_125,iP2 (bIxs 1) r3_121 r3_123 s3_126,iR1 bLd r3_126 s3_127,iAs r3_125 s3_23,iAs r3_127 s3_24]
def x56_41 : List (Ins tf3) := [iMv r3_22 s3_128,iMv r3_23 s3_129,iR1 bLd r3_18 s3_130,iMv r3_24 s3_131,iP2 (bIxs 1) r3_130 r3_131 s3_132,iR1 bLd r3_132 s3_133,iP2 (bIxs 1) r3_128 r3_129 s3_134,iM2 bSt r3_134 r3_133]
def x56_42 : List (Ins tf3) := [iP2 bAdd r3_123 (rk (.int .i64 (.ofNat 1))) s3_135,iMv r3_135 s3_123]
def x56_43 : List (Ins tf3) := [iMv r3_22 s3_136,iAs r3_136 s3_6,iAs (rk (.int .i64 (.ofNat 0))) s3_7]
def x56_44 : XC tf3 := (.rg x56_28 (.rg x56_29 (.rg x56_30 (.seq (.rg x56_31 (.block 8 (.loop (.rg x56_32 (.seq (.cond r3_102 .skip (.exit 8)) (.seq (.block 9 (.rg x56_33 (.rg x56_34 (.cond r3_107 (.reg x56_35) .skip)))) (.reg x56_36))))))) (.rg x56_37 (.seq (.rg x56_38 (.block 10 (.loop (.rg x56_39 (.seq (.cond r3_124 .skip (.exit 10)) (.seq (.block 11 (.rg x56_40 (.reg x56_41))) (.reg x56_42))))))) (.rg x56_43 .ret)))))))
def x56_45 : XC tf3 := (.seq (.rg x56_13 (.block 2 (.loop (.rg x56_14 (.seq (.cond r3_54 .skip (.exit 2)) (.seq (.block 3 (.rg x56_15 (.reg x56_16))) (.reg x56_17))))))) (.seq (.rg x56_18 (.block 4 (.loop (.seq (.rg x56_19 (.cond r3_63 .skip (.exit 4))) (.seq (.block 5 (.rg x56_20 (.cond r3_69 (.rg x56_21 (.rg x56_22 (.block 6 (.loop (.rg x56_23 (.seq (.cond r3_86 .skip (.exit 6)) (.seq (.block 7 (.rg x56_24 (.reg x56_25))) (.reg x56_26)))))))) .skip))) (.reg x56_27)))))) x56_44))
def x56 : XC tf3 := (.rg x56_0 (.seq (.rg x56_1 (.cond r3_26 (.rg x56_2 .ret) .skip)) (.rg x56_3 (.seq (.rg x56_4 (.block 0 (.loop (.rg x56_5 (.seq (.cond r3_30 .skip (.exit 0)) (.seq (.block 1 (.rg x56_6 (.seq (.rg x56_7 (.cond r3_40 (.rg x56_8 .ret) .skip)) (.reg x56_9)))) (.reg x56_10))))))) (.rg x56_11 (.rg x56_12 x56_45))))))
def c56 : Code := Tryd.f56.body.getD .skip
theorem x56_b : Tryd.f56.body = some c56 := by kernel_rfl
theorem x56_c : cG (comp Tryd.prog) 2 3 137 x56 c56 = x56.den := by kernel_rfl
def y56 : List (RR Tryd.prog 3 137 tf3) := [rrT r3_6 6 rfl rfl,rrT r3_7 7 rfl rfl]
theorem x56_r : y56.map RR.den = Tryd.f56.results.toList := by kernel_rfl
theorem x56_k : okFn Tryd.f56 = true := by kernel_rfl
theorem x56_D : 3 = dep Tryd.f56.ntmps := by kernel_rfl
theorem x56_s : ([s3_0,s3_1,s3_2] : List (Slot tf3)).map Slot.p = (List.range' 0 3).map (pth 3) := by kernel_rfl
def X56 : XFn Tryd.prog 2 (comp Tryd.prog) := ⟨X3,tf3,56,Tryd.f56,c56,3,137,[s3_0,s3_1,s3_2],z3,x56,y56,x56_D,Tryd.ntmps56.symm,Tryd.func56,x56_b,x56_k,x56_s,by decide,z3_ok,x56_c,x56_r⟩
def x64_0 : List (Ins tf2) := [iAs (rk (.int .i64 (.ofNat 0))) s2_2]
def x64_1 : List (Ins tf2) := [iMv r2_0 s2_3,iP2 bLt r2_3 (rk (.int .i64 (.ofNat 1))) s2_4,iMv r2_4 s2_5,iGd r2_5 [.o5,.o0] false (iMv r2_0 s2_6) (some s2_6) rfl rfl rfl,iGd r2_5 [.o5,.o0] false (iP2 bGt r2_6 (rk (.int .i64 (.ofNat 64))) s2_7) (some s2_7) rfl rfl rfl,iGp (l3 pPick) [r2_5,(rk (.bool true)),r2_7] (some s2_8)]
def x64_2 : List (Ins tf2) := [iAs (rk (.int .i64 (.ofNat 3))) s2_2]
def x64_3 : List (Ins tf2) := [iAs (rk (.int .i64 (.ofNat 0))) s2_2]
def x64 : XC tf2 := (.rg x64_0 (.seq (.rg x64_1 (.cond r2_8 (.rg x64_2 .ret) .skip)) (.rg x64_3 .ret)))
def c64 : Code := Tryd.f64.body.getD .skip
theorem x64_b : Tryd.f64.body = some c64 := by kernel_rfl
theorem x64_c : cG (comp Tryd.prog) 2 2 9 x64 c64 = x64.den := by kernel_rfl
def y64 : List (RR Tryd.prog 2 9 tf2) := [rrT r2_2 2 rfl rfl]
theorem x64_r : y64.map RR.den = Tryd.f64.results.toList := by kernel_rfl
theorem x64_k : okFn Tryd.f64 = true := by kernel_rfl
theorem x64_D : 2 = dep Tryd.f64.ntmps := by kernel_rfl
theorem x64_s : ([s2_0] : List (Slot tf2)).map Slot.p = (List.range' 0 1).map (pth 2) := by kernel_rfl
def X64 : XFn Tryd.prog 2 (comp Tryd.prog) := ⟨X2,tf2,64,Tryd.f64,c64,2,9,[s2_0],z2,x64,y64,x64_D,Tryd.ntmps64.symm,Tryd.func64,x64_b,x64_k,x64_s,by decide,z2_ok,x64_c,x64_r⟩
def x65_0 : List (Ins tf2) := [iAs (rk (.bool false)) s2_2]
def x65_1 : List (Ins tf2) := [iMv r2_0 s2_5,iP1 bLen r2_5 s2_6,iMv (rk (.int .i64 (.ofNat 0))) s2_7]
def x65_2 : List (Ins tf2) := [iP2 bLt r2_7 r2_6 s2_8]
def x65_3 : List (Ins tf2) := [iMv r2_7 s2_9,iP2 (bIxs 1) r2_5 r2_7 s2_10,iR1 bLd r2_10 s2_11,iAs r2_9 s2_3,iAs r2_11 s2_4]
def x65_4 : List (Ins tf2) := [iMv r2_4 s2_12,iCall (rk (.func (.func 79) #[] #[])) [r2_12] (some s2_13),iGp (l1 (pUn .not)) [r2_13] (some s2_14),iMv r2_14 s2_15,iGd r2_15 [.o7,.o1] false (iMv r2_0 s2_16) (some s2_16) rfl rfl rfl,iGd r2_15 [.o7,.o1] false (iMv r2_3 s2_17) (some s2_17) rfl rfl rfl,iGd r2_15 [.o7,.o1] false (iGp (pSlB (pSl 1) false true false) [r2_16,r2_17] (some s2_18)) (some s2_18) rfl rfl rfl,iGd r2_15 [.o7,.o1] false (iMv r2_4 s2_19) (some s2_19) rfl rfl rfl,iGd r2_15 [.o7,.o1] false (iCall (rk (.func (.func 80) #[] #[])) [r2_18,r2_19] (some s2_20)) (some s2_20) rfl rfl rfl,iGp (l3 pPick) [r2_15,(rk (.bool true)),r2_20] (some s2_21)]
def x65_5 : List (Ins tf2) := [iAs (rk (.bool false)) s2_2]
def x65_6 : List (Ins tf2) := [iP2 bAdd r2_7 (rk (.int .i64 (.ofNat 1))) s2_22,iMv r2_22 s2_7]
def x65_7 : List (Ins tf2) := [iMv r2_0 s2_23,iP1 bLen r2_23 s2_24,iP2 bLe r2_24 (rk (.int .i64 (.ofNat 32))) s2_25,iAs r2_25 s2_2]
def x65 : XC tf2 := (.rg x65_0 (.seq (.rg x65_1 (.block 0 (.loop (.rg x65_2 (.seq (.cond r2_8 .skip (.exit 0)) (.seq (.block 1 (.rg x65_3 (.rg x65_4 (.cond r2_21 (.rg x65_5 .ret) .skip)))) (.reg x65_6))))))) (.rg x65_7 .ret)))
def c65 : Code := Tryd.f65.body.getD .skip
theorem x65_b : Tryd.f65.body = some c65 := by kernel_rfl
theorem x65_c : cG (comp Tryd.prog) 2 2 26 x65 c65 = x65.den := by kernel_rfl
def y65 : List (RR Tryd.prog 2 26 tf2) := [rrT r2_2 2 rfl rfl]
theorem x65_r : y65.map RR.den = Tryd.f65.results.toList := by kernel_rfl
theorem x65_k : okFn Tryd.f65 = true := by kernel_rfl
theorem x65_D : 2 = dep Tryd.f65.ntmps := by kernel_rfl
theorem x65_s : ([s2_0] : List (Slot tf2)).map Slot.p = (List.range' 0 1).map (pth 2) := by kernel_rfl
def X65 : XFn Tryd.prog 2 (comp Tryd.prog) := ⟨X2,tf2,65,Tryd.f65,c65,2,26,[s2_0],z2,x65,y65,x65_D,Tryd.ntmps65.symm,Tryd.func65,x65_b,x65_k,x65_s,by decide,z2_ok,x65_c,x65_r⟩
def x66_0 : List (Ins tf3) := [iGa (a1 gBox) [r3_0] (some s3_2),iGa (a1 gBox) [r3_1] (some s3_3),iAs (rk (.bool false)) s3_4]
def x66_1 : List (Ins tf3) := [iP1 (bFa 0) r3_3 s3_9,iR1 bLd r3_9 s3_10,iP1 (bCv .i64) r3_10 s3_11,iP2 bGe r3_11 (rk (.int .i64 (.ofNat 10))) s3_12]
def x66_2 : List (Ins tf3) := [iAs (rk (.bool false)) s3_4]
def x66_3 : List (Ins tf3) := [iP1 (bFa 0) r3_3 s3_13,iR1 bLd r3_13 s3_14,iP2 (bIxa 10 4) (rk (.pointer (some ⟨1,0,none⟩))) r3_14 s3_15,iGr (r1 (rLdn 4)) [r3_15] (some s3_16),iGa (aAl 4 [(.bool false),(.bool false),(.bool false),(.int .i64 (.ofNat 0))]) [] (some s3_5),iGm (m2 (sStn 4)) [r3_5,r3_16] none]
def x66_4 : List (Ins tf3) := [iP1 (bFa 0) r3_3 s3_17,iR1 bLd r3_17 s3_18,iP2 bEq r3_18 (rk (.int .u8 (.ofNat 1))) s3_19]
def x66_5 : List (Ins tf3) := [iP1 (bFa 1) r3_3 s3_20,iR1 bLd r3_20 s3_21,iP2 bLt r3_21 (rk (.int .u8 (.ofNat 2))) s3_22,iMv r3_22 s3_23,iGd r3_23 [.o7,.o2,.o0] false (iP1 (bFa 1) r3_3 s3_24) (some s3_24) rfl rfl rfl,iGd r3_23 [.o7,.o2,.o0] false (iR1 bLd r3_24 s3_25) (some s3_25) rfl rfl rfl,iGd r3_23 [.o7,.o2,.o0] false (iP2 bGt r3_25 (rk (.int .u8 (.ofNat 20))) s3_26) (some s3_26) rfl rfl rfl,iGp (l3 pPick) [r3_23,(rk (.bool true)),r3_26] (some s3_27)]
def x66_6 : List (Ins tf3) := [iAs (rk (.bool false)) s3_4]
def x66_7 : List (Ins tf3) := [iP1 (bFa 1) r3_3 s3_29,iR1 bLd r3_29 s3_30,iCall (rk (.func (.func 72) #[] #[])) [r3_30] (some s3_31),iMv r3_31 s3_28,iGp (l1 (pExt 0)) [r3_28] (some s3_32),iGp (l1 (pExt 1)) [r3_28] (some s3_33),iAs r3_32 s3_6,iAs r3_33 s3_7]
def x66_8 : List (Ins tf3) := [iMv r3_6 s3_34,iP2 bEq r3_34 (rk (.int .i64 (.ofNat 2))) s3_35,iP1 (bFa 2) r3_5 s3_36,iM2 bSt r3_36 r3_35]
def x66_9 : List (Ins tf3) := [iP1 (bFa 1) r3_3 s3_37,iR1 bLd r3_37 s3_38,iP2 bNe r3_38 (rk (.int .u8 (.ofNat 0))) s3_39]
def x66_10 : List (Ins tf3) := [iAs (rk (.bool false)) s3_4]
def x66_11 : List (Ins tf3) := [iP1 (bFa 4) r3_2 s3_40,iR1 bLd r3_40 s3_41,iP1 bLen r3_41 s3_42,iP1 (bFa 2) r3_2 s3_43,iR1 bLd r3_43 s3_44,iP1 bLen r3_44 s3_45,iP1 (bFa 3) r3_2 s3_46,iR1 bLd r3_46 s3_47,iP1 bLen r3_47 s3_48,iP1 (bFa 5) r3_2 s3_49,iR1 bLd r3_49 s3_50,iP1 bLen r3_50 s3_51,iGp (pBld [(.int .i64 (.ofNat 0)),(.int .i64 (.ofNat 0)),(.int .i64 (.ofNat 0)),(.int .i64 (.ofNat 0)),(.int .i64 (.ofNat 0))] [(0,1),(1,1),(2,1),(3,1),(4,1)]) [(rk (.int .i64 (.ofNat 1))),r3_42,r3_45,r3_48,r3_51] (some s3_52),iP1 (bFa 3) r3_5 s3_53,iR1 bLd r3_53 s3_54,iGp (l2 (pIx 5 none 1)) [r3_52,r3_54] (some s3_55),iAs r3_55 s3_8]
def x66_12 : List (Ins tf3) := [iP1 (bFa 3) r3_3 s3_56,iR1 bLd r3_56 s3_57,iP2 bLt r3_57 (rk (.int .i64 (.ofNat 0))) s3_58,iMv r3_58 s3_59,iGd r3_59 [.o3,.o7,.o0] false (iP1 (bFa 3) r3_3 s3_60) (some s3_60) rfl rfl rfl,iGd r3_59 [.o3,.o7,.o0] false (iR1 bLd r3_60 s3_61) (some s3_61) rfl rfl rfl,iGd r3_59 [.o3,.o7,.o0] false (iMv r3_8 s3_62) (some s3_62) rfl rfl rfl,iGd r3_59 [.o3,.o7,.o0] false (iP2 bGe r3_61 r3_62 s3_63) (some s3_63) rfl rfl rfl,iGp (l3 pPick) [r3_59,(rk (.bool true)),r3_63] (some s3_64),iMv r3_64 s3_65,iGd r3_65 [.o1,.o0,.o1] false (iP1 (bFa 0) r3_5 s3_66) (some s3_66) rfl rfl rfl,iGd r3_65 [.o1,.o0,.o1] false (iR1 bLd r3_66 s3_67) (some s3_67) rfl rfl rfl,iGd r3_65 [.o1,.o0,.o1] false (iGp (l1 (pUn .not)) [r3_67] (some s3_68)) (some s3_68) rfl rfl rfl,iGd r3_65 [.o1,.o0,.o1] false (iMv r3_68 s3_69) (some s3_69) rfl rfl rfl,iGd r3_69 [.o5,.o0,.o1] true (iP1 (bFa 2) r3_3 s3_70) (some s3_70) rfl rfl rfl,iGd r3_69 [.o5,.o0,.o1] true (iR1 bLd r3_70 s3_71) (some s3_71) rfl rfl rfl,iGd r3_69 [.o5,.o0,.o1] true (iP2 bNe r3_71 (rk (.int .i64 (.ofNat 0))) s3_72) (some s3_72) rfl rfl rfl,iGd r3_65 [.o1,.o0,.o1] false (iGp (l3 pPick) [r3_69,r3_72,(rk (.bool false))] (some s3_73)) (some s3_73) rfl rfl rfl,iGp (l3 pPick) [r3_65,(rk (.bool true)),r3_73] (some s3_74),iMv r3_74 s3_75,iGd r3_75 [.o3,.o1,.o1] false (iP1 (bFa 0) r3_5 s3_76) (some s3_76) rfl rfl rfl,iGd r3_75 [.o3,.o1,.o1] false (iR1 bLd r3_76 s3_77) (some s3_77) rfl rfl rfl,iGd r3_75 [.o3,.o1,.o1] false (iMv r3_77 s3_78) (some s3_78) rfl rfl rfl,iGd r3_78 [.o6,.o1,.o1] true (iP1 (bFa 2) r3_3 s3_79) (some s3_79) rfl rfl rfl,iGd r3_78 [.o6,.o1,.o1] true (iR1 bLd r3_79 s3_80) (some s3_80) rfl rfl rfl,iGd r3_78 [.o6,.o1,.o1] true (iP2 bLt r3_80 (rk (.int .i64 (.ofNat 0))) s3_81) (some s3_81) rfl rfl rfl,iGd r3_78 [.o6,.o1,.o1] true (iMv r3_81 s3_82) (some s3_82) rfl rfl rfl,iGd r3_82 [.o2,.o2,.o1] false (iP1 (bFa 2) r3_3 s3_83) (some s3_83) rfl rfl rfl,iGd r3_82 [.o2,.o2,.o1] false (iR1 bLd r3_83 s3_84) (some s3_84) rfl rfl rfl,iGd r3_82 [.o2,.o2,.o1] false (iP1 (bFa 1) r3_2 s3_85) (some s3_85) rfl rfl rfl,iGd r3_82 [.o2,.o2,.o1] false (iR1 bLd r3_85 s3_86) (some s3_86) rfl rfl rfl,iGd r3_82 [.o2,.o2,.o1] false (iP2 bGe r3_84 r3_86 s3_87) (some s3_87) rfl rfl rfl,iGd r3_78 [.o6,.o1,.o1] true (iGp (l3 pPick) [r3_82,(rk (.bool true)),r3_87] (some s3_88)) (some s3_88) rfl rfl rfl,iGd r3_75 [.o3,.o1,.o1] false (iGp (l3 pPick) [r3_78,r3_88,(rk (.bool false))] (some s3_89)) (some s3_89) rfl rfl rfl,iGp (l3 pPick) [r3_75,(rk (.bool true)),r3_89] (some s3_90)]
def x66_13 : List (Ins tf3) := [iAs (rk (.bool false)) s3_4]
def x66_14 : List (Ins tf3) := [iGr (r1 (rLdn 6)) [r3_2] (some s3_91),iP1 (bFa 4) r3_3 s3_92,iGr (r1 (rLdn 2)) [r3_92] (some s3_93),iP1 (bFa 1) r3_5 s3_94,iR1 bLd r3_94 s3_95,iCall (rk (.func (.func 81) #[] #[])) [r3_91,r3_93,r3_95] (some s3_96),iMv r3_96 s3_97,iGd r3_97 [.o1,.o4,.o1] true (iGr (r1 (rLdn 6)) [r3_2] (some s3_98)) (some s3_98) rfl rfl rfl,iGd r3_97 [.o1,.o4,.o1] true (iP1 (bFa 6) r3_3 s3_99) (some s3_99) rfl rfl rfl,iGd r3_97 [.o1,.o4,.o1] true (iGr (r1 (rLdn 2)) [r3_99] (some s3_100)) (some s3_100) rfl rfl rfl,iGd r3_97 [.o1,.o4,.o1] true (iP1 (bFa 2) r3_5 s3_101) (some s3_101) rfl rfl rfl,iGd r3_97 [.o1,.o4,.o1] true (iR1 bLd r3_101 s3_102) (some s3_102) rfl rfl rfl,iGd r3_97 [.o1,.o4,.o1] true (iCall (rk (.func (.func 81) #[] #[])) [r3_98,r3_100,r3_102] (some s3_103)) (some s3_103) rfl rfl rfl,iGp (l3 pPick) [r3_97,r3_103,(rk (.bool false))] (some s3_104),iAs r3_104 s3_4]
def x66 : XC tf3 := (.rg x66_0 (.seq (.rg x66_1 (.cond r3_12 (.rg x66_2 .ret) .skip)) (.rg x66_3 (.seq (.rg x66_4 (.cond r3_19 (.seq (.rg x66_5 (.cond r3_27 (.rg x66_6 .ret) .skip)) (.rg x66_7 (.reg x66_8))) (.rg x66_9 (.cond r3_39 (.rg x66_10 .ret) .skip)))) (.rg x66_11 (.seq (.rg x66_12 (.cond r3_90 (.rg x66_13 .ret) .skip)) (.rg x66_14 .ret)))))))
def c66 : Code := Tryd.f66.body.getD .skip
theorem x66_b : Tryd.f66.body = some c66 := by kernel_rfl
theorem x66_c : cG (comp Tryd.prog) 2 3 105 x66 c66 = x66.den := by kernel_rfl
def y66 : List (RR Tryd.prog 3 105 tf3) := [rrT r3_4 4 rfl rfl]
theorem x66_r : y66.map RR.den = Tryd.f66.results.toList := by kernel_rfl
theorem x66_k : okFn Tryd.f66 = true := by kernel_rfl
theorem x66_D : 3 = dep Tryd.f66.ntmps := by kernel_rfl
theorem x66_s : ([s3_0,s3_1] : List (Slot tf3)).map Slot.p = (List.range' 0 2).map (pth 3) := by kernel_rfl
def X66 : XFn Tryd.prog 2 (comp Tryd.prog) := ⟨X3,tf3,66,Tryd.f66,c66,3,105,[s3_0,s3_1],z3,x66,y66,x66_D,Tryd.ntmps66.symm,Tryd.func66,x66_b,x66_k,x66_s,by decide,z3_ok,x66_c,x66_r⟩
def x67_0 : List (Ins tf2) := [iAs (rk (.slice none 0 0)) s2_3]
def x67_1 : List (Ins tf2) := [iMv r2_0 s2_6,iGa (a2 (gMks 1 8 [(.int .i64 (.ofNat 0))])) [r2_6,r2_6] (some s2_7),iAs r2_7 s2_4]
def x67_2 : List (Ins tf2) := [iMv r2_4 s2_8,iP1 bLen r2_8 s2_9,iMv (rk (.int .i64 (.ofNat 0))) s2_10]
def x67_3 : List (Ins tf2) := [iP2 bLt r2_10 r2_9 s2_11]
def x67_4 : List (Ins tf2) := [iMv r2_10 s2_12,iAs r2_12 s2_5]
def x67_5 : List (Ins tf2) := [iMv r2_4 s2_13,iMv r2_5 s2_14,iR1 bLd r2_1 s2_15,iP2 (bIxs 1) r2_13 r2_14 s2_16,iM2 bSt r2_16 r2_15]
def x67_6 : List (Ins tf2) := [iP2 bAdd r2_10 (rk (.int .i64 (.ofNat 1))) s2_17,iMv r2_17 s2_10]
def x67_7 : List (Ins tf2) := [iMv r2_4 s2_18,iAs r2_18 s2_3]
def x67 : XC tf2 := (.rg x67_0 (.rg x67_1 (.seq (.rg x67_2 (.block 0 (.loop (.rg x67_3 (.seq (.cond r2_11 .skip (.exit 0)) (.seq (.block 1 (.rg x67_4 (.reg x67_5))) (.reg x67_6))))))) (.rg x67_7 .ret))))
def c67 : Code := Tryd.f67.body.getD .skip
theorem x67_b : Tryd.f67.body = some c67 := by kernel_rfl
theorem x67_c : cG (comp Tryd.prog) 2 2 19 x67 c67 = x67.den := by kernel_rfl
def y67 : List (RR Tryd.prog 2 19 tf2) := [rrT r2_3 3 rfl rfl]
theorem x67_r : y67.map RR.den = Tryd.f67.results.toList := by kernel_rfl
theorem x67_k : okFn Tryd.f67 = true := by kernel_rfl
theorem x67_D : 2 = dep Tryd.f67.ntmps := by kernel_rfl
theorem x67_s : ([s2_0,s2_1] : List (Slot tf2)).map Slot.p = (List.range' 0 2).map (pth 2) := by kernel_rfl
def X67 : XFn Tryd.prog 2 (comp Tryd.prog) := ⟨X2,tf2,67,Tryd.f67,c67,2,19,[s2_0,s2_1],z2,x67,y67,x67_D,Tryd.ntmps67.symm,Tryd.func67,x67_b,x67_k,x67_s,by decide,z2_ok,x67_c,x67_r⟩
def x68_0 : List (Ins tf2) := [iAs (rk (.int .u64 (.ofNat 0))) s2_4,iAs (rk (.int .i64 (.ofNat 0))) s2_5]
def x68_1 : List (Ins tf2) := [iMv r2_0 s2_7,iCall (rk (.func (.func 64) #[] #[])) [r2_7] (some s2_8),iAs r2_8 s2_6]
def x68_2 : List (Ins tf2) := [iMv r2_6 s2_9,iP2 bNe r2_9 (rk (.int .i64 (.ofNat 0))) s2_10]
def x68_3 : List (Ins tf2) := [iMv r2_6 s2_11,iAs (rk (.int .u64 (.ofNat 0))) s2_4,iAs r2_11 s2_5]
def x68_4 : List (Ins tf2) := [iMv r2_1 s2_12,iMv r2_0 s2_13,iCall (rk (.func (.func 82) #[] #[])) [r2_13] (some s2_14),iGp (l2 (pBin .and)) [r2_12,r2_14] (some s2_15),iAs r2_15 s2_4,iAs (rk (.int .i64 (.ofNat 0))) s2_5]
def x68 : XC tf2 := (.rg x68_0 (.seq (.rg x68_1 (.rg x68_2 (.cond r2_10 (.rg x68_3 .ret) .skip))) (.rg x68_4 .ret)))
def c68 : Code := Tryd.f68.body.getD .skip
theorem x68_b : Tryd.f68.body = some c68 := by kernel_rfl
theorem x68_c : cG (comp Tryd.prog) 2 2 16 x68 c68 = x68.den := by kernel_rfl
def y68 : List (RR Tryd.prog 2 16 tf2) := [rrT r2_4 4 rfl rfl,rrT r2_5 5 rfl rfl]
theorem x68_r : y68.map RR.den = Tryd.f68.results.toList := by kernel_rfl
theorem x68_k : okFn Tryd.f68 = true := by kernel_rfl
theorem x68_D : 2 = dep Tryd.f68.ntmps := by kernel_rfl
theorem x68_s : ([s2_0,s2_1] : List (Slot tf2)).map Slot.p = (List.range' 0 2).map (pth 2) := by kernel_rfl
def X68 : XFn Tryd.prog 2 (comp Tryd.prog) := ⟨X2,tf2,68,Tryd.f68,c68,2,16,[s2_0,s2_1],z2,x68,y68,x68_D,Tryd.ntmps68.symm,Tryd.func68,x68_b,x68_k,x68_s,by decide,z2_ok,x68_c,x68_r⟩
def x69_0 : List (Ins tf2) := [iGa (a1 gBox) [r2_1] (some s2_3),iAs (rk (.int .i64 (.ofNat 0))) s2_4,iAs (rk (.int .i64 (.ofNat 0))) s2_5]
def x69_1 : List (Ins tf2) := [iP1 (bFa 0) r2_3 s2_10,iR1 bLd r2_10 s2_11,iP1 (bFa 1) r2_3 s2_12,iR1 bLd r2_12 s2_13,iGp (pBld [(.int .u8 (.ofNat 0)),(.int .u64 (.ofNat 0)),(.int .i64 (.ofNat 0)),(.int .i64 (.ofNat 0)),(.int .i64 (.ofNat 0))] [(0,1),(1,1)]) [r2_11,r2_13] (some s2_14),iGa (aAl 5 [(.int .u8 (.ofNat 0)),(.int .u64 (.ofNat 0)),(.int .i64 (.ofNat 0)),(.int .i64 (.ofNat 0)),(.int .i64 (.ofNat 0))]) [] (some s2_6),iGm (m2 (sStn 5)) [r2_6,r2_14] none]
def x69_2 : List (Ins tf2) := [iP1 (bFa 2) r2_6 s2_15,iGp (pSlB (pSlA 3 1) false false false) [r2_15] (some s2_16),iP1 (bFa 2) r2_3 s2_17,iR1 bLd r2_17 s2_18,iGm (m2 (sCopy 1)) [r2_16,r2_18] (some s2_19)]
def x69_3 : List (Ins tf2) := [iMv r2_0 s2_21,iP1 bNil r2_21 s2_22,iP1 (bFa 3) r2_22 s2_23,iR1 bLd r2_23 s2_24,iGr (r1 (rLdn 5)) [r2_6] (some s2_25),iGr (r2 (rLook [0,0,0,0,0] true (.int .i64 (.ofNat 0)) true)) [r2_24,r2_25] (some s2_26),iMv r2_26 s2_20,iGp (l1 (pExt 0)) [r2_20] (some s2_27),iGp (l1 (pExt 1)) [r2_20] (some s2_28),iAs r2_27 s2_7,iAs r2_28 s2_8]
def x69_4 : List (Ins tf2) := [iMv r2_8 s2_29]
def x69_5 : List (Ins tf2) := [iMv r2_7 s2_30,iAs r2_30 s2_4,iAs (rk (.int .i64 (.ofNat 0))) s2_5]
def x69_6 : List (Ins tf2) := [iMv r2_0 s2_31,iP1 bNil r2_31 s2_32,iP1 (bFa 2) r2_32 s2_33,iR1 bLd r2_33 s2_34,iP1 bLen r2_34 s2_35,iMv r2_0 s2_36,iP1 bNil r2_36 s2_37,iP1 (bFa 1) r2_37 s2_38,iR1 bLd r2_38 s2_39,iP2 bGe r2_35 r2_39 s2_40]
def x69_7 : List (Ins tf2) := [iAs (rk (.int .i64 (.ofNat 0))) s2_4,iAs (rk (.int .i64 (.ofNat 10))) s2_5]
def x69_8 : List (Ins tf2) := [iMv r2_0 s2_41,iP1 bNil r2_41 s2_42,iP1 (bFa 2) r2_42 s2_43,iR1 bLd r2_43 s2_44,iP1 bLen r2_44 s2_45,iAs r2_45 s2_9]
def x69_9 : List (Ins tf2) := [iMv r2_0 s2_46,iMv r2_0 s2_47,iP1 bNil r2_47 s2_48,iP1 (bFa 2) r2_48 s2_49,iR1 bLd r2_49 s2_50,iGr (r1 (rLdn 3)) [r2_3] (some s2_51),iGa (aBsl 1 3 [(.int .u8 (.ofNat 0)),(.int .u64 (.ofNat 0)),(.slice none 0 0)] [(0,3)]) [r2_51] (some s2_52),iGm (m2 (sApp 3)) [r2_50,r2_52] (some s2_53),iP1 bNil r2_46 s2_54,iP1 (bFa 2) r2_54 s2_55,iM2 bSt r2_55 r2_53]
def x69_10 : List (Ins tf2) := [iMv r2_0 s2_56,iP1 bNil r2_56 s2_57,iP1 (bFa 3) r2_57 s2_58,iR1 bLd r2_58 s2_59,iGr (r1 (rLdn 5)) [r2_6] (some s2_60),iMv r2_9 s2_61,iGm (m3 (sUpd [0,0,0,0,0] true)) [r2_59,r2_60,r2_61] none]
def x69_11 : List (Ins tf2) := [iMv r2_9 s2_62,iAs r2_62 s2_4,iAs (rk (.int .i64 (.ofNat 0))) s2_5]
def x69 : XC tf2 := (.rg x69_0 (.rg x69_1 (.rg x69_2 (.seq (.rg x69_3 (.rg x69_4 (.cond r2_29 (.rg x69_5 .ret) .skip))) (.seq (.rg x69_6 (.cond r2_40 (.rg x69_7 .ret) .skip)) (.rg x69_8 (.rg x69_9 (.rg x69_10 (.rg x69_11 .ret)))))))))
def c69 : Code := Tryd.f69.body.getD .skip
theorem x69_b : Tryd.f69.body = some c69 := by kernel_rfl
theorem x69_c : cG (comp Tryd.prog) 2 2 63 x69 c69 = x69.den := by kernel_rfl
def y69 : List (RR Tryd.prog 2 63 tf2) := [rrT r2_4 4 rfl rfl,rrT r2_5 5 rfl rfl]
theorem x69_r : y69.map RR.den = Tryd.f69.results.toList := by kernel_rfl
theorem x69_k : okFn Tryd.f69 = true := by kernel_rfl
theorem x69_D : 2 = dep Tryd.f69.ntmps := by kernel_rfl
theorem x69_s : ([s2_0,s2_1] : List (Slot tf2)).map Slot.p = (List.range' 0 2).map (pth 2) := by kernel_rfl
def X69 : XFn Tryd.prog 2 (comp Tryd.prog) := ⟨X2,tf2,69,Tryd.f69,c69,2,63,[s2_0,s2_1],z2,x69,y69,x69_D,Tryd.ntmps69.symm,Tryd.func69,x69_b,x69_k,x69_s,by decide,z2_ok,x69_c,x69_r⟩
def x72_0 : List (Ins tf2) := [iAs (rk (.int .i64 (.ofNat 0))) s2_2,iAs (rk (.int .i64 (.ofNat 0))) s2_3]
def x72_1 : List (Ins tf2) := [iMv r2_0 s2_4,iP2 bGt r2_4 (rk (.int .u8 (.ofNat 21))) s2_5]
def x72_2 : List (Ins tf2) := [iAs (rk (.int .i64 (.ofNat 0))) s2_2,iAs (rk (.int .i64 (.ofNat 3))) s2_3]
def x72_3 : List (Ins tf2) := [iCall (rk (.func (.func 84) #[] #[])) [] (some s2_6),iMv r2_0 s2_7,iGp (l2 (pIx 22 none 1)) [r2_6,r2_7] (some s2_8),iP1 (bCv .i64) r2_8 s2_9,iAs r2_9 s2_2,iAs (rk (.int .i64 (.ofNat 0))) s2_3]
def x72 : XC tf2 := (.rg x72_0 (.seq (.rg x72_1 (.cond r2_5 (.rg x72_2 .ret) .skip)) (.rg x72_3 .ret)))
def c72 : Code := Tryd.f72.body.getD .skip
theorem x72_b : Tryd.f72.body = some c72 := by kernel_rfl
theorem x72_c : cG (comp Tryd.prog) 2 2 10 x72 c72 = x72.den := by kernel_rfl
def y72 : List (RR Tryd.prog 2 10 tf2) := [rrT r2_2 2 rfl rfl,rrT r2_3 3 rfl rfl]
theorem x72_r : y72.map RR.den = Tryd.f72.results.toList := by kernel_rfl
theorem x72_k : okFn Tryd.f72 = true := by kernel_rfl
theorem x72_D : 2 = dep Tryd.f72.ntmps := by kernel_rfl
theorem x72_s : ([s2_0] : List (Slot tf2)).map Slot.p = (List.range' 0 1).map (pth 2) := by kernel_rfl
def X72 : XFn Tryd.prog 2 (comp Tryd.prog) := ⟨X2,tf2,72,Tryd.f72,c72,2,10,[s2_0],z2,x72,y72,x72_D,Tryd.ntmps72.symm,Tryd.func72,x72_b,x72_k,x72_s,by decide,z2_ok,x72_c,x72_r⟩
def x74_0 : List (Ins tf2) := [iAs (rk (.int .i64 (.ofNat 0))) s2_2]
def x74_1 : List (Ins tf2) := [iMv r2_0 s2_3,iGp (l2 (pEqD (tdOf 34) false)) [r2_3,(rk (.pointer none))] (some s2_4)]
def x74_2 : List (Ins tf2) := [iAs (rk (.int .i64 (.ofNat 0))) s2_2]
def x74_3 : List (Ins tf2) := [iMv r2_0 s2_5,iP1 bNil r2_5 s2_6,iP1 (bFa 2) r2_6 s2_7,iR1 bLd r2_7 s2_8,iP1 bLen r2_8 s2_9,iAs r2_9 s2_2]
def x74 : XC tf2 := (.rg x74_0 (.seq (.rg x74_1 (.cond r2_4 (.rg x74_2 .ret) .skip)) (.rg x74_3 .ret)))
def c74 : Code := Tryd.f74.body.getD .skip
theorem x74_b : Tryd.f74.body = some c74 := by kernel_rfl
theorem x74_c : cG (comp Tryd.prog) 2 2 10 x74 c74 = x74.den := by kernel_rfl
def y74 : List (RR Tryd.prog 2 10 tf2) := [rrT r2_2 2 rfl rfl]
theorem x74_r : y74.map RR.den = Tryd.f74.results.toList := by kernel_rfl
theorem x74_k : okFn Tryd.f74 = true := by kernel_rfl
theorem x74_D : 2 = dep Tryd.f74.ntmps := by kernel_rfl
theorem x74_s : ([s2_0] : List (Slot tf2)).map Slot.p = (List.range' 0 1).map (pth 2) := by kernel_rfl
def X74 : XFn Tryd.prog 2 (comp Tryd.prog) := ⟨X2,tf2,74,Tryd.f74,c74,2,10,[s2_0],z2,x74,y74,x74_D,Tryd.ntmps74.symm,Tryd.func74,x74_b,x74_k,x74_s,by decide,z2_ok,x74_c,x74_r⟩
def x75_0 : List (Ins tf2) := [iGa (aAl 3 [(.int .u8 (.ofNat 0)),(.int .u64 (.ofNat 0)),(.slice none 0 0)]) [] (some s2_4),iAs (rk (.int .i64 (.ofNat 0))) s2_5]
def x75_1 : List (Ins tf2) := [iMv r2_0 s2_7,iGp (l2 (pEqD (tdOf 34) false)) [r2_7,(rk (.pointer none))] (some s2_8)]
def x75_2 : List (Ins tf2) := [iGp (pBld [(.int .u8 (.ofNat 0)),(.int .u64 (.ofNat 0)),(.slice none 0 0)] []) [] (some s2_9),iGm (m2 (sStn 3)) [r2_4,r2_9] none,iAs (rk (.int .i64 (.ofNat 1))) s2_5]
def x75_3 : List (Ins tf2) := [iMv r2_1 s2_10,iP2 bLt r2_10 (rk (.int .i64 (.ofNat 0))) s2_11,iMv r2_11 s2_12,iGd r2_12 [.o4,.o1] false (iMv r2_1 s2_13) (some s2_13) rfl rfl rfl,iGd r2_12 [.o4,.o1] false (iMv r2_0 s2_14) (some s2_14) rfl rfl rfl,iGd r2_12 [.o4,.o1] false (iP1 bNil r2_14 s2_15) (some s2_15) rfl rfl rfl,iGd r2_12 [.o4,.o1] false (iP1 (bFa 2) r2_15 s2_16) (some s2_16) rfl rfl rfl,iGd r2_12 [.o4,.o1] false (iR1 bLd r2_16 s2_17) (some s2_17) rfl rfl rfl,iGd r2_12 [.o4,.o1] false (iP1 bLen r2_17 s2_18) (some s2_18) rfl rfl rfl,iGd r2_12 [.o4,.o1] false (iP2 bGe r2_13 r2_18 s2_19) (some s2_19) rfl rfl rfl,iGp (l3 pPick) [r2_12,(rk (.bool true)),r2_19] (some s2_20)]
def x75_4 : List (Ins tf2) := [iGp (pBld [(.int .u8 (.ofNat 0)),(.int .u64 (.ofNat 0)),(.slice none 0 0)] []) [] (some s2_21),iGm (m2 (sStn 3)) [r2_4,r2_21] none,iAs (rk (.int .i64 (.ofNat 3))) s2_5]
def x75_5 : List (Ins tf2) := [iMv r2_0 s2_22,iP1 bNil r2_22 s2_23,iP1 (bFa 2) r2_23 s2_24,iR1 bLd r2_24 s2_25,iMv r2_1 s2_26,iP2 (bIxs 3) r2_25 r2_26 s2_27,iGr (r1 (rLdn 3)) [r2_27] (some s2_28),iGa (aAl 3 [(.int .u8 (.ofNat 0)),(.int .u64 (.ofNat 0)),(.slice none 0 0)]) [] (some s2_6),iGm (m2 (sStn 3)) [r2_6,r2_28] none]
def x75_6 : List (Ins tf2) := [iP1 (bFa 2) r2_6 s2_29,iR1 bLd r2_29 s2_30,iGm (m2 (sApp 1)) [(rk (.slice none 0 0)),r2_30] (some s2_31),iP1 (bFa 2) r2_6 s2_32,iM2 bSt r2_32 r2_31]
def x75_7 : List (Ins tf2) := [iGr (r1 (rLdn 3)) [r2_6] (some s2_33),iGm (m2 (sStn 3)) [r2_4,r2_33] none,iAs (rk (.int .i64 (.ofNat 0))) s2_5]
def x75 : XC tf2 := (.rg x75_0 (.seq (.rg x75_1 (.cond r2_8 (.rg x75_2 .ret) .skip)) (.seq (.rg x75_3 (.cond r2_20 (.rg x75_4 .ret) .skip)) (.rg x75_5 (.rg x75_6 (.rg x75_7 .ret))))))
def c75 : Code := Tryd.f75.body.getD .skip
theorem x75_b : Tryd.f75.body = some c75 := by kernel_rfl
theorem x75_c : cG (comp Tryd.prog) 2 2 34 x75 c75 = x75.den := by kernel_rfl
def y75 : List (RR Tryd.prog 2 34 tf2) := [rrS (.cell 4 147),rrT r2_5 5 rfl rfl]
theorem x75_r : y75.map RR.den = Tryd.f75.results.toList := by kernel_rfl
theorem x75_k : okFn Tryd.f75 = true := by kernel_rfl
theorem x75_D : 2 = dep Tryd.f75.ntmps := by kernel_rfl
theorem x75_s : ([s2_0,s2_1] : List (Slot tf2)).map Slot.p = (List.range' 0 2).map (pth 2) := by kernel_rfl
def X75 : XFn Tryd.prog 2 (comp Tryd.prog) := ⟨X2,tf2,75,Tryd.f75,c75,2,34,[s2_0,s2_1],z2,x75,y75,x75_D,Tryd.ntmps75.symm,Tryd.func75,x75_b,x75_k,x75_s,by decide,z2_ok,x75_c,x75_r⟩
def x76_0 : List (Ins tf3) := [iGa (a1 gBox) [r3_0] (some s3_4),iAs (rk (.int .u64 (.ofNat 0))) s3_5]
def x76_1 : List (Ins tf3) := [iP1 (bFa 0) r3_4 s3_13,iR1 bLd r3_13 s3_14]
def x76_2 : List (Ins tf3) := [iP2 bEq r3_14 (rk (.int .u8 (.ofNat 0))) s3_16,iAs r3_16 s3_15]
def x76_3 : List (Ins tf3) := [iP1 (bFa 1) r3_4 s3_17,iR1 bLd r3_17 s3_18,iAs r3_18 s3_5]
def x76_4 : List (Ins tf3) := [iP2 bEq r3_14 (rk (.int .u8 (.ofNat 1))) s3_20,iAs r3_20 s3_19]
def x76_5 : List (Ins tf3) := [iP1 (bFa 1) r3_4 s3_21,iR1 bLd r3_21 s3_22,iR1 bLd r3_1 s3_23,iP1 bLen r3_23 s3_24,iP1 (bCv .u64) r3_24 s3_25,iP2 bGe r3_22 r3_25 s3_26]
def x76_6 : List (Ins tf3) := [iAs (rk (.int .u64 (.ofNat 0))) s3_5]
def x76_7 : List (Ins tf3) := [iR1 bLd r3_2 s3_28,iR1 bLd r3_1 s3_29,iP1 (bFa 1) r3_4 s3_30,iR1 bLd r3_30 s3_31,iP2 (bIxs 1) r3_29 r3_31 s3_32,iR1 bLd r3_32 s3_33,iCall (rk (.func (.func 68) #[] #[])) [r3_28,r3_33] (some s3_34),iMv r3_34 s3_27,iGp (l1 (pExt 0)) [r3_27] (some s3_35),iGp (l1 (pExt 1)) [r3_27] (some s3_36),iAs r3_35 s3_6,iAs r3_36 s3_7]
def x76_8 : List (Ins tf3) := [iMv r3_6 s3_37,iAs r3_37 s3_5]
def x76_9 : List (Ins tf3) := [iP1 (bFa 2) r3_4 s3_38,iR1 bLd r3_38 s3_39,iP1 bLen r3_39 s3_40,iGa (a2 (gMks 1 8 [(.int .u64 (.ofNat 0))])) [r3_40,r3_40] (some s3_41),iAs r3_41 s3_8]
def x76_10 : List (Ins tf3) := [iP1 (bFa 2) r3_4 s3_42,iR1 bLd r3_42 s3_43,iP1 bLen r3_43 s3_44,iMv (rk (.int .i64 (.ofNat 0))) s3_45]
def x76_11 : List (Ins tf3) := [iP2 bLt r3_45 r3_44 s3_46]
def x76_12 : List (Ins tf3) := [iMv r3_45 s3_47,iP2 (bIxs 1) r3_43 r3_45 s3_48,iR1 bLd r3_48 s3_49,iAs r3_47 s3_9,iAs r3_49 s3_10]
def x76_13 : List (Ins tf3) := [iMv r3_8 s3_50,iMv r3_9 s3_51,iR1 bLd r3_3 s3_52,iMv r3_10 s3_53,iP2 (bIxs 1) r3_52 r3_53 s3_54,iR1 bLd r3_54 s3_55,iP2 (bIxs 1) r3_50 r3_51 s3_56,iM2 bSt r3_56 r3_55]
def x76_14 : List (Ins tf3) := [iP2 bAdd r3_45 (rk (.int .i64 (.ofNat 1))) s3_57,iMv r3_57 s3_45]
def x76_15 : List (Ins tf3) := [iP1 (bFa 0) r3_4 s3_59,iR1 bLd r3_59 s3_60,iR1 bLd r3_2 s3_61,iMv r3_8 s3_62,iCall (rk (.func (.func 77) #[] #[])) [r3_60,r3_61,r3_62] (some s3_63),iMv r3_63 s3_58,iGp (l1 (pExt 0)) [r3_58] (some s3_64),iGp (l1 (pExt 1)) [r3_58] (some s3_65),iAs r3_64 s3_11,iAs r3_65 s3_12]
def x76_16 : List (Ins tf3) := [iMv r3_11 s3_66,iAs r3_66 s3_5]
def x76 : XC tf3 := (.rg x76_0 (.seq (.rg x76_1 (.block 0 (.rg x76_2 (.cond r3_15 (.rg x76_3 .ret) (.rg x76_4 (.cond r3_19 (.seq (.rg x76_5 (.cond r3_26 (.rg x76_6 .ret) .skip)) (.rg x76_7 (.rg x76_8 .ret))) .skip)))))) (.rg x76_9 (.seq (.rg x76_10 (.block 1 (.loop (.rg x76_11 (.seq (.cond r3_46 .skip (.exit 1)) (.seq (.block 2 (.rg x76_12 (.reg x76_13))) (.reg x76_14))))))) (.rg x76_15 (.rg x76_16 .ret))))))
def c76 : Code := Tryd.f76.body.getD .skip
theorem x76_b : Tryd.f76.body = some c76 := by kernel_rfl
theorem x76_c : cG (comp Tryd.prog) 2 3 67 x76 c76 = x76.den := by kernel_rfl
def y76 : List (RR Tryd.prog 3 67 tf3) := [rrT r3_5 5 rfl rfl]
theorem x76_r : y76.map RR.den = Tryd.f76.results.toList := by kernel_rfl
theorem x76_k : okFn Tryd.f76 = true := by kernel_rfl
theorem x76_D : 3 = dep Tryd.f76.ntmps := by kernel_rfl
theorem x76_s : ([s3_0,s3_1,s3_2,s3_3] : List (Slot tf3)).map Slot.p = (List.range' 0 4).map (pth 3) := by kernel_rfl
def X76 : XFn Tryd.prog 2 (comp Tryd.prog) := ⟨X3,tf3,76,Tryd.f76,c76,3,67,[s3_0,s3_1,s3_2,s3_3],z3,x76,y76,x76_D,Tryd.ntmps76.symm,Tryd.func76,x76_b,x76_k,x76_s,by decide,z3_ok,x76_c,x76_r⟩
def x77_0 : List (Ins tf3) := [iAs (rk (.int .u64 (.ofNat 0))) s3_6,iAs (rk (.int .i64 (.ofNat 0))) s3_7]
def x77_1 : List (Ins tf3) := [iMv r3_1 s3_16,iCall (rk (.func (.func 64) #[] #[])) [r3_16] (some s3_17),iAs r3_17 s3_8]
def x77_2 : List (Ins tf3) := [iMv r3_8 s3_18,iP2 bNe r3_18 (rk (.int .i64 (.ofNat 0))) s3_19]
def x77_3 : List (Ins tf3) := [iMv r3_8 s3_20,iAs (rk (.int .u64 (.ofNat 0))) s3_6,iAs r3_20 s3_7]
def x77_4 : List (Ins tf3) := [iMv r3_0 s3_21,iP2 bLt r3_21 (rk (.int .u8 (.ofNat 2))) s3_22,iMv r3_22 s3_23,iGd r3_23 [.o7,.o2,.o0] false (iMv r3_0 s3_24) (some s3_24) rfl rfl rfl,iGd r3_23 [.o7,.o2,.o0] false (iP2 bGt r3_24 (rk (.int .u8 (.ofNat 21))) s3_25) (some s3_25) rfl rfl rfl,iGp (l3 pPick) [r3_23,(rk (.bool true)),r3_25] (some s3_26)]
def x77_5 : List (Ins tf3) := [iAs (rk (.int .u64 (.ofNat 0))) s3_6,iAs (rk (.int .i64 (.ofNat 3))) s3_7]
def x77_6 : List (Ins tf3) := [iMv r3_0 s3_28,iCall (rk (.func (.func 72) #[] #[])) [r3_28] (some s3_29),iMv r3_29 s3_27,iGp (l1 (pExt 0)) [r3_27] (some s3_30),iGp (l1 (pExt 1)) [r3_27] (some s3_31),iAs r3_30 s3_9,iAs r3_31 s3_10]
def x77_7 : List (Ins tf3) := [iMv r3_10 s3_32,iP2 bNe r3_32 (rk (.int .i64 (.ofNat 0))) s3_33]
def x77_8 : List (Ins tf3) := [iMv r3_10 s3_34,iAs (rk (.int .u64 (.ofNat 0))) s3_6,iAs r3_34 s3_7]
def x77_9 : List (Ins tf3) := [iMv r3_9 s3_35,iMv r3_2 s3_36,iP1 bLen r3_36 s3_37,iP2 bNe r3_35 r3_37 s3_38]
def x77_10 : List (Ins tf3) := [iAs (rk (.int .u64 (.ofNat 0))) s3_6,iAs (rk (.int .i64 (.ofNat 2))) s3_7]
def x77_11 : List (Ins tf3) := [iMv r3_1 s3_39,iAs r3_39 s3_11]
def x77_12 : List (Ins tf3) := [iGa (aAl 3 [(.int .u64 (.ofNat 0)),(.int .u64 (.ofNat 0)),(.int .u64 (.ofNat 0))]) [] (some s3_12)]
def x77_13 : List (Ins tf3) := [iMv r3_2 s3_40,iP1 bLen r3_40 s3_41,iMv (rk (.int .i64 (.ofNat 0))) s3_42]
def x77_14 : List (Ins tf3) := [iP2 bLt r3_42 r3_41 s3_43]
def x77_15 : List (Ins tf3) := [iMv r3_42 s3_44,iP2 (bIxs 1) r3_40 r3_42 s3_45,iR1 bLd r3_45 s3_46,iAs r3_44 s3_13,iAs r3_46 s3_14]
def x77_16 : List (Ins tf3) := [iMv r3_13 s3_47,iMv r3_14 s3_48,iMv r3_11 s3_49,iCall (rk (.func (.func 82) #[] #[])) [r3_49] (some s3_50),iGp (l2 (pBin .and)) [r3_48,r3_50] (some s3_51),iP2 (bIxa 3 1) r3_12 r3_47 s3_52,iM2 bSt r3_52 r3_51]
def x77_17 : List (Ins tf3) := [iP2 bAdd r3_42 (rk (.int .i64 (.ofNat 1))) s3_53,iMv r3_53 s3_42]
def x77_18 : List (Ins tf3) := [iAs (rk (.int .u64 (.ofNat 0))) s3_15]
def x77_19 : List (Ins tf3) := [iMv r3_0 s3_54]
def x77_20 : List (Ins tf3) := [iP2 bEq r3_54 (rk (.int .u8 (.ofNat 2))) s3_66,iAs r3_66 s3_65]
def x77_21 : List (Ins tf3) := [iP2 (bIxa 3 1) r3_12 (rk (.int .i64 (.ofNat 0))) s3_67,iR1 bLd r3_67 s3_68,iGp (l1 (pUn .xor)) [r3_68] (some s3_69),iAs r3_69 s3_15]
def x77_22 : List (Ins tf3) := [iP2 bEq r3_54 (rk (.int .u8 (.ofNat 3))) s3_71,iAs r3_71 s3_70]
def x77_23 : List (Ins tf3) := [iP2 (bIxa 3 1) r3_12 (rk (.int .i64 (.ofNat 0))) s3_72,iR1 bLd r3_72 s3_73,iGp (l1 (pUn .neg)) [r3_73] (some s3_74),iAs r3_74 s3_15]
def x77_24 : List (Ins tf3) := [iP2 bEq r3_54 (rk (.int .u8 (.ofNat 21))) s3_76,iAs r3_76 s3_75]
def x77_25 : List (Ins tf3) := [iP2 (bIxa 3 1) r3_12 (rk (.int .i64 (.ofNat 2))) s3_77,iR1 bLd r3_77 s3_78,iAs r3_78 s3_15]
def x77_26 : List (Ins tf3) := [iP2 (bIxa 3 1) r3_12 (rk (.int .i64 (.ofNat 0))) s3_79,iR1 bLd r3_79 s3_80,iP2 bNe r3_80 (rk (.int .u64 (.ofNat 0))) s3_81]
def x77_27 : List (Ins tf3) := [iP2 (bIxa 3 1) r3_12 (rk (.int .i64 (.ofNat 1))) s3_82,iR1 bLd r3_82 s3_83,iAs r3_83 s3_15]
def x77_28 : List (Ins tf3) := [iMv r3_0 s3_56,iMv r3_11 s3_59,iP2 (bIxa 3 1) r3_12 (rk (.int .i64 (.ofNat 0))) s3_60,iR1 bLd r3_60 s3_61,iP2 (bIxa 3 1) r3_12 (rk (.int .i64 (.ofNat 1))) s3_62,iR1 bLd r3_62 s3_63,iRc (iCall (rk (.func (.func 87) #[] #[])) [] (some s3_55)) [(rcLd r3_62 r3_63 [.o7,.o7,.o0] rfl),(rcLd r3_60 r3_61 [.o5,.o7,.o0] rfl)] rfl,iGp (l2 (pIx 22 (some 1) 1)) [r3_55,r3_56] (some s3_57),iGp (l1 (pFld none 0)) [r3_57] (some s3_58),iCall r3_58 [r3_59,r3_61,r3_63] (some s3_64),iAs r3_64 s3_15]
def x77_29 : List (Ins tf3) := [iMv r3_15 s3_84,iMv r3_11 s3_85,iCall (rk (.func (.func 82) #[] #[])) [r3_85] (some s3_86),iGp (l2 (pBin .and)) [r3_84,r3_86] (some s3_87),iAs r3_87 s3_6,iAs (rk (.int .i64 (.ofNat 0))) s3_7]
def x77_30 : XC tf3 := (.rg x77_12 (.seq (.rg x77_13 (.block 0 (.loop (.rg x77_14 (.seq (.cond r3_43 .skip (.exit 0)) (.seq (.block 1 (.rg x77_15 (.reg x77_16))) (.reg x77_17))))))) (.rg x77_18 (.seq (.rg x77_19 (.block 2 (.rg x77_20 (.cond r3_65 (.reg x77_21) (.rg x77_22 (.cond r3_70 (.reg x77_23) (.rg x77_24 (.cond r3_75 (.rg x77_25 (.rg x77_26 (.cond r3_81 (.reg x77_27) .skip))) (.reg x77_28))))))))) (.rg x77_29 .ret)))))
def x77 : XC tf3 := (.rg x77_0 (.seq (.rg x77_1 (.rg x77_2 (.cond r3_19 (.rg x77_3 .ret) .skip))) (.seq (.rg x77_4 (.cond r3_26 (.rg x77_5 .ret) .skip)) (.rg x77_6 (.seq (.rg x77_7 (.cond r3_33 (.rg x77_8 .ret) .skip)) (.seq (.rg x77_9 (.cond r3_38 (.rg x77_10 .ret) .skip)) (.rg x77_11 x77_30)))))))
def c77 : Code := Tryd.f77.body.getD .skip
theorem x77_b : Tryd.f77.body = some c77 := by kernel_rfl
theorem x77_c : cG (comp Tryd.prog) 2 3 88 x77 c77 = x77.den := by kernel_rfl
def y77 : List (RR Tryd.prog 3 88 tf3) := [rrT r3_6 6 rfl rfl,rrT r3_7 7 rfl rfl]
theorem x77_r : y77.map RR.den = Tryd.f77.results.toList := by kernel_rfl
theorem x77_k : okFn Tryd.f77 = true := by kernel_rfl
theorem x77_D : 3 = dep Tryd.f77.ntmps := by kernel_rfl
theorem x77_s : ([s3_0,s3_1,s3_2] : List (Slot tf3)).map Slot.p = (List.range' 0 3).map (pth 3) := by kernel_rfl
def X77 : XFn Tryd.prog 2 (comp Tryd.prog) := ⟨X3,tf3,77,Tryd.f77,c77,3,88,[s3_0,s3_1,s3_2],z3,x77,y77,x77_D,Tryd.ntmps77.symm,Tryd.func77,x77_b,x77_k,x77_s,by decide,z3_ok,x77_c,x77_r⟩
def x79_0 : List (Ins tf2) := [iAs (rk (.bool false)) s2_2]
def x79_1 : List (Ins tf2) := [iMv r2_0 s2_5,iGp (l2 (pBin .eql)) [r2_5,(rk (.string ⟨⟨[]⟩⟩))] (some s2_6),iMv r2_6 s2_7,iGd r2_7 [.o7,.o0] false (iMv r2_0 s2_8) (some s2_8) rfl rfl rfl,iGd r2_7 [.o7,.o0] false (iGp (l1 pLenS) [r2_8] (some s2_9)) (some s2_9) rfl rfl rfl,iGd r2_7 [.o7,.o0] false (iP2 bGt r2_9 (rk (.int .i64 (.ofNat 32))) s2_10) (some s2_10) rfl rfl rfl,iGp (l3 pPick) [r2_7,(rk (.bool true)),r2_10] (some s2_11),iMv r2_11 s2_12,iGd r2_12 [.o4,.o1] false (iMv r2_0 s2_13) (some s2_13) rfl rfl rfl,iGd r2_12 [.o4,.o1] false (iGp (l2 pIxStr) [r2_13,(rk (.int .i64 (.ofNat 0)))] (some s2_14)) (some s2_14) rfl rfl rfl,iGd r2_12 [.o4,.o1] false (iP2 bGe r2_14 (rk (.int .u8 (.ofNat 48))) s2_15) (some s2_15) rfl rfl rfl,iGd r2_12 [.o4,.o1] false (iMv r2_15 s2_16) (some s2_16) rfl rfl rfl,iGd r2_16 [.o0,.o2] true (iMv r2_0 s2_17) (some s2_17) rfl rfl rfl,iGd r2_16 [.o0,.o2] true (iGp (l2 pIxStr) [r2_17,(rk (.int .i64 (.ofNat 0)))] (some s2_18)) (some s2_18) rfl rfl rfl,iGd r2_16 [.o0,.o2] true (iP2 bLe r2_18 (rk (.int .u8 (.ofNat 57))) s2_19) (some s2_19) rfl rfl rfl,iGd r2_12 [.o4,.o1] false (iGp (l3 pPick) [r2_16,r2_19,(rk (.bool false))] (some s2_20)) (some s2_20) rfl rfl rfl,iGp (l3 pPick) [r2_12,(rk (.bool true)),r2_20] (some s2_21)]
def x79_2 : List (Ins tf2) := [iAs (rk (.bool false)) s2_2]
def x79_3 : List (Ins tf2) := [iMv r2_0 s2_22,iGa (a1 gS2b) [r2_22] (some s2_23),iP1 bLen r2_23 s2_24,iMv (rk (.int .i64 (.ofNat 0))) s2_25]
def x79_4 : List (Ins tf2) := [iP2 bLt r2_25 r2_24 s2_26]
def x79_5 : List (Ins tf2) := [iP2 (bIxs 1) r2_23 r2_25 s2_27,iR1 bLd r2_27 s2_28,iAs r2_28 s2_4]
def x79_6 : List (Ins tf2) := [iMv r2_4 s2_29,iP2 bNe r2_29 (rk (.int .u8 (.ofNat 95))) s2_30,iMv r2_30 s2_31,iGd r2_31 [.o7,.o3] true (iMv r2_4 s2_32) (some s2_32) rfl rfl rfl,iGd r2_31 [.o7,.o3] true (iP2 bLt r2_32 (rk (.int .u8 (.ofNat 48))) s2_33) (some s2_33) rfl rfl rfl,iGd r2_31 [.o7,.o3] true (iMv r2_33 s2_34) (some s2_34) rfl rfl rfl,iGd r2_34 [.o2,.o4] false (iMv r2_4 s2_35) (some s2_35) rfl rfl rfl,iGd r2_34 [.o2,.o4] false (iP2 bGt r2_35 (rk (.int .u8 (.ofNat 57))) s2_36) (some s2_36) rfl rfl rfl,iGd r2_31 [.o7,.o3] true (iGp (l3 pPick) [r2_34,(rk (.bool true)),r2_36] (some s2_37)) (some s2_37) rfl rfl rfl,iGp (l3 pPick) [r2_31,r2_37,(rk (.bool false))] (some s2_38),iMv r2_38 s2_39,iGd r2_39 [.o7,.o4] true (iMv r2_4 s2_40) (some s2_40) rfl rfl rfl,iGd r2_39 [.o7,.o4] true (iP2 bLt r2_40 (rk (.int .u8 (.ofNat 97))) s2_41) (some s2_41) rfl rfl rfl,iGd r2_39 [.o7,.o4] true (iMv r2_41 s2_42) (some s2_42) rfl rfl rfl,iGd r2_42 [.o2,.o5] false (iMv r2_4 s2_43) (some s2_43) rfl rfl rfl,iGd r2_42 [.o2,.o5] false (iP2 bGt r2_43 (rk (.int .u8 (.ofNat 122))) s2_44) (some s2_44) rfl rfl rfl,iGd r2_39 [.o7,.o4] true (iGp (l3 pPick) [r2_42,(rk (.bool true)),r2_44] (some s2_45)) (some s2_45) rfl rfl rfl,iGp (l3 pPick) [r2_39,r2_45,(rk (.bool false))] (some s2_46),iMv r2_46 s2_47,iGd r2_47 [.o7,.o5] true (iMv r2_4 s2_48) (some s2_48) rfl rfl rfl,iGd r2_47 [.o7,.o5] true (iP2 bLt r2_48 (rk (.int .u8 (.ofNat 65))) s2_49) (some s2_49) rfl rfl rfl,iGd r2_47 [.o7,.o5] true (iMv r2_49 s2_50) (some s2_50) rfl rfl rfl,iGd r2_50 [.o2,.o6] false (iMv r2_4 s2_51) (some s2_51) rfl rfl rfl,iGd r2_50 [.o2,.o6] false (iP2 bGt r2_51 (rk (.int .u8 (.ofNat 90))) s2_52) (some s2_52) rfl rfl rfl,iGd r2_47 [.o7,.o5] true (iGp (l3 pPick) [r2_50,(rk (.bool true)),r2_52] (some s2_53)) (some s2_53) rfl rfl rfl,iGp (l3 pPick) [r2_47,r2_53,(rk (.bool false))] (some s2_54)]
def x79_7 : List (Ins tf2) := [iAs (rk (.bool false)) s2_2]
def x79_8 : List (Ins tf2) := [iP2 bAdd r2_25 (rk (.int .i64 (.ofNat 1))) s2_55,iMv r2_55 s2_25]
def x79_9 : List (Ins tf2) := [iAs (rk (.bool true)) s2_2]
def x79 : XC tf2 := (.rg x79_0 (.seq (.rg x79_1 (.cond r2_21 (.rg x79_2 .ret) .skip)) (.seq (.rg x79_3 (.block 0 (.loop (.rg x79_4 (.seq (.cond r2_26 .skip (.exit 0)) (.seq (.block 1 (.rg x79_5 (.rg x79_6 (.cond r2_54 (.rg x79_7 .ret) .skip)))) (.reg x79_8))))))) (.rg x79_9 .ret))))
def c79 : Code := Tryd.f79.body.getD .skip
theorem x79_b : Tryd.f79.body = some c79 := by kernel_rfl
theorem x79_c : cG (comp Tryd.prog) 2 2 56 x79 c79 = x79.den := by kernel_rfl
def y79 : List (RR Tryd.prog 2 56 tf2) := [rrT r2_2 2 rfl rfl]
theorem x79_r : y79.map RR.den = Tryd.f79.results.toList := by kernel_rfl
theorem x79_k : okFn Tryd.f79 = true := by kernel_rfl
theorem x79_D : 2 = dep Tryd.f79.ntmps := by kernel_rfl
theorem x79_s : ([s2_0] : List (Slot tf2)).map Slot.p = (List.range' 0 1).map (pth 2) := by kernel_rfl
def X79 : XFn Tryd.prog 2 (comp Tryd.prog) := ⟨X2,tf2,79,Tryd.f79,c79,2,56,[s2_0],z2,x79,y79,x79_D,Tryd.ntmps79.symm,Tryd.func79,x79_b,x79_k,x79_s,by decide,z2_ok,x79_c,x79_r⟩
def x80_0 : List (Ins tf2) := [iAs (rk (.bool false)) s2_4]
def x80_1 : List (Ins tf2) := [iMv r2_0 s2_5,iMv r2_1 s2_6,iCall (rk (.func (.func 89) #[] #[])) [r2_5,r2_6] (some s2_7),iP2 bGe r2_7 (rk (.int .i64 (.ofNat 0))) s2_8,iAs r2_8 s2_4]
def x80 : XC tf2 := (.rg x80_0 (.rg x80_1 .ret))
def c80 : Code := Tryd.f80.body.getD .skip
theorem x80_b : Tryd.f80.body = some c80 := by kernel_rfl
theorem x80_c : cG (comp Tryd.prog) 2 2 9 x80 c80 = x80.den := by kernel_rfl
def y80 : List (RR Tryd.prog 2 9 tf2) := [rrT r2_4 4 rfl rfl]
theorem x80_r : y80.map RR.den = Tryd.f80.results.toList := by kernel_rfl
theorem x80_k : okFn Tryd.f80 = true := by kernel_rfl
theorem x80_D : 2 = dep Tryd.f80.ntmps := by kernel_rfl
theorem x80_s : ([s2_0,s2_1] : List (Slot tf2)).map Slot.p = (List.range' 0 2).map (pth 2) := by kernel_rfl
def X80 : XFn Tryd.prog 2 (comp Tryd.prog) := ⟨X2,tf2,80,Tryd.f80,c80,2,9,[s2_0,s2_1],z2,x80,y80,x80_D,Tryd.ntmps80.symm,Tryd.func80,x80_b,x80_k,x80_s,by decide,z2_ok,x80_c,x80_r⟩
def x81_0 : List (Ins tf2) := [iGa (a1 gBox) [r2_0] (some s2_3),iGa (a1 gBox) [r2_1] (some s2_4),iAs (rk (.bool false)) s2_6]
def x81_1 : List (Ins tf2) := [iMv r2_2 s2_8,iGp (l1 (pUn .not)) [r2_8] (some s2_9),iAs r2_9 s2_7]
def x81_2 : List (Ins tf2) := [iGr (r1 (rLdn 2)) [r2_4] (some s2_10),iGp (pBld [(.int .i64 (.ofNat 0)),(.int .u64 (.ofNat 0))] []) [] (some s2_11),iGp (l2 (pEqS [0,0] false)) [r2_10,r2_11] (some s2_12),iAs r2_12 s2_6]
def x81_3 : List (Ins tf2) := [iP1 (bFa 0) r2_4 s2_14,iR1 bLd r2_14 s2_15,iP2 bEq r2_15 (rk (.int .i64 (.negSucc 0))) s2_16,iAs r2_16 s2_13]
def x81_4 : List (Ins tf2) := [iP1 (bFa 0) r2_3 s2_17,iR1 bLd r2_17 s2_18,iP2 bEq r2_18 (rk (.int .i64 (.ofNat 64))) s2_19,iMv r2_19 s2_20,iGd r2_20 [.o4,.o2] false (iP1 (bFa 1) r2_4 s2_21) (some s2_21) rfl rfl rfl,iGd r2_20 [.o4,.o2] false (iR1 bLd r2_21 s2_22) (some s2_22) rfl rfl rfl,iGd r2_20 [.o4,.o2] false (iP1 (bFa 0) r2_3 s2_23) (some s2_23) rfl rfl rfl,iGd r2_20 [.o4,.o2] false (iR1 bLd r2_23 s2_24) (some s2_24) rfl rfl rfl,iGd r2_20 [.o4,.o2] false (iGp (l2 (pBin .shl)) [(rk (.int .u64 (.ofNat 1))),r2_24] (some s2_25)) (some s2_25) rfl rfl rfl,iGd r2_20 [.o4,.o2] false (iP2 bLt r2_22 r2_25 s2_26) (some s2_26) rfl rfl rfl,iGp (l3 pPick) [r2_20,(rk (.bool true)),r2_26] (some s2_27),iAs r2_27 s2_6]
def x81_5 : List (Ins tf2) := [iP1 (bFa 0) r2_4 s2_28,iR1 bLd r2_28 s2_29,iP2 bGe r2_29 (rk (.int .i64 (.ofNat 0))) s2_30,iMv r2_30 s2_31,iGd r2_31 [.o7,.o3] true (iP1 (bFa 0) r2_4 s2_32) (some s2_32) rfl rfl rfl,iGd r2_31 [.o7,.o3] true (iR1 bLd r2_32 s2_33) (some s2_33) rfl rfl rfl,iGd r2_31 [.o7,.o3] true (iP1 (bFa 1) r2_3 s2_34) (some s2_34) rfl rfl rfl,iGd r2_31 [.o7,.o3] true (iR1 bLd r2_34 s2_35) (some s2_35) rfl rfl rfl,iGd r2_31 [.o7,.o3] true (iP2 bLt r2_33 r2_35 s2_36) (some s2_36) rfl rfl rfl,iGp (l3 pPick) [r2_31,r2_36,(rk (.bool false))] (some s2_37),iMv r2_37 s2_38,iGd r2_38 [.o6,.o4] true (iP1 (bFa 1) r2_4 s2_39) (some s2_39) rfl rfl rfl,iGd r2_38 [.o6,.o4] true (iR1 bLd r2_39 s2_40) (some s2_40) rfl rfl rfl,iGd r2_38 [.o6,.o4] true (iP2 bEq r2_40 (rk (.int .u64 (.ofNat 0))) s2_41) (some s2_41) rfl rfl rfl,iGp (l3 pPick) [r2_38,r2_41,(rk (.bool false))] (some s2_42),iAs r2_42 s2_6]
def x81 : XC tf2 := (.rg x81_0 (.seq (.block 0 (.rg x81_1 (.cond r2_7 (.rg x81_2 .ret) (.rg x81_3 (.cond r2_13 (.rg x81_4 .ret) .skip))))) (.rg x81_5 .ret)))
def c81 : Code := Tryd.f81.body.getD .skip
theorem x81_b : Tryd.f81.body = some c81 := by kernel_rfl
theorem x81_c : cG (comp Tryd.prog) 2 2 43 x81 c81 = x81.den := by kernel_rfl
def y81 : List (RR Tryd.prog 2 43 tf2) := [rrT r2_6 6 rfl rfl]
theorem x81_r : y81.map RR.den = Tryd.f81.results.toList := by kernel_rfl
theorem x81_k : okFn Tryd.f81 = true := by kernel_rfl
theorem x81_D : 2 = dep Tryd.f81.ntmps := by kernel_rfl
theorem x81_s : ([s2_0,s2_1,s2_2] : List (Slot tf2)).map Slot.p = (List.range' 0 3).map (pth 2) := by kernel_rfl
def X81 : XFn Tryd.prog 2 (comp Tryd.prog) := ⟨X2,tf2,81,Tryd.f81,c81,2,43,[s2_0,s2_1,s2_2],z2,x81,y81,x81_D,Tryd.ntmps81.symm,Tryd.func81,x81_b,x81_k,x81_s,by decide,z2_ok,x81_c,x81_r⟩
def x82_0 : List (Ins tf1) := [iAs (rk (.int .u64 (.ofNat 0))) s1_2]
def x82_1 : List (Ins tf1) := [iMv r1_0 s1_3,iP1 (bCv .u64) r1_3 s1_4,iGp (l2 (pBin .shl)) [(rk (.int .u64 (.ofNat 1))),r1_4] (some s1_5),iP2 bSub r1_5 (rk (.int .u64 (.ofNat 1))) s1_6,iAs r1_6 s1_2]
def x82 : XC tf1 := (.rg x82_0 (.rg x82_1 .ret))
def c82 : Code := Tryd.f82.body.getD .skip
theorem x82_b : Tryd.f82.body = some c82 := by kernel_rfl
theorem x82_c : cG (comp Tryd.prog) 2 1 7 x82 c82 = x82.den := by kernel_rfl
def y82 : List (RR Tryd.prog 1 7 tf1) := [rrT r1_2 2 rfl rfl]
theorem x82_r : y82.map RR.den = Tryd.f82.results.toList := by kernel_rfl
theorem x82_k : okFn Tryd.f82 = true := by kernel_rfl
theorem x82_D : 1 = dep Tryd.f82.ntmps := by kernel_rfl
theorem x82_s : ([s1_0] : List (Slot tf1)).map Slot.p = (List.range' 0 1).map (pth 1) := by kernel_rfl
def X82 : XFn Tryd.prog 2 (comp Tryd.prog) := ⟨X1,tf1,82,Tryd.f82,c82,1,7,[s1_0],z1,x82,y82,x82_D,Tryd.ntmps82.symm,Tryd.func82,x82_b,x82_k,x82_s,by decide,z1_ok,x82_c,x82_r⟩
def x84_0 : List (Ins tf2) := [iGa (aAl 22 [(.int .u8 (.ofNat 0)),(.int .u8 (.ofNat 0)),(.int .u8 (.ofNat 0)),(.int .u8 (.ofNat 0)),(.int .u8 (.ofNat 0)),(.int .u8 (.ofNat 0)),(.int .u8 (.ofNat 0)),(.int .u8 (.ofNat 0)),(.int .u8 (.ofNat 0)),(.int .u8 (.ofNat 0)),(.int .u8 (.ofNat 0)),(.int .u8 (.ofNat 0)),(.int .u8 (.ofNat 0)),(.int .u8 (.ofNat 0)),(.int .u8 (.ofNat 0)),(.int .u8 (.ofNat 0)),(.int .u8 (.ofNat 0)),(.int .u8 (.ofNat 0)),(.int .u8 (.ofNat 0)),(.int .u8 (.ofNat 0)),(.int .u8 (.ofNat 0)),(.int .u8 (.ofNat 0))]) [] (some s2_0)]
def x84_1 : List (Ins tf2) := [iGa (aAl 22 [(.int .u8 (.ofNat 0)),(.int .u8 (.ofNat 0)),(.int .u8 (.ofNat 0)),(.int .u8 (.ofNat 0)),(.int .u8 (.ofNat 0)),(.int .u8 (.ofNat 0)),(.int .u8 (.ofNat 0)),(.int .u8 (.ofNat 0)),(.int .u8 (.ofNat 0)),(.int .u8 (.ofNat 0)),(.int .u8 (.ofNat 0)),(.int .u8 (.ofNat 0)),(.int .u8 (.ofNat 0)),(.int .u8 (.ofNat 0)),(.int .u8 (.ofNat 0)),(.int .u8 (.ofNat 0)),(.int .u8 (.ofNat 0)),(.int .u8 (.ofNat 0)),(.int .u8 (.ofNat 0)),(.int .u8 (.ofNat 0)),(.int .u8 (.ofNat 0)),(.int .u8 (.ofNat 0))]) [] (some s2_1)]
def x84_2 : List (Ins tf2) := [iMv (rk (.int .i64 (.ofNat 0))) s2_3]
def x84_3 : List (Ins tf2) := [iP2 bLt r2_3 (rk (.int .i64 (.ofNat 22))) s2_4]
def x84_4 : List (Ins tf2) := [iMv r2_3 s2_5,iAs r2_5 s2_2]
def x84_5 : List (Ins tf2) := [iMv r2_2 s2_6,iP2 (bIxa 22 1) r2_1 r2_6 s2_7,iM2 bSt r2_7 (rk (.int .u8 (.ofNat 2)))]
def x84_6 : List (Ins tf2) := [iP2 bAdd r2_3 (rk (.int .i64 (.ofNat 1))) s2_8,iMv r2_8 s2_3]
def x84_7 : List (Ins tf2) := [iP2 (bIxa 22 1) r2_1 (rk (.int .u8 (.ofNat 0))) s2_9,iM2 bSt r2_9 (rk (.int .u8 (.ofNat 0))),iP2 (bIxa 22 1) r2_1 (rk (.int .u8 (.ofNat 1))) s2_10,iM2 bSt r2_10 (rk (.int .u8 (.ofNat 0)))]
def x84_8 : List (Ins tf2) := [iP2 (bIxa 22 1) r2_1 (rk (.int .u8 (.ofNat 2))) s2_11,iM2 bSt r2_11 (rk (.int .u8 (.ofNat 1))),iP2 (bIxa 22 1) r2_1 (rk (.int .u8 (.ofNat 3))) s2_12,iM2 bSt r2_12 (rk (.int .u8 (.ofNat 1)))]
def x84_9 : List (Ins tf2) := [iP2 (bIxa 22 1) r2_1 (rk (.int .u8 (.ofNat 21))) s2_13,iM2 bSt r2_13 (rk (.int .u8 (.ofNat 3)))]
def x84_10 : List (Ins tf2) := [iGr (r1 (rLdn 22)) [r2_1] (some s2_14),iGm (m2 (sStn 22)) [r2_0,r2_14] none]
def x84 : XC tf2 := (.rg x84_0 (.rg x84_1 (.seq (.rg x84_2 (.block 0 (.loop (.rg x84_3 (.seq (.cond r2_4 .skip (.exit 0)) (.seq (.block 1 (.rg x84_4 (.reg x84_5))) (.reg x84_6))))))) (.rg x84_7 (.rg x84_8 (.rg x84_9 (.rg x84_10 .ret)))))))
def c84 : Code := Tryd.f84.body.getD .skip
theorem x84_b : Tryd.f84.body = some c84 := by kernel_rfl
theorem x84_c : cG (comp Tryd.prog) 2 2 15 x84 c84 = x84.den := by kernel_rfl
def y84 : List (RR Tryd.prog 2 15 tf2) := [rrS (.cell 0 171)]
theorem x84_r : y84.map RR.den = Tryd.f84.results.toList := by kernel_rfl
theorem x84_k : okFn Tryd.f84 = true := by kernel_rfl
theorem x84_D : 2 = dep Tryd.f84.ntmps := by kernel_rfl
theorem x84_s : ([] : List (Slot tf2)).map Slot.p = (List.range' 0 0).map (pth 2) := by kernel_rfl
def X84 : XFn Tryd.prog 2 (comp Tryd.prog) := ⟨X2,tf2,84,Tryd.f84,c84,2,15,[],z2,x84,y84,x84_D,Tryd.ntmps84.symm,Tryd.func84,x84_b,x84_k,x84_s,by decide,z2_ok,x84_c,x84_r⟩
def x87_0 : List (Ins tf2) := [iGa (aAl 22 [.nilFunc,.nilFunc,.nilFunc,.nilFunc,.nilFunc,.nilFunc,.nilFunc,.nilFunc,.nilFunc,.nilFunc,.nilFunc,.nilFunc,.nilFunc,.nilFunc,.nilFunc,.nilFunc,.nilFunc,.nilFunc,.nilFunc,.nilFunc,.nilFunc,.nilFunc]) [] (some s2_0)]
def x87_1 : List (Ins tf2) := [iGp (pBld [.nilFunc] [(0,1)]) [(rk (.func (.func 90) #[] #[]))] (some s2_1),iGp (pBld [.nilFunc] [(0,1)]) [(rk (.func (.func 91) #[] #[]))] (some s2_2),iGp (pBld [.nilFunc] [(0,1)]) [(rk (.func (.func 92) #[] #[]))] (some s2_3),iGp (pBld [.nilFunc] [(0,1)]) [(rk (.func (.func 93) #[] #[]))] (some s2_4),iGp (pBld [.nilFunc] [(0,1)]) [(rk (.func (.func 94) #[] #[]))] (some s2_5),iGp (pBld [.nilFunc] [(0,1)]) [(rk (.func (.func 95) #[] #[]))] (some s2_6),iGp (pBld [.nilFunc] [(0,1)]) [(rk (.func (.func 96) #[] #[]))] (some s2_7),iGp (pBld [.nilFunc] [(0,1)]) [(rk (.func (.func 97) #[] #[]))] (some s2_8),iGp (pBld [.nilFunc] [(0,1)]) [(rk (.func (.func 98) #[] #[]))] (some s2_9),iGp (pBld [.nilFunc] [(0,1)]) [(rk (.func (.func 99) #[] #[]))] (some s2_10),iGp (pBld [.nilFunc] [(0,1)]) [(rk (.func (.func 100) #[] #[]))] (some s2_11),iGp (pBld [.nilFunc] [(0,1)]) [(rk (.func (.func 101) #[] #[]))] (some s2_12),iGp (pBld [.nilFunc] [(0,1)]) [(rk (.func (.func 102) #[] #[]))] (some s2_13),iGp (pBld [.nilFunc] [(0,1)]) [(rk (.func (.func 103) #[] #[]))] (some s2_14),iGp (pBld [.nilFunc] [(0,1)]) [(rk (.func (.func 104) #[] #[]))] (some s2_15),iGp (pBld [.nilFunc] [(0,1)]) [(rk (.func (.func 105) #[] #[]))] (some s2_16),iGp (pBld [.nilFunc] [(0,1)]) [(rk (.func (.func 106) #[] #[]))] (some s2_17),iGp (pBld [.nilFunc,.nilFunc,.nilFunc,.nilFunc,.nilFunc,.nilFunc,.nilFunc,.nilFunc,.nilFunc,.nilFunc,.nilFunc,.nilFunc,.nilFunc,.nilFunc,.nilFunc,.nilFunc,.nilFunc,.nilFunc,.nilFunc,.nilFunc,.nilFunc,.nilFunc] [(4,1),(5,1),(6,1),(7,1),(8,1),(9,1),(10,1),(11,1),(12,1),(13,1),(14,1),(15,1),(16,1),(17,1),(18,1),(19,1),(20,1)]) [r2_1,r2_2,r2_3,r2_4,r2_5,r2_6,r2_7,r2_8,r2_9,r2_10,r2_11,r2_12,r2_13,r2_14,r2_15,r2_16,r2_17] (some s2_18),iGm (m2 (sStn 22)) [r2_0,r2_18] none]
def x87 : XC tf2 := (.rg x87_0 (.rg x87_1 .ret))
def c87 : Code := Tryd.f87.body.getD .skip
theorem x87_b : Tryd.f87.body = some c87 := by kernel_rfl
theorem x87_c : cG (comp Tryd.prog) 2 2 19 x87 c87 = x87.den := by kernel_rfl
def y87 : List (RR Tryd.prog 2 19 tf2) := [rrS (.cell 0 178)]
theorem x87_r : y87.map RR.den = Tryd.f87.results.toList := by kernel_rfl
theorem x87_k : okFn Tryd.f87 = true := by kernel_rfl
theorem x87_D : 2 = dep Tryd.f87.ntmps := by kernel_rfl
theorem x87_s : ([] : List (Slot tf2)).map Slot.p = (List.range' 0 0).map (pth 2) := by kernel_rfl
def X87 : XFn Tryd.prog 2 (comp Tryd.prog) := ⟨X2,tf2,87,Tryd.f87,c87,2,19,[],z2,x87,y87,x87_D,Tryd.ntmps87.symm,Tryd.func87,x87_b,x87_k,x87_s,by decide,z2_ok,x87_c,x87_r⟩
def x89_0 : List (Ins tf2) := [iAs (rk (.int .i64 (.ofNat 0))) s2_4]
def x89_1 : List (Ins tf2) := [iMv r2_0 s2_6,iP1 bLen r2_6 s2_7,iMv (rk (.int .i64 (.ofNat 0))) s2_8]
def x89_2 : List (Ins tf2) := [iP2 bLt r2_8 r2_7 s2_9]
def x89_3 : List (Ins tf2) := [iMv r2_8 s2_10,iAs r2_10 s2_5]
def x89_4 : List (Ins tf2) := [iMv r2_1 s2_11,iMv r2_0 s2_12,iMv r2_5 s2_13,iP2 (bIxs 1) r2_12 r2_13 s2_14,iR1 bLd r2_14 s2_15,iGp (l2 (pBin .eql)) [r2_11,r2_15] (some s2_16)]
def x89_5 : List (Ins tf2) := [iMv r2_5 s2_17,iAs r2_17 s2_4]
def x89_6 : List (Ins tf2) := [iP2 bAdd r2_8 (rk (.int .i64 (.ofNat 1))) s2_18,iMv r2_18 s2_8]
def x89_7 : List (Ins tf2) := [iAs (rk (.int .i64 (.negSucc 0))) s2_4]
def x89 : XC tf2 := (.rg x89_0 (.seq (.rg x89_1 (.block 0 (.loop (.rg x89_2 (.seq (.cond r2_9 .skip (.exit 0)) (.seq (.block 1 (.rg x89_3 (.rg x89_4 (.cond r2_16 (.rg x89_5 .ret) .skip)))) (.reg x89_6))))))) (.rg x89_7 .ret)))
def c89 : Code := Tryd.f89.body.getD .skip
theorem x89_b : Tryd.f89.body = some c89 := by kernel_rfl
theorem x89_c : cG (comp Tryd.prog) 2 2 19 x89 c89 = x89.den := by kernel_rfl
def y89 : List (RR Tryd.prog 2 19 tf2) := [rrT r2_4 4 rfl rfl]
theorem x89_r : y89.map RR.den = Tryd.f89.results.toList := by kernel_rfl
theorem x89_k : okFn Tryd.f89 = true := by kernel_rfl
theorem x89_D : 2 = dep Tryd.f89.ntmps := by kernel_rfl
theorem x89_s : ([s2_0,s2_1] : List (Slot tf2)).map Slot.p = (List.range' 0 2).map (pth 2) := by kernel_rfl
def X89 : XFn Tryd.prog 2 (comp Tryd.prog) := ⟨X2,tf2,89,Tryd.f89,c89,2,19,[s2_0,s2_1],z2,x89,y89,x89_D,Tryd.ntmps89.symm,Tryd.func89,x89_b,x89_k,x89_s,by decide,z2_ok,x89_c,x89_r⟩
def x101_0 : List (Ins tf2) := [iAs (rk (.int .u64 (.ofNat 0))) s2_6]
def x101_1 : List (Ins tf2) := [iMv r2_1 s2_7,iMv r2_2 s2_8,iP2 bEq r2_7 r2_8 s2_9,iCall (rk (.func (.func 109) #[] #[])) [r2_9] (some s2_10),iAs r2_10 s2_6]
def x101 : XC tf2 := (.rg x101_0 (.rg x101_1 .ret))
def c101 : Code := Tryd.f101.body.getD .skip
theorem x101_b : Tryd.f101.body = some c101 := by kernel_rfl
theorem x101_c : cG (comp Tryd.prog) 2 2 11 x101 c101 = x101.den := by kernel_rfl
def y101 : List (RR Tryd.prog 2 11 tf2) := [rrT r2_6 6 rfl rfl]
theorem x101_r : y101.map RR.den = Tryd.f101.results.toList := by kernel_rfl
theorem x101_k : okFn Tryd.f101 = true := by kernel_rfl
theorem x101_D : 2 = dep Tryd.f101.ntmps := by kernel_rfl
theorem x101_s : ([s2_0,s2_1,s2_2] : List (Slot tf2)).map Slot.p = (List.range' 0 3).map (pth 2) := by kernel_rfl
def X101 : XFn Tryd.prog 2 (comp Tryd.prog) := ⟨X2,tf2,101,Tryd.f101,c101,2,11,[s2_0,s2_1,s2_2],z2,x101,y101,x101_D,Tryd.ntmps101.symm,Tryd.func101,x101_b,x101_k,x101_s,by decide,z2_ok,x101_c,x101_r⟩
def x109_0 : List (Ins tf1) := [iAs (rk (.int .u64 (.ofNat 0))) s1_2]
def x109_1 : List (Ins tf1) := [iMv r1_0 s1_3]
def x109_2 : List (Ins tf1) := [iAs (rk (.int .u64 (.ofNat 1))) s1_2]
def x109_3 : List (Ins tf1) := [iAs (rk (.int .u64 (.ofNat 0))) s1_2]
def x109 : XC tf1 := (.rg x109_0 (.seq (.rg x109_1 (.cond r1_3 (.rg x109_2 .ret) .skip)) (.rg x109_3 .ret)))
def c109 : Code := Tryd.f109.body.getD .skip
theorem x109_b : Tryd.f109.body = some c109 := by kernel_rfl
theorem x109_c : cG (comp Tryd.prog) 2 1 4 x109 c109 = x109.den := by kernel_rfl
def y109 : List (RR Tryd.prog 1 4 tf1) := [rrT r1_2 2 rfl rfl]
theorem x109_r : y109.map RR.den = Tryd.f109.results.toList := by kernel_rfl
theorem x109_k : okFn Tryd.f109 = true := by kernel_rfl
theorem x109_D : 1 = dep Tryd.f109.ntmps := by kernel_rfl
theorem x109_s : ([s1_0] : List (Slot tf1)).map Slot.p = (List.range' 0 1).map (pth 1) := by kernel_rfl
def X109 : XFn Tryd.prog 2 (comp Tryd.prog) := ⟨X1,tf1,109,Tryd.f109,c109,1,4,[s1_0],z1,x109,y109,x109_D,Tryd.ntmps109.symm,Tryd.func109,x109_b,x109_k,x109_s,by decide,z1_ok,x109_c,x109_r⟩
end
end Cr
end Go.Proofs.YtjhbabgcoemecaaDoor
namespace Go.Proofs.YtjhbabgcoemecaaDoor
namespace Cr
open Go Go.RowKit
set_option maxRecDepth 100000
noncomputable section
def x134_0 : List (Ins tf2) := [iAs (rk (.bool false)) s2_4]
def x134_1 : List (Ins tf2) := [iMv r2_1 s2_5,iP2 bGe r2_5 (rk (.int .i64 (.ofNat 0))) s2_6,iMv r2_6 s2_7,iGd r2_7 [.o7,.o0] true (iMv r2_1 s2_8) (some s2_8) rfl rfl rfl,iGd r2_7 [.o7,.o0] true (iMv r2_0 s2_9) (some s2_9) rfl rfl rfl,iGd r2_7 [.o7,.o0] true (iP1 bNil r2_9 s2_10) (some s2_10) rfl rfl rfl,iGd r2_7 [.o7,.o0] true (iP1 (bFa 0) r2_10 s2_11) (some s2_11) rfl rfl rfl,iGd r2_7 [.o7,.o0] true (iR1 bLd r2_11 s2_12) (some s2_12) rfl rfl rfl,iGd r2_7 [.o7,.o0] true (iCall (rk (.func (.func 74) #[] #[])) [r2_12] (some s2_13)) (some s2_13) rfl rfl rfl,iGd r2_7 [.o7,.o0] true (iP2 bLt r2_8 r2_13 s2_14) (some s2_14) rfl rfl rfl,iGp (l3 pPick) [r2_7,r2_14,(rk (.bool false))] (some s2_15),iAs r2_15 s2_4]
def x134 : XC tf2 := (.rg x134_0 (.rg x134_1 .ret))
def c134 : Code := Tryd.f134.body.getD .skip
theorem x134_b : Tryd.f134.body = some c134 := by kernel_rfl
theorem x134_c : cG (comp Tryd.prog) 2 2 16 x134 c134 = x134.den := by kernel_rfl
def y134 : List (RR Tryd.prog 2 16 tf2) := [rrT r2_4 4 rfl rfl]
theorem x134_r : y134.map RR.den = Tryd.f134.results.toList := by kernel_rfl
theorem x134_k : okFn Tryd.f134 = true := by kernel_rfl
theorem x134_D : 2 = dep Tryd.f134.ntmps := by kernel_rfl
theorem x134_s : ([s2_0,s2_1] : List (Slot tf2)).map Slot.p = (List.range' 0 2).map (pth 2) := by kernel_rfl
def X134 : XFn Tryd.prog 2 (comp Tryd.prog) := ⟨X2,tf2,134,Tryd.f134,c134,2,16,[s2_0,s2_1],z2,x134,y134,x134_D,Tryd.ntmps134.symm,Tryd.func134,x134_b,x134_k,x134_s,by decide,z2_ok,x134_c,x134_r⟩
def x135_0 : List (Ins tf2) := [iGa (a1 gBox) [r2_0] (some s2_1),iGa (aAl 9 [(.pointer none),(.int .i64 (.ofNat 0)),(.slice none 0 0),(.int .u8 (.ofNat 0)),(.int .i64 (.ofNat 0)),(.slice none 0 0),(.slice none 0 0),(.slice none 0 0),(.slice none 0 0)]) [] (some s2_2)]
def x135_1 : List (Ins tf2) := [iP1 (bFa 2) r2_1 s2_4,iGr (r1 (rLdn 7)) [r2_4] (some s2_5),iGa (aAl 7 [(.slice none 0 0),(.int .u8 (.ofNat 0)),(.int .i64 (.ofNat 0)),(.slice none 0 0),(.slice none 0 0),(.slice none 0 0),(.slice none 0 0)]) [] (some s2_3),iGm (m2 (sStn 7)) [r2_3,r2_5] none]
def x135_2 : List (Ins tf2) := [iP1 (bFa 0) r2_3 s2_6,iR1 bLd r2_6 s2_7,iGm (m2 (sApp 1)) [(rk (.slice none 0 0)),r2_7] (some s2_8),iP1 (bFa 0) r2_3 s2_9,iM2 bSt r2_9 r2_8]
def x135_3 : List (Ins tf2) := [iP1 (bFa 3) r2_3 s2_10,iR1 bLd r2_10 s2_11,iGm (m2 (sApp 2)) [(rk (.slice none 0 0)),r2_11] (some s2_12),iP1 (bFa 3) r2_3 s2_13,iM2 bSt r2_13 r2_12]
def x135_4 : List (Ins tf2) := [iP1 (bFa 4) r2_3 s2_14,iR1 bLd r2_14 s2_15,iGm (m2 (sApp 2)) [(rk (.slice none 0 0)),r2_15] (some s2_16),iP1 (bFa 4) r2_3 s2_17,iM2 bSt r2_17 r2_16]
def x135_5 : List (Ins tf2) := [iP1 (bFa 5) r2_3 s2_18,iR1 bLd r2_18 s2_19,iGm (m2 (sApp 1)) [(rk (.slice none 0 0)),r2_19] (some s2_20),iP1 (bFa 5) r2_3 s2_21,iM2 bSt r2_21 r2_20]
def x135_6 : List (Ins tf2) := [iP1 (bFa 6) r2_3 s2_22,iR1 bLd r2_22 s2_23,iGm (m2 (sApp 1)) [(rk (.slice none 0 0)),r2_23] (some s2_24),iP1 (bFa 6) r2_3 s2_25,iM2 bSt r2_25 r2_24]
def x135_7 : List (Ins tf2) := [iP1 (bFa 0) r2_1 s2_26,iR1 bLd r2_26 s2_27,iP1 (bFa 1) r2_1 s2_29,iR1 bLd r2_29 s2_30,iGr (r1 (rLdn 7)) [r2_3] (some s2_31),iRc (iCall (rk (.func (.func 170) #[] #[])) [r2_27] (some s2_28)) [(rcS ⟨none,.r (r1 (rLdn 7)),[(.t [.o3,.o0])],(some [.o7,.o3])⟩),(rcLd r2_29 r2_30 [.o6,.o3] rfl)] rfl,iGp (pBld [(.pointer none),(.int .i64 (.ofNat 0)),(.slice none 0 0),(.int .u8 (.ofNat 0)),(.int .i64 (.ofNat 0)),(.slice none 0 0),(.slice none 0 0),(.slice none 0 0),(.slice none 0 0)] [(0,1),(1,1),(2,7)]) [r2_28,r2_30,r2_31] (some s2_32),iGm (m2 (sStn 9)) [r2_2,r2_32] none]
def x135 : XC tf2 := (.rg x135_0 (.rg x135_1 (.rg x135_2 (.rg x135_3 (.rg x135_4 (.rg x135_5 (.rg x135_6 (.rg x135_7 .ret))))))))
def c135 : Code := Tryd.f135.body.getD .skip
theorem x135_b : Tryd.f135.body = some c135 := by kernel_rfl
theorem x135_c : cG (comp Tryd.prog) 2 2 33 x135 c135 = x135.den := by kernel_rfl
def y135 : List (RR Tryd.prog 2 33 tf2) := [rrS (.cell 2 101)]
theorem x135_r : y135.map RR.den = Tryd.f135.results.toList := by kernel_rfl
theorem x135_k : okFn Tryd.f135 = true := by kernel_rfl
theorem x135_D : 2 = dep Tryd.f135.ntmps := by kernel_rfl
theorem x135_s : ([s2_0] : List (Slot tf2)).map Slot.p = (List.range' 0 1).map (pth 2) := by kernel_rfl
def X135 : XFn Tryd.prog 2 (comp Tryd.prog) := ⟨X2,tf2,135,Tryd.f135,c135,2,33,[s2_0],z2,x135,y135,x135_D,Tryd.ntmps135.symm,Tryd.func135,x135_b,x135_k,x135_s,by decide,z2_ok,x135_c,x135_r⟩
def x138_0 : List (Ins tf3) := [iGa (a1 gBox) [r3_2] (some s3_5),iAs (rk (.bool false)) s3_6]
def x138_1 : List (Ins tf3) := [iMv r3_1 s3_14,iP1 bNil r3_14 s3_15,iP1 (bFa 0) r3_15 s3_16,iR1 bLd r3_16 s3_17,iP1 (bFa 4) r3_5 s3_18,iGr (r1 (rLdn 2)) [r3_18] (some s3_19),iCall (rk (.func (.func 147) #[] #[])) [r3_17,r3_19] (some s3_20),iMv r3_20 s3_13,iGp (l1 (pExt 0)) [r3_13] (some s3_21),iGp (l1 (pExt 1)) [r3_13] (some s3_22),iAs r3_21 s3_7,iAs r3_22 s3_8]
def x138_2 : List (Ins tf3) := [iMv r3_0 s3_23,iMv r3_8 s3_24,iCall (rk (.func (.func 43) #[] #[])) [r3_23,r3_24] (some s3_25)]
def x138_3 : List (Ins tf3) := [iAs (rk (.bool false)) s3_6]
def x138_4 : List (Ins tf3) := [iMv r3_7 s3_26,iGa (aBsl 1 1 [(.int .i64 (.ofNat 0))] [(0,1)]) [r3_26] (some s3_27),iAs r3_27 s3_9]
def x138_5 : List (Ins tf3) := [iP1 (bFa 1) r3_5 s3_28,iR1 bLd r3_28 s3_29,iP2 bNe r3_29 (rk (.int .u8 (.ofNat 2))) s3_30,iMv r3_30 s3_31,iGd r3_31 [.o7,.o3,.o0] true (iP1 (bFa 1) r3_5 s3_32) (some s3_32) rfl rfl rfl,iGd r3_31 [.o7,.o3,.o0] true (iR1 bLd r3_32 s3_33) (some s3_33) rfl rfl rfl,iGd r3_31 [.o7,.o3,.o0] true (iP2 bNe r3_33 (rk (.int .u8 (.ofNat 3))) s3_34) (some s3_34) rfl rfl rfl,iGp (l3 pPick) [r3_31,r3_34,(rk (.bool false))] (some s3_35)]
def x138_6 : List (Ins tf3) := [iMv r3_1 s3_37,iP1 bNil r3_37 s3_38,iP1 (bFa 0) r3_38 s3_39,iR1 bLd r3_39 s3_40,iP1 (bFa 6) r3_5 s3_41,iGr (r1 (rLdn 2)) [r3_41] (some s3_42),iCall (rk (.func (.func 147) #[] #[])) [r3_40,r3_42] (some s3_43),iMv r3_43 s3_36,iGp (l1 (pExt 0)) [r3_36] (some s3_44),iGp (l1 (pExt 1)) [r3_36] (some s3_45),iAs r3_44 s3_10,iAs r3_45 s3_11]
def x138_7 : List (Ins tf3) := [iMv r3_0 s3_46,iMv r3_11 s3_47,iCall (rk (.func (.func 43) #[] #[])) [r3_46,r3_47] (some s3_48)]
def x138_8 : List (Ins tf3) := [iAs (rk (.bool false)) s3_6]
def x138_9 : List (Ins tf3) := [iMv r3_9 s3_49,iMv r3_10 s3_50,iGa (aBsl 1 1 [(.int .i64 (.ofNat 0))] [(0,1)]) [r3_50] (some s3_51),iGm (m2 (sApp 1)) [r3_49,r3_51] (some s3_52),iAs r3_52 s3_9]
def x138_10 : List (Ins tf3) := [iMv r3_0 s3_54,iP1 bNil r3_54 s3_55,iP1 (bFa 0) r3_55 s3_56,iR1 bLd r3_56 s3_57,iP1 (bFa 1) r3_5 s3_58,iR1 bLd r3_58 s3_59,iMv r3_9 s3_60,iCall (rk (.func (.func 149) #[] #[])) [r3_57,r3_59,r3_60] (some s3_61),iMv r3_61 s3_53,iGp (l1 (pExt 0)) [r3_53] (some s3_62),iGp (l1 (pExt 1)) [r3_53] (some s3_63),iAs r3_62 s3_12,iAs r3_63 s3_8]
def x138_11 : List (Ins tf3) := [iMv r3_0 s3_64,iMv r3_1 s3_65,iP1 (bFa 2) r3_5 s3_66,iR1 bLd r3_66 s3_67,iMv r3_12 s3_68,iMv r3_8 s3_69,iCall (rk (.func (.func 148) #[] #[])) [r3_64,r3_65,r3_67,r3_68,r3_69] (some s3_70),iAs r3_70 s3_6]
def x138 : XC tf3 := (.rg x138_0 (.rg x138_1 (.seq (.rg x138_2 (.cond r3_25 (.rg x138_3 .ret) .skip)) (.rg x138_4 (.seq (.rg x138_5 (.cond r3_35 (.rg x138_6 (.seq (.rg x138_7 (.cond r3_48 (.rg x138_8 .ret) .skip)) (.reg x138_9))) .skip)) (.rg x138_10 (.rg x138_11 .ret)))))))
def c138 : Code := Tryd.f138.body.getD .skip
theorem x138_b : Tryd.f138.body = some c138 := by kernel_rfl
theorem x138_c : cG (comp Tryd.prog) 2 3 71 x138 c138 = x138.den := by kernel_rfl
def y138 : List (RR Tryd.prog 3 71 tf3) := [rrT r3_6 6 rfl rfl]
theorem x138_r : y138.map RR.den = Tryd.f138.results.toList := by kernel_rfl
theorem x138_k : okFn Tryd.f138 = true := by kernel_rfl
theorem x138_D : 3 = dep Tryd.f138.ntmps := by kernel_rfl
theorem x138_s : ([s3_0,s3_1,s3_2] : List (Slot tf3)).map Slot.p = (List.range' 0 3).map (pth 3) := by kernel_rfl
def X138 : XFn Tryd.prog 2 (comp Tryd.prog) := ⟨X3,tf3,138,Tryd.f138,c138,3,71,[s3_0,s3_1,s3_2],z3,x138,y138,x138_D,Tryd.ntmps138.symm,Tryd.func138,x138_b,x138_k,x138_s,by decide,z3_ok,x138_c,x138_r⟩
def x141_0 : List (Ins tf2) := [iGa (a1 gBox) [r2_2] (some s2_5),iAs (rk (.bool false)) s2_6]
def x141_1 : List (Ins tf2) := [iMv r2_0 s2_11,iP1 bNil r2_11 s2_12,iP1 (bFa 1) r2_12 s2_13,iP1 (bFa 2) r2_13 s2_14,iR1 bLd r2_14 s2_15,iP1 bLen r2_15 s2_16,iP1 (bFa 3) r2_5 s2_17,iR1 bLd r2_17 s2_18,iMv r2_1 s2_19,iP1 bNil r2_19 s2_20,iP1 (bFa 2) r2_20 s2_21,iP1 (bFa 6) r2_21 s2_22,iR1 bLd r2_22 s2_23,iP1 (bFa 3) r2_5 s2_24,iR1 bLd r2_24 s2_25,iP2 (bIxs 1) r2_23 r2_25 s2_26,iR1 bLd r2_26 s2_27,iCall (rk (.func (.func 11) #[] #[])) [r2_16,r2_18,r2_27] (some s2_28),iMv r2_28 s2_10,iGp (l1 (pExt 0)) [r2_10] (some s2_29),iGp (l1 (pExt 1)) [r2_10] (some s2_30),iAs r2_29 s2_7,iAs r2_30 s2_8]
def x141_2 : List (Ins tf2) := [iMv r2_0 s2_31,iMv r2_8 s2_32,iCall (rk (.func (.func 43) #[] #[])) [r2_31,r2_32] (some s2_33)]
def x141_3 : List (Ins tf2) := [iAs (rk (.bool false)) s2_6]
def x141_4 : List (Ins tf2) := [iMv r2_1 s2_34,iP1 bNil r2_34 s2_35,iP1 (bFa 2) r2_35 s2_36,iP1 (bFa 6) r2_36 s2_37,iR1 bLd r2_37 s2_38,iP1 (bFa 3) r2_5 s2_39,iR1 bLd r2_39 s2_40,iP2 (bIxs 1) r2_38 r2_40 s2_41,iR1 bLd r2_41 s2_42,iP2 bAdd r2_42 (rk (.int .i64 (.ofNat 1))) s2_43,iP2 (bIxs 1) r2_38 r2_40 s2_44,iM2 bSt r2_44 r2_43]
def x141_5 : List (Ins tf2) := [iMv r2_0 s2_46,iP1 bNil r2_46 s2_47,iP1 (bFa 0) r2_47 s2_48,iR1 bLd r2_48 s2_49,iMv r2_7 s2_50,iCall (rk (.func (.func 52) #[] #[])) [r2_49,r2_50] (some s2_51),iMv r2_51 s2_45,iGp (l1 (pExt 0)) [r2_45] (some s2_52),iGp (l1 (pExt 1)) [r2_45] (some s2_53),iAs r2_52 s2_9,iAs r2_53 s2_8]
def x141_6 : List (Ins tf2) := [iMv r2_0 s2_54,iMv r2_1 s2_55,iP1 (bFa 2) r2_5 s2_56,iR1 bLd r2_56 s2_57,iMv r2_9 s2_58,iMv r2_8 s2_59,iCall (rk (.func (.func 148) #[] #[])) [r2_54,r2_55,r2_57,r2_58,r2_59] (some s2_60),iAs r2_60 s2_6]
def x141 : XC tf2 := (.rg x141_0 (.rg x141_1 (.seq (.rg x141_2 (.cond r2_33 (.rg x141_3 .ret) .skip)) (.rg x141_4 (.rg x141_5 (.rg x141_6 .ret))))))
def c141 : Code := Tryd.f141.body.getD .skip
theorem x141_b : Tryd.f141.body = some c141 := by kernel_rfl
theorem x141_c : cG (comp Tryd.prog) 2 2 61 x141 c141 = x141.den := by kernel_rfl
def y141 : List (RR Tryd.prog 2 61 tf2) := [rrT r2_6 6 rfl rfl]
theorem x141_r : y141.map RR.den = Tryd.f141.results.toList := by kernel_rfl
theorem x141_k : okFn Tryd.f141 = true := by kernel_rfl
theorem x141_D : 2 = dep Tryd.f141.ntmps := by kernel_rfl
theorem x141_s : ([s2_0,s2_1,s2_2] : List (Slot tf2)).map Slot.p = (List.range' 0 3).map (pth 2) := by kernel_rfl
def X141 : XFn Tryd.prog 2 (comp Tryd.prog) := ⟨X2,tf2,141,Tryd.f141,c141,2,61,[s2_0,s2_1,s2_2],z2,x141,y141,x141_D,Tryd.ntmps141.symm,Tryd.func141,x141_b,x141_k,x141_s,by decide,z2_ok,x141_c,x141_r⟩
def x142_0 : List (Ins tf2) := [iGa (a1 gBox) [r2_2] (some s2_5),iAs (rk (.bool false)) s2_6]
def x142_1 : List (Ins tf2) := [iMv r2_1 s2_10,iP1 bNil r2_10 s2_11,iP1 (bFa 0) r2_11 s2_12,iR1 bLd r2_12 s2_13,iP1 (bFa 4) r2_5 s2_14,iGr (r1 (rLdn 2)) [r2_14] (some s2_15),iCall (rk (.func (.func 147) #[] #[])) [r2_13,r2_15] (some s2_16),iMv r2_16 s2_9,iGp (l1 (pExt 0)) [r2_9] (some s2_17),iGp (l1 (pExt 1)) [r2_9] (some s2_18),iAs r2_17 s2_7,iAs r2_18 s2_8]
def x142_2 : List (Ins tf2) := [iMv r2_0 s2_19,iMv r2_8 s2_20,iCall (rk (.func (.func 43) #[] #[])) [r2_19,r2_20] (some s2_21)]
def x142_3 : List (Ins tf2) := [iAs (rk (.bool false)) s2_6]
def x142_4 : List (Ins tf2) := [iMv r2_1 s2_22,iMv r2_1 s2_23,iP1 bNil r2_23 s2_24,iP1 (bFa 2) r2_24 s2_25,iP1 (bFa 3) r2_25 s2_26,iR1 bLd r2_26 s2_27,iP1 (bFa 3) r2_5 s2_28,iR1 bLd r2_28 s2_29,iMv r2_7 s2_30,iGp (pBld [(.int .i64 (.ofNat 0)),(.int .i64 (.ofNat 0))] [(0,1),(1,1)]) [r2_29,r2_30] (some s2_31),iGa (aBsl 1 2 [(.int .i64 (.ofNat 0)),(.int .i64 (.ofNat 0))] [(0,2)]) [r2_31] (some s2_32),iGm (m2 (sApp 2)) [r2_27,r2_32] (some s2_33),iP1 bNil r2_22 s2_34,iP1 (bFa 2) r2_34 s2_35,iP1 (bFa 3) r2_35 s2_36,iM2 bSt r2_36 r2_33]
def x142_5 : List (Ins tf2) := [iMv r2_1 s2_37,iP1 bNil r2_37 s2_38,iP1 (bFa 1) r2_38 s2_39,iR1 bLd r2_39 s2_40,iP2 bAdd r2_40 (rk (.int .i64 (.ofNat 1))) s2_41,iP1 bNil r2_37 s2_42,iP1 (bFa 1) r2_42 s2_43,iM2 bSt r2_43 r2_41]
def x142_6 : List (Ins tf2) := [iMv r2_0 s2_44,iMv r2_0 s2_45,iP1 bNil r2_45 s2_46,iP1 (bFa 8) r2_46 s2_47,iR1 bLd r2_47 s2_48,iMv r2_1 s2_49,iP1 bNil r2_49 s2_50,iGr (r1 (rLdn 9)) [r2_50] (some s2_51),iGa (aBsl 1 9 [(.pointer none),(.int .i64 (.ofNat 0)),(.slice none 0 0),(.int .u8 (.ofNat 0)),(.int .i64 (.ofNat 0)),(.slice none 0 0),(.slice none 0 0),(.slice none 0 0),(.slice none 0 0)] [(0,9)]) [r2_51] (some s2_52),iGm (m2 (sApp 9)) [r2_48,r2_52] (some s2_53),iP1 bNil r2_44 s2_54,iP1 (bFa 8) r2_54 s2_55,iM2 bSt r2_55 r2_53]
def x142_7 : List (Ins tf2) := [iAs (rk (.bool false)) s2_6]
def x142 : XC tf2 := (.rg x142_0 (.rg x142_1 (.seq (.rg x142_2 (.cond r2_21 (.rg x142_3 .ret) .skip)) (.rg x142_4 (.rg x142_5 (.rg x142_6 (.rg x142_7 .ret)))))))
def c142 : Code := Tryd.f142.body.getD .skip
theorem x142_b : Tryd.f142.body = some c142 := by kernel_rfl
theorem x142_c : cG (comp Tryd.prog) 2 2 56 x142 c142 = x142.den := by kernel_rfl
def y142 : List (RR Tryd.prog 2 56 tf2) := [rrT r2_6 6 rfl rfl]
theorem x142_r : y142.map RR.den = Tryd.f142.results.toList := by kernel_rfl
theorem x142_k : okFn Tryd.f142 = true := by kernel_rfl
theorem x142_D : 2 = dep Tryd.f142.ntmps := by kernel_rfl
theorem x142_s : ([s2_0,s2_1,s2_2] : List (Slot tf2)).map Slot.p = (List.range' 0 3).map (pth 2) := by kernel_rfl
def X142 : XFn Tryd.prog 2 (comp Tryd.prog) := ⟨X2,tf2,142,Tryd.f142,c142,2,56,[s2_0,s2_1,s2_2],z2,x142,y142,x142_D,Tryd.ntmps142.symm,Tryd.func142,x142_b,x142_k,x142_s,by decide,z2_ok,x142_c,x142_r⟩
def x145_0 : List (Ins tf2) := [iGa (a1 gBox) [r2_2] (some s2_5),iAs (rk (.bool false)) s2_6]
def x145_1 : List (Ins tf2) := [iMv r2_1 s2_12,iP1 bNil r2_12 s2_13,iP1 (bFa 0) r2_13 s2_14,iR1 bLd r2_14 s2_15,iP1 (bFa 4) r2_5 s2_16,iGr (r1 (rLdn 2)) [r2_16] (some s2_17),iCall (rk (.func (.func 147) #[] #[])) [r2_15,r2_17] (some s2_18),iMv r2_18 s2_11,iGp (l1 (pExt 0)) [r2_11] (some s2_19),iGp (l1 (pExt 1)) [r2_11] (some s2_20),iAs r2_19 s2_7,iAs r2_20 s2_8]
def x145_2 : List (Ins tf2) := [iMv r2_0 s2_21,iMv r2_8 s2_22,iCall (rk (.func (.func 43) #[] #[])) [r2_21,r2_22] (some s2_23)]
def x145_3 : List (Ins tf2) := [iAs (rk (.bool false)) s2_6]
def x145_4 : List (Ins tf2) := [iMv r2_0 s2_25,iP1 bNil r2_25 s2_26,iP1 (bFa 0) r2_26 s2_27,iR1 bLd r2_27 s2_28,iCall (rk (.func (.func 50) #[] #[])) [r2_28,(rk (.int .u64 (.ofNat 0)))] (some s2_29),iMv r2_29 s2_24,iGp (l1 (pExt 0)) [r2_24] (some s2_30),iGp (l1 (pExt 1)) [r2_24] (some s2_31),iAs r2_30 s2_9,iAs r2_31 s2_8]
def x145_5 : List (Ins tf2) := [iMv r2_0 s2_32,iMv r2_8 s2_33,iCall (rk (.func (.func 43) #[] #[])) [r2_32,r2_33] (some s2_34)]
def x145_6 : List (Ins tf2) := [iAs (rk (.bool false)) s2_6]
def x145_7 : List (Ins tf2) := [iMv r2_0 s2_36,iP1 bNil r2_36 s2_37,iP1 (bFa 0) r2_37 s2_38,iR1 bLd r2_38 s2_39,iMv r2_7 s2_40,iMv r2_9 s2_41,iGa (aBsl 2 1 [(.int .i64 (.ofNat 0))] [(0,1),(1,1)]) [r2_40,r2_41] (some s2_42),iCall (rk (.func (.func 149) #[] #[])) [r2_39,(rk (.int .u8 (.ofNat 15))),r2_42] (some s2_43),iMv r2_43 s2_35,iGp (l1 (pExt 0)) [r2_35] (some s2_44),iGp (l1 (pExt 1)) [r2_35] (some s2_45),iAs r2_44 s2_10,iAs r2_45 s2_8]
def x145_8 : List (Ins tf2) := [iMv r2_0 s2_46,iMv r2_8 s2_47,iCall (rk (.func (.func 43) #[] #[])) [r2_46,r2_47] (some s2_48)]
def x145_9 : List (Ins tf2) := [iAs (rk (.bool false)) s2_6]
def x145_10 : List (Ins tf2) := [iMv r2_0 s2_49,iMv r2_1 s2_50,iP1 bNil r2_50 s2_51,iGr (r1 (rLdn 9)) [r2_51] (some s2_52),iMv r2_10 s2_53,iGp (pMkf (.func 158) 0) [r2_5] (some s2_54),iCall (rk (.func (.func 156) #[] #[])) [r2_49,r2_52,r2_53,(rk (.func (.func 157) #[] #[])),r2_54] (some s2_55)]
def x145_11 : List (Ins tf2) := [iAs (rk (.bool false)) s2_6]
def x145 : XC tf2 := (.rg x145_0 (.rg x145_1 (.seq (.rg x145_2 (.cond r2_23 (.rg x145_3 .ret) .skip)) (.rg x145_4 (.seq (.rg x145_5 (.cond r2_34 (.rg x145_6 .ret) .skip)) (.rg x145_7 (.seq (.rg x145_8 (.cond r2_48 (.rg x145_9 .ret) .skip)) (.rg x145_10 (.rg x145_11 .ret)))))))))
def c145 : Code := Tryd.f145.body.getD .skip
theorem x145_b : Tryd.f145.body = some c145 := by kernel_rfl
theorem x145_c : cG (comp Tryd.prog) 2 2 56 x145 c145 = x145.den := by kernel_rfl
def y145 : List (RR Tryd.prog 2 56 tf2) := [rrT r2_6 6 rfl rfl]
theorem x145_r : y145.map RR.den = Tryd.f145.results.toList := by kernel_rfl
theorem x145_k : okFn Tryd.f145 = true := by kernel_rfl
theorem x145_D : 2 = dep Tryd.f145.ntmps := by kernel_rfl
theorem x145_s : ([s2_0,s2_1,s2_2] : List (Slot tf2)).map Slot.p = (List.range' 0 3).map (pth 2) := by kernel_rfl
def X145 : XFn Tryd.prog 2 (comp Tryd.prog) := ⟨X2,tf2,145,Tryd.f145,c145,2,56,[s2_0,s2_1,s2_2],z2,x145,y145,x145_D,Tryd.ntmps145.symm,Tryd.func145,x145_b,x145_k,x145_s,by decide,z2_ok,x145_c,x145_r⟩
def x146_0 : List (Ins tf2) := [iGa (a1 gBox) [r2_2] (some s2_5),iAs (rk (.bool false)) s2_6]
def x146_1 : List (Ins tf2) := [iMv r2_1 s2_7,iP1 bNil r2_7 s2_8,iP1 (bFa 2) r2_8 s2_9,iP1 (bFa 1) r2_9 s2_10,iM2 bSt r2_10 (rk (.int .u8 (.ofNat 0)))]
def x146_2 : List (Ins tf2) := [iAs (rk (.bool true)) s2_6]
def x146 : XC tf2 := (.rg x146_0 (.rg x146_1 (.rg x146_2 .ret)))
def c146 : Code := Tryd.f146.body.getD .skip
theorem x146_b : Tryd.f146.body = some c146 := by kernel_rfl
theorem x146_c : cG (comp Tryd.prog) 2 2 11 x146 c146 = x146.den := by kernel_rfl
def y146 : List (RR Tryd.prog 2 11 tf2) := [rrT r2_6 6 rfl rfl]
theorem x146_r : y146.map RR.den = Tryd.f146.results.toList := by kernel_rfl
theorem x146_k : okFn Tryd.f146 = true := by kernel_rfl
theorem x146_D : 2 = dep Tryd.f146.ntmps := by kernel_rfl
theorem x146_s : ([s2_0,s2_1,s2_2] : List (Slot tf2)).map Slot.p = (List.range' 0 3).map (pth 2) := by kernel_rfl
def X146 : XFn Tryd.prog 2 (comp Tryd.prog) := ⟨X2,tf2,146,Tryd.f146,c146,2,11,[s2_0,s2_1,s2_2],z2,x146,y146,x146_D,Tryd.ntmps146.symm,Tryd.func146,x146_b,x146_k,x146_s,by decide,z2_ok,x146_c,x146_r⟩
def x147_0 : List (Ins tf2) := [iGa (a1 gBox) [r2_1] (some s2_3),iAs (rk (.int .i64 (.ofNat 0))) s2_4,iAs (rk (.int .i64 (.ofNat 0))) s2_5]
def x147_1 : List (Ins tf2) := [iMv r2_0 s2_6,iGp (l2 (pEqD (tdOf 96) false)) [r2_6,(rk (.pointer none))] (some s2_7)]
def x147_2 : List (Ins tf2) := [iAs (rk (.int .i64 (.ofNat 0))) s2_4,iAs (rk (.int .i64 (.ofNat 1))) s2_5]
def x147_3 : List (Ins tf2) := [iP1 (bFa 0) r2_3 s2_8,iR1 bLd r2_8 s2_9,iP2 bLt r2_9 (rk (.int .i64 (.negSucc 0))) s2_10,iMv r2_10 s2_11,iGd r2_11 [.o3,.o1] false (iP1 (bFa 0) r2_3 s2_12) (some s2_12) rfl rfl rfl,iGd r2_11 [.o3,.o1] false (iR1 bLd r2_12 s2_13) (some s2_13) rfl rfl rfl,iGd r2_11 [.o3,.o1] false (iMv r2_0 s2_14) (some s2_14) rfl rfl rfl,iGd r2_11 [.o3,.o1] false (iP1 bNil r2_14 s2_15) (some s2_15) rfl rfl rfl,iGd r2_11 [.o3,.o1] false (iP1 (bFa 1) r2_15 s2_16) (some s2_16) rfl rfl rfl,iGd r2_11 [.o3,.o1] false (iR1 bLd r2_16 s2_17) (some s2_17) rfl rfl rfl,iGd r2_11 [.o3,.o1] false (iP1 bLen r2_17 s2_18) (some s2_18) rfl rfl rfl,iGd r2_11 [.o3,.o1] false (iP2 bGe r2_13 r2_18 s2_19) (some s2_19) rfl rfl rfl,iGp (l3 pPick) [r2_11,(rk (.bool true)),r2_19] (some s2_20)]
def x147_4 : List (Ins tf2) := [iAs (rk (.int .i64 (.ofNat 0))) s2_4,iAs (rk (.int .i64 (.ofNat 3))) s2_5]
def x147_5 : List (Ins tf2) := [iP1 (bFa 0) r2_3 s2_21,iR1 bLd r2_21 s2_22,iP2 bEq r2_22 (rk (.int .i64 (.negSucc 0))) s2_23]
def x147_6 : List (Ins tf2) := [iMv r2_0 s2_24,iP1 bNil r2_24 s2_25,iP1 (bFa 0) r2_25 s2_26,iR1 bLd r2_26 s2_27,iP1 (bFa 1) r2_3 s2_28,iR1 bLd r2_28 s2_29,iCall (rk (.func (.func 50) #[] #[])) [r2_27,r2_29] (some s2_30),iGp (l1 (pExt 0)) [r2_30] (some s2_31),iGp (l1 (pExt 1)) [r2_30] (some s2_32),iAs r2_31 s2_4,iAs r2_32 s2_5]
def x147_7 : List (Ins tf2) := [iMv r2_0 s2_33,iP1 bNil r2_33 s2_34,iP1 (bFa 1) r2_34 s2_35,iR1 bLd r2_35 s2_36,iP1 (bFa 0) r2_3 s2_37,iR1 bLd r2_37 s2_38,iP2 (bIxs 1) r2_36 r2_38 s2_39,iR1 bLd r2_39 s2_40,iAs r2_40 s2_4,iAs (rk (.int .i64 (.ofNat 0))) s2_5]
def x147 : XC tf2 := (.rg x147_0 (.seq (.rg x147_1 (.cond r2_7 (.rg x147_2 .ret) .skip)) (.seq (.rg x147_3 (.cond r2_20 (.rg x147_4 .ret) .skip)) (.seq (.rg x147_5 (.cond r2_23 (.rg x147_6 .ret) .skip)) (.rg x147_7 .ret)))))
def c147 : Code := Tryd.f147.body.getD .skip
theorem x147_b : Tryd.f147.body = some c147 := by kernel_rfl
theorem x147_c : cG (comp Tryd.prog) 2 2 41 x147 c147 = x147.den := by kernel_rfl
def y147 : List (RR Tryd.prog 2 41 tf2) := [rrT r2_4 4 rfl rfl,rrT r2_5 5 rfl rfl]
theorem x147_r : y147.map RR.den = Tryd.f147.results.toList := by kernel_rfl
theorem x147_k : okFn Tryd.f147 = true := by kernel_rfl
theorem x147_D : 2 = dep Tryd.f147.ntmps := by kernel_rfl
theorem x147_s : ([s2_0,s2_1] : List (Slot tf2)).map Slot.p = (List.range' 0 2).map (pth 2) := by kernel_rfl
def X147 : XFn Tryd.prog 2 (comp Tryd.prog) := ⟨X2,tf2,147,Tryd.f147,c147,2,41,[s2_0,s2_1],z2,x147,y147,x147_D,Tryd.ntmps147.symm,Tryd.func147,x147_b,x147_k,x147_s,by decide,z2_ok,x147_c,x147_r⟩
def x148_0 : List (Ins tf2) := [iAs (rk (.bool false)) s2_10]
def x148_1 : List (Ins tf2) := [iMv r2_0 s2_11,iMv r2_4 s2_12,iCall (rk (.func (.func 43) #[] #[])) [r2_11,r2_12] (some s2_13),iMv r2_13 s2_14,iGd r2_14 [.o6,.o1] false (iMv r2_0 s2_15) (some s2_15) rfl rfl rfl,iGd r2_14 [.o6,.o1] false (iMv r2_1 s2_16) (some s2_16) rfl rfl rfl,iGd r2_14 [.o6,.o1] false (iP1 bNil r2_16 s2_17) (some s2_17) rfl rfl rfl,iGd r2_14 [.o6,.o1] false (iP1 (bFa 0) r2_17 s2_18) (some s2_18) rfl rfl rfl,iGd r2_14 [.o6,.o1] false (iR1 bLd r2_18 s2_19) (some s2_19) rfl rfl rfl,iGd r2_14 [.o6,.o1] false (iMv r2_2 s2_20) (some s2_20) rfl rfl rfl,iGd r2_14 [.o6,.o1] false (iMv r2_3 s2_21) (some s2_21) rfl rfl rfl,iGd r2_14 [.o6,.o1] false (iCall (rk (.func (.func 153) #[] #[])) [r2_19,r2_20,r2_21] (some s2_22)) (some s2_22) rfl rfl rfl,iGd r2_14 [.o6,.o1] false (iCall (rk (.func (.func 43) #[] #[])) [r2_15,r2_22] (some s2_23)) (some s2_23) rfl rfl rfl,iGp (l3 pPick) [r2_14,(rk (.bool true)),r2_23] (some s2_24)]
def x148_2 : List (Ins tf2) := [iAs (rk (.bool false)) s2_10]
def x148_3 : List (Ins tf2) := [iMv r2_1 s2_25,iP1 bNil r2_25 s2_26,iP1 (bFa 1) r2_26 s2_27,iR1 bLd r2_27 s2_28,iP2 bAdd r2_28 (rk (.int .i64 (.ofNat 1))) s2_29,iP1 bNil r2_25 s2_30,iP1 (bFa 1) r2_30 s2_31,iM2 bSt r2_31 r2_29]
def x148_4 : List (Ins tf2) := [iMv r2_0 s2_32,iMv r2_0 s2_33,iP1 bNil r2_33 s2_34,iP1 (bFa 8) r2_34 s2_35,iR1 bLd r2_35 s2_36,iMv r2_1 s2_37,iP1 bNil r2_37 s2_38,iGr (r1 (rLdn 9)) [r2_38] (some s2_39),iGa (aBsl 1 9 [(.pointer none),(.int .i64 (.ofNat 0)),(.slice none 0 0),(.int .u8 (.ofNat 0)),(.int .i64 (.ofNat 0)),(.slice none 0 0),(.slice none 0 0),(.slice none 0 0),(.slice none 0 0)] [(0,9)]) [r2_39] (some s2_40),iGm (m2 (sApp 9)) [r2_36,r2_40] (some s2_41),iP1 bNil r2_32 s2_42,iP1 (bFa 8) r2_42 s2_43,iM2 bSt r2_43 r2_41]
def x148_5 : List (Ins tf2) := [iAs (rk (.bool false)) s2_10]
def x148 : XC tf2 := (.rg x148_0 (.seq (.rg x148_1 (.cond r2_24 (.rg x148_2 .ret) .skip)) (.rg x148_3 (.rg x148_4 (.rg x148_5 .ret)))))
def c148 : Code := Tryd.f148.body.getD .skip
theorem x148_b : Tryd.f148.body = some c148 := by kernel_rfl
theorem x148_c : cG (comp Tryd.prog) 2 2 44 x148 c148 = x148.den := by kernel_rfl
def y148 : List (RR Tryd.prog 2 44 tf2) := [rrT r2_10 10 rfl rfl]
theorem x148_r : y148.map RR.den = Tryd.f148.results.toList := by kernel_rfl
theorem x148_k : okFn Tryd.f148 = true := by kernel_rfl
theorem x148_D : 2 = dep Tryd.f148.ntmps := by kernel_rfl
theorem x148_s : ([s2_0,s2_1,s2_2,s2_3,s2_4] : List (Slot tf2)).map Slot.p = (List.range' 0 5).map (pth 2) := by kernel_rfl
def X148 : XFn Tryd.prog 2 (comp Tryd.prog) := ⟨X2,tf2,148,Tryd.f148,c148,2,44,[s2_0,s2_1,s2_2,s2_3,s2_4],z2,x148,y148,x148_D,Tryd.ntmps148.symm,Tryd.func148,x148_b,x148_k,x148_s,by decide,z2_ok,x148_c,x148_r⟩
def x149_0 : List (Ins tf3) := [iAs (rk (.int .i64 (.ofNat 0))) s3_6,iAs (rk (.int .i64 (.ofNat 0))) s3_7]
def x149_1 : List (Ins tf3) := [iMv r3_0 s3_19,iGp (l2 (pEqD (tdOf 34) false)) [r3_19,(rk (.pointer none))] (some s3_20)]
def x149_2 : List (Ins tf3) := [iAs (rk (.int .i64 (.ofNat 0))) s3_6,iAs (rk (.int .i64 (.ofNat 1))) s3_7]
def x149_3 : List (Ins tf3) := [iMv r3_1 s3_22,iCall (rk (.func (.func 72) #[] #[])) [r3_22] (some s3_23),iMv r3_23 s3_21,iGp (l1 (pExt 0)) [r3_21] (some s3_24),iGp (l1 (pExt 1)) [r3_21] (some s3_25),iAs r3_24 s3_8,iAs r3_25 s3_9]
def x149_4 : List (Ins tf3) := [iMv r3_9 s3_26,iP2 bNe r3_26 (rk (.int .i64 (.ofNat 0))) s3_27,iMv r3_27 s3_28,iGd r3_28 [.o4,.o3,.o0] false (iMv r3_8 s3_29) (some s3_29) rfl rfl rfl,iGd r3_28 [.o4,.o3,.o0] false (iP2 bEq r3_29 (rk (.int .i64 (.ofNat 0))) s3_30) (some s3_30) rfl rfl rfl,iGp (l3 pPick) [r3_28,(rk (.bool true)),r3_30] (some s3_31),iMv r3_31 s3_32,iGd r3_32 [.o0,.o4,.o0] false (iMv r3_8 s3_33) (some s3_33) rfl rfl rfl,iGd r3_32 [.o0,.o4,.o0] false (iMv r3_2 s3_34) (some s3_34) rfl rfl rfl,iGd r3_32 [.o0,.o4,.o0] false (iP1 bLen r3_34 s3_35) (some s3_35) rfl rfl rfl,iGd r3_32 [.o0,.o4,.o0] false (iP2 bNe r3_33 r3_35 s3_36) (some s3_36) rfl rfl rfl,iGp (l3 pPick) [r3_32,(rk (.bool true)),r3_36] (some s3_37)]
def x149_5 : List (Ins tf3) := [iAs (rk (.int .i64 (.ofNat 0))) s3_6,iAs (rk (.int .i64 (.ofNat 2))) s3_7]
def x149_6 : List (Ins tf3) := [iMv r3_0 s3_38,iMv r3_1 s3_39,iMv r3_2 s3_40,iMv r3_2 s3_42,iP1 bLen r3_42 s3_43,iGa (a2 (gMks 1 8 [(.int .u64 (.ofNat 0))])) [r3_43,r3_43] (some s3_44),iMv r3_2 s3_45,iP1 bLen r3_45 s3_46,iGa (a2 (gMks 1 1 [(.bool false)])) [r3_46,r3_46] (some s3_47),iGm (m2 (sApp 1)) [(rk (.slice none 0 0)),r3_40] (some s3_41),iGp (pBld [(.pointer none),(.int .u8 (.ofNat 0)),(.slice none 0 0),(.slice none 0 0),(.slice none 0 0)] [(0,1),(1,1),(2,1),(3,1),(4,1)]) [r3_38,r3_39,r3_41,r3_44,r3_47] (some s3_48),iGa (a1 gBox) [r3_48] (some s3_49),iAs r3_49 s3_10]
def x149_7 : List (Ins tf3) := [iAs (rk (.bool true)) s3_11]
def x149_8 : List (Ins tf3) := [iMv r3_2 s3_50,iP1 bLen r3_50 s3_51,iMv (rk (.int .i64 (.ofNat 0))) s3_52]
def x149_9 : List (Ins tf3) := [iP2 bLt r3_52 r3_51 s3_53]
def x149_10 : List (Ins tf3) := [iMv r3_52 s3_54,iP2 (bIxs 1) r3_50 r3_52 s3_55,iR1 bLd r3_55 s3_56,iAs r3_54 s3_12,iAs r3_56 s3_13]
def x149_11 : List (Ins tf3) := [iMv r3_13 s3_57,iP2 bLt r3_57 (rk (.int .i64 (.ofNat 0))) s3_58,iMv r3_58 s3_59,iGd r3_59 [.o3,.o7,.o0] false (iMv r3_13 s3_60) (some s3_60) rfl rfl rfl,iGd r3_59 [.o3,.o7,.o0] false (iMv r3_0 s3_61) (some s3_61) rfl rfl rfl,iGd r3_59 [.o3,.o7,.o0] false (iCall (rk (.func (.func 74) #[] #[])) [r3_61] (some s3_62)) (some s3_62) rfl rfl rfl,iGd r3_59 [.o3,.o7,.o0] false (iP2 bGe r3_60 r3_62 s3_63) (some s3_63) rfl rfl rfl,iGp (l3 pPick) [r3_59,(rk (.bool true)),r3_63] (some s3_64)]
def x149_12 : List (Ins tf3) := [iAs (rk (.int .i64 (.ofNat 0))) s3_6,iAs (rk (.int .i64 (.ofNat 3))) s3_7]
def x149_13 : List (Ins tf3) := [iMv r3_10 s3_66,iP1 bNil r3_66 s3_67,iP1 (bFa 3) r3_67 s3_68,iR1 bLd r3_68 s3_69,iMv r3_12 s3_70,iMv r3_10 s3_71,iP1 bNil r3_71 s3_72,iP1 (bFa 4) r3_72 s3_73,iR1 bLd r3_73 s3_74,iMv r3_12 s3_75,iMv r3_0 s3_76,iMv r3_13 s3_77,iRc (iCall (rk (.func (.func 159) #[] #[])) [r3_76,r3_77] (some s3_78)) [(rcLd r3_73 r3_74 [.o2,.o1,.o1] rfl),(rcLd r3_68 r3_69 [.o5,.o0,.o1] rfl)] rfl,iMv r3_78 s3_65,iGp (l1 (pExt 0)) [r3_65] (some s3_79),iGp (l1 (pExt 1)) [r3_65] (some s3_80),iP2 (bIxs 1) r3_69 r3_70 s3_81,iM2 bSt r3_81 r3_79,iP2 (bIxs 1) r3_74 r3_75 s3_82,iM2 bSt r3_82 r3_80]
def x149_14 : List (Ins tf3) := [iMv r3_11 s3_83,iMv r3_83 s3_84,iGd r3_84 [.o4,.o2,.o1] true (iMv r3_10 s3_85) (some s3_85) rfl rfl rfl,iGd r3_84 [.o4,.o2,.o1] true (iP1 bNil r3_85 s3_86) (some s3_86) rfl rfl rfl,iGd r3_84 [.o4,.o2,.o1] true (iP1 (bFa 4) r3_86 s3_87) (some s3_87) rfl rfl rfl,iGd r3_84 [.o4,.o2,.o1] true (iR1 bLd r3_87 s3_88) (some s3_88) rfl rfl rfl,iGd r3_84 [.o4,.o2,.o1] true (iMv r3_12 s3_89) (some s3_89) rfl rfl rfl,iGd r3_84 [.o4,.o2,.o1] true (iP2 (bIxs 1) r3_88 r3_89 s3_90) (some s3_90) rfl rfl rfl,iGd r3_84 [.o4,.o2,.o1] true (iR1 bLd r3_90 s3_91) (some s3_91) rfl rfl rfl,iGp (l3 pPick) [r3_84,r3_91,(rk (.bool false))] (some s3_92),iAs r3_92 s3_11]
def x149_15 : List (Ins tf3) := [iP2 bAdd r3_52 (rk (.int .i64 (.ofNat 1))) s3_93,iMv r3_93 s3_52]
def x149_16 : List (Ins tf3) := [iMv r3_11 s3_94]
def x149_17 : List (Ins tf3) := [iMv r3_1 s3_96,iMv r3_0 s3_97,iMv r3_10 s3_99,iP1 bNil r3_99 s3_100,iP1 (bFa 3) r3_100 s3_101,iR1 bLd r3_101 s3_102,iRc (iCall (rk (.func (.func 41) #[] #[])) [r3_97] (some s3_98)) [(rcLd r3_101 r3_102 [.o6,.o4,.o1] rfl)] rfl,iCall (rk (.func (.func 77) #[] #[])) [r3_96,r3_98,r3_102] (some s3_103),iMv r3_103 s3_95,iGp (l1 (pExt 0)) [r3_95] (some s3_104),iGp (l1 (pExt 1)) [r3_95] (some s3_105),iAs r3_104 s3_14,iAs r3_105 s3_15]
def x149_18 : List (Ins tf3) := [iMv r3_0 s3_106,iMv r3_14 s3_107,iCall (rk (.func (.func 50) #[] #[])) [r3_106,r3_107] (some s3_108),iGp (l1 (pExt 0)) [r3_108] (some s3_109),iGp (l1 (pExt 1)) [r3_108] (some s3_110),iAs r3_109 s3_6,iAs r3_110 s3_7]
def x149_19 : List (Ins tf3) := [iMv r3_1 s3_111,iCall (rk (.func (.func 160) #[] #[])) [r3_111] (some s3_112),iMv r3_112 s3_113,iGd r3_113 [.o1,.o6,.o1] true (iMv r3_10 s3_114) (some s3_114) rfl rfl rfl,iGd r3_113 [.o1,.o6,.o1] true (iP1 bNil r3_114 s3_115) (some s3_115) rfl rfl rfl,iGd r3_113 [.o1,.o6,.o1] true (iP1 (bFa 4) r3_115 s3_116) (some s3_116) rfl rfl rfl,iGd r3_113 [.o1,.o6,.o1] true (iR1 bLd r3_116 s3_117) (some s3_117) rfl rfl rfl,iGd r3_113 [.o1,.o6,.o1] true (iP2 (bIxs 1) r3_117 (rk (.int .i64 (.ofNat 0))) s3_118) (some s3_118) rfl rfl rfl,iGd r3_113 [.o1,.o6,.o1] true (iR1 bLd r3_118 s3_119) (some s3_119) rfl rfl rfl,iGd r3_113 [.o1,.o6,.o1] true (iMv r3_119 s3_120) (some s3_120) rfl rfl rfl,iGd r3_120 [.o0,.o7,.o1] false (iMv r3_10 s3_121) (some s3_121) rfl rfl rfl,iGd r3_120 [.o0,.o7,.o1] false (iP1 bNil r3_121 s3_122) (some s3_122) rfl rfl rfl,iGd r3_120 [.o0,.o7,.o1] false (iP1 (bFa 4) r3_122 s3_123) (some s3_123) rfl rfl rfl,iGd r3_120 [.o0,.o7,.o1] false (iR1 bLd r3_123 s3_124) (some s3_124) rfl rfl rfl,iGd r3_120 [.o0,.o7,.o1] false (iP2 (bIxs 1) r3_124 (rk (.int .i64 (.ofNat 1))) s3_125) (some s3_125) rfl rfl rfl,iGd r3_120 [.o0,.o7,.o1] false (iR1 bLd r3_125 s3_126) (some s3_126) rfl rfl rfl,iGd r3_120 [.o0,.o7,.o1] false (iGp (l1 (pUn .not)) [r3_126] (some s3_127)) (some s3_127) rfl rfl rfl,iGd r3_120 [.o0,.o7,.o1] false (iMv r3_127 s3_128) (some s3_128) rfl rfl rfl,iGd r3_128 [.o0,.o0,.o2] true (iMv r3_10 s3_129) (some s3_129) rfl rfl rfl,iGd r3_128 [.o0,.o0,.o2] true (iP1 bNil r3_129 s3_130) (some s3_130) rfl rfl rfl,iGd r3_128 [.o0,.o0,.o2] true (iP1 (bFa 2) r3_130 s3_131) (some s3_131) rfl rfl rfl,iGd r3_128 [.o0,.o0,.o2] true (iR1 bLd r3_131 s3_132) (some s3_132) rfl rfl rfl,iGd r3_128 [.o0,.o0,.o2] true (iP2 (bIxs 1) r3_132 (rk (.int .i64 (.ofNat 0))) s3_133) (some s3_133) rfl rfl rfl,iGd r3_128 [.o0,.o0,.o2] true (iR1 bLd r3_133 s3_134) (some s3_134) rfl rfl rfl,iGd r3_128 [.o0,.o0,.o2] true (iMv r3_10 s3_135) (some s3_135) rfl rfl rfl,iGd r3_128 [.o0,.o0,.o2] true (iP1 bNil r3_135 s3_136) (some s3_136) rfl rfl rfl,iGd r3_128 [.o0,.o0,.o2] true (iP1 (bFa 2) r3_136 s3_137) (some s3_137) rfl rfl rfl,iGd r3_128 [.o0,.o0,.o2] true (iR1 bLd r3_137 s3_138) (some s3_138) rfl rfl rfl,iGd r3_128 [.o0,.o0,.o2] true (iP2 (bIxs 1) r3_138 (rk (.int .i64 (.ofNat 1))) s3_139) (some s3_139) rfl rfl rfl,iGd r3_128 [.o0,.o0,.o2] true (iR1 bLd r3_139 s3_140) (some s3_140) rfl rfl rfl,iGd r3_128 [.o0,.o0,.o2] true (iP2 bGt r3_134 r3_140 s3_141) (some s3_141) rfl rfl rfl,iGd r3_120 [.o0,.o7,.o1] false (iGp (l3 pPick) [r3_128,r3_141,(rk (.bool false))] (some s3_142)) (some s3_142) rfl rfl rfl,iGd r3_113 [.o1,.o6,.o1] true (iGp (l3 pPick) [r3_120,(rk (.bool true)),r3_142] (some s3_143)) (some s3_143) rfl rfl rfl,iGp (l3 pPick) [r3_113,r3_143,(rk (.bool false))] (some s3_144)]
def x149_20 : List (Ins tf3) := [iMv r3_10 s3_145,iP1 bNil r3_145 s3_146,iP1 (bFa 2) r3_146 s3_147,iR1 bLd r3_147 s3_148,iMv r3_10 s3_149,iP1 bNil r3_149 s3_150,iP1 (bFa 2) r3_150 s3_151,iR1 bLd r3_151 s3_152,iMv r3_10 s3_153,iP1 bNil r3_153 s3_154,iP1 (bFa 2) r3_154 s3_155,iR1 bLd r3_155 s3_156,iP2 (bIxs 1) r3_156 (rk (.int .i64 (.ofNat 1))) s3_157,iR1 bLd r3_157 s3_158,iMv r3_10 s3_159,iP1 bNil r3_159 s3_160,iP1 (bFa 2) r3_160 s3_161,iR1 bLd r3_161 s3_162,iP2 (bIxs 1) r3_162 (rk (.int .i64 (.ofNat 0))) s3_163,iR1 bLd r3_163 s3_164,iP2 (bIxs 1) r3_148 (rk (.int .i64 (.ofNat 0))) s3_165,iM2 bSt r3_165 r3_158,iP2 (bIxs 1) r3_152 (rk (.int .i64 (.ofNat 1))) s3_166,iM2 bSt r3_166 r3_164]
def x149_21 : List (Ins tf3) := [iMv r3_10 s3_167,iP1 bNil r3_167 s3_168,iP1 (bFa 3) r3_168 s3_169,iR1 bLd r3_169 s3_170,iMv r3_10 s3_171,iP1 bNil r3_171 s3_172,iP1 (bFa 3) r3_172 s3_173,iR1 bLd r3_173 s3_174,iMv r3_10 s3_175,iP1 bNil r3_175 s3_176,iP1 (bFa 3) r3_176 s3_177,iR1 bLd r3_177 s3_178,iP2 (bIxs 1) r3_178 (rk (.int .i64 (.ofNat 1))) s3_179,iR1 bLd r3_179 s3_180,iMv r3_10 s3_181,iP1 bNil r3_181 s3_182,iP1 (bFa 3) r3_182 s3_183,iR1 bLd r3_183 s3_184,iP2 (bIxs 1) r3_184 (rk (.int .i64 (.ofNat 0))) s3_185,iR1 bLd r3_185 s3_186,iP2 (bIxs 1) r3_170 (rk (.int .i64 (.ofNat 0))) s3_187,iM2 bSt r3_187 r3_180,iP2 (bIxs 1) r3_174 (rk (.int .i64 (.ofNat 1))) s3_188,iM2 bSt r3_188 r3_186]
def x149_22 : List (Ins tf3) := [iMv r3_10 s3_189,iP1 bNil r3_189 s3_190,iP1 (bFa 4) r3_190 s3_191,iR1 bLd r3_191 s3_192,iMv r3_10 s3_193,iP1 bNil r3_193 s3_194,iP1 (bFa 4) r3_194 s3_195,iR1 bLd r3_195 s3_196,iMv r3_10 s3_197,iP1 bNil r3_197 s3_198,iP1 (bFa 4) r3_198 s3_199,iR1 bLd r3_199 s3_200,iP2 (bIxs 1) r3_200 (rk (.int .i64 (.ofNat 1))) s3_201,iR1 bLd r3_201 s3_202,iMv r3_10 s3_203,iP1 bNil r3_203 s3_204,iP1 (bFa 4) r3_204 s3_205,iR1 bLd r3_205 s3_206,iP2 (bIxs 1) r3_206 (rk (.int .i64 (.ofNat 0))) s3_207,iR1 bLd r3_207 s3_208,iP2 (bIxs 1) r3_192 (rk (.int .i64 (.ofNat 0))) s3_209,iM2 bSt r3_209 r3_202,iP2 (bIxs 1) r3_196 (rk (.int .i64 (.ofNat 1))) s3_210,iM2 bSt r3_210 r3_208]
def x149_23 : List (Ins tf3) := [iMv r3_1 s3_211,iCall (rk (.func (.func 161) #[] #[])) [r3_211] (some s3_212),iP1 bLen r3_212 s3_213,iMv (rk (.int .i64 (.ofNat 0))) s3_214]
def x149_24 : List (Ins tf3) := [iP2 bLt r3_214 r3_213 s3_215]
def x149_25 : List (Ins tf3) := [iP2 (bIxs 1) r3_212 r3_214 s3_216,iR1 bLd r3_216 s3_217,iAs r3_217 s3_17]
def x149_26 : List (Ins tf3) := [iMv r3_17 s3_218,iMv r3_10 s3_219,iCall r3_218 [r3_219] (some s3_220),iGa (aAl 3 [(.int .u8 (.ofNat 0)),(.int .i64 (.ofNat 0)),(.int .u64 (.ofNat 0))]) [] (some s3_18),iGm (m2 (sStn 3)) [r3_18,r3_220] none]
def x149_27 : List (Ins tf3) := [iP1 (bFa 0) r3_18 s3_221,iR1 bLd r3_221 s3_222]
def x149_28 : List (Ins tf3) := [iP2 bEq r3_222 (rk (.int .u8 (.ofNat 1))) s3_224,iAs r3_224 s3_223]
def x149_29 : List (Ins tf3) := [iP1 (bFa 1) r3_18 s3_225,iR1 bLd r3_225 s3_226,iAs r3_226 s3_6,iAs (rk (.int .i64 (.ofNat 0))) s3_7]
def x149_30 : List (Ins tf3) := [iP2 bEq r3_222 (rk (.int .u8 (.ofNat 2))) s3_228,iAs r3_228 s3_227]
def x149_31 : List (Ins tf3) := [iMv r3_0 s3_229,iP1 (bFa 2) r3_18 s3_230,iR1 bLd r3_230 s3_231,iCall (rk (.func (.func 50) #[] #[])) [r3_229,r3_231] (some s3_232),iGp (l1 (pExt 0)) [r3_232] (some s3_233),iGp (l1 (pExt 1)) [r3_232] (some s3_234),iAs r3_233 s3_6,iAs r3_234 s3_7]
def x149_32 : List (Ins tf3) := [iP2 bEq r3_222 (rk (.int .u8 (.ofNat 3))) s3_236,iAs r3_236 s3_235]
def x149_33 : List (Ins tf3) := [iMv r3_0 s3_237,iP1 (bFa 1) r3_18 s3_238,iR1 bLd r3_238 s3_239,iGa (aBsl 1 1 [(.int .i64 (.ofNat 0))] [(0,1)]) [r3_239] (some s3_240),iCall (rk (.func (.func 149) #[] #[])) [r3_237,(rk (.int .u8 (.ofNat 2))),r3_240] (some s3_241),iGp (l1 (pExt 0)) [r3_241] (some s3_242),iGp (l1 (pExt 1)) [r3_241] (some s3_243),iAs r3_242 s3_6,iAs r3_243 s3_7]
def x149_34 : List (Ins tf3) := [iP2 bAdd r3_214 (rk (.int .i64 (.ofNat 1))) s3_244,iMv r3_244 s3_214]
def x149_35 : List (Ins tf3) := [iMv r3_0 s3_245,iMv r3_1 s3_246,iMv r3_10 s3_247,iP1 bNil r3_247 s3_248,iP1 (bFa 2) r3_248 s3_249,iR1 bLd r3_249 s3_250,iCall (rk (.func (.func 54) #[] #[])) [r3_245,r3_246,r3_250] (some s3_251),iGp (l1 (pExt 0)) [r3_251] (some s3_252),iGp (l1 (pExt 1)) [r3_251] (some s3_253),iAs r3_252 s3_6,iAs r3_253 s3_7]
def x149_36 : XC tf3 := (.seq (.rg x149_19 (.cond r3_144 (.rg x149_20 (.rg x149_21 (.reg x149_22))) .skip)) (.seq (.rg x149_23 (.block 2 (.loop (.rg x149_24 (.seq (.cond r3_215 .skip (.exit 2)) (.seq (.block 3 (.rg x149_25 (.rg x149_26 (.rg x149_27 (.block 4 (.rg x149_28 (.cond r3_223 (.rg x149_29 .ret) (.rg x149_30 (.cond r3_227 (.rg x149_31 .ret) (.rg x149_32 (.cond r3_235 (.rg x149_33 .ret) .skip))))))))))) (.reg x149_34))))))) (.rg x149_35 .ret)))
def x149_37 : XC tf3 := (.seq (.rg x149_3 (.rg x149_4 (.cond r3_37 (.rg x149_5 .ret) .skip))) (.rg x149_6 (.rg x149_7 (.seq (.rg x149_8 (.block 0 (.loop (.rg x149_9 (.seq (.cond r3_53 .skip (.exit 0)) (.seq (.block 1 (.rg x149_10 (.seq (.rg x149_11 (.cond r3_64 (.rg x149_12 .ret) .skip)) (.rg x149_13 (.reg x149_14))))) (.reg x149_15))))))) (.seq (.rg x149_16 (.cond r3_94 (.rg x149_17 (.rg x149_18 .ret)) .skip)) x149_36)))))
def x149 : XC tf3 := (.rg x149_0 (.seq (.rg x149_1 (.cond r3_20 (.rg x149_2 .ret) .skip)) x149_37))
def c149 : Code := Tryd.f149.body.getD .skip
theorem x149_b : Tryd.f149.body = some c149 := by kernel_rfl
theorem x149_c : cG (comp Tryd.prog) 2 3 254 x149 c149 = x149.den := by kernel_rfl
def y149 : List (RR Tryd.prog 3 254 tf3) := [rrT r3_6 6 rfl rfl,rrT r3_7 7 rfl rfl]
theorem x149_r : y149.map RR.den = Tryd.f149.results.toList := by kernel_rfl
theorem x149_k : okFn Tryd.f149 = true := by kernel_rfl
theorem x149_D : 3 = dep Tryd.f149.ntmps := by kernel_rfl
theorem x149_s : ([s3_0,s3_1,s3_2] : List (Slot tf3)).map Slot.p = (List.range' 0 3).map (pth 3) := by kernel_rfl
def X149 : XFn Tryd.prog 2 (comp Tryd.prog) := ⟨X3,tf3,149,Tryd.f149,c149,3,254,[s3_0,s3_1,s3_2],z3,x149,y149,x149_D,Tryd.ntmps149.symm,Tryd.func149,x149_b,x149_k,x149_s,by decide,z3_ok,x149_c,x149_r⟩
def x153_0 : List (Ins tf2) := [iAs (rk (.int .i64 (.ofNat 0))) s2_6]
def x153_1 : List (Ins tf2) := [iMv r2_0 s2_7,iGp (l2 (pEqD (tdOf 96) false)) [r2_7,(rk (.pointer none))] (some s2_8)]
def x153_2 : List (Ins tf2) := [iAs (rk (.int .i64 (.ofNat 1))) s2_6]
def x153_3 : List (Ins tf2) := [iMv r2_1 s2_9,iP2 bLt r2_9 (rk (.int .i64 (.ofNat 0))) s2_10,iMv r2_10 s2_11,iGd r2_11 [.o3,.o1] false (iMv r2_1 s2_12) (some s2_12) rfl rfl rfl,iGd r2_11 [.o3,.o1] false (iMv r2_0 s2_13) (some s2_13) rfl rfl rfl,iGd r2_11 [.o3,.o1] false (iP1 bNil r2_13 s2_14) (some s2_14) rfl rfl rfl,iGd r2_11 [.o3,.o1] false (iP1 (bFa 1) r2_14 s2_15) (some s2_15) rfl rfl rfl,iGd r2_11 [.o3,.o1] false (iR1 bLd r2_15 s2_16) (some s2_16) rfl rfl rfl,iGd r2_11 [.o3,.o1] false (iP1 bLen r2_16 s2_17) (some s2_17) rfl rfl rfl,iGd r2_11 [.o3,.o1] false (iP2 bGe r2_12 r2_17 s2_18) (some s2_18) rfl rfl rfl,iGp (l3 pPick) [r2_11,(rk (.bool true)),r2_18] (some s2_19),iMv r2_19 s2_20,iGd r2_20 [.o4,.o2] false (iMv r2_0 s2_21) (some s2_21) rfl rfl rfl,iGd r2_20 [.o4,.o2] false (iMv r2_2 s2_22) (some s2_22) rfl rfl rfl,iGd r2_20 [.o4,.o2] false (iCall (rk (.func (.func 134) #[] #[])) [r2_21,r2_22] (some s2_23)) (some s2_23) rfl rfl rfl,iGd r2_20 [.o4,.o2] false (iGp (l1 (pUn .not)) [r2_23] (some s2_24)) (some s2_24) rfl rfl rfl,iGp (l3 pPick) [r2_20,(rk (.bool true)),r2_24] (some s2_25)]
def x153_4 : List (Ins tf2) := [iAs (rk (.int .i64 (.ofNat 3))) s2_6]
def x153_5 : List (Ins tf2) := [iMv r2_0 s2_26,iP1 bNil r2_26 s2_27,iP1 (bFa 1) r2_27 s2_28,iR1 bLd r2_28 s2_29,iMv r2_1 s2_30,iMv r2_2 s2_31,iP2 (bIxs 1) r2_29 r2_30 s2_32,iM2 bSt r2_32 r2_31]
def x153_6 : List (Ins tf2) := [iAs (rk (.int .i64 (.ofNat 0))) s2_6]
def x153 : XC tf2 := (.rg x153_0 (.seq (.rg x153_1 (.cond r2_8 (.rg x153_2 .ret) .skip)) (.seq (.rg x153_3 (.cond r2_25 (.rg x153_4 .ret) .skip)) (.rg x153_5 (.rg x153_6 .ret)))))
def c153 : Code := Tryd.f153.body.getD .skip
theorem x153_b : Tryd.f153.body = some c153 := by kernel_rfl
theorem x153_c : cG (comp Tryd.prog) 2 2 33 x153 c153 = x153.den := by kernel_rfl
def y153 : List (RR Tryd.prog 2 33 tf2) := [rrT r2_6 6 rfl rfl]
theorem x153_r : y153.map RR.den = Tryd.f153.results.toList := by kernel_rfl
theorem x153_k : okFn Tryd.f153 = true := by kernel_rfl
theorem x153_D : 2 = dep Tryd.f153.ntmps := by kernel_rfl
theorem x153_s : ([s2_0,s2_1,s2_2] : List (Slot tf2)).map Slot.p = (List.range' 0 3).map (pth 2) := by kernel_rfl
def X153 : XFn Tryd.prog 2 (comp Tryd.prog) := ⟨X2,tf2,153,Tryd.f153,c153,2,33,[s2_0,s2_1,s2_2],z2,x153,y153,x153_D,Tryd.ntmps153.symm,Tryd.func153,x153_b,x153_k,x153_s,by decide,z2_ok,x153_c,x153_r⟩
def x156_0 : List (Ins tf3) := [iGa (a1 gBox) [r3_0] (some s3_5),iGa (a1 gBox) [r3_1] (some s3_6)]
def x156_1 : List (Ins tf3) := [iR1 bLd r3_5 s3_17,iP1 bNil r3_17 s3_18,iP1 (bFa 0) r3_18 s3_19,iR1 bLd r3_19 s3_20,iCall (rk (.func (.func 50) #[] #[])) [r3_20,(rk (.int .u64 (.ofNat 0)))] (some s3_21),iMv r3_21 s3_16,iGp (l1 (pExt 0)) [r3_16] (some s3_22),iGp (l1 (pExt 1)) [r3_16] (some s3_23),iAs r3_22 s3_10,iAs r3_23 s3_11]
def x156_2 : List (Ins tf3) := [iR1 bLd r3_5 s3_24,iMv r3_11 s3_25,iCall (rk (.func (.func 43) #[] #[])) [r3_24,r3_25] (some s3_26)]
def x156_3 : List (Ins tf3) := [iR1 bLd r3_5 s3_28,iP1 bNil r3_28 s3_29,iP1 (bFa 0) r3_29 s3_30,iR1 bLd r3_30 s3_31,iMv r3_2 s3_32,iMv r3_10 s3_33,iGa (aBsl 2 1 [(.int .i64 (.ofNat 0))] [(0,1),(1,1)]) [r3_32,r3_33] (some s3_34),iCall (rk (.func (.func 149) #[] #[])) [r3_31,(rk (.int .u8 (.ofNat 15))),r3_34] (some s3_35),iMv r3_35 s3_27,iGp (l1 (pExt 0)) [r3_27] (some s3_36),iGp (l1 (pExt 1)) [r3_27] (some s3_37),iAs r3_36 s3_12,iAs r3_37 s3_11]
def x156_4 : List (Ins tf3) := [iR1 bLd r3_5 s3_38,iMv r3_11 s3_39,iCall (rk (.func (.func 43) #[] #[])) [r3_38,r3_39] (some s3_40)]
def x156_5 : List (Ins tf3) := [iR1 bLd r3_5 s3_41,iGr (r1 (rLdn 9)) [r3_6] (some s3_42),iMv r3_2 s3_43,iCall (rk (.func (.func 168) #[] #[])) [r3_41,r3_42,r3_43] (some s3_44),iAs r3_44 s3_13]
def x156_6 : List (Ins tf3) := [iR1 bLd r3_5 s3_45,iP1 bNil r3_45 s3_46,iP1 (bFa 9) r3_46 s3_47,iR1 bLd r3_47 s3_48,iP2 bNe r3_48 (rk (.int .u8 (.ofNat 0))) s3_49]
def x156_7 : List (Ins tf3) := [iMv r3_13 s3_50,iGp (l1 (pUn .not)) [r3_50] (some s3_51),iAs r3_51 s3_14]
def x156_8 : List (Ins tf3) := [iMv r3_13 s3_52]
def x156_9 : List (Ins tf3) := [iR1 bLd r3_5 s3_53,iGr (r1 (rLdn 9)) [r3_6] (some s3_54),iMv r3_12 s3_55,iCall (rk (.func (.func 168) #[] #[])) [r3_53,r3_54,r3_55] (some s3_56),iAs r3_56 s3_14]
def x156_10 : List (Ins tf3) := [iR1 bLd r3_5 s3_57,iP1 bNil r3_57 s3_58,iP1 (bFa 9) r3_58 s3_59,iR1 bLd r3_59 s3_60,iP2 bNe r3_60 (rk (.int .u8 (.ofNat 0))) s3_61]
def x156_11 : List (Ins tf3) := [iGp (pMkf (.func 169) 0) [r3_6,r3_5] (some s3_62),iAs r3_62 s3_15]
def x156_12 : List (Ins tf3) := [iMv r3_14 s3_63]
def x156_13 : List (Ins tf3) := [iMv r3_15 s3_64,iMv r3_12 s3_65,iMv r3_4 s3_66,iCall r3_64 [r3_65,r3_66] (some s3_67)]
def x156_14 : List (Ins tf3) := [iMv r3_13 s3_68]
def x156_15 : List (Ins tf3) := [iMv r3_15 s3_69,iMv r3_2 s3_70,iMv r3_3 s3_71,iCall r3_69 [r3_70,r3_71] (some s3_72)]
def x156_16 : XC tf3 := (.rg x156_1 (.seq (.rg x156_2 (.cond r3_26 .ret .skip)) (.rg x156_3 (.seq (.rg x156_4 (.cond r3_40 .ret .skip)) (.rg x156_5 (.seq (.rg x156_6 (.cond r3_49 .ret .skip)) (.rg x156_7 (.seq (.rg x156_8 (.cond r3_52 (.reg x156_9) .skip)) (.seq (.rg x156_10 (.cond r3_61 .ret .skip)) (.rg x156_11 (.seq (.rg x156_12 (.cond r3_63 (.reg x156_13) .skip)) (.rg x156_14 (.cond r3_68 (.reg x156_15) .skip)))))))))))))
def x156 : XC tf3 := (.rg x156_0 x156_16)
def c156 : Code := Tryd.f156.body.getD .skip
theorem x156_b : Tryd.f156.body = some c156 := by kernel_rfl
theorem x156_c : cG (comp Tryd.prog) 2 3 73 x156 c156 = x156.den := by kernel_rfl
def y156 : List (RR Tryd.prog 3 73 tf3) := []
theorem x156_r : y156.map RR.den = Tryd.f156.results.toList := by kernel_rfl
theorem x156_k : okFn Tryd.f156 = true := by kernel_rfl
theorem x156_D : 3 = dep Tryd.f156.ntmps := by kernel_rfl
theorem x156_s : ([s3_0,s3_1,s3_2,s3_3,s3_4] : List (Slot tf3)).map Slot.p = (List.range' 0 5).map (pth 3) := by kernel_rfl
def X156 : XFn Tryd.prog 2 (comp Tryd.prog) := ⟨X3,tf3,156,Tryd.f156,c156,3,73,[s3_0,s3_1,s3_2,s3_3,s3_4],z3,x156,y156,x156_D,Tryd.ntmps156.symm,Tryd.func156,x156_b,x156_k,x156_s,by decide,z3_ok,x156_c,x156_r⟩
def x157_0 : List (Ins tf2) := [iMv r2_0 s2_2,iMv r2_0 s2_3,iP1 bNil r2_3 s2_4,iP1 (bFa 2) r2_4 s2_5,iP1 (bFa 5) r2_5 s2_6,iR1 bLd r2_6 s2_7,iGa (aBsl 1 1 [(.bool false)] [(0,1)]) [(rk (.bool false))] (some s2_8),iGm (m2 (sApp 1)) [r2_7,r2_8] (some s2_9),iP1 bNil r2_2 s2_10,iP1 (bFa 2) r2_10 s2_11,iP1 (bFa 5) r2_11 s2_12,iM2 bSt r2_12 r2_9]
def x157_1 : List (Ins tf2) := [iMv r2_0 s2_13,iP1 bNil r2_13 s2_14,iP1 (bFa 1) r2_14 s2_15,iR1 bLd r2_15 s2_16,iP2 bAdd r2_16 (rk (.int .i64 (.ofNat 1))) s2_17,iP1 bNil r2_13 s2_18,iP1 (bFa 1) r2_18 s2_19,iM2 bSt r2_19 r2_17]
def x157 : XC tf2 := (.rg x157_0 (.reg x157_1))
def c157 : Code := Tryd.f157.body.getD .skip
theorem x157_b : Tryd.f157.body = some c157 := by kernel_rfl
theorem x157_c : cG (comp Tryd.prog) 2 2 20 x157 c157 = x157.den := by kernel_rfl
def y157 : List (RR Tryd.prog 2 20 tf2) := []
theorem x157_r : y157.map RR.den = Tryd.f157.results.toList := by kernel_rfl
theorem x157_k : okFn Tryd.f157 = true := by kernel_rfl
theorem x157_D : 2 = dep Tryd.f157.ntmps := by kernel_rfl
theorem x157_s : ([s2_0] : List (Slot tf2)).map Slot.p = (List.range' 0 1).map (pth 2) := by kernel_rfl
def X157 : XFn Tryd.prog 2 (comp Tryd.prog) := ⟨X2,tf2,157,Tryd.f157,c157,2,20,[s2_0],z2,x157,y157,x157_D,Tryd.ntmps157.symm,Tryd.func157,x157_b,x157_k,x157_s,by decide,z2_ok,x157_c,x157_r⟩
def x158_0 : List (Ins tf2) := [iMv r2_0 s2_3,iMv r2_0 s2_4,iP1 bNil r2_4 s2_5,iP1 (bFa 2) r2_5 s2_6,iP1 (bFa 5) r2_6 s2_7,iR1 bLd r2_7 s2_8,iGa (aBsl 1 1 [(.bool false)] [(0,1)]) [(rk (.bool true))] (some s2_9),iGm (m2 (sApp 1)) [r2_8,r2_9] (some s2_10),iP1 bNil r2_3 s2_11,iP1 (bFa 2) r2_11 s2_12,iP1 (bFa 5) r2_12 s2_13,iM2 bSt r2_13 r2_10]
def x158_1 : List (Ins tf2) := [iMv r2_0 s2_14,iP1 (bFa 3) r2_1 s2_15,iR1 bLd r2_15 s2_16,iP1 bNil r2_14 s2_17,iP1 (bFa 1) r2_17 s2_18,iM2 bSt r2_18 r2_16]
def x158 : XC tf2 := (.rg x158_0 (.reg x158_1))
def c158 : Code := Tryd.f158.body.getD .skip
theorem x158_b : Tryd.f158.body = some c158 := by kernel_rfl
theorem x158_c : cG (comp Tryd.prog) 2 2 19 x158 c158 = x158.den := by kernel_rfl
def y158 : List (RR Tryd.prog 2 19 tf2) := []
theorem x158_r : y158.map RR.den = Tryd.f158.results.toList := by kernel_rfl
theorem x158_k : okFn Tryd.f158 = true := by kernel_rfl
theorem x158_D : 2 = dep Tryd.f158.ntmps := by kernel_rfl
theorem x158_s : ([s2_0,s2_1] : List (Slot tf2)).map Slot.p = (List.range' 0 2).map (pth 2) := by kernel_rfl
def X158 : XFn Tryd.prog 2 (comp Tryd.prog) := ⟨X2,tf2,158,Tryd.f158,c158,2,19,[s2_0,s2_1],z2,x158,y158,x158_D,Tryd.ntmps158.symm,Tryd.func158,x158_b,x158_k,x158_s,by decide,z2_ok,x158_c,x158_r⟩
def x159_0 : List (Ins tf2) := [iAs (rk (.int .u64 (.ofNat 0))) s2_4,iAs (rk (.bool false)) s2_5]
def x159_1 : List (Ins tf2) := [iMv r2_0 s2_9,iMv r2_1 s2_10,iCall (rk (.func (.func 75) #[] #[])) [r2_9,r2_10] (some s2_11),iMv r2_11 s2_8,iGp (l1 (pExt 0)) [r2_8] (some s2_12),iGp (l1 (pExt 1)) [r2_8] (some s2_13),iGa (aAl 3 [(.int .u8 (.ofNat 0)),(.int .u64 (.ofNat 0)),(.slice none 0 0)]) [] (some s2_6),iGm (m2 (sStn 3)) [r2_6,r2_12] none,iAs r2_13 s2_7]
def x159_2 : List (Ins tf2) := [iMv r2_7 s2_14,iP2 bNe r2_14 (rk (.int .i64 (.ofNat 0))) s2_15,iMv r2_15 s2_16,iGd r2_16 [.o0,.o2] false (iP1 (bFa 0) r2_6 s2_17) (some s2_17) rfl rfl rfl,iGd r2_16 [.o0,.o2] false (iR1 bLd r2_17 s2_18) (some s2_18) rfl rfl rfl,iGd r2_16 [.o0,.o2] false (iP2 bNe r2_18 (rk (.int .u8 (.ofNat 0))) s2_19) (some s2_19) rfl rfl rfl,iGp (l3 pPick) [r2_16,(rk (.bool true)),r2_19] (some s2_20)]
def x159_3 : List (Ins tf2) := [iAs (rk (.int .u64 (.ofNat 0))) s2_4,iAs (rk (.bool false)) s2_5]
def x159_4 : List (Ins tf2) := [iP1 (bFa 1) r2_6 s2_21,iR1 bLd r2_21 s2_22,iAs r2_22 s2_4,iAs (rk (.bool true)) s2_5]
def x159 : XC tf2 := (.rg x159_0 (.rg x159_1 (.seq (.rg x159_2 (.cond r2_20 (.rg x159_3 .ret) .skip)) (.rg x159_4 .ret))))
def c159 : Code := Tryd.f159.body.getD .skip
theorem x159_b : Tryd.f159.body = some c159 := by kernel_rfl
theorem x159_c : cG (comp Tryd.prog) 2 2 23 x159 c159 = x159.den := by kernel_rfl
def y159 : List (RR Tryd.prog 2 23 tf2) := [rrT r2_4 4 rfl rfl,rrT r2_5 5 rfl rfl]
theorem x159_r : y159.map RR.den = Tryd.f159.results.toList := by kernel_rfl
theorem x159_k : okFn Tryd.f159 = true := by kernel_rfl
theorem x159_D : 2 = dep Tryd.f159.ntmps := by kernel_rfl
theorem x159_s : ([s2_0,s2_1] : List (Slot tf2)).map Slot.p = (List.range' 0 2).map (pth 2) := by kernel_rfl
def X159 : XFn Tryd.prog 2 (comp Tryd.prog) := ⟨X2,tf2,159,Tryd.f159,c159,2,23,[s2_0,s2_1],z2,x159,y159,x159_D,Tryd.ntmps159.symm,Tryd.func159,x159_b,x159_k,x159_s,by decide,z2_ok,x159_c,x159_r⟩
def x160_0 : List (Ins tf2) := [iAs (rk (.bool false)) s2_2]
def x160_1 : List (Ins tf2) := [iMv r2_0 s2_3]
def x160_2 : List (Ins tf2) := [iP2 bEq r2_3 (rk (.int .u8 (.ofNat 4))) s2_5,iAs r2_5 s2_4]
def x160_3 : List (Ins tf2) := [iP2 bEq r2_3 (rk (.int .u8 (.ofNat 6))) s2_6,iAs r2_6 s2_4]
def x160_4 : List (Ins tf2) := [iP2 bEq r2_3 (rk (.int .u8 (.ofNat 9))) s2_7,iAs r2_7 s2_4]
def x160_5 : List (Ins tf2) := [iP2 bEq r2_3 (rk (.int .u8 (.ofNat 10))) s2_8,iAs r2_8 s2_4]
def x160_6 : List (Ins tf2) := [iP2 bEq r2_3 (rk (.int .u8 (.ofNat 11))) s2_9,iAs r2_9 s2_4]
def x160_7 : List (Ins tf2) := [iP2 bEq r2_3 (rk (.int .u8 (.ofNat 15))) s2_10,iAs r2_10 s2_4]
def x160_8 : List (Ins tf2) := [iP2 bEq r2_3 (rk (.int .u8 (.ofNat 16))) s2_11,iAs r2_11 s2_4]
def x160_9 : List (Ins tf2) := [iAs (rk (.bool true)) s2_2]
def x160_10 : List (Ins tf2) := [iAs (rk (.bool false)) s2_2]
def x160 : XC tf2 := (.rg x160_0 (.seq (.rg x160_1 (.block 0 (.seq (.rg x160_2 (.cond r2_4 .skip (.rg x160_3 (.cond r2_4 .skip (.rg x160_4 (.cond r2_4 .skip (.rg x160_5 (.cond r2_4 .skip (.rg x160_6 (.cond r2_4 .skip (.rg x160_7 (.cond r2_4 .skip (.reg x160_8))))))))))))) (.cond r2_4 (.rg x160_9 .ret) .skip)))) (.rg x160_10 .ret)))
def c160 : Code := Tryd.f160.body.getD .skip
theorem x160_b : Tryd.f160.body = some c160 := by kernel_rfl
theorem x160_c : cG (comp Tryd.prog) 2 2 12 x160 c160 = x160.den := by kernel_rfl
def y160 : List (RR Tryd.prog 2 12 tf2) := [rrT r2_2 2 rfl rfl]
theorem x160_r : y160.map RR.den = Tryd.f160.results.toList := by kernel_rfl
theorem x160_k : okFn Tryd.f160 = true := by kernel_rfl
theorem x160_D : 2 = dep Tryd.f160.ntmps := by kernel_rfl
theorem x160_s : ([s2_0] : List (Slot tf2)).map Slot.p = (List.range' 0 1).map (pth 2) := by kernel_rfl
def X160 : XFn Tryd.prog 2 (comp Tryd.prog) := ⟨X2,tf2,160,Tryd.f160,c160,2,12,[s2_0],z2,x160,y160,x160_D,Tryd.ntmps160.symm,Tryd.func160,x160_b,x160_k,x160_s,by decide,z2_ok,x160_c,x160_r⟩
def x161_0 : List (Ins tf2) := [iAs (rk (.slice none 0 0)) s2_2]
def x161_1 : List (Ins tf2) := [iGa aMm [] (some s2_3),iGa (aBsl 1 1 [.nilFunc] [(0,1)]) [(rk (.func (.func 171) #[] #[]))] (some s2_4),iGm (m3 (sUpd [0] false)) [r2_3,(rk (.int .u8 (.ofNat 2))),r2_4] none,iGa (aBsl 1 1 [.nilFunc] [(0,1)]) [(rk (.func (.func 171) #[] #[]))] (some s2_5),iGm (m3 (sUpd [0] false)) [r2_3,(rk (.int .u8 (.ofNat 3))),r2_5] none,iCall (rk (.func (.func 172) #[] #[])) [(rk (.int .u64 (.ofNat 0)))] (some s2_6),iGa (aBsl 1 1 [.nilFunc] [(0,1)]) [r2_6] (some s2_7),iGm (m3 (sUpd [0] false)) [r2_3,(rk (.int .u8 (.ofNat 4))),r2_7] none,iCall (rk (.func (.func 172) #[] #[])) [(rk (.int .u64 (.ofNat 0)))] (some s2_8),iCall (rk (.func (.func 173) #[] #[])) [(rk (.int .u64 (.ofNat 0)))] (some s2_9),iGa (aBsl 2 1 [.nilFunc] [(0,1),(1,1)]) [r2_8,r2_9] (some s2_10),iGm (m3 (sUpd [0] false)) [r2_3,(rk (.int .u8 (.ofNat 5))),r2_10] none,iCall (rk (.func (.func 174) #[] #[])) [(rk (.int .i64 (.ofNat 1))),(rk (.int .u64 (.ofNat 0))),(rk (.int .u64 (.ofNat 0)))] (some s2_11),iCall (rk (.func (.func 172) #[] #[])) [(rk (.int .u64 (.ofNat 1)))] (some s2_12),iGa (aBsl 2 1 [.nilFunc] [(0,1),(1,1)]) [r2_11,r2_12] (some s2_13),iGm (m3 (sUpd [0] false)) [r2_3,(rk (.int .u8 (.ofNat 6))),r2_13] none,iCall (rk (.func (.func 172) #[] #[])) [(rk (.int .u64 (.ofNat 1)))] (some s2_14),iGa (aBsl 1 1 [.nilFunc] [(0,1)]) [r2_14] (some s2_15),iGm (m3 (sUpd [0] false)) [r2_3,(rk (.int .u8 (.ofNat 7))),r2_15] none,iCall (rk (.func (.func 174) #[] #[])) [(rk (.int .i64 (.ofNat 1))),(rk (.int .u64 (.ofNat 1))),(rk (.int .u64 (.ofNat 0)))] (some s2_16),iGa (aBsl 1 1 [.nilFunc] [(0,1)]) [r2_16] (some s2_17),iGm (m3 (sUpd [0] false)) [r2_3,(rk (.int .u8 (.ofNat 8))),r2_17] none,iCall (rk (.func (.func 174) #[] #[])) [(rk (.int .i64 (.ofNat 1))),(rk (.int .u64 (.ofNat 0))),(rk (.int .u64 (.ofNat 0)))] (some s2_18),iCall (rk (.func (.func 175) #[] #[])) [(rk (.int .u8 (.ofNat 1)))] (some s2_19),iGa (aBsl 3 1 [.nilFunc] [(0,1),(1,1),(2,1)]) [r2_18,r2_19,(rk (.func (.func 176) #[] #[]))] (some s2_20),iGm (m3 (sUpd [0] false)) [r2_3,(rk (.int .u8 (.ofNat 9))),r2_20] none,iCall (rk (.func (.func 172) #[] #[])) [(rk (.int .u64 (.ofNat 0)))] (some s2_21),iCall (rk (.func (.func 175) #[] #[])) [(rk (.int .u8 (.ofNat 2)))] (some s2_22),iGa (aBsl 3 1 [.nilFunc] [(0,1),(1,1),(2,1)]) [r2_21,r2_22,(rk (.func (.func 176) #[] #[]))] (some s2_23),iGm (m3 (sUpd [0] false)) [r2_3,(rk (.int .u8 (.ofNat 10))),r2_23] none,iCall (rk (.func (.func 172) #[] #[])) [(rk (.int .u64 (.ofNat 0)))] (some s2_24),iCall (rk (.func (.func 175) #[] #[])) [(rk (.int .u8 (.ofNat 3)))] (some s2_25),iCall (rk (.func (.func 173) #[] #[])) [(rk (.int .u64 (.ofNat 0)))] (some s2_26),iGa (aBsl 3 1 [.nilFunc] [(0,1),(1,1),(2,1)]) [r2_24,r2_25,r2_26] (some s2_27),iGm (m3 (sUpd [0] false)) [r2_3,(rk (.int .u8 (.ofNat 11))),r2_27] none,iCall (rk (.func (.func 172) #[] #[])) [(rk (.int .u64 (.ofNat 0)))] (some s2_28),iGa (aBsl 2 1 [.nilFunc] [(0,1),(1,1)]) [r2_28,(rk (.func (.func 177) #[] #[]))] (some s2_29),iGm (m3 (sUpd [0] false)) [r2_3,(rk (.int .u8 (.ofNat 12))),r2_29] none,iCall (rk (.func (.func 172) #[] #[])) [(rk (.int .u64 (.ofNat 0)))] (some s2_30),iGa (aBsl 2 1 [.nilFunc] [(0,1),(1,1)]) [r2_30,(rk (.func (.func 177) #[] #[]))] (some s2_31),iGm (m3 (sUpd [0] false)) [r2_3,(rk (.int .u8 (.ofNat 13))),r2_31] none,iCall (rk (.func (.func 172) #[] #[])) [(rk (.int .u64 (.ofNat 0)))] (some s2_32),iGa (aBsl 1 1 [.nilFunc] [(0,1)]) [r2_32] (some s2_33),iGm (m3 (sUpd [0] false)) [r2_3,(rk (.int .u8 (.ofNat 14))),r2_33] none,iCall (rk (.func (.func 173) #[] #[])) [(rk (.int .u64 (.ofNat 1)))] (some s2_34),iGa (aBsl 1 1 [.nilFunc] [(0,1)]) [r2_34] (some s2_35),iGm (m3 (sUpd [0] false)) [r2_3,(rk (.int .u8 (.ofNat 15))),r2_35] none,iCall (rk (.func (.func 173) #[] #[])) [(rk (.int .u64 (.ofNat 1)))] (some s2_36),iCall (rk (.func (.func 174) #[] #[])) [(rk (.int .i64 (.ofNat 0))),(rk (.int .u64 (.ofNat 0))),(rk (.int .u64 (.ofNat 1)))] (some s2_37),iGa (aBsl 2 1 [.nilFunc] [(0,1),(1,1)]) [r2_36,r2_37] (some s2_38),iGm (m3 (sUpd [0] false)) [r2_3,(rk (.int .u8 (.ofNat 18))),r2_38] none,iCall (rk (.func (.func 173) #[] #[])) [(rk (.int .u64 (.ofNat 1)))] (some s2_39),iGa (aBsl 1 1 [.nilFunc] [(0,1)]) [r2_39] (some s2_40),iGm (m3 (sUpd [0] false)) [r2_3,(rk (.int .u8 (.ofNat 20))),r2_40] none,iCall (rk (.func (.func 173) #[] #[])) [(rk (.int .u64 (.ofNat 0)))] (some s2_41),iGa (aBsl 1 1 [.nilFunc] [(0,1)]) [r2_41] (some s2_42),iGm (m3 (sUpd [0] false)) [r2_3,(rk (.int .u8 (.ofNat 16))),r2_42] none,iCall (rk (.func (.func 173) #[] #[])) [(rk (.int .u64 (.ofNat 0)))] (some s2_43),iCall (rk (.func (.func 174) #[] #[])) [(rk (.int .i64 (.ofNat 1))),(rk (.int .u64 (.ofNat 0))),(rk (.int .u64 (.ofNat 0)))] (some s2_44),iGa (aBsl 2 1 [.nilFunc] [(0,1),(1,1)]) [r2_43,r2_44] (some s2_45),iGm (m3 (sUpd [0] false)) [r2_3,(rk (.int .u8 (.ofNat 17))),r2_45] none,iCall (rk (.func (.func 173) #[] #[])) [(rk (.int .u64 (.ofNat 0)))] (some s2_46),iGa (aBsl 1 1 [.nilFunc] [(0,1)]) [r2_46] (some s2_47),iGm (m3 (sUpd [0] false)) [r2_3,(rk (.int .u8 (.ofNat 19))),r2_47] none,iGa (aBsl 1 1 [.nilFunc] [(0,1)]) [(rk (.func (.func 178) #[] #[]))] (some s2_48),iGm (m3 (sUpd [0] false)) [r2_3,(rk (.int .u8 (.ofNat 21))),r2_48] none,iMv r2_3 s2_49,iMv r2_0 s2_50,iGr (r2 (rLook [0] false (.slice none 0 0) false)) [r2_49,r2_50] (some s2_51),iAs r2_51 s2_2]
def x161 : XC tf2 := (.rg x161_0 (.rg x161_1 .ret))
def c161 : Code := Tryd.f161.body.getD .skip
theorem x161_b : Tryd.f161.body = some c161 := by kernel_rfl
theorem x161_c : cG (comp Tryd.prog) 2 2 52 x161 c161 = x161.den := by kernel_rfl
def y161 : List (RR Tryd.prog 2 52 tf2) := [rrT r2_2 2 rfl rfl]
theorem x161_r : y161.map RR.den = Tryd.f161.results.toList := by kernel_rfl
theorem x161_k : okFn Tryd.f161 = true := by kernel_rfl
theorem x161_D : 2 = dep Tryd.f161.ntmps := by kernel_rfl
theorem x161_s : ([s2_0] : List (Slot tf2)).map Slot.p = (List.range' 0 1).map (pth 2) := by kernel_rfl
def X161 : XFn Tryd.prog 2 (comp Tryd.prog) := ⟨X2,tf2,161,Tryd.f161,c161,2,52,[s2_0],z2,x161,y161,x161_D,Tryd.ntmps161.symm,Tryd.func161,x161_b,x161_k,x161_s,by decide,z2_ok,x161_c,x161_r⟩
def x168_0 : List (Ins tf2) := [iGa (a1 gBox) [r2_1] (some s2_4),iAs (rk (.bool false)) s2_6]
def x168_1 : List (Ins tf2) := [iMv r2_0 s2_13,iP1 bNil r2_13 s2_14,iP1 (bFa 0) r2_14 s2_15,iR1 bLd r2_15 s2_16,iMv r2_2 s2_17,iCall (rk (.func (.func 159) #[] #[])) [r2_16,r2_17] (some s2_18),iMv r2_18 s2_12,iGp (l1 (pExt 0)) [r2_12] (some s2_19),iGp (l1 (pExt 1)) [r2_12] (some s2_20),iAs r2_19 s2_7,iAs r2_20 s2_8]
def x168_2 : List (Ins tf2) := [iMv r2_8 s2_21]
def x168_3 : List (Ins tf2) := [iMv r2_7 s2_22,iP2 bNe r2_22 (rk (.int .u64 (.ofNat 0))) s2_23,iAs r2_23 s2_6]
def x168_4 : List (Ins tf2) := [iMv r2_0 s2_25,iP1 bNil r2_25 s2_26,iP1 (bFa 0) r2_26 s2_27,iR1 bLd r2_27 s2_28,iMv r2_0 s2_29,iP1 bNil r2_29 s2_30,iP1 (bFa 7) r2_30 s2_31,iR1 bLd r2_31 s2_32,iP1 (bFa 2) r2_4 s2_33,iP1 (bFa 0) r2_33 s2_34,iR1 bLd r2_34 s2_35,iMv r2_2 s2_37,iGa (aBsl 1 1 [(.int .i64 (.ofNat 0))] [(0,1)]) [r2_37] (some s2_38),iRc (iGm (m2 (sApp 1)) [(rk (.slice none 0 0)),r2_35] (some s2_36)) [(rcLd r2_31 r2_32 [.o0,.o4] rfl),(rcLd r2_27 r2_28 [.o4,.o3] rfl)] rfl,iRc (iGm (m2 (sApp 1)) [r2_36,r2_38] (some s2_39)) [(rcLd r2_31 r2_32 [.o0,.o4] rfl),(rcLd r2_27 r2_28 [.o4,.o3] rfl)] rfl,iCall (rk (.func (.func 180) #[] #[])) [r2_28,r2_32,r2_39] (some s2_40),iMv r2_40 s2_24,iGp (l1 (pExt 0)) [r2_24] (some s2_41),iGp (l1 (pExt 1)) [r2_24] (some s2_42),iGp (l1 (pExt 2)) [r2_24] (some s2_43),iAs r2_41 s2_9,iAs r2_42 s2_10,iAs r2_43 s2_11]
def x168_5 : List (Ins tf2) := [iMv r2_0 s2_44,iMv r2_11 s2_45,iCall (rk (.func (.func 43) #[] #[])) [r2_44,r2_45] (some s2_46),iGp (l1 (pUn .not)) [r2_46] (some s2_47),iMv r2_47 s2_48,iGd r2_48 [.o0,.o6] true (iMv r2_9 s2_49) (some s2_49) rfl rfl rfl,iGd r2_48 [.o0,.o6] true (iP2 bEq r2_49 (rk (.int .u8 (.ofNat 0))) s2_50) (some s2_50) rfl rfl rfl,iGp (l3 pPick) [r2_48,r2_50,(rk (.bool false))] (some s2_51)]
def x168_6 : List (Ins tf2) := [iMv r2_0 s2_52,iP1 bNil r2_52 s2_53,iP1 (bFa 9) r2_53 s2_54,iM2 bSt r2_54 (rk (.int .u8 (.ofNat 3)))]
def x168_7 : List (Ins tf2) := [iMv r2_9 s2_55,iP2 bEq r2_55 (rk (.int .u8 (.ofNat 1))) s2_56,iAs r2_56 s2_6]
def x168 : XC tf2 := (.rg x168_0 (.seq (.rg x168_1 (.rg x168_2 (.cond r2_21 (.rg x168_3 .ret) .skip))) (.rg x168_4 (.seq (.rg x168_5 (.cond r2_51 (.reg x168_6) .skip)) (.rg x168_7 .ret)))))
def c168 : Code := Tryd.f168.body.getD .skip
theorem x168_b : Tryd.f168.body = some c168 := by kernel_rfl
theorem x168_c : cG (comp Tryd.prog) 2 2 57 x168 c168 = x168.den := by kernel_rfl
def y168 : List (RR Tryd.prog 2 57 tf2) := [rrT r2_6 6 rfl rfl]
theorem x168_r : y168.map RR.den = Tryd.f168.results.toList := by kernel_rfl
theorem x168_k : okFn Tryd.f168 = true := by kernel_rfl
theorem x168_D : 2 = dep Tryd.f168.ntmps := by kernel_rfl
theorem x168_s : ([s2_0,s2_1,s2_2] : List (Slot tf2)).map Slot.p = (List.range' 0 3).map (pth 2) := by kernel_rfl
def X168 : XFn Tryd.prog 2 (comp Tryd.prog) := ⟨X2,tf2,168,Tryd.f168,c168,2,57,[s2_0,s2_1,s2_2],z2,x168,y168,x168_D,Tryd.ntmps168.symm,Tryd.func168,x168_b,x168_k,x168_s,by decide,z2_ok,x168_c,x168_r⟩
end
end Cr
end Go.Proofs.YtjhbabgcoemecaaDoor
namespace Go.Proofs.YtjhbabgcoemecaaDoor
namespace Cr
open Go Go.RowKit
set_option maxRecDepth 100000
noncomputable section
def x169_0 : List (Ins tf2) := [iGr (r1 (rLdn 9)) [r2_2] (some s2_9),iCall (rk (.func (.func 135) #[] #[])) [r2_9] (some s2_10),iGa (aAl 9 [(.pointer none),(.int .i64 (.ofNat 0)),(.slice none 0 0),(.int .u8 (.ofNat 0)),(.int .i64 (.ofNat 0)),(.slice none 0 0),(.slice none 0 0),(.slice none 0 0),(.slice none 0 0)]) [] (some s2_6),iGm (m2 (sStn 9)) [r2_6,r2_10] none]
def x169_1 : List (Ins tf2) := [iR1 bLd r2_3 s2_12,iP1 bNil r2_12 s2_13,iP1 (bFa 0) r2_13 s2_14,iR1 bLd r2_14 s2_15,iMv r2_0 s2_16,iCall (rk (.func (.func 159) #[] #[])) [r2_15,r2_16] (some s2_17),iMv r2_17 s2_11,iGp (l1 (pExt 0)) [r2_11] (some s2_18),iGp (l1 (pExt 1)) [r2_11] (some s2_19),iAs r2_18 s2_7,iAs r2_19 s2_8]
def x169_2 : List (Ins tf2) := [iMv r2_8 s2_20,iGp (l1 (pUn .not)) [r2_20] (some s2_21)]
def x169_3 : List (Ins tf2) := [iP1 (bFa 2) r2_6 s2_22,iP1 (bFa 0) r2_22 s2_23,iR1 bLd r2_23 s2_24,iMv r2_0 s2_25,iGa (aBsl 1 1 [(.int .i64 (.ofNat 0))] [(0,1)]) [r2_25] (some s2_26),iGm (m2 (sApp 1)) [r2_24,r2_26] (some s2_27),iP1 (bFa 2) r2_6 s2_28,iP1 (bFa 0) r2_28 s2_29,iM2 bSt r2_29 r2_27]
def x169_4 : List (Ins tf2) := [iMv r2_1 s2_30,iCall r2_30 [r2_6] (some s2_31)]
def x169_5 : List (Ins tf2) := [iR1 bLd r2_3 s2_32,iR1 bLd r2_3 s2_33,iP1 bNil r2_33 s2_34,iP1 (bFa 8) r2_34 s2_35,iR1 bLd r2_35 s2_36,iGr (r1 (rLdn 9)) [r2_6] (some s2_37),iGa (aBsl 1 9 [(.pointer none),(.int .i64 (.ofNat 0)),(.slice none 0 0),(.int .u8 (.ofNat 0)),(.int .i64 (.ofNat 0)),(.slice none 0 0),(.slice none 0 0),(.slice none 0 0),(.slice none 0 0)] [(0,9)]) [r2_37] (some s2_38),iRc (iGm (m2 (sApp 9)) [r2_36,r2_38] (some s2_39)) [(rcLd r2_3 r2_32 [.o0,.o4] rfl)] rfl,iP1 bNil r2_32 s2_40,iP1 (bFa 8) r2_40 s2_41,iM2 bSt r2_41 r2_39]
def x169 : XC tf2 := (.rg x169_0 (.seq (.rg x169_1 (.rg x169_2 (.cond r2_21 (.reg x169_3) .skip))) (.rg x169_4 (.reg x169_5))))
def c169 : Code := Tryd.f169.body.getD .skip
theorem x169_b : Tryd.f169.body = some c169 := by kernel_rfl
theorem x169_c : cG (comp Tryd.prog) 2 2 42 x169 c169 = x169.den := by kernel_rfl
def y169 : List (RR Tryd.prog 2 42 tf2) := []
theorem x169_r : y169.map RR.den = Tryd.f169.results.toList := by kernel_rfl
theorem x169_k : okFn Tryd.f169 = true := by kernel_rfl
theorem x169_D : 2 = dep Tryd.f169.ntmps := by kernel_rfl
theorem x169_s : ([s2_0,s2_1,s2_2,s2_3] : List (Slot tf2)).map Slot.p = (List.range' 0 4).map (pth 2) := by kernel_rfl
def X169 : XFn Tryd.prog 2 (comp Tryd.prog) := ⟨X2,tf2,169,Tryd.f169,c169,2,42,[s2_0,s2_1,s2_2,s2_3],z2,x169,y169,x169_D,Tryd.ntmps169.symm,Tryd.func169,x169_b,x169_k,x169_s,by decide,z2_ok,x169_c,x169_r⟩
def x170_0 : List (Ins tf2) := [iAs (rk (.pointer none)) s2_2]
def x170_1 : List (Ins tf2) := [iMv r2_0 s2_7,iGp (l2 (pEqD (tdOf 96) false)) [r2_7,(rk (.pointer none))] (some s2_8)]
def x170_2 : List (Ins tf2) := [iAs (rk (.pointer none)) s2_2]
def x170_3 : List (Ins tf2) := [iMv r2_0 s2_9,iP1 bNil r2_9 s2_10,iP1 (bFa 0) r2_10 s2_11,iR1 bLd r2_11 s2_12,iMv r2_0 s2_13,iP1 bNil r2_13 s2_14,iP1 (bFa 1) r2_14 s2_15,iR1 bLd r2_15 s2_16,iP1 bLen r2_16 s2_17,iGa (a2 (gMks 1 8 [(.int .i64 (.ofNat 0))])) [r2_17,r2_17] (some s2_18),iGp (pBld [(.pointer none),(.slice none 0 0),(.slice none 0 0)] [(0,1),(1,1)]) [r2_12,r2_18] (some s2_19),iGa (a1 gBox) [r2_19] (some s2_20),iAs r2_20 s2_3]
def x170_4 : List (Ins tf2) := [iMv r2_3 s2_21,iP1 bNil r2_21 s2_22,iP1 (bFa 1) r2_22 s2_23,iR1 bLd r2_23 s2_24,iMv r2_0 s2_25,iP1 bNil r2_25 s2_26,iP1 (bFa 1) r2_26 s2_27,iR1 bLd r2_27 s2_28,iGm (m2 (sCopy 1)) [r2_24,r2_28] (some s2_29)]
def x170_5 : List (Ins tf2) := [iMv r2_0 s2_30,iP1 bNil r2_30 s2_31,iP1 (bFa 2) r2_31 s2_32,iR1 bLd r2_32 s2_33,iP1 bLen r2_33 s2_34,iMv (rk (.int .i64 (.ofNat 0))) s2_35]
def x170_6 : List (Ins tf2) := [iP2 bLt r2_35 r2_34 s2_36]
def x170_7 : List (Ins tf2) := [iP2 (bIxs 1) r2_33 r2_35 s2_37,iR1 bLd r2_37 s2_38,iAs r2_38 s2_5]
def x170_8 : List (Ins tf2) := [iMv r2_5 s2_39,iP1 bLen r2_39 s2_40,iGa (a2 (gMks 1 8 [(.int .i64 (.ofNat 0))])) [r2_40,r2_40] (some s2_41),iAs r2_41 s2_6]
def x170_9 : List (Ins tf2) := [iMv r2_6 s2_42,iMv r2_5 s2_43,iGm (m2 (sCopy 1)) [r2_42,r2_43] (some s2_44)]
def x170_10 : List (Ins tf2) := [iMv r2_3 s2_45,iMv r2_3 s2_46,iP1 bNil r2_46 s2_47,iP1 (bFa 2) r2_47 s2_48,iR1 bLd r2_48 s2_49,iMv r2_6 s2_50,iGa (aBsl 1 1 [(.slice none 0 0)] [(0,1)]) [r2_50] (some s2_51),iGm (m2 (sApp 1)) [r2_49,r2_51] (some s2_52),iP1 bNil r2_45 s2_53,iP1 (bFa 2) r2_53 s2_54,iM2 bSt r2_54 r2_52]
def x170_11 : List (Ins tf2) := [iP2 bAdd r2_35 (rk (.int .i64 (.ofNat 1))) s2_55,iMv r2_55 s2_35]
def x170_12 : List (Ins tf2) := [iMv r2_3 s2_56,iAs r2_56 s2_2]
def x170 : XC tf2 := (.rg x170_0 (.seq (.rg x170_1 (.cond r2_8 (.rg x170_2 .ret) .skip)) (.rg x170_3 (.rg x170_4 (.seq (.rg x170_5 (.block 0 (.loop (.rg x170_6 (.seq (.cond r2_36 .skip (.exit 0)) (.seq (.block 1 (.rg x170_7 (.rg x170_8 (.rg x170_9 (.reg x170_10))))) (.reg x170_11))))))) (.rg x170_12 .ret))))))
def c170 : Code := Tryd.f170.body.getD .skip
theorem x170_b : Tryd.f170.body = some c170 := by kernel_rfl
theorem x170_c : cG (comp Tryd.prog) 2 2 57 x170 c170 = x170.den := by kernel_rfl
def y170 : List (RR Tryd.prog 2 57 tf2) := [rrT r2_2 2 rfl rfl]
theorem x170_r : y170.map RR.den = Tryd.f170.results.toList := by kernel_rfl
theorem x170_k : okFn Tryd.f170 = true := by kernel_rfl
theorem x170_D : 2 = dep Tryd.f170.ntmps := by kernel_rfl
theorem x170_s : ([s2_0] : List (Slot tf2)).map Slot.p = (List.range' 0 1).map (pth 2) := by kernel_rfl
def X170 : XFn Tryd.prog 2 (comp Tryd.prog) := ⟨X2,tf2,170,Tryd.f170,c170,2,57,[s2_0],z2,x170,y170,x170_D,Tryd.ntmps170.symm,Tryd.func170,x170_b,x170_k,x170_s,by decide,z2_ok,x170_c,x170_r⟩
def x172_0 : List (Ins tf1) := [iGa (a1 gBox) [r1_0] (some s1_1),iAs (rk .nilFunc) s1_2]
def x172_1 : List (Ins tf1) := [iGp (pMkf (.func 181) 0) [r1_1] (some s1_3),iAs r1_3 s1_2]
def x172 : XC tf1 := (.rg x172_0 (.rg x172_1 .ret))
def c172 : Code := Tryd.f172.body.getD .skip
theorem x172_b : Tryd.f172.body = some c172 := by kernel_rfl
theorem x172_c : cG (comp Tryd.prog) 2 1 4 x172 c172 = x172.den := by kernel_rfl
def y172 : List (RR Tryd.prog 1 4 tf1) := [rrT r1_2 2 rfl rfl]
theorem x172_r : y172.map RR.den = Tryd.f172.results.toList := by kernel_rfl
theorem x172_k : okFn Tryd.f172 = true := by kernel_rfl
theorem x172_D : 1 = dep Tryd.f172.ntmps := by kernel_rfl
theorem x172_s : ([s1_0] : List (Slot tf1)).map Slot.p = (List.range' 0 1).map (pth 1) := by kernel_rfl
def X172 : XFn Tryd.prog 2 (comp Tryd.prog) := ⟨X1,tf1,172,Tryd.f172,c172,1,4,[s1_0],z1,x172,y172,x172_D,Tryd.ntmps172.symm,Tryd.func172,x172_b,x172_k,x172_s,by decide,z1_ok,x172_c,x172_r⟩
def x173_0 : List (Ins tf1) := [iGa (a1 gBox) [r1_0] (some s1_1),iAs (rk .nilFunc) s1_2]
def x173_1 : List (Ins tf1) := [iGp (pMkf (.func 183) 0) [r1_1] (some s1_3),iAs r1_3 s1_2]
def x173 : XC tf1 := (.rg x173_0 (.rg x173_1 .ret))
def c173 : Code := Tryd.f173.body.getD .skip
theorem x173_b : Tryd.f173.body = some c173 := by kernel_rfl
theorem x173_c : cG (comp Tryd.prog) 2 1 4 x173 c173 = x173.den := by kernel_rfl
def y173 : List (RR Tryd.prog 1 4 tf1) := [rrT r1_2 2 rfl rfl]
theorem x173_r : y173.map RR.den = Tryd.f173.results.toList := by kernel_rfl
theorem x173_k : okFn Tryd.f173 = true := by kernel_rfl
theorem x173_D : 1 = dep Tryd.f173.ntmps := by kernel_rfl
theorem x173_s : ([s1_0] : List (Slot tf1)).map Slot.p = (List.range' 0 1).map (pth 1) := by kernel_rfl
def X173 : XFn Tryd.prog 2 (comp Tryd.prog) := ⟨X1,tf1,173,Tryd.f173,c173,1,4,[s1_0],z1,x173,y173,x173_D,Tryd.ntmps173.symm,Tryd.func173,x173_b,x173_k,x173_s,by decide,z1_ok,x173_c,x173_r⟩
def x174_0 : List (Ins tf1) := [iGa (a1 gBox) [r1_0] (some s1_3),iGa (a1 gBox) [r1_1] (some s1_4),iGa (a1 gBox) [r1_2] (some s1_5),iAs (rk .nilFunc) s1_6]
def x174_1 : List (Ins tf1) := [iGp (pMkf (.func 184) 0) [r1_3,r1_4,r1_5] (some s1_7),iAs r1_7 s1_6]
def x174 : XC tf1 := (.rg x174_0 (.rg x174_1 .ret))
def c174 : Code := Tryd.f174.body.getD .skip
theorem x174_b : Tryd.f174.body = some c174 := by kernel_rfl
theorem x174_c : cG (comp Tryd.prog) 2 1 8 x174 c174 = x174.den := by kernel_rfl
def y174 : List (RR Tryd.prog 1 8 tf1) := [rrT r1_6 6 rfl rfl]
theorem x174_r : y174.map RR.den = Tryd.f174.results.toList := by kernel_rfl
theorem x174_k : okFn Tryd.f174 = true := by kernel_rfl
theorem x174_D : 1 = dep Tryd.f174.ntmps := by kernel_rfl
theorem x174_s : ([s1_0,s1_1,s1_2] : List (Slot tf1)).map Slot.p = (List.range' 0 3).map (pth 1) := by kernel_rfl
def X174 : XFn Tryd.prog 2 (comp Tryd.prog) := ⟨X1,tf1,174,Tryd.f174,c174,1,8,[s1_0,s1_1,s1_2],z1,x174,y174,x174_D,Tryd.ntmps174.symm,Tryd.func174,x174_b,x174_k,x174_s,by decide,z1_ok,x174_c,x174_r⟩
def x175_0 : List (Ins tf1) := [iGa (a1 gBox) [r1_0] (some s1_1),iAs (rk .nilFunc) s1_2]
def x175_1 : List (Ins tf1) := [iGp (pMkf (.func 185) 0) [r1_1] (some s1_3),iAs r1_3 s1_2]
def x175 : XC tf1 := (.rg x175_0 (.rg x175_1 .ret))
def c175 : Code := Tryd.f175.body.getD .skip
theorem x175_b : Tryd.f175.body = some c175 := by kernel_rfl
theorem x175_c : cG (comp Tryd.prog) 2 1 4 x175 c175 = x175.den := by kernel_rfl
def y175 : List (RR Tryd.prog 1 4 tf1) := [rrT r1_2 2 rfl rfl]
theorem x175_r : y175.map RR.den = Tryd.f175.results.toList := by kernel_rfl
theorem x175_k : okFn Tryd.f175 = true := by kernel_rfl
theorem x175_D : 1 = dep Tryd.f175.ntmps := by kernel_rfl
theorem x175_s : ([s1_0] : List (Slot tf1)).map Slot.p = (List.range' 0 1).map (pth 1) := by kernel_rfl
def X175 : XFn Tryd.prog 2 (comp Tryd.prog) := ⟨X1,tf1,175,Tryd.f175,c175,1,4,[s1_0],z1,x175,y175,x175_D,Tryd.ntmps175.symm,Tryd.func175,x175_b,x175_k,x175_s,by decide,z1_ok,x175_c,x175_r⟩
def x180_0 : List (Ins tf3) := [iAs (rk (.int .u8 (.ofNat 0))) s3_6,iAs (rk (.slice none 0 0)) s3_7,iAs (rk (.int .i64 (.ofNat 0))) s3_8]
def x180_1 : List (Ins tf3) := [iMv r3_0 s3_21,iGp (l2 (pEqD (tdOf 34) false)) [r3_21,(rk (.pointer none))] (some s3_22)]
def x180_2 : List (Ins tf3) := [iAs (rk (.int .u8 (.ofNat 0))) s3_6,iAs (rk (.slice none 0 0)) s3_7,iAs (rk (.int .i64 (.ofNat 1))) s3_8]
def x180_3 : List (Ins tf3) := [iMv r3_0 s3_24,iMv r3_2 s3_25,iCall (rk (.func (.func 187) #[] #[])) [r3_24,r3_25] (some s3_26),iMv r3_26 s3_23,iGp (l1 (pExt 0)) [r3_23] (some s3_27),iGp (l1 (pExt 1)) [r3_23] (some s3_28),iAs r3_27 s3_9,iAs r3_28 s3_10]
def x180_4 : List (Ins tf3) := [iMv r3_1 s3_29,iP2 bLt r3_29 (rk (.int .i64 (.ofNat 0))) s3_30,iMv r3_30 s3_31,iGd r3_31 [.o7,.o3,.o0] false (iMv r3_1 s3_32) (some s3_32) rfl rfl rfl,iGd r3_31 [.o7,.o3,.o0] false (iP2 bGt r3_32 (rk (.int .i64 (.ofNat 1099511627776))) s3_33) (some s3_33) rfl rfl rfl,iGp (l3 pPick) [r3_31,(rk (.bool true)),r3_33] (some s3_34),iMv r3_34 s3_35,iGd r3_35 [.o3,.o4,.o0] false (iMv r3_10 s3_36) (some s3_36) rfl rfl rfl,iGd r3_35 [.o3,.o4,.o0] false (iP2 bNe r3_36 (rk (.int .i64 (.ofNat 0))) s3_37) (some s3_37) rfl rfl rfl,iGp (l3 pPick) [r3_35,(rk (.bool true)),r3_37] (some s3_38)]
def x180_5 : List (Ins tf3) := [iAs (rk (.int .u8 (.ofNat 0))) s3_6,iAs (rk (.slice none 0 0)) s3_7,iAs (rk (.int .i64 (.ofNat 3))) s3_8]
def x180_6 : List (Ins tf3) := [iCall (rk (.func (.func 188) #[] #[])) [] (some s3_39),iAs r3_39 s3_11]
def x180_7 : List (Ins tf3) := [iMv r3_0 s3_41,iMv r3_11 s3_42,iCall (rk (.func (.func 189) #[] #[])) [r3_41,r3_42] (some s3_43),iMv r3_43 s3_40,iGp (l1 (pExt 0)) [r3_40] (some s3_44),iGp (l1 (pExt 1)) [r3_40] (some s3_45),iAs r3_44 s3_12,iAs r3_45 s3_13]
def x180_8 : List (Ins tf3) := [iMv r3_11 s3_46,iMv r3_12 s3_47,iGp (pBld [(.pointer none),(.pointer none),(.int .i64 (.ofNat 0))] [(0,1),(1,1)]) [r3_46,r3_47] (some s3_48),iGa (a1 gBox) [r3_48] (some s3_49),iAs r3_49 s3_14]
def x180_9 : List (Ins tf3) := [iMv r3_2 s3_50,iP1 bLen r3_50 s3_51,iMv (rk (.int .i64 (.ofNat 0))) s3_52]
def x180_10 : List (Ins tf3) := [iP2 bLt r3_52 r3_51 s3_53]
def x180_11 : List (Ins tf3) := [iP2 (bIxs 1) r3_50 r3_52 s3_54,iR1 bLd r3_54 s3_55,iAs r3_55 s3_16]
def x180_12 : List (Ins tf3) := [iMv r3_14 s3_56,iMv r3_16 s3_57,iCall (rk (.func (.func 190) #[] #[])) [r3_56,r3_57] (some s3_58),iAs r3_58 s3_14]
def x180_13 : List (Ins tf3) := [iP2 bAdd r3_52 (rk (.int .i64 (.ofNat 1))) s3_59,iMv r3_59 s3_52]
def x180_14 : List (Ins tf3) := [iMv r3_14 s3_60,iP1 bNil r3_60 s3_61,iP1 (bFa 2) r3_61 s3_62,iR1 bLd r3_62 s3_63,iP2 bNe r3_63 (rk (.int .i64 (.ofNat 0))) s3_64]
def x180_15 : List (Ins tf3) := [iAs (rk (.int .u8 (.ofNat 0))) s3_6,iAs (rk (.slice none 0 0)) s3_7,iAs (rk (.int .i64 (.ofNat 10))) s3_8]
def x180_16 : List (Ins tf3) := [iMv r3_14 s3_66,iP1 bNil r3_66 s3_67,iP1 (bFa 0) r3_67 s3_68,iR1 bLd r3_68 s3_69,iCall (rk (.func (.func 192) #[] #[])) [r3_69] (some s3_70),iMv r3_1 s3_71,iCall (rk (.func (.func 191) #[] #[])) [r3_70,r3_71] (some s3_72),iMv r3_72 s3_65,iGp (l1 (pExt 0)) [r3_65] (some s3_73),iGp (l1 (pExt 1)) [r3_65] (some s3_74),iGa (aAl 3 [(.int .u8 (.ofNat 0)),(.slice none 0 0),(.slice none 0 0)]) [] (some s3_17),iGm (m2 (sStn 3)) [r3_17,r3_73] none,iAs r3_74 s3_10]
def x180_17 : List (Ins tf3) := [iMv r3_10 s3_75,iP2 bNe r3_75 (rk (.int .i64 (.ofNat 0))) s3_76]
def x180_18 : List (Ins tf3) := [iAs (rk (.int .u8 (.ofNat 0))) s3_6,iAs (rk (.slice none 0 0)) s3_7,iAs (rk (.int .i64 (.ofNat 10))) s3_8]
def x180_19 : List (Ins tf3) := [iP1 (bFa 0) r3_17 s3_77,iR1 bLd r3_77 s3_78,iP2 bNe r3_78 (rk (.int .u8 (.ofNat 1))) s3_79]
def x180_20 : List (Ins tf3) := [iP1 (bFa 0) r3_17 s3_80,iR1 bLd r3_80 s3_81,iAs r3_81 s3_6,iAs (rk (.slice none 0 0)) s3_7,iAs (rk (.int .i64 (.ofNat 0))) s3_8]
def x180_21 : List (Ins tf3) := [iAs (rk (.int .i64 (.ofNat 0))) s3_18]
def x180_22 : List (Ins tf3) := [iMv r3_9 s3_82,iP1 bLen r3_82 s3_83,iP2 bGt r3_83 (rk (.int .i64 (.ofNat 0))) s3_84]
def x180_23 : List (Ins tf3) := [iMv r3_9 s3_85,iMv r3_9 s3_86,iP1 bLen r3_86 s3_87,iP2 bSub r3_87 (rk (.int .i64 (.ofNat 1))) s3_88,iP2 (bIxs 1) r3_85 r3_88 s3_89,iR1 bLd r3_89 s3_90,iP2 bAdd r3_90 (rk (.int .i64 (.ofNat 1))) s3_91,iAs r3_91 s3_18]
def x180_24 : List (Ins tf3) := [iMv r3_12 s3_93,iMv r3_18 s3_94,iP1 (bFa 1) r3_17 s3_95,iR1 bLd r3_95 s3_96,iCall (rk (.func (.func 193) #[] #[])) [r3_93,r3_94,r3_96] (some s3_97),iMv r3_97 s3_92,iGp (l1 (pExt 0)) [r3_92] (some s3_98),iGp (l1 (pExt 1)) [r3_92] (some s3_99),iAs r3_98 s3_19,iAs r3_99 s3_20]
def x180_25 : List (Ins tf3) := [iMv r3_19 s3_100,iAs (rk (.int .u8 (.ofNat 1))) s3_6,iAs r3_100 s3_7,iAs (rk (.int .i64 (.ofNat 0))) s3_8]
def x180_26 : XC tf3 := (.seq (.rg x180_9 (.block 0 (.loop (.rg x180_10 (.seq (.cond r3_53 .skip (.exit 0)) (.seq (.block 1 (.rg x180_11 (.reg x180_12))) (.reg x180_13))))))) (.seq (.rg x180_14 (.cond r3_64 (.rg x180_15 .ret) .skip)) (.rg x180_16 (.seq (.rg x180_17 (.cond r3_76 (.rg x180_18 .ret) .skip)) (.seq (.rg x180_19 (.cond r3_79 (.rg x180_20 .ret) .skip)) (.rg x180_21 (.seq (.rg x180_22 (.cond r3_84 (.reg x180_23) .skip)) (.rg x180_24 (.rg x180_25 .ret)))))))))
def x180 : XC tf3 := (.rg x180_0 (.seq (.rg x180_1 (.cond r3_22 (.rg x180_2 .ret) .skip)) (.rg x180_3 (.seq (.rg x180_4 (.cond r3_38 (.rg x180_5 .ret) .skip)) (.rg x180_6 (.rg x180_7 (.rg x180_8 x180_26)))))))
def c180 : Code := Tryd.f180.body.getD .skip
theorem x180_b : Tryd.f180.body = some c180 := by kernel_rfl
theorem x180_c : cG (comp Tryd.prog) 2 3 101 x180 c180 = x180.den := by kernel_rfl
def y180 : List (RR Tryd.prog 3 101 tf3) := [rrT r3_6 6 rfl rfl,rrT r3_7 7 rfl rfl,rrT r3_8 8 rfl rfl]
theorem x180_r : y180.map RR.den = Tryd.f180.results.toList := by kernel_rfl
theorem x180_k : okFn Tryd.f180 = true := by kernel_rfl
theorem x180_D : 3 = dep Tryd.f180.ntmps := by kernel_rfl
theorem x180_s : ([s3_0,s3_1,s3_2] : List (Slot tf3)).map Slot.p = (List.range' 0 3).map (pth 3) := by kernel_rfl
def X180 : XFn Tryd.prog 2 (comp Tryd.prog) := ⟨X3,tf3,180,Tryd.f180,c180,3,101,[s3_0,s3_1,s3_2],z3,x180,y180,x180_D,Tryd.ntmps180.symm,Tryd.func180,x180_b,x180_k,x180_s,by decide,z3_ok,x180_c,x180_r⟩
def x183_0 : List (Ins tf2) := [iGa (aAl 3 [(.int .u8 (.ofNat 0)),(.int .i64 (.ofNat 0)),(.int .u64 (.ofNat 0))]) [] (some s2_3)]
def x183_1 : List (Ins tf2) := [iMv r2_0 s2_4,iP1 bNil r2_4 s2_5,iP1 (bFa 2) r2_5 s2_6,iR1 bLd r2_6 s2_7,iP2 (bIxs 1) r2_7 (rk (.int .i64 (.ofNat 0))) s2_8,iR1 bLd r2_8 s2_9,iMv r2_0 s2_10,iP1 bNil r2_10 s2_11,iP1 (bFa 2) r2_11 s2_12,iR1 bLd r2_12 s2_13,iP2 (bIxs 1) r2_13 (rk (.int .i64 (.ofNat 1))) s2_14,iR1 bLd r2_14 s2_15,iP2 bEq r2_9 r2_15 s2_16]
def x183_2 : List (Ins tf2) := [iR1 bLd r2_1 s2_17,iGp (pBld [(.int .u8 (.ofNat 0)),(.int .i64 (.ofNat 0)),(.int .u64 (.ofNat 0))] [(0,1),(2,1)]) [(rk (.int .u8 (.ofNat 2))),r2_17] (some s2_18),iGm (m2 (sStn 3)) [r2_3,r2_18] none]
def x183_3 : List (Ins tf2) := [iGp (pBld [(.int .u8 (.ofNat 0)),(.int .i64 (.ofNat 0)),(.int .u64 (.ofNat 0))] []) [] (some s2_19),iGm (m2 (sStn 3)) [r2_3,r2_19] none]
def x183 : XC tf2 := (.rg x183_0 (.seq (.rg x183_1 (.cond r2_16 (.rg x183_2 .ret) .skip)) (.rg x183_3 .ret)))
def c183 : Code := Tryd.f183.body.getD .skip
theorem x183_b : Tryd.f183.body = some c183 := by kernel_rfl
theorem x183_c : cG (comp Tryd.prog) 2 2 20 x183 c183 = x183.den := by kernel_rfl
def y183 : List (RR Tryd.prog 2 20 tf2) := [rrS (.cell 3 231)]
theorem x183_r : y183.map RR.den = Tryd.f183.results.toList := by kernel_rfl
theorem x183_k : okFn Tryd.f183 = true := by kernel_rfl
theorem x183_D : 2 = dep Tryd.f183.ntmps := by kernel_rfl
theorem x183_s : ([s2_0,s2_1] : List (Slot tf2)).map Slot.p = (List.range' 0 2).map (pth 2) := by kernel_rfl
def X183 : XFn Tryd.prog 2 (comp Tryd.prog) := ⟨X2,tf2,183,Tryd.f183,c183,2,20,[s2_0,s2_1],z2,x183,y183,x183_D,Tryd.ntmps183.symm,Tryd.func183,x183_b,x183_k,x183_s,by decide,z2_ok,x183_c,x183_r⟩
def x188_0 : List (Ins tf1) := [iAs (rk (.pointer none)) s1_0]
def x188_1 : List (Ins tf1) := [iGa (aBsl 1 1 [(.int .i64 (.ofNat 0))] [(0,1)]) [(rk (.int .i64 (.ofNat 1)))] (some s1_1),iGa (aBsl 1 1 [(.slice none 0 0)] [(0,1)]) [r1_1] (some s1_2),iGp (pBld [(.int .i64 (.ofNat 0)),(.slice none 0 0)] [(0,1),(1,1)]) [(rk (.int .i64 (.ofNat 1))),r1_2] (some s1_3),iGp (pBld [(.int .i64 (.ofNat 0)),(.slice none 0 0)] [(0,2)]) [r1_3] (some s1_4),iGa (a1 gBox) [r1_4] (some s1_5),iAs r1_5 s1_0]
def x188 : XC tf1 := (.rg x188_0 (.rg x188_1 .ret))
def c188 : Code := Tryd.f188.body.getD .skip
theorem x188_b : Tryd.f188.body = some c188 := by kernel_rfl
theorem x188_c : cG (comp Tryd.prog) 2 1 6 x188 c188 = x188.den := by kernel_rfl
def y188 : List (RR Tryd.prog 1 6 tf1) := [rrT r1_0 0 rfl rfl]
theorem x188_r : y188.map RR.den = Tryd.f188.results.toList := by kernel_rfl
theorem x188_k : okFn Tryd.f188 = true := by kernel_rfl
theorem x188_D : 1 = dep Tryd.f188.ntmps := by kernel_rfl
theorem x188_s : ([] : List (Slot tf1)).map Slot.p = (List.range' 0 0).map (pth 1) := by kernel_rfl
def X188 : XFn Tryd.prog 2 (comp Tryd.prog) := ⟨X1,tf1,188,Tryd.f188,c188,1,6,[],z1,x188,y188,x188_D,Tryd.ntmps188.symm,Tryd.func188,x188_b,x188_k,x188_s,by decide,z1_ok,x188_c,x188_r⟩
def x189_0 : List (Ins tf2) := [iAs (rk (.pointer none)) s2_4,iAs (rk (.int .i64 (.ofNat 0))) s2_5]
def x189_1 : List (Ins tf2) := [iMv r2_0 s2_6,iGp (l2 (pEqD (tdOf 34) false)) [r2_6,(rk (.pointer none))] (some s2_7),iMv r2_7 s2_8,iGd r2_8 [.o0,.o1] false (iMv r2_1 s2_9) (some s2_9) rfl rfl rfl,iGd r2_8 [.o0,.o1] false (iGp (l2 (pEqD (tdOf 249) false)) [r2_9,(rk (.pointer none))] (some s2_10)) (some s2_10) rfl rfl rfl,iGp (l3 pPick) [r2_8,(rk (.bool true)),r2_10] (some s2_11)]
def x189_2 : List (Ins tf2) := [iAs (rk (.pointer none)) s2_4,iAs (rk (.int .i64 (.ofNat 1))) s2_5]
def x189_3 : List (Ins tf2) := [iMv r2_0 s2_12,iMv r2_1 s2_13,iGa aMm [] (some s2_14),iGa aMm [] (some s2_15),iGp (pBld [(.pointer none),(.pointer none),(.map none),(.map none)] [(0,1),(1,1),(2,1),(3,1)]) [r2_12,r2_13,r2_14,r2_15] (some s2_16),iGa (a1 gBox) [r2_16] (some s2_17),iAs r2_17 s2_4,iAs (rk (.int .i64 (.ofNat 0))) s2_5]
def x189 : XC tf2 := (.rg x189_0 (.seq (.rg x189_1 (.cond r2_11 (.rg x189_2 .ret) .skip)) (.rg x189_3 .ret)))
def c189 : Code := Tryd.f189.body.getD .skip
theorem x189_b : Tryd.f189.body = some c189 := by kernel_rfl
theorem x189_c : cG (comp Tryd.prog) 2 2 18 x189 c189 = x189.den := by kernel_rfl
def y189 : List (RR Tryd.prog 2 18 tf2) := [rrT r2_4 4 rfl rfl,rrT r2_5 5 rfl rfl]
theorem x189_r : y189.map RR.den = Tryd.f189.results.toList := by kernel_rfl
theorem x189_k : okFn Tryd.f189 = true := by kernel_rfl
theorem x189_D : 2 = dep Tryd.f189.ntmps := by kernel_rfl
theorem x189_s : ([s2_0,s2_1] : List (Slot tf2)).map Slot.p = (List.range' 0 2).map (pth 2) := by kernel_rfl
def X189 : XFn Tryd.prog 2 (comp Tryd.prog) := ⟨X2,tf2,189,Tryd.f189,c189,2,18,[s2_0,s2_1],z2,x189,y189,x189_D,Tryd.ntmps189.symm,Tryd.func189,x189_b,x189_k,x189_s,by decide,z2_ok,x189_c,x189_r⟩
def x190_0 : List (Ins tf2) := [iAs (rk (.pointer none)) s2_4]
def x190_1 : List (Ins tf2) := [iMv r2_0 s2_7,iP1 bNil r2_7 s2_8,iP1 (bFa 2) r2_8 s2_9,iR1 bLd r2_9 s2_10,iP2 bNe r2_10 (rk (.int .i64 (.ofNat 0))) s2_11]
def x190_2 : List (Ins tf2) := [iMv r2_0 s2_12,iAs r2_12 s2_4]
def x190_3 : List (Ins tf2) := [iAs (rk (.slice none 0 0)) s2_5]
def x190_4 : List (Ins tf2) := [iMv r2_0 s2_14,iMv r2_0 s2_15,iP1 bNil r2_15 s2_16,iP1 (bFa 1) r2_16 s2_17,iR1 bLd r2_17 s2_18,iMv r2_1 s2_19,iCall (rk (.func (.func 196) #[] #[])) [r2_18,r2_19] (some s2_20),iMv r2_20 s2_13,iGp (l1 (pExt 0)) [r2_13] (some s2_21),iGp (l1 (pExt 1)) [r2_13] (some s2_22),iAs r2_21 s2_5,iP1 bNil r2_14 s2_23,iP1 (bFa 2) r2_23 s2_24,iM2 bSt r2_24 r2_22]
def x190_5 : List (Ins tf2) := [iMv r2_0 s2_25,iP1 bNil r2_25 s2_26,iP1 (bFa 2) r2_26 s2_27,iR1 bLd r2_27 s2_28,iP2 bNe r2_28 (rk (.int .i64 (.ofNat 0))) s2_29]
def x190_6 : List (Ins tf2) := [iMv r2_0 s2_30,iAs r2_30 s2_4]
def x190_7 : List (Ins tf2) := [iAs (rk (.int .i64 (.ofNat 0))) s2_6]
def x190_8 : List (Ins tf2) := [iMv r2_0 s2_32,iMv r2_0 s2_33,iP1 bNil r2_33 s2_34,iP1 (bFa 0) r2_34 s2_35,iR1 bLd r2_35 s2_36,iMv r2_5 s2_37,iCall (rk (.func (.func 197) #[] #[])) [r2_36,r2_37] (some s2_38),iMv r2_38 s2_31,iGp (l1 (pExt 0)) [r2_31] (some s2_39),iGp (l1 (pExt 1)) [r2_31] (some s2_40),iAs r2_39 s2_6,iP1 bNil r2_32 s2_41,iP1 (bFa 2) r2_41 s2_42,iM2 bSt r2_42 r2_40]
def x190_9 : List (Ins tf2) := [iMv r2_0 s2_43,iP1 bNil r2_43 s2_44,iP1 (bFa 2) r2_44 s2_45,iR1 bLd r2_45 s2_46,iP2 bEq r2_46 (rk (.int .i64 (.ofNat 0))) s2_47]
def x190_10 : List (Ins tf2) := [iMv r2_0 s2_48,iMv r2_0 s2_49,iP1 bNil r2_49 s2_50,iP1 (bFa 0) r2_50 s2_51,iR1 bLd r2_51 s2_52,iMv r2_6 s2_53,iGa (aBsl 1 1 [(.int .i64 (.ofNat 0))] [(0,1)]) [r2_53] (some s2_54),iCall (rk (.func (.func 198) #[] #[])) [r2_52,r2_54] (some s2_55),iP1 bNil r2_48 s2_56,iP1 (bFa 2) r2_56 s2_57,iM2 bSt r2_57 r2_55]
def x190_11 : List (Ins tf2) := [iMv r2_0 s2_58,iAs r2_58 s2_4]
def x190 : XC tf2 := (.rg x190_0 (.seq (.rg x190_1 (.cond r2_11 (.rg x190_2 .ret) .skip)) (.rg x190_3 (.rg x190_4 (.seq (.rg x190_5 (.cond r2_29 (.rg x190_6 .ret) .skip)) (.rg x190_7 (.seq (.rg x190_8 (.rg x190_9 (.cond r2_47 (.reg x190_10) .skip))) (.rg x190_11 .ret))))))))
def c190 : Code := Tryd.f190.body.getD .skip
theorem x190_b : Tryd.f190.body = some c190 := by kernel_rfl
theorem x190_c : cG (comp Tryd.prog) 2 2 59 x190 c190 = x190.den := by kernel_rfl
def y190 : List (RR Tryd.prog 2 59 tf2) := [rrT r2_4 4 rfl rfl]
theorem x190_r : y190.map RR.den = Tryd.f190.results.toList := by kernel_rfl
theorem x190_k : okFn Tryd.f190 = true := by kernel_rfl
theorem x190_D : 2 = dep Tryd.f190.ntmps := by kernel_rfl
theorem x190_s : ([s2_0,s2_1] : List (Slot tf2)).map Slot.p = (List.range' 0 2).map (pth 2) := by kernel_rfl
def X190 : XFn Tryd.prog 2 (comp Tryd.prog) := ⟨X2,tf2,190,Tryd.f190,c190,2,59,[s2_0,s2_1],z2,x190,y190,x190_D,Tryd.ntmps190.symm,Tryd.func190,x190_b,x190_k,x190_s,by decide,z2_ok,x190_c,x190_r⟩
def x191_0 : List (Ins tf3) := [iGa (a1 gBox) [r3_0] (some s3_2),iGa (aAl 3 [(.int .u8 (.ofNat 0)),(.slice none 0 0),(.slice none 0 0)]) [] (some s3_4),iAs (rk (.int .i64 (.ofNat 0))) s3_5]
def x191_1 : List (Ins tf3) := [iGr (r1 (rLdn 2)) [r3_2] (some s3_19),iCall (rk (.func (.func 199) #[] #[])) [r3_19] (some s3_20),iAs r3_20 s3_6]
def x191_2 : List (Ins tf3) := [iMv r3_6 s3_21,iP2 bNe r3_21 (rk (.int .i64 (.ofNat 0))) s3_22]
def x191_3 : List (Ins tf3) := [iGp (pBld [(.int .u8 (.ofNat 0)),(.slice none 0 0),(.slice none 0 0)] []) [] (some s3_23),iMv r3_6 s3_24,iGm (m2 (sStn 3)) [r3_4,r3_23] none,iAs r3_24 s3_5]
def x191_4 : List (Ins tf3) := [iMv r3_1 s3_25,iP2 bLt r3_25 (rk (.int .i64 (.ofNat 0))) s3_26,iMv r3_26 s3_27,iGd r3_27 [.o3,.o3,.o0] false (iMv r3_1 s3_28) (some s3_28) rfl rfl rfl,iGd r3_27 [.o3,.o3,.o0] false (iP2 bGt r3_28 (rk (.int .i64 (.ofNat 1099511627776))) s3_29) (some s3_29) rfl rfl rfl,iGp (l3 pPick) [r3_27,(rk (.bool true)),r3_29] (some s3_30)]
def x191_5 : List (Ins tf3) := [iGp (pBld [(.int .u8 (.ofNat 0)),(.slice none 0 0),(.slice none 0 0)] []) [] (some s3_31),iGm (m2 (sStn 3)) [r3_4,r3_31] none,iAs (rk (.int .i64 (.ofNat 3))) s3_5]
def x191_6 : List (Ins tf3) := [iP1 (bFa 0) r3_2 s3_33,iR1 bLd r3_33 s3_34,iCall (rk (.func (.func 200) #[] #[])) [r3_34] (some s3_35),iMv r3_35 s3_32,iGp (l1 (pExt 0)) [r3_32] (some s3_36),iGp (l1 (pExt 1)) [r3_32] (some s3_37),iAs r3_36 s3_7,iAs r3_37 s3_8]
def x191_7 : List (Ins tf3) := [iMv r3_8 s3_38,iP2 bNe r3_38 (rk (.int .i64 (.ofNat 0))) s3_39]
def x191_8 : List (Ins tf3) := [iGp (pBld [(.int .u8 (.ofNat 0)),(.slice none 0 0),(.slice none 0 0)] []) [] (some s3_40),iMv r3_8 s3_41,iGm (m2 (sStn 3)) [r3_4,r3_40] none,iAs r3_41 s3_5]
def x191_9 : List (Ins tf3) := [iP1 (bFa 0) r3_2 s3_42,iR1 bLd r3_42 s3_43,iP2 bAdd r3_43 (rk (.int .i64 (.ofNat 1))) s3_44,iAs r3_44 s3_9]
def x191_10 : List (Ins tf3) := [iMv r3_7 s3_45,iMv r3_9 s3_46,iGp (l2 (pBin .mul)) [(rk (.int .i64 (.ofNat 2))),r3_46] (some s3_47),iGa (a2 (gMks 1 24 [(.slice none 0 0)])) [r3_47,r3_47] (some s3_48),iMv r3_9 s3_49,iGa (a2 (gMks 1 1 [(.int .i8 (.ofNat 0))])) [r3_49,r3_49] (some s3_50),iMv r3_9 s3_51,iGa (a2 (gMks 1 1 [(.int .i8 (.ofNat 0))])) [r3_51,r3_51] (some s3_52),iMv r3_9 s3_53,iGa (a2 (gMks 1 8 [(.int .i64 (.ofNat 0))])) [r3_53,r3_53] (some s3_54),iMv r3_9 s3_55,iGa (a2 (gMks 1 8 [(.int .i64 (.ofNat 0))])) [r3_55,r3_55] (some s3_56),iMv r3_9 s3_57,iGa (a2 (gMks 1 1 [(.bool false)])) [r3_57,r3_57] (some s3_58),iGp (pBld [(.pointer none),(.slice none 0 0),(.slice none 0 0),(.slice none 0 0),(.slice none 0 0),(.slice none 0 0),(.slice none 0 0),(.slice none 0 0),(.slice none 0 0),(.int .i64 (.ofNat 0)),(.slice none 0 0),(.slice none 0 0),(.int .i64 (.ofNat 0))] [(0,1),(2,1),(3,1),(4,1),(5,1),(6,1),(7,1),(12,1)]) [r3_45,r3_48,r3_50,r3_52,r3_54,r3_56,r3_58,(rk (.int .i64 (.ofNat 16)))] (some s3_59),iGa (a1 gBox) [r3_59] (some s3_60),iAs r3_60 s3_10]
def x191_11 : List (Ins tf3) := [iMv r3_10 s3_61,iGr (r1 (rLdn 2)) [r3_2] (some s3_62),iCall (rk (.func (.func 201) #[] #[])) [r3_61,r3_62] (some s3_63),iGp (l1 (pUn .not)) [r3_63] (some s3_64)]
def x191_12 : List (Ins tf3) := [iMv r3_10 s3_65,iCall (rk (.func (.func 202) #[] #[])) [r3_65] (some s3_66),iGm (m2 (sStn 3)) [r3_4,r3_66] none,iAs (rk (.int .i64 (.ofNat 0))) s3_5]
def x191_13 : List (Ins tf3) := [iAs (rk (.int .i64 (.ofNat 0))) s3_11,iAs (rk (.int .i64 (.ofNat 1))) s3_12,iAs (rk (.int .i64 (.ofNat 64))) s3_13]
def x191_14 : List (Ins tf3) := [iMv r3_10 s3_67,iCall (rk (.func (.func 203) #[] #[])) [r3_67] (some s3_68),iAs r3_68 s3_14]
def x191_15 : List (Ins tf3) := [iMv r3_14 s3_107,iP2 bGe r3_107 (rk (.int .i64 (.ofNat 0))) s3_108,iMv r3_108 s3_109,iGd r3_109 [.o5,.o5,.o1] true (iMv r3_10 s3_110) (some s3_110) rfl rfl rfl,iGd r3_109 [.o5,.o5,.o1] true (iP1 bNil r3_110 s3_111) (some s3_111) rfl rfl rfl,iGd r3_109 [.o5,.o5,.o1] true (iP1 (bFa 10) r3_111 s3_112) (some s3_112) rfl rfl rfl,iGd r3_109 [.o5,.o5,.o1] true (iR1 bLd r3_112 s3_113) (some s3_113) rfl rfl rfl,iGd r3_109 [.o5,.o5,.o1] true (iP1 bLen r3_113 s3_114) (some s3_114) rfl rfl rfl,iGd r3_109 [.o5,.o5,.o1] true (iP2 bEq r3_114 (rk (.int .i64 (.ofNat 0))) s3_115) (some s3_115) rfl rfl rfl,iGp (l3 pPick) [r3_109,r3_115,(rk (.bool false))] (some s3_116),iAs r3_116 s3_106]
def x191_16 : List (Ins tf3) := [iMv r3_10 s3_117,iCall (rk (.func (.func 202) #[] #[])) [r3_117] (some s3_118),iGm (m2 (sStn 3)) [r3_4,r3_118] none,iAs (rk (.int .i64 (.ofNat 0))) s3_5]
def x191_17 : List (Ins tf3) := [iMv r3_14 s3_120,iP2 bGe r3_120 (rk (.int .i64 (.ofNat 0))) s3_121,iAs r3_121 s3_119]
def x191_18 : List (Ins tf3) := [iMv r3_11 s3_122,iP2 bAdd r3_122 (rk (.int .i64 (.ofNat 1))) s3_123,iAs r3_123 s3_11]
def x191_19 : List (Ins tf3) := [iMv r3_10 s3_125,iMv r3_14 s3_126,iCall (rk (.func (.func 204) #[] #[])) [r3_125,r3_126] (some s3_127),iMv r3_127 s3_124,iGp (l1 (pExt 0)) [r3_124] (some s3_128),iGp (l1 (pExt 1)) [r3_124] (some s3_129),iAs r3_128 s3_15,iAs r3_129 s3_16]
def x191_20 : List (Ins tf3) := [iMv r3_10 s3_130,iMv r3_10 s3_131,iP1 bNil r3_131 s3_132,iP1 (bFa 11) r3_132 s3_133,iR1 bLd r3_133 s3_134,iMv r3_15 s3_135,iRc (iGm (m2 (sApp 1)) [(rk (.slice none 0 0)),r3_135] (some s3_136)) [(rcLd r3_133 r3_134 [.o6,.o0,.o2] rfl)] rfl,iGa (aBsl 1 1 [(.slice none 0 0)] [(0,1)]) [r3_136] (some s3_137),iGm (m2 (sApp 1)) [r3_134,r3_137] (some s3_138),iP1 bNil r3_130 s3_139,iP1 (bFa 11) r3_139 s3_140,iM2 bSt r3_140 r3_138]
def x191_21 : List (Ins tf3) := [iMv r3_10 s3_141,iMv r3_16 s3_142,iCall (rk (.func (.func 205) #[] #[])) [r3_141,r3_142] (some s3_143)]
def x191_22 : List (Ins tf3) := [iAs (rk (.int .i64 (.negSucc 0))) s3_17]
def x191_23 : List (Ins tf3) := [iMv r3_15 s3_144,iP1 bLen r3_144 s3_145,iP2 bGt r3_145 (rk (.int .i64 (.ofNat 1))) s3_146]
def x191_24 : List (Ins tf3) := [iMv r3_10 s3_147,iMv r3_15 s3_148,iCall (rk (.func (.func 206) #[] #[])) [r3_147,r3_148] (some s3_149),iAs r3_149 s3_17]
def x191_25 : List (Ins tf3) := [iMv r3_10 s3_150,iMv r3_15 s3_151,iP2 (bIxs 1) r3_151 (rk (.int .i64 (.ofNat 0))) s3_152,iR1 bLd r3_152 s3_153,iMv r3_17 s3_154,iCall (rk (.func (.func 207) #[] #[])) [r3_150,r3_153,r3_154] (some s3_155)]
def x191_26 : List (Ins tf3) := [iMv r3_10 s3_156,iMv r3_10 s3_157,iP1 bNil r3_157 s3_158,iP1 (bFa 12) r3_158 s3_159,iR1 bLd r3_159 s3_160,iMv r3_10 s3_161,iP1 bNil r3_161 s3_162,iP1 (bFa 12) r3_162 s3_163,iR1 bLd r3_163 s3_164,iGp (l2 (pBin .quo)) [r3_164,(rk (.int .i64 (.ofNat 16)))] (some s3_165),iP2 bAdd r3_160 r3_165 s3_166,iGp (l2 pMin) [r3_166,(rk (.int .i64 (.ofNat 1099511627776)))] (some s3_167),iP1 bNil r3_156 s3_168,iP1 (bFa 12) r3_168 s3_169,iM2 bSt r3_169 r3_167]
def x191_27 : List (Ins tf3) := [iMv r3_1 s3_170,iP2 bGt r3_170 (rk (.int .i64 (.ofNat 0))) s3_171,iMv r3_171 s3_172,iGd r3_172 [.o4,.o5,.o2] true (iMv r3_11 s3_173) (some s3_173) rfl rfl rfl,iGd r3_172 [.o4,.o5,.o2] true (iMv r3_1 s3_174) (some s3_174) rfl rfl rfl,iGd r3_172 [.o4,.o5,.o2] true (iP2 bGe r3_173 r3_174 s3_175) (some s3_175) rfl rfl rfl,iGp (l3 pPick) [r3_172,r3_175,(rk (.bool false))] (some s3_176)]
def x191_28 : List (Ins tf3) := [iMv r3_11 s3_178,iMv r3_13 s3_179,iP2 bGe r3_178 r3_179 s3_180,iAs r3_180 s3_177]
def x191_29 : List (Ins tf3) := [iMv r3_12 s3_181,iP2 bAdd r3_181 (rk (.int .i64 (.ofNat 1))) s3_182,iAs r3_182 s3_12]
def x191_30 : List (Ins tf3) := [iMv r3_11 s3_183,iMv r3_12 s3_184,iCall (rk (.func (.func 208) #[] #[])) [r3_184] (some s3_185),iGp (l2 (pBin .mul)) [(rk (.int .i64 (.ofNat 64))),r3_185] (some s3_186),iP2 bAdd r3_183 r3_186 s3_187,iAs r3_187 s3_13]
def x191_31 : List (Ins tf3) := [iMv r3_10 s3_188,iCall (rk (.func (.func 205) #[] #[])) [r3_188,(rk (.int .i64 (.ofNat 0)))] (some s3_189)]
def x191_32 : List (Ins tf3) := [iMv r3_10 s3_69,iCall (rk (.func (.func 209) #[] #[])) [r3_69] (some s3_70),iAs r3_70 s3_18]
def x191_33 : List (Ins tf3) := [iMv r3_18 s3_71,iP2 bEq r3_71 (rk (.int .i64 (.ofNat 0))) s3_72]
def x191_34 : List (Ins tf3) := [iMv r3_10 s3_73,iCall (rk (.func (.func 210) #[] #[])) [r3_73] (some s3_74),iGp (pBld [(.int .u8 (.ofNat 0)),(.slice none 0 0),(.slice none 0 0)] [(0,1),(1,1)]) [(rk (.int .u8 (.ofNat 1))),r3_74] (some s3_75),iGm (m2 (sStn 3)) [r3_4,r3_75] none,iAs (rk (.int .i64 (.ofNat 0))) s3_5]
def x191_35 : List (Ins tf3) := [iMv r3_10 s3_76,iMv r3_10 s3_77,iP1 bNil r3_77 s3_78,iP1 (bFa 10) r3_78 s3_79,iR1 bLd r3_79 s3_80,iMv r3_10 s3_81,iP1 bNil r3_81 s3_82,iP1 (bFa 8) r3_82 s3_83,iR1 bLd r3_83 s3_84,iP1 bLen r3_84 s3_85,iGp (pBld [(.int .i64 (.ofNat 0))] [(0,1)]) [r3_85] (some s3_86),iGa (aBsl 1 1 [(.int .i64 (.ofNat 0))] [(0,1)]) [r3_86] (some s3_87),iGm (m2 (sApp 1)) [r3_80,r3_87] (some s3_88),iP1 bNil r3_76 s3_89,iP1 (bFa 10) r3_89 s3_90,iM2 bSt r3_90 r3_88]
def x191_36 : List (Ins tf3) := [iMv r3_10 s3_91,iP1 bNil r3_91 s3_92,iP1 (bFa 4) r3_92 s3_93,iR1 bLd r3_93 s3_94,iMv r3_18 s3_95,iP2 (bIxs 1) r3_94 r3_95 s3_96,iR1 bLd r3_96 s3_97,iP2 bEq r3_97 (rk (.int .i8 (.ofNat 1))) s3_98]
def x191_37 : List (Ins tf3) := [iMv r3_10 s3_99,iMv r3_18 s3_100,iCall (rk (.func (.func 207) #[] #[])) [r3_99,r3_100,(rk (.int .i64 (.negSucc 0)))] (some s3_101)]
def x191_38 : List (Ins tf3) := [iMv r3_10 s3_102,iMv r3_18 s3_103,iGp (l1 (pUn .neg)) [r3_103] (some s3_104),iCall (rk (.func (.func 207) #[] #[])) [r3_102,r3_104,(rk (.int .i64 (.negSucc 0)))] (some s3_105)]
def x191_39 : XC tf3 := (.cond r3_119 (.rg x191_18 (.rg x191_19 (.rg x191_20 (.rg x191_21 (.rg x191_22 (.seq (.rg x191_23 (.cond r3_146 (.reg x191_24) .skip)) (.rg x191_25 (.rg x191_26 (.rg x191_27 (.cond r3_176 (.exit 0) .skip)))))))))) (.rg x191_28 (.cond r3_177 (.rg x191_29 (.rg x191_30 (.reg x191_31))) (.rg x191_32 (.seq (.rg x191_33 (.cond r3_72 (.rg x191_34 .ret) .skip)) (.rg x191_35 (.rg x191_36 (.cond r3_98 (.reg x191_37) (.reg x191_38)))))))))
def x191_40 : List (Ins tf3) := [iGp (pBld [(.int .u8 (.ofNat 0)),(.slice none 0 0),(.slice none 0 0)] []) [] (some s3_190),iGm (m2 (sStn 3)) [r3_4,r3_190] none,iAs (rk (.int .i64 (.ofNat 0))) s3_5]
def x191_41 : XC tf3 := (.seq (.rg x191_1 (.rg x191_2 (.cond r3_22 (.rg x191_3 .ret) .skip))) (.seq (.rg x191_4 (.cond r3_30 (.rg x191_5 .ret) .skip)) (.rg x191_6 (.seq (.rg x191_7 (.cond r3_39 (.rg x191_8 .ret) .skip)) (.rg x191_9 (.rg x191_10 (.seq (.rg x191_11 (.cond r3_64 (.rg x191_12 .ret) .skip)) (.rg x191_13 (.seq .skip (.seq (.block 0 (.loop (.block 1 (.rg x191_14 (.block 2 (.rg x191_15 (.cond r3_106 (.rg x191_16 .ret) (.rg x191_17 x191_39)))))))) (.rg x191_40 .ret)))))))))))
def x191 : XC tf3 := (.rg x191_0 (.scope x191_41))
def c191 : Code := Tryd.f191.body.getD .skip
theorem x191_b : Tryd.f191.body = some c191 := by kernel_rfl
theorem x191_c : cG (comp Tryd.prog) 2 3 191 x191 c191 = x191.den := by kernel_rfl
def y191 : List (RR Tryd.prog 3 191 tf3) := [rrS (.cell 4 259),rrT r3_5 5 rfl rfl]
theorem x191_r : y191.map RR.den = Tryd.f191.results.toList := by kernel_rfl
theorem x191_k : okFn Tryd.f191 = true := by kernel_rfl
theorem x191_D : 3 = dep Tryd.f191.ntmps := by kernel_rfl
theorem x191_s : ([s3_0,s3_1] : List (Slot tf3)).map Slot.p = (List.range' 0 2).map (pth 3) := by kernel_rfl
def X191 : XFn Tryd.prog 2 (comp Tryd.prog) := ⟨X3,tf3,191,Tryd.f191,c191,3,191,[s3_0,s3_1],z3,x191,y191,x191_D,Tryd.ntmps191.symm,Tryd.func191,x191_b,x191_k,x191_s,by decide,z3_ok,x191_c,x191_r⟩
def x192_0 : List (Ins tf2) := [iGa (aAl 2 [(.int .i64 (.ofNat 0)),(.slice none 0 0)]) [] (some s2_2)]
def x192_1 : List (Ins tf2) := [iMv r2_0 s2_6,iGp (l2 (pEqD (tdOf 249) false)) [r2_6,(rk (.pointer none))] (some s2_7)]
def x192_2 : List (Ins tf2) := [iGp (pBld [(.int .i64 (.ofNat 0)),(.slice none 0 0)] []) [] (some s2_8),iGm (m2 (sStn 2)) [r2_2,r2_8] none]
def x192_3 : List (Ins tf2) := [iMv r2_0 s2_9,iP1 bNil r2_9 s2_10,iP1 (bFa 0) r2_10 s2_11,iP1 (bFa 0) r2_11 s2_12,iR1 bLd r2_12 s2_13,iMv r2_0 s2_14,iP1 bNil r2_14 s2_15,iP1 (bFa 0) r2_15 s2_16,iP1 (bFa 1) r2_16 s2_17,iR1 bLd r2_17 s2_18,iP1 bLen r2_18 s2_19,iGa (a2 (gMks 1 24 [(.slice none 0 0)])) [r2_19,r2_19] (some s2_20),iGp (pBld [(.int .i64 (.ofNat 0)),(.slice none 0 0)] [(0,1),(1,1)]) [r2_13,r2_20] (some s2_21),iGa (aAl 2 [(.int .i64 (.ofNat 0)),(.slice none 0 0)]) [] (some s2_3),iGm (m2 (sStn 2)) [r2_3,r2_21] none]
def x192_4 : List (Ins tf2) := [iMv r2_0 s2_22,iP1 bNil r2_22 s2_23,iP1 (bFa 0) r2_23 s2_24,iP1 (bFa 1) r2_24 s2_25,iR1 bLd r2_25 s2_26,iP1 bLen r2_26 s2_27,iMv (rk (.int .i64 (.ofNat 0))) s2_28]
def x192_5 : List (Ins tf2) := [iP2 bLt r2_28 r2_27 s2_29]
def x192_6 : List (Ins tf2) := [iMv r2_28 s2_30,iP2 (bIxs 1) r2_26 r2_28 s2_31,iR1 bLd r2_31 s2_32,iAs r2_30 s2_4,iAs r2_32 s2_5]
def x192_7 : List (Ins tf2) := [iP1 (bFa 1) r2_3 s2_33,iR1 bLd r2_33 s2_34,iMv r2_4 s2_35,iMv r2_5 s2_36,iRc (iGm (m2 (sApp 1)) [(rk (.slice none 0 0)),r2_36] (some s2_37)) [(rcLd r2_33 r2_34 [.o2,.o4] rfl)] rfl,iP2 (bIxs 1) r2_34 r2_35 s2_38,iM2 bSt r2_38 r2_37]
def x192_8 : List (Ins tf2) := [iP2 bAdd r2_28 (rk (.int .i64 (.ofNat 1))) s2_39,iMv r2_39 s2_28]
def x192_9 : List (Ins tf2) := [iGr (r1 (rLdn 2)) [r2_3] (some s2_40),iGm (m2 (sStn 2)) [r2_2,r2_40] none]
def x192 : XC tf2 := (.rg x192_0 (.seq (.rg x192_1 (.cond r2_7 (.rg x192_2 .ret) .skip)) (.rg x192_3 (.seq (.rg x192_4 (.block 0 (.loop (.rg x192_5 (.seq (.cond r2_29 .skip (.exit 0)) (.seq (.block 1 (.rg x192_6 (.reg x192_7))) (.reg x192_8))))))) (.rg x192_9 .ret)))))
def c192 : Code := Tryd.f192.body.getD .skip
theorem x192_b : Tryd.f192.body = some c192 := by kernel_rfl
theorem x192_c : cG (comp Tryd.prog) 2 2 41 x192 c192 = x192.den := by kernel_rfl
def y192 : List (RR Tryd.prog 2 41 tf2) := [rrS (.cell 2 263)]
theorem x192_r : y192.map RR.den = Tryd.f192.results.toList := by kernel_rfl
theorem x192_k : okFn Tryd.f192 = true := by kernel_rfl
theorem x192_D : 2 = dep Tryd.f192.ntmps := by kernel_rfl
theorem x192_s : ([s2_0] : List (Slot tf2)).map Slot.p = (List.range' 0 1).map (pth 2) := by kernel_rfl
def X192 : XFn Tryd.prog 2 (comp Tryd.prog) := ⟨X2,tf2,192,Tryd.f192,c192,2,41,[s2_0],z2,x192,y192,x192_D,Tryd.ntmps192.symm,Tryd.func192,x192_b,x192_k,x192_s,by decide,z2_ok,x192_c,x192_r⟩
def x193_0 : List (Ins tf3) := [iAs (rk (.slice none 0 0)) s3_6,iAs (rk (.int .i64 (.ofNat 0))) s3_7]
def x193_1 : List (Ins tf3) := [iMv r3_0 s3_13,iGp (l2 (pEqD (tdOf 251) false)) [r3_13,(rk (.pointer none))] (some s3_14)]
def x193_2 : List (Ins tf3) := [iAs (rk (.slice none 0 0)) s3_6,iAs (rk (.int .i64 (.ofNat 1))) s3_7]
def x193_3 : List (Ins tf3) := [iMv r3_1 s3_15,iP2 bLt r3_15 (rk (.int .i64 (.ofNat 0))) s3_16,iMv r3_16 s3_17,iGd r3_17 [.o1,.o2,.o0] false (iMv r3_1 s3_18) (some s3_18) rfl rfl rfl,iGd r3_17 [.o1,.o2,.o0] false (iP2 bGt r3_18 (rk (.int .i64 (.ofNat 4194304))) s3_19) (some s3_19) rfl rfl rfl,iGp (l3 pPick) [r3_17,(rk (.bool true)),r3_19] (some s3_20)]
def x193_4 : List (Ins tf3) := [iAs (rk (.slice none 0 0)) s3_6,iAs (rk (.int .i64 (.ofNat 3))) s3_7]
def x193_5 : List (Ins tf3) := [iMv r3_1 s3_21,iGa (a2 (gMks 1 8 [(.int .u64 (.ofNat 0))])) [r3_21,r3_21] (some s3_22),iAs r3_22 s3_8]
def x193_6 : List (Ins tf3) := [iMv r3_0 s3_23,iP1 bNil r3_23 s3_24,iP1 (bFa 3) r3_24 s3_25,iR1 bLd r3_25 s3_26,iGm (m1 sRng) [r3_26] (some s3_27)]
def x193_7 : List (Ins tf3) := [iGm (m1 sNxt) [r3_27] (some s3_28),iGp (l1 (pExt 0)) [r3_28] (some s3_29)]
def x193_8 : List (Ins tf3) := [iGr (r1 rEnt) [r3_27] (some s3_30),iGp (l1 (pExt 0)) [r3_30] (some s3_31),iGp (l1 (pExt 1)) [r3_30] (some s3_32),iAs r3_31 s3_9,iAs r3_32 s3_10]
def x193_9 : List (Ins tf3) := [iMv r3_9 s3_33,iMv r3_1 s3_34,iP1 (bCv .u64) r3_34 s3_35,iP2 bGe r3_33 r3_35 s3_36]
def x193_10 : List (Ins tf3) := [iMv r3_0 s3_37,iP1 bNil r3_37 s3_38,iP1 (bFa 2) r3_38 s3_39,iR1 bLd r3_39 s3_40,iMv r3_10 s3_41,iGr (r2 (rLook [0] false (.slice none 0 0) false)) [r3_40,r3_41] (some s3_42),iP1 bLen r3_42 s3_43,iMv (rk (.int .i64 (.ofNat 0))) s3_44]
def x193_11 : List (Ins tf3) := [iP2 bLt r3_44 r3_43 s3_45]
def x193_12 : List (Ins tf3) := [iMv r3_44 s3_46,iP2 (bIxs 1) r3_42 r3_44 s3_47,iR1 bLd r3_47 s3_48,iAs r3_46 s3_11,iAs r3_48 s3_12]
def x193_13 : List (Ins tf3) := [iMv r3_12 s3_49,iP2 bSub r3_49 (rk (.int .i64 (.ofNat 1))) s3_50,iMv r3_2 s3_51,iP1 bLen r3_51 s3_52,iP2 bLt r3_50 r3_52 s3_53,iMv r3_53 s3_54,iGd r3_54 [.o6,.o6,.o0] true (iMv r3_2 s3_55) (some s3_55) rfl rfl rfl,iGd r3_54 [.o6,.o6,.o0] true (iMv r3_12 s3_56) (some s3_56) rfl rfl rfl,iGd r3_54 [.o6,.o6,.o0] true (iP2 bSub r3_56 (rk (.int .i64 (.ofNat 1))) s3_57) (some s3_57) rfl rfl rfl,iGd r3_54 [.o6,.o6,.o0] true (iP2 (bIxs 1) r3_55 r3_57 s3_58) (some s3_58) rfl rfl rfl,iGd r3_54 [.o6,.o6,.o0] true (iR1 bLd r3_58 s3_59) (some s3_59) rfl rfl rfl,iGp (l3 pPick) [r3_54,r3_59,(rk (.bool false))] (some s3_60)]
def x193_14 : List (Ins tf3) := [iMv r3_8 s3_61,iMv r3_9 s3_62,iP2 (bIxs 1) r3_61 r3_62 s3_63,iR1 bLd r3_63 s3_64,iMv r3_11 s3_65,iGp (l2 (pBin .shl)) [(rk (.int .u64 (.ofNat 1))),r3_65] (some s3_66),iGp (l2 (pBin .or)) [r3_64,r3_66] (some s3_67),iP2 (bIxs 1) r3_61 r3_62 s3_68,iM2 bSt r3_68 r3_67]
def x193_15 : List (Ins tf3) := [iP2 bAdd r3_44 (rk (.int .i64 (.ofNat 1))) s3_69,iMv r3_69 s3_44]
def x193_16 : List (Ins tf3) := [iMv r3_8 s3_70,iAs r3_70 s3_6,iAs (rk (.int .i64 (.ofNat 0))) s3_7]
def x193_17 : XC tf3 := (.seq (.rg x193_3 (.cond r3_20 (.rg x193_4 .ret) .skip)) (.rg x193_5 (.seq (.rg x193_6 (.block 0 (.loop (.rg x193_7 (.seq (.cond r3_29 .skip (.exit 0)) (.block 1 (.rg x193_8 (.seq (.rg x193_9 (.cond r3_36 (.exit 1) .skip)) (.rg x193_10 (.block 2 (.loop (.rg x193_11 (.seq (.cond r3_45 .skip (.exit 2)) (.seq (.block 3 (.rg x193_12 (.rg x193_13 (.cond r3_60 (.reg x193_14) .skip)))) (.reg x193_15))))))))))))))) (.rg x193_16 .ret))))
def x193 : XC tf3 := (.rg x193_0 (.seq (.rg x193_1 (.cond r3_14 (.rg x193_2 .ret) .skip)) x193_17))
def c193 : Code := Tryd.f193.body.getD .skip
theorem x193_b : Tryd.f193.body = some c193 := by kernel_rfl
theorem x193_c : cG (comp Tryd.prog) 2 3 71 x193 c193 = x193.den := by kernel_rfl
def y193 : List (RR Tryd.prog 3 71 tf3) := [rrT r3_6 6 rfl rfl,rrT r3_7 7 rfl rfl]
theorem x193_r : y193.map RR.den = Tryd.f193.results.toList := by kernel_rfl
theorem x193_k : okFn Tryd.f193 = true := by kernel_rfl
theorem x193_D : 3 = dep Tryd.f193.ntmps := by kernel_rfl
theorem x193_s : ([s3_0,s3_1,s3_2] : List (Slot tf3)).map Slot.p = (List.range' 0 3).map (pth 3) := by kernel_rfl
def X193 : XFn Tryd.prog 2 (comp Tryd.prog) := ⟨X3,tf3,193,Tryd.f193,c193,3,71,[s3_0,s3_1,s3_2],z3,x193,y193,x193_D,Tryd.ntmps193.symm,Tryd.func193,x193_b,x193_k,x193_s,by decide,z3_ok,x193_c,x193_r⟩
def x194_0 : List (Ins tf3) := [iAs (rk (.map none)) s3_4,iAs (rk (.int .i64 (.ofNat 0))) s3_5]
def x194_1 : List (Ins tf3) := [iMv r3_0 s3_15,iGp (l2 (pEqD (tdOf 34) false)) [r3_15,(rk (.pointer none))] (some s3_16)]
def x194_2 : List (Ins tf3) := [iAs (rk (.map none)) s3_4,iAs (rk (.int .i64 (.ofNat 1))) s3_5]
def x194_3 : List (Ins tf3) := [iMv r3_1 s3_17,iP1 bLen r3_17 s3_18,iMv (rk (.int .i64 (.ofNat 0))) s3_19]
def x194_4 : List (Ins tf3) := [iP2 bLt r3_19 r3_18 s3_20]
def x194_5 : List (Ins tf3) := [iP2 (bIxs 1) r3_17 r3_19 s3_21,iR1 bLd r3_21 s3_22,iAs r3_22 s3_7]
def x194_6 : List (Ins tf3) := [iMv r3_7 s3_23,iP2 bLt r3_23 (rk (.int .i64 (.ofNat 0))) s3_24,iMv r3_24 s3_25,iGd r3_25 [.o1,.o3,.o0] false (iMv r3_7 s3_26) (some s3_26) rfl rfl rfl,iGd r3_25 [.o1,.o3,.o0] false (iMv r3_0 s3_27) (some s3_27) rfl rfl rfl,iGd r3_25 [.o1,.o3,.o0] false (iCall (rk (.func (.func 74) #[] #[])) [r3_27] (some s3_28)) (some s3_28) rfl rfl rfl,iGd r3_25 [.o1,.o3,.o0] false (iP2 bGe r3_26 r3_28 s3_29) (some s3_29) rfl rfl rfl,iGp (l3 pPick) [r3_25,(rk (.bool true)),r3_29] (some s3_30)]
def x194_7 : List (Ins tf3) := [iAs (rk (.map none)) s3_4,iAs (rk (.int .i64 (.ofNat 3))) s3_5]
def x194_8 : List (Ins tf3) := [iP2 bAdd r3_19 (rk (.int .i64 (.ofNat 1))) s3_31,iMv r3_31 s3_19]
def x194_9 : List (Ins tf3) := [iGa aMm [] (some s3_32),iAs r3_32 s3_8]
def x194_10 : List (Ins tf3) := [iMv r3_1 s3_33,iGm (m2 (sApp 1)) [(rk (.slice none 0 0)),r3_33] (some s3_34),iAs r3_34 s3_9]
def x194_11 : List (Ins tf3) := [iMv r3_9 s3_35,iP1 bLen r3_35 s3_36,iP2 bGt r3_36 (rk (.int .i64 (.ofNat 0))) s3_37]
def x194_12 : List (Ins tf3) := [iMv r3_9 s3_38,iMv r3_9 s3_39,iP1 bLen r3_39 s3_40,iP2 bSub r3_40 (rk (.int .i64 (.ofNat 1))) s3_41,iP2 (bIxs 1) r3_38 r3_41 s3_42,iR1 bLd r3_42 s3_43,iAs r3_43 s3_10]
def x194_13 : List (Ins tf3) := [iMv r3_9 s3_44,iMv r3_9 s3_45,iP1 bLen r3_45 s3_46,iP2 bSub r3_46 (rk (.int .i64 (.ofNat 1))) s3_47,iGp (pSlB (pSl 1) false true false) [r3_44,r3_47] (some s3_48),iAs r3_48 s3_9]
def x194_14 : List (Ins tf3) := [iMv r3_8 s3_50,iMv r3_10 s3_51,iGr (r2 (rLook [0] false (.agg ⟨[(.int .u8 (.ofNat 0)),(.int .u64 (.ofNat 0)),(.slice none 0 0)]⟩) true)) [r3_50,r3_51] (some s3_52),iMv r3_52 s3_49,iGp (l1 (pExt 0)) [r3_49] (some s3_53),iGp (l1 (pExt 1)) [r3_49] (some s3_54),iGa (aAl 3 [(.int .u8 (.ofNat 0)),(.int .u64 (.ofNat 0)),(.slice none 0 0)]) [] (some s3_11),iGm (m2 (sStn 3)) [r3_11,r3_53] none,iAs r3_54 s3_12]
def x194_15 : List (Ins tf3) := [iMv r3_12 s3_55]
def x194_16 : List (Ins tf3) := [iMv r3_0 s3_57,iMv r3_10 s3_58,iCall (rk (.func (.func 75) #[] #[])) [r3_57,r3_58] (some s3_59),iMv r3_59 s3_56,iGp (l1 (pExt 0)) [r3_56] (some s3_60),iGp (l1 (pExt 1)) [r3_56] (some s3_61),iGa (aAl 3 [(.int .u8 (.ofNat 0)),(.int .u64 (.ofNat 0)),(.slice none 0 0)]) [] (some s3_13),iGm (m2 (sStn 3)) [r3_13,r3_60] none,iAs r3_61 s3_14]
def x194_17 : List (Ins tf3) := [iMv r3_8 s3_62,iMv r3_10 s3_63,iGr (r1 (rLdn 3)) [r3_13] (some s3_64),iGm (m3 (sUpd [0] false)) [r3_62,r3_63,r3_64] none]
def x194_18 : List (Ins tf3) := [iMv r3_9 s3_65,iP1 (bFa 2) r3_13 s3_66,iR1 bLd r3_66 s3_67,iGm (m2 (sApp 1)) [r3_65,r3_67] (some s3_68),iAs r3_68 s3_9]
def x194_19 : List (Ins tf3) := [iMv r3_8 s3_69,iAs r3_69 s3_4,iAs (rk (.int .i64 (.ofNat 0))) s3_5]
def x194_20 : XC tf3 := (.seq (.rg x194_3 (.block 0 (.loop (.rg x194_4 (.seq (.cond r3_20 .skip (.exit 0)) (.seq (.block 1 (.rg x194_5 (.rg x194_6 (.cond r3_30 (.rg x194_7 .ret) .skip)))) (.reg x194_8))))))) (.rg x194_9 (.rg x194_10 (.seq .skip (.seq (.block 2 (.loop (.seq (.rg x194_11 (.cond r3_37 .skip (.exit 2))) (.block 3 (.rg x194_12 (.rg x194_13 (.seq (.rg x194_14 (.rg x194_15 (.cond r3_55 (.exit 3) .skip))) (.rg x194_16 (.rg x194_17 (.reg x194_18)))))))))) (.rg x194_19 .ret))))))
def x194 : XC tf3 := (.rg x194_0 (.scope (.seq (.rg x194_1 (.cond r3_16 (.rg x194_2 .ret) .skip)) x194_20)))
def c194 : Code := Tryd.f194.body.getD .skip
theorem x194_b : Tryd.f194.body = some c194 := by kernel_rfl
theorem x194_c : cG (comp Tryd.prog) 2 3 70 x194 c194 = x194.den := by kernel_rfl
def y194 : List (RR Tryd.prog 3 70 tf3) := [rrT r3_4 4 rfl rfl,rrT r3_5 5 rfl rfl]
theorem x194_r : y194.map RR.den = Tryd.f194.results.toList := by kernel_rfl
theorem x194_k : okFn Tryd.f194 = true := by kernel_rfl
theorem x194_D : 3 = dep Tryd.f194.ntmps := by kernel_rfl
theorem x194_s : ([s3_0,s3_1] : List (Slot tf3)).map Slot.p = (List.range' 0 2).map (pth 3) := by kernel_rfl
def X194 : XFn Tryd.prog 2 (comp Tryd.prog) := ⟨X3,tf3,194,Tryd.f194,c194,3,70,[s3_0,s3_1],z3,x194,y194,x194_D,Tryd.ntmps194.symm,Tryd.func194,x194_b,x194_k,x194_s,by decide,z3_ok,x194_c,x194_r⟩
def x195_0 : List (Ins tf2) := [iMv r2_0 s2_3,iP1 bLen r2_3 s2_4,iAs r2_4 s2_2]
def x195_1 : List (Ins tf2) := [iMv r2_0 s2_5,iMv r2_2 s2_6,iMv r2_2 s2_7,iP1 (bCv .u64) r2_7 s2_8,iCall (rk (.func (.func 212) #[] #[])) [r2_8] (some s2_9),iCall (rk (.func (.func 211) #[] #[])) [r2_5,(rk (.int .i64 (.ofNat 0))),r2_6,r2_9] (some s2_10)]
def x195 : XC tf2 := (.rg x195_0 (.reg x195_1))
def c195 : Code := Tryd.f195.body.getD .skip
theorem x195_b : Tryd.f195.body = some c195 := by kernel_rfl
theorem x195_c : cG (comp Tryd.prog) 2 2 11 x195 c195 = x195.den := by kernel_rfl
def y195 : List (RR Tryd.prog 2 11 tf2) := []
theorem x195_r : y195.map RR.den = Tryd.f195.results.toList := by kernel_rfl
theorem x195_k : okFn Tryd.f195 = true := by kernel_rfl
theorem x195_D : 2 = dep Tryd.f195.ntmps := by kernel_rfl
theorem x195_s : ([s2_0] : List (Slot tf2)).map Slot.p = (List.range' 0 1).map (pth 2) := by kernel_rfl
def X195 : XFn Tryd.prog 2 (comp Tryd.prog) := ⟨X2,tf2,195,Tryd.f195,c195,2,11,[s2_0],z2,x195,y195,x195_D,Tryd.ntmps195.symm,Tryd.func195,x195_b,x195_k,x195_s,by decide,z2_ok,x195_c,x195_r⟩
def x197_0 : List (Ins tf2) := [iAs (rk (.int .i64 (.ofNat 0))) s2_4,iAs (rk (.int .i64 (.ofNat 0))) s2_5]
def x197_1 : List (Ins tf2) := [iMv r2_0 s2_11,iMv r2_1 s2_12,iGa (aBsl 1 1 [(.slice none 0 0)] [(0,1)]) [r2_12] (some s2_13),iCall (rk (.func (.func 215) #[] #[])) [r2_11,(rk (.slice none 0 0)),r2_13] (some s2_14),iAs r2_14 s2_6]
def x197_2 : List (Ins tf2) := [iMv r2_6 s2_15,iP2 bNe r2_15 (rk (.int .i64 (.ofNat 0))) s2_16]
def x197_3 : List (Ins tf2) := [iMv r2_6 s2_17,iAs (rk (.int .i64 (.ofNat 0))) s2_4,iAs r2_17 s2_5]
def x197_4 : List (Ins tf2) := [iMv r2_0 s2_18,iGp (pBld [(.pointer none),(.int .i64 (.ofNat 0))] [(0,1)]) [r2_18] (some s2_19),iGa (a1 gBox) [r2_19] (some s2_20),iAs r2_20 s2_7]
def x197_5 : List (Ins tf2) := [iMv r2_0 s2_21,iCall (rk (.func (.func 216) #[] #[])) [r2_21] (some s2_22),iGp (l1 (pUn .neg)) [r2_22] (some s2_23),iAs r2_23 s2_8]
def x197_6 : List (Ins tf2) := [iMv r2_1 s2_24,iP1 bLen r2_24 s2_25,iMv (rk (.int .i64 (.ofNat 0))) s2_26]
def x197_7 : List (Ins tf2) := [iP2 bLt r2_26 r2_25 s2_27]
def x197_8 : List (Ins tf2) := [iP2 (bIxs 1) r2_24 r2_26 s2_28,iR1 bLd r2_28 s2_29,iAs r2_29 s2_10]
def x197_9 : List (Ins tf2) := [iMv r2_7 s2_30,iMv r2_8 s2_31,iMv r2_10 s2_32,iCall (rk (.func (.func 217) #[] #[])) [r2_30,r2_31,r2_32] (some s2_33),iAs r2_33 s2_8]
def x197_10 : List (Ins tf2) := [iP2 bAdd r2_26 (rk (.int .i64 (.ofNat 1))) s2_34,iMv r2_34 s2_26]
def x197_11 : List (Ins tf2) := [iMv r2_7 s2_35,iMv r2_8 s2_36,iCall (rk (.func (.func 218) #[] #[])) [r2_35,r2_36] (some s2_37),iGp (l1 (pExt 0)) [r2_37] (some s2_38),iGp (l1 (pExt 1)) [r2_37] (some s2_39),iAs r2_38 s2_4,iAs r2_39 s2_5]
def x197 : XC tf2 := (.rg x197_0 (.seq (.rg x197_1 (.rg x197_2 (.cond r2_16 (.rg x197_3 .ret) .skip))) (.rg x197_4 (.rg x197_5 (.seq (.rg x197_6 (.block 0 (.loop (.rg x197_7 (.seq (.cond r2_27 .skip (.exit 0)) (.seq (.block 1 (.rg x197_8 (.reg x197_9))) (.reg x197_10))))))) (.rg x197_11 .ret))))))
def c197 : Code := Tryd.f197.body.getD .skip
theorem x197_b : Tryd.f197.body = some c197 := by kernel_rfl
theorem x197_c : cG (comp Tryd.prog) 2 2 40 x197 c197 = x197.den := by kernel_rfl
def y197 : List (RR Tryd.prog 2 40 tf2) := [rrT r2_4 4 rfl rfl,rrT r2_5 5 rfl rfl]
theorem x197_r : y197.map RR.den = Tryd.f197.results.toList := by kernel_rfl
theorem x197_k : okFn Tryd.f197 = true := by kernel_rfl
theorem x197_D : 2 = dep Tryd.f197.ntmps := by kernel_rfl
theorem x197_s : ([s2_0,s2_1] : List (Slot tf2)).map Slot.p = (List.range' 0 2).map (pth 2) := by kernel_rfl
def X197 : XFn Tryd.prog 2 (comp Tryd.prog) := ⟨X2,tf2,197,Tryd.f197,c197,2,40,[s2_0,s2_1],z2,x197,y197,x197_D,Tryd.ntmps197.symm,Tryd.func197,x197_b,x197_k,x197_s,by decide,z2_ok,x197_c,x197_r⟩
def x198_0 : List (Ins tf2) := [iAs (rk (.int .i64 (.ofNat 0))) s2_4]
def x198_1 : List (Ins tf2) := [iMv r2_0 s2_5,iGp (l2 (pEqD (tdOf 249) false)) [r2_5,(rk (.pointer none))] (some s2_6)]
def x198_2 : List (Ins tf2) := [iAs (rk (.int .i64 (.ofNat 1))) s2_4]
def x198_3 : List (Ins tf2) := [iMv r2_0 s2_7,iMv r2_1 s2_8,iCall (rk (.func (.func 219) #[] #[])) [r2_7,r2_8] (some s2_9),iGp (l1 (pUn .not)) [r2_9] (some s2_10)]
def x198_4 : List (Ins tf2) := [iAs (rk (.int .i64 (.ofNat 3))) s2_4]
def x198_5 : List (Ins tf2) := [iMv r2_1 s2_11,iP1 bLen r2_11 s2_12,iP2 bGt r2_12 (rk (.int .i64 (.ofNat 4096))) s2_13,iMv r2_13 s2_14,iGd r2_14 [.o6,.o1] false (iMv r2_0 s2_15) (some s2_15) rfl rfl rfl,iGd r2_14 [.o6,.o1] false (iP1 bNil r2_15 s2_16) (some s2_16) rfl rfl rfl,iGd r2_14 [.o6,.o1] false (iP1 (bFa 0) r2_16 s2_17) (some s2_17) rfl rfl rfl,iGd r2_14 [.o6,.o1] false (iP1 (bFa 1) r2_17 s2_18) (some s2_18) rfl rfl rfl,iGd r2_14 [.o6,.o1] false (iR1 bLd r2_18 s2_19) (some s2_19) rfl rfl rfl,iGd r2_14 [.o6,.o1] false (iP1 bLen r2_19 s2_20) (some s2_20) rfl rfl rfl,iGd r2_14 [.o6,.o1] false (iP2 bEq r2_20 (rk (.int .i64 (.ofNat 1048576))) s2_21) (some s2_21) rfl rfl rfl,iGp (l3 pPick) [r2_14,(rk (.bool true)),r2_21] (some s2_22)]
def x198_6 : List (Ins tf2) := [iAs (rk (.int .i64 (.ofNat 5))) s2_4]
def x198_7 : List (Ins tf2) := [iMv r2_0 s2_23,iMv r2_0 s2_24,iP1 bNil r2_24 s2_25,iP1 (bFa 0) r2_25 s2_26,iP1 (bFa 1) r2_26 s2_27,iR1 bLd r2_27 s2_28,iMv r2_1 s2_29,iRc (iGm (m2 (sApp 1)) [(rk (.slice none 0 0)),r2_29] (some s2_30)) [(rcLd r2_27 r2_28 [.o4,.o3] rfl)] rfl,iGa (aBsl 1 1 [(.slice none 0 0)] [(0,1)]) [r2_30] (some s2_31),iGm (m2 (sApp 1)) [r2_28,r2_31] (some s2_32),iP1 bNil r2_23 s2_33,iP1 (bFa 0) r2_33 s2_34,iP1 (bFa 1) r2_34 s2_35,iM2 bSt r2_35 r2_32]
def x198_8 : List (Ins tf2) := [iAs (rk (.int .i64 (.ofNat 0))) s2_4]
def x198 : XC tf2 := (.rg x198_0 (.seq (.rg x198_1 (.cond r2_6 (.rg x198_2 .ret) .skip)) (.seq (.rg x198_3 (.cond r2_10 (.rg x198_4 .ret) .skip)) (.seq (.rg x198_5 (.cond r2_22 (.rg x198_6 .ret) .skip)) (.rg x198_7 (.rg x198_8 .ret))))))
def c198 : Code := Tryd.f198.body.getD .skip
theorem x198_b : Tryd.f198.body = some c198 := by kernel_rfl
theorem x198_c : cG (comp Tryd.prog) 2 2 36 x198 c198 = x198.den := by kernel_rfl
def y198 : List (RR Tryd.prog 2 36 tf2) := [rrT r2_4 4 rfl rfl]
theorem x198_r : y198.map RR.den = Tryd.f198.results.toList := by kernel_rfl
theorem x198_k : okFn Tryd.f198 = true := by kernel_rfl
theorem x198_D : 2 = dep Tryd.f198.ntmps := by kernel_rfl
theorem x198_s : ([s2_0,s2_1] : List (Slot tf2)).map Slot.p = (List.range' 0 2).map (pth 2) := by kernel_rfl
def X198 : XFn Tryd.prog 2 (comp Tryd.prog) := ⟨X2,tf2,198,Tryd.f198,c198,2,36,[s2_0,s2_1],z2,x198,y198,x198_D,Tryd.ntmps198.symm,Tryd.func198,x198_b,x198_k,x198_s,by decide,z2_ok,x198_c,x198_r⟩
def x199_0 : List (Ins tf2) := [iGa (a1 gBox) [r2_0] (some s2_1),iAs (rk (.int .i64 (.ofNat 0))) s2_2]
def x199_1 : List (Ins tf2) := [iP1 (bFa 0) r2_1 s2_5,iR1 bLd r2_5 s2_6,iP2 bLt r2_6 (rk (.int .i64 (.ofNat 0))) s2_7,iMv r2_7 s2_8,iGd r2_8 [.o0,.o1] false (iP1 (bFa 0) r2_1 s2_9) (some s2_9) rfl rfl rfl,iGd r2_8 [.o0,.o1] false (iR1 bLd r2_9 s2_10) (some s2_10) rfl rfl rfl,iGd r2_8 [.o0,.o1] false (iP2 bGt r2_10 (rk (.int .i64 (.ofNat 1048576))) s2_11) (some s2_11) rfl rfl rfl,iGp (l3 pPick) [r2_8,(rk (.bool true)),r2_11] (some s2_12)]
def x199_2 : List (Ins tf2) := [iAs (rk (.int .i64 (.ofNat 3))) s2_2]
def x199_3 : List (Ins tf2) := [iP1 (bFa 1) r2_1 s2_13,iR1 bLd r2_13 s2_14,iP1 bLen r2_14 s2_15,iP2 bGt r2_15 (rk (.int .i64 (.ofNat 1048576))) s2_16]
def x199_4 : List (Ins tf2) := [iAs (rk (.int .i64 (.ofNat 5))) s2_2]
def x199_5 : List (Ins tf2) := [iP1 (bFa 1) r2_1 s2_17,iR1 bLd r2_17 s2_18,iP1 bLen r2_18 s2_19,iMv (rk (.int .i64 (.ofNat 0))) s2_20]
def x199_6 : List (Ins tf2) := [iP2 bLt r2_20 r2_19 s2_21]
def x199_7 : List (Ins tf2) := [iP2 (bIxs 1) r2_18 r2_20 s2_22,iR1 bLd r2_22 s2_23,iAs r2_23 s2_4]
def x199_8 : List (Ins tf2) := [iP1 (bFa 0) r2_1 s2_24,iR1 bLd r2_24 s2_25,iMv r2_4 s2_26,iCall (rk (.func (.func 220) #[] #[])) [r2_25,r2_26] (some s2_27),iAs r2_27 s2_2]
def x199_9 : List (Ins tf2) := [iMv r2_2 s2_28,iP2 bNe r2_28 (rk (.int .i64 (.ofNat 0))) s2_29]
def x199_10 : List (Ins tf2) := [iP2 bAdd r2_20 (rk (.int .i64 (.ofNat 1))) s2_30,iMv r2_30 s2_20]
def x199_11 : List (Ins tf2) := [iAs (rk (.int .i64 (.ofNat 0))) s2_2]
def x199_12 : List (Ins tf2) := [iMv r2_2 s2_31,iAs r2_31 s2_2]
def x199 : XC tf2 := (.rg x199_0 (.scope (.seq (.rg x199_1 (.cond r2_12 (.rg x199_2 .ret) .skip)) (.seq (.rg x199_3 (.cond r2_16 (.rg x199_4 .ret) .skip)) (.seq (.rg x199_5 (.block 0 (.loop (.rg x199_6 (.seq (.cond r2_21 .skip (.exit 0)) (.seq (.block 1 (.rg x199_7 (.rg x199_8 (.rg x199_9 (.cond r2_29 .bad .skip))))) (.reg x199_10))))))) (.seq (.rg x199_11 .ret) (.seq .skip (.rg x199_12 .ret))))))))
def c199 : Code := Tryd.f199.body.getD .skip
theorem x199_b : Tryd.f199.body = some c199 := by kernel_rfl
theorem x199_c : cG (comp Tryd.prog) 2 2 32 x199 c199 = x199.den := by kernel_rfl
def y199 : List (RR Tryd.prog 2 32 tf2) := [rrT r2_2 2 rfl rfl]
theorem x199_r : y199.map RR.den = Tryd.f199.results.toList := by kernel_rfl
theorem x199_k : okFn Tryd.f199 = true := by kernel_rfl
theorem x199_D : 2 = dep Tryd.f199.ntmps := by kernel_rfl
theorem x199_s : ([s2_0] : List (Slot tf2)).map Slot.p = (List.range' 0 1).map (pth 2) := by kernel_rfl
def X199 : XFn Tryd.prog 2 (comp Tryd.prog) := ⟨X2,tf2,199,Tryd.f199,c199,2,32,[s2_0],z2,x199,y199,x199_D,Tryd.ntmps199.symm,Tryd.func199,x199_b,x199_k,x199_s,by decide,z2_ok,x199_c,x199_r⟩
def x200_0 : List (Ins tf2) := [iAs (rk (.pointer none)) s2_2,iAs (rk (.int .i64 (.ofNat 0))) s2_3]
def x200_1 : List (Ins tf2) := [iMv r2_0 s2_6,iP2 bLt r2_6 (rk (.int .i64 (.ofNat 0))) s2_7,iMv r2_7 s2_8,iGd r2_8 [.o0,.o1] false (iMv r2_0 s2_9) (some s2_9) rfl rfl rfl,iGd r2_8 [.o0,.o1] false (iP2 bGt r2_9 (rk (.int .i64 (.ofNat 1048576))) s2_10) (some s2_10) rfl rfl rfl,iGp (l3 pPick) [r2_8,(rk (.bool true)),r2_10] (some s2_11)]
def x200_2 : List (Ins tf2) := [iAs (rk (.pointer none)) s2_2,iAs (rk (.int .i64 (.ofNat 3))) s2_3]
def x200_3 : List (Ins tf2) := [iMv r2_0 s2_12,iP2 bAdd r2_12 (rk (.int .i64 (.ofNat 1))) s2_13,iGa (a2 (gMks 1 8 [(.int .i64 (.ofNat 0))])) [r2_13,r2_13] (some s2_14),iGp (pBld [(.slice none 0 0),(.slice none 0 0),(.slice none 0 0),(.pointer none),.nilFunc] [(0,1)]) [r2_14] (some s2_15),iGa (a1 gBox) [r2_15] (some s2_16),iAs r2_16 s2_4]
def x200_4 : List (Ins tf2) := [iMv r2_4 s2_17,iMv r2_0 s2_18,iGa (a2 (gMks 1 8 [(.int .i64 (.ofNat 0))])) [r2_18,r2_18] (some s2_19),iMv r2_0 s2_20,iP2 bAdd r2_20 (rk (.int .i64 (.ofNat 1))) s2_21,iGa (a2 (gMks 1 8 [(.int .i64 (.ofNat 0))])) [r2_21,r2_21] (some s2_22),iMv r2_4 s2_23,iGp (pBld [(.slice none 0 0),(.slice none 0 0),(.pointer none),.nilFunc] [(0,1),(1,1),(2,1),(3,1)]) [r2_19,r2_22,r2_23,(rk (.func (.func 221) #[] #[]))] (some s2_24),iP1 bNil r2_17 s2_25,iP1 (bFa 1) r2_25 s2_26,iGm (m2 (sStn 4)) [r2_26,r2_24] none]
def x200_5 : List (Ins tf2) := [iMv r2_4 s2_27,iP1 bNil r2_27 s2_28,iP1 (bFa 1) r2_28 s2_29,iP1 (bFa 1) r2_29 s2_30,iR1 bLd r2_30 s2_31,iP2 (bIxs 1) r2_31 (rk (.int .i64 (.ofNat 0))) s2_32,iM2 bSt r2_32 (rk (.int .i64 (.negSucc 0)))]
def x200_6 : List (Ins tf2) := [iMv r2_0 s2_33,iMv (rk (.int .i64 (.ofNat 0))) s2_34]
def x200_7 : List (Ins tf2) := [iP2 bLt r2_34 r2_33 s2_35]
def x200_8 : List (Ins tf2) := [iMv r2_34 s2_36,iAs r2_36 s2_5]
def x200_9 : List (Ins tf2) := [iMv r2_4 s2_37,iP1 bNil r2_37 s2_38,iP1 (bFa 1) r2_38 s2_39,iP1 (bFa 0) r2_39 s2_40,iR1 bLd r2_40 s2_41,iMv r2_5 s2_42,iMv r2_4 s2_43,iP1 bNil r2_43 s2_44,iP1 (bFa 1) r2_44 s2_45,iP1 (bFa 1) r2_45 s2_46,iR1 bLd r2_46 s2_47,iMv r2_5 s2_48,iP2 bAdd r2_48 (rk (.int .i64 (.ofNat 1))) s2_49,iMv r2_5 s2_50,iP2 bAdd r2_50 (rk (.int .i64 (.ofNat 1))) s2_51,iMv r2_5 s2_52,iP2 (bIxs 1) r2_41 r2_42 s2_53,iM2 bSt r2_53 r2_51,iP2 (bIxs 1) r2_47 r2_49 s2_54,iM2 bSt r2_54 r2_52]
def x200_10 : List (Ins tf2) := [iP2 bAdd r2_34 (rk (.int .i64 (.ofNat 1))) s2_55,iMv r2_55 s2_34]
def x200_11 : List (Ins tf2) := [iMv r2_4 s2_56,iAs r2_56 s2_2,iAs (rk (.int .i64 (.ofNat 0))) s2_3]
def x200 : XC tf2 := (.rg x200_0 (.seq (.rg x200_1 (.cond r2_11 (.rg x200_2 .ret) .skip)) (.rg x200_3 (.rg x200_4 (.rg x200_5 (.seq (.rg x200_6 (.block 0 (.loop (.rg x200_7 (.seq (.cond r2_35 .skip (.exit 0)) (.seq (.block 1 (.rg x200_8 (.reg x200_9))) (.reg x200_10))))))) (.rg x200_11 .ret)))))))
def c200 : Code := Tryd.f200.body.getD .skip
theorem x200_b : Tryd.f200.body = some c200 := by kernel_rfl
theorem x200_c : cG (comp Tryd.prog) 2 2 57 x200 c200 = x200.den := by kernel_rfl
def y200 : List (RR Tryd.prog 2 57 tf2) := [rrT r2_2 2 rfl rfl,rrT r2_3 3 rfl rfl]
theorem x200_r : y200.map RR.den = Tryd.f200.results.toList := by kernel_rfl
theorem x200_k : okFn Tryd.f200 = true := by kernel_rfl
theorem x200_D : 2 = dep Tryd.f200.ntmps := by kernel_rfl
theorem x200_s : ([s2_0] : List (Slot tf2)).map Slot.p = (List.range' 0 1).map (pth 2) := by kernel_rfl
def X200 : XFn Tryd.prog 2 (comp Tryd.prog) := ⟨X2,tf2,200,Tryd.f200,c200,2,57,[s2_0],z2,x200,y200,x200_D,Tryd.ntmps200.symm,Tryd.func200,x200_b,x200_k,x200_s,by decide,z2_ok,x200_c,x200_r⟩
end
end Cr
end Go.Proofs.YtjhbabgcoemecaaDoor
