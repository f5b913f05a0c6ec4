/- A machine for closed runs: for the compiled functions. (and what follows on it). -/
import Derived.Test.YtjhbabgcoemecaaDoorProg
import Derived.Test.YtjhbabgcoemecaaDoorK4
import Derived.KernelRfl
namespace Go.Proofs.YtjhbabgcoemecaaDoor
namespace Cr
open Go Go.RowKit
noncomputable def tdOf (t : TypeId) : TypeDesc := (Tryd.prog.underlying t).getD .bool
end Cr
end Go.Proofs.YtjhbabgcoemecaaDoor
namespace Go.Proofs.YtjhbabgcoemecaaDoor
namespace Cr
open Go Go.RowKit
set_option maxRecDepth 100000
noncomputable def x4_0 : List (Ins tf3) := [(iAs (rk (.bool false)) s3_0)]
noncomputable def x4_1 : List (Ins tf3) := [(iCall (rk (.func (.func 11) #[] #[])) [(rk (.int .i64 (.ofNat 2))), (rk (.int .i64 (.ofNat 1))), (rk (.int .i64 (.ofNat 0)))] (some s3_12)), (iMv r3_12 s3_11), (iGp (l1 (pExt 0)) [r3_11] (some s3_13)), (iGp (l1 (pExt 1)) [r3_11] (some s3_14)), (iAs r3_13 s3_1), (iAs r3_14 s3_2)]
noncomputable def x4_2 : List (Ins tf3) := [(iCall (rk (.func (.func 11) #[] #[])) [(rk (.int .i64 (.ofNat 2))), (rk (.int .i64 (.ofNat 0))), (rk (.int .i64 (.ofNat 1)))] (some s3_16)), (iMv r3_16 s3_15), (iGp (l1 (pExt 0)) [r3_15] (some s3_17)), (iGp (l1 (pExt 1)) [r3_15] (some s3_18)), (iAs r3_17 s3_3), (iAs r3_18 s3_4)]
noncomputable def x4_3 : List (Ins tf3) := [(iCall (rk (.func (.func 11) #[] #[])) [(rk (.int .i64 (.ofNat 2))), (rk (.int .i64 (.ofNat 2))), (rk (.int .i64 (.ofNat 0)))] (some s3_20)), (iMv r3_20 s3_19), (iGp (l1 (pExt 0)) [r3_19] (some s3_21)), (iGp (l1 (pExt 1)) [r3_19] (some s3_22)), (iAs r3_21 s3_5), (iAs r3_22 s3_6)]
noncomputable def x4_4 : List (Ins tf3) := [(iMv r3_1 s3_23), (iP2 bNe r3_23 (rk (.int .i64 (.ofNat 2))) s3_24), (iMv r3_24 s3_25), (iGd r3_25 [.o1, .o3, .o0] false (iMv r3_2 s3_26) (some s3_26) rfl rfl rfl), (iGd r3_25 [.o1, .o3, .o0] false (iP2 bNe r3_26 (rk (.int .i64 (.ofNat 0))) s3_27) (some s3_27) rfl rfl rfl), (iGp (l3 pPick) [r3_25, (rk (.bool true)), r3_27] (some s3_28)), (iMv r3_28 s3_29), (iGd r3_29 [.o5, .o3, .o0] false (iMv r3_3 s3_30) (some s3_30) rfl rfl rfl), (iGd r3_29 [.o5, .o3, .o0] false (iP2 bNe r3_30 (rk (.int .i64 (.ofNat 4))) s3_31) (some s3_31) rfl rfl rfl), (iGp (l3 pPick) [r3_29, (rk (.bool true)), r3_31] (some s3_32)), (iMv r3_32 s3_33), (iGd r3_33 [.o1, .o4, .o0] false (iMv r3_4 s3_34) (some s3_34) rfl rfl rfl), (iGd r3_33 [.o1, .o4, .o0] false (iP2 bNe r3_34 (rk (.int .i64 (.ofNat 0))) s3_35) (some s3_35) rfl rfl rfl), (iGp (l3 pPick) [r3_33, (rk (.bool true)), r3_35] (some s3_36)), (iMv r3_36 s3_37), (iGd r3_37 [.o5, .o4, .o0] false (iMv r3_6 s3_38) (some s3_38) rfl rfl rfl), (iGd r3_37 [.o5, .o4, .o0] false (iP2 bNe r3_38 (rk (.int .i64 (.ofNat 3))) s3_39) (some s3_39) rfl rfl rfl), (iGp (l3 pPick) [r3_37, (rk (.bool true)), r3_39] (some s3_40))]
noncomputable def x4_5 : List (Ins tf3) := [(iAs (rk (.bool false)) s3_0)]
noncomputable def x4_6 : List (Ins tf3) := [(iCall (rk (.func (.func 14) #[] #[])) [(rk (.int .u64 (.ofNat 1)))] (some s3_41)), (iGa (aAl 6 [(.int .i64 (.ofNat 0)), (.int .i64 (.ofNat 0)), (.slice none 0 0), (.slice none 0 0), (.slice none 0 0), (.slice none 0 0)]) [] (some s3_7)), (iGm (m2 (sStn 6)) [r3_7, r3_41] none)]
noncomputable def x4_7 : List (Ins tf3) := [(iGr (r1 (rLdn 6)) [r3_7] (some s3_42)), (iCall (rk (.func (.func 15) #[] #[])) [r3_42] (some s3_43)), (iAs r3_43 s3_8)]
noncomputable def x4_8 : List (Ins tf3) := [(iMv r3_8 s3_44), (iGp (l2 (pEqD (tdOf 34) false)) [r3_44, (rk (.pointer none))] (some s3_45))]
noncomputable def x4_9 : List (Ins tf3) := [(iAs (rk (.bool false)) s3_0)]
noncomputable def x4_10 : List (Ins tf3) := [(iMv r3_8 s3_47), (iGr (r1 (rLdn 6)) [r3_7] (some s3_48)), (iCall (rk (.func (.func 16) #[] #[])) [r3_47, r3_48, (rk (.int .i64 (.ofNat 20))), (rk (.int .i64 (.ofNat 1))), (rk (.int .i64 (.ofNat 0)))] (some s3_49)), (iMv r3_49 s3_46), (iGp (l1 (pExt 0)) [r3_46] (some s3_50)), (iGp (l1 (pExt 1)) [r3_46] (some s3_51)), (iGp (l1 (pExt 2)) [r3_46] (some s3_52)), (iAs r3_50 s3_9), (iAs r3_51 s3_10), (iAs r3_52 s3_2)]
noncomputable def x4_11 : List (Ins tf3) := [(iMv r3_9 s3_53), (iP1 bLen r3_53 s3_54), (iP2 bNe r3_54 (rk (.int .i64 (.ofNat 0))) s3_55), (iMv r3_55 s3_56), (iGd r3_56 [.o0, .o7, .o0] false (iMv r3_10 s3_57) (some s3_57) rfl rfl rfl), (iGd r3_56 [.o0, .o7, .o0] false (iP2 bNe r3_57 (rk (.int .u8 (.ofNat 1))) s3_58) (some s3_58) rfl rfl rfl), (iGp (l3 pPick) [r3_56, (rk (.bool true)), r3_58] (some s3_59)), (iMv r3_59 s3_60), (iGd r3_60 [.o4, .o7, .o0] false (iMv r3_2 s3_61) (some s3_61) rfl rfl rfl), (iGd r3_60 [.o4, .o7, .o0] false (iP2 bNe r3_61 (rk (.int .i64 (.ofNat 0))) s3_62) (some s3_62) rfl rfl rfl), (iGp (l3 pPick) [r3_60, (rk (.bool true)), r3_62] (some s3_63))]
noncomputable def x4_12 : List (Ins tf3) := [(iAs (rk (.bool false)) s3_0)]
noncomputable def x4_13 : List (Ins tf3) := [(iMv r3_8 s3_65), (iGr (r1 (rLdn 6)) [r3_7] (some s3_66)), (iCall (rk (.func (.func 16) #[] #[])) [r3_65, r3_66, (rk (.int .i64 (.ofNat 2))), (rk (.int .i64 (.ofNat 16))), (rk (.int .i64 (.ofNat 0)))] (some s3_67)), (iMv r3_67 s3_64), (iGp (l1 (pExt 0)) [r3_64] (some s3_68)), (iGp (l1 (pExt 1)) [r3_64] (some s3_69)), (iGp (l1 (pExt 2)) [r3_64] (some s3_70)), (iAs r3_68 s3_9), (iAs r3_69 s3_10), (iAs r3_70 s3_2)]
noncomputable def x4_14 : List (Ins tf3) := [(iMv r3_9 s3_71), (iP1 bLen r3_71 s3_72), (iP2 bEq r3_72 (rk (.int .i64 (.ofNat 1))) s3_73), (iMv r3_73 s3_74), (iGd r3_74 [.o2, .o1, .o1] true (iMv r3_10 s3_75) (some s3_75) rfl rfl rfl), (iGd r3_74 [.o2, .o1, .o1] true (iP2 bEq r3_75 (rk (.int .u8 (.ofNat 0))) s3_76) (some s3_76) rfl rfl rfl), (iGp (l3 pPick) [r3_74, r3_76, (rk (.bool false))] (some s3_77)), (iMv r3_77 s3_78), (iGd r3_78 [.o6, .o1, .o1] true (iMv r3_2 s3_79) (some s3_79) rfl rfl rfl), (iGd r3_78 [.o6, .o1, .o1] true (iP2 bEq r3_79 (rk (.int .i64 (.ofNat 0))) s3_80) (some s3_80) rfl rfl rfl), (iGp (l3 pPick) [r3_78, r3_80, (rk (.bool false))] (some s3_81)), (iMv r3_81 s3_82), (iGd r3_82 [.o2, .o2, .o1] true (iMv r3_9 s3_83) (some s3_83) rfl rfl rfl), (iGd r3_82 [.o2, .o2, .o1] true (iP2 (bIxs 7) r3_83 (rk (.int .i64 (.ofNat 0))) s3_84) (some s3_84) rfl rfl rfl), (iGd r3_82 [.o2, .o2, .o1] true (iGr (r1 (rLdn 7)) [r3_84] (some s3_85)) (some s3_85) rfl rfl rfl), (iGd r3_82 [.o2, .o2, .o1] true (iGa (aBsl 2 1 [(.int .i64 (.ofNat 0))] [(0, 1), (1, 1)]) [(rk (.int .i64 (.ofNat 0))), (rk (.int .i64 (.ofNat 1)))] (some s3_86)) (some s3_86) rfl rfl rfl), (iGd r3_82 [.o2, .o2, .o1] true (iGp (pBld [(.int .u8 (.ofNat 0)), (.int .i64 (.ofNat 0)), (.slice none 0 0), (.slice none 0 0), (.slice none 0 0), (.slice none 0 0)] [(0, 1), (1, 1), (5, 1)]) [(rk (.int .u8 (.ofNat 2))), (rk (.int .i64 (.ofNat 2))), r3_86] (some s3_87)) (some s3_87) rfl rfl rfl), (iGd r3_82 [.o2, .o2, .o1] true (iCall (rk (.func (.func 17) #[] #[])) [r3_85, r3_87] (some s3_88)) (some s3_88) rfl rfl rfl), (iGp (l3 pPick) [r3_82, r3_88, (rk (.bool false))] (some s3_89)), (iMv r3_89 s3_90), (iGd r3_90 [.o2, .o3, .o1] true (iCall (rk (.func (.func 13) #[] #[])) [] (some s3_91)) (some s3_91) rfl rfl rfl), (iGp (l3 pPick) [r3_90, r3_91, (rk (.bool false))] (some s3_92)), (iAs r3_92 s3_0)]
noncomputable def x4 : XC tf3 := (.rg x4_0 (.rg x4_1 (.rg x4_2 (.rg x4_3 (.seq (.rg x4_4 (.cond r3_40 (.rg x4_5 .ret) .skip)) (.rg x4_6 (.rg x4_7 (.seq (.rg x4_8 (.cond r3_45 (.rg x4_9 .ret) .skip)) (.rg x4_10 (.seq (.rg x4_11 (.cond r3_63 (.rg x4_12 .ret) .skip)) (.rg x4_13 (.rg x4_14 .ret))))))))))))
noncomputable def c4 : Code := Tryd.f4.body.getD .skip
theorem x4_b : Tryd.f4.body = some c4 := by kernel_rfl
theorem x4_c : cG (comp Tryd.prog) 2 3 93 x4 c4 = x4.den := by kernel_rfl
noncomputable def y4 : List (RR Tryd.prog 3 93 tf3) := [rrT r3_0 0 rfl rfl]
theorem x4_r : y4.map RR.den = Tryd.f4.results.toList := by kernel_rfl
theorem x4_k : okFn Tryd.f4 = true := by kernel_rfl
theorem x4_D : 3 = dep Tryd.f4.ntmps := by kernel_rfl
theorem x4_s : ([] : List (Slot tf3)).map Slot.p = (List.range' 0 0).map (pth 3) := by kernel_rfl
noncomputable def X4 : XFn Tryd.prog 2 (comp Tryd.prog) := ⟨X3, tf3, 4, Tryd.f4, c4, 3, 93, [], z3, x4, y4, x4_D, Tryd.ntmps4.symm, Tryd.func4, x4_b, x4_k, x4_s, by decide, z3_ok, x4_c, x4_r⟩
noncomputable def x10_0 : List (Ins tf3) := [(iAs (rk (.bool false)) s3_0)]
noncomputable def x10_1 : List (Ins tf3) := [(iGa (aBsl 1 1 [(.int .u64 (.ofNat 0))] [(0, 1)]) [(rk (.int .u64 (.ofNat 1)))] (some s3_15)), (iGa (aBsl 2 1 [(.int .u64 (.ofNat 0))] [(0, 1), (1, 1)]) [(rk (.int .u64 (.ofNat 2))), (rk (.int .u64 (.ofNat 3)))] (some s3_16)), (iGa (aBsl 2 1 [(.slice none 0 0)] [(0, 1), (1, 1)]) [r3_15, r3_16] (some s3_17)), (iCall (rk (.func (.func 20) #[] #[])) [(rk (.int .i64 (.ofNat 2))), r3_17] (some s3_18)), (iMv r3_18 s3_14), (iGp (l1 (pExt 0)) [r3_14] (some s3_19)), (iGp (l1 (pExt 1)) [r3_14] (some s3_20)), (iAs r3_19 s3_1), (iAs r3_20 s3_2)]
noncomputable def x10_2 : List (Ins tf3) := [(iGa (aBsl 7 1 [(.int .u64 (.ofNat 0))] [(0, 1), (1, 1), (2, 1), (3, 1), (4, 1), (5, 1), (6, 1)]) [(rk (.int .u64 (.ofNat 1))), (rk (.int .u64 (.ofNat 0))), (rk (.int .u64 (.ofNat 2))), (rk (.int .u64 (.ofNat 0))), (rk (.int .u64 (.ofNat 0))), (rk (.int .u64 (.ofNat 0))), (rk (.int .u64 (.ofNat 3)))] (some s3_22)), (iCall (rk (.func (.func 25) #[] #[])) [(rk (.int .i64 (.ofNat 2))), (rk (.int .i64 (.ofNat 2))), r3_22] (some s3_23)), (iMv r3_23 s3_21), (iGp (l1 (pExt 0)) [r3_21] (some s3_24)), (iGp (l1 (pExt 1)) [r3_21] (some s3_25)), (iAs r3_24 s3_3), (iAs r3_25 s3_4)]
noncomputable def x10_3 : List (Ins tf3) := [(iCall (rk (.func (.func 20) #[] #[])) [(rk (.int .i64 (.ofNat 2))), (rk (.slice none 0 0))] (some s3_27)), (iMv r3_27 s3_26), (iGp (l1 (pExt 0)) [r3_26] (some s3_28)), (iGp (l1 (pExt 1)) [r3_26] (some s3_29)), (iAs r3_28 s3_5), (iAs r3_29 s3_6)]
noncomputable def x10_4 : List (Ins tf3) := [(iMv r3_1 s3_30), (iGa (aBsl 7 1 [(.int .u64 (.ofNat 0))] [(0, 1), (1, 1), (2, 1), (3, 1), (4, 1), (5, 1), (6, 1)]) [(rk (.int .u64 (.ofNat 1))), (rk (.int .u64 (.ofNat 0))), (rk (.int .u64 (.ofNat 2))), (rk (.int .u64 (.ofNat 0))), (rk (.int .u64 (.ofNat 0))), (rk (.int .u64 (.ofNat 0))), (rk (.int .u64 (.ofNat 3)))] (some s3_31)), (iCall (rk (.func (.func 23) #[] #[])) [r3_30, r3_31] (some s3_32)), (iGp (l1 (pUn .not)) [r3_32] (some s3_33)), (iMv r3_33 s3_34), (iGd r3_34 [.o2, .o4, .o0] false (iMv r3_2 s3_35) (some s3_35) rfl rfl rfl), (iGd r3_34 [.o2, .o4, .o0] false (iP2 bNe r3_35 (rk (.int .i64 (.ofNat 0))) s3_36) (some s3_36) rfl rfl rfl), (iGp (l3 pPick) [r3_34, (rk (.bool true)), r3_36] (some s3_37)), (iMv r3_37 s3_38), (iGd r3_38 [.o6, .o4, .o0] false (iMv r3_3 s3_39) (some s3_39) rfl rfl rfl), (iGd r3_38 [.o6, .o4, .o0] false (iGa (aBsl 2 1 [(.int .u64 (.ofNat 0))] [(0, 1), (1, 1)]) [(rk (.int .u64 (.ofNat 1))), (rk (.int .u64 (.ofNat 0)))] (some s3_40)) (some s3_40) rfl rfl rfl), (iGd r3_38 [.o6, .o4, .o0] false (iGa (aBsl 2 1 [(.int .u64 (.ofNat 0))] [(0, 1), (1, 1)]) [(rk (.int .u64 (.ofNat 2))), (rk (.int .u64 (.ofNat 3)))] (some s3_41)) (some s3_41) rfl rfl rfl), (iGd r3_38 [.o6, .o4, .o0] false (iGa (aBsl 2 1 [(.slice none 0 0)] [(0, 1), (1, 1)]) [r3_40, r3_41] (some s3_42)) (some s3_42) rfl rfl rfl), (iGd r3_38 [.o6, .o4, .o0] false (iCall (rk (.func (.func 24) #[] #[])) [r3_39, r3_42] (some s3_43)) (some s3_43) rfl rfl rfl), (iGd r3_38 [.o6, .o4, .o0] false (iGp (l1 (pUn .not)) [r3_43] (some s3_44)) (some s3_44) rfl rfl rfl), (iGp (l3 pPick) [r3_38, (rk (.bool true)), r3_44] (some s3_45)), (iMv r3_45 s3_46), (iGd r3_46 [.o6, .o5, .o0] false (iMv r3_4 s3_47) (some s3_47) rfl rfl rfl), (iGd r3_46 [.o6, .o5, .o0] false (iP2 bNe r3_47 (rk (.int .i64 (.ofNat 0))) s3_48) (some s3_48) rfl rfl rfl), (iGp (l3 pPick) [r3_46, (rk (.bool true)), r3_48] (some s3_49)), (iMv r3_49 s3_50), (iGd r3_50 [.o2, .o6, .o0] false (iMv r3_5 s3_51) (some s3_51) rfl rfl rfl), (iGd r3_50 [.o2, .o6, .o0] false (iP1 bLen r3_51 s3_52) (some s3_52) rfl rfl rfl), (iGd r3_50 [.o2, .o6, .o0] false (iP2 bNe r3_52 (rk (.int .i64 (.ofNat 0))) s3_53) (some s3_53) rfl rfl rfl), (iGp (l3 pPick) [r3_50, (rk (.bool true)), r3_53] (some s3_54)), (iMv r3_54 s3_55), (iGd r3_55 [.o7, .o6, .o0] false (iMv r3_6 s3_56) (some s3_56) rfl rfl rfl), (iGd r3_55 [.o7, .o6, .o0] false (iP2 bNe r3_56 (rk (.int .i64 (.ofNat 0))) s3_57) (some s3_57) rfl rfl rfl), (iGp (l3 pPick) [r3_55, (rk (.bool true)), r3_57] (some s3_58))]
noncomputable def x10_5 : List (Ins tf3) := [(iAs (rk (.bool false)) s3_0)]
noncomputable def x10_6 : List (Ins tf3) := [(iCall (rk (.func (.func 20) #[] #[])) [(rk (.int .i64 (.ofNat 0))), (rk (.slice none 0 0))] (some s3_60)), (iMv r3_60 s3_59), (iGp (l1 (pExt 0)) [r3_59] (some s3_61)), (iGp (l1 (pExt 1)) [r3_59] (some s3_62)), (iAs r3_62 s3_2)]
noncomputable def x10_7 : List (Ins tf3) := [(iGa (aBsl 1 1 [(.int .u64 (.ofNat 0))] [(0, 1)]) [(rk (.int .u64 (.ofNat 1)))] (some s3_64)), (iGa (aBsl 1 1 [(.int .u64 (.ofNat 0))] [(0, 1)]) [(rk (.int .u64 (.ofNat 2)))] (some s3_65)), (iGa (aBsl 2 1 [(.slice none 0 0)] [(0, 1), (1, 1)]) [r3_64, r3_65] (some s3_66)), (iCall (rk (.func (.func 20) #[] #[])) [(rk (.int .i64 (.ofNat 1))), r3_66] (some s3_67)), (iMv r3_67 s3_63), (iGp (l1 (pExt 0)) [r3_63] (some s3_68)), (iGp (l1 (pExt 1)) [r3_63] (some s3_69)), (iAs r3_69 s3_4)]
noncomputable def x10_8 : List (Ins tf3) := [(iMv r3_2 s3_70), (iP2 bNe r3_70 (rk (.int .i64 (.ofNat 3))) s3_71), (iMv r3_71 s3_72), (iGd r3_72 [.o0, .o1, .o1] false (iMv r3_4 s3_73) (some s3_73) rfl rfl rfl), (iGd r3_72 [.o0, .o1, .o1] false (iP2 bNe r3_73 (rk (.int .i64 (.ofNat 3))) s3_74) (some s3_74) rfl rfl rfl), (iGp (l3 pPick) [r3_72, (rk (.bool true)), r3_74] (some s3_75))]
noncomputable def x10_9 : List (Ins tf3) := [(iAs (rk (.bool false)) s3_0)]
noncomputable def x10_10 : List (Ins tf3) := [(iCall (rk (.func (.func 14) #[] #[])) [(rk (.int .u64 (.ofNat 1)))] (some s3_76)), (iGa (aAl 6 [(.int .i64 (.ofNat 0)), (.int .i64 (.ofNat 0)), (.slice none 0 0), (.slice none 0 0), (.slice none 0 0), (.slice none 0 0)]) [] (some s3_7)), (iGm (m2 (sStn 6)) [r3_7, r3_76] none)]
noncomputable def x10_11 : List (Ins tf3) := [(iGr (r1 (rLdn 6)) [r3_7] (some s3_77)), (iCall (rk (.func (.func 15) #[] #[])) [r3_77] (some s3_78)), (iAs r3_78 s3_8)]
noncomputable def x10_12 : List (Ins tf3) := [(iMv r3_8 s3_79), (iGp (l2 (pEqD (tdOf 34) false)) [r3_79, (rk (.pointer none))] (some s3_80))]
noncomputable def x10_13 : List (Ins tf3) := [(iAs (rk (.bool false)) s3_0)]
noncomputable def x10_14 : List (Ins tf3) := [(iMv r3_8 s3_82), (iGr (r1 (rLdn 6)) [r3_7] (some s3_83)), (iCall (rk (.func (.func 16) #[] #[])) [r3_82, r3_83, (rk (.int .i64 (.ofNat 20))), (rk (.int .i64 (.ofNat 16))), (rk (.int .i64 (.ofNat 0)))] (some s3_84)), (iMv r3_84 s3_81), (iGp (l1 (pExt 0)) [r3_81] (some s3_85)), (iGp (l1 (pExt 1)) [r3_81] (some s3_86)), (iGp (l1 (pExt 2)) [r3_81] (some s3_87)), (iAs r3_85 s3_9), (iAs r3_86 s3_10), (iAs r3_87 s3_2)]
noncomputable def x10_15 : List (Ins tf3) := [(iGa (aBsl 1 1 [(.int .u64 (.ofNat 0))] [(0, 1)]) [(rk (.int .u64 (.ofNat 1)))] (some s3_89)), (iGa (aBsl 2 1 [(.slice none 0 0)] [(0, 1), (1, 1)]) [(rk (.slice none 0 0)), r3_89] (some s3_90)), (iCall (rk (.func (.func 20) #[] #[])) [(rk (.int .i64 (.ofNat 2))), r3_90] (some s3_91)), (iMv r3_91 s3_88), (iGp (l1 (pExt 0)) [r3_88] (some s3_92)), (iGp (l1 (pExt 1)) [r3_88] (some s3_93)), (iAs r3_92 s3_11), (iAs r3_93 s3_4)]
noncomputable def x10_16 : List (Ins tf3) := [(iMv r3_8 s3_95), (iMv r3_9 s3_96), (iMv r3_11 s3_97), (iCall (rk (.func (.func 35) #[] #[])) [r3_95, r3_96, r3_97] (some s3_98)), (iMv r3_98 s3_94), (iGp (l1 (pExt 0)) [r3_94] (some s3_99)), (iGp (l1 (pExt 1)) [r3_94] (some s3_100)), (iAs r3_99 s3_12), (iAs r3_100 s3_6)]
noncomputable def x10_17 : List (Ins tf3) := [(iMv r3_2 s3_101), (iP2 bNe r3_101 (rk (.int .i64 (.ofNat 0))) s3_102), (iMv r3_102 s3_103), (iGd r3_103 [.o7, .o4, .o1] false (iMv r3_4 s3_104) (some s3_104) rfl rfl rfl), (iGd r3_103 [.o7, .o4, .o1] false (iP2 bNe r3_104 (rk (.int .i64 (.ofNat 0))) s3_105) (some s3_105) rfl rfl rfl), (iGp (l3 pPick) [r3_103, (rk (.bool true)), r3_105] (some s3_106)), (iMv r3_106 s3_107), (iGd r3_107 [.o3, .o5, .o1] false (iMv r3_12 s3_108) (some s3_108) rfl rfl rfl), (iGd r3_107 [.o3, .o5, .o1] false (iP2 bNe r3_108 (rk (.int .i64 (.ofNat 0))) s3_109) (some s3_109) rfl rfl rfl), (iGp (l3 pPick) [r3_107, (rk (.bool true)), r3_109] (some s3_110)), (iMv r3_110 s3_111), (iGd r3_111 [.o7, .o5, .o1] false (iMv r3_6 s3_112) (some s3_112) rfl rfl rfl), (iGd r3_111 [.o7, .o5, .o1] false (iP2 bNe r3_112 (rk (.int .i64 (.ofNat 0))) s3_113) (some s3_113) rfl rfl rfl), (iGp (l3 pPick) [r3_111, (rk (.bool true)), r3_113] (some s3_114)), (iMv r3_114 s3_115), (iGd r3_115 [.o3, .o6, .o1] false (iMv r3_9 s3_116) (some s3_116) rfl rfl rfl), (iGd r3_115 [.o3, .o6, .o1] false (iP1 bLen r3_116 s3_117) (some s3_117) rfl rfl rfl), (iGd r3_115 [.o3, .o6, .o1] false (iP2 bNe r3_117 (rk (.int .i64 (.ofNat 2))) s3_118) (some s3_118) rfl rfl rfl), (iGp (l3 pPick) [r3_115, (rk (.bool true)), r3_118] (some s3_119))]
noncomputable def x10_18 : List (Ins tf3) := [(iAs (rk (.bool false)) s3_0)]
noncomputable def x10_19 : List (Ins tf3) := [(iMv r3_8 s3_121), (iMv r3_9 s3_122), (iP2 (bIxs 7) r3_122 (rk (.int .i64 (.ofNat 1))) s3_123), (iGr (r1 (rLdn 7)) [r3_123] (some s3_124)), (iGa (aBsl 3 1 [(.int .u64 (.ofNat 0))] [(0, 1), (1, 1), (2, 1)]) [(rk (.int .u64 (.ofNat 0))), (rk (.int .u64 (.ofNat 0))), (rk (.int .u64 (.ofNat 3)))] (some s3_125)), (iCall (rk (.func (.func 32) #[] #[])) [r3_121, r3_124, r3_125] (some s3_126)), (iMv r3_126 s3_120), (iGp (l1 (pExt 0)) [r3_120] (some s3_127)), (iGp (l1 (pExt 1)) [r3_120] (some s3_128)), (iGa (aAl 6 [(.int .u8 (.ofNat 0)), (.int .i64 (.ofNat 0)), (.slice none 0 0), (.slice none 0 0), (.slice none 0 0), (.slice none 0 0)]) [] (some s3_13)), (iGm (m2 (sStn 6)) [r3_13, r3_127] none), (iAs r3_128 s3_2)]
noncomputable def x10_20 : List (Ins tf3) := [(iMv r3_2 s3_129), (iP2 bNe r3_129 (rk (.int .i64 (.ofNat 0))) s3_130), (iMv r3_130 s3_131), (iGd r3_131 [.o3, .o0, .o2] false (iGr (r1 (rLdn 6)) [r3_13] (some s3_132)) (some s3_132) rfl rfl rfl), (iGd r3_131 [.o3, .o0, .o2] false (iGp (pBld [(.int .i64 (.ofNat 0)), (.int .u64 (.ofNat 0))] [(0, 1), (1, 1)]) [(rk (.int .i64 (.ofNat 0))), (rk (.int .u64 (.ofNat 1)))] (some s3_133)) (some s3_133) rfl rfl rfl), (iGd r3_131 [.o3, .o0, .o2] false (iGa (aBsl 1 2 [(.int .i64 (.ofNat 0)), (.int .u64 (.ofNat 0))] [(0, 2)]) [r3_133] (some s3_134)) (some s3_134) rfl rfl rfl), (iGd r3_131 [.o3, .o0, .o2] false (iGa (aBsl 1 1 [(.bool false)] [(0, 1)]) [(rk (.bool true))] (some s3_135)) (some s3_135) rfl rfl rfl), (iGd r3_131 [.o3, .o0, .o2] false (iGa (aBsl 2 1 [(.int .i64 (.ofNat 0))] [(0, 1), (1, 1)]) [(rk (.int .i64 (.ofNat 0))), (rk (.int .i64 (.ofNat 1)))] (some s3_136)) (some s3_136) rfl rfl rfl), (iGd r3_131 [.o3, .o0, .o2] false (iGp (pBld [(.int .u8 (.ofNat 0)), (.int .i64 (.ofNat 0)), (.slice none 0 0), (.slice none 0 0), (.slice none 0 0), (.slice none 0 0)] [(1, 1), (2, 1), (4, 1), (5, 1)]) [(rk (.int .i64 (.ofNat 5))), r3_134, r3_135, r3_136] (some s3_137)) (some s3_137) rfl rfl rfl), (iGd r3_131 [.o3, .o0, .o2] false (iCall (rk (.func (.func 34) #[] #[])) [r3_132, r3_137] (some s3_138)) (some s3_138) rfl rfl rfl), (iGd r3_131 [.o3, .o0, .o2] false (iGp (l1 (pUn .not)) [r3_138] (some s3_139)) (some s3_139) rfl rfl rfl), (iGp (l3 pPick) [r3_131, (rk (.bool true)), r3_139] (some s3_140))]
noncomputable def x10_21 : List (Ins tf3) := [(iAs (rk (.bool false)) s3_0)]
noncomputable def x10_22 : List (Ins tf3) := [(iMv r3_9 s3_142), (iP2 (bIxs 7) r3_142 (rk (.int .i64 (.ofNat 0))) s3_143), (iGr (r1 (rLdn 7)) [r3_143] (some s3_144)), (iCall (rk (.func (.func 30) #[] #[])) [(rk (.pointer none)), r3_144, (rk (.slice none 0 0))] (some s3_145)), (iMv r3_145 s3_141), (iGp (l1 (pExt 0)) [r3_141] (some s3_146)), (iGp (l1 (pExt 1)) [r3_141] (some s3_147)), (iAs r3_147 s3_2)]
noncomputable def x10_23 : List (Ins tf3) := [(iMv r3_9 s3_149), (iP2 (bIxs 7) r3_149 (rk (.int .i64 (.ofNat 0))) s3_150), (iGr (r1 (rLdn 7)) [r3_150] (some s3_151)), (iCall (rk (.func (.func 32) #[] #[])) [(rk (.pointer none)), r3_151, (rk (.slice none 0 0))] (some s3_152)), (iMv r3_152 s3_148), (iGp (l1 (pExt 0)) [r3_148] (some s3_153)), (iGp (l1 (pExt 1)) [r3_148] (some s3_154)), (iAs r3_154 s3_4)]
noncomputable def x10_24 : List (Ins tf3) := [(iMv r3_9 s3_156), (iCall (rk (.func (.func 35) #[] #[])) [(rk (.pointer none)), r3_156, (rk (.slice none 0 0))] (some s3_157)), (iMv r3_157 s3_155), (iGp (l1 (pExt 0)) [r3_155] (some s3_158)), (iGp (l1 (pExt 1)) [r3_155] (some s3_159)), (iAs r3_159 s3_6)]
noncomputable def x10_25 : List (Ins tf3) := [(iMv r3_2 s3_160), (iP2 bEq r3_160 (rk (.int .i64 (.ofNat 1))) s3_161), (iMv r3_161 s3_162), (iGd r3_162 [.o2, .o4, .o2] true (iMv r3_4 s3_163) (some s3_163) rfl rfl rfl), (iGd r3_162 [.o2, .o4, .o2] true (iP2 bEq r3_163 (rk (.int .i64 (.ofNat 1))) s3_164) (some s3_164) rfl rfl rfl), (iGp (l3 pPick) [r3_162, r3_164, (rk (.bool false))] (some s3_165)), (iMv r3_165 s3_166), (iGd r3_166 [.o6, .o4, .o2] true (iMv r3_6 s3_167) (some s3_167) rfl rfl rfl), (iGd r3_166 [.o6, .o4, .o2] true (iP2 bEq r3_167 (rk (.int .i64 (.ofNat 1))) s3_168) (some s3_168) rfl rfl rfl), (iGp (l3 pPick) [r3_166, r3_168, (rk (.bool false))] (some s3_169)), (iMv r3_169 s3_170), (iGd r3_170 [.o2, .o5, .o2] true (iCall (rk (.func (.func 18) #[] #[])) [] (some s3_171)) (some s3_171) rfl rfl rfl), (iGp (l3 pPick) [r3_170, r3_171, (rk (.bool false))] (some s3_172)), (iAs r3_172 s3_0)]
noncomputable def x10_26 : XC tf3 := (.seq (.rg x10_4 (.cond r3_58 (.rg x10_5 .ret) .skip)) (.rg x10_6 (.rg x10_7 (.seq (.rg x10_8 (.cond r3_75 (.rg x10_9 .ret) .skip)) (.rg x10_10 (.rg x10_11 (.seq (.rg x10_12 (.cond r3_80 (.rg x10_13 .ret) .skip)) (.rg x10_14 (.rg x10_15 (.rg x10_16 (.seq (.rg x10_17 (.cond r3_119 (.rg x10_18 .ret) .skip)) (.rg x10_19 (.seq (.rg x10_20 (.cond r3_140 (.rg x10_21 .ret) .skip)) (.rg x10_22 (.rg x10_23 (.rg x10_24 (.rg x10_25 .ret)))))))))))))))))
noncomputable def x10 : XC tf3 := (.rg x10_0 (.rg x10_1 (.rg x10_2 (.rg x10_3 x10_26))))
noncomputable def c10 : Code := Tryd.f10.body.getD .skip
theorem x10_b : Tryd.f10.body = some c10 := by kernel_rfl
theorem x10_c : cG (comp Tryd.prog) 2 3 173 x10 c10 = x10.den := by kernel_rfl
noncomputable def y10 : List (RR Tryd.prog 3 173 tf3) := [rrT r3_0 0 rfl rfl]
theorem x10_r : y10.map RR.den = Tryd.f10.results.toList := by kernel_rfl
theorem x10_k : okFn Tryd.f10 = true := by kernel_rfl
theorem x10_D : 3 = dep Tryd.f10.ntmps := by kernel_rfl
theorem x10_s : ([] : List (Slot tf3)).map Slot.p = (List.range' 0 0).map (pth 3) := by kernel_rfl
noncomputable def X10 : XFn Tryd.prog 2 (comp Tryd.prog) := ⟨X3, tf3, 10, Tryd.f10, c10, 3, 173, [], z3, x10, y10, x10_D, Tryd.ntmps10.symm, Tryd.func10, x10_b, x10_k, x10_s, by decide, z3_ok, x10_c, x10_r⟩
noncomputable def x11_0 : List (Ins tf2) := [(iAs (rk (.int .i64 (.ofNat 0))) s2_6), (iAs (rk (.int .i64 (.ofNat 0))) s2_7)]
noncomputable def x11_1 : List (Ins tf2) := [(iMv r2_0 s2_8), (iP2 bLt r2_8 (rk (.int .i64 (.ofNat 1))) s2_9), (iMv r2_9 s2_10), (iGd r2_10 [.o2, .o1] false (iMv r2_0 s2_11) (some s2_11) rfl rfl rfl), (iGd r2_10 [.o2, .o1] false (iP2 bGt r2_11 (rk (.int .i64 (.ofNat 32))) s2_12) (some s2_12) rfl rfl rfl), (iGp (l3 pPick) [r2_10, (rk (.bool true)), r2_12] (some s2_13)), (iMv r2_13 s2_14), (iGd r2_14 [.o6, .o1] false (iMv r2_1 s2_15) (some s2_15) rfl rfl rfl), (iGd r2_14 [.o6, .o1] false (iP2 bLt r2_15 (rk (.int .i64 (.ofNat 0))) s2_16) (some s2_16) rfl rfl rfl), (iGp (l3 pPick) [r2_14, (rk (.bool true)), r2_16] (some s2_17)), (iMv r2_17 s2_18), (iGd r2_18 [.o2, .o2] false (iMv r2_1 s2_19) (some s2_19) rfl rfl rfl), (iGd r2_18 [.o2, .o2] false (iMv r2_0 s2_20) (some s2_20) rfl rfl rfl), (iGd r2_18 [.o2, .o2] false (iP2 bGe r2_19 r2_20 s2_21) (some s2_21) rfl rfl rfl), (iGp (l3 pPick) [r2_18, (rk (.bool true)), r2_21] (some s2_22)), (iMv r2_22 s2_23), (iGd r2_23 [.o7, .o2] false (iMv r2_2 s2_24) (some s2_24) rfl rfl rfl), (iGd r2_23 [.o7, .o2] false (iP2 bLt r2_24 (rk (.int .i64 (.ofNat 0))) s2_25) (some s2_25) rfl rfl rfl), (iGp (l3 pPick) [r2_23, (rk (.bool true)), r2_25] (some s2_26)), (iMv r2_26 s2_27), (iGd r2_27 [.o3, .o3] false (iMv r2_2 s2_28) (some s2_28) rfl rfl rfl), (iGd r2_27 [.o3, .o3] false (iP2 bGe r2_28 (rk (.int .i64 (.ofNat 65536))) s2_29) (some s2_29) rfl rfl rfl), (iGp (l3 pPick) [r2_27, (rk (.bool true)), r2_29] (some s2_30))]
noncomputable def x11_2 : List (Ins tf2) := [(iAs (rk (.int .i64 (.ofNat 0))) s2_6), (iAs (rk (.int .i64 (.ofNat 3))) s2_7)]
noncomputable def x11_3 : List (Ins tf2) := [(iMv r2_2 s2_31), (iMv r2_0 s2_32), (iGp (l2 (pBin .mul)) [r2_31, r2_32] (some s2_33)), (iMv r2_1 s2_34), (iP2 bAdd r2_33 r2_34 s2_35), (iGp (l2 (pBin .mul)) [(rk (.int .i64 (.ofNat 2))), r2_35] (some s2_36)), (iAs r2_36 s2_6), (iAs (rk (.int .i64 (.ofNat 0))) s2_7)]
noncomputable def x11 : XC tf2 := (.rg x11_0 (.seq (.rg x11_1 (.cond r2_30 (.rg x11_2 .ret) .skip)) (.rg x11_3 .ret)))
noncomputable def c11 : Code := Tryd.f11.body.getD .skip
theorem x11_b : Tryd.f11.body = some c11 := by kernel_rfl
theorem x11_c : cG (comp Tryd.prog) 2 2 37 x11 c11 = x11.den := by kernel_rfl
noncomputable def y11 : List (RR Tryd.prog 2 37 tf2) := [rrT r2_6 6 rfl rfl, rrT r2_7 7 rfl rfl]
theorem x11_r : y11.map RR.den = Tryd.f11.results.toList := by kernel_rfl
theorem x11_k : okFn Tryd.f11 = true := by kernel_rfl
theorem x11_D : 2 = dep Tryd.f11.ntmps := by kernel_rfl
theorem x11_s : ([s2_0, s2_1, s2_2] : List (Slot tf2)).map Slot.p = (List.range' 0 3).map (pth 2) := by kernel_rfl
noncomputable def X11 : XFn Tryd.prog 2 (comp Tryd.prog) := ⟨X2, tf2, 11, Tryd.f11, c11, 2, 37, [s2_0, s2_1, s2_2], z2, x11, y11, x11_D, Tryd.ntmps11.symm, Tryd.func11, x11_b, x11_k, x11_s, by decide, z2_ok, x11_c, x11_r⟩
noncomputable def x13_0 : List (Ins tf3) := [(iAs (rk (.bool false)) s3_0)]
noncomputable def x13_1 : List (Ins tf3) := [(iCall (rk (.func (.func 14) #[] #[])) [(rk (.int .u64 (.ofNat 1)))] (some s3_12)), (iGa (aAl 6 [(.int .i64 (.ofNat 0)), (.int .i64 (.ofNat 0)), (.slice none 0 0), (.slice none 0 0), (.slice none 0 0), (.slice none 0 0)]) [] (some s3_1)), (iGm (m2 (sStn 6)) [r3_1, r3_12] none)]
noncomputable def x13_2 : List (Ins tf3) := [(iGr (r1 (rLdn 6)) [r3_1] (some s3_13)), (iCall (rk (.func (.func 15) #[] #[])) [r3_13] (some s3_14)), (iAs r3_14 s3_2)]
noncomputable def x13_3 : List (Ins tf3) := [(iMv r3_2 s3_15), (iGp (l2 (pEqD (tdOf 34) false)) [r3_15, (rk (.pointer none))] (some s3_16))]
noncomputable def x13_4 : List (Ins tf3) := [(iAs (rk (.bool false)) s3_0)]
noncomputable def x13_5 : List (Ins tf3) := [(iMv r3_2 s3_18), (iGr (r1 (rLdn 6)) [r3_1] (some s3_19)), (iCall (rk (.func (.func 16) #[] #[])) [r3_18, r3_19, (rk (.int .i64 (.ofNat 20))), (rk (.int .i64 (.ofNat 16))), (rk (.int .i64 (.ofNat 0)))] (some s3_20)), (iMv r3_20 s3_17), (iGp (l1 (pExt 0)) [r3_17] (some s3_21)), (iGp (l1 (pExt 1)) [r3_17] (some s3_22)), (iGp (l1 (pExt 2)) [r3_17] (some s3_23)), (iAs r3_21 s3_3), (iAs r3_22 s3_4), (iAs r3_23 s3_5)]
noncomputable def x13_6 : List (Ins tf3) := [(iMv r3_3 s3_24), (iP1 bLen r3_24 s3_25), (iP2 bNe r3_25 (rk (.int .i64 (.ofNat 2))) s3_26), (iMv r3_26 s3_27), (iGd r3_27 [.o3, .o3, .o0] false (iMv r3_4 s3_28) (some s3_28) rfl rfl rfl), (iGd r3_27 [.o3, .o3, .o0] false (iP2 bNe r3_28 (rk (.int .u8 (.ofNat 0))) s3_29) (some s3_29) rfl rfl rfl), (iGp (l3 pPick) [r3_27, (rk (.bool true)), r3_29] (some s3_30)), (iMv r3_30 s3_31), (iGd r3_31 [.o7, .o3, .o0] false (iMv r3_5 s3_32) (some s3_32) rfl rfl rfl), (iGd r3_31 [.o7, .o3, .o0] false (iP2 bNe r3_32 (rk (.int .i64 (.ofNat 0))) s3_33) (some s3_33) rfl rfl rfl), (iGp (l3 pPick) [r3_31, (rk (.bool true)), r3_33] (some s3_34))]
noncomputable def x13_7 : List (Ins tf3) := [(iAs (rk (.bool false)) s3_0)]
noncomputable def x13_8 : List (Ins tf3) := [(iAs (rk (.int .i64 (.ofNat 0))) s3_6)]
noncomputable def x13_9 : List (Ins tf3) := [(iMv r3_6 s3_35), (iP2 bLt r3_35 (rk (.int .i64 (.ofNat 2))) s3_36)]
noncomputable def x13_10 : List (Ins tf3) := [(iMv r3_3 s3_39), (iMv r3_6 s3_40), (iP2 (bIxs 7) r3_39 r3_40 s3_41), (iGr (r1 (rLdn 7)) [r3_41] (some s3_42)), (iMv r3_6 s3_43), (iP2 bEq r3_43 (rk (.int .i64 (.ofNat 1))) s3_44), (iGa (aBsl 1 1 [(.bool false)] [(0, 1)]) [r3_44] (some s3_45)), (iGp (pBld [(.int .i64 (.ofNat 0)), (.int .u64 (.ofNat 0))] []) [] (some s3_46)), (iGa (aBsl 1 2 [(.int .i64 (.ofNat 0)), (.int .u64 (.ofNat 0))] [(0, 2)]) [r3_46] (some s3_47)), (iGa (aBsl 2 1 [(.int .i64 (.ofNat 0))] [(0, 1), (1, 1)]) [(rk (.int .i64 (.ofNat 0))), (rk (.int .i64 (.ofNat 1)))] (some s3_48)), (iGp (pBld [(.int .u8 (.ofNat 0)), (.int .i64 (.ofNat 0)), (.slice none 0 0), (.slice none 0 0), (.slice none 0 0), (.slice none 0 0)] [(1, 1), (4, 1), (2, 1), (5, 1)]) [(rk (.int .i64 (.ofNat 5))), r3_45, r3_47, r3_48] (some s3_49)), (iCall (rk (.func (.func 17) #[] #[])) [r3_42, r3_49] (some s3_50)), (iGp (l1 (pUn .not)) [r3_50] (some s3_51))]
noncomputable def x13_11 : List (Ins tf3) := [(iAs (rk (.bool false)) s3_0)]
noncomputable def x13_12 : List (Ins tf3) := [(iAs (rk (.int .u64 (.ofNat 0))) s3_7)]
noncomputable def x13_13 : List (Ins tf3) := [(iMv r3_7 s3_52), (iP2 bLt r3_52 (rk (.int .u64 (.ofNat 4))) s3_53)]
noncomputable def x13_14 : List (Ins tf3) := [(iAs (rk (.bool true)) s3_8)]
noncomputable def x13_15 : List (Ins tf3) := [(iAs (rk (.int .i64 (.ofNat 0))) s3_9)]
noncomputable def x13_16 : List (Ins tf3) := [(iMv r3_9 s3_56), (iMv r3_3 s3_57), (iMv r3_6 s3_58), (iP2 (bIxs 7) r3_57 r3_58 s3_59), (iP1 (bFa 0) r3_59 s3_60), (iR1 bLd r3_60 s3_61), (iP1 bLen r3_61 s3_62), (iP2 bLt r3_56 r3_62 s3_63)]
noncomputable def x13_17 : List (Ins tf3) := [(iMv r3_2 s3_67), (iMv r3_3 s3_68), (iMv r3_6 s3_69), (iP2 (bIxs 7) r3_68 r3_69 s3_70), (iP1 (bFa 0) r3_70 s3_71), (iR1 bLd r3_71 s3_72), (iMv r3_9 s3_73), (iP2 (bIxs 1) r3_72 r3_73 s3_74), (iR1 bLd r3_74 s3_75), (iMv r3_7 s3_76), (iGa (aBsl 3 1 [(.int .u64 (.ofNat 0))] [(0, 1), (1, 1), (2, 1)]) [(rk (.int .u64 (.ofNat 0))), (rk (.int .u64 (.ofNat 0))), r3_76] (some s3_77)), (iCall (rk (.func (.func 37) #[] #[])) [r3_67, r3_75, r3_77] (some s3_78)), (iMv r3_78 s3_66), (iGp (l1 (pExt 0)) [r3_66] (some s3_79)), (iGp (l1 (pExt 1)) [r3_66] (some s3_80)), (iAs r3_79 s3_10), (iAs r3_80 s3_11)]
noncomputable def x13_18 : List (Ins tf3) := [(iMv r3_8 s3_81), (iMv r3_81 s3_82), (iGd r3_82 [.o2, .o2, .o1] true (iMv r3_10 s3_83) (some s3_83) rfl rfl rfl), (iGd r3_82 [.o2, .o2, .o1] true (iP2 bNe r3_83 (rk (.int .u64 (.ofNat 0))) s3_84) (some s3_84) rfl rfl rfl), (iGp (l3 pPick) [r3_82, r3_84, (rk (.bool false))] (some s3_85)), (iMv r3_85 s3_86), (iGd r3_86 [.o6, .o2, .o1] true (iMv r3_11 s3_87) (some s3_87) rfl rfl rfl), (iGd r3_86 [.o6, .o2, .o1] true (iP2 bEq r3_87 (rk (.int .i64 (.ofNat 0))) s3_88) (some s3_88) rfl rfl rfl), (iGp (l3 pPick) [r3_86, r3_88, (rk (.bool false))] (some s3_89)), (iAs r3_89 s3_8)]
noncomputable def x13_19 : List (Ins tf3) := [(iMv r3_9 s3_64), (iP2 bAdd r3_64 (rk (.int .i64 (.ofNat 1))) s3_65), (iAs r3_65 s3_9)]
noncomputable def x13_20 : List (Ins tf3) := [(iMv r3_8 s3_90), (iMv r3_6 s3_91), (iP2 bEq r3_91 (rk (.int .i64 (.ofNat 1))) s3_92), (iMv r3_92 s3_93), (iGd r3_93 [.o5, .o3, .o1] true (iMv r3_7 s3_94) (some s3_94) rfl rfl rfl), (iGd r3_93 [.o5, .o3, .o1] true (iP2 bEq r3_94 (rk (.int .u64 (.ofNat 3))) s3_95) (some s3_95) rfl rfl rfl), (iGp (l3 pPick) [r3_93, r3_95, (rk (.bool false))] (some s3_96)), (iMv r3_96 s3_97), (iGd r3_97 [.o1, .o4, .o1] false (iMv r3_6 s3_98) (some s3_98) rfl rfl rfl), (iGd r3_97 [.o1, .o4, .o1] false (iP2 bEq r3_98 (rk (.int .i64 (.ofNat 0))) s3_99) (some s3_99) rfl rfl rfl), (iGd r3_97 [.o1, .o4, .o1] false (iMv r3_99 s3_100) (some s3_100) rfl rfl rfl), (iGd r3_100 [.o4, .o4, .o1] true (iMv r3_7 s3_101) (some s3_101) rfl rfl rfl), (iGd r3_100 [.o4, .o4, .o1] true (iP2 bLt r3_101 (rk (.int .u64 (.ofNat 3))) s3_102) (some s3_102) rfl rfl rfl), (iGd r3_97 [.o1, .o4, .o1] false (iGp (l3 pPick) [r3_100, r3_102, (rk (.bool false))] (some s3_103)) (some s3_103) rfl rfl rfl), (iGp (l3 pPick) [r3_97, (rk (.bool true)), r3_103] (some s3_104)), (iGp (l2 (pEqD (tdOf 4) true)) [r3_90, r3_104] (some s3_105))]
noncomputable def x13_21 : List (Ins tf3) := [(iAs (rk (.bool false)) s3_0)]
noncomputable def x13_22 : List (Ins tf3) := [(iMv r3_7 s3_54), (iP2 bAdd r3_54 (rk (.int .u64 (.ofNat 1))) s3_55), (iAs r3_55 s3_7)]
noncomputable def x13_23 : List (Ins tf3) := [(iMv r3_6 s3_37), (iP2 bAdd r3_37 (rk (.int .i64 (.ofNat 1))) s3_38), (iAs r3_38 s3_6)]
noncomputable def x13_24 : XC tf3 := (.seq (.block 1 (.seq (.rg x13_10 (.cond r3_51 (.rg x13_11 .ret) .skip)) (.rg x13_12 (.block 2 (.loop (.seq (.rg x13_13 (.cond r3_53 .skip (.exit 2))) (.seq (.block 3 (.rg x13_14 (.seq (.rg x13_15 (.block 4 (.loop (.seq (.rg x13_16 (.cond r3_63 .skip (.exit 4))) (.seq (.block 5 (.rg x13_17 (.reg x13_18))) (.reg x13_19)))))) (.rg x13_20 (.cond r3_105 (.rg x13_21 .ret) .skip))))) (.reg x13_22)))))))) (.reg x13_23))
noncomputable def x13_25 : List (Ins tf3) := [(iAs (rk (.bool true)) s3_0)]
noncomputable def x13 : XC tf3 := (.rg x13_0 (.rg x13_1 (.rg x13_2 (.seq (.rg x13_3 (.cond r3_16 (.rg x13_4 .ret) .skip)) (.rg x13_5 (.seq (.rg x13_6 (.cond r3_34 (.rg x13_7 .ret) .skip)) (.seq (.rg x13_8 (.block 0 (.loop (.seq (.rg x13_9 (.cond r3_36 .skip (.exit 0))) x13_24)))) (.rg x13_25 .ret))))))))
noncomputable def c13 : Code := Tryd.f13.body.getD .skip
theorem x13_b : Tryd.f13.body = some c13 := by kernel_rfl
theorem x13_c : cG (comp Tryd.prog) 2 3 106 x13 c13 = x13.den := by kernel_rfl
noncomputable def y13 : List (RR Tryd.prog 3 106 tf3) := [rrT r3_0 0 rfl rfl]
theorem x13_r : y13.map RR.den = Tryd.f13.results.toList := by kernel_rfl
theorem x13_k : okFn Tryd.f13 = true := by kernel_rfl
theorem x13_D : 3 = dep Tryd.f13.ntmps := by kernel_rfl
theorem x13_s : ([] : List (Slot tf3)).map Slot.p = (List.range' 0 0).map (pth 3) := by kernel_rfl
noncomputable def X13 : XFn Tryd.prog 2 (comp Tryd.prog) := ⟨X3, tf3, 13, Tryd.f13, c13, 3, 106, [], z3, x13, y13, x13_D, Tryd.ntmps13.symm, Tryd.func13, x13_b, x13_k, x13_s, by decide, z3_ok, x13_c, x13_r⟩
noncomputable def x14_0 : List (Ins tf2) := [(iGa (aAl 6 [(.int .i64 (.ofNat 0)), (.int .i64 (.ofNat 0)), (.slice none 0 0), (.slice none 0 0), (.slice none 0 0), (.slice none 0 0)]) [] (some s2_2))]
noncomputable def x14_1 : List (Ins tf2) := [(iAs (rk (.func (.func 38) #[] #[])) s2_3)]
noncomputable def x14_2 : List (Ins tf2) := [(iGa (aBsl 2 1 [(.string ⟨⟨[]⟩⟩)] [(0, 1), (1, 1)]) [(rk (.string ⟨⟨[112, 117, 98]⟩⟩)), (rk (.string ⟨⟨[115, 101, 99]⟩⟩))] (some s2_4)), (iGp (pBld [(.int .u8 (.ofNat 0)), (.int .u8 (.ofNat 0)), (.int .i64 (.ofNat 0)), (.int .i64 (.ofNat 0)), (.int .i64 (.ofNat 0)), (.int .u64 (.ofNat 0)), (.int .i64 (.ofNat 0)), (.int .u64 (.ofNat 0))] [(0, 1), (2, 1), (3, 1)]) [(rk (.int .u8 (.ofNat 4))), (rk (.int .i64 (.ofNat 0))), (rk (.int .i64 (.ofNat 1)))] (some s2_5)), (iGp (pBld [(.int .i64 (.ofNat 0)), (.int .u64 (.ofNat 0))] [(0, 1)]) [(rk (.int .i64 (.ofNat 0)))] (some s2_6)), (iMv r2_3 s2_7), (iCall r2_7 [(rk (.int .u64 (.ofNat 3)))] (some s2_8)), (iGp (pBld [(.int .u8 (.ofNat 0)), (.int .u8 (.ofNat 0)), (.int .i64 (.ofNat 0)), (.int .i64 (.ofNat 0)), (.int .i64 (.ofNat 0)), (.int .u64 (.ofNat 0)), (.int .i64 (.ofNat 0)), (.int .u64 (.ofNat 0))] [(0, 1), (1, 1), (2, 1), (4, 2), (6, 2)]) [(rk (.int .u8 (.ofNat 1))), (rk (.int .u8 (.ofNat 15))), (rk (.int .i64 (.ofNat 1))), r2_6, r2_8] (some s2_9)), (iGp (pBld [(.int .i64 (.ofNat 0)), (.int .u64 (.ofNat 0))] [(0, 1)]) [(rk (.int .i64 (.ofNat 1)))] (some s2_10)), (iGp (pBld [(.int .u8 (.ofNat 0)), (.int .u8 (.ofNat 0)), (.int .i64 (.ofNat 0)), (.int .i64 (.ofNat 0)), (.int .i64 (.ofNat 0)), (.int .u64 (.ofNat 0)), (.int .i64 (.ofNat 0)), (.int .u64 (.ofNat 0))] [(0, 1), (3, 1), (4, 2)]) [(rk (.int .u8 (.ofNat 8))), (rk (.int .i64 (.ofNat 5))), r2_10] (some s2_11)), (iMv r2_3 s2_12), (iCall r2_12 [(rk (.int .u64 (.ofNat 1)))] (some s2_13)), (iGp (pBld [(.int .u8 (.ofNat 0)), (.int .u8 (.ofNat 0)), (.int .i64 (.ofNat 0)), (.int .i64 (.ofNat 0)), (.int .i64 (.ofNat 0)), (.int .u64 (.ofNat 0)), (.int .i64 (.ofNat 0)), (.int .u64 (.ofNat 0))] [(0, 1), (4, 2)]) [(rk (.int .u8 (.ofNat 5))), r2_13] (some s2_14)), (iGp (pBld [(.int .u8 (.ofNat 0)), (.int .u8 (.ofNat 0)), (.int .i64 (.ofNat 0)), (.int .i64 (.ofNat 0)), (.int .i64 (.ofNat 0)), (.int .u64 (.ofNat 0)), (.int .i64 (.ofNat 0)), (.int .u64 (.ofNat 0))] [(0, 1)]) [(rk (.int .u8 (.ofNat 9)))] (some s2_15)), (iMv r2_3 s2_16), (iMv r2_0 s2_17), (iCall r2_16 [r2_17] (some s2_18)), (iGp (pBld [(.int .u8 (.ofNat 0)), (.int .u8 (.ofNat 0)), (.int .i64 (.ofNat 0)), (.int .i64 (.ofNat 0)), (.int .i64 (.ofNat 0)), (.int .u64 (.ofNat 0)), (.int .i64 (.ofNat 0)), (.int .u64 (.ofNat 0))] [(0, 1), (4, 2)]) [(rk (.int .u8 (.ofNat 5))), r2_18] (some s2_19)), (iGp (pBld [(.int .u8 (.ofNat 0)), (.int .u8 (.ofNat 0)), (.int .i64 (.ofNat 0)), (.int .i64 (.ofNat 0)), (.int .i64 (.ofNat 0)), (.int .u64 (.ofNat 0)), (.int .i64 (.ofNat 0)), (.int .u64 (.ofNat 0))] [(0, 1)]) [(rk (.int .u8 (.ofNat 9)))] (some s2_20)), (iGa (aBsl 7 8 [(.int .u8 (.ofNat 0)), (.int .u8 (.ofNat 0)), (.int .i64 (.ofNat 0)), (.int .i64 (.ofNat 0)), (.int .i64 (.ofNat 0)), (.int .u64 (.ofNat 0)), (.int .i64 (.ofNat 0)), (.int .u64 (.ofNat 0))] [(0, 8), (8, 8), (16, 8), (24, 8), (32, 8), (40, 8), (48, 8)]) [r2_5, r2_9, r2_11, r2_14, r2_15, r2_19, r2_20] (some s2_21)), (iGp (pBld [(.int .i64 (.ofNat 0)), (.int .i64 (.ofNat 0)), (.slice none 0 0), (.slice none 0 0), (.slice none 0 0), (.slice none 0 0)] [(0, 1), (1, 1), (2, 1), (5, 1)]) [(rk (.int .i64 (.ofNat 2))), (rk (.int .i64 (.ofNat 2))), r2_4, r2_21] (some s2_22)), (iGm (m2 (sStn 6)) [r2_2, r2_22] none)]
noncomputable def x14 : XC tf2 := (.rg x14_0 (.rg x14_1 (.rg x14_2 .ret)))
noncomputable def c14 : Code := Tryd.f14.body.getD .skip
theorem x14_b : Tryd.f14.body = some c14 := by kernel_rfl
theorem x14_c : cG (comp Tryd.prog) 2 2 23 x14 c14 = x14.den := by kernel_rfl
noncomputable def y14 : List (RR Tryd.prog 2 23 tf2) := [rrS (.cell 2 31)]
theorem x14_r : y14.map RR.den = Tryd.f14.results.toList := by kernel_rfl
theorem x14_k : okFn Tryd.f14 = true := by kernel_rfl
theorem x14_D : 2 = dep Tryd.f14.ntmps := by kernel_rfl
theorem x14_s : ([s2_0] : List (Slot tf2)).map Slot.p = (List.range' 0 1).map (pth 2) := by kernel_rfl
noncomputable def X14 : XFn Tryd.prog 2 (comp Tryd.prog) := ⟨X2, tf2, 14, Tryd.f14, c14, 2, 23, [s2_0], z2, x14, y14, x14_D, Tryd.ntmps14.symm, Tryd.func14, x14_b, x14_k, x14_s, by decide, z2_ok, x14_c, x14_r⟩
noncomputable def x15_0 : List (Ins tf2) := [(iGa (a1 gBox) [r2_0] (some s2_1)), (iAs (rk (.pointer none)) s2_2)]
noncomputable def x15_1 : List (Ins tf2) := [(iP1 (bFa 0) r2_1 s2_6), (iR1 bLd r2_6 s2_7), (iCall (rk (.func (.func 39) #[] #[])) [r2_7, (rk (.int .i64 (.ofNat 1048576)))] (some s2_8)), (iMv r2_8 s2_5), (iGp (l1 (pExt 0)) [r2_5] (some s2_9)), (iGp (l1 (pExt 1)) [r2_5] (some s2_10)), (iAs r2_9 s2_3), (iAs r2_10 s2_4)]
noncomputable def x15_2 : List (Ins tf2) := [(iMv r2_4 s2_11), (iP2 bNe r2_11 (rk (.int .i64 (.ofNat 0))) s2_12)]
noncomputable def x15_3 : List (Ins tf2) := [(iAs (rk (.pointer none)) s2_2)]
noncomputable def x15_4 : List (Ins tf2) := [(iMv r2_3 s2_13), (iAs r2_13 s2_2)]
noncomputable def x15 : XC tf2 := (.rg x15_0 (.rg x15_1 (.seq (.rg x15_2 (.cond r2_12 (.rg x15_3 .ret) .skip)) (.rg x15_4 .ret))))
noncomputable def c15 : Code := Tryd.f15.body.getD .skip
theorem x15_b : Tryd.f15.body = some c15 := by kernel_rfl
theorem x15_c : cG (comp Tryd.prog) 2 2 14 x15 c15 = x15.den := by kernel_rfl
noncomputable def y15 : List (RR Tryd.prog 2 14 tf2) := [rrT r2_2 2 rfl rfl]
theorem x15_r : y15.map RR.den = Tryd.f15.results.toList := by kernel_rfl
theorem x15_k : okFn Tryd.f15 = true := by kernel_rfl
theorem x15_D : 2 = dep Tryd.f15.ntmps := by kernel_rfl
theorem x15_s : ([s2_0] : List (Slot tf2)).map Slot.p = (List.range' 0 1).map (pth 2) := by kernel_rfl
noncomputable def X15 : XFn Tryd.prog 2 (comp Tryd.prog) := ⟨X2, tf2, 15, Tryd.f15, c15, 2, 14, [s2_0], z2, x15, y15, x15_D, Tryd.ntmps15.symm, Tryd.func15, x15_b, x15_k, x15_s, by decide, z2_ok, x15_c, x15_r⟩
noncomputable def x16_0 : List (Ins tf3) := [(iGa (a1 gBox) [r3_1] (some s3_6)), (iAs (rk (.slice none 0 0)) s3_10), (iAs (rk (.int .u8 (.ofNat 0))) s3_11), (iAs (rk (.int .i64 (.ofNat 0))) s3_12)]
noncomputable def x16_1 : List (Ins tf3) := [(iMv r3_0 s3_18), (iGp (l2 (pEqD (tdOf 34) false)) [r3_18, (rk (.pointer none))] (some s3_19))]
noncomputable def x16_2 : List (Ins tf3) := [(iAs (rk (.slice none 0 0)) s3_10), (iAs (rk (.int .u8 (.ofNat 0))) s3_11), (iAs (rk (.int .i64 (.ofNat 1))) s3_12)]
noncomputable def x16_3 : List (Ins tf3) := [(iGr (r1 (rLdn 6)) [r3_6] (some s3_20)), (iCall (rk (.func (.func 40) #[] #[])) [r3_20] (some s3_21)), (iP2 bNe r3_21 (rk (.int .i64 (.ofNat 0))) s3_22), (iMv r3_22 s3_23), (iGd r3_23 [.o7, .o2, .o0] false (iP1 (bFa 0) r3_6 s3_24) (some s3_24) rfl rfl rfl), (iGd r3_23 [.o7, .o2, .o0] false (iR1 bLd r3_24 s3_25) (some s3_25) rfl rfl rfl), (iGd r3_23 [.o7, .o2, .o0] false (iMv r3_0 s3_26) (some s3_26) rfl rfl rfl), (iRc (iGd r3_23 [.o7, .o2, .o0] false (iCall (rk (.func (.func 41) #[] #[])) [r3_26] (some s3_27)) (some s3_27) rfl rfl rfl) [(rcS ⟨(some ([.o7, .o2, .o0], false)), .r (r1 rLd), [(.t [.o0, .o3, .o0])], (some [.o1, .o3, .o0])⟩)] rfl), (iGd r3_23 [.o7, .o2, .o0] false (iP2 bNe r3_25 r3_27 s3_28) (some s3_28) rfl rfl rfl), (iGp (l3 pPick) [r3_23, (rk (.bool true)), r3_28] (some s3_29))]
noncomputable def x16_4 : List (Ins tf3) := [(iAs (rk (.slice none 0 0)) s3_10), (iAs (rk (.int .u8 (.ofNat 0))) s3_11), (iAs (rk (.int .i64 (.ofNat 2))) s3_12)]
noncomputable def x16_5 : List (Ins tf3) := [(iMv r3_2 s3_30), (iP2 bLt r3_30 (rk (.int .i64 (.ofNat 1))) s3_31), (iMv r3_31 s3_32), (iGd r3_32 [.o0, .o4, .o0] false (iMv r3_2 s3_33) (some s3_33) rfl rfl rfl), (iGd r3_32 [.o0, .o4, .o0] false (iP2 bGt r3_33 (rk (.int .i64 (.ofNat 65536))) s3_34) (some s3_34) rfl rfl rfl), (iGp (l3 pPick) [r3_32, (rk (.bool true)), r3_34] (some s3_35)), (iMv r3_35 s3_36), (iGd r3_36 [.o4, .o4, .o0] false (iMv r3_3 s3_37) (some s3_37) rfl rfl rfl), (iGd r3_36 [.o4, .o4, .o0] false (iP2 bLt r3_37 (rk (.int .i64 (.ofNat 1))) s3_38) (some s3_38) rfl rfl rfl), (iGp (l3 pPick) [r3_36, (rk (.bool true)), r3_38] (some s3_39)), (iMv r3_39 s3_40), (iGd r3_40 [.o0, .o5, .o0] false (iMv r3_3 s3_41) (some s3_41) rfl rfl rfl), (iGd r3_40 [.o0, .o5, .o0] false (iP2 bGt r3_41 (rk (.int .i64 (.ofNat 4096))) s3_42) (some s3_42) rfl rfl rfl), (iGp (l3 pPick) [r3_40, (rk (.bool true)), r3_42] (some s3_43)), (iMv r3_43 s3_44), (iGd r3_44 [.o4, .o5, .o0] false (iMv r3_4 s3_45) (some s3_45) rfl rfl rfl), (iGd r3_44 [.o4, .o5, .o0] false (iP2 bLt r3_45 (rk (.int .i64 (.ofNat 0))) s3_46) (some s3_46) rfl rfl rfl), (iGp (l3 pPick) [r3_44, (rk (.bool true)), r3_46] (some s3_47)), (iMv r3_47 s3_48), (iGd r3_48 [.o0, .o6, .o0] false (iMv r3_4 s3_49) (some s3_49) rfl rfl rfl), (iGd r3_48 [.o0, .o6, .o0] false (iP2 bGt r3_49 (rk (.int .i64 (.ofNat 1099511627776))) s3_50) (some s3_50) rfl rfl rfl), (iGp (l3 pPick) [r3_48, (rk (.bool true)), r3_50] (some s3_51))]
noncomputable def x16_6 : List (Ins tf3) := [(iAs (rk (.slice none 0 0)) s3_10), (iAs (rk (.int .u8 (.ofNat 0))) s3_11), (iAs (rk (.int .i64 (.ofNat 3))) s3_12)]
noncomputable def x16_7 : List (Ins tf3) := [(iMv r3_0 s3_52), (iGr (r1 (rLdn 6)) [r3_6] (some s3_53)), (iMv r3_4 s3_54), (iGp (pBld [(.pointer none), (.int .i64 (.ofNat 0)), (.int .i64 (.ofNat 0)), (.slice none 0 0), (.slice none 0 0), (.slice none 0 0), (.slice none 0 0), (.int .i64 (.ofNat 0)), (.slice none 0 0), (.int .u8 (.ofNat 0))] [(0, 1), (1, 6), (7, 1)]) [r3_52, r3_53, r3_54] (some s3_55)), (iGa (a1 gBox) [r3_55] (some s3_56)), (iAs r3_56 s3_13)]
noncomputable def x16_8 : List (Ins tf3) := [(iMv r3_0 s3_58), (iGr (r1 (rLdn 6)) [r3_6] (some s3_59)), (iCall (rk (.func (.func 42) #[] #[])) [r3_58, r3_59] (some s3_60)), (iMv r3_60 s3_57), (iGp (l1 (pExt 0)) [r3_57] (some s3_61)), (iGp (l1 (pExt 1)) [r3_57] (some s3_62)), (iAs r3_61 s3_14), (iAs r3_62 s3_12)]
noncomputable def x16_9 : List (Ins tf3) := [(iMv r3_13 s3_63), (iMv r3_12 s3_64), (iCall (rk (.func (.func 43) #[] #[])) [r3_63, r3_64] (some s3_65))]
noncomputable def x16_10 : List (Ins tf3) := [(iMv r3_13 s3_66), (iP1 bNil r3_66 s3_67), (iP1 (bFa 9) r3_67 s3_68), (iR1 bLd r3_68 s3_69), (iRc (iAs (rk (.slice none 0 0)) s3_10) [(rcLd r3_68 r3_69 [.o5, .o0, .o1] rfl)] rfl), (iAs r3_69 s3_11), (iAs (rk (.int .i64 (.ofNat 0))) s3_12)]
noncomputable def x16_11 : List (Ins tf3) := [(iMv r3_13 s3_70), (iMv r3_14 s3_71), (iP1 (bFa 2) r3_6 s3_72), (iR1 bLd r3_72 s3_73), (iP1 bLen r3_73 s3_74), (iGa (a2 (gMks 1 8 [(.int .i64 (.ofNat 0))])) [r3_74, r3_74] (some s3_75)), (iGp (pBld [(.slice none 0 0), (.int .u8 (.ofNat 0)), (.int .i64 (.ofNat 0)), (.slice none 0 0), (.slice none 0 0), (.slice none 0 0), (.slice none 0 0)] [(6, 1)]) [r3_75] (some s3_76)), (iGp (pBld [(.pointer none), (.int .i64 (.ofNat 0)), (.slice none 0 0), (.int .u8 (.ofNat 0)), (.int .i64 (.ofNat 0)), (.slice none 0 0), (.slice none 0 0), (.slice none 0 0), (.slice none 0 0)] [(0, 1), (2, 7)]) [r3_71, r3_76] (some s3_77)), (iGa (aBsl 1 9 [(.pointer none), (.int .i64 (.ofNat 0)), (.slice none 0 0), (.int .u8 (.ofNat 0)), (.int .i64 (.ofNat 0)), (.slice none 0 0), (.slice none 0 0), (.slice none 0 0), (.slice none 0 0)] [(0, 9)]) [r3_77] (some s3_78)), (iP1 bNil r3_70 s3_79), (iP1 (bFa 8) r3_79 s3_80), (iM2 bSt r3_80 r3_78)]
noncomputable def x16_12 : List (Ins tf3) := [(iMv r3_13 s3_81), (iP1 bNil r3_81 s3_82), (iP1 (bFa 8) r3_82 s3_83), (iR1 bLd r3_83 s3_84), (iP1 bLen r3_84 s3_85), (iP2 bGt r3_85 (rk (.int .i64 (.ofNat 0))) s3_86)]
noncomputable def x16_13 : List (Ins tf3) := [(iMv r3_13 s3_87), (iP1 bNil r3_87 s3_88), (iP1 (bFa 8) r3_88 s3_89), (iR1 bLd r3_89 s3_90), (iMv r3_13 s3_91), (iP1 bNil r3_91 s3_92), (iP1 (bFa 8) r3_92 s3_93), (iR1 bLd r3_93 s3_94), (iP1 bLen r3_94 s3_95), (iP2 bSub r3_95 (rk (.int .i64 (.ofNat 1))) s3_96), (iP2 (bIxs 9) r3_90 r3_96 s3_97), (iGr (r1 (rLdn 9)) [r3_97] (some s3_98)), (iGa (aAl 9 [(.pointer none), (.int .i64 (.ofNat 0)), (.slice none 0 0), (.int .u8 (.ofNat 0)), (.int .i64 (.ofNat 0)), (.slice none 0 0), (.slice none 0 0), (.slice none 0 0), (.slice none 0 0)]) [] (some s3_15)), (iGm (m2 (sStn 9)) [r3_15, r3_98] none)]
noncomputable def x16_14 : List (Ins tf3) := [(iMv r3_13 s3_99), (iMv r3_13 s3_100), (iP1 bNil r3_100 s3_101), (iP1 (bFa 8) r3_101 s3_102), (iR1 bLd r3_102 s3_103), (iMv r3_13 s3_104), (iP1 bNil r3_104 s3_105), (iP1 (bFa 8) r3_105 s3_106), (iR1 bLd r3_106 s3_107), (iP1 bLen r3_107 s3_108), (iP2 bSub r3_108 (rk (.int .i64 (.ofNat 1))) s3_109), (iGp (pSlB (pSl 9) false true false) [r3_103, r3_109] (some s3_110)), (iP1 bNil r3_99 s3_111), (iP1 (bFa 8) r3_111 s3_112), (iM2 bSt r3_112 r3_110)]
noncomputable def x16_15 : List (Ins tf3) := [(iP1 (bFa 1) r3_15 s3_143), (iR1 bLd r3_143 s3_144), (iP2 bLt r3_144 (rk (.int .i64 (.ofNat 0))) s3_145), (iAs r3_145 s3_142)]
noncomputable def x16_16 : List (Ins tf3) := [(iP1 (bFa 2) r3_15 s3_146), (iP1 (bFa 1) r3_146 s3_147), (iM2 bSt r3_147 (rk (.int .u8 (.ofNat 1))))]
noncomputable def x16_17 : List (Ins tf3) := [(iP1 (bFa 2) r3_15 s3_149), (iP1 (bFa 2) r3_149 s3_150), (iR1 bLd r3_150 s3_151), (iMv r3_2 s3_152), (iP2 bEq r3_151 r3_152 s3_153), (iAs r3_153 s3_148)]
noncomputable def x16_18 : List (Ins tf3) := [(iP1 (bFa 2) r3_15 s3_154), (iP1 (bFa 1) r3_154 s3_155), (iM2 bSt r3_155 (rk (.int .u8 (.ofNat 2))))]
noncomputable def x16_19 : List (Ins tf3) := [(iP1 (bFa 2) r3_15 s3_113), (iP1 (bFa 2) r3_113 s3_114), (iR1 bLd r3_114 s3_115), (iP2 bAdd r3_115 (rk (.int .i64 (.ofNat 1))) s3_116), (iP1 (bFa 2) r3_15 s3_117), (iP1 (bFa 2) r3_117 s3_118), (iM2 bSt r3_118 r3_116)]
noncomputable def x16_20 : List (Ins tf3) := [(iMv r3_13 s3_119), (iP1 bNil r3_119 s3_120), (iP1 (bFa 1) r3_120 s3_121), (iP1 (bFa 5) r3_121 s3_122), (iR1 bLd r3_122 s3_123), (iP1 (bFa 1) r3_15 s3_124), (iR1 bLd r3_124 s3_125), (iP2 (bIxs 8) r3_123 r3_125 s3_126), (iGr (r1 (rLdn 8)) [r3_126] (some s3_127)), (iGa (aAl 8 [(.int .u8 (.ofNat 0)), (.int .u8 (.ofNat 0)), (.int .i64 (.ofNat 0)), (.int .i64 (.ofNat 0)), (.int .i64 (.ofNat 0)), (.int .u64 (.ofNat 0)), (.int .i64 (.ofNat 0)), (.int .u64 (.ofNat 0))]) [] (some s3_16)), (iGm (m2 (sStn 8)) [r3_16, r3_127] none)]
noncomputable def x16_21 : List (Ins tf3) := [(iR1 bLd (rk (.pointer (some ⟨0, 0, none⟩))) s3_128), (iP1 (bFa 0) r3_16 s3_129), (iR1 bLd r3_129 s3_130), (iGr (r2 (rLook [0] false .nilFunc false)) [r3_128, r3_130] (some s3_131)), (iMv r3_13 s3_132), (iGr (r1 (rLdn 8)) [r3_16] (some s3_133)), (iCall r3_131 [r3_132, r3_15, r3_133] (some s3_134)), (iAs r3_134 s3_17)]
noncomputable def x16_22 : List (Ins tf3) := [(iMv r3_17 s3_135), (iGp (l1 (pUn .not)) [r3_135] (some s3_136))]
noncomputable def x16_23 : List (Ins tf3) := [(iMv r3_13 s3_137), (iP1 bNil r3_137 s3_138), (iP1 (bFa 9) r3_138 s3_139), (iR1 bLd r3_139 s3_140), (iP2 bNe r3_140 (rk (.int .u8 (.ofNat 0))) s3_141)]
noncomputable def x16_24 : List (Ins tf3) := [(iMv r3_10 s3_156), (iP1 bLen r3_156 s3_157), (iMv r3_3 s3_158), (iP2 bEq r3_157 r3_158 s3_159)]
noncomputable def x16_25 : List (Ins tf3) := [(iMv r3_13 s3_160), (iP1 bNil r3_160 s3_161), (iP1 (bFa 9) r3_161 s3_162), (iM2 bSt r3_162 (rk (.int .u8 (.ofNat 1))))]
noncomputable def x16_26 : List (Ins tf3) := [(iMv r3_10 s3_163), (iP1 (bFa 2) r3_15 s3_164), (iGr (r1 (rLdn 7)) [r3_164] (some s3_165)), (iGa (aBsl 1 7 [(.slice none 0 0), (.int .u8 (.ofNat 0)), (.int .i64 (.ofNat 0)), (.slice none 0 0), (.slice none 0 0), (.slice none 0 0), (.slice none 0 0)] [(0, 7)]) [r3_165] (some s3_166)), (iGm (m2 (sApp 7)) [r3_163, r3_166] (some s3_167)), (iAs r3_167 s3_10)]
noncomputable def x16_27 : XC tf3 := (.seq (.rg x16_12 (.cond r3_86 .skip (.exit 0))) (.block 1 (.rg x16_13 (.rg x16_14 (.seq (.block 2 (.rg x16_15 (.cond r3_142 (.reg x16_16) (.rg x16_17 (.cond r3_148 (.reg x16_18) (.rg x16_19 (.rg x16_20 (.rg x16_21 (.rg x16_22 (.cond r3_136 (.seq (.rg x16_23 (.cond r3_141 (.exit 0) .skip)) (.exit 1)) .skip)))))))))) (.seq (.rg x16_24 (.cond r3_159 (.rg x16_25 (.exit 0)) .skip)) (.reg x16_26)))))))
noncomputable def x16_28 : List (Ins tf3) := [(iMv r3_13 s3_168), (iP1 bNil r3_168 s3_169), (iP1 (bFa 9) r3_169 s3_170), (iR1 bLd r3_170 s3_171), (iP2 bNe r3_171 (rk (.int .u8 (.ofNat 0))) s3_172)]
noncomputable def x16_29 : List (Ins tf3) := [(iMv r3_13 s3_173), (iP1 bNil r3_173 s3_174), (iP1 (bFa 9) r3_174 s3_175), (iR1 bLd r3_175 s3_176), (iRc (iAs (rk (.slice none 0 0)) s3_10) [(rcLd r3_175 r3_176 [.o0, .o6, .o2] rfl)] rfl), (iAs r3_176 s3_11), (iAs (rk (.int .i64 (.ofNat 0))) s3_12)]
noncomputable def x16_30 : List (Ins tf3) := [(iMv r3_10 s3_177), (iAs r3_177 s3_10), (iAs (rk (.int .u8 (.ofNat 0))) s3_11), (iAs (rk (.int .i64 (.ofNat 0))) s3_12)]
noncomputable def x16_31 : XC tf3 := (.rg x16_0 (.scope (.seq (.rg x16_1 (.cond r3_19 (.rg x16_2 .ret) .skip)) (.seq (.rg x16_3 (.cond r3_29 (.rg x16_4 .ret) .skip)) (.seq (.rg x16_5 (.cond r3_51 (.rg x16_6 .ret) .skip)) (.rg x16_7 (.rg x16_8 (.seq (.rg x16_9 (.cond r3_65 (.rg x16_10 .ret) .skip)) (.rg x16_11 (.seq .skip (.seq (.block 0 (.loop x16_27)) (.seq (.rg x16_28 (.cond r3_172 (.rg x16_29 .ret) .skip)) (.rg x16_30 .ret)))))))))))))
noncomputable def x16 : XC tf3 := x16_31
noncomputable def c16 : Code := Tryd.f16.body.getD .skip
theorem x16_b : Tryd.f16.body = some c16 := by kernel_rfl
theorem x16_c : cG (comp Tryd.prog) 2 3 178 x16 c16 = x16.den := by kernel_rfl
noncomputable def y16 : List (RR Tryd.prog 3 178 tf3) := [rrT r3_10 10 rfl rfl, rrT r3_11 11 rfl rfl, rrT r3_12 12 rfl rfl]
theorem x16_r : y16.map RR.den = Tryd.f16.results.toList := by kernel_rfl
theorem x16_k : okFn Tryd.f16 = true := by kernel_rfl
theorem x16_D : 3 = dep Tryd.f16.ntmps := by kernel_rfl
theorem x16_s : ([s3_0, s3_1, s3_2, s3_3, s3_4] : List (Slot tf3)).map Slot.p = (List.range' 0 5).map (pth 3) := by kernel_rfl
noncomputable def X16 : XFn Tryd.prog 2 (comp Tryd.prog) := ⟨X3, tf3, 16, Tryd.f16, c16, 3, 178, [s3_0, s3_1, s3_2, s3_3, s3_4], z3, x16, y16, x16_D, Tryd.ntmps16.symm, Tryd.func16, x16_b, x16_k, x16_s, by decide, z3_ok, x16_c, x16_r⟩
noncomputable def x17_0 : List (Ins tf2) := [(iGa (a1 gBox) [r2_0] (some s2_2)), (iGa (a1 gBox) [r2_1] (some s2_3)), (iAs (rk (.bool false)) s2_4)]
noncomputable def x17_1 : List (Ins tf2) := [(iP1 (bFa 1) r2_2 s2_5), (iR1 bLd r2_5 s2_6), (iP1 (bFa 0) r2_3 s2_7), (iR1 bLd r2_7 s2_8), (iP2 bEq r2_6 r2_8 s2_9), (iMv r2_9 s2_10), (iGd r2_10 [.o2, .o1] true (iP1 (bFa 2) r2_2 s2_11) (some s2_11) rfl rfl rfl), (iGd r2_10 [.o2, .o1] true (iR1 bLd r2_11 s2_12) (some s2_12) rfl rfl rfl), (iGd r2_10 [.o2, .o1] true (iP1 (bFa 1) r2_3 s2_13) (some s2_13) rfl rfl rfl), (iGd r2_10 [.o2, .o1] true (iR1 bLd r2_13 s2_14) (some s2_14) rfl rfl rfl), (iGd r2_10 [.o2, .o1] true (iP2 bEq r2_12 r2_14 s2_15) (some s2_15) rfl rfl rfl), (iGp (l3 pPick) [r2_10, r2_15, (rk (.bool false))] (some s2_16)), (iMv r2_16 s2_17), (iGd r2_17 [.o1, .o2] true (iP1 (bFa 5) r2_2 s2_18) (some s2_18) rfl rfl rfl), (iGd r2_17 [.o1, .o2] true (iR1 bLd r2_18 s2_19) (some s2_19) rfl rfl rfl), (iGd r2_17 [.o1, .o2] true (iP1 (bFa 4) r2_3 s2_20) (some s2_20) rfl rfl rfl), (iGd r2_17 [.o1, .o2] true (iR1 bLd r2_20 s2_21) (some s2_21) rfl rfl rfl), (iGd r2_17 [.o1, .o2] true (iCall (rk (.func (.func 44) #[] #[])) [r2_19, r2_21] (some s2_22)) (some s2_22) rfl rfl rfl), (iGp (l3 pPick) [r2_17, r2_22, (rk (.bool false))] (some s2_23)), (iMv r2_23 s2_24), (iGd r2_24 [.o0, .o3] true (iP1 (bFa 6) r2_2 s2_25) (some s2_25) rfl rfl rfl), (iGd r2_24 [.o0, .o3] true (iR1 bLd r2_25 s2_26) (some s2_26) rfl rfl rfl), (iGd r2_24 [.o0, .o3] true (iP1 (bFa 5) r2_3 s2_27) (some s2_27) rfl rfl rfl), (iGd r2_24 [.o0, .o3] true (iR1 bLd r2_27 s2_28) (some s2_28) rfl rfl rfl), (iGd r2_24 [.o0, .o3] true (iCall (rk (.func (.func 45) #[] #[])) [r2_26, r2_28] (some s2_29)) (some s2_29) rfl rfl rfl), (iGp (l3 pPick) [r2_24, r2_29, (rk (.bool false))] (some s2_30)), (iMv r2_30 s2_31), (iGd r2_31 [.o7, .o3] true (iP1 (bFa 3) r2_2 s2_32) (some s2_32) rfl rfl rfl), (iGd r2_31 [.o7, .o3] true (iR1 bLd r2_32 s2_33) (some s2_33) rfl rfl rfl), (iGd r2_31 [.o7, .o3] true (iP1 (bFa 2) r2_3 s2_35) (some s2_35) rfl rfl rfl), (iGd r2_31 [.o7, .o3] true (iR1 bLd r2_35 s2_36) (some s2_36) rfl rfl rfl), (iRc (iGd r2_31 [.o7, .o3] true (iCall (rk (.func (.func 46) #[] #[])) [r2_33] (some s2_34)) (some s2_34) rfl rfl rfl) [(rcS ⟨(some ([.o7, .o3], true)), .r (r1 rLd), [(.t [.o3, .o4])], (some [.o4, .o4])⟩)] rfl), (iGd r2_31 [.o7, .o3] true (iCall (rk (.func (.func 47) #[] #[])) [r2_36] (some s2_37)) (some s2_37) rfl rfl rfl), (iGd r2_31 [.o7, .o3] true (iCall (rk (.func (.func 45) #[] #[])) [r2_34, r2_37] (some s2_38)) (some s2_38) rfl rfl rfl), (iGp (l3 pPick) [r2_31, r2_38, (rk (.bool false))] (some s2_39)), (iMv r2_39 s2_40), (iGd r2_40 [.o0, .o5] true (iP1 (bFa 4) r2_2 s2_41) (some s2_41) rfl rfl rfl), (iGd r2_40 [.o0, .o5] true (iR1 bLd r2_41 s2_42) (some s2_42) rfl rfl rfl), (iGd r2_40 [.o0, .o5] true (iP1 (bFa 3) r2_3 s2_44) (some s2_44) rfl rfl rfl), (iGd r2_40 [.o0, .o5] true (iR1 bLd r2_44 s2_45) (some s2_45) rfl rfl rfl), (iRc (iGd r2_40 [.o0, .o5] true (iCall (rk (.func (.func 46) #[] #[])) [r2_42] (some s2_43)) (some s2_43) rfl rfl rfl) [(rcS ⟨(some ([.o0, .o5], true)), .r (r1 rLd), [(.t [.o4, .o5])], (some [.o5, .o5])⟩)] rfl), (iGd r2_40 [.o0, .o5] true (iCall (rk (.func (.func 47) #[] #[])) [r2_45] (some s2_46)) (some s2_46) rfl rfl rfl), (iGd r2_40 [.o0, .o5] true (iCall (rk (.func (.func 45) #[] #[])) [r2_43, r2_46] (some s2_47)) (some s2_47) rfl rfl rfl), (iGp (l3 pPick) [r2_40, r2_47, (rk (.bool false))] (some s2_48)), (iAs r2_48 s2_4)]
noncomputable def x17 : XC tf2 := (.rg x17_0 (.rg x17_1 .ret))
noncomputable def c17 : Code := Tryd.f17.body.getD .skip
theorem x17_b : Tryd.f17.body = some c17 := by kernel_rfl
theorem x17_c : cG (comp Tryd.prog) 2 2 49 x17 c17 = x17.den := by kernel_rfl
noncomputable def y17 : List (RR Tryd.prog 2 49 tf2) := [rrT r2_4 4 rfl rfl]
theorem x17_r : y17.map RR.den = Tryd.f17.results.toList := by kernel_rfl
theorem x17_k : okFn Tryd.f17 = true := by kernel_rfl
theorem x17_D : 2 = dep Tryd.f17.ntmps := by kernel_rfl
theorem x17_s : ([s2_0, s2_1] : List (Slot tf2)).map Slot.p = (List.range' 0 2).map (pth 2) := by kernel_rfl
noncomputable def X17 : XFn Tryd.prog 2 (comp Tryd.prog) := ⟨X2, tf2, 17, Tryd.f17, c17, 2, 49, [s2_0, s2_1], z2, x17, y17, x17_D, Tryd.ntmps17.symm, Tryd.func17, x17_b, x17_k, x17_s, by decide, z2_ok, x17_c, x17_r⟩
noncomputable def x18_0 : List (Ins tf2) := [(iAs (rk (.bool false)) s2_0)]
noncomputable def x18_1 : List (Ins tf2) := [(iCall (rk (.func (.func 14) #[] #[])) [(rk (.int .u64 (.ofNat 1)))] (some s2_10)), (iGa (aAl 6 [(.int .i64 (.ofNat 0)), (.int .i64 (.ofNat 0)), (.slice none 0 0), (.slice none 0 0), (.slice none 0 0), (.slice none 0 0)]) [] (some s2_1)), (iGm (m2 (sStn 6)) [r2_1, r2_10] none)]
noncomputable def x18_2 : List (Ins tf2) := [(iGr (r1 (rLdn 6)) [r2_1] (some s2_11)), (iCall (rk (.func (.func 15) #[] #[])) [r2_11] (some s2_12)), (iAs r2_12 s2_2)]
noncomputable def x18_3 : List (Ins tf2) := [(iMv r2_2 s2_13), (iGp (l2 (pEqD (tdOf 34) false)) [r2_13, (rk (.pointer none))] (some s2_14))]
noncomputable def x18_4 : List (Ins tf2) := [(iAs (rk (.bool false)) s2_0)]
noncomputable def x18_5 : List (Ins tf2) := [(iMv r2_2 s2_16), (iGr (r1 (rLdn 6)) [r2_1] (some s2_17)), (iCall (rk (.func (.func 16) #[] #[])) [r2_16, r2_17, (rk (.int .i64 (.ofNat 20))), (rk (.int .i64 (.ofNat 16))), (rk (.int .i64 (.ofNat 0)))] (some s2_18)), (iMv r2_18 s2_15), (iGp (l1 (pExt 0)) [r2_15] (some s2_19)), (iGp (l1 (pExt 1)) [r2_15] (some s2_20)), (iGp (l1 (pExt 2)) [r2_15] (some s2_21)), (iAs r2_19 s2_3), (iAs r2_20 s2_4), (iAs r2_21 s2_5)]
noncomputable def x18_6 : List (Ins tf2) := [(iGa (aBsl 1 1 [(.int .u64 (.ofNat 0))] [(0, 1)]) [(rk (.int .u64 (.ofNat 3)))] (some s2_23)), (iGa (aBsl 2 1 [(.slice none 0 0)] [(0, 1), (1, 1)]) [(rk (.slice none 0 0)), r2_23] (some s2_24)), (iCall (rk (.func (.func 20) #[] #[])) [(rk (.int .i64 (.ofNat 2))), r2_24] (some s2_25)), (iMv r2_25 s2_22), (iGp (l1 (pExt 0)) [r2_22] (some s2_26)), (iGp (l1 (pExt 1)) [r2_22] (some s2_27)), (iAs r2_26 s2_6), (iAs r2_27 s2_7)]
noncomputable def x18_7 : List (Ins tf2) := [(iMv r2_2 s2_29), (iMv r2_3 s2_30), (iMv r2_6 s2_31), (iCall (rk (.func (.func 35) #[] #[])) [r2_29, r2_30, r2_31] (some s2_32)), (iMv r2_32 s2_28), (iGp (l1 (pExt 0)) [r2_28] (some s2_33)), (iGp (l1 (pExt 1)) [r2_28] (some s2_34)), (iAs r2_33 s2_8), (iAs r2_34 s2_9)]
noncomputable def x18_8 : List (Ins tf2) := [(iMv r2_5 s2_35), (iP2 bEq r2_35 (rk (.int .i64 (.ofNat 0))) s2_36), (iMv r2_36 s2_37), (iGd r2_37 [.o5, .o4] true (iMv r2_7 s2_38) (some s2_38) rfl rfl rfl), (iGd r2_37 [.o5, .o4] true (iP2 bEq r2_38 (rk (.int .i64 (.ofNat 0))) s2_39) (some s2_39) rfl rfl rfl), (iGp (l3 pPick) [r2_37, r2_39, (rk (.bool false))] (some s2_40)), (iMv r2_40 s2_41), (iGd r2_41 [.o1, .o5] true (iMv r2_8 s2_42) (some s2_42) rfl rfl rfl), (iGd r2_41 [.o1, .o5] true (iP2 bEq r2_42 (rk (.int .i64 (.ofNat 1))) s2_43) (some s2_43) rfl rfl rfl), (iGp (l3 pPick) [r2_41, r2_43, (rk (.bool false))] (some s2_44)), (iMv r2_44 s2_45), (iGd r2_45 [.o5, .o5] true (iMv r2_9 s2_46) (some s2_46) rfl rfl rfl), (iGd r2_45 [.o5, .o5] true (iP2 bEq r2_46 (rk (.int .i64 (.ofNat 0))) s2_47) (some s2_47) rfl rfl rfl), (iGp (l3 pPick) [r2_45, r2_47, (rk (.bool false))] (some s2_48)), (iAs r2_48 s2_0)]
noncomputable def x18 : XC tf2 := (.rg x18_0 (.rg x18_1 (.rg x18_2 (.seq (.rg x18_3 (.cond r2_14 (.rg x18_4 .ret) .skip)) (.rg x18_5 (.rg x18_6 (.rg x18_7 (.rg x18_8 .ret))))))))
noncomputable def c18 : Code := Tryd.f18.body.getD .skip
theorem x18_b : Tryd.f18.body = some c18 := by kernel_rfl
theorem x18_c : cG (comp Tryd.prog) 2 2 49 x18 c18 = x18.den := by kernel_rfl
noncomputable def y18 : List (RR Tryd.prog 2 49 tf2) := [rrT r2_0 0 rfl rfl]
theorem x18_r : y18.map RR.den = Tryd.f18.results.toList := by kernel_rfl
theorem x18_k : okFn Tryd.f18 = true := by kernel_rfl
theorem x18_D : 2 = dep Tryd.f18.ntmps := by kernel_rfl
theorem x18_s : ([] : List (Slot tf2)).map Slot.p = (List.range' 0 0).map (pth 2) := by kernel_rfl
noncomputable def X18 : XFn Tryd.prog 2 (comp Tryd.prog) := ⟨X2, tf2, 18, Tryd.f18, c18, 2, 49, [], z2, x18, y18, x18_D, Tryd.ntmps18.symm, Tryd.func18, x18_b, x18_k, x18_s, by decide, z2_ok, x18_c, x18_r⟩
end Cr
end Go.Proofs.YtjhbabgcoemecaaDoor
namespace Go.Proofs.YtjhbabgcoemecaaDoor
namespace Cr
open Go Go.RowKit
set_option maxRecDepth 100000
noncomputable def x20_0 : List (Ins tf3) := [(iAs (rk (.slice none 0 0)) s3_4), (iAs (rk (.int .i64 (.ofNat 0))) s3_5)]
noncomputable def x20_1 : List (Ins tf3) := [(iMv r3_0 s3_14), (iP2 bLt r3_14 (rk (.int .i64 (.ofNat 1))) s3_15), (iMv r3_15 s3_16), (iGd r3_16 [.o0, .o2, .o0] false (iMv r3_0 s3_17) (some s3_17) rfl rfl rfl), (iGd r3_16 [.o0, .o2, .o0] false (iP2 bGt r3_17 (rk (.int .i64 (.ofNat 32))) s3_18) (some s3_18) rfl rfl rfl), (iGp (l3 pPick) [r3_16, (rk (.bool true)), r3_18] (some s3_19)), (iMv r3_19 s3_20), (iGd r3_20 [.o4, .o2, .o0] false (iMv r3_1 s3_21) (some s3_21) rfl rfl rfl), (iGd r3_20 [.o4, .o2, .o0] false (iP1 bLen r3_21 s3_22) (some s3_22) rfl rfl rfl), (iGd r3_20 [.o4, .o2, .o0] false (iMv r3_0 s3_23) (some s3_23) rfl rfl rfl), (iGd r3_20 [.o4, .o2, .o0] false (iP2 bGt r3_22 r3_23 s3_24) (some s3_24) rfl rfl rfl), (iGp (l3 pPick) [r3_20, (rk (.bool true)), r3_24] (some s3_25))]
noncomputable def x20_2 : List (Ins tf3) := [(iAs (rk (.slice none 0 0)) s3_4), (iAs (rk (.int .i64 (.ofNat 3))) s3_5)]
noncomputable def x20_3 : List (Ins tf3) := [(iMv r3_1 s3_26), (iP1 bLen r3_26 s3_27), (iMv (rk (.int .i64 (.ofNat 0))) s3_28)]
noncomputable def x20_4 : List (Ins tf3) := [(iP2 bLt r3_28 r3_27 s3_29)]
noncomputable def x20_5 : List (Ins tf3) := [(iP2 (bIxs 1) r3_26 r3_28 s3_30), (iR1 bLd r3_30 s3_31), (iAs r3_31 s3_7)]
noncomputable def x20_6 : List (Ins tf3) := [(iMv r3_7 s3_32), (iP1 bLen r3_32 s3_33), (iP2 bGt r3_33 (rk (.int .i64 (.ofNat 65536))) s3_34)]
noncomputable def x20_7 : List (Ins tf3) := [(iAs (rk (.slice none 0 0)) s3_4), (iAs (rk (.int .i64 (.ofNat 5))) s3_5)]
noncomputable def x20_8 : List (Ins tf3) := [(iP2 bAdd r3_28 (rk (.int .i64 (.ofNat 1))) s3_35), (iMv r3_35 s3_28)]
noncomputable def x20_9 : List (Ins tf3) := [(iAs (rk (.slice none 0 0)) s3_8)]
noncomputable def x20_10 : List (Ins tf3) := [(iMv r3_1 s3_36), (iP1 bLen r3_36 s3_37), (iMv (rk (.int .i64 (.ofNat 0))) s3_38)]
noncomputable def x20_11 : List (Ins tf3) := [(iP2 bLt r3_38 r3_37 s3_39)]
noncomputable def x20_12 : List (Ins tf3) := [(iMv r3_38 s3_40), (iAs r3_40 s3_9)]
noncomputable def x20_13 : List (Ins tf3) := [(iMv r3_1 s3_41), (iMv r3_9 s3_42), (iP2 (bIxs 1) r3_41 r3_42 s3_43), (iR1 bLd r3_43 s3_44), (iP1 bLen r3_44 s3_45), (iMv (rk (.int .i64 (.ofNat 0))) s3_46)]
noncomputable def x20_14 : List (Ins tf3) := [(iP2 bLt r3_46 r3_45 s3_47)]
noncomputable def x20_15 : List (Ins tf3) := [(iMv r3_46 s3_48), (iP2 (bIxs 1) r3_44 r3_46 s3_49), (iR1 bLd r3_49 s3_50), (iAs r3_48 s3_10), (iAs r3_50 s3_11)]
noncomputable def x20_16 : List (Ins tf3) := [(iMv r3_0 s3_52), (iMv r3_9 s3_53), (iMv r3_10 s3_54), (iCall (rk (.func (.func 11) #[] #[])) [r3_52, r3_53, r3_54] (some s3_55)), (iMv r3_55 s3_51), (iGp (l1 (pExt 0)) [r3_51] (some s3_56)), (iGp (l1 (pExt 1)) [r3_51] (some s3_57)), (iAs r3_56 s3_12), (iAs r3_57 s3_13)]
noncomputable def x20_17 : List (Ins tf3) := [(iMv r3_8 s3_58), (iP1 bLen r3_58 s3_59), (iMv r3_12 s3_60), (iP2 bLe r3_59 r3_60 s3_61)]
noncomputable def x20_18 : List (Ins tf3) := [(iMv r3_8 s3_62), (iGa (aBsl 1 1 [(.int .u64 (.ofNat 0))] [(0, 1)]) [(rk (.int .u64 (.ofNat 0)))] (some s3_63)), (iGm (m2 (sApp 1)) [r3_62, r3_63] (some s3_64)), (iAs r3_64 s3_8)]
noncomputable def x20_19 : List (Ins tf3) := [(iMv r3_8 s3_65), (iMv r3_12 s3_66), (iMv r3_11 s3_67), (iP2 (bIxs 1) r3_65 r3_66 s3_68), (iM2 bSt r3_68 r3_67)]
noncomputable def x20_20 : List (Ins tf3) := [(iP2 bAdd r3_46 (rk (.int .i64 (.ofNat 1))) s3_69), (iMv r3_69 s3_46)]
noncomputable def x20_21 : List (Ins tf3) := [(iP2 bAdd r3_38 (rk (.int .i64 (.ofNat 1))) s3_70), (iMv r3_70 s3_38)]
noncomputable def x20_22 : List (Ins tf3) := [(iMv r3_8 s3_71), (iAs r3_71 s3_4), (iAs (rk (.int .i64 (.ofNat 0))) s3_5)]
noncomputable def x20_23 : XC tf3 := (.seq (.rg x20_10 (.block 2 (.loop (.rg x20_11 (.seq (.cond r3_39 .skip (.exit 2)) (.seq (.block 3 (.rg x20_12 (.rg x20_13 (.block 4 (.loop (.rg x20_14 (.seq (.cond r3_47 .skip (.exit 4)) (.seq (.block 5 (.rg x20_15 (.rg x20_16 (.seq (.block 6 (.loop (.seq (.rg x20_17 (.cond r3_61 .skip (.exit 6))) (.block 7 (.reg x20_18))))) (.reg x20_19))))) (.reg x20_20))))))))) (.reg x20_21))))))) (.rg x20_22 .ret))
noncomputable def x20 : XC tf3 := (.rg x20_0 (.seq (.rg x20_1 (.cond r3_25 (.rg x20_2 .ret) .skip)) (.seq (.rg x20_3 (.block 0 (.loop (.rg x20_4 (.seq (.cond r3_29 .skip (.exit 0)) (.seq (.block 1 (.rg x20_5 (.rg x20_6 (.cond r3_34 (.rg x20_7 .ret) .skip)))) (.reg x20_8))))))) (.rg x20_9 x20_23))))
noncomputable def c20 : Code := Tryd.f20.body.getD .skip
theorem x20_b : Tryd.f20.body = some c20 := by kernel_rfl
theorem x20_c : cG (comp Tryd.prog) 2 3 72 x20 c20 = x20.den := by kernel_rfl
noncomputable def y20 : List (RR Tryd.prog 3 72 tf3) := [rrT r3_4 4 rfl rfl, rrT r3_5 5 rfl rfl]
theorem x20_r : y20.map RR.den = Tryd.f20.results.toList := by kernel_rfl
theorem x20_k : okFn Tryd.f20 = true := by kernel_rfl
theorem x20_D : 3 = dep Tryd.f20.ntmps := by kernel_rfl
theorem x20_s : ([s3_0, s3_1] : List (Slot tf3)).map Slot.p = (List.range' 0 2).map (pth 3) := by kernel_rfl
noncomputable def X20 : XFn Tryd.prog 2 (comp Tryd.prog) := ⟨X3, tf3, 20, Tryd.f20, c20, 3, 72, [s3_0, s3_1], z3, x20, y20, x20_D, Tryd.ntmps20.symm, Tryd.func20, x20_b, x20_k, x20_s, by decide, z3_ok, x20_c, x20_r⟩
noncomputable def x23_0 : List (Ins tf2) := [(iAs (rk (.bool false)) s2_4)]
noncomputable def x23_1 : List (Ins tf2) := [(iMv r2_0 s2_6), (iP1 bLen r2_6 s2_7), (iMv r2_1 s2_8), (iP1 bLen r2_8 s2_9), (iP2 bNe r2_7 r2_9 s2_10)]
noncomputable def x23_2 : List (Ins tf2) := [(iAs (rk (.bool false)) s2_4)]
noncomputable def x23_3 : List (Ins tf2) := [(iAs (rk (.int .i64 (.ofNat 0))) s2_5)]
noncomputable def x23_4 : List (Ins tf2) := [(iMv r2_5 s2_11), (iMv r2_0 s2_12), (iP1 bLen r2_12 s2_13), (iP2 bLt r2_11 r2_13 s2_14)]
noncomputable def x23_5 : List (Ins tf2) := [(iMv r2_0 s2_17), (iMv r2_5 s2_18), (iP2 (bIxs 1) r2_17 r2_18 s2_19), (iR1 bLd r2_19 s2_20), (iMv r2_1 s2_21), (iMv r2_5 s2_22), (iP2 (bIxs 1) r2_21 r2_22 s2_23), (iR1 bLd r2_23 s2_24), (iP2 bNe r2_20 r2_24 s2_25)]
noncomputable def x23_6 : List (Ins tf2) := [(iAs (rk (.bool false)) s2_4)]
noncomputable def x23_7 : List (Ins tf2) := [(iMv r2_5 s2_15), (iP2 bAdd r2_15 (rk (.int .i64 (.ofNat 1))) s2_16), (iAs r2_16 s2_5)]
noncomputable def x23_8 : List (Ins tf2) := [(iAs (rk (.bool true)) s2_4)]
noncomputable def x23 : XC tf2 := (.rg x23_0 (.seq (.rg x23_1 (.cond r2_10 (.rg x23_2 .ret) .skip)) (.seq (.rg x23_3 (.block 0 (.loop (.seq (.rg x23_4 (.cond r2_14 .skip (.exit 0))) (.seq (.block 1 (.rg x23_5 (.cond r2_25 (.rg x23_6 .ret) .skip))) (.reg x23_7)))))) (.rg x23_8 .ret))))
noncomputable def c23 : Code := Tryd.f23.body.getD .skip
theorem x23_b : Tryd.f23.body = some c23 := by kernel_rfl
theorem x23_c : cG (comp Tryd.prog) 2 2 26 x23 c23 = x23.den := by kernel_rfl
noncomputable def y23 : List (RR Tryd.prog 2 26 tf2) := [rrT r2_4 4 rfl rfl]
theorem x23_r : y23.map RR.den = Tryd.f23.results.toList := by kernel_rfl
theorem x23_k : okFn Tryd.f23 = true := by kernel_rfl
theorem x23_D : 2 = dep Tryd.f23.ntmps := by kernel_rfl
theorem x23_s : ([s2_0, s2_1] : List (Slot tf2)).map Slot.p = (List.range' 0 2).map (pth 2) := by kernel_rfl
noncomputable def X23 : XFn Tryd.prog 2 (comp Tryd.prog) := ⟨X2, tf2, 23, Tryd.f23, c23, 2, 26, [s2_0, s2_1], z2, x23, y23, x23_D, Tryd.ntmps23.symm, Tryd.func23, x23_b, x23_k, x23_s, by decide, z2_ok, x23_c, x23_r⟩
noncomputable def x24_0 : List (Ins tf2) := [(iAs (rk (.bool false)) s2_4)]
noncomputable def x24_1 : List (Ins tf2) := [(iMv r2_0 s2_6), (iP1 bLen r2_6 s2_7), (iMv r2_1 s2_8), (iP1 bLen r2_8 s2_9), (iP2 bNe r2_7 r2_9 s2_10)]
noncomputable def x24_2 : List (Ins tf2) := [(iAs (rk (.bool false)) s2_4)]
noncomputable def x24_3 : List (Ins tf2) := [(iAs (rk (.int .i64 (.ofNat 0))) s2_5)]
noncomputable def x24_4 : List (Ins tf2) := [(iMv r2_5 s2_11), (iMv r2_0 s2_12), (iP1 bLen r2_12 s2_13), (iP2 bLt r2_11 r2_13 s2_14)]
noncomputable def x24_5 : List (Ins tf2) := [(iMv r2_0 s2_17), (iMv r2_5 s2_18), (iP2 (bIxs 1) r2_17 r2_18 s2_19), (iR1 bLd r2_19 s2_20), (iMv r2_1 s2_21), (iMv r2_5 s2_22), (iP2 (bIxs 1) r2_21 r2_22 s2_23), (iR1 bLd r2_23 s2_24), (iCall (rk (.func (.func 23) #[] #[])) [r2_20, r2_24] (some s2_25)), (iGp (l1 (pUn .not)) [r2_25] (some s2_26))]
noncomputable def x24_6 : List (Ins tf2) := [(iAs (rk (.bool false)) s2_4)]
noncomputable def x24_7 : List (Ins tf2) := [(iMv r2_5 s2_15), (iP2 bAdd r2_15 (rk (.int .i64 (.ofNat 1))) s2_16), (iAs r2_16 s2_5)]
noncomputable def x24_8 : List (Ins tf2) := [(iAs (rk (.bool true)) s2_4)]
noncomputable def x24 : XC tf2 := (.rg x24_0 (.seq (.rg x24_1 (.cond r2_10 (.rg x24_2 .ret) .skip)) (.seq (.rg x24_3 (.block 0 (.loop (.seq (.rg x24_4 (.cond r2_14 .skip (.exit 0))) (.seq (.block 1 (.rg x24_5 (.cond r2_26 (.rg x24_6 .ret) .skip))) (.reg x24_7)))))) (.rg x24_8 .ret))))
noncomputable def c24 : Code := Tryd.f24.body.getD .skip
theorem x24_b : Tryd.f24.body = some c24 := by kernel_rfl
theorem x24_c : cG (comp Tryd.prog) 2 2 27 x24 c24 = x24.den := by kernel_rfl
noncomputable def y24 : List (RR Tryd.prog 2 27 tf2) := [rrT r2_4 4 rfl rfl]
theorem x24_r : y24.map RR.den = Tryd.f24.results.toList := by kernel_rfl
theorem x24_k : okFn Tryd.f24 = true := by kernel_rfl
theorem x24_D : 2 = dep Tryd.f24.ntmps := by kernel_rfl
theorem x24_s : ([s2_0, s2_1] : List (Slot tf2)).map Slot.p = (List.range' 0 2).map (pth 2) := by kernel_rfl
noncomputable def X24 : XFn Tryd.prog 2 (comp Tryd.prog) := ⟨X2, tf2, 24, Tryd.f24, c24, 2, 27, [s2_0, s2_1], z2, x24, y24, x24_D, Tryd.ntmps24.symm, Tryd.func24, x24_b, x24_k, x24_s, by decide, z2_ok, x24_c, x24_r⟩
noncomputable def x25_0 : List (Ins tf2) := [(iAs (rk (.slice none 0 0)) s2_6), (iAs (rk (.int .i64 (.ofNat 0))) s2_7)]
noncomputable def x25_1 : List (Ins tf2) := [(iMv r2_0 s2_13), (iP2 bLt r2_13 (rk (.int .i64 (.ofNat 1))) s2_14), (iMv r2_14 s2_15), (iGd r2_15 [.o7, .o1] false (iMv r2_0 s2_16) (some s2_16) rfl rfl rfl), (iGd r2_15 [.o7, .o1] false (iP2 bGt r2_16 (rk (.int .i64 (.ofNat 32))) s2_17) (some s2_17) rfl rfl rfl), (iGp (l3 pPick) [r2_15, (rk (.bool true)), r2_17] (some s2_18)), (iMv r2_18 s2_19), (iGd r2_19 [.o3, .o2] false (iMv r2_1 s2_20) (some s2_20) rfl rfl rfl), (iGd r2_19 [.o3, .o2] false (iP2 bLt r2_20 (rk (.int .i64 (.ofNat 0))) s2_21) (some s2_21) rfl rfl rfl), (iGp (l3 pPick) [r2_19, (rk (.bool true)), r2_21] (some s2_22)), (iMv r2_22 s2_23), (iGd r2_23 [.o7, .o2] false (iMv r2_1 s2_24) (some s2_24) rfl rfl rfl), (iGd r2_23 [.o7, .o2] false (iP2 bGt r2_24 (rk (.int .i64 (.ofNat 65536))) s2_25) (some s2_25) rfl rfl rfl), (iGp (l3 pPick) [r2_23, (rk (.bool true)), r2_25] (some s2_26))]
noncomputable def x25_2 : List (Ins tf2) := [(iAs (rk (.slice none 0 0)) s2_6), (iAs (rk (.int .i64 (.ofNat 3))) s2_7)]
noncomputable def x25_3 : List (Ins tf2) := [(iMv r2_0 s2_27), (iGa (a2 (gMks 1 24 [(.slice none 0 0)])) [r2_27, r2_27] (some s2_28)), (iAs r2_28 s2_8)]
noncomputable def x25_4 : List (Ins tf2) := [(iMv r2_0 s2_29), (iMv (rk (.int .i64 (.ofNat 0))) s2_30)]
noncomputable def x25_5 : List (Ins tf2) := [(iP2 bLt r2_30 r2_29 s2_31)]
noncomputable def x25_6 : List (Ins tf2) := [(iMv r2_30 s2_32), (iAs r2_32 s2_9)]
noncomputable def x25_7 : List (Ins tf2) := [(iMv r2_1 s2_33), (iMv (rk (.int .i64 (.ofNat 0))) s2_34)]
noncomputable def x25_8 : List (Ins tf2) := [(iP2 bLt r2_34 r2_33 s2_35)]
noncomputable def x25_9 : List (Ins tf2) := [(iMv r2_34 s2_36), (iAs r2_36 s2_10)]
noncomputable def x25_10 : List (Ins tf2) := [(iMv r2_10 s2_37), (iMv r2_0 s2_38), (iGp (l2 (pBin .mul)) [r2_37, r2_38] (some s2_39)), (iMv r2_9 s2_40), (iP2 bAdd r2_39 r2_40 s2_41), (iGp (l2 (pBin .mul)) [(rk (.int .i64 (.ofNat 2))), r2_41] (some s2_42)), (iAs (rk (.int .u64 (.ofNat 0))) s2_11), (iAs r2_42 s2_12)]
noncomputable def x25_11 : List (Ins tf2) := [(iMv r2_12 s2_43), (iMv r2_2 s2_44), (iP1 bLen r2_44 s2_45), (iP2 bLt r2_43 r2_45 s2_46)]
noncomputable def x25_12 : List (Ins tf2) := [(iMv r2_2 s2_47), (iMv r2_12 s2_48), (iP2 (bIxs 1) r2_47 r2_48 s2_49), (iR1 bLd r2_49 s2_50), (iAs r2_50 s2_11)]
noncomputable def x25_13 : List (Ins tf2) := [(iMv r2_8 s2_51), (iMv r2_9 s2_52), (iMv r2_8 s2_53), (iMv r2_9 s2_54), (iP2 (bIxs 1) r2_53 r2_54 s2_55), (iR1 bLd r2_55 s2_56), (iMv r2_11 s2_57), (iGa (aBsl 1 1 [(.int .u64 (.ofNat 0))] [(0, 1)]) [r2_57] (some s2_58)), (iGm (m2 (sApp 1)) [r2_56, r2_58] (some s2_59)), (iP2 (bIxs 1) r2_51 r2_52 s2_60), (iM2 bSt r2_60 r2_59)]
noncomputable def x25_14 : List (Ins tf2) := [(iP2 bAdd r2_34 (rk (.int .i64 (.ofNat 1))) s2_61), (iMv r2_61 s2_34)]
noncomputable def x25_15 : List (Ins tf2) := [(iP2 bAdd r2_30 (rk (.int .i64 (.ofNat 1))) s2_62), (iMv r2_62 s2_30)]
noncomputable def x25_16 : List (Ins tf2) := [(iMv r2_8 s2_63), (iAs r2_63 s2_6), (iAs (rk (.int .i64 (.ofNat 0))) s2_7)]
noncomputable def x25_17 : XC tf2 := (.seq (.rg x25_1 (.cond r2_26 (.rg x25_2 .ret) .skip)) (.rg x25_3 (.seq (.rg x25_4 (.block 0 (.loop (.rg x25_5 (.seq (.cond r2_31 .skip (.exit 0)) (.seq (.block 1 (.rg x25_6 (.rg x25_7 (.block 2 (.loop (.rg x25_8 (.seq (.cond r2_35 .skip (.exit 2)) (.seq (.block 3 (.rg x25_9 (.rg x25_10 (.seq (.rg x25_11 (.cond r2_46 (.reg x25_12) .skip)) (.reg x25_13))))) (.reg x25_14))))))))) (.reg x25_15))))))) (.rg x25_16 .ret))))
noncomputable def x25 : XC tf2 := (.rg x25_0 x25_17)
noncomputable def c25 : Code := Tryd.f25.body.getD .skip
theorem x25_b : Tryd.f25.body = some c25 := by kernel_rfl
theorem x25_c : cG (comp Tryd.prog) 2 2 64 x25 c25 = x25.den := by kernel_rfl
noncomputable def y25 : List (RR Tryd.prog 2 64 tf2) := [rrT r2_6 6 rfl rfl, rrT r2_7 7 rfl rfl]
theorem x25_r : y25.map RR.den = Tryd.f25.results.toList := by kernel_rfl
theorem x25_k : okFn Tryd.f25 = true := by kernel_rfl
theorem x25_D : 2 = dep Tryd.f25.ntmps := by kernel_rfl
theorem x25_s : ([s2_0, s2_1, s2_2] : List (Slot tf2)).map Slot.p = (List.range' 0 3).map (pth 2) := by kernel_rfl
noncomputable def X25 : XFn Tryd.prog 2 (comp Tryd.prog) := ⟨X2, tf2, 25, Tryd.f25, c25, 2, 64, [s2_0, s2_1, s2_2], z2, x25, y25, x25_D, Tryd.ntmps25.symm, Tryd.func25, x25_b, x25_k, x25_s, by decide, z2_ok, x25_c, x25_r⟩
noncomputable def x30_0 : List (Ins tf2) := [(iGa (a1 gBox) [r2_1] (some s2_4)), (iAs (rk (.bool false)) s2_6), (iAs (rk (.int .i64 (.ofNat 0))) s2_7)]
noncomputable def x30_1 : List (Ins tf2) := [(iMv r2_0 s2_13), (iP1 (bFa 0) r2_4 s2_14), (iR1 bLd r2_14 s2_15), (iMv r2_2 s2_16), (iCall (rk (.func (.func 56) #[] #[])) [r2_13, r2_15, r2_16] (some s2_17)), (iMv r2_17 s2_12), (iGp (l1 (pExt 0)) [r2_12] (some s2_18)), (iGp (l1 (pExt 1)) [r2_12] (some s2_19)), (iAs r2_18 s2_8), (iAs r2_19 s2_9)]
noncomputable def x30_2 : List (Ins tf2) := [(iMv r2_9 s2_20), (iP2 bNe r2_20 (rk (.int .i64 (.ofNat 0))) s2_21)]
noncomputable def x30_3 : List (Ins tf2) := [(iMv r2_9 s2_22), (iAs (rk (.bool false)) s2_6), (iAs r2_22 s2_7)]
noncomputable def x30_4 : List (Ins tf2) := [(iMv r2_8 s2_23), (iP1 bLen r2_23 s2_24), (iMv (rk (.int .i64 (.ofNat 0))) s2_25)]
noncomputable def x30_5 : List (Ins tf2) := [(iP2 bLt r2_25 r2_24 s2_26)]
noncomputable def x30_6 : List (Ins tf2) := [(iP2 (bIxs 1) r2_23 r2_25 s2_27), (iR1 bLd r2_27 s2_28), (iAs r2_28 s2_11)]
noncomputable def x30_7 : List (Ins tf2) := [(iMv r2_11 s2_29), (iP2 bEq r2_29 (rk (.int .u64 (.ofNat 0))) s2_30)]
noncomputable def x30_8 : List (Ins tf2) := [(iAs (rk (.bool false)) s2_6), (iAs (rk (.int .i64 (.ofNat 0))) s2_7)]
noncomputable def x30_9 : List (Ins tf2) := [(iP2 bAdd r2_25 (rk (.int .i64 (.ofNat 1))) s2_31), (iMv r2_31 s2_25)]
noncomputable def x30_10 : List (Ins tf2) := [(iAs (rk (.bool true)) s2_6), (iAs (rk (.int .i64 (.ofNat 0))) s2_7)]
noncomputable def x30 : XC tf2 := (.rg x30_0 (.rg x30_1 (.seq (.rg x30_2 (.cond r2_21 (.rg x30_3 .ret) .skip)) (.seq (.rg x30_4 (.block 0 (.loop (.rg x30_5 (.seq (.cond r2_26 .skip (.exit 0)) (.seq (.block 1 (.rg x30_6 (.rg x30_7 (.cond r2_30 (.rg x30_8 .ret) .skip)))) (.reg x30_9))))))) (.rg x30_10 .ret)))))
noncomputable def c30 : Code := Tryd.f30.body.getD .skip
theorem x30_b : Tryd.f30.body = some c30 := by kernel_rfl
theorem x30_c : cG (comp Tryd.prog) 2 2 32 x30 c30 = x30.den := by kernel_rfl
noncomputable def y30 : List (RR Tryd.prog 2 32 tf2) := [rrT r2_6 6 rfl rfl, rrT r2_7 7 rfl rfl]
theorem x30_r : y30.map RR.den = Tryd.f30.results.toList := by kernel_rfl
theorem x30_k : okFn Tryd.f30 = true := by kernel_rfl
theorem x30_D : 2 = dep Tryd.f30.ntmps := by kernel_rfl
theorem x30_s : ([s2_0, s2_1, s2_2] : List (Slot tf2)).map Slot.p = (List.range' 0 3).map (pth 2) := by kernel_rfl
noncomputable def X30 : XFn Tryd.prog 2 (comp Tryd.prog) := ⟨X2, tf2, 30, Tryd.f30, c30, 2, 32, [s2_0, s2_1, s2_2], z2, x30, y30, x30_D, Tryd.ntmps30.symm, Tryd.func30, x30_b, x30_k, x30_s, by decide, z2_ok, x30_c, x30_r⟩
noncomputable def x32_0 : List (Ins tf3) := [(iGa (a1 gBox) [r3_1] (some s3_4)), (iGa (aAl 6 [(.int .u8 (.ofNat 0)), (.int .i64 (.ofNat 0)), (.slice none 0 0), (.slice none 0 0), (.slice none 0 0), (.slice none 0 0)]) [] (some s3_6)), (iAs (rk (.int .i64 (.ofNat 0))) s3_7)]
noncomputable def x32_1 : List (Ins tf3) := [(iP1 (bFa 1) r3_4 s3_16), (iR1 bLd r3_16 s3_17), (iP1 (bFa 2) r3_4 s3_18), (iR1 bLd r3_18 s3_19), (iP1 (bFa 5) r3_4 s3_20), (iR1 bLd r3_20 s3_21), (iP1 (bFa 6) r3_4 s3_23), (iR1 bLd r3_23 s3_24), (iGa (aAl 6 [(.int .u8 (.ofNat 0)), (.int .i64 (.ofNat 0)), (.slice none 0 0), (.slice none 0 0), (.slice none 0 0), (.slice none 0 0)]) [] (some s3_8)), (iRc (iGm (m2 (sApp 1)) [(rk (.slice none 0 0)), r3_21] (some s3_22)) [(rcLd r3_23 r3_24 [.o0, .o3, .o0] rfl), (rcLd r3_18 r3_19 [.o3, .o2, .o0] rfl), (rcLd r3_16 r3_17 [.o1, .o2, .o0] rfl)] rfl), (iRc (iGm (m2 (sApp 1)) [(rk (.slice none 0 0)), r3_24] (some s3_25)) [(rcLd r3_18 r3_19 [.o3, .o2, .o0] rfl), (rcLd r3_16 r3_17 [.o1, .o2, .o0] rfl)] rfl), (iGp (pBld [(.int .u8 (.ofNat 0)), (.int .i64 (.ofNat 0)), (.slice none 0 0), (.slice none 0 0), (.slice none 0 0), (.slice none 0 0)] [(0, 1), (1, 1), (4, 1), (5, 1)]) [r3_17, r3_19, r3_22, r3_25] (some s3_26)), (iGm (m2 (sStn 6)) [r3_8, r3_26] none)]
noncomputable def x32_2 : List (Ins tf3) := [(iAs (rk (.func (.func 58) #[] #[])) s3_9)]
noncomputable def x32_3 : List (Ins tf3) := [(iP1 (bFa 3) r3_4 s3_27), (iR1 bLd r3_27 s3_28), (iP1 (bFa 4) r3_4 s3_29), (iR1 bLd r3_29 s3_30), (iGp (pBld [(.slice none 0 0), (.slice none 0 0)] [(0, 1), (1, 1)]) [r3_28, r3_30] (some s3_31)), (iMv (rk (.int .i64 (.ofNat 0))) s3_32)]
noncomputable def x32_4 : List (Ins tf3) := [(iP2 bLt r3_32 (rk (.int .i64 (.ofNat 2))) s3_33)]
noncomputable def x32_5 : List (Ins tf3) := [(iMv r3_32 s3_34), (iGp (l2 (pIx 2 none 1)) [r3_31, r3_32] (some s3_35)), (iAs r3_34 s3_10), (iAs r3_35 s3_11)]
noncomputable def x32_6 : List (Ins tf3) := [(iMv r3_0 s3_37), (iMv r3_9 s3_38), (iMv r3_11 s3_39), (iCall (rk (.func (.func 59) #[] #[])) [r3_38, r3_39] (some s3_40)), (iMv r3_2 s3_41), (iCall (rk (.func (.func 56) #[] #[])) [r3_37, r3_40, r3_41] (some s3_42)), (iMv r3_42 s3_36), (iGp (l1 (pExt 0)) [r3_36] (some s3_43)), (iGp (l1 (pExt 1)) [r3_36] (some s3_44)), (iAs r3_43 s3_12), (iAs r3_44 s3_13)]
noncomputable def x32_7 : List (Ins tf3) := [(iMv r3_13 s3_45), (iP2 bNe r3_45 (rk (.int .i64 (.ofNat 0))) s3_46)]
noncomputable def x32_8 : List (Ins tf3) := [(iGp (pBld [(.int .u8 (.ofNat 0)), (.int .i64 (.ofNat 0)), (.slice none 0 0), (.slice none 0 0), (.slice none 0 0), (.slice none 0 0)] []) [] (some s3_47)), (iMv r3_13 s3_48), (iGm (m2 (sStn 6)) [r3_6, r3_47] none), (iAs r3_48 s3_7)]
noncomputable def x32_9 : List (Ins tf3) := [(iMv r3_11 s3_49), (iP1 bLen r3_49 s3_50), (iGa (a2 (gMks 2 16 [(.int .i64 (.ofNat 0)), (.int .u64 (.ofNat 0))])) [(rk (.int .i64 (.ofNat 0))), r3_50] (some s3_51)), (iAs r3_51 s3_14)]
noncomputable def x32_10 : List (Ins tf3) := [(iMv r3_11 s3_52), (iP1 bLen r3_52 s3_53), (iMv (rk (.int .i64 (.ofNat 0))) s3_54)]
noncomputable def x32_11 : List (Ins tf3) := [(iP2 bLt r3_54 r3_53 s3_55)]
noncomputable def x32_12 : List (Ins tf3) := [(iMv r3_54 s3_56), (iAs r3_56 s3_15)]
noncomputable def x32_13 : List (Ins tf3) := [(iMv r3_14 s3_57), (iMv r3_11 s3_58), (iMv r3_15 s3_59), (iP2 (bIxs 2) r3_58 r3_59 s3_60), (iP1 (bFa 0) r3_60 s3_61), (iR1 bLd r3_61 s3_62), (iMv r3_12 s3_63), (iMv r3_15 s3_64), (iP2 (bIxs 1) r3_63 r3_64 s3_65), (iR1 bLd r3_65 s3_66), (iGp (pBld [(.int .i64 (.ofNat 0)), (.int .u64 (.ofNat 0))] [(0, 1), (1, 1)]) [r3_62, r3_66] (some s3_67)), (iGa (aBsl 1 2 [(.int .i64 (.ofNat 0)), (.int .u64 (.ofNat 0))] [(0, 2)]) [r3_67] (some s3_68)), (iGm (m2 (sApp 2)) [r3_57, r3_68] (some s3_69)), (iAs r3_69 s3_14)]
noncomputable def x32_14 : List (Ins tf3) := [(iP2 bAdd r3_54 (rk (.int .i64 (.ofNat 1))) s3_70), (iMv r3_70 s3_54)]
noncomputable def x32_15 : List (Ins tf3) := [(iMv r3_10 s3_71), (iP2 bEq r3_71 (rk (.int .i64 (.ofNat 0))) s3_72)]
noncomputable def x32_16 : List (Ins tf3) := [(iMv r3_14 s3_73), (iP1 (bFa 2) r3_8 s3_74), (iM2 bSt r3_74 r3_73)]
noncomputable def x32_17 : List (Ins tf3) := [(iMv r3_14 s3_75), (iP1 (bFa 3) r3_8 s3_76), (iM2 bSt r3_76 r3_75)]
noncomputable def x32_18 : List (Ins tf3) := [(iP2 bAdd r3_32 (rk (.int .i64 (.ofNat 1))) s3_77), (iMv r3_77 s3_32)]
noncomputable def x32_19 : XC tf3 := (.rg x32_3 (.block 0 (.loop (.rg x32_4 (.seq (.cond r3_33 .skip (.exit 0)) (.seq (.block 1 (.rg x32_5 (.rg x32_6 (.seq (.rg x32_7 (.cond r3_46 (.rg x32_8 .ret) .skip)) (.rg x32_9 (.seq (.rg x32_10 (.block 2 (.loop (.rg x32_11 (.seq (.cond r3_55 .skip (.exit 2)) (.seq (.block 3 (.rg x32_12 (.reg x32_13))) (.reg x32_14))))))) (.rg x32_15 (.cond r3_72 (.reg x32_16) (.reg x32_17))))))))) (.reg x32_18)))))))
noncomputable def x32_20 : List (Ins tf3) := [(iGr (r1 (rLdn 6)) [r3_8] (some s3_78)), (iGm (m2 (sStn 6)) [r3_6, r3_78] none), (iAs (rk (.int .i64 (.ofNat 0))) s3_7)]
noncomputable def x32 : XC tf3 := (.rg x32_0 (.rg x32_1 (.rg x32_2 (.seq x32_19 (.rg x32_20 .ret)))))
noncomputable def c32 : Code := Tryd.f32.body.getD .skip
theorem x32_b : Tryd.f32.body = some c32 := by kernel_rfl
theorem x32_c : cG (comp Tryd.prog) 2 3 79 x32 c32 = x32.den := by kernel_rfl
noncomputable def y32 : List (RR Tryd.prog 3 79 tf3) := [rrS (.cell 6 46), rrT r3_7 7 rfl rfl]
theorem x32_r : y32.map RR.den = Tryd.f32.results.toList := by kernel_rfl
theorem x32_k : okFn Tryd.f32 = true := by kernel_rfl
theorem x32_D : 3 = dep Tryd.f32.ntmps := by kernel_rfl
theorem x32_s : ([s3_0, s3_1, s3_2] : List (Slot tf3)).map Slot.p = (List.range' 0 3).map (pth 3) := by kernel_rfl
noncomputable def X32 : XFn Tryd.prog 2 (comp Tryd.prog) := ⟨X3, tf3, 32, Tryd.f32, c32, 3, 79, [s3_0, s3_1, s3_2], z3, x32, y32, x32_D, Tryd.ntmps32.symm, Tryd.func32, x32_b, x32_k, x32_s, by decide, z3_ok, x32_c, x32_r⟩
noncomputable def x34_0 : List (Ins tf2) := [(iGa (a1 gBox) [r2_0] (some s2_2)), (iGa (a1 gBox) [r2_1] (some s2_3)), (iAs (rk (.bool false)) s2_4)]
noncomputable def x34_1 : List (Ins tf2) := [(iP1 (bFa 0) r2_2 s2_5), (iR1 bLd r2_5 s2_6), (iP1 (bFa 0) r2_3 s2_7), (iR1 bLd r2_7 s2_8), (iP2 bEq r2_6 r2_8 s2_9), (iMv r2_9 s2_10), (iGd r2_10 [.o2, .o1] true (iP1 (bFa 1) r2_2 s2_11) (some s2_11) rfl rfl rfl), (iGd r2_10 [.o2, .o1] true (iR1 bLd r2_11 s2_12) (some s2_12) rfl rfl rfl), (iGd r2_10 [.o2, .o1] true (iP1 (bFa 1) r2_3 s2_13) (some s2_13) rfl rfl rfl), (iGd r2_10 [.o2, .o1] true (iR1 bLd r2_13 s2_14) (some s2_14) rfl rfl rfl), (iGd r2_10 [.o2, .o1] true (iP2 bEq r2_12 r2_14 s2_15) (some s2_15) rfl rfl rfl), (iGp (l3 pPick) [r2_10, r2_15, (rk (.bool false))] (some s2_16)), (iMv r2_16 s2_17), (iGd r2_17 [.o1, .o2] true (iP1 (bFa 2) r2_2 s2_18) (some s2_18) rfl rfl rfl), (iGd r2_17 [.o1, .o2] true (iR1 bLd r2_18 s2_19) (some s2_19) rfl rfl rfl), (iGd r2_17 [.o1, .o2] true (iP1 (bFa 2) r2_3 s2_20) (some s2_20) rfl rfl rfl), (iGd r2_17 [.o1, .o2] true (iR1 bLd r2_20 s2_21) (some s2_21) rfl rfl rfl), (iGd r2_17 [.o1, .o2] true (iCall (rk (.func (.func 63) #[] #[])) [r2_19, r2_21] (some s2_22)) (some s2_22) rfl rfl rfl), (iGp (l3 pPick) [r2_17, r2_22, (rk (.bool false))] (some s2_23)), (iMv r2_23 s2_24), (iGd r2_24 [.o0, .o3] true (iP1 (bFa 3) r2_2 s2_25) (some s2_25) rfl rfl rfl), (iGd r2_24 [.o0, .o3] true (iR1 bLd r2_25 s2_26) (some s2_26) rfl rfl rfl), (iGd r2_24 [.o0, .o3] true (iP1 (bFa 3) r2_3 s2_27) (some s2_27) rfl rfl rfl), (iGd r2_24 [.o0, .o3] true (iR1 bLd r2_27 s2_28) (some s2_28) rfl rfl rfl), (iGd r2_24 [.o0, .o3] true (iCall (rk (.func (.func 63) #[] #[])) [r2_26, r2_28] (some s2_29)) (some s2_29) rfl rfl rfl), (iGp (l3 pPick) [r2_24, r2_29, (rk (.bool false))] (some s2_30)), (iMv r2_30 s2_31), (iGd r2_31 [.o7, .o3] true (iP1 (bFa 4) r2_2 s2_32) (some s2_32) rfl rfl rfl), (iGd r2_31 [.o7, .o3] true (iR1 bLd r2_32 s2_33) (some s2_33) rfl rfl rfl), (iGd r2_31 [.o7, .o3] true (iP1 (bFa 4) r2_3 s2_34) (some s2_34) rfl rfl rfl), (iGd r2_31 [.o7, .o3] true (iR1 bLd r2_34 s2_35) (some s2_35) rfl rfl rfl), (iGd r2_31 [.o7, .o3] true (iCall (rk (.func (.func 44) #[] #[])) [r2_33, r2_35] (some s2_36)) (some s2_36) rfl rfl rfl), (iGp (l3 pPick) [r2_31, r2_36, (rk (.bool false))] (some s2_37)), (iMv r2_37 s2_38), (iGd r2_38 [.o6, .o4] true (iP1 (bFa 5) r2_2 s2_39) (some s2_39) rfl rfl rfl), (iGd r2_38 [.o6, .o4] true (iR1 bLd r2_39 s2_40) (some s2_40) rfl rfl rfl), (iGd r2_38 [.o6, .o4] true (iP1 (bFa 5) r2_3 s2_41) (some s2_41) rfl rfl rfl), (iGd r2_38 [.o6, .o4] true (iR1 bLd r2_41 s2_42) (some s2_42) rfl rfl rfl), (iGd r2_38 [.o6, .o4] true (iCall (rk (.func (.func 45) #[] #[])) [r2_40, r2_42] (some s2_43)) (some s2_43) rfl rfl rfl), (iGp (l3 pPick) [r2_38, r2_43, (rk (.bool false))] (some s2_44)), (iAs r2_44 s2_4)]
noncomputable def x34 : XC tf2 := (.rg x34_0 (.rg x34_1 .ret))
noncomputable def c34 : Code := Tryd.f34.body.getD .skip
theorem x34_b : Tryd.f34.body = some c34 := by kernel_rfl
theorem x34_c : cG (comp Tryd.prog) 2 2 45 x34 c34 = x34.den := by kernel_rfl
noncomputable def y34 : List (RR Tryd.prog 2 45 tf2) := [rrT r2_4 4 rfl rfl]
theorem x34_r : y34.map RR.den = Tryd.f34.results.toList := by kernel_rfl
theorem x34_k : okFn Tryd.f34 = true := by kernel_rfl
theorem x34_D : 2 = dep Tryd.f34.ntmps := by kernel_rfl
theorem x34_s : ([s2_0, s2_1] : List (Slot tf2)).map Slot.p = (List.range' 0 2).map (pth 2) := by kernel_rfl
noncomputable def X34 : XFn Tryd.prog 2 (comp Tryd.prog) := ⟨X2, tf2, 34, Tryd.f34, c34, 2, 45, [s2_0, s2_1], z2, x34, y34, x34_D, Tryd.ntmps34.symm, Tryd.func34, x34_b, x34_k, x34_s, by decide, z2_ok, x34_c, x34_r⟩
noncomputable def x35_0 : List (Ins tf2) := [(iAs (rk (.int .i64 (.ofNat 0))) s2_6), (iAs (rk (.int .i64 (.ofNat 0))) s2_7)]
noncomputable def x35_1 : List (Ins tf2) := [(iMv r2_0 s2_14), (iGp (l2 (pEqD (tdOf 34) false)) [r2_14, (rk (.pointer none))] (some s2_15))]
noncomputable def x35_2 : List (Ins tf2) := [(iAs (rk (.int .i64 (.ofNat 0))) s2_6), (iAs (rk (.int .i64 (.ofNat 1))) s2_7)]
noncomputable def x35_3 : List (Ins tf2) := [(iAs (rk (.int .i64 (.negSucc 0))) s2_8), (iAs (rk (.int .i64 (.ofNat 0))) s2_9)]
noncomputable def x35_4 : List (Ins tf2) := [(iMv r2_1 s2_16), (iP1 bLen r2_16 s2_17), (iMv (rk (.int .i64 (.ofNat 0))) s2_18)]
noncomputable def x35_5 : List (Ins tf2) := [(iP2 bLt r2_18 r2_17 s2_19)]
noncomputable def x35_6 : List (Ins tf2) := [(iMv r2_18 s2_20), (iP2 (bIxs 7) r2_16 r2_18 s2_21), (iGr (r1 (rLdn 7)) [r2_21] (some s2_22)), (iGa (aAl 7 [(.slice none 0 0), (.int .u8 (.ofNat 0)), (.int .i64 (.ofNat 0)), (.slice none 0 0), (.slice none 0 0), (.slice none 0 0), (.slice none 0 0)]) [] (some s2_11)), (iAs r2_20 s2_10), (iGm (m2 (sStn 7)) [r2_11, r2_22] none)]
noncomputable def x35_7 : List (Ins tf2) := [(iMv r2_0 s2_24), (iGr (r1 (rLdn 7)) [r2_11] (some s2_25)), (iMv r2_2 s2_26), (iCall (rk (.func (.func 30) #[] #[])) [r2_24, r2_25, r2_26] (some s2_27)), (iMv r2_27 s2_23), (iGp (l1 (pExt 0)) [r2_23] (some s2_28)), (iGp (l1 (pExt 1)) [r2_23] (some s2_29)), (iAs r2_28 s2_12), (iAs r2_29 s2_13)]
noncomputable def x35_8 : List (Ins tf2) := [(iMv r2_13 s2_30), (iP2 bNe r2_30 (rk (.int .i64 (.ofNat 0))) s2_31)]
noncomputable def x35_9 : List (Ins tf2) := [(iMv r2_13 s2_32), (iAs (rk (.int .i64 (.ofNat 0))) s2_6), (iAs r2_32 s2_7)]
noncomputable def x35_10 : List (Ins tf2) := [(iMv r2_12 s2_33)]
noncomputable def x35_11 : List (Ins tf2) := [(iMv r2_10 s2_34), (iAs r2_34 s2_8)]
noncomputable def x35_12 : List (Ins tf2) := [(iMv r2_9 s2_35), (iP2 bAdd r2_35 (rk (.int .i64 (.ofNat 1))) s2_36), (iAs r2_36 s2_9)]
noncomputable def x35_13 : List (Ins tf2) := [(iP2 bAdd r2_18 (rk (.int .i64 (.ofNat 1))) s2_37), (iMv r2_37 s2_18)]
noncomputable def x35_14 : List (Ins tf2) := [(iMv r2_9 s2_38), (iP2 bNe r2_38 (rk (.int .i64 (.ofNat 1))) s2_39)]
noncomputable def x35_15 : List (Ins tf2) := [(iAs (rk (.int .i64 (.negSucc 0))) s2_6), (iAs (rk (.int .i64 (.ofNat 0))) s2_7)]
noncomputable def x35_16 : List (Ins tf2) := [(iMv r2_8 s2_40), (iAs r2_40 s2_6), (iAs (rk (.int .i64 (.ofNat 0))) s2_7)]
noncomputable def x35_17 : XC tf2 := (.seq (.rg x35_1 (.cond r2_15 (.rg x35_2 .ret) .skip)) (.rg x35_3 (.seq (.rg x35_4 (.block 0 (.loop (.rg x35_5 (.seq (.cond r2_19 .skip (.exit 0)) (.seq (.block 1 (.rg x35_6 (.rg x35_7 (.seq (.rg x35_8 (.cond r2_31 (.rg x35_9 .ret) .skip)) (.rg x35_10 (.cond r2_33 (.rg x35_11 (.reg x35_12)) .skip)))))) (.reg x35_13))))))) (.seq (.rg x35_14 (.cond r2_39 (.rg x35_15 .ret) .skip)) (.rg x35_16 .ret)))))
noncomputable def x35 : XC tf2 := (.rg x35_0 x35_17)
noncomputable def c35 : Code := Tryd.f35.body.getD .skip
theorem x35_b : Tryd.f35.body = some c35 := by kernel_rfl
theorem x35_c : cG (comp Tryd.prog) 2 2 41 x35 c35 = x35.den := by kernel_rfl
noncomputable def y35 : List (RR Tryd.prog 2 41 tf2) := [rrT r2_6 6 rfl rfl, rrT r2_7 7 rfl rfl]
theorem x35_r : y35.map RR.den = Tryd.f35.results.toList := by kernel_rfl
theorem x35_k : okFn Tryd.f35 = true := by kernel_rfl
theorem x35_D : 2 = dep Tryd.f35.ntmps := by kernel_rfl
theorem x35_s : ([s2_0, s2_1, s2_2] : List (Slot tf2)).map Slot.p = (List.range' 0 3).map (pth 2) := by kernel_rfl
noncomputable def X35 : XFn Tryd.prog 2 (comp Tryd.prog) := ⟨X2, tf2, 35, Tryd.f35, c35, 2, 41, [s2_0, s2_1, s2_2], z2, x35, y35, x35_D, Tryd.ntmps35.symm, Tryd.func35, x35_b, x35_k, x35_s, by decide, z2_ok, x35_c, x35_r⟩
noncomputable def x37_0 : List (Ins tf2) := [(iAs (rk (.int .u64 (.ofNat 0))) s2_6), (iAs (rk (.int .i64 (.ofNat 0))) s2_7)]
noncomputable def x37_1 : List (Ins tf2) := [(iMv r2_0 s2_11), (iMv r2_1 s2_12), (iGa (aBsl 1 1 [(.int .i64 (.ofNat 0))] [(0, 1)]) [r2_12] (some s2_13)), (iMv r2_2 s2_14), (iCall (rk (.func (.func 56) #[] #[])) [r2_11, r2_13, r2_14] (some s2_15)), (iMv r2_15 s2_10), (iGp (l1 (pExt 0)) [r2_10] (some s2_16)), (iGp (l1 (pExt 1)) [r2_10] (some s2_17)), (iAs r2_16 s2_8), (iAs r2_17 s2_9)]
noncomputable def x37_2 : List (Ins tf2) := [(iMv r2_9 s2_18), (iP2 bNe r2_18 (rk (.int .i64 (.ofNat 0))) s2_19)]
noncomputable def x37_3 : List (Ins tf2) := [(iMv r2_9 s2_20), (iAs (rk (.int .u64 (.ofNat 0))) s2_6), (iAs r2_20 s2_7)]
noncomputable def x37_4 : List (Ins tf2) := [(iMv r2_8 s2_21), (iP2 (bIxs 1) r2_21 (rk (.int .i64 (.ofNat 0))) s2_22), (iR1 bLd r2_22 s2_23), (iAs r2_23 s2_6), (iAs (rk (.int .i64 (.ofNat 0))) s2_7)]
noncomputable def x37 : XC tf2 := (.rg x37_0 (.rg x37_1 (.seq (.rg x37_2 (.cond r2_19 (.rg x37_3 .ret) .skip)) (.rg x37_4 .ret))))
noncomputable def c37 : Code := Tryd.f37.body.getD .skip
theorem x37_b : Tryd.f37.body = some c37 := by kernel_rfl
theorem x37_c : cG (comp Tryd.prog) 2 2 24 x37 c37 = x37.den := by kernel_rfl
noncomputable def y37 : List (RR Tryd.prog 2 24 tf2) := [rrT r2_6 6 rfl rfl, rrT r2_7 7 rfl rfl]
theorem x37_r : y37.map RR.den = Tryd.f37.results.toList := by kernel_rfl
theorem x37_k : okFn Tryd.f37 = true := by kernel_rfl
theorem x37_D : 2 = dep Tryd.f37.ntmps := by kernel_rfl
theorem x37_s : ([s2_0, s2_1, s2_2] : List (Slot tf2)).map Slot.p = (List.range' 0 3).map (pth 2) := by kernel_rfl
noncomputable def X37 : XFn Tryd.prog 2 (comp Tryd.prog) := ⟨X2, tf2, 37, Tryd.f37, c37, 2, 24, [s2_0, s2_1, s2_2], z2, x37, y37, x37_D, Tryd.ntmps37.symm, Tryd.func37, x37_b, x37_k, x37_s, by decide, z2_ok, x37_c, x37_r⟩
noncomputable def x38_0 : List (Ins tf1) := [(iGa (aAl 2 [(.int .i64 (.ofNat 0)), (.int .u64 (.ofNat 0))]) [] (some s1_2))]
noncomputable def x38_1 : List (Ins tf1) := [(iMv r1_0 s1_3), (iGp (pBld [(.int .i64 (.ofNat 0)), (.int .u64 (.ofNat 0))] [(0, 1), (1, 1)]) [(rk (.int .i64 (.negSucc 0))), r1_3] (some s1_4)), (iGm (m2 (sStn 2)) [r1_2, r1_4] none)]
noncomputable def x38 : XC tf1 := (.rg x38_0 (.rg x38_1 .ret))
noncomputable def c38 : Code := Tryd.f38.body.getD .skip
theorem x38_b : Tryd.f38.body = some c38 := by kernel_rfl
theorem x38_c : cG (comp Tryd.prog) 2 1 5 x38 c38 = x38.den := by kernel_rfl
noncomputable def y38 : List (RR Tryd.prog 1 5 tf1) := [rrS (.cell 2 84)]
theorem x38_r : y38.map RR.den = Tryd.f38.results.toList := by kernel_rfl
theorem x38_k : okFn Tryd.f38 = true := by kernel_rfl
theorem x38_D : 1 = dep Tryd.f38.ntmps := by kernel_rfl
theorem x38_s : ([s1_0] : List (Slot tf1)).map Slot.p = (List.range' 0 1).map (pth 1) := by kernel_rfl
noncomputable def X38 : XFn Tryd.prog 2 (comp Tryd.prog) := ⟨X1, tf1, 38, Tryd.f38, c38, 1, 5, [s1_0], z1, x38, y38, x38_D, Tryd.ntmps38.symm, Tryd.func38, x38_b, x38_k, x38_s, by decide, z1_ok, x38_c, x38_r⟩
noncomputable def x39_0 : List (Ins tf2) := [(iAs (rk (.pointer none)) s2_4), (iAs (rk (.int .i64 (.ofNat 0))) s2_5)]
noncomputable def x39_1 : List (Ins tf2) := [(iMv r2_0 s2_6), (iCall (rk (.func (.func 64) #[] #[])) [r2_6] (some s2_7)), (iP2 bNe r2_7 (rk (.int .i64 (.ofNat 0))) s2_8), (iMv r2_8 s2_9), (iGd r2_9 [.o1, .o1] false (iMv r2_1 s2_10) (some s2_10) rfl rfl rfl), (iGd r2_9 [.o1, .o1] false (iP2 bLt r2_10 (rk (.int .i64 (.ofNat 0))) s2_11) (some s2_11) rfl rfl rfl), (iGp (l3 pPick) [r2_9, (rk (.bool true)), r2_11] (some s2_12)), (iMv r2_12 s2_13), (iGd r2_13 [.o5, .o1] false (iMv r2_1 s2_14) (some s2_14) rfl rfl rfl), (iGd r2_13 [.o5, .o1] false (iP2 bGt r2_14 (rk (.int .i64 (.ofNat 1048576))) s2_15) (some s2_15) rfl rfl rfl), (iGp (l3 pPick) [r2_13, (rk (.bool true)), r2_15] (some s2_16))]
noncomputable def x39_2 : List (Ins tf2) := [(iAs (rk (.pointer none)) s2_4), (iAs (rk (.int .i64 (.ofNat 3))) s2_5)]
noncomputable def x39_3 : List (Ins tf2) := [(iMv r2_1 s2_17), (iP2 bEq r2_17 (rk (.int .i64 (.ofNat 0))) s2_18)]
noncomputable def x39_4 : List (Ins tf2) := [(iAs (rk (.int .i64 (.ofNat 1048576))) s2_1)]
noncomputable def x39_5 : List (Ins tf2) := [(iMv r2_0 s2_19), (iMv r2_1 s2_20), (iGa aMm [] (some s2_21)), (iGp (pBld [(.int .i64 (.ofNat 0)), (.int .i64 (.ofNat 0)), (.slice none 0 0), (.map none)] [(0, 1), (1, 1), (3, 1)]) [r2_19, r2_20, r2_21] (some s2_22)), (iGa (a1 gBox) [r2_22] (some s2_23)), (iAs r2_23 s2_4), (iAs (rk (.int .i64 (.ofNat 0))) s2_5)]
noncomputable def x39 : XC tf2 := (.rg x39_0 (.seq (.rg x39_1 (.cond r2_16 (.rg x39_2 .ret) .skip)) (.seq (.rg x39_3 (.cond r2_18 (.reg x39_4) .skip)) (.rg x39_5 .ret))))
noncomputable def c39 : Code := Tryd.f39.body.getD .skip
theorem x39_b : Tryd.f39.body = some c39 := by kernel_rfl
theorem x39_c : cG (comp Tryd.prog) 2 2 24 x39 c39 = x39.den := by kernel_rfl
noncomputable def y39 : List (RR Tryd.prog 2 24 tf2) := [rrT r2_4 4 rfl rfl, rrT r2_5 5 rfl rfl]
theorem x39_r : y39.map RR.den = Tryd.f39.results.toList := by kernel_rfl
theorem x39_k : okFn Tryd.f39 = true := by kernel_rfl
theorem x39_D : 2 = dep Tryd.f39.ntmps := by kernel_rfl
theorem x39_s : ([s2_0, s2_1] : List (Slot tf2)).map Slot.p = (List.range' 0 2).map (pth 2) := by kernel_rfl
noncomputable def X39 : XFn Tryd.prog 2 (comp Tryd.prog) := ⟨X2, tf2, 39, Tryd.f39, c39, 2, 24, [s2_0, s2_1], z2, x39, y39, x39_D, Tryd.ntmps39.symm, Tryd.func39, x39_b, x39_k, x39_s, by decide, z2_ok, x39_c, x39_r⟩
noncomputable def x40_0 : List (Ins tf3) := [(iGa (a1 gBox) [r3_0] (some s3_1)), (iAs (rk (.int .i64 (.ofNat 0))) s3_2)]
noncomputable def x40_1 : List (Ins tf3) := [(iP1 (bFa 0) r3_1 s3_9), (iR1 bLd r3_9 s3_10), (iP2 bGe r3_10 (rk (.int .i64 (.ofNat 1))) s3_11), (iMv r3_11 s3_12), (iGd r3_12 [.o4, .o1, .o0] true (iP1 (bFa 0) r3_1 s3_13) (some s3_13) rfl rfl rfl), (iGd r3_12 [.o4, .o1, .o0] true (iR1 bLd r3_13 s3_14) (some s3_14) rfl rfl rfl), (iGd r3_12 [.o4, .o1, .o0] true (iP2 bLe r3_14 (rk (.int .i64 (.ofNat 64))) s3_15) (some s3_15) rfl rfl rfl), (iGp (l3 pPick) [r3_12, r3_15, (rk (.bool false))] (some s3_16)), (iMv r3_16 s3_17), (iGd r3_17 [.o1, .o2, .o0] true (iP1 (bFa 1) r3_1 s3_18) (some s3_18) rfl rfl rfl), (iGd r3_17 [.o1, .o2, .o0] true (iR1 bLd r3_18 s3_19) (some s3_19) rfl rfl rfl), (iGd r3_17 [.o1, .o2, .o0] true (iP2 bGe r3_19 (rk (.int .i64 (.ofNat 0))) s3_20) (some s3_20) rfl rfl rfl), (iGp (l3 pPick) [r3_17, r3_20, (rk (.bool false))] (some s3_21)), (iMv r3_21 s3_22), (iGd r3_22 [.o6, .o2, .o0] true (iP1 (bFa 1) r3_1 s3_23) (some s3_23) rfl rfl rfl), (iGd r3_22 [.o6, .o2, .o0] true (iR1 bLd r3_23 s3_24) (some s3_24) rfl rfl rfl), (iGd r3_22 [.o6, .o2, .o0] true (iP2 bLe r3_24 (rk (.int .i64 (.ofNat 2097152))) s3_25) (some s3_25) rfl rfl rfl), (iGp (l3 pPick) [r3_22, r3_25, (rk (.bool false))] (some s3_26)), (iMv r3_26 s3_27), (iGd r3_27 [.o3, .o3, .o0] true (iP1 (bFa 2) r3_1 s3_28) (some s3_28) rfl rfl rfl), (iGd r3_27 [.o3, .o3, .o0] true (iR1 bLd r3_28 s3_29) (some s3_29) rfl rfl rfl), (iGd r3_27 [.o3, .o3, .o0] true (iCall (rk (.func (.func 65) #[] #[])) [r3_29] (some s3_30)) (some s3_30) rfl rfl rfl), (iGp (l3 pPick) [r3_27, r3_30, (rk (.bool false))] (some s3_31)), (iMv r3_31 s3_32), (iGd r3_32 [.o0, .o4, .o0] true (iP1 (bFa 3) r3_1 s3_33) (some s3_33) rfl rfl rfl), (iGd r3_32 [.o0, .o4, .o0] true (iR1 bLd r3_33 s3_34) (some s3_34) rfl rfl rfl), (iGd r3_32 [.o0, .o4, .o0] true (iCall (rk (.func (.func 65) #[] #[])) [r3_34] (some s3_35)) (some s3_35) rfl rfl rfl), (iGp (l3 pPick) [r3_32, r3_35, (rk (.bool false))] (some s3_36)), (iAs r3_36 s3_3)]
noncomputable def x40_2 : List (Ins tf3) := [(iMv r3_3 s3_37), (iGp (l1 (pUn .not)) [r3_37] (some s3_38)), (iMv r3_38 s3_39), (iGd r3_39 [.o7, .o4, .o0] false (iP1 (bFa 4) r3_1 s3_40) (some s3_40) rfl rfl rfl), (iGd r3_39 [.o7, .o4, .o0] false (iR1 bLd r3_40 s3_41) (some s3_41) rfl rfl rfl), (iGd r3_39 [.o7, .o4, .o0] false (iP1 bLen r3_41 s3_42) (some s3_42) rfl rfl rfl), (iGd r3_39 [.o7, .o4, .o0] false (iP2 bGt r3_42 (rk (.int .i64 (.ofNat 32))) s3_43) (some s3_43) rfl rfl rfl), (iGp (l3 pPick) [r3_39, (rk (.bool true)), r3_43] (some s3_44)), (iMv r3_44 s3_45), (iGd r3_45 [.o5, .o5, .o0] false (iP1 (bFa 5) r3_1 s3_46) (some s3_46) rfl rfl rfl), (iGd r3_45 [.o5, .o5, .o0] false (iR1 bLd r3_46 s3_47) (some s3_47) rfl rfl rfl), (iGd r3_45 [.o5, .o5, .o0] false (iP1 bLen r3_47 s3_48) (some s3_48) rfl rfl rfl), (iGd r3_45 [.o5, .o5, .o0] false (iP2 bLt r3_48 (rk (.int .i64 (.ofNat 1))) s3_49) (some s3_49) rfl rfl rfl), (iGp (l3 pPick) [r3_45, (rk (.bool true)), r3_49] (some s3_50)), (iMv r3_50 s3_51), (iGd r3_51 [.o3, .o6, .o0] false (iP1 (bFa 5) r3_1 s3_52) (some s3_52) rfl rfl rfl), (iGd r3_51 [.o3, .o6, .o0] false (iR1 bLd r3_52 s3_53) (some s3_53) rfl rfl rfl), (iGd r3_51 [.o3, .o6, .o0] false (iP1 bLen r3_53 s3_54) (some s3_54) rfl rfl rfl), (iGd r3_51 [.o3, .o6, .o0] false (iP2 bGt r3_54 (rk (.int .i64 (.ofNat 4096))) s3_55) (some s3_55) rfl rfl rfl), (iGp (l3 pPick) [r3_51, (rk (.bool true)), r3_55] (some s3_56))]
noncomputable def x40_3 : List (Ins tf3) := [(iAs (rk (.int .i64 (.ofNat 2))) s3_2)]
noncomputable def x40_4 : List (Ins tf3) := [(iP1 (bFa 4) r3_1 s3_57), (iR1 bLd r3_57 s3_58), (iP1 bLen r3_58 s3_59), (iMv (rk (.int .i64 (.ofNat 0))) s3_60)]
noncomputable def x40_5 : List (Ins tf3) := [(iP2 bLt r3_60 r3_59 s3_61)]
noncomputable def x40_6 : List (Ins tf3) := [(iP2 (bIxs 1) r3_58 r3_60 s3_62), (iR1 bLd r3_62 s3_63), (iAs r3_63 s3_5)]
noncomputable def x40_7 : List (Ins tf3) := [(iMv r3_5 s3_64), (iP2 bLt r3_64 (rk (.int .i64 (.ofNat 1))) s3_65), (iMv r3_65 s3_66), (iGd r3_66 [.o2, .o0, .o1] false (iMv r3_5 s3_67) (some s3_67) rfl rfl rfl), (iGd r3_66 [.o2, .o0, .o1] false (iP2 bGt r3_67 (rk (.int .i64 (.ofNat 64))) s3_68) (some s3_68) rfl rfl rfl), (iGp (l3 pPick) [r3_66, (rk (.bool true)), r3_68] (some s3_69))]
noncomputable def x40_8 : List (Ins tf3) := [(iAs (rk (.int .i64 (.ofNat 2))) s3_2)]
noncomputable def x40_9 : List (Ins tf3) := [(iP2 bAdd r3_60 (rk (.int .i64 (.ofNat 1))) s3_70), (iMv r3_70 s3_60)]
noncomputable def x40_10 : List (Ins tf3) := [(iP1 (bFa 5) r3_1 s3_71), (iR1 bLd r3_71 s3_72), (iP1 bLen r3_72 s3_73), (iMv (rk (.int .i64 (.ofNat 0))) s3_74)]
noncomputable def x40_11 : List (Ins tf3) := [(iP2 bLt r3_74 r3_73 s3_75)]
noncomputable def x40_12 : List (Ins tf3) := [(iP2 (bIxs 8) r3_72 r3_74 s3_76), (iGr (r1 (rLdn 8)) [r3_76] (some s3_77)), (iGa (aAl 8 [(.int .u8 (.ofNat 0)), (.int .u8 (.ofNat 0)), (.int .i64 (.ofNat 0)), (.int .i64 (.ofNat 0)), (.int .i64 (.ofNat 0)), (.int .u64 (.ofNat 0)), (.int .i64 (.ofNat 0)), (.int .u64 (.ofNat 0))]) [] (some s3_7)), (iGm (m2 (sStn 8)) [r3_7, r3_77] none)]
noncomputable def x40_13 : List (Ins tf3) := [(iGr (r1 (rLdn 6)) [r3_1] (some s3_78)), (iGr (r1 (rLdn 8)) [r3_7] (some s3_79)), (iCall (rk (.func (.func 66) #[] #[])) [r3_78, r3_79] (some s3_80)), (iGp (l1 (pUn .not)) [r3_80] (some s3_81))]
noncomputable def x40_14 : List (Ins tf3) := [(iAs (rk (.int .i64 (.ofNat 2))) s3_2)]
noncomputable def x40_15 : List (Ins tf3) := [(iP2 bAdd r3_74 (rk (.int .i64 (.ofNat 1))) s3_82), (iMv r3_82 s3_74)]
noncomputable def x40_16 : List (Ins tf3) := [(iP1 (bFa 5) r3_1 s3_83), (iR1 bLd r3_83 s3_84), (iP1 (bFa 5) r3_1 s3_85), (iR1 bLd r3_85 s3_86), (iP1 bLen r3_86 s3_87), (iP2 bSub r3_87 (rk (.int .i64 (.ofNat 1))) s3_88), (iP2 (bIxs 8) r3_84 r3_88 s3_89), (iP1 (bFa 0) r3_89 s3_90), (iR1 bLd r3_90 s3_91), (iAs r3_91 s3_8)]
noncomputable def x40_17 : List (Ins tf3) := [(iMv r3_8 s3_92), (iP2 bNe r3_92 (rk (.int .u8 (.ofNat 9))) s3_93), (iMv r3_93 s3_94), (iGd r3_94 [.o6, .o3, .o1] true (iMv r3_8 s3_95) (some s3_95) rfl rfl rfl), (iGd r3_94 [.o6, .o3, .o1] true (iP2 bNe r3_95 (rk (.int .u8 (.ofNat 7))) s3_96) (some s3_96) rfl rfl rfl), (iGp (l3 pPick) [r3_94, r3_96, (rk (.bool false))] (some s3_97))]
noncomputable def x40_18 : List (Ins tf3) := [(iAs (rk (.int .i64 (.ofNat 2))) s3_2)]
noncomputable def x40_19 : List (Ins tf3) := [(iAs (rk (.int .i64 (.ofNat 0))) s3_2)]
noncomputable def x40_20 : XC tf3 := (.seq (.rg x40_4 (.block 0 (.loop (.rg x40_5 (.seq (.cond r3_61 .skip (.exit 0)) (.seq (.block 1 (.rg x40_6 (.rg x40_7 (.cond r3_69 (.rg x40_8 .ret) .skip)))) (.reg x40_9))))))) (.seq (.rg x40_10 (.block 2 (.loop (.rg x40_11 (.seq (.cond r3_75 .skip (.exit 2)) (.seq (.block 3 (.rg x40_12 (.rg x40_13 (.cond r3_81 (.rg x40_14 .ret) .skip)))) (.reg x40_15))))))) (.seq (.rg x40_16 (.rg x40_17 (.cond r3_97 (.rg x40_18 .ret) .skip))) (.rg x40_19 .ret))))
noncomputable def x40 : XC tf3 := (.rg x40_0 (.rg x40_1 (.seq (.rg x40_2 (.cond r3_56 (.rg x40_3 .ret) .skip)) x40_20)))
noncomputable def c40 : Code := Tryd.f40.body.getD .skip
theorem x40_b : Tryd.f40.body = some c40 := by kernel_rfl
theorem x40_c : cG (comp Tryd.prog) 2 3 98 x40 c40 = x40.den := by kernel_rfl
noncomputable def y40 : List (RR Tryd.prog 3 98 tf3) := [rrT r3_2 2 rfl rfl]
theorem x40_r : y40.map RR.den = Tryd.f40.results.toList := by kernel_rfl
theorem x40_k : okFn Tryd.f40 = true := by kernel_rfl
theorem x40_D : 3 = dep Tryd.f40.ntmps := by kernel_rfl
theorem x40_s : ([s3_0] : List (Slot tf3)).map Slot.p = (List.range' 0 1).map (pth 3) := by kernel_rfl
noncomputable def X40 : XFn Tryd.prog 2 (comp Tryd.prog) := ⟨X3, tf3, 40, Tryd.f40, c40, 3, 98, [s3_0], z3, x40, y40, x40_D, Tryd.ntmps40.symm, Tryd.func40, x40_b, x40_k, x40_s, by decide, z3_ok, x40_c, x40_r⟩
noncomputable def x41_0 : List (Ins tf2) := [(iAs (rk (.int .i64 (.ofNat 0))) s2_2)]
noncomputable def x41_1 : List (Ins tf2) := [(iMv r2_0 s2_3), (iGp (l2 (pEqD (tdOf 34) false)) [r2_3, (rk (.pointer none))] (some s2_4))]
noncomputable def x41_2 : List (Ins tf2) := [(iAs (rk (.int .i64 (.ofNat 0))) s2_2)]
noncomputable def x41_3 : List (Ins tf2) := [(iMv r2_0 s2_5), (iP1 bNil r2_5 s2_6), (iP1 (bFa 0) r2_6 s2_7), (iR1 bLd r2_7 s2_8), (iAs r2_8 s2_2)]
noncomputable def x41 : XC tf2 := (.rg x41_0 (.seq (.rg x41_1 (.cond r2_4 (.rg x41_2 .ret) .skip)) (.rg x41_3 .ret)))
noncomputable def c41 : Code := Tryd.f41.body.getD .skip
theorem x41_b : Tryd.f41.body = some c41 := by kernel_rfl
theorem x41_c : cG (comp Tryd.prog) 2 2 9 x41 c41 = x41.den := by kernel_rfl
noncomputable def y41 : List (RR Tryd.prog 2 9 tf2) := [rrT r2_2 2 rfl rfl]
theorem x41_r : y41.map RR.den = Tryd.f41.results.toList := by kernel_rfl
theorem x41_k : okFn Tryd.f41 = true := by kernel_rfl
theorem x41_D : 2 = dep Tryd.f41.ntmps := by kernel_rfl
theorem x41_s : ([s2_0] : List (Slot tf2)).map Slot.p = (List.range' 0 1).map (pth 2) := by kernel_rfl
noncomputable def X41 : XFn Tryd.prog 2 (comp Tryd.prog) := ⟨X2, tf2, 41, Tryd.f41, c41, 2, 9, [s2_0], z2, x41, y41, x41_D, Tryd.ntmps41.symm, Tryd.func41, x41_b, x41_k, x41_s, by decide, z2_ok, x41_c, x41_r⟩
noncomputable def x42_0 : List (Ins tf2) := [(iGa (a1 gBox) [r2_1] (some s2_3)), (iAs (rk (.pointer none)) s2_4), (iAs (rk (.int .i64 (.ofNat 0))) s2_5)]
noncomputable def x42_1 : List (Ins tf2) := [(iMv r2_0 s2_12), (iGp (l2 (pEqD (tdOf 34) false)) [r2_12, (rk (.pointer none))] (some s2_13))]
noncomputable def x42_2 : List (Ins tf2) := [(iAs (rk (.pointer none)) s2_4), (iAs (rk (.int .i64 (.ofNat 1))) s2_5)]
noncomputable def x42_3 : List (Ins tf2) := [(iGr (r1 (rLdn 6)) [r2_3] (some s2_14)), (iCall (rk (.func (.func 40) #[] #[])) [r2_14] (some s2_15)), (iP2 bNe r2_15 (rk (.int .i64 (.ofNat 0))) s2_16), (iMv r2_16 s2_17), (iGd r2_17 [.o1, .o2] false (iP1 (bFa 0) r2_3 s2_18) (some s2_18) rfl rfl rfl), (iGd r2_17 [.o1, .o2] false (iR1 bLd r2_18 s2_19) (some s2_19) rfl rfl rfl), (iGd r2_17 [.o1, .o2] false (iMv r2_0 s2_20) (some s2_20) rfl rfl rfl), (iRc (iGd r2_17 [.o1, .o2] false (iCall (rk (.func (.func 41) #[] #[])) [r2_20] (some s2_21)) (some s2_21) rfl rfl rfl) [(rcS ⟨(some ([.o1, .o2], false)), .r (r1 rLd), [(.t [.o2, .o2])], (some [.o3, .o2])⟩)] rfl), (iGd r2_17 [.o1, .o2] false (iP2 bNe r2_19 r2_21 s2_22) (some s2_22) rfl rfl rfl), (iGp (l3 pPick) [r2_17, (rk (.bool true)), r2_22] (some s2_23))]
noncomputable def x42_4 : List (Ins tf2) := [(iAs (rk (.pointer none)) s2_4), (iAs (rk (.int .i64 (.ofNat 2))) s2_5)]
noncomputable def x42_5 : List (Ins tf2) := [(iMv r2_0 s2_25), (iCall (rk (.func (.func 50) #[] #[])) [r2_25, (rk (.int .u64 (.ofNat 0)))] (some s2_26)), (iMv r2_26 s2_24), (iGp (l1 (pExt 0)) [r2_24] (some s2_27)), (iGp (l1 (pExt 1)) [r2_24] (some s2_28)), (iGa (aAl 1 [(.int .i64 (.ofNat 0))]) [] (some s2_6)), (iM2 bSt r2_6 r2_27), (iAs r2_28 s2_7)]
noncomputable def x42_6 : List (Ins tf2) := [(iMv r2_7 s2_29), (iP2 bNe r2_29 (rk (.int .i64 (.ofNat 0))) s2_30)]
noncomputable def x42_7 : List (Ins tf2) := [(iMv r2_7 s2_31), (iAs (rk (.pointer none)) s2_4), (iAs r2_31 s2_5)]
noncomputable def x42_8 : List (Ins tf2) := [(iGp (pMkf (.func 67) 0) [r2_6] (some s2_32)), (iAs r2_32 s2_8)]
noncomputable def x42_9 : List (Ins tf2) := [(iMv r2_0 s2_33), (iMv r2_8 s2_34), (iP1 (bFa 1) r2_3 s2_35), (iR1 bLd r2_35 s2_36), (iCall r2_34 [r2_36] (some s2_37)), (iGp (pBld [(.pointer none), (.slice none 0 0), (.slice none 0 0)] [(0, 1), (1, 1)]) [r2_33, r2_37] (some s2_38)), (iGa (a1 gBox) [r2_38] (some s2_39)), (iAs r2_39 s2_9)]
noncomputable def x42_10 : List (Ins tf2) := [(iP1 (bFa 4) r2_3 s2_40), (iR1 bLd r2_40 s2_41), (iP1 bLen r2_41 s2_42), (iMv (rk (.int .i64 (.ofNat 0))) s2_43)]
noncomputable def x42_11 : List (Ins tf2) := [(iP2 bLt r2_43 r2_42 s2_44)]
noncomputable def x42_12 : List (Ins tf2) := [(iP2 (bIxs 1) r2_41 r2_43 s2_45), (iR1 bLd r2_45 s2_46), (iAs r2_46 s2_11)]
noncomputable def x42_13 : List (Ins tf2) := [(iMv r2_9 s2_47), (iMv r2_9 s2_48), (iP1 bNil r2_48 s2_49), (iP1 (bFa 2) r2_49 s2_50), (iR1 bLd r2_50 s2_51), (iMv r2_8 s2_52), (iMv r2_11 s2_53), (iRc (iCall r2_52 [r2_53] (some s2_54)) [(rcLd r2_50 r2_51 [.o3, .o6] rfl)] rfl), (iGa (aBsl 1 1 [(.slice none 0 0)] [(0, 1)]) [r2_54] (some s2_55)), (iGm (m2 (sApp 1)) [r2_51, r2_55] (some s2_56)), (iP1 bNil r2_47 s2_57), (iP1 (bFa 2) r2_57 s2_58), (iM2 bSt r2_58 r2_56)]
noncomputable def x42_14 : List (Ins tf2) := [(iP2 bAdd r2_43 (rk (.int .i64 (.ofNat 1))) s2_59), (iMv r2_59 s2_43)]
noncomputable def x42_15 : List (Ins tf2) := [(iMv r2_9 s2_60), (iAs r2_60 s2_4), (iAs (rk (.int .i64 (.ofNat 0))) s2_5)]
noncomputable def x42 : XC tf2 := (.rg x42_0 (.seq (.rg x42_1 (.cond r2_13 (.rg x42_2 .ret) .skip)) (.seq (.rg x42_3 (.cond r2_23 (.rg x42_4 .ret) .skip)) (.rg x42_5 (.seq (.rg x42_6 (.cond r2_30 (.rg x42_7 .ret) .skip)) (.rg x42_8 (.rg x42_9 (.seq (.rg x42_10 (.block 0 (.loop (.rg x42_11 (.seq (.cond r2_44 .skip (.exit 0)) (.seq (.block 1 (.rg x42_12 (.reg x42_13))) (.reg x42_14))))))) (.rg x42_15 .ret)))))))))
noncomputable def c42 : Code := Tryd.f42.body.getD .skip
theorem x42_b : Tryd.f42.body = some c42 := by kernel_rfl
theorem x42_c : cG (comp Tryd.prog) 2 2 61 x42 c42 = x42.den := by kernel_rfl
noncomputable def y42 : List (RR Tryd.prog 2 61 tf2) := [rrT r2_4 4 rfl rfl, rrT r2_5 5 rfl rfl]
theorem x42_r : y42.map RR.den = Tryd.f42.results.toList := by kernel_rfl
theorem x42_k : okFn Tryd.f42 = true := by kernel_rfl
theorem x42_D : 2 = dep Tryd.f42.ntmps := by kernel_rfl
theorem x42_s : ([s2_0, s2_1] : List (Slot tf2)).map Slot.p = (List.range' 0 2).map (pth 2) := by kernel_rfl
noncomputable def X42 : XFn Tryd.prog 2 (comp Tryd.prog) := ⟨X2, tf2, 42, Tryd.f42, c42, 2, 61, [s2_0, s2_1], z2, x42, y42, x42_D, Tryd.ntmps42.symm, Tryd.func42, x42_b, x42_k, x42_s, by decide, z2_ok, x42_c, x42_r⟩
noncomputable def x43_0 : List (Ins tf2) := [(iAs (rk (.bool false)) s2_4)]
noncomputable def x43_1 : List (Ins tf2) := [(iMv r2_1 s2_5), (iP2 bNe r2_5 (rk (.int .i64 (.ofNat 0))) s2_6)]
noncomputable def x43_2 : List (Ins tf2) := [(iMv r2_0 s2_7), (iP1 bNil r2_7 s2_8), (iP1 (bFa 9) r2_8 s2_9), (iM2 bSt r2_9 (rk (.int .u8 (.ofNat 2))))]
noncomputable def x43_3 : List (Ins tf2) := [(iMv r2_1 s2_10), (iP2 bNe r2_10 (rk (.int .i64 (.ofNat 0))) s2_11), (iAs r2_11 s2_4)]
noncomputable def x43 : XC tf2 := (.rg x43_0 (.seq (.rg x43_1 (.cond r2_6 (.reg x43_2) .skip)) (.rg x43_3 .ret)))
noncomputable def c43 : Code := Tryd.f43.body.getD .skip
theorem x43_b : Tryd.f43.body = some c43 := by kernel_rfl
theorem x43_c : cG (comp Tryd.prog) 2 2 12 x43 c43 = x43.den := by kernel_rfl
noncomputable def y43 : List (RR Tryd.prog 2 12 tf2) := [rrT r2_4 4 rfl rfl]
theorem x43_r : y43.map RR.den = Tryd.f43.results.toList := by kernel_rfl
theorem x43_k : okFn Tryd.f43 = true := by kernel_rfl
theorem x43_D : 2 = dep Tryd.f43.ntmps := by kernel_rfl
theorem x43_s : ([s2_0, s2_1] : List (Slot tf2)).map Slot.p = (List.range' 0 2).map (pth 2) := by kernel_rfl
noncomputable def X43 : XFn Tryd.prog 2 (comp Tryd.prog) := ⟨X2, tf2, 43, Tryd.f43, c43, 2, 12, [s2_0, s2_1], z2, x43, y43, x43_D, Tryd.ntmps43.symm, Tryd.func43, x43_b, x43_k, x43_s, by decide, z2_ok, x43_c, x43_r⟩
noncomputable def x44_0 : List (Ins tf2) := [(iAs (rk (.bool false)) s2_4)]
noncomputable def x44_1 : List (Ins tf2) := [(iMv r2_0 s2_6), (iP1 bLen r2_6 s2_7), (iMv r2_1 s2_8), (iP1 bLen r2_8 s2_9), (iP2 bNe r2_7 r2_9 s2_10)]
noncomputable def x44_2 : List (Ins tf2) := [(iAs (rk (.bool false)) s2_4)]
noncomputable def x44_3 : List (Ins tf2) := [(iAs (rk (.int .i64 (.ofNat 0))) s2_5)]
noncomputable def x44_4 : List (Ins tf2) := [(iMv r2_5 s2_11), (iMv r2_0 s2_12), (iP1 bLen r2_12 s2_13), (iP2 bLt r2_11 r2_13 s2_14)]
noncomputable def x44_5 : List (Ins tf2) := [(iMv r2_0 s2_17), (iMv r2_5 s2_18), (iP2 (bIxs 1) r2_17 r2_18 s2_19), (iR1 bLd r2_19 s2_20), (iMv r2_1 s2_21), (iMv r2_5 s2_22), (iP2 (bIxs 1) r2_21 r2_22 s2_23), (iR1 bLd r2_23 s2_24), (iGp (l2 (pEqD (tdOf 4) true)) [r2_20, r2_24] (some s2_25))]
noncomputable def x44_6 : List (Ins tf2) := [(iAs (rk (.bool false)) s2_4)]
noncomputable def x44_7 : List (Ins tf2) := [(iMv r2_5 s2_15), (iP2 bAdd r2_15 (rk (.int .i64 (.ofNat 1))) s2_16), (iAs r2_16 s2_5)]
noncomputable def x44_8 : List (Ins tf2) := [(iAs (rk (.bool true)) s2_4)]
noncomputable def x44 : XC tf2 := (.rg x44_0 (.seq (.rg x44_1 (.cond r2_10 (.rg x44_2 .ret) .skip)) (.seq (.rg x44_3 (.block 0 (.loop (.seq (.rg x44_4 (.cond r2_14 .skip (.exit 0))) (.seq (.block 1 (.rg x44_5 (.cond r2_25 (.rg x44_6 .ret) .skip))) (.reg x44_7)))))) (.rg x44_8 .ret))))
noncomputable def c44 : Code := Tryd.f44.body.getD .skip
theorem x44_b : Tryd.f44.body = some c44 := by kernel_rfl
theorem x44_c : cG (comp Tryd.prog) 2 2 26 x44 c44 = x44.den := by kernel_rfl
noncomputable def y44 : List (RR Tryd.prog 2 26 tf2) := [rrT r2_4 4 rfl rfl]
theorem x44_r : y44.map RR.den = Tryd.f44.results.toList := by kernel_rfl
theorem x44_k : okFn Tryd.f44 = true := by kernel_rfl
theorem x44_D : 2 = dep Tryd.f44.ntmps := by kernel_rfl
theorem x44_s : ([s2_0, s2_1] : List (Slot tf2)).map Slot.p = (List.range' 0 2).map (pth 2) := by kernel_rfl
noncomputable def X44 : XFn Tryd.prog 2 (comp Tryd.prog) := ⟨X2, tf2, 44, Tryd.f44, c44, 2, 26, [s2_0, s2_1], z2, x44, y44, x44_D, Tryd.ntmps44.symm, Tryd.func44, x44_b, x44_k, x44_s, by decide, z2_ok, x44_c, x44_r⟩
noncomputable def x45_0 : List (Ins tf2) := [(iAs (rk (.bool false)) s2_4)]
noncomputable def x45_1 : List (Ins tf2) := [(iMv r2_0 s2_6), (iP1 bLen r2_6 s2_7), (iMv r2_1 s2_8), (iP1 bLen r2_8 s2_9), (iP2 bNe r2_7 r2_9 s2_10)]
noncomputable def x45_2 : List (Ins tf2) := [(iAs (rk (.bool false)) s2_4)]
noncomputable def x45_3 : List (Ins tf2) := [(iAs (rk (.int .i64 (.ofNat 0))) s2_5)]
noncomputable def x45_4 : List (Ins tf2) := [(iMv r2_5 s2_11), (iMv r2_0 s2_12), (iP1 bLen r2_12 s2_13), (iP2 bLt r2_11 r2_13 s2_14)]
noncomputable def x45_5 : List (Ins tf2) := [(iMv r2_0 s2_17), (iMv r2_5 s2_18), (iP2 (bIxs 1) r2_17 r2_18 s2_19), (iR1 bLd r2_19 s2_20), (iMv r2_1 s2_21), (iMv r2_5 s2_22), (iP2 (bIxs 1) r2_21 r2_22 s2_23), (iR1 bLd r2_23 s2_24), (iP2 bNe r2_20 r2_24 s2_25)]
noncomputable def x45_6 : List (Ins tf2) := [(iAs (rk (.bool false)) s2_4)]
noncomputable def x45_7 : List (Ins tf2) := [(iMv r2_5 s2_15), (iP2 bAdd r2_15 (rk (.int .i64 (.ofNat 1))) s2_16), (iAs r2_16 s2_5)]
noncomputable def x45_8 : List (Ins tf2) := [(iAs (rk (.bool true)) s2_4)]
noncomputable def x45 : XC tf2 := (.rg x45_0 (.seq (.rg x45_1 (.cond r2_10 (.rg x45_2 .ret) .skip)) (.seq (.rg x45_3 (.block 0 (.loop (.seq (.rg x45_4 (.cond r2_14 .skip (.exit 0))) (.seq (.block 1 (.rg x45_5 (.cond r2_25 (.rg x45_6 .ret) .skip))) (.reg x45_7)))))) (.rg x45_8 .ret))))
noncomputable def c45 : Code := Tryd.f45.body.getD .skip
theorem x45_b : Tryd.f45.body = some c45 := by kernel_rfl
theorem x45_c : cG (comp Tryd.prog) 2 2 26 x45 c45 = x45.den := by kernel_rfl
noncomputable def y45 : List (RR Tryd.prog 2 26 tf2) := [rrT r2_4 4 rfl rfl]
theorem x45_r : y45.map RR.den = Tryd.f45.results.toList := by kernel_rfl
theorem x45_k : okFn Tryd.f45 = true := by kernel_rfl
theorem x45_D : 2 = dep Tryd.f45.ntmps := by kernel_rfl
theorem x45_s : ([s2_0, s2_1] : List (Slot tf2)).map Slot.p = (List.range' 0 2).map (pth 2) := by kernel_rfl
noncomputable def X45 : XFn Tryd.prog 2 (comp Tryd.prog) := ⟨X2, tf2, 45, Tryd.f45, c45, 2, 26, [s2_0, s2_1], z2, x45, y45, x45_D, Tryd.ntmps45.symm, Tryd.func45, x45_b, x45_k, x45_s, by decide, z2_ok, x45_c, x45_r⟩
noncomputable def x46_0 : List (Ins tf2) := [(iAs (rk (.slice none 0 0)) s2_2)]
noncomputable def x46_1 : List (Ins tf2) := [(iAs (rk (.slice none 0 0)) s2_3)]
noncomputable def x46_2 : List (Ins tf2) := [(iAs (rk (.int .i64 (.ofNat 0))) s2_4)]
noncomputable def x46_3 : List (Ins tf2) := [(iMv r2_4 s2_5), (iMv r2_0 s2_6), (iP1 bLen r2_6 s2_7), (iP2 bLt r2_5 r2_7 s2_8)]
noncomputable def x46_4 : List (Ins tf2) := [(iMv r2_3 s2_11), (iMv r2_0 s2_12), (iMv r2_4 s2_13), (iP2 (bIxs 2) r2_12 r2_13 s2_14), (iP1 (bFa 0) r2_14 s2_15), (iR1 bLd r2_15 s2_16), (iGa (aBsl 1 1 [(.int .i64 (.ofNat 0))] [(0, 1)]) [r2_16] (some s2_17)), (iGm (m2 (sApp 1)) [r2_11, r2_17] (some s2_18)), (iAs r2_18 s2_3)]
noncomputable def x46_5 : List (Ins tf2) := [(iMv r2_4 s2_9), (iP2 bAdd r2_9 (rk (.int .i64 (.ofNat 1))) s2_10), (iAs r2_10 s2_4)]
noncomputable def x46_6 : List (Ins tf2) := [(iMv r2_3 s2_19), (iAs r2_19 s2_2)]
noncomputable def x46 : XC tf2 := (.rg x46_0 (.rg x46_1 (.seq (.rg x46_2 (.block 0 (.loop (.seq (.rg x46_3 (.cond r2_8 .skip (.exit 0))) (.seq (.block 1 (.reg x46_4)) (.reg x46_5)))))) (.rg x46_6 .ret))))
noncomputable def c46 : Code := Tryd.f46.body.getD .skip
theorem x46_b : Tryd.f46.body = some c46 := by kernel_rfl
theorem x46_c : cG (comp Tryd.prog) 2 2 20 x46 c46 = x46.den := by kernel_rfl
noncomputable def y46 : List (RR Tryd.prog 2 20 tf2) := [rrT r2_2 2 rfl rfl]
theorem x46_r : y46.map RR.den = Tryd.f46.results.toList := by kernel_rfl
theorem x46_k : okFn Tryd.f46 = true := by kernel_rfl
theorem x46_D : 2 = dep Tryd.f46.ntmps := by kernel_rfl
theorem x46_s : ([s2_0] : List (Slot tf2)).map Slot.p = (List.range' 0 1).map (pth 2) := by kernel_rfl
noncomputable def X46 : XFn Tryd.prog 2 (comp Tryd.prog) := ⟨X2, tf2, 46, Tryd.f46, c46, 2, 20, [s2_0], z2, x46, y46, x46_D, Tryd.ntmps46.symm, Tryd.func46, x46_b, x46_k, x46_s, by decide, z2_ok, x46_c, x46_r⟩
noncomputable def x47_0 : List (Ins tf2) := [(iAs (rk (.slice none 0 0)) s2_2)]
noncomputable def x47_1 : List (Ins tf2) := [(iAs (rk (.slice none 0 0)) s2_3)]
noncomputable def x47_2 : List (Ins tf2) := [(iAs (rk (.int .i64 (.ofNat 0))) s2_4)]
noncomputable def x47_3 : List (Ins tf2) := [(iMv r2_4 s2_5), (iMv r2_0 s2_6), (iP1 bLen r2_6 s2_7), (iP2 bLt r2_5 r2_7 s2_8)]
noncomputable def x47_4 : List (Ins tf2) := [(iMv r2_3 s2_11), (iMv r2_0 s2_12), (iMv r2_4 s2_13), (iP2 (bIxs 2) r2_12 r2_13 s2_14), (iP1 (bFa 0) r2_14 s2_15), (iR1 bLd r2_15 s2_16), (iGa (aBsl 1 1 [(.int .i64 (.ofNat 0))] [(0, 1)]) [r2_16] (some s2_17)), (iGm (m2 (sApp 1)) [r2_11, r2_17] (some s2_18)), (iAs r2_18 s2_3)]
noncomputable def x47_5 : List (Ins tf2) := [(iMv r2_4 s2_9), (iP2 bAdd r2_9 (rk (.int .i64 (.ofNat 1))) s2_10), (iAs r2_10 s2_4)]
noncomputable def x47_6 : List (Ins tf2) := [(iMv r2_3 s2_19), (iAs r2_19 s2_2)]
noncomputable def x47 : XC tf2 := (.rg x47_0 (.rg x47_1 (.seq (.rg x47_2 (.block 0 (.loop (.seq (.rg x47_3 (.cond r2_8 .skip (.exit 0))) (.seq (.block 1 (.reg x47_4)) (.reg x47_5)))))) (.rg x47_6 .ret))))
noncomputable def c47 : Code := Tryd.f47.body.getD .skip
theorem x47_b : Tryd.f47.body = some c47 := by kernel_rfl
theorem x47_c : cG (comp Tryd.prog) 2 2 20 x47 c47 = x47.den := by kernel_rfl
noncomputable def y47 : List (RR Tryd.prog 2 20 tf2) := [rrT r2_2 2 rfl rfl]
theorem x47_r : y47.map RR.den = Tryd.f47.results.toList := by kernel_rfl
theorem x47_k : okFn Tryd.f47 = true := by kernel_rfl
theorem x47_D : 2 = dep Tryd.f47.ntmps := by kernel_rfl
theorem x47_s : ([s2_0] : List (Slot tf2)).map Slot.p = (List.range' 0 1).map (pth 2) := by kernel_rfl
noncomputable def X47 : XFn Tryd.prog 2 (comp Tryd.prog) := ⟨X2, tf2, 47, Tryd.f47, c47, 2, 20, [s2_0], z2, x47, y47, x47_D, Tryd.ntmps47.symm, Tryd.func47, x47_b, x47_k, x47_s, by decide, z2_ok, x47_c, x47_r⟩
end Cr
end Go.Proofs.YtjhbabgcoemecaaDoor
namespace Go.Proofs.YtjhbabgcoemecaaDoor
namespace Cr
open Go Go.RowKit
set_option maxRecDepth 100000
noncomputable def x50_0 : List (Ins tf2) := [(iAs (rk (.int .i64 (.ofNat 0))) s2_4), (iAs (rk (.int .i64 (.ofNat 0))) s2_5)]
noncomputable def x50_1 : List (Ins tf2) := [(iMv r2_0 s2_6), (iGp (l2 (pEqD (tdOf 34) false)) [r2_6, (rk (.pointer none))] (some s2_7))]
noncomputable def x50_2 : List (Ins tf2) := [(iAs (rk (.int .i64 (.ofNat 0))) s2_4), (iAs (rk (.int .i64 (.ofNat 1))) s2_5)]
noncomputable def x50_3 : List (Ins tf2) := [(iMv r2_0 s2_9), (iP1 bNil r2_9 s2_10), (iP1 (bFa 0) r2_10 s2_11), (iR1 bLd r2_11 s2_12), (iMv r2_1 s2_13), (iCall (rk (.func (.func 68) #[] #[])) [r2_12, r2_13] (some s2_14)), (iMv r2_14 s2_8), (iGp (l1 (pExt 0)) [r2_8] (some s2_15)), (iGp (l1 (pExt 1)) [r2_8] (some s2_16)), (iAs r2_15 s2_1)]
noncomputable def x50_4 : List (Ins tf2) := [(iMv r2_0 s2_17), (iMv r2_1 s2_18), (iGp (pBld [(.int .u8 (.ofNat 0)), (.int .u64 (.ofNat 0)), (.slice none 0 0)] [(0, 1), (1, 1)]) [(rk (.int .u8 (.ofNat 0))), r2_18] (some s2_19)), (iCall (rk (.func (.func 69) #[] #[])) [r2_17, r2_19] (some s2_20)), (iGp (l1 (pExt 0)) [r2_20] (some s2_21)), (iGp (l1 (pExt 1)) [r2_20] (some s2_22)), (iAs r2_21 s2_4), (iAs r2_22 s2_5)]
noncomputable def x50 : XC tf2 := (.rg x50_0 (.seq (.rg x50_1 (.cond r2_7 (.rg x50_2 .ret) .skip)) (.rg x50_3 (.rg x50_4 .ret))))
noncomputable def c50 : Code := Tryd.f50.body.getD .skip
theorem x50_b : Tryd.f50.body = some c50 := by kernel_rfl
theorem x50_c : cG (comp Tryd.prog) 2 2 23 x50 c50 = x50.den := by kernel_rfl
noncomputable def y50 : List (RR Tryd.prog 2 23 tf2) := [rrT r2_4 4 rfl rfl, rrT r2_5 5 rfl rfl]
theorem x50_r : y50.map RR.den = Tryd.f50.results.toList := by kernel_rfl
theorem x50_k : okFn Tryd.f50 = true := by kernel_rfl
theorem x50_D : 2 = dep Tryd.f50.ntmps := by kernel_rfl
theorem x50_s : ([s2_0, s2_1] : List (Slot tf2)).map Slot.p = (List.range' 0 2).map (pth 2) := by kernel_rfl
noncomputable def X50 : XFn Tryd.prog 2 (comp Tryd.prog) := ⟨X2, tf2, 50, Tryd.f50, c50, 2, 23, [s2_0, s2_1], z2, x50, y50, x50_D, Tryd.ntmps50.symm, Tryd.func50, x50_b, x50_k, x50_s, by decide, z2_ok, x50_c, x50_r⟩
noncomputable def x52_0 : List (Ins tf2) := [(iAs (rk (.int .i64 (.ofNat 0))) s2_4), (iAs (rk (.int .i64 (.ofNat 0))) s2_5)]
noncomputable def x52_1 : List (Ins tf2) := [(iMv r2_0 s2_6), (iGp (l2 (pEqD (tdOf 34) false)) [r2_6, (rk (.pointer none))] (some s2_7))]
noncomputable def x52_2 : List (Ins tf2) := [(iAs (rk (.int .i64 (.ofNat 0))) s2_4), (iAs (rk (.int .i64 (.ofNat 1))) s2_5)]
noncomputable def x52_3 : List (Ins tf2) := [(iMv r2_1 s2_8), (iP2 bLt r2_8 (rk (.int .i64 (.ofNat 0))) s2_9), (iMv r2_9 s2_10), (iGd r2_10 [.o2, .o1] false (iMv r2_1 s2_11) (some s2_11) rfl rfl rfl), (iGd r2_10 [.o2, .o1] false (iP2 bGt r2_11 (rk (.int .i64 (.ofNat 4194303))) s2_12) (some s2_12) rfl rfl rfl), (iGp (l3 pPick) [r2_10, (rk (.bool true)), r2_12] (some s2_13))]
noncomputable def x52_4 : List (Ins tf2) := [(iAs (rk (.int .i64 (.ofNat 0))) s2_4), (iAs (rk (.int .i64 (.ofNat 3))) s2_5)]
noncomputable def x52_5 : List (Ins tf2) := [(iMv r2_0 s2_14), (iMv r2_1 s2_15), (iP1 (bCv .u64) r2_15 s2_16), (iGp (pBld [(.int .u8 (.ofNat 0)), (.int .u64 (.ofNat 0)), (.slice none 0 0)] [(0, 1), (1, 1)]) [(rk (.int .u8 (.ofNat 1))), r2_16] (some s2_17)), (iCall (rk (.func (.func 69) #[] #[])) [r2_14, r2_17] (some s2_18)), (iGp (l1 (pExt 0)) [r2_18] (some s2_19)), (iGp (l1 (pExt 1)) [r2_18] (some s2_20)), (iAs r2_19 s2_4), (iAs r2_20 s2_5)]
noncomputable def x52 : XC tf2 := (.rg x52_0 (.seq (.rg x52_1 (.cond r2_7 (.rg x52_2 .ret) .skip)) (.seq (.rg x52_3 (.cond r2_13 (.rg x52_4 .ret) .skip)) (.rg x52_5 .ret))))
noncomputable def c52 : Code := Tryd.f52.body.getD .skip
theorem x52_b : Tryd.f52.body = some c52 := by kernel_rfl
theorem x52_c : cG (comp Tryd.prog) 2 2 21 x52 c52 = x52.den := by kernel_rfl
noncomputable def y52 : List (RR Tryd.prog 2 21 tf2) := [rrT r2_4 4 rfl rfl, rrT r2_5 5 rfl rfl]
theorem x52_r : y52.map RR.den = Tryd.f52.results.toList := by kernel_rfl
theorem x52_k : okFn Tryd.f52 = true := by kernel_rfl
theorem x52_D : 2 = dep Tryd.f52.ntmps := by kernel_rfl
theorem x52_s : ([s2_0, s2_1] : List (Slot tf2)).map Slot.p = (List.range' 0 2).map (pth 2) := by kernel_rfl
noncomputable def X52 : XFn Tryd.prog 2 (comp Tryd.prog) := ⟨X2, tf2, 52, Tryd.f52, c52, 2, 21, [s2_0, s2_1], z2, x52, y52, x52_D, Tryd.ntmps52.symm, Tryd.func52, x52_b, x52_k, x52_s, by decide, z2_ok, x52_c, x52_r⟩
noncomputable def x54_0 : List (Ins tf2) := [(iAs (rk (.int .i64 (.ofNat 0))) s2_6), (iAs (rk (.int .i64 (.ofNat 0))) s2_7)]
noncomputable def x54_1 : List (Ins tf2) := [(iMv r2_0 s2_12), (iGp (l2 (pEqD (tdOf 34) false)) [r2_12, (rk (.pointer none))] (some s2_13))]
noncomputable def x54_2 : List (Ins tf2) := [(iAs (rk (.int .i64 (.ofNat 0))) s2_6), (iAs (rk (.int .i64 (.ofNat 1))) s2_7)]
noncomputable def x54_3 : List (Ins tf2) := [(iMv r2_1 s2_15), (iCall (rk (.func (.func 72) #[] #[])) [r2_15] (some s2_16)), (iMv r2_16 s2_14), (iGp (l1 (pExt 0)) [r2_14] (some s2_17)), (iGp (l1 (pExt 1)) [r2_14] (some s2_18)), (iAs r2_17 s2_8), (iAs r2_18 s2_9)]
noncomputable def x54_4 : List (Ins tf2) := [(iMv r2_9 s2_19), (iP2 bNe r2_19 (rk (.int .i64 (.ofNat 0))) s2_20), (iMv r2_20 s2_21), (iGd r2_21 [.o5, .o2] false (iMv r2_8 s2_22) (some s2_22) rfl rfl rfl), (iGd r2_21 [.o5, .o2] false (iP2 bEq r2_22 (rk (.int .i64 (.ofNat 0))) s2_23) (some s2_23) rfl rfl rfl), (iGp (l3 pPick) [r2_21, (rk (.bool true)), r2_23] (some s2_24)), (iMv r2_24 s2_25), (iGd r2_25 [.o1, .o3] false (iMv r2_8 s2_26) (some s2_26) rfl rfl rfl), (iGd r2_25 [.o1, .o3] false (iMv r2_2 s2_27) (some s2_27) rfl rfl rfl), (iGd r2_25 [.o1, .o3] false (iP1 bLen r2_27 s2_28) (some s2_28) rfl rfl rfl), (iGd r2_25 [.o1, .o3] false (iP2 bNe r2_26 r2_28 s2_29) (some s2_29) rfl rfl rfl), (iGp (l3 pPick) [r2_25, (rk (.bool true)), r2_29] (some s2_30))]
noncomputable def x54_5 : List (Ins tf2) := [(iAs (rk (.int .i64 (.ofNat 0))) s2_6), (iAs (rk (.int .i64 (.ofNat 2))) s2_7)]
noncomputable def x54_6 : List (Ins tf2) := [(iMv r2_2 s2_31), (iP1 bLen r2_31 s2_32), (iMv (rk (.int .i64 (.ofNat 0))) s2_33)]
noncomputable def x54_7 : List (Ins tf2) := [(iP2 bLt r2_33 r2_32 s2_34)]
noncomputable def x54_8 : List (Ins tf2) := [(iP2 (bIxs 1) r2_31 r2_33 s2_35), (iR1 bLd r2_35 s2_36), (iAs r2_36 s2_11)]
noncomputable def x54_9 : List (Ins tf2) := [(iMv r2_11 s2_37), (iP2 bLt r2_37 (rk (.int .i64 (.ofNat 0))) s2_38), (iMv r2_38 s2_39), (iGd r2_39 [.o7, .o4] false (iMv r2_11 s2_40) (some s2_40) rfl rfl rfl), (iGd r2_39 [.o7, .o4] false (iMv r2_0 s2_41) (some s2_41) rfl rfl rfl), (iGd r2_39 [.o7, .o4] false (iP1 bNil r2_41 s2_42) (some s2_42) rfl rfl rfl), (iGd r2_39 [.o7, .o4] false (iP1 (bFa 2) r2_42 s2_43) (some s2_43) rfl rfl rfl), (iGd r2_39 [.o7, .o4] false (iR1 bLd r2_43 s2_44) (some s2_44) rfl rfl rfl), (iGd r2_39 [.o7, .o4] false (iP1 bLen r2_44 s2_45) (some s2_45) rfl rfl rfl), (iGd r2_39 [.o7, .o4] false (iP2 bGe r2_40 r2_45 s2_46) (some s2_46) rfl rfl rfl), (iGp (l3 pPick) [r2_39, (rk (.bool true)), r2_46] (some s2_47))]
noncomputable def x54_10 : List (Ins tf2) := [(iAs (rk (.int .i64 (.ofNat 0))) s2_6), (iAs (rk (.int .i64 (.ofNat 3))) s2_7)]
noncomputable def x54_11 : List (Ins tf2) := [(iP2 bAdd r2_33 (rk (.int .i64 (.ofNat 1))) s2_48), (iMv r2_48 s2_33)]
noncomputable def x54_12 : List (Ins tf2) := [(iMv r2_0 s2_49), (iMv r2_1 s2_50), (iMv r2_2 s2_51), (iGm (m2 (sApp 1)) [(rk (.slice none 0 0)), r2_51] (some s2_52)), (iGp (pBld [(.int .u8 (.ofNat 0)), (.int .u64 (.ofNat 0)), (.slice none 0 0)] [(0, 1), (2, 1)]) [r2_50, r2_52] (some s2_53)), (iCall (rk (.func (.func 69) #[] #[])) [r2_49, r2_53] (some s2_54)), (iGp (l1 (pExt 0)) [r2_54] (some s2_55)), (iGp (l1 (pExt 1)) [r2_54] (some s2_56)), (iAs r2_55 s2_6), (iAs r2_56 s2_7)]
noncomputable def x54 : XC tf2 := (.rg x54_0 (.seq (.rg x54_1 (.cond r2_13 (.rg x54_2 .ret) .skip)) (.seq (.rg x54_3 (.rg x54_4 (.cond r2_30 (.rg x54_5 .ret) .skip))) (.seq (.rg x54_6 (.block 0 (.loop (.rg x54_7 (.seq (.cond r2_34 .skip (.exit 0)) (.seq (.block 1 (.rg x54_8 (.rg x54_9 (.cond r2_47 (.rg x54_10 .ret) .skip)))) (.reg x54_11))))))) (.rg x54_12 .ret)))))
noncomputable def c54 : Code := Tryd.f54.body.getD .skip
theorem x54_b : Tryd.f54.body = some c54 := by kernel_rfl
theorem x54_c : cG (comp Tryd.prog) 2 2 57 x54 c54 = x54.den := by kernel_rfl
noncomputable def y54 : List (RR Tryd.prog 2 57 tf2) := [rrT r2_6 6 rfl rfl, rrT r2_7 7 rfl rfl]
theorem x54_r : y54.map RR.den = Tryd.f54.results.toList := by kernel_rfl
theorem x54_k : okFn Tryd.f54 = true := by kernel_rfl
theorem x54_D : 2 = dep Tryd.f54.ntmps := by kernel_rfl
theorem x54_s : ([s2_0, s2_1, s2_2] : List (Slot tf2)).map Slot.p = (List.range' 0 3).map (pth 2) := by kernel_rfl
noncomputable def X54 : XFn Tryd.prog 2 (comp Tryd.prog) := ⟨X2, tf2, 54, Tryd.f54, c54, 2, 57, [s2_0, s2_1, s2_2], z2, x54, y54, x54_D, Tryd.ntmps54.symm, Tryd.func54, x54_b, x54_k, x54_s, by decide, z2_ok, x54_c, x54_r⟩
noncomputable def x56_0 : List (Ins tf3) := [(iGa (a1 gBox) [r3_2] (some s3_5)), (iAs (rk (.slice none 0 0)) s3_6), (iAs (rk (.int .i64 (.ofNat 0))) s3_7)]
noncomputable def x56_1 : List (Ins tf3) := [(iMv r3_0 s3_25), (iGp (l2 (pEqD (tdOf 34) false)) [r3_25, (rk (.pointer none))] (some s3_26))]
noncomputable def x56_2 : List (Ins tf3) := [(iAs (rk (.slice none 0 0)) s3_6), (iAs (rk (.int .i64 (.ofNat 1))) s3_7)]
noncomputable def x56_3 : List (Ins tf3) := [(iAs (rk (.int .i64 (.negSucc 0))) s3_8)]
noncomputable def x56_4 : List (Ins tf3) := [(iMv r3_1 s3_27), (iP1 bLen r3_27 s3_28), (iMv (rk (.int .i64 (.ofNat 0))) s3_29)]
noncomputable def x56_5 : List (Ins tf3) := [(iP2 bLt r3_29 r3_28 s3_30)]
noncomputable def x56_6 : List (Ins tf3) := [(iP2 (bIxs 1) r3_27 r3_29 s3_31), (iR1 bLd r3_31 s3_32), (iAs r3_32 s3_10)]
noncomputable def x56_7 : List (Ins tf3) := [(iMv r3_10 s3_33), (iP2 bLt r3_33 (rk (.int .i64 (.ofNat 0))) s3_34), (iMv r3_34 s3_35), (iGd r3_35 [.o3, .o4, .o0] false (iMv r3_10 s3_36) (some s3_36) rfl rfl rfl), (iGd r3_35 [.o3, .o4, .o0] false (iMv r3_0 s3_37) (some s3_37) rfl rfl rfl), (iGd r3_35 [.o3, .o4, .o0] false (iCall (rk (.func (.func 74) #[] #[])) [r3_37] (some s3_38)) (some s3_38) rfl rfl rfl), (iGd r3_35 [.o3, .o4, .o0] false (iP2 bGe r3_36 r3_38 s3_39) (some s3_39) rfl rfl rfl), (iGp (l3 pPick) [r3_35, (rk (.bool true)), r3_39] (some s3_40))]
noncomputable def x56_8 : List (Ins tf3) := [(iAs (rk (.slice none 0 0)) s3_6), (iAs (rk (.int .i64 (.ofNat 3))) s3_7)]
noncomputable def x56_9 : List (Ins tf3) := [(iMv r3_8 s3_41), (iMv r3_10 s3_42), (iGp (l2 pMax) [r3_41, r3_42] (some s3_43)), (iAs r3_43 s3_8)]
noncomputable def x56_10 : List (Ins tf3) := [(iP2 bAdd r3_29 (rk (.int .i64 (.ofNat 1))) s3_44), (iMv r3_44 s3_29)]
noncomputable def x56_11 : List (Ins tf3) := [(iMv r3_8 s3_45), (iP2 bAdd r3_45 (rk (.int .i64 (.ofNat 1))) s3_46), (iGa (a2 (gMks 3 40 [(.int .u8 (.ofNat 0)), (.int .u64 (.ofNat 0)), (.slice none 0 0)])) [r3_46, r3_46] (some s3_47)), (iAs r3_47 s3_11)]
noncomputable def x56_12 : List (Ins tf3) := [(iMv r3_8 s3_48), (iP2 bAdd r3_48 (rk (.int .i64 (.ofNat 1))) s3_49), (iGa (a2 (gMks 1 1 [(.bool false)])) [r3_49, r3_49] (some s3_50)), (iAs r3_50 s3_12)]
noncomputable def x56_13 : List (Ins tf3) := [(iMv r3_1 s3_51), (iP1 bLen r3_51 s3_52), (iMv (rk (.int .i64 (.ofNat 0))) s3_53)]
noncomputable def x56_14 : List (Ins tf3) := [(iP2 bLt r3_53 r3_52 s3_54)]
noncomputable def x56_15 : List (Ins tf3) := [(iP2 (bIxs 1) r3_51 r3_53 s3_55), (iR1 bLd r3_55 s3_56), (iAs r3_56 s3_14)]
noncomputable def x56_16 : List (Ins tf3) := [(iMv r3_12 s3_57), (iMv r3_14 s3_58), (iP2 (bIxs 1) r3_57 r3_58 s3_59), (iM2 bSt r3_59 (rk (.bool true)))]
noncomputable def x56_17 : List (Ins tf3) := [(iP2 bAdd r3_53 (rk (.int .i64 (.ofNat 1))) s3_60), (iMv r3_60 s3_53)]
noncomputable def x56_18 : List (Ins tf3) := [(iMv r3_8 s3_61), (iAs r3_61 s3_15)]
noncomputable def x56_19 : List (Ins tf3) := [(iMv r3_15 s3_62), (iP2 bGe r3_62 (rk (.int .i64 (.ofNat 0))) s3_63)]
noncomputable def x56_20 : List (Ins tf3) := [(iMv r3_12 s3_66), (iMv r3_15 s3_67), (iP2 (bIxs 1) r3_66 r3_67 s3_68), (iR1 bLd r3_68 s3_69)]
noncomputable def x56_21 : List (Ins tf3) := [(iMv r3_11 s3_71), (iMv r3_15 s3_72), (iMv r3_0 s3_73), (iMv r3_15 s3_74), (iCall (rk (.func (.func 75) #[] #[])) [r3_73, r3_74] (some s3_75)), (iMv r3_75 s3_70), (iGp (l1 (pExt 0)) [r3_70] (some s3_76)), (iGp (l1 (pExt 1)) [r3_70] (some s3_77)), (iP2 (bIxs 3) r3_71 r3_72 s3_78), (iGm (m2 (sStn 3)) [r3_78, r3_76] none)]
noncomputable def x56_22 : List (Ins tf3) := [(iMv r3_11 s3_79), (iMv r3_15 s3_80), (iP2 (bIxs 3) r3_79 r3_80 s3_81), (iP1 (bFa 2) r3_81 s3_82), (iR1 bLd r3_82 s3_83), (iP1 bLen r3_83 s3_84), (iMv (rk (.int .i64 (.ofNat 0))) s3_85)]
noncomputable def x56_23 : List (Ins tf3) := [(iP2 bLt r3_85 r3_84 s3_86)]
noncomputable def x56_24 : List (Ins tf3) := [(iP2 (bIxs 1) r3_83 r3_85 s3_87), (iR1 bLd r3_87 s3_88), (iAs r3_88 s3_17)]
noncomputable def x56_25 : List (Ins tf3) := [(iMv r3_12 s3_89), (iMv r3_17 s3_90), (iP2 (bIxs 1) r3_89 r3_90 s3_91), (iM2 bSt r3_91 (rk (.bool true)))]
noncomputable def x56_26 : List (Ins tf3) := [(iP2 bAdd r3_85 (rk (.int .i64 (.ofNat 1))) s3_92), (iMv r3_92 s3_85)]
noncomputable def x56_27 : List (Ins tf3) := [(iMv r3_15 s3_64), (iP2 bSub r3_64 (rk (.int .i64 (.ofNat 1))) s3_65), (iAs r3_65 s3_15)]
noncomputable def x56_28 : List (Ins tf3) := [(iMv r3_8 s3_93), (iP2 bAdd r3_93 (rk (.int .i64 (.ofNat 1))) s3_94), (iGa (a2 (gMks 1 8 [(.int .u64 (.ofNat 0))])) [r3_94, r3_94] (some s3_95)), (iGa (aAl 1 [(.slice none 0 0)]) [] (some s3_18)), (iM2 bSt r3_18 r3_95)]
noncomputable def x56_29 : List (Ins tf3) := [(iMv r3_0 s3_96), (iCall (rk (.func (.func 41) #[] #[])) [r3_96] (some s3_97)), (iGa (aAl 1 [(.int .i64 (.ofNat 0))]) [] (some s3_19)), (iM2 bSt r3_19 r3_97)]
noncomputable def x56_30 : List (Ins tf3) := [(iGp (pMkf (.func 76) 0) [r3_5, r3_19, r3_18] (some s3_98)), (iAs r3_98 s3_20)]
noncomputable def x56_31 : List (Ins tf3) := [(iR1 bLd r3_18 s3_99), (iP1 bLen r3_99 s3_100), (iMv (rk (.int .i64 (.ofNat 0))) s3_101)]
noncomputable def x56_32 : List (Ins tf3) := [(iP2 bLt r3_101 r3_100 s3_102)]
noncomputable def x56_33 : List (Ins tf3) := [(iMv r3_101 s3_103), (iAs r3_103 s3_21)]
noncomputable def x56_34 : List (Ins tf3) := [(iMv r3_12 s3_104), (iMv r3_21 s3_105), (iP2 (bIxs 1) r3_104 r3_105 s3_106), (iR1 bLd r3_106 s3_107)]
noncomputable def x56_35 : List (Ins tf3) := [(iR1 bLd r3_18 s3_108), (iMv r3_21 s3_109), (iMv r3_20 s3_110), (iMv r3_11 s3_111), (iMv r3_21 s3_112), (iP2 (bIxs 3) r3_111 r3_112 s3_113), (iGr (r1 (rLdn 3)) [r3_113] (some s3_114)), (iRc (iCall r3_110 [r3_114] (some s3_115)) [(rcLd r3_18 r3_108 [.o4, .o5, .o1] rfl)] rfl), (iP2 (bIxs 1) r3_108 r3_109 s3_116), (iM2 bSt r3_116 r3_115)]
noncomputable def x56_36 : List (Ins tf3) := [(iP2 bAdd r3_101 (rk (.int .i64 (.ofNat 1))) s3_117), (iMv r3_117 s3_101)]
noncomputable def x56_37 : List (Ins tf3) := [(iMv r3_1 s3_118), (iP1 bLen r3_118 s3_119), (iGa (a2 (gMks 1 8 [(.int .u64 (.ofNat 0))])) [r3_119, r3_119] (some s3_120)), (iAs r3_120 s3_22)]
noncomputable def x56_38 : List (Ins tf3) := [(iMv r3_1 s3_121), (iP1 bLen r3_121 s3_122), (iMv (rk (.int .i64 (.ofNat 0))) s3_123)]
noncomputable def x56_39 : List (Ins tf3) := [(iP2 bLt r3_123 r3_122 s3_124)]
noncomputable def x56_40 : List (Ins tf3) := [(iMv r3_123 s3_125), (iP2 (bIxs 1) r3_121 r3_123 s3_126), (iR1 bLd r3_126 s3_127), (iAs r3_125 s3_23), (iAs r3_127 s3_24)]
noncomputable def x56_41 : List (Ins tf3) := [(iMv r3_22 s3_128), (iMv r3_23 s3_129), (iR1 bLd r3_18 s3_130), (iMv r3_24 s3_131), (iP2 (bIxs 1) r3_130 r3_131 s3_132), (iR1 bLd r3_132 s3_133), (iP2 (bIxs 1) r3_128 r3_129 s3_134), (iM2 bSt r3_134 r3_133)]
noncomputable def x56_42 : List (Ins tf3) := [(iP2 bAdd r3_123 (rk (.int .i64 (.ofNat 1))) s3_135), (iMv r3_135 s3_123)]
noncomputable def x56_43 : List (Ins tf3) := [(iMv r3_22 s3_136), (iAs r3_136 s3_6), (iAs (rk (.int .i64 (.ofNat 0))) s3_7)]
noncomputable def x56_44 : XC tf3 := (.rg x56_28 (.rg x56_29 (.rg x56_30 (.seq (.rg x56_31 (.block 8 (.loop (.rg x56_32 (.seq (.cond r3_102 .skip (.exit 8)) (.seq (.block 9 (.rg x56_33 (.rg x56_34 (.cond r3_107 (.reg x56_35) .skip)))) (.reg x56_36))))))) (.rg x56_37 (.seq (.rg x56_38 (.block 10 (.loop (.rg x56_39 (.seq (.cond r3_124 .skip (.exit 10)) (.seq (.block 11 (.rg x56_40 (.reg x56_41))) (.reg x56_42))))))) (.rg x56_43 .ret)))))))
noncomputable def x56_45 : XC tf3 := (.seq (.rg x56_13 (.block 2 (.loop (.rg x56_14 (.seq (.cond r3_54 .skip (.exit 2)) (.seq (.block 3 (.rg x56_15 (.reg x56_16))) (.reg x56_17))))))) (.seq (.rg x56_18 (.block 4 (.loop (.seq (.rg x56_19 (.cond r3_63 .skip (.exit 4))) (.seq (.block 5 (.rg x56_20 (.cond r3_69 (.rg x56_21 (.rg x56_22 (.block 6 (.loop (.rg x56_23 (.seq (.cond r3_86 .skip (.exit 6)) (.seq (.block 7 (.rg x56_24 (.reg x56_25))) (.reg x56_26)))))))) .skip))) (.reg x56_27)))))) x56_44))
noncomputable def x56 : XC tf3 := (.rg x56_0 (.seq (.rg x56_1 (.cond r3_26 (.rg x56_2 .ret) .skip)) (.rg x56_3 (.seq (.rg x56_4 (.block 0 (.loop (.rg x56_5 (.seq (.cond r3_30 .skip (.exit 0)) (.seq (.block 1 (.rg x56_6 (.seq (.rg x56_7 (.cond r3_40 (.rg x56_8 .ret) .skip)) (.reg x56_9)))) (.reg x56_10))))))) (.rg x56_11 (.rg x56_12 x56_45))))))
noncomputable def c56 : Code := Tryd.f56.body.getD .skip
theorem x56_b : Tryd.f56.body = some c56 := by kernel_rfl
theorem x56_c : cG (comp Tryd.prog) 2 3 137 x56 c56 = x56.den := by kernel_rfl
noncomputable def y56 : List (RR Tryd.prog 3 137 tf3) := [rrT r3_6 6 rfl rfl, rrT r3_7 7 rfl rfl]
theorem x56_r : y56.map RR.den = Tryd.f56.results.toList := by kernel_rfl
theorem x56_k : okFn Tryd.f56 = true := by kernel_rfl
theorem x56_D : 3 = dep Tryd.f56.ntmps := by kernel_rfl
theorem x56_s : ([s3_0, s3_1, s3_2] : List (Slot tf3)).map Slot.p = (List.range' 0 3).map (pth 3) := by kernel_rfl
noncomputable def X56 : XFn Tryd.prog 2 (comp Tryd.prog) := ⟨X3, tf3, 56, Tryd.f56, c56, 3, 137, [s3_0, s3_1, s3_2], z3, x56, y56, x56_D, Tryd.ntmps56.symm, Tryd.func56, x56_b, x56_k, x56_s, by decide, z3_ok, x56_c, x56_r⟩
noncomputable def x58_0 : List (Ins tf1) := [(iGa (a1 gBox) [r1_0] (some s1_1)), (iAs (rk (.int .i64 (.ofNat 0))) s1_2)]
noncomputable def x58_1 : List (Ins tf1) := [(iP1 (bFa 1) r1_1 s1_3), (iR1 bLd r1_3 s1_4), (iAs r1_4 s1_2)]
noncomputable def x58 : XC tf1 := (.rg x58_0 (.rg x58_1 .ret))
noncomputable def c58 : Code := Tryd.f58.body.getD .skip
theorem x58_b : Tryd.f58.body = some c58 := by kernel_rfl
theorem x58_c : cG (comp Tryd.prog) 2 1 5 x58 c58 = x58.den := by kernel_rfl
noncomputable def y58 : List (RR Tryd.prog 1 5 tf1) := [rrT r1_2 2 rfl rfl]
theorem x58_r : y58.map RR.den = Tryd.f58.results.toList := by kernel_rfl
theorem x58_k : okFn Tryd.f58 = true := by kernel_rfl
theorem x58_D : 1 = dep Tryd.f58.ntmps := by kernel_rfl
theorem x58_s : ([s1_0] : List (Slot tf1)).map Slot.p = (List.range' 0 1).map (pth 1) := by kernel_rfl
noncomputable def X58 : XFn Tryd.prog 2 (comp Tryd.prog) := ⟨X1, tf1, 58, Tryd.f58, c58, 1, 5, [s1_0], z1, x58, y58, x58_D, Tryd.ntmps58.symm, Tryd.func58, x58_b, x58_k, x58_s, by decide, z1_ok, x58_c, x58_r⟩
noncomputable def x59_0 : List (Ins tf2) := [(iAs (rk (.slice none 0 0)) s2_4)]
noncomputable def x59_1 : List (Ins tf2) := [(iAs (rk (.slice none 0 0)) s2_5)]
noncomputable def x59_2 : List (Ins tf2) := [(iMv r2_1 s2_8), (iP1 bLen r2_8 s2_9), (iMv (rk (.int .i64 (.ofNat 0))) s2_10)]
noncomputable def x59_3 : List (Ins tf2) := [(iP2 bLt r2_10 r2_9 s2_11)]
noncomputable def x59_4 : List (Ins tf2) := [(iP2 (bIxs 2) r2_8 r2_10 s2_12), (iGr (r1 (rLdn 2)) [r2_12] (some s2_13)), (iGa (aAl 2 [(.int .i64 (.ofNat 0)), (.int .i64 (.ofNat 0))]) [] (some s2_7)), (iGm (m2 (sStn 2)) [r2_7, r2_13] none)]
noncomputable def x59_5 : List (Ins tf2) := [(iMv r2_5 s2_14), (iMv r2_0 s2_15), (iGr (r1 (rLdn 2)) [r2_7] (some s2_16)), (iCall r2_15 [r2_16] (some s2_17)), (iGa (aBsl 1 1 [(.int .i64 (.ofNat 0))] [(0, 1)]) [r2_17] (some s2_18)), (iGm (m2 (sApp 1)) [r2_14, r2_18] (some s2_19)), (iAs r2_19 s2_5)]
noncomputable def x59_6 : List (Ins tf2) := [(iP2 bAdd r2_10 (rk (.int .i64 (.ofNat 1))) s2_20), (iMv r2_20 s2_10)]
noncomputable def x59_7 : List (Ins tf2) := [(iMv r2_5 s2_21), (iAs r2_21 s2_4)]
noncomputable def x59 : XC tf2 := (.rg x59_0 (.rg x59_1 (.seq (.rg x59_2 (.block 0 (.loop (.rg x59_3 (.seq (.cond r2_11 .skip (.exit 0)) (.seq (.block 1 (.rg x59_4 (.reg x59_5))) (.reg x59_6))))))) (.rg x59_7 .ret))))
noncomputable def c59 : Code := Tryd.f59.body.getD .skip
theorem x59_b : Tryd.f59.body = some c59 := by kernel_rfl
theorem x59_c : cG (comp Tryd.prog) 2 2 22 x59 c59 = x59.den := by kernel_rfl
noncomputable def y59 : List (RR Tryd.prog 2 22 tf2) := [rrT r2_4 4 rfl rfl]
theorem x59_r : y59.map RR.den = Tryd.f59.results.toList := by kernel_rfl
theorem x59_k : okFn Tryd.f59 = true := by kernel_rfl
theorem x59_D : 2 = dep Tryd.f59.ntmps := by kernel_rfl
theorem x59_s : ([s2_0, s2_1] : List (Slot tf2)).map Slot.p = (List.range' 0 2).map (pth 2) := by kernel_rfl
noncomputable def X59 : XFn Tryd.prog 2 (comp Tryd.prog) := ⟨X2, tf2, 59, Tryd.f59, c59, 2, 22, [s2_0, s2_1], z2, x59, y59, x59_D, Tryd.ntmps59.symm, Tryd.func59, x59_b, x59_k, x59_s, by decide, z2_ok, x59_c, x59_r⟩
noncomputable def x63_0 : List (Ins tf2) := [(iAs (rk (.bool false)) s2_4)]
noncomputable def x63_1 : List (Ins tf2) := [(iMv r2_0 s2_6), (iP1 bLen r2_6 s2_7), (iMv r2_1 s2_8), (iP1 bLen r2_8 s2_9), (iP2 bNe r2_7 r2_9 s2_10)]
noncomputable def x63_2 : List (Ins tf2) := [(iAs (rk (.bool false)) s2_4)]
noncomputable def x63_3 : List (Ins tf2) := [(iAs (rk (.int .i64 (.ofNat 0))) s2_5)]
noncomputable def x63_4 : List (Ins tf2) := [(iMv r2_5 s2_11), (iMv r2_0 s2_12), (iP1 bLen r2_12 s2_13), (iP2 bLt r2_11 r2_13 s2_14)]
noncomputable def x63_5 : List (Ins tf2) := [(iMv r2_0 s2_17), (iMv r2_5 s2_18), (iP2 (bIxs 2) r2_17 r2_18 s2_19), (iGr (r1 (rLdn 2)) [r2_19] (some s2_20)), (iMv r2_1 s2_21), (iMv r2_5 s2_22), (iP2 (bIxs 2) r2_21 r2_22 s2_23), (iGr (r1 (rLdn 2)) [r2_23] (some s2_24)), (iGp (l2 (pEqS [0, 0] true)) [r2_20, r2_24] (some s2_25))]
noncomputable def x63_6 : List (Ins tf2) := [(iAs (rk (.bool false)) s2_4)]
noncomputable def x63_7 : List (Ins tf2) := [(iMv r2_5 s2_15), (iP2 bAdd r2_15 (rk (.int .i64 (.ofNat 1))) s2_16), (iAs r2_16 s2_5)]
noncomputable def x63_8 : List (Ins tf2) := [(iAs (rk (.bool true)) s2_4)]
noncomputable def x63 : XC tf2 := (.rg x63_0 (.seq (.rg x63_1 (.cond r2_10 (.rg x63_2 .ret) .skip)) (.seq (.rg x63_3 (.block 0 (.loop (.seq (.rg x63_4 (.cond r2_14 .skip (.exit 0))) (.seq (.block 1 (.rg x63_5 (.cond r2_25 (.rg x63_6 .ret) .skip))) (.reg x63_7)))))) (.rg x63_8 .ret))))
noncomputable def c63 : Code := Tryd.f63.body.getD .skip
theorem x63_b : Tryd.f63.body = some c63 := by kernel_rfl
theorem x63_c : cG (comp Tryd.prog) 2 2 26 x63 c63 = x63.den := by kernel_rfl
noncomputable def y63 : List (RR Tryd.prog 2 26 tf2) := [rrT r2_4 4 rfl rfl]
theorem x63_r : y63.map RR.den = Tryd.f63.results.toList := by kernel_rfl
theorem x63_k : okFn Tryd.f63 = true := by kernel_rfl
theorem x63_D : 2 = dep Tryd.f63.ntmps := by kernel_rfl
theorem x63_s : ([s2_0, s2_1] : List (Slot tf2)).map Slot.p = (List.range' 0 2).map (pth 2) := by kernel_rfl
noncomputable def X63 : XFn Tryd.prog 2 (comp Tryd.prog) := ⟨X2, tf2, 63, Tryd.f63, c63, 2, 26, [s2_0, s2_1], z2, x63, y63, x63_D, Tryd.ntmps63.symm, Tryd.func63, x63_b, x63_k, x63_s, by decide, z2_ok, x63_c, x63_r⟩
noncomputable def x64_0 : List (Ins tf2) := [(iAs (rk (.int .i64 (.ofNat 0))) s2_2)]
noncomputable def x64_1 : List (Ins tf2) := [(iMv r2_0 s2_3), (iP2 bLt r2_3 (rk (.int .i64 (.ofNat 1))) s2_4), (iMv r2_4 s2_5), (iGd r2_5 [.o5, .o0] false (iMv r2_0 s2_6) (some s2_6) rfl rfl rfl), (iGd r2_5 [.o5, .o0] false (iP2 bGt r2_6 (rk (.int .i64 (.ofNat 64))) s2_7) (some s2_7) rfl rfl rfl), (iGp (l3 pPick) [r2_5, (rk (.bool true)), r2_7] (some s2_8))]
noncomputable def x64_2 : List (Ins tf2) := [(iAs (rk (.int .i64 (.ofNat 3))) s2_2)]
noncomputable def x64_3 : List (Ins tf2) := [(iAs (rk (.int .i64 (.ofNat 0))) s2_2)]
noncomputable def x64 : XC tf2 := (.rg x64_0 (.seq (.rg x64_1 (.cond r2_8 (.rg x64_2 .ret) .skip)) (.rg x64_3 .ret)))
noncomputable def c64 : Code := Tryd.f64.body.getD .skip
theorem x64_b : Tryd.f64.body = some c64 := by kernel_rfl
theorem x64_c : cG (comp Tryd.prog) 2 2 9 x64 c64 = x64.den := by kernel_rfl
noncomputable def y64 : List (RR Tryd.prog 2 9 tf2) := [rrT r2_2 2 rfl rfl]
theorem x64_r : y64.map RR.den = Tryd.f64.results.toList := by kernel_rfl
theorem x64_k : okFn Tryd.f64 = true := by kernel_rfl
theorem x64_D : 2 = dep Tryd.f64.ntmps := by kernel_rfl
theorem x64_s : ([s2_0] : List (Slot tf2)).map Slot.p = (List.range' 0 1).map (pth 2) := by kernel_rfl
noncomputable def X64 : XFn Tryd.prog 2 (comp Tryd.prog) := ⟨X2, tf2, 64, Tryd.f64, c64, 2, 9, [s2_0], z2, x64, y64, x64_D, Tryd.ntmps64.symm, Tryd.func64, x64_b, x64_k, x64_s, by decide, z2_ok, x64_c, x64_r⟩
noncomputable def x65_0 : List (Ins tf2) := [(iAs (rk (.bool false)) s2_2)]
noncomputable def x65_1 : List (Ins tf2) := [(iMv r2_0 s2_5), (iP1 bLen r2_5 s2_6), (iMv (rk (.int .i64 (.ofNat 0))) s2_7)]
noncomputable def x65_2 : List (Ins tf2) := [(iP2 bLt r2_7 r2_6 s2_8)]
noncomputable def x65_3 : List (Ins tf2) := [(iMv r2_7 s2_9), (iP2 (bIxs 1) r2_5 r2_7 s2_10), (iR1 bLd r2_10 s2_11), (iAs r2_9 s2_3), (iAs r2_11 s2_4)]
noncomputable def x65_4 : List (Ins tf2) := [(iMv r2_4 s2_12), (iCall (rk (.func (.func 79) #[] #[])) [r2_12] (some s2_13)), (iGp (l1 (pUn .not)) [r2_13] (some s2_14)), (iMv r2_14 s2_15), (iGd r2_15 [.o7, .o1] false (iMv r2_0 s2_16) (some s2_16) rfl rfl rfl), (iGd r2_15 [.o7, .o1] false (iMv r2_3 s2_17) (some s2_17) rfl rfl rfl), (iGd r2_15 [.o7, .o1] false (iGp (pSlB (pSl 1) false true false) [r2_16, r2_17] (some s2_18)) (some s2_18) rfl rfl rfl), (iGd r2_15 [.o7, .o1] false (iMv r2_4 s2_19) (some s2_19) rfl rfl rfl), (iGd r2_15 [.o7, .o1] false (iCall (rk (.func (.func 80) #[] #[])) [r2_18, r2_19] (some s2_20)) (some s2_20) rfl rfl rfl), (iGp (l3 pPick) [r2_15, (rk (.bool true)), r2_20] (some s2_21))]
noncomputable def x65_5 : List (Ins tf2) := [(iAs (rk (.bool false)) s2_2)]
noncomputable def x65_6 : List (Ins tf2) := [(iP2 bAdd r2_7 (rk (.int .i64 (.ofNat 1))) s2_22), (iMv r2_22 s2_7)]
noncomputable def x65_7 : List (Ins tf2) := [(iMv r2_0 s2_23), (iP1 bLen r2_23 s2_24), (iP2 bLe r2_24 (rk (.int .i64 (.ofNat 32))) s2_25), (iAs r2_25 s2_2)]
noncomputable def x65 : XC tf2 := (.rg x65_0 (.seq (.rg x65_1 (.block 0 (.loop (.rg x65_2 (.seq (.cond r2_8 .skip (.exit 0)) (.seq (.block 1 (.rg x65_3 (.rg x65_4 (.cond r2_21 (.rg x65_5 .ret) .skip)))) (.reg x65_6))))))) (.rg x65_7 .ret)))
noncomputable def c65 : Code := Tryd.f65.body.getD .skip
theorem x65_b : Tryd.f65.body = some c65 := by kernel_rfl
theorem x65_c : cG (comp Tryd.prog) 2 2 26 x65 c65 = x65.den := by kernel_rfl
noncomputable def y65 : List (RR Tryd.prog 2 26 tf2) := [rrT r2_2 2 rfl rfl]
theorem x65_r : y65.map RR.den = Tryd.f65.results.toList := by kernel_rfl
theorem x65_k : okFn Tryd.f65 = true := by kernel_rfl
theorem x65_D : 2 = dep Tryd.f65.ntmps := by kernel_rfl
theorem x65_s : ([s2_0] : List (Slot tf2)).map Slot.p = (List.range' 0 1).map (pth 2) := by kernel_rfl
noncomputable def X65 : XFn Tryd.prog 2 (comp Tryd.prog) := ⟨X2, tf2, 65, Tryd.f65, c65, 2, 26, [s2_0], z2, x65, y65, x65_D, Tryd.ntmps65.symm, Tryd.func65, x65_b, x65_k, x65_s, by decide, z2_ok, x65_c, x65_r⟩
noncomputable def x66_0 : List (Ins tf3) := [(iGa (a1 gBox) [r3_0] (some s3_2)), (iGa (a1 gBox) [r3_1] (some s3_3)), (iAs (rk (.bool false)) s3_4)]
noncomputable def x66_1 : List (Ins tf3) := [(iP1 (bFa 0) r3_3 s3_9), (iR1 bLd r3_9 s3_10), (iP1 (bCv .i64) r3_10 s3_11), (iP2 bGe r3_11 (rk (.int .i64 (.ofNat 10))) s3_12)]
noncomputable def x66_2 : List (Ins tf3) := [(iAs (rk (.bool false)) s3_4)]
noncomputable def x66_3 : List (Ins tf3) := [(iP1 (bFa 0) r3_3 s3_13), (iR1 bLd r3_13 s3_14), (iP2 (bIxa 10 4) (rk (.pointer (some ⟨1, 0, none⟩))) r3_14 s3_15), (iGr (r1 (rLdn 4)) [r3_15] (some s3_16)), (iGa (aAl 4 [(.bool false), (.bool false), (.bool false), (.int .i64 (.ofNat 0))]) [] (some s3_5)), (iGm (m2 (sStn 4)) [r3_5, r3_16] none)]
noncomputable def x66_4 : List (Ins tf3) := [(iP1 (bFa 0) r3_3 s3_17), (iR1 bLd r3_17 s3_18), (iP2 bEq r3_18 (rk (.int .u8 (.ofNat 1))) s3_19)]
noncomputable def x66_5 : List (Ins tf3) := [(iP1 (bFa 1) r3_3 s3_20), (iR1 bLd r3_20 s3_21), (iP2 bLt r3_21 (rk (.int .u8 (.ofNat 2))) s3_22), (iMv r3_22 s3_23), (iGd r3_23 [.o7, .o2, .o0] false (iP1 (bFa 1) r3_3 s3_24) (some s3_24) rfl rfl rfl), (iGd r3_23 [.o7, .o2, .o0] false (iR1 bLd r3_24 s3_25) (some s3_25) rfl rfl rfl), (iGd r3_23 [.o7, .o2, .o0] false (iP2 bGt r3_25 (rk (.int .u8 (.ofNat 20))) s3_26) (some s3_26) rfl rfl rfl), (iGp (l3 pPick) [r3_23, (rk (.bool true)), r3_26] (some s3_27))]
noncomputable def x66_6 : List (Ins tf3) := [(iAs (rk (.bool false)) s3_4)]
noncomputable def x66_7 : List (Ins tf3) := [(iP1 (bFa 1) r3_3 s3_29), (iR1 bLd r3_29 s3_30), (iCall (rk (.func (.func 72) #[] #[])) [r3_30] (some s3_31)), (iMv r3_31 s3_28), (iGp (l1 (pExt 0)) [r3_28] (some s3_32)), (iGp (l1 (pExt 1)) [r3_28] (some s3_33)), (iAs r3_32 s3_6), (iAs r3_33 s3_7)]
noncomputable def x66_8 : List (Ins tf3) := [(iMv r3_6 s3_34), (iP2 bEq r3_34 (rk (.int .i64 (.ofNat 2))) s3_35), (iP1 (bFa 2) r3_5 s3_36), (iM2 bSt r3_36 r3_35)]
noncomputable def x66_9 : List (Ins tf3) := [(iP1 (bFa 1) r3_3 s3_37), (iR1 bLd r3_37 s3_38), (iP2 bNe r3_38 (rk (.int .u8 (.ofNat 0))) s3_39)]
noncomputable def x66_10 : List (Ins tf3) := [(iAs (rk (.bool false)) s3_4)]
noncomputable def x66_11 : List (Ins tf3) := [(iP1 (bFa 4) r3_2 s3_40), (iR1 bLd r3_40 s3_41), (iP1 bLen r3_41 s3_42), (iP1 (bFa 2) r3_2 s3_43), (iR1 bLd r3_43 s3_44), (iP1 bLen r3_44 s3_45), (iP1 (bFa 3) r3_2 s3_46), (iR1 bLd r3_46 s3_47), (iP1 bLen r3_47 s3_48), (iP1 (bFa 5) r3_2 s3_49), (iR1 bLd r3_49 s3_50), (iP1 bLen r3_50 s3_51), (iGp (pBld [(.int .i64 (.ofNat 0)), (.int .i64 (.ofNat 0)), (.int .i64 (.ofNat 0)), (.int .i64 (.ofNat 0)), (.int .i64 (.ofNat 0))] [(0, 1), (1, 1), (2, 1), (3, 1), (4, 1)]) [(rk (.int .i64 (.ofNat 1))), r3_42, r3_45, r3_48, r3_51] (some s3_52)), (iP1 (bFa 3) r3_5 s3_53), (iR1 bLd r3_53 s3_54), (iGp (l2 (pIx 5 none 1)) [r3_52, r3_54] (some s3_55)), (iAs r3_55 s3_8)]
noncomputable def x66_12 : List (Ins tf3) := [(iP1 (bFa 3) r3_3 s3_56), (iR1 bLd r3_56 s3_57), (iP2 bLt r3_57 (rk (.int .i64 (.ofNat 0))) s3_58), (iMv r3_58 s3_59), (iGd r3_59 [.o3, .o7, .o0] false (iP1 (bFa 3) r3_3 s3_60) (some s3_60) rfl rfl rfl), (iGd r3_59 [.o3, .o7, .o0] false (iR1 bLd r3_60 s3_61) (some s3_61) rfl rfl rfl), (iGd r3_59 [.o3, .o7, .o0] false (iMv r3_8 s3_62) (some s3_62) rfl rfl rfl), (iGd r3_59 [.o3, .o7, .o0] false (iP2 bGe r3_61 r3_62 s3_63) (some s3_63) rfl rfl rfl), (iGp (l3 pPick) [r3_59, (rk (.bool true)), r3_63] (some s3_64)), (iMv r3_64 s3_65), (iGd r3_65 [.o1, .o0, .o1] false (iP1 (bFa 0) r3_5 s3_66) (some s3_66) rfl rfl rfl), (iGd r3_65 [.o1, .o0, .o1] false (iR1 bLd r3_66 s3_67) (some s3_67) rfl rfl rfl), (iGd r3_65 [.o1, .o0, .o1] false (iGp (l1 (pUn .not)) [r3_67] (some s3_68)) (some s3_68) rfl rfl rfl), (iGd r3_65 [.o1, .o0, .o1] false (iMv r3_68 s3_69) (some s3_69) rfl rfl rfl), (iGd r3_69 [.o5, .o0, .o1] true (iP1 (bFa 2) r3_3 s3_70) (some s3_70) rfl rfl rfl), (iGd r3_69 [.o5, .o0, .o1] true (iR1 bLd r3_70 s3_71) (some s3_71) rfl rfl rfl), (iGd r3_69 [.o5, .o0, .o1] true (iP2 bNe r3_71 (rk (.int .i64 (.ofNat 0))) s3_72) (some s3_72) rfl rfl rfl), (iGd r3_65 [.o1, .o0, .o1] false (iGp (l3 pPick) [r3_69, r3_72, (rk (.bool false))] (some s3_73)) (some s3_73) rfl rfl rfl), (iGp (l3 pPick) [r3_65, (rk (.bool true)), r3_73] (some s3_74)), (iMv r3_74 s3_75), (iGd r3_75 [.o3, .o1, .o1] false (iP1 (bFa 0) r3_5 s3_76) (some s3_76) rfl rfl rfl), (iGd r3_75 [.o3, .o1, .o1] false (iR1 bLd r3_76 s3_77) (some s3_77) rfl rfl rfl), (iGd r3_75 [.o3, .o1, .o1] false (iMv r3_77 s3_78) (some s3_78) rfl rfl rfl), (iGd r3_78 [.o6, .o1, .o1] true (iP1 (bFa 2) r3_3 s3_79) (some s3_79) rfl rfl rfl), (iGd r3_78 [.o6, .o1, .o1] true (iR1 bLd r3_79 s3_80) (some s3_80) rfl rfl rfl), (iGd r3_78 [.o6, .o1, .o1] true (iP2 bLt r3_80 (rk (.int .i64 (.ofNat 0))) s3_81) (some s3_81) rfl rfl rfl), (iGd r3_78 [.o6, .o1, .o1] true (iMv r3_81 s3_82) (some s3_82) rfl rfl rfl), (iGd r3_82 [.o2, .o2, .o1] false (iP1 (bFa 2) r3_3 s3_83) (some s3_83) rfl rfl rfl), (iGd r3_82 [.o2, .o2, .o1] false (iR1 bLd r3_83 s3_84) (some s3_84) rfl rfl rfl), (iGd r3_82 [.o2, .o2, .o1] false (iP1 (bFa 1) r3_2 s3_85) (some s3_85) rfl rfl rfl), (iGd r3_82 [.o2, .o2, .o1] false (iR1 bLd r3_85 s3_86) (some s3_86) rfl rfl rfl), (iGd r3_82 [.o2, .o2, .o1] false (iP2 bGe r3_84 r3_86 s3_87) (some s3_87) rfl rfl rfl), (iGd r3_78 [.o6, .o1, .o1] true (iGp (l3 pPick) [r3_82, (rk (.bool true)), r3_87] (some s3_88)) (some s3_88) rfl rfl rfl), (iGd r3_75 [.o3, .o1, .o1] false (iGp (l3 pPick) [r3_78, r3_88, (rk (.bool false))] (some s3_89)) (some s3_89) rfl rfl rfl), (iGp (l3 pPick) [r3_75, (rk (.bool true)), r3_89] (some s3_90))]
noncomputable def x66_13 : List (Ins tf3) := [(iAs (rk (.bool false)) s3_4)]
noncomputable def x66_14 : List (Ins tf3) := [(iGr (r1 (rLdn 6)) [r3_2] (some s3_91)), (iP1 (bFa 4) r3_3 s3_92), (iGr (r1 (rLdn 2)) [r3_92] (some s3_93)), (iP1 (bFa 1) r3_5 s3_94), (iR1 bLd r3_94 s3_95), (iCall (rk (.func (.func 81) #[] #[])) [r3_91, r3_93, r3_95] (some s3_96)), (iMv r3_96 s3_97), (iGd r3_97 [.o1, .o4, .o1] true (iGr (r1 (rLdn 6)) [r3_2] (some s3_98)) (some s3_98) rfl rfl rfl), (iGd r3_97 [.o1, .o4, .o1] true (iP1 (bFa 6) r3_3 s3_99) (some s3_99) rfl rfl rfl), (iGd r3_97 [.o1, .o4, .o1] true (iGr (r1 (rLdn 2)) [r3_99] (some s3_100)) (some s3_100) rfl rfl rfl), (iGd r3_97 [.o1, .o4, .o1] true (iP1 (bFa 2) r3_5 s3_101) (some s3_101) rfl rfl rfl), (iGd r3_97 [.o1, .o4, .o1] true (iR1 bLd r3_101 s3_102) (some s3_102) rfl rfl rfl), (iGd r3_97 [.o1, .o4, .o1] true (iCall (rk (.func (.func 81) #[] #[])) [r3_98, r3_100, r3_102] (some s3_103)) (some s3_103) rfl rfl rfl), (iGp (l3 pPick) [r3_97, r3_103, (rk (.bool false))] (some s3_104)), (iAs r3_104 s3_4)]
noncomputable def x66 : XC tf3 := (.rg x66_0 (.seq (.rg x66_1 (.cond r3_12 (.rg x66_2 .ret) .skip)) (.rg x66_3 (.seq (.rg x66_4 (.cond r3_19 (.seq (.rg x66_5 (.cond r3_27 (.rg x66_6 .ret) .skip)) (.rg x66_7 (.reg x66_8))) (.rg x66_9 (.cond r3_39 (.rg x66_10 .ret) .skip)))) (.rg x66_11 (.seq (.rg x66_12 (.cond r3_90 (.rg x66_13 .ret) .skip)) (.rg x66_14 .ret)))))))
noncomputable def c66 : Code := Tryd.f66.body.getD .skip
theorem x66_b : Tryd.f66.body = some c66 := by kernel_rfl
theorem x66_c : cG (comp Tryd.prog) 2 3 105 x66 c66 = x66.den := by kernel_rfl
noncomputable def y66 : List (RR Tryd.prog 3 105 tf3) := [rrT r3_4 4 rfl rfl]
theorem x66_r : y66.map RR.den = Tryd.f66.results.toList := by kernel_rfl
theorem x66_k : okFn Tryd.f66 = true := by kernel_rfl
theorem x66_D : 3 = dep Tryd.f66.ntmps := by kernel_rfl
theorem x66_s : ([s3_0, s3_1] : List (Slot tf3)).map Slot.p = (List.range' 0 2).map (pth 3) := by kernel_rfl
noncomputable def X66 : XFn Tryd.prog 2 (comp Tryd.prog) := ⟨X3, tf3, 66, Tryd.f66, c66, 3, 105, [s3_0, s3_1], z3, x66, y66, x66_D, Tryd.ntmps66.symm, Tryd.func66, x66_b, x66_k, x66_s, by decide, z3_ok, x66_c, x66_r⟩
noncomputable def x67_0 : List (Ins tf2) := [(iAs (rk (.slice none 0 0)) s2_3)]
noncomputable def x67_1 : List (Ins tf2) := [(iMv r2_0 s2_6), (iGa (a2 (gMks 1 8 [(.int .i64 (.ofNat 0))])) [r2_6, r2_6] (some s2_7)), (iAs r2_7 s2_4)]
noncomputable def x67_2 : List (Ins tf2) := [(iMv r2_4 s2_8), (iP1 bLen r2_8 s2_9), (iMv (rk (.int .i64 (.ofNat 0))) s2_10)]
noncomputable def x67_3 : List (Ins tf2) := [(iP2 bLt r2_10 r2_9 s2_11)]
noncomputable def x67_4 : List (Ins tf2) := [(iMv r2_10 s2_12), (iAs r2_12 s2_5)]
noncomputable def x67_5 : List (Ins tf2) := [(iMv r2_4 s2_13), (iMv r2_5 s2_14), (iR1 bLd r2_1 s2_15), (iP2 (bIxs 1) r2_13 r2_14 s2_16), (iM2 bSt r2_16 r2_15)]
noncomputable def x67_6 : List (Ins tf2) := [(iP2 bAdd r2_10 (rk (.int .i64 (.ofNat 1))) s2_17), (iMv r2_17 s2_10)]
noncomputable def x67_7 : List (Ins tf2) := [(iMv r2_4 s2_18), (iAs r2_18 s2_3)]
noncomputable def x67 : XC tf2 := (.rg x67_0 (.rg x67_1 (.seq (.rg x67_2 (.block 0 (.loop (.rg x67_3 (.seq (.cond r2_11 .skip (.exit 0)) (.seq (.block 1 (.rg x67_4 (.reg x67_5))) (.reg x67_6))))))) (.rg x67_7 .ret))))
noncomputable def c67 : Code := Tryd.f67.body.getD .skip
theorem x67_b : Tryd.f67.body = some c67 := by kernel_rfl
theorem x67_c : cG (comp Tryd.prog) 2 2 19 x67 c67 = x67.den := by kernel_rfl
noncomputable def y67 : List (RR Tryd.prog 2 19 tf2) := [rrT r2_3 3 rfl rfl]
theorem x67_r : y67.map RR.den = Tryd.f67.results.toList := by kernel_rfl
theorem x67_k : okFn Tryd.f67 = true := by kernel_rfl
theorem x67_D : 2 = dep Tryd.f67.ntmps := by kernel_rfl
theorem x67_s : ([s2_0, s2_1] : List (Slot tf2)).map Slot.p = (List.range' 0 2).map (pth 2) := by kernel_rfl
noncomputable def X67 : XFn Tryd.prog 2 (comp Tryd.prog) := ⟨X2, tf2, 67, Tryd.f67, c67, 2, 19, [s2_0, s2_1], z2, x67, y67, x67_D, Tryd.ntmps67.symm, Tryd.func67, x67_b, x67_k, x67_s, by decide, z2_ok, x67_c, x67_r⟩
noncomputable def x68_0 : List (Ins tf2) := [(iAs (rk (.int .u64 (.ofNat 0))) s2_4), (iAs (rk (.int .i64 (.ofNat 0))) s2_5)]
noncomputable def x68_1 : List (Ins tf2) := [(iMv r2_0 s2_7), (iCall (rk (.func (.func 64) #[] #[])) [r2_7] (some s2_8)), (iAs r2_8 s2_6)]
noncomputable def x68_2 : List (Ins tf2) := [(iMv r2_6 s2_9), (iP2 bNe r2_9 (rk (.int .i64 (.ofNat 0))) s2_10)]
noncomputable def x68_3 : List (Ins tf2) := [(iMv r2_6 s2_11), (iAs (rk (.int .u64 (.ofNat 0))) s2_4), (iAs r2_11 s2_5)]
noncomputable def x68_4 : List (Ins tf2) := [(iMv r2_1 s2_12), (iMv r2_0 s2_13), (iCall (rk (.func (.func 82) #[] #[])) [r2_13] (some s2_14)), (iGp (l2 (pBin .and)) [r2_12, r2_14] (some s2_15)), (iAs r2_15 s2_4), (iAs (rk (.int .i64 (.ofNat 0))) s2_5)]
noncomputable def x68 : XC tf2 := (.rg x68_0 (.seq (.rg x68_1 (.rg x68_2 (.cond r2_10 (.rg x68_3 .ret) .skip))) (.rg x68_4 .ret)))
noncomputable def c68 : Code := Tryd.f68.body.getD .skip
theorem x68_b : Tryd.f68.body = some c68 := by kernel_rfl
theorem x68_c : cG (comp Tryd.prog) 2 2 16 x68 c68 = x68.den := by kernel_rfl
noncomputable def y68 : List (RR Tryd.prog 2 16 tf2) := [rrT r2_4 4 rfl rfl, rrT r2_5 5 rfl rfl]
theorem x68_r : y68.map RR.den = Tryd.f68.results.toList := by kernel_rfl
theorem x68_k : okFn Tryd.f68 = true := by kernel_rfl
theorem x68_D : 2 = dep Tryd.f68.ntmps := by kernel_rfl
theorem x68_s : ([s2_0, s2_1] : List (Slot tf2)).map Slot.p = (List.range' 0 2).map (pth 2) := by kernel_rfl
noncomputable def X68 : XFn Tryd.prog 2 (comp Tryd.prog) := ⟨X2, tf2, 68, Tryd.f68, c68, 2, 16, [s2_0, s2_1], z2, x68, y68, x68_D, Tryd.ntmps68.symm, Tryd.func68, x68_b, x68_k, x68_s, by decide, z2_ok, x68_c, x68_r⟩
noncomputable def x69_0 : List (Ins tf2) := [(iGa (a1 gBox) [r2_1] (some s2_3)), (iAs (rk (.int .i64 (.ofNat 0))) s2_4), (iAs (rk (.int .i64 (.ofNat 0))) s2_5)]
noncomputable def x69_1 : List (Ins tf2) := [(iP1 (bFa 0) r2_3 s2_10), (iR1 bLd r2_10 s2_11), (iP1 (bFa 1) r2_3 s2_12), (iR1 bLd r2_12 s2_13), (iGp (pBld [(.int .u8 (.ofNat 0)), (.int .u64 (.ofNat 0)), (.int .i64 (.ofNat 0)), (.int .i64 (.ofNat 0)), (.int .i64 (.ofNat 0))] [(0, 1), (1, 1)]) [r2_11, r2_13] (some s2_14)), (iGa (aAl 5 [(.int .u8 (.ofNat 0)), (.int .u64 (.ofNat 0)), (.int .i64 (.ofNat 0)), (.int .i64 (.ofNat 0)), (.int .i64 (.ofNat 0))]) [] (some s2_6)), (iGm (m2 (sStn 5)) [r2_6, r2_14] none)]
noncomputable def x69_2 : List (Ins tf2) := [(iP1 (bFa 2) r2_6 s2_15), (iGp (pSlB (pSlA 3 1) false false false) [r2_15] (some s2_16)), (iP1 (bFa 2) r2_3 s2_17), (iR1 bLd r2_17 s2_18), (iGm (m2 (sCopy 1)) [r2_16, r2_18] (some s2_19))]
noncomputable def x69_3 : List (Ins tf2) := [(iMv r2_0 s2_21), (iP1 bNil r2_21 s2_22), (iP1 (bFa 3) r2_22 s2_23), (iR1 bLd r2_23 s2_24), (iGr (r1 (rLdn 5)) [r2_6] (some s2_25)), (iGr (r2 (rLook [0, 0, 0, 0, 0] true (.int .i64 (.ofNat 0)) true)) [r2_24, r2_25] (some s2_26)), (iMv r2_26 s2_20), (iGp (l1 (pExt 0)) [r2_20] (some s2_27)), (iGp (l1 (pExt 1)) [r2_20] (some s2_28)), (iAs r2_27 s2_7), (iAs r2_28 s2_8)]
noncomputable def x69_4 : List (Ins tf2) := [(iMv r2_8 s2_29)]
noncomputable def x69_5 : List (Ins tf2) := [(iMv r2_7 s2_30), (iAs r2_30 s2_4), (iAs (rk (.int .i64 (.ofNat 0))) s2_5)]
noncomputable def x69_6 : List (Ins tf2) := [(iMv r2_0 s2_31), (iP1 bNil r2_31 s2_32), (iP1 (bFa 2) r2_32 s2_33), (iR1 bLd r2_33 s2_34), (iP1 bLen r2_34 s2_35), (iMv r2_0 s2_36), (iP1 bNil r2_36 s2_37), (iP1 (bFa 1) r2_37 s2_38), (iR1 bLd r2_38 s2_39), (iP2 bGe r2_35 r2_39 s2_40)]
noncomputable def x69_7 : List (Ins tf2) := [(iAs (rk (.int .i64 (.ofNat 0))) s2_4), (iAs (rk (.int .i64 (.ofNat 10))) s2_5)]
noncomputable def x69_8 : List (Ins tf2) := [(iMv r2_0 s2_41), (iP1 bNil r2_41 s2_42), (iP1 (bFa 2) r2_42 s2_43), (iR1 bLd r2_43 s2_44), (iP1 bLen r2_44 s2_45), (iAs r2_45 s2_9)]
noncomputable def x69_9 : List (Ins tf2) := [(iMv r2_0 s2_46), (iMv r2_0 s2_47), (iP1 bNil r2_47 s2_48), (iP1 (bFa 2) r2_48 s2_49), (iR1 bLd r2_49 s2_50), (iGr (r1 (rLdn 3)) [r2_3] (some s2_51)), (iGa (aBsl 1 3 [(.int .u8 (.ofNat 0)), (.int .u64 (.ofNat 0)), (.slice none 0 0)] [(0, 3)]) [r2_51] (some s2_52)), (iGm (m2 (sApp 3)) [r2_50, r2_52] (some s2_53)), (iP1 bNil r2_46 s2_54), (iP1 (bFa 2) r2_54 s2_55), (iM2 bSt r2_55 r2_53)]
noncomputable def x69_10 : List (Ins tf2) := [(iMv r2_0 s2_56), (iP1 bNil r2_56 s2_57), (iP1 (bFa 3) r2_57 s2_58), (iR1 bLd r2_58 s2_59), (iGr (r1 (rLdn 5)) [r2_6] (some s2_60)), (iMv r2_9 s2_61), (iGm (m3 (sUpd [0, 0, 0, 0, 0] true)) [r2_59, r2_60, r2_61] none)]
noncomputable def x69_11 : List (Ins tf2) := [(iMv r2_9 s2_62), (iAs r2_62 s2_4), (iAs (rk (.int .i64 (.ofNat 0))) s2_5)]
noncomputable def x69 : XC tf2 := (.rg x69_0 (.rg x69_1 (.rg x69_2 (.seq (.rg x69_3 (.rg x69_4 (.cond r2_29 (.rg x69_5 .ret) .skip))) (.seq (.rg x69_6 (.cond r2_40 (.rg x69_7 .ret) .skip)) (.rg x69_8 (.rg x69_9 (.rg x69_10 (.rg x69_11 .ret)))))))))
noncomputable def c69 : Code := Tryd.f69.body.getD .skip
theorem x69_b : Tryd.f69.body = some c69 := by kernel_rfl
theorem x69_c : cG (comp Tryd.prog) 2 2 63 x69 c69 = x69.den := by kernel_rfl
noncomputable def y69 : List (RR Tryd.prog 2 63 tf2) := [rrT r2_4 4 rfl rfl, rrT r2_5 5 rfl rfl]
theorem x69_r : y69.map RR.den = Tryd.f69.results.toList := by kernel_rfl
theorem x69_k : okFn Tryd.f69 = true := by kernel_rfl
theorem x69_D : 2 = dep Tryd.f69.ntmps := by kernel_rfl
theorem x69_s : ([s2_0, s2_1] : List (Slot tf2)).map Slot.p = (List.range' 0 2).map (pth 2) := by kernel_rfl
noncomputable def X69 : XFn Tryd.prog 2 (comp Tryd.prog) := ⟨X2, tf2, 69, Tryd.f69, c69, 2, 63, [s2_0, s2_1], z2, x69, y69, x69_D, Tryd.ntmps69.symm, Tryd.func69, x69_b, x69_k, x69_s, by decide, z2_ok, x69_c, x69_r⟩
noncomputable def x72_0 : List (Ins tf2) := [(iAs (rk (.int .i64 (.ofNat 0))) s2_2), (iAs (rk (.int .i64 (.ofNat 0))) s2_3)]
noncomputable def x72_1 : List (Ins tf2) := [(iMv r2_0 s2_4), (iP2 bGt r2_4 (rk (.int .u8 (.ofNat 21))) s2_5)]
noncomputable def x72_2 : List (Ins tf2) := [(iAs (rk (.int .i64 (.ofNat 0))) s2_2), (iAs (rk (.int .i64 (.ofNat 3))) s2_3)]
noncomputable def x72_3 : List (Ins tf2) := [(iCall (rk (.func (.func 84) #[] #[])) [] (some s2_6)), (iMv r2_0 s2_7), (iGp (l2 (pIx 22 none 1)) [r2_6, r2_7] (some s2_8)), (iP1 (bCv .i64) r2_8 s2_9), (iAs r2_9 s2_2), (iAs (rk (.int .i64 (.ofNat 0))) s2_3)]
noncomputable def x72 : XC tf2 := (.rg x72_0 (.seq (.rg x72_1 (.cond r2_5 (.rg x72_2 .ret) .skip)) (.rg x72_3 .ret)))
noncomputable def c72 : Code := Tryd.f72.body.getD .skip
theorem x72_b : Tryd.f72.body = some c72 := by kernel_rfl
theorem x72_c : cG (comp Tryd.prog) 2 2 10 x72 c72 = x72.den := by kernel_rfl
noncomputable def y72 : List (RR Tryd.prog 2 10 tf2) := [rrT r2_2 2 rfl rfl, rrT r2_3 3 rfl rfl]
theorem x72_r : y72.map RR.den = Tryd.f72.results.toList := by kernel_rfl
theorem x72_k : okFn Tryd.f72 = true := by kernel_rfl
theorem x72_D : 2 = dep Tryd.f72.ntmps := by kernel_rfl
theorem x72_s : ([s2_0] : List (Slot tf2)).map Slot.p = (List.range' 0 1).map (pth 2) := by kernel_rfl
noncomputable def X72 : XFn Tryd.prog 2 (comp Tryd.prog) := ⟨X2, tf2, 72, Tryd.f72, c72, 2, 10, [s2_0], z2, x72, y72, x72_D, Tryd.ntmps72.symm, Tryd.func72, x72_b, x72_k, x72_s, by decide, z2_ok, x72_c, x72_r⟩
noncomputable def x74_0 : List (Ins tf2) := [(iAs (rk (.int .i64 (.ofNat 0))) s2_2)]
noncomputable def x74_1 : List (Ins tf2) := [(iMv r2_0 s2_3), (iGp (l2 (pEqD (tdOf 34) false)) [r2_3, (rk (.pointer none))] (some s2_4))]
noncomputable def x74_2 : List (Ins tf2) := [(iAs (rk (.int .i64 (.ofNat 0))) s2_2)]
noncomputable def x74_3 : List (Ins tf2) := [(iMv r2_0 s2_5), (iP1 bNil r2_5 s2_6), (iP1 (bFa 2) r2_6 s2_7), (iR1 bLd r2_7 s2_8), (iP1 bLen r2_8 s2_9), (iAs r2_9 s2_2)]
noncomputable def x74 : XC tf2 := (.rg x74_0 (.seq (.rg x74_1 (.cond r2_4 (.rg x74_2 .ret) .skip)) (.rg x74_3 .ret)))
noncomputable def c74 : Code := Tryd.f74.body.getD .skip
theorem x74_b : Tryd.f74.body = some c74 := by kernel_rfl
theorem x74_c : cG (comp Tryd.prog) 2 2 10 x74 c74 = x74.den := by kernel_rfl
noncomputable def y74 : List (RR Tryd.prog 2 10 tf2) := [rrT r2_2 2 rfl rfl]
theorem x74_r : y74.map RR.den = Tryd.f74.results.toList := by kernel_rfl
theorem x74_k : okFn Tryd.f74 = true := by kernel_rfl
theorem x74_D : 2 = dep Tryd.f74.ntmps := by kernel_rfl
theorem x74_s : ([s2_0] : List (Slot tf2)).map Slot.p = (List.range' 0 1).map (pth 2) := by kernel_rfl
noncomputable def X74 : XFn Tryd.prog 2 (comp Tryd.prog) := ⟨X2, tf2, 74, Tryd.f74, c74, 2, 10, [s2_0], z2, x74, y74, x74_D, Tryd.ntmps74.symm, Tryd.func74, x74_b, x74_k, x74_s, by decide, z2_ok, x74_c, x74_r⟩
noncomputable def x75_0 : List (Ins tf2) := [(iGa (aAl 3 [(.int .u8 (.ofNat 0)), (.int .u64 (.ofNat 0)), (.slice none 0 0)]) [] (some s2_4)), (iAs (rk (.int .i64 (.ofNat 0))) s2_5)]
noncomputable def x75_1 : List (Ins tf2) := [(iMv r2_0 s2_7), (iGp (l2 (pEqD (tdOf 34) false)) [r2_7, (rk (.pointer none))] (some s2_8))]
noncomputable def x75_2 : List (Ins tf2) := [(iGp (pBld [(.int .u8 (.ofNat 0)), (.int .u64 (.ofNat 0)), (.slice none 0 0)] []) [] (some s2_9)), (iGm (m2 (sStn 3)) [r2_4, r2_9] none), (iAs (rk (.int .i64 (.ofNat 1))) s2_5)]
noncomputable def x75_3 : List (Ins tf2) := [(iMv r2_1 s2_10), (iP2 bLt r2_10 (rk (.int .i64 (.ofNat 0))) s2_11), (iMv r2_11 s2_12), (iGd r2_12 [.o4, .o1] false (iMv r2_1 s2_13) (some s2_13) rfl rfl rfl), (iGd r2_12 [.o4, .o1] false (iMv r2_0 s2_14) (some s2_14) rfl rfl rfl), (iGd r2_12 [.o4, .o1] false (iP1 bNil r2_14 s2_15) (some s2_15) rfl rfl rfl), (iGd r2_12 [.o4, .o1] false (iP1 (bFa 2) r2_15 s2_16) (some s2_16) rfl rfl rfl), (iGd r2_12 [.o4, .o1] false (iR1 bLd r2_16 s2_17) (some s2_17) rfl rfl rfl), (iGd r2_12 [.o4, .o1] false (iP1 bLen r2_17 s2_18) (some s2_18) rfl rfl rfl), (iGd r2_12 [.o4, .o1] false (iP2 bGe r2_13 r2_18 s2_19) (some s2_19) rfl rfl rfl), (iGp (l3 pPick) [r2_12, (rk (.bool true)), r2_19] (some s2_20))]
noncomputable def x75_4 : List (Ins tf2) := [(iGp (pBld [(.int .u8 (.ofNat 0)), (.int .u64 (.ofNat 0)), (.slice none 0 0)] []) [] (some s2_21)), (iGm (m2 (sStn 3)) [r2_4, r2_21] none), (iAs (rk (.int .i64 (.ofNat 3))) s2_5)]
noncomputable def x75_5 : List (Ins tf2) := [(iMv r2_0 s2_22), (iP1 bNil r2_22 s2_23), (iP1 (bFa 2) r2_23 s2_24), (iR1 bLd r2_24 s2_25), (iMv r2_1 s2_26), (iP2 (bIxs 3) r2_25 r2_26 s2_27), (iGr (r1 (rLdn 3)) [r2_27] (some s2_28)), (iGa (aAl 3 [(.int .u8 (.ofNat 0)), (.int .u64 (.ofNat 0)), (.slice none 0 0)]) [] (some s2_6)), (iGm (m2 (sStn 3)) [r2_6, r2_28] none)]
noncomputable def x75_6 : List (Ins tf2) := [(iP1 (bFa 2) r2_6 s2_29), (iR1 bLd r2_29 s2_30), (iGm (m2 (sApp 1)) [(rk (.slice none 0 0)), r2_30] (some s2_31)), (iP1 (bFa 2) r2_6 s2_32), (iM2 bSt r2_32 r2_31)]
noncomputable def x75_7 : List (Ins tf2) := [(iGr (r1 (rLdn 3)) [r2_6] (some s2_33)), (iGm (m2 (sStn 3)) [r2_4, r2_33] none), (iAs (rk (.int .i64 (.ofNat 0))) s2_5)]
noncomputable def x75 : XC tf2 := (.rg x75_0 (.seq (.rg x75_1 (.cond r2_8 (.rg x75_2 .ret) .skip)) (.seq (.rg x75_3 (.cond r2_20 (.rg x75_4 .ret) .skip)) (.rg x75_5 (.rg x75_6 (.rg x75_7 .ret))))))
noncomputable def c75 : Code := Tryd.f75.body.getD .skip
theorem x75_b : Tryd.f75.body = some c75 := by kernel_rfl
theorem x75_c : cG (comp Tryd.prog) 2 2 34 x75 c75 = x75.den := by kernel_rfl
noncomputable def y75 : List (RR Tryd.prog 2 34 tf2) := [rrS (.cell 4 147), rrT r2_5 5 rfl rfl]
theorem x75_r : y75.map RR.den = Tryd.f75.results.toList := by kernel_rfl
theorem x75_k : okFn Tryd.f75 = true := by kernel_rfl
theorem x75_D : 2 = dep Tryd.f75.ntmps := by kernel_rfl
theorem x75_s : ([s2_0, s2_1] : List (Slot tf2)).map Slot.p = (List.range' 0 2).map (pth 2) := by kernel_rfl
noncomputable def X75 : XFn Tryd.prog 2 (comp Tryd.prog) := ⟨X2, tf2, 75, Tryd.f75, c75, 2, 34, [s2_0, s2_1], z2, x75, y75, x75_D, Tryd.ntmps75.symm, Tryd.func75, x75_b, x75_k, x75_s, by decide, z2_ok, x75_c, x75_r⟩
noncomputable def x76_0 : List (Ins tf3) := [(iGa (a1 gBox) [r3_0] (some s3_4)), (iAs (rk (.int .u64 (.ofNat 0))) s3_5)]
noncomputable def x76_1 : List (Ins tf3) := [(iP1 (bFa 0) r3_4 s3_13), (iR1 bLd r3_13 s3_14)]
noncomputable def x76_2 : List (Ins tf3) := [(iP2 bEq r3_14 (rk (.int .u8 (.ofNat 0))) s3_16), (iAs r3_16 s3_15)]
noncomputable def x76_3 : List (Ins tf3) := [(iP1 (bFa 1) r3_4 s3_17), (iR1 bLd r3_17 s3_18), (iAs r3_18 s3_5)]
noncomputable def x76_4 : List (Ins tf3) := [(iP2 bEq r3_14 (rk (.int .u8 (.ofNat 1))) s3_20), (iAs r3_20 s3_19)]
noncomputable def x76_5 : List (Ins tf3) := [(iP1 (bFa 1) r3_4 s3_21), (iR1 bLd r3_21 s3_22), (iR1 bLd r3_1 s3_23), (iP1 bLen r3_23 s3_24), (iP1 (bCv .u64) r3_24 s3_25), (iP2 bGe r3_22 r3_25 s3_26)]
noncomputable def x76_6 : List (Ins tf3) := [(iAs (rk (.int .u64 (.ofNat 0))) s3_5)]
noncomputable def x76_7 : List (Ins tf3) := [(iR1 bLd r3_2 s3_28), (iR1 bLd r3_1 s3_29), (iP1 (bFa 1) r3_4 s3_30), (iR1 bLd r3_30 s3_31), (iP2 (bIxs 1) r3_29 r3_31 s3_32), (iR1 bLd r3_32 s3_33), (iCall (rk (.func (.func 68) #[] #[])) [r3_28, r3_33] (some s3_34)), (iMv r3_34 s3_27), (iGp (l1 (pExt 0)) [r3_27] (some s3_35)), (iGp (l1 (pExt 1)) [r3_27] (some s3_36)), (iAs r3_35 s3_6), (iAs r3_36 s3_7)]
noncomputable def x76_8 : List (Ins tf3) := [(iMv r3_6 s3_37), (iAs r3_37 s3_5)]
noncomputable def x76_9 : List (Ins tf3) := [(iP1 (bFa 2) r3_4 s3_38), (iR1 bLd r3_38 s3_39), (iP1 bLen r3_39 s3_40), (iGa (a2 (gMks 1 8 [(.int .u64 (.ofNat 0))])) [r3_40, r3_40] (some s3_41)), (iAs r3_41 s3_8)]
noncomputable def x76_10 : List (Ins tf3) := [(iP1 (bFa 2) r3_4 s3_42), (iR1 bLd r3_42 s3_43), (iP1 bLen r3_43 s3_44), (iMv (rk (.int .i64 (.ofNat 0))) s3_45)]
noncomputable def x76_11 : List (Ins tf3) := [(iP2 bLt r3_45 r3_44 s3_46)]
noncomputable def x76_12 : List (Ins tf3) := [(iMv r3_45 s3_47), (iP2 (bIxs 1) r3_43 r3_45 s3_48), (iR1 bLd r3_48 s3_49), (iAs r3_47 s3_9), (iAs r3_49 s3_10)]
noncomputable def x76_13 : List (Ins tf3) := [(iMv r3_8 s3_50), (iMv r3_9 s3_51), (iR1 bLd r3_3 s3_52), (iMv r3_10 s3_53), (iP2 (bIxs 1) r3_52 r3_53 s3_54), (iR1 bLd r3_54 s3_55), (iP2 (bIxs 1) r3_50 r3_51 s3_56), (iM2 bSt r3_56 r3_55)]
noncomputable def x76_14 : List (Ins tf3) := [(iP2 bAdd r3_45 (rk (.int .i64 (.ofNat 1))) s3_57), (iMv r3_57 s3_45)]
noncomputable def x76_15 : List (Ins tf3) := [(iP1 (bFa 0) r3_4 s3_59), (iR1 bLd r3_59 s3_60), (iR1 bLd r3_2 s3_61), (iMv r3_8 s3_62), (iCall (rk (.func (.func 77) #[] #[])) [r3_60, r3_61, r3_62] (some s3_63)), (iMv r3_63 s3_58), (iGp (l1 (pExt 0)) [r3_58] (some s3_64)), (iGp (l1 (pExt 1)) [r3_58] (some s3_65)), (iAs r3_64 s3_11), (iAs r3_65 s3_12)]
noncomputable def x76_16 : List (Ins tf3) := [(iMv r3_11 s3_66), (iAs r3_66 s3_5)]
noncomputable def x76 : XC tf3 := (.rg x76_0 (.seq (.rg x76_1 (.block 0 (.rg x76_2 (.cond r3_15 (.rg x76_3 .ret) (.rg x76_4 (.cond r3_19 (.seq (.rg x76_5 (.cond r3_26 (.rg x76_6 .ret) .skip)) (.rg x76_7 (.rg x76_8 .ret))) .skip)))))) (.rg x76_9 (.seq (.rg x76_10 (.block 1 (.loop (.rg x76_11 (.seq (.cond r3_46 .skip (.exit 1)) (.seq (.block 2 (.rg x76_12 (.reg x76_13))) (.reg x76_14))))))) (.rg x76_15 (.rg x76_16 .ret))))))
noncomputable def c76 : Code := Tryd.f76.body.getD .skip
theorem x76_b : Tryd.f76.body = some c76 := by kernel_rfl
theorem x76_c : cG (comp Tryd.prog) 2 3 67 x76 c76 = x76.den := by kernel_rfl
noncomputable def y76 : List (RR Tryd.prog 3 67 tf3) := [rrT r3_5 5 rfl rfl]
theorem x76_r : y76.map RR.den = Tryd.f76.results.toList := by kernel_rfl
theorem x76_k : okFn Tryd.f76 = true := by kernel_rfl
theorem x76_D : 3 = dep Tryd.f76.ntmps := by kernel_rfl
theorem x76_s : ([s3_0, s3_1, s3_2, s3_3] : List (Slot tf3)).map Slot.p = (List.range' 0 4).map (pth 3) := by kernel_rfl
noncomputable def X76 : XFn Tryd.prog 2 (comp Tryd.prog) := ⟨X3, tf3, 76, Tryd.f76, c76, 3, 67, [s3_0, s3_1, s3_2, s3_3], z3, x76, y76, x76_D, Tryd.ntmps76.symm, Tryd.func76, x76_b, x76_k, x76_s, by decide, z3_ok, x76_c, x76_r⟩
noncomputable def x77_0 : List (Ins tf3) := [(iAs (rk (.int .u64 (.ofNat 0))) s3_6), (iAs (rk (.int .i64 (.ofNat 0))) s3_7)]
noncomputable def x77_1 : List (Ins tf3) := [(iMv r3_1 s3_16), (iCall (rk (.func (.func 64) #[] #[])) [r3_16] (some s3_17)), (iAs r3_17 s3_8)]
noncomputable def x77_2 : List (Ins tf3) := [(iMv r3_8 s3_18), (iP2 bNe r3_18 (rk (.int .i64 (.ofNat 0))) s3_19)]
noncomputable def x77_3 : List (Ins tf3) := [(iMv r3_8 s3_20), (iAs (rk (.int .u64 (.ofNat 0))) s3_6), (iAs r3_20 s3_7)]
noncomputable def x77_4 : List (Ins tf3) := [(iMv r3_0 s3_21), (iP2 bLt r3_21 (rk (.int .u8 (.ofNat 2))) s3_22), (iMv r3_22 s3_23), (iGd r3_23 [.o7, .o2, .o0] false (iMv r3_0 s3_24) (some s3_24) rfl rfl rfl), (iGd r3_23 [.o7, .o2, .o0] false (iP2 bGt r3_24 (rk (.int .u8 (.ofNat 21))) s3_25) (some s3_25) rfl rfl rfl), (iGp (l3 pPick) [r3_23, (rk (.bool true)), r3_25] (some s3_26))]
noncomputable def x77_5 : List (Ins tf3) := [(iAs (rk (.int .u64 (.ofNat 0))) s3_6), (iAs (rk (.int .i64 (.ofNat 3))) s3_7)]
noncomputable def x77_6 : List (Ins tf3) := [(iMv r3_0 s3_28), (iCall (rk (.func (.func 72) #[] #[])) [r3_28] (some s3_29)), (iMv r3_29 s3_27), (iGp (l1 (pExt 0)) [r3_27] (some s3_30)), (iGp (l1 (pExt 1)) [r3_27] (some s3_31)), (iAs r3_30 s3_9), (iAs r3_31 s3_10)]
noncomputable def x77_7 : List (Ins tf3) := [(iMv r3_10 s3_32), (iP2 bNe r3_32 (rk (.int .i64 (.ofNat 0))) s3_33)]
noncomputable def x77_8 : List (Ins tf3) := [(iMv r3_10 s3_34), (iAs (rk (.int .u64 (.ofNat 0))) s3_6), (iAs r3_34 s3_7)]
noncomputable def x77_9 : List (Ins tf3) := [(iMv r3_9 s3_35), (iMv r3_2 s3_36), (iP1 bLen r3_36 s3_37), (iP2 bNe r3_35 r3_37 s3_38)]
noncomputable def x77_10 : List (Ins tf3) := [(iAs (rk (.int .u64 (.ofNat 0))) s3_6), (iAs (rk (.int .i64 (.ofNat 2))) s3_7)]
noncomputable def x77_11 : List (Ins tf3) := [(iMv r3_1 s3_39), (iAs r3_39 s3_11)]
noncomputable def x77_12 : List (Ins tf3) := [(iGa (aAl 3 [(.int .u64 (.ofNat 0)), (.int .u64 (.ofNat 0)), (.int .u64 (.ofNat 0))]) [] (some s3_12))]
noncomputable def x77_13 : List (Ins tf3) := [(iMv r3_2 s3_40), (iP1 bLen r3_40 s3_41), (iMv (rk (.int .i64 (.ofNat 0))) s3_42)]
noncomputable def x77_14 : List (Ins tf3) := [(iP2 bLt r3_42 r3_41 s3_43)]
noncomputable def x77_15 : List (Ins tf3) := [(iMv r3_42 s3_44), (iP2 (bIxs 1) r3_40 r3_42 s3_45), (iR1 bLd r3_45 s3_46), (iAs r3_44 s3_13), (iAs r3_46 s3_14)]
noncomputable def x77_16 : List (Ins tf3) := [(iMv r3_13 s3_47), (iMv r3_14 s3_48), (iMv r3_11 s3_49), (iCall (rk (.func (.func 82) #[] #[])) [r3_49] (some s3_50)), (iGp (l2 (pBin .and)) [r3_48, r3_50] (some s3_51)), (iP2 (bIxa 3 1) r3_12 r3_47 s3_52), (iM2 bSt r3_52 r3_51)]
noncomputable def x77_17 : List (Ins tf3) := [(iP2 bAdd r3_42 (rk (.int .i64 (.ofNat 1))) s3_53), (iMv r3_53 s3_42)]
noncomputable def x77_18 : List (Ins tf3) := [(iAs (rk (.int .u64 (.ofNat 0))) s3_15)]
noncomputable def x77_19 : List (Ins tf3) := [(iMv r3_0 s3_54)]
noncomputable def x77_20 : List (Ins tf3) := [(iP2 bEq r3_54 (rk (.int .u8 (.ofNat 2))) s3_66), (iAs r3_66 s3_65)]
noncomputable def x77_21 : List (Ins tf3) := [(iP2 (bIxa 3 1) r3_12 (rk (.int .i64 (.ofNat 0))) s3_67), (iR1 bLd r3_67 s3_68), (iGp (l1 (pUn .xor)) [r3_68] (some s3_69)), (iAs r3_69 s3_15)]
noncomputable def x77_22 : List (Ins tf3) := [(iP2 bEq r3_54 (rk (.int .u8 (.ofNat 3))) s3_71), (iAs r3_71 s3_70)]
noncomputable def x77_23 : List (Ins tf3) := [(iP2 (bIxa 3 1) r3_12 (rk (.int .i64 (.ofNat 0))) s3_72), (iR1 bLd r3_72 s3_73), (iGp (l1 (pUn .neg)) [r3_73] (some s3_74)), (iAs r3_74 s3_15)]
noncomputable def x77_24 : List (Ins tf3) := [(iP2 bEq r3_54 (rk (.int .u8 (.ofNat 21))) s3_76), (iAs r3_76 s3_75)]
noncomputable def x77_25 : List (Ins tf3) := [(iP2 (bIxa 3 1) r3_12 (rk (.int .i64 (.ofNat 2))) s3_77), (iR1 bLd r3_77 s3_78), (iAs r3_78 s3_15)]
noncomputable def x77_26 : List (Ins tf3) := [(iP2 (bIxa 3 1) r3_12 (rk (.int .i64 (.ofNat 0))) s3_79), (iR1 bLd r3_79 s3_80), (iP2 bNe r3_80 (rk (.int .u64 (.ofNat 0))) s3_81)]
noncomputable def x77_27 : List (Ins tf3) := [(iP2 (bIxa 3 1) r3_12 (rk (.int .i64 (.ofNat 1))) s3_82), (iR1 bLd r3_82 s3_83), (iAs r3_83 s3_15)]
noncomputable def x77_28 : List (Ins tf3) := [(iMv r3_0 s3_56), (iMv r3_11 s3_59), (iP2 (bIxa 3 1) r3_12 (rk (.int .i64 (.ofNat 0))) s3_60), (iR1 bLd r3_60 s3_61), (iP2 (bIxa 3 1) r3_12 (rk (.int .i64 (.ofNat 1))) s3_62), (iR1 bLd r3_62 s3_63), (iRc (iCall (rk (.func (.func 87) #[] #[])) [] (some s3_55)) [(rcLd r3_62 r3_63 [.o7, .o7, .o0] rfl), (rcLd r3_60 r3_61 [.o5, .o7, .o0] rfl)] rfl), (iGp (l2 (pIx 22 (some 1) 1)) [r3_55, r3_56] (some s3_57)), (iGp (l1 (pFld none 0)) [r3_57] (some s3_58)), (iCall r3_58 [r3_59, r3_61, r3_63] (some s3_64)), (iAs r3_64 s3_15)]
noncomputable def x77_29 : List (Ins tf3) := [(iMv r3_15 s3_84), (iMv r3_11 s3_85), (iCall (rk (.func (.func 82) #[] #[])) [r3_85] (some s3_86)), (iGp (l2 (pBin .and)) [r3_84, r3_86] (some s3_87)), (iAs r3_87 s3_6), (iAs (rk (.int .i64 (.ofNat 0))) s3_7)]
noncomputable def x77_30 : XC tf3 := (.rg x77_12 (.seq (.rg x77_13 (.block 0 (.loop (.rg x77_14 (.seq (.cond r3_43 .skip (.exit 0)) (.seq (.block 1 (.rg x77_15 (.reg x77_16))) (.reg x77_17))))))) (.rg x77_18 (.seq (.rg x77_19 (.block 2 (.rg x77_20 (.cond r3_65 (.reg x77_21) (.rg x77_22 (.cond r3_70 (.reg x77_23) (.rg x77_24 (.cond r3_75 (.rg x77_25 (.rg x77_26 (.cond r3_81 (.reg x77_27) .skip))) (.reg x77_28))))))))) (.rg x77_29 .ret)))))
noncomputable def x77 : XC tf3 := (.rg x77_0 (.seq (.rg x77_1 (.rg x77_2 (.cond r3_19 (.rg x77_3 .ret) .skip))) (.seq (.rg x77_4 (.cond r3_26 (.rg x77_5 .ret) .skip)) (.rg x77_6 (.seq (.rg x77_7 (.cond r3_33 (.rg x77_8 .ret) .skip)) (.seq (.rg x77_9 (.cond r3_38 (.rg x77_10 .ret) .skip)) (.rg x77_11 x77_30)))))))
noncomputable def c77 : Code := Tryd.f77.body.getD .skip
theorem x77_b : Tryd.f77.body = some c77 := by kernel_rfl
theorem x77_c : cG (comp Tryd.prog) 2 3 88 x77 c77 = x77.den := by kernel_rfl
noncomputable def y77 : List (RR Tryd.prog 3 88 tf3) := [rrT r3_6 6 rfl rfl, rrT r3_7 7 rfl rfl]
theorem x77_r : y77.map RR.den = Tryd.f77.results.toList := by kernel_rfl
theorem x77_k : okFn Tryd.f77 = true := by kernel_rfl
theorem x77_D : 3 = dep Tryd.f77.ntmps := by kernel_rfl
theorem x77_s : ([s3_0, s3_1, s3_2] : List (Slot tf3)).map Slot.p = (List.range' 0 3).map (pth 3) := by kernel_rfl
noncomputable def X77 : XFn Tryd.prog 2 (comp Tryd.prog) := ⟨X3, tf3, 77, Tryd.f77, c77, 3, 88, [s3_0, s3_1, s3_2], z3, x77, y77, x77_D, Tryd.ntmps77.symm, Tryd.func77, x77_b, x77_k, x77_s, by decide, z3_ok, x77_c, x77_r⟩
end Cr
end Go.Proofs.YtjhbabgcoemecaaDoor
namespace Go.Proofs.YtjhbabgcoemecaaDoor
namespace Cr
open Go Go.RowKit
set_option maxRecDepth 100000
noncomputable def x79_0 : List (Ins tf2) := [(iAs (rk (.bool false)) s2_2)]
noncomputable def x79_1 : List (Ins tf2) := [(iMv r2_0 s2_5), (iGp (l2 (pBin .eql)) [r2_5, (rk (.string ⟨⟨[]⟩⟩))] (some s2_6)), (iMv r2_6 s2_7), (iGd r2_7 [.o7, .o0] false (iMv r2_0 s2_8) (some s2_8) rfl rfl rfl), (iGd r2_7 [.o7, .o0] false (iGp (l1 pLenS) [r2_8] (some s2_9)) (some s2_9) rfl rfl rfl), (iGd r2_7 [.o7, .o0] false (iP2 bGt r2_9 (rk (.int .i64 (.ofNat 32))) s2_10) (some s2_10) rfl rfl rfl), (iGp (l3 pPick) [r2_7, (rk (.bool true)), r2_10] (some s2_11)), (iMv r2_11 s2_12), (iGd r2_12 [.o4, .o1] false (iMv r2_0 s2_13) (some s2_13) rfl rfl rfl), (iGd r2_12 [.o4, .o1] false (iGp (l2 pIxStr) [r2_13, (rk (.int .i64 (.ofNat 0)))] (some s2_14)) (some s2_14) rfl rfl rfl), (iGd r2_12 [.o4, .o1] false (iP2 bGe r2_14 (rk (.int .u8 (.ofNat 48))) s2_15) (some s2_15) rfl rfl rfl), (iGd r2_12 [.o4, .o1] false (iMv r2_15 s2_16) (some s2_16) rfl rfl rfl), (iGd r2_16 [.o0, .o2] true (iMv r2_0 s2_17) (some s2_17) rfl rfl rfl), (iGd r2_16 [.o0, .o2] true (iGp (l2 pIxStr) [r2_17, (rk (.int .i64 (.ofNat 0)))] (some s2_18)) (some s2_18) rfl rfl rfl), (iGd r2_16 [.o0, .o2] true (iP2 bLe r2_18 (rk (.int .u8 (.ofNat 57))) s2_19) (some s2_19) rfl rfl rfl), (iGd r2_12 [.o4, .o1] false (iGp (l3 pPick) [r2_16, r2_19, (rk (.bool false))] (some s2_20)) (some s2_20) rfl rfl rfl), (iGp (l3 pPick) [r2_12, (rk (.bool true)), r2_20] (some s2_21))]
noncomputable def x79_2 : List (Ins tf2) := [(iAs (rk (.bool false)) s2_2)]
noncomputable def x79_3 : List (Ins tf2) := [(iMv r2_0 s2_22), (iGa (a1 gS2b) [r2_22] (some s2_23)), (iP1 bLen r2_23 s2_24), (iMv (rk (.int .i64 (.ofNat 0))) s2_25)]
noncomputable def x79_4 : List (Ins tf2) := [(iP2 bLt r2_25 r2_24 s2_26)]
noncomputable def x79_5 : List (Ins tf2) := [(iP2 (bIxs 1) r2_23 r2_25 s2_27), (iR1 bLd r2_27 s2_28), (iAs r2_28 s2_4)]
noncomputable def x79_6 : List (Ins tf2) := [(iMv r2_4 s2_29), (iP2 bNe r2_29 (rk (.int .u8 (.ofNat 95))) s2_30), (iMv r2_30 s2_31), (iGd r2_31 [.o7, .o3] true (iMv r2_4 s2_32) (some s2_32) rfl rfl rfl), (iGd r2_31 [.o7, .o3] true (iP2 bLt r2_32 (rk (.int .u8 (.ofNat 48))) s2_33) (some s2_33) rfl rfl rfl), (iGd r2_31 [.o7, .o3] true (iMv r2_33 s2_34) (some s2_34) rfl rfl rfl), (iGd r2_34 [.o2, .o4] false (iMv r2_4 s2_35) (some s2_35) rfl rfl rfl), (iGd r2_34 [.o2, .o4] false (iP2 bGt r2_35 (rk (.int .u8 (.ofNat 57))) s2_36) (some s2_36) rfl rfl rfl), (iGd r2_31 [.o7, .o3] true (iGp (l3 pPick) [r2_34, (rk (.bool true)), r2_36] (some s2_37)) (some s2_37) rfl rfl rfl), (iGp (l3 pPick) [r2_31, r2_37, (rk (.bool false))] (some s2_38)), (iMv r2_38 s2_39), (iGd r2_39 [.o7, .o4] true (iMv r2_4 s2_40) (some s2_40) rfl rfl rfl), (iGd r2_39 [.o7, .o4] true (iP2 bLt r2_40 (rk (.int .u8 (.ofNat 97))) s2_41) (some s2_41) rfl rfl rfl), (iGd r2_39 [.o7, .o4] true (iMv r2_41 s2_42) (some s2_42) rfl rfl rfl), (iGd r2_42 [.o2, .o5] false (iMv r2_4 s2_43) (some s2_43) rfl rfl rfl), (iGd r2_42 [.o2, .o5] false (iP2 bGt r2_43 (rk (.int .u8 (.ofNat 122))) s2_44) (some s2_44) rfl rfl rfl), (iGd r2_39 [.o7, .o4] true (iGp (l3 pPick) [r2_42, (rk (.bool true)), r2_44] (some s2_45)) (some s2_45) rfl rfl rfl), (iGp (l3 pPick) [r2_39, r2_45, (rk (.bool false))] (some s2_46)), (iMv r2_46 s2_47), (iGd r2_47 [.o7, .o5] true (iMv r2_4 s2_48) (some s2_48) rfl rfl rfl), (iGd r2_47 [.o7, .o5] true (iP2 bLt r2_48 (rk (.int .u8 (.ofNat 65))) s2_49) (some s2_49) rfl rfl rfl), (iGd r2_47 [.o7, .o5] true (iMv r2_49 s2_50) (some s2_50) rfl rfl rfl), (iGd r2_50 [.o2, .o6] false (iMv r2_4 s2_51) (some s2_51) rfl rfl rfl), (iGd r2_50 [.o2, .o6] false (iP2 bGt r2_51 (rk (.int .u8 (.ofNat 90))) s2_52) (some s2_52) rfl rfl rfl), (iGd r2_47 [.o7, .o5] true (iGp (l3 pPick) [r2_50, (rk (.bool true)), r2_52] (some s2_53)) (some s2_53) rfl rfl rfl), (iGp (l3 pPick) [r2_47, r2_53, (rk (.bool false))] (some s2_54))]
noncomputable def x79_7 : List (Ins tf2) := [(iAs (rk (.bool false)) s2_2)]
noncomputable def x79_8 : List (Ins tf2) := [(iP2 bAdd r2_25 (rk (.int .i64 (.ofNat 1))) s2_55), (iMv r2_55 s2_25)]
noncomputable def x79_9 : List (Ins tf2) := [(iAs (rk (.bool true)) s2_2)]
noncomputable def x79 : XC tf2 := (.rg x79_0 (.seq (.rg x79_1 (.cond r2_21 (.rg x79_2 .ret) .skip)) (.seq (.rg x79_3 (.block 0 (.loop (.rg x79_4 (.seq (.cond r2_26 .skip (.exit 0)) (.seq (.block 1 (.rg x79_5 (.rg x79_6 (.cond r2_54 (.rg x79_7 .ret) .skip)))) (.reg x79_8))))))) (.rg x79_9 .ret))))
noncomputable def c79 : Code := Tryd.f79.body.getD .skip
theorem x79_b : Tryd.f79.body = some c79 := by kernel_rfl
theorem x79_c : cG (comp Tryd.prog) 2 2 56 x79 c79 = x79.den := by kernel_rfl
noncomputable def y79 : List (RR Tryd.prog 2 56 tf2) := [rrT r2_2 2 rfl rfl]
theorem x79_r : y79.map RR.den = Tryd.f79.results.toList := by kernel_rfl
theorem x79_k : okFn Tryd.f79 = true := by kernel_rfl
theorem x79_D : 2 = dep Tryd.f79.ntmps := by kernel_rfl
theorem x79_s : ([s2_0] : List (Slot tf2)).map Slot.p = (List.range' 0 1).map (pth 2) := by kernel_rfl
noncomputable def X79 : XFn Tryd.prog 2 (comp Tryd.prog) := ⟨X2, tf2, 79, Tryd.f79, c79, 2, 56, [s2_0], z2, x79, y79, x79_D, Tryd.ntmps79.symm, Tryd.func79, x79_b, x79_k, x79_s, by decide, z2_ok, x79_c, x79_r⟩
noncomputable def x80_0 : List (Ins tf2) := [(iAs (rk (.bool false)) s2_4)]
noncomputable def x80_1 : List (Ins tf2) := [(iMv r2_0 s2_5), (iMv r2_1 s2_6), (iCall (rk (.func (.func 89) #[] #[])) [r2_5, r2_6] (some s2_7)), (iP2 bGe r2_7 (rk (.int .i64 (.ofNat 0))) s2_8), (iAs r2_8 s2_4)]
noncomputable def x80 : XC tf2 := (.rg x80_0 (.rg x80_1 .ret))
noncomputable def c80 : Code := Tryd.f80.body.getD .skip
theorem x80_b : Tryd.f80.body = some c80 := by kernel_rfl
theorem x80_c : cG (comp Tryd.prog) 2 2 9 x80 c80 = x80.den := by kernel_rfl
noncomputable def y80 : List (RR Tryd.prog 2 9 tf2) := [rrT r2_4 4 rfl rfl]
theorem x80_r : y80.map RR.den = Tryd.f80.results.toList := by kernel_rfl
theorem x80_k : okFn Tryd.f80 = true := by kernel_rfl
theorem x80_D : 2 = dep Tryd.f80.ntmps := by kernel_rfl
theorem x80_s : ([s2_0, s2_1] : List (Slot tf2)).map Slot.p = (List.range' 0 2).map (pth 2) := by kernel_rfl
noncomputable def X80 : XFn Tryd.prog 2 (comp Tryd.prog) := ⟨X2, tf2, 80, Tryd.f80, c80, 2, 9, [s2_0, s2_1], z2, x80, y80, x80_D, Tryd.ntmps80.symm, Tryd.func80, x80_b, x80_k, x80_s, by decide, z2_ok, x80_c, x80_r⟩
noncomputable def x81_0 : List (Ins tf2) := [(iGa (a1 gBox) [r2_0] (some s2_3)), (iGa (a1 gBox) [r2_1] (some s2_4)), (iAs (rk (.bool false)) s2_6)]
noncomputable def x81_1 : List (Ins tf2) := [(iMv r2_2 s2_8), (iGp (l1 (pUn .not)) [r2_8] (some s2_9)), (iAs r2_9 s2_7)]
noncomputable def x81_2 : List (Ins tf2) := [(iGr (r1 (rLdn 2)) [r2_4] (some s2_10)), (iGp (pBld [(.int .i64 (.ofNat 0)), (.int .u64 (.ofNat 0))] []) [] (some s2_11)), (iGp (l2 (pEqS [0, 0] false)) [r2_10, r2_11] (some s2_12)), (iAs r2_12 s2_6)]
noncomputable def x81_3 : List (Ins tf2) := [(iP1 (bFa 0) r2_4 s2_14), (iR1 bLd r2_14 s2_15), (iP2 bEq r2_15 (rk (.int .i64 (.negSucc 0))) s2_16), (iAs r2_16 s2_13)]
noncomputable def x81_4 : List (Ins tf2) := [(iP1 (bFa 0) r2_3 s2_17), (iR1 bLd r2_17 s2_18), (iP2 bEq r2_18 (rk (.int .i64 (.ofNat 64))) s2_19), (iMv r2_19 s2_20), (iGd r2_20 [.o4, .o2] false (iP1 (bFa 1) r2_4 s2_21) (some s2_21) rfl rfl rfl), (iGd r2_20 [.o4, .o2] false (iR1 bLd r2_21 s2_22) (some s2_22) rfl rfl rfl), (iGd r2_20 [.o4, .o2] false (iP1 (bFa 0) r2_3 s2_23) (some s2_23) rfl rfl rfl), (iGd r2_20 [.o4, .o2] false (iR1 bLd r2_23 s2_24) (some s2_24) rfl rfl rfl), (iGd r2_20 [.o4, .o2] false (iGp (l2 (pBin .shl)) [(rk (.int .u64 (.ofNat 1))), r2_24] (some s2_25)) (some s2_25) rfl rfl rfl), (iGd r2_20 [.o4, .o2] false (iP2 bLt r2_22 r2_25 s2_26) (some s2_26) rfl rfl rfl), (iGp (l3 pPick) [r2_20, (rk (.bool true)), r2_26] (some s2_27)), (iAs r2_27 s2_6)]
noncomputable def x81_5 : List (Ins tf2) := [(iP1 (bFa 0) r2_4 s2_28), (iR1 bLd r2_28 s2_29), (iP2 bGe r2_29 (rk (.int .i64 (.ofNat 0))) s2_30), (iMv r2_30 s2_31), (iGd r2_31 [.o7, .o3] true (iP1 (bFa 0) r2_4 s2_32) (some s2_32) rfl rfl rfl), (iGd r2_31 [.o7, .o3] true (iR1 bLd r2_32 s2_33) (some s2_33) rfl rfl rfl), (iGd r2_31 [.o7, .o3] true (iP1 (bFa 1) r2_3 s2_34) (some s2_34) rfl rfl rfl), (iGd r2_31 [.o7, .o3] true (iR1 bLd r2_34 s2_35) (some s2_35) rfl rfl rfl), (iGd r2_31 [.o7, .o3] true (iP2 bLt r2_33 r2_35 s2_36) (some s2_36) rfl rfl rfl), (iGp (l3 pPick) [r2_31, r2_36, (rk (.bool false))] (some s2_37)), (iMv r2_37 s2_38), (iGd r2_38 [.o6, .o4] true (iP1 (bFa 1) r2_4 s2_39) (some s2_39) rfl rfl rfl), (iGd r2_38 [.o6, .o4] true (iR1 bLd r2_39 s2_40) (some s2_40) rfl rfl rfl), (iGd r2_38 [.o6, .o4] true (iP2 bEq r2_40 (rk (.int .u64 (.ofNat 0))) s2_41) (some s2_41) rfl rfl rfl), (iGp (l3 pPick) [r2_38, r2_41, (rk (.bool false))] (some s2_42)), (iAs r2_42 s2_6)]
noncomputable def x81 : XC tf2 := (.rg x81_0 (.seq (.block 0 (.rg x81_1 (.cond r2_7 (.rg x81_2 .ret) (.rg x81_3 (.cond r2_13 (.rg x81_4 .ret) .skip))))) (.rg x81_5 .ret)))
noncomputable def c81 : Code := Tryd.f81.body.getD .skip
theorem x81_b : Tryd.f81.body = some c81 := by kernel_rfl
theorem x81_c : cG (comp Tryd.prog) 2 2 43 x81 c81 = x81.den := by kernel_rfl
noncomputable def y81 : List (RR Tryd.prog 2 43 tf2) := [rrT r2_6 6 rfl rfl]
theorem x81_r : y81.map RR.den = Tryd.f81.results.toList := by kernel_rfl
theorem x81_k : okFn Tryd.f81 = true := by kernel_rfl
theorem x81_D : 2 = dep Tryd.f81.ntmps := by kernel_rfl
theorem x81_s : ([s2_0, s2_1, s2_2] : List (Slot tf2)).map Slot.p = (List.range' 0 3).map (pth 2) := by kernel_rfl
noncomputable def X81 : XFn Tryd.prog 2 (comp Tryd.prog) := ⟨X2, tf2, 81, Tryd.f81, c81, 2, 43, [s2_0, s2_1, s2_2], z2, x81, y81, x81_D, Tryd.ntmps81.symm, Tryd.func81, x81_b, x81_k, x81_s, by decide, z2_ok, x81_c, x81_r⟩
noncomputable def x82_0 : List (Ins tf1) := [(iAs (rk (.int .u64 (.ofNat 0))) s1_2)]
noncomputable def x82_1 : List (Ins tf1) := [(iMv r1_0 s1_3), (iP1 (bCv .u64) r1_3 s1_4), (iGp (l2 (pBin .shl)) [(rk (.int .u64 (.ofNat 1))), r1_4] (some s1_5)), (iP2 bSub r1_5 (rk (.int .u64 (.ofNat 1))) s1_6), (iAs r1_6 s1_2)]
noncomputable def x82 : XC tf1 := (.rg x82_0 (.rg x82_1 .ret))
noncomputable def c82 : Code := Tryd.f82.body.getD .skip
theorem x82_b : Tryd.f82.body = some c82 := by kernel_rfl
theorem x82_c : cG (comp Tryd.prog) 2 1 7 x82 c82 = x82.den := by kernel_rfl
noncomputable def y82 : List (RR Tryd.prog 1 7 tf1) := [rrT r1_2 2 rfl rfl]
theorem x82_r : y82.map RR.den = Tryd.f82.results.toList := by kernel_rfl
theorem x82_k : okFn Tryd.f82 = true := by kernel_rfl
theorem x82_D : 1 = dep Tryd.f82.ntmps := by kernel_rfl
theorem x82_s : ([s1_0] : List (Slot tf1)).map Slot.p = (List.range' 0 1).map (pth 1) := by kernel_rfl
noncomputable def X82 : XFn Tryd.prog 2 (comp Tryd.prog) := ⟨X1, tf1, 82, Tryd.f82, c82, 1, 7, [s1_0], z1, x82, y82, x82_D, Tryd.ntmps82.symm, Tryd.func82, x82_b, x82_k, x82_s, by decide, z1_ok, x82_c, x82_r⟩
noncomputable def x84_0 : List (Ins tf2) := [(iGa (aAl 22 [(.int .u8 (.ofNat 0)), (.int .u8 (.ofNat 0)), (.int .u8 (.ofNat 0)), (.int .u8 (.ofNat 0)), (.int .u8 (.ofNat 0)), (.int .u8 (.ofNat 0)), (.int .u8 (.ofNat 0)), (.int .u8 (.ofNat 0)), (.int .u8 (.ofNat 0)), (.int .u8 (.ofNat 0)), (.int .u8 (.ofNat 0)), (.int .u8 (.ofNat 0)), (.int .u8 (.ofNat 0)), (.int .u8 (.ofNat 0)), (.int .u8 (.ofNat 0)), (.int .u8 (.ofNat 0)), (.int .u8 (.ofNat 0)), (.int .u8 (.ofNat 0)), (.int .u8 (.ofNat 0)), (.int .u8 (.ofNat 0)), (.int .u8 (.ofNat 0)), (.int .u8 (.ofNat 0))]) [] (some s2_0))]
noncomputable def x84_1 : List (Ins tf2) := [(iGa (aAl 22 [(.int .u8 (.ofNat 0)), (.int .u8 (.ofNat 0)), (.int .u8 (.ofNat 0)), (.int .u8 (.ofNat 0)), (.int .u8 (.ofNat 0)), (.int .u8 (.ofNat 0)), (.int .u8 (.ofNat 0)), (.int .u8 (.ofNat 0)), (.int .u8 (.ofNat 0)), (.int .u8 (.ofNat 0)), (.int .u8 (.ofNat 0)), (.int .u8 (.ofNat 0)), (.int .u8 (.ofNat 0)), (.int .u8 (.ofNat 0)), (.int .u8 (.ofNat 0)), (.int .u8 (.ofNat 0)), (.int .u8 (.ofNat 0)), (.int .u8 (.ofNat 0)), (.int .u8 (.ofNat 0)), (.int .u8 (.ofNat 0)), (.int .u8 (.ofNat 0)), (.int .u8 (.ofNat 0))]) [] (some s2_1))]
noncomputable def x84_2 : List (Ins tf2) := [(iMv (rk (.int .i64 (.ofNat 0))) s2_3)]
noncomputable def x84_3 : List (Ins tf2) := [(iP2 bLt r2_3 (rk (.int .i64 (.ofNat 22))) s2_4)]
noncomputable def x84_4 : List (Ins tf2) := [(iMv r2_3 s2_5), (iAs r2_5 s2_2)]
noncomputable def x84_5 : List (Ins tf2) := [(iMv r2_2 s2_6), (iP2 (bIxa 22 1) r2_1 r2_6 s2_7), (iM2 bSt r2_7 (rk (.int .u8 (.ofNat 2))))]
noncomputable def x84_6 : List (Ins tf2) := [(iP2 bAdd r2_3 (rk (.int .i64 (.ofNat 1))) s2_8), (iMv r2_8 s2_3)]
noncomputable def x84_7 : List (Ins tf2) := [(iP2 (bIxa 22 1) r2_1 (rk (.int .u8 (.ofNat 0))) s2_9), (iM2 bSt r2_9 (rk (.int .u8 (.ofNat 0)))), (iP2 (bIxa 22 1) r2_1 (rk (.int .u8 (.ofNat 1))) s2_10), (iM2 bSt r2_10 (rk (.int .u8 (.ofNat 0))))]
noncomputable def x84_8 : List (Ins tf2) := [(iP2 (bIxa 22 1) r2_1 (rk (.int .u8 (.ofNat 2))) s2_11), (iM2 bSt r2_11 (rk (.int .u8 (.ofNat 1)))), (iP2 (bIxa 22 1) r2_1 (rk (.int .u8 (.ofNat 3))) s2_12), (iM2 bSt r2_12 (rk (.int .u8 (.ofNat 1))))]
noncomputable def x84_9 : List (Ins tf2) := [(iP2 (bIxa 22 1) r2_1 (rk (.int .u8 (.ofNat 21))) s2_13), (iM2 bSt r2_13 (rk (.int .u8 (.ofNat 3))))]
noncomputable def x84_10 : List (Ins tf2) := [(iGr (r1 (rLdn 22)) [r2_1] (some s2_14)), (iGm (m2 (sStn 22)) [r2_0, r2_14] none)]
noncomputable def x84 : XC tf2 := (.rg x84_0 (.rg x84_1 (.seq (.rg x84_2 (.block 0 (.loop (.rg x84_3 (.seq (.cond r2_4 .skip (.exit 0)) (.seq (.block 1 (.rg x84_4 (.reg x84_5))) (.reg x84_6))))))) (.rg x84_7 (.rg x84_8 (.rg x84_9 (.rg x84_10 .ret)))))))
noncomputable def c84 : Code := Tryd.f84.body.getD .skip
theorem x84_b : Tryd.f84.body = some c84 := by kernel_rfl
theorem x84_c : cG (comp Tryd.prog) 2 2 15 x84 c84 = x84.den := by kernel_rfl
noncomputable def y84 : List (RR Tryd.prog 2 15 tf2) := [rrS (.cell 0 171)]
theorem x84_r : y84.map RR.den = Tryd.f84.results.toList := by kernel_rfl
theorem x84_k : okFn Tryd.f84 = true := by kernel_rfl
theorem x84_D : 2 = dep Tryd.f84.ntmps := by kernel_rfl
theorem x84_s : ([] : List (Slot tf2)).map Slot.p = (List.range' 0 0).map (pth 2) := by kernel_rfl
noncomputable def X84 : XFn Tryd.prog 2 (comp Tryd.prog) := ⟨X2, tf2, 84, Tryd.f84, c84, 2, 15, [], z2, x84, y84, x84_D, Tryd.ntmps84.symm, Tryd.func84, x84_b, x84_k, x84_s, by decide, z2_ok, x84_c, x84_r⟩
noncomputable def x87_0 : List (Ins tf2) := [(iGa (aAl 22 [.nilFunc, .nilFunc, .nilFunc, .nilFunc, .nilFunc, .nilFunc, .nilFunc, .nilFunc, .nilFunc, .nilFunc, .nilFunc, .nilFunc, .nilFunc, .nilFunc, .nilFunc, .nilFunc, .nilFunc, .nilFunc, .nilFunc, .nilFunc, .nilFunc, .nilFunc]) [] (some s2_0))]
noncomputable def x87_1 : List (Ins tf2) := [(iGp (pBld [.nilFunc] [(0, 1)]) [(rk (.func (.func 90) #[] #[]))] (some s2_1)), (iGp (pBld [.nilFunc] [(0, 1)]) [(rk (.func (.func 91) #[] #[]))] (some s2_2)), (iGp (pBld [.nilFunc] [(0, 1)]) [(rk (.func (.func 92) #[] #[]))] (some s2_3)), (iGp (pBld [.nilFunc] [(0, 1)]) [(rk (.func (.func 93) #[] #[]))] (some s2_4)), (iGp (pBld [.nilFunc] [(0, 1)]) [(rk (.func (.func 94) #[] #[]))] (some s2_5)), (iGp (pBld [.nilFunc] [(0, 1)]) [(rk (.func (.func 95) #[] #[]))] (some s2_6)), (iGp (pBld [.nilFunc] [(0, 1)]) [(rk (.func (.func 96) #[] #[]))] (some s2_7)), (iGp (pBld [.nilFunc] [(0, 1)]) [(rk (.func (.func 97) #[] #[]))] (some s2_8)), (iGp (pBld [.nilFunc] [(0, 1)]) [(rk (.func (.func 98) #[] #[]))] (some s2_9)), (iGp (pBld [.nilFunc] [(0, 1)]) [(rk (.func (.func 99) #[] #[]))] (some s2_10)), (iGp (pBld [.nilFunc] [(0, 1)]) [(rk (.func (.func 100) #[] #[]))] (some s2_11)), (iGp (pBld [.nilFunc] [(0, 1)]) [(rk (.func (.func 101) #[] #[]))] (some s2_12)), (iGp (pBld [.nilFunc] [(0, 1)]) [(rk (.func (.func 102) #[] #[]))] (some s2_13)), (iGp (pBld [.nilFunc] [(0, 1)]) [(rk (.func (.func 103) #[] #[]))] (some s2_14)), (iGp (pBld [.nilFunc] [(0, 1)]) [(rk (.func (.func 104) #[] #[]))] (some s2_15)), (iGp (pBld [.nilFunc] [(0, 1)]) [(rk (.func (.func 105) #[] #[]))] (some s2_16)), (iGp (pBld [.nilFunc] [(0, 1)]) [(rk (.func (.func 106) #[] #[]))] (some s2_17)), (iGp (pBld [.nilFunc, .nilFunc, .nilFunc, .nilFunc, .nilFunc, .nilFunc, .nilFunc, .nilFunc, .nilFunc, .nilFunc, .nilFunc, .nilFunc, .nilFunc, .nilFunc, .nilFunc, .nilFunc, .nilFunc, .nilFunc, .nilFunc, .nilFunc, .nilFunc, .nilFunc] [(4, 1), (5, 1), (6, 1), (7, 1), (8, 1), (9, 1), (10, 1), (11, 1), (12, 1), (13, 1), (14, 1), (15, 1), (16, 1), (17, 1), (18, 1), (19, 1), (20, 1)]) [r2_1, r2_2, r2_3, r2_4, r2_5, r2_6, r2_7, r2_8, r2_9, r2_10, r2_11, r2_12, r2_13, r2_14, r2_15, r2_16, r2_17] (some s2_18)), (iGm (m2 (sStn 22)) [r2_0, r2_18] none)]
noncomputable def x87 : XC tf2 := (.rg x87_0 (.rg x87_1 .ret))
noncomputable def c87 : Code := Tryd.f87.body.getD .skip
theorem x87_b : Tryd.f87.body = some c87 := by kernel_rfl
theorem x87_c : cG (comp Tryd.prog) 2 2 19 x87 c87 = x87.den := by kernel_rfl
noncomputable def y87 : List (RR Tryd.prog 2 19 tf2) := [rrS (.cell 0 178)]
theorem x87_r : y87.map RR.den = Tryd.f87.results.toList := by kernel_rfl
theorem x87_k : okFn Tryd.f87 = true := by kernel_rfl
theorem x87_D : 2 = dep Tryd.f87.ntmps := by kernel_rfl
theorem x87_s : ([] : List (Slot tf2)).map Slot.p = (List.range' 0 0).map (pth 2) := by kernel_rfl
noncomputable def X87 : XFn Tryd.prog 2 (comp Tryd.prog) := ⟨X2, tf2, 87, Tryd.f87, c87, 2, 19, [], z2, x87, y87, x87_D, Tryd.ntmps87.symm, Tryd.func87, x87_b, x87_k, x87_s, by decide, z2_ok, x87_c, x87_r⟩
noncomputable def x89_0 : List (Ins tf2) := [(iAs (rk (.int .i64 (.ofNat 0))) s2_4)]
noncomputable def x89_1 : List (Ins tf2) := [(iMv r2_0 s2_6), (iP1 bLen r2_6 s2_7), (iMv (rk (.int .i64 (.ofNat 0))) s2_8)]
noncomputable def x89_2 : List (Ins tf2) := [(iP2 bLt r2_8 r2_7 s2_9)]
noncomputable def x89_3 : List (Ins tf2) := [(iMv r2_8 s2_10), (iAs r2_10 s2_5)]
noncomputable def x89_4 : List (Ins tf2) := [(iMv r2_1 s2_11), (iMv r2_0 s2_12), (iMv r2_5 s2_13), (iP2 (bIxs 1) r2_12 r2_13 s2_14), (iR1 bLd r2_14 s2_15), (iGp (l2 (pBin .eql)) [r2_11, r2_15] (some s2_16))]
noncomputable def x89_5 : List (Ins tf2) := [(iMv r2_5 s2_17), (iAs r2_17 s2_4)]
noncomputable def x89_6 : List (Ins tf2) := [(iP2 bAdd r2_8 (rk (.int .i64 (.ofNat 1))) s2_18), (iMv r2_18 s2_8)]
noncomputable def x89_7 : List (Ins tf2) := [(iAs (rk (.int .i64 (.negSucc 0))) s2_4)]
noncomputable def x89 : XC tf2 := (.rg x89_0 (.seq (.rg x89_1 (.block 0 (.loop (.rg x89_2 (.seq (.cond r2_9 .skip (.exit 0)) (.seq (.block 1 (.rg x89_3 (.rg x89_4 (.cond r2_16 (.rg x89_5 .ret) .skip)))) (.reg x89_6))))))) (.rg x89_7 .ret)))
noncomputable def c89 : Code := Tryd.f89.body.getD .skip
theorem x89_b : Tryd.f89.body = some c89 := by kernel_rfl
theorem x89_c : cG (comp Tryd.prog) 2 2 19 x89 c89 = x89.den := by kernel_rfl
noncomputable def y89 : List (RR Tryd.prog 2 19 tf2) := [rrT r2_4 4 rfl rfl]
theorem x89_r : y89.map RR.den = Tryd.f89.results.toList := by kernel_rfl
theorem x89_k : okFn Tryd.f89 = true := by kernel_rfl
theorem x89_D : 2 = dep Tryd.f89.ntmps := by kernel_rfl
theorem x89_s : ([s2_0, s2_1] : List (Slot tf2)).map Slot.p = (List.range' 0 2).map (pth 2) := by kernel_rfl
noncomputable def X89 : XFn Tryd.prog 2 (comp Tryd.prog) := ⟨X2, tf2, 89, Tryd.f89, c89, 2, 19, [s2_0, s2_1], z2, x89, y89, x89_D, Tryd.ntmps89.symm, Tryd.func89, x89_b, x89_k, x89_s, by decide, z2_ok, x89_c, x89_r⟩
noncomputable def x101_0 : List (Ins tf2) := [(iAs (rk (.int .u64 (.ofNat 0))) s2_6)]
noncomputable def x101_1 : List (Ins tf2) := [(iMv r2_1 s2_7), (iMv r2_2 s2_8), (iP2 bEq r2_7 r2_8 s2_9), (iCall (rk (.func (.func 109) #[] #[])) [r2_9] (some s2_10)), (iAs r2_10 s2_6)]
noncomputable def x101 : XC tf2 := (.rg x101_0 (.rg x101_1 .ret))
noncomputable def c101 : Code := Tryd.f101.body.getD .skip
theorem x101_b : Tryd.f101.body = some c101 := by kernel_rfl
theorem x101_c : cG (comp Tryd.prog) 2 2 11 x101 c101 = x101.den := by kernel_rfl
noncomputable def y101 : List (RR Tryd.prog 2 11 tf2) := [rrT r2_6 6 rfl rfl]
theorem x101_r : y101.map RR.den = Tryd.f101.results.toList := by kernel_rfl
theorem x101_k : okFn Tryd.f101 = true := by kernel_rfl
theorem x101_D : 2 = dep Tryd.f101.ntmps := by kernel_rfl
theorem x101_s : ([s2_0, s2_1, s2_2] : List (Slot tf2)).map Slot.p = (List.range' 0 3).map (pth 2) := by kernel_rfl
noncomputable def X101 : XFn Tryd.prog 2 (comp Tryd.prog) := ⟨X2, tf2, 101, Tryd.f101, c101, 2, 11, [s2_0, s2_1, s2_2], z2, x101, y101, x101_D, Tryd.ntmps101.symm, Tryd.func101, x101_b, x101_k, x101_s, by decide, z2_ok, x101_c, x101_r⟩
noncomputable def x109_0 : List (Ins tf1) := [(iAs (rk (.int .u64 (.ofNat 0))) s1_2)]
noncomputable def x109_1 : List (Ins tf1) := [(iMv r1_0 s1_3)]
noncomputable def x109_2 : List (Ins tf1) := [(iAs (rk (.int .u64 (.ofNat 1))) s1_2)]
noncomputable def x109_3 : List (Ins tf1) := [(iAs (rk (.int .u64 (.ofNat 0))) s1_2)]
noncomputable def x109 : XC tf1 := (.rg x109_0 (.seq (.rg x109_1 (.cond r1_3 (.rg x109_2 .ret) .skip)) (.rg x109_3 .ret)))
noncomputable def c109 : Code := Tryd.f109.body.getD .skip
theorem x109_b : Tryd.f109.body = some c109 := by kernel_rfl
theorem x109_c : cG (comp Tryd.prog) 2 1 4 x109 c109 = x109.den := by kernel_rfl
noncomputable def y109 : List (RR Tryd.prog 1 4 tf1) := [rrT r1_2 2 rfl rfl]
theorem x109_r : y109.map RR.den = Tryd.f109.results.toList := by kernel_rfl
theorem x109_k : okFn Tryd.f109 = true := by kernel_rfl
theorem x109_D : 1 = dep Tryd.f109.ntmps := by kernel_rfl
theorem x109_s : ([s1_0] : List (Slot tf1)).map Slot.p = (List.range' 0 1).map (pth 1) := by kernel_rfl
noncomputable def X109 : XFn Tryd.prog 2 (comp Tryd.prog) := ⟨X1, tf1, 109, Tryd.f109, c109, 1, 4, [s1_0], z1, x109, y109, x109_D, Tryd.ntmps109.symm, Tryd.func109, x109_b, x109_k, x109_s, by decide, z1_ok, x109_c, x109_r⟩
noncomputable def x134_0 : List (Ins tf2) := [(iAs (rk (.bool false)) s2_4)]
noncomputable def x134_1 : List (Ins tf2) := [(iMv r2_1 s2_5), (iP2 bGe r2_5 (rk (.int .i64 (.ofNat 0))) s2_6), (iMv r2_6 s2_7), (iGd r2_7 [.o7, .o0] true (iMv r2_1 s2_8) (some s2_8) rfl rfl rfl), (iGd r2_7 [.o7, .o0] true (iMv r2_0 s2_9) (some s2_9) rfl rfl rfl), (iGd r2_7 [.o7, .o0] true (iP1 bNil r2_9 s2_10) (some s2_10) rfl rfl rfl), (iGd r2_7 [.o7, .o0] true (iP1 (bFa 0) r2_10 s2_11) (some s2_11) rfl rfl rfl), (iGd r2_7 [.o7, .o0] true (iR1 bLd r2_11 s2_12) (some s2_12) rfl rfl rfl), (iGd r2_7 [.o7, .o0] true (iCall (rk (.func (.func 74) #[] #[])) [r2_12] (some s2_13)) (some s2_13) rfl rfl rfl), (iGd r2_7 [.o7, .o0] true (iP2 bLt r2_8 r2_13 s2_14) (some s2_14) rfl rfl rfl), (iGp (l3 pPick) [r2_7, r2_14, (rk (.bool false))] (some s2_15)), (iAs r2_15 s2_4)]
noncomputable def x134 : XC tf2 := (.rg x134_0 (.rg x134_1 .ret))
noncomputable def c134 : Code := Tryd.f134.body.getD .skip
theorem x134_b : Tryd.f134.body = some c134 := by kernel_rfl
theorem x134_c : cG (comp Tryd.prog) 2 2 16 x134 c134 = x134.den := by kernel_rfl
noncomputable def y134 : List (RR Tryd.prog 2 16 tf2) := [rrT r2_4 4 rfl rfl]
theorem x134_r : y134.map RR.den = Tryd.f134.results.toList := by kernel_rfl
theorem x134_k : okFn Tryd.f134 = true := by kernel_rfl
theorem x134_D : 2 = dep Tryd.f134.ntmps := by kernel_rfl
theorem x134_s : ([s2_0, s2_1] : List (Slot tf2)).map Slot.p = (List.range' 0 2).map (pth 2) := by kernel_rfl
noncomputable def X134 : XFn Tryd.prog 2 (comp Tryd.prog) := ⟨X2, tf2, 134, Tryd.f134, c134, 2, 16, [s2_0, s2_1], z2, x134, y134, x134_D, Tryd.ntmps134.symm, Tryd.func134, x134_b, x134_k, x134_s, by decide, z2_ok, x134_c, x134_r⟩
noncomputable def x135_0 : List (Ins tf2) := [(iGa (a1 gBox) [r2_0] (some s2_1)), (iGa (aAl 9 [(.pointer none), (.int .i64 (.ofNat 0)), (.slice none 0 0), (.int .u8 (.ofNat 0)), (.int .i64 (.ofNat 0)), (.slice none 0 0), (.slice none 0 0), (.slice none 0 0), (.slice none 0 0)]) [] (some s2_2))]
noncomputable def x135_1 : List (Ins tf2) := [(iP1 (bFa 2) r2_1 s2_4), (iGr (r1 (rLdn 7)) [r2_4] (some s2_5)), (iGa (aAl 7 [(.slice none 0 0), (.int .u8 (.ofNat 0)), (.int .i64 (.ofNat 0)), (.slice none 0 0), (.slice none 0 0), (.slice none 0 0), (.slice none 0 0)]) [] (some s2_3)), (iGm (m2 (sStn 7)) [r2_3, r2_5] none)]
noncomputable def x135_2 : List (Ins tf2) := [(iP1 (bFa 0) r2_3 s2_6), (iR1 bLd r2_6 s2_7), (iGm (m2 (sApp 1)) [(rk (.slice none 0 0)), r2_7] (some s2_8)), (iP1 (bFa 0) r2_3 s2_9), (iM2 bSt r2_9 r2_8)]
noncomputable def x135_3 : List (Ins tf2) := [(iP1 (bFa 3) r2_3 s2_10), (iR1 bLd r2_10 s2_11), (iGm (m2 (sApp 2)) [(rk (.slice none 0 0)), r2_11] (some s2_12)), (iP1 (bFa 3) r2_3 s2_13), (iM2 bSt r2_13 r2_12)]
noncomputable def x135_4 : List (Ins tf2) := [(iP1 (bFa 4) r2_3 s2_14), (iR1 bLd r2_14 s2_15), (iGm (m2 (sApp 2)) [(rk (.slice none 0 0)), r2_15] (some s2_16)), (iP1 (bFa 4) r2_3 s2_17), (iM2 bSt r2_17 r2_16)]
noncomputable def x135_5 : List (Ins tf2) := [(iP1 (bFa 5) r2_3 s2_18), (iR1 bLd r2_18 s2_19), (iGm (m2 (sApp 1)) [(rk (.slice none 0 0)), r2_19] (some s2_20)), (iP1 (bFa 5) r2_3 s2_21), (iM2 bSt r2_21 r2_20)]
noncomputable def x135_6 : List (Ins tf2) := [(iP1 (bFa 6) r2_3 s2_22), (iR1 bLd r2_22 s2_23), (iGm (m2 (sApp 1)) [(rk (.slice none 0 0)), r2_23] (some s2_24)), (iP1 (bFa 6) r2_3 s2_25), (iM2 bSt r2_25 r2_24)]
noncomputable def x135_7 : List (Ins tf2) := [(iP1 (bFa 0) r2_1 s2_26), (iR1 bLd r2_26 s2_27), (iP1 (bFa 1) r2_1 s2_29), (iR1 bLd r2_29 s2_30), (iGr (r1 (rLdn 7)) [r2_3] (some s2_31)), (iRc (iCall (rk (.func (.func 170) #[] #[])) [r2_27] (some s2_28)) [(rcS ⟨none, .r (r1 (rLdn 7)), [(.t [.o3, .o0])], (some [.o7, .o3])⟩), (rcLd r2_29 r2_30 [.o6, .o3] rfl)] rfl), (iGp (pBld [(.pointer none), (.int .i64 (.ofNat 0)), (.slice none 0 0), (.int .u8 (.ofNat 0)), (.int .i64 (.ofNat 0)), (.slice none 0 0), (.slice none 0 0), (.slice none 0 0), (.slice none 0 0)] [(0, 1), (1, 1), (2, 7)]) [r2_28, r2_30, r2_31] (some s2_32)), (iGm (m2 (sStn 9)) [r2_2, r2_32] none)]
noncomputable def x135 : XC tf2 := (.rg x135_0 (.rg x135_1 (.rg x135_2 (.rg x135_3 (.rg x135_4 (.rg x135_5 (.rg x135_6 (.rg x135_7 .ret))))))))
noncomputable def c135 : Code := Tryd.f135.body.getD .skip
theorem x135_b : Tryd.f135.body = some c135 := by kernel_rfl
theorem x135_c : cG (comp Tryd.prog) 2 2 33 x135 c135 = x135.den := by kernel_rfl
noncomputable def y135 : List (RR Tryd.prog 2 33 tf2) := [rrS (.cell 2 101)]
theorem x135_r : y135.map RR.den = Tryd.f135.results.toList := by kernel_rfl
theorem x135_k : okFn Tryd.f135 = true := by kernel_rfl
theorem x135_D : 2 = dep Tryd.f135.ntmps := by kernel_rfl
theorem x135_s : ([s2_0] : List (Slot tf2)).map Slot.p = (List.range' 0 1).map (pth 2) := by kernel_rfl
noncomputable def X135 : XFn Tryd.prog 2 (comp Tryd.prog) := ⟨X2, tf2, 135, Tryd.f135, c135, 2, 33, [s2_0], z2, x135, y135, x135_D, Tryd.ntmps135.symm, Tryd.func135, x135_b, x135_k, x135_s, by decide, z2_ok, x135_c, x135_r⟩
noncomputable def x138_0 : List (Ins tf3) := [(iGa (a1 gBox) [r3_2] (some s3_5)), (iAs (rk (.bool false)) s3_6)]
noncomputable def x138_1 : List (Ins tf3) := [(iMv r3_1 s3_14), (iP1 bNil r3_14 s3_15), (iP1 (bFa 0) r3_15 s3_16), (iR1 bLd r3_16 s3_17), (iP1 (bFa 4) r3_5 s3_18), (iGr (r1 (rLdn 2)) [r3_18] (some s3_19)), (iCall (rk (.func (.func 147) #[] #[])) [r3_17, r3_19] (some s3_20)), (iMv r3_20 s3_13), (iGp (l1 (pExt 0)) [r3_13] (some s3_21)), (iGp (l1 (pExt 1)) [r3_13] (some s3_22)), (iAs r3_21 s3_7), (iAs r3_22 s3_8)]
noncomputable def x138_2 : List (Ins tf3) := [(iMv r3_0 s3_23), (iMv r3_8 s3_24), (iCall (rk (.func (.func 43) #[] #[])) [r3_23, r3_24] (some s3_25))]
noncomputable def x138_3 : List (Ins tf3) := [(iAs (rk (.bool false)) s3_6)]
noncomputable def x138_4 : List (Ins tf3) := [(iMv r3_7 s3_26), (iGa (aBsl 1 1 [(.int .i64 (.ofNat 0))] [(0, 1)]) [r3_26] (some s3_27)), (iAs r3_27 s3_9)]
noncomputable def x138_5 : List (Ins tf3) := [(iP1 (bFa 1) r3_5 s3_28), (iR1 bLd r3_28 s3_29), (iP2 bNe r3_29 (rk (.int .u8 (.ofNat 2))) s3_30), (iMv r3_30 s3_31), (iGd r3_31 [.o7, .o3, .o0] true (iP1 (bFa 1) r3_5 s3_32) (some s3_32) rfl rfl rfl), (iGd r3_31 [.o7, .o3, .o0] true (iR1 bLd r3_32 s3_33) (some s3_33) rfl rfl rfl), (iGd r3_31 [.o7, .o3, .o0] true (iP2 bNe r3_33 (rk (.int .u8 (.ofNat 3))) s3_34) (some s3_34) rfl rfl rfl), (iGp (l3 pPick) [r3_31, r3_34, (rk (.bool false))] (some s3_35))]
noncomputable def x138_6 : List (Ins tf3) := [(iMv r3_1 s3_37), (iP1 bNil r3_37 s3_38), (iP1 (bFa 0) r3_38 s3_39), (iR1 bLd r3_39 s3_40), (iP1 (bFa 6) r3_5 s3_41), (iGr (r1 (rLdn 2)) [r3_41] (some s3_42)), (iCall (rk (.func (.func 147) #[] #[])) [r3_40, r3_42] (some s3_43)), (iMv r3_43 s3_36), (iGp (l1 (pExt 0)) [r3_36] (some s3_44)), (iGp (l1 (pExt 1)) [r3_36] (some s3_45)), (iAs r3_44 s3_10), (iAs r3_45 s3_11)]
noncomputable def x138_7 : List (Ins tf3) := [(iMv r3_0 s3_46), (iMv r3_11 s3_47), (iCall (rk (.func (.func 43) #[] #[])) [r3_46, r3_47] (some s3_48))]
noncomputable def x138_8 : List (Ins tf3) := [(iAs (rk (.bool false)) s3_6)]
noncomputable def x138_9 : List (Ins tf3) := [(iMv r3_9 s3_49), (iMv r3_10 s3_50), (iGa (aBsl 1 1 [(.int .i64 (.ofNat 0))] [(0, 1)]) [r3_50] (some s3_51)), (iGm (m2 (sApp 1)) [r3_49, r3_51] (some s3_52)), (iAs r3_52 s3_9)]
noncomputable def x138_10 : List (Ins tf3) := [(iMv r3_0 s3_54), (iP1 bNil r3_54 s3_55), (iP1 (bFa 0) r3_55 s3_56), (iR1 bLd r3_56 s3_57), (iP1 (bFa 1) r3_5 s3_58), (iR1 bLd r3_58 s3_59), (iMv r3_9 s3_60), (iCall (rk (.func (.func 149) #[] #[])) [r3_57, r3_59, r3_60] (some s3_61)), (iMv r3_61 s3_53), (iGp (l1 (pExt 0)) [r3_53] (some s3_62)), (iGp (l1 (pExt 1)) [r3_53] (some s3_63)), (iAs r3_62 s3_12), (iAs r3_63 s3_8)]
noncomputable def x138_11 : List (Ins tf3) := [(iMv r3_0 s3_64), (iMv r3_1 s3_65), (iP1 (bFa 2) r3_5 s3_66), (iR1 bLd r3_66 s3_67), (iMv r3_12 s3_68), (iMv r3_8 s3_69), (iCall (rk (.func (.func 148) #[] #[])) [r3_64, r3_65, r3_67, r3_68, r3_69] (some s3_70)), (iAs r3_70 s3_6)]
noncomputable def x138 : XC tf3 := (.rg x138_0 (.rg x138_1 (.seq (.rg x138_2 (.cond r3_25 (.rg x138_3 .ret) .skip)) (.rg x138_4 (.seq (.rg x138_5 (.cond r3_35 (.rg x138_6 (.seq (.rg x138_7 (.cond r3_48 (.rg x138_8 .ret) .skip)) (.reg x138_9))) .skip)) (.rg x138_10 (.rg x138_11 .ret)))))))
noncomputable def c138 : Code := Tryd.f138.body.getD .skip
theorem x138_b : Tryd.f138.body = some c138 := by kernel_rfl
theorem x138_c : cG (comp Tryd.prog) 2 3 71 x138 c138 = x138.den := by kernel_rfl
noncomputable def y138 : List (RR Tryd.prog 3 71 tf3) := [rrT r3_6 6 rfl rfl]
theorem x138_r : y138.map RR.den = Tryd.f138.results.toList := by kernel_rfl
theorem x138_k : okFn Tryd.f138 = true := by kernel_rfl
theorem x138_D : 3 = dep Tryd.f138.ntmps := by kernel_rfl
theorem x138_s : ([s3_0, s3_1, s3_2] : List (Slot tf3)).map Slot.p = (List.range' 0 3).map (pth 3) := by kernel_rfl
noncomputable def X138 : XFn Tryd.prog 2 (comp Tryd.prog) := ⟨X3, tf3, 138, Tryd.f138, c138, 3, 71, [s3_0, s3_1, s3_2], z3, x138, y138, x138_D, Tryd.ntmps138.symm, Tryd.func138, x138_b, x138_k, x138_s, by decide, z3_ok, x138_c, x138_r⟩
noncomputable def x141_0 : List (Ins tf2) := [(iGa (a1 gBox) [r2_2] (some s2_5)), (iAs (rk (.bool false)) s2_6)]
noncomputable def x141_1 : List (Ins tf2) := [(iMv r2_0 s2_11), (iP1 bNil r2_11 s2_12), (iP1 (bFa 1) r2_12 s2_13), (iP1 (bFa 2) r2_13 s2_14), (iR1 bLd r2_14 s2_15), (iP1 bLen r2_15 s2_16), (iP1 (bFa 3) r2_5 s2_17), (iR1 bLd r2_17 s2_18), (iMv r2_1 s2_19), (iP1 bNil r2_19 s2_20), (iP1 (bFa 2) r2_20 s2_21), (iP1 (bFa 6) r2_21 s2_22), (iR1 bLd r2_22 s2_23), (iP1 (bFa 3) r2_5 s2_24), (iR1 bLd r2_24 s2_25), (iP2 (bIxs 1) r2_23 r2_25 s2_26), (iR1 bLd r2_26 s2_27), (iCall (rk (.func (.func 11) #[] #[])) [r2_16, r2_18, r2_27] (some s2_28)), (iMv r2_28 s2_10), (iGp (l1 (pExt 0)) [r2_10] (some s2_29)), (iGp (l1 (pExt 1)) [r2_10] (some s2_30)), (iAs r2_29 s2_7), (iAs r2_30 s2_8)]
noncomputable def x141_2 : List (Ins tf2) := [(iMv r2_0 s2_31), (iMv r2_8 s2_32), (iCall (rk (.func (.func 43) #[] #[])) [r2_31, r2_32] (some s2_33))]
noncomputable def x141_3 : List (Ins tf2) := [(iAs (rk (.bool false)) s2_6)]
noncomputable def x141_4 : List (Ins tf2) := [(iMv r2_1 s2_34), (iP1 bNil r2_34 s2_35), (iP1 (bFa 2) r2_35 s2_36), (iP1 (bFa 6) r2_36 s2_37), (iR1 bLd r2_37 s2_38), (iP1 (bFa 3) r2_5 s2_39), (iR1 bLd r2_39 s2_40), (iP2 (bIxs 1) r2_38 r2_40 s2_41), (iR1 bLd r2_41 s2_42), (iP2 bAdd r2_42 (rk (.int .i64 (.ofNat 1))) s2_43), (iP2 (bIxs 1) r2_38 r2_40 s2_44), (iM2 bSt r2_44 r2_43)]
noncomputable def x141_5 : List (Ins tf2) := [(iMv r2_0 s2_46), (iP1 bNil r2_46 s2_47), (iP1 (bFa 0) r2_47 s2_48), (iR1 bLd r2_48 s2_49), (iMv r2_7 s2_50), (iCall (rk (.func (.func 52) #[] #[])) [r2_49, r2_50] (some s2_51)), (iMv r2_51 s2_45), (iGp (l1 (pExt 0)) [r2_45] (some s2_52)), (iGp (l1 (pExt 1)) [r2_45] (some s2_53)), (iAs r2_52 s2_9), (iAs r2_53 s2_8)]
noncomputable def x141_6 : List (Ins tf2) := [(iMv r2_0 s2_54), (iMv r2_1 s2_55), (iP1 (bFa 2) r2_5 s2_56), (iR1 bLd r2_56 s2_57), (iMv r2_9 s2_58), (iMv r2_8 s2_59), (iCall (rk (.func (.func 148) #[] #[])) [r2_54, r2_55, r2_57, r2_58, r2_59] (some s2_60)), (iAs r2_60 s2_6)]
noncomputable def x141 : XC tf2 := (.rg x141_0 (.rg x141_1 (.seq (.rg x141_2 (.cond r2_33 (.rg x141_3 .ret) .skip)) (.rg x141_4 (.rg x141_5 (.rg x141_6 .ret))))))
noncomputable def c141 : Code := Tryd.f141.body.getD .skip
theorem x141_b : Tryd.f141.body = some c141 := by kernel_rfl
theorem x141_c : cG (comp Tryd.prog) 2 2 61 x141 c141 = x141.den := by kernel_rfl
noncomputable def y141 : List (RR Tryd.prog 2 61 tf2) := [rrT r2_6 6 rfl rfl]
theorem x141_r : y141.map RR.den = Tryd.f141.results.toList := by kernel_rfl
theorem x141_k : okFn Tryd.f141 = true := by kernel_rfl
theorem x141_D : 2 = dep Tryd.f141.ntmps := by kernel_rfl
theorem x141_s : ([s2_0, s2_1, s2_2] : List (Slot tf2)).map Slot.p = (List.range' 0 3).map (pth 2) := by kernel_rfl
noncomputable def X141 : XFn Tryd.prog 2 (comp Tryd.prog) := ⟨X2, tf2, 141, Tryd.f141, c141, 2, 61, [s2_0, s2_1, s2_2], z2, x141, y141, x141_D, Tryd.ntmps141.symm, Tryd.func141, x141_b, x141_k, x141_s, by decide, z2_ok, x141_c, x141_r⟩
noncomputable def x142_0 : List (Ins tf2) := [(iGa (a1 gBox) [r2_2] (some s2_5)), (iAs (rk (.bool false)) s2_6)]
noncomputable def x142_1 : List (Ins tf2) := [(iMv r2_1 s2_10), (iP1 bNil r2_10 s2_11), (iP1 (bFa 0) r2_11 s2_12), (iR1 bLd r2_12 s2_13), (iP1 (bFa 4) r2_5 s2_14), (iGr (r1 (rLdn 2)) [r2_14] (some s2_15)), (iCall (rk (.func (.func 147) #[] #[])) [r2_13, r2_15] (some s2_16)), (iMv r2_16 s2_9), (iGp (l1 (pExt 0)) [r2_9] (some s2_17)), (iGp (l1 (pExt 1)) [r2_9] (some s2_18)), (iAs r2_17 s2_7), (iAs r2_18 s2_8)]
noncomputable def x142_2 : List (Ins tf2) := [(iMv r2_0 s2_19), (iMv r2_8 s2_20), (iCall (rk (.func (.func 43) #[] #[])) [r2_19, r2_20] (some s2_21))]
noncomputable def x142_3 : List (Ins tf2) := [(iAs (rk (.bool false)) s2_6)]
noncomputable def x142_4 : List (Ins tf2) := [(iMv r2_1 s2_22), (iMv r2_1 s2_23), (iP1 bNil r2_23 s2_24), (iP1 (bFa 2) r2_24 s2_25), (iP1 (bFa 3) r2_25 s2_26), (iR1 bLd r2_26 s2_27), (iP1 (bFa 3) r2_5 s2_28), (iR1 bLd r2_28 s2_29), (iMv r2_7 s2_30), (iGp (pBld [(.int .i64 (.ofNat 0)), (.int .i64 (.ofNat 0))] [(0, 1), (1, 1)]) [r2_29, r2_30] (some s2_31)), (iGa (aBsl 1 2 [(.int .i64 (.ofNat 0)), (.int .i64 (.ofNat 0))] [(0, 2)]) [r2_31] (some s2_32)), (iGm (m2 (sApp 2)) [r2_27, r2_32] (some s2_33)), (iP1 bNil r2_22 s2_34), (iP1 (bFa 2) r2_34 s2_35), (iP1 (bFa 3) r2_35 s2_36), (iM2 bSt r2_36 r2_33)]
noncomputable def x142_5 : List (Ins tf2) := [(iMv r2_1 s2_37), (iP1 bNil r2_37 s2_38), (iP1 (bFa 1) r2_38 s2_39), (iR1 bLd r2_39 s2_40), (iP2 bAdd r2_40 (rk (.int .i64 (.ofNat 1))) s2_41), (iP1 bNil r2_37 s2_42), (iP1 (bFa 1) r2_42 s2_43), (iM2 bSt r2_43 r2_41)]
noncomputable def x142_6 : List (Ins tf2) := [(iMv r2_0 s2_44), (iMv r2_0 s2_45), (iP1 bNil r2_45 s2_46), (iP1 (bFa 8) r2_46 s2_47), (iR1 bLd r2_47 s2_48), (iMv r2_1 s2_49), (iP1 bNil r2_49 s2_50), (iGr (r1 (rLdn 9)) [r2_50] (some s2_51)), (iGa (aBsl 1 9 [(.pointer none), (.int .i64 (.ofNat 0)), (.slice none 0 0), (.int .u8 (.ofNat 0)), (.int .i64 (.ofNat 0)), (.slice none 0 0), (.slice none 0 0), (.slice none 0 0), (.slice none 0 0)] [(0, 9)]) [r2_51] (some s2_52)), (iGm (m2 (sApp 9)) [r2_48, r2_52] (some s2_53)), (iP1 bNil r2_44 s2_54), (iP1 (bFa 8) r2_54 s2_55), (iM2 bSt r2_55 r2_53)]
noncomputable def x142_7 : List (Ins tf2) := [(iAs (rk (.bool false)) s2_6)]
noncomputable def x142 : XC tf2 := (.rg x142_0 (.rg x142_1 (.seq (.rg x142_2 (.cond r2_21 (.rg x142_3 .ret) .skip)) (.rg x142_4 (.rg x142_5 (.rg x142_6 (.rg x142_7 .ret)))))))
noncomputable def c142 : Code := Tryd.f142.body.getD .skip
theorem x142_b : Tryd.f142.body = some c142 := by kernel_rfl
theorem x142_c : cG (comp Tryd.prog) 2 2 56 x142 c142 = x142.den := by kernel_rfl
noncomputable def y142 : List (RR Tryd.prog 2 56 tf2) := [rrT r2_6 6 rfl rfl]
theorem x142_r : y142.map RR.den = Tryd.f142.results.toList := by kernel_rfl
theorem x142_k : okFn Tryd.f142 = true := by kernel_rfl
theorem x142_D : 2 = dep Tryd.f142.ntmps := by kernel_rfl
theorem x142_s : ([s2_0, s2_1, s2_2] : List (Slot tf2)).map Slot.p = (List.range' 0 3).map (pth 2) := by kernel_rfl
noncomputable def X142 : XFn Tryd.prog 2 (comp Tryd.prog) := ⟨X2, tf2, 142, Tryd.f142, c142, 2, 56, [s2_0, s2_1, s2_2], z2, x142, y142, x142_D, Tryd.ntmps142.symm, Tryd.func142, x142_b, x142_k, x142_s, by decide, z2_ok, x142_c, x142_r⟩
noncomputable def x145_0 : List (Ins tf2) := [(iGa (a1 gBox) [r2_2] (some s2_5)), (iAs (rk (.bool false)) s2_6)]
noncomputable def x145_1 : List (Ins tf2) := [(iMv r2_1 s2_12), (iP1 bNil r2_12 s2_13), (iP1 (bFa 0) r2_13 s2_14), (iR1 bLd r2_14 s2_15), (iP1 (bFa 4) r2_5 s2_16), (iGr (r1 (rLdn 2)) [r2_16] (some s2_17)), (iCall (rk (.func (.func 147) #[] #[])) [r2_15, r2_17] (some s2_18)), (iMv r2_18 s2_11), (iGp (l1 (pExt 0)) [r2_11] (some s2_19)), (iGp (l1 (pExt 1)) [r2_11] (some s2_20)), (iAs r2_19 s2_7), (iAs r2_20 s2_8)]
noncomputable def x145_2 : List (Ins tf2) := [(iMv r2_0 s2_21), (iMv r2_8 s2_22), (iCall (rk (.func (.func 43) #[] #[])) [r2_21, r2_22] (some s2_23))]
noncomputable def x145_3 : List (Ins tf2) := [(iAs (rk (.bool false)) s2_6)]
noncomputable def x145_4 : List (Ins tf2) := [(iMv r2_0 s2_25), (iP1 bNil r2_25 s2_26), (iP1 (bFa 0) r2_26 s2_27), (iR1 bLd r2_27 s2_28), (iCall (rk (.func (.func 50) #[] #[])) [r2_28, (rk (.int .u64 (.ofNat 0)))] (some s2_29)), (iMv r2_29 s2_24), (iGp (l1 (pExt 0)) [r2_24] (some s2_30)), (iGp (l1 (pExt 1)) [r2_24] (some s2_31)), (iAs r2_30 s2_9), (iAs r2_31 s2_8)]
noncomputable def x145_5 : List (Ins tf2) := [(iMv r2_0 s2_32), (iMv r2_8 s2_33), (iCall (rk (.func (.func 43) #[] #[])) [r2_32, r2_33] (some s2_34))]
noncomputable def x145_6 : List (Ins tf2) := [(iAs (rk (.bool false)) s2_6)]
noncomputable def x145_7 : List (Ins tf2) := [(iMv r2_0 s2_36), (iP1 bNil r2_36 s2_37), (iP1 (bFa 0) r2_37 s2_38), (iR1 bLd r2_38 s2_39), (iMv r2_7 s2_40), (iMv r2_9 s2_41), (iGa (aBsl 2 1 [(.int .i64 (.ofNat 0))] [(0, 1), (1, 1)]) [r2_40, r2_41] (some s2_42)), (iCall (rk (.func (.func 149) #[] #[])) [r2_39, (rk (.int .u8 (.ofNat 15))), r2_42] (some s2_43)), (iMv r2_43 s2_35), (iGp (l1 (pExt 0)) [r2_35] (some s2_44)), (iGp (l1 (pExt 1)) [r2_35] (some s2_45)), (iAs r2_44 s2_10), (iAs r2_45 s2_8)]
noncomputable def x145_8 : List (Ins tf2) := [(iMv r2_0 s2_46), (iMv r2_8 s2_47), (iCall (rk (.func (.func 43) #[] #[])) [r2_46, r2_47] (some s2_48))]
noncomputable def x145_9 : List (Ins tf2) := [(iAs (rk (.bool false)) s2_6)]
noncomputable def x145_10 : List (Ins tf2) := [(iMv r2_0 s2_49), (iMv r2_1 s2_50), (iP1 bNil r2_50 s2_51), (iGr (r1 (rLdn 9)) [r2_51] (some s2_52)), (iMv r2_10 s2_53), (iGp (pMkf (.func 158) 0) [r2_5] (some s2_54)), (iCall (rk (.func (.func 156) #[] #[])) [r2_49, r2_52, r2_53, (rk (.func (.func 157) #[] #[])), r2_54] (some s2_55))]
noncomputable def x145_11 : List (Ins tf2) := [(iAs (rk (.bool false)) s2_6)]
noncomputable def x145 : XC tf2 := (.rg x145_0 (.rg x145_1 (.seq (.rg x145_2 (.cond r2_23 (.rg x145_3 .ret) .skip)) (.rg x145_4 (.seq (.rg x145_5 (.cond r2_34 (.rg x145_6 .ret) .skip)) (.rg x145_7 (.seq (.rg x145_8 (.cond r2_48 (.rg x145_9 .ret) .skip)) (.rg x145_10 (.rg x145_11 .ret)))))))))
noncomputable def c145 : Code := Tryd.f145.body.getD .skip
theorem x145_b : Tryd.f145.body = some c145 := by kernel_rfl
theorem x145_c : cG (comp Tryd.prog) 2 2 56 x145 c145 = x145.den := by kernel_rfl
noncomputable def y145 : List (RR Tryd.prog 2 56 tf2) := [rrT r2_6 6 rfl rfl]
theorem x145_r : y145.map RR.den = Tryd.f145.results.toList := by kernel_rfl
theorem x145_k : okFn Tryd.f145 = true := by kernel_rfl
theorem x145_D : 2 = dep Tryd.f145.ntmps := by kernel_rfl
theorem x145_s : ([s2_0, s2_1, s2_2] : List (Slot tf2)).map Slot.p = (List.range' 0 3).map (pth 2) := by kernel_rfl
noncomputable def X145 : XFn Tryd.prog 2 (comp Tryd.prog) := ⟨X2, tf2, 145, Tryd.f145, c145, 2, 56, [s2_0, s2_1, s2_2], z2, x145, y145, x145_D, Tryd.ntmps145.symm, Tryd.func145, x145_b, x145_k, x145_s, by decide, z2_ok, x145_c, x145_r⟩
noncomputable def x146_0 : List (Ins tf2) := [(iGa (a1 gBox) [r2_2] (some s2_5)), (iAs (rk (.bool false)) s2_6)]
noncomputable def x146_1 : List (Ins tf2) := [(iMv r2_1 s2_7), (iP1 bNil r2_7 s2_8), (iP1 (bFa 2) r2_8 s2_9), (iP1 (bFa 1) r2_9 s2_10), (iM2 bSt r2_10 (rk (.int .u8 (.ofNat 0))))]
noncomputable def x146_2 : List (Ins tf2) := [(iAs (rk (.bool true)) s2_6)]
noncomputable def x146 : XC tf2 := (.rg x146_0 (.rg x146_1 (.rg x146_2 .ret)))
noncomputable def c146 : Code := Tryd.f146.body.getD .skip
theorem x146_b : Tryd.f146.body = some c146 := by kernel_rfl
theorem x146_c : cG (comp Tryd.prog) 2 2 11 x146 c146 = x146.den := by kernel_rfl
noncomputable def y146 : List (RR Tryd.prog 2 11 tf2) := [rrT r2_6 6 rfl rfl]
theorem x146_r : y146.map RR.den = Tryd.f146.results.toList := by kernel_rfl
theorem x146_k : okFn Tryd.f146 = true := by kernel_rfl
theorem x146_D : 2 = dep Tryd.f146.ntmps := by kernel_rfl
theorem x146_s : ([s2_0, s2_1, s2_2] : List (Slot tf2)).map Slot.p = (List.range' 0 3).map (pth 2) := by kernel_rfl
noncomputable def X146 : XFn Tryd.prog 2 (comp Tryd.prog) := ⟨X2, tf2, 146, Tryd.f146, c146, 2, 11, [s2_0, s2_1, s2_2], z2, x146, y146, x146_D, Tryd.ntmps146.symm, Tryd.func146, x146_b, x146_k, x146_s, by decide, z2_ok, x146_c, x146_r⟩
noncomputable def x147_0 : List (Ins tf2) := [(iGa (a1 gBox) [r2_1] (some s2_3)), (iAs (rk (.int .i64 (.ofNat 0))) s2_4), (iAs (rk (.int .i64 (.ofNat 0))) s2_5)]
noncomputable def x147_1 : List (Ins tf2) := [(iMv r2_0 s2_6), (iGp (l2 (pEqD (tdOf 96) false)) [r2_6, (rk (.pointer none))] (some s2_7))]
noncomputable def x147_2 : List (Ins tf2) := [(iAs (rk (.int .i64 (.ofNat 0))) s2_4), (iAs (rk (.int .i64 (.ofNat 1))) s2_5)]
noncomputable def x147_3 : List (Ins tf2) := [(iP1 (bFa 0) r2_3 s2_8), (iR1 bLd r2_8 s2_9), (iP2 bLt r2_9 (rk (.int .i64 (.negSucc 0))) s2_10), (iMv r2_10 s2_11), (iGd r2_11 [.o3, .o1] false (iP1 (bFa 0) r2_3 s2_12) (some s2_12) rfl rfl rfl), (iGd r2_11 [.o3, .o1] false (iR1 bLd r2_12 s2_13) (some s2_13) rfl rfl rfl), (iGd r2_11 [.o3, .o1] false (iMv r2_0 s2_14) (some s2_14) rfl rfl rfl), (iGd r2_11 [.o3, .o1] false (iP1 bNil r2_14 s2_15) (some s2_15) rfl rfl rfl), (iGd r2_11 [.o3, .o1] false (iP1 (bFa 1) r2_15 s2_16) (some s2_16) rfl rfl rfl), (iGd r2_11 [.o3, .o1] false (iR1 bLd r2_16 s2_17) (some s2_17) rfl rfl rfl), (iGd r2_11 [.o3, .o1] false (iP1 bLen r2_17 s2_18) (some s2_18) rfl rfl rfl), (iGd r2_11 [.o3, .o1] false (iP2 bGe r2_13 r2_18 s2_19) (some s2_19) rfl rfl rfl), (iGp (l3 pPick) [r2_11, (rk (.bool true)), r2_19] (some s2_20))]
noncomputable def x147_4 : List (Ins tf2) := [(iAs (rk (.int .i64 (.ofNat 0))) s2_4), (iAs (rk (.int .i64 (.ofNat 3))) s2_5)]
noncomputable def x147_5 : List (Ins tf2) := [(iP1 (bFa 0) r2_3 s2_21), (iR1 bLd r2_21 s2_22), (iP2 bEq r2_22 (rk (.int .i64 (.negSucc 0))) s2_23)]
noncomputable def x147_6 : List (Ins tf2) := [(iMv r2_0 s2_24), (iP1 bNil r2_24 s2_25), (iP1 (bFa 0) r2_25 s2_26), (iR1 bLd r2_26 s2_27), (iP1 (bFa 1) r2_3 s2_28), (iR1 bLd r2_28 s2_29), (iCall (rk (.func (.func 50) #[] #[])) [r2_27, r2_29] (some s2_30)), (iGp (l1 (pExt 0)) [r2_30] (some s2_31)), (iGp (l1 (pExt 1)) [r2_30] (some s2_32)), (iAs r2_31 s2_4), (iAs r2_32 s2_5)]
noncomputable def x147_7 : List (Ins tf2) := [(iMv r2_0 s2_33), (iP1 bNil r2_33 s2_34), (iP1 (bFa 1) r2_34 s2_35), (iR1 bLd r2_35 s2_36), (iP1 (bFa 0) r2_3 s2_37), (iR1 bLd r2_37 s2_38), (iP2 (bIxs 1) r2_36 r2_38 s2_39), (iR1 bLd r2_39 s2_40), (iAs r2_40 s2_4), (iAs (rk (.int .i64 (.ofNat 0))) s2_5)]
noncomputable def x147 : XC tf2 := (.rg x147_0 (.seq (.rg x147_1 (.cond r2_7 (.rg x147_2 .ret) .skip)) (.seq (.rg x147_3 (.cond r2_20 (.rg x147_4 .ret) .skip)) (.seq (.rg x147_5 (.cond r2_23 (.rg x147_6 .ret) .skip)) (.rg x147_7 .ret)))))
noncomputable def c147 : Code := Tryd.f147.body.getD .skip
theorem x147_b : Tryd.f147.body = some c147 := by kernel_rfl
theorem x147_c : cG (comp Tryd.prog) 2 2 41 x147 c147 = x147.den := by kernel_rfl
noncomputable def y147 : List (RR Tryd.prog 2 41 tf2) := [rrT r2_4 4 rfl rfl, rrT r2_5 5 rfl rfl]
theorem x147_r : y147.map RR.den = Tryd.f147.results.toList := by kernel_rfl
theorem x147_k : okFn Tryd.f147 = true := by kernel_rfl
theorem x147_D : 2 = dep Tryd.f147.ntmps := by kernel_rfl
theorem x147_s : ([s2_0, s2_1] : List (Slot tf2)).map Slot.p = (List.range' 0 2).map (pth 2) := by kernel_rfl
noncomputable def X147 : XFn Tryd.prog 2 (comp Tryd.prog) := ⟨X2, tf2, 147, Tryd.f147, c147, 2, 41, [s2_0, s2_1], z2, x147, y147, x147_D, Tryd.ntmps147.symm, Tryd.func147, x147_b, x147_k, x147_s, by decide, z2_ok, x147_c, x147_r⟩
noncomputable def x148_0 : List (Ins tf2) := [(iAs (rk (.bool false)) s2_10)]
noncomputable def x148_1 : List (Ins tf2) := [(iMv r2_0 s2_11), (iMv r2_4 s2_12), (iCall (rk (.func (.func 43) #[] #[])) [r2_11, r2_12] (some s2_13)), (iMv r2_13 s2_14), (iGd r2_14 [.o6, .o1] false (iMv r2_0 s2_15) (some s2_15) rfl rfl rfl), (iGd r2_14 [.o6, .o1] false (iMv r2_1 s2_16) (some s2_16) rfl rfl rfl), (iGd r2_14 [.o6, .o1] false (iP1 bNil r2_16 s2_17) (some s2_17) rfl rfl rfl), (iGd r2_14 [.o6, .o1] false (iP1 (bFa 0) r2_17 s2_18) (some s2_18) rfl rfl rfl), (iGd r2_14 [.o6, .o1] false (iR1 bLd r2_18 s2_19) (some s2_19) rfl rfl rfl), (iGd r2_14 [.o6, .o1] false (iMv r2_2 s2_20) (some s2_20) rfl rfl rfl), (iGd r2_14 [.o6, .o1] false (iMv r2_3 s2_21) (some s2_21) rfl rfl rfl), (iGd r2_14 [.o6, .o1] false (iCall (rk (.func (.func 153) #[] #[])) [r2_19, r2_20, r2_21] (some s2_22)) (some s2_22) rfl rfl rfl), (iGd r2_14 [.o6, .o1] false (iCall (rk (.func (.func 43) #[] #[])) [r2_15, r2_22] (some s2_23)) (some s2_23) rfl rfl rfl), (iGp (l3 pPick) [r2_14, (rk (.bool true)), r2_23] (some s2_24))]
noncomputable def x148_2 : List (Ins tf2) := [(iAs (rk (.bool false)) s2_10)]
noncomputable def x148_3 : List (Ins tf2) := [(iMv r2_1 s2_25), (iP1 bNil r2_25 s2_26), (iP1 (bFa 1) r2_26 s2_27), (iR1 bLd r2_27 s2_28), (iP2 bAdd r2_28 (rk (.int .i64 (.ofNat 1))) s2_29), (iP1 bNil r2_25 s2_30), (iP1 (bFa 1) r2_30 s2_31), (iM2 bSt r2_31 r2_29)]
noncomputable def x148_4 : List (Ins tf2) := [(iMv r2_0 s2_32), (iMv r2_0 s2_33), (iP1 bNil r2_33 s2_34), (iP1 (bFa 8) r2_34 s2_35), (iR1 bLd r2_35 s2_36), (iMv r2_1 s2_37), (iP1 bNil r2_37 s2_38), (iGr (r1 (rLdn 9)) [r2_38] (some s2_39)), (iGa (aBsl 1 9 [(.pointer none), (.int .i64 (.ofNat 0)), (.slice none 0 0), (.int .u8 (.ofNat 0)), (.int .i64 (.ofNat 0)), (.slice none 0 0), (.slice none 0 0), (.slice none 0 0), (.slice none 0 0)] [(0, 9)]) [r2_39] (some s2_40)), (iGm (m2 (sApp 9)) [r2_36, r2_40] (some s2_41)), (iP1 bNil r2_32 s2_42), (iP1 (bFa 8) r2_42 s2_43), (iM2 bSt r2_43 r2_41)]
noncomputable def x148_5 : List (Ins tf2) := [(iAs (rk (.bool false)) s2_10)]
noncomputable def x148 : XC tf2 := (.rg x148_0 (.seq (.rg x148_1 (.cond r2_24 (.rg x148_2 .ret) .skip)) (.rg x148_3 (.rg x148_4 (.rg x148_5 .ret)))))
noncomputable def c148 : Code := Tryd.f148.body.getD .skip
theorem x148_b : Tryd.f148.body = some c148 := by kernel_rfl
theorem x148_c : cG (comp Tryd.prog) 2 2 44 x148 c148 = x148.den := by kernel_rfl
noncomputable def y148 : List (RR Tryd.prog 2 44 tf2) := [rrT r2_10 10 rfl rfl]
theorem x148_r : y148.map RR.den = Tryd.f148.results.toList := by kernel_rfl
theorem x148_k : okFn Tryd.f148 = true := by kernel_rfl
theorem x148_D : 2 = dep Tryd.f148.ntmps := by kernel_rfl
theorem x148_s : ([s2_0, s2_1, s2_2, s2_3, s2_4] : List (Slot tf2)).map Slot.p = (List.range' 0 5).map (pth 2) := by kernel_rfl
noncomputable def X148 : XFn Tryd.prog 2 (comp Tryd.prog) := ⟨X2, tf2, 148, Tryd.f148, c148, 2, 44, [s2_0, s2_1, s2_2, s2_3, s2_4], z2, x148, y148, x148_D, Tryd.ntmps148.symm, Tryd.func148, x148_b, x148_k, x148_s, by decide, z2_ok, x148_c, x148_r⟩
end Cr
end Go.Proofs.YtjhbabgcoemecaaDoor
