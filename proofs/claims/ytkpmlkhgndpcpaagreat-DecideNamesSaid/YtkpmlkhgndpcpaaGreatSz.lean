/- The codes of the run. -/
import Derived.Test.YtkpmlkhgndpcpaaGreatSb
import Derived.KernelRfl
namespace Go.Proofs.YtkpmlkhgndpcpaaGreat
namespace Cr
open Go Go.RowKit
open Sn
namespace Rn
def x3 : Ctx := ⟨3, 3, 128, none⟩
noncomputable def c1 : Code := Tryz.f3.body.getD .skip
theorem ec1 : Tryz.f3.body = some c1 := by kernel_rfl
noncomputable def c5 : Code := restC 2 c1
noncomputable def c6 : Code := lft c5
noncomputable def c7 : Code := rgt c5
theorem ec5 : c5 = .seq c6 c7 := by kernel_rfl
noncomputable def c8 : Code := lft c6
noncomputable def c9 : Code := rgt c6
theorem ec6 : c6 = .seq c8 c9 := by kernel_rfl
def x4 : Ctx := ⟨4, 3, 69, none⟩
noncomputable def c14 : Code := Tryz.f4.body.getD .skip
theorem ec14 : Tryz.f4.body = some c14 := by kernel_rfl
noncomputable def c18 : Code := restC 4 c14
noncomputable def c19 : Code := lft c18
noncomputable def c20 : Code := rgt c18
theorem ec18 : c18 = .seq c19 c20 := by kernel_rfl
def x6 : Ctx := ⟨6, 3, 101, none⟩
noncomputable def c24 : Code := Tryz.f6.body.getD .skip
theorem ec24 : Tryz.f6.body = some c24 := by kernel_rfl
noncomputable def c28 : Code := restC 7 c24
noncomputable def c29 : Code := lft c28
noncomputable def c30 : Code := rgt c28
theorem ec28 : c28 = .seq c29 c30 := by kernel_rfl
noncomputable def c33 : Code := restC 1 c29
noncomputable def c34 : Code := inn c33
theorem ec33 : c33 = .block 0 c34 := by kernel_rfl
noncomputable def c35 : Code := inn c34
theorem ec34 : c34 = .loop c35 := by kernel_rfl
noncomputable def c48 : Code := restC 1 c30
noncomputable def c49 : Code := lft c48
noncomputable def c50 : Code := rgt c48
theorem ec48 : c48 = .seq c49 c50 := by kernel_rfl
def x18 : Ctx := ⟨18, 3, 191, none⟩
noncomputable def c55 : Code := Tryz.f18.body.getD .skip
theorem ec55 : Tryz.f18.body = some c55 := by kernel_rfl
noncomputable def c59 : Code := restC 1 c55
noncomputable def c60 : Code := inn c59
theorem ec59 : c59 = .scope c60 := by kernel_rfl
noncomputable def c64 : Code := restC 6 c60
noncomputable def c65 : Code := lft c64
noncomputable def c66 : Code := rgt c64
theorem ec64 : c64 = .seq c65 c66 := by kernel_rfl
noncomputable def c67 : Code := lft c65
noncomputable def c68 : Code := rgt c65
theorem ec65 : c65 = .seq c67 c68 := by kernel_rfl
def x32 : Ctx := ⟨32, 2, 55, none⟩
noncomputable def c72 : Code := Tryz.f32.body.getD .skip
theorem ec72 : Tryz.f32.body = some c72 := by kernel_rfl
noncomputable def c76 : Code := restC 1 c72
noncomputable def c77 : Code := lft c76
noncomputable def c78 : Code := rgt c76
theorem ec76 : c76 = .seq c77 c78 := by kernel_rfl
noncomputable def c81 : Code := restC 1 c77
noncomputable def c82 : Code := inn c81
theorem ec81 : c81 = .block 0 c82 := by kernel_rfl
noncomputable def c83 : Code := inn c82
theorem ec82 : c82 = .loop c83 := by kernel_rfl
noncomputable def c118 : Code := restC 2 c66
noncomputable def c119 : Code := lft c118
noncomputable def c120 : Code := rgt c118
theorem ec118 : c118 = .seq c119 c120 := by kernel_rfl
noncomputable def c121 : Code := inn c119
theorem ec119 : c119 = .block 0 c121 := by kernel_rfl
noncomputable def c122 : Code := inn c121
theorem ec121 : c121 = .loop c122 := by kernel_rfl
noncomputable def c126 : Code := inn c122
theorem ec122 : c122 = .block 1 c126 := by kernel_rfl
noncomputable def c130 : Code := restC 1 c126
noncomputable def c158 : Code := restC 4 c50
noncomputable def c159 : Code := lft c158
noncomputable def c160 : Code := rgt c158
theorem ec158 : c158 = .seq c159 c160 := by kernel_rfl
def x20 : Ctx := ⟨20, 3, 71, none⟩
noncomputable def c164 : Code := Tryz.f20.body.getD .skip
theorem ec164 : Tryz.f20.body = some c164 := by kernel_rfl
noncomputable def c168 : Code := restC 4 c164
noncomputable def c169 : Code := lft c168
noncomputable def c170 : Code := rgt c168
theorem ec168 : c168 = .seq c169 c170 := by kernel_rfl
noncomputable def c174 : Code := restC 1 c169
noncomputable def c175 : Code := inn c174
theorem ec174 : c174 = .block 0 c175 := by kernel_rfl
noncomputable def c176 : Code := inn c175
theorem ec175 : c175 = .loop c176 := by kernel_rfl
noncomputable def c177 : Code := lft c176
noncomputable def c178 : Code := rgt c176
theorem ec176 : c176 = .seq c177 c178 := by kernel_rfl
noncomputable def c245 : Code := restC 9 c24
noncomputable def c246 : Code := lft c245
noncomputable def c247 : Code := rgt c245
theorem ec245 : c245 = .seq c246 c247 := by kernel_rfl
noncomputable def c484 : Code := restC 14 c24
noncomputable def c485 : Code := lft c484
noncomputable def c486 : Code := rgt c484
theorem ec484 : c484 = .seq c485 c486 := by kernel_rfl
noncomputable def c615 : Code := restC 1 c7
noncomputable def c616 : Code := lft c615
noncomputable def c617 : Code := rgt c615
theorem ec615 : c615 = .seq c616 c617 := by kernel_rfl
noncomputable def c624 : Code := restC 2 c24
noncomputable def c625 : Code := lft c624
noncomputable def c626 : Code := rgt c624
theorem ec624 : c624 = .seq c625 c626 := by kernel_rfl
def x14 : Ctx := ⟨14, 2, 38, none⟩
noncomputable def c630 : Code := Tryz.f14.body.getD .skip
theorem ec630 : Tryz.f14.body = some c630 := by kernel_rfl
noncomputable def c658 : Code := restC 3 c617
noncomputable def c659 : Code := lft c658
noncomputable def c660 : Code := rgt c658
theorem ec658 : c658 = .seq c659 c660 := by kernel_rfl
def x7 : Ctx := ⟨7, 2, 9, none⟩
noncomputable def c663 : Code := Tryz.f7.body.getD .skip
theorem ec663 : Tryz.f7.body = some c663 := by kernel_rfl
noncomputable def c666 : Code := restC 1 c663
noncomputable def c667 : Code := lft c666
noncomputable def c668 : Code := rgt c666
theorem ec666 : c666 = .seq c667 c668 := by kernel_rfl
noncomputable def c748 : Code := restC 4 c247
noncomputable def c749 : Code := lft c748
noncomputable def c750 : Code := rgt c748
theorem ec748 : c748 = .seq c749 c750 := by kernel_rfl
end Rn
end Cr
end Go.Proofs.YtkpmlkhgndpcpaaGreat
