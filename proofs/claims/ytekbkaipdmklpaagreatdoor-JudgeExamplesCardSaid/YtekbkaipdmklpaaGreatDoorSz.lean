/- The codes of the run. -/
import Derived.Test.YtekbkaipdmklpaaGreatDoorSb
import Derived.KernelRfl
namespace Go.Proofs.YtekbkaipdmklpaaGreatDoor
namespace Cr
open Go Go.RowKit
open Sn
namespace Rn
def x3 : Ctx := ⟨3, 3, 116, none⟩
noncomputable def c1 : Code := Tryz.f3.body.getD .skip
theorem ec1 : Tryz.f3.body = some c1 := by kernel_rfl
noncomputable def c5 : Code := restC 1 c1
noncomputable def c6 : Code := lft c5
noncomputable def c7 : Code := rgt c5
theorem ec5 : c5 = .seq c6 c7 := by kernel_rfl
noncomputable def c8 : Code := lft c6
noncomputable def c9 : Code := rgt c6
theorem ec6 : c6 = .seq c8 c9 := by kernel_rfl
def x5 : Ctx := ⟨5, 2, 63, none⟩
noncomputable def c12 : Code := Tryz.f5.body.getD .skip
theorem ec12 : Tryz.f5.body = some c12 := by kernel_rfl
noncomputable def c16 : Code := restC 1 c12
noncomputable def c17 : Code := lft c16
noncomputable def c18 : Code := rgt c16
theorem ec16 : c16 = .seq c17 c18 := by kernel_rfl
def x12 : Ctx := ⟨12, 3, 68, none⟩
noncomputable def c22 : Code := Tryz.f12.body.getD .skip
theorem ec22 : Tryz.f12.body = some c22 := by kernel_rfl
def x27 : Ctx := ⟨27, 3, 96, none⟩
noncomputable def c24 : Code := Tryz.f27.body.getD .skip
theorem ec24 : Tryz.f27.body = some c24 := by kernel_rfl
def x29 : Ctx := ⟨29, 2, 28, none⟩
noncomputable def c31 : Code := Tryz.f29.body.getD .skip
theorem ec31 : Tryz.f29.body = some c31 := by kernel_rfl
def x33 : Ctx := ⟨33, 2, 16, none⟩
noncomputable def c54 : Code := Tryz.f33.body.getD .skip
theorem ec54 : Tryz.f33.body = some c54 := by kernel_rfl
noncomputable def c72 : Code := restC 3 c18
noncomputable def c73 : Code := lft c72
noncomputable def c74 : Code := rgt c72
theorem ec72 : c72 = .seq c73 c74 := by kernel_rfl
noncomputable def c75 : Code := lft c73
noncomputable def c76 : Code := rgt c73
theorem ec73 : c73 = .seq c75 c76 := by kernel_rfl
def x14 : Ctx := ⟨14, 3, 85, none⟩
noncomputable def c80 : Code := Tryz.f14.body.getD .skip
theorem ec80 : Tryz.f14.body = some c80 := by kernel_rfl
noncomputable def c84 : Code := restC 2 c80
noncomputable def c106 : Code := restC 2 c74
noncomputable def c107 : Code := lft c106
noncomputable def c108 : Code := rgt c106
theorem ec106 : c106 = .seq c107 c108 := by kernel_rfl
def x6 : Ctx := ⟨6, 3, 149, none⟩
noncomputable def c112 : Code := Tryz.f6.body.getD .skip
theorem ec112 : Tryz.f6.body = some c112 := by kernel_rfl
def x18 : Ctx := ⟨18, 2, 43, none⟩
noncomputable def c114 : Code := Tryz.f18.body.getD .skip
theorem ec114 : Tryz.f18.body = some c114 := by kernel_rfl
def x22 : Ctx := ⟨22, 3, 178, none⟩
noncomputable def c123 : Code := Tryz.f22.body.getD .skip
theorem ec123 : Tryz.f22.body = some c123 := by kernel_rfl
noncomputable def c127 : Code := restC 1 c123
noncomputable def c128 : Code := inn c127
theorem ec127 : c127 = .scope c128 := by kernel_rfl
noncomputable def c132 : Code := restC 8 c128
noncomputable def c133 : Code := lft c132
noncomputable def c134 : Code := rgt c132
theorem ec132 : c132 = .seq c133 c134 := by kernel_rfl
noncomputable def c135 : Code := inn c133
theorem ec133 : c133 = .block 0 c135 := by kernel_rfl
noncomputable def c136 : Code := inn c135
theorem ec135 : c135 = .loop c136 := by kernel_rfl
noncomputable def c141 : Code := restC 1 c136
noncomputable def c142 : Code := inn c141
theorem ec141 : c141 = .block 1 c142 := by kernel_rfl
noncomputable def c146 : Code := restC 2 c142
noncomputable def c147 : Code := lft c146
noncomputable def c148 : Code := rgt c146
theorem ec146 : c146 = .seq c147 c148 := by kernel_rfl
noncomputable def c149 : Code := inn c147
theorem ec147 : c147 = .block 2 c149 := by kernel_rfl
noncomputable def c152 : Code := restC 1 c149
noncomputable def c153 : Code := els c152
noncomputable def c156 : Code := restC 1 c153
noncomputable def c157 : Code := els c156
noncomputable def c161 : Code := restC 2 c157
noncomputable def c162 : Code := lft c161
noncomputable def c163 : Code := rgt c161
theorem ec161 : c161 = .seq c162 c163 := by kernel_rfl
def x407 : Ctx := ⟨407, 2, 56, none⟩
noncomputable def c168 : Code := Tryz.f407.body.getD .skip
theorem ec168 : Tryz.f407.body = some c168 := by kernel_rfl
noncomputable def c172 : Code := restC 7 c168
noncomputable def c173 : Code := lft c172
noncomputable def c174 : Code := rgt c172
theorem ec172 : c172 = .seq c173 c174 := by kernel_rfl
def x417 : Ctx := ⟨417, 3, 73, none⟩
noncomputable def c178 : Code := Tryz.f417.body.getD .skip
theorem ec178 : Tryz.f417.body = some c178 := by kernel_rfl
noncomputable def c182 : Code := restC 5 c178
noncomputable def c183 : Code := lft c182
noncomputable def c184 : Code := rgt c182
theorem ec182 : c182 = .seq c183 c184 := by kernel_rfl
def x426 : Ctx := ⟨426, 2, 57, none⟩
noncomputable def c188 : Code := Tryz.f426.body.getD .skip
theorem ec188 : Tryz.f426.body = some c188 := by kernel_rfl
noncomputable def c192 : Code := restC 2 c188
noncomputable def c193 : Code := lft c192
noncomputable def c194 : Code := rgt c192
theorem ec192 : c192 = .seq c193 c194 := by kernel_rfl
def x64 : Ctx := ⟨64, 3, 101, none⟩
noncomputable def c197 : Code := Tryz.f64.body.getD .skip
theorem ec197 : Tryz.f64.body = some c197 := by kernel_rfl
noncomputable def c201 : Code := restC 14 c197
noncomputable def c202 : Code := lft c201
noncomputable def c203 : Code := rgt c201
theorem ec201 : c201 = .seq c202 c203 := by kernel_rfl
def x110 : Ctx := ⟨110, 3, 71, none⟩
noncomputable def c207 : Code := Tryz.f110.body.getD .skip
theorem ec207 : Tryz.f110.body = some c207 := by kernel_rfl
noncomputable def c211 : Code := restC 4 c207
noncomputable def c212 : Code := lft c211
noncomputable def c213 : Code := rgt c211
theorem ec211 : c211 = .seq c212 c213 := by kernel_rfl
noncomputable def c217 : Code := restC 1 c212
noncomputable def c218 : Code := inn c217
theorem ec217 : c217 = .block 0 c218 := by kernel_rfl
noncomputable def c219 : Code := inn c218
theorem ec218 : c218 = .loop c219 := by kernel_rfl
noncomputable def c220 : Code := lft c219
noncomputable def c221 : Code := rgt c219
theorem ec219 : c219 = .seq c220 c221 := by kernel_rfl
noncomputable def c273 : Code := restC 2 c184
noncomputable def c274 : Code := lft c273
noncomputable def c275 : Code := rgt c273
theorem ec273 : c273 = .seq c274 c275 := by kernel_rfl
noncomputable def c278 : Code := restC 1 c274
noncomputable def c279 : Code := thn c278
noncomputable def c439 : Code := lft c7
noncomputable def c440 : Code := rgt c7
theorem ec7 : c7 = .seq c439 c440 := by kernel_rfl
def x24 : Ctx := ⟨24, 3, 141, none⟩
noncomputable def c690 : Code := Tryz.f24.body.getD .skip
theorem ec690 : Tryz.f24.body = some c690 := by kernel_rfl
def x62 : Ctx := ⟨62, 2, 52, none⟩
noncomputable def c693 : Code := Tryz.f62.body.getD .skip
theorem ec693 : Tryz.f62.body = some c693 := by kernel_rfl
noncomputable def c705 : Code := restC 7 c197
noncomputable def c709 : Code := restC 2 c705
noncomputable def c710 : Code := lft c709
noncomputable def c711 : Code := rgt c709
theorem ec709 : c709 = .seq c710 c711 := by kernel_rfl
def x108 : Ctx := ⟨108, 3, 191, none⟩
noncomputable def c716 : Code := Tryz.f108.body.getD .skip
theorem ec716 : Tryz.f108.body = some c716 := by kernel_rfl
noncomputable def c720 : Code := restC 1 c716
noncomputable def c721 : Code := inn c720
theorem ec720 : c720 = .scope c721 := by kernel_rfl
noncomputable def c725 : Code := restC 9 c721
noncomputable def c745 : Code := restC 4 c711
noncomputable def c746 : Code := lft c745
noncomputable def c747 : Code := rgt c745
theorem ec745 : c745 = .seq c746 c747 := by kernel_rfl
def x67 : Ctx := ⟨67, 2, 57, none⟩
noncomputable def c820 : Code := Tryz.f67.body.getD .skip
theorem ec820 : Tryz.f67.body = some c820 := by kernel_rfl
noncomputable def c845 : Code := restC 5 c440
noncomputable def c849 : Code := restC 2 c845
noncomputable def c853 : Code := restC 2 c849
noncomputable def c854 : Code := lft c853
noncomputable def c855 : Code := rgt c853
theorem ec853 : c853 = .seq c854 c855 := by kernel_rfl
noncomputable def c1110 : Code := restC 1 c855
noncomputable def c1111 : Code := lft c1110
noncomputable def c1112 : Code := rgt c1110
theorem ec1110 : c1110 = .seq c1111 c1112 := by kernel_rfl
noncomputable def c1147 : Code := restC 1 c1112
noncomputable def c1148 : Code := lft c1147
noncomputable def c1149 : Code := rgt c1147
theorem ec1147 : c1147 = .seq c1148 c1149 := by kernel_rfl
noncomputable def c1240 : Code := lft c1149
noncomputable def c1241 : Code := rgt c1149
theorem ec1149 : c1149 = .seq c1240 c1241 := by kernel_rfl
def x10 : Ctx := ⟨10, 2, 44, none⟩
noncomputable def c1244 : Code := Tryz.f10.body.getD .skip
theorem ec1244 : Tryz.f10.body = some c1244 := by kernel_rfl
noncomputable def c1247 : Code := restC 1 c1244
noncomputable def c1248 : Code := lft c1247
noncomputable def c1249 : Code := rgt c1247
theorem ec1247 : c1247 = .seq c1248 c1249 := by kernel_rfl
noncomputable def c1507 : Code := lft c1249
noncomputable def c1508 : Code := rgt c1249
theorem ec1249 : c1249 = .seq c1507 c1508 := by kernel_rfl
noncomputable def c1763 : Code := restC 1 c693
noncomputable def c1764 : Code := lft c1763
noncomputable def c1765 : Code := rgt c1763
theorem ec1763 : c1763 = .seq c1764 c1765 := by kernel_rfl
def x104 : Ctx := ⟨104, 3, 184, none⟩
noncomputable def c1767 : Code := Tryz.f104.body.getD .skip
theorem ec1767 : Tryz.f104.body = some c1767 := by kernel_rfl
noncomputable def c1771 : Code := restC 15 c1767
noncomputable def c1795 : Code := restC 9 c197
noncomputable def c1799 : Code := restC 5 c1795
noncomputable def c1800 : Code := lft c1799
noncomputable def c1801 : Code := rgt c1799
theorem ec1799 : c1799 = .seq c1800 c1801 := by kernel_rfl
end Rn
end Cr
end Go.Proofs.YtekbkaipdmklpaaGreatDoor
