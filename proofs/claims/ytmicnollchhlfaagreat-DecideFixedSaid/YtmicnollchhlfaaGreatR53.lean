/- Pieces of the run, each by the kernel. -/
import Derived.Test.YtmicnollchhlfaaGreatR52
set_option linter.all false
set_option maxRecDepth 1000000
noncomputable section
namespace Go.Proofs.YtmicnollchhlfaaGreat
namespace Cr
open Go Go.RowKit
open Sn
namespace Rn
def x7:Ctx:=⟨7,2,9,none⟩
def c1:=Tryz.f7.body.getD .skip
theorem ec1:Tryz.f7.body=some c1:=by kernel_rfl
def c5:=ij 1 c1
def c6:=lft c5
def c7:=rgt c5
theorem ec5:c5= .seq c6 c7:=by kernel_rfl
def x23:Ctx:=⟨23,3,69,none⟩
def c12:=Tryz.f23.body.getD .skip
theorem DU:Tryz.f23.body=some c12:=by kernel_rfl
def c16:=ij 4 c12
def c17:=lft c16
def c18:=rgt c16
theorem DW:c16= .seq c17 c18:=by kernel_rfl
def x8:Ctx:=⟨8,3,101,none⟩
def c22:=Tryz.f8.body.getD .skip
theorem DX:Tryz.f8.body=some c22:=by kernel_rfl
def c26:=ij 9 c22
def c27:=lft c26
def c28:=rgt c26
theorem DY:c26= .seq c27 c28:=by kernel_rfl
def x28:Ctx:=⟨28,3,191,none⟩
def c33:=Tryz.f28.body.getD .skip
theorem DZ:Tryz.f28.body=some c33:=by kernel_rfl
def c37:=ij 1 c33
def c38:=inn c37
theorem D1:c37= .scope c38:=by kernel_rfl
def c42:=ij 6 c38
def c43:=lft c42
def c44:=rgt c42
theorem D2:c42= .seq c43 c44:=by kernel_rfl
def c45:=lft c43
def c46:=rgt c43
theorem D3:c43= .seq c45 c46:=by kernel_rfl
def x52:Ctx:=⟨52,2,55,none⟩
def c50:=Tryz.f52.body.getD .skip
theorem D4:Tryz.f52.body=some c50:=by kernel_rfl
def c54:=ij 1 c50
def c55:=lft c54
def c56:=rgt c54
theorem D5:c54= .seq c55 c56:=by kernel_rfl
def c59:=ij 1 c55
def c60:=inn c59
theorem D6:c59= .block 0 c60:=by kernel_rfl
def c61:=inn c60
theorem D7:c60= .loop c61:=by kernel_rfl
def ud:=ij 4 c28
def mT:=lft ud
def xY:=rgt ud
theorem N7:ud= .seq mT xY:=by kernel_rfl
def x30:Ctx:=⟨30,3,71,none⟩
def ue:=Tryz.f30.body.getD .skip
theorem N8:Tryz.f30.body=some ue:=by kernel_rfl
def uf:=ij 4 ue
def xZ:=lft uf
def oD:=rgt uf
theorem N9:uf= .seq xZ oD:=by kernel_rfl
def D8:=ij 1 xZ
def lE:=inn D8
theorem Oa:D8= .block 0 lE:=by kernel_rfl
def ug:=inn lE
theorem rk:lE= .loop ug:=by kernel_rfl
def oE:=lft ug
def mU:=rgt ug
theorem rm:ug= .seq oE mU:=by kernel_rfl
end Rn
open Go Go.RowKit
open Sn
namespace Rn
theorem p32:jH PR spX cZ (dK PR) GG x8 c27 0 6 f23 (cM m24 1080) f29 m30 1148 28 f31=true:=by kernel_rfl
theorem p64:pieceN cZ x52 c61 34 f57 (cM m52 1163) f62 m63 1626=true:=by kernel_rfl
theorem Ob:piece cZ x30 mU tJ (cM qZ 2129) .norm re qZ 2129=true:=by kernel_rfl
theorem Oc:piece cZ x30 mU xR (cM DN 2129) .norm lA jY 2129=true:=by kernel_rfl
theorem Od:jH PR spX cZ (dK PR) GG x8 c27 0 6 mN (cM oB 3335) xW oC 3412 28 tR=true:=by kernel_rfl
theorem Oe:pieceN cZ x52 c61 40 tU (cM kK 3427) tV tW 3922=true:=by kernel_rfl
end Rn
open Go Go.RowKit
open Sn
namespace Rn
theorem p41:pieceC cZ x28 c38 6 f34 (cM m35 1150) f39 m40 1162=true:=by kernel_rfl
theorem Of:piece cZ x30 mU DP (cM DQ 2129) .norm lA xS 2129=true:=by kernel_rfl
theorem Og:piece cZ x30 mU DS (cM jf 2129) .norm tK jf 2129=true:=by kernel_rfl
theorem Oh:pieceC cZ x8 c22 9 tQ (cM eS 2266) mN oB 3335=true:=by kernel_rfl
theorem Oi:piece cZ x52 c60 tV (cM tW 3922) (.exit 0) lB lC 4371=true:=by kernel_rfl
theorem Oj:piece cZ x23 c18 mS (cM eS 4445) .ret ri eS 4445=true:=by kernel_rfl
end Rn
open Go Go.RowKit
open Sn
namespace Rn
theorem p4:pieceC cZ x7 c1 1 f0 H0 f2 m3 0=true:=by kernel_rfl
theorem p11:jH PR spX cZ (dK PR) GG x7 c6 0 2 f2 (cM m3 0) f8 m9 2 23 f10=true:=by kernel_rfl
theorem p21:jH PR spX cZ (dK PR) GG x23 c17 0 2 f13 (cM m14 139) f19 m14 139 8 f20=true:=by kernel_rfl
theorem p25:pieceC cZ x8 c22 9 f20 (cM m14 139) f23 m24 1080=true:=by kernel_rfl
theorem p36:pieceC cZ x28 c33 1 f31 (cM m30 1148) f34 m35 1150=true:=by kernel_rfl
theorem p49:jH PR spX cZ (dK PR) GG x28 c45 0 2 f39 (cM m40 1162) f47 m40 1162 52 f48=true:=by kernel_rfl
theorem p53:pieceC cZ x52 c50 1 f48 (cM m40 1162) f51 m52 1163=true:=by kernel_rfl
theorem p58:pieceC cZ x52 c55 1 f51 (cM m52 1163) f57 m52 1163=true:=by kernel_rfl
theorem p67:piece cZ x52 c60 f62 (cM m63 1626) (.exit 0) f65 m66 2001=true:=by kernel_rfl
theorem p74:piece cZ x52 c56 f65 (cM m66 2001) .ret f72 m73 2125=true:=by kernel_rfl
theorem p81:jI (dK PR) GG x28 c45 2 f47 tt (cM m73 2125) f79 m80 2125=true:=by kernel_rfl
theorem p83:kz PR spX cZ (dK PR) GG x28 c45 3 f79 (cM m80 2125) f82 m80 2125=true:=by kernel_rfl
theorem p87:piece cZ x28 c46 f82 (cM m80 2125) .norm f82 m80 2125=true:=by kernel_rfl
theorem Ok:jI (dK PR) GG x8 c27 6 f29 (tu [(ag [(y 1),(s 2125 0 20 20),(s0 0 0)]),(i 0)]) (cM m91 2126) f99 tF 2126=true:=by kernel_rfl
theorem Ol:kz PR spX cZ (dK PR) GG x8 c27 7 f99 (cM tF 2126) mJ gI 2127=true:=by kernel_rfl
theorem Om:pieceC cZ x8 c28 4 mJ (cM gI 2127) ou gI 2127=true:=by kernel_rfl
theorem On:jH PR spX cZ (dK PR) GG x8 mT 0 4 ou (cM gI 2127) xP gI 2127 30 tG=true:=by kernel_rfl
theorem Oo:pieceC cZ x30 ue 4 tG (cM gI 2127) tH mK 2128=true:=by kernel_rfl
theorem Oq:pieceC cZ x30 xZ 1 tH (cM mK 2128) tI xQ 2129=true:=by kernel_rfl
theorem Ot:piece cZ x30 mU ox (cM jY 2129) (.exit 0) ox jY 2129=true:=by kernel_rfl
theorem Ou:piece cZ x30 oD ox (cM jY 2129) .ret DO jY 2129=true:=by kernel_rfl
theorem Ov:vm PR 3 71 DO (cM jY 2129) Tryz.f30.results.toList (tu [(s 2127 0 3 3),(i 0)]) eQ 2129=true:=by kernel_rfl
theorem Ow:nt PR spX cZ GG x30 oE lA (cM jY 2129) [⟨ox,jY,2129⟩]=true:=by kernel_rfl
theorem Ox:nt PR spX cZ GG x30 oE re (cM qZ 2129) [⟨xR,DN,2129⟩]=true:=by kernel_rfl
theorem Oy:piece cZ x30 mU oy (cM jf 2129) (.exit 0) oy jf 2129=true:=by kernel_rfl
theorem Oz:piece cZ x30 oD oy (cM jf 2129) .ret DT jf 2129=true:=by kernel_rfl
theorem OA:vm PR 3 71 DT (cM jf 2129) Tryz.f30.results.toList (tu [(s 2127 0 3 3),(i 0)]) eQ 2129=true:=by kernel_rfl
theorem OB:nt PR spX cZ GG x30 oE tK (cM jf 2129) [⟨oy,jf,2129⟩]=true:=by kernel_rfl
theorem OC:nt PR spX cZ GG x30 oE lA (cM xS 2129) [⟨DS,jf,2129⟩]=true:=by kernel_rfl
theorem OD:nt PR spX cZ GG x30 oE tI (cM xQ 2129) [⟨tJ,qZ,2129⟩,⟨DP,DQ,2129⟩]=true:=by kernel_rfl
theorem OE:jI (dK PR) GG x8 mT 4 xP (tu [(s 2127 0 3 3),(i 0)]) (cM eQ 2129) tL eQ 2129=true:=by kernel_rfl
theorem OF:kz PR spX cZ (dK PR) GG x8 mT 5 tL (cM eQ 2129) mL eQ 2129=true:=by kernel_rfl
theorem OG:piece cZ x8 xY mL (cM eQ 2129) .ret oz eQ 2129=true:=by kernel_rfl
theorem OH:jI (dK PR) GG x23 c17 2 f19 (tu [(y 1),(s 2127 0 3 3),(i 0)]) (cM eQ 2129) tM ia 2129=true:=by kernel_rfl
theorem OI:kz PR spX cZ (dK PR) GG x23 c17 3 tM (cM ia 2129) mM ia 2129=true:=by kernel_rfl
theorem OJ:piece cZ x23 c18 mM (cM ia 2129) .ret tN ia 2129=true:=by kernel_rfl
theorem OK:jI (dK PR) GG x7 c6 2 f8 tt (cM ia 2129) tO m9 2129=true:=by kernel_rfl
theorem OL:jH PR spX cZ (dK PR) GG x7 c6 3 3 tO (cM m9 2129) xU fS 2131 23 tP=true:=by kernel_rfl
theorem OM:jH PR spX cZ (dK PR) GG x23 c17 0 2 oA (cM eS 2266) xV eS 2266 8 tQ=true:=by kernel_rfl
theorem ON:pieceC cZ x28 c33 1 tR (cM oC 3412) tS rf 3414=true:=by kernel_rfl
theorem OO:jH PR spX cZ (dK PR) GG x28 c45 0 2 mO (cM jA 3426) xX jA 3426 52 tT=true:=by kernel_rfl
theorem OQ:pieceC cZ x52 c50 1 tT (cM jA 3426) rh kK 3427=true:=by kernel_rfl
theorem OR:pieceC cZ x52 c55 1 rh (cM kK 3427) tU kK 3427=true:=by kernel_rfl
theorem OS:jI (dK PR) GG x28 c45 2 xX ff (cM mP 4441) tY jZ 4441=true:=by kernel_rfl
theorem OU:kz PR spX cZ (dK PR) GG x28 c45 3 tY (cM jZ 4441) lD jZ 4441=true:=by kernel_rfl
theorem OV:piece cZ x28 c46 lD (cM jZ 4441) .ret mQ kL 4444=true:=by kernel_rfl
theorem OW:jI (dK PR) GG x8 c27 6 xW (tu [(ag [(y 2),(s0 0 0),(q 4443 1)]),(i 0)]) (cM kL 4444) tZ ua 4444=true:=by kernel_rfl
theorem OX:kz PR spX cZ (dK PR) GG x8 c27 7 tZ (cM ua 4444) mR jg 4445=true:=by kernel_rfl
theorem OY:piece cZ x8 c28 mR (cM jg 4445) .ret ub jg 4445=true:=by kernel_rfl
theorem OZ:jI (dK PR) GG x23 c17 2 xV (tu [(y 2),(s0 0 0),(i 0)]) (cM jg 4445) uc eS 4445=true:=by kernel_rfl
theorem O2:kz PR spX cZ (dK PR) GG x23 c17 3 uc (cM eS 4445) mS eS 4445=true:=by kernel_rfl
theorem O3:jI (dK PR) GG x7 c6 6 xU tt (cM eS 4445) rj fS 4445=true:=by kernel_rfl
theorem O5:kz PR spX cZ (dK PR) GG x7 c6 7 rj (cM fS 4445) jB fS 4445=true:=by kernel_rfl
theorem O6:piece cZ x7 c7 jB (cM fS 4445) .ret jB fS 4445=true:=by kernel_rfl
end Rn
open Go Go.RowKit
open Sn
namespace Rn
theorem p15:pieceC cZ x23 c12 4 f10 (cM m9 2) f13 m14 139=true:=by kernel_rfl
theorem p92:piece cZ x28 c44 f82 (cM m80 2125) .ret f90 m91 2126=true:=by kernel_rfl
theorem O7:pieceC cZ x23 c12 4 tP (cM fS 2131) oA eS 2266=true:=by kernel_rfl
theorem O8:pieceC cZ x28 c38 6 tS (cM rf 3414) mO jA 3426=true:=by kernel_rfl
theorem O9:piece cZ x52 c56 lB (cM lC 4371) .ret tX mP 4441=true:=by kernel_rfl
end Rn
end Cr
