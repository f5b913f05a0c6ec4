/- Walks: numbers and variables of graphs. -/
import Derived.Test.YtgdpkkjfcdhmdaaGreatDoorS0
import Derived.Test.YtgdpkkjfcdhmdaaGreatDoorS13
import Derived.Test.YtgdpkkjfcdhmdaaGreatDoorS10
import Derived.Test.YtgdpkkjfcdhmdaaGreatDoorS9
import Derived.Test.YtgdpkkjfcdhmdaaGreatDoorS12
namespace Go.Proofs.YtgdpkkjfcdhmdaaGreatDoor
open Go.RowKit
theorem two_pow_cast(b:Nat):(2:Int)^b=((2^b:Nat):Int):=by simp
theorem wrap_toNat(x:Int):IntKind.u64.wrap x=(((x%18446744073709551616).toNat:Nat):Int)/\(x%18446744073709551616).toNat<18446744073709551616:=by
 rw[IntKind.wrap_u64];omega
theorem sar_mod{w a b:Nat}(h:w<=64):((sgn w a/(2:Int)^(min b 63))%18446744073709551616).toNat%2^w=appN 14 w a b:=by
 show _=sarN w a b;unfold sarN;generalize sgn w a/(2:Int)^(min b 63)=x;have hp:(0:Int)<(2:Int)^w:=Int.pow_pos (by decide);have h0:0<=x%18446744073709551616:=Int.emod_nonneg _ (by decide);have h1:0<=x%(2:Int)^w:=Int.emod_nonneg _ (Int.ne_of_gt hp);apply Int.ofNat.inj;show(((x%18446744073709551616).toNat%2^w:Nat):Int)=(((x%(2:Int)^w).toNat:Nat):Int)
 rw[Int.natCast_emod,Int.toNat_of_nonneg h0,Int.toNat_of_nonneg h1,<-two_pow_cast];have hd:(2:Int)^w∣18446744073709551616:=by
  rw[two_pow_cast];exact Int.natCast_dvd_natCast.2 (pow_dvd h)
 exact Int.emod_emod_of_dvd x hd
section
variable (w a b:Nat) (W:World)
theorem op93(h:w<=64)(ha:a<2^w):Calls Tryz.prog 142 #[.int .i64 w,.int .u64 a,.int .u64 b] W (OpPost 7 w a b W):=by
 have hl:=pow_le h;have h0:0<2^w:=Nat.two_pow_pos w;by_cases hc:b=0
 ·subst hc;have HM:=Z (mask82 w W h);have HL:Hid (2^w-1<2^w):=Z (by omega);have HH:=Z hl;clear h ha hl h0;go_enter Tryz.func142,Tryz.ntmps142
  go_wp2_with(first|(go_at_call 106;refine HM.o.mono ?_;rintro e W' ⟨rfl,rfl⟩))
  go_ret
  exact⟨_,rfl,Nat.lt_of_lt_of_le HL.o HH.o,Nat.mod_eq_of_lt HL.o,rfl⟩
 ·have HA:Hid (appN 7 w a b=a/b):=Z (if_neg hc);have HL:Hid (a/b<2^w):=Z (Nat.lt_of_le_of_lt (Nat.div_le_self _ _) ha);have HH:=Z hl;have d1:((b:Int)==0)=false:=by simp;omega
  have d2:(b:Int)≠0:=by omega
  clear h ha hl h0 hc;go_enter Tryz.func142,Tryz.ntmps142
  go_wp2_with fail
  go_ret
  exact⟨a/b,ret_i (by rw[<-Int.natCast_ediv];exact wrap_u _ (Nat.lt_of_lt_of_le HL.o HH.o)),Nat.lt_of_lt_of_le HL.o HH.o,by rw[HA.o];exact Nat.mod_eq_of_lt HL.o,rfl⟩
theorem op94(h:w<=64)(ha:a<2^w):Calls Tryz.prog 143 #[.int .i64 w,.int .u64 a,.int .u64 b] W (OpPost 8 w a b W):=by
 have hl:=pow_le h;by_cases hc:b=0
 ·subst hc;have HL:=Z ha;have HH:=Z hl;clear h ha hl;go_enter Tryz.func143,Tryz.ntmps143
  go_wp2_with fail
  go_ret
  exact⟨_,rfl,Nat.lt_of_lt_of_le HL.o HH.o,Nat.mod_eq_of_lt HL.o,rfl⟩
 ·have HA:Hid (appN 8 w a b=a%b):=Z (if_neg hc);have HL:Hid (a%b<2^w):=Z (Nat.lt_of_le_of_lt (Nat.mod_le _ _) ha);have HH:=Z hl;have d1:((b:Int)==0)=false:=by simp;omega
  have d2:(b:Int)≠0:=by omega
  clear h ha hl hc;go_enter Tryz.func143,Tryz.ntmps143
  go_wp2_with fail
  go_ret
  exact⟨a%b,ret_i (by rw[Int.natCast_emod]),Nat.lt_of_lt_of_le HL.o HH.o,by rw[HA.o];exact Nat.mod_eq_of_lt HL.o,rfl⟩
theorem op98(h:w<=64):Calls Tryz.prog 147 #[.int .i64 w,.int .u64 a,.int .u64 b] W (OpPost 12 w a b W):=by
 by_cases hc:w<=b
 ·have HA:Hid (appN 12 w a b=0):=Z (if_pos hc);have hw:(w:Int)<=64:=by omega
  go_enter Tryz.func147,Tryz.ntmps147
  go_wp2_with fail
  go_ret
  exact⟨0,rfl,by decide,by rw[HA.o];exact Nat.zero_mod _,rfl⟩
 ·have HA:Hid (appN 12 w a b=a*2^b%2^w):=Z (if_neg hc);have HM:=Z (mod_pow h (a*2^b));have hb:(b:Int)<w:=by omega
  have hw:(w:Int)<=64:=by omega
  have hb2:(b:Int)<=64:=by omega
  go_enter Tryz.func147,Tryz.ntmps147
  go_wp2_with fail
  go_ret
  exact⟨a*2^b%18446744073709551616,ret_i (by rw[IntKind.wrap_u64,two_pow_cast,<-Int.natCast_mul];omega),Nat.mod_lt _ (by decide),HM.o.trans HA.o.symm,rfl⟩
theorem op99(h:w<=64)(ha:a<2^w):Calls Tryz.prog 148 #[.int .i64 w,.int .u64 a,.int .u64 b] W (OpPost 13 w a b W):=by
 have hl:=pow_le h;by_cases hc:w<=b
 ·have HA:Hid (appN 13 w a b=0):=Z (if_pos hc);have hw:(w:Int)<=64:=by omega
  clear ha;go_enter Tryz.func148,Tryz.ntmps148
  go_wp2_with fail
  go_ret
  exact⟨0,rfl,by decide,by rw[HA.o];exact Nat.zero_mod _,rfl⟩
 ·have HA:Hid (appN 13 w a b=a/2^b):=Z (if_neg hc);have HL:Hid (a/2^b<2^w):=Z (Nat.lt_of_le_of_lt (Nat.div_le_self _ _) ha);have HH:=Z hl;have hb:(b:Int)<w:=by omega
  have hw:(w:Int)<=64:=by omega
  have hb2:(b:Int)<=64:=by omega
  clear ha hl;go_enter Tryz.func148,Tryz.ntmps148
  go_wp2_with fail
  go_ret
  exact⟨a/2^b,ret_i (by rw[two_pow_cast,<-Int.natCast_ediv]),Nat.lt_of_lt_of_le HL.o HH.o,by rw[HA.o];exact Nat.mod_eq_of_lt HL.o,rfl⟩
theorem op100(h1:1<=w)(h:w<=64)(ha:a<2^w):Calls Tryz.prog 149 #[.int .i64 w,.int .u64 a,.int .u64 b] W (OpPost 14 w a b W):=by
 have HS:=Z (signed108 w a W h1 h ha);have HM:=Z (sar_mod (a:=a) (b:=b) h);have HT:=Z (wrap_toNat (sgn w a/(2:Int)^(min b 63)));by_cases hb:63<b
 ·have HB:Hid (min b 63=63):=Z (by omega);have hbi:(63:Int)<b:=by omega
  clear ha hb;go_enter Tryz.func149,Tryz.ntmps149
  go_wp2_with(first|(go_at_call 177;refine HS.o.mono ?_;rintro e W' ⟨rfl,rfl⟩))
  go_ret
  exact⟨_,ret_i (by rw[<-HT.o.1,HB.o];rfl),HT.o.2,HM.o,rfl⟩
 ·have HB:Hid (min b 63=b):=Z (by omega);have hbi:(b:Int)<=63:=by omega
  clear ha hb;go_enter Tryz.func149,Tryz.ntmps149
  go_wp2_with(first|(go_at_call 177;refine HS.o.mono ?_;rintro e W' ⟨rfl,rfl⟩))
  go_ret
  exact⟨_,ret_i (by rw[<-HT.o.1,HB.o]),HT.o.2,HM.o,rfl⟩
theorem op105(h1:1<=w)(h:w<=64)(ha:a<2^w)(hb:b<2^w):Calls Tryz.prog 154 #[.int .i64 w,.int .u64 a,.int .u64 b] W (OpPost 19 w a b W):=by
 have HM:Hid (b2n (sgn w a<sgn w b)%2^w=b2n (sgn w a<sgn w b)):=Z (b2n_mod h1);have HSA:=Z (signed108 w a W h1 h ha);have HSB:=Z (signed108 w b W h1 h hb);by_cases hc:sgn w a<sgn w b
 ·have HC:Hid (b2n (sgn w a<sgn w b)=1):=Z (if_pos hc);clear h1 h ha hb;have HO:∀r,Hid (b2n (sgn w a<sgn w b)=r)->Hid (OpPost 19 w a b W (.returned (.int .u64 (r:Nat))) W):=λ r hr=>Z ⟨b2n (sgn w a<sgn w b),by rw[hr.o],b2n_small,HM.o,rfl⟩
  clear HM;generalize sgn w a=x at*;generalize sgn w b=y at*;go_enter Tryz.func154,Tryz.ntmps154
  go_wp2_with(first|(go_at_call 177;first|((with_reducible refine HSA.o.mono ?_);rintro e W' ⟨rfl,rfl⟩)|((with_reducible refine HSB.o.mono ?_);rintro e W' ⟨rfl,rfl⟩))|(go_at_call 178;refine(bit109 _ W).mono ?_;rintro e W' ⟨rfl,rfl⟩))
  go_ret
  exact(HO _ HC).o
 ·have HC:Hid (b2n (sgn w a<sgn w b)=0):=Z (if_neg hc);clear h1 h ha hb;have HO:∀r,Hid (b2n (sgn w a<sgn w b)=r)->Hid (OpPost 19 w a b W (.returned (.int .u64 (r:Nat))) W):=λ r hr=>Z ⟨b2n (sgn w a<sgn w b),by rw[hr.o],b2n_small,HM.o,rfl⟩
  clear HM;generalize sgn w a=x at*;generalize sgn w b=y at*;go_enter Tryz.func154,Tryz.ntmps154
  go_wp2_with(first|(go_at_call 177;first|((with_reducible refine HSA.o.mono ?_);rintro e W' ⟨rfl,rfl⟩)|((with_reducible refine HSB.o.mono ?_);rintro e W' ⟨rfl,rfl⟩))|(go_at_call 178;refine(bit109 _ W).mono ?_;rintro e W' ⟨rfl,rfl⟩))
  go_ret
  exact(HO _ HC).o
theorem op106(h1:1<=w)(h:w<=64)(ha:a<2^w)(hb:b<2^w):Calls Tryz.prog 155 #[.int .i64 w,.int .u64 a,.int .u64 b] W (OpPost 20 w a b W):=by
 have HM:Hid (b2n (sgn w a<=sgn w b)%2^w=b2n (sgn w a<=sgn w b)):=Z (b2n_mod h1);have HSA:=Z (signed108 w a W h1 h ha);have HSB:=Z (signed108 w b W h1 h hb);by_cases hc:sgn w a<=sgn w b
 ·have HC:Hid (b2n (sgn w a<=sgn w b)=1):=Z (if_pos hc);clear h1 h ha hb;have HO:∀r,Hid (b2n (sgn w a<=sgn w b)=r)->Hid (OpPost 20 w a b W (.returned (.int .u64 (r:Nat))) W):=λ r hr=>Z ⟨b2n (sgn w a<=sgn w b),by rw[hr.o],b2n_small,HM.o,rfl⟩
  clear HM;generalize sgn w a=x at*;generalize sgn w b=y at*;go_enter Tryz.func155,Tryz.ntmps155
  go_wp2_with(first|(go_at_call 177;first|((with_reducible refine HSA.o.mono ?_);rintro e W' ⟨rfl,rfl⟩)|((with_reducible refine HSB.o.mono ?_);rintro e W' ⟨rfl,rfl⟩))|(go_at_call 178;refine(bit109 _ W).mono ?_;rintro e W' ⟨rfl,rfl⟩))
  go_ret
  exact(HO _ HC).o
 ·have HC:Hid (b2n (sgn w a<=sgn w b)=0):=Z (if_neg hc);clear h1 h ha hb;have HO:∀r,Hid (b2n (sgn w a<=sgn w b)=r)->Hid (OpPost 20 w a b W (.returned (.int .u64 (r:Nat))) W):=λ r hr=>Z ⟨b2n (sgn w a<=sgn w b),by rw[hr.o],b2n_small,HM.o,rfl⟩
  clear HM;generalize sgn w a=x at*;generalize sgn w b=y at*;go_enter Tryz.func155,Tryz.ntmps155
  go_wp2_with(first|(go_at_call 177;first|((with_reducible refine HSA.o.mono ?_);rintro e W' ⟨rfl,rfl⟩)|((with_reducible refine HSB.o.mono ?_);rintro e W' ⟨rfl,rfl⟩))|(go_at_call 178;refine(bit109 _ W).mono ?_;rintro e W' ⟨rfl,rfl⟩))
  go_ret
  exact(HO _ HC).o
end
namespace Cr
theorem scalar_inv{μ:Mu}{v v':Value}(hs:scalar v=true)(h:VR μ v v'):v'=v:=by
 cases h with
 |ptr i b o off hm=>simp[scalar] at hs
 |sl i b o off n c c' hm hc=>simp[scalar] at hs
 |slE a c'=>simp[scalar] at hs
 |map i b hm=>simp[scalar] at hs
 |yield i l hm=>simp[scalar,noYield] at hs
 |func fn f c f' c' hy hl hc _ _=>
  simp only[scalar,Bool.and_eq_true,List.isEmpty_iff] at hs;obtain⟨_,rfl,rfl⟩:=hs;have e1:f'=[]:=List.eq_nil_of_length_eq_zero hl.symm;have e2:c'=[]:=List.eq_nil_of_length_eq_zero hc.symm;rw[e1,e2]
 |iface t v v' _=>simp[scalar] at hs
 |agg c c' _ _=>simp[scalar] at hs
 |tuple c c' _ _=>simp[scalar] at hs
 |_=>rfl
theorem scalars_inv{μ:Mu}{l l':List Value}(hs:l.all scalar=true)(hl:l.length=l'.length)(h:∀(j:Nat) (p:j<l.length) (q:j<l'.length),VR μ l[j] l'[j]):l'=l:=by
 refine(List.ext_getElem hl λ j h1 h2=> ?_).symm;exact(scalar_inv (List.all_eq_true.1 hs _ (List.getElem_mem h1)) (h j h1 h2)).symm
theorem plain_inv{μ:Mu}{v v':Value}(hs:plain v=true)(h:VR μ v v'):v'=v:=by
 cases h with
 |agg c c' hl hh=>rw[scalars_inv hs hl hh]
 |tuple c c' hl hh=>rw[scalars_inv hs hl hh]
 |iface t v v' hv=>rw[scalar_inv hs hv]
 |ptr0=>rfl
 |nilFunc=>rfl
 |nilIface=>rfl
 |bool b=>rfl
 |int k n=>rfl
 |string s=>rfl
 |sl0 n c=>rfl
 |map0=>rfl
 |ptr i b o off hm=>simp[plain,scalar] at hs
 |sl i b o off n c c' hm hc=>simp[plain,scalar] at hs
 |slE a c'=>simp[plain,scalar] at hs
 |map i b hm=>simp[plain,scalar] at hs
 |yield i l hm=>exact scalar_inv hs (.yield i l hm)
 |func fn f c f' c' hy hl hc h1 h2=>exact scalar_inv hs (.func fn f c f' c' hy hl hc h1 h2)
def muG:Mu:=⟨λ i=>if i<4 then some (i,0) else none,λ _=>0⟩
theorem hr_none{w:World}:HR 4 w.heap.size w ⟨.nil,4⟩ muG w:=by
 refine⟨λ i x h=>(by cases h),λ i j x y h=>(by cases h),λ i x h=>(by cases h),λ i p h=> ?_,λ g hg=> ?_,(by show(4:Nat)<_;decide),Below.refl _ _,Nat.le_refl _⟩
 ·simp only[muG] at h
  split at h
  ·assumption
  ·cases h
 ·show(if g<4 then some (g,0) else none)=_;rw[if_pos hg]
noncomputable def runV(f:Nat)(args:List Value)(v:Value):Bool:=args.all scalar&&(plain v&&(match callX f args ⟨.nil,4⟩ with
 | .ok u _=>veq 6 u v
 | .bad=>false))
theorem closed_call{f:Nat}{args:List Value}{v:Value}(h:runV f args v=true){w:World}:Calls Tryz.prog f ⟨args⟩ w λ e w'=>e= .returned v/\Below w.heap.size w w':=by
 unfold runV at h;simp only[Bool.and_eq_true] at h;obtain⟨ha,hp,h⟩:=h
 split at h
 ·rename_i u H' hr;obtain rfl:=veq_eq 6 _ _ h;refine(calls_of_call callX_ok hr (LR.scalars (μ:=muG) ha) hr_none).mono ?_;rintro e w' ⟨v',μ',rfl,hv,nx⟩;rw[plain_inv hp hv];exact⟨rfl,nx.hr.below⟩
 ·cases h
end Cr
open Cr
noncomputable def arOk(o:Nat):Bool:=runV 92 [.int .u8 (.ofNat o)] (.tuple ⟨[.int .i64 (.ofNat (arN o)),.int .i64 (.ofNat 0)]⟩)
set_option maxRecDepth 1000000 in
theorem ar_all:(List.range 22).all arOk=true:=by kernel_rfl
theorem arity72(o:Nat)(ho:o<=21){w:World}:Calls Tryz.prog 92 #[.int .u8 o] w λ e w'=>e= .returned (.tuple #[.int .i64 (arN o:Nat),.int .i64 0])/\Below w.heap.size w w':=
 closed_call (List.all_eq_true.1 ar_all o (List.mem_range.2 (by omega)))
def tabV:Value:=.agg ⟨(List.replicate 4 .nilFunc)++((List.range 17).map λ i=>.func (.func (139+i)) #[] #[])++[.nilFunc]⟩
set_option maxRecDepth 1000000 in
theorem tab_run:runV 107 [] tabV=true:=by kernel_rfl
theorem table87{w:World}:Calls Tryz.prog 107 #[] w λ e w'=>e= .returned tabV/\Below w.heap.size w w':=closed_call tab_run
end Go.Proofs.YtgdpkkjfcdhmdaaGreatDoor
namespace Go.Proofs.YtgdpkkjfcdhmdaaGreatDoor
open Go.RowKit
theorem tup2{a b:Int}(h:a=b):Value.tuple #[.int .u64 a,.int .i64 0]= .tuple #[.int .u64 b,.int .i64 0]:=by rw[h]
theorem trim_raw{w x:Nat}(h:w<=64)(hx:x<18446744073709551616):bits .and .u64 (x:Int) ((2^w-1:Nat):Int)=((x%2^w:Nat):Int):=by
 have hl:=pow_le h;have h0:0<2^w:=Nat.two_pow_pos w;rw[bits_and _ _ hx (by omega),and_mask]
theorem arity85(o:Nat)(ho:o<=21)(W:World):Calls Tryz.prog 116 #[.int .u8 o] W λ e W'=>e= .returned (.tuple #[.int .i64 (arN o:Nat),.int .i64 0])/\W=W':=by
 have d0:decide (21<(o:Int))=false:=by simp;omega
 have hcs:o<=1\/(2<=o/\o<=3)\/o=21\/(4<=o/\o<=20):=by omega
 rcases hcs with hc|hc|hc|hc
 ·have HA:Hid (arN o=0):=Z (if_pos hc);have d1:decide ((o:Int)<=1)=true:=by simp;omega
  clear hc ho;go_enter Tryz.func116,Tryz.ntmps116
  go_wp2_with fail
  go_ret2
  exact⟨by rw[HA.o];rfl,rfl⟩
 ·have HA:Hid (arN o=1):=Z (by unfold arN;rw[if_neg (by omega),if_pos hc.2]);have d1:decide ((o:Int)<=1)=false:=by simp;omega
  have d2:decide ((o:Int)<=3)=true:=by simp;omega
  clear hc ho;go_enter Tryz.func116,Tryz.ntmps116
  go_wp2_with fail
  go_ret2
  exact⟨by rw[HA.o];rfl,rfl⟩
 ·subst hc;clear d0 ho;go_enter Tryz.func116,Tryz.ntmps116
  go_wp2_with fail
  go_ret2
  exact⟨rfl,rfl⟩
 ·have HA:Hid (arN o=2):=Z (by unfold arN;rw[if_neg (by omega),if_neg (by omega),if_neg (by omega)]);have d1:decide ((o:Int)<=1)=false:=by simp;omega
  have d2:decide ((o:Int)<=3)=false:=by simp;omega
  have d3:((o:Int)==21)=false:=by simp;omega
  clear hc ho;go_enter Tryz.func116,Tryz.ntmps116
  go_wp2_with fail
  go_ret2
  exact⟨by rw[HA.o];rfl,rfl⟩
theorem mask71(w:Nat)(W:World)(h1:1<=w)(h:w<=64):Calls Tryz.prog 91 #[.int .i64 w] W λ e W'=>e= .returned (.int .u64 ((2^w-1:Nat):Int))/\W=W':=by
 have d1:decide ((w:Int)<1)=false:=by simp;omega
 by_cases hw:w=64
 ·subst hw;clear d1 h1 h;go_enter Tryz.func91,Tryz.ntmps91
  go_wp2_with fail
  go_ret
  exact⟨rfl,rfl⟩
 ·have HM:=Z (mask_raw h);have d2:decide (63<(w:Int))=false:=by simp;omega
  have hwl:(w:Int)<=64:=by omega
  clear hw;go_enter Tryz.func91,Tryz.ntmps91
  go_wp2_with fail
  go_ret
  exact⟨by rw[<-HM.o];rfl,rfl⟩
def noB:Nat->Prop:=λ _=>False
theorem hd_none(w:World):HdAt w noB (none,0,0) []:=⟨rfl,Lay.At.nil,(λ a h=>by cases h),λ _=>rfl⟩
theorem nd_const{W i v:Nat}(h:W<=64):NdOk W i ⟨0,v%2^W,[]⟩:=by
 have hp:0<2^W:=Nat.two_pow_pos W;have hl:=pow_le h;have:=Nat.mod_lt v hp;exact⟨by show 0<=20;omega,by show v%2^W<_;omega,by show v%2^W<_;omega,λ _=>this,rfl,λ h=>by simp at h,λ a ha=>by simp at ha⟩
theorem nd_var{W i v:Nat}(h:v<12):NdOk W i ⟨1,v,[]⟩:=
 ⟨by show 1<=20;omega,by have:=Nat.two_pow_pos W;show v<_;omega,by show v<_;omega,λ e=>by simp at e,rfl,λ h=>by simp at h,λ a ha=>by simp at ha⟩
theorem trim68(w a:Nat)(W:World)(h1:1<=w)(h:w<=64)(ha:a<18446744073709551616):Calls Tryz.prog 74 #[.int .i64 w,.int .u64 a] W λ e W'=>e= .returned (.tuple #[.int .u64 ((a%2^w:Nat):Int),.int .i64 0])/\W=W':=by
 have HC:=Z (check64_ok w W h1 h);have HM:=Z (mask82 w W h);have HT:=Z (trim_raw h ha);clear ha;go_enter Tryz.func74,Tryz.ntmps74
 go_wp2_with(first|(go_at_call 88;refine HC.o.mono ?_;rintro e W' ⟨rfl,rfl⟩)|(go_at_call 106;refine HM.o.mono ?_;rintro e W' ⟨rfl,rfl⟩))
 go_ret2
 exact⟨congrArg Ending.returned (tup2 HT.o),rfl⟩
set_option maxHeartbeats 1000000 in
theorem const50{w:World}{B:Nat}{A:Nat->Prop}{gb mb:Nat}{nv:Value}{W:Nat}{L:List Nd}(h:PG w B A gb mb nv W L)(hB:B<=w.heap.size)(hL:L.length<=999)(h1:1<=W)(h2:W<=64)(v:Nat)(hv:v<18446744073709551616):
  Calls Tryz.prog 49 #[.pointer (some ⟨gb,0,none⟩),.int .u64 v] w (AskPost w B A noB gb mb nv W L ⟨0,v%2^W,[]⟩):=by
 have c0:w.cell? ⟨gb,0,none⟩=some (.int .i64 W):=by simp[World.cell?,h.blk]
 have HT:=Z (trim68 W v w h1 h2 hv);have HA:=Z (ask69 h ⟨0,v%2^W,[]⟩ (nd_const h2) (hd_none w) (λ k hk=>hk.elim) hB hL);clear h hv;generalize v%2^W=x at*;go_enter Tryz.func49,Tryz.ntmps49
 go_wp2_with(first|(go_at_call 74;refine HT.o.mono ?_;rintro e W' ⟨rfl,rfl⟩)|(go_at_call 89;refine HA.o.mono ?_;rintro e W' ⟨nv',rfl,p1,p2,p3⟩;have H1:=Z p1;have H2:=Z p2;have H3:=Z p3;clear p1 p2 p3))
 go_ret2
 exact⟨nv',rfl,H1.o,H2.o,H3.o⟩
set_option maxHeartbeats 1000000 in
theorem var52{w:World}{B:Nat}{A:Nat->Prop}{gb mb:Nat}{nv:Value}{W:Nat}{L:List Nd}(h:PG w B A gb mb nv W L)(hB:B<=w.heap.size)(hL:L.length<=999)(v:Nat)(hv:v<12):
  Calls Tryz.prog 51 #[.pointer (some ⟨gb,0,none⟩),.int .i64 v] w (AskPost w B A noB gb mb nv W L ⟨1,v,[]⟩):=by
 have HA:=Z (ask69 h ⟨1,v,[]⟩ (nd_var hv) (hd_none w) (λ k hk=>hk.elim) hB hL);have hvi:(v:Int)<12:=by omega
 clear h hv;go_enter Tryz.func51,Tryz.ntmps51
 go_wp2_with(first|(go_at_call 89;refine HA.o.mono ?_;rintro e W' ⟨nv',rfl,p1,p2,p3⟩;have H1:=Z p1;have H2:=Z p2;have H3:=Z p3;clear p1 p2 p3))
 go_ret2
 exact⟨nv',rfl,H1.o,H2.o,H3.o⟩
set_option maxHeartbeats 1000000 in
theorem const51{w:World}{B:Nat}{A:Nat->Prop}{gb:Nat}{nv:Value}{W:Nat}{L:List Nd}(h:RG w B A gb nv W L)(hB:B<=w.heap.size)(hL:L.length<=999)(h1:1<=W)(h2:W<=64)(v:Nat)(hv:v<18446744073709551616):
  Calls Tryz.prog 50 #[.pointer (some ⟨gb,0,none⟩),.int .u64 v] w (RAskPost w B A noB gb nv W L ⟨0,v%2^W,[]⟩):=by
 have c0:w.cell? ⟨gb,0,none⟩=some (.int .i64 W):=by simp[World.cell?,h.blk]
 have HM:=Z (mask71 W w h1 h2);have HT:bits .and .u64 (v:Int) ((2^W-1:Nat):Int)=((v%2^W:Nat):Int):=trim_raw h2 hv;have HA:=Z (ask70 h ⟨0,v%2^W,[]⟩ (nd_const h2) (hd_none w) (λ k hk=>hk.elim) hB hL);clear h hv;generalize v%2^W=x at*;go_enter Tryz.func50,Tryz.ntmps50
 go_wp2_with(first|(go_at_call 91;refine HM.o.mono ?_;rintro e W' ⟨rfl,rfl⟩)|(go_at_call 90;refine HA.o.mono ?_;rintro e W' ⟨nv',rfl,p1,p2,p3⟩;have H1:=Z p1;have H2:=Z p2;have H3:=Z p3;clear p1 p2 p3))
 go_ret2
 exact⟨nv',rfl,H1.o,H2.o,H3.o⟩
set_option maxHeartbeats 1000000 in
theorem var53{w:World}{B:Nat}{A:Nat->Prop}{gb:Nat}{nv:Value}{W:Nat}{L:List Nd}(h:RG w B A gb nv W L)(hB:B<=w.heap.size)(hL:L.length<=999)(v:Nat)(hv:v<12):
  Calls Tryz.prog 52 #[.pointer (some ⟨gb,0,none⟩),.int .i64 v] w (RAskPost w B A noB gb nv W L ⟨1,v,[]⟩):=by
 have HA:=Z (ask70 h ⟨1,v,[]⟩ (nd_var hv) (hd_none w) (λ k hk=>hk.elim) hB hL);have hvi:(v:Int)<12:=by omega
 clear h hv;go_enter Tryz.func52,Tryz.ntmps52
 go_wp2_with(first|(go_at_call 90;refine HA.o.mono ?_;rintro e W' ⟨nv',rfl,p1,p2,p3⟩;have H1:=Z p1;have H2:=Z p2;have H3:=Z p3;clear p1 p2 p3))
 go_ret2
 exact⟨nv',rfl,H1.o,H2.o,H3.o⟩
end Go.Proofs.YtgdpkkjfcdhmdaaGreatDoor
