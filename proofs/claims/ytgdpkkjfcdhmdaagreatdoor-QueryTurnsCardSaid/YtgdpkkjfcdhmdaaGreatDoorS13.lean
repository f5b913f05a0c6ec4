/- Walks: the words of a width (package word), the small functions. -/
import Derived.Test.YtgdpkkjfcdhmdaaGreatDoorS0
import Derived.Test.YtgdpkkjfcdhmdaaGreatDoorProg
import Derived.Test.YtgdpkkjfcdhmdaaGreatDoorS9
import Derived.WalkKit
import Derived.Below
import Derived.Lib.Hide
import Derived.BigQuiet
import Derived.Deep.QuietTactic
import Derived.KernelRfl
import Derived.Outline
import Derived.Deep.CutBlock
import Derived.Deep.Draws
namespace Go.Proofs.YtgdpkkjfcdhmdaaGreatDoor
open Go.RowKit
theorem mask_raw{w:Nat}(h:w<=64):IntKind.u64.wrap (IntKind.u64.wrap ((2:Int)^w)-1)=((2^w-1:Nat):Int):=by
 have h1:=pow_le h;have h0:0<2^w:=Nat.two_pow_pos w;have e:(2:Int)^w=((2^w:Nat):Int):=by simp
 rw[e,IntKind.wrap_u64,IntKind.wrap_u64];omega
theorem mask82(w:Nat)(W:World)(h:w<=64):Calls Tryz.prog 106 #[.int .i64 w] W λ e W'=>e= .returned (.int .u64 ((2^w-1:Nat):Int))/\W=W':=by
 have HM:=Z (mask_raw h);go_enter Tryz.func106,Tryz.ntmps106
 go_wp2_with fail
 go_ret
 exact⟨by rw[<-HM.o];rfl,rfl⟩
theorem check64_ok(w:Nat)(W:World)(h1:1<=w)(h:w<=64):Calls Tryz.prog 88 #[.int .i64 w] W λ e W'=>e= .returned (.int .i64 0)/\W=W':=by
 have d1:decide ((w:Int)<1)=false:=by simp;omega
 have d2:decide (64<(w:Int))=false:=by simp;omega
 go_enter Tryz.func88,Tryz.ntmps88
 go_wp2_with fail
 go_ret
 exact⟨rfl,rfl⟩
theorem check64_bad(w:Int)(W:World)(h:w<1\/64<w):Calls Tryz.prog 88 #[.int .i64 w] W λ e W'=>e= .returned (.int .i64 3)/\W=W':=by
 by_cases a0:w<1
 ·clear h;go_enter Tryz.func88,Tryz.ntmps88
  go_wp2_with fail
  go_ret
  exact⟨rfl,rfl⟩
 ·have a1:64<w:=by omega
  clear h;go_enter Tryz.func88,Tryz.ntmps88
  go_wp2_with fail
  go_ret
  exact⟨rfl,rfl⟩
theorem bit109(b:Bool)(W:World):Calls Tryz.prog 178 #[.bool b] W λ e W'=>e= .returned (.int .u64 (if b then 1 else 0))/\W=W':=by
 cases b
 ·go_enter Tryz.func178,Tryz.ntmps178
  go_wp2_with fail
  go_ret
  exact⟨rfl,rfl⟩
 ·go_enter Tryz.func178,Tryz.ntmps178
  go_wp2_with fail
  go_ret
  exact⟨rfl,rfl⟩
theorem high_raw{w a:Nat}(h1:1<=w)(ha:a<2^w):(bits .and .u64 ((a:Int)/2^(w-1)) 1==1)=decide (2^(w-1)<=a):=by
 have e:=two_pow_pred h1;have hp:0<2^(w-1):=Nat.two_pow_pos _;have e2:((a:Int)/2^(w-1))=((a/2^(w-1):Nat):Int):=by simp
 have hq:a/2^(w-1)<2:=Nat.div_lt_of_lt_mul (by omega);rw[e2,show(1:Int)=((1:Nat):Int) from rfl,bits_and _ _ (by omega) (by decide)];by_cases hh:2^(w-1)<=a
 ·have:a/2^(w-1)=1:=by
   have:0<a/2^(w-1):=Nat.div_pos hh hp;omega
  rw[this,decide_eq_true hh];rfl
 ·have:a/2^(w-1)=0:=Nat.div_eq_of_lt (by omega);rw[this,decide_eq_false hh];rfl
theorem high113(w a:Nat)(W:World)(h1:1<=w)(h:w<=64)(ha:a<2^w):Calls Tryz.prog 182 #[.int .i64 w,.int .u64 a] W λ e W'=>e= .returned (.bool (decide (2^(w-1)<=a)))/\W=W':=by
 have hw1:(1:Int)<=w:=by omega
 have HR:=Z (high_raw h1 ha);clear ha;go_enter Tryz.func182,Tryz.ntmps182
 go_wp2_with fail
 go_ret
 exact⟨by rw[<-HR.o];rfl,rfl⟩
theorem ret_i{k:IntKind}{a b:Int}(h:a=b):Ending.returned (.int k a)= .returned (.int k b):=by rw[h]
theorem u64_max:IntKind.u64.max=((18446744073709551615:Nat):Int):=rfl
theorem signed_raw{w a:Nat}(h:w<=64)(h1:1<=w)(ha:a<2^w)(hh:2^(w-1)<=a):wrap64 (bits .or .u64 (a:Int) (bits .xor .u64 IntKind.u64.max ((2^w-1:Nat):Int)))=sgn w a:=by
 have h2:=pow_le h;have h0:0<2^w:=Nat.two_pow_pos w;have e:=two_pow_pred h1;rw[u64_max,bits_xor _ _ (by decide) (by omega),Nat.xor_comm,xor_all _ (by omega),bits_or _ _ (by omega) (by omega),or_high a w ha h];have e':((2^w:Nat):Int)=(2:Int)^w:=by simp
 unfold sgn;rw[if_pos hh,<-e'];have hlow:2^(w-1)<=9223372036854775808:=by omega
 unfold wrap64;omega
theorem signed_low{w a:Nat}(h:w<=64)(h1:1<=w)(hh:¬2^(w-1)<=a):wrap64 (a:Int)=sgn w a:=by
 have h2:=pow_le h;have e:=two_pow_pred h1;unfold sgn;rw[if_neg hh];unfold wrap64;omega
theorem signed108(w a:Nat)(W:World)(h1:1<=w)(h:w<=64)(ha:a<2^w):Calls Tryz.prog 177 #[.int .i64 w,.int .u64 a] W λ e W'=>e= .returned (.int .i64 (sgn w a))/\W=W':=by
 by_cases hh:2^(w-1)<=a
 ·have HT:=Z (decide_eq_true hh);have HH:=Z (high113 w a W h1 h ha);have HM:=Z (mask82 w W h);rw[HT.o] at HH;have HS:=Z (signed_raw h h1 ha hh);clear ha hh h1 h;go_enter Tryz.func177,Tryz.ntmps177
  go_wp2_with(first|(go_at_call 182;refine HH.o.mono ?_;rintro e W' ⟨rfl,rfl⟩)|(go_at_call 106;refine HM.o.mono ?_;rintro e W' ⟨rfl,rfl⟩))
  go_ret
  exact⟨ret_i HS.o,rfl⟩
 ·have HT:=Z (decide_eq_false hh);have HH:=Z (high113 w a W h1 h ha);rw[HT.o] at HH;have HS:=Z (signed_low h h1 hh);clear ha hh h1 h;go_enter Tryz.func177,Tryz.ntmps177
  go_wp2_with(first|(go_at_call 182;refine HH.o.mono ?_;rintro e W' ⟨rfl,rfl⟩))
  go_ret
  exact⟨ret_i HS.o,rfl⟩
def OpPost(o w a b:Nat)(W:World)(e:Ending)(W':World):Prop:=∃r:Nat,e= .returned (.int .u64 r)/\r<18446744073709551616/\r%2^w=appN o w a b/\W=W'
theorem pow_dvd{w:Nat}(h:w<=64):2^w∣18446744073709551616:=Nat.pow_dvd_pow 2 h (n:=64)
theorem mod_pow{w:Nat}(h:w<=64)(x:Nat):x%18446744073709551616%2^w=x%2^w:=Nat.mod_mod_of_dvd x (pow_dvd h)
theorem b2n_mod{p:Prop}[Decidable p]{w:Nat}(hw:1<=w):b2n p%2^w=b2n p:=Nat.mod_eq_of_lt (b2n_lt hw)
theorem b2n_small{p:Prop}[Decidable p]:b2n p<18446744073709551616:=by unfold b2n;split<;>omega
section
variable (w a b:Nat) (W:World)
theorem op90(h:w<=64):Calls Tryz.prog 139 #[.int .i64 w,.int .u64 a,.int .u64 b] W (OpPost 4 w a b W):=by
 have HM:=Z (mod_pow h (a+b));clear h;go_enter Tryz.func139,Tryz.ntmps139
 go_wp2_with fail
 go_ret
 exact⟨(a+b)%18446744073709551616,ret_i (by rw[IntKind.wrap_u64];omega),Nat.mod_lt _ (by decide),HM.o,rfl⟩
theorem sub_raw{w a b:Nat}(h:w<=64)(hb:b<2^w):(a+(18446744073709551616-b))%18446744073709551616%2^w=appN 5 w a b:=by
 rw[mod_pow h];show _=(a+(2^w-b))%2^w;obtain⟨k,hk⟩:=pow_dvd h;have h0:0<2^w:=Nat.two_pow_pos w;have hk1:1<=k:=by
  cases k with
  |zero=>simp at hk
  |succ k=>omega
 have e:a+(18446744073709551616-b)=a+(2^w-b)+2^w*(k-1):=by
  rw[hk,Nat.mul_sub,Nat.mul_one];have:2^w*1<=2^w*k:=Nat.mul_le_mul_left _ hk1;omega
 rw[e,Nat.add_mul_mod_self_left]
theorem op91(h:w<=64)(hb:b<2^w):Calls Tryz.prog 140 #[.int .i64 w,.int .u64 a,.int .u64 b] W (OpPost 5 w a b W):=by
 have HM:=Z (sub_raw (a:=a) h hb);have hb2:b<18446744073709551616:=Nat.lt_of_lt_of_le hb (pow_le h);clear h hb;go_enter Tryz.func140,Tryz.ntmps140
 go_wp2_with fail
 go_ret
 exact⟨_,ret_i (by rw[IntKind.wrap_u64];omega),Nat.mod_lt _ (by decide),HM.o,rfl⟩
theorem op92(h:w<=64):Calls Tryz.prog 141 #[.int .i64 w,.int .u64 a,.int .u64 b] W (OpPost 6 w a b W):=by
 have HM:=Z (mod_pow h (a*b));clear h;go_enter Tryz.func141,Tryz.ntmps141
 go_wp2_with fail
 go_ret
 exact⟨(a*b)%18446744073709551616,ret_i (by rw[IntKind.wrap_u64,<-Int.natCast_mul];omega),Nat.mod_lt _ (by decide),HM.o,rfl⟩
theorem op95(h:w<=64)(ha:a<2^w)(hb:b<2^w):Calls Tryz.prog 144 #[.int .i64 w,.int .u64 a,.int .u64 b] W (OpPost 9 w a b W):=by
 have hl:=pow_le h;have HL:Hid (a&&&b<2^w):=Z (Nat.lt_of_le_of_lt Nat.and_le_left ha);have HB:=Z (bits_and a b (by omega) (by omega));have HH:=Z hl;clear h ha hb hl;go_enter Tryz.func144,Tryz.ntmps144
 go_wp2_with fail
 go_ret
 exact⟨_,ret_i HB.o,Nat.lt_of_lt_of_le HL.o HH.o,Nat.mod_eq_of_lt HL.o,rfl⟩
theorem op96(h:w<=64)(ha:a<2^w)(hb:b<2^w):Calls Tryz.prog 145 #[.int .i64 w,.int .u64 a,.int .u64 b] W (OpPost 10 w a b W):=by
 have hl:=pow_le h;have HL:Hid (a|||b<2^w):=Z (Nat.or_lt_two_pow ha hb);have HB:=Z (bits_or a b (by omega) (by omega));have HH:=Z hl;clear h ha hb hl;go_enter Tryz.func145,Tryz.ntmps145
 go_wp2_with fail
 go_ret
 exact⟨_,ret_i HB.o,Nat.lt_of_lt_of_le HL.o HH.o,Nat.mod_eq_of_lt HL.o,rfl⟩
theorem op97(h:w<=64)(ha:a<2^w)(hb:b<2^w):Calls Tryz.prog 146 #[.int .i64 w,.int .u64 a,.int .u64 b] W (OpPost 11 w a b W):=by
 have hl:=pow_le h;have HL:Hid (a^^^b<2^w):=Z (Nat.xor_lt_two_pow ha hb);have HB:=Z (bits_xor a b (by omega) (by omega));have HH:=Z hl;clear h ha hb hl;go_enter Tryz.func146,Tryz.ntmps146
 go_wp2_with fail
 go_ret
 exact⟨_,ret_i HB.o,Nat.lt_of_lt_of_le HL.o HH.o,Nat.mod_eq_of_lt HL.o,rfl⟩
theorem op101(h1:1<=w):Calls Tryz.prog 150 #[.int .i64 w,.int .u64 a,.int .u64 b] W (OpPost 15 w a b W):=by
 have HM:Hid (b2n (a=b)%2^w=b2n (a=b)):=Z (b2n_mod h1);clear h1;by_cases hc:a=b
 ·have HC:Hid (b2n (a=b)=1):=Z (if_pos hc);have d1:((a:Int)==b)=true:=by simp;omega
  clear hc;go_enter Tryz.func150,Tryz.ntmps150
  go_wp2_with(first|(go_at_call 178;refine(bit109 _ W).mono ?_;rintro e W' ⟨rfl,rfl⟩))
  go_ret
  exact⟨_,ret_i (by rw[HC.o];rfl),b2n_small,HM.o,rfl⟩
 ·have HC:Hid (b2n (a=b)=0):=Z (if_neg hc);have d1:((a:Int)==b)=false:=by simp;omega
  clear hc;go_enter Tryz.func150,Tryz.ntmps150
  go_wp2_with(first|(go_at_call 178;refine(bit109 _ W).mono ?_;rintro e W' ⟨rfl,rfl⟩))
  go_ret
  exact⟨_,ret_i (by rw[HC.o];rfl),b2n_small,HM.o,rfl⟩
theorem op102(h1:1<=w):Calls Tryz.prog 151 #[.int .i64 w,.int .u64 a,.int .u64 b] W (OpPost 16 w a b W):=by
 have HM:Hid (b2n (a≠b)%2^w=b2n (a≠b)):=Z (b2n_mod h1);clear h1;by_cases hc:a≠b
 ·have HC:Hid (b2n (a≠b)=1):=Z (if_pos hc);have d1:((a:Int) !=b)=true:=by simp;omega
  clear hc;go_enter Tryz.func151,Tryz.ntmps151
  go_wp2_with(first|(go_at_call 178;refine(bit109 _ W).mono ?_;rintro e W' ⟨rfl,rfl⟩))
  go_ret
  exact⟨_,ret_i (by rw[HC.o];rfl),b2n_small,HM.o,rfl⟩
 ·have HC:Hid (b2n (a≠b)=0):=Z (if_neg hc);have d1:((a:Int) !=b)=false:=by simp;omega
  clear hc;go_enter Tryz.func151,Tryz.ntmps151
  go_wp2_with(first|(go_at_call 178;refine(bit109 _ W).mono ?_;rintro e W' ⟨rfl,rfl⟩))
  go_ret
  exact⟨_,ret_i (by rw[HC.o];rfl),b2n_small,HM.o,rfl⟩
theorem op103(h1:1<=w):Calls Tryz.prog 152 #[.int .i64 w,.int .u64 a,.int .u64 b] W (OpPost 17 w a b W):=by
 have HM:Hid (b2n (a<b)%2^w=b2n (a<b)):=Z (b2n_mod h1);clear h1;by_cases hc:a<b
 ·have HC:Hid (b2n (a<b)=1):=Z (if_pos hc);have d1:decide (a<b)=true:=by simp;omega
  clear hc;go_enter Tryz.func152,Tryz.ntmps152
  go_wp2_with(first|(go_at_call 178;refine(bit109 _ W).mono ?_;rintro e W' ⟨rfl,rfl⟩))
  go_ret
  exact⟨_,ret_i (by rw[HC.o];rfl),b2n_small,HM.o,rfl⟩
 ·have HC:Hid (b2n (a<b)=0):=Z (if_neg hc);have d1:decide (a<b)=false:=by simp;omega
  clear hc;go_enter Tryz.func152,Tryz.ntmps152
  go_wp2_with(first|(go_at_call 178;refine(bit109 _ W).mono ?_;rintro e W' ⟨rfl,rfl⟩))
  go_ret
  exact⟨_,ret_i (by rw[HC.o];rfl),b2n_small,HM.o,rfl⟩
theorem op104(h1:1<=w):Calls Tryz.prog 153 #[.int .i64 w,.int .u64 a,.int .u64 b] W (OpPost 18 w a b W):=by
 have HM:Hid (b2n (a<=b)%2^w=b2n (a<=b)):=Z (b2n_mod h1);clear h1;by_cases hc:a<=b
 ·have HC:Hid (b2n (a<=b)=1):=Z (if_pos hc);have d1:decide (a<=b)=true:=by simp;omega
  clear hc;go_enter Tryz.func153,Tryz.ntmps153
  go_wp2_with(first|(go_at_call 178;refine(bit109 _ W).mono ?_;rintro e W' ⟨rfl,rfl⟩))
  go_ret
  exact⟨_,ret_i (by rw[HC.o];rfl),b2n_small,HM.o,rfl⟩
 ·have HC:Hid (b2n (a<=b)=0):=Z (if_neg hc);have d1:decide (a<=b)=false:=by simp;omega
  clear hc;go_enter Tryz.func153,Tryz.ntmps153
  go_wp2_with(first|(go_at_call 178;refine(bit109 _ W).mono ?_;rintro e W' ⟨rfl,rfl⟩))
  go_ret
  exact⟨_,ret_i (by rw[HC.o];rfl),b2n_small,HM.o,rfl⟩
end
end Go.Proofs.YtgdpkkjfcdhmdaaGreatDoor
