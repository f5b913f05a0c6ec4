/- Walk: word.Apply with one argument. -/
import Derived.Test.YtgdpkkjfcdhmdaaGreatDoorS0
import Derived.Test.YtgdpkkjfcdhmdaaGreatDoorS14
import Derived.Deep.RegionHeld3
namespace Go.Proofs.YtgdpkkjfcdhmdaaGreatDoor
open Go.RowKit
def ApPost(o w x y:Nat)(W:World)(e:Ending)(W':World):Prop:=e= .returned (.tuple #[.int .u64 (appN o w (x%2^w) (y%2^w):Nat),.int .i64 0])/\Below W.heap.size W W'
theorem ApPost.mk{o w x y mx my r:Nat}{W W':World}{v:Int}(hx:Hid (x%2^w=mx))(hy:Hid (y%2^w=my))(hv:v=((r%2^w:Nat):Int))(hr:Hid (r%2^w=appN o w mx my))(hb:Below W.heap.size W W'):
 ApPost o w x y W (.returned (.tuple #[.int .u64 v,.int .i64 0])) W':=⟨by rw[hv,hr.o,<-hx.o,<-hy.o],hb⟩
def OpF(o f:Nat):Prop:=(∀W,(Instr.index 231 tabV (.int .u8 o)).run Tryz.prog W= .ok (.agg #[.func (.func f) #[] #[]]) W)/\(∀W,(Instr.field 230 (.agg #[.func (.func f) #[] #[]]) 0).run Tryz.prog W= .ok (.func (.func f) #[] #[]) W)/\∀args W,(callFunc f args).run Tryz.prog W= .ok (.enter f args) W
theorem op_any(o w mx my:Nat)(h4:4<=o)(h20:o<=20)(h1:1<=w)(h:w<=64)(hx:mx<2^w)(hy:my<2^w):
  OpF o (135+o)/\∀W,Calls Tryz.prog (135+o) #[.int .i64 w,.int .u64 mx,.int .u64 my] W (OpPost o w mx my W):=by
 have hoc:o=4\/o=5\/o=6\/o=7\/o=8\/o=9\/o=10\/o=11\/o=12\/o=13\/o=14\/o=15\/o=16\/o=17\/o=18\/o=19\/o=20:=by omega
 rcases hoc with rfl|rfl|rfl|rfl|rfl|rfl|rfl|rfl|rfl|rfl|rfl|rfl|rfl|rfl|rfl|rfl|rfl<;>
  refine⟨⟨λ _=>by kernel_rfl,λ _=>by kernel_rfl,λ _ _=>by kernel_rfl⟩,λ W=> ?_⟩
 ·exact op90 w mx my W h
 ·exact op91 w mx my W h hy
 ·exact op92 w mx my W h
 ·exact op93 w mx my W h hx
 ·exact op94 w mx my W h hx
 ·exact op95 w mx my W h hx hy
 ·exact op96 w mx my W h hx hy
 ·exact op97 w mx my W h hx hy
 ·exact op98 w mx my W h
 ·exact op99 w mx my W h hx
 ·exact op100 w mx my W h1 h hx
 ·exact op101 w mx my W h1
 ·exact op102 w mx my W h1
 ·exact op103 w mx my W h1
 ·exact op104 w mx my W h1
 ·exact op105 w mx my W h1 h hx hy
 ·exact op106 w mx my W h1 h hx hy
def arrK(mx my:Nat)(k:Nat):Array Value:=if k=0 then#[.int .u64 0,.int .u64 0,.int .u64 0] else if k=1 then#[.int .u64 mx,.int .u64 0,.int .u64 0] else#[.int .u64 mx,.int .u64 my,.int .u64 0]
set_option maxRecDepth 100000 in
set_option maxHeartbeats 40000000 in
theorem apply_two(o w x y:Nat)(a:Option Addr)(cap:Nat)(W:World)(h4:4<=o)(h20:o<=20)(h1:1<=w)(h:w<=64)(hx:x<18446744073709551616)(hy:y<18446744073709551616)(hat:(Lay.int .u64).At 0 W a [(x:Int),(y:Int)]):
  Calls Tryz.prog 75 #[.int .u8 o,.int .i64 w,.slice a 2 cap] W (ApPost o w x y W):=by
 have hA:arN o=2:=by unfold arN;(repeat' split)<;>omega
 have HAR:=Z (arity72 o (by omega) (w:=W));rw[hA] at HAR;have HCK:=Z (check64_ok w W h1 h);have HM:=Z (λ W=>mask82 w W h);have HX:=Z (trim_raw h hx);have HY:=Z (trim_raw h hy);have hp:0<2^w:=Nat.two_pow_pos w;have HXL:Hid (x%2^w<2^w):=Z (Nat.mod_lt _ hp);have HYL:Hid (y%2^w<2^w):=Z (Nat.mod_lt _ hp);have HAT:=Z hat;have d1:decide ((o:Int)<2)=false:=by simp;omega
 have d2:decide (21<(o:Int))=false:=by simp;omega
 clear hA hx hy hp hat;go_enter Tryz.func75,Tryz.ntmps75
 go_wp2_with(first|(go_at_call 88;refine HCK.o.mono ?_;rintro e W' ⟨rfl,rfl⟩)|(go_at_call 92;refine HAR.o.mono ?_;rintro e W1 ⟨rfl,hb1⟩))
 have hz1:=hb1.size;obtain⟨pb,po,rfl,hpb,hp0⟩:=HAT.o.int (i:=0) (by simp);obtain⟨qb,qo,hq,_,hp1⟩:=HAT.o.int (i:=1) (by simp);injection hq with hq;injection hq with e1 e2;subst e1 e2;have hc0:W1.cell? ⟨pb,po,none⟩=some (.int .u64 x):=(hb1.cell (p:=⟨pb,po,none⟩) hpb).trans hp0;have hc1:W1.cell? ⟨pb,po+1,none⟩=some (.int .u64 y):=(hb1.cell (p:=⟨pb,po+1,none⟩) hpb).trans hp1;have hpb1:pb<W1.heap.size:=by omega
 clear hp0 hp1
 go_loopw [42] (λ i wr=>∃k:Nat,k<=2/\i= .int .i64 k/\Hid (wr=W1.alloc (.cells (arrK (x%2^w) (y%2^w) k) 227))) (λ i _=>2-(intOf i).toNat)
 case atStart=>exact⟨0,by omega,rfl,Z rfl⟩
 case round=>
  obtain⟨k,hk,rfl,hw⟩:=hrel;have hk3:k=0\/k=1\/k=2:=by omega
  rcases hk3 with rfl|rfl|rfl
  ·obtain rfl:=hw.o;clear hw;show _
   go_wp2_with(first|(go_at_call 106;refine(HM.o _).mono ?_;rintro e W' ⟨rfl,rfl⟩))
   go_roundw
   case rel=>exact⟨1,by omega,rfl,Z (by first|rfl|(rw[HX.o];rfl))⟩
   case measure=>simp[intOf]
  ·obtain rfl:=hw.o;clear hw;show _
   go_wp2_with(first|(go_at_call 106;refine(HM.o _).mono ?_;rintro e W' ⟨rfl,rfl⟩))
   go_roundw
   case rel=>exact⟨2,by omega,rfl,Z (by first|rfl|(rw[HY.o];rfl))⟩
   case measure=>simp[intOf]
  ·obtain rfl:=hw.o;clear hw;show _
   go_wp2_with fail
   have hS0:(W1.alloc (Obj.cells (arrK (x%2^w) (y%2^w) 2) 227)).cell? ⟨W1.heap.size,0,none⟩=some (.int .u64 (x%2^w:Nat)):=by rw[World.cell?_alloc_new];rfl
   have hS1:(W1.alloc (Obj.cells (arrK (x%2^w) (y%2^w) 2) 227)).cell? ⟨W1.heap.size,1,none⟩=some (.int .u64 (y%2^w:Nat)):=by rw[World.cell?_alloc_new];rfl
   have hbA:Below W.heap.size W (W1.alloc (Obj.cells (arrK (x%2^w) (y%2^w) 2) 227)):=hb1.alloc hz1 _;have hgA:W1.heap.size<(W1.alloc (Obj.cells (arrK (x%2^w) (y%2^w) 2) 227)).heap.size:=by simp
   clear hc0 hc1 hpb1 hb1;generalize W1.alloc (Obj.cells (arrK (x%2^w) (y%2^w) 2) 227)=wA at*;generalize W1.heap.size=g at*;have HS:Hid (∀w',Below wA.heap.size wA w'->w'.cell? ⟨g,0,none⟩=some (.int .u64 (x%2^w:Nat))/\w'.cell? ⟨g,1,none⟩=some (.int .u64 (y%2^w:Nat))/\Below wA.heap.size wA w'):=Z λ w' hb=>⟨(hb.cell (p:=⟨g,0,none⟩) hgA).trans hS0,(hb.cell (p:=⟨g,1,none⟩) hgA).trans hS1,hb⟩
   clear hS0 hS1;have HBA:=Z hbA;have HWB:=Z (show wA.heap.size>=W.heap.size from hbA.size);clear hbA d1 d2 HAR HCK hpb;generalize hmx:x%2^w=mx at*;generalize hmy:y%2^w=my at*;have HMX:=Z hmx;have HMY:=Z hmy;clear hmx hmy;obtain⟨⟨hix,hfx,hent⟩,hop⟩:=op_any o w mx my h4 h20 h1 h HXL.o HYL.o;have HOP:=Z hop;clear hop h4 h20;generalize 135+o=f at*
   go_region_held3(λ W'=>W'.cell? ⟨g,0,none⟩=some (.int .u64 (mx:Nat))/\W'.cell? ⟨g,1,none⟩=some (.int .u64 (my:Nat))/\Below wA.heap.size wA W')
    (first|exact HS.o _ (Below.refl _ _)|exact HS.o _ (Below.refl _ _).drew|exact HS.o _ KB.o|exact HS.o _ (‹_/\_/\Below _ _ _›).2.2|exact HS.o _ (‹_/\_/\Below _ _ _›).2.2.drew)
    (first
      |(go_at_call 107
        refine table87.mono ?_;rintro e wB ⟨rfl,hbB⟩;have KB:=Z ((‹_/\_/\Below _ _ _›).2.2.trans (hbB.mono (‹_/\_/\Below _ _ _›).2.2.size)))
      |(refine(HOP.o _).mono ?_
        rintro e wC ⟨r,rfl,hr,hmr,rfl⟩;have HR:=Z hr;have HMR:=Z hmr;clear hr hmr))
   all_goals
    go_wp2_with(first|(go_at_call 106;refine(HM.o _).mono ?_;rintro e W' ⟨rfl,rfl⟩))
    go_ret2
    exact ApPost.mk HMX HMY (trim_raw h HR.o) HMR (HBA.o.trans (KB.o.mono HWB.o))
theorem not_raw{w x:Nat}(h:w<=64)(hx:x<2^w):bits .and .u64 (bits .xor .u64 IntKind.u64.max (x:Int)) ((2^w-1:Nat):Int)=((appN 2 w x 0:Nat):Int):=by
 have hl:=pow_le h;obtain⟨k,hk⟩:=pow_dvd h;have h0:0<2^w:=Nat.two_pow_pos w;have hk1:1<=k:=by
  cases k with
  |zero=>simp at hk
  |succ k=>omega
 rw[u64_max,bits_xor _ _ (by decide) (by omega),Nat.xor_comm,xor_all _ (by omega),trim_raw h (by omega)];show(((18446744073709551615-x)%2^w:Nat):Int)=((2^w-1-x:Nat):Int)
 have e:18446744073709551615-x=(2^w-1-x)+2^w*(k-1):=by
  have e1:2^w*(k-1)=2^w*k-2^w:=by rw[Nat.mul_sub,Nat.mul_one]
  have e2:2^w*1<=2^w*k:=Nat.mul_le_mul_left _ hk1;omega
 rw[e,Nat.add_mul_mod_self_left,Nat.mod_eq_of_lt (by omega)]
theorem neg_raw{w x:Nat}(h:w<=64)(hx:x<2^w):bits .and .u64 (IntKind.u64.wrap (-(x:Int))) ((2^w-1:Nat):Int)=((appN 3 w x 0:Nat):Int):=by
 have hl:=pow_le h;obtain⟨k,hk⟩:=pow_dvd h;have h0:0<2^w:=Nat.two_pow_pos w;have hk1:1<=k:=by
  cases k with
  |zero=>simp at hk
  |succ k=>omega
 have e0:IntKind.u64.wrap (-(x:Int))=(((18446744073709551616-x)%18446744073709551616:Nat):Int):=by
  rw[IntKind.wrap_u64];omega
 rw[e0,trim_raw h (Nat.mod_lt _ (by decide)),mod_pow h];show(((18446744073709551616-x)%2^w:Nat):Int)=(((2^w-x)%2^w:Nat):Int)
 have e:18446744073709551616-x=(2^w-x)+2^w*(k-1):=by
  have e1:2^w*(k-1)=2^w*k-2^w:=by rw[Nat.mul_sub,Nat.mul_one]
  have e2:2^w*1<=2^w*k:=Nat.mul_le_mul_left _ hk1;omega
 rw[e,Nat.add_mul_mod_self_left]
set_option maxRecDepth 100000 in
set_option maxHeartbeats 4000000 in
theorem apply_not(w x y:Nat)(a:Option Addr)(cap:Nat)(W:World)(h1:1<=w)(h:w<=64)(hx:x<18446744073709551616)(hat:(Lay.int .u64).At 0 W a [(x:Int)]):
  Calls Tryz.prog 75 #[.int .u8 2,.int .i64 w,.slice a 1 cap] W (ApPost 2 w x y W):=by
 have HAR:=Z (arity72 2 (by omega) (w:=W));rw[show arN 2=1 from rfl] at HAR;have HCK:=Z (check64_ok w W h1 h);have HM:=Z (λ W=>mask82 w W h);have HX:=Z (trim_raw h hx);have hp:0<2^w:=Nat.two_pow_pos w;have HR:=Z (not_raw h (Nat.mod_lt x hp));have HAT:=Z hat;clear hx hp hat h1;go_enter Tryz.func75,Tryz.ntmps75
 go_wp2_with(first|(go_at_call 88;refine HCK.o.mono ?_;rintro e W' ⟨rfl,rfl⟩)|(go_at_call 92;refine HAR.o.mono ?_;rintro e W1 ⟨rfl,hb1⟩))
 have hz1:=hb1.size;obtain⟨pb,po,rfl,hpb,hp0⟩:=HAT.o.int (i:=0) (by simp);have hc0:W1.cell? ⟨pb,po,none⟩=some (.int .u64 x):=(hb1.cell (p:=⟨pb,po,none⟩) hpb).trans hp0;have hpb1:pb<W1.heap.size:=by omega
 clear hp0
 go_loopw [42] (λ i wr=>∃k:Nat,k<=1/\i= .int .i64 k/\Hid (wr=W1.alloc (.cells (arrK (x%2^w) 0 k) 227))) (λ i _=>1-(intOf i).toNat)
 case atStart=>exact⟨0,by omega,rfl,Z rfl⟩
 case round=>
  obtain⟨k,hk,rfl,hw⟩:=hrel;have hk3:k=0\/k=1:=by omega
  rcases hk3 with rfl|rfl
  ·obtain rfl:=hw.o;clear hw;show _
   go_wp2_with(first|(go_at_call 106;refine(HM.o _).mono ?_;rintro e W' ⟨rfl,rfl⟩))
   go_roundw
   case rel=>exact⟨1,by omega,rfl,Z (by first|rfl|(rw[HX.o];rfl))⟩
   case measure=>simp[intOf]
  ·obtain rfl:=hw.o;clear hw;have hS0:(W1.alloc (Obj.cells (arrK (x%2^w) 0 1) 227)).cell? ⟨W1.heap.size,0,none⟩=some (.int .u64 (x%2^w:Nat)):=by rw[World.cell?_alloc_new];rfl
   have hbA:Below W.heap.size W (W1.alloc (Obj.cells (arrK (x%2^w) 0 1) 227)):=hb1.alloc hz1 _;clear hc0 hpb1 hb1;generalize W1.alloc (Obj.cells (arrK (x%2^w) 0 1) 227)=wA at*;generalize W1.heap.size=g at*;have HBA:=Z hbA;clear hbA;generalize hmx:x%2^w=mx at*;have HMX:=Z hmx;clear hmx
   go_wp2_with(first|(go_at_call 106;refine(HM.o _).mono ?_;rintro e W' ⟨rfl,rfl⟩))
   go_ret2
   exact⟨congrArg Ending.returned (tup2 (HR.o.trans (by rw[<-HMX.o];rfl))),HBA.o⟩
set_option maxRecDepth 100000 in
set_option maxHeartbeats 4000000 in
theorem apply_neg(w x y:Nat)(a:Option Addr)(cap:Nat)(W:World)(h1:1<=w)(h:w<=64)(hx:x<18446744073709551616)(hat:(Lay.int .u64).At 0 W a [(x:Int)]):
  Calls Tryz.prog 75 #[.int .u8 3,.int .i64 w,.slice a 1 cap] W (ApPost 3 w x y W):=by
 have HAR:=Z (arity72 3 (by omega) (w:=W));rw[show arN 3=1 from rfl] at HAR;have HCK:=Z (check64_ok w W h1 h);have HM:=Z (λ W=>mask82 w W h);have HX:=Z (trim_raw h hx);have hp:0<2^w:=Nat.two_pow_pos w;have HR:=Z (neg_raw h (Nat.mod_lt x hp));have HAT:=Z hat;clear hx hp hat h1;go_enter Tryz.func75,Tryz.ntmps75
 go_wp2_with(first|(go_at_call 88;refine HCK.o.mono ?_;rintro e W' ⟨rfl,rfl⟩)|(go_at_call 92;refine HAR.o.mono ?_;rintro e W1 ⟨rfl,hb1⟩))
 have hz1:=hb1.size;obtain⟨pb,po,rfl,hpb,hp0⟩:=HAT.o.int (i:=0) (by simp);have hc0:W1.cell? ⟨pb,po,none⟩=some (.int .u64 x):=(hb1.cell (p:=⟨pb,po,none⟩) hpb).trans hp0;have hpb1:pb<W1.heap.size:=by omega
 clear hp0
 go_loopw [42] (λ i wr=>∃k:Nat,k<=1/\i= .int .i64 k/\Hid (wr=W1.alloc (.cells (arrK (x%2^w) 0 k) 227))) (λ i _=>1-(intOf i).toNat)
 case atStart=>exact⟨0,by omega,rfl,Z rfl⟩
 case round=>
  obtain⟨k,hk,rfl,hw⟩:=hrel;have hk3:k=0\/k=1:=by omega
  rcases hk3 with rfl|rfl
  ·obtain rfl:=hw.o;clear hw;show _
   go_wp2_with(first|(go_at_call 106;refine(HM.o _).mono ?_;rintro e W' ⟨rfl,rfl⟩))
   go_roundw
   case rel=>exact⟨1,by omega,rfl,Z (by first|rfl|(rw[HX.o];rfl))⟩
   case measure=>simp[intOf]
  ·obtain rfl:=hw.o;clear hw;have hS0:(W1.alloc (Obj.cells (arrK (x%2^w) 0 1) 227)).cell? ⟨W1.heap.size,0,none⟩=some (.int .u64 (x%2^w:Nat)):=by rw[World.cell?_alloc_new];rfl
   have hbA:Below W.heap.size W (W1.alloc (Obj.cells (arrK (x%2^w) 0 1) 227)):=hb1.alloc hz1 _;clear hc0 hpb1 hb1;generalize W1.alloc (Obj.cells (arrK (x%2^w) 0 1) 227)=wA at*;generalize W1.heap.size=g at*;have HBA:=Z hbA;clear hbA;generalize hmx:x%2^w=mx at*;have HMX:=Z hmx;clear hmx
   go_wp2_with(first|(go_at_call 106;refine(HM.o _).mono ?_;rintro e W' ⟨rfl,rfl⟩))
   go_ret2
   exact⟨congrArg Ending.returned (tup2 (HR.o.trans (by rw[<-HMX.o];rfl))),HBA.o⟩
end Go.Proofs.YtgdpkkjfcdhmdaaGreatDoor
