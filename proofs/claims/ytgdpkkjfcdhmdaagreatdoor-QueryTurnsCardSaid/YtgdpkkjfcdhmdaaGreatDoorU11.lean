/- Walks: twin.may, twin.of, the variable's twin. -/
import Derived.Test.YtgdpkkjfcdhmdaaGreatDoorS0
import Derived.Test.YtgdpkkjfcdhmdaaGreatDoorU10
import Derived.Test.YtgdpkkjfcdhmdaaGreatDoorS24
import Derived.Test.YtgdpkkjfcdhmdaaGreatDoorS21
import Derived.Test.YtgdpkkjfcdhmdaaGreatDoorS22
namespace Go.Proofs.YtgdpkkjfcdhmdaaGreatDoor
open Go.RowKit
structure Run (w0 w:World) (B:Nat) (A A':Nat->Prop) (gb mb:Nat) (nv0 nv:Value) (W:Nat) (L:List Nd):Prop where
 pg:PG w B (λ k=>A k\/A' k) gb mb nv W L
 new:∀k,A' k->w0.heap.size<=k
 mt:Mut (MutB gb (some mb) nv0) w0 w
 nb:NewB w0 nv0 nv
section
variable {w0 w w':World} {B:Nat} {A A':Nat->Prop} {gb mb:Nat} {nv0 nv:Value} {W:Nat} {L:List Nd} {r:Nat×List Nd} {e:Ending}
theorem Run.start(h:PG w B A gb mb nv W L):Run w w B A noB gb mb nv nv W L:=
 ⟨h.more λ _ h=>h.elim,λ _ h=>h.elim,Mut.of_below (Below.refl _ _),.inl rfl⟩
theorem Run.keep(h:Run w0 w B A A' gb mb nv0 nv W L)(hb:Below w.heap.size w w'):Run w0 w' B A A' gb mb nv0 nv W L:=
 ⟨h.pg.below hb,h.new,h.mt.trans (Mut.of_below hb),h.nb⟩
theorem Run.post(h:Run w0 w B A A' gb mb nv0 nv W L)(t:Nat):SimpPost w0 B A gb mb nv0 W (t,L) (.returned (.tuple #[.int .i64 (t:Nat),.int .i64 0])) w:=
 ⟨nv,A',rfl,h.pg,h.new,h.mt,h.nb⟩
theorem Run.free(h:Run w0 w B A A' gb mb nv0 nv W L){k:Nat}(hk:k<w0.heap.size)(hn:¬MutB gb (some mb) nv0 k):¬MutB gb (some mb) nv k:=λ hm=>by
 rcases mut_new h.nb hm with h1|h1
 ·exact hn h1
 ·omega
theorem Run.block(h:Run w0 w B A A' gb mb nv0 nv W L){k:Nat}(hk:k<w0.heap.size)(hn:¬MutB gb (some mb) nv0 k):w.heap[k]? =w0.heap[k]? :=h.mt.block k hk hn
theorem Run.step(h:Run w0 w B A A' gb mb nv0 nv W L)(hs:SimpPost w B (λ k=>A k\/A' k) gb mb nv W r e w'):
  ∃nv' A1,e= .returned (.tuple #[.int .i64 (r.1:Nat),.int .i64 0])/\Run w0 w' B A (λ k=>A' k\/A1 k) gb mb nv0 nv' W r.2/\Run w w' B (λ k=>A k\/A' k) A1 gb mb nv nv' W r.2:=by
 obtain⟨nv',A1,rfl,h1,h2,h3,h4⟩:=hs;have eA:(λ k=>(A k\/A' k)\/A1 k)=λ k=>(A k\/(A' k\/A1 k)):=funext λ k=>propext or_assoc
 refine⟨nv',A1,rfl,⟨by rw[<-eA];exact h1,λ k hk=>hk.elim (h.new k) λ hk=>Nat.le_trans h.mt.size (h2 k hk),?_,?_⟩,⟨h1,h2,h3,h4⟩⟩
 ·refine⟨h3.os.trans h.mt.os,h3.tape.trans h.mt.tape,h3.output.trans h.mt.output,Nat.le_trans h.mt.size h3.size,λ k hk hn=> ?_⟩;rw[h3.block k (Nat.lt_of_lt_of_le hk h.mt.size) (h.free hk hn)];exact h.mt.block k hk hn
 ·rcases h4 with e|⟨k,e,hk⟩
  ·rcases h.nb with e2|⟨k,e2,hk⟩
   ·exact .inl (e.trans e2)
   ·exact .inr ⟨k,e.trans e2,hk⟩
  ·exact .inr ⟨k,e,Nat.le_trans h.mt.size hk⟩
theorem Run.below(h:Run w0 w B A A' gb mb nv0 nv W L)(hB:B<=w0.heap.size)(hlo:∀k,MutB gb (some mb) nv0 k->B<=k):Below B w0 w:=h.mt.below hlo hB
theorem Run.lo(h:Run w0 w B A A' gb mb nv0 nv W L):∀k,MutB gb (some mb) nv k->B<=k/\k<w.heap.size:=h.pg.lo
theorem Own.written{α:Type}{Ly:Lay α}{t:TypeId}{S:Nat->Prop}{base:Nat}{v:Value}{xs:List α}(h:Ly.Own t w base v xs)(hm:Mut S w w')(hn:∀g,v.ownBlock=some g->¬S g):Ly.Own t w' base v xs:=by
 obtain⟨hl,h|⟨g,cap,cur,rfl,hg,hh,hn',hmx,hs,ht⟩⟩:=h
 ·exact⟨hl,.inl h⟩
 ·exact⟨hl,.inr ⟨g,cap,cur,rfl,hg,(hm.block g (Array.getElem?_eq_some_iff.1 hh).1 (hn g rfl)).trans hh,hn',hmx,hs,ht⟩⟩
theorem Part.written{S:Nat->Prop}{g:Nat}{vs:List Value}(h:Part w g vs)(hm:Mut S w w')(hn:¬S g):Part w' g vs:=
 h.frame hm.size (hm.block g h.lt hn)
end
end Go.Proofs.YtgdpkkjfcdhmdaaGreatDoor
namespace Go.Proofs.YtgdpkkjfcdhmdaaGreatDoor
open Go Go.RowKit
def visB(N:Nat)(up:Nat->Nat)(xs:List Int)(level:Int)(n:Nat):Bool:=leB N up (xs.getD (n/2%xs.length) 0) level
def twN(V:Nat->Bool)(n:Nat):Nat:=if V n then n else n+1
section
variable {w:World} {lb N:Nat} {up dn:Nat->Nat} {level:Int} {ca:Option Addr} {cc:Nat} {xs:List Int}
set_option maxHeartbeats 1000000 in
theorem of64(hL:LatC w lb N up dn)(hx:(Lay.int .i64).At 0 w ca xs)(h1:1<=xs.length)(h2:xs.length<=32)(n:Nat)(hn:n<4194304):
  Calls Tryz.prog 64 #[.pointer (some ⟨lb,0,none⟩),.int .i64 level,.slice ca xs.length cc,.int .i64 n] w λ e w'=>e= .returned (.int .i64 (twN (visB N up xs level) n:Nat))/\w=w':=by
 obtain⟨c,hc⟩:∃c,n/2%xs.length=c:=⟨_,rfl⟩
 have hcl:c<xs.length:=by rw[<-hc];exact Nat.mod_lt _ (by omega)
 obtain⟨b,o,rfl,hb,c0⟩:=hx.int (i:=c) hcl;have HLE:=Z (le_any lb N up dn (xs.getD c 0) level w hL);have HV:Hid (visB N up xs level n=leB N up (xs.getD c 0) level):=Z (by unfold visB;rw[hc]);generalize visB N up xs level=V at*;obtain⟨d,hd⟩:∃d,n/2=d:=⟨_,rfl⟩
 rw[hd] at hc;have t3:Int.tdiv (n:Int) 2=(d:Int):=by rw[Int.tdiv_eq_ediv_of_nonneg (by omega)];omega
 have t4:(n:Int)/2=(d:Int):=by omega
 have t5:Int.tmod (d:Int) (xs.length:Int)=(c:Int):=by rw[Int.tmod_eq_emod_of_nonneg (by omega),<-hc,Int.natCast_emod]
 have t6:(d:Int)%(xs.length:Int)=(c:Int):=by rw[<-hc,Int.natCast_emod]
 have t7:(xs.length:Int)≠0:=by omega
 have t8:(c:Int)<xs.length:=by omega
 have t9:IntKind.i64.wrap (d:Int)=(d:Int):=by rw[IntKind.wrap_i64];omega
 have t10:IntKind.i64.wrap (c:Int)=(c:Int):=by rw[IntKind.wrap_i64];omega
 clear hx hL hc hd hcl h1;generalize xs.getD c 0=lv at*;generalize xs.length=m at*;go_enter Tryz.func64,Tryz.ntmps64;cases hle:leB N up lv level with
 |true=>
  rw[hle] at HLE HV;clear hle
  go_wp2_with(go_at_call 40;refine HLE.o.mono ?_;rintro e w' ⟨rfl,rfl⟩)
  go_ret
  exact⟨by unfold twN;rw[HV.o];rfl,rfl⟩
 |false=>
  rw[hle] at HLE HV;clear hle
  go_wp2_with(go_at_call 40;refine HLE.o.mono ?_;rintro e w' ⟨rfl,rfl⟩)
  go_ret
  refine⟨?_,rfl⟩;unfold twN;rw[HV.o]
  first|rfl|(simp;done)|(congr 2;go_num)
set_option maxHeartbeats 1000000 in
theorem may62(hL:LatC w lb N up dn)(hlv:isB N level=true)(hx:(Lay.int .i64).At 0 w ca xs)(hok:xs.all (isB N)=true)(h1:1<=xs.length)(h2:xs.length<=32):
  Calls Tryz.prog 62 #[.pointer (some ⟨lb,0,none⟩),.int .i64 level,.slice ca xs.length cc] w λ e w'=>e= .returned (.int .i64 0)/\w=w':=by
 have HN:=Z (len_any lb N w hL.hn);have HX:=Z hx;obtain⟨lv,rfl,hlv2⟩:=isB_nat hlv;have HOK:=Z (List.all_eq_true.1 hok);obtain⟨m,hm⟩:∃m,xs.length=m:=⟨_,rfl⟩
 rw[hm] at h1 h2⊢;have HM:=Z hm;clear hm hL hlv hx hok;have d1:decide ((m:Int)<1)=false:=decide_eq_false (by omega);have d2:decide ((32:Int)<m)=false:=decide_eq_false (by omega);have d3:decide ((lv:Int)<0)=false:=decide_eq_false (by omega);have d4:decide ((N:Int)<=lv)=false:=decide_eq_false (by omega);have d5:decide (N<=lv)=false:=decide_eq_false (by omega);go_enter Tryz.func62,Tryz.ntmps62
 go_wp2_with(go_at_call 45;refine HN.o.mono ?_;rintro e w' ⟨rfl,rfl⟩)
 go_loopw [31] (λ i wr=>∃k:Nat,k<=m/\i= .int .i64 k/\wr=w) (λ i _=>m-(intOf i).toNat)
 case atStart=>exact⟨0,by omega,rfl,rfl⟩
 case round=>
  obtain⟨k,hk,rfl,rfl⟩:=hrel;by_cases hk0:k<m
  ·have hki:(k:Int)<m:=by omega
   obtain⟨tb,to_,rfl,htb,c0⟩:=HX.o.int (i:=k) (by rw[HM.o];exact hk0);obtain⟨c,hc,hcN⟩:=isB_nat (HOK.o _ (getD_mem 0 xs k (by rw[HM.o];exact hk0)));rw[hc] at c0;have e1:decide ((c:Int)<0)=false:=decide_eq_false (by omega);have e2:decide ((N:Int)<=c)=false:=decide_eq_false (by omega);have e3:decide (N<=c)=false:=decide_eq_false (by omega);clear hc
   go_wp2_with(go_at_call 45;refine HN.o.mono ?_;rintro e w' ⟨rfl,rfl⟩)
   go_roundw
   case rel=>exact⟨k+1,by omega,by go_num,trivial⟩
   case measure=>simp[intOf]<;>omega
  ·obtain rfl:k=m:=by omega
   go_wp2_with fail
   go_ret
   exact⟨rfl,rfl⟩
set_option maxRecDepth 100000 in
set_option maxHeartbeats 2000000 in
theorem term63{B:Nat}{A:Nat->Prop}{gb mb:Nat}{nv:Value}{W:Nat}{L:List Nd}(h:PG w B A gb mb nv W L)(hB:B<=w.heap.size)(hLl:L.length<=999)(hL:LatC w lb N up dn)(hx:(Lay.int .i64).At 0 w ca xs)(h1:1<=xs.length)(h2:xs.length<=32)(n:Nat)(hn:n+1<12)
  {p5 p6 p7 p8:Nat}(c5:w.cell? ⟨p5,0,none⟩=some (.pointer (some ⟨gb,0,none⟩)))(c6:w.cell? ⟨p6,0,none⟩=some (.pointer (some ⟨lb,0,none⟩)))(c7:w.cell? ⟨p7,0,none⟩=some (.int .i64 level))(c8:w.cell? ⟨p8,0,none⟩=some (.slice ca xs.length cc))
  (n5:¬MutB gb (some mb) nv p5)(n6:¬MutB gb (some mb) nv p6)(n7:¬MutB gb (some mb) nv p7)(n8:¬MutB gb (some mb) nv p8):
  Calls Tryz.prog 63 #[.int .i64 n,.pointer (some ⟨p5,0,none⟩),.pointer (some ⟨p6,0,none⟩),.pointer (some ⟨p7,0,none⟩),.pointer (some ⟨p8,0,none⟩)] w (SimpPost w B A gb mb nv W (runP L (.ask (vN (twN (visB N up xs level) n))))):=by
 have HO:=Z (λ w' (hb:Below w.heap.size w w')=>of64 (hL.below' hb) (hx.below hb) h1 h2 (level:=level) (cc:=cc) n (by omega));have HVA:=Z (λ w' (hb:Below w.heap.size w w')=>(var52 (h.below hb) (Nat.le_trans hB hb.size) hLl (twN (visB N up xs level) n) (by unfold twN;split<;>omega)));have HB:=Z (Below.refl w.heap.size w);generalize hS:SimpPost w B A gb mb nv W (runP L (.ask (vN (twN (visB N up xs level) n))))=S;have HS:=Z hS;clear hS h hL hx h1 h2 hn;generalize xs.length=m at*;generalize twN (visB N up xs level) n=tn at*;go_enter Tryz.func63,Tryz.ntmps63
 go_upto_region 1 with fail
 have HB1:Hid (Below w.heap.size w w.drew):=Z (Below.refl _ _).drew;have f5:w.drew.cell? ⟨p5,0,none⟩=some (.pointer (some ⟨gb,0,none⟩)):=c5;have f6:w.drew.cell? ⟨p6,0,none⟩=some (.pointer (some ⟨lb,0,none⟩)):=c6;have f7:w.drew.cell? ⟨p7,0,none⟩=some (.int .i64 level):=c7;have f8:w.drew.cell? ⟨p8,0,none⟩=some (.slice ca m cc):=c8;have HO2:=Z (HO.o _ HB1.o);have HV2:=Z (HVA.o _ HB1.o);clear HO HVA
 go_region_held3(λ w'=>w'.cell? ⟨p5,0,none⟩=some (.pointer (some ⟨gb,0,none⟩))/\w'.cell? ⟨p6,0,none⟩=some (.pointer (some ⟨lb,0,none⟩))/\w'.cell? ⟨p7,0,none⟩=some (.int .i64 level)/\w'.cell? ⟨p8,0,none⟩=some (.slice ca m cc))
  (first|exact⟨c5,c6,c7,c8⟩|exact⟨f5,f6,f7,f8⟩|exact KE.o)
  (first
    |(go_at_call 64
      refine HO2.o.mono ?_;rintro e w' ⟨rfl,rfl⟩)
    |(go_at_call 51
      refine HV2.o.mono ?_;rintro e w' ⟨nv',rfl,p1,p2,p3⟩;have H1:=Z p1;have H2:=Z p2;have H3:=Z p3;have KE:Hid (w'.cell? ⟨p5,0,none⟩=some (.pointer (some ⟨gb,0,none⟩))/\w'.cell? ⟨p6,0,none⟩=some (.pointer (some ⟨lb,0,none⟩))/\w'.cell? ⟨p7,0,none⟩=some (.int .i64 level)/\w'.cell? ⟨p8,0,none⟩=some (.slice ca m cc)):=Z
       ⟨(World.cell?_of_block (a:=⟨p5,0,none⟩) (p2.block p5 (World.block_lt_of_cell? _ _ f5) n5)).trans f5,(World.cell?_of_block (a:=⟨p6,0,none⟩) (p2.block p6 (World.block_lt_of_cell? _ _ f6) n6)).trans f6,(World.cell?_of_block (a:=⟨p7,0,none⟩) (p2.block p7 (World.block_lt_of_cell? _ _ f7) n7)).trans f7,(World.cell?_of_block (a:=⟨p8,0,none⟩) (p2.block p8 (World.block_lt_of_cell? _ _ f8) n8)).trans f8⟩
      clear p1 p2 p3))
 all_goals
  go_wp2_with fail
  rw[<-HS.o];exact SimpPost.ask (A':=noB) HB1.o (λ _ h=>h.elim) ⟨_,rfl,H1.o,H2.o,H3.o⟩
end
end Go.Proofs.YtgdpkkjfcdhmdaaGreatDoor
