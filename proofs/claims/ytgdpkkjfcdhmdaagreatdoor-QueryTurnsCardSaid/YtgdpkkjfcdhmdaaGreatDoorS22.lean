/- Walks: Node of both graphs. -/
import Derived.Test.YtgdpkkjfcdhmdaaGreatDoorS0
import Derived.Test.YtgdpkkjfcdhmdaaGreatDoorS17
import Derived.Test.YtgdpkkjfcdhmdaaGreatDoorS21
import Derived.Handy
namespace Go.Proofs.YtgdpkkjfcdhmdaaGreatDoor
open Go.RowKit
theorem Tryz.elemE:ElemT Tryz.prog Lay.sev 25 83 (.agg #[.int .i64 0,.int .i64 0]) 16:=⟨Tryz.underlying25,by kernel_rfl,rfl,by decide⟩
structure SideAt (w:World) (sb lb:Nat) (ca:Option Addr) (cc:Nat) (xs:List Int) (sa:Option Addr) (sc:Nat) (ys:List Int):Prop where
 l:w.cell? ⟨sb,0,none⟩=some (.pointer (some ⟨lb,0,none⟩))
 c1:w.cell? ⟨sb,1,none⟩=some (.slice ca xs.length cc)
 c2:w.cell? ⟨sb,2,none⟩=some (.slice sa ys.length sc)
 x:(Lay.int .i64).At 0 w ca xs
 y:(Lay.int .i64).At 0 w sa ys
theorem SideAt.lt{w:World}{sb lb:Nat}{ca:Option Addr}{cc:Nat}{xs:List Int}{sa:Option Addr}{sc:Nat}{ys:List Int}(h:SideAt w sb lb ca cc xs sa sc ys):sb<w.heap.size:=World.block_lt_of_cell? w _ h.l
theorem SideAt.below{w w':World}{sb lb:Nat}{ca:Option Addr}{cc:Nat}{xs:List Int}{sa:Option Addr}{sc:Nat}{ys:List Int}(h:SideAt w sb lb ca cc xs sa sc ys)(hb:Below w.heap.size w w'):SideAt w' sb lb ca cc xs sa sc ys:=
 ⟨(hb.cell (p:=⟨sb,0,none⟩) h.lt).trans h.l,(hb.cell (p:=⟨sb,1,none⟩) h.lt).trans h.c1,(hb.cell (p:=⟨sb,2,none⟩) h.lt).trans h.c2,h.x.below hb,h.y.below hb⟩
theorem LatC.below'{w w':World}{b n:Nat}{up dn:Nat->Nat}(h:LatC w b n up dn)(hb:Below w.heap.size w w'):LatC w' b n up dn:=
 have hl:b<w.heap.size:=World.block_lt_of_cell? w _ h.hn
 ⟨(hb.cell (p:=⟨b,0,none⟩) hl).trans h.hn,λ i hi=>(hb.cell (p:=⟨b,1+i,none⟩) hl).trans (h.hup i hi),λ i hi=>(hb.cell (p:=⟨b,33+i,none⟩) hl).trans (h.hdn i hi),h.bup,h.bdn,h.n32⟩
theorem seen_take(n:Nat)(up:Nat->Nat)(level:Int)(xs:List Int)(es:List (Int×Int))(k:Nat)(hq:k<es.length):seen n up level xs (es.take (k+1))=seen n up level xs (es.take k)++if leB n up (xs.getD (es.getD k (0,0)).1.toNat 0) level then[es.getD k (0,0)] else[]:=take_filter (0,0) _ es k hq
theorem seen_len(n:Nat)(up:Nat->Nat)(level:Int)(xs:List Int)(es:List (Int×Int))(k:Nat):(seen n up level xs (es.take k)).length<=k:=Nat.le_trans (List.length_filter_le _ _) (List.length_take_le _ _)
theorem seen_mem{n:Nat}{up:Nat->Nat}{level:Int}{xs:List Int}{es:List (Int×Int)}{p:Int×Int}(h:p∈seen n up level xs es):p∈es:=(List.mem_filter.1 h).1
set_option maxRecDepth 100000 in
set_option maxHeartbeats 2000000 in
theorem seen29{sb lb:Nat}{ca:Option Addr}{cc:Nat}{xs:List Int}{sa:Option Addr}{sc:Nat}{ys:List Int}(n:Nat)(up dn:Nat->Nat)(level:Int)(ea:Option Addr)(ecap:Nat)(es:List (Int×Int))(w:World)
  (hs:SideAt w sb lb ca cc xs sa sc ys)(hL:LatC w lb n up dn)(hin:∀p∈es,0<=p.1/\p.1<xs.length)(hea:Lay.sev.At (0,0) w ea es)(hsm:es.length<=1000):
  Calls Tryz.prog 29 #[.pointer (some ⟨sb,0,none⟩),.int .i64 level,.slice ca xs.length cc,.slice ea es.length ecap] w λ e w'=>∃v,e= .returned v/\Lay.sev.Own 83 w' w.heap.size v (seen n up level xs es)/\Below w.heap.size w w':=by
 have HS:=Z hs;have HL:=Z hL;have HIN:=Z hin;have HE:=Z hea;have HT:=Z (seen_take n up level xs es);have HTL:=Z (seen_len n up level xs es);have HF:Hid (es.take es.length=es):=Z List.take_length;clear hs hL hin hea;generalize hlen:es.length=elen at*;have HLEN:=Z hlen;generalize hxl:xs.length=xl at*;have HXL:=Z hxl;clear hlen hxl;go_enter Tryz.func29,Tryz.ntmps29
 go_wp2_with fail
 go_loopw [9,14] (λ v i wr=>∃k:Nat,k<=elen/\i= .int .i64 k/\Hid (Lay.sev.Own 83 wr w.heap.size v (seen n up level xs (es.take k)))/\Below w.heap.size w wr) (λ _ i _=>elen-(intOf i).toNat)
 case atStart=>exact⟨0,by omega,rfl,Z (Lay.Own.nil _ _),Below.refl _ _⟩
 case round=>
  obtain⟨k,hk,rfl,hown,hbel⟩:=hrel;have HOW:=Z hown.o;have HBE:=Z hbel;have hsz:=hbel.size;clear hown hbel;by_cases hlt:k<elen
  ·have hq:k<es.length:=by rw[HLEN.o];exact hlt
   obtain⟨pb,po,rfl,hpb,p0,p1⟩:=HE.o.sev hq;have c0:=(HBE.o.cell (p:=⟨pb,po+k*2,none⟩) hpb).trans p0;have c1:=(HBE.o.cell (p:=⟨pb,po+k*2+1,none⟩) hpb).trans p1;obtain⟨o1,o2⟩:=HIN.o _ (getD_mem (0,0) es k hq);have HTK:=Z (HT.o k hlt);have hbl:=HTL.o k;have HBL:=Z hbl;have hki:(k:Int)<elen:=by omega
   clear p0 p1 hq hbl;generalize es.getD k (0,0)=ev at*;obtain⟨N,T⟩:=ev;simp only at c0 c1 o1 o2 HTK;obtain⟨N,rfl⟩:=Int.eq_ofNat_of_zero_le o1;rw[Int.toNat_natCast] at HTK;have BX:Below wr.heap.size wr (wr.alloc (.cells #[.int .i64 N,.int .i64 T] 83)):=(Below.refl _ _).alloc (Nat.le_refl _) _;have BX0:=HBE.o.trans (BX.mono hsz);have q0:(wr.alloc (.cells #[.int .i64 N,.int .i64 T] 83)).cell? ⟨wr.heap.size,0,none⟩=some (.int .i64 N):=by rw[World.cell?_alloc_new];rfl
   have q1:(wr.alloc (.cells #[.int .i64 N,.int .i64 T] 83)).cell? ⟨wr.heap.size,1,none⟩=some (.int .i64 T):=by rw[World.cell?_alloc_new];rfl
   have s2:=HS.o.below BX0;obtain⟨lvb,lvo,rfl,hlvb,l0⟩:=s2.x.int (i:=N) (by rw[HXL.o];omega);have s0:=s2.l;have HC:=Z (λ m=>le_q lb n up dn (xs.getD N 0) level _ (HL.o.below' BX0) m);have hown2:=HOW.o.grown BX;have HO2:=Z hown2;have HBX:=Z BX;have HBX0:=Z BX0;have hsz2:=BX0.size;have hN:(N:Int)<xl:=by omega
   clear s2 hown2 BX BX0;generalize xs.getD N 0=lv at*;cases hc:leB n up lv level with
   |true=>
    rw[hc] at HC HTK;clear hc
    go_wp2_with fail
    generalize wr.alloc (.cells #[.int .i64 N,.int .i64 T] 83)=w2 at*
    go_quiet((go_at_call 40;exact HC.o _))
    go_wp2_with(at_builtin;refine app_lay_new_g Tryz.elemE [((N:Int),T)] rfl _ _ rfl rfl (HO2.o.grown (below_drewN (Below.refl _ _) _)) rfl (by first|rfl|simp) rfl (by have:=HBL.o;omega) (by first|exact hsz2|(simp;omega)) ?_)
    intro v' w3 r1 r2
    go_wp2_with fail
    go_roundw
    case rel=>exact⟨k+1,by omega,by go_num,Z (by rw[HTK.o];exact r1),(below_drewN HBX0.o _).trans r2⟩
    case measure=>simp[intOf]<;>omega
   |false=>
    rw[hc] at HC HTK;clear hc
    go_wp2_with fail
    generalize wr.alloc (.cells #[.int .i64 N,.int .i64 T] 83)=w2 at*
    go_quiet((go_at_call 40;exact HC.o _))
    go_wp2_with fail
    go_roundw
    case rel=>exact⟨k+1,by omega,by go_num,Z (by rw[HTK.o];simpa using HO2.o.grown (below_drewN (Below.refl _ _) _)),below_drewN HBX0.o _⟩
    case measure=>simp[intOf]<;>omega
  ·obtain rfl:k=elen:=by omega
   rw[HF.o] at HOW
   go_wp2_with fail
   go_ret
   exact⟨_,rfl,HOW.o,HBE.o⟩
set_option maxRecDepth 100000 in
theorem len58(gb nl:Nat){na:Option Addr}{nc:Nat}(w:World)(h:w.cell? ⟨gb,2,none⟩=some (.slice na nl nc)):Calls Tryz.prog 59 #[.pointer (some ⟨gb,0,none⟩)] w λ e w'=>e= .returned (.int .i64 nl)/\w=w':=by
 go_enter Tryz.func59,Tryz.ntmps59
 go_wp2_with fail
 go_ret
 exact⟨rfl,rfl⟩
theorem intsN_len(l:List Nat):(intsN l).length=l.length:=by simp[intsN]
theorem intsN_getD(l:List Nat)(i:Nat):(intsN l).getD i 0=((l.getD i 0:Nat):Int):=by
 unfold intsN;rw[List.getD_eq_getElem?_getD,List.getD_eq_getElem?_getD,List.getElem?_map];cases l[i]? <;>rfl
structure RV (w:World) (r:Nat) (W:Nat) (L:List Nd):Prop where
 low:r<w.heap.size
 c0:w.cell? ⟨r,0,none⟩=some (.int .i64 W)
 nodes:∃a cap,w.cell? ⟨r,2,none⟩=some (.slice a L.length cap)/\∀i,i<L.length->∃b ha hc,a=some ⟨b,0,none⟩/\b<w.heap.size/\w.cell? ⟨b,i*3,none⟩=some (.int .u8 ((L.getD i default).op:Int))/\w.cell? ⟨b,i*3+1,none⟩=some (.int .u64 ((L.getD i default).num:Int))/\
  w.cell? ⟨b,i*3+2,none⟩=some (.slice ha (L.getD i default).args.length hc)/\(Lay.int .i64).At 0 w ha (intsN (L.getD i default).args)/\(ha=none->hc=0)
 ok:GOk W L
theorem RG.rv{w:World}{B:Nat}{A:Nat->Prop}{r:Nat}{nv:Value}{W:Nat}{L:List Nd}(h:RG w B A r nv W L):RV w r W L:=by
 obtain⟨a,cap,rfl,_,_⟩:=h.slice;obtain⟨xs,hown,hxs⟩:=h.nds;refine⟨(h.lo r (.inl rfl)).2,by simp[World.cell?,h.blk],⟨a,cap,by simp[World.cell?,h.blk],λ i hi=> ?_⟩,h.ok⟩;obtain⟨b,cb,ha,hc,hv,hb,_,y0,y1,y2,hat,hq1,hq2⟩:=nds_cells hown hxs hi;injection hv with hv _ _;exact⟨b,ha,hc,hv,hb,y0,y1,y2,hat,by first|exact hq2|exact hq1⟩
theorem RV.below{w w':World}{r W:Nat}{L:List Nd}(h:RV w r W L)(hb:Below w.heap.size w w'):RV w' r W L:=by
 obtain⟨a,cap,h1,h2⟩:=h.nodes;refine⟨Nat.lt_of_lt_of_le h.low hb.size,(hb.cell (p:=⟨r,0,none⟩) h.low).trans h.c0,⟨a,cap,(hb.cell (p:=⟨r,2,none⟩) h.low).trans h1,λ i hi=> ?_⟩,h.ok⟩;obtain⟨b,ha,hc,e,hlt,y0,y1,y2,hat,hno⟩:=h2 i hi;exact⟨b,ha,hc,e,Nat.lt_of_lt_of_le hlt hb.size,(hb.cell (p:=⟨b,i*3,none⟩) hlt).trans y0,(hb.cell (p:=⟨b,i*3+1,none⟩) hlt).trans y1,(hb.cell (p:=⟨b,i*3+2,none⟩) hlt).trans y2,hat.below hb,hno⟩
theorem PG.rv{w:World}{B:Nat}{A:Nat->Prop}{gb mb:Nat}{nv:Value}{W:Nat}{L:List Nd}(h:PG w B A gb mb nv W L):RV w gb W L:=by
 obtain⟨a,cap,rfl,_,_⟩:=h.slice;obtain⟨xs,hown,hxs⟩:=h.nds;refine⟨(h.lo gb (.inl rfl)).2,by simp[World.cell?,h.blk],⟨a,cap,by simp[World.cell?,h.blk],λ i hi=> ?_⟩,h.ok⟩;obtain⟨b,cb,ha,hc,hv,hb,_,y0,y1,y2,hat,hq1,hq2⟩:=nds_cells hown hxs hi;injection hv with hv _ _;exact⟨b,ha,hc,hv,hb,y0,y1,y2,hat,by first|exact hq2|exact hq1⟩
theorem Lay.Own.atBase{α:Type}{L:Lay α}{d:α}{e:TypeId}{w:World}{base:Nat}{v:Value}{xs:List α}(h:L.Own e w base v xs):∃a cap,v= .slice a xs.length cap/\L.At d w a xs/\(a=none->cap=0)/\∀ad,a=some ad->base<=ad.block:=by
 obtain⟨a,cap,e1,hat,_,_⟩:=h.at_ (d:=d);refine⟨a,cap,e1,hat,λ hn=> ?_,λ ad ha=> ?_⟩
 ·rcases(h:w.ownsRow base e L.sz v xs.length (L.flat xs)).2 with⟨hv,_⟩|⟨g,cap',cur,hv,hb,_⟩
  ·rw[hv] at e1;injection e1 with _ _ e3;exact e3.symm
  ·rw[hv] at e1;injection e1 with e1 _ _;rw[hn] at e1;cases e1
 rcases(h:w.ownsRow base e L.sz v xs.length (L.flat xs)).2 with⟨hv,_⟩|⟨g,cap',cur,hv,hb,_⟩
 ·rw[hv] at e1;injection e1 with e1 _ _;rw[<-e1] at ha;cases ha
 ·rw[hv] at e1;injection e1 with e1 _ _;rw[<-e1] at ha;injection ha with ha;rw[<-ha];exact hb
theorem set4{w5:World}{b:Nat}(v x y z:Value){u0 u1 u2:Value}(g0:w5.cell? ⟨b,0,none⟩=some u0)(g1:w5.cell? ⟨b,1,none⟩=some u1)(g2:w5.cell? ⟨b,2,none⟩=some u2):
  let w6:=((((w5.setCell ⟨b+1,2,none⟩ v).setCell ⟨b,0,none⟩ x).setCell ⟨b,1,none⟩ y).setCell ⟨b,2,none⟩ z)
  w6.cell? ⟨b,0,none⟩=some x/\w6.cell? ⟨b,1,none⟩=some y/\w6.cell? ⟨b,2,none⟩=some z/\(∀k,b+2<=k->w6.heap[k]? =w5.heap[k]?)/\w6.heap.size=w5.heap.size/\(∀(B:Nat) (w:World),Below B w w5->B<=b->Below B w w6):=by
 refine⟨?_,?_,?_,λ k hk=> ?_,by simp,λ B w h hb=>(((h.setCell (p:=⟨b+1,2,none⟩) (by show B<=b+1;omega) v).setCell (p:=⟨b,0,none⟩) hb x).setCell (p:=⟨b,1,none⟩) hb y).setCell (p:=⟨b,2,none⟩) hb z⟩
 ·rw[World.cell?_setCell_other _ _ _ _ (by simp),World.cell?_setCell_other _ _ _ _ (by simp)];exact World.cell?_setCell_same _ _ _ ((World.cell?_setCell_other _ _ _ _ (by simp)).trans g0)
 ·rw[World.cell?_setCell_other _ _ _ _ (by simp)];exact World.cell?_setCell_same _ _ _ ((World.cell?_setCell_other _ _ _ _ (by simp)).trans ((World.cell?_setCell_other _ _ _ _ (by simp)).trans g1))
 ·exact World.cell?_setCell_same _ _ _ ((World.cell?_setCell_other _ _ _ _ (by simp)).trans ((World.cell?_setCell_other _ _ _ _ (by simp)).trans ((World.cell?_setCell_other _ _ _ _ (by simp)).trans g2)))
 ·have e1:b+1≠k:=by omega
  have e2:b≠k:=by omega
  simp[World.setCell,Array.getElem?_modify,e1,e2]
set_option maxRecDepth 100000 in
set_option maxHeartbeats 4000000 in
theorem node70{w:World}{r W:Nat}{L:List Nd}(h:RV w r W L)(t:Nat)(ht:t<L.length):
  Calls Tryz.prog 71 #[.pointer (some ⟨r,0,none⟩),.int .i64 t] w λ e w'=>∃ha hc,e= .returned (.tuple #[.agg #[.int .u8 ((L.getD t default).op:Int),.int .u64 ((L.getD t default).num:Int),.slice ha (L.getD t default).args.length hc],.int .i64 0])/\(Lay.int .i64).At 0 w' ha (intsN (L.getD t default).args)/\(∀ad,ha=some ad->w.heap.size<=ad.block)/\(ha=none->hc=0)/\Below w.heap.size w w':=by
 obtain⟨na,ncap,cn,hnd⟩:=h.nodes;have c0:=h.c0;have hrl:=h.low;obtain⟨b,ha,hc,rfl,hbl,y0,y1,y2,hat,hno⟩:=hnd t ht;have hok:=(h.ok t ht).2.2.2.2.1;have hop:=(h.ok t ht).1;have hnn:ha=none->(L.getD t default).args.length=0:=λ e=>by
  subst e;by_cases h0:0<(L.getD t default).args.length
  ·obtain⟨_,_,e,_⟩:=hat.int (i:=0) (by rw[intsN_len];exact h0);cases e
  ·omega
 have HAT:=Z hat;have hti:(t:Int)<L.length:=by omega
 have d0:decide ((t:Int)<0)=false:=by simp
 clear hnd h hat;generalize L.getD t default=n at*;obtain⟨op,num,args⟩:=n;simp only at y0 y1 y2 hok hnn hop;have hal:args.length<=2:=by rw[hok];simp only[arN];(repeat' split)<;>omega
 have HNO:=Z hno;clear hok hno hnn;go_enter Tryz.func71,Tryz.ntmps71;have HBA:Hid (Below w.heap.size w ((w.alloc (.cells #[.int .u8 0,.int .u64 0,.slice none 0 0] 148)).alloc (.cells #[.int .u8 op,.int .u64 num,.slice ha args.length hc] 148))):=Z (((Below.refl _ _).alloc (Nat.le_refl _) _).alloc (by simp) _);have HATA:=Z (HAT.o.below HBA.o)
 go_wp2_with(at_builtin;refine app_lay_at Tryz.elemI (base:=w.heap.size+2) (ps:=[]) (qs:=intsN args) rfl _ _ rfl rfl (Lay.Own.nil _ _) rfl HNO.o (intsN_len _) HATA.o (by show 0+args.length<=1000000;omega) (by simp) ?_)
 intro v' w5 r1 r2;obtain⟨av,cv,e5,hatv,hnv,hbv⟩:=r1.atBase (d:=0);have HNV:=Z hnv;clear hnv;rw[intsN_len] at e5;subst e5;have hsz:((w.alloc (.cells #[.int .u8 0,.int .u64 0,.slice none 0 0] 148)).alloc (.cells #[.int .u8 op,.int .u64 num,.slice ha args.length hc] 148)).heap.size=w.heap.size+2:=by simp
 have hb1:w.heap.size+1<w.heap.size+2:=Nat.lt_succ_self _;have z0:=(r2.cell (p:=⟨w.heap.size+1,0,none⟩) hb1).trans (show World.cell? _ _=some (.int .u8 op) by simp[World.cell?_alloc_at]);have z1:=(r2.cell (p:=⟨w.heap.size+1,1,none⟩) hb1).trans (show World.cell? _ _=some (.int .u64 num) by simp[World.cell?_alloc_at]);have z2:=(r2.cell (p:=⟨w.heap.size+1,2,none⟩) hb1).trans (show World.cell? _ _=some (.slice ha args.length hc) by simp[World.cell?_alloc_at]);have z3:=(r2.frozen (p:=⟨w.heap.size+1,2,none⟩) hb1).trans (show World.frozen? _ _=false by simp[World.frozen?_alloc_at]);have hb0:w.heap.size<w.heap.size+2:=by omega
 have g0:=(r2.cell (p:=⟨w.heap.size,0,none⟩) hb0).trans (show World.cell? _ _=some (.int .u8 0) by rw[World.cell?_alloc_past _ _ _ (by simp),World.cell?_alloc_new];rfl);have g1:=(r2.cell (p:=⟨w.heap.size,1,none⟩) hb0).trans (show World.cell? _ _=some (.int .u64 0) by rw[World.cell?_alloc_past _ _ _ (by simp),World.cell?_alloc_new];rfl);have g2:=(r2.cell (p:=⟨w.heap.size,2,none⟩) hb0).trans (show World.cell? _ _=some (.slice none 0 0) by rw[World.cell?_alloc_past _ _ _ (by simp),World.cell?_alloc_new];rfl);have f0:=(r2.frozen (p:=⟨w.heap.size,0,none⟩) hb0).trans (show World.frozen? _ _=false by rw[World.frozen?_alloc_past _ _ _ (by simp)];simp);have f1:=(r2.frozen (p:=⟨w.heap.size,1,none⟩) hb0).trans (show World.frozen? _ _=false by rw[World.frozen?_alloc_past _ _ _ (by simp)];simp);have f2:=(r2.frozen (p:=⟨w.heap.size,2,none⟩) hb0).trans (show World.frozen? _ _=false by rw[World.frozen?_alloc_past _ _ _ (by simp)];simp);have HR2:=Z r2;have HATV:=Z hatv;have HBV:=Z hbv;clear r1 r2 hatv hbv;have HS4:=Z (set4 (.slice av args.length cv) (.int .u8 op) (.int .u64 num) (.slice av args.length cv) g0 g1 g2)
 go_wp2_with fail
 obtain⟨q0,q1,q2,q3,q4,q5⟩:=HS4.o;have HQ3:=Z q3;have HQ4:=Z q4;have HQ5:=Z q5;clear HS4 q3 q4 q5 z0 z1 z2 z3 g0 g1 g2 f0 f1 f2;generalize(((w5.setCell ⟨w.heap.size+1,2,none⟩ (.slice av args.length cv)).setCell ⟨w.heap.size,0,none⟩ (.int .u8 op)).setCell ⟨w.heap.size,1,none⟩ (.int .u64 num)).setCell ⟨w.heap.size,2,none⟩ (.slice av args.length cv)=w6 at*
 (try simp only[Exit.inBlock,Exit.then])
 refine bodyPost_ret (by simp[results,Tryz.results71,go_sem,q0,q1,q2,Result.andThen];try rfl) rfl ?_;refine⟨av,cv,rfl,At.frame HATV.o (Nat.le_of_eq HQ4.o.symm) (λ ad e=>HQ3.o _ (HBV.o ad e)),(λ ad e=>Nat.le_trans (by omega) (HBV.o ad e)),HNV.o,HQ5.o _ _ (HBA.o.trans (HR2.o.mono (by omega))) (Nat.le_refl _)⟩
