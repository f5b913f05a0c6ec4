/- Two graphs side by side: what a step of one leaves of the other. -/
import Derived.Test.YtgdpkkjfcdhmdaaGreatDoorS0
import Derived.Test.YtgdpkkjfcdhmdaaGreatDoorS14
namespace Go.Proofs.YtgdpkkjfcdhmdaaGreatDoor
open Go.RowKit
def NewP(w:World)(B W:Nat)(e:Ending)(w':World):Prop:=
 ∃g mb,e= .returned (.tuple #[.pointer (some ⟨g,0,none⟩),.int .i64 0])/\PG w' B noB g mb (.slice none 0 0) W []/\Below w.heap.size w w'/\w.heap.size<=g/\w.heap.size<=mb
def NewR(w:World)(B W:Nat)(e:Ending)(w':World):Prop:=
 ∃g,e= .returned (.tuple #[.pointer (some ⟨g,0,none⟩),.int .i64 0])/\RG w' B noB g (.slice none 0 0) W []/\Below w.heap.size w w'/\w.heap.size<=g
theorem nds_nil(w:World)(B:Nat)(A:Nat->Prop):∃xs,Lay.nd.Own 148 w B (.slice none 0 0) xs/\NdsOk w A xs []:=⟨[],Lay.Own.nil w B,rfl,λ i hi=>by simp at hi⟩
theorem pg_new{w':World}{B g mb W:Nat}(hg:w'.heap[g]? =some (.cells #[.int .i64 W,.int .i64 1000,.slice none 0 0,.map (some mb)] 176 (0,0)))(hm:w'.heap[mb]? =some (.map #[] 0))(hB:B<=g)(hB2:B<=mb)(hne:g≠mb):PG w' B noB g mb (.slice none 0 0) W []:=by
 have hgl:g<w'.heap.size:=(Array.getElem?_eq_some_iff.1 hg).1;have hml:mb<w'.heap.size:=(Array.getElem?_eq_some_iff.1 hm).1;refine⟨hg,⟨⟨#[],0,hm,rfl⟩⟩,nds_nil _ _ _,GOk.nil W,?_,⟨hne,(λ h=>by cases h),(λ h=>by cases h)⟩,λ k h=>h.elim⟩;rintro k (rfl|e|e)
 ·exact⟨hB,hgl⟩
 ·injection e with e;subst e;exact⟨hB2,hml⟩
 ·cases e
theorem rg_new{w':World}{B g W:Nat}(hg:w'.heap[g]? =some (.cells #[.int .i64 W,.int .i64 1000,.slice none 0 0] 131 (0,0)))(hB:B<=g):RG w' B noB g (.slice none 0 0) W []:=by
 have hgl:g<w'.heap.size:=(Array.getElem?_eq_some_iff.1 hg).1;refine⟨hg,nds_nil _ _ _,GOk.nil W,?_,(λ h=>by cases h),λ k h=>h.elim⟩;rintro k (rfl|e|e)
 ·exact⟨hB,hgl⟩
 ·cases e
 ·cases e
set_option maxHeartbeats 1000000 in
theorem new39(w:World)(B W:Nat)(hB:B<=w.heap.size)(h1:1<=W)(h2:W<=64):Calls Tryz.prog 47 #[.int .i64 W,.int .i64 1000] w (NewP w B W):=by
 have HC:=Z (check64_ok W w h1 h2);have hmm:=@run_makeMap Tryz.prog;go_enter Tryz.func47,Tryz.ntmps47
 go_wp2_with(first|(go_at_call 88;refine HC.o.mono ?_;rintro e W' ⟨rfl,rfl⟩))
 go_ret2
 exact⟨w.heap.size+1,w.heap.size,rfl,pg_new (by simpa using heap_alloc_new (w.alloc (Obj.map #[] 0)) (Obj.cells #[Value.int IntKind.i64 W,Value.int IntKind.i64 1000,Value.slice none 0 0,Value.map (some w.heap.size)] 176)) ((Below.heap_alloc _ _ _ (by simp)).trans (heap_alloc_new _ _)) (by omega) hB (by omega),((Below.refl _ _).alloc (Nat.le_refl _) _).alloc (by simp) _,by omega,Nat.le_refl _⟩
theorem new39_bad(w:World)(W:Int)(h:W<1\/64<W):Calls Tryz.prog 47 #[.int .i64 W,.int .i64 1000] w λ e w'=>e= .returned (.tuple #[.pointer none,.int .i64 3])/\w=w':=by
 have HC:=Z (check64_bad W w h);clear h;go_enter Tryz.func47,Tryz.ntmps47
 go_wp2_with(first|(go_at_call 88;refine HC.o.mono ?_;rintro e W' ⟨rfl,rfl⟩))
 go_ret2
 exact⟨rfl,rfl⟩
theorem new49(w:World)(B W:Nat)(hB:B<=w.heap.size)(h1:1<=W)(h2:W<=64):Calls Tryz.prog 48 #[.int .i64 W,.int .i64 1000] w (NewR w B W):=by
 have d1:decide ((W:Int)<1)=false:=by simp;omega
 have d2:decide (64<(W:Int))=false:=by simp;omega
 go_enter Tryz.func48,Tryz.ntmps48
 go_wp2_with fail
 go_ret2
 exact⟨_,rfl,rg_new (by first|exact heap_alloc_new _ _) hB,(Below.refl _ _).alloc (Nat.le_refl _) _,Nat.le_refl _⟩
theorem new49_bad(w:World)(W:Int)(h:W<1\/64<W):Calls Tryz.prog 48 #[.int .i64 W,.int .i64 1000] w λ e w'=>e= .returned (.tuple #[.pointer none,.int .i64 3])/\w=w':=by
 by_cases a0:W<1
 ·clear h;go_enter Tryz.func48,Tryz.ntmps48
  go_wp2_with fail
  go_ret2
  exact⟨rfl,rfl⟩
 ·have a1:64<W:=by omega
  clear h;go_enter Tryz.func48,Tryz.ntmps48
  go_wp2_with fail
  go_ret2
  exact⟨rfl,rfl⟩
def AppPost(w:World)(B:Nat)(A:Nat->Prop)(gb mb:Nat)(nv:Value)(W:Nat)(L:List Nd)(n:Nd)(e:Ending)(w':World):Prop:=
 ∃A',(∀k,A' k->w.heap.size<=k)/\AskPost w B A A' gb mb nv W L n e w'
theorem AskPost.lift{w w2 w':World}{B:Nat}{A A':Nat->Prop}{gb mb:Nat}{nv:Value}{W:Nat}{L:List Nd}{n:Nd}{e:Ending}(hb:Below w.heap.size w w2)(h:AskPost w2 B A A' gb mb nv W L n e w'):AskPost w B A A' gb mb nv W L n e w':=by
 obtain⟨nv',h1,h2,h3,h4⟩:=h;exact⟨nv',h1,h2,(Mut.of_below hb).trans h3,h4.elim .inl λ⟨k,e1,e2⟩=>.inr ⟨k,e1,Nat.le_trans hb.size e2⟩⟩
theorem hd_own{w:World}{base:Nat}{v:Value}{l:List Nat}(h:(Lay.int .i64).Own 3 w base v (intsN l)):∃a cap,v= .slice a l.length cap/\HdAt w (λ k=>v.ownBlock=some k) (a,l.length,cap) l:=by
 have hlt:=h.lt;obtain⟨a,cap,rfl,hat,_,_⟩:=h.at_ (d:=0);refine⟨a,cap,by simp[intsN],⟨rfl,hat,λ ad e=> ?_,λ e=> ?_⟩⟩
 ·cases e;rfl
 ·rcases h.2 with⟨hv,_⟩|⟨g,c2,cur,hv,_⟩
  ·injection hv with _ _ hv
  ·cases hv;cases e
theorem nd_app{W i o:Nat}{args:List Nat}(ho2:o<=20)(hl:args.length=arN o)(ha:∀a∈args,a<i):NdOk W i ⟨o,0,args⟩:=by
 have hp:0<2^W:=Nat.two_pow_pos W;exact⟨ho2,by show 0<_;omega,by show 0<_;decide,λ e=>by show 0<_;exact hp,hl,λ _=>rfl,ha⟩
set_option maxRecDepth 100000 in
set_option maxHeartbeats 4000000 in
theorem app54{w:World}{B:Nat}{A:Nat->Prop}{gb mb:Nat}{nv:Value}{W:Nat}{L:List Nd}(h:PG w B A gb mb nv W L)(hB:B<=w.heap.size)(hL:L.length<=999)(o:Nat)(ho:2<=o)(ho2:o<=20)(args:List Nat)(hl:args.length=arN o)(ha:∀a∈args,a<L.length)
  {a:Option Addr}{cap len:Nat}(hlen:args.length=len)(hat:(Lay.int .i64).At 0 w a (intsN args))(hnc:a=none->cap=0):
  Calls Tryz.prog 53 #[.pointer (some ⟨gb,0,none⟩),.int .u8 o,.slice a len cap] w (AppPost w B A gb mb nv W L ⟨o,0,args⟩):=by
 subst hlen;have hlt:=(h.lo gb (.inl rfl)).2;obtain⟨na,ncap,rfl,hcl,hcm⟩:=h.slice;have c2:w.cell? ⟨gb,2,none⟩=some (.slice na L.length ncap):=by simp[World.cell?,h.blk]
 have har:1<=args.length/\args.length<=2:=by
  have:arN o=1\/arN o=2:=by unfold arN;(repeat' split)<;>omega
  omega
 have HAR:=Z (arity72 o (by omega) (w:=w));rw[<-hl] at HAR;have HP:=Z h;have HAT:=Z hat;have HND:=Z (nd_app (W:=W) ho2 hl ha);have HARG:=Z ha;have dz:((args.length:Int)==0)=false:=by rw[beq_eq_false_iff_ne];omega
 obtain⟨hr1,hr2⟩:=har;clear h hat hl ha;go_enter Tryz.func53,Tryz.ntmps53
 go_wp2_with(first|(go_at_call 92;refine HAR.o.mono ?_;rintro e w1 ⟨rfl,hb1⟩))
 have HB1:=Z hb1;have hz1:=hb1.size;have hgl1:gb<w1.heap.size:=by omega
 have c2':w1.cell? ⟨gb,2,none⟩=some (.slice na L.length ncap):=(hb1.cell (p:=⟨gb,2,none⟩) hlt).trans c2;clear hb1 c2
 go_loopw [33] (λ i wr=>∃k:Nat,k<=args.length/\i= .int .i64 k/\Hid (wr=w1)) (λ i _=>args.length-(intOf i).toNat)
 case atStart=>exact⟨0,by omega,rfl,Z rfl⟩
 case round=>
  obtain⟨k,hk,rfl,hw⟩:=hrel;obtain rfl:=hw.o.symm;clear hw;by_cases hlk:k<args.length
  ·obtain⟨pb,po,rfl,hpb,hp0⟩:=HAT.o.int (i:=k) (by simpa[intsN] using hlk);have hv:(intsN args).getD k 0=((args.getD k 0:Nat):Int):=by simp[intsN,List.getD_eq_getElem?_getD,List.getElem?_eq_getElem hlk]
   rw[hv] at hp0;have hp0':=(HB1.o.cell (p:=⟨pb,po+k,none⟩) hpb).trans hp0;have hal:args.getD k 0<L.length:=HARG.o _ (by rw[List.getD_eq_getElem?_getD,List.getElem?_eq_getElem hlk];exact List.getElem_mem hlk);have hki:(k:Int)<args.length:=by omega
   clear hp0 hv;generalize args.getD k 0=x at*;have hxi:(x:Int)<L.length:=by omega
   go_wp2_with fail
   go_roundw
   case rel=>exact⟨k+1,by omega,by go_num,by first|trivial|exact Z rfl⟩
   case measure=>simp[intOf];omega
  ·obtain rfl:k=args.length:=by omega
   have HAT1:=Z (HAT.o.below HB1.o)
   go_wp2_with(at_builtin;refine app_lay_at Tryz.elemI rfl _ _ rfl rfl (Lay.Own.nil w1 w1.heap.size) rfl hnc (by simp[intsN]) HAT1.o (by simp;omega) (Nat.le_refl _) ?_)
   intro v' w2 ho2' hb2;replace ho2':(Lay.int .i64).Own 3 w2 w1.heap.size v' (intsN args):=ho2';obtain⟨a',cap',hv',hhd⟩:=hd_own ho2';have hlo:∀k,v'.ownBlock=some k->w1.heap.size<=k/\k<w2.heap.size:=λ k e=>ho2'.lt k e
   have hbb:Below w.heap.size w w2:=HB1.o.trans (hb2.mono HB1.o.size);have HASK:=Z ((ask69 (A':=λ k=>v'.ownBlock=some k) (HP.o.below hbb) ⟨o,0,args⟩ HND.o hhd (λ k e=>⟨by have:=(hlo k e).1;omega,(hlo k e).2,λ m=>by have:=(hlo k e).1;have:=(HP.o.lo k m).2;omega⟩) (by have:=hbb.size;omega) hL).mono λ e w' p=>(show AppPost w B A gb mb (.slice na L.length ncap) W L ⟨o,0,args⟩ e w' from⟨_,λ k e=>by have:=(hlo k e).1;omega,p.lift hbb⟩));subst hv';clear hhd hlo ho2' hb2 hbb
   go_wp2_with(first|(go_at_call 89;refine HASK.o.mono ?_;rintro e w3 ⟨A',q0,nv',rfl,p1,p2,p3⟩;have H0:=Z q0;have H1:=Z p1;have H2:=Z p2;have H3:=Z p3;clear q0 p1 p2 p3))
   go_ret2
   exact⟨A',H0.o,nv',rfl,H1.o,H2.o,H3.o⟩
def OwnRetI(w:World)(xs:List Int)(e:Ending)(w':World):Prop:=∃v,e= .returned v/\(Lay.int .i64).Own 3 w' w.heap.size v xs/\Below w.heap.size w w'
set_option maxHeartbeats 400000 in
theorem copyI_any(a:Option Addr)(len cap:Nat)(xs:List Int)(w:World)(hlen:xs.length=len)(hat:(Lay.int .i64).At 0 w a xs)(hsm:len<=100000):
  Calls Tryz.prog 81 #[.slice a len cap] w (OwnRetI w xs):=by
 have HA:=Z hat;have HLEN:=Z hlen;clear hat hlen;go_enter Tryz.func81,Tryz.ntmps81
 go_wp2_with fail
 go_loopw [3,4] (λ v i wr=>∃k:Nat,k<=len/\i= .int .i64 k/\(Lay.int .i64).Own 3 wr w.heap.size v (xs.take k)/\Below w.heap.size w wr) (λ _ i _=>len-(intOf i).toNat)
 case atStart=>exact⟨0,by omega,rfl,Lay.Own.nil _ _,Below.refl _ _⟩
 case round=>
  obtain⟨k,hk,rfl,hown,hbel⟩:=hrel;have hsz:=hbel.size;by_cases hlt:k<len
  ·have hq:k<xs.length:=by rw[HLEN.o];exact hlt
   obtain⟨pb,po,rfl,hpb,hp0⟩:=HA.o.int hq;have hp0':=(hbel.cell (p:=⟨pb,po+k,none⟩) hpb).trans hp0;have Ht:=Z (take_getD 0 xs k hq);have hlt2:(xs.take k).length<=100000:=by rw[List.length_take];omega
   clear hp0 hq;generalize xs.getD k 0=x at*
   go_wp2_with(at_builtin;refine app_lay_new Tryz.elemI [x] rfl _ _ rfl rfl hown rfl rfl (by omega) hsz ?_)
   intro v' w1 r1 r2;clear hown
   go_wp2_with fail
   go_roundw
   case rel=>exact⟨k+1,by omega,by go_num,by rw[Ht.o];exact r1,hbel.trans r2⟩
   case measure=>simp[intOf];omega
  ·obtain rfl:k=len:=by omega
   have hown2:(Lay.int .i64).Own 3 wr w.heap.size u3 xs:=by rw[<-HLEN.o,List.take_length] at hown;exact hown
   clear hown
   go_wp2_with fail
   go_ret
   exact⟨_,rfl,hown2,hbel⟩
theorem is86{w:World}{B:Nat}{A:Nat->Prop}{gb:Nat}{nv:Value}{W:Nat}{L:List Nd}(h:RG w B A gb nv W L)(t:Nat)(ht:t<L.length):Calls Tryz.prog 105 #[.pointer (some ⟨gb,0,none⟩),.int .i64 t] w λ e w'=>e= .returned (.bool true)/\w=w':=by
 obtain⟨na,ncap,rfl,hcl,hcm⟩:=h.slice;have c2:w.cell? ⟨gb,2,none⟩=some (.slice na L.length ncap):=by simp[World.cell?,h.blk]
 have hti:(t:Int)<L.length:=by omega
 have d0:decide (0<=(t:Int))=true:=by simp
 clear h ht;go_enter Tryz.func105,Tryz.ntmps105
 go_wp2_with fail
 go_ret
 exact⟨rfl,rfl⟩
set_option maxHeartbeats 2000000 in
theorem may73{w:World}{B:Nat}{A:Nat->Prop}{gb:Nat}{nv:Value}{W:Nat}{L:List Nd}(h:RG w B A gb nv W L)(o:Nat)(ho:2<=o)(ho2:o<=20)(args:List Nat)(hl:args.length=arN o)(ha:∀a∈args,a<L.length)
  {a:Option Addr}{cap len:Nat}(hlen:args.length=len)(hat:(Lay.int .i64).At 0 w a (intsN args)):
  Calls Tryz.prog 93 #[.pointer (some ⟨gb,0,none⟩),.int .u8 o,.slice a len cap] w λ e w'=>e= .returned (.int .i64 0)/\w=w':=by
 subst hlen;have har:1<=args.length/\args.length<=2:=by
  have:arN o=1\/arN o=2:=by unfold arN;(repeat' split)<;>omega
  omega
 have HAR:=Z (arity85 o (by omega) w);rw[<-hl] at HAR;have HP:=Z h;have HAT:=Z hat;have HARG:=Z ha;have dz:((args.length:Int)==0)=false:=by rw[beq_eq_false_iff_ne];omega
 obtain⟨hr1,hr2⟩:=har;clear h hat hl ha;go_enter Tryz.func93,Tryz.ntmps93
 go_wp2_with(first|(go_at_call 116;refine HAR.o.mono ?_;rintro e w1 ⟨rfl,rfl⟩))
 go_loopw [9] (λ i wr=>∃k:Nat,k<=args.length/\i= .int .i64 k/\Hid (wr=w)) (λ i _=>args.length-(intOf i).toNat)
 case atStart=>exact⟨0,by omega,rfl,Z rfl⟩
 case round=>
  obtain⟨k,hk,rfl,hw⟩:=hrel;obtain rfl:=hw.o.symm;clear hw;by_cases hlk:k<args.length
  ·obtain⟨pb,po,rfl,hpb,hp0⟩:=HAT.o.int (i:=k) (by simpa[intsN] using hlk);have hv:(intsN args).getD k 0=((args.getD k 0:Nat):Int):=by simp[intsN,List.getD_eq_getElem?_getD,List.getElem?_eq_getElem hlk]
   rw[hv] at hp0;have HIS:=Z (is86 HP.o (args.getD k 0) (HARG.o _ (by rw[List.getD_eq_getElem?_getD,List.getElem?_eq_getElem hlk];exact List.getElem_mem hlk)));have hki:(k:Int)<args.length:=by omega
   clear hv;generalize args.getD k 0=x at*
   go_wp2_with(first|(go_at_call 105;refine HIS.o.mono ?_;rintro e w1 ⟨rfl,rfl⟩))
   go_roundw
   case rel=>exact⟨k+1,by omega,by go_num,by first|trivial|exact Z rfl⟩
   case measure=>simp[intOf];omega
  ·obtain rfl:k=args.length:=by omega
   go_wp2_with fail
   go_ret
   exact⟨rfl,rfl⟩
def RAppPost(w:World)(B:Nat)(A:Nat->Prop)(gb:Nat)(nv:Value)(W:Nat)(L:List Nd)(n:Nd)(e:Ending)(w':World):Prop:=
 ∃A',(∀k,A' k->w.heap.size<=k)/\RAskPost w B A A' gb nv W L n e w'
theorem RAskPost.lift{w w2 w':World}{B:Nat}{A A':Nat->Prop}{gb:Nat}{nv:Value}{W:Nat}{L:List Nd}{n:Nd}{e:Ending}(hb:Below w.heap.size w w2)(h:RAskPost w2 B A A' gb nv W L n e w'):RAskPost w B A A' gb nv W L n e w':=by
 obtain⟨nv',h1,h2,h3,h4⟩:=h;exact⟨nv',h1,h2,(Mut.of_below hb).trans h3,h4.elim .inl λ⟨k,e1,e2⟩=>.inr ⟨k,e1,Nat.le_trans hb.size e2⟩⟩
set_option maxHeartbeats 2000000 in
theorem app55{w:World}{B:Nat}{A:Nat->Prop}{gb:Nat}{nv:Value}{W:Nat}{L:List Nd}(h:RG w B A gb nv W L)(hB:B<=w.heap.size)(hL:L.length<=999)(o:Nat)(ho:2<=o)(ho2:o<=20)(args:List Nat)(hl:args.length=arN o)(ha:∀a∈args,a<L.length)
  {a:Option Addr}{cap len:Nat}(hlen:args.length=len)(hat:(Lay.int .i64).At 0 w a (intsN args)):
  Calls Tryz.prog 54 #[.pointer (some ⟨gb,0,none⟩),.int .u8 o,.slice a len cap] w (RAppPost w B A gb nv W L ⟨o,0,args⟩):=by
 subst hlen;have har:args.length<=2:=by
  have:arN o=1\/arN o=2:=by unfold arN;(repeat' split)<;>omega
  omega
 have HMAY:=Z (may73 (cap:=cap) h o ho ho2 args hl ha rfl hat);have HCP:=Z (copyI_any a args.length cap (intsN args) w (by simp[intsN]) hat (by omega));have HASK:Hid (∀v' w2,(Lay.int .i64).Own 3 w2 w.heap.size v' (intsN args)->Below w.heap.size w w2->∃a' cap',v'= .slice a' args.length cap'/\Calls Tryz.prog 90 #[.pointer (some ⟨gb,0,none⟩),.agg #[.int .u8 o,.int .u64 0,.slice a' args.length cap']] w2 (RAppPost w B A gb nv W L ⟨o,0,args⟩)):=Z λ v' w2 hown hb=>by
  obtain⟨a',cap',hv',hhd⟩:=hd_own hown;have hlo:∀k,v'.ownBlock=some k->w.heap.size<=k/\k<w2.heap.size:=λ k e=>hown.lt k e
  refine⟨a',cap',hv',?_⟩;exact(ask70 (A':=λ k=>v'.ownBlock=some k) (h.below hb) ⟨o,0,args⟩ (nd_app ho2 hl ha) hhd (λ k e=>⟨by have:=(hlo k e).1;omega,(hlo k e).2,λ m=>by have:=(hlo k e).1;have:=(h.lo k m).2;omega⟩) (by have:=hb.size;omega) hL).mono λ e w' p=>⟨_,λ k e=>(hlo k e).1,p.lift hb⟩
 clear h hl ha hat har;go_enter Tryz.func54,Tryz.ntmps54
 go_wp2_with(first|(go_at_call 93;refine HMAY.o.mono ?_;rintro e w1 ⟨rfl,rfl⟩)|(go_at_call 81;refine HCP.o.mono ?_;rintro e w2 ⟨v2,rfl,ho2',hb2⟩;obtain⟨a',cap',rfl,hcall⟩:=HASK.o _ _ ho2' hb2;have HCL:=Z hcall;clear ho2' hb2 hcall)|(go_at_call 90;refine HCL.o.mono ?_;rintro e w3 ⟨A',q0,nv',rfl,p1,p2,p3⟩;have H0:=Z q0;have H1:=Z p1;have H2:=Z p2;have H3:=Z p3;clear q0 p1 p2 p3))
 go_ret2
 exact⟨A',H0.o,nv',rfl,H1.o,H2.o,H3.o⟩
structure Bo (w:World) (B:Nat) (AP:Nat->Prop) (g mb:Nat) (nv:Value) (LP:List Nd) (AR:Nat->Prop) (r:Nat) (rv:Value) (LR:List Nd) (W:Nat):Prop where
 pg:PG w B AP g mb nv W LP
 rg:RG w B AR r rv W LR
 apart:∀k,(MutB g (some mb) nv k\/AP k)->(MutB r none rv k\/AR k)->False
section
variable {w w':World} {B:Nat} {AP:Nat->Prop} {g mb:Nat} {nv:Value} {LP:List Nd} {AR:Nat->Prop} {r:Nat} {rv:Value} {LR:List Nd} {W:Nat} {A':Nat->Prop} {n:Nd} {e:Ending}
theorem Bo.below(h:Bo w B AP g mb nv LP AR r rv LR W)(hb:Below w.heap.size w w'):Bo w' B AP g mb nv LP AR r rv LR W:=⟨h.pg.below hb,h.rg.below hb,h.apart⟩
theorem mut_new{k:Nat}{nv':Value}{mo:Option Nat}(hn:NewB w nv nv')(hm:MutB g mo nv' k):MutB g mo nv k\/w.heap.size<=k:=by
 rcases hm with e|e|e
 ·exact .inl (.inl e)
 ·exact .inl (.inr (.inl e))
 ·rcases hn with e'|⟨k',e',hk'⟩
  ·exact .inl (.inr (.inr (e'.symm.trans e)))
  ·rw[e'] at e;injection e with e;exact .inr (by omega)
theorem Bo.stepP(h:Bo w B AP g mb nv LP AR r rv LR W)(hB:B<=w.heap.size)(hA:∀k,A' k->w.heap.size<=k)(hs:AskPost w B AP A' g mb nv W LP n e w'):
  ∃nv',e= .returned (.tuple #[.int .i64 (ndAt n LP:Nat),.int .i64 0])/\Bo w' B (λ k=>AP k\/A' k) g mb nv' (askL n LP) AR r rv LR W/\Below B w w'/\Mut (MutB g (some mb) nv) w w':=by
 obtain⟨nv',he,hp,hm,hn⟩:=hs;have lowR:∀k,MutB r none rv k\/AR k->k<w.heap.size:=λ k hk=>hk.elim (λ m=>(h.rg.lo k m).2) λ a=>(h.rg.ar k a).2.1
 refine⟨nv',he,⟨hp,h.rg.frame hm.size λ k hk=>hm.block k (lowR k hk) λ m=>h.apart k (.inl m) hk,λ k hk hr=> ?_⟩,hm.below (λ k m=>(h.pg.lo k m).1) hB,hm⟩;have hlt:=lowR k hr;rcases hk with m|a|a
 ·rcases mut_new hn m with m|m
  ·exact h.apart k (.inl m) hr
  ·omega
 ·exact h.apart k (.inr a) hr
 ·have:=hA k a;omega
theorem Bo.stepR(h:Bo w B AP g mb nv LP AR r rv LR W)(hB:B<=w.heap.size)(hA:∀k,A' k->w.heap.size<=k)(hs:RAskPost w B AR A' r rv W LR n e w'):
  ∃rv',e= .returned (.tuple #[.int .i64 (ndAt n LR:Nat),.int .i64 0])/\Bo w' B AP g mb nv LP (λ k=>AR k\/A' k) r rv' (askL n LR) W/\Below B w w':=by
 obtain⟨nv',he,hp,hm,hn⟩:=hs;have lowP:∀k,MutB g (some mb) nv k\/AP k->k<w.heap.size:=λ k hk=>hk.elim (λ m=>(h.pg.lo k m).2) λ a=>(h.pg.ar k a).2.1
 refine⟨nv',he,⟨h.pg.frame hm.size λ k hk=>hm.block k (lowP k hk) λ m=>h.apart k hk (.inl m),hp,λ k hk hr=> ?_⟩,hm.below (λ k m=>(h.rg.lo k m).1) hB⟩;have hlt:=lowP k hk;rcases hr with m|a|a
 ·rcases mut_new hn m with m|m
  ·exact h.apart k hk (.inl m)
  ·omega
 ·exact h.apart k hk (.inr a)
 ·have:=hA k a;omega
end
def AppP(wr:World)(B:Nat)(g mb:Nat)(AR:Nat->Prop)(r:Nat)(rv:Value)(L:List Nd)(W:Nat)(n:Nd)(a:Option Addr)(e:Ending)(w3:World):Prop:=
 ∃AP' nv',e= .returned (.tuple #[.int .i64 (ndAt n L:Nat),.int .i64 0])/\Bo w3 B AP' g mb nv' (askL n L) AR r rv L W/\Below B wr w3/\(Lay.int .i64).At 0 w3 a (intsN n.args)
theorem app_P{wr wX:World}{B:Nat}{AP:Nat->Prop}{g mb:Nat}{nv:Value}{L:List Nd}{AR:Nat->Prop}{r:Nat}{rv:Value}{W:Nat}(HB:Bo wr B AP g mb nv L AR r rv L W)(hsz:B<=wr.heap.size)(hL:L.length<=999)(o:Nat)(ho:2<=o)(ho2:o<=20)(args:List Nat)(hl:args.length=arN o)(ha:∀a∈args,a<L.length)
  {a:Option Addr}{cap len:Nat}(hlen:args.length=len)(hbX:Below wr.heap.size wr wX)(hat:(Lay.int .i64).At 0 wX a (intsN args))(hblk:∀ad,a=some ad->wr.heap.size<=ad.block)(hnn:a=none->cap=0):
  Calls Tryz.prog 53 #[.pointer (some ⟨g,0,none⟩),.int .u8 o,.slice a len cap] wX (AppP wr B g mb AR r rv L W ⟨o,0,args⟩ a):=by
 have hzX:=hbX.size;refine(app54 (HB.below hbX).pg (by omega) hL o ho ho2 args hl ha hlen hat hnn).mono λ e w3 ⟨A',hA',hs⟩=> ?_
 obtain⟨nv',he,hb3,hl3,hm3⟩:=(HB.below hbX).stepP (by omega) hA' hs;refine⟨_,nv',he,hb3,(hbX.mono hsz).trans hl3,λ i hi=> ?_⟩;obtain⟨b,o',e',h0,h1⟩:=hat i hi;have hb:=hblk _ e';refine⟨b,o',e',Nat.lt_of_lt_of_le h0 hm3.size,λ j hj=>(World.cell?_of_block (a:=⟨b,o'+i*(Lay.int .i64).sz+j,none⟩) (hm3.block b h0 λ m=> ?_)).trans (h1 j hj)⟩;have:=(HB.pg.lo b m).2;have hb':wr.heap.size<=b:=hb;omega
def AppR(w3:World)(B:Nat)(AP:Nat->Prop)(g mb:Nat)(nv:Value)(LP:List Nd)(r:Nat)(L:List Nd)(W:Nat)(n:Nd)(e:Ending)(w4:World):Prop:=
 ∃AR' rv',e= .returned (.tuple #[.int .i64 (ndAt n L:Nat),.int .i64 0])/\Bo w4 B AP g mb nv LP AR' r rv' (askL n L) W/\Below B w3 w4
theorem app_R{w3:World}{B:Nat}{AP:Nat->Prop}{g mb:Nat}{nv:Value}{LP L:List Nd}{AR:Nat->Prop}{r:Nat}{rv:Value}{W:Nat}(HB:Bo w3 B AP g mb nv LP AR r rv L W)(hsz:B<=w3.heap.size)(hL:L.length<=999)(o:Nat)(ho:2<=o)(ho2:o<=20)(args:List Nat)(hl:args.length=arN o)(ha:∀a∈args,a<L.length)
  {a:Option Addr}{cap len:Nat}(hlen:args.length=len)(hat:(Lay.int .i64).At 0 w3 a (intsN args)):
  Calls Tryz.prog 54 #[.pointer (some ⟨r,0,none⟩),.int .u8 o,.slice a len cap] w3 (AppR w3 B AP g mb nv LP r L W ⟨o,0,args⟩):=by
 refine(app55 HB.rg hsz hL o ho ho2 args hl ha hlen hat).mono λ e w4 ⟨A',hA',hs⟩=> ?_
 obtain⟨rv',he,hb4,hl4⟩:=HB.stepR hsz hA' hs;exact⟨_,rv',he,hb4,hl4⟩
abbrev RawN:=Nat×Nat×Nat×Nat×Nat
def Lay.raw:Lay RawN:=⟨5,λ p=>[.int .u8 (p.1:Int),.int .u8 (p.2.1:Int),.int .u64 (p.2.2.1:Int),.int .u16 (p.2.2.2.1:Int),.int .u16 (p.2.2.2.2:Int)],λ _=>rfl,λ x u hu=>by simp at hu;rcases hu with rfl|rfl|rfl|rfl|rfl<;>rfl,by decide⟩
def rawNd(W:Nat)(L:List Nd)(q:RawN):Nd:=
 if q.1%3=0\/L.length=0 then⟨0,q.2.2.1%2^W,[]⟩
 else if q.1%3=1 then⟨1,q.2.2.2.1%12,[]⟩
 else if 2+q.2.1%19=2\/2+q.2.1%19=3 then⟨2+q.2.1%19,0,[q.2.2.2.1%L.length]⟩
 else⟨2+q.2.1%19,0,[q.2.2.2.1%L.length,q.2.2.2.2%L.length]⟩
def bldL(W:Nat)(qs:List RawN):List Nd:=qs.foldl (λ L q=>askL (rawNd W L q) L) []
theorem bldL_snoc(W:Nat)(qs:List RawN)(q:RawN):bldL W (qs++[q])=askL (rawNd W (bldL W qs) q) (bldL W qs):=by simp[bldL]
theorem bldL_len(W:Nat)(qs:List RawN):(bldL W qs).length<=qs.length:=by
 rw[<-List.reverse_reverse qs]
 induction qs.reverse with
 |nil=>simp[bldL]
 |cons q qs ih=>
  rw[List.reverse_cons,bldL_snoc];have:=askL_len (rawNd W (bldL W qs.reverse) q) (bldL W qs.reverse);simp only[List.length_append,List.length_singleton] at ih⊢;omega
theorem raw_cells{w:World}{a:Option Addr}{qs:List RawN}(h:Lay.raw.At default w a qs){i:Nat}(hi:i<qs.length):∃b o,a=some ⟨b,o,none⟩/\b<w.heap.size/\w.cell? ⟨b,o+i*5,none⟩=some (.int .u8 ((qs.getD i default).1:Int))/\w.cell? ⟨b,o+i*5+1,none⟩=some (.int .u8 ((qs.getD i default).2.1:Int))/\
  w.cell? ⟨b,o+i*5+2,none⟩=some (.int .u64 ((qs.getD i default).2.2.1:Int))/\w.cell? ⟨b,o+i*5+3,none⟩=some (.int .u16 ((qs.getD i default).2.2.2.1:Int))/\w.cell? ⟨b,o+i*5+4,none⟩=some (.int .u16 ((qs.getD i default).2.2.2.2:Int)):=by
 obtain⟨b,o,e,hb,hc⟩:=h i hi;exact⟨b,o,e,hb,hc 0 (by decide),hc 1 (by decide),hc 2 (by decide),hc 3 (by decide),hc 4 (by decide)⟩
theorem step_int{W:World}{ops:Array Oper}{o:Oper}{a:Act}{K:Act->World->Prop}{Q:Exit->Act->World->Prop}{E:Prop}(hgd:o.guard=none)(s x:Operand)
  (ho:o.op= .call {callee:=.builtin .append,args:=#[s,x],argTypes:=#[24,24]}){base:Nat}{v:Value}{ps:List Int}(q:Int){ad:Addr}{c:Nat}
  (hs:a.eval s=v)(hown:(Lay.int .i64).Own 3 W base v ps)(hx:a.eval x= .slice (some ad) 1 c)(hnews:∀j u,((Lay.int .i64).flat [q])[j]? =some u->W.cell? (ad.add j)=some u)
  (hl:ps.length<=1000)(hbase:base<=W.heap.size)
  (h:∀v' w',(Lay.int .i64).Own 3 w' base v' (ps++[q])->W.grownBy w' v.ownBlock->(v'.ownBlock=v.ownBlock\/v'.ownBlock=some W.heap.size)->K (a.put o.dst v') w'):
  if Region.wanted o (yielded ops a.tmps)=true then Oper.wp Tryz.prog o a W K Q else E:=by
 have hw:Region.wanted o (yielded ops a.tmps)=true:=by simp[Region.wanted,hgd]
 rw[if_pos hw];obtain⟨i0,hi,hz0,hz1,hz2⟩:=info_parts Tryz.elemI.info;obtain⟨v',w',hr,h1,h2,_,h4⟩:=run_append_own_at (P:=Tryz.prog) W base 24 o.type 3 i0 _ 1 8 Tryz.elemI.und hi hz0 hz1 hz2 rfl (by decide) v ps.length ((Lay.int .i64).flat ps) hown ad 1 c ((Lay.int .i64).flat [q]) ((Lay.int .i64).flat_length [q]) hnews ((Lay.int .i64).flat_one [q]) (by unfold maxLen;omega) (by omega) hbase;refine Lib.wp_append_run W s x 24 24 ho v _ hs hx v' w' hr (h v' w' ?_ h2 h4);unfold Lay.Own;rw[Lay.flat_append,List.length_append];exact h1
end Go.Proofs.YtgdpkkjfcdhmdaaGreatDoor
