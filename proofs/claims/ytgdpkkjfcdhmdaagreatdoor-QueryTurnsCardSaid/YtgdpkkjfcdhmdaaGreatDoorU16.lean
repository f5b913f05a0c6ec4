/- Walks: maker.begun, maker.equal: lists of events compared. -/
import Derived.Test.YtgdpkkjfcdhmdaaGreatDoorS0
import Derived.Test.YtgdpkkjfcdhmdaaGreatDoorU15
import Derived.Test.YtgdpkkjfcdhmdaaGreatDoorU1
namespace Go.Proofs.YtgdpkkjfcdhmdaaGreatDoor
open Go Go.RowKit
section
variable {α:Type} {Ly:Lay α} {d:α} {t e:TypeId} {z:Value} {bytes:Nat}
theorem step_app(T:ElemT Tryz.prog Ly t e z bytes){w:World}{ops:Array Oper}{o:Oper}{a:Act}{K:Act->World->Prop}{Q:Exit->Act->World->Prop}{E:Prop}(qs:List α)(hgd:o.guard=none)(s x:Operand)
  (ho:o.op= .call {callee:=.builtin .append,args:=#[s,x],argTypes:=#[t,t]}){base g:Nat}{v:Value}{ps:List α}{m c:Nat}
  (hs:a.eval s=v)(hown:Ly.Own e w base v ps)(hx:a.eval x= .slice (some ⟨g,0,none⟩) m c)(hg:g=w.heap.size)(hm:qs.length=m)(hl:ps.length+m<=1000000)(hbase:base<=w.heap.size)
  (h:∀v' w',Ly.Own e w' base v' (ps++qs)->(w.alloc (.cells (Ly.flat qs).toArray e)).grownBy w' v.ownBlock->(v'.ownBlock=v.ownBlock\/v'.ownBlock=some (w.heap.size+1))->K (a.put o.dst v') w'):
  if Region.wanted o (yielded ops a.tmps)=true then Oper.wp Tryz.prog o a (w.alloc (.cells (Ly.flat qs).toArray e)) K Q else E:=by
 have hw:Region.wanted o (yielded ops a.tmps)=true:=by simp[Region.wanted,hgd]
 rw[if_pos hw];subst hg;obtain⟨v',w',hr,h1,h2,h3⟩:=run_some T (c:=c) (hown.alloc _) hm (lay_new_cells w qs e) hl (by simp;omega) o.type;rw[<-hs] at hr;exact Lib.wp_append_run _ s x t t ho _ _ rfl hx v' w' hr (h v' w' h1 h2 (by simpa using h3))
theorem Lay.At.mut{w w':World}{xs:List α}{ta:Option Addr}{S:Nat->Prop}(h:Ly.At d w ta xs)(hm:Mut S w w')(hn:∀ad,ta=some ad->¬S ad.block):Ly.At d w' ta xs:=λ i hi=>by
 obtain⟨b,o,e,h0,h1⟩:=h i hi;refine⟨b,o,e,Nat.lt_of_lt_of_le h0 hm.size,λ j hj=>(World.cell?_of_block (hm.block b h0 (hn _ e))).trans (h1 j hj)⟩
structure Lst (Ly:Lay α) (t:TypeId) (w wr:World) (B:Nat) (A A':Nat->Prop) (gb mb:Nat) (nv nvk:Value) (W:Nat) (M:List Nd) (v:Value) (xs:List α):Prop where
 run:Run w wr B A A' gb mb nv nvk W M
 own:Ly.Own t wr w.heap.size v xs
 off:∀g,v.ownBlock=some g->Off A A' gb mb nvk g
variable {w wr w':World} {B:Nat} {A A' A1:Nat->Prop} {gb mb:Nat} {nv nvk nv':Value} {W:Nat} {L M M':List Nd} {v v':Value} {xs ys:List α}
theorem Lst.start(h:PG w B A gb mb nv W L):Lst Ly t w w B A noB gb mb nv nv W L (.slice none 0 0) []:=⟨Run.start h,Lay.Own.nil _ _,λ g e=>by cases e⟩
theorem Lst.keep(h:Lst Ly t w wr B A A' gb mb nv nvk W M v xs)(hb:Below wr.heap.size wr w'):Lst Ly t w w' B A A' gb mb nv nvk W M v xs:=⟨h.run.keep hb,h.own.grown hb,h.off⟩
theorem Lst.step(h:Lst Ly t w wr B A A' gb mb nv nvk W M v xs)(hr:Run wr w' B (λ k=>A k\/A' k) A1 gb mb nvk nv' W M'):Lst Ly t w w' B A (λ k=>A' k\/A1 k) gb mb nv nv' W M' v xs:=
 ⟨h.run.trans hr,Own.written h.own hr.mt λ g e=>(h.off g e).1,λ g e=>hr.off_step (h.own.lt g e).2 (h.off g e)⟩
theorem Lst.app(h:Lst Ly t w wr B A A' gb mb nv nvk W M v xs)(ho:Ly.Own t w' w.heap.size v' ys)(hg:wr.grownBy w' v.ownBlock)(hv:v'.ownBlock=v.ownBlock\/v'.ownBlock=some wr.heap.size):Lst Ly t w w' B A A' gb mb nv nvk W M v' ys:=by
 refine⟨h.run.grown hg λ k e=>⟨(h.own.lt k e).1,h.off k e⟩,ho,λ g e=> ?_⟩;rcases hv with hv|hv
 ·exact h.off g (hv▸e)
 ·rw[hv] at e;injection e with e;exact h.run.off_new (by omega)
theorem Lst.form(h:Lst Ly t w wr B A A' gb mb nv nvk W M v xs):∃a cap,v= .slice a xs.length cap/\Ly.At d wr a xs/\∀ad,a=some ad->¬MutB gb (some mb) nvk ad.block:=by
 obtain⟨a,cap,e1,hat,_,_⟩:=h.own.at_ (d:=d);refine⟨a,cap,e1,hat,λ ad ha=> ?_⟩;rcases(h.own:wr.ownsRow w.heap.size t Ly.sz v xs.length (Ly.flat xs)).2 with⟨hv,_⟩|⟨g,cap',cur,hv,hb,_⟩
 ·rw[hv] at e1;injection e1 with e1 _ _;rw[<-e1] at ha;cases ha
 ·have:=(h.off g (by rw[hv];rfl)).1;rw[hv] at e1;injection e1 with e1 _ _;rw[<-e1] at ha;injection ha with ha;rw[<-ha];exact this
theorem Run.tmp{r:Nat×List Nd}{e:Ending}(h:Run w wr B A A' gb mb nv nvk W M)(k:TmP wr B (λ k=>A k\/A' k) gb mb nvk W r e w'):TmP w B A gb mb nv W r e w':=by
 obtain⟨nv',A1,rfl,hr⟩:=k;exact⟨nv',_,rfl,h.trans hr⟩
end
def evI(l:List (Int×Nat)):List (Int×Int):=l.map λ x=>(x.1,(x.2:Int))
theorem evI_len(l:List (Int×Nat)):(evI l).length=l.length:=by simp[evI]
theorem evI_getD(l:List (Int×Nat))(i:Nat):(evI l).getD i (0,0)=((l.getD i (0,0)).1,((l.getD i (0,0)).2:Int)):=by
 unfold evI;rw[List.getD_eq_getElem?_getD,List.getD_eq_getElem?_getD,List.getElem?_map];cases l[i]? <;>rfl
theorem drop_cons{α:Type}(d:α){l:List α}{i:Nat}(h:i<l.length):l.drop i=l.getD i d::l.drop (i+1):=by
 rw[List.drop_eq_getElem_cons h,List.getD_eq_getElem?_getD,List.getElem?_eq_getElem h];rfl
theorem eqsM_cons{W:Nat}{x y:Int×Nat}{a b:List (Int×Nat)}{acc:List Nat}{L:List Nd}:eqsM W (x::a) (y::b) acc L=if x.1=y.1 then eqsM W a b (acc++[(simpM W 15 [x.2,y.2] L).1]) (simpM W 15 [x.2,y.2] L).2 else(none,L):=by
 conv=>lhs;unfold eqsM
theorem eqsM_end{W:Nat}{a b:List (Int×Nat)}(h:a=[]\/b=[])(acc:List Nat)(L:List Nd):eqsM W a b acc L=(some acc,L):=by
 rcases h with rfl|rfl
 ·unfold eqsM;rfl
 ·cases a<;>(unfold eqsM;rfl)
structure BegI (W:Nat) (L M:List Nd) (a b:List (Int×Nat)) (k:Nat) (acc:List Nat):Prop where
 eq:eqsM W (a.drop k) (b.drop k) acc M=eqsM W a b [] L
 pre:L<+:M
 len:M.length<=L.length+k
 al:acc.length<=k
 lt:∀t∈acc,t<M.length
theorem BegI.step{W:Nat}{L M:List Nd}{a b:List (Int×Nat)}{k:Nat}{acc:List Nat}(h:BegI W L M a b k acc)(h1:1<=W)(h2:W<=64)(hg:GOk W M)(ha:k<a.length)(hb:k<b.length)(hal:∀x∈a,x.2<L.length)(hbl:∀x∈b,x.2<L.length)(e:(a.getD k (0,0)).1=(b.getD k (0,0)).1):
  (∀x∈[(a.getD k (0,0)).2,(b.getD k (0,0)).2],x<M.length)/\BegI W L (simpM W 15 [(a.getD k (0,0)).2,(b.getD k (0,0)).2] M).2 a b (k+1) (acc++[(simpM W 15 [(a.getD k (0,0)).2,(b.getD k (0,0)).2] M).1]):=by
 have hx:∀x∈[(a.getD k (0,0)).2,(b.getD k (0,0)).2],x<M.length:=λ x hx=>by
  simp only[List.mem_cons,List.not_mem_nil,or_false] at hx;rcases hx with rfl|rfl
  ·exact Nat.lt_of_lt_of_le (hal _ (getD_mem (0,0) a k ha)) h.pre.length_le
  ·exact Nat.lt_of_lt_of_le (hbl _ (getD_mem (0,0) b k hb)) h.pre.length_le
 have p:=simpM_pre W 15 [(a.getD k (0,0)).2,(b.getD k (0,0)).2] M;have n:=simpM_len W 15 [(a.getD k (0,0)).2,(b.getD k (0,0)).2] M;have g:=simpM_good h1 h2 hg (o:=15) (by decide) (by decide) (args:=[(a.getD k (0,0)).2,(b.getD k (0,0)).2]) rfl hx;have he:=h.eq;have hl:=h.len;have hal':=h.al;rw[drop_cons (0,0) ha,drop_cons (0,0) hb,eqsM_cons,if_pos e] at he;refine⟨hx,he,h.pre.trans p,by omega,by simp;omega,λ t ht=> ?_⟩;rcases List.mem_append.1 ht with ht|ht
 ·exact Nat.lt_of_lt_of_le (h.lt t ht) p.length_le
 ·simp at ht;subst ht;exact g.2.1
theorem BegI.stop{W:Nat}{L M:List Nd}{a b:List (Int×Nat)}{k:Nat}{acc:List Nat}(h:BegI W L M a b k acc)(ha:k<a.length)(hb:k<b.length)(e:¬(a.getD k (0,0)).1=(b.getD k (0,0)).1):begunM W a b L=numM W 0 M:=by
 have he:=h.eq;rw[drop_cons (0,0) ha,drop_cons (0,0) hb,eqsM_cons,if_neg e] at he;unfold begunM;rw[<-he]
theorem BegI.done{W:Nat}{L M:List Nd}{a b:List (Int×Nat)}{k:Nat}{acc:List Nat}(h:BegI W L M a b k acc)(hk:a.length<=k\/b.length<=k):begunM W a b L=allM W acc M:=by
 have he:=h.eq;rw[eqsM_end (hk.imp List.drop_eq_nil_of_le List.drop_eq_nil_of_le)] at he;unfold begunM;rw[<-he]
theorem Mut.keep{S:Nat->Prop}{w w' w'':World}(h:Mut S w w')(hb:Below w'.heap.size w' w''):Mut S w w'':=h.trans (Mut.of_below hb)
section
variable {w:World} {B:Nat} {A:Nat->Prop} {gb mb:Nat} {nv:Value} {W:Nat} {L:List Nd} {qb:Nat}
set_option maxRecDepth 100000 in
set_option maxHeartbeats 16000000 in
theorem begun210(h:PG w B A gb mb nv W L)(hB:B<=w.heap.size)(h1:1<=W)(h2:W<=64)(hq:Part w qb [.pointer (some ⟨gb,0,none⟩),.int .i64 0])(hn:¬MutB gb (some mb) nv qb)(a b:List (Int×Nat))(la lb:Nat)(hla:a.length=la)(hlb:b.length=lb)(hL:L.length+1+4*la<=999)(ha:∀x∈a,x.2<L.length)(hb:∀x∈b,x.2<L.length)
  {aa:Option Addr}{ac:Nat}(hata:Lay.sev.At (0,0) w aa (evI a))(hna:∀ad,aa=some ad->¬MutB gb (some mb) nv ad.block){ba:Option Addr}{bc:Nat}(hatb:Lay.sev.At (0,0) w ba (evI b))(hnb:∀ad,ba=some ad->¬MutB gb (some mb) nv ad.block):
  Calls Tryz.prog 210 #[.pointer (some ⟨qb,0,none⟩),.slice aa la ac,.slice ba lb bc] w (TmP w B A gb mb nv W (begunM W a b L)):=by
 have HH:=Z h;have HQ:=Z hq;have HN:=Z hn;have HLA:=Z hla;have HLB:=Z hlb;have HA:=Z ha;have HB:=Z hb;have HTA:=Z hata;have HTB:=Z hatb;have HNA:=Z hna;have HNB:=Z hnb;have HLT:Hid (∀ad,aa=some ad->0<la->ad.block<w.heap.size):=Z λ ad e h0=>by
  obtain⟨b1,o1,e1,hb1,_⟩:=hata.sev (i:=0) (by rw[evI_len,hla];exact h0);rw[e] at e1;injection e1 with e1;rw[e1];exact hb1
 clear h hq hn hla hlb ha hb hata hna hatb hnb;obtain⟨mn,hmn⟩:∃mn:Nat,mn=min la lb:=⟨_,rfl⟩
 go_enter Tryz.func210,Tryz.ntmps210
 go_wp2_with fail
 have hmi:min (la:Int) (lb:Int)=(mn:Int):=by omega
 rw[hmi];have HMN:=Z hmn;clear hmn hmi
 go_loopw [7,14] (λ v7 i wr=>∃(k:Nat) (nvk:Value) (A':Nat->Prop) (acc:List Nat) (M:List Nd),k<=mn/\i= .int .i64 k/\Hid (Lst (Lay.int .i64) 3 w wr B A A' gb mb nv nvk W M v7 (intsN acc))/\Hid (BegI W L M a b k acc)) (λ _ i _=>mn-(intOf i).toNat)
 case atStart=>exact⟨0,nv,noB,[],L,by omega,rfl,Z (Lst.start HH.o),Z ⟨rfl,List.prefix_rfl,by omega,by simp,by simp⟩⟩
 case round=>
  obtain⟨k,nvk,A',acc,M,hk,rfl,hl,hg⟩:=hrel;have HBW:Hid (B<=wr.heap.size):=Z (Nat.le_trans hB hl.o.run.mt.size);by_cases hkn:k<mn
  ·have hki:(k:Int)<mn:=by omega
   have hka:(k:Int)<la:=by have:=HMN.o;omega
   have hkb:(k:Int)<lb:=by have:=HMN.o;omega
   have hka':k<a.length:=by rw[HLA.o];omega
   have hkb':k<b.length:=by rw[HLB.o];omega
   obtain⟨b1,o1,rfl,hb1,c0,c1⟩:=HTA.o.sev (i:=k) (by rw[evI_len];exact hka');obtain⟨b2,o2,rfl,hb2,d0,d1⟩:=HTB.o.sev (i:=k) (by rw[evI_len];exact hkb');rw[evI_getD] at c0 c1 d0 d1;have n1:=HNA.o _ rfl;have n2:=HNB.o _ rfl;have HSB:=Z λ h=>hg.o.step h1 h2 hl.o.run.pg.ok hka' hkb' HA.o HB.o h
   have HSN:=Z λ h=>hg.o.stop hka' hkb' h
   have hlen:=hg.o.len;have hal:=hg.o.al;generalize a.getD k (0,0)=x at*;generalize b.getD k (0,0)=y at*;obtain⟨xn,xt⟩:=x;obtain⟨yn,yt⟩:=y;simp only at c0 c1 d0 d1 n1 n2;have HS:Hid (∀w',Mut (MutB gb (some mb) nv) w w'->w'.cell? ⟨b1,o1+k*2+1,none⟩=some (.int .i64 (xt:Int))/\w'.cell? ⟨b2,o2+k*2+1,none⟩=some (.int .i64 (yt:Int))):=Z λ w' hm=>
    ⟨(World.cell?_of_block (hm.block b1 hb1 n1)).trans c1,(World.cell?_of_block (hm.block b2 hb2 n2)).trans d1⟩
   have c0':=(World.cell?_of_block (a:=⟨b1,o1+k*2,none⟩) (hl.o.run.mt.block b1 hb1 n1)).trans c0;have d0':=(World.cell?_of_block (a:=⟨b2,o2+k*2,none⟩) (hl.o.run.mt.block b2 hb2 n2)).trans d0;clear c0 c1 d0 d1 n1 n2 hb1 hb2 hka' hkb';by_cases hxy:xn=yn
   ·obtain⟨hx,hb⟩:=HSB.o hxy;subst hxy;simp only at hx hb;clear HSB HSN;have HT:=Z λ w2 (hb2:Below wr.heap.size wr w2)=>app32 ((hl.o.run.pg.below hb2).below (bel_al (Below.refl _ _) (.cells #[.int .i64 (xt:Nat),.int .i64 (yt:Nat)] 3))) (Nat.le_trans HBW.o (Nat.le_trans hb2.size (by simp))) (by omega) h1 h2 (((HQ.o.written hl.o.run.mt HN.o).keep hb2).alloc _) (hl.o.run.free HQ.o.lt HN.o) 15 (by decide) (by decide) [xt,yt] 2 rfl rfl hx (cap:=2) (two_at w2 xt yt)
    have HBG:=Z hb;generalize simpM W 15 [xt,yt] M=r at*;clear hx hb
    go_wp2_with fail
    go_quiet(fail)
    go_wp2_with fail
    have HD:Hid (Below wr.heap.size wr (wr.drewN (nq+1))):=Z (below_drewN (Below.refl _ _) _);have HM1:Hid (Mut (MutB gb (some mb) nv) w (wr.drewN nq).drew):=Z (hl.o.run.mt.keep (below_drewN (Below.refl _ _) _).drew);have HT1:=Z (HT.o _ HD.o);have HL1:Hid (Lst (Lay.int .i64) 3 w (wr.drewN (nq+1)) B A A' gb mb nv nvk W M u7 (intsN acc)):=Z (hl.o.keep HD.o);have HM2:Hid (∀ob,Mut (MutB gb (some mb) nv) w ((wr.drewN (nq+1)).alloc ob)):=Z λ ob=>HL1.o.run.mt.keep (bel_al (Below.refl _ _) ob)
    have HAL:Hid (acc.length+1<=1000000):=Z (by omega);clear HT
    go_region_held3(λ w'=>w'.cell? ⟨b1,o1+k*2+1,none⟩=some (.int .i64 (xt:Int))/\w'.cell? ⟨b2,o2+k*2+1,none⟩=some (.int .i64 (yt:Int)))
     (first|with_reducible exact HS.o _ HM1.o|with_reducible exact HS.o _ (HM2.o _)|with_reducible exact HS.o _ HM3.o|with_reducible exact HS.o _ (HM4.o _)|with_reducible exact HS.o _ HM5.o|fail)
     (first
       |(go_at_call 32
         refine HT1.o.mono ?_;rintro e w5 ⟨nv',A2,rfl,hr⟩;have HL2:=Z ((HL1.o.keep (bel_al (Below.refl _ _) _)).step hr);have HM3:=Z HL2.o.run.mt;have HM4:Hid (∀ob,Mut (MutB gb (some mb) nv) w (w5.alloc ob)):=Z λ ob=>HL2.o.run.mt.keep (bel_al (Below.refl _ _) ob)
         clear hr)
       |(refine step_app Tryz.elemI [(r.1:Int)] rfl _ _ rfl rfl HL2.o.own rfl rfl rfl (by rw[intsN_len];exact HAL.o) HL2.o.run.mt.size ?_
         intro v' w6 p1 p2 p3;have HL3:=Z ((HL2.o.keep (bel_al (Below.refl _ _) _)).app (ys:=intsN (acc++[r.1])) (by rw[intsN_append];exact p1) p2 (p3.elim .inl λ e=>.inr (by rw[e];simp)));have HM5:=Z HL3.o.run.mt;clear p1 p2 p3))
    go_wp2_with fail
    go_roundw
    case rel=>exact⟨k+1,nv',_,acc++[r.1],r.2,by omega,by go_num,HL3,HBG⟩
    case measure=>simp[intOf]<;>omega
   ·have hbn:=HSN.o hxy;have hxy':(xn==yn)=false:=by simpa using hxy
    clear HSB HSN;rw[hbn];have HT:=Z λ w2 (hb2:Below wr.heap.size wr w2)=>num30 (hl.o.run.pg.below hb2) (Nat.le_trans HBW.o hb2.size) (by omega) h1 h2 ((HQ.o.written hl.o.run.mt HN.o).keep hb2) (hl.o.run.free HQ.o.lt HN.o) 0 (by decide)
    go_wp2_with fail
    go_quiet(fail)
    go_wp2_with(go_at_call 30;refine(HT.o _ (below_drewN (Below.refl _ _) _)).mono ?_;intro e w5 hr;have HR:=Z ((hl.o.keep (below_drewN (Below.refl _ _) nq)).run.tmp hr);obtain⟨nv5,A5,rfl,_⟩:=hr)
    go_ret
    exact HR.o
  ·obtain rfl:k=mn:=by omega
   have hd:=hg.o.done (by rw[HLA.o,HLB.o];have:=HMN.o;omega);have HBD:=Z hd;clear hd;obtain⟨va,vc,rfl,hat,hnt⟩:=hl.o.form (d:=0);rw[intsN_len];have hlen:=hg.o.len;have hal:=hg.o.al;have hml:k<=la:=by have:=HMN.o;omega
   have HT:=Z (all31 hl.o.run.pg HBW.o h1 h2 (HQ.o.written hl.o.run.mt HN.o) (hl.o.run.free HQ.o.lt HN.o) acc acc.length rfl (by omega) hg.o.lt (tc:=vc) hat hnt)
   go_wp2_with(go_at_call 31;refine HT.o.mono ?_;intro e w5 hr;have HR:=Z (hl.o.run.tmp hr);obtain⟨nv5,A5,rfl,_⟩:=hr)
   go_ret
   rw[HBD.o];exact HR.o
set_option maxRecDepth 100000 in
set_option maxHeartbeats 16000000 in
theorem equal209(h:PG w B A gb mb nv W L)(hB:B<=w.heap.size)(h1:1<=W)(h2:W<=64)(hq:Part w qb [.pointer (some ⟨gb,0,none⟩),.int .i64 0])(hn:¬MutB gb (some mb) nv qb)(a b:List (Int×Nat))(la lb:Nat)(hla:a.length=la)(hlb:b.length=lb)(hL:L.length+1+4*la<=999)(ha:∀x∈a,x.2<L.length)(hb:∀x∈b,x.2<L.length)
  {aa:Option Addr}{ac:Nat}(hata:Lay.sev.At (0,0) w aa (evI a))(hna:∀ad,aa=some ad->¬MutB gb (some mb) nv ad.block){ba:Option Addr}{bc:Nat}(hatb:Lay.sev.At (0,0) w ba (evI b))(hnb:∀ad,ba=some ad->¬MutB gb (some mb) nv ad.block):
  Calls Tryz.prog 209 #[.pointer (some ⟨qb,0,none⟩),.slice aa la ac,.slice ba lb bc] w (TmP w B A gb mb nv W (equalM W a b L)):=by
 unfold equalM;by_cases e:la=lb
 ·rw[if_pos (by rw[hla,hlb,e])];have HT:=Z (begun210 h hB h1 h2 hq hn a b la lb hla hlb hL ha hb (ac:=ac) hata hna (bc:=bc) hatb hnb);clear h hq hn hla hlb ha hb hata hna hatb hnb;subst e;go_enter Tryz.func209,Tryz.ntmps209
  go_wp2_with(go_at_call 210;refine HT.o.mono ?_;intro e w5 hr;have HR:=Z hr;obtain⟨nv5,A5,rfl,_⟩:=hr)
  go_ret
  exact HR.o
 ·rw[if_neg (by rw[hla,hlb];exact e)];have HT:=Z (num30 h hB (by omega) h1 h2 hq hn 0 (by decide));clear h hq hn hla hlb ha hb hata hna hatb hnb;have e2:¬(la:Int)=lb:=by omega
  go_enter Tryz.func209,Tryz.ntmps209
  go_wp2_with(go_at_call 30;refine HT.o.mono ?_;intro e w5 hr;have HR:=Z hr;obtain⟨nv5,A5,rfl,_⟩:=hr)
  go_ret
  exact HR.o
end
end Go.Proofs.YtgdpkkjfcdhmdaaGreatDoor
