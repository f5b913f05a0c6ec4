/- Walk: ask of the reference's graph. -/
import Derived.Test.YtgdpkkjfcdhmdaaGreatDoorS0
import Derived.Test.YtgdpkkjfcdhmdaaGreatDoorS10
import Derived.Test.YtgdpkkjfcdhmdaaGreatDoorS11
namespace Go.Proofs.YtgdpkkjfcdhmdaaGreatDoor
open Go.RowKit
def eqU(xs ys:List Int):Bool:=decide (xs=ys)
theorem eqU_true{xs ys:List Int}(hl:xs.length=ys.length)(h:∀j,j<xs.length->xs.getD j 0=ys.getD j 0):eqU xs ys=true:=by
 apply decide_eq_true;apply List.ext_getElem hl;intro i h1 h2;have:=h i h1;rw[List.getD_eq_getElem?_getD,List.getD_eq_getElem?_getD,List.getElem?_eq_getElem h1,List.getElem?_eq_getElem h2] at this;exact this
theorem eqU_false{xs ys:List Int}{k:Nat}(h:xs.getD k 0≠ys.getD k 0):eqU xs ys=false:=decide_eq_false λ e=>h (by rw[e])
set_option maxHeartbeats 400000 in
theorem eqI_any(a b:Option Addr)(la lb ca cb:Nat)(xs ys:List Int)(w:World)(hla:xs.length=la)(hlb:ys.length=lb)(ha:(Lay.int .i64).At 0 w a xs)(hb:(Lay.int .i64).At 0 w b ys)(hsa:la<=1000000):
  Calls Tryz.prog 161 #[.slice a la ca,.slice b lb cb] w λ e w'=>e= .returned (.bool (eqU xs ys))/\Same w w':=by
 by_cases hll:la=lb
 ·have HA:=Z ha;have HB:=Z hb;have HLA:=Z hla;have HLB:=Z hlb;have HF:=Z (λ k h=>eqU_false (xs:=xs) (ys:=ys) (k:=k) h);have HT:=Z (λ h=>eqU_true (xs:=xs) (ys:=ys) (by rw[hla,hlb];exact hll) h);have hne:((la:Int) !=lb)=false:=by simp;omega
  clear ha hb hla hlb;go_enter Tryz.func161,Tryz.ntmps161
  go_wp2_with fail
  go_loopw [5] (λ i wr=>∃k:Nat,k<=la/\i= .int .i64 k/\Same w wr/\Hid (∀j,j<k->xs.getD j 0=ys.getD j 0)) (λ i _=>la-(intOf i).toNat)
  case atStart=>exact⟨0,by omega,rfl,Same.refl _,λ j hj=>by omega⟩
  case round=>
   obtain⟨k,hk,rfl,hS,hall⟩:=hrel;by_cases hlt:k<la
   ·have hq1:k<xs.length:=by rw[HLA.o];exact hlt
    have hq2:k<ys.length:=by rw[HLB.o];omega
    obtain⟨pb,po,rfl,hpb,hp0⟩:=HA.o.int hq1;obtain⟨qb,qo,rfl,hqb,hq0⟩:=HB.o.int hq2;have hp0':=(hS.cell ⟨pb,po+k,none⟩).trans hp0;have hq0':=(hS.cell ⟨qb,qo+k,none⟩).trans hq0;have hi1:(k:Int)<la:=by omega
    have hi2:(k:Int)<lb:=by omega
    have hi3:k<lb:=by omega
    have HFk:=Z (HF.o k);have HTk:=Z (λ(e:xs.getD k 0=ys.getD k 0)=>(λ j hj=>if h:j=k then by rw[h];exact e else hall j (by omega):∀j,j<k+1->xs.getD j 0=ys.getD j 0));clear hp0 hq0 hq1 hq2;generalize xs.getD k 0=x at*;generalize ys.getD k 0=y at*;by_cases hxy:x=y
    ·have Hall:=Z (HTk.o hxy);have hn:(x !=y)=false:=by simpa using hxy
     clear hxy
     go_wp2_with fail
     go_quiet(fail)
     go_wp2_with fail
     go_roundw
     case rel=>exact⟨k+1,by omega,by go_num,hS.drewN _,Hall.o⟩
     case measure=>simp[intOf];omega
    ·have HRR:=Z (HFk.o hxy);have hn:(x !=y)=true:=by simpa using hxy
     clear hxy
     go_wp2_with fail
     go_quiet(fail)
     go_wp2_with fail
     go_ret
     exact⟨by rw[HRR.o];rfl,hS.drewN _⟩
   ·have HRR:=Z (HT.o (λ j hj=>hall j (by rw[HLA.o] at hj;omega)))
    go_wp2_with fail
    go_ret
    exact⟨by rw[HRR.o];rfl,hS⟩
 ·have HR:Hid (eqU xs ys=false):=decide_eq_false λ e=>hll (by rw[<-hla,<-hlb,e])
  have hne:((la:Int) !=lb)=true:=by simp;omega
  clear hla hlb ha hb;go_enter Tryz.func161,Tryz.ntmps161
  go_wp2_with fail
  go_ret
  exact⟨by rw[HR.o];rfl,Same.refl _⟩
theorem eqN_dec(n m:Nd):decide (n=m)=(decide (n.op=m.op)&&(decide (n.num=m.num)&&decide (n.args=m.args))):=by
 obtain⟨o,u,l⟩:=n;obtain⟨p,v,r⟩:=m;by_cases h1:o=p<;>by_cases h2:u=v<;>by_cases h3:l=r<;>simp[h1,h2,h3]
theorem eqU_ints(l r:List Nat):eqU (intsN l) (intsN r)=decide (l=r):=by
 unfold eqU intsN;apply decide_eq_decide.2;constructor
 ·intro h;have:=congrArg (List.map Int.toNat) h;simpa[List.map_map,Function.comp_def] using this
 ·rintro rfl;rfl
def EqPost(b:Bool)(w:World)(e:Ending)(w':World):Prop:=e= .returned (.bool b)/\Below w.heap.size w w'
set_option maxHeartbeats 1000000 in
theorem eqN83(n m:Nd)(a b:Option Addr)(ca cb:Nat)(w:World)(ha:(Lay.int .i64).At 0 w a (intsN n.args))(hb:(Lay.int .i64).At 0 w b (intsN m.args))(hl:n.args.length<=1000):
  Calls Tryz.prog 114 #[.agg #[.int .u8 n.op,.int .u64 n.num,.slice a n.args.length ca],.agg #[.int .u8 m.op,.int .u64 m.num,.slice b m.args.length cb]] w (EqPost (decide (n=m)) w):=by
 have HA:=Z ha;have HB:=Z hb;have HQ:=Z (eqN_dec n m);have HL:=Z hl;have HE:Hid (∀w',Below w.heap.size w w'->Calls Tryz.prog 161 #[.slice a n.args.length ca,.slice b m.args.length cb] w' λ e w''=>e= .returned (.bool (decide (n.args=m.args)))/\Same w' w''):=Z λ w' hb'=>by
  have:=eqI_any a b n.args.length m.args.length ca cb (intsN n.args) (intsN m.args) w' (by simp[intsN]) (by simp[intsN]) (ha.below hb') (hb.below hb') (by omega);rwa[eqU_ints] at this
 clear ha hb hl;by_cases h1:n.op=m.op
 ·rw[decide_eq_true h1,Bool.true_and] at HQ;have d1:((n.op:Int)==m.op)=true:=by simp;omega
  clear h1;by_cases h2:n.num=m.num
  ·rw[decide_eq_true h2,Bool.true_and] at HQ;have d2:((n.num:Int)==m.num)=true:=by simp;omega
   clear h2;generalize n.args.length=l1 at*;generalize m.args.length=l2 at*;go_enter Tryz.func114,Tryz.ntmps114
   go_wp2_with(go_at_call 161;refine(HE.o _ (((Below.refl _ _).alloc (Nat.le_refl _) _).alloc (by simp) _)).mono ?_;rintro e w3 ⟨rfl,hs3⟩)
   go_ret
   refine⟨by rw[HQ.o];rfl,?_⟩;obtain⟨q,rfl⟩:=hs3;have:=(((Below.refl w.heap.size w).alloc (Nat.le_refl _) (Obj.cells #[Value.int IntKind.u8 n.op,Value.int IntKind.u64 n.num,Value.slice a l1 ca] 148)).alloc (by simp) (Obj.cells #[Value.int IntKind.u8 m.op,Value.int IntKind.u64 m.num,Value.slice b l2 cb] 148))
   exact⟨this.os,this.tape,this.output,this.size,this.block⟩
  ·rw[decide_eq_false h2,Bool.false_and] at HQ;have d2:((n.num:Int)==m.num)=false:=by simp;omega
   clear h2;go_enter Tryz.func114,Tryz.ntmps114
   go_wp2_with fail
   go_ret
   exact⟨by rw[HQ.o];rfl,((Below.refl _ _).alloc (Nat.le_refl _) _).alloc (by simp) _⟩
 ·rw[decide_eq_false h1,Bool.false_and] at HQ;have d1:((n.op:Int)==m.op)=false:=by simp;omega
  clear h1;go_enter Tryz.func114,Tryz.ntmps114
  go_wp2_with fail
  go_ret
  exact⟨by rw[HQ.o];rfl,((Below.refl _ _).alloc (Nat.le_refl _) _).alloc (by simp) _⟩
def RAskPost(w:World)(B:Nat)(A A':Nat->Prop)(gb:Nat)(nv:Value)(W:Nat)(L:List Nd)(n:Nd)(e:Ending)(w':World):Prop:=
 ∃nv',e= .returned (.tuple #[.int .i64 (ndAt n L:Nat),.int .i64 0])/\RG w' B (λ k=>A k\/A' k) gb nv' W (askL n L)/\Mut (MutB gb none nv) w w'/\NewB w nv nv'
theorem RG.more{w:World}{B:Nat}{A A':Nat->Prop}{gb:Nat}{nv:Value}{W:Nat}{L:List Nd}(h:RG w B A gb nv W L)(hA':∀k,A' k->B<=k/\k<w.heap.size/\¬MutB gb none nv k):RG w B (λ k=>A k\/A' k) gb nv W L:=by
 obtain⟨xs,h1,h2⟩:=h.nds;exact⟨h.blk,⟨xs,h1,h2.len,λ i hi=>⟨(h2.at_ i hi).1,(h2.at_ i hi).2.1,(h2.at_ i hi).2.2.mono λ k a=>.inl a⟩⟩,h.ok,h.lo,h.ne,λ k a=>a.elim (h.ar k) (hA' k)⟩
theorem RAskPost.add{w w4 w5 w7:World}{B:Nat}{A A':Nat->Prop}{gb:Nat}{nv v':Value}{W:Nat}{L:List Nd}{n:Nd}{hd:Option Addr×Nat×Nat}{xs:List NdH}(hH:Hid (RG w B A gb nv W L))(hnH:Hid (NdOk W L.length n))
  (hAH:Hid (∀k,A' k->B<=k/\k<w.heap.size/\¬MutB gb none nv k))(hhH:Hid (HdAt w A' hd n.args))(hnoH:Hid (n∉L))
  (h4:Below w.heap.size w w4)(hxsH:Hid (NdsOk w A xs L))(hownH:Hid (Lay.nd.Own 148 w5 B v' (xs++[(n.op,n.num,hd)])))(hgH:Hid (w4.grownBy w5 nv.ownBlock))(hvH:Hid (v'.ownBlock=nv.ownBlock\/v'.ownBlock=some w4.heap.size))
  (e7:w7.heap=(w5.setCell ⟨gb,2,none⟩ v').heap)(o7:w7.os=w5.os/\w7.tape=w5.tape/\w7.output=w5.output):
  RAskPost w B A A' gb nv W L n (.returned (.tuple #[.int .i64 (L.length:Int),.int .i64 0])) w7:=by
 have h:=hH.o;have hn:=hnH.o;have hA':=hAH.o;have hh:=hhH.o;have hno:=hnoH.o;have hxs:=hxsH.o;have hown:=hownH.o;have hg:=hgH.o;have hv:=hvH.o;have hgl:=h.lo gb (.inl rfl);have hz4:=h4.size;have hz5:=hg.size;have hz7:w7.heap.size=w5.heap.size:=by rw[e7];simp
 have n2:=h.ne;have g4:w4.heap[gb]? =w.heap[gb]? :=h4.block gb hgl.2;have g5:w5.heap[gb]? =w.heap[gb]? :=(hg.block gb (by omega) (λ e=>n2 e.symm)).trans g4;have old:∀k,k<w.heap.size->¬MutB gb none nv k->w7.heap[k]? =w.heap[k]? :=λ k hk hm=>by
  have hk1:k≠gb:=λ e=>hm (.inl e)
  rw[e7,Below.heap_setCell _ _ _ _ hk1];exact(hg.block k (by omega) (λ e=>hm (.inr (.inr e.symm)))).trans (h4.block k hk)
 have vne:v'.ownBlock≠some gb:=by
  rcases hv with e|e
  ·rw[e];exact n2
  ·rw[e];exact λ e=>by injection e with e;omega
 have vlo:∀k,v'.ownBlock=some k->B<=k/\k<w5.heap.size:=λ k e=>World.ownsRow.lt hown k e
 refine⟨v',by rw[ndAt_none hno],?_,⟨?_,?_,?_,by omega,old⟩,?_⟩
 ·rw[askL,if_neg hno];refine⟨?_,⟨xs++[(n.op,n.num,hd)],?_,?_⟩,?_,?_,vne,?_⟩
  ·rw[e7];have:=g5.trans h.blk;simp[World.setCell,Array.getElem?_modify,this]
  ·refine own_frame hown λ k e=> ?_
   rw[e7,Below.heap_setCell _ _ _ _ (λ e'=>vne (by rw[e,e']))]
  ·refine NdsOk.snoc (A:=A) ?_ (λ k a=>.inl a) ?_
   ·exact hxs.frame (by omega) λ k a=>old k (h.ar k a).2.1 (h.ar k a).2.2
   ·exact(hh.frame (by omega) λ k a=>old k (hA' k a).2.1 (hA' k a).2.2).mono λ k a=>.inr a
  ·have:=h.ok.ask hn;unfold askL at this;rwa[if_neg hno] at this
  ·rintro k (rfl|e|e)
   ·exact⟨hgl.1,by omega⟩
   ·cases e
   ·have:=vlo k e;exact⟨this.1,by omega⟩
  ·have key:∀k,B<=k/\k<w.heap.size/\¬MutB gb none nv k->B<=k/\k<w7.heap.size/\¬MutB gb none v' k:=λ k ⟨a1,a2,a3⟩=>by
    refine⟨a1,by omega,?_⟩;rintro(e|e|e)
    ·exact a3 (.inl e)
    ·exact a3 (.inr (.inl e))
    ·rcases hv with e'|e'
     ·exact a3 (.inr (.inr (e'.symm.trans e)))
     ·rw[e'] at e;injection e with e;omega
   rintro k (a|a)
   ·exact key k (h.ar k a)
   ·exact key k (hA' k a)
 ·rw[o7.1,hg.os,h4.os]
 ·rw[o7.2.1,hg.tape,h4.tape]
 ·rw[o7.2.2,hg.output,h4.output]
 ·rcases hv with e|e
  ·exact .inl e
  ·exact .inr ⟨_,e,by omega⟩
theorem ndAt_of{n:Nd}:∀{L:List Nd} {k:Nat},(∀j,j<k->L.getD j default≠n)->L.getD k default=n->k<L.length->ndAt n L=k/\n∈L
 |[],k,_,_,h=>by simp at h
 |m::l,0,_,h,_=>by
  have h:m=n:=by simpa using h
  exact⟨by simp[ndAt,h],by simp[h]⟩
 |m::l,k+1,h1,h2,h3=>by
  have h0:m≠n:=by simpa using h1 0 (by omega)
  obtain⟨e,hm⟩:=ndAt_of (L:=l) (k:=k) (λ j hj=>by simpa using h1 (j+1) (by omega)) (by simpa using h2) (by simpa using h3);exact⟨by unfold ndAt;rw[if_neg h0,e],List.mem_cons_of_mem _ hm⟩
set_option maxRecDepth 100000 in
set_option maxHeartbeats 4000000 in
theorem ask70{w:World}{B:Nat}{A A':Nat->Prop}{gb:Nat}{nv:Value}{W:Nat}{L:List Nd}(h:RG w B A gb nv W L)(n:Nd)(hn:NdOk W L.length n){a:Option Addr}{len cap:Nat}(hd:HdAt w A' (a,len,cap) n.args)
  (hA':∀k,A' k->B<=k/\k<w.heap.size/\¬MutB gb none nv k)(hB:B<=w.heap.size)(hL:L.length<=999):
  Calls Tryz.prog 90 #[.pointer (some ⟨gb,0,none⟩),.agg #[.int .u8 n.op,.int .u64 n.num,.slice a len cap]] w (RAskPost w B A A' gb nv W L n):=by
 have hlt:=(h.lo gb (.inl rfl)).2;obtain⟨na,ncap,rfl,hcl,hcm⟩:=h.slice;have hl2:n.args.length<=2:=by rw[hn.2.2.2.2.1];have:=hn.1;unfold arN;(repeat' split)<;>omega
 have hLi:(L.length:Int)<=999:=by omega
 have hlen:len=n.args.length:=hd.len;subst hlen;have hd0:HdAt w A' (a,n.args.length,cap) n.args:=hd;have c1:w.cell? ⟨gb,1,none⟩=some (.int .i64 1000):=by simp[World.cell?,h.blk]
 have c2:w.cell? ⟨gb,2,none⟩=some (.slice na L.length ncap):=by simp[World.cell?,h.blk]
 have HP:=Z h;have HHD:=Z hd0;have HNOK:=Z hn;have HAA:=Z hA';obtain⟨xs,hown,hxs⟩:=h.nds;have HND:=Z (λ i hi=>nds_cells hown hxs (i:=i) hi);have HOW:=Z hown;have HXS:=Z hxs;clear hd hd0 hn hA' h hown hxs;go_enter Tryz.func90,Tryz.ntmps90
 go_wp2_with fail
 have hB1:Below w.heap.size w (w.alloc (Obj.cells #[Value.int IntKind.u8 n.op,Value.int IntKind.u64 n.num,Value.slice a n.args.length cap] 148)):=(Below.refl _ _).alloc (Nat.le_refl _) _;have x0:(w.alloc (Obj.cells #[Value.int IntKind.u8 n.op,Value.int IntKind.u64 n.num,Value.slice a n.args.length cap] 148)).cell? ⟨w.heap.size,0,none⟩=some (.int .u8 n.op):=by rw[World.cell?_alloc_new];rfl
 have x1:(w.alloc (Obj.cells #[Value.int IntKind.u8 n.op,Value.int IntKind.u64 n.num,Value.slice a n.args.length cap] 148)).cell? ⟨w.heap.size,1,none⟩=some (.int .u64 n.num):=by rw[World.cell?_alloc_new];rfl
 have x2:(w.alloc (Obj.cells #[Value.int IntKind.u8 n.op,Value.int IntKind.u64 n.num,Value.slice a n.args.length cap] 148)).cell? ⟨w.heap.size,2,none⟩=some (.slice a n.args.length cap):=by rw[World.cell?_alloc_new];rfl
 have hs1:w.heap.size<(w.alloc (Obj.cells #[Value.int IntKind.u8 n.op,Value.int IntKind.u64 n.num,Value.slice a n.args.length cap] 148)).heap.size:=by simp
 generalize(w.alloc (Obj.cells #[Value.int IntKind.u8 n.op,Value.int IntKind.u64 n.num,Value.slice a n.args.length cap] 148))=w1 at*;have HX:Hid (∀w',Below w1.heap.size w1 w'->w'.cell? ⟨w.heap.size,0,none⟩=some (.int .u8 n.op)/\w'.cell? ⟨w.heap.size,1,none⟩=some (.int .u64 n.num)/\w'.cell? ⟨w.heap.size,2,none⟩=some (.slice a n.args.length cap)):=Z λ w' hb=>
  ⟨(hb.cell (p:=⟨w.heap.size,0,none⟩) hs1).trans x0,(hb.cell (p:=⟨w.heap.size,1,none⟩) hs1).trans x1,(hb.cell (p:=⟨w.heap.size,2,none⟩) hs1).trans x2⟩
 have HB1:=Z hB1;have HC1:=Z c1;have HC2:=Z c2;clear x0 x1 x2 hB1 c1 c2
 go_loopw [6] (λ i wr=>∃k:Nat,k<=L.length/\i= .int .i64 k/\Below w1.heap.size w1 wr/\Hid (∀j,j<k->L.getD j default≠n)) (λ i _=>L.length-(intOf i).toNat)
 case atStart=>exact⟨0,by omega,rfl,Below.refl _ _,Z λ j hj=>by omega⟩
 case round=>
  obtain⟨k,hk,rfl,hbr,HNO⟩:=hrel;have hbw:Below w.heap.size w wr:=HB1.o.trans (hbr.mono (by have:=HB1.o.size;omega));have c1:wr.cell? ⟨gb,1,none⟩=some (.int .i64 1000):=(hbw.cell (p:=⟨gb,1,none⟩) hlt).trans HC1.o;have c2:wr.cell? ⟨gb,2,none⟩=some (.slice na L.length ncap):=(hbw.cell (p:=⟨gb,2,none⟩) hlt).trans HC2.o;obtain⟨x0,x1,x2⟩:=HX.o wr hbr;have hszr:=hbr.size;have HBW:=Z hbw;have HBR:=Z hbr;clear hbw hbr;by_cases hlk:k<L.length
  ·obtain⟨b,cb,ha,hc,hv,hbz,hob,y0,y1,y2,hat,hnn,har⟩:=HND.o k hlk;injection hv with hv1 hv2 hv3;subst hv1;have z0:=(HBW.o.cell (p:=⟨b,k*3,none⟩) hbz).trans y0;have z1:=(HBW.o.cell (p:=⟨b,k*3+1,none⟩) hbz).trans y1;have z2:=(HBW.o.cell (p:=⟨b,k*3+2,none⟩) hbz).trans y2;have HAT:=Z (hat.below HBW.o);have HAN:=Z (HHD.o.at_.below HBW.o);have hl3:(L.getD k default).args.length<=2:=by have h5:=(HP.o.ok k hlk);rw[h5.2.2.2.2.1];have:=h5.1;unfold arN;(repeat' split)<;>omega
   have hki:(k:Int)<L.length:=by omega
   have HDEC:Hid (∀e:decide (L.getD k default=n)=false,∀j,j<k+1->L.getD j default≠n):=Z λ e j hj=>by
    by_cases hjk:j=k
    ·subst hjk;exact of_decide_eq_false e
    ·exact HNO.o j (by omega)
   clear y0 y1 y2 hat hnn har hv2 hv3;have HS:Hid (∀w',Below wr.heap.size wr w'->w'.cell? ⟨gb,2,none⟩=some (.slice (some ⟨b,0,none⟩) L.length ncap)/\w'.cell? ⟨b,k*3,none⟩=some (.int .u8 ((L.getD k default).op:Int))/\w'.cell? ⟨b,k*3+1,none⟩=some (.int .u64 ((L.getD k default).num:Int))/\w'.cell? ⟨b,k*3+2,none⟩=some (.slice ha (L.getD k default).args.length hc)/\
     w'.cell? ⟨w.heap.size,0,none⟩=some (.int .u8 n.op)/\w'.cell? ⟨w.heap.size,1,none⟩=some (.int .u64 n.num)/\w'.cell? ⟨w.heap.size,2,none⟩=some (.slice a n.args.length cap)/\Below wr.heap.size wr w'):=Z λ w' hb=>by
    have hz:=HBW.o.size;exact⟨(hb.cell (p:=⟨gb,2,none⟩) (by show gb<_;omega)).trans c2,(hb.cell (p:=⟨b,k*3,none⟩) (by show b<_;omega)).trans z0,(hb.cell (p:=⟨b,k*3+1,none⟩) (by show b<_;omega)).trans z1,(hb.cell (p:=⟨b,k*3+2,none⟩) (by show b<_;omega)).trans z2,
     (hb.cell (p:=⟨w.heap.size,0,none⟩) (by show w.heap.size<_;omega)).trans x0,(hb.cell (p:=⟨w.heap.size,1,none⟩) (by show w.heap.size<_;omega)).trans x1,(hb.cell (p:=⟨w.heap.size,2,none⟩) (by show w.heap.size<_;omega)).trans x2,hb⟩
   have HL3:=Z hl3;have HBE:=Z (show(Below w1.heap.size w1 wr) from HBR.o);clear z0 z1 z2 x0 x1 x2 c1;generalize hgd:L.getD k default=nk at*;have HGD:=Z hgd;clear hgd
   go_wp2_with fail
   go_region_held3(λ w'=>w'.cell? ⟨gb,2,none⟩=some (.slice (some ⟨b,0,none⟩) L.length ncap)/\w'.cell? ⟨b,k*3,none⟩=some (.int .u8 (nk.op:Int))/\w'.cell? ⟨b,k*3+1,none⟩=some (.int .u64 (nk.num:Int))/\w'.cell? ⟨b,k*3+2,none⟩=some (.slice ha nk.args.length hc)/\
     w'.cell? ⟨w.heap.size,0,none⟩=some (.int .u8 n.op)/\w'.cell? ⟨w.heap.size,1,none⟩=some (.int .u64 n.num)/\w'.cell? ⟨w.heap.size,2,none⟩=some (.slice a n.args.length cap)/\Below wr.heap.size wr w')
    (first|exact HS.o _ (Below.refl _ _)|exact HS.o _ (Below.refl _ _).drew|exact HS.o _ KB.o|exact HS.o _ (‹_/\_/\_/\_/\_/\_/\_/\Below _ _ _›).2.2.2.2.2.2.2|exact HS.o _ (‹_/\_/\_/\_/\_/\_/\_/\Below _ _ _›).2.2.2.2.2.2.2.drew)
    (first
      |(go_at_call 114
        refine(eqN83 nk n ha a hc cap _ (HAT.o.below (‹_/\_/\_/\_/\_/\_/\_/\Below _ _ _›).2.2.2.2.2.2.2) (HAN.o.below (id (‹_/\_/\_/\_/\_/\_/\_/\Below _ _ _›).2.2.2.2.2.2.2)) (by have:=HL3.o;omega)).mono ?_;rintro e wB ⟨rfl,hbB⟩;have KB:=Z ((‹_/\_/\_/\_/\_/\_/\_/\Below _ _ _›).2.2.2.2.2.2.2.trans (hbB.mono (‹_/\_/\_/\_/\_/\_/\_/\Below _ _ _›).2.2.2.2.2.2.2.size))))
   clear HS;have HK1:=Z hk;by_cases hnk:nk=n
   ·have hnd:decide (nk=n)=true:=decide_eq_true hnk;have HNK:=Z hnk;simp only[hnd];clear hnd hnk
    go_wp2_with fail
    go_ret2
    have hmem:ndAt n L=k/\n∈L:=ndAt_of HNO.o (by rw[HGD.o];exact HNK.o) hlk;have hbl:Below w.heap.size w wB:=HBW.o.trans (KB.o.mono HBW.o.size);exact⟨_,by rw[hmem.1];rfl,(by rw[askL,if_pos hmem.2];exact(HP.o.more HAA.o).below hbl),Mut.of_below hbl,.inl rfl⟩
   ·have hnd:decide (nk=n)=false:=decide_eq_false hnk;have HNK:=Z hnd;simp only[hnd];clear hnd hnk
    go_wp2_with fail
    go_roundw
    case rel=>
     exact⟨k+1,by omega,by go_num,HBR.o.trans (KB.o.mono HBR.o.size),Z (HDEC.o HNK.o)⟩
    case measure=>simp[intOf];omega
  ·obtain rfl:k=L.length:=by omega
   have HNI:Hid (n∉L):=Z λ hmem=>by
    obtain⟨i,hi,e⟩:=mem_getN L n hmem;exact HNO.o i hi e
   have hB1z:w.heap.size<wr.heap.size:=by omega
   have hgbz:gb<wr.heap.size:=by omega
   have hxl:xs.length=L.length:=HXS.o.len;have HXL:=Z hxl;have hxl2:xs.length<=999:=by omega
   have HOWr:Hid (Lay.nd.Own 148 wr B (.slice na L.length ncap) xs):=Z (own_frame HOW.o λ k e=>HBW.o.block k (HP.o.lo k (.inr (.inr e))).2);have HNE:=Z HP.o.ne;have HGB:Hid (wr.heap[gb]? =some (.cells #[.int .i64 W,.int .i64 1000,.slice na L.length ncap] 131 (0,0))):=Z ((HBW.o.block gb hlt).trans HP.o.blk);have hcA:∀m ob,((wr.drewN m).alloc ob).cell? ⟨gb,2,none⟩=some (.slice na L.length ncap):=λ m ob=>(World.cell?_of_block (a:=⟨gb,2,none⟩) (Below.heap_alloc (wr.drewN m) ob gb hgbz)).trans c2
   clear hxl HND
   go_wp2_with fail
   go_quiet(fail)
   go_wp2_with fail
   go_region_law(refine step_nd rfl (.tmp 40) (.tmp 42) rfl (n.op,n.num,a,n.args.length,cap) rfl (by first|exact(show Lay.nd.Own 148 _ B _ _ from HOWr.o).alloc _) rfl (by first|exact lay_new_cells _ _ 148) (by omega) (by first|(simp;done)|(simp;omega)|omega) ?_;intro v' w5 ho5 hg5 hv5;obtain⟨av,cv,hav,_,_,_⟩:=ho5.at_ (d:=default);rw[show(xs++[(n.op,n.num,(a,n.args.length,cap))]).length=L.length+1 by rw[List.length_append,HXL.o];rfl] at hav;subst hav;have HO5:=Z ho5;have HG5:=Z hg5;have HV5:=Z hv5;have hb5:w5.heap[gb]? =some (.cells #[.int .i64 W,.int .i64 1000,.slice na L.length ncap] 131 (0,0)):=(hg5.block gb (by first|(simp;done)|(simp;omega)|omega) (λ e=>HNE.o e.symm)).trans ((Below.heap_alloc _ _ gb (by exact hgbz)).trans HGB.o);have hc5:w5.cell? ⟨gb,2,none⟩=some (.slice na L.length ncap):=(by simp[World.cell?,hb5]);have hf5:w5.frozen? ⟨gb,2,none⟩=false:=(by simp[World.frozen?,hb5]);have HB5:=Z hb5;clear ho5 hg5 hv5 hb5)
   all_goals
    go_wp2_with fail
    go_ret2
    exact RAskPost.add HP HNOK HAA HHD HNI ((below_drewN HBW.o _).alloc (by show w.heap.size<=wr.heap.size;omega) _) HXS HO5 HG5 HV5 rfl ⟨rfl,rfl,rfl⟩
end Go.Proofs.YtgdpkkjfcdhmdaaGreatDoor
