/- Walk: Subst. -/
import Derived.Test.YtgdpkkjfcdhmdaaGreatDoorR35
namespace Go.Proofs.YtgdpkkjfcdhmdaaGreatDoor
open Go.RowKit
structure jh (w0 w:World) (gb p9 sm bm vm rb:Nat) (S1 SB SV:List (Int×Value)):Prop where
 bel:Below w0.heap.size w0 w
 r8:fH w w0.heap.size [.int .i64 0]
 r9:fH w p9 [.int .i64 0]
 m1:gu .i64 w sm S1
 mB:gu .i64 w bm SB
 mV:gu .u64 w vm SV
 rp:fH w rb [.pointer (some ⟨gb,0,none⟩),.map (some bm),.map (some vm)]
 ord:w0.heap.size<p9/\p9<sm/\sm<bm/\bm<vm/\vm<rb
section
variable {w0 w w':World} {gb p9 sm bm vm rb:Nat} {S1 SB SV:List (Int×Value)}
theorem jh.keep(h:jh w0 w gb p9 sm bm vm rb S1 SB SV)(hb:Below w.heap.size w w'):jh w0 w' gb p9 sm bm vm rb S1 SB SV:=⟨jq h.bel hb,h.r8.keep hb,h.r9.keep hb,h.m1.frame (hb.block _ h.m1.lt),h.mB.frame (hb.block _ h.mB.lt),h.mV.frame (hb.block _ h.mV.lt),h.rp.keep hb,h.ord⟩
theorem qq{g b:Nat}{vs:List Value}(h:fH w g vs)(hne:g≠b)(hs:w'.heap.size=w.heap.size)(hk:∀k,k≠b->w'.heap[k]? =w.heap[k]?):fH w' g vs:=⟨by rw[hs];exact h.lt,λ i v e=>⟨(Ai (a:=⟨g,i,none⟩) (hk g hne)).trans (h.at_ i v e).1,(World.frozen?_of_block (a:=⟨g,i,none⟩) (hk g hne)).trans (h.at_ i v e).2⟩⟩
theorem EF{b:Nat}(hb:w0.heap.size<=b)(h:Below w0.heap.size w0 w)(hs:w'.heap.size=w.heap.size)(hk:∀k,k≠b->w'.heap[k]? =w.heap[k]?)(e1:w'.os=w.os)(e2:w'.tape=w.tape)(e3:w'.output=w.output):Below w0.heap.size w0 w':=⟨e1.trans h.os,e2.trans h.tape,e3.trans h.output,by rw[hs];exact h.size,λ k hk'=>(hk k (by omega)).trans (h.block k hk')⟩
theorem jh.put1(h:jh w0 w gb p9 sm bm vm rb S1 SB SV){S:List (Int×Value)}(g:gu .i64 w' sm S)(b:w'.heap.size=w.heap.size)(a:∀k,k≠sm->w'.heap[k]? =w.heap[k]?)(c:w'.os=w.os)(d:w'.tape=w.tape)(f:w'.output=w.output):jh w0 w' gb p9 sm bm vm rb S SB SV:=by have o:=h.ord;exact⟨EF (by omega) h.bel b a c d f,qq h.r8 (by omega) b a,qq h.r9 (by omega) b a,g,h.mB.frame (a _ (by omega)),h.mV.frame (a _ (by omega)),qq h.rp (by omega) b a,o⟩
theorem jh.putV(h:jh w0 w gb p9 sm bm vm rb S1 SB SV){S:List (Int×Value)}(g:gu .u64 w' vm S)(b:w'.heap.size=w.heap.size)(a:∀k,k≠vm->w'.heap[k]? =w.heap[k]?)(c:w'.os=w.os)(d:w'.tape=w.tape)(f:w'.output=w.output):jh w0 w' gb p9 sm bm vm rb S1 SB S:=by have o:=h.ord;exact⟨EF (by omega) h.bel b a c d f,qq h.r8 (by omega) b a,qq h.r9 (by omega) b a,h.m1.frame (a _ (by omega)),h.mB.frame (a _ (by omega)),g,qq h.rp (by omega) b a,o⟩
theorem fH.frame{g:Nat}{vs:List Value}(h:fH w g vs)(hs:w.heap.size<=w'.heap.size)(hk:w'.heap[g]? =w.heap[g]?):fH w' g vs:=⟨A9 h.lt hs,λ i v e=>⟨(Ai (a:=⟨g,i,none⟩) hk).trans (h.at_ i v e).1,(World.frozen?_of_block (a:=⟨g,i,none⟩) hk).trans (h.at_ i v e).2⟩⟩
theorem jh.grown(h:jh w0 w gb p9 sm bm vm rb S1 SB SV){b:Nat}(c:w.grownBy w' (some b))(hb:rb<b):jh w0 w' gb p9 sm bm vm rb S1 SB SV:=by have o:=h.ord;have a:∀k,k<w.heap.size->k<=rb->w'.heap[k]? =w.heap[k]? :=λ k a hr=>c.block k a (λ e=>by injection e with e;omega);have l8:=h.r8.lt;exact⟨h.bel.grown c h.bel.size (λ k a=>by injection a with a;omega),h.r8.frame c.size (a _ h.r8.lt (by omega)),h.r9.frame c.size (a _ h.r9.lt (by omega)),h.m1.frame (a _ h.m1.lt (by omega)),h.mB.frame (a _ h.mB.lt (by omega)),h.mV.frame (a _ h.mV.lt (by omega)),h.rp.frame c.size (a _ h.rp.lt (by omega)),o⟩
theorem xZ{a:World}{q:IntKind}{b:Nat}(c:a.heap.size=b):gu q (a.alloc (.map #[] 0)) b []:=by subst c;exact gu.new a
theorem oJ{q:IntKind}{b:Nat}{S:List (Int×Value)}(h:gu q w b S)(ob:Obj):gu q (w.alloc ob) b S:=h.frame (((A6 _ _).alloc (A8 _) ob).block _ h.lt)
theorem jh.start(w:World)(gb:Nat):jh w ((((((w.alloc (.cells #[.int .i64 0] 3)).alloc (.cells #[.int .i64 0] 41)).alloc (.map #[] 0)).alloc (.map #[] 0)).alloc (.map #[] 0)).alloc (.cells #[.pointer (some ⟨gb,0,none⟩),.map (some (w.heap.size+1+1+1)),.map (some (w.heap.size+1+1+1+1))] 210)) gb (w.heap.size+1) (w.heap.size+1+1) (w.heap.size+1+1+1) (w.heap.size+1+1+1+1) (w.heap.size+1+1+1+1+1) [] [] []:=⟨fQ (fQ (fQ (fQ (fQ (fQ (A6 _ _) _) _) _) _) _) _,((((((fH.made rfl).alloc _).alloc _).alloc _).alloc _).alloc _),(((((fH.made (by simp)).alloc _).alloc _).alloc _).alloc _),oJ (oJ (oJ (xZ (by simp)) _) _) _,oJ (oJ (xZ (by simp)) _) _,oJ (xZ (by simp)) _,fH.made (by simp),by omega,by omega,by omega,by omega,by omega⟩
end
section
variable {w:World} {B:Nat} {A:Nat->Prop} {gb mb:Nat} {nv:Value} {W:Nat} {L:List Nd}
set_option maxRecDepth 100000 in
set_option maxHeartbeats 8000000 in
theorem Ot(h:PG w B A gb mb nv W L)(hB:B<=w.heap.size)(h1:1<=W)(h2:W<=64)(t:Nat)(ht:t<L.length)(vs ts:List Nat){m:Nat}(bY:vs.length=m)(a6:ts.length=m)(hm:m<=100)(bO:vs.Nodup)(bW:∀s∈ts,s<L.length)
  {va ta:Option Addr}{c d:Nat}(aB:(Lay.int .i64).At 0 w va (fE vs))(aA:(Lay.int .i64).At 0 w ta (fE ts))(H:∀v∈vs,v<4194304)(σ:Nat->Option Nat)(occ:Nat->Bool)(bP:∀j,occ j=true↔Occ L t j)
  (hσ:∀i,i<=t->occ i=true->(L.getD i default).op=1->lkS (jI vs ts) ((L.getD i default).num:Int)=(σ (L.getD i default).num).map λ s=>.int .i64 (s:Nat))
  (a5:∀k,k<=t+1->(fO W σ L occ L k).2.length<=999)(bF:∀k,k<=t->∀a,a<k->occ a=true->(fO W σ L occ L k).1.getD a 0<(fO W σ L occ L k).2.length):
  Calls Tryz.prog 65 #[.pointer (some ⟨gb,0,none⟩),.int .i64 t,.slice va m c,.slice ta m d] w (gD w B A gb mb nv W ((fO W σ L occ L (t+1)).1.getD t 0,(fO W σ L occ L (t+1)).2)):=by
 have hg:=h.rv;obtain⟨na,am,rfl,bG,hcm⟩:=h.slice;have c2:w.cell? ⟨gb,2,none⟩=some (.slice na L.length am):=by simp[World.cell?,h.blk]
 have cP:=(h.lo gb (.inl rfl)).2;have be:Hid (∀w',Below w.heap.size w w'->Calls Tryz.prog 59 #[.pointer (some ⟨gb,0,none⟩)] w' λ e w''=>e= .returned (.int .i64 L.length)/\w'=w''):=Z λ w' hb=>tX gb L.length w' ((hb.cell (p:=⟨gb,2,none⟩) cP).trans c2)
 have au:=Z hg;have HP:=Z h;have bw:=Z aB;have bt:=Z aA;have U:=Z bY;have ak:=Z a6;have ap:=Z bO;have bu:=Z bW;have br:=Z H;have bj:=Z bP;have cu:=Z hσ;have cr:=Z a5;have b8:=Z bF;have bC:=a5 0 (by omega);have cf:Hid (L.length<=999):=Z bC;generalize hQ:gD w B A gb mb (.slice na L.length am) W ((fO W σ L occ L (t+1)).1.getD t 0,(fO W σ L occ L (t+1)).2)=Q;have HQ:=Z hQ;have hti:(t:Int)<L.length:=by omega
 have ht9:(t:Int)<=999:=by have:=cf.o;omega
 have hmi:(m:Int)<=100:=by omega
 clear hQ h aB aA bY a6 bO bW H bP hσ a5 bF hg c2 bC;have hmf:∀(fn:Fn) (first cap:Array Value) (w:World),(Instr.makeFunc fn first cap).run Tryz.prog w= .ok (.func fn first cap) w:=λ _ _ _ _=>rfl
 have hmm:=@run_makeMap Tryz.prog;have bd:Hid (Calls Tryz.prog 59 #[.pointer (some ⟨gb,0,none⟩)] ((w.alloc (.cells #[.int .i64 0] 3)).alloc (.cells #[.int .i64 0] 41)) λ e w''=>e= .returned (.int .i64 L.length)/\((w.alloc (.cells #[.int .i64 0] 3)).alloc (.cells #[.int .i64 0] 41))=w''):=Z (be.o _ (fQ (fQ (A6 _ _) _) _));have cJ:decide ((t:Int)<0)=false:=decide_eq_false (by omega);have cK:decide (L.length<=t)=false:=decide_eq_false (by omega);have cL:decide ((L.length:Int)<=t)=false:=decide_eq_false (by omega)
 go_enter_defers Tryz.func65,Tryz.ntmps65
 go_upto_region 9 with(go_at_call 59;refine bd.o.mono ?_;rintro e w' ⟨rfl,rfl⟩)
 have ch:=Z (jh.start w gb);generalize((((((w.alloc (.cells #[.int .i64 0] 3)).alloc (.cells #[.int .i64 0] 41)).alloc (.map #[] 0)).alloc (.map #[] 0)).alloc (.map #[] 0)).alloc (.cells #[.pointer (some ⟨gb,0,none⟩),.map (some (w.heap.size+1+1+1)),.map (some (w.heap.size+1+1+1+1))] 210))=w6 at*;generalize w.heap.size+1+1+1+1+1=rb at*;generalize w.heap.size+1+1+1+1=vm at*;generalize w.heap.size+1+1+1=bm at*;generalize w.heap.size+1+1=sm at*;generalize w.heap.size+1=p9 at*;clear bd cJ cK cL
 go_wp2_with fail
 go_loopw [44] (λ i wr=>∃k:Nat,k<=m/\i= .int .i64 k/\Hid (jh w wr gb p9 sm bm vm rb (lf (vs.take k)) [] (jI (vs.take k) (ts.take k)))) (λ i _=>m-(intOf i).toNat)
 case atStart=>exact⟨0,by omega,rfl,ch⟩
 case round=>
  obtain⟨k,G,rfl,H⟩:=hrel;by_cases hlk:k<m
  ·obtain⟨ib,io,aB,aU,aT⟩:=bw.o.int (i:=k) (by simp[fE,U.o];exact hlk);obtain⟨jb,jo,aA,aV,ay⟩:=bt.o.int (i:=k) (by simp[fE,ak.o];exact hlk);have bX:(fE vs).getD k 0=((vs.getD k 0:Nat):Int):=ij _ _;have bU:(fE ts).getD k 0=((ts.getD k 0:Nat):Int):=ij _ _;rw[bX] at aT;rw[bU] at ay;have i0:=(H.o.bel.cell (p:=⟨ib,io+k,none⟩) aU).trans aT;have j0:=(H.o.bel.cell (p:=⟨jb,jo+k,none⟩) aV).trans ay;have bZ:vs.getD k 0∈vs:=by rw[Aa,Ab (U.o.symm▸hlk)];exact AI _
   have bV:ts.getD k 0∈ts:=by rw[Aa,Ab (ak.o.symm▸hlk)];exact AI _
   have aP:vs.getD k 0∉vs.take k:=by
    intro hm;have:=ap.o;rw[<-List.take_append_drop k vs] at this;have hd:vs.getD k 0∈vs.drop k:=by
     rw[List.drop_eq_getElem_cons (U.o.symm▸hlk),Aa,Ab (U.o.symm▸hlk)];exact AK ..
    exact(List.nodup_append.1 this).2.2 _ hm _ hd rfl
   have bq:=Z (EC aP);have cs:=Z (ED (r:=ts.take k) aP);have cy:=Z (show lf (vs.take (k+1))=lf (vs.take k)++[(((vs.getD k 0:Nat):Int),Value.bool true)] by rw[kn 0 vs (U.o.symm▸hlk),Om]);have cD:=Z (show jI (vs.take (k+1)) (ts.take (k+1))=jI (vs.take k) (ts.take k)++[(((vs.getD k 0:Nat):Int),Value.int .i64 (ts.getD k 0:Nat))] by
    rw[kn 0 vs (U.o.symm▸hlk),kn 0 ts (ak.o.symm▸hlk),Ol (by simp[U.o,ak.o])])
   have hv22:=br.o _ bZ;have a6:((ts.getD k 0:Nat):Int)<L.length:=by have:=bu.o _ bV;omega
   have hki:(k:Int)<m:=by omega
   have HJ:Hid (∀w':World,Below w.heap.size w w'->w'.cell? ⟨jb,jo+k,none⟩=some (.int .i64 (ts.getD k 0:Nat))):=Z λ w' hb=>(hb.cell (p:=⟨jb,jo+k,none⟩) aV).trans ay
   clear bX bU aT ay bZ bV aP aU aV;generalize vs.getD k 0=v at*;generalize ts.getD k 0=s at*;subst aB aA;have bf:=Z H.o.m1
   go_upto_region 14 with(refine xU Ew rfl _ _ rfl rfl bf.o rfl ?_;rw[bq.o];simp only[Option.getD_none])
   go_simp
   go_cut[65] from 45 to 80 (λ x wx=>x= .bool false/\∃n,wx=wr.drewN n)
   case first=>
    have cg:Hid (∀q,Calls Tryz.prog 59 #[.pointer (some ⟨gb,0,none⟩)] (wr.drewN q) λ e w''=>e= .returned (.int .i64 L.length)/\∃k,w''=wr.drewN k):=Z λ q=>(be.o _ (gG H.o.bel q)).mono λ e w'' h=>⟨h.1,q,h.2.symm⟩
    have d1:decide ((s:Int)<0)=false:=decide_eq_false (by omega);have d2:decide (L.length<=s)=false:=decide_eq_false (by omega)
    go_quiet((go_at_call 59;exact cg.o _))
    go_wp2_with fail
    go_meet
    exact⟨by first|rfl|exact congrArg Value.bool d2,_,rfl⟩
   case rest=>
    obtain⟨rfl,q,rfl⟩:=hcut;have aJ:=Z (H.o.keep (gG (A6 _ _) q));have hvz:decide (0<=(v:Int))=true:=decide_eq_true (by omega);have hcv:IntKind.u64.wrap (v:Int)=v:=mf v (by omega);clear i0 j0 H bf;generalize wr.drewN q=w2 at*
    go_upto_region 18 with(refine Ez Ew rfl _ _ _ rfl rfl aJ.o.m1 rfl bq.o rfl ?_;intro w3 bK bR bI J K R)
    have av:=Z (aJ.o.put1 (S:=lf (vs.take (k+1))) (by rw[cy.o];exact bK) bR bI J K R);clear bK bR bI J K R aJ;have F:=Z (av.o.keep (A6 _ _).drew);have x2:=(F.o.rp.at_ 2 _ rfl).1;have c3:=(av.o.rp.at_ 2 _ rfl).1;have j1:=HJ.o _ F.o.bel;have j2:=HJ.o _ av.o.bel;go_simp
    go_still_tail 10,(by kernel_rfl)
    change wpList _ _ _ _ _ w3.drew
    clear c3 j2 av;generalize w3.drew=w4 at*
    go_wp2_with(refine Ez xS rfl _ _ _ rfl rfl F.o.mV rfl cs.o rfl ?_;intro w5 bL bS bJ J K R;have aj:=Z (F.o.putV (S:=jI (vs.take (k+1)) (ts.take (k+1))) (by rw[cD.o];exact bL) bS bJ J K R);clear bL bS bJ J K R)
    go_roundw
    case rel=>first|exact⟨k+1,by omega,by go_num,aj⟩|((repeat apply Exists.intro);exact⟨⟨k+1,by omega,by go_num,aj⟩,rfl⟩)
    case measure=>simp[intOf];omega
  obtain rfl:k=m:=by omega
  have J:vs.take k=vs:=by rw[<-U.o,AD]
  have K:ts.take k=ts:=by rw[<-ak.o,AD]
  rw[J,K] at H;clear J K;have af:=Z H.o;clear H bw bt ap bu br;have ht1:(0:Int)<=t:=by omega
  go_upto_region 22 with(refine nt Tryz.elemB false rfl rfl _ _ rfl wr.heap.size (t+1) _ rfl rfl (by omega) (by omega) wr.heap.size rfl (A8 _) ?_;intro wO a3 aM)
  have cx:=Z (af.o.keep aM);obtain⟨o1,o2,bH⟩:=a3.put1 rfl Bf (x:=true) (u:=.bool true) rfl t;have bG:=kY a3 (t:=t) (by rw[Bf];omega);have bi:=Z o1;have hbel:=af.o.bel.size;have hord:=af.o.ord;have bQ:=af.o.rp.lt;have bA:jh w (wO.setCell ⟨wr.heap.size,t,none⟩ (.bool true)) gb p9 sm bm vm rb (lf vs) [] (jI vs ts):=af.o.keep ((aM.setCell (p:=⟨wr.heap.size,t,none⟩) (A8 _) _));have aI:=Z bA;have HG:=Z o2;have hti2:(t:Int)<((t+1:Nat):Int):=by omega
  go_simp
  go_upto_region 23 with fail
  generalize hnb:wr.heap.size=P at*;have aG:=bi;clear aM a3 cx af bA bG bH o1 o2 HG bi;generalize wO.setCell ⟨P,t,none⟩ (.bool true)=w2 at*
  go_upto_region 24 with(refine nt Tryz.elemN (0,0,(none,0,0)) rfl rfl _ _ rfl w2.heap.size (t+1) _ rfl rfl (by omega) (by omega) w2.heap.size rfl (A8 _) ?_;intro wN aZ aL)
  have bs:=Z (aI.o.keep aL);have bN:=(aG.o.lt P rfl).2;have bl:=Z (aG.o.grown aL);have cM:=aI.o.bel.size;have cS:=(aZ.lt w2.heap.size rfl).2;have hrb:rb<P:=by rw[<-hnb] at*;exact bQ
  have M:Hid (jV wN L t P w2.heap.size w2.heap.size (t+1) (t+1) ((List.replicate (t+1) false).set t true) (List.replicate (t+1) (0,0,(none,0,0)))):=Z (jV.start (by simp) (by simp) bl.o aZ (by omega)
   (kZ _ _ _ _ (by simp)) (λ j hj=>by
     by_cases e:t=j
     ·exact e.symm
     rw[mC _ _ _ _ _ e] at hj;rw[Aa,List.getElem?_replicate] at hj
     split at hj<;>cases hj))
  have hgnb:P<w2.heap.size:=bN;clear aZ bl aG aL aI hnb cS cM bN;generalize w2.heap.size=g at*
  go_wp2_with fail
  go_loopw [16] (λ i wi=>∃(x:Int) (q:Nat) (N:List Bool) (NH:List NdH),i= .int .i64 x/\Hid (x=(q:Int)-1)/\q<=t+1/\Hid (jV wi L t P g g (t+1) q N NH)/\Hid (jh w wi gb p9 sm bm vm rb (lf vs) [] (jI vs ts))) (λ i _=>(intOf i+1).toNat)
  case atStart=>exact⟨_,t+1,_,_,rfl,Z (by omega),A8 _,M,bs⟩
  case round=>
   clear M bs;obtain⟨x,q,N,NH,rfl,hx,hqn,X,H⟩:=hrel;have bp:=Z (au.o.below H.o.bel);cases q with
   |zero=>
    obtain rfl:x= -1:=by have:=hx.o;omega
    clear hx;have aX:=X.o;have ah:=H.o;have ae:Hid (sd w wr A gb mb bm (.slice na L.length am)):=Z ⟨λ b m=>(HP.o.lo b m).2,λ b a=>(HP.o.ar b a).2.1,by omega,ah.mB.lt⟩;have ba:=Z (jJ.start (w:=w) (HP.o.below ah.bel) ah.mB);have aq:Hid (∀j,N.getD j false=occ j):=Z λ j=>by
     have h1:=aX.occ j;have h2:=bj.o j;cases h3:N.getD j false with
     |true=>exact(h2.2 (h1.1 h3)).symm
     |false=>
      cases h4:occ j with
      |false=>rfl
      |true=>rw[h1.2 (h2.1 h4)] at h3;cases h3
    have M:=Z aX;have F:=Z ah;have a9:=Z ah.bel;clear X H aX ah bp;generalize wr=w4 at*;have aQ:=(M.o.nds.lt g rfl).2;have cT:=(M.o.own.lt P rfl).2
    go_wp2_with fail
    go_loopw [125] (λ i wi=>∃(k:Nat) (an:Value) (A':Nat->Prop),k<=t+1/\i= .int .i64 k/\Hid (jJ w w4 wi B A gb mb bm (.slice na L.length am) an A' W (fO W σ L occ L k).2 (jg occ (fO W σ L occ L k).1 k))) (λ i _=>t+1-(intOf i).toNat)
    case atStart=>exact⟨0,_,_,by omega,rfl,ba⟩
    case round=>
     clear ba;obtain⟨j,an,A',hj,rfl,G⟩:=hrel;have O:Hid (∀b,w.heap.size<=b->b<w4.heap.size->b≠bm->wr.heap[b]? =w4.heap[b]?):=Z λ b h1 h2 h3=>G.o.same ae.o h1 h2 h3
     by_cases hjt:j<t+1
     ·have cb:=kY M.o.own (t:=j) (by rw[M.o.len];exact hjt);rw[aq.o] at cb;have aw:=(Ai (a:=⟨P,j,none⟩) (O.o P (by omega) cT (by omega))).trans cb;obtain⟨c0,c1,c2⟩:=uf M.o.nds (t:=j) (by rw[M.o.hlen];exact hjt);have cG:=(Ai (a:=⟨g,j*3,none⟩) (O.o g (by omega) aQ (by omega))).trans c0;have cH:=(Ai (a:=⟨g,j*3+1,none⟩) (O.o g (by omega) aQ (by omega))).trans c1;have cI:=(Ai (a:=⟨g,j*3+2,none⟩) (O.o g (by omega) aQ (by omega))).trans c2;have cR:(j:Int)<((t+1:Nat):Int):=by omega
      have a8:Hid (jg occ (fO W σ L occ L (j+1)).1 j=jg occ (fO W σ L occ L j).1 j):=Z (EE j λ i hi=>On j i hi);clear c0 c1 c2 cb;have aW:=M.o.heads j (Nat.zero_le _) hjt;generalize NH.getD j nd0=nh at*;obtain⟨D,C,z,al,hc⟩:=nh;simp only at cG cH cI;have bz:=oE aw (.cells #[.int .u8 D,.int .u64 C,.slice z al hc] 148);cases ho:occ j with
      |false=>
       rw[ho] at aw bz;have cm:=Z (Oq (W:=W) (σ:=σ) (N:=L) (L:=L) ho);have ao:Hid (jg occ (fO W σ L occ L (j+1)).1 (j+1)=jg occ (fO W σ L occ L j).1 j):=Z (by
        show(if occ j then _ else jg occ (fO W σ L occ L (j+1)).1 j)=_;rw[if_neg (by rw[ho];decide),a8.o])
       have bb:=Z (G.o.keep ((A6 _ _).alloc (A8 _) (.cells #[.int .u8 D,.int .u64 C,.slice z al hc] 148)));clear aW ho
       go_upto_region 37 with fail
       generalize wr.alloc (.cells #[.int .u8 D,.int .u64 C,.slice z al hc] 148)=wA at*
       go_wp2_with fail
       go_roundw
       case rel=>exact⟨j+1,an,A',by omega,by go_num,Z (by rw[cm.o,ao.o];exact bb.o)⟩
       case measure=>simp[intOf];omega
      |true=>
       rw[ho] at aw bz;obtain⟨J,K,R,ax,aO⟩:=aW (by rw[aq.o];exact ho);have cQ:j<L.length:=by omega
       have ai:=Z (au.o.ok j cQ);have aE:=Z (M.o.closed j (Nat.zero_le _) hjt (by rw[aq.o];exact ho));have aK:=Z (Oo (W:=W) (σ:=σ) (N:=L) (L:=L) ho);have ao:Hid (jg occ (fO W σ L occ L (j+1)).1 (j+1)=jg occ (fO W σ L occ L j).1 j++[((j:Int),.int .i64 ((jU W σ (fO W σ L occ L j).1 j (L.getD j default) (fO W σ L occ L j).2).1:Nat))]):=Z (by
        show(if occ j then _ else _)=_;rw[if_pos ho,a8.o,aK.o.1])
       have aH:=Z (cu.o j (by omega) ho);clear aW;rcases hn:L.getD j default with⟨op,num,args⟩
       rw[hn] at J K R ax ai aE aK ao aH;simp only at J K R ax aO aE aH;subst J K R;clear hn ho;have cq:=Z G.o.pg;have hxbm:bm<wr.heap.size:=G.o.map.lt;have aN:Below wr.heap.size wr (wr.alloc (.cells #[.int .u8 D,.int .u64 C,.slice z args.length hc] 148)):=(A6 _ _).alloc (A8 _) _;have bb:=Z (G.o.keep aN);have bB:jJ w w4 (wr.alloc (.cells #[.int .u8 D,.int .u64 C,.slice z args.length hc] 148)).drew B A gb mb bm (.slice na L.length am) an A' W (fO W σ L occ L j).2 (jg occ (fO W σ L occ L j).1 j):=G.o.keep aN.drew;have aa:=Z bB;clear bB aN;have az:∀i v,[Value.pointer (some ⟨gb,0,none⟩),.map (some bm),.map (some vm)][i]? =some v->(wr.alloc (.cells #[.int .u8 D,.int .u64 C,.slice z args.length hc] 148)).cell? ⟨rb,i,none⟩=some v:=λ i v e=>oE ((Ai (a:=⟨rb,i,none⟩) (O.o rb (by omega) F.o.rp.lt (by omega))).trans (F.o.rp.at_ i v e).1) _
       have p0:=az 0 _ rfl;have p1:=az 1 _ rfl;have p2:=az 2 _ rfl;have cC:Hid (gu .u64 (wr.alloc (.cells #[.int .u8 D,.int .u64 C,.slice z args.length hc] 148)) vm (jI vs ts)):=Z (oJ (F.o.mV.frame (O.o vm (by omega) F.o.mV.lt (by omega))) _);have b7:Hid ((Lay.int .i64).At 0 (wr.alloc (.cells #[.int .u8 D,.int .u64 C,.slice z args.length hc] 148)) z (fE args)):=Z
        ((At.keep ax G.o.fr.2.2.2 (λ ad e hl=>O.o _ (by have:=aO ad e;omega) hl (by have:=aO ad e;omega))).below ((A6 _ _).alloc (A8 _) _))
       have ck:=Z (G.o.not ae.o (b:=bm) (by omega) ae.o.b2);have bo:Hid (rb<(wr.alloc (.cells #[.int .u8 D,.int .u64 C,.slice z args.length hc] 148)).heap.size):=Z (Au _ _ p0);have bh:=Z (G.o.not ae.o (b:=rb) (by omega) F.o.rp.lt);have cO:wr.heap.size<(wr.alloc (.cells #[.int .u8 D,.int .u64 C,.slice z args.length hc] 148)).heap.size:=by simp
       have q0:(wr.alloc (.cells #[.int .u8 D,.int .u64 C,.slice z args.length hc] 148)).cell? ⟨wr.heap.size,0,none⟩=some (.int .u8 D):=by rw[Ah];rfl
       have q1:(wr.alloc (.cells #[.int .u8 D,.int .u64 C,.slice z args.length hc] 148)).cell? ⟨wr.heap.size,1,none⟩=some (.int .u64 C):=by rw[Ah];rfl
       have q2:(wr.alloc (.cells #[.int .u8 D,.int .u64 C,.slice z args.length hc] 148)).cell? ⟨wr.heap.size,2,none⟩=some (.slice z args.length hc):=by rw[Ah];rfl
       clear ax az G aw
       go_upto_region 37 with fail
       generalize wr.alloc (.cells #[.int .u8 D,.int .u64 C,.slice z args.length hc] 148)=wA at*;have bk:Hid (∀a∈args,occ a=true):=Z λ a z=>by rw[<-aq.o];exact aE.o a z
       have ap:=Z (Oi (w:=wA.drew) aa.o.pg (by have:=aa.o.fr.2.2.2;have:=a9.o.size;show B<=wA.heap.size;exact Ag hB (Ag (by assumption) (by assumption))) (cr.o j (by omega)) h1 h2 bo.o bh.o p0 p1 p2 aa.o.map (cC.o.frame rfl) j ⟨D,C,args⟩ ai.o.1 ai.o.2.2.2.2.1 (hc:=hc) (b7.o.below (A6 _ _).drew) (fO W σ L occ L j).1
        (λ a z=>⟨by rw[un,if_pos ⟨ai.o.2.2.2.2.2.2 a z,bk.o a z⟩],b8.o j (by omega) a (ai.o.2.2.2.2.2.2 a z) (bk.o a z)⟩) σ aH.o)
       have cl:Hid (lkS (jg occ (fO W σ L occ L j).1 j) (j:Int)=none):=Z (by rw[un,if_neg (by omega)])
       go_upto_region 38 with fail
       have b3:wA.drew.cell? ⟨rb,1,none⟩=some (.map (some bm)):=p1;have b4:wA.drew.cell? ⟨wr.heap.size,0,none⟩=some (.int .u8 D):=q0;have b5:wA.drew.cell? ⟨wr.heap.size,1,none⟩=some (.int .u64 C):=q1;have b6:wA.drew.cell? ⟨wr.heap.size,2,none⟩=some (.slice z args.length hc):=q2;have cF:=Z cO;have cn:Hid (¬fG gb (some mb) an wr.heap.size):=Z λ m=>by have:=(cq.o.lo _ m).2;omega
       generalize hxb:wr.heap.size=I at*;have cX:bm≠rb:=by omega
       have a7:bm≠I:=by omega
       go_region_held3(λ w'=>w'.cell? ⟨rb,1,none⟩=some (.map (some bm))/\w'.cell? ⟨I,0,none⟩=some (.int .u8 D)/\w'.cell? ⟨I,1,none⟩=some (.int .u64 C)/\w'.cell? ⟨I,2,none⟩=some (.slice z args.length hc))
        (first|exact⟨p1,q0,q1,q2⟩|exact⟨b3,b4,b5,b6⟩|exact KE.o|exact KF.o)
        (first
          |(go_at_call 101
            refine ap.o.mono ?_;rintro e E ⟨cY,A2,rfl,r1,r2,r3,r4⟩;have H1:=Z r1;have H2:=Z r2;have H3:=Z r3;have H4:=Z r4;have kr:=r3.block rb bo.o bh.o;have kx:=r3.block I cF.o cn.o;have KE:Hid (E.cell? ⟨rb,1,none⟩=some (.map (some bm))/\E.cell? ⟨I,0,none⟩=some (.int .u8 D)/\E.cell? ⟨I,1,none⟩=some (.int .u64 C)/\E.cell? ⟨I,2,none⟩=some (.slice z args.length hc)):=Z
             ⟨(Ai (a:=⟨rb,1,none⟩) kr).trans b3,(Ai (a:=⟨I,0,none⟩) kx).trans b4,(Ai (a:=⟨I,1,none⟩) kx).trans b5,(Ai (a:=⟨I,2,none⟩) kx).trans b6⟩
            have bM:gu .i64 E bm (jg occ (fO W σ L occ L j).1 j):=aa.o.map.frame (r3.block bm aa.o.map.lt ck.o);obtain⟨ob,hup,hS⟩:=bM.update xR cl.o (.int .i64 ((jU W σ (fO W σ L occ L j).1 j ⟨D,C,args⟩ (fO W σ L occ L j).2).1:Nat));have cB:=Z hS;have KF:Hid (({E with heap:=E.heap.setIfInBounds bm ob}:World).cell? ⟨rb,1,none⟩=some (.map (some bm))/\({E with heap:=E.heap.setIfInBounds bm ob}:World).cell? ⟨I,0,none⟩=some (.int .u8 D)/\({E with heap:=E.heap.setIfInBounds bm ob}:World).cell? ⟨I,1,none⟩=some (.int .u64 C)/\({E with heap:=E.heap.setIfInBounds bm ob}:World).cell? ⟨I,2,none⟩=some (.slice z args.length hc)):=Z
             ⟨(Ai (w:=E) (a:=⟨rb,1,none⟩) (AZ cX)).trans KE.o.1,(Ai (w:=E) (a:=⟨I,0,none⟩) (AZ a7)).trans KE.o.2.1,(Ai (w:=E) (a:=⟨I,1,none⟩) (AZ a7)).trans KE.o.2.2.1,(Ai (w:=E) (a:=⟨I,2,none⟩) (AZ a7)).trans KE.o.2.2.2⟩
            clear r1 r2 r3 r4 kr kx bM hS))
       have cz:=Z (aa.o.step ae.o H1.o H2.o H3.o H4.o (w'':={E with heap:=E.heap.setIfInBounds bm ob}) (cB.o _ rfl) (by simp) (λ k G=>AZ (Ne.symm G)) rfl rfl rfl)
       go_wp2_with fail
       go_roundw
       case rel=>exact⟨j+1,cY,_,by omega,by go_num,Z (by rw[aK.o.2,ao.o];exact cz.o)⟩
       case measure=>simp[intOf];omega
     obtain rfl:j=t+1:=by omega
     have cp:Hid (occ t=true):=Z ((bj.o t).2 .top);have ce:Hid (lkS (jg occ (fO W σ L occ L (t+1)).1 (t+1)) (t:Int)=some (.int .i64 ((fO W σ L occ L (t+1)).1.getD t 0:Nat))):=Z (by rw[un,if_pos ⟨by omega,cp.o⟩]);have h8:=F.o.r8.frame G.o.fr.2.2.2 (O.o _ (A8 _) F.o.r8.lt (by omega));have h9:=F.o.r9.frame G.o.fr.2.2.2 (O.o _ (by omega) F.o.r9.lt (by omega));obtain⟨a0,a1⟩:=h8.at_ 0 _ rfl;obtain⟨b0,b1⟩:=h9.at_ 0 _ rfl;have p1:=(Ai (a:=⟨rb,1,none⟩) (O.o rb (by omega) F.o.rp.lt (by omega))).trans (F.o.rp.at_ 1 _ rfl).1;have cU:¬w.heap.size=p9:=by omega
     have cV:¬p9=w.heap.size:=by omega
     have bn:=Z (G.o.post2 ae.o a9.o ((fO W σ L occ L (t+1)).1.getD t 0) (p8:=w.heap.size) (p9:=p9) ⟨A8 _,F.o.r8.lt⟩ ⟨by omega,F.o.r9.lt⟩ (.int .i64 ((fO W σ L occ L (t+1)).1.getD t 0:Nat)) (.int .i64 0));have cj:=Z G.o.map;rw[HQ.o] at bn;clear G O h8 h9;generalize(fO W σ L occ L (t+1)).1.getD t 0=rt at*
     go_wp2_with(refine xU xR rfl _ _ rfl rfl cj.o rfl ?_;rw[ce.o];simp only[Option.getD_some])
     have ra:((wr.setCell ⟨w.heap.size,0,none⟩ (.int .i64 (rt:Nat))).setCell ⟨p9,0,none⟩ (.int .i64 0)).cell? ⟨w.heap.size,0,none⟩=some (.int .i64 (rt:Nat)):=iT cU (xP a0);have cZ:((wr.setCell ⟨w.heap.size,0,none⟩ (.int .i64 (rt:Nat))).setCell ⟨p9,0,none⟩ (.int .i64 0)).cell? ⟨p9,0,none⟩=some (.int .i64 0):=xP (iT cV b0);generalize(wr.setCell ⟨w.heap.size,0,none⟩ (.int .i64 (rt:Nat))).setCell ⟨p9,0,none⟩ (.int .i64 0)=wz at*;refine leaves_cons (f:=100) (args:=#[.pointer (some ⟨w.heap.size,0,none⟩),.pointer (some ⟨p9,0,none⟩)]) (by simp) (by simp[go_sem]) ?_;refine(Oj ⟨w.heap.size,0,none⟩ ⟨p9,0,none⟩ _).mono ?_;rintro e u' w'' ⟨rfl,rfl,rfl⟩;simp[Leaves,settle,results,Tryz.results65,go_sem,ra,cZ,Result.andThen];exact bn.o
   |succ q=>
    obtain rfl:x=(q:Int):=by have:=hx.o;omega
    clear hx;have Y:q<t+1:=by omega
    have hqi:(q:Int)<((t+1:Nat):Int):=by omega
    have cb:=kY X.o.own (t:=q) (by rw[X.o.len];exact Y);cases hNt:N.getD q false with
    |false=>
     rw[hNt] at cb;have cv:=Z (X.o.skip hNt);clear hNt X
     go_wp2_with fail
     go_roundw
     case rel=>exact⟨(q:Int)-1,q,N,NH,by go_num,Z rfl,by omega,cv,H⟩
     case measure=>simp[intOf]<;>omega
    |true=>
     rw[hNt] at cb;have co:=Z hNt;have a4:q<L.length:=by omega
     have aD:Hid (∀a∈(L.getD q default).args,a<q):=Z (au.o.ok q a4).2.2.2.2.2.2;have aF:=Z (DX bp.o q a4);have aC:Hid ((L.getD q default).args.length<=2):=Z (by have:=au.o.ok q a4;have h5:=this.2.2.2.2.1;have h6:=this.1;rw[h5];simp only[arN];(repeat' split)<;>omega);have ca:=Z (X.o.nds.lt g rfl).2;clear hNt;rcases hn:L.getD q default with⟨op,num,args⟩
     rw[hn] at aF aD aC;simp only at aF aD aC;have hal2:=aC.o;have HN:=Z hn;clear hn
     go_wp2_with(first
      |(go_at_call 71
        refine aF.o.mono ?_;rintro e wB ⟨z,hc,rfl,bD,bE,hB⟩;have HX:Hid (ly wB g (op,num,(z,args.length,hc)) (L.getD q default)):=Z (by rw[HN.o];exact⟨rfl,rfl,rfl,bD,λ ad e=>A9 ca.o (bE ad e)⟩);have ab:=Z (X.o.below hB);have cw:=Z (H.o.keep hB);clear bD bE hB)
      |(refine D4 rfl _ _ rfl ab.o.nds ab.o.hlen (op,num,(z,args.length,hc)) q Y _ rfl rfl rfl ?_
        intro w5 aY aR;have cA:w5.cell? ⟨g,q*3+2,none⟩=some (.slice z args.length hc):=by
         have:=(uf aY (t:=q) (by rw[List.length_set,ab.o.hlen];exact Y)).2.2;rw[kZ _ _ _ _ (by rw[ab.o.hlen];exact Y)] at this;exact this
        have bg:=Z (ab.o.copy Y co.o HX.o aY aR);have cc:Hid ((NH.set q (op,num,(z,args.length,hc))).getD q nd0=(op,num,(z,args.length,hc))):=Z (kZ _ _ _ _ (by rw[ab.o.hlen];exact Y));have aj:=Z (cw.o.grown aR (by omega));clear aY aR))
     generalize NH.set q (op,num,(z,args.length,hc))=bx at*
     go_loopw [115] (λ i wj=>∃(j:Nat) (N2:List Bool),j<=args.length/\i= .int .i64 j/\Hid (oI wj L t P g g (t+1) q j N2 bx)/\Hid (jh w wj gb p9 sm bm vm rb (lf vs) [] (jI vs ts))) (λ i _=>args.length-(intOf i).toNat)
     case atStart=>exact⟨0,N,by omega,rfl,bg,aj⟩
     case round=>
      clear bg aj;obtain⟨j,N2,hj,rfl,V,bT⟩:=hrel;by_cases hja:j<args.length
      ·have aS:=(V.o.heads q (A8 _) Y V.o.here).2.2.2.1;rw[cc.o,HN.o] at aS;obtain⟨ib,io,rfl,aU,i0⟩:=aS.int (i:=j) (by rw[fK];exact hja);rw[ij] at i0;have cW:=aD.o (args.getD j 0) (by rw[Aa,Ab hja];exact AI hja);have cE:Hid ((L.getD q default).args.getD j 0=args.getD j 0):=Z (by rw[HN.o]);have cd:Hid (j<(L.getD q default).args.length):=Z (by rw[HN.o];exact hja);clear aS;generalize args.getD j 0=y at*;obtain⟨o1,o2,bH⟩:=V.o.own.put1 rfl V.o.len (x:=true) (u:=.bool true) rfl y;have hcl2:=kY V.o.own (t:=y) (by rw[V.o.len];omega);have ci:=Z (V.o.mark Y cE.o cW cd.o o1 o2);have ct:=Z (bT.o.grown o2 bQ);have cR:(j:Int)<args.length:=by omega
       have hyi:(y:Int)<((t+1:Nat):Int):=by omega
       clear o1 o2
       go_wp2_with fail
       go_roundw
       case rel=>exact⟨j+1,N2.set y true,by omega,by go_num,ci,ct⟩
       case measure=>simp[intOf];omega
      obtain rfl:j=args.length:=by omega
      have HD:=V.o;rw[show args.length=(L.getD q default).args.length by rw[HN.o]] at HD;have b9:=Z HD.done;clear HD
      go_wp2_with fail
      go_roundw
      case rel=>exact⟨(q:Int)-1,q,N2,bx,by go_num,Z rfl,by omega,b9,bT⟩
      case measure=>simp[intOf]<;>omega
end
