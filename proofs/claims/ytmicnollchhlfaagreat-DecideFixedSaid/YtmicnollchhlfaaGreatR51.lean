/- Arguments opened: what the law is asked, and six values. -/
import Derived.Test.YtmicnollchhlfaaGreatR50
set_option linter.all false
namespace Go.Proofs.YtmicnollchhlfaaGreat
open Go Go.RowKit
structure LwI (w wr:World) (B g mb W:Nat) (L0:List Nd) (vals:List Nat) (t k:Nat) (L:List Nd) (ts:List Nat) (off:Nat->Prop) (lv:Value):Prop where
 gs:GS wr B g mb W L off
 own:(Lay.int .i64).Own 3 wr B lv (cT ts)
 ofs:∀j,lv.ownBlock=some j->off j
 fx:FxI W vals L0 L t k ts
 ll:L.length<=20+3*k
 bel:Below B w wr
section
variable {w w':World} {B g mb W:Nat} {L0 L:List Nd} {vals ts:List Nat} {t k:Nat} {off:Nat->Prop} {lv:Value}
structure RdI (w w3:World) (B g mb W:Nat) (L0:List Nd) (vals:List Nat) (t k:Nat) (L:List Nd) (ts:List Nat) (off:Nat->Prop) (lv:Value) (q:Nat):Prop where
 gs:GS w3 B g mb W L off
 own:(Lay.int .i64).Own 3 w3 B lv (cT ts)
 ofs:∀j,lv.ownBlock=some j->off j
 fx:FxI W vals L0 L t (k+1) (ts++[q])
 ll:L.length<=20+3*(k+1)
 bel:Below B w w3
theorem RdI.app{a d q c}(h:RdI w a B g mb W L0 vals t k L ts off lv q)(l:(Lay.int .i64).Own 3 d B c (cT ts++[(q:Int)]))(q5:(a.alloc (.cells #[.int .i64 q] 3)).grownBy d lv.ownBlock)(n:c.ownBlock=lv.ownBlock\/c.ownBlock=some (a.alloc (.cells #[.int .i64 q] 3)).heap.size):∃off',LwI w d B g mb W L0 vals t (k+1) L (ts++[q]) off' c:=by have f:Below a.heap.size a (a.alloc (.cells #[.int .i64 q] 3)):=cU (A4 _ _) _;have r:=h.gs.base;refine⟨_,(h.gs.below f).grow q5 λj e=>.inl (h.ofs j e),by simpa[cT] using l,λj e=> ?_,h.fx,h.ll,h.bel.trans ((f.mono r).trans ((A4 _ _).grown q5 (by simp;omega) λj e=>(h.own.lt j e).1))⟩;rcases n with e2|e2;{exact .inl (.inl (h.ofs j (by rw[<-e2];exact e)))};rw[e2] at e;injection e with e;exact .inr ⟨by omega,by rw[<-e];exact(l.lt _ e2).2⟩
set_option maxRecDepth 100000 in
set_option maxHeartbeats 8000000 in
theorem NK(aV:∀w,Calls Tryz.prog 7 #[] w λe w'=>e= .returned (.bool true)/\Below w.heap.size w w'){n tt m c la hs}(h:jt w la hs)(hm:hs.length=m)(bd:m<=c){V Y v2 v3 v4 D:Nat}(aM:∀v∈[V,Y,v2,v3,v4,D],v<18446744073709551616):
  Calls Tryz.prog 4 #[.int .i64 n,.slice la m c,.int .i64 tt,.agg #[.int .u64 V,.int .u64 Y,.int .u64 v2,.int .u64 v3,.int .u64 v4,.int .u64 D]] w λe w'=>e= .returned (.bool true)/\Below w.heap.size w w':=by
 obtain⟨W,hW⟩:∃W:Nat,(W:Int)=n%4+1:=⟨(n%4+1).toNat,by omega⟩
 have T:1<=W/\W<=4:=by omega
 have aJ:Below w.heap.size w (w.alloc (.cells #[.int .u64 V,.int .u64 Y,.int .u64 v2,.int .u64 v3,.int .u64 v4,.int .u64 D] 42)):=cU (A4 _ _) _;have aI:(Lay.int .u64).At 0 (w.alloc (.cells #[.int .u64 V,.int .u64 Y,.int .u64 v2,.int .u64 v3,.int .u64 v4,.int .u64 D] 42)) (some ⟨w.heap.size,0,none⟩) (cT [V,Y,v2,v3,v4,D]):=Lay.At.made w (cT [V,Y,v2,v3,v4,D]) 42;obtain⟨vals,aP⟩:∃vals,vals=[V,Y,v2,v3,v4,D]:=⟨_,rfl⟩
 rw[<-aP] at aI aM;have S:Hid (vals.length=6):=Z (by rw[aP];rfl);have aC:=Z aM;have HS:=Z (Kp (c:=c) (h.below aJ) hm bd hW);have aw:=Z aI;have ah:=Z aJ;have ax:=Z aV;have hbz:Hid ((w.alloc (.cells #[.int .u64 V,.int .u64 Y,.int .u64 v2,.int .u64 v3,.int .u64 v4,.int .u64 D] 42)).heap.size=w.heap.size+1):=Z (by simp);clear h hm bd hW aJ aI aM aV aP;go_enter Tryz.func4,Tryz.ntmps4
 go_upto_region 1 with fail
 generalize w.alloc (.cells #[.int .u64 V,.int .u64 Y,.int .u64 v2,.int .u64 v3,.int .u64 v4,.int .u64 D] 42)=w1 at*
 go_upto_region 4 with(first
  |(go_at_call 12
    refine HS.o.mono ?_;rintro e w2 ⟨g,mb,L,rfl,aK,aL,ba⟩;have aZ:=Z aK;have am:=Z ba;obtain⟨P,ad⟩:∃P,P=L.length:=⟨_,rfl⟩
    have aE:=mf aK;rw[<-ad] at aE aL;have av:=Z aE;have ai:=Z ad;clear aE ad aK ba)
  |fail)
 have aF:Hid (w1.heap.size<=w2.heap.size):=Z am.o.size;have aW:Hid (Below w.heap.size w w2):=Z (ah.o.trans (am.o.mono ah.o.size));rcases Nat.eq_zero_or_pos P with hl0|hl0
 ·subst hl0
  go_wp2_with(first
   |(go_at_call 13
     refine av.o.mono ?_;rintro e F ⟨rfl,rfl⟩)
   |(go_at_call 7
     refine(ax.o _).mono ?_;rintro e F ⟨rfl,U⟩;have ay:=Z U;clear U)
   |fail)
  go_ret
  exact⟨rfl,aW.o.trans (ay.o.mono aW.o.size)⟩
 have dl:((P:Int)==0)=false:=by rw[beq_eq_false_iff_ne];omega
 have R:=Z (nF w2 tt P hl0 (by omega));obtain⟨tk,bf⟩:∃tk:Nat,tt%(P:Int)=tk:=⟨(tt%(P:Int)).toNat,by have:=Int.emod_nonneg tt (show(P:Int)≠0 by omega);omega⟩
 have aN:tk<P:=by have:=Int.emod_lt_of_pos tt (show(0:Int)<P by omega);omega
 rw[bf] at R;have HE:=Z (Kq (b:=some ⟨w.heap.size,0,none⟩) (l:=6) (d:=6) aZ.o.rv T.1 (by omega) tk (by rw[<-ai.o];exact aN) (by rw[<-ai.o];omega) vals S.o (by decide) (aw.o.below am.o) aC.o);obtain⟨Q,aR⟩:∃Q,Q=vlN W vals L tk:=⟨_,rfl⟩
 rw[<-aR] at HE;have a7:=Z aR;clear bf aR
 go_upto_region 9 with(first
  |(go_at_call 13
    refine av.o.mono ?_;rintro e F ⟨rfl,rfl⟩)
  |(go_at_call 9
    refine R.o.mono ?_;rintro e F ⟨rfl,rfl⟩)
  |(go_at_call 14
    refine HE.o.mono ?_;rintro e F ⟨rfl,U⟩;have ay:=Z U;have a0:Hid (∃off,LwI w1 (F.alloc (.cells #[.int .i64 tk] 3)) w1.heap.size g mb W L vals tk 0 L [tk] off (.slice (some ⟨F.heap.size,0,none⟩) 1 1)):=by
     have bb:Below F.heap.size F (F.alloc (.cells #[.int .i64 tk] 3)):=cU (A4 _ _) _;refine Z ⟨_,(aZ.o.keep U).below bb,Lay.Own.made_at (L:=Lay.int .i64) (e:=3) (base:=w1.heap.size) F [(tk:Int)] (g:=F.heap.size) (m:=1) rfl rfl (A9 aF.o U.size) (by simp),λj e=>.inr ⟨?_,?_⟩,FxI.start (by rw[<-ai.o];exact aN),by rw[<-ai.o];omega,am.o.trans ((U.mono aF.o).trans (bb.mono (A9 aF.o U.size)))⟩
     ·have:=fe e;omega
     have:=fe e;simp;omega
    clear U)
  |fail)
 generalize F.alloc (.cells #[.int .i64 tk] 3)=w4 at*;obtain⟨bA,bc⟩:=a0.o;have a4:=Z bc;clear a0 bc R av HE HS
 go_wp2_with fail
 go_loopw [13,14] (λlv iv wr=>∃(k:Nat) (L':List Nd) (ts:List Nat) (off:Nat->Prop),iv= .int .i64 k/\k<=6/\Hid (LwI w1 wr w1.heap.size g mb W L vals tk k L' ts off lv)) (λ _ iv _=>6-(intOf iv).toNat)
 case atStart=>exact⟨0,L,[tk],bA,rfl,by omega,a4⟩
 case round=>
  clear a4 ay;obtain⟨k,L1,ts,off,rfl,hk,f⟩:=hrel;generalize wr=wo at*;by_cases z:k<6
  ·have hki:(k:Int)<6:=by omega
   obtain⟨v,hv⟩:∃v,v=dO ⟨1,k,[]⟩ L1:=⟨_,rfl⟩
   obtain⟨O,h2⟩:∃O,O=dW ⟨1,k,[]⟩ L1:=⟨_,rfl⟩
   obtain⟨A,ar⟩:∃A,A=dO ⟨0,vals.getD k 0%2^W,[]⟩ O:=⟨_,rfl⟩
   obtain⟨G,h3⟩:∃G,G=dW ⟨0,vals.getD k 0%2^W,[]⟩ O:=⟨_,rfl⟩
   obtain⟨q,hq⟩:∃q,q=dO ⟨15,0,[v,A]⟩ G:=⟨_,rfl⟩
   obtain⟨L4,h4⟩:∃L4,L4=dW ⟨15,0,[v,A]⟩ G:=⟨_,rfl⟩
   have aY:=Z (f.o.fx.next h2 hv h3 ar h4 hq);have l1:=f.o.ll;have l2:O.length<=L1.length+1:=by rw[h2];exact tq _ _
   have l3:G.length<=O.length+1:=by rw[h3];exact tq _ _
   have l4:L4.length<=G.length+1:=by rw[h4];exact tq _ _
   have aO:v<G.length/\A<G.length:=by
    obtain⟨E,e⟩:=te ⟨0,vals.getD k 0%2^W,[]⟩ O;have a1:v<O.length:=by rw[hv,h2];exact qS _ _
    have a2:A<G.length:=by rw[ar,h3];exact qS _ _
    rw[<-h3] at e;exact⟨by rw[e];simp;omega,a2⟩
   have a6:Hid (Calls Tryz.prog 15 #[.pointer (some ⟨g,0,none⟩),.int .i64 k] wo λe w'=>e= .returned (.tuple #[.int .i64 v,.int .i64 0])/\GS w' w1.heap.size g mb W O off/\cP w1.heap.size off wo w'):=by
    rw[hv,h2];exact Z (Bx f.o.gs (by omega) k z)
   have aX:Hid (∀w5,GS w5 w1.heap.size g mb W O off->Calls Tryz.prog 16 #[.pointer (some ⟨g,0,none⟩),.int .u64 (vals.getD k 0:Nat)] w5 λe w'=>e= .returned (.tuple #[.int .i64 A,.int .i64 0])/\GS w' w1.heap.size g mb W G off/\cP w1.heap.size off w5 w'):=by
    rw[ar,h3];exact Z λw5 g5=>Bw g5 (by omega) T.1 (by omega) _ (aC.o _ (iU 0 vals k (by rw[S.o];exact z)))
   have aU:Hid (∀N,GS N w1.heap.size g mb W G off->Calls Tryz.prog 17 #[.pointer (some ⟨g,0,none⟩),.int .u8 15,.slice (some ⟨N.heap.size,0,none⟩) 2 2] (N.alloc (.cells #[.int .i64 v,.int .i64 A] 3)) λe w'=>e= .returned (.tuple #[.int .i64 q,.int .i64 0])/\GS w' w1.heap.size g mb W L4 off/\cP w1.heap.size off (N.alloc (.cells #[.int .i64 v,.int .i64 A] 3)) w'):=by
    rw[hq,h4];exact Z λN g6=>By (g6.keep (cU (A4 _ _) _)) (by omega) 15 (by decide) (by decide) [v,A] rfl (λa ha=>by
     simp only[List.mem_cons,List.mem_nil_iff,or_false] at ha;rcases ha with rfl|rfl
     ·exact aO.1
     exact aO.2) rfl (Lay.At.made N [(v:Int),(A:Int)] 3) (λe=>by cases e)
   have a3:Hid (L4.length<=20+3*(k+1)):=Z (by omega);have HX:Hid (∀W',Below w1.heap.size w1 W'->W'.cell? ⟨w.heap.size,k,none⟩=some (.int .u64 (vals.getD k 0:Nat))):=Z λW' hb=>by
    obtain⟨b,o,e,_,hc⟩:=(aw.o.below hb).int (i:=k) (by rw[ed,S.o];exact z);have e2:(cT vals).getD k 0=((vals.getD k 0:Nat):Int):=by simp[cT,List.getD_eq_getElem?_getD,S.o,z]
    rw[e2] at hc;injection e with e;injection e with e51 e52;subst e51;subst e52;rw[Ap] at hc;exact hc
   clear hv h2 ar h3 hq h4 l1 l2 l3 l4 aO;generalize vals.getD k 0=x at*
   go_upto_region 17 with(first
    |(go_at_call 15
      refine a6.o.mono ?_;rintro e w5 ⟨rfl,g5,k5⟩;have x5:=HX.o w5 (f.o.bel.trans k5.below);have aS:=Z (aX.o w5 g5);have K5:=Z k5;clear g5 k5)
    |(go_at_call 16
      refine aS.o.mono ?_;rintro e N ⟨rfl,g6,k6⟩;have aT:=Z (aU.o N g6);have G6:=Z g6;have K6:=Z (K5.o.trans k6 λ _ h=>h);clear g6 k6)
    |(go_at_call 17
      refine aT.o.mono ?_;rintro e w7 ⟨rfl,g7,k7⟩;have HR:Hid (RdI w1 w7 w1.heap.size g mb W L vals tk k L4 ts off u13 q):=by
       have bu:Below N.heap.size N (N.alloc (.cells #[.int .i64 v,.int .i64 A] 3)):=cU (A4 _ _) _;have kk:=(K6.o.trans (cP.of_below bu (λj hj=>G6.o.lt hj) G6.o.base) λ _ h=>h).trans k7 λ _ h=>h
       exact Z ⟨g7,dA f.o.own λj e=>kk.off j (f.o.ofs j e),f.o.ofs,aY.o,a3.o,f.o.bel.trans kk.below⟩
      clear g7 k7)
    |fail)
   clear aT aS a6 aX aU HX aY a3 K5 K6 G6
   go_wp2_with(first
    |(at_builtin;suffices hzz:id (wpList _ _ _ _ _ _) from hzz)
    |fail)
   show wpList _ _ _ _ _ _;have ab:Below w7.heap.size w7 (w7.alloc (.cells #[.int .i64 q] 3)):=cU (A4 _ _) _;refine gW (base:=w1.heap.size) (d:=0) (qs:=[(q:Int)]) Tryz.elemI rfl _ _ rfl rfl (dA HR.o.own λj e=>ab.block j (HR.o.own.lt j e).2) rfl (λh=>by cases h) rfl (fV (L:=Lay.int .i64) w7 (q:Int) 3) (by have:=HR.o.fx.len;simp[cT] at this⊢;omega) (by have:=HR.o.gs.base;simp;omega) ?_;intro D bB o5 q5 a5;replace a5:D.ownBlock=u13.ownBlock\/D.ownBlock=some (w7.alloc (.cells #[.int .i64 q] 3)).heap.size:=a5;replace q5:(w7.alloc (.cells #[.int .i64 q] 3)).grownBy bB u13.ownBlock:=q5;obtain⟨off5,h5⟩:=HR.o.app o5 q5 a5;have H5:=Z h5;clear h5 o5 q5 a5 ab
   go_wp2_with fail
   go_roundw
   case rel=>exact⟨k+1,_,_,_,by go_num,by omega,H5⟩
   case measure=>simp[intOf];omega
  obtain rfl:k=6:=by omega
  have aL:=f.o.ll;have ac:=f.o.fx;have af:=f.o.gs.rv;obtain⟨va,vc,rfl,aQ,_,_⟩:=f.o.own.at_ (d:=0);have ad:(cT ts).length=7:=by rw[ed];exact ac.len
  rw[ad];have bg:Hid (tk<L.length):=Z (by rw[<-ai.o];exact aN);have aA:=Z (NJ (tc:=vc) af T.1 T.2 f.o.gs.nd (by omega) ts ac.lt ac.len (by decide) (ac.det af.ok f.o.gs.nd f.o.gs.v6) f.o.gs.v6 ac.occ aQ (λe=>by obtain⟨_,_,e2,_⟩:=aQ.int (i:=0) (by rw[ad];decide);rw[e2] at e;cases e));have aB:Hid (∀r:List Nat,r.length=6->(∀x∈r,x<2^W)->(∀q∈ts,vlN W r L1 q≠0)->(∀n,n<6->r.getD n 0=vals.getD n 0%2^W)/\Q≠0):=Z λr h1 h2 h3=>by
   rw[a7.o];exact ac.sat T.1 af.ok bg.o f.o.gs.v6 h1 h2 S.o h3
  have aD:Hid ((∀σ:List Nat,¬∀q∈ts,vlN W σ L1 q≠0)->Q=0):=Z λau=>by
   rw[a7.o];exact ac.unsat T.1 af.ok bg.o f.o.gs.v6 S.o au
  have bp:=Z af;have ao:Hid (Below w.heap.size w wo/\Below w1.heap.size w1 wo/\w.heap.size<=w1.heap.size):=Z ⟨ah.o.trans (f.o.bel.mono ah.o.size),f.o.bel,ah.o.size⟩;clear ac af aQ ad aL
  go_upto_region 21 with(first
   |(go_at_call 8
     refine aA.o.mono ?_;rintro e w8 ⟨ab,bv⟩;have aa:Hid (Below wo.heap.size wo w8/\Below w.heap.size w w8/\Below w1.heap.size w1 w8):=Z ⟨ab,ao.o.1.trans (ab.mono ao.o.1.size),ao.o.2.1.trans (ab.mono ao.o.2.1.size)⟩;rcases bv with⟨v,r,rfl,ho,hl,z,a8⟩|⟨rfl,au⟩;obtain⟨xa,xc,rfl,bl,_,_⟩:=ho.at_ (d:=0);obtain⟨al,bj⟩:=aB.o r hl z a8;have bk:(cT r).length=6:=by rw[ed];exact hl
     have an:Hid (r.length=6/\(Lay.int .u64).At 0 w8 xa (cT r)/\∀n,n<6->r.getD n 0=vals.getD n 0%2^W):=Z ⟨hl,bl,al⟩;rw[bk];have dw:((Q:Int)==0)=false:=by rw[beq_eq_false_iff_ne];omega
     have bs:((Q:Int) !=0)=true:=by show(!((Q:Int)==0))=true;rw[dw];rfl
     clear ho hl z a8 bl al bk ab
     rotate_left
     have bj:=aD.o au;have dw:((Q:Int)==0)=true:=by rw[bj];rfl
     have bs:((Q:Int) !=0)=false:=by show(!((Q:Int)==0))=false;rw[dw];rfl
     clear au ab
     rotate_left)
   |fail)
  ·clear aA aB aD;have bq:Hid (∀(j:Nat) (W':World),Below w1.heap.size w1 W'->j<6->W'.cell? ⟨w.heap.size,j,none⟩=some (.int .u64 (vals.getD j 0:Nat))):=Z λj W' hb hj=>by
    obtain⟨b,o,e,_,hc⟩:=(aw.o.below hb).int (i:=j) (by rw[ed,S.o];exact hj);have e2:(cT vals).getD j 0=((vals.getD j 0:Nat):Int):=by simp[cT,List.getD_eq_getElem?_getD,S.o,hj]
    rw[e2] at hc;injection e with e;injection e with e51 e52;subst e51;subst e52;rw[Ap] at hc;exact hc
   go_wp2_with fail
   go_loopw [24] (λiv wr=>∃j:Nat,iv= .int .i64 j/\j<=6/\Hid (Below w8.heap.size w8 wr)) (λiv _=>6-(intOf iv).toNat)
   case atStart=>exact⟨0,rfl,by omega,Z (A4 _ _)⟩
   case round=>
    obtain⟨j,rfl,hj,R⟩:=hrel;generalize wr=wi at*;have aq:Below w.heap.size w wi:=aa.o.2.1.trans (R.o.mono aa.o.2.1.size);have a9:Below w1.heap.size w1 wi:=aa.o.2.2.trans (R.o.mono aa.o.2.2.size);by_cases z:j<6
    ·have hji:(j:Int)<6:=by omega
     obtain⟨xb,xo,rfl,hxb,bm⟩:=(an.o.2.1.below R.o).int (i:=j) (by rw[ed,an.o.1];exact z);have e2:(cT r).getD j 0=((r.getD j 0:Nat):Int):=by simp[cT,List.getD_eq_getElem?_getD,an.o.1,z]
     rw[e2] at bm;have bz:=bq.o j wi a9 z;have al:=an.o.2.2 j z;have bh:=aC.o _ (iU 0 vals j (by rw[S.o];exact z));have bx:2^W<=2^4:=Nat.pow_le_pow_right (by decide) T.2;have bw:=Au W;have hba:bits .and .u64 ((vals.getD j 0:Nat):Int) ((2^W-1:Nat):Int)=((r.getD j 0:Nat):Int):=by
      rw[qR _ _ bh (by omega),Nat.and_two_pow_sub_one_eq_mod,<-al]
     have be:RV wi g W L1:=(bp.o.below (aa.o.1.trans (R.o.mono aa.o.1.size)))
     have br:=Z (pX (be.below (A4 _ _).drew));have bo:=Z λw'=>JE w' W T.1 T.2
     generalize 2^W-1=mk at*;generalize vals.getD j 0=vj at*;generalize r.getD j 0=xj at*;have hHB:=Z aq;clear aq a9 al bh bx bw be e2;have bn:Hid (Below w8.heap.size w8 wi.drew):=Z R.o.drew;have ae:wi.drew.cell? ⟨xb,xo+j,none⟩=some (.int .u64 (xj:Int))/\wi.drew.cell? ⟨w.heap.size,j,none⟩=some (.int .u64 (vj:Int)):=⟨bm,bz⟩
     go_upto_region 24 with fail
     refine gV (λw'=>w'.cell? ⟨xb,xo+j,none⟩=some (.int .u64 (xj:Int))/\w'.cell? ⟨w.heap.size,j,none⟩=some (.int .u64 (vj:Int))) (λ _=>false) (by kernel_rfl) (λJ hJ=> ?_)
     repeat(
      (first|apply tk0 0 (by rfl) (by decide+kernel)|apply tk0 1 (by rfl) (by decide+kernel)|apply tk0 2 (by rfl) (by decide+kernel)|apply tk0 3 (by rfl) (by decide+kernel)|apply tk1 4 (by rfl) (by decide+kernel) (by rfl)|apply tk1 5 (by rfl) (by decide+kernel) (by rfl)|apply tk1 6 (by rfl) (by decide+kernel) (by rfl)|apply tk3 7 (by rfl) (by decide+kernel) (by rfl) (by assumption)|apply tk1 8 (by rfl) (by decide+kernel) (by rfl)|apply tk1 9 (by rfl) (by decide+kernel) (by rfl)|apply tk3 10 (by rfl) (by decide+kernel) (by rfl) (by assumption)|apply tk1 11 (by rfl) (by decide+kernel) (by rfl))
      intro w aH
      try dsimp only at aH
      (go_simp<;>with_reducible rfl)
      try simp only[pS,pN,pA,pZ,pC])
     refine tk5 12 (by kernel_rfl) (by rfl) λK hK=> ?_
     go_simp
     go_at_call 19
     refine br.o.mono ?_;rintro e w5 ⟨rfl,rfl⟩;dsimp only;refine hK.out _ _ ?_ (λae=> ?_)
     ·intro _ aG;exact aG
     have ae:=ae rfl (by assumption);clear hK K
     try simp only[pS,pN,pA,pZ,pC]
     refine tk5 13 (by kernel_rfl) (by rfl) λK hK=> ?_
     go_simp
     go_at_call 18
     refine(bo.o _).mono ?_;rintro e w5 ⟨rfl,rfl⟩;dsimp only;refine hK.out _ _ ?_ (λae=> ?_)
     ·intro _ aG;exact aG
     have ae:=ae rfl (by assumption);clear hK K
     try simp only[pS,pN,pA,pZ,pC]
     repeat(
      (first|apply tk1 14 (by rfl) (by decide+kernel) (by rfl)|apply tk1 15 (by rfl) (by decide+kernel) (by rfl)|apply tk0 16 (by rfl) (by decide+kernel))
      intro w aH
      try dsimp only at aH
      (go_simp<;>with_reducible rfl)
      try simp only[pS,pN,pA,pZ,pC])
     refine eN (by kernel_rfl) ?_ _;refine hJ.o _ _ ?_;clear hJ J
     go_wp2_with fail
     go_roundw
     case rel=>exact⟨j+1,by go_num,by omega,bn⟩
     case measure=>simp[intOf];omega
    obtain rfl:j=6:=by omega
    go_wp2_with(first
     |(go_at_call 7
       refine(ax.o _).mono ?_;rintro e w9 ⟨rfl,aj⟩;have az:=Z aj;clear aj)
     |fail)
    go_ret
    exact⟨rfl,aq.trans (az.o.mono aq.size)⟩
  clear aA aB aD
  go_wp2_with fail
  go_loopw [24] (λiv wr=>iv= .int .i64 0/\Hid (wr=w8)) (λ _ _=>0)
  case atStart=>exact⟨rfl,Z rfl⟩
  case round=>
   obtain⟨rfl,bi⟩:=hrel;obtain rfl:=bi.o;clear bi
   go_wp2_with(first
    |(go_at_call 7
      refine(ax.o _).mono ?_;rintro e w9 ⟨rfl,aj⟩;have az:=Z aj;clear aj)
    |fail)
   go_ret
   exact⟨rfl,aa.o.2.1.trans (az.o.mono aa.o.2.1.size)⟩
end
open Go.ChangeShapes Go.WideShapes Go.ChangeAt Go.RowKit Go.Deep
set_option maxRecDepth 100000
theorem DH:laidOutB Tryz.prog=true:=by kernel_rfl
theorem DI{w:World}{a v}(h:w.cell? a=some v):a.spot=none:=by unfold World.cell? at h;split at h;{cases hs:a.spot with|none=>rfl|some x=>simp[hs] at h};cases h
theorem xO{α:Type}{R:Nat->α->Prop} d:∀n,(∀i,i<n->∃x,R i x)->∃xs:List α,xs.length=n/\∀i,i<n->R i (xs.getD i d)|0,_=>⟨[],rfl,λi hi=>by omega⟩|n+1,h=>by obtain⟨xs,hl,hx⟩:=xO d n λi hi=>h i (by omega);obtain⟨x,hr⟩:=h n (by omega);refine⟨xs++[x],by simp[hl],λi hi=> ?_⟩;by_cases e:i=n;{rw[Is _ _ _ _ (by rw[hl];exact e),e];exact hr};rw[Ir _ _ _ _ (by rw[hl];omega)];exact hx i (by omega)
theorem NL{α:Type}:∀{l:List α},l.length=1->∃a,l=[a]|[a],_=>⟨a,rfl⟩
theorem DJ{α:Type} d(xs:List α) v(h:v∈xs):∃i,i<xs.length/\xs.getD i d=v:=by obtain⟨i,a,e⟩:=List.getElem_of_mem h;exact⟨i,a,by rw[A2,A5 a];exact e⟩
theorem NM{α:Type}:∀{l:List α},l.length=5->∃a b c d e,l=[a,b,c,d,e]|[a,b,c,d,e],_=>⟨a,b,c,d,e,rfl⟩
theorem NN{α:Type}:∀{l:List α},l.length=6->∃a b c d e f,l=[a,b,c,d,e,f]|[a,b,c,d,e,f],_=>⟨a,b,c,d,e,f,rfl⟩
theorem NO{a:List Field}{ks}(h:a.map (λf=>(f.name,f.type,f.offset))=ks){j:Nat}{k}(hk:ks[j]? =some k):∃f,a[j]? =some f/\f.offset=k.2.2/\f.type=k.2.1:=by subst h;rw[AI] at hk;cases e:a[j]? with|none=>rw[e] at hk;cases hk|some f=>rw[e] at hk;simp at hk;exact⟨f,rfl,by rw[<-hk],by rw[<-hk]⟩
theorem NP:Tryz.prog.underlying 57=some (.struct (Tryz.prog.fieldsOf 57)):=by kernel_rfl
theorem qX:((Tryz.prog.fieldsOf 57).toList.map λf=>(f.name,f.type,f.offset))=[("What",5,0),("Op",5,1),("Num",41,2),("N",3,3),("A",23,4)]:=by kernel_rfl
theorem DK:Tryz.prog.cellsOf 3=1:=by kernel_rfl
theorem NQ:Tryz.prog.cellsOf 5=1:=by kernel_rfl
theorem NR:Tryz.prog.cellsOf 23=1:=by kernel_rfl
theorem DM:Tryz.prog.cellsOf 41=1:=by kernel_rfl
theorem NS:Tryz.prog.cellsOf 57=5:=by kernel_rfl
theorem NT:Tryz.prog.cellsOf 42=6:=by kernel_rfl
theorem NU:Tryz.prog.readableRec 22=true:=by kernel_rfl
theorem NV:22<Tryz.prog.types.size:=of_decide_eq_true (by kernel_rfl)
theorem NW:Tryz.prog.readableRec 42=true:=by kernel_rfl
theorem NX:42<Tryz.prog.types.size:=of_decide_eq_true (by kernel_rfl)
section
variable {H:Type} {enc:TypeId×Value->H} {W:World} {base:Nat}
theorem NY{t e k G cs x}(U:Tryz.prog.underlying t=some (.slice e))(P:Tryz.prog.underlying e=some (.int k))(J:Tryz.prog.cellsOf e=1) (h:DataW.trod enc Tryz.prog W 0 (λ _=>true) true G t cs=some x):∃a len cap xs,cs=[.slice a len cap]/\xs.length=len/\(Lay.int k).At 0 W a xs/\(a=none->cap=0)/\len<=cap/\cap<=maxLen/\∀v∈xs,(Lit.int k v).wf=true:=by rcases open_slice U h with⟨rfl,_⟩|⟨a,len,cap,m,n,D,Pl,rfl,_,T,hm,z,_,r⟩;{exact⟨none,0,0,[],rfl,rfl,Lay.At.nil,λ _=>rfl,by omega,by decide,λv f=>by simp at f⟩};simp only[if_true] at z;rw[z,J] at r;have Q:∀i,i<len->∃x:Int,W.cell? (a.add i)=some (.int k x)/\(Lit.int k x).wf=true:=λi c=>by{obtain⟨cs',N,V⟩:=r i (by omega);obtain⟨_,O,K⟩:=World.cells?_some N;obtain⟨c0,rfl⟩:=NL O;obtain⟨x,E,_,Y⟩:=DataW.trod_int P V;simp only[List.cons.injEq,and_true] at E;subst E;have:=K 0 (by decide);exact⟨x,by simpa[Addr.add] using this,Y⟩};obtain⟨xs,F,l⟩:=xO 0 len Q;refine⟨some a,len,cap,xs,rfl,F,λi c=> ?_,λh=>(by cases h),T,hm,λv f=> ?_⟩;{rw[F] at c;have A:=DI (show W.cell? a=_ by simpa[Addr.add] using(l 0 (by omega)).1);obtain⟨b,o,sp⟩:=a;simp only at A;subst A;have d:=(l i c).1;rw[jl] at d;refine⟨b,o,rfl,AV W _ d,λj R=> ?_⟩;have S:j=0:=by{have:j<1:=R;omega};subst S;show W.cell? ⟨b,o+i*1+0,none⟩=some (.int k (xs.getD i 0));rw[Nat.mul_one,Nat.add_zero];exact d};obtain⟨i,c,rfl⟩:=DJ 0 xs v f;exact(l i (by omega)).2
theorem NZ{α}(L:Lay α) d{G:α->Prop}{t e r cs x}(ht:Tryz.prog.underlying t=some (.slice e))(P:Tryz.prog.cellsOf e=L.sz) (Q:∀r (cs:List Value) x,cs.length=L.sz->DataW.trod enc Tryz.prog W 0 (λ _=>true) true r e cs=some x->∃y,cs=L.f y/\G y) (h:DataW.trod enc Tryz.prog W 0 (λ _=>true) true r t cs=some x):∃a len cap xs,cs=[.slice a len cap]/\xs.length=len/\L.At d W a xs/\(a=none->cap=0)/\len<=cap/\cap<=maxLen/\∀y∈xs,G y:=by rcases open_slice ht h with⟨rfl,_⟩|⟨a,len,cap,m,n,D,Pl,rfl,_,hl,hm,F,_,E⟩;{exact⟨none,0,0,[],rfl,rfl,Lay.At.nil,λ _=>rfl,by omega,by decide,λv z=>by simp at z⟩};simp only[if_true] at F;rw[F,P] at E;have U:∀i,i<len->∃y:α,(∀k,k<L.sz->W.cell? ((a.add (i*L.sz)).add k)=(L.f y)[k]?)/\G y:=λi c=>by{obtain⟨cs',S,aa⟩:=E i (by omega);obtain⟨_,T,R⟩:=World.cells?_some S;obtain⟨y,rfl,V⟩:=Q _ _ _ T aa;exact⟨y,R,V⟩};obtain⟨xs,O,A⟩:=xO d len U;refine⟨some a,len,cap,xs,rfl,O,λi c=> ?_,λh=>(by cases h),hl,hm,λv z=> ?_⟩;{rw[O] at c;have l:=L.pos;obtain⟨u,hu⟩:∃u,(L.f (xs.getD 0 d))[0]? =some u:=⟨_,A5 (by rw[L.len];exact l)⟩;have N:=DI (show W.cell? a=some u by have:=(A 0 (by omega)).1 0 l;rw[hu] at this;simpa[Addr.add] using this);obtain⟨b,o,sp⟩:=a;simp only at N;subst N;have J:=(A i c).1;obtain⟨u2,ab⟩:∃u,(L.f (xs.getD i d))[0]? =some u:=⟨_,A5 (by rw[L.len];exact l)⟩;have K:=J 0 l;rw[jl,jl,ab] at K;refine⟨b,o,rfl,AV W _ K,λj Y=> ?_⟩;have:=J j Y;rwa[jl,jl] at this};obtain⟨i,c,rfl⟩:=DJ d xs v z;exact(A i (by omega)).2
theorem qY{e}{cs:List Value}{c:List (DataW H×List MemPlace)}{n ks}(l:c.length=(Tryz.prog.fieldsOf e).size) (d:∀(i:Nat) f,(Tryz.prog.fieldsOf e)[i]? =some f->DataW.trod enc Tryz.prog W 0 (λ _=>true) true n f.type ((cs.drop f.offset).take (Tryz.prog.cellsOf f.type))=c[i]?) (h:((Tryz.prog.fieldsOf e).toList.map λf=>(f.name,f.type,f.offset))=ks)(i:Nat){k}(hk:ks[i]? =some k):∃y,DataW.trod enc Tryz.prog W 0 (λ _=>true) true n k.2.1 ((cs.drop k.2.2).take (Tryz.prog.cellsOf k.2.1))=some y:=by obtain⟨f,a,r,z⟩:=NO h hk;rw[AN] at a;have g:=d i f a;rw[r,z] at g;have j:i<c.length:=by{rw[l];exact(Al.1 a).1};rw[A5 j] at g;exact⟨_,g⟩
theorem N1{S cs x}(U:cs.length=5)(h:DataW.trod enc Tryz.prog W 0 (λ _=>true) true S 57 cs=some x):∃y,cs=Lay.ak.f y/\wG W y:=by obtain⟨c0,c1,c2,c3,c4,rfl⟩:=NM U;obtain⟨ys,n,_,_,_,c,a⟩:=DataW.trod_struct NP h;obtain⟨y0,A⟩:=qY c a qX 0 rfl;obtain⟨y1,D⟩:=qY c a qX 1 rfl;obtain⟨y2,E⟩:=qY c a qX 2 rfl;obtain⟨y3,F⟩:=qY c a qX 3 rfl;obtain⟨y4,G⟩:=qY c a qX 4 rfl;simp only[DK,NQ,NR,DM,List.drop_zero,List.take_succ_cons,List.take_zero,List.take_nil,List.drop_succ_cons] at A D E F G;obtain⟨x0,d,_,w0⟩:=DataW.trod_int Tryz.underlying5 A;obtain⟨x1,j,_,w1⟩:=DataW.trod_int Tryz.underlying5 D;obtain⟨x2,l,_,w2⟩:=DataW.trod_int Tryz.underlying41 E;obtain⟨x3,r,_⟩:=DataW.trod_int Tryz.underlying3 F;obtain⟨O,Y,V,aa,z,T,t4,_⟩:=NY Tryz.underlying23 Tryz.underlying3 DK G;simp only[List.cons.injEq,and_true] at d j l r z;subst d j l r z;have P:=bounds_u8 w0;have Q:=bounds_u8 w1;have R:=bounds_u64 w2;obtain⟨J,rfl⟩:=AW P.1;obtain⟨K,rfl⟩:=AW Q.1;obtain⟨N,rfl⟩:=AW R.1;exact⟨(J,K,N,x3,(O,Y,V)),rfl,by show J<256;omega,by show K<256;omega,by show N<18446744073709551616;omega,aa,t4,T⟩
theorem N3{v d p}(D:Value.okWide Tryz.prog W .any base 22 v)(h:DataW.Trod enc Tryz.prog W 0 (λ _=>true) true 22 v d p):∃a n cap hs,v= .slice a n cap/\hs.length=n/\jt W a hs/\n<=cap:=by obtain⟨a0,len,cap,rfl⟩:=okWide_slice Tryz.underlying22 D;obtain⟨fuel,z⟩:=h;obtain⟨a,l,k,E,e,c,f,_,j,_,r⟩:=NZ Lay.ak ak0 (G:=wG W) Tryz.underlying22 NS (λ _ _ _ A h=>N1 A h) z;simp only[Value.cells,List.cons.injEq,Value.slice.injEq,and_true] at e;obtain⟨rfl,rfl,rfl⟩:=e;exact⟨_,_,_,E,rfl,c,⟨f,r⟩,j⟩
theorem N4{t e k v}(d:Tryz.prog.underlying t=some (.array k e))(h:Value.okWide Tryz.prog W .any base t v):∃cs,v= .agg cs/\cs.size=Tryz.prog.cellsOf t:=by simp only[Value.okWide,d] at h;obtain⟨cs,a,c,_⟩:=h;exact⟨cs,a,c⟩
theorem N6{v d p}(V:Value.okWide Tryz.prog W .any base 42 v)(h:DataW.Trod enc Tryz.prog W 0 (λ _=>true) true 42 v d p):∃K N O P Q R:Nat,v= .agg #[.int .u64 K,.int .u64 N,.int .u64 O,.int .u64 P,.int .u64 Q,.int .u64 R]/\∀x∈[K,N,O,P,Q,R],x<18446744073709551616:=by obtain⟨F,rfl,J⟩:=N4 Tryz.underlying42 V;obtain⟨fuel,U⟩:=h;rw[NT] at J;obtain⟨r,c1,z,A,D,c5,hc⟩:=NN (l:=F.toList) (by simpa using J);obtain rfl:F=#[r,c1,z,A,D,c5]:=by{cases F;simp_all};obtain⟨ys,n,_,_,_,hyl,T⟩:=DataW.trod_array Tryz.underlying42 U;have f:∀(j:Nat) (c:Value),[r,c1,z,A,D,c5][j]? =some c->∃m:Nat,c= .int .u64 m/\m<18446744073709551616:=λj c a=>by{have G:j<6:=by{rcases Nat.lt_or_ge j 6 with q|q;{exact q};rw[AM (by simpa using q)] at a;cases a};have e:=T j G;rw[DM] at e;have S:(([r,c1,z,A,D,c5].drop (j*1)).take 1)=[c]:=by{rw[Nat.mul_one];match j,G,a with|0,_,a=>simpa using a|1,_,a=>simpa using a|2,_,a=>simpa using a|3,_,a=>simpa using a|4,_,a=>simpa using a|5,_,a=>simpa using a};have e3:Value.cells (.agg #[r,c1,z,A,D,c5])=#[r,c1,z,A,D,c5]:=rfl;obtain⟨y,Y⟩:∃y,DataW.trod enc Tryz.prog W 0 (λ _=>true) true n 41 [c]=some y:=⟨_,by rw[<-S];refine Eq.trans ?_ (e.trans (A5 (show j<ys.length by omega)));rfl⟩;obtain⟨x,E,_,w⟩:=DataW.trod_int Tryz.underlying41 Y;simp only[List.cons.injEq,and_true] at E;subst E;have b:=bounds_u64 w;obtain⟨m,rfl⟩:=AW b.1;exact⟨m,rfl,by omega⟩};obtain⟨m0,rfl,h0⟩:=f 0 _ rfl;obtain⟨m1,rfl,h1⟩:=f 1 _ rfl;obtain⟨m2,rfl,h2⟩:=f 2 _ rfl;obtain⟨m3,rfl,h3⟩:=f 3 _ rfl;obtain⟨m4,rfl,h4⟩:=f 4 _ rfl;obtain⟨m5,rfl,h5⟩:=f 5 _ rfl;exact⟨m0,m1,m2,m3,m4,m5,rfl,λx E=>by simp only[List.mem_cons,List.mem_nil_iff,or_false] at E;rcases E with rfl|rfl|rfl|rfl|rfl|rfl<;>assumption⟩
end
