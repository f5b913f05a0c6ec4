/- Walks: solve: propagate. -/
import Derived.Test.YtmicnollchhlfaaGreatR41
set_option linter.all false
namespace Go.Proofs.YtmicnollchhlfaaGreat
open Go.RowKit Go.Shelf
section
variable {w:World} {B sb:Nat} {k:Cn} {N:Nat} {Md:(Nat->Bool)->Prop} {Cv:List Int->Prop} {M:Nat}
def MP(w:World)(B sb:Nat)(k:Cn)(N:Nat)(Md:(Nat->Bool)->Prop)(Cv:List Int->Prop)(M:Nat)(e:Ending)(w':World):=(e= .returned (.int .i64 (-1))/\∃s',PQ w B sb k N Md Cv M s' w'/\s'.done=s'.trail.length)\/∃i:Nat,e= .returned (.int .i64 i)/\(∀m,¬Md m)/\∃s' y',cN w' sb (stV k N s' y')/\Below B w w'
set_option maxRecDepth 100000 in
set_option maxHeartbeats 8000000 in
theorem Dt{s y tg}(h:SM w B sb k N s y tg)(hp:OP N Md Cv s)(hN:N<=100000)(hM:s.cl.length=M)(hM2:M<=200000)(cy:k.lv.2.1<=1000000):
  Calls Tryz.prog 54 #[.pointer (some ⟨sb,0,none⟩)] w (MP w B sb k N Md Cv M):=by
 have H0:Hid (PQ w B sb k N Md Cv M s w):=Z ⟨hp,hM,y,tg,h,A4 _ _⟩;clear h hp hM;go_enter Tryz.func54,Tryz.ntmps54
 go_wp2_with fail
 go_loopw [] (λwr=>∃s,Hid (PQ w B sb k N Md Cv M s wr)) (λwr=>N-tB sb wr)
 case atStart=>grind
 case round=>
  clear H0 s y tg;obtain⟨s,hq⟩:=hrel;obtain⟨al,hM,y,tg,hs,hb⟩:=hq.o;obtain⟨c8,f8⟩:=hs.cell 8 _ rfl;obtain⟨c9,f9⟩:=hs.cell 9 _ rfl;obtain⟨ta,tc,bn,_,_,_⟩:=hs.ot.own.at_ (d:=0);have c8:wr.cell? ⟨sb,8,none⟩=some y.tv:=c8;have c9:wr.cell? ⟨sb,9,none⟩=some (.int .i64 s.done):=c9;rw[bn] at c8;have hle:=al.pi.t.le;have bO:=al.pi.t.dn;have bZ:=al.pi.t.tl;have ci:=Z (Dr hs);have HS:=Z hs;have ba:=Z al;have HB:=Z hb;have HM:=Z hM;have bC:=Z bn;clear hs al hb hM bn hq f8;by_cases hlt:s.done<s.trail.length
  case neg=>
   have cu:decide ((s.done:Int)<(s.trail.length:Int))=false:=decide_eq_false (by omega)
   go_wp2_with fail
   go_region_held3(λz=>z.cell? ⟨sb,9,none⟩=some (.int .i64 s.done)/\z.cell? ⟨sb,8,none⟩=some (.slice ta s.trail.length tc)) (exact⟨c9,c8⟩) (fail)
   go_wp2_with fail
   go_ret
   exact .inl ⟨rfl,s,⟨ba.o,HM.o,y,tg,HS.o.drew,HB.o.drew⟩,by omega⟩
  case pos=>
   have cu:decide ((s.done:Int)<(s.trail.length:Int))=true:=decide_eq_true (by omega);have ao:=HS.o.ot.own;rw[bC.o] at ao;obtain⟨tb,cC,hBt,htc,_⟩:=jV ao (by omega);subst cC;obtain⟨ct,_⟩:=eV ao rfl hlt;have an:=Z (ba.o.start hlt);have am:=bZ (s.trail.getD s.done 0) (mE hlt);have bg:=HS.o.setDone (s.done+1);generalize htt:s.trail.getD s.done 0=t at*;have b5:IntKind.i64.wrap (-t)= -t:=by rw[IntKind.wrap_i64];have:=am.2;omega
   have cH:IntKind.i64.wrap ((s.done:Int)+1)=(s.done:Int)+1:=by rw[IntKind.wrap_i64];omega
   have hdi:(s.done:Int)<s.trail.length:=by omega
   go_wp2_with fail
   go_region_held3(λz=>z.cell? ⟨sb,9,none⟩=some (.int .i64 s.done)/\z.cell? ⟨sb,8,none⟩=some (.slice (some ⟨tb,0,none⟩) s.trail.length tc)) (exact⟨c9,c8⟩) (fail)
   go_wp2_with fail
   go_region_held3(λz=>z.cell? ⟨sb,9,none⟩=some (.int .i64 s.done)/\z.cell? ⟨sb,8,none⟩=some (.slice (some ⟨tb,0,none⟩) s.trail.length tc)/\z.cell? ⟨tb,s.done,none⟩=some (.int .i64 t)) (exact⟨c9,c8,ct⟩) (fail)
   go_wp2_with fail
   have O:((s.done+1:Nat):Int)=(s.done:Int)+1:=by omega
   rw[O] at bg;have aw:=Z bg.drew.drew;have cB:=(HS.o.lo sb (by rw[HS.o.tst];decide)).1;have bs:Hid (Below B w (wr.setCell ⟨sb,9,none⟩ (.int .i64 ((s.done:Int)+1))).drew.drew):=Z (Below.setCell HB.o cB _).drew.drew;have a9:Hid (({s with done:=s.done+1}:St).cl.length=M):=HM;have bu:Hid (({s with done:=s.done+1}:St).done=s.done+1):=Z rfl;generalize({s with done:=s.done+1}:St)=s1 at*;generalize(wr.setCell ⟨sb,9,none⟩ (.int .i64 ((s.done:Int)+1))).drew.drew=w1 at*;clear bg ao ct c8 c9 f9 b5 cH O;have cD:t≠0/\t.natAbs<N:=am;obtain⟨cE,cF⟩:=cD;generalize hat: -t=a at*;have cr:a.natAbs<N:=by omega
   have aM:=Z (mA cr);have HI:=Z λW=>xm W a (by omega)
   obtain⟨G,_⟩:=aw.o.cell 2 _ rfl;have G:w1.cell? ⟨sb,2,none⟩=some (.slice (some ⟨y.wb,0,none⟩) (2*N) y.cpw):=G;obtain⟨T,fh⟩:=nY aw.o.ow.own aw.o.hwl aM.o;have E:=(aw.o.wa _ aM.o).own;obtain⟨la,Q,bk,_,bK,_⟩:=E.at_ (d:=0);have b8:=an.o.pi.le (cQ a);have b6:eff s1 (cQ a) 0 0 (cQ a)=s1.wat.getD (cQ a) []:=by unfold eff;simp
   rw[b6] at b8;have a8:Hid (y.hw.getD (cQ a) nh=(la,(s1.wat.getD (cQ a) []).length,Q)):=by
    have e:=bk;generalize y.hw.getD (cQ a) nh=hd at*;obtain⟨q1,q2,q3⟩:=hd;obtain⟨O,P,e3⟩:=Value.slice.inj e;exact Z (by simp_all)
   rw[a8.o] at T;have T:w1.cell? ⟨y.wb,cQ a,none⟩=some (.slice la (s1.wat.getD (cQ a) []).length Q):=T;have hxi:(cQ a:Int)<2*(N:Int):=by have:=aM.o;omega
   have bz:Hid (IQ w B sb k N Md Cv M a (la,(s1.wat.getD (cQ a) []).length,Q) (s.done+1) s1 0 0 w1):=Z ⟨an.o,a9.o,bu.o,rfl,y,tg,aw.o,bs.o,a8.o⟩;have hlenM:(s1.wat.getD (cQ a) []).length<=M:=by have:=a9.o;omega
   have hlc:(s1.wat.getD (cQ a) []).length<=Q:=bK;have cA:=MO (bk▸E);generalize hlen:(s1.wat.getD (cQ a) []).length=len at*;generalize hgen:cQ a=ja at*
   go_region_held3(λz=>z.cell? ⟨sb,2,none⟩=some (.slice (some ⟨y.wb,0,none⟩) (2*N) y.cpw)/\z.cell? ⟨y.wb,ja,none⟩=some (.slice la len Q)) (exact⟨G,T⟩)
    (first
      |(go_at_call 88
        refine(HI.o _).mono ?_;rintro e V ⟨rfl,rfl⟩;dsimp only))
   go_wp2_with fail
   have bA:=Z bz.o.drew;clear bz;have ah:=Z hgen;have HDS:=Z bO;clear G T fh E bk b8 b6 bK a8 aw bs a9 bu an aM hgen bZ hat am cE cF bC HS ba HB HM hlen bO
   go_loopw [5,6] (λkv nv cL=>∃(A:St) (n r:Nat),nv= .int .i64 n/\kv= .slice la r Q/\Hid (IQ w B sb k N Md Cv M a (la,len,Q) (s.done+1) A n r cL)) (λ _ nv _=>len-(intOf nv).toNat)
   case atStart=>exact⟨s1,0,0,rfl,rfl,bA⟩
   case round=>
    clear bA;obtain⟨A,n,r,rfl,rfl,bm⟩:=hrel;obtain⟨ae,bj,bP,aq,y2,br,U,aR,ay⟩:=bm.o;have aV:=ae.ll;rw[aq] at aV;replace aV:n<=len:=aV;have aE:=ae.ix;rw[ah.o] at aE;by_cases hnl:n<len
    case neg=>
     obtain rfl:n=len:=by omega
     obtain⟨G,_⟩:=U.cell 2 _ rfl;have G:wr.cell? ⟨sb,2,none⟩=some (.slice (some ⟨y2.wb,0,none⟩) (2*N) y2.cpw):=G;obtain⟨T,fh⟩:=nY U.ow.own U.hwl aE;have E:=U.wa _ aE;rw[ah.o] at ay;rw[ay] at E;have hkp:=ae.kn;have ao:OT (Lay.int .i64) 3 wr B br (13+2*ja) (hdV (la,r,Q)) ((A.wat.getD ja []).take r):=⟨Dq E.own (by rw[ah.o] at aq;simp_all),λi hi=>E.tag i (by revert hi;cases la<;>exact id)⟩
     have bp:=(U.ow.own.lt _ rfl).1;have bh:=(U.setHd aE (la,r,Q) _ ao).drew;have al:=ae.stop (by rw[aq]);have HF:Hid (PQ w B sb k N Md Cv M (qO A ja r) (wr.setCell ⟨y2.wb,ja,none⟩ (.slice la r Q)).drew):=Z ⟨by rw[ah.o] at al;omega,bj,_,_,bh,(fD aR bp _).drew⟩;have cf:Hid (tB sb (wr.setCell ⟨y2.wb,ja,none⟩ (.slice la r Q)).drew=A.done):=by
      have e:=Dr bh;exact Z e
     have cz:=U.ne.1.2.2.2;clear bm ae U aR E ao bh al ay aq
     go_wp2_with fail
     go_region_held3(λz=>z.cell? ⟨sb,2,none⟩=some (.slice (some ⟨y2.wb,0,none⟩) (2*N) y2.cpw))
      (first|exact G|exact dJ cz G|go_keep)
      (first
        |(go_at_call 88
          refine(HI.o _).mono ?_;rintro e V ⟨rfl,rfl⟩;dsimp only))
     go_wp2_with fail
     go_roundw
     case rel=>exact⟨_,HF⟩
     case measure=>
      rw[ci.o,cf.o];omega
    case pos=>
     obtain⟨i,he,hi,bT⟩:=ae.ent (by simp_all);have E:=(U.wa _ aE).own;have bq:(A.wat.getD (cQ a) []).length=len:=aq;rw[ah.o] at bq he ay;rw[ay] at E;replace E:(Lay.int .i64).Own 3 wr B (.slice la len Q) (A.wat.getD ja []):=E;obtain⟨g,hg,cq,hlc2,cJ⟩:=jV E (by omega);subst hg;clear cJ;obtain⟨cn,fn⟩:=eV E bq hnl;rw[he] at cn;have cs:=ae.pi.len _ (ae.pi.mem hi);obtain⟨cb,cc,D,cp,c1,G,aS,bG,cx⟩:=U.cla hi (by omega);obtain⟨l0,f0⟩:=U.lit hi aS rfl (j:=0) (by omega);obtain⟨l1,f1⟩:=U.lit hi aS rfl (j:=1) (by omega);have an:=Z ae;have a0:=Z bj;have a4:=Z bP;have be:=Z aq;have bc:=Z U;have aY:=Z aR;have a7:Hid (y2.hw.getD (cQ a) nh=(some ⟨g,0,none⟩,len,Q)):=Z (by rw[ah.o];omega);have HE:Hid ((A.wat.getD (cQ a) []).getD n 0=i):=Z (by rw[ah.o];omega);have au:=Z hi;have bv:=Z bT;have aJ:=Z aS;have hii:(i:Int)<A.cl.length:=by omega
     have hni:(n:Int)<len:=by omega
     generalize hclen:(A.cl.getD i []).length=cl at*;have aK:=Z hclen;have hc0:(0:Int)<cl:=by omega
     have bi:(1:Int)<cl:=by omega
     obtain⟨hcl3,hcl4⟩:=cs;have hn0:0<cl:=by omega
     have bl:1<cl:=by omega
     clear hclen bm ae bj bP aq U aR ay E bq he bT aS hi cA aV
     go_upto_if 70 with fail
     go_cut[] from 49 to 169 (λwx=>∃l,Hid (TQ w B sb k N Md Cv M a (some ⟨g,0,none⟩,len,Q) (s.done+1) l n r i D cl cp wx))
     case first=>as_aux_lemma=>
      obtain⟨ht,aG,am⟩:=an.o.turn au.o bv.o;by_cases h0:cw A i 0=a
      ·have e:od a (A.cl.getD i [])=swp (A.cl.getD i []) 0 1:=if_pos h0;rw[e] at ht aG am;have b2:=(bc.o.swap2 (p:=0) (q:=1) au.o aJ.o aK.o).drew;have hg2:(wr.setCell ⟨D,0,none⟩ (.int .i64 (cw A i 1))).frozen? ⟨D,1,none⟩=false:=by simpa using f1
       have hg3:(wr.setCell ⟨D,0,none⟩ (.int .i64 (cw A i 1))).cell? ⟨D,1,none⟩=some (.int .i64 (cw A i 1)):=(AA _ _ _ _ (λe=>by injection e with O P;omega)).trans l1;have HT:Hid (TQ w B sb k N Md Cv M a (some ⟨g,0,none⟩,len,Q) (s.done+1) (eW A i (swp (A.cl.getD i []) 0 1)) n r i D cl cp ((wr.setCell ⟨D,0,none⟩ (.int .i64 (cw A i 1))).setCell ⟨D,1,none⟩ (.int .i64 (cw A i 0))).drew):=Z ⟨ht,(by show(A.cl.set i _).length=M;rw[List.length_set];exact a0.o),a4.o,be.o,⟨HE.o,(by show i<(A.cl.set i _).length;rw[List.length_set];omega),(by rw[Dj _ au.o];omega),(by rw[Dk _ au.o,am];exact aK.o)⟩,y2,br,b2,(fD (fD aY.o bG _) bG _).drew,a7.o,aJ.o⟩;clear ht aG am e b2;have f:wr.drew.cell? ⟨D,0,none⟩=some (.int .i64 (cw A i 0))/\wr.drew.cell? ⟨D,1,none⟩=some (.int .i64 (cw A i 1)):=⟨l0,l1⟩
       go_upto_region 12 with fail
       clear h0;refine gV (λz=>z.cell? ⟨D,0,none⟩=some (.int .i64 (cw A i 0))/\z.cell? ⟨D,1,none⟩=some (.int .i64 (cw A i 1))) (λi=>i==9||i==11) (by rfl) (λJ hJ=> ?_)
       repeat(
        (first|apply tk0 0 (by rfl) (by decide+kernel)|apply tk0 1 (by rfl) (by decide+kernel)|apply tk0 2 (by rfl) (by decide+kernel)|apply tk0 3 (by rfl) (by decide+kernel)|apply tk2 4 (by rfl) (by decide+kernel) (by omega)|apply tk0 5 (by rfl) (by decide+kernel)|apply tk0 6 (by rfl) (by decide+kernel)|apply tk2 7 (by rfl) (by decide+kernel) (by omega)|apply tk0 8 (by rfl) (by decide+kernel))
        intro w F
        try dsimp only at F
        (go_simp<;>with_reducible rfl)
        try simp only[pS,pN,pA,pZ,pC])
       refine tk5 9 (by kernel_rfl) (by rfl) λK c=> ?_
       go_simp;refine c.out _ _ ?_ (λf=> ?_)
       ·intro hl;cases hl
       clear f;clear c K
       try simp only[pS,pN,pA,pZ,pC]
       repeat(
        (first|apply tk0 10 (by rfl) (by decide+kernel))
        intro w F
        try dsimp only at F
        (go_simp<;>with_reducible rfl)
        try simp only[pS,pN,pA,pZ,pC])
       refine tk5 11 (by kernel_rfl) (by rfl) λK c=> ?_
       go_simp;refine c.out _ _ ?_ (λf=> ?_)
       ·intro hl;cases hl
       clear f;clear c K
       try simp only[pS,pN,pA,pZ,pC]
       refine eN (by rfl) ?_ _;refine hJ.o _ _ ?_;clear hJ J
       go_wp2_with fail
       go_meet
       exact⟨_,HT⟩
      have e:od a (A.cl.getD i [])=A.cl.getD i []:=if_neg h0;rw[e] at aG;have hd0:decide (cw A i 0=a)=false:=decide_eq_false h0;have HT:Hid (TQ w B sb k N Md Cv M a (some ⟨g,0,none⟩,len,Q) (s.done+1) A n r i D cl cp wr):=Z ⟨an.o,a0.o,a4.o,be.o,⟨HE.o,au.o,aG,aK.o⟩,y2,br,bc.o,aY.o,a7.o,aJ.o⟩;clear ht aG am e
      go_wp2_with fail
      go_meet
      exact⟨A,HT⟩
     case rest=>as_aux_lemma=>
      obtain⟨l,ad⟩:=hcut;obtain⟨hip3,-,-,-,⟨-,S,-,aa⟩,y3,tg3,hs3,-,-,hch3⟩:=ad.o;obtain⟨l3,_⟩:=hs3.lit S hch3 aa (j:=0) (by omega);have aj:=hip3.pi.ln S (k:=0) (by omega);have R:=Z (nZ hs3 (by omega) aj.2 hip3.pi.t.vr);have bb:=Z (xn hip3.pi.t.vr (cw l i 0));clear hip3 S aa hs3 hch3 aj bc aY a7 HE au bv an a0 a4 be aJ aK c1 G l0 l1 f0 f1 cn fn cx;by_cases hv1:dh l.val (cw l i 0)=1
      ·have HK:=Z (ad.o.keep hnl hv1);obtain⟨ac,aF,aU,_⟩:=ad.o.mem hnl;obtain⟨vk,ac⟩:=Option.isSome_iff_exists.1 ac;rw[hv1] at R;clear ad hv1 bb
       go_wp2_with(first
        |(go_at_call 87
          refine R.o.mono ?_;rintro e V ⟨rfl,rfl⟩)
        |(at_builtin;suffices hzz:id (wpList _ _ _ _ _ _) from hzz))
       show wpList _ _ _ _ _ _;refine xF rfl _ _ rfl rfl rfl (xE _ _ _) aU (by rw[gw ac];rfl) (xH ac aF) ?_
       go_wp2_with fail
       go_roundw
       case rel=>exact⟨_,n+1,r+1,by rfl,rfl,HK⟩
       case measure=>simp[intOf];omega
      have b3:dh l.val (cw l i 0)=0\/dh l.val (cw l i 0)= -1:=by have:=bb.o;omega
      have aB:=Z b3;clear b3 bb;obtain⟨v0,bo⟩:∃v0,v0=dh l.val (cw l i 0):=⟨_,rfl⟩
      rw[<-bo] at R aB hv1;have ax:=Z bo;have bd:=Z hv1;clear bo;have hd1:(v0==1)=false:=by simp_all
      clear hv1
      go_wp2_with(first
       |(go_at_call 87
         refine R.o.mono ?_;rintro e V ⟨rfl,rfl⟩)
       |fail)
      clear R
      go_loopw [9,10] (λmv jv wx=>mv= .bool false/\∃j:Nat,jv= .int .i64 j/\2<=j/\j<=cl/\Hid (wx=wc)/\Hid (∀q,2<=q->q<j->dh l.val (cw l i q)= -1)) (λ _ jv _=>cl-(intOf jv).toNat)
      case atStart=>exact⟨rfl,2,rfl,by omega,by omega,Z rfl,Z λq h1 h2=>by omega⟩
      case round=>
       obtain⟨rfl,j,rfl,cv,hjc,hw,ar⟩:=hrel;obtain rfl:=hw.o.symm;by_cases hjl:j<cl
       case neg=>
        obtain rfl:j=cl:=by omega
        obtain⟨ac,aF,aU,y4,b9,aW,bI,bR,bM⟩:=ad.o.mem hnl;obtain⟨hip3,hcl3x,hdn3,hwl3,⟨bQ,S,aQ,aa⟩,-⟩:=ad.o;obtain⟨vk,ac⟩:=Option.isSome_iff_exists.1 ac;have bS:i<(iz l (cQ a) r i).cl.length:=S;obtain⟨l4,-⟩:=aW.lit bS bM aa (j:=0) (by omega);replace l4:((wc.alloc (.cells #[.int .i64 i] 3)).setCell ⟨g,r,none⟩ (.int .i64 i)).cell? ⟨D,0,none⟩=some (.int .i64 (cw l i 0)):=l4;have aj:=hip3.pi.ln S (k:=0) (by omega);have R:Hid (Calls Tryz.prog 87 #[.pointer (some ⟨sb,0,none⟩),.int .i64 (cw l i 0)] ((wc.alloc (.cells #[.int .i64 i] 3)).setCell ⟨g,r,none⟩ (.int .i64 i)) λe z=>e= .returned (.int .i8 v0)/\((wc.alloc (.cells #[.int .i64 i] 3)).setCell ⟨g,r,none⟩ (.int .i64 i))=z):=by
         rw[ax.o];exact Z (nZ aW (by omega) aj.2 hip3.pi.t.vr)
        have Y:=Z aW;have aI:=Z bI;have aA:=Z bR;have ab:=Z hip3;have aL:=Z S;have aH:=Z aQ;have aN:=Z aa;have a5:=Z bQ;have aZ:=Z hcl3x;have a3:=Z hdn3;have aC:Hid ((l.wat.getD (cQ a) []).length=len):=Z hwl3;have bU:decide ((j:Int)<j)=false:=by simp
        clear aW bI bR bM hip3 hcl3x hdn3 hwl3 bQ S aQ aa bS ad;rcases aB.o with hz|hz
        ·have HU:=Z (ab.o.unit k i (by rw[aC.o];omega) a5.o aL.o aH.o (λq h1 h2=>ar.o q h1 (by rw[aN.o] at h2;omega)) (ax.o.symm.trans hz));have cG:=ab.o.pi.t.le;have ca:=Z (CU Y.o (by omega) aj.2 aj.1 (by show l.trail.length<=500000;omega) cy i);have co:Hid (∀z,SPt ((wc.alloc (.cells #[.int .i64 i] 3)).setCell ⟨g,r,none⟩ (.int .i64 i)) B sb k N (gG k (iz l (cQ a) r i) (cw l i 0) i) y4 z->IQ w B sb k N Md Cv M a (some ⟨g,0,none⟩,len,Q) (s.done+1) (gG k (iz l (cQ a) r i) (cw l i 0) i) (n+1) (r+1) z):=Z λz ⟨v,cK,h1,h2⟩=>⟨HU.o,aZ.o,a3.o,(xI l a r i (by have:=ab.o.wl;have:=ab.o.ix;omega)).trans aC.o,_,cK,h1,aI.o.trans h2,aA.o⟩
         rw[hz] at R;clear HU cG Y aI aA ab aL aH aN a5 aZ a3 aC hz ax bd aB ar aj
         go_wp2_with(first
          |(at_builtin;suffices hzz:id (wpList _ _ _ _ _ _) from hzz)
          |fail)
         show wpList _ _ _ _ _ _;refine xF rfl _ _ rfl rfl rfl (xE _ _ _) aU (by rw[gw ac];rfl) (xH ac aF) ?_
         go_wp2_with(first
          |(go_at_call 87
            refine R.o.mono ?_;rintro e V ⟨rfl,rfl⟩)
          |(go_at_call 58
            refine ca.o.mono ?_;rintro e V ⟨rfl,bF⟩;have cj:=Z (co.o _ bF);clear bF)
          |fail)
         go_roundw
         case rel=>exact⟨_,n+1,r+1,by rfl,rfl,cj⟩
         case measure=>simp[intOf];omega
        have ck:Hid (∀m,¬Md m):=Z (ab.o.pi.none aL.o λq h2=>by
         rw[aN.o] at h2;rcases Nat.lt_or_ge q 2 with h1|h1
         ·have:q=0\/q=1:=by omega
          rcases this with rfl|rfl
          ·exact ax.o.symm.trans hz
          rw[aH.o];exact ab.o.fls
         exact ar.o q h1 h2)
        rw[hz] at R;have aT:=ab.o.ix;have E:=(Y.o.wa _ aT).own;have bL:=nY Y.o.ow.own Y.o.hwl aT;rw[aA.o] at E bL;obtain⟨T,fh⟩:=bL;obtain⟨G,-⟩:=Y.o.cell 2 _ rfl;rw[ah.o] at T fh;obtain⟨xs,E,b7⟩:∃xs:List Int,(Lay.int .i64).Own 3 ((wc.alloc (.cells #[.int .i64 i] 3)).setCell ⟨g,r,none⟩ (.int .i64 i)) B (.slice (some ⟨g,0,none⟩) len Q) xs/\xs.length=len:=⟨_,E,(xI l a r i (by have:=ab.o.wl;have:=ab.o.ix;omega)).trans aC.o⟩
        have aO:=Z b7;clear b7;have hkn:=ab.o.kn;have bB:=Z Y.o.st;have b1:¬sb=g/\¬y4.wb=g:=by
         have t1:=Y.o.tst;have t3:b9 y4.wb=3:=Y.o.ow.tag _ rfl;have tg:=Y.o.wa _ aT;rw[aA.o] at tg;have t2:b9 g=_:=tg.tag _ rfl;exact⟨λe=>by rw[e] at t1;omega,λe=>by rw[e] at t3;omega⟩
        have bp:=(Y.o.ow.own.lt _ rfl).1;have bY:=Y.o.ne.1.2.2.2;clear Y aA ab aL aH aN a5 aZ a3 aC hz ax bd aB ar aj aT
        go_wp2_with(first
         |(at_builtin;suffices hzz:id (wpList _ _ _ _ _ _) from hzz)
         |fail)
        show wpList _ _ _ _ _ _;refine xF rfl _ _ rfl rfl rfl (xE _ _ _) aU (by rw[gw ac];rfl) (xH ac aF) ?_;generalize(wc.alloc (.cells #[.int .i64 i] 3)).setCell ⟨g,r,none⟩ (.int .i64 i)=W4 at*;clear ac aF;have hlt1:(n:Int)+1<=len:=by omega
        have b5:IntKind.i64.wrap ((n:Int)+1)=(n:Int)+1:=by rw[IntKind.wrap_i64];omega
        go_wp2_with(first
         |(go_at_call 87
           refine R.o.mono ?_;rintro e V ⟨rfl,rfl⟩)
         |(at_builtin;suffices hzz:id (wpList _ _ _ _ _ _) from hzz)
         |fail)
        all_goals
         show wpList _ _ _ _ _ _;refine MN (news:=xs.drop (n+1)) rfl _ _ rfl rfl rfl (by rw[Aw,aO.o]) (λj1 h1=> ?hz) (by omega) (λj1 h1=>by rw[(eV E aO.o (i:=r+1+j1) (by omega)).1];rfl) (λj1 h1=>(eV E aO.o (i:=r+1+j1) (by omega)).2) ?_
         case hz=>
          first
           |(exfalso;omega)
           |(rw[Addr.add_lit,(eV E aO.o (i:=n+1+j1) (by omega)).1]
             simp_all)
         have bJ:=Do cq ((xs.drop (n+1)).map (Value.int .i64)) (r+1) aI.o;have O:=xG b1.1 ((xs.drop (n+1)).map (Value.int .i64)) (r+1) W4;have P:=xG b1.2 ((xs.drop (n+1)).map (Value.int .i64)) (r+1) W4;have e3:=Dp (b:=g) ((xs.drop (n+1)).map (Value.int .i64)) (r+1) W4;generalize W4.setCells g (r+1) (List.map (Value.int .i64) (xs.drop (n+1)))=W5 at*;have c5:=(Ah (a:=⟨sb,2,none⟩) O).trans G;have ch5:=(Ah (a:=⟨y4.wb,ja,none⟩) P).trans T;have fh5:=(World.frozen?_of_block (a:=⟨y4.wb,ja,none⟩) P).trans fh;replace c5:W5.cell? ⟨sb,2,none⟩=some (.slice (some ⟨y4.wb,0,none⟩) (2*N) y4.cpw):=c5;have cm:=Z (bB.o.same (by omega) O);have ce:=Z bJ;clear bJ O P e3 bB aI G T fh E
         go_wp2_with fail
         go_region_held3(λz=>z.cell? ⟨sb,2,none⟩=some (.slice (some ⟨y4.wb,0,none⟩) (2*N) y4.cpw))
          (first|exact c5|exact dJ bY c5|go_keep)
          (first
            |(go_at_call 88
              refine(HI.o _).mono ?_;rintro e V ⟨rfl,rfl⟩;dsimp only))
         go_wp2_with fail
         go_ret
         exact .inr ⟨i,rfl,ck.o,_,y4,(cm.o.same (by simp) (Aa _ _ _ _ λe=>bY e)).same (A1 _) rfl,(fD ce.o bp _).drew⟩
       case pos=>
        obtain⟨hip3,-,-,-,⟨-,S,-,aa⟩,y3,tg3,hs3,-,-,hch3⟩:=ad.o;obtain⟨l3,_⟩:=hs3.lit S hch3 aa (j:=j) hjl;have bX:=hip3.pi.ln S (k:=j) (by omega);have R:=Z (nZ hs3 (by omega) bX.2 hip3.pi.t.vr);have bU:(j:Int)<cl:=by omega
        clear hip3 S aa hs3 hch3 bX hw;by_cases hvj:dh l.val (cw l i j)= -1
        ·rw[hvj] at R;have cd:Hid (∀q,2<=q->q<j+1->dh l.val (cw l i q)= -1):=Z λq h1 h2=>by
          rcases Nat.lt_or_ge q j with h3|h3
          ·exact ar.o q h1 h3
          obtain rfl:q=j:=by omega
          omega
         clear hvj
         go_wp2_with(first
          |(go_at_call 87
            refine R.o.mono ?_;rintro e V ⟨rfl,rfl⟩)
          |fail)
         go_roundw
         case rel=>exact⟨rfl,j+1,by rfl,by omega,by omega,Z trivial,cd⟩
         case measure=>simp[intOf];omega
        have bx:=Z λw4 cI=>ad.o.move (w4:=w4) hnl cv hjl hvj cI
        obtain⟨-,-,-,-,⟨-,S,aQ,aa⟩,y3,tg3,hs3,-,-,hch3⟩:=ad.o;obtain⟨l1,f1⟩:=hs3.lit S hch3 aa (j:=1) (by omega);obtain⟨lj,fj⟩:=hs3.lit S hch3 aa (j:=j) hjl;have g2:(wc.setCell ⟨D,1,none⟩ (.int .i64 (cw l i j))).frozen? ⟨D,j,none⟩=false:=by simpa using fj
        have g3:(wc.setCell ⟨D,1,none⟩ (.int .i64 (cw l i j))).cell? ⟨D,j,none⟩=some (.int .i64 (cw l i j)):=(AA _ _ _ _ (λe=>by injection e with O P;omega)).trans lj;have f:wc.drew.cell? ⟨D,1,none⟩=some (.int .i64 (cw l i 1))/\wc.drew.cell? ⟨D,j,none⟩=some (.int .i64 (cw l i j)):=⟨l1,lj⟩
        clear l3 S aQ aa hs3 hch3;obtain⟨vj,b4⟩:∃vj,vj=dh l.val (cw l i j):=⟨_,rfl⟩
        rw[<-b4] at R hvj;clear b4 ar ax bd aB;have hd2:(vj== -1)=false:=by simpa using hvj
        clear hvj;have hji2:(j:Int)<cl:=bU
        go_wp2_with(first
         |(go_at_call 87
           refine R.o.mono ?_;rintro e V ⟨rfl,rfl⟩)
         |fail)
        refine gV (λz=>z.cell? ⟨D,1,none⟩=some (.int .i64 (cw l i 1))/\z.cell? ⟨D,j,none⟩=some (.int .i64 (cw l i j))) (λi=>i==11||i==13) (by rfl) (λJ hJ=> ?_)
        repeat(
         (first|apply tk0 0 (by rfl) (by decide+kernel)|apply tk0 1 (by rfl) (by decide+kernel)|apply tk0 2 (by rfl) (by decide+kernel)|apply tk0 3 (by rfl) (by decide+kernel)|apply tk0 4 (by rfl) (by decide+kernel)|apply tk0 5 (by rfl) (by decide+kernel)|apply tk2 6 (by rfl) (by decide+kernel) (by omega)|apply tk0 7 (by rfl) (by decide+kernel)|apply tk0 8 (by rfl) (by decide+kernel)|apply tk2 9 (by rfl) (by decide+kernel) (by omega)|apply tk0 10 (by rfl) (by decide+kernel))
         intro w F
         try dsimp only at F
         (go_simp<;>with_reducible rfl)
         try simp only[pS,pN,pA,pZ,pC])
        refine tk5 11 (by kernel_rfl) (by rfl) λK c=> ?_
        go_simp;refine c.out _ _ ?_ (λf=> ?_)
        ·intro hl;cases hl
        clear f;clear c K
        try simp only[pS,pN,pA,pZ,pC]
        repeat(
         (first|apply tk0 12 (by rfl) (by decide+kernel))
         intro w F
         try dsimp only at F
         (go_simp<;>with_reducible rfl)
         try simp only[pS,pN,pA,pZ,pC])
        refine tk5 13 (by kernel_rfl) (by rfl) λK c=> ?_
        go_simp;refine c.out _ _ ?_ (λf=> ?_)
        ·intro hl;cases hl
        clear f;clear c K
        try simp only[pS,pN,pA,pZ,pC]
        refine eN (by rfl) ?_ _;refine hJ.o _ _ ?_;clear hJ J
        go_wp2_with fail
        have bw:=Z (bx.o _ rfl);clear bx R f g2 g3 l1 lj f1 fj;generalize((wc.setCell ⟨D,1,none⟩ (.int .i64 (cw l i j))).setCell ⟨D,j,none⟩ (.int .i64 (cw l i 1))).drew=w4 at*;obtain⟨af,bD,jx,ha,bl,bi,wl,G,aP,T,fh,bV,hjxl,hwlM,hBw,bW,b0,bH⟩:=bw.o;have av:=Z λW=>xm W (cw l i j) (Dn bW.2 (by omega))
        rw[<-bV] at av;have bf:=Z b0;have aX:=Z bH;have hjxi:(jx:Int)<2*(N:Int):=by omega
        clear bw b0 bH bV bW;generalize cw l i j=b at*;have f:w4.drew.cell? ⟨sb,2,none⟩=some (.slice (some ⟨af,0,none⟩) (2*N) bD)/\w4.drew.cell? ⟨D,1,none⟩=some (.int .i64 b)/\w4.drew.cell? ⟨af,jx,none⟩=some (.slice ha bl bi):=⟨G,aP,T⟩
        go_upto_region 21 with fail
        refine gV (λz=>z.cell? ⟨sb,2,none⟩=some (.slice (some ⟨af,0,none⟩) (2*N) bD)/\z.cell? ⟨D,1,none⟩=some (.int .i64 b)/\z.cell? ⟨af,jx,none⟩=some (.slice ha bl bi)) (λi=>i==22) (by rfl) (λJ hJ=> ?_)
        repeat(
         (first|apply tk0 0 (by rfl) (by decide+kernel)|apply tk0 1 (by rfl) (by decide+kernel)|apply tk0 2 (by rfl) (by decide+kernel)|apply tk2 3 (by rfl) (by decide+kernel) (by omega)|apply tk0 4 (by rfl) (by decide+kernel)|apply tk0 5 (by rfl) (by decide+kernel)|apply tk2 6 (by rfl) (by decide+kernel) (by omega)|apply tk0 8 (by rfl) (by decide+kernel)|apply tk0 9 (by rfl) (by decide+kernel)|apply tk0 10 (by rfl) (by decide+kernel)|apply tk2 11 (by rfl) (by decide+kernel) (by omega)|apply tk0 12 (by rfl) (by decide+kernel)|apply tk0 13 (by rfl) (by decide+kernel)|apply tk2 14 (by rfl) (by decide+kernel) (by omega)|apply tk0 18 (by rfl) (by decide+kernel))
         intro w F
         try dsimp only at F
         (go_simp<;>with_reducible rfl)
         try simp only[pS,pN,pA,pZ,pC])
        refine mg (rs:=[7,19]) (by kernel_rfl) (by simp) ?_;refine eM.cons rfl (λK c=> ?_) (eM.cons rfl (λK c=> ?_) eM.nil)
        ·go_simp;refine(av.o _).mono ?_;rintro e V ⟨rfl,rfl⟩;dsimp only;refine c.out _ _ ?_ (λf=> ?_)
         ·intro _ H;omega
         have f:=f rfl (by omega);clear c K
         try simp only[pS,pN,pA,pZ,pC]
         refine mg (rs:=[15,19]) (by kernel_rfl) (by simp) ?_;refine eM.cons rfl (λK c=> ?_) (eM.cons rfl (λK c=> ?_) eM.nil)
         ·go_simp;refine(av.o _).mono ?_;rintro e V ⟨rfl,rfl⟩;dsimp only;refine c.out _ _ ?_ (λf=> ?_)
          ·intro _ H;omega
          have f:=f rfl (by omega);clear c K
          try simp only[pS,pN,pA,pZ,pC]
          repeat(
           (first|apply tk0 16 (by rfl) (by decide+kernel)|apply tk2 17 (by rfl) (by decide+kernel) (by omega))
           intro w F
           try dsimp only at F
           (go_simp<;>with_reducible rfl)
           try simp only[pS,pN,pA,pZ,pC])
          refine tk5 19 (by kernel_rfl) (by rfl) λK c=> ?_
          go_simp;refine c.out _ _ ?_ (λf=> ?_)
          ·intro _ H;exact⟨gw H.1,gw H.2.1,gw H.2.2⟩
          have f:=f rfl (by omega);clear c K
          try simp only[pS,pN,pA,pZ,pC]
          refine tk5 20 (by kernel_rfl) (by rfl) λK c=> ?_
          refine iK (base:=B) (d:=0) (ps:=wl) (qs:=[(i:Int)]) Tryz.elemI rfl _ _ rfl rfl (SW.own (w:=w4.alloc (.cells #[.int .i64 (i:Int)] 3)) ⟨rfl,rfl,rfl,rfl⟩ (Lay.Own.alloc bf.o _)) rfl (λh=>by cases h) rfl (SW.at_ (w:=w4.alloc (.cells #[.int .i64 (i:Int)] 3)) ⟨rfl,rfl,rfl,rfl⟩ (fV (L:=Lay.int .i64) w4 (i:Int) 3)) (by omega) (by simp;omega) ?_;intro v6 w6 o6 q6 a6;obtain⟨bN,rfl,O,P,e3,ai⟩:=aX.o _ _ _ o6 q6 a6 ⟨rfl,rfl,rfl,rfl⟩;have c26:=(Ah (a:=⟨sb,2,none⟩) O).trans G;have c16:=(Ah (a:=⟨D,1,none⟩) e3).trans aP;have aD:=(Ah (a:=⟨af,jx,none⟩) P).trans T;have bE:=(World.frozen?_of_block (a:=⟨af,jx,none⟩) P).trans fh;have az:=Z ai;clear ai o6 q6 a6 O P e3;refine c.out _ _ ?_ (λf=> ?_)
          ·intro _ H;exact⟨c26,c16,aD⟩
          have f:=f rfl (by omega);clear c K
          try simp only[pS,pN,pA,pZ,pC]
          repeat(
           (first|apply tk0 21 (by rfl) (by decide+kernel))
           intro w F
           try dsimp only at F
           (go_simp<;>with_reducible rfl)
           try simp only[pS,pN,pA,pZ,pC])
          refine tk5 22 (by kernel_rfl) (by rfl) λK c=> ?_
          go_simp;refine c.out _ _ ?_ (λf=> ?_)
          ·intro hl;cases hl
          clear f;clear c K
          try simp only[pS,pN,pA,pZ,pC]
          refine eN (by kernel_rfl) ?_ _;refine hJ.o _ _ ?_;clear hJ J
          go_wp2_with fail
          go_roundw
          case rel=>exact⟨_,n+1,r,by rfl,rfl,az⟩
          case measure=>simp[intOf];omega
         go_simp;refine c.out _ _ ?_ (λf=> ?_)
         ·intro _ H;exact⟨gw H.1,gw H.2.1,gw H.2.2⟩
         have f:=f rfl (by omega);clear c K
         try simp only[pS,pN,pA,pZ,pC]
         refine tk5 15 (by kernel_rfl) (by rfl) λK c=> ?_
         go_simp;refine(av.o _).mono ?_;rintro e V ⟨rfl,rfl⟩;dsimp only;refine c.out _ _ ?_ (λf=> ?_)
         ·intro _ H;omega
         have f:=f rfl (by omega);clear c K
         try simp only[pS,pN,pA,pZ,pC]
         repeat(
          (first|apply tk0 16 (by rfl) (by decide+kernel)|apply tk2 17 (by rfl) (by decide+kernel) (by omega))
          intro w F
          try dsimp only at F
          (go_simp<;>with_reducible rfl)
          try simp only[pS,pN,pA,pZ,pC])
         refine tk5 20 (by kernel_rfl) (by rfl) λK c=> ?_
         refine iK (base:=B) (d:=0) (ps:=wl) (qs:=[(i:Int)]) Tryz.elemI rfl _ _ rfl rfl (SW.own (w:=w4.alloc (.cells #[.int .i64 (i:Int)] 3)) ⟨rfl,rfl,rfl,rfl⟩ (Lay.Own.alloc bf.o _)) rfl (λh=>by cases h) rfl (SW.at_ (w:=w4.alloc (.cells #[.int .i64 (i:Int)] 3)) ⟨rfl,rfl,rfl,rfl⟩ (fV (L:=Lay.int .i64) w4 (i:Int) 3)) (by omega) (by simp;omega) ?_;intro v6 w6 o6 q6 a6;obtain⟨bN,rfl,O,P,e3,ai⟩:=aX.o _ _ _ o6 q6 a6 ⟨rfl,rfl,rfl,rfl⟩;have c26:=(Ah (a:=⟨sb,2,none⟩) O).trans G;have c16:=(Ah (a:=⟨D,1,none⟩) e3).trans aP;have aD:=(Ah (a:=⟨af,jx,none⟩) P).trans T;have bE:=(World.frozen?_of_block (a:=⟨af,jx,none⟩) P).trans fh;have az:=Z ai;clear ai o6 q6 a6 O P e3;refine c.out _ _ ?_ (λf=> ?_)
         ·intro _ H;exact⟨c26,c16,aD⟩
         have f:=f rfl (by omega);clear c K
         try simp only[pS,pN,pA,pZ,pC]
         repeat(
          (first|apply tk0 21 (by rfl) (by decide+kernel))
          intro w F
          try dsimp only at F
          (go_simp<;>with_reducible rfl)
          try simp only[pS,pN,pA,pZ,pC])
         refine tk5 22 (by kernel_rfl) (by rfl) λK c=> ?_
         go_simp;refine c.out _ _ ?_ (λf=> ?_)
         ·intro hl;cases hl
         clear f;clear c K
         try simp only[pS,pN,pA,pZ,pC]
         refine eN (by kernel_rfl) ?_ _;refine hJ.o _ _ ?_;clear hJ J
         go_wp2_with fail
         go_roundw
         case rel=>exact⟨_,n+1,r,by rfl,rfl,az⟩
         case measure=>simp[intOf];omega
        go_simp;refine c.out _ _ ?_ (λf=> ?_)
        ·intro _ H;exact⟨gw H.1,gw H.2.1,gw H.2.2⟩
        have f:=f rfl (by omega);clear c K
        try simp only[pS,pN,pA,pZ,pC]
        refine tk5 7 (by kernel_rfl) (by rfl) λK c=> ?_
        go_simp;refine(av.o _).mono ?_;rintro e V ⟨rfl,rfl⟩;dsimp only;refine c.out _ _ ?_ (λf=> ?_)
        ·intro _ H;omega
        have f:=f rfl (by omega);clear c K
        try simp only[pS,pN,pA,pZ,pC]
        refine tk5 15 (by kernel_rfl) (by rfl) λK c=> ?_
        go_simp;refine(av.o _).mono ?_;rintro e V ⟨rfl,rfl⟩;dsimp only;refine c.out _ _ ?_ (λf=> ?_)
        ·intro _ H;omega
        have f:=f rfl (by omega);clear c K
        try simp only[pS,pN,pA,pZ,pC]
        repeat(
         (first|apply tk0 16 (by rfl) (by decide+kernel)|apply tk2 17 (by rfl) (by decide+kernel) (by omega))
         intro w F
         try dsimp only at F
         (go_simp<;>with_reducible rfl)
         try simp only[pS,pN,pA,pZ,pC])
        refine tk5 20 (by kernel_rfl) (by rfl) λK c=> ?_
        refine iK (base:=B) (d:=0) (ps:=wl) (qs:=[(i:Int)]) Tryz.elemI rfl _ _ rfl rfl (SW.own (w:=w4.alloc (.cells #[.int .i64 (i:Int)] 3)) ⟨rfl,rfl,rfl,rfl⟩ (Lay.Own.alloc bf.o _)) rfl (λh=>by cases h) rfl (SW.at_ (w:=w4.alloc (.cells #[.int .i64 (i:Int)] 3)) ⟨rfl,rfl,rfl,rfl⟩ (fV (L:=Lay.int .i64) w4 (i:Int) 3)) (by omega) (by simp;omega) ?_;intro v6 w6 o6 q6 a6;obtain⟨bN,rfl,O,P,e3,ai⟩:=aX.o _ _ _ o6 q6 a6 ⟨rfl,rfl,rfl,rfl⟩;have c26:=(Ah (a:=⟨sb,2,none⟩) O).trans G;have c16:=(Ah (a:=⟨D,1,none⟩) e3).trans aP;have aD:=(Ah (a:=⟨af,jx,none⟩) P).trans T;have bE:=(World.frozen?_of_block (a:=⟨af,jx,none⟩) P).trans fh;have az:=Z ai;clear ai o6 q6 a6 O P e3;refine c.out _ _ ?_ (λf=> ?_)
        ·intro _ H;exact⟨c26,c16,aD⟩
        have f:=f rfl (by omega);clear c K
        try simp only[pS,pN,pA,pZ,pC]
        repeat(
         (first|apply tk0 21 (by rfl) (by decide+kernel))
         intro w F
         try dsimp only at F
         (go_simp<;>with_reducible rfl)
         try simp only[pS,pN,pA,pZ,pC])
        refine tk5 22 (by kernel_rfl) (by rfl) λK c=> ?_
        go_simp;refine c.out _ _ ?_ (λf=> ?_)
        ·intro hl;cases hl
        clear f;clear c K
        try simp only[pS,pN,pA,pZ,pC]
        refine eN (by kernel_rfl) ?_ _;refine hJ.o _ _ ?_;clear hJ J
        go_wp2_with fail
        go_roundw
        case rel=>exact⟨_,n+1,r,by rfl,rfl,az⟩
        case measure=>simp[intOf];omega
end
