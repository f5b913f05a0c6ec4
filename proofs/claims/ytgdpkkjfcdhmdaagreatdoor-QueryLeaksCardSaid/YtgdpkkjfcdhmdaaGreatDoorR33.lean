/- Walk: App of simp. -/
import Derived.Test.YtgdpkkjfcdhmdaaGreatDoorR32
namespace Go.Proofs.YtgdpkkjfcdhmdaaGreatDoor
open Go.RowKit
def gD(w:World)(B:Nat)(A:Nat->Prop)(gb mb:Nat)(nv:Value)(W:Nat)(r:Nat×List Nd)(e:Ending)(w':World):Prop:=∃(nv':Value) (A':Nat->Prop),e= .returned (.tuple #[.int .i64 (r.1:Nat),.int .i64 0])/\PG w' B (λ k=>A k\/A' k) gb mb nv' W r.2/\(∀k,A' k->w.heap.size<=k)/\Mut (fG gb (some mb) nv) w w'/\nI w nv nv'
section
variable {w w3 w':World} {B:Nat} {A A':Nat->Prop} {gb mb:Nat} {nv:Value} {W:Nat} {L:List Nd} {e:Ending}
theorem gD.ask{n:Nd}(g:Below w.heap.size w w3)(f:∀k,A' k->w.heap.size<=k)(h:kP w3 B A A' gb mb nv W L n e w'):gD w B A gb mb nv W (ie L (.ask n)) e w':=by obtain⟨j,a,b,c,d⟩:=h.lift g;exact⟨j,A',a,b,f,c,d⟩
theorem gD.app{n:Nd}(a:Below w.heap.size w w3)(h:vz w3 B A gb mb nv W L n e w'):gD w B A gb mb nv W (ie L (.ask n)) e w':=by obtain⟨A',b,h⟩:=h;exact gD.ask a (λ k c=>Ag a.size (b k c)) h
theorem gD.same(hp:PG w B A gb mb nv W L)(hb:Below w.heap.size w w')(t:Nat):gD w B A gb mb nv W (ie L (.same t)) (.returned (.tuple #[.int .i64 (t:Nat),.int .i64 0])) w':=⟨nv,noB,rfl,(hp.below hb).more λ _ h=>h.elim,λ _ h=>h.elim,Mut.of_below hb,.inl rfl⟩
theorem gD.lift{r:Nat×List Nd}(a:Below w.heap.size w w3)(h:gD w3 B A gb mb nv W r e w'):gD w B A gb mb nv W r e w':=by obtain⟨t,A',d,f,g,j,n⟩:=h;exact⟨t,A',d,f,λ k q=>Ag a.size (g k q),(Mut.of_below a).trans j,n.elim .inl λ⟨k,b,c⟩=>.inr ⟨k,b,Ag a.size c⟩⟩
end
theorem N3(w:World):(Instr.makeSlice 31 (.int .i64 1) (.int .i64 1)).run Tryz.prog w= .ok (.slice (some ⟨w.heap.size,0,none⟩) 1 1) (w.alloc (.cells #[.int .u64 0] 46)):=by kernel_rfl
theorem N4(w:World):(Instr.makeSlice 31 (.int .i64 2) (.int .i64 2)).run Tryz.prog w= .ok (.slice (some ⟨w.heap.size,0,none⟩) 2 2) (w.alloc (.cells #[.int .u64 0,.int .u64 0] 46)):=by kernel_rfl
theorem N5(w:World):(Instr.makeSlice 26 (.int .i64 1) (.int .i64 1)).run Tryz.prog w= .ok (.slice (some ⟨w.heap.size,0,none⟩) 1 1) (w.alloc (.cells #[.bool false] 4)):=by kernel_rfl
theorem N6(w:World):(Instr.makeSlice 26 (.int .i64 2) (.int .i64 2)).run Tryz.prog w= .ok (.slice (some ⟨w.heap.size,0,none⟩) 2 2) (w.alloc (.cells #[.bool false,.bool false] 4)):=by kernel_rfl
theorem N7{n:Nat}(h1:1<=n)(h2:n<=2)(w:World):(Instr.makeSlice 31 (.int .i64 (n:Int)) (.int .i64 (n:Int))).run Tryz.prog w= .ok (.slice (some ⟨w.heap.size,0,none⟩) n n) (w.alloc (.cells ⟨oF (List.replicate n 0)⟩ 46)):=by have:n=1\/n=2:=by{omega};rcases this with rfl|rfl;{exact N3 w};exact N4 w
theorem N8{n:Nat}(h1:1<=n)(h2:n<=2)(w:World):(Instr.makeSlice 26 (.int .i64 (n:Int)) (.int .i64 (n:Int))).run Tryz.prog w= .ok (.slice (some ⟨w.heap.size,0,none⟩) n n) (w.alloc (.cells ⟨oG (List.replicate n false)⟩ 4)):=by have:n=1\/n=2:=by{omega};rcases this with rfl|rfl;{exact N5 w};exact N6 w
section
variable {w:World} {B:Nat} {A:Nat->Prop} {gb mb:Nat} {nv:Value} {W:Nat} {L:List Nd}
set_option maxRecDepth 100000 in
set_option maxHeartbeats 8000000 in
theorem Eu(h:PG w B A gb mb nv W L)(hB:B<=w.heap.size)(hL:L.length<=999)(I:1<=W)(D:W<=64)(o:Nat)(ho:2<=o)(af:o<=20)(args:List Nat)(n:Nat)(hl:args.length=n)(hn:n=arN o)(ha:∀a∈args,a<L.length){ad:Option Addr}{cap:Nat}(aV:(Lay.int .i64).At 0 w ad (fE args))
  (hU:4<=o->∀t,t<L.length->∀w',Below w.heap.size w w'->∀(ad:Option Addr) (cap:Nat),(Lay.int .i64).At 0 w' ad (fE [t])->Calls Tryz.prog 67 #[.pointer (some ⟨gb,0,none⟩),.int .u8 2,.slice ad 1 cap] w' (gD w' B A gb mb nv W (fR W 2 [t] L))):
  Calls Tryz.prog 67 #[.pointer (some ⟨gb,0,none⟩),.int .u8 o,.slice ad n cap] w (gD w B A gb mb nv W (fR W o args L)):=by
 have hg:=h.rv;obtain⟨na,aL,rfl,hcl,ae⟩:=h.slice;have c2:w.cell? ⟨gb,2,none⟩=some (.slice na L.length aL):=by simp[World.cell?,h.blk]
 have a4:=Z (qZ o (by omega) (w:=w));rw[<-hn] at a4;have b9:n=1\/n=2:=by rw[hn];unfold arN;(repeat' split)<;>omega
 have b5:=(h.lo gb (.inl rfl)).2;obtain⟨pb,po,rfl,bE,p0⟩:=aV.int (i:=0) (by simp[fE];omega);have aM:=Z aV;have hz:((n:Int)==0)=false:=by rw[beq_eq_false_iff_ne];omega
 have cb:1<=n/\n<=2:=by omega
 generalize hQ:gD w B A gb mb (.slice na L.length aL) W (fR W o args L)=Q;have HQ:=Z hQ;have g:=Z hl;have HN:=Z hn;have HU:=Z hU;clear hU;clear hQ aV p0 b9 hl hn;obtain⟨bB,bC⟩:=cb;go_enter Tryz.func67,Tryz.ntmps67
 go_upto_region 6 with(go_at_call 92;refine a4.o.mono ?_;rintro e w1 ⟨rfl,ao⟩;have aN:=Z ao;clear ao)
 have a7:Hid (∀(x y:World),x.grownBy y none->Below x.heap.size x y):=Z λ x y hg=>(A6 _ _).grown hg (A8 _) (λ k hk=>by cases hk)
 have b7:=λ w=>N7 bB bC w
 have b8:=λ w=>N8 bB bC w
 go_cut[10] (λ s C=>∃d M z H G,s= .pointer (some ⟨d,0,none⟩)/\XP w.heap.size C d M z H gb o n G args (List.replicate n 0) (List.replicate n false)/\Below w.heap.size w C)
 case first=>
  go_region_law(
   (refine My Tryz.elemI rfl _ (.tmp 40) rfl rfl rfl (by simp[fE,g.o]) (aM.o.below ?bel) (by omega) (A8 _) ?_
    case bel=>repeat(first|exact aN.o|apply fQ|apply Below.drew)
    intro va wA ha bx;obtain⟨M,G,cg,b3,hga2⟩:=ha.form (n:=n) (by simp[fE,g.o]) (by omega);subst cg;have PA:=Z (NC args▸ha.part (by simp[fE,g.o]));have GA:=Z (a7.o _ _ bx);clear ha bx))
  all_goals
   have hs0:=aN.o.size;have ce:=GA.o.size
   go_wp2_with fail
   go_meet
   case rel=>
    simp only[World.size_drew,World.size_alloc] at b3 ce;refine⟨_,_,_,_,_,rfl,XP.box (by first|exact(PA.o.alloc _).alloc _|exact PA.o.alloc _|exact PA.o)
     (by first|exact(fH.made (by simp)).alloc _|exact fH.made (by simp)|exact(fH.made (by simp)).drew.keep GA.o|exact((fH.made (by simp)).drew.keep GA.o).alloc _|exact((fH.made (by simp)).alloc _).drew.keep GA.o)
     (by first|exact(fH.made (by simp)).alloc _|exact fH.made (by simp)|exact(fH.made (by simp)).drew.keep GA.o|exact((fH.made (by simp)).drew.keep GA.o).alloc _|exact((fH.made (by simp)).alloc _).drew.keep GA.o)
     ⟨g.o,Bf ..,Bf ..⟩ (by omega) (by omega) (by first|omega|(simp;omega)) (by simp),?_⟩
    repeat(first|exact aN.o|apply fQ|apply Below.drew|refine jq ?_ GA.o)
 case rest=>
  obtain⟨d,M,z,H,G,rfl,V,E⟩:=hcut;have HX:=Z V;have ar:=Z E;clear V E b7 b8 a7;have a9:Hid (∀w',Below w.heap.size w w'->Calls Tryz.prog 59 #[.pointer (some ⟨gb,0,none⟩)] w' λ e ai=>e= .returned (.int .i64 L.length)/\w'=ai):=Z λ w' c=>tX gb L.length w' ((c.cell (p:=⟨gb,2,none⟩) b5).trans c2)
  have ba:Hid (∀w' t,Below w.heap.size w w'->t<L.length->Calls Tryz.prog 102 #[.pointer (some ⟨gb,0,none⟩),.int .i64 t] w' λ e ai=>e= .returned (.tuple #[.int .u64 (gC L t:Nat),.bool (isC L t)])/\Below w'.heap.size w' ai):=Z λ w' t c ht=>ND (hg.below c) t ht
  have HP:=Z h;have aR:=Z hg;have HA:=Z ha;clear h hg ha c2
  go_wp2_with fail
  go_loopw [52,11] (λ i al wr=>∃k:Nat,k<=n/\i= .int .i64 k/\al= .bool ((args.take k).all (isC L))/\Hid (XP w.heap.size wr d M z H gb o n G args (nB L n args k) (md L n args k))/\Hid (Below w.heap.size w wr)) (λ i _ _=>n-(intOf i).toNat)
  case atStart=>exact⟨0,by omega,rfl,rfl,by simpa[nB,md] using HX,ar⟩
  case round=>
   obtain⟨k,hk,rfl,rfl,V,E⟩:=hrel;by_cases hlk:k<n
   ·obtain⟨ib,io,bz,cd,a0⟩:=aM.o.int (i:=k) (by simp[fE,g.o];exact hlk);obtain⟨rfl,rfl⟩:ib=pb/\io=po:=by injection bz with e;injection e with e1 e2;exact⟨e1.symm,e2.symm⟩
    have hv:(fE args).getD k 0=((args.getD k 0:Nat):Int):=by simp[fE,List.getD_eq_getElem?_getD,List.getElem?_eq_getElem (g.o.symm▸hlk)]
    rw[hv] at a0;have cc:=(E.o.cell (p:=⟨ib,io+k,none⟩) cd).trans a0;have bq:args.getD k 0<L.length:=HA.o _ (by rw[Aa,Ab (g.o.symm▸hlk)];exact AI _);have a5:=Z (NN (L:=L) (args:=args) (k:=k) (g.o.symm▸hlk));have bS:=Z (NJ (L:=L) g.o hlk);have aq:=Z (Es (L:=L) g.o hlk);have bN:=Z (NM (L:=L) g.o hlk);have bP:=Z (a9.o _ E.o);have bR:Hid (∀w',Below wr.heap.size wr w'->_):=Z (λ w' c=>ba.o w' _ (jq E.o c) bq);have hki:(k:Int)<n:=by omega
    have cf:((args.getD k 0:Nat):Int)<L.length:=by omega
    have b6:=V.o.ne.1.2.2;clear hv a0 bz bq bE;generalize args.getD k 0=t at*
    go_upto_region 13 with(first|(go_at_call 59;refine bP.o.mono ?_;rintro e w' ⟨rfl,rfl⟩))
    clear cc
    go_cut[] (λ C=>XP w.heap.size C d M z H gb o n G args (nB L n args (k+1)) (md L n args (k+1))/\Below w.heap.size w C)
    case first=>as_aux_lemma=>
     have an:Hid (∀w',Below wr.heap.size wr w'->XP w.heap.size w' d M z H gb o n G args (nB L n args k) (md L n args k)):=Z λ w' c=>V.o.keep c
     have HS:Hid (∀w' ns bs,XP w.heap.size w' d M z H gb o n G args ns bs->Below w.heap.size w w'->w'.cell? ⟨d,3,none⟩=some (.slice (some ⟨z,0,none⟩) n n)/\w'.cell? ⟨d,4,none⟩=some (.slice (some ⟨H,0,none⟩) n n)/\Below w.heap.size w w'):=Z λ w' ns bs hx c=>⟨hx.cells.2.2.2.1,hx.cells.2.2.2.2,c⟩
     have HG:=Z V.o.lo
     go_region_held3(λ w'=>w'.cell? ⟨d,3,none⟩=some (.slice (some ⟨z,0,none⟩) n n)/\w'.cell? ⟨d,4,none⟩=some (.slice (some ⟨H,0,none⟩) n n)/\Below w.heap.size w w')
      (first|exact HS.o _ _ _ V.o E.o|exact HS.o _ _ _ (an.o _ (A6 _ _).drew) E.o.drew|exact HS.o _ _ _ (an.o _ F.o) (jq E.o F.o)|exact HS.o _ _ _ ((an.o _ F.o).setn hlk _) ((jq E.o F.o).setCell HG.o.2.1 _)|exact HS.o _ _ _ (((an.o _ F.o).setn hlk _).setb hlk _) (((jq E.o F.o).setCell HG.o.2.1 _).setCell HG.o.2.2.1 _))
      (first
        |(go_at_call 102
          refine(bR.o _ (by first|exact A6 _ _|exact(A6 _ _).drew)).mono ?_;rintro e w3 ⟨rfl,J⟩;have F:Hid (Below wr.heap.size wr w3):=Z ⟨J.os,J.tape,J.output,J.size,J.block⟩;obtain⟨q1,q2⟩:=(an.o _ F.o).nc hlk;obtain⟨q3,q4⟩:=(an.o _ F.o).bc hlk;clear J))
     go_wp2_with fail
     go_meet
     exact⟨by rw[<-bS.o,<-aq.o];exact((an.o _ F.o).setn hlk _).setb hlk _,((jq E.o F.o).setCell HG.o.2.1 _).setCell HG.o.2.2.1 _⟩
    case rest=>as_aux_lemma=>
     obtain⟨aJ,ao⟩:=hcut;have bf:=Z aJ;have a8:=Z ao;have x4:=aJ.cells.2.2.2.2;have b4:=(aJ.bc hlk).1;rw[bN.o] at b4;clear aJ ao V b6 cf;generalize(args.take k).all (isC L)=al at*;generalize isC L t=it at*;cases al with
     |true=>
      go_wp2_with fail
      go_roundw
      case rel=>exact⟨k+1,by omega,by go_num,by rw[a5.o];rfl,bf,a8⟩
      case measure=>simp[intOf];omega
     |false=>
      go_wp2_with fail
      go_roundw
      case rel=>exact⟨k+1,by omega,by go_num,by rw[a5.o];rfl,bf,a8⟩
      case measure=>simp[intOf];omega
   obtain rfl:k=n:=by omega
   have K:Hid (XP w.heap.size wr d M z H gb o k G args (args.map (gC L)) (args.map (isC L))):=Z (by have:=V.o;rwa[NK g.o,NL g.o] at this);have bj:(args.take k).all (isC L)=args.all (isC L):=by rw[<-g.o,AD]
   have bb:=Z HP.o.ok;have aQ:=Z hL;have aD:Hid (∀w',Below w.heap.size w w'->PG w' B A gb mb (.slice na L.length aL) W L):=Z λ w' c=>HP.o.below c
   have aq:Hid (∀w',Below w.heap.size w w'->B<=w'.heap.size):=Z λ w' c=>Ag hB c.size
   rw[bj];clear bj V HX ar a9 ba hlk hk bE aM;cases hall:args.all (isC L) with
   |true=>
    have O:=Z (NR bb.o ho af (by rw[g.o,HN.o]) HA.o hall);have bA:=NQ bb.o HA.o;have bD:=gh D;have bL:Hid (∀w',Below wr.heap.size wr w'->Calls Tryz.prog 75 #[.int .u8 o,.int .i64 W,.slice (some ⟨z,0,none⟩) k k] w' (kJ o W ((args.map (gC L)).getD 0 0) ((args.map (gC L)).getD 1 0) w')):=Z λ w' c=>NS ho af (by rw[Ak,g.o]) HN.o _ _ w' I D (λ v hv=>A9 (bA v hv) bD) (K.o.keep c).numsAt
    have bX:Hid (∀w',Below wr.heap.size wr w'->Calls Tryz.prog 72 #[.pointer (some ⟨gb,0,none⟩)] w' λ e ai=>e= .returned (.int .i64 (W:Nat))/\w'=ai):=Z λ w' c=>xJ (aR.o.below (jq E.o c))
    have aS:Hid (∀w',Below wr.heap.size wr w'->w'.cell? ⟨d,3,none⟩=some (.slice (some ⟨z,0,none⟩) k k)/\Below wr.heap.size wr w'):=Z λ w' c=>⟨(K.o.keep c).cells.2.2.2.1,c⟩
    have x3:=K.o.cells.2.2.2.1;clear bA bD hall;generalize(args.map (gC L)).getD 0 0=v0 at*;generalize(args.map (gC L)).getD 1 0=v1 at*
    go_upto_region 17 with fail
    go_region_held3(λ w'=>w'.cell? ⟨d,3,none⟩=some (.slice (some ⟨z,0,none⟩) k k)/\Below wr.heap.size wr w')
     (first|exact aS.o _ (A6 _ _)|exact aS.o _ (A6 _ _).drew|exact aS.o _ F.o)
     (first
       |(go_at_call 72
         refine(bX.o _ (by first|exact A6 _ _|exact(A6 _ _).drew)).mono ?_;rintro e w3 ⟨rfl,rfl⟩)
       |(go_at_call 75
         refine(bL.o _ (by first|exact A6 _ _|exact(A6 _ _).drew)).mono ?_;rintro e w3 ⟨rfl,J⟩;have F:Hid (Below wr.heap.size wr w3):=Z ⟨J.os,J.tape,J.output,J.size,J.block⟩;clear J))
    have aO:=Z (jq E.o F.o);have aC:fL o W (v0%2^W) (v1%2^W)<18446744073709551616:=A9 (oR I (Ay _ (Aw W)) (Ay _ (Aw W))) (gh D);have HC:=Z (re (aD.o _ aO.o) (aq.o _ aO.o) aQ.o I D _ aC);have HE:Hid (fR W o args L=ie L (.ask (cN W (fL o W (v0%2^W) (v1%2^W))))):=Z (by unfold fR;rw[O.o]);clear aC x3;generalize fL o W (v0%2^W) (v1%2^W)=v at*
    go_wp2_with(first|(go_at_call 49;refine HC.o.mono ?_;rintro e w4 ⟨ap,rfl,R,S,U⟩;have H1:=Z R;have H2:=Z S;have H3:=Z U;clear R S U))
    rw[<-HQ.o,HE.o];exact gD.ask aO.o (λ _ h=>h.elim) ⟨ap,rfl,H1.o,H2.o,H3.o⟩
   |false=>
    have O:=Z (NI (W:=W) ho af (by rw[g.o,HN.o]) hall);clear hall;have ak:Hid (∀m,Calls Tryz.prog 103 #[.int .u8 o] (wr.drewN m) λ e ai=>e= .returned (.bool (pY o))/\∃k,ai=wr.drewN k):=Z λ m=>(NT o ho af).mono λ e ai h=>⟨h.1,m,h.2.symm⟩
    go_upto_region 19 with fail
    go_cut[144] (λ s C=>s= .bool (swQ L o args)/\Below wr.heap.size wr C)
    case first=>as_aux_lemma=>
     cases ae:pY o with
     |false=>
      have am:Hid (swQ L o args=false):=Z (by
       unfold swQ kh
       split
       ·rw[ae];rfl
       rfl)
      rw[ae] at ak;clear ae
      go_quiet((go_at_call 103;exact ak.o _))
      go_wp2_with fail
      go_meet
      exact⟨by rw[am.o],gG (A6 _ _) _⟩
     |true=>
      have aX:k=2:=by
       rcases qk ho af HN.o with⟨_,e⟩|⟨e,_⟩
       ·rcases e with rfl|rfl<;>cases ae
       exact e
      subst aX;obtain⟨a,b,X⟩:∃a b,args=[a,b]:=by
       have:=g.o
       match args,this with
       |[a,b],_=>exact⟨a,b,rfl⟩
      have bK:=Z X;have b2:=(K.o.bc (i:=0) (by decide)).1;have ao:=(K.o.bc (i:=1) (by decide)).1;have b0:=(K.o.ac (i:=0) (by decide)).1;have b1:=(K.o.ac (i:=1) (by decide)).1;have x2:=K.o.cells.2.2.1;have x4:=K.o.cells.2.2.2.2;have e0:(args.map (isC L)).getD 0 false=isC L a:=by rw[X];rfl
      have e1:(args.map (isC L)).getD 1 false=isC L b:=by rw[X];rfl
      have e2:args.getD 0 0=a:=by rw[X];rfl
      have e3:args.getD 1 0=b:=by rw[X];rfl
      rw[e0] at b2;rw[e1] at ao;rw[e2] at b0;rw[e3] at b1;have am:Hid (swQ L o args=(isC L a||(!isC L b&&decide (b<a)))):=Z (by rw[X];show kh L o a b=_;unfold kh;rw[ae,AV]);rw[ae] at ak;have hdec:decide ((b:Int)<(a:Int))=decide (b<a):=by simp
      clear ae e0 e1 e2 e3 X O aD aq K bK aR HA;generalize isC L a=ia at*;generalize isC L b=ib at*;cases ia with
      |true=>
       go_quiet((go_at_call 103;exact ak.o _))
       go_wp2_with fail
       go_meet
       exact⟨by rw[am.o];rfl,gG (A6 _ _) _⟩
      |false=>
       cases ib with
       |true=>
        go_quiet((go_at_call 103;exact ak.o _))
        go_wp2_with fail
        go_meet
        exact⟨by rw[am.o];rfl,gG (A6 _ _) _⟩
       |false=>
        go_quiet((go_at_call 103;exact ak.o _))
        go_wp2_with fail
        go_meet
        exact⟨by rw[am.o];first|rfl|(congr 1;simp),gG (A6 _ _) _⟩
    case rest=>as_aux_lemma=>
     obtain⟨rfl,bt⟩:=hcut;have aP:=Z bt;clear bt ak;have aG:=Z (K.o.keep aP.o);have ar:=Z (jq E.o aP.o);clear K aP
     go_upto_if 144 with fail
     go_cut[] (λ C=>XP w.heap.size C d M z H gb o k G (swG L o args) ((swG L o args).map (gC L)) ((swG L o args).map (isC L))/\Below w.heap.size w C)
     case first=>as_aux_lemma=>
      cases hsw:swQ L o args with
      |false=>
       have am:=Z (NU hsw);clear hsw
       go_wp2_with fail
       go_meet
       exact⟨by rw[am.o];exact aG.o,ar.o⟩
      |true=>
       obtain⟨a,b,X,bH⟩:=NV hsw;have bW:=Z bH;have aX:k=2:=by rw[<-g.o,X];rfl
       subst aX;subst X;have aH:Hid (XP w.heap.size wc d M z H gb o 2 G [a,b] [gC L a,gC L b] [isC L a,isC L b]):=aG;clear hsw bH aG
       go_upto_region 20 with fail
       go_cut[] (λ C=>XP w.heap.size C d M z H gb o 2 G [b,a] [gC L a,gC L b] [isC L a,isC L b]/\Below w.heap.size w C)
       case first=>as_aux_lemma=>
        have q:=Z (aH.o.keep (A6 _ _).drew);have aw:=Z ar.o.drew;have x2:=q.o.cells.2.2.1;obtain⟨ay,bh⟩:=q.o.ac (i:=0) (by decide);obtain⟨aA,bi⟩:=q.o.ac (i:=1) (by decide);simp only[List.getD_cons_zero,List.getD_cons_succ] at ay aA;have bJ:=aH.o.cells.2.2.1;have az:=(aH.o.ac (i:=0) (by decide)).1;have aB:=(aH.o.ac (i:=1) (by decide)).1;simp only[List.getD_cons_zero,List.getD_cons_succ] at az aB
        go_still_tail 20,(by kernel_rfl)
        change wpList _ _ _ _ _ (World.drew _)
        generalize wc.drew=w2 at*
        go_wp2_with fail
        go_meet
        exact⟨(q.o.seta (k:=0) (by decide) _).seta (k:=1) (by decide) _,(aw.o.setCell q.o.lo.1 _).setCell q.o.lo.1 _⟩
       case rest=>as_aux_lemma=>
        obtain⟨bn,bk⟩:=hcut;have aE:=Z bn;have ax:=Z bk;clear bn bk
        go_upto_region 21 with fail
        go_cut[] (λ C=>XP w.heap.size C d M z H gb o 2 G [b,a] [gC L b,gC L a] [isC L a,isC L b]/\Below w.heap.size w C)
        case first=>as_aux_lemma=>
         have q:=Z (aE.o.keep (A6 _ _).drew);have aw:=Z ax.o.drew;have x2:=q.o.cells.2.2.2.1;obtain⟨ay,bh⟩:=q.o.nc (i:=0) (by decide);obtain⟨aA,bi⟩:=q.o.nc (i:=1) (by decide);simp only[List.getD_cons_zero,List.getD_cons_succ] at ay aA;have bJ:=aE.o.cells.2.2.2.1;have az:=(aE.o.nc (i:=0) (by decide)).1;have aB:=(aE.o.nc (i:=1) (by decide)).1;simp only[List.getD_cons_zero,List.getD_cons_succ] at az aB
         go_still_tail 20,(by kernel_rfl)
         change wpList _ _ _ _ _ (World.drew _)
         generalize wc.drew=w2 at*
         go_wp2_with fail
         go_meet
         exact⟨(q.o.setn (k:=0) (by decide) _).setn (k:=1) (by decide) _,(aw.o.setCell q.o.lo.2.1 _).setCell q.o.lo.2.1 _⟩
        case rest=>as_aux_lemma=>
         obtain⟨bo,bl⟩:=hcut;have aF:=Z bo;have N:=Z bl;clear bo bl;have q:=Z (aF.o.keep (A6 _ _).drew);have aw:=Z N.o.drew;have x2:=q.o.cells.2.2.2.2;obtain⟨ay,bh⟩:=q.o.bc (i:=0) (by decide);obtain⟨aA,bi⟩:=q.o.bc (i:=1) (by decide);simp only[List.getD_cons_zero,List.getD_cons_succ] at ay aA;have bJ:=aF.o.cells.2.2.2.2;have az:=(aF.o.bc (i:=0) (by decide)).1;have aB:=(aF.o.bc (i:=1) (by decide)).1;simp only[List.getD_cons_zero,List.getD_cons_succ] at az aB
         go_upto_region 22 with fail
         go_still_tail 20,(by kernel_rfl)
         change wpList _ _ _ _ _ (World.drew _)
         generalize wc.drew=w2 at*
         go_wp2_with fail
         go_meet
         rw[bW.o];exact⟨(q.o.setb (k:=0) (by decide) _).setb (k:=1) (by decide) _,(aw.o.setCell q.o.lo.2.2.1 _).setCell q.o.lo.2.2.1 _⟩
     case rest=>as_aux_lemma=>
      obtain⟨bp,bm⟩:=hcut;have bg:=Z bp;have a6:=Z bm;clear bp bm aG ar;have aI:Hid ((swG L o args).length=k):=Z (by rw[NE,g.o]);have aU:Hid (∀a∈swG L o args,a<L.length):=Z (NF HA.o);have be:=Z (Cr.rules104 o ho af wc);have bT:Hid (∀r∈ig o,(∀v,fJ W L o ((swG L o args).getD 0 0) ((swG L o args).getD 1 0) r= .known v->v<18446744073709551616)/\∀t,fJ W L o ((swG L o args).getD 0 0) ((swG L o args).getD 1 0) r= .not t->4<=o/\t=(swG L o args).getD 0 0):=Z (NW D ho);have bZ:Hid ((swG L o args).getD 0 0<L.length):=Z (aU.o _ (by rw[Aa,Ab (by have:=aI.o;omega)];exact AI _));clear HA;generalize swG L o args=Y at*
      go_wp2_with(go_at_call 104;refine be.o.mono ?_;rintro e w5 ⟨v,rfl,⟨rb,ro,rcap,rfl,bF,bG⟩,br⟩;have bd:=Z bG;have ax:=Z br;have bU:=Z bF;clear bG br bF)
      have bY:=Z (bg.o.keep ax.o);have bM:=Z (jq a6.o ax.o);have bQ:Hid (((ig o).length:Int)<=100):=Z (by unfold ig;split<;>simp);clear bg a6 ax be;generalize hrs:ig o=rs at*
      go_loopw [214] (λ i ch=>∃j:Nat,j<=rs.length/\i= .int .i64 j/\Hid (jT (fJ W L o (Y.getD 0 0) (Y.getD 1 0)) (rs.drop j)=jT (fJ W L o (Y.getD 0 0) (Y.getD 1 0)) rs)/\Hid (Below w5.heap.size w5 ch)) (λ i _=>rs.length-(intOf i).toNat)
      case atStart=>exact⟨0,by omega,rfl,Z rfl,Z (A6 _ _)⟩
      case round=>
       obtain⟨j,hj,rfl,aK,au⟩:=hrel;have aT:=Z (bY.o.keep au.o);have aa:=Z (jq bM.o au.o);by_cases hlj:j<rs.length
       ·obtain⟨r,hr⟩:∃r,rs[j]? =some r:=⟨_,Ab hlj⟩
        obtain⟨f,bw,aW⟩:=bd.o j r hr;have aY:r∈rs:=List.mem_of_getElem? hr;have hcf':=(au.o.cell (p:=⟨rb,ro+j,none⟩) bU.o).trans bw;have bV:=Z (aR.o.below aa.o);obtain⟨fn,cs,rfl,hent,bu⟩:=NY (NP bV.o I D ho af (by rw[aI.o,HN.o]) aU.o aT.o.xat (hrs▸aY) (aW.below au.o)) (aW.below au.o);have ab:=Z bu;have ah:=aK.o.symm.trans (N1 hr);have av:=bT.o r aY;have hji:(j:Int)<rs.length:=by omega
        have hlr:=bQ.o;clear bu bw aW aY aK bd hr;generalize fJ W L o (Y.getD 0 0) (Y.getD 1 0) r=x at*;cases x with
        |no=>
         have aj:Hid (Calls Tryz.prog fn ⟨.pointer (some ⟨d,0,none⟩)::cs⟩ wr λ e w'=>∃t u:Int,e= .returned (.agg #[.int .u8 0,.int .i64 t,.int .u64 u])/\Below wr.heap.size wr w'):=Z (ab.o.mono λ e w' ⟨v,I,⟨t,u,D⟩,h3⟩=>⟨t,u,by rw[I,D],h3⟩);have bO:=Z ah;clear ab ah av
         go_wp2_with(refine aj.o.mono ?_;rintro e w6 ⟨t,u,rfl,P⟩;have N:=Z P;clear P)
         go_roundw
         case rel=>exact⟨j+1,by omega,by go_num,Z bO.o.symm,Z (fQ (jq au.o N.o) _)⟩
         case measure=>simp[intOf];omega
        |same t=>
         have aj:Hid (Calls Tryz.prog fn ⟨.pointer (some ⟨d,0,none⟩)::cs⟩ wr λ e w'=>∃u:Int,e= .returned (.agg #[.int .u8 1,.int .i64 (t:Nat),.int .u64 u])/\Below wr.heap.size wr w'):=Z (ab.o.mono λ e w' ⟨v,I,⟨u,D⟩,h3⟩=>⟨u,by rw[I,D],h3⟩);have HE:Hid (fR W o args L=ie L (.same t)):=Z (by unfold fR;rw[O.o,ah];rfl);clear ab ah av O
         go_wp2_with(refine aj.o.mono ?_;rintro e w6 ⟨u,rfl,P⟩;have N:=Z P;clear P)
         rw[<-HQ.o,HE.o];exact gD.same HP.o (fQ (jq aa.o N.o) _) t
        |known v=>
         have aj:Hid (Calls Tryz.prog fn ⟨.pointer (some ⟨d,0,none⟩)::cs⟩ wr λ e w'=>∃t:Int,e= .returned (.agg #[.int .u8 2,.int .i64 t,.int .u64 (v:Nat)])/\Below wr.heap.size wr w'):=Z (ab.o.mono λ e w' ⟨_,I,⟨t,D⟩,h3⟩=>⟨t,by rw[I,D],h3⟩);have HE:Hid (fR W o args L=ie L (.ask (cN W v))):=Z (by unfold fR;rw[O.o,ah];rfl);have aC:=av.1 v rfl;have HC:Hid (∀w',Below w.heap.size w w'->Calls Tryz.prog 49 #[.pointer (some ⟨gb,0,none⟩),.int .u64 v] w' (kP w' B A noB gb mb (.slice na L.length aL) W L ⟨0,v%2^W,[]⟩)):=Z λ w' c=>re (aD.o _ c) (aq.o _ c) aQ.o I D _ aC
         clear ab ah av O aC
         go_wp2_with(first
          |(go_at_call 49;refine(HC.o _ (fQ (jq aa.o N.o) _)).mono ?_;rintro e w7 ⟨ap,rfl,R,S,U⟩;have H1:=Z R;have H2:=Z S;have H3:=Z U;clear R S U)
          |(refine aj.o.mono ?_;rintro e w6 ⟨t,rfl,P⟩;have N:=Z P;clear P))
         rw[<-HQ.o,HE.o];exact gD.ask (fQ (jq aa.o N.o) _) (λ _ h=>h.elim) ⟨ap,rfl,H1.o,H2.o,H3.o⟩
        |not t=>
         have aj:Hid (Calls Tryz.prog fn ⟨.pointer (some ⟨d,0,none⟩)::cs⟩ wr λ e w'=>∃u:Int,e= .returned (.agg #[.int .u8 3,.int .i64 (t:Nat),.int .u64 u])/\Below wr.heap.size wr w'):=Z (ab.o.mono λ e w' ⟨v,I,⟨u,D⟩,h3⟩=>⟨u,by rw[I,D],h3⟩);have aZ:=av.2 t rfl;have bI:t<L.length:=by rw[aZ.2];exact bZ.o
         have HE:Hid (fR W o args L=fR W 2 [t] L):=Z (by unfold fR;rw[O.o,ah];rfl);have HC:=Z (λ w' c (b:Nat) hl=>HU.o aZ.1 t bI w' (c:Below w.heap.size w w') (some ⟨b,0,none⟩) 1 hl);clear ab ah av O aZ bI
         go_wp2_with(first
          |(go_at_call 67
            refine(HC.o _ (fQ (fQ (jq aa.o N.o) _) _) _ (NZ (by simp) _)).mono ?_;rintro e w7 ⟨ap,A',rfl,R,S,U,p4⟩;have H1:=Z R;have H2:=Z S;have H3:=Z U;have H4:=Z p4;clear R S U p4)
          |(refine aj.o.mono ?_;rintro e w6 ⟨u,rfl,P⟩;have N:=Z P;clear P))
         rw[<-HQ.o,HE.o];exact gD.lift (fQ (fQ (jq aa.o N.o) _) _) ⟨ap,A',rfl,H1.o,H2.o,H3.o,H4.o⟩
       obtain rfl:j=rs.length:=by omega
       have a3:Hid (jT (fJ W L o (Y.getD 0 0) (Y.getD 1 0)) rs= .no):=Z (by rw[<-aK.o,List.drop_length];rfl);have HE:Hid (fR W o args L=ie L (.ask ⟨o,0,Y⟩)):=Z (by unfold fR;rw[O.o,a3.o];rfl);have HC:=Z (zV (aD.o _ aa.o) (aq.o _ aa.o) aQ.o o ho af Y (by rw[aI.o,HN.o]) aU.o (len:=k) (cap:=G) aI.o aT.o.argsAt (λ h=>by cases h));have x2:=aT.o.cells.2.2.1;clear O a3 aK hlj
       go_wp2_with(go_at_call 53;refine HC.o.mono ?_;rintro e w7 ⟨A',q0,ap,rfl,R,S,U⟩;have H0:=Z q0;have H1:=Z R;have H2:=Z S;have H3:=Z U;clear q0 R S U)
       rw[<-HQ.o,HE.o];exact gD.app aa.o ⟨A',H0.o,ap,rfl,H1.o,H2.o,H3.o⟩
theorem Ev(h:PG w B A gb mb nv W L)(hB:B<=w.heap.size)(hL:L.length<=999)(h1:1<=W)(h2:W<=64)(o:Nat)(ho:2<=o)(ho2:o<=20)(args:List Nat)(n:Nat)(hl:args.length=n)(hn:n=arN o)(ha:∀a∈args,a<L.length){ad:Option Addr}{cap:Nat}(hat:(Lay.int .i64).At 0 w ad (fE args)):Calls Tryz.prog 67 #[.pointer (some ⟨gb,0,none⟩),.int .u8 o,.slice ad n cap] w (gD w B A gb mb nv W (fR W o args L)):=Eu h hB hL h1 h2 o ho ho2 args n hl hn ha hat λ _ t ht w' hb ad cap hat=>Eu (h.below hb) (Ag hB hb.size) hL h1 h2 2 (by decide) (by decide) [t] 1 rfl rfl (by simpa using ht) hat λ h4=>absurd h4 (by decide)
end
