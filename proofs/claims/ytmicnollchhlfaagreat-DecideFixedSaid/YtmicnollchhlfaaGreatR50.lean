/- Walks: decide: Sat, where the terms fix all variables. -/
import Derived.Test.YtmicnollchhlfaaGreatR48
import Derived.Test.YtmicnollchhlfaaGreatR49
set_option linter.all false
namespace Go.Proofs.YtmicnollchhlfaaGreat
open Go.RowKit Go.Shelf
def NG(w:World)(W:Nat)(L:List Nd)(ts:List Nat)(e:Ending)(w':World):=Below w.heap.size w w'/\((∃v xs,e= .returned (.tuple #[.int .u8 1,v,.int .i64 0])/\(Lay.int .u64).Own 41 w' w.heap.size v (cT xs)/\xs.length=6/\(∀x∈xs,x<2^W)/\∀q∈ts,vlN W xs L q≠0)\/(e= .returned (.tuple #[.int .u8 2,.slice none 0 0,.int .i64 0])/\∀σ,¬∀q∈ts,vlN W σ L q≠0))
theorem NI{a:List Int}(d:(5:Int)∈a)(f:∀y∈a,y<6)(hs:a.Pairwise (·<=·)):0<a.length/\a.getD (a.length-1) 0=5:=by obtain⟨i,g,he⟩:=List.mem_iff_getElem.1 d;have c:a.length-1<a.length:=by{omega};refine⟨by omega,?_⟩;rw[A2,A5 c];have h1:=f _ (Aj c);have h2:(5:Int)<=a[a.length-1]:=by{by_cases e:i=a.length-1;{subst e;omega};have:=List.pairwise_iff_getElem.1 hs i (a.length-1) g c (by omega);omega};show a[a.length-1]=5;omega
structure QI (w wr:World) (B bb qb xb r wb vb W:Nat) (L:List Nd) (ts:List Nat) (k:Nat) (off:Nat->Prop) (M:Mo) (b:Bl):Prop where
 wd:fC wr B bb off xb r wb vb W L (2+40*k) M b
 q:cN wr qb (QV bb xb)
 qo:off qb
 hold:∀q∈ts.take k,lr W L M b q
 mod:∀σ,(∀q∈ts.take k,vlN W σ L q≠0)->fF W L M b σ
 bel:Below B w wr
theorem QI.next{w wr w' B n c z r f d W L ts k off M b e}(h:QI w wr B n c z r f d W L ts k off M b)(hk:k<ts.length)(J:c≠f)(H:c≠d) (G:tf wr B n off c z r f d W L (2+40*k) M b (ts.getD k 0) e w'):e= .returned (.pointer (some ⟨c,0,none⟩))/\∃off' j l,QI w w' B n c z r f d W L ts (k+1) off' j l:=by obtain⟨off',j,l,E,u,i,g,F,hm,D⟩:=G;have A:ts.take (k+1)=ts.take k++[ts.getD k 0]:=by{rw[List.take_succ_eq_append_getElem hk,A2,A5 hk];rfl};refine⟨E,off',j,l,⟨(show 2+40*(k+1)=2+40*k+40 by omega)▸i,D.part h.q ⟨h.qo,J,H⟩,u _ h.qo,λq a=> ?_,λ σ t=> ?_,h.bel.trans D.below⟩⟩;{rw[A] at a;rcases A6.1 a with a|a;{exact(h.hold q a).grow g};rw[List.mem_singleton.1 a];exact F};rw[A] at t;exact hm σ (t _ (by simp)) (h.mod σ λq a=>t q (Ak _ a))
set_option maxRecDepth 100000 in
set_option maxHeartbeats 8000000 in
theorem NJ{w r W n L}(h:RV w r W L)(h1:1<=W)(h4:W<=4)(a3:L.Nodup)(a0:L.length<=60) ts(af:∀t∈ts,t<L.length)(aC:ts.length=n)(hn:n<=20)(aW:Det L ts)
  (aq:∀j,j<L.length->(ndL L j).op=1->(ndL L j).num<6)(bc:qH L ts 5){ta tc}(au:(Lay.int .i64).At 0 w ta (cT ts))(bG:ta=none->tc=0):
  Calls Tryz.prog 8 #[.pointer (some ⟨r,0,none⟩),.int .i64 0,.slice ta n tc] w (NG w W L ts):=by
 have am:=h.ok;have aD:=LE h ts (λj F aB=>by have:=aq j (F.lt am af) aB;show(ndL L j).num<4194304;omega) af (by omega) (by omega) ta tc bG au;rw[aC] at aD;have HV:=Z aD;have aG:Hid (∀D,Below w.heap.size w D->(Lay.int .i64).At 0 D ta (cT ts)/\RV D r W L):=Z λD hb=>⟨au.below hb,h.below hb⟩
 have bg:∀y:Int,qH L ts y->y<6:=λy ⟨j,F,aB,bI⟩=>by
  have:=aq j (F.lt am af) aB;have e:(((ndL L j).num:Nat):Int)=y:=bI;omega
 have HN:=Z aC;have J:=Z (And.intro am (And.intro a3 (And.intro aW (And.intro aq af))));have aL:=Z (And.intro bg bc);have hni:(n:Int)<=20:=by omega
 have aZ:Hid (L.length<=60):=Z a0;clear h a3 aW aq bc au am bg af aC aD a0;go_enter Tryz.func8,Tryz.ntmps8
 go_upto_region 8 with(first
  |(go_at_call 24
    refine HV.o.mono ?_;rintro e g ⟨yv,ys,rfl,be,aE,bK,bL,bf,aQ⟩;obtain⟨ya,yc,rfl,bh,_,_⟩:=be.at_ (d:=0);have az:=NI ((aE 5).2 aL.o.2) (λy hy=>aL.o.1 y ((aE y).1 hy)) bf;obtain⟨z,hz⟩:∃z,ys.length=z+1:=⟨ys.length-1,by have:=az.1;omega⟩
    obtain⟨yb,yo,rfl,bi,aF⟩:=bh.int (i:=z) (by omega);rw[show z=ys.length-1 by omega,az.2,show ys.length-1=z by omega] at aF;have bB:Hid (∀D,Below g.heap.size g D->D.cell? ⟨yb,yo+z,none⟩=some (.int .i64 5)):=Z λD hb=>(hb.cell (p:=⟨yb,yo+z,none⟩) bi).trans aF
    have hzl:(z:Int)+1<=1000:=by omega
    rw[hz];have H:=Z aQ;have bo:=Z (J8 g);clear be aE bK bL bf aQ bh az hz aF bi)
  |(go_at_call 25
    refine bo.o.mono ?_;rintro e w2 ⟨K,rfl,aw,aA,aX⟩;have bp:=Z (L6 aX (λD hW=>(aG.o D (H.o.trans ((aw.trans hW).mono H.o.size))).2) h1 h4 J.o.1 J.o.2.1 (by have:=aZ.o;omega));have ah:=Z aw;clear aw aA aX)
  |(go_at_call 26
    refine bp.o.mono ?_;rintro e l ⟨Q,wb,Y,off,rfl,hu,B,ax,l1,l2⟩;have aK:=Z B;have aH:=Z ax;have ar:Hid (wb<l.heap.size/\Y<l.heap.size/\g.heap.size<=w2.heap.size/\w2.heap.size<=l.heap.size):=Z ⟨B.bl.fb.lt _ B.bl.wo,B.bl.fb.lt _ B.bl.vo,ah.o.size,ax.size⟩;clear hu B ax l1 l2)
  |fail)
 have aI:Hid (∃bj,QI g (l.alloc (.cells #[.pointer (some ⟨K,0,none⟩),.pointer (some ⟨Q,0,none⟩),.int .i64 0] 73)) g.heap.size K l.heap.size Q r wb Y W L ts 0 bj [] ⟨1,[[1]]⟩):=by
  have B:=aK.o;have ay:Below l.heap.size l (l.alloc (.cells #[.pointer (some ⟨K,0,none⟩),.pointer (some ⟨Q,0,none⟩),.int .i64 0] 73)):=cU (A4 _ _) _;have hx:=ar.o;exact Z ⟨_,B.kept (cP.of_below ay B.bl.fb.lt B.bl.fb.base) (B.bl.fb.below ay) (λ _=>.inl),cN.made rfl,.inr ⟨A1 _,by simp⟩,by simp,λ σ _=>fF.nil,ah.o.trans ((aH.o.mono ah.o.size).trans (ay.mono (by omega)))⟩
 have an:Hid (l.heap.size≠wb/\l.heap.size≠Y):=Z (by have:=ar.o;omega)
 go_upto_region 9 with fail
 generalize l.alloc (.cells #[.pointer (some ⟨K,0,none⟩),.pointer (some ⟨Q,0,none⟩),.int .i64 0] 73)=w4 at*;clear aK ar ah aH;generalize l.heap.size=qb at*;obtain⟨bj,a7⟩:=aI.o;have aJ:=Z a7;clear aI a7
 go_wp2_with fail
 go_loopw [14,52] (λqv iv wr=>∃(k:Nat) (off:Nat->Prop) (M:Mo) (b:Bl),qv= .pointer (some ⟨qb,0,none⟩)/\iv= .int .i64 k/\k<=n/\Hid (QI g wr g.heap.size K qb Q r wb Y W L ts k off M b)) (λ _ iv _=>n-(intOf iv).toNat)
 case atStart=>exact⟨0,_,_,_,rfl,rfl,by omega,aJ⟩
 case round=>
  clear aJ;obtain⟨k,off,M,b,rfl,rfl,hk,a⟩:=hrel;generalize wr=wo at*;by_cases hlt:k<n
  ·have hki:(k:Int)<n:=by omega
   have ad:k<ts.length:=by rw[HN.o];exact hlt
   obtain⟨lb,lo,rfl,htb,bJ⟩:=(aG.o wo (H.o.trans (a.o.bel.mono H.o.size))).1.int (i:=k) (by rw[ed];exact ad);have aN:(cT ts).getD k 0=((ts.getD k 0:Nat):Int):=by simp[cT,List.getD_eq_getElem?_getD,ad]
   rw[aN] at bJ;have bq:=Z (L7 a.o.wd (by omega) a.o.q a.o.qo an.o.1 an.o.2 (J.o.2.2.2.2 _ (iU 0 ts k ad)));have bz:Hid (∀e w',tf wo g.heap.size K off qb Q r wb Y W L (2+40*k) M b (ts.getD k 0) e w'->e= .returned (.pointer (some ⟨qb,0,none⟩))/\∃off' M' b',QI g w' g.heap.size K qb Q r wb Y W L ts (k+1) off' M' b'):=Z λe w' T=>a.o.next ad an.o.1 an.o.2 T
   clear aN ad;generalize ts.getD k 0=tk at*
   go_wp2_with(first
    |(go_at_call 27
      refine bq.o.mono ?_;rintro e w5 T;obtain⟨rfl,off5,M5,b5,h5⟩:=bz.o e w5 T;have H6:=Z h5;clear T h5)
    |fail)
   go_roundw
   case rel=>exact⟨k+1,_,_,_,rfl,by go_num,by omega,H6⟩
   case measure=>simp[intOf];omega
  obtain rfl:k=n:=by omega
  have G:=a.o;obtain⟨q0,-⟩:=G.q.at_ 0 _ rfl;obtain⟨q2,-⟩:=G.q.at_ 2 _ rfl;have V:ts.take k=ts:=by rw[<-HN.o];simp
  have N:=G.wd.mo;have bF:=N.count;have ao:sz b<=90000:=by have:=G.wd.sz;have:=aZ.o;omega
  have bu:=Z (Kc G.wd.bl.fb ao N.short);have E:Hid (g.heap.size<=wo.heap.size/\w.heap.size<=g.heap.size):=Z ⟨G.bel.size,H.o.size⟩;have bA:Hid (∀(P:World) (ga al:Nat) (A:Nat->Prop) (O:List Hd),Lay.sl.At nh P (some ⟨ga,0,none⟩) O->di P A O b.c->(∀p∈O,p.2.1<=p.2.2)->Calls Tryz.prog 28 #[.agg #[.int .i64 b.n,.slice (some ⟨ga,0,none⟩) b.c.length al],.int .i64 0] P (qV P b)):=Z λP ga al A O h1 h2 h3=>by
   have bH:0<O.length:=by
    rw[h2.len];exact List.length_pos_of_mem N.wf.one
   obtain⟨gb,go,e,hg,-⟩:=h1 0 bH;injection e with e;injection e with e;subst e;exact Nq ⟨h1,h2⟩ hg h3 N.wf ao N.short λp T=>LU N (by rw[<-V];exact G.hold) J.o.2.2.1 T
  have bw:Hid (b.n<=90000):=Z (by unfold sz at ao;omega);clear G V N bF ao
  go_upto_region 17 with(first
   |(go_at_call 29
     refine bu.o.mono ?_;rintro e P ⟨ga,al,A,O,rfl,aR,aP,aU,aA,bD,aV⟩;have br:=Z (bA.o P ga al A O aP aU aV);have R:=Z aR;clear aR aP aU aA bD aV)
   |(go_at_call 28
     refine br.o.mono ?_;rintro e f ⟨aS,bE⟩;have ai:=Z aS;have ae:cN (f.alloc (.cells #[.int .u8 0,.slice none 0 0,.slice none 0 0] 78)) f.heap.size [.int .u8 0,.slice none 0 0,.slice none 0 0]:=cN.made rfl;obtain⟨p0,bk⟩:=ae.at_ 0 _ rfl;obtain⟨p1,bm⟩:=ae.at_ 1 _ rfl;obtain⟨p2,bn⟩:=ae.at_ 2 _ rfl;have HP7:=Z ae;clear ae aS;rcases bE with⟨v,bs,md,rfl,F,hl,a8,ba⟩|⟨pa,pl,pc,rfl,a4⟩;obtain⟨va,vc,rfl,_,_,_⟩:=F.at_ (d:=false);have aa:=Z (And.intro F (And.intro hl (And.intro a8 ba)));clear F hl a8 ba
     rotate_left
     have bx:=Z a4;clear a4
     rotate_left)
   |fail)
  ·have U:cN (f.alloc (.cells #[.int .u8 1,.slice va bs.length vc,.slice none 0 0] 78)) f.heap.size [.int .u8 1,.slice va bs.length vc,.slice none 0 0]:=cN.made rfl;have S:Below f.heap.size f (f.alloc (.cells #[.int .u8 1,.slice va bs.length vc,.slice none 0 0] 78)):=cU (A4 _ _) _;generalize f.alloc (.cells #[.int .u8 1,.slice va bs.length vc,.slice none 0 0] 78)=w8 at*;have ac:Below wo.heap.size wo w8:=R.o.trans ((ai.o.mono R.o.size).trans (S.mono (A9 R.o.size ai.o.size)));obtain⟨bC,-⟩:=U.at_ 0 _ rfl;obtain⟨c81,-⟩:=U.at_ 1 _ rfl;have hy8:=bB.o w8 (a.o.bel.trans (ac.mono E.o.1));have ab:=a.o.wd.bl;have a5:=dA aa.o.1 λk hk=>S.block k (aa.o.1.lt k hk).2
   obtain⟨a9,c9,e9,av,_,_⟩:=a5.at_ (d:=false);obtain⟨aM,-,-⟩:=Value.slice.inj e9;rw[<-aM] at av;have aO:=NC (n:=6) (mc:=vc) (m:=md) (ab.kept (cP.of_below ac ab.fb.lt ab.fb.base) (ab.fb.below ac) λ _=>.inl) a.o.wd.mo J.o.1 J.o.2.1 h4 (by decide) av rfl aa.o.2.1.symm (by have:=bw.o;omega) aa.o.2.2.2;have bv:=Z aO;have aj:=Z ac;have hwz:IntKind.i64.wrap ((z:Int)+1-1)=z:=by rw[IntKind.wrap_i64];omega
   have dz:decide ((0:Int)<(z:Int)+1)=true:=decide_eq_true (by omega);clear U S ac ab a5 av e9 aM aO p0 bk p1 bm p2 bn q0 q2
   go_wp2_with(first
    |(go_at_call 30
      refine bv.o.mono ?_;rintro e w9 ⟨v9,xs,rfl,a6,aY,aT⟩;have H9:=Z (And.intro a6 (And.intro aY aT));clear a6 aY aT)
    |fail)
   refine bodyPost_ret (v:=.tuple #[.int .u8 1,v9,.int .i64 0]) (by simp[results,Tryz.results8,go_sem,Result.andThen];try rfl) rfl ?_;have bd:=A9 E.o.2 (A9 E.o.1 aj.o.size);have V:ts.take k=ts:=by rw[<-HN.o];simp
   refine⟨(H.o.trans ((a.o.bel.mono E.o.2).trans (aj.o.mono (A9 E.o.2 E.o.1)))).trans (H9.o.2.2.mono bd),.inl ⟨v9,xs,rfl,qL H9.o.1 bd,H9.o.2.1.1,H9.o.2.1.2.1,?_⟩⟩;have hh:=a.o.hold;rw[V] at hh;exact LZ hh aa.o.2.2.1 H9.o.2.1 λt wd hm F=>J.o.2.2.2.1 t (a.o.wd.mo.each _ _ hm).1 F
  have U:cN (f.alloc (.cells #[.int .u8 2,.slice none 0 0,.slice pa pl pc] 78)) f.heap.size [.int .u8 2,.slice none 0 0,.slice pa pl pc]:=cN.made rfl;have S:Below f.heap.size f (f.alloc (.cells #[.int .u8 2,.slice none 0 0,.slice pa pl pc] 78)):=cU (A4 _ _) _;generalize f.alloc (.cells #[.int .u8 2,.slice none 0 0,.slice pa pl pc] 78)=w8 at*;have aj:Hid (Below wo.heap.size wo w8):=Z (R.o.trans ((ai.o.mono R.o.size).trans (S.mono (A9 R.o.size ai.o.size))));obtain⟨bC,-⟩:=U.at_ 0 _ rfl;clear U S p0 bk p1 bm p2 bn q0 q2
  go_wp2_with fail
  refine bodyPost_ret (v:=.tuple #[.int .u8 2,.slice none 0 0,.int .i64 0]) (by simp[results,Tryz.results8,go_sem,Result.andThen];try rfl) rfl ?_;have V:ts.take k=ts:=by rw[<-HN.o];simp
  refine⟨H.o.trans ((a.o.bel.mono E.o.2).trans (aj.o.mono (A9 E.o.2 E.o.1))),.inr ⟨rfl,λ σ hσ=> ?_⟩⟩;obtain⟨m,hm,-⟩:=a.o.mod σ (by rw[V];exact hσ);exact bx.o m hm
