/- Walks: solve: Solve, where propagation fixes all variables. -/
import Derived.Test.YtmicnollchhlfaaGreatR47
set_option linter.all false
namespace Go.Proofs.YtmicnollchhlfaaGreat
open Go.RowKit Go.Shelf
structure BX (w W:World) (ga n m cap:Nat):Prop where
 f:cN W w.heap.size [.int .i64 n,.slice (some ⟨ga,0,none⟩) m cap]
 r:cN W (w.heap.size+1) [.int .u8 0,.slice none 0 0,.slice none 0 0]
 b:Below w.heap.size w W
structure FX (W:World) (A:Nat->Prop) (B ga:Nat) (hs:List Hd) (C:List (List Int)):Prop where
 fo:kI W A ga hs C
 a:∀k,A k->k<B
 g:ga<B
section
variable {w W W':World} {ga n m cap B B':Nat} {A:Nat->Prop} {hs:List Hd} {C:List (List Int)}
theorem BX.go(h:BX w W ga n m cap)(hb:Below B W W')(hB:w.heap.size+1<B):BX w W' ga n m cap:=⟨h.f.below hb (by omega),h.r.below hb hB,h.b.trans (hb.mono (by omega))⟩
theorem FX.go(h:FX W A B ga hs C)(hb:Below B' W W')(hB:B<=B'):FX W' A B ga hs C:=⟨⟨At.frame h.fo.at_ hb.size λad e=>hb.block _ (by injection e with e;subst e;exact A8 h.g hB),h.fo.cls.frame hb.size (λj hj=>hb.block j (A8 (h.a j hj) hB)) λ _ h=>h⟩,h.a,h.g⟩
theorem HM.below{B a L}(h:HM w B a L n m)(q:Below w.heap.size w W):HM W B a L n m:=by obtain⟨k,a1,a2⟩:=h.act;obtain⟨l,c,d,f⟩:=h.it;obtain⟨r,g,j⟩:=h.pl;exact⟨h.st.keep q,⟨k,mI a1 q,a2⟩,⟨l,mI c q,d,f⟩,⟨r,mI g q,j⟩,h.n1,h.n2,h.n3,h.n4,h.n5,h.n6⟩
theorem HM.low{B a c L}(h:HM w B c L n m)(q:Below a w W)(d:c<a)(f:L.ga<a)(g:L.gi<a)(j:L.gp<a):HM W B c L n m:=by obtain⟨E,a1,a2⟩:=h.act;obtain⟨F,l,r,t⟩:=h.it;obtain⟨G,z,D⟩:=h.pl;exact⟨h.st.same q.size (q.block _ d),⟨E,dA a1 λk hk=>q.block k (fe hk▸f),a2⟩,⟨F,dA l λk hk=>q.block k (fe hk▸g),r,t⟩,⟨G,dA z λk hk=>q.block k (fe hk▸j),D⟩,h.n1,h.n2,h.n3,h.n4,h.n5,h.n6⟩
theorem HK.below{hb gi gp}(h:HK hb gi gp w W)(h1:B<=hb)(h2:B<=gi)(h3:B<=gp):Below B w W:=⟨h.os,h.tape,h.output,Nat.le_of_eq h.size.symm,λj hj=>h.block j (by omega) (by omega) (by omega)⟩
theorem Nn(h:cN W ga [.int .u8 0,.slice none 0 0,.slice none 0 0]) x y z:cN (((W.setCell ⟨ga,0,none⟩ x).setCell ⟨ga,1,none⟩ y).setCell ⟨ga,2,none⟩ z) ga [x,y,z]:=((h.set (k:=0) (by simp) x).set (k:=1) (by simp) y).set (k:=2) (by simp) z
theorem xK(h:BX w W ga n m cap) x y z:((((W.setCell ⟨w.heap.size+1,0,none⟩ x).setCell ⟨w.heap.size+1,1,none⟩ y).setCell ⟨w.heap.size+1,2,none⟩ z).cell? ⟨w.heap.size+1,0,none⟩=some x/\(((W.setCell ⟨w.heap.size+1,0,none⟩ x).setCell ⟨w.heap.size+1,1,none⟩ y).setCell ⟨w.heap.size+1,2,none⟩ z).cell? ⟨w.heap.size+1,1,none⟩=some y/\(((W.setCell ⟨w.heap.size+1,0,none⟩ x).setCell ⟨w.heap.size+1,1,none⟩ y).setCell ⟨w.heap.size+1,2,none⟩ z).cell? ⟨w.heap.size+1,2,none⟩=some z)/\Below w.heap.size w (((W.setCell ⟨w.heap.size+1,0,none⟩ x).setCell ⟨w.heap.size+1,1,none⟩ y).setCell ⟨w.heap.size+1,2,none⟩ z)/\∀k,k≠w.heap.size+1->(((W.setCell ⟨w.heap.size+1,0,none⟩ x).setCell ⟨w.heap.size+1,1,none⟩ y).setCell ⟨w.heap.size+1,2,none⟩ z).heap[k]? =W.heap[k]? :=by have q:=Nn h.r x y z;refine⟨⟨(q.at_ 0 _ rfl).1,(q.at_ 1 _ rfl).1,(q.at_ 2 _ rfl).1⟩,fD (fD (fD h.b (by omega) _) (by omega) _) (by omega) _,λk hk=> ?_⟩;rw[Aa _ _ _ k hk,Aa _ _ _ k hk,Aa _ _ _ k hk]
theorem kI.low(h:kI w A ga hs C):kI w (λk=>A k/\k<w.heap.size) ga hs C:=by refine⟨h.at_,h.cls.len,λi d=> ?_⟩;have c:=h.cls.at_ i d;refine⟨c.len,c.at_,λa e=>⟨c.blk a e,?_⟩,c.non,c.cel⟩;obtain⟨o,ho,-⟩:=c.cel a e;grind
def qV(w:World)(b:Bl)(e:Ending)(w':World):=Below w.heap.size w w'/\((∃v xs m,e= .returned (.tuple #[.agg #[.int .u8 1,v,.slice none 0 0],.int .i64 0])/\Lay.bool.Own 4 w' w.heap.size v xs/\xs.length=b.n/\Sat m b/\∀l,0<l->l.natAbs<=b.n->xs.getD (l-1).toNat false=tv m l)\/∃pa pl pc,e= .returned (.tuple #[.agg #[.int .u8 2,.slice none 0 0,.slice pa pl pc],.int .i64 0])/\∀m,¬Sat m b)
structure LX (w W:World) (b:Bl) (ga n m cap B B0 sb hb N:Nat) (k:Cn) (L:Hy) (s:St) (y:Ly) (tg:Nat->Nat):Prop where
 op:OP N (λm=>Sat m b) (λd=>d∈b.c) s
 dn:s.done=s.trail.length
 cl:s.cl.length<=m
 sm:SM W B sb k N s y tg
 bx:BX w W ga n m cap
 hm:HM W B0 hb L n n
def No w b ga n m cap sb w6:=Calls Tryz.prog 61 #[.pointer (some ⟨sb,0,none⟩)] w6 λe w7=>∃va vl vc,e= .returned (.slice va vl vc)/\BX w w7 ga n m cap/\∃xs md,Lay.bool.Own 4 w7 (w.heap.size+2) (.slice va vl vc) xs/\xs.length=b.n/\Sat md b/\∀l,0<l->l.natAbs<=b.n->xs.getD (l-1).toNat false=tv md l
theorem Np{b c g f N k L s y O}(h:LX w W b ga n m cap B c g f N k L s y O)(r:Wf b/\∀p,dE p b->iS p b.n)(K:n=b.n)(F:N=n+1)(hk:k.hp= .pointer (some ⟨f,0,none⟩)) (a:f<B/\L.gi<B/\L.gp<B/\c<=f/\c<=L.gi/\c<=L.gp/\L.ga<B)(hn9:n<=90000/\w.heap.size+2<=c):Calls Tryz.prog 60 #[.pointer (some ⟨g,0,none⟩)] W λe w6=>e= .returned (.int .i64 0)/\No w b ga n m cap g w6:=by subst K;subst F;have H:=h.op.closed h.dn r.1;have z:=r.2 _ H;refine(MZ h.sm hk h.hm a.1 a.2.1 a.2.2.1 (AJ _) (A1 _) (by omega) (Nb z)).mono λe w6 ⟨j,hs,J⟩=>⟨j,?_⟩;have t:Below c W w6:=J.below a.2.2.2.1 a.2.2.2.2.1 a.2.2.2.2.2.1;have hz:w.heap.size+2<=W.heap.size:=by{have:=(h.sm.lo g (by rw[h.sm.tst];decide));omega};have hz6:=t.size;refine(M8 hs (by omega)).mono λe w7 ⟨v,j,D,G⟩=> ?_;obtain⟨P,Q,rfl,_,_,_⟩:=D.at_ (d:=false);exact⟨P,_,Q,j,(h.bx.go t (by omega)).go G (by omega),_,oh s,qL D (by omega),tD s (A1 _),h.op.sat h.dn r.1 z,λl E a=>Ng E a⟩
set_option maxRecDepth 100000 in
set_option maxHeartbeats 8000000 in
theorem Nq{w b A0 ga cap hs}(aF:kI w A0 ga hs b.c)(aG:ga<w.heap.size)(aE:∀p∈hs,p.2.1<=p.2.2)(hw:Wf b)(aQ:sz b<=90000)(aO:lP b)(hf:∀p,dE p b->iS p b.n):
  Calls Tryz.prog 28 #[.agg #[.int .i64 b.n,.slice (some ⟨ga,0,none⟩) b.c.length cap],.int .i64 0] w (qV w b):=by
 have ar:=aF.low;obtain⟨A,aD⟩:∃A:Nat->Prop,A=λk=>A0 k/\k<w.heap.size:=⟨_,rfl⟩
 rw[<-aD] at ar;have hA:∀k,A k->k<w.heap.size:=λk hk=>by simp_all
 clear aF aD;have aK:=hw.pos;have a3:b.n<=90000/\b.c.length<=90000:=by unfold sz at aQ;omega
 have hC:∀c∈b.c,c.length<=3/\∀l∈c,okL b.n l:=λc hc=>⟨aO c hc,hw.lit c hc⟩
 have HW:=Z (And.intro hw hf);obtain⟨n,ae⟩:∃n,n=b.n:=⟨_,rfl⟩
 obtain⟨m,ab⟩:∃m,m=b.c.length:=⟨_,rfl⟩
 obtain⟨N,hN⟩:∃N,N=n+1:=⟨_,rfl⟩
 rw[<-ae] at aK;rw[<-ae,<-ab] at a3;rw[<-ae,<-ab];have hNn:N<=90001:=by omega
 have hni:(n:Int)<=90000:=by omega
 have hw1:IntKind.i64.wrap ((n:Int)+1)=(N:Int):=by rw[IntKind.wrap_i64];omega
 have hw2:IntKind.i64.wrap (2*(N:Int))=2*(N:Int):=by rw[IntKind.wrap_i64];omega
 have aa:Hid (BX w ((w.alloc (.cells #[.int .i64 n,.slice (some ⟨ga,0,none⟩) m cap] 82)).alloc (.cells #[.int .u8 0,.slice none 0 0,.slice none 0 0] 78)) ga n m cap/\FX ((w.alloc (.cells #[.int .i64 n,.slice (some ⟨ga,0,none⟩) m cap] 82)).alloc (.cells #[.int .u8 0,.slice none 0 0,.slice none 0 0] 78)) A w.heap.size ga hs b.c):=by
  have q:=cU (cU (A4 w.heap.size w) (.cells #[.int .i64 n,.slice (some ⟨ga,0,none⟩) m cap] 82)) (.cells #[.int .u8 0,.slice none 0 0,.slice none 0 0] 78);exact Z ⟨⟨(cN.made rfl).alloc _,cN.made (by simp),q⟩,(FX.mk ar hA aG).go q (A1 _)⟩
 have aM:((w.alloc (.cells #[.int .i64 n,.slice (some ⟨ga,0,none⟩) m cap] 82)).alloc (.cells #[.int .u8 0,.slice none 0 0,.slice none 0 0] 78)).heap.size=w.heap.size+2:=by simp
 have ay:=Z (L9 ((w.alloc (.cells #[.int .i64 n,.slice (some ⟨ga,0,none⟩) m cap] 82)).alloc (.cells #[.int .u8 0,.slice none 0 0,.slice none 0 0] 78)) n (by omega) (cap:=cap) (m:=m) aa.o.2.fo (λk hk=>by grind) ab.symm (by omega) (by grind));have aj:=Z aM;obtain⟨aY,-⟩:=aa.o.1.f.at_ 0 _ rfl;obtain⟨aZ,-⟩:=aa.o.1.f.at_ 1 _ rfl;have HFO:=Z ar;have aA:=Z ae;have au:=Z ab;have HN:=Z hN;have HC:=Z hC;have aB:=Z aE;clear aM ar hC ae ab hN hw hf aQ aO hA aG aE;go_enter Tryz.func28,Tryz.ntmps28
 go_upto_region 1 with fail
 generalize((w.alloc (.cells #[.int .i64 n,.slice (some ⟨ga,0,none⟩) m cap] 82)).alloc (.cells #[.int .u8 0,.slice none 0 0,.slice none 0 0] 78))=w0 at*
 go_step3
 go_upto_region 10 with(first
  |(go_at_call 50
    refine ay.o.mono ?_;rintro e U ⟨rfl,am⟩;have Q:Hid (BX w U ga n m cap/\FX U A w.heap.size ga hs b.c/\w.heap.size+2<=U.heap.size):=Z ⟨aa.o.1.go am (by rw[aj.o];omega),aa.o.2.go am (by rw[aj.o];omega),by have:=am.size;rw[aj.o] at this;omega⟩;obtain⟨f0,-⟩:=Q.o.1.f.at_ 0 _ rfl;obtain⟨f1,-⟩:=Q.o.1.f.at_ 1 _ rfl;have az:=Z (Na (w:=U) aK (by omega));clear am aY aZ)
  |(go_at_call 51
    refine az.o.mono ?_;rintro e z ⟨P,L,rfl,aI,an,aH⟩;have R:Hid (BX w z ga n m cap/\FX z A w.heap.size ga hs b.c/\w.heap.size+2<=U.heap.size/\U.heap.size<=z.heap.size):=Z ⟨Q.o.1.go an Q.o.2.2,Q.o.2.1.go an (by have:=Q.o.2.2;omega),Q.o.2.2,an.size⟩;have HQ:=Z aI;have aW:=Z aH;obtain⟨g0,-⟩:=R.o.1.f.at_ 0 _ rfl;obtain⟨g1,-⟩:=R.o.1.f.at_ 1 _ rfl;clear aI an aH)
  |fail)
 generalize hgz:U.heap.size=B0 at*;clear hgz f0 f1 az Q aa ay aj
 go_cut[10] from 19 (λv wx=>∃T k y tg,v= .pointer (some ⟨T,0,none⟩)/\Hid (k.hp= .pointer (some ⟨P,0,none⟩)/\k.pr= .slice none 0 0/\k.lv=nh)/\Hid (SM wx z.heap.size T k N (st0 N (List.replicate N 0) (List.replicate N 0)) y tg/\Below z.heap.size z wx))
 case first=>as_aux_lemma=>
  refine gV (λ _=>True) (λ _=>false) (by rfl) (λJ hJ=> ?_)
  repeat(
   (first|apply tk0 0 (by rfl) (by decide+kernel)|apply tk0 1 (by rfl) (by decide+kernel)|apply tk0 2 (by rfl) (by decide+kernel)|apply tk0 4 (by rfl) (by decide+kernel)|apply tk0 6 (by rfl) (by decide+kernel)|apply tk0 8 (by rfl) (by decide+kernel)|apply tk0 10 (by rfl) (by decide+kernel)|apply tk0 12 (by rfl) (by decide+kernel))
   intro w aw
   try dsimp only at aw
   (go_simp<;>with_reducible rfl)
   try simp only[pS,pN,pA,pZ,pC])
  refine Nm z.heap.size N rfl rfl rfl rfl rfl rfl ⟨rfl,rfl,rfl⟩ ⟨rfl,rfl,rfl⟩ ⟨rfl,rfl,rfl⟩ ⟨rfl,rfl,rfl⟩ ⟨rfl,rfl,rfl⟩ ⟨rfl,rfl,rfl⟩ (by kernel_rfl) (by rfl) rfl rfl rfl rfl rfl (A1 _) (by omega) ?_;intro h0 h1 h2 h3 h4 h5 w3 aJ;have aX:=Z aJ;clear aJ;simp only[jX,jd,Act.put,lsB,List.setIfInBounds_toArray,List.set_cons_zero,List.set_cons_succ];refine BB (i:=14) (v:=.agg #[.pointer (some ⟨P,0,none⟩),.slice none 0 0,.slice (some ⟨h0,0,none⟩) (2*N) (2*N),.slice (some ⟨h1,0,none⟩) N N,.slice (some ⟨h2,0,none⟩) N N,.slice (some ⟨h3,0,none⟩) N N,.slice (some ⟨h4,0,none⟩) N N,.slice (some ⟨h5,0,none⟩) N N,.slice none 0 0,.int .i64 0,.slice none 0 0,.slice none 0 0,.int .i64 16]) rfl (by kernel_rfl) (by kernel_rfl) (by kernel_rfl) (λ _ _ _ h=>h) (by rfl) ?_ ?_
  ·intro w;exact Nj rfl rfl rfl rfl rfl rfl rfl rfl rfl w
  try simp only[pS,pN,pA,pZ,pC]
  refine mg (rs:=[15]) (by kernel_rfl) (by simp) ?_;refine eM.cons rfl (λK hK=> ?_) eM.nil;go_simp;refine hK.out _ _ ?_ (λa0=> ?_)
  ·intro _ hS0
   trivial
  clear a0 hK K
  try simp only[pS,pN,pA,pZ,pC]
  repeat(
   (first|apply tk0 16 (by rfl) (by decide+kernel))
   intro w aw
   try dsimp only at aw
   (go_simp<;>with_reducible rfl)
   try simp only[pS,pN,pA,pZ,pC])
  refine eN (by rfl) ?_ _;refine hJ.o _ _ ?_;clear hJ J
  go_wp2_with fail
  go_meet
  have aP:=aX.o.start (t:=130) (k:=⟨.pointer (some ⟨P,0,none⟩),.slice (some ⟨h2,0,none⟩) N N,.slice (some ⟨h5,0,none⟩) N N,nh,.slice none 0 0,.int .i64 16⟩);exact⟨_,_,_,_,rfl,Z ⟨rfl,rfl,rfl⟩,Z ⟨aP.1,(A4 _ _).drew.trans aP.2⟩⟩
 case rest=>as_aux_lemma=>
  obtain⟨T,k,y,tg,rfl,Y,H3⟩:=hcut;have d:Hid (BX w wc ga n m cap/\FX wc A w.heap.size ga hs b.c/\w.heap.size+1<z.heap.size):=Z ⟨R.o.1.go H3.o.2 (by have:=R.o.2.2;omega),R.o.2.1.go H3.o.2 (by have:=R.o.2.2;omega),by have:=R.o.2.2;omega⟩;obtain⟨f0,-⟩:=d.o.1.f.at_ 0 _ rfl;obtain⟨f1,-⟩:=d.o.1.f.at_ 1 _ rfl;have HL:=Z (MY (Md:=λm=>Sat m b) (F:=b.c) (nv:=n) (cap:=cap) (fl:=m) (A:=A) H3.o.1 (OP.zero _ _ _ _) rfl rfl (by omega) (by rw[Y.o.2.2];decide) d.o.2.1.fo.at_ d.o.2.1.fo.cls (λad e=>by injection e with e;subst e;exact A8 d.o.2.1.g (by have:=d.o.2.2;omega)) (λj hj=>A8 (d.o.2.1.a j hj) (by have:=d.o.2.2;omega)) au.o.symm (by omega)
   (λi hi=>by
     have hl:=d.o.2.1.fo.cls.len;have ab:=au.o;exact aB.o _ (eF _ _ (by omega)))
   (λc hc=>⟨(HC.o c hc).1,λl hl=>by
     have h1:=(HC.o c hc).2 l hl;have h2:=h1.2;exact⟨h1.1,by rw[HN.o,aA.o];omega⟩⟩) (λm hm=>hm))
  have H:Hid (HM wc B0 P L n n/\P<z.heap.size/\L.gi<z.heap.size/\L.gp<z.heap.size/\B0<=P/\B0<=L.gi/\B0<=L.gp/\L.ga<z.heap.size):=by
   obtain⟨xs,a1,-⟩:=HQ.o.act;obtain⟨ys,i1,-⟩:=HQ.o.it;obtain⟨zs,p1,-⟩:=HQ.o.pl;exact Z ⟨HQ.o.below H3.o.2,HQ.o.st.lt,(i1.lt _ rfl).2,(p1.lt _ rfl).2,aW.o,(i1.lt _ rfl).1,(p1.lt _ rfl).1,(a1.lt _ rfl).2⟩
  clear aB HC HQ
  go_wp2_with(first
   |(go_at_call 52
     refine HL.o.mono ?_;rintro e w4 ax;rcases ax with⟨rfl,s',q1,q2,q3,y',a4,q4,q5⟩|⟨rfl,q1,s',y',q2,q3⟩;have H4:Hid (LX w w4 b ga n m cap z.heap.size B0 T P N k L s' y' a4):=Z ⟨q1,q2,by rw[au.o];omega,q4,d.o.1.go q5 d.o.2.2,H.o.1.low q5 H.o.2.1 H.o.2.2.2.2.2.2.2 H.o.2.2.1 H.o.2.2.2.1⟩;clear q1 q2 q3 q4 q5
     rotate_left
     have ac:Hid (BX w w4 ga n m cap/\∀m,¬Sat m b):=Z ⟨d.o.1.go q3 d.o.2.2,q1⟩;have HU:=Z (Dw q2 Y.o.2.1);clear q1 q2 q3
     rotate_left)
   |(go_at_call 53
     refine HU.o.mono ?_;rintro e V ⟨D,G,E,rfl,ao⟩;have O:Hid (BX w V ga n m cap):=Z ⟨ac.o.1.f.keep ao,ac.o.1.r.keep ao,ac.o.1.b.trans (ao.mono ac.o.1.b.size)⟩;obtain⟨r0,af⟩:=O.o.r.at_ 0 _ rfl;obtain⟨r1,ah⟩:=O.o.r.at_ 1 _ rfl;obtain⟨r2,ai⟩:=O.o.r.at_ 2 _ rfl;clear ao)
   |fail)
  ·go_step3
   have aT:=H4
   go_wp2_with fail
   go_loopw [11,13] (λcv uv wr=>cv= .int .i64 0/\uv= .int .i64 64/\∃s y tg,Hid (LX w wr b ga n m cap z.heap.size B0 T P N k L s y tg)) (λ _ _ _=>0)
   case atStart=>grind
   case round=>
    clear H4 aT f0 f1 HL H3;obtain⟨rfl,rfl,s,y,tg,S⟩:=hrel;generalize wr=wo at*;have HP:=Z (Dt S.o.sm S.o.op (by omega) rfl (by have:=S.o.cl;omega) (by rw[Y.o.2.2];decide))
    go_wp2_with(first
     |(go_at_call 54
       refine HP.o.mono ?_;rintro e V ax;rcases ax with⟨rfl,s2,⟨q1,q2,y2,a5,q3,q4⟩,q5⟩|⟨i,rfl,q1,s2,y2,q2,q3⟩;have H6:Hid (LX w V b ga n m cap z.heap.size B0 T P N k L s2 y2 a5):=Z ⟨q1,q5,by rw[q2];exact S.o.cl,q3,S.o.bx.go q4 d.o.2.2,S.o.hm.low q4 H.o.2.1 H.o.2.2.2.2.2.2.2 H.o.2.2.1 H.o.2.2.2.1⟩;have aU:=Z (Np H6.o HW.o aA.o HN.o Y.o.1 H.o.2 ⟨by omega,by have:=R.o.2.2.1;omega⟩);clear q1 q2 q3 q4 q5
       rotate_left
       have O:Hid (BX w V ga n m cap/\∀m,¬Sat m b):=Z ⟨S.o.bx.go q3 d.o.2.2,q1⟩;obtain⟨av,-⟩:=q2.at_ 10 (hdV k.lv) rfl;rw[Y.o.2.2] at av;replace av:V.cell? ⟨T,10,none⟩=some (.slice none 0 0):=av;have HU:=Z (Dw q2 Y.o.2.1);have hi0:decide ((0:Int)<=(i:Int))=true:=decide_eq_true (by omega);clear q1 q2 q3
       rotate_left)
     |(go_at_call 60
       refine aU.o.mono ?_;rintro e w6 ⟨rfl,aC⟩;have aV:=Z aC;clear aC)
     |(go_at_call 61
       refine aV.o.mono ?_;rintro e w7 ⟨va,vl,vc,rfl,h7⟩;have H7:=Z h7;obtain⟨r0,af⟩:=H7.o.1.r.at_ 0 _ rfl;obtain⟨r1,ah⟩:=H7.o.1.r.at_ 1 _ rfl;obtain⟨r2,ai⟩:=H7.o.1.r.at_ 2 _ rfl;clear h7)
     |(go_at_call 53
       refine HU.o.mono ?_;rintro e w6 ⟨D,G,E,rfl,aq⟩;have al:Hid (BX w w6 ga n m cap):=Z ⟨O.o.1.f.keep aq,O.o.1.r.keep aq,O.o.1.b.trans (aq.mono O.o.1.b.size)⟩;obtain⟨r0,af⟩:=al.o.r.at_ 0 _ rfl;obtain⟨r1,ah⟩:=al.o.r.at_ 1 _ rfl;obtain⟨r2,ai⟩:=al.o.r.at_ 2 _ rfl;clear aq)
     |fail)
    ·rw[Exit.noGoto_ret];obtain⟨⟨z0,z1,z2⟩,hbz,hkz⟩:=xK H7.o.1 (.int .u8 1) (.slice va vl vc) (.slice none 0 0);obtain⟨xs,md,ho,aS,aN,aR⟩:=H7.o.2;have aL:=dA ho λk hk=>hkz k (by have:=(ho.lt k hk).1;omega)
     have HZ:Hid (qV w b (.returned (.tuple #[.agg #[.int .u8 1,.slice va vl vc,.slice none 0 0],.int .i64 0])) (((w7.setCell ⟨w.heap.size+1,0,none⟩ (.int .u8 1)).setCell ⟨w.heap.size+1,1,none⟩ (.slice va vl vc)).setCell ⟨w.heap.size+1,2,none⟩ (.slice none 0 0))):=Z ⟨hbz,.inl ⟨_,xs,md,rfl,qL aL (by omega),aS,aN,aR⟩⟩;clear hbz hkz ho aS aN aR aL r0 r1 r2 af ah ai;generalize((w7.setCell ⟨w.heap.size+1,0,none⟩ (.int .u8 1)).setCell ⟨w.heap.size+1,1,none⟩ (.slice va vl vc)).setCell ⟨w.heap.size+1,2,none⟩ (.slice none 0 0)=wz at*;refine bodyPost_ret (v:=.tuple #[.agg #[.int .u8 1,.slice va vl vc,.slice none 0 0],.int .i64 0]) (by simp[results,Tryz.results28,go_sem,z0,z1,z2,Result.andThen];try rfl) rfl ?_;exact HZ.o
    rw[Exit.noGoto_ret];obtain⟨⟨z0,z1,z2⟩,hbz,hkz⟩:=xK al.o (.int .u8 2) (.slice none 0 0) (.slice D G E);have HZ:Hid (qV w b (.returned (.tuple #[.agg #[.int .u8 2,.slice none 0 0,.slice D G E],.int .i64 0])) (((w6.setCell ⟨w.heap.size+1,0,none⟩ (.int .u8 2)).setCell ⟨w.heap.size+1,1,none⟩ (.slice none 0 0)).setCell ⟨w.heap.size+1,2,none⟩ (.slice D G E))):=Z ⟨hbz,.inr ⟨_,_,_,rfl,O.o.2⟩⟩;clear hbz hkz r0 r1 r2 af ah ai;generalize((w6.setCell ⟨w.heap.size+1,0,none⟩ (.int .u8 2)).setCell ⟨w.heap.size+1,1,none⟩ (.slice none 0 0)).setCell ⟨w.heap.size+1,2,none⟩ (.slice D G E)=wz at*;refine bodyPost_ret (v:=.tuple #[.agg #[.int .u8 2,.slice none 0 0,.slice D G E],.int .i64 0]) (by simp[results,Tryz.results28,go_sem,z0,z1,z2,Result.andThen];try rfl) rfl ?_;exact HZ.o
  rw[Exit.noGoto_ret];obtain⟨⟨z0,z1,z2⟩,hbz,hkz⟩:=xK O.o (.int .u8 2) (.slice none 0 0) (.slice D G E);have HZ:Hid (qV w b (.returned (.tuple #[.agg #[.int .u8 2,.slice none 0 0,.slice D G E],.int .i64 0])) (((V.setCell ⟨w.heap.size+1,0,none⟩ (.int .u8 2)).setCell ⟨w.heap.size+1,1,none⟩ (.slice none 0 0)).setCell ⟨w.heap.size+1,2,none⟩ (.slice D G E))):=Z ⟨hbz,.inr ⟨_,_,_,rfl,ac.o.2⟩⟩;clear hbz hkz r0 r1 r2 af ah ai;generalize((V.setCell ⟨w.heap.size+1,0,none⟩ (.int .u8 2)).setCell ⟨w.heap.size+1,1,none⟩ (.slice none 0 0)).setCell ⟨w.heap.size+1,2,none⟩ (.slice D G E)=wz at*;refine bodyPost_ret (v:=.tuple #[.agg #[.int .u8 2,.slice none 0 0,.slice D G E],.int .i64 0]) (by simp[results,Tryz.results28,go_sem,z0,z1,z2,Result.andThen];try rfl) rfl ?_;exact HZ.o
end
