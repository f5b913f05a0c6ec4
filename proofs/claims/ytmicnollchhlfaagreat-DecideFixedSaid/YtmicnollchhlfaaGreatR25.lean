/- Walks: adder: Less of words with a sign. -/
import Derived.Test.YtmicnollchhlfaaGreatR24
set_option linter.all false
namespace Go.Proofs.YtmicnollchhlfaaGreat
open Go.RowKit Go.Shelf
attribute [local go_sem] Oper.semAt_some
theorem wH:∀x k,x.length=k+1->eZ x=x.set k (-(x.getD k 0))|[a],k,h=>by obtain rfl:k=0:=by{simp_all};rfl|a::b::x,k,h=>by obtain⟨j,rfl⟩:∃j,k=j+1:=⟨k-1,by grind⟩;have:=wH (b::x) j (by simp_all);simp only[eZ,List.set_cons_succ,List.getD_cons_succ,this]
theorem Ks{n P o a w K Q}(h:Oper.wp P o a w K Q):Oper.wpIn Fence.wide n P o a w K Q:=by refine⟨λ _ _=>trivial,?_⟩;unfold Oper.wp at h;show o.uponIn Fence.wide n P a K Q ((execOp a.eval o).run P w);generalize(execOp a.eval o).run P w=r at*;cases r with|ok x w'=>(cases x with|value v=>exact h|skip=>exact h|defer d=>exact h|enter f args=>exact⟨(λh=>by cases h),callsIn_wide.2 (Calls.mono h λe g he=>by omega)⟩|row r args=>exact⟨(λh=>by cases h),λc j _=>let⟨v,g,q,s⟩:=h c j;⟨v,g,q,stepsIn_wide.2 s⟩⟩|_=>exact h.elim)|halt x w'=>cases x<;>first|exact h|exact h.elim
section
variable {α:Type} {L:Lay α} {d:α} {t e:TypeId} {z:Value} {bytes:Nat}
theorem Ca(T:fU Tryz.prog L t e z bytes){n ops rest o a Q w}(D:o.guard=none) s x (F:o.op= .call {callee:=.builtin .append,args:=#[s,x],argTypes:=#[t,t]}){base v ps qs g m c} (hs:a.eval s=v)(G:L.Own e w base v ps)(K:a.eval x= .slice g m c)(r:g=none->c=0)(hm:qs.length=m)(A:L.At d w g qs)(E:ps.length+m<=1000000)(B:base<=w.heap.size) (h:∀f w',L.Own e w' base f (ps++qs)->w.grownBy w' v.ownBlock->(f.ownBlock=v.ownBlock\/f.ownBlock=some w.heap.size)->wpListIn Fence.wide n Tryz.prog ops Q rest (a.put o.dst f) w'):wpListIn Fence.wide n Tryz.prog ops Q (o::rest) a w:=by have J:Region.wanted o (yielded ops a.tmps)=true:=by{simp[Region.wanted,D]};unfold wpListIn;rw[if_pos J];obtain⟨f,w',H,j,k,l⟩:=vV T G r hm A E B o.type;exact Ks (Lib.wp_append_run w s x t t F _ _ hs K f w' H (h f w' j k l))
end
set_option maxRecDepth 100000 in
set_option maxHeartbeats 4000000 in
theorem Kt{w B G b off}(h:FB w B G b off)(T:cW b 2000){ax ay cx cy m x y}(hx:CAt w off (ax,m,cx) x)(hy:CAt w off (ay,m,cy) y)(ao:okW b.n x)(aq:okW b.n y)(h1:1<=m)(ba:m<=64):
  Calls Tryz.prog 161 #[.pointer (some ⟨G,0,none⟩),.slice ax m cx,.slice ay m cy,.bool true] w (eU w B G off (db x y true b)):=by
 have ai:=trivial
 have HC:=Z (qw (hs:=[(ax,m,cx),(ay,m,cy)]) (ws:=[x,y]) (m:=m) (k:=2) h (by unfold cW at T⊢;omega) ⟨(di.cons (C:=[y]) (hs:=[(ay,m,cy)]) (di.cons (C:=[]) (hs:=[]) ⟨rfl,λi hi=>by grind⟩ hy) hx),by simp[hx.len.symm,hy.len.symm],by simp_all⟩ rfl (by omega) h1 ba);have H:=Z h;have HR:=Z T;have HX:=Z hx;have HY:=Z hy;have a3:=Z ao;have a4:=Z aq;clear h T hx hy ao aq;refine(callsIn_wide (n:=5)).1 ?_;refine callsIn_of_wp_marks Tryz.func161 rfl ai ?_ rfl;simp only[Tryz.ntmps161,List.size_toArray,Af,List.length_nil,Nat.reduceAdd,Nat.reduceSub,Array.replicate_succ,Array.replicate_zero,List.push_toArray,List.append_toArray,List.nil_append,List.cons_append]
 gi_wp2_with (first
  |(refine⟨ai,?_⟩
    gi_at_call 79
    refine(callsIn_wide.2 HC.o).mono ?_;rintro e Y ⟨rfl,p1,p2⟩;have P1:=Z p1;have P2:=Z p2;clear p1 p2)
  |(gi_at_builtin;suffices hzz:id (wpListIn _ _ _ _ _ _ _ _) from hzz)
  |(refine⟨ai,?_⟩;gi_at_call 80;refine(callsIn_wide.2 (gX _ _)).mono ?_;rintro e w2 ⟨rfl,rfl⟩)
  |(refine⟨ai,?_⟩;gi_at_call 169;refine(callsIn_wide.2 (nO _ _ _ _ _ _ _)).mono ?_;rintro e w2 ⟨rfl,rfl⟩))
 show wpListIn _ _ _ _ _ _ _ _;have ac:x.length=m:=HX.o.len.symm;have aa:y.length=m:=HY.o.len.symm;have ae:=HX.o.kept P2.o;have af:=HY.o.kept P2.o;refine Ca (d:=0) Tryz.elemI rfl _ _ rfl rfl (Lay.Own.nil _ Y.heap.size) rfl ae.non ac ae.at_ (by grind) (A1 _) ?_;intro v2 w2 aO bi _;have am:Below Y.heap.size Y w2:=(A4 _ _).grown bi (A1 _) λj e=>by cases e
 obtain⟨N,O,rfl,av,bL⟩:=iJ.form ⟨aO⟩ (n:=m) (by grind) (by omega);have aU:=iJ.part ⟨aO⟩ (n:=m) (by grind);rw[List.nil_append] at aU
 gi_wp2_with (gi_at_builtin;suffices hzz:id (wpListIn _ _ _ _ _ _ _ _) from hzz)
 show wpListIn _ _ _ _ _ _ _ _;refine Ca (d:=0) Tryz.elemI rfl _ _ rfl rfl (Lay.Own.nil _ w2.heap.size) rfl af.non aa (af.at_.below am) (by simp;omega) (A1 _) ?_;intro v3 w3 aP bj _;have ar:Below w2.heap.size w2 w3:=(A4 _ _).grown bj (A1 _) λj e=>by cases e
 obtain⟨F,P,rfl,bK,bM⟩:=iJ.form ⟨aP⟩ (n:=m) (by simp[aa]) (by omega);have aC:=iJ.part ⟨aP⟩ (n:=m) (by simp[aa]);rw[List.nil_append] at aC;have aV:=aU.keep ar;have bQ:=am.size;have bR:=ar.size;have bg:Below Y.heap.size Y w3:=am.trans (ar.mono am.size);have aI:=Z aV;have aJ:=Z aC;have a0:=Z bg;obtain⟨k,rfl⟩:∃k,m=k+1:=⟨m-1,by omega⟩
 have hki:(k:Int)<=63:=by omega
 have e0:((k+1:Nat):Int)=(k:Int)+1:=by omega
 obtain⟨ca,fa⟩:=aV.at_ k (.int .i64 (x.getD k 0)) (by rw[iN];simp_all);obtain⟨cb,fb⟩:=aC.at_ k (.int .i64 (y.getD k 0)) (by rw[iN];simp_all);have aA:¬N=F:=by omega
 have bO:=(a3.o (x.getD k 0) (by
  simp_all)).small (HR.o.mono (by omega)) rfl
 have bP:=(a4.o (y.getD k 0) (by
  simp_all)).small (HR.o.mono (by omega)) rfl
 generalize hxe:x.getD k 0=xk at*;generalize hye:y.getD k 0=yk at*;obtain⟨xk1,xk2⟩:=bO;obtain⟨yk1,yk2⟩:=bP;have a7:=Z hxe;have a9:=Z hye;clear aO bi aP bj am ar aU aC aV bg ae af hxe hye;have hwr:IntKind.i64.wrap (k:Int)=k:=by rw[IntKind.wrap_i64];omega
 have hwx:IntKind.i64.wrap (-xk)= -xk:=by rw[IntKind.wrap_i64];omega
 have hwy:IntKind.i64.wrap (-yk)= -yk:=by rw[IntKind.wrap_i64];omega
 have hk0:(0:Int)<=k:=by omega
 have hk1:(k:Int)<k+1:=by omega
 clear e0
 gi_wp2
 refine wpIn_wide.2 (wp_region_noPanic ?_)
 go_region_law(fail)
 all_goals
  generalize hw5:World.drew _=w5;have bm:cN w5 N ((eZ x).map (Value.int .i64)):=by
   rw[<-hw5,wH x k ac,a7.o,List.map_set,<-iN]
   first
    |exact((aI.o.set (k:=k) (by rw[iN];simp;omega) (.int .i64 (-xk))).off aA _).drew
    |exact((aI.o.off aA _).set (k:=k) (by rw[iN];simp;omega) (.int .i64 (-xk))).drew
  have bn:cN w5 F ((eZ y).map (Value.int .i64)):=by
   rw[<-hw5,wH y k aa,a9.o,List.map_set,<-iN]
   first
    |exact((aJ.o.off (λe=>aA e.symm) _).set (k:=k) (by rw[iN];simp;omega) (.int .i64 (-yk))).drew
    |exact((aJ.o.set (k:=k) (by rw[iN];simp;omega) (.int .i64 (-yk))).off (λe=>aA e.symm) _).drew
  have aN:Below Y.heap.size Y w5:=by
   rw[<-hw5];exact((a0.o.setCell (by first|exact av|(show Y.heap.size<=F;omega)) _).setCell (by first|exact av|(show Y.heap.size<=F;omega)) _).drew
  have bS:w5.heap.size=w3.heap.size:=by rw[<-hw5];simp
  have aT:∀k,off k->cX Y w5 off k:=λk h=>.inl h
  have aL:=P1.o.below aN;have bs:Hid (cP B off w w5):=Z (P2.o.trans (cP.of_below aN P1.o.lt P1.o.base) λ _ h=>h);have aD:CAt w5 (cX Y w5 off) (some ⟨N,0,none⟩,k+1,O) (eZ x):=(iu bm (by rw[sG];exact ac) (by omega) O).less λj e=>by subst e;exact .inr ⟨av,by omega⟩
  have aE:CAt w5 (cX Y w5 off) (some ⟨F,0,none⟩,k+1,P) (eZ y):=(iu bn (by rw[sG];exact aa) (by omega) P).less λj e=>by subst e;exact .inr ⟨by omega,by omega⟩
  have aR:=(pM a3.o).1;have aS:=(pM a4.o).1;obtain⟨U,bl⟩:∃U,cX Y w5 off=U:=⟨_,rfl⟩
  rw[bl] at aL aD aE aT;obtain⟨f,bq⟩:∃f,eZ x=f:=⟨_,rfl⟩
  obtain⟨g,br⟩:∃g,eZ y=g:=⟨_,rfl⟩
  rw[bq] at aD aR;rw[br] at aE aS;have aF:=Z aL;have bA:=Z aD;have bB:=Z aE;have aG:=Z aR;have aH:=Z aS;have a5:=Z aT;clear bm bn aN bS hw5 aL aD aE aR aS aT bl aI aJ a0 ac aa a7 a9 ca fa cb fb bL bM bQ bR av bK;generalize hm:k+1=m at*;refine NoPanic.normal ?_
  gi_wp2_with (first
   |(refine⟨ai,?_⟩;gi_at_call 80;refine(callsIn_wide.2 (gX _ _)).mono ?_;rintro e w2 ⟨rfl,rfl⟩)
   |(refine⟨ai,?_⟩;gi_at_call 169;refine(callsIn_wide.2 (nO _ _ _ _ _ _ _)).mono ?_;rintro e w2 ⟨rfl,rfl⟩))
  have an:Below w5.heap.size w5 (((((w5.alloc (.cells #[.pointer (some ⟨G,0,none⟩),.int .i64 0] 172)).alloc (.cells #[.pointer (some ⟨w5.heap.size,0,none⟩)] 170)).alloc (.cells #[.int .i64 (-1)] 3)).alloc (.cells #[.slice (some ⟨N,0,none⟩) m O] 23)).alloc (.cells #[.slice (some ⟨F,0,none⟩) m P] 23)):=cU (cU (cU (cU (cU (A4 _ _) _) _) _) _) _;have q0:cN (((((w5.alloc (.cells #[.pointer (some ⟨G,0,none⟩),.int .i64 0] 172)).alloc (.cells #[.pointer (some ⟨w5.heap.size,0,none⟩)] 170)).alloc (.cells #[.int .i64 (-1)] 3)).alloc (.cells #[.slice (some ⟨N,0,none⟩) m O] 23)).alloc (.cells #[.slice (some ⟨F,0,none⟩) m P] 23)) w5.heap.size [.pointer (some ⟨G,0,none⟩),.int .i64 0]:=((((cN.made rfl).alloc _).alloc _).alloc _).alloc _;have q1:cN (((((w5.alloc (.cells #[.pointer (some ⟨G,0,none⟩),.int .i64 0] 172)).alloc (.cells #[.pointer (some ⟨w5.heap.size,0,none⟩)] 170)).alloc (.cells #[.int .i64 (-1)] 3)).alloc (.cells #[.slice (some ⟨N,0,none⟩) m O] 23)).alloc (.cells #[.slice (some ⟨F,0,none⟩) m P] 23)) (w5.heap.size+1) [.pointer (some ⟨w5.heap.size,0,none⟩)]:=(((cN.made (by simp)).alloc _).alloc _).alloc _;have q2:cN (((((w5.alloc (.cells #[.pointer (some ⟨G,0,none⟩),.int .i64 0] 172)).alloc (.cells #[.pointer (some ⟨w5.heap.size,0,none⟩)] 170)).alloc (.cells #[.int .i64 (-1)] 3)).alloc (.cells #[.slice (some ⟨N,0,none⟩) m O] 23)).alloc (.cells #[.slice (some ⟨F,0,none⟩) m P] 23)) (w5.heap.size+1+1) [.int .i64 (-1)]:=((cN.made (by simp)).alloc _).alloc _;have q3:cN (((((w5.alloc (.cells #[.pointer (some ⟨G,0,none⟩),.int .i64 0] 172)).alloc (.cells #[.pointer (some ⟨w5.heap.size,0,none⟩)] 170)).alloc (.cells #[.int .i64 (-1)] 3)).alloc (.cells #[.slice (some ⟨N,0,none⟩) m O] 23)).alloc (.cells #[.slice (some ⟨F,0,none⟩) m P] 23)) (w5.heap.size+1+1+1) [.slice (some ⟨N,0,none⟩) m O]:=(cN.made (by simp)).alloc _;have q4:cN (((((w5.alloc (.cells #[.pointer (some ⟨G,0,none⟩),.int .i64 0] 172)).alloc (.cells #[.pointer (some ⟨w5.heap.size,0,none⟩)] 170)).alloc (.cells #[.int .i64 (-1)] 3)).alloc (.cells #[.slice (some ⟨N,0,none⟩) m O] 23)).alloc (.cells #[.slice (some ⟨F,0,none⟩) m P] 23)) (w5.heap.size+1+1+1+1) [.slice (some ⟨F,0,none⟩) m P]:=cN.made (by simp);generalize hW0:(((((w5.alloc (.cells #[.pointer (some ⟨G,0,none⟩),.int .i64 0] 172)).alloc (.cells #[.pointer (some ⟨w5.heap.size,0,none⟩)] 170)).alloc (.cells #[.int .i64 (-1)] 3)).alloc (.cells #[.slice (some ⟨N,0,none⟩) m O] 23)).alloc (.cells #[.slice (some ⟨F,0,none⟩) m P] 23))=W0 at*;have hz:W0.heap.size=w5.heap.size+5:=by rw[<-hW0];simp
  clear hW0;have aw:∀k,U k->k<w5.heap.size:=aF.o.lt;have bh:B<=w5.heap.size:=aF.o.base;have bf:LI w5 B G U (cX w5 W0 U) [(w5.heap.size+1+1,[.int .i64 (-1)]),(w5.heap.size,[.pointer (some ⟨G,0,none⟩),.int .i64 0]),(w5.heap.size+1,[.pointer (some ⟨w5.heap.size,0,none⟩)])] W0 b:=by
   refine⟨aF.o.below an,cP.of_below an aw bh,λp hp=> ?_,aw,λ _=>.inl,bh⟩;rcases List.mem_cons.1 hp with rfl|hp
   ·exact⟨q2,.inr ⟨by simp;omega,by simp;omega⟩,by simp;omega⟩
   rcases List.mem_cons.1 hp with rfl|hp
   ·exact⟨q0,.inr ⟨by simp,by simp;omega⟩,by simp⟩
   rcases List.mem_cons.1 hp with rfl|hp
   ·exact⟨q1,.inr ⟨by simp,by simp;omega⟩,by simp⟩
   cases hp
  have ae:=bA.o;have af:=bB.o;have ac:f.length=m:=ae.len.symm;have aa:g.length=m:=af.len.symm;have hP:jq (λk=>U k\/k=w5.heap.size+1+1+1\/k=w5.heap.size+1+1+1+1) m f g (w5.heap.size+1+1+1) (w5.heap.size+1+1+1+1) W0:=
   ⟨⟨some ⟨N,0,none⟩,O,some ⟨F,0,none⟩,P,(q3.at_ 0 _ rfl).1,(q4.at_ 0 _ rfl).1,ae.at_.below an,af.at_.below an,λa e=>.inl (ae.blk a e),λa e=>.inl (af.blk a e)⟩,.inr (.inl rfl),.inr (.inr rfl)⟩
  have bc:∀k,(U k\/k=w5.heap.size+1+1+1\/k=w5.heap.size+1+1+1+1)->k<W0.heap.size:=λk hk=>by
   rcases hk with hk|rfl|rfl
   ·have:=aw k hk;omega
   ·omega
   omega
  have be:∀k,(U k\/k=w5.heap.size+1+1+1\/k=w5.heap.size+1+1+1+1)->cX w5 W0 U k:=λk hk=>by
   rcases hk with hk|rfl|rfl
   ·exact .inl hk
   ·exact .inr ⟨by omega,by omega⟩
   exact .inr ⟨by omega,by omega⟩
  obtain⟨K,Q⟩:∃K,(λk=>U k\/k=w5.heap.size+1+1+1\/k=w5.heap.size+1+1+1+1)=K:=⟨_,rfl⟩
  rw[Q] at hP;have bd:∀k,K k->k<W0.heap.size:=by rw[<-Q];exact bc
  have aM:∀k,K k->cX w5 W0 U k:=by rw[<-Q];exact be
  have bH:∀k,K k->k≠w5.heap.size+1+1:=by
   rw[<-Q];rintro k (hk|rfl|rfl)
   ·have:=aw k hk;omega
   ·omega
   omega
  clear Q bc be ae af q0 q1 q2 q3 q4 an;obtain⟨aZ,bk⟩:∃aZ,cX w5 W0 U=aZ:=⟨_,rfl⟩
  rw[bk] at bf aM;clear bk;refine wpIn_rangeFunc_ownF rfl (by decide) (gf:=184) (lb:=#[.pointer (some ⟨w5.heap.size+1+1+1,0,none⟩),.pointer (some ⟨w5.heap.size+1+1+1+1,0,none⟩)]) rfl ai (enters_of Tryz.func184 (by kernel_rfl) rfl)
   (ql (5-1) (by decide) _ _ m ba K f g ac aa W0 hP bd) (λh k=>fM.trans h k) (qp bd) (A4 _ _) (λ _=>rfl)
   (λE W=>E.length<=m/\LI w5 B G U aZ [(w5.heap.size+1+1,[.int .i64 (ltF (E.map (bt f)) (E.map (bt g)) (-1) b).1]),(w5.heap.size,[.pointer (some ⟨G,0,none⟩),.int .i64 0]),(w5.heap.size+1,[.pointer (some ⟨w5.heap.size,0,none⟩)])] W (ltF (E.map (bt f)) (E.map (bt g)) (-1) b).2)
   (λ _ _ _=>False)
   (λs A B row hs hg T=>⟨hs.1,hs.2.own hg λj e=>⟨by have:=(T j e).1;omega,(T j e).2⟩⟩)
   (λ _ _ _ _ _ hs _ _=>hs)
   ⟨by simp,by simpa[ltF] using bf⟩
   (λi=>{tmps:=#[.pointer (some ⟨G,0,none⟩),.slice (some ⟨N,0,none⟩) m O,.slice (some ⟨F,0,none⟩) m P,.bool true,undef,undef,undef,undef,.int .i64 0,.int .i64 0,.int .i64 0,.pointer (some ⟨w5.heap.size+1,0,none⟩),.pointer (some ⟨w5.heap.size+1+1,0,none⟩),.int .i64 (bt f i),.int .i64 (bt g i),.pointer (some ⟨G,0,none⟩),.slice ax m cx,.slice ay m cy,.slice (some ⟨w.heap.size,0,none⟩) 2 2,.int .i64 0,.int .i64 0,.bool false,undef,.bool true,.slice ax m cx,.slice (some ⟨N,0,none⟩) m O,.slice ay m cy,.slice (some ⟨F,0,none⟩) m P,.slice (some ⟨N,0,none⟩) m O,.slice (some ⟨N,0,none⟩) m O,.int .i64 (k+1),.int .i64 k,.slice (some ⟨F,0,none⟩) m P,.slice (some ⟨F,0,none⟩) m P,.int .i64 (k+1),.int .i64 k,.slice (some ⟨N,0,none⟩) m O,.slice (some ⟨N,0,none⟩) m O,.int .i64 (k+1),.int .i64 k,.pointer (some ⟨N,k,none⟩),.int .i64 xk,.int .i64 (-xk),.slice (some ⟨F,0,none⟩) m P,.slice (some ⟨F,0,none⟩) m P,.int .i64 (k+1),.int .i64 k,.pointer (some ⟨F,k,none⟩),.int .i64 yk,.int .i64 (-yk),.pointer (some ⟨N,k,none⟩),.pointer (some ⟨F,k,none⟩),.pointer (some ⟨G,0,none⟩),.agg #[.pointer (some ⟨G,0,none⟩),.int .i64 0],.pointer (some ⟨w5.heap.size,0,none⟩),.pointer (some ⟨G,0,none⟩),.int .i64 1,.int .i64 (-1),.slice (some ⟨N,0,none⟩) m O,.slice (some ⟨F,0,none⟩) m P,.func (.func 184) #[] #[.pointer (some ⟨w5.heap.size+1+1+1,0,none⟩),.pointer (some ⟨w5.heap.size+1+1+1+1,0,none⟩)],.int .i64 (bt f i),.int .i64 (bt g i),undef,undef,undef,undef,undef,undef,undef,undef,undef,undef,undef,undef,undef],defers:=[]}) ?assign ?body ?done ?stop
  case assign=>
   intro l i W K2 bG;dsimp only[lh]
   gi_wp2
   exact bG
  case body=>
   rintro l E i W ⟨hpl,S⟩ hlen;have ao:=jr aG.o ac i;have aq:=jr aH.o aa i;have hE:(ltF ((E++[i]).map (bt f)) ((E++[i]).map (bt g)) (-1) b)=dI (cR (ltF (E.map (bt f)) (E.map (bt g)) (-1) b).2 (bt f i) (bt g i)).2 (cR (ltF (E.map (bt f)) (E.map (bt g)) (-1) b).2 (bt f i) (bt g i)).1 (bt g i) (ltF (E.map (bt f)) (E.map (bt g)) (-1) b).1:=by
    rw[List.map_append,List.map_append];exact wk _ _ _ _ _ _ (by simp)
   have ab:=lT (E.map (bt f)) (E.map (bt g)) (-1) b H.o.wf (jP aG.o ac E) (jP aH.o aa E) (eu H.o.wf.pos).neg;have ah:=mi (E.map (bt f)) (E.map (bt g)) (-1) b;obtain⟨r,T⟩:∃r,ltF (E.map (bt f)) (E.map (bt g)) (-1) b=r:=⟨_,rfl⟩
   rw[T] at S hE ab ah;obtain⟨V,R⟩:=r;have aW:cW R 1000:=by
    have h1:sz R<=sz b+14*(E.map (bt f)).length:=ah;have h2:sz b+2000<=900000:=HR.o;rw[An] at h1;show sz R+1000<=900000;omega
   have au:=S.drew;have c1:=S.at0 (w5.heap.size+1+1) (v:=.int .i64 V) (vs:=[]) (by simp);have c2:=S.at0 (w5.heap.size+1) (v:=.pointer (some ⟨w5.heap.size,0,none⟩)) (vs:=[]) (by simp);obtain⟨c1,f1⟩:=c1;obtain⟨c2,_⟩:=c2;have az:=au.mk_ (mb:=w5.heap.size) (by simp);have aQ:okL R.n (bt f i):=ao.mono ab.gr.n;have aB:okL R.n (bt g i):=aq.mono ab.gr.n;have aX:=iH ab.wf aQ aB;have a8:=Z (qk au.nc (aW.mono (by omega)) az aQ aB);have aY:=jM R (bt f i) (bt g i);obtain⟨r2,bo⟩:∃r2,cR R (bt f i) (bt g i)=r2:=⟨_,rfl⟩
   rw[bo] at aX a8 hE aY;obtain⟨xd,xb⟩:=r2;have HL:=Z au;have bp:cW xb 20:=by
    have h1:sz R+1000<=900000:=aW;have h2:sz xb<=sz R+7:=aY;show sz xb+20<=900000;omega
   have aK:=Z aX;have bu:=Z ab;have bv:=Z aB;have HE:=Z hE;have bw:=Z bp;clear aX ab hE aW bp ah aY T bo S au az ao aq aQ aB;generalize bt f i=p at*;generalize bt g i=q at*
   gi_wp2
   have ad:W.drew.cell? ⟨w5.heap.size+1,0,none⟩=some (.pointer (some ⟨w5.heap.size,0,none⟩))/\W.drew.cell? ⟨w5.heap.size+1+1,0,none⟩=some (.int .i64 V):=⟨c2,c1⟩
   refine qt (λw'=>w'.cell? ⟨w5.heap.size+1,0,none⟩=some (.pointer (some ⟨w5.heap.size,0,none⟩))/\w'.cell? ⟨w5.heap.size+1+1,0,none⟩=some (.int .i64 V)) (λi=>i==8) (by kernel_rfl) (by kernel_rfl) (λJ hJ=> ?_)
   repeat(
    (first|apply tk2 0 (by rfl) (by decide+kernel) (by assumption)|apply tk2 1 (by rfl) (by decide+kernel) (by assumption)|apply tk0 2 (by rfl) (by decide+kernel)|apply tk0 3 (by rfl) (by decide+kernel)|apply tk0 5 (by rfl) (by decide+kernel)|apply tk2 6 (by rfl) (by decide+kernel) (by assumption))
    intro w bJ
    try dsimp only at bJ
    (go_simp<;>with_reducible rfl)
    try simp only[pS,pN,pA,pZ,pC])
   refine tk5 4 (by kernel_rfl) (by rfl) λK Q=> ?_
   go_simp
   go_at_call 173
   refine a8.o.mono ?_;rintro e w2 ⟨rfl,p1,p2⟩;have aj:=Z (HL.o.step p1 p2);have a6:=Z (LI.same p2 aM);have bC:=(aj.o.1.at0 (w5.heap.size+1+1) (v:=.int .i64 V) (vs:=[]) (by simp)).1;have bE:=(aj.o.1.at0 (w5.heap.size+1) (v:=.pointer (some ⟨w5.heap.size,0,none⟩)) (vs:=[]) (by simp)).1;clear p1 p2;refine Q.out _ _ ?_ (λad=> ?_)
   ·intro _ bI;exact⟨bE,bC⟩
   have ad:=ad rfl (by assumption);clear Q K
   try simp only[pS,pN,pA,pZ,pC]
   refine tk5 7 (by kernel_rfl) (by rfl) λK Q=> ?_
   go_simp
   go_at_call 170
   refine(sJ aj.o.1.nc bw.o (aj.o.1.mk_ (mb:=w5.heap.size) (by simp)) aK.o.lit (bv.o.mono aK.o.gr.n) (bu.o.lit.mono aK.o.gr.n)).mono ?_;rintro e w3 ⟨rfl,p1,p2⟩;have al:=Z (aj.o.1.step p1 p2);have bx:=Z (LI.same p2 aM);have bD:=(al.o.1.at0 (w5.heap.size+1+1) (v:=.int .i64 V) (vs:=[]) (by simp)).1;have f1'':=(al.o.1.at0 (w5.heap.size+1+1) (v:=.int .i64 V) (vs:=[]) (by simp)).2;have bF:=(al.o.1.at0 (w5.heap.size+1) (v:=.pointer (some ⟨w5.heap.size,0,none⟩)) (vs:=[]) (by simp)).1;clear p1 p2;refine Q.out _ _ ?_ (λad=> ?_)
   ·intro _ bI;exact⟨bF,bD⟩
   have ad:=ad rfl (by assumption);clear Q K
   try simp only[pS,pN,pA,pZ,pC]
   refine tk5 8 (by kernel_rfl) (by rfl) λK Q=> ?_
   go_simp;have bz:=Z (al.o.1.set (i:=0) (by simp;omega) (by simp) (.int .i64 (dI xb xd q V).1));refine Q.out _ _ ?_ (λad=> ?_)
   ·intro hl;cases hl
   clear ad;clear Q K
   try simp only[pS,pN,pA,pZ,pC]
   refine eN (by kernel_rfl) ?_ _;refine hJ.o _ _ ?_;clear hJ J;show Exit.inBlock 1 _ Exit.normal _ _
   gi_wp2
   refine⟨qq (aj.o.2.trans (al.o.2.trans (KeepsOthers.setCell _ _ _))),?_,by simp;omega,?_⟩
   ·exact fM.trans ⟨a6.o.size,a6.o.blk⟩ (bx.o.trans ⟨by simp,λk hk=>Aa _ _ _ k λe=>by have:=bH k hk;have e:k=w5.heap.size+1+1:=e;omega⟩)
   rw[HE.o];exact bz.o
  case done=>
   rintro D ys W hD rfl ⟨_,S⟩ Q;rw[jO ac,jO aa] at S;obtain⟨r,T⟩:∃r,ltF f g (-1) b=r:=⟨_,rfl⟩
   have hE:db x y true b=r:=by rw[<-T,<-bq,<-br];rfl
   have ab:=lT f g (-1) b H.o.wf aG.o aH.o (eu H.o.wf.pos).neg;have ah:=mi f g (-1) b;rw[T] at S ab ah;obtain⟨V,R⟩:=r;have c1:=(S.at0 (w5.heap.size+1+1) (v:=.int .i64 V) (vs:=[]) (by simp)).1;have c2:=(S.at0 (w5.heap.size+1) (v:=.pointer (some ⟨w5.heap.size,0,none⟩)) (vs:=[]) (by simp)).1;have az:=S.mk_ (mb:=w5.heap.size) (by simp);have bN: -900000<=V/\V<=900000:=by
    have h1:=ab.lit.b;have h2:sz R<=sz b+14*f.length:=ah;have h3:sz b+2000<=900000:=HR.o;have h4:sz R=R.n+R.c.length:=rfl;have h5:V<=(R.n:Int)/\ -(R.n:Int)<=V:=h1.2;omega
   obtain⟨hrd1,hrd2⟩:=bN;have HL:=Z S;have HE:=Z hE;have h2:=S.own (grownBy_putObj' W D (.deferred none)) (λj e=>by cases e;exact⟨by omega,_,Q,rfl⟩);have HF:Hid (FB (W.putObj D (.deferred none)) B G R off/\cP B off w (W.putObj D (.deferred none))):=Z ⟨h2.fb.less λk h=>h2.up k (a5.o k h),bs.o.trans h2.kept a5.o⟩;clear h2;clear ab ah T hE S
   gi_wp2_with (first|(refine⟨ai,?_⟩;gi_at_call 82;refine(callsIn_wide.2 (sK az _)).mono ?_;rintro e w' ⟨rfl,rfl⟩))
   refine⟨by simp,.inl ⟨_,_,rfl,run_takeDeferred Q,?_⟩⟩;exact⟨_,results_tmp2 rfl _ _ _,by rw[HE.o];exact⟨rfl,HF.o⟩⟩
  case stop=>
   rintro D c E W _ _ h _;exact h.elim
