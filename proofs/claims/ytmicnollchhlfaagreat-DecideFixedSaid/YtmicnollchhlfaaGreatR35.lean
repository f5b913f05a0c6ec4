/- Plain: terms that fix six variables to given values. -/
import Derived.Test.YtmicnollchhlfaaGreatR34
set_option linter.all false
namespace Go.Proofs.YtmicnollchhlfaaGreat
open Go.RowKit
theorem LM p q w:CallsD Tryz.prog 77 #[.pointer (some p),.pointer (some q)] .returning w λe d w'=>e= .returned (.tuple #[])/\d= .returning/\w'=w:=by refine callsD_of_wpS Tryz.func77 rfl λa cs c=> ?_;have hnil:∀w:World,(Op.equalIn 10000 20 .nilIface .nilIface).run Tryz.prog w= .ok true w:=λw=>by{kernel_rfl};apply wpS_seq;apply wpS_region;simp[wpOpsS,go_sem,recoverD,c,Tryz.ntmps77,Exit.thenS];refine wpS_of_wp ?_;refine wp_block ?_;go_wp2_with fail;cases a;simp_all[bodyPostS,results,Tryz.results77]
def CH(w:World)(B bb:Nat)(off:Nat->Prop)(xb r wb vb W:Nat)(L:List Nd)(Z:Nat)(M:Mo)(b:Bl)(t:Nat)(e:Ending)(w':World):=∃hd off' M' b' wd,e= .returned (.tuple #[hdV hd,.int .i64 0])/\(∀k,off k->off' k)/\fC w' B bb off' xb r wb vb W L Z M' b'/\Gw W L M b M' b'/\(t,wd)∈M'/\CAt w' off' hd wd/\hd.2.1=W/\cP B (λk=>off k/\k≠wb/\k≠vb) w w'
section
variable {w:World} {B bb:Nat} {off:Nat->Prop} {xb r wb vb W:Nat} {L:List Nd} {Z:Nat} {M:Mo} {b:Bl} {t:Nat}
set_option maxRecDepth 100000 in
set_option maxHeartbeats 4000000 in
theorem LP(h:fC w B bb off xb r wb vb W L Z M b)(ht:t<L.length):Calls Tryz.prog 47 #[.pointer (some ⟨xb,0,none⟩),.int .i64 t] w (CH w B bb off xb r wb vb W L Z M b t):=by
 have F:Below w.heap.size w ((w.alloc (.cells #[.slice none 0 0] 23)).alloc (.cells #[.int .i64 0] 33)):=cU (cU (A4 _ _) _) _;have ab:=h.kept (cP.of_below F h.bl.fb.lt h.bl.fb.base) (h.bl.fb.below F) λ _=>.inl
 have HW:=Lib.hid (CG (t+1) t (AJ t) ht _ _ M b ab);have Y:=Lib.hid (vS (h.bl.rv.rv.below F));obtain⟨c0,_⟩:=h.bl.xp.at_ 0 (.pointer (some ⟨r,0,none⟩)) rfl;have hxb:=h.bl.xp.lt;have H:=Lib.hid h;have hti:(t:Int)<L.length:=by omega
 have dt1:decide ((t:Int)<0)=false:=decide_eq_false (by omega);have dt2:decide (L.length<=t)=false:=decide_eq_false (by omega);have dt3:decide ((L.length:Int)<=t)=false:=decide_eq_false (by omega);have hmf:∀(fn:Fn) (first cap:Array Value) (w:World),(Instr.makeFunc fn first cap).run Tryz.prog w= .ok (.func fn first cap) w:=λ _ _ _ _=>rfl
 clear h ab
 go_enter_defers Tryz.func47,Tryz.ntmps47
 go_wp2_with(first
  |(go_at_call 13;refine Y.o.mono ?_;rintro e w3 ⟨rfl,rfl⟩)
  |(go_at_call 78
    refine HW.o.mono ?_;rintro e l ⟨⟨T,nl,nc⟩,J,M7,b7,wd,he,u7,i7,g7,_,m7,c7,k7⟩;obtain rfl:e= .returned (.slice T nl nc):=he;have N:=Lib.hid u7;have n:=Lib.hid i7;have U:=Lib.hid g7;have K:=Lib.hid m7;have E:=Lib.hid c7;have D:=Lib.hid k7;clear u7 i7 g7 m7 c7 k7)
  |(at_builtin;suffices hzz:id (wpList _ _ _ _ _ _) from hzz))
 show wpList _ _ _ _ _ _;have an:=(n.o.mo.each _ _ K.o).2.1;have hw4:=n.o.h4;have aj:wd.length=nl:=E.o.len.symm;have aa:Hid (T=none->nc=0):=Lib.hid E.o.non;have V:Hid ((Lay.int .i64).At 0 l T wd):=Lib.hid E.o.at_;refine gW (d:=0) Tryz.elemI rfl _ _ rfl rfl (Lay.Own.nil _ l.heap.size) rfl aa.o aj V.o (by simp;omega) (A1 _) ?_;intro v1 a G A _;rw[List.nil_append] at G;have z:Below l.heap.size l a:=Below.grown (A4 l.heap.size l) (w':=a) ⟨A.os,A.tape,A.output,A.size,A.block⟩ (A1 _) λj e=>by cases e
 obtain⟨⟨c,vl,g⟩,rfl,hcat⟩:=js G;have am:W=vl:=(hcat.len.trans an).symm;subst am;have P:=G.lt;have hwbl:wb<w.heap.size:=H.o.bl.fb.lt _ H.o.bl.wo;have hvbl:vb<w.heap.size:=H.o.bl.fb.lt _ H.o.bl.vo;have O:B<=w.heap.size:=H.o.bl.fb.base;have S:=D.o.size;have R:SlB a w.heap.size [(none,0,0)]:=by
  unfold SlB;rw[z.block _ (by simp at S;omega),D.o.off _ ⟨.inr ⟨A1 _,by simp;omega⟩,by omega,by omega⟩,fL _ _ (by simp)];exact mj _ _ rfl
 have al:a.cell? ⟨w.heap.size+1,0,none⟩=some (.int .i64 0)/\a.frozen? ⟨w.heap.size+1,0,none⟩=false:=by
  have hh:a.heap[w.heap.size+1]? =some (.cells #[.int .i64 0] 33 (0,0)):=by
   rw[z.block _ (by simp at S;omega),D.o.off _ ⟨.inr ⟨by omega,by simp⟩,by omega,by omega⟩];exact mj _ _ (by simp)
  exact⟨by simp[World.cell?,hh],by simp[World.frozen?,hh]⟩
 obtain⟨ah,p9b⟩:=al;obtain⟨ao,p8b⟩:=R.part.at_ 0 (.slice none 0 0) rfl;have Q:∀k,cX w ((w.alloc (.cells #[.slice none 0 0] 23)).alloc (.cells #[.int .i64 0] 33)) off k->cX l a J k:=λk hk=>.inl (N.o k hk)
 have ac:=n.o.kept (cP.of_below z n.o.bl.fb.lt n.o.bl.fb.base) (n.o.bl.fb.below z) λ _=>.inl
 have ad:=ac.setSl R (Q _ (.inr ⟨A1 _,by simp;omega⟩)) O (by omega) (by omega) (by omega) 0 (.slice c W g);have ae:CAt (a.setCell ⟨w.heap.size,0,none⟩ (.slice c W g)) (cX l a J) (c,W,g) wd:=hcat.frame (by simp) (λk hk=>Aa a ⟨w.heap.size,0,none⟩ _ k (by show k≠w.heap.size;have:=P k hk;simp at S;omega)) λk hk=>.inr (P k hk)
 have HP:Hid (CH w B bb off xb r wb vb W L Z M b t (.returned (.tuple #[.slice c W g,.int .i64 0])) (a.setCell ⟨w.heap.size,0,none⟩ (.slice c W g))):=Lib.hid ⟨(c,W,g),cX l a J,M7,b7,wd,rfl,λk hk=>Q k (.inl hk),ad,U.o,K.o,ae,rfl,by
  have k1:cP B off w ((w.alloc (.cells #[.slice none 0 0] 23)).alloc (.cells #[.int .i64 0] 33)):=cP.of_below F H.o.bl.fb.lt O;have k3:cP B J l a:=cP.of_below z n.o.bl.fb.lt n.o.bl.fb.base;refine(((k1.less λk hk=>hk.1).trans D.o λk hk=>⟨.inl hk.1,hk.2⟩).trans k3 λk hk=>N.o k (.inl hk.1)).trans (CF a O 0 _) λk hk=> ?_
  have:=H.o.bl.fb.lt k hk.1;omega⟩
 clear ac ad ae hcat G A R P Q N n U K E D HW Y aa V z;have ai:¬w.heap.size=w.heap.size+1:=by omega
 have af:¬w.heap.size+1=w.heap.size:=by omega
 have e9:((a.setCell ⟨w.heap.size,0,none⟩ (.slice c W g)).setCell ⟨w.heap.size+1,0,none⟩ (.int .i64 0))=a.setCell ⟨w.heap.size,0,none⟩ (.slice c W g):=qh (qG af ah);have E9:=Lib.hid e9;clear e9
 go_wp2_with fail
 have ra:((a.setCell ⟨w.heap.size,0,none⟩ (.slice c W g)).setCell ⟨w.heap.size+1,0,none⟩ (.int .i64 0)).cell? ⟨w.heap.size,0,none⟩=some (.slice c W g):=qG ai (vO ao);have rb:((a.setCell ⟨w.heap.size,0,none⟩ (.slice c W g)).setCell ⟨w.heap.size+1,0,none⟩ (.int .i64 0)).cell? ⟨w.heap.size+1,0,none⟩=some (.int .i64 0):=vO (qG af ah);rw[<-E9.o] at HP;generalize(a.setCell ⟨w.heap.size,0,none⟩ (.slice c W g)).setCell ⟨w.heap.size+1,0,none⟩ (.int .i64 0)=wz at*;refine leaves_cons (f:=77) (args:=#[.pointer (some ⟨w.heap.size,0,none⟩),.pointer (some ⟨w.heap.size+1,0,none⟩)]) (by simp) (by simp[go_sem]) ?_;refine(LM ⟨w.heap.size,0,none⟩ ⟨w.heap.size+1,0,none⟩ _).mono ?_;rintro e u' w'' ⟨rfl,rfl,rfl⟩;simp[Leaves,settle,results,Tryz.results47,go_sem,ra,rb,Result.andThen];exact HP.o
end
open Go.RowKit Go.Shelf
structure Gx (M:Mo) (b:Bl) (M':Mo) (b':Bl):Prop where
 ext:∃E,M'=M++E
 mem:∀c∈b.c,c∈b'.c
theorem Gx.trans{M a d b f g}(h:Gx M b a f)(k:Gx a f d g):Gx M b d g:=by obtain⟨E,rfl⟩:=h.ext;obtain⟨j,rfl⟩:=k.ext;exact⟨⟨E++j,by simp⟩,λc l=>k.mem c (h.mem c l)⟩
theorem Gw.x{W L M M' b b'}(h:Gw W L M b M' b'):Gx M b M' b':=⟨h.ext,h.mem⟩
structure lr (W:Nat) (L:List Nd) (M:Mo) (b:Bl) (t:Nat):Prop where
 val:∀m σ,Sat m b->jz W L M m σ->vlN W σ L t≠0
 eqs:∀a c,(ndL L t).op=15->(ndL L t).args=[a,c]->(ndL L c).op=0->∃wa,(a,wa)∈M/\∀p,dE p b->∀l∈wa,pv p l≠none
theorem lr.grow{W L M f b j t}(h:lr W L M b t)(g:Gx M b f j):lr W L f j t:=by obtain⟨E,rfl⟩:=g.ext;refine⟨λm σ hm F=>h.val m σ (λc d=>hm c (g.mem c d)) (F.sub λe G=>Ak _ G),λa c l n z=> ?_⟩;obtain⟨J,A,D⟩:=h.eqs a c l n z;exact⟨J,Ak _ A,λp H=>D p λc d=>H c (g.mem c d)⟩
def kH wd b:=lO (ey wd b).2 [(ey wd b).1]
theorem CI e(a:e≠0) b:∀k,fq (List.replicate k (-1)) e b=(e,b)|0=>rfl|k+1=>by show fq (List.replicate k (-1)) (orF b e (-1)).1 (orF b e (-1)).2=_;have:orF b e (-1)=(e,b):=by{unfold orF dk;rw[if_pos (.inr rfl)];simp};rw[this];exact CI e a b k
theorem LS e(a:e≠0) m b:ey (ez e m) b=(e,b):=by show fq (List.replicate (m-1) (-1)) (orF b (-1) e).1 (orF b (-1) e).2=_;have:orF b (-1) e=(e,b):=by{unfold orF dk;by_cases h:e= -1;{subst h;simp};rw[if_neg (by omega),if_pos (by decide)];simp};rw[this];exact CI e a b (m-1)
section
variable {W:Nat} {L:List Nd} {M:Mo} {b:Bl} {t:Nat} {wd:List Int}
theorem LT(h:dP W L M b)(K:1<=W)(h4:W<=4)(Q:GOk W L)(ht:t<L.length)(hm:(t,wd)∈M):dP W L M (kH wd b)/\Gx M b M (kH wd b)/\lr W L M (kH wd b) t/\sz (kH wd b)<=sz b+40/\∀σ,vlN W σ L t≠0->fF W L M b σ->fF W L M (kH wd b) σ:=by have l:=h.each _ _ hm;have d:=sj h.wf l.2.2;have S:sz (ey wd b).2<=sz b+7*wd.length:=nM wd (-1) b;have A:=h.grow d.wf d.gr;have D:∀m σ,Sat m (ey wd b).2->jz W L M m σ->tv m (ey wd b).1=decide (vlN W σ L t≠0):=λm σ f g=>by{rw[d.val m f,A.val m σ f g _ _ hm];exact Df (xz σ K Q t)};refine⟨A.clause (by simpa using d.lit) (by simp),⟨⟨[],by simp⟩,λc O=>Ak _ (d.gr.mem O)⟩,⟨λm σ f g=> ?_,λa c U F V=> ?_⟩,?_,λ σ T R=>(R.grow h d.gr).clause λm f g=> ?_⟩;{obtain⟨Y,G⟩:=DB f;have:=D m σ Y g;simp only[holds,List.any_cons,List.any_nil,Bool.or_false] at G;rw[G] at this;simpa using this.symm};{obtain⟨H,E⟩:=h.subs _ _ hm a (by rw[F];simp);obtain⟨e,z,J⟩:=h.eqs _ _ a c H hm U F V E;refine⟨H,E,λp j=> ?_⟩;have P:e≠0:=(l.2.2 e (by rw[z];simp[ez])).1;have N:=LS e P W b;unfold kH at j;rw[z,N] at j;exact J p (xN j) (j.unit (List.mem_append_right _ (by simp)))};{show(ey wd b).2.n+((ey wd b).2.c++[_]).length<=_;have h2:(ey wd b).2.n+(ey wd b).2.c.length<=sz b+7*wd.length:=S;rw[Aq,List.length_singleton];have:=l.2.1;omega};simp only[holds,List.any_cons,List.any_nil,Bool.or_false];rw[D m σ f g];simpa using T
end
open Go
def Det(L:List Nd)(ts:List Nat):=∀t,t<L.length->(ndL L t).op=1->∃q∈ts,∃c,(ndL L q).op=15/\(ndL L q).args=[t,c]/\(ndL L c).op=0
section
variable {W:Nat} {L:List Nd} {M:Mo} {b:Bl} {ts:List Nat}
theorem LU(h:dP W L M b)(j:∀q∈ts,lr W L M b q)(hd:Det L ts){p}(D:dE p b):iS p b.n:=by refine h.tot p D λt wd hm A l z=> ?_;obtain⟨q,E,c,a,d,f⟩:=hd t (h.each t wd hm).1 A;obtain⟨wa,g,h5⟩:=(j q E).eqs t c a d f;rw[h.key hm g] at z;simp_all
theorem LV{n p}(f:iS p n){c}(hc:∀l∈c,okL n l)(g:kY p c):holds (λv=>p v==some true) c=true:=by rcases g with⟨l,a,h⟩|⟨l,a,k,hk,hne,d,h2⟩;{unfold holds;rw[List.any_eq_true];refine⟨l,a,?_⟩;unfold tv;unfold pv at h;grind};exact absurd d (f.lit (hc l a))
theorem LW(h:Wf b){p}(hp:dE p b)(hf:iS p b.n):Sat (λv=>p v==some true) b:=λc hc=>LV hf (h.lit c hc) (hp c hc)
def qI(W:Nat)(L:List Nd)(M:Mo)(m:Nat->Bool)(n:Nat)(xs:List Nat):=xs.length=n/\(∀x∈xs,x<2^W)/\∀v t,v<n->(v,t)∈cY L M->∀wd,(t,wd)∈M->dS W (xs.getD v 0)=wd.map (tv m)
theorem LY{t wd}(hm:(t,wd)∈M)(ho:(ndL L t).op=1):((ndL L t).num,t)∈cY L M:=by unfold cY;grind
theorem qI.agree{m n xs}(h:qI W L M m n xs)(hn:∀t wd,(t,wd)∈M->(ndL L t).op=1->(ndL L t).num<n):jz W L M m xs:=λt wd hm ho=>by have h1:=hn t wd hm ho;have h2:=h.2.2 _ t h1 (LY hm ho) wd hm;rw[<-h2];unfold dR;rw[if_neg (by omega),if_pos ho,if_pos (by rw[h.1];omega),MC]
def LZ{m:Nat->Bool}{n:Nat}{xs:List Nat}(hh:∀q∈ts,lr W L M b q)(hm:Sat m b)(h:qI W L M m n xs)(hn:∀t wd,(t,wd)∈M->(ndL L t).op=1->(ndL L t).num<n):=λq hq=>(hh q hq).val m xs hm (h.agree hn)
theorem L2{σ}(hW:1<=W)(l:GOk W L){q t c}(g:q<L.length)(h:(ndL L q).op=15)(d:(ndL L q).args=[t,c]):vlN W σ L q≠0↔vlN W σ L t=vlN W σ L c:=by have f:=l q g;have n:t<q:=f.2.2.2.2.2.2 t (by show t∈(ndL L q).args;rw[d];simp);have j:c<q:=f.2.2.2.2.2.2 c (by show c∈(ndL L q).args;rw[d];simp);rw[oq g];have e:∀a,a<q->((dX W σ L).take q).getD a 0=vlN W σ L a:=λa ha=>by{unfold vlN;simp_all};unfold dR;rw[h,d];simp only[List.getD_cons_zero,List.getD_cons_succ,if_neg (show¬(15:Nat)=0 by decide),if_neg (show¬(15:Nat)=1 by decide),if_neg (show¬(15:Nat)=21 by decide)];rw[e t n,e c j];show b2n (vlN W σ L t=vlN W σ L c)≠0↔_;by_cases e2:vlN W σ L t=vlN W σ L c;{simp[e2,b2n]};simp[e2,b2n]
end
theorem nW{L E j}(h:j<L.length):ndL (L++E) j=ndL L j:=by unfold ndL;grind
theorem te n L:∃E,dW n L=L++E:=by unfold dW;split;all_goals simp_all
theorem xe n L:ndL (dW n L) (dO n L)=n:=by have:=C8 (Da n L);rw[C9] at this;exact this
theorem L3 W σ L E{t}(ht:t<L.length):vlN W σ (L++E) t=vlN W σ L t:=by have h:=xx W σ (L++E) L.length (by simp);rw[List.take_left' rfl] at h;unfold vlN;grind
theorem L5{W σ τ}(h6:σ.length=6)(k6:τ.length=6)(h:∀n,n<6->σ.getD n 0%2^W=τ.getD n 0%2^W):∀l,(∀n∈l,n.op=1->n.num<6)->dX W σ l=dX W τ l:=by intro l;rw[<-List.reverse_reverse l];generalize l.reverse=r;induction r with|nil=>intro _;rfl|cons n r ih=>intro a;rw[List.reverse_cons] at a⊢;have c:=ih λm hm=>a m (by simp_all);rw[oe,oe,c];congr 2;unfold dR;grind
structure FxI (W:Nat) (vals:List Nat) (L0 L:List Nd) (t k:Nat) (ts:List Nat):Prop where
 ext:∃E,L=L0++E
 len:ts.length=k+1
 hd:ts.getD 0 0=t
 lt:∀q∈ts,q<L.length
 eqs:∀n,n<k->∃v c,v<L.length/\c<L.length/\ndL L (ts.getD (n+1) 0)=⟨15,0,[v,c]⟩/\ndL L v=⟨1,n,[]⟩/\ndL L c=⟨0,vals.getD n 0%2^W,[]⟩
section
variable {W:Nat} {vals xs ts:List Nat} {L0 L:List Nd} {t k:Nat}
theorem FxI.start(ht:t<L0.length):FxI W vals L0 L0 t 0 [t]:=⟨⟨[],by simp⟩,rfl,rfl,λq hq=>by simp_all,λn hn=>by omega⟩
theorem FxI.next(h:FxI W vals L0 L t k ts){f d l v c q}(F:f=dW ⟨1,k,[]⟩ L)(Q:v=dO ⟨1,k,[]⟩ L)(G:d=dW ⟨0,vals.getD k 0%2^W,[]⟩ f)(hc:c=dO ⟨0,vals.getD k 0%2^W,[]⟩ f)(H:l=dW ⟨15,0,[v,c]⟩ d)(P:q=dO ⟨15,0,[v,c]⟩ d):FxI W vals L0 l t (k+1) (ts++[q]):=by obtain⟨J,e0⟩:=h.ext;obtain⟨K,E⟩:=te ⟨1,k,[]⟩ L;obtain⟨N,z⟩:=te ⟨0,vals.getD k 0%2^W,[]⟩ f;obtain⟨O,D⟩:=te ⟨15,0,[v,c]⟩ d;have S:=xe ⟨1,k,[]⟩ L;have T:=xe ⟨0,vals.getD k 0%2^W,[]⟩ f;have U:=xe ⟨15,0,[v,c]⟩ d;have l1:=qS ⟨1,k,[]⟩ L;have l2:=qS ⟨0,vals.getD k 0%2^W,[]⟩ f;have l3:=qS ⟨15,0,[v,c]⟩ d;rw[<-F,<-Q] at S l1;rw[<-G,<-hc] at T l2;rw[<-H,<-P] at U l3;rw[<-F] at E;rw[<-G] at z;rw[<-H] at D;have V:∀j,j<L.length->j<l.length/\ndL l j=ndL L j:=λj A=>by{have a1:j<f.length:=by{grind};have a2:j<d.length:=by{grind};refine⟨by grind,?_⟩;rw[D,nW a2,z,nW a1,E,nW A]};have p2:∀j,j<f.length->j<l.length/\ndL l j=ndL f j:=λj A=>by{have a2:j<d.length:=by{grind};refine⟨by grind,?_⟩;rw[D,nW a2,z,nW A]};have p3:∀j,j<d.length->j<l.length/\ndL l j=ndL d j:=λj A=>⟨by grind,by rw[D,nW A]⟩;have hl:=h.len;refine⟨⟨J++K++N++O,by grind⟩,by grind,?_,λx R=> ?_,λn hn=> ?_⟩;{rw[A2,AD (by omega),<-A2];exact h.hd};{rcases A6.1 R with a|a;{exact(V x (h.lt x a)).1};simp_all};by_cases e:n<k;{obtain⟨v',c',a1,a2,a3,a4,a5⟩:=h.eqs n e;have g:(ts++[q]).getD (n+1) 0=ts.getD (n+1) 0:=by{simp_all};have hm:ts.getD (n+1) 0<L.length:=h.lt _ (iU 0 ts _ (by omega));grind};have z:n=k:=by{omega};subst z;have g:(ts++[q]).getD (n+1) 0=q:=by{simp_all};grind
theorem FxI.mem(h:FxI W vals L0 L t 6 ts){n}(hn:n<6):ts.getD (n+1) 0∈ts:=iU 0 ts _ (by have:=h.len;omega)
theorem FxI.tm(h:FxI W vals L0 L t 6 ts):t∈ts:=by have:=iU 0 ts 0 (by have:=h.len;omega);rw[h.hd] at this;omega
theorem FxI.det(h:FxI W vals L0 L t 6 ts)(z:GOk W L)(A:L.Nodup)(f:∀j,j<L.length->(ndL L j).op=1->(ndL L j).num<6):Det L ts:=λj a d=>by obtain⟨v,c,a1,a2,g,l,n⟩:=h.eqs _ (f j a d);have ha:(ndL L j).args=[]:=by{have q:=(z j a).2.2.2.2.1;rw[show(L.getD j default).op=1 from d] at q;exact List.eq_nil_of_length_eq_zero q};have e:ndL L j=ndL L v:=by{rw[l];generalize ndL L j=x at*;cases x;simp_all};have e2:j=v:=by{unfold ndL at e;rw[A2,A2,A5 a,A5 a1] at e;exact(List.getElem_inj (h₀:=a) (h₁:=a1) A).1 e};refine⟨_,h.mem (f j a d),c,by rw[g],by grind,by rw[n]⟩
theorem FxI.occ(h:FxI W vals L0 L t 6 ts):qH L ts 5:=by obtain⟨v,c,a1,a2,d,a,a5⟩:=h.eqs 5 (by decide);refine⟨v,⟨_,h.mem (n:=5) (by decide),.arg .top (by show v∈(ndL L _).args;rw[d];simp)⟩,by show(ndL L v).op=1;rw[a],by show(((ndL L v).num:Nat):Int)=5;rw[a];rfl⟩
theorem FxI.eq(h:FxI W vals L0 L t 6 ts)(j:1<=W)(l:GOk W L){σ}(h6:σ.length=6){n}(d:n<6):vlN W σ L (ts.getD (n+1) 0)≠0↔σ.getD n 0%2^W=vals.getD n 0%2^W:=by obtain⟨v,c,a1,a2,a,f,g⟩:=h.eqs n d;rw[L2 j l (h.lt _ (h.mem d)) (by rw[a]) (by rw[a])];have ev:vlN W σ L v=σ.getD n 0%2^W:=by{rw[oq a1,f];unfold dR;simp_all};have ec:vlN W σ L c=vals.getD n 0%2^W:=by{rw[oq a2,g];rfl};omega
theorem FxI.same(h:FxI W vals L0 L t 6 ts)(g:t<L0.length)(h6:∀j,j<L.length->(ndL L j).op=1->(ndL L j).num<6){σ:List Nat}(hs:σ.length=6)(l:vals.length=6)(e:∀n,n<6->σ.getD n 0%2^W=vals.getD n 0%2^W):vlN W σ L t=vlN W vals L0 t:=by obtain⟨E,d⟩:=h.ext;have a:dX W σ L=dX W vals L:=L5 hs l e L λn f ho=>by{obtain⟨i,hi,he⟩:=List.mem_iff_getElem.1 f;have e3:ndL L i=n:=by{unfold ndL;grind};grind};have c:vlN W vals L t=vlN W vals L0 t:=by{rw[d];exact L3 W vals L0 E g};rw[<-c];unfold vlN;rw[a]
theorem FxI.sat(h:FxI W vals L0 L t 6 ts)(g:1<=W)(l:GOk W L)(A:t<L0.length)(f:∀j,j<L.length->(ndL L j).op=1->(ndL L j).num<6)(d:xs.length=6)(z:∀x∈xs,x<2^W)(D:vals.length=6)(c:∀q∈ts,vlN W xs L q≠0):(∀n,n<6->xs.getD n 0=vals.getD n 0%2^W)/\vlN W vals L0 t≠0:=by have e:∀n,n<6->xs.getD n 0%2^W=vals.getD n 0%2^W:=λn a=>(h.eq g l d a).1 (c _ (h.mem a));refine⟨λn a=> ?_,?_⟩;{rw[<-e n a,Am (z _ (iU 0 xs n (by omega)))]};rw[<-h.same A f d D e];exact c t h.tm
theorem FxI.unsat(h:FxI W vals L0 L t 6 ts)(f:1<=W)(g:GOk W L)(z:t<L0.length)(d:∀j,j<L.length->(ndL L j).op=1->(ndL L j).num<6)(c:vals.length=6)(l:∀σ,¬∀q∈ts,vlN W σ L q≠0):vlN W vals L0 t=0:=by rcases Nat.eq_zero_or_pos (vlN W vals L0 t) with e|e;{exact e};exfalso;refine l vals λq n=> ?_;obtain⟨i,hi,he⟩:=List.mem_iff_getElem.1 n;have a:ts.getD i 0=q:=by{simp_all};have hl:=h.len;cases i with|zero=>rw[h.hd] at a;rw[<-a,h.same z d c c λ _ _=>rfl];omega|succ i=>rw[<-a];exact(h.eq f g c (by omega)).2 rfl
end
