/- Walks: adder: Choose. -/
import Derived.Test.YtmicnollchhlfaaGreatR22
set_option linter.all false
namespace Go.Proofs.YtmicnollchhlfaaGreat
open Go.RowKit Go.Shelf
attribute [local go_sem] Oper.semAt_some
theorem LI.start{w w1 W0 B bb off offx b ps}(hF:FB w1 B bb b offx)(hk:cP B off w w1)(hup:∀k,off k->offx k)(hlt:∀k,off k->k<w.heap.size)(hB:B<=w.heap.size)(hb:Below w1.heap.size w1 W0)(hps:∀p∈ps,cN W0 p.1 p.2/\cX w1 W0 offx p.1/\w.heap.size<=p.1):LI w B bb off (cX w1 W0 offx) ps W0 b:=⟨hF.below hb,hk.trans (cP.of_below hb (λk h=>hF.lt k (hup k h)) hF.base:cP B off w1 W0) λ _ h=>h,hps,hlt,λk h=>.inl (hup k h),hB⟩
theorem LI.app{w W f B j off g r ps row}(h:LI w B j off g ps W r)(c:W.grownBy f row)(eE:∀k,row=some k->g k/\w.heap.size<=k/\∀p∈ps,p.1≠k):LI w B j off (cX W f g) ps f r:=by have t:=c.size;refine⟨h.fb.frame c.size λk hk n=>c.block k hk λe=>n (eE k e.symm).1,h.kept.trans (b:=W) (off':=off) ⟨c.os,c.tape,c.output,c.size,λk hk=> ?_,λk hk=> ?_⟩ λ _ h=>h,λp d=>⟨⟨A8 (h.ps p d).1.lt t,λi v e=> ?_⟩,.inl (h.ps p d).2.1,(h.ps p d).2.2⟩,h.lt,λk hk=>.inl (h.up k hk),h.base⟩;{have:=h.lt k hk;have:=h.kept.size;exact c.block k (by omega) λe=>by grind};{have:=h.base;have:=h.kept.size;exact c.block k (by omega) λe=>by grind};have l:=c.block p.1 (h.ps p d).1.lt λe=>(eE p.1 e.symm).2.2 p d rfl;have:=(h.ps p d).1.at_ i v e;exact⟨(Ah (a:=⟨p.1,i,none⟩) l).trans this.1,(World.frozen?_of_block (a:=⟨p.1,i,none⟩) l).trans this.2⟩
theorem wE{α}{L:Lay α}{e W d row base v xs}(h:L.Own e W base v xs)(n:W.grownBy d row)(A:∀r,row=some r->∃o,W.heap[r]? =some o/\o.isCells=false):L.Own e d base v xs:=by obtain⟨f,h|⟨g,j,k,rfl,t,c,z,hm,B,D⟩⟩:=h;{exact⟨f,.inl h⟩};refine⟨f,.inr ⟨g,j,k,rfl,t,(n.block g (Al.1 c).1 λe=> ?_).trans c,z,hm,B,D⟩⟩;obtain⟨o,a,l⟩:=A g e.symm;rw[c] at a;injection a with a;subst a;cases l
def LO(w:World)(B bb:Nat)(off off1:Nat->Prop)(base:Nat)(ps:Value->List (Nat×List Value))(xs:List Int)(r:Bl)(W:World):=∃off2 v,(∀k,off1 k->off2 k)/\LI w B bb off off2 (ps v) W r/\(Lay.int .i64).Own 3 W base v xs/\base<=W.heap.size/\∀k,v.ownBlock=some k->off2 k
theorem LO.own{w B d off g base ps xs r W c row}(h:LO w B d off g base ps xs r W)(a:W.grownBy c row)(f:∀j,row=some j->w.heap.size<=j/\∃o,W.heap[j]? =some o/\o.isCells=false):LO w B d off g base ps xs r c:=by obtain⟨A,v,k,l,n,z,t⟩:=h;exact⟨A,v,k,l.own a f,wE n a λj e=>(f j e).2,A9 z a.size,t⟩
theorem B8{w B g b off}(h:FB w B g b off)(G:cW b 20){c}(hc:okL b.n c){hs ws m k}(z:B3 w off b.n m hs ws)(hk:ws.length=k)(F:k<=3)(A:1<=m)(D:m<=64):Calls Tryz.prog 79 #[.pointer (some ⟨g,0,none⟩),.slice (some ⟨w.heap.size,0,none⟩) 1 1,.slice (some ⟨w.heap.size+1,0,none⟩) k k] ((w.alloc (.cells #[.int .i64 c] 3)).alloc (.cells (Lay.sl.flat hs).toArray 23)) (pY w B g off b):=by have f:Below w.heap.size w ((w.alloc (.cells #[.int .i64 c] 3)).alloc (.cells (Lay.sl.flat hs).toArray 23)):=cU (cU (A4 _ _) _) _;have E:=h.below f;have H:cN ((w.alloc (.cells #[.int .i64 c] 3)).alloc (.cells (Lay.sl.flat hs).toArray 23)) w.heap.size ([c].map (Value.int .i64)):=(cN.made rfl).alloc _;have a1:Lay.sl.At (none,0,0) ((w.alloc (.cells #[.int .i64 c] 3)).alloc (.cells (Lay.sl.flat hs).toArray 23)) (some ⟨w.heap.size+1,0,none⟩) hs:=by{have:=Lay.At.made (L:=Lay.sl) (d:=(none,0,0)) (w.alloc (.cells #[.int .i64 c] 3)) hs 23;simp_all};refine(BV E G (h0:=(some ⟨w.heap.size,0,none⟩,1,1)) (s0:=[c]) ((iu H rfl (A1 _) 1).less λk e=>.inr ⟨by omega,by simp;omega⟩) (by simp) (λl hl=>by simp_all) (hs:=hs) (ws:=ws) ⟨a1,z.cls.frame f.size (λj r=>f.block j (h.lt j r)) λj r=>.inl r,λa e=>by injection e with e;subst e;exact .inr ⟨by simp,by simp⟩⟩ hk F (λe=>by cases e) z.len A D z.ok).mono λe w' t=> ?_;exact⟨t.1,t.2.1.less λ _=>.inl,(cP.of_below f h.lt h.base).trans t.2.2 λ _=>.inl⟩
theorem dA{α}{L:Lay α}{e W a base v xs}(h:L.Own e W base v xs)(hk:∀k,v.ownBlock=some k->a.heap[k]? =W.heap[k]?):L.Own e a base v xs:=by obtain⟨c,h|⟨g,d,f,rfl,j,l,n,hm,r,t⟩⟩:=h;{exact⟨c,.inl h⟩};exact⟨c,.inr ⟨g,d,f,rfl,j,(hk g rfl).trans l,n,hm,r,t⟩⟩
theorem js{w base v xs}(h:(Lay.int .i64).Own 3 w base v xs):∃hd,v= .slice hd.1 hd.2.1 hd.2.2/\CAt w (λk=>v.ownBlock=some k) hd xs:=by obtain⟨hd,rfl,d⟩:=BU h;refine⟨hd,rfl,d.len,d.at_,λa e=> ?_,d.non,d.cel⟩;obtain⟨_,h|⟨g,c,cur,f,hg,hh,_⟩⟩:=h;{simp_all};rw[f];have:=(Value.slice.inj f).1;rw[e] at this;injection this with this;subst this;rfl
theorem B9{α}{L:Lay α}{e W base v xs}(h:L.Own e W base v xs) j o(d:v.ownBlock=some j)(a:W.heap[j]? =some o):o.isCells=true:=by obtain⟨hl,h|⟨g,cap,cur,rfl,hg2,f,hn,hm,hs,ht⟩⟩:=h;{rw[h.1] at d;cases d};have c:some g=some j:=d;injection c with c;subst c;rw[f] at a;injection a with a;subst a;rfl
def sL(w:World)(B bb:Nat)(off:Nat->Prop)(r:List Int×Bl)(e:Ending)(w':World):=∃hd off',e= .returned (.tuple #[.slice hd.1 hd.2.1 hd.2.2,.int .i64 0])/\(∀k,off k->off' k)/\FB w' B bb r.2 off'/\cP B off w w'/\CAt w' off' hd r.1/\(∀a,hd.1=some a->¬off a.block)/\hd.2.1<=hd.2.2
theorem sL.old{w B a off r e w'}(h:sL w B a off r e w'):dM w B a off r e w':=by obtain⟨k,l,c,d,f,g,j,_⟩:=h;exact⟨k,l,c,d,f,g,j⟩
set_option maxRecDepth 100000 in
set_option maxHeartbeats 4000000 in
theorem wF{w B g b off}(h:FB w B g b off)(U:cW b 2000){c}(hc:okL b.n c){G E N F m x y}(hx:CAt w off (G,m,N) x)(hy:CAt w off (E,m,F) y)(ai:okW b.n x)(aj:okW b.n y)(S:1<=m)(aZ:m<=64):
  Calls Tryz.prog 153 #[.pointer (some ⟨g,0,none⟩),.int .i64 c,.slice G m N,.slice E m F] w (sL w B g off (dt c x y b)):=by
 have aF:=trivial
 have aL:Below w.heap.size w (w.alloc (.cells #[.int .i64 c] 3)):=cU (A4 _ _) _;have a0:=h.below aL;have aq:cP B off w (w.alloc (.cells #[.int .i64 c] 3)):=cP.of_below aL h.lt h.base;have qA:cN (w.alloc (.cells #[.int .i64 c] 3)) w.heap.size [.int .i64 c]:=cN.made rfl;have be:cX w (w.alloc (.cells #[.int .i64 c] 3)) off w.heap.size:=.inr ⟨A1 _,by simp⟩;have HC:=Z (B8 (hs:=[(G,m,N),(E,m,F)]) (ws:=[x,y]) (m:=m) (k:=2) a0 (U.mono (by omega)) hc ⟨(di.cons (C:=[y]) (hs:=[(E,m,F)]) (di.cons (C:=[]) (hs:=[]) ⟨rfl,λi hi=>by grind⟩ ((hy.kept aq).less λ _=>.inl)) ((hx.kept aq).less λ _=>.inl)),by simp[hx.len.symm,hy.len.symm],by simp_all⟩ rfl (by omega) S aZ);rw[World.size_alloc] at HC;have cA:(w.alloc (.cells #[.int .i64 c] 3)).cell? ⟨w.heap.size,0,none⟩=some (.int .i64 c):=(qA.at_ 0 _ rfl).1;have H:=Z h;have HR:=Z U;have HX:=Z hx;have HY:=Z hy;have aU:=Z ai;have aV:=Z aj;have bj:=Z qA;have aS:=Z aq;have aH:=Z be;have aR:=Z hc;obtain⟨ab,aO⟩:∃ab,cX w (w.alloc (.cells #[.int .i64 c] 3)) off=ab:=⟨_,rfl⟩
 rw[aO] at HC aH;have aJ:Hid (∀k,off k->ab k):=Z λk h=>by rw[<-aO];exact .inl h
 clear h U hx hy ai aj qA aq be a0 aL hc aO;refine(callsIn_wide (n:=5)).1 ?_;refine callsIn_of_wp_marks Tryz.func153 rfl aF ?_ rfl;simp only[Tryz.ntmps153,List.size_toArray,Af,List.length_nil,Nat.reduceAdd,Nat.reduceSub,Array.replicate_succ,Array.replicate_zero,List.push_toArray,List.append_toArray,List.nil_append,List.cons_append]
 gi_wp2_with (first
  |(refine⟨aF,?_⟩
    gi_at_call 79
    refine(callsIn_wide.2 HC.o).mono ?_;rintro e f ⟨rfl,p1,V⟩;have P1:=Z p1;have P2:=Z V;clear p1 V)
  |(refine⟨aF,?_⟩;gi_at_call 169;refine(callsIn_wide.2 (nO _ _ _ _ _ _ _)).mono ?_;rintro e R ⟨rfl,rfl⟩))
 have hzw:w.heap.size<=f.heap.size:=by have:=P2.o.size;have:=aS.o.size;omega
 have ae:Below f.heap.size f (((((f.alloc (.cells #[.pointer (some ⟨g,0,none⟩),.int .i64 0] 172)).alloc (.cells #[.pointer (some ⟨f.heap.size,0,none⟩)] 170)).alloc (.cells #[.slice none 0 0] 23)).alloc (.cells #[.slice G m N] 23)).alloc (.cells #[.slice E m F] 23)):=cU (cU (cU (cU (cU (A4 _ _) _) _) _) _) _;have q0:cN (((((f.alloc (.cells #[.pointer (some ⟨g,0,none⟩),.int .i64 0] 172)).alloc (.cells #[.pointer (some ⟨f.heap.size,0,none⟩)] 170)).alloc (.cells #[.slice none 0 0] 23)).alloc (.cells #[.slice G m N] 23)).alloc (.cells #[.slice E m F] 23)) f.heap.size [.pointer (some ⟨g,0,none⟩),.int .i64 0]:=((((cN.made rfl).alloc _).alloc _).alloc _).alloc _;have q1:cN (((((f.alloc (.cells #[.pointer (some ⟨g,0,none⟩),.int .i64 0] 172)).alloc (.cells #[.pointer (some ⟨f.heap.size,0,none⟩)] 170)).alloc (.cells #[.slice none 0 0] 23)).alloc (.cells #[.slice G m N] 23)).alloc (.cells #[.slice E m F] 23)) (f.heap.size+1) [.pointer (some ⟨f.heap.size,0,none⟩)]:=(((cN.made (by simp)).alloc _).alloc _).alloc _;have q2:cN (((((f.alloc (.cells #[.pointer (some ⟨g,0,none⟩),.int .i64 0] 172)).alloc (.cells #[.pointer (some ⟨f.heap.size,0,none⟩)] 170)).alloc (.cells #[.slice none 0 0] 23)).alloc (.cells #[.slice G m N] 23)).alloc (.cells #[.slice E m F] 23)) (f.heap.size+1+1) [.slice none 0 0]:=((cN.made (by simp)).alloc _).alloc _;have q3:cN (((((f.alloc (.cells #[.pointer (some ⟨g,0,none⟩),.int .i64 0] 172)).alloc (.cells #[.pointer (some ⟨f.heap.size,0,none⟩)] 170)).alloc (.cells #[.slice none 0 0] 23)).alloc (.cells #[.slice G m N] 23)).alloc (.cells #[.slice E m F] 23)) (f.heap.size+1+1+1) [.slice G m N]:=(cN.made (by simp)).alloc _;have q4:cN (((((f.alloc (.cells #[.pointer (some ⟨g,0,none⟩),.int .i64 0] 172)).alloc (.cells #[.pointer (some ⟨f.heap.size,0,none⟩)] 170)).alloc (.cells #[.slice none 0 0] 23)).alloc (.cells #[.slice G m N] 23)).alloc (.cells #[.slice E m F] 23)) (f.heap.size+1+1+1+1) [.slice E m F]:=cN.made (by simp);have q5:cN (((((f.alloc (.cells #[.pointer (some ⟨g,0,none⟩),.int .i64 0] 172)).alloc (.cells #[.pointer (some ⟨f.heap.size,0,none⟩)] 170)).alloc (.cells #[.slice none 0 0] 23)).alloc (.cells #[.slice G m N] 23)).alloc (.cells #[.slice E m F] 23)) w.heap.size [.int .i64 c]:=(P2.o.part bj.o aH.o).keep ae;generalize hW0:(((((f.alloc (.cells #[.pointer (some ⟨g,0,none⟩),.int .i64 0] 172)).alloc (.cells #[.pointer (some ⟨f.heap.size,0,none⟩)] 170)).alloc (.cells #[.slice none 0 0] 23)).alloc (.cells #[.slice G m N] 23)).alloc (.cells #[.slice E m F] 23))=W0 at*;have hz:W0.heap.size=f.heap.size+5:=by rw[<-hW0];simp
 clear hW0;have bs:∀k,off k->k<w.heap.size:=H.o.lt;have br:B<=w.heap.size:=H.o.base;have aN:cP B off w f:=aS.o.trans P2.o aJ.o;have a5:LI w B g off (cX f W0 ab) [(f.heap.size+1+1,[.slice none 0 0]),(f.heap.size,[.pointer (some ⟨g,0,none⟩),.int .i64 0]),(f.heap.size+1,[.pointer (some ⟨f.heap.size,0,none⟩)]),(w.heap.size,[.int .i64 c])] W0 b:=by
  refine LI.start P1.o aN aJ.o bs br ae λp Q=> ?_
  rcases List.mem_cons.1 Q with rfl|Q
  ·exact⟨q2,.inr ⟨by omega,by omega⟩,by omega⟩
  rcases List.mem_cons.1 Q with rfl|Q
  ·exact⟨q0,.inr ⟨by simp,by omega⟩,by omega⟩
  rcases List.mem_cons.1 Q with rfl|Q
  ·exact⟨q1,.inr ⟨by simp,by omega⟩,by omega⟩
  rcases List.mem_cons.1 Q with rfl|Q
  ·exact⟨q5,.inl aH.o,by simp⟩
  simp_all
 have az:=HX.o.kept aN;have aB:=HY.o.kept aN;have aA:x.length=m:=az.len.symm;have aC:y.length=m:=aB.len.symm;have hP:jq (λk=>off k\/k=f.heap.size+1+1+1\/k=f.heap.size+1+1+1+1) m x y (f.heap.size+1+1+1) (f.heap.size+1+1+1+1) W0:=
  ⟨⟨G,N,E,F,(q3.at_ 0 _ rfl).1,(q4.at_ 0 _ rfl).1,az.at_.below ae,aB.at_.below ae,λa e=>.inl (az.blk a e),λa e=>.inl (aB.blk a e)⟩,.inr (.inl rfl),.inr (.inr rfl)⟩
 obtain⟨K,z⟩:∃K,(λk=>off k\/k=f.heap.size+1+1+1\/k=f.heap.size+1+1+1+1)=K:=⟨_,rfl⟩
 rw[z] at hP;have a3:∀k,K k->k<W0.heap.size:=by
  grind
 have bo:∀k,K k->k≠f.heap.size+1+1:=by
  grind
 have a4:∀k,K k->cX f W0 ab k:=by
  rw[<-z];rintro k (hk|rfl|rfl)
  ·exact .inl (aJ.o k hk)
  ·exact .inr ⟨by omega,by omega⟩
  exact .inr ⟨by omega,by omega⟩
 clear z az aB q0 q1 q2 q3 q4 q5 ae;obtain⟨aD,bd⟩:∃aD,cX f W0 ab=aD:=⟨_,rfl⟩
 rw[bd] at a5 a4;clear bd;refine wpIn_rangeFunc_ownF rfl (by decide) (gf:=184) (lb:=#[.pointer (some ⟨f.heap.size+1+1+1,0,none⟩),.pointer (some ⟨f.heap.size+1+1+1+1,0,none⟩)]) rfl aF (enters_of Tryz.func184 (by rfl) rfl)
  (ql (5-1) (by decide) _ _ m aZ K x y aA aC W0 hP a3) (λh k=>fM.trans h k) (qp a3) (A4 _ _) (λ _=>rfl)
  (λt W=>t.length<=m/\LO w B g off aD W0.heap.size (λv=>[(f.heap.size+1+1,[v]),(f.heap.size,[.pointer (some ⟨g,0,none⟩),.int .i64 0]),(f.heap.size+1,[.pointer (some ⟨f.heap.size,0,none⟩)]),(w.heap.size,[.int .i64 c])]) (dt c (t.map (bt x)) (t.map (bt y)) b).1 (dt c (t.map (bt x)) (t.map (bt y)) b).2 W)
  (λ _ _ _=>False)
  (λs A B row hs hg U=>⟨hs.1,hs.2.own hg λj e=>⟨by grind,(U j e).2⟩⟩)
  (λ _ _ _ _ _ hs _ _=>hs)
  ⟨by simp,aD,.slice none 0 0,λ _ h=>h,by simpa[dt] using a5,by simpa[dt] using Lay.Own.nil _ _,A1 _,λk e=>by cases e⟩
  (λi=>{tmps:=#[.pointer (some ⟨g,0,none⟩),.int .i64 c,.slice G m N,.slice E m F,undef,.pointer (some ⟨w.heap.size,0,none⟩),undef,undef,.slice none 0 0,.int .i64 0,.int .i64 0,.pointer (some ⟨f.heap.size+1,0,none⟩),.pointer (some ⟨f.heap.size+1+1,0,none⟩),.int .i64 (bt x i),.int .i64 (bt y i),.pointer (some ⟨g,0,none⟩),.int .i64 c,.slice (some ⟨w.heap.size+1,0,none⟩) 1 1,.slice G m N,.slice E m F,.slice (some ⟨w.heap.size+1+1,0,none⟩) 2 2,.int .i64 0,.int .i64 0,.bool false,undef,.pointer (some ⟨g,0,none⟩),.agg #[.pointer (some ⟨g,0,none⟩),.int .i64 0],.pointer (some ⟨f.heap.size,0,none⟩),.slice G m N,.slice E m F,.func (.func 184) #[] #[.pointer (some ⟨f.heap.size+1+1+1,0,none⟩),.pointer (some ⟨f.heap.size+1+1+1+1,0,none⟩)],.int .i64 (bt x i),.int .i64 (bt y i),undef,undef,undef,undef,undef,undef,undef,undef,undef,undef,undef,undef,undef],defers:=[]}) ?assign ?body ?done ?stop
 case assign=>
  intro l i W K2 hK2;dsimp only[lh]
  gi_wp2
  omega
 case stop=>
  simp_all
 case body=>
  rintro l t i W ⟨hpl,aE,v,aw,O,hO,bq,af⟩ hlen;have ai:=jr aU.o aA i;have aj:=jr aV.o aC i;have hE:dt c ((t++[i]).map (bt x)) ((t++[i]).map (bt y)) b=((dt c (t.map (bt x)) (t.map (bt y)) b).1++[(dI (dt c (t.map (bt x)) (t.map (bt y)) b).2 c (bt x i) (bt y i)).1],(dI (dt c (t.map (bt x)) (t.map (bt y)) b).2 c (bt x i) (bt y i)).2):=by
   rw[List.map_append,List.map_append];exact BK _ _ _ _ _ _ (by simp)
  have ah:=vt c (t.map (bt x)) (t.map (bt y)) b H.o.wf aR.o (jP aU.o aA t) (jP aV.o aC t);have aP:=qe c (t.map (bt x)) (t.map (bt y)) b;obtain⟨r,U⟩:∃r,dt c (t.map (bt x)) (t.map (bt y)) b=r:=⟨_,rfl⟩
  rw[U] at O hE ah aP hO;obtain⟨rl,rb⟩:=r;have bi:cW rb 1000:=by
   have S:sz rb<=sz b+7*(t.map (bt x)).length:=aP;have h2:sz b+2000<=900000:=HR.o;rw[An] at S;show sz rb+1000<=900000;omega
  have hrl:rl.length<=64:=by
   have:=qf c (t.map (bt x)) (t.map (bt y)) b (by simp)
   grind
  have an:=O.drew;obtain⟨c1,f1⟩:=O.at0 (f.heap.size+1+1) (v:=v) (vs:=[]) (by simp);obtain⟨c2,_⟩:=O.at0 (f.heap.size+1) (v:=.pointer (some ⟨f.heap.size,0,none⟩)) (vs:=[]) (by simp);obtain⟨c3,_⟩:=O.at0 w.heap.size (v:=.int .i64 c) (vs:=[]) (by simp);have ar:=an.mk_ (mb:=f.heap.size) (by simp);have bf:okL rb.n (bt x i):=ai.mono ah.gr.n;have bg:okL rb.n (bt y i):=aj.mono ah.gr.n;have a9:okL rb.n c:=aR.o.mono ah.gr.n;have aX:=Z (sJ an.nc (bi.mono (by omega)) ar a9 bf bg);obtain⟨r2,bh⟩:∃r2,dI rb c (bt x i) (bt y i)=r2:=⟨_,rfl⟩
  rw[bh] at aX hE;obtain⟨xd,xb⟩:=r2;have HL:=Z an;have HE:=Z hE;have HO:Hid ((Lay.int .i64).Own 3 W.drew W0.heap.size v rl):=Z (dA hO λ _ _=>rfl);have aI:=Z af;have aW:=Z aw;clear ah hE bi aP U bh O an ar ai aj bf bg a9 hO af aw;generalize bt x i=p at*;generalize bt y i=q at*
  gi_wp2
  have P:W.drew.cell? ⟨f.heap.size+1,0,none⟩=some (.pointer (some ⟨f.heap.size,0,none⟩))/\W.drew.cell? ⟨w.heap.size,0,none⟩=some (.int .i64 c)/\W.drew.cell? ⟨f.heap.size+1+1,0,none⟩=some v:=⟨c2,c3,c1⟩
  refine qt (λw'=>w'.cell? ⟨f.heap.size+1,0,none⟩=some (.pointer (some ⟨f.heap.size,0,none⟩))/\w'.cell? ⟨w.heap.size,0,none⟩=some (.int .i64 c)/\w'.cell? ⟨f.heap.size+1+1,0,none⟩=some v) (λi=>i==8) (by rfl) (by kernel_rfl) (λJ hJ=> ?_)
  repeat(
   (first|apply tk2 0 (by rfl) (by decide+kernel) (by omega)|apply tk2 1 (by rfl) (by decide+kernel) (by omega)|apply tk2 2 (by rfl) (by decide+kernel) (by omega)|apply tk0 3 (by rfl) (by decide+kernel)|apply tk0 4 (by rfl) (by decide+kernel))
   intro w bp
   try dsimp only at bp
   (go_simp<;>with_reducible rfl)
   try simp only[pS,pN,pA,pZ,pC])
  refine tk5 5 (by kernel_rfl) (by rfl) λK z=> ?_
  go_simp
  go_at_call 170
  refine aX.o.mono ?_;rintro e R ⟨rfl,p1,V⟩;have aa:=Z (HL.o.step p1 V);have bl:=Z (LI.same V λk hk=>aW.o k (a4 k hk));have aT:=Z (dA HO.o λk e=>V.off k (.inl (aI.o k e)));have c1':=(aa.o.1.at0 (f.heap.size+1+1) (v:=v) (vs:=[]) (by simp)).1;have ad:Hid (LI w B g off aE [(f.heap.size+1+1,[v]),(f.heap.size,[.pointer (some ⟨g,0,none⟩),.int .i64 0]),(f.heap.size+1,[.pointer (some ⟨f.heap.size,0,none⟩)]),(w.heap.size,[.int .i64 c])] (R.alloc (.cells #[.int .i64 xd] 3)) xb):=Z (aa.o.1.own (World.grownBy_alloc R _ none) λ _ e=>by cases e);have c1'':=(ad.o.at0 (f.heap.size+1+1) (v:=v) (vs:=[]) (by simp)).1;have hsz2:W.heap.size<=R.heap.size:=V.size;have hsz3:=HL.o.kept.size;clear p1 V;refine z.out _ _ ?_ (λP=> ?_)
  ·intro _ a6;exact⟨(aa.o.1.at0 (f.heap.size+1) (v:=.pointer (some ⟨f.heap.size,0,none⟩)) (vs:=[]) (by simp)).1,(aa.o.1.at0 w.heap.size (v:=.int .i64 c) (vs:=[]) (by simp)).1,(aa.o.1.at0 (f.heap.size+1+1) (v:=v) (vs:=[]) (by simp)).1⟩
  have P:=P rfl (by omega);clear z K
  try simp only[pS,pN,pA,pZ,pC]
  refine tk5 6 (by kernel_rfl) (by rfl) λK z=> ?_
  go_simp;refine z.out _ _ ?_ (λP=> ?_)
  ·intro _ a6;exact⟨(ad.o.at0 (f.heap.size+1) (v:=.pointer (some ⟨f.heap.size,0,none⟩)) (vs:=[]) (by simp)).1,(ad.o.at0 w.heap.size (v:=.int .i64 c) (vs:=[]) (by simp)).1,(ad.o.at0 (f.heap.size+1+1) (v:=v) (vs:=[]) (by simp)).1⟩
  have P:=P rfl (by omega);clear z K
  try simp only[pS,pN,pA,pZ,pC]
  refine tk5 7 (by kernel_rfl) (by rfl) λK z=> ?_
  refine iK (d:=0) (qs:=[xd]) Tryz.elemI rfl _ _ rfl rfl (Lay.Own.alloc aT.o _) rfl (λh=>by cases h) rfl (fV (L:=Lay.int .i64) R xd 3) (by omega) (by simp;omega) ?_;intro v' w3 au aM aQ;obtain⟨av,aY,rfl,_,_,_⟩:=au.at_ (d:=0);have el:(rl++[xd]).length=rl.length+1:=by simp
  rw[el] at au aQ⊢;clear el;have am:=Z aM;have aG:=Z au;have bn:=Z aQ;have ac:Hid (LI w B g off (cX (R.alloc (.cells #[.int .i64 xd] 3)) w3 aE) [(f.heap.size+1+1,[v]),(f.heap.size,[.pointer (some ⟨g,0,none⟩),.int .i64 0]),(f.heap.size+1,[.pointer (some ⟨f.heap.size,0,none⟩)]),(w.heap.size,[.int .i64 c])] w3 xb):=Z (ad.o.app aM λk e=>⟨aI.o k e,by have:=(HO.o.lt k e).1;omega,λp Q ee=>by
   have S:=(HO.o.lt k e).1;have h2:p.1<W0.heap.size:=by
    grind
   omega⟩)
  obtain⟨c1v,f1v⟩:=ac.o.at0 (f.heap.size+1+1) (v:=v) (vs:=[]) (by simp);clear au aM aQ;refine z.out _ _ ?_ (λP=> ?_)
  ·intro _ a6;exact⟨(ac.o.at0 (f.heap.size+1) (v:=.pointer (some ⟨f.heap.size,0,none⟩)) (vs:=[]) (by simp)).1,(ac.o.at0 w.heap.size (v:=.int .i64 c) (vs:=[]) (by simp)).1,(ac.o.at0 (f.heap.size+1+1) (v:=v) (vs:=[]) (by simp)).1⟩
  have P:=P rfl (by omega);clear z K
  try simp only[pS,pN,pA,pZ,pC]
  refine tk5 8 (by kernel_rfl) (by rfl) λK z=> ?_
  go_simp;have bm:=Z (ac.o.set (i:=0) (by grind) (by simp) (.slice av (rl.length+1:Nat) aY));refine z.out _ _ ?_ (λP=> ?_)
  ·grind
  clear P;clear z K
  try simp only[pS,pN,pA,pZ,pC]
  refine eN (by rfl) ?_ _;refine hJ.o _ _ ?_;clear hJ J;show Exit.inBlock 1 _ Exit.normal _ _
  gi_wp2
  have ba:∀k,K k->k<R.heap.size:=λk hk=>by grind
  refine⟨qq (aa.o.2.trans ((KeepsOthers.alloc R _).trans ((KeepsOthers.of_grownBy am.o λj o e ho=>B9 (Lay.Own.alloc aT.o _) j o e ho).trans (KeepsOthers.setCell _ _ _)))),⟨?_,λk hk=> ?_⟩,by grind,?_⟩
  ·have S:=am.o.size;simp at S⊢;omega
  ·refine(Aa w3 _ _ k λe=>bo k hk e).trans ((am.o.block k (by have:=ba k hk;simp;omega) λe=> ?_).trans ((fL R _ (ba k hk)).trans (bl.o.blk k hk)));have:=(HO.o.lt k e.symm).1
   grind
  rw[<-hz,HE.o];refine⟨_,.slice av (rl.length+1:Nat) aY,λk h=>.inl (aW.o k h),bm.o,dA aG.o λk e=>Aa w3 _ _ k λY=> ?_,?_,λk e=> ?_⟩
  ·have:=(aG.o.lt k e).1;have e3:k=f.heap.size+1+1:=Y;omega
  ·have S:=am.o.size;simp at S⊢;omega
  rcases bn.o with Y|Y
  ·exact .inl (aI.o k (Y▸e))
  rw[Y] at e;injection e with e;subst e;exact .inr ⟨A1 _,(aG.o.lt _ Y).2⟩
 case done=>
  rintro D ys W hD rfl ⟨_,aE,v,aw,O,hO,bq,af⟩ z;rw[jO aA,jO aC] at O hO;obtain⟨c1,_⟩:=O.at0 (f.heap.size+1+1) (v:=v) (vs:=[]) (by simp);obtain⟨c2,_⟩:=O.at0 (f.heap.size+1) (v:=.pointer (some ⟨f.heap.size,0,none⟩)) (vs:=[]) (by simp);have ar:=O.mk_ (mb:=f.heap.size) (by simp);have aK:=O.own (grownBy_putObj' W D (.deferred none)) λj e=>by cases e;exact⟨by omega,_,z,rfl⟩
  have ao:=wE hO (grownBy_putObj' W D (.deferred none)) λj e=>by cases e;exact⟨_,z,rfl⟩
  obtain⟨T,rfl,a8⟩:=js ao;have a7:T.2.1<=T.2.2:=by
   obtain⟨a,cap,e1,_,Y,_⟩:=ao.at_ (d:=0);injection e1 with e3 e4 e5;omega
  have bc:∀a,T.1=some a->¬off a.block:=λa ea hk=>by
   have g1:=(ao.lt a.block (by rw[ea];rfl)).1;have g2:=O.lt _ hk;omega
  have bk:Hid (∃al,(∀k,off k->al k)/\FB (W.putObj D (.deferred none)) B g (dt c x y b).2 al/\cP B off w (W.putObj D (.deferred none))/\CAt (W.putObj D (.deferred none)) al T (dt c x y b).1/\(∀a,T.1=some a->¬off a.block)/\T.2.1<=T.2.2):=Z ⟨aE,O.up,aK.fb,aK.kept,a8.less af,bc,a7⟩;clear bc a7;clear O aK hO ao a8 af aw
  gi_wp2_with (first|(refine⟨aF,?_⟩;gi_at_call 171;refine(callsIn_wide.2 (BY ar _)).mono ?_;rintro e w' ⟨rfl,rfl⟩))
  refine⟨by simp,.inl ⟨_,_,rfl,run_takeDeferred z,?_⟩⟩;obtain⟨al,r1,r2,r3,r4,r5⟩:=bk.o;exact⟨_,results_tmp2 rfl _ _ _,T,al,rfl,r1,r2,r3,r4,r5⟩
def Kl{w:World}{B bb:Nat}{b:Bl}{off:Nat->Prop}(h:FB w B bb b off)(hr:cW b 2000){c:Int}(hc:okL b.n c){ax ay:Option Addr}{cx cy m:Nat}{x y:List Int}(hx:CAt w off (ax,m,cx) x)(hy:CAt w off (ay,m,cy) y)(hox:okW b.n x)(hoy:okW b.n y)(h1:1<=m)(h64:m<=64):=(wF h hr hc hx hy hox hoy h1 h64).mono λ _ _ h=>h.old
