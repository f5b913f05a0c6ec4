/- Walk: word.Apply. -/
import Derived.Test.YtmicnollchhlfaaGreatR13
import Derived.RangeFuncOwn
set_option linter.all false
namespace Go.Proofs.YtmicnollchhlfaaGreat
open Go.RowKit
theorem pV{α}(L:Lay α)(z:Value) d(j:z.cells.toList=L.f d)(hs:z.cells.size=L.sz) n:(madeCells z.cells (n*L.sz)).toList=L.flat (List.replicate n d):=by apply List.ext_getElem?;intro i;have g:=L.pos;have h:(L.flat (List.replicate n d)).length=n*L.sz:=by{rw[Lay.flat_length,AB]};by_cases hi:i<n*L.sz;{have h1:i/L.sz<n:=(Nat.div_lt_iff_lt_mul g).2 hi;have a:i%L.sz<L.sz:=Av _ g;have c:=L.flat_at d (List.replicate n d) (i/L.sz) (i%L.sz) (by rwa[AB]) a;rw[show i/L.sz*L.sz+i%L.sz=i by rw[Nat.mul_comm];exact Nat.div_add_mod i L.sz] at c;rw[c,show(List.replicate n d).getD (i/L.sz) d=d by rw[A2,List.getElem?_replicate];split<;>rfl,<-j];unfold madeCells;rw[AN,AN,Array.getElem?_map,Array.getElem?_range,if_pos hi,hs];simp only[Option.map_some];rw[getElem!_pos z.cells (i%L.sz) (by rw[hs];exact a),AF (by rw[hs];exact a)]};rw[AM (l:=L.flat _) (by rw[h];omega),AM (l:=(madeCells _ _).toList) (by rw[Array.length_toList,size_madeCells];omega)]
theorem lX{α L P t e z bytes}(T:fU P L t e z bytes)(d:α)(N:z.cells.toList=L.f d){w ops rest o a Q}(E:o.guard=none) l c(K:o.op=Op.makeSlice t l c) (base n:Nat) x(H:a.eval l= .int .i64 x)(hc:a.eval c= .int .i64 x)(j:x=(n:Int))(J:n<=100000) g(F:w.heap.size=g)(h:base<=g) (B:∀w',L.Own e w' base (.slice (some ⟨g,0,none⟩) n n) (List.replicate n d)->Below base w w'->wpList P ops Q rest (a.put o.dst (.slice (some ⟨g,0,none⟩) n n)) w'):wpList P ops Q (o::rest) a w:=by subst F;obtain⟨U,G,O,R,S⟩:=info_parts T.info;have D:=T.by_;refine wpList_make_full w E l c t K base e U z L.sz T.und G O R .i64 .i64 x x n H hc j j (by rw[S];have:bytes*n<=100*100000:=Nat.mul_le_mul D J;omega) (by unfold maxLen;omega) h ?_;intro w' r A;refine B w' ?_ ((A4 base w).grown A h (λk hk=>by cases hk));unfold Lay.Own;rw[AB,<-pV L z d N T.zs n];exact r
section
variable {α:Type} {L:Lay α}
theorem Lay.flat_set(g:L.sz=1){x u}(h:L.f x=[u]):∀xs j,(L.flat xs).set j u=L.flat (xs.set j x)|[],j=>rfl|y::ys,j=>by obtain⟨c,k⟩:∃c,L.f y=[c]:=by{have:=L.len y;rw[g] at this;match hf:L.f y,this with|[a],_=>exact⟨a,rfl⟩};have e:L.flat (y::ys)=c::L.flat ys:=by{simp[Lay.flat,k]};cases j with|zero=>rw[e];show u::L.flat ys=L.flat (x::ys);simp[Lay.flat,h]|succ j=>rw[e];show c::(L.flat ys).set j u=L.flat (y::ys.set j x);rw[Lay.flat_set g h ys j];simp[Lay.flat,k]
theorem Lay.Own.put1(a:L.sz=1){e w base g n cap xs}(h:L.Own e w base (.slice (some ⟨g,0,none⟩) n cap) xs)(l:xs.length=n){x u}(r:L.f x=[u]) j:L.Own e (w.setCell ⟨g,j,none⟩ u) base (.slice (some ⟨g,0,none⟩) n cap) (xs.set j x)/\w.grownBy (w.setCell ⟨g,j,none⟩ u) (some g)/\w.frozen? ⟨g,j,none⟩=false:=by subst l;have c:w.ownsRow base e 1 (.slice (some ⟨g,0,none⟩) xs.length cap) xs.length (L.flat xs):=by{rw[<-a];exact h};obtain⟨k,A⟩:=World.ownsRow.stored c j u;rw[Lay.flat_set a r] at k;refine⟨?_,A,World.ownsRow.frozenAt c j⟩;unfold Lay.Own;rw[List.length_set,a];exact k
end
theorem vM{w base g n cap N}(h:Lay.bool.Own 4 w base (.slice (some ⟨g,0,none⟩) n cap) N){t}(l:t<N.length):w.cell? ⟨g,t,none⟩=some (.bool (N.getD t false)):=by obtain⟨a2,c2,c,j,_,_⟩:=h.at_ (d:=false);injection c with c _ _;subst c;obtain⟨b',o',a,_,k⟩:=j t l;injection a with a;injection a with e3 e4 _;subst e3 e4;have f:=k 0 (by decide);simpa[Lay.bool] using f
theorem vN{k e w base g n cap N}(h:(Lay.int k).Own e w base (.slice (some ⟨g,0,none⟩) n cap) N){t}(r:t<N.length):w.cell? ⟨g,t,none⟩=some (.int k (N.getD t 0)):=by obtain⟨a2,c2,c,j,_,_⟩:=h.at_ (d:=0);injection c with c _ _;subst c;obtain⟨b',o',a,_,l⟩:=j t r;injection a with a;injection a with e3 e4 _;subst e3 e4;have f:=l 0 (Lay.int k).pos;simpa[Lay.int] using f
theorem Tryz.elemB:fU Tryz.prog Lay.bool 75 4 (.bool false) 1:=⟨Tryz.underlying75,by kernel_rfl,rfl,by decide⟩
theorem Tryz.elemU:fU Tryz.prog (Lay.int .u64) 32 41 (.int .u64 0) 8:=⟨Tryz.underlying32,by kernel_rfl,rfl,by decide⟩
section
variable {α:Type} {L:Lay α} {d:α} {t e:TypeId} {z:Value} {bytes:Nat}
theorem Jh(T:fU Tryz.prog L t e z bytes){w base v ps qs}{f:Addr}{m c}(E:L.Own e w base v ps)(hm:qs.length=m)(D:∀j u,(L.flat qs)[j]? =some u->w.cell? (f.add j)=some u) (B:ps.length+m<=1000000)(n:base<=w.heap.size) ty:∃a w',(Builtin.append_ #[t,t] ty #[v,.slice (some f) m c]).run Tryz.prog w= .ok a w'/\L.Own e w' base a (ps++qs)/\w.grownBy w' v.ownBlock/\(a.ownBlock=v.ownBlock\/a.ownBlock=some w.heap.size):=by obtain⟨K,A,G,H,J⟩:=info_parts T.info;subst hm;have l:=T.by_;have r:(ps.length+qs.length)*bytes<=140737488355328:=by{have:=Nat.mul_le_mul B l;omega};obtain⟨a,w',F,g,h,_,k⟩:=run_append_own_at (P:=Tryz.prog) w base t ty e K _ L.sz bytes T.und A G H J T.zs L.pos v ps.length (L.flat ps) E f qs.length c (L.flat qs) (L.flat_length qs) D (L.flat_one qs) (by unfold maxLen;omega) r n;refine⟨a,w',F,?_,h,k⟩;unfold Lay.Own;rw[L.flat_append,Aq];exact g
theorem Ji{w a qs}(l:L.At d w (some a) qs):∀j u,(L.flat qs)[j]? =some u->w.cell? (a.add j)=some u:=λj u g=>by have h:=(List.getElem?_eq_some_iff.1 g).1;rw[L.flat_length] at h;have n:=L.pos;have f:j/L.sz<qs.length:=Nat.div_lt_of_lt_mul (by rw[Nat.mul_comm];exact h);obtain⟨b,o,e,_,k⟩:=l (j/L.sz) f;injection e with e;subst e;have hm:=Av j n;have c:j/L.sz*L.sz+j%L.sz=j:=by{rw[Nat.mul_comm];exact Nat.div_add_mod j L.sz};have:=k (j%L.sz) hm;rw[Nat.add_assoc,c,<-L.flat_at d qs _ _ f hm,c] at this;rw[jl,this,g]
structure iJ (L:Lay α) (e:TypeId) (w:World) (base:Nat) (v:Value) (xs:List α):Prop where
 own:L.Own e w base v xs
theorem iJ.form{w base n v xs}(h:iJ L e w base v xs)(k:xs.length=n)(h0:0<n):∃g cap,v= .slice (some ⟨g,0,none⟩) n cap/\base<=g/\g<w.heap.size:=by subst k;have hlt:=h.own.lt;rcases h.own.2 with⟨a,hx⟩|⟨g,c,cur,a,f,j,_⟩;{omega};exact⟨g,c,a,f,(Al.1 j).1⟩
end
def dJ{w:World}{b i:Nat}{q:Addr}{v u:Value}(hne:¬b=q.block)(h:w.cell? ⟨b,i,none⟩=some v):=(Ah (a:=⟨b,i,none⟩) (Aa w q u b hne)).trans h
def lY{w:World}{b i:Nat}{q:Addr}{x:Bool}{u:Value}(hne:¬b=q.block)(h:w.frozen? ⟨b,i,none⟩=x):=(World.frozen?_of_block (a:=⟨b,i,none⟩) (Aa w q u b hne)).trans h
structure cN (w:World) (g:Nat) (vs:List Value):Prop where
 lt:g<w.heap.size
 at_:∀i v,vs[i]? =some v->w.cell? ⟨g,i,none⟩=some v/\w.frozen? ⟨g,i,none⟩=false
theorem cN.below{w w' B g vs}(h:cN w g vs)(hb:Below B w w')(hg:g<B):cN w' g vs:=⟨A8 h.lt hb.size,λi v e=>⟨(hb.cell (p:=⟨g,i,none⟩) hg).trans (h.at_ i v e).1,(hb.frozen (p:=⟨g,i,none⟩) hg).trans (h.at_ i v e).2⟩⟩
def cN.keep{w w':World}{g:Nat}{vs:List Value}(h:cN w g vs)(hb:Below w.heap.size w w'):=h.below hb h.lt
def cN.alloc{w:World}{g:Nat}{vs:List Value}(h:cN w g vs)(ob:Obj):=h.keep ((A4 _ _).alloc (A1 _) ob)
theorem cN.drew{w g vs}(h:cN w g vs):cN w.drew g vs:=⟨h.lt,h.at_⟩
theorem cN.new(w:World) cs t:cN (w.alloc (.cells cs t)) w.heap.size cs.toList:=⟨by simp,λi v e=>⟨by rw[AC];simpa using e,by simp[go_sem]⟩⟩
theorem cN.made{w:World}{vs t g}(a:w.heap.size=g):cN (w.alloc (.cells ⟨vs⟩ t)) g vs:=by subst a;exact cN.new w ⟨vs⟩ t
theorem cN.off{w g vs}(h:cN w g vs){q}(hne:¬g=q.block) u:cN (w.setCell q u) g vs:=⟨by have:=h.lt;simpa using this,λi v e=>⟨dJ hne (h.at_ i v e).1,lY hne (h.at_ i v e).2⟩⟩
theorem vO{w:World}{g i v u}(h:w.cell? ⟨g,i,none⟩=some v):(w.setCell ⟨g,i,none⟩ u).cell? ⟨g,i,none⟩=some u:=AT w _ _ h
theorem Jj{w:World}{g i j v u}(h:w.cell? ⟨g,i,none⟩=some v)(hne:¬i=j):(w.setCell ⟨g,j,none⟩ u).cell? ⟨g,i,none⟩=some v:=(AA w _ _ _ (λe=>hne (by injection e with _ e _;exact e.symm))).trans h
theorem Bp{w:World}{g i j b u}(h:w.frozen? ⟨g,i,none⟩=b):(w.setCell ⟨g,j,none⟩ u).frozen? ⟨g,i,none⟩=b:=(World.frozen?_setCell _ _ _ _).trans h
theorem cN.set{w g vs}(h:cN w g vs){k}(hk:k<vs.length) u:cN (w.setCell ⟨g,k,none⟩ u) g (vs.set k u):=⟨by have:=h.lt;simpa using this,λi v e=>by by_cases hi:i=k;{subst hi;rw[List.getElem?_set_self hk] at e;obtain rfl:=Option.some.inj e;obtain⟨x,hx⟩:∃x,vs[i]? =some x:=⟨_,A5 hk⟩;exact⟨vO (h.at_ i x hx).1,Bp (h.at_ i x hx).2⟩};rw[List.getElem?_set_ne (Ne.symm hi)] at e;exact⟨Jj (h.at_ i v e).1 hi,Bp (h.at_ i v e).2⟩⟩
theorem iJ.part{α L e w base n g cap}{xs:List α}(h:iJ L e w base (.slice (some ⟨g,0,none⟩) n cap) xs)(a:xs.length=n):cN w g (L.flat xs):=by subst a;exact⟨(World.ownsRow.lt h.own g rfl).2,λi v e=>⟨by have:=World.ownsRow.cells h.own rfl i v e;rwa[jl,Ap] at this,World.ownsRow.frozenAt h.own i⟩⟩
def cU{w x:World}(h:Below w.heap.size w x)(ob:Obj):=h.alloc h.size ob
theorem Tryz.elemS:fU Tryz.prog Lay.sl 76 23 (.slice none 0 0) 24:=⟨Tryz.underlying76,by kernel_rfl,rfl,by decide⟩
structure CAt (w:World) (A:Nat->Prop) (h:Option Addr×Nat×Nat) (c:List Int):Prop where
 len:h.2.1=c.length
 at_:(Lay.int .i64).At 0 w h.1 c
 blk:∀a,h.1=some a->A a.block
 non:h.1=none->h.2.2=0
 cel:∀a,h.1=some a->∃o:Obj,w.heap[a.block]? =some o/\o.isCells=true
theorem Bq{α}{L:Lay α}{e w base g n cap xs}(h:L.Own e w base (.slice (some ⟨g,0,none⟩) n cap) xs):∃o,w.heap[g]? =some o/\o.isCells=true:=by obtain⟨_,h|⟨g2,c,cur,f,hg,j,_⟩⟩:=h;{cases(Value.slice.inj h.1).1};have a:=(Value.slice.inj f).1;injection a with a;injection a with a;subst a;exact⟨_,j,rfl⟩
structure di (w:World) (A:Nat->Prop) (hs:List (Option Addr×Nat×Nat)) (C:List (List Int)):Prop where
 len:hs.length=C.length
 at_:∀i,i<C.length->CAt w A (hs.getD i (none,0,0)) (C.getD i [])
theorem CAt.frame{w w' A A' h c}(hh:CAt w A h c)(hs:w.heap.size<=w'.heap.size)(hk:∀k,A k->w'.heap[k]? =w.heap[k]?)(hA:∀k,A k->A' k):CAt w' A' h c:=⟨hh.len,At.frame hh.at_ hs λad e=>hk _ (hh.blk ad e),λa e=>hA _ (hh.blk a e),hh.non,λa e=>(hk _ (hh.blk a e)).symm▸hh.cel a e⟩
theorem di.frame{w w' A A' hs C}(h:di w A hs C)(hz:w.heap.size<=w'.heap.size)(hk:∀k,A k->w'.heap[k]? =w.heap[k]?)(hA:∀k,A k->A' k):di w' A' hs C:=⟨h.len,λi hi=>(h.at_ i hi).frame hz hk hA⟩
theorem vP{α:Type} d(l m:List α){i}(h:i<l.length):(l++m).getD i d=l.getD i d:=by rw[A2,A2,AD h]
theorem vQ{α:Type} d l(x:α):(l++[x]).getD l.length d=x:=by rw[A2,Ar (A1 _)];simp
theorem di.snoc{w A hs C}(h:di w A hs C){x c}(f:CAt w A x c):di w A (hs++[x]) (C++[c]):=by refine⟨by simp[h.len],λi a=> ?_⟩;simp only[Aq,List.length_singleton] at a;by_cases e:i<C.length;{rw[vP _ _ _ (by rw[h.len];exact e),vP _ _ _ e];exact h.at_ i e};obtain rfl:i=C.length:=by{omega};have:=vQ (none,0,0) hs x;rw[h.len] at this;rw[this,vQ];exact f
structure FB (w:World) (B bb:Nat) (b:Bl) (off:Nat->Prop):Prop where
 ex:∃(cv:Value) (A:Nat->Prop) (hs:List (Option Addr×Nat×Nat)),w.heap[bb]? =some (.cells #[.int .i64 b.n,cv] 114 (0,0))/\Lay.sl.Own 23 w B cv hs/\di w A hs b.c/\
  (∀k,eL bb none cv k->B<=k/\k<w.heap.size/\¬off k)/\cv.ownBlock≠some bb/\∀k,A k->B<=k/\k<w.heap.size/\¬off k/\¬eL bb none cv k
 wf:Wf b
 lt:∀k,off k->k<w.heap.size
 base:B<=w.heap.size
def cX(w w':World)(off:Nat->Prop):=λk=>off k\/(w.heap.size<=k/\k<w'.heap.size)
theorem vR{w w' B a hs}(h:Lay.sl.Own 23 w B a hs)(hk:∀k,a.ownBlock=some k->w'.heap[k]? =w.heap[k]?):Lay.sl.Own 23 w' B a hs:=by obtain⟨c,h|⟨g,f,j,rfl,l,n,r,hm,hs,A⟩⟩:=h;{exact⟨c,.inl h⟩};exact⟨c,.inr ⟨g,f,j,rfl,l,(hk g rfl).trans n,r,hm,hs,A⟩⟩
theorem FB.frame{w w' B f b off}(h:FB w B f b off)(hs:w.heap.size<=w'.heap.size)(hk:∀k,k<w.heap.size->¬off k->w'.heap[k]? =w.heap[k]?):FB w' B f b (cX w w' off):=by obtain⟨n,A,J,E,F,G,j,H,l⟩:=h.ex;have r:∀k,eL f none n k->w'.heap[k]? =w.heap[k]? :=λk hm=>hk k (j k hm).2.1 (j k hm).2.2;refine⟨⟨n,A,J,(r f (.inl rfl)).trans E,vR F λk e=>r k (.inr (.inr e)),G.frame hs (λk a=>hk k (l k a).2.1 (l k a).2.2.1) (λk a=>a),λk hm=> ?_,H,λk a=> ?_⟩,h.wf,λk c=> ?_,A9 h.base hs⟩;{obtain⟨a1,a2,g⟩:=j k hm;exact⟨a1,A8 a2 hs,λc=>c.elim g λc=>by omega⟩};{obtain⟨a1,a2,g,D⟩:=l k a;exact⟨a1,A8 a2 hs,λc=>c.elim g λc=>by omega,D⟩};rcases c with c|c;{exact A8 (h.lt k c) hs};exact c.2
theorem FB.less{w B l b off off'}(h:FB w B l b off)(j:∀k,off' k->off k):FB w B l b off':=by obtain⟨n,A,G,r,D,E,g,F,f⟩:=h.ex;exact⟨⟨n,A,G,r,D,E,λk hm=>⟨(g k hm).1,(g k hm).2.1,λc=>(g k hm).2.2 (j k c)⟩,F,λk a=>⟨(f k a).1,(f k a).2.1,λc=>(f k a).2.2.1 (j k c),(f k a).2.2.2⟩⟩,h.wf,λk c=>h.lt k (j k c),h.base⟩
def FB.below{w w':World}{B bb:Nat}{b:Bl}{off:Nat->Prop}(h:FB w B bb b off)(hb:Below w.heap.size w w'):=h.frame hb.size λk hk _=>hb.block k hk
def FB.keep{w w':World}{B bb:Nat}{b:Bl}{off:Nat->Prop}(h:FB w B bb b off)(hb:Below w.heap.size w w'):=(h.below hb).less λ _=>.inl
def FB.alloc{w:World}{B bb:Nat}{b:Bl}{off:Nat->Prop}(h:FB w B bb b off)(ob:Obj):=h.below ((A4 _ _).alloc (A1 _) ob)
def FB.set{w:World}{B bb:Nat}{b:Bl}{off:Nat->Prop}(h:FB w B bb b off){q:Addr}(hq:off q.block)(v:Value):=(h.frame (by simp) λk _ hn=>Aa w q v k (λe=>hn (e▸hq))).less λ _=>.inl
theorem FB.cells{w B f b off}(h:FB w B f b off):∃a cap,w.cell? ⟨f,0,none⟩=some (.int .i64 b.n)/\w.cell? ⟨f,1,none⟩=some (.slice a b.c.length cap)/\f<w.heap.size/\B<=f/\¬off f/\∀j,w.frozen? ⟨f,j,none⟩=false:=by obtain⟨cv,A,hd,g,k,l,r,h5,h6⟩:=h.ex;obtain⟨a,cap,rfl,_,_,_⟩:=k.at_ (d:=(none,0,0));have:=r f (.inl rfl);exact⟨a,cap,by simp[World.cell?,g],by simp[World.cell?,g,l.len],this.2.1,this.1,this.2.2,λj=>by simp[World.frozen?,g]⟩
theorem FB.nc{w B E b off}(h:FB w B E b off):FB w B E b (λk=>off k\/∃o,w.heap[k]? =some o/\o.isCells=false):=by obtain⟨J,A,P,F,G,H,D,O,j⟩:=h.ex;refine⟨⟨J,λk=>A k/\∃o:Obj,w.heap[k]? =some o/\o.isCells=true,P,F,G,⟨H.len,λi R=> ?_⟩,λk hm=>⟨(D k hm).1,(D k hm).2.1,?_⟩,O,λk a=>⟨(j k a.1).1,(j k a.1).2.1,?_,(j k a.1).2.2.2⟩⟩,h.wf,λk hk=> ?_,h.base⟩;{have g:=H.at_ i R;exact⟨g.len,g.at_,λa e=>⟨g.blk a e,g.cel a e⟩,g.non,g.cel⟩};{rintro(hk|⟨o,f,l⟩);{exact(D k hm).2.2 hk};rcases hm with rfl|e|e;{rw[F] at f;injection f with f;subst f;cases l};{cases e};obtain⟨_,h|⟨N,c,cur,K,hg,Q,_⟩⟩:=G;{rw[h.1] at e;cases e};rw[K] at e;have r:some N=some k:=e;injection r with r;subst r;rw[Q] at f;injection f with f;subst f;cases l};{rintro(hk|⟨o,f,l⟩);{exact(j k a.1).2.2.1 hk};obtain⟨o2,n,g⟩:=a.2;rw[f] at n;injection n with n;subst n;rw[l] at g;cases g};rcases hk with hk|⟨o,f,_⟩;{exact h.lt k hk};exact(Al.1 f).1
structure cP (B:Nat) (off:Nat->Prop) (w w':World):Prop where
 os:w'.os=w.os
 tape:w'.tape=w.tape
 output:w'.output=w.output
 size:w.heap.size<=w'.heap.size
 off:∀k,off k->w'.heap[k]? =w.heap[k]?
 low:∀k,k<B->w'.heap[k]? =w.heap[k]?
theorem cP.refl B off w:cP B off w w:=⟨rfl,rfl,rfl,A1 _,λ _ _=>rfl,λ _ _=>rfl⟩
theorem cP.trans{B off off' a b c}(h:cP B off a b)(k:cP B off' b c)(ho:∀k,off k->off' k):cP B off a c:=⟨k.os.trans h.os,k.tape.trans h.tape,k.output.trans h.output,A9 h.size k.size,λi hi=>(k.off i (ho i hi)).trans (h.off i hi),λi hi=>(k.low i hi).trans (h.low i hi)⟩
theorem cP.of_below{B off w w'}(h:Below w.heap.size w w')(ho:∀k,off k->k<w.heap.size)(hB:B<=w.heap.size):cP B off w w':=⟨h.os,h.tape,h.output,h.size,λk hk=>h.block k (ho k hk),λk hk=>h.block k (by omega)⟩
theorem cP.below{B off w w'}(h:cP B off w w'):Below B w w':=⟨h.os,h.tape,h.output,h.size,h.low⟩
def cP.at_{α:Type}{L:Lay α}{d:α}{B:Nat}{off:Nat->Prop}{w w':World}{a:Option Addr}{xs:List α}(h:cP B off w w')(hat:L.At d w a xs)(ho:∀ad,a=some ad->off ad.block):=At.frame hat h.size λad e=>h.off _ (ho ad e)
def cP.cell{B:Nat}{off:Nat->Prop}{w w':World}(h:cP B off w w'){g i:Nat}(ho:off g):=Ah (a:=⟨g,i,none⟩) (h.off g ho)
theorem cP.part{B off w w'}(h:cP B off w w'){g vs}(hp:cN w g vs)(ho:off g):cN w' g vs:=⟨A8 hp.lt h.size,λi v e=>⟨(h.cell ho).trans (hp.at_ i v e).1,(World.frozen?_of_block (a:=⟨g,i,none⟩) (h.off g ho)).trans (hp.at_ i v e).2⟩⟩
def eU(w:World)(B bb:Nat)(off:Nat->Prop)(r:Int×Bl)(e:Ending)(w':World):=e= .returned (.tuple #[.int .i64 r.1,.int .i64 0])/\FB w' B bb r.2 off/\cP B off w w'
def cW(b:Bl)(k:Nat):=b.n+b.c.length+k<=900000
def kZ(o w x y:Nat)(W:World)(e:Ending)(W':World):=e= .returned (.tuple #[.int .u64 (fY o w (x%2^w) (y%2^w):Nat),.int .i64 0])/\Below W.heap.size W W'
theorem kZ.mk{o w x y mx my r W W' v}(hx:Hid (x%2^w=mx))(hy:Hid (y%2^w=my))(hv:v=((r%2^w:Nat):Int))(hr:Hid (r%2^w=fY o w mx my))(hb:Below W.heap.size W W'):kZ o w x y W (.returned (.tuple #[.int .u64 v,.int .i64 0])) W':=⟨by rw[hv,hr.o,<-hx.o,<-hy.o],hb⟩
def OpF(o f:Nat):=(∀W,(Instr.index 191 vH (.int .u8 o)).run Tryz.prog W= .ok (.agg #[.func (.func f) #[] #[]]) W)/\(∀W,(Instr.field 190 (.agg #[.func (.func f) #[] #[]]) 0).run Tryz.prog W= .ok (.func (.func f) #[] #[]) W)/\∀args W,(callFunc f args).run Tryz.prog W= .ok (.enter f args) W
theorem Jk(o w a c:Nat)(h4:4<=o)(h20:o<=20)(g:1<=w)(h:w<=64)(f:a<2^w)(j:c<2^w):OpF o (119+o)/\∀W,Calls Tryz.prog (119+o) #[.int .i64 w,.int .u64 a,.int .u64 c] W (fy o w a c W):=by have k:o=4\/o=5\/o=6\/o=7\/o=8\/o=9\/o=10\/o=11\/o=12\/o=13\/o=14\/o=15\/o=16\/o=17\/o=18\/o=19\/o=20:=by{omega};rcases k with rfl|rfl|rfl|rfl|rfl|rfl|rfl|rfl|rfl|rfl|rfl|rfl|rfl|rfl|rfl|rfl|rfl<;> refine⟨⟨λ _=>by kernel_rfl,λ _=>by kernel_rfl,λ _ _=>by kernel_rfl⟩,λW=> ?_⟩;{exact ID w a c W h};{exact IF w a c W h j};{exact IG w a c W h};{exact IR w a c W h f};{exact IS w a c W h f};{exact IH w a c W h f j};{exact II w a c W h f j};{exact IJ w a c W h f j};{exact IT w a c W h};{exact IU w a c W h f};{exact IV w a c W g h f};{exact IK w a c W g};{exact IL w a c W g};{exact IM w a c W g};{exact IN w a c W g};{exact IW w a c W g h f j};exact IX w a c W g h f j
def iq(mx my:Nat)(k:Nat):Array Value:=if k=0 then#[.int .u64 0,.int .u64 0,.int .u64 0] else if k=1 then#[.int .u64 mx,.int .u64 0,.int .u64 0] else#[.int .u64 mx,.int .u64 my,.int .u64 0]
set_option maxRecDepth 100000 in
set_option maxHeartbeats 40000000 in
theorem Jl(o w x y:Nat) a cap W(T:4<=o)(S:o<=20)(R:1<=w)(h:w<=64)(hx:x<18446744073709551616)(hy:y<18446744073709551616)(aa:(Lay.int .u64).At 0 W a [(x:Int),(y:Int)]):
  Calls Tryz.prog 67 #[.int .u8 o,.int .i64 w,.slice a 2 cap] W (kZ o w x y W):=by
 have U:arN o=2:=by unfold arN;(repeat' split)<;>omega
 have F:=Z (nB o (by omega) (w:=W));rw[U] at F;have P:=Z (nw w W R h);have HM:=Z (λW=>lV w W h);have HX:=Z (iI h hx);have HY:=Z (iI h hy);have J:0<2^w:=Au w;have an:Hid (x%2^w<2^w):=Z (Av _ J);have ao:Hid (y%2^w<2^w):=Z (Av _ J);have O:=Z aa;have d1:decide ((o:Int)<2)=false:=by simp;omega
 have d2:decide (21<(o:Int))=false:=by simp;omega
 clear U hx hy J aa;go_enter Tryz.func67,Tryz.ntmps67
 go_wp2_with(first|(go_at_call 68;refine P.o.mono ?_;rintro e j ⟨rfl,rfl⟩)|(go_at_call 36;refine F.o.mono ?_;rintro e c ⟨rfl,A⟩))
 have ax:=A.size;obtain⟨B,E,rfl,K,ad⟩:=O.o.int (i:=0) (by simp);obtain⟨qb,qo,N,_,ae⟩:=O.o.int (i:=1) (by simp);injection N with N;injection N with e1 e2;subst e1 e2;have ar:c.cell? ⟨B,E,none⟩=some (.int .u64 x):=(A.cell (p:=⟨B,E,none⟩) K).trans ad;have au:c.cell? ⟨B,E+1,none⟩=some (.int .u64 y):=(A.cell (p:=⟨B,E+1,none⟩) K).trans ae;have aw:B<c.heap.size:=by omega
 clear ad ae
 go_loopw [42] (λi wr=>∃k:Nat,k<=2/\i= .int .i64 k/\Hid (wr=c.alloc (.cells (iq (x%2^w) (y%2^w) k) 187))) (λi _=>2-(intOf i).toNat)
 case atStart=>exact⟨0,by omega,rfl,Z rfl⟩
 case round=>
  obtain⟨k,hk,rfl,l⟩:=hrel;have av:k=0\/k=1\/k=2:=by omega
  rcases av with rfl|rfl|rfl
  ·obtain rfl:=l.o;clear l;show _
   go_wp2_with(first|(go_at_call 69;refine(HM.o _).mono ?_;rintro e j ⟨rfl,rfl⟩))
   go_roundw
   case rel=>exact⟨1,by omega,rfl,Z (by first|rfl|(rw[HX.o];rfl))⟩
   case measure=>simp[intOf]
  ·obtain rfl:=l.o;clear l;show _
   go_wp2_with(first|(go_at_call 69;refine(HM.o _).mono ?_;rintro e j ⟨rfl,rfl⟩))
   go_roundw
   case rel=>exact⟨2,by omega,rfl,Z (by first|rfl|(rw[HY.o];rfl))⟩
   case measure=>simp[intOf]
  obtain rfl:=l.o;clear l;show _
  go_wp2_with fail
  have V:(c.alloc (Obj.cells (iq (x%2^w) (y%2^w) 2) 187)).cell? ⟨c.heap.size,0,none⟩=some (.int .u64 (x%2^w:Nat)):=by rw[AC];rfl
  have Y:(c.alloc (Obj.cells (iq (x%2^w) (y%2^w) 2) 187)).cell? ⟨c.heap.size,1,none⟩=some (.int .u64 (y%2^w:Nat)):=by rw[AC];rfl
  have H:Below W.heap.size W (c.alloc (Obj.cells (iq (x%2^w) (y%2^w) 2) 187)):=A.alloc ax _;have ab:c.heap.size<(c.alloc (Obj.cells (iq (x%2^w) (y%2^w) 2) 187)).heap.size:=by simp
  clear ar au aw A;generalize c.alloc (Obj.cells (iq (x%2^w) (y%2^w) 2) 187)=wA at*;generalize c.heap.size=g at*;have n:Hid (∀D,Below wA.heap.size wA D->D.cell? ⟨g,0,none⟩=some (.int .u64 (x%2^w:Nat))/\D.cell? ⟨g,1,none⟩=some (.int .u64 (y%2^w:Nat))/\Below wA.heap.size wA D):=Z λD G=>⟨(G.cell (p:=⟨g,0,none⟩) ab).trans V,(G.cell (p:=⟨g,1,none⟩) ab).trans Y,G⟩
  clear V Y;have af:=Z H;have am:=Z (show wA.heap.size>=W.heap.size from H.size);clear H d1 d2 F P K;generalize hmx:x%2^w=mx at*;generalize hmy:y%2^w=my at*;have ai:=Z hmx;have aj:=Z hmy;clear hmx hmy;obtain⟨⟨hix,hfx,hent⟩,hop⟩:=Jk o w mx my T S R h an.o ao.o;have al:=Z hop;clear hop T S;generalize 119+o=f at*
  go_region_held3(λj=>j.cell? ⟨g,0,none⟩=some (.int .u64 (mx:Nat))/\j.cell? ⟨g,1,none⟩=some (.int .u64 (my:Nat))/\Below wA.heap.size wA j)
   (first|exact n.o _ (A4 _ _)|exact n.o _ (A4 _ _).drew|exact n.o _ Q.o|exact n.o _ (‹_/\_/\Below _ _ _›).2.2|exact n.o _ (‹_/\_/\Below _ _ _›).2.2.drew)
   (first
     |(go_at_call 95
       refine I2.mono ?_;rintro e wB ⟨rfl,aq⟩;have Q:=Z ((‹_/\_/\Below _ _ _›).2.2.trans (aq.mono (‹_/\_/\Below _ _ _›).2.2.size)))
     |(refine(al.o _).mono ?_
       rintro e wC ⟨r,rfl,hr,ac,rfl⟩;have HR:=Z hr;have ah:=Z ac;clear hr ac))
  all_goals
   go_wp2_with(first|(go_at_call 69;refine(HM.o _).mono ?_;rintro e j ⟨rfl,rfl⟩))
   go_ret2
   exact kZ.mk ai aj (iI h HR.o) ah (af.o.trans (Q.o.mono am.o))
