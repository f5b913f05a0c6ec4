/- Walks: gates: True, New, Formula. -/
import Derived.Test.YtmicnollchhlfaaGreatR19
import Derived.Deep.DeepCutAuto
set_option linter.all false
namespace Go.Proofs.YtmicnollchhlfaaGreat
open Go.RowKit
theorem mj(w:World) ob{g}(a:w.heap.size=g):(w.alloc ob).heap[g]? =some ob:=by subst a;simp[-World.alloc_eq,World.alloc]
def fL(w:World)(ob:Obj){k:Nat}(h:k<w.heap.size) :=(cU (A4 _ _) ob).block k h
theorem iL{α L t e z c}(T:fU Tryz.prog L t e z c)(d:α)(r:z.cells.toList=L.f d)(n:Nat)(k:n<=1000000) w:(Instr.makeSlice t (.int .i64 (n:Int)) (.int .i64 (n:Int))).run Tryz.prog w= .ok (.slice (some ⟨w.heap.size,0,none⟩) n n) (w.alloc (.cells (L.flat (List.replicate n d)).toArray e)):=by obtain⟨a,j,A,B,D⟩:=info_parts T.info;have h:=T.by_;have hb:a.bytes*n<=281474976710656:=by{rw[D];have:c*n<=100*1000000:=Nat.mul_le_mul h k;omega};have g:(a.bytes:Int)*(n:Int)<=281474976710656:=by{rw[<-Int.natCast_mul];omega};have l:=run_make (P:=Tryz.prog) w t e a z T.und j A .i64 .i64 n n (by omega) (Int.le_refl _) g (by omega);rw[l];have:=pV L z d r T.zs n;rw[show(n:Int).toNat=n by omega,B,<-this]
theorem gX w a:Calls Tryz.prog 80 #[.pointer (some ⟨a,0,none⟩)] w λe w'=>e= .returned (.int .i64 1)/\w=w':=by go_enter Tryz.func80,Tryz.ntmps80;go_wp2_with fail;go_ret;exact⟨rfl,rfl⟩
def J7(w:World)(e:Ending)(w':World):=∃g,e= .returned (.pointer (some ⟨g,0,none⟩))/\Below w.heap.size w w'/\w.heap.size<=g/\FB w' w.heap.size g ⟨1,[[1]]⟩ (·<w.heap.size)
theorem J8 w:Calls Tryz.prog 25 #[] w (J7 w):=by go_enter Tryz.func25,Tryz.ntmps25;go_wp2_with fail;go_ret;have z:=Lay.At.made (L:=Lay.int .i64) (d:=0) w [1] 3;have D:=Lay.Own.made_at (L:=Lay.sl) (e:=23) (base:=w.heap.size) (w.alloc (.cells #[.int .i64 1] 3)) [(some ⟨w.heap.size,0,none⟩,1,1)] (g:=w.heap.size+1) (m:=1) (by simp) rfl (by simp) (by simp);obtain⟨j,h⟩:∃j,(((w.alloc (.cells #[.int .i64 1] 3)).alloc (.cells #[.slice (some ⟨w.heap.size,0,none⟩) 1 1] 23)).alloc (.cells #[.int .i64 1,.slice (some ⟨w.heap.size+1,0,none⟩) 1 1] 114))=j:=⟨_,rfl⟩;have A:Below w.heap.size w j:=by{rw[<-h];exact cU (cU (cU (A4 _ _) _) _) _};have hz:j.heap.size=w.heap.size+3:=by{rw[<-h];simp};have t:(Lay.int .i64).At 0 j (some ⟨w.heap.size,0,none⟩) [1]:=by{rw[<-h];exact At.frame z (by simp) λad e=>by injection e with e;subst e;show _=_;rw[fL _ _ (by simp;omega),fL _ _ (by simp)];rfl};refine⟨w.heap.size+2,by simp,by show Below _ _ _;rw[h];exact A,by omega,?_⟩;show FB _ _ _ _ _;rw[h];refine⟨⟨.slice (some ⟨w.heap.size+1,0,none⟩) 1 1,λk=>k=w.heap.size,[(some ⟨w.heap.size,0,none⟩,1,1)],?_,?_,⟨rfl,λi B=> ?_⟩,?_,?_,?_⟩,⟨A1 _,?_,?_⟩,λk hk=>by omega,by omega⟩;{rw[<-h];exact mj _ _ (by simp)};{rw[<-h];exact D.alloc _};{obtain rfl:i=0:=by{simpa using B};exact⟨rfl,t,λa e=>by injection e with e;subst e;rfl,(λe=>by cases e),λa e=>by injection e with e;subst e;refine⟨.cells #[.int .i64 1] 3 (0,0),?_,rfl⟩;rw[<-h];show((((w.alloc _).alloc _).alloc _).heap[w.heap.size]? =_);rw[fL _ _ (by simp;omega),fL _ _ (by simp)];exact mj _ _ rfl⟩};{rintro k (rfl|e|e);{exact⟨by omega,by omega,by omega⟩};{cases e};have f:some (w.heap.size+1)=some k:=e;injection f with f;exact⟨by omega,by omega,by omega⟩};{intro e;have f:some (w.heap.size+1)=some (w.heap.size+2):=e;injection f with f;omega};{rintro k rfl;refine⟨A1 _,by omega,by omega,?_⟩;rintro(e|e|e);{omega};{cases e};have f:some (w.heap.size+1)=some w.heap.size:=e;injection f with f;omega};{intro c n l r;simp at n;subst n;simp at r;subst r;exact eu (A1 _)};simp
theorem BU{w base v xs}(h:(Lay.int .i64).Own 3 w base v xs):∃hd,v= .slice hd.1 hd.2.1 hd.2.2/\CAt w (λk=>base<=k/\k<w.heap.size) hd xs:=by obtain⟨a,z,rfl,A,_,_⟩:=h.at_ (d:=0);refine⟨(a,xs.length,z),rfl,rfl,A,λj e=> ?_,λe=> ?_,λj e=> ?_⟩;{obtain⟨_,h|⟨g,c,t,l,r,n,_⟩⟩:=h;{have:=(Value.slice.inj h.1).1;have f:a=some j:=e;rw[f] at this;cases this};have f:a=some j:=e;have:=(Value.slice.inj l).1;rw[f] at this;injection this with this;subst this;exact⟨r,(Al.1 n).1⟩};{obtain⟨_,h|⟨g,c,t,l,r,n,_⟩⟩:=h;{exact(Value.slice.inj h.1).2.2};have f:a=none:=e;have:=(Value.slice.inj l).1;rw[f] at this;cases this};obtain⟨_,h|⟨g,c,t,l,r,n,_⟩⟩:=h;{have:=(Value.slice.inj h.1).1;have f:a=some j:=e;rw[f] at this;cases this};have f:a=some j:=e;have:=(Value.slice.inj l).1;rw[f] at this;injection this with this;subst this;exact⟨_,n,rfl⟩
structure FL (w:World) (n:Nat) (vn:Int) (gf gs:Nat) (C:List (List Int)) (k:Nat) (wr:World):Prop where
 hs:∃hs,hs.length=k/\cN wr gs (Lay.sl.flat (hs++List.replicate (n-k) (none,0,0)))/\di wr (λj=>w.heap.size<=j/\j<wr.heap.size/\j≠gs/\j≠gf/\j≠w.heap.size) hs (C.take k)/\∀p∈hs,p.2.1<=p.2.2
 pf:cN wr gf [.int .i64 vn,.slice (some ⟨gs,0,none⟩) n n]
 pr:cN wr w.heap.size [.int .i64 0,.slice none 0 0]
 bel:Below w.heap.size w wr
 ne:gf≠gs/\w.heap.size<gf/\w.heap.size<gs
theorem iM xs:Lay.sl.flat xs=xs.map λp=>.slice p.1 p.2.1 p.2.2:=by induction xs with|nil=>rfl|cons x xs ih=>rw[List.map_cons,<-ih];rfl
theorem FL.lt{w wr n vn gf gs C k}(h:FL w n vn gf gs C k wr):gs<wr.heap.size/\gf<wr.heap.size:=⟨h.hs.elim λ _ h=>h.2.1.lt,h.pf.lt⟩
theorem FL.step{w wr c n B gf d C k}(h:FL w n B gf d C k wr)(hk:k<n)(hn:C.length=n)(f:Below wr.heap.size wr c){hd} (hc:CAt c (λj=>wr.heap.size<=j/\j<c.heap.size) hd (C.getD k []))(D:hd.2.1<=hd.2.2):FL w n B gf d C (k+1) (c.setCell ⟨d,k,none⟩ (.slice hd.1 hd.2.1 hd.2.2)):=by have hlt:=h.lt;have hz:=f.size;have hzr:=h.bel.size;have z:=h.ne;obtain⟨t,g,r,E,F⟩:=h.hs;have l:∀j,j≠d->(c.setCell ⟨d,k,none⟩ (.slice hd.1 hd.2.1 hd.2.2)).heap[j]? =c.heap[j]? :=λj a=>Aa c _ _ j λe=>a e;have hz3:(c.setCell ⟨d,k,none⟩ (.slice hd.1 hd.2.1 hd.2.2)).heap.size=c.heap.size:=by{simp};refine⟨⟨t++[hd],by simp[g],?_,?_,λp r=>(A6.1 r).elim (F p) λq=>by have q:p=hd:=by{simpa using q};rw[q];exact D⟩,(h.pf.keep f).off (λe=>z.1 e) _,(h.pr.keep f).off (λe=>by have e:w.heap.size=d:=e;omega) _,?_,z⟩;{have A:=(r.keep f).set (k:=k) (by rw[iM];simp;omega) (.slice hd.1 hd.2.1 hd.2.2);have e:(Lay.sl.flat (t++List.replicate (n-k) (none,0,0))).set k (.slice hd.1 hd.2.1 hd.2.2)=Lay.sl.flat ((t++[hd])++List.replicate (n-(k+1)) (none,0,0)):=by{rw[iM,iM,show n-k=(n-(k+1))+1 by omega,List.replicate_succ,List.map_append,List.map_cons];rw[List.set_append_right _ _ (by simp[g])];simp[g]};rw[e] at A;exact A};{rw[fO [] _ (by omega)];refine(E.frame (by omega) (λj a=>(l j a.2.2.1).trans (f.block j a.2.1)) λj a=>⟨a.1,by omega,a.2.2⟩).snoc (hc.frame (by omega) (λj a=>l j (by omega)) λj a=>⟨by omega,by omega,by omega,by omega,by omega⟩)};exact h.bel.trans ((f.mono (by omega)).trans ⟨rfl,rfl,rfl,by simp,λj a=>l j (by omega)⟩)
theorem J9 w n a C:FL w n a (w.heap.size+1) (w.heap.size+1+1) C 0 (((w.alloc (.cells #[.int .i64 0,.slice none 0 0] 82)).alloc (.cells #[.int .i64 a,.slice (some ⟨w.heap.size+1+1,0,none⟩) n n] 82)).alloc (.cells (Lay.sl.flat (List.replicate n (none,0,0))).toArray 23)).drew:=by refine⟨⟨[],rfl,(cN.made (by simp)).drew,⟨by simp,λi c=>by simp at c⟩,λp d=>by simp at d⟩,((cN.made (by simp)).alloc _).drew,(((cN.made rfl).alloc _).alloc _).drew,(cU (cU (cU (A4 _ _) _) _) _).drew,by omega,by omega,by omega⟩
theorem Ka w n a C:FL w n a (w.heap.size+1+1) (w.heap.size+1) C 0 (((w.alloc (.cells #[.int .i64 0,.slice none 0 0] 82)).alloc (.cells (Lay.sl.flat (List.replicate n (none,0,0))).toArray 23)).alloc (.cells #[.int .i64 a,.slice (some ⟨w.heap.size+1,0,none⟩) n n] 82)).drew:=by refine⟨⟨[],rfl,((cN.made (by simp)).alloc _).drew,⟨by simp,λi c=>by simp at c⟩,λp d=>by simp at d⟩,(cN.made (by simp)).drew,(((cN.made rfl).alloc _).alloc _).drew,(cU (cU (cU (A4 _ _) _) _) _).drew,by omega,by omega,by omega⟩
def Kb(w:World)(b:Bl)(e:Ending)(w':World):=∃ga cap A hs,e= .returned (.agg #[.int .i64 b.n,.slice (some ⟨ga,0,none⟩) b.c.length cap])/\Below w.heap.size w w'/\Lay.sl.At (none,0,0) w' (some ⟨ga,0,none⟩) hs/\di w' A hs b.c/\w.heap.size<=ga/\(∀k,A k->w.heap.size<=k)/\∀p∈hs,p.2.1<=p.2.2
set_option maxRecDepth 100000 in
set_option maxHeartbeats 4000000 in
theorem Kc{w B l b off}(h:FB w B l b off)(hr:sz b<=90000)(aq:lP b):
  Calls Tryz.prog 29 #[.pointer (some ⟨l,0,none⟩)] w (Kb w b):=by
 have hn:b.n<=90000/\b.c.length<=90000:=by unfold sz at hr;omega
 obtain⟨ca,cc,k0,G,R,kB,kn,kf⟩:=h.cells;have HH:=Z h;have Y:(b.c.length:Int)<=90000:=by omega
 clear h hr;generalize hln:b.c.length=n at*;have K:=Z hln;clear hln;have aB:Hid (∀W,Below w.heap.size w W->W.cell? ⟨l,0,none⟩=some (.int .i64 b.n)/\W.cell? ⟨l,1,none⟩=some (.slice ca n cc)):=Z λW hb=>⟨(hb.cell (p:=⟨l,0,none⟩) R).trans k0,(hb.cell (p:=⟨l,1,none⟩) R).trans G⟩
 have hmk:=λw=>iL Tryz.elemS (none,0,0) rfl n (by omega) w
 go_enter Tryz.func29,Tryz.ntmps29
 go_upto_region 3 with(fail)
 go_cut[0,3] (λs0 s wx=>∃t f,s0= .pointer (some ⟨l,0,none⟩)/\s= .pointer (some ⟨t,0,none⟩)/\Hid (FL w n b.n t f b.c 0 wx))
 case first=>
  go_region_held3(λw'=>w'.cell? ⟨l,0,none⟩=some (.int .i64 b.n)/\w'.cell? ⟨l,1,none⟩=some (.slice ca n cc))
    (first|(refine aB.o _ ?_;repeat(with_reducible first|exact A4 _ _|apply cU|apply Below.drew))|go_keep)
   (fail)
  all_goals
   go_wp2_with fail
   go_meet
   case rel=>
    first
     |exact⟨_,_,rfl,rfl,Z (J9 _ _ _ _)⟩
     |exact⟨_,_,rfl,rfl,Z (Ka _ _ _ _)⟩
 case rest=>
  obtain⟨t,f,rfl,rfl,O⟩:=hcut;have HFL:=O;have U:=O.o.bel;have k0':=(U.cell (p:=⟨l,0,none⟩) R).trans k0;have k1':=(U.cell (p:=⟨l,1,none⟩) R).trans G;have aK:=O.o.ne;obtain⟨aL,hne2,hne3⟩:=aK;obtain⟨cv,A,af,L,T,e3,e4,e5,e6⟩:=HH.o.ex;obtain⟨aE,aF,rfl,ah,_,_⟩:=T.at_ (d:=(none,0,0));have ao:w.cell? ⟨l,1,none⟩=some (.slice aE af.length aF):=by simp[World.cell?,L]
  rw[ao] at G;injection G with G;injection G with p1 p2 p3;subst p1 p2 p3;have au:=Z ah;have E3:=Z e3;have E6:=Z e6;clear L T e3 e4 e5 e6 ah ao U;generalize hs0l:af.length=n at*;have aC:=Z hs0l;clear hs0l;have aj:∀k,k<n->(b.c.getD k []).length<=3:=λk hk=>aq _ (by
   have:k<b.c.length:=by rw[K.o];exact hk
   rw[A2,A5 this];exact Aj this)
  have aA:=Z aj;clear aj aq
  go_wp2_with fail
  go_loopw [28] (λi wr=>∃k:Nat,k<=n/\i= .int .i64 k/\Hid (FL w n b.n t f b.c k wr)) (λi _=>n-(intOf i).toNat)
  case atStart=>exact⟨0,by omega,rfl,O⟩
  case round=>
   obtain⟨k,hk,rfl,g⟩:=hrel;generalize wr=wo at*;by_cases hlk:k<n
   ·obtain⟨pb,po,rfl,aM,ad⟩:=au.o.sl (i:=k) (by rw[aC.o];exact hlk);have V:=E3.o.at_ k (by rw[K.o];exact hlk);have hpw:=(g.o.bel.cell (p:=⟨pb,po+k,none⟩) aM).trans ad;generalize af.getD k (none,0,0)=hd at*;obtain⟨ha,Q,hc⟩:=hd;have hkl:(k:Int)<n:=by omega
    go_upto_region 7 with(fail)
    have hcl3:Q<=3:=by
     have e:Q=(b.c.getD k []).length:=V.len;have:=aA.o k hlk;omega
    have N:=V.frame g.o.bel.size (λj r=>g.o.bel.block j (E6.o j r).2.1) λj h=>h
    have av:=Z (show(b.c.getD k []).length=Q from N.len.symm);have aw:Hid (ha=none->hc=0):=Z N.non;have ax:Hid ((Lay.int .i64).At 0 wo.drew ha (b.c.getD k [])):=Z (At.frame N.at_ (A1 _) λ _ _=>rfl);have z:=Z g.o;have c1:wo.cell? ⟨t,1,none⟩=some (.slice (some ⟨f,0,none⟩) n n):=(g.o.pf.at_ 1 _ rfl).1;have P:=g.o.lt;obtain⟨al,P⟩:=P;obtain⟨hs1,am,an,_⟩:=g.o.hs;have aH:=an.at_ k (.slice none 0 0) (by rw[iM,List.map_append,Ar (by simp[am])];simp[am];rw[List.getElem?_replicate,if_pos (by omega)]);obtain⟨aI,aJ⟩:=aH;clear V N g an
    go_region_held3(λw'=>w'.cell? ⟨t,1,none⟩=some (.slice (some ⟨f,0,none⟩) n n))
     (first
       |exact c1
       |exact(J.o.cell P).trans c1
       |exact(Ah (a:=⟨t,1,none⟩) (Aa _ _ _ t λe=>aL e)).trans ((J.o.cell P).trans c1)
       |go_keep)
     (first
       |(refine iK (d:=0) Tryz.elemI rfl _ _ rfl rfl (Lay.Own.nil _ wo.heap.size) rfl aw.o av.o ax.o (by simp;omega) (A1 _) ?_
         intro v3 S ab D _;have J:Hid (Below wo.heap.size wo S):=Z (Below.grown (A4 wo.heap.size wo) (w':=S) ⟨D.os,D.tape,D.output,D.size,D.block⟩ (A1 _) λj e=>by cases e);obtain⟨aa,rfl,ai⟩:=BU ab;have az:Hid (aa.2.1<=aa.2.2):=by
          obtain⟨_,_,L,_,T,_⟩:=ab.at_ (d:=0);obtain⟨_,q2,q3⟩:=Value.slice.inj L;exact Z (by omega)
         have ay:Hid (CAt S (λj=>wo.heap.size<=j/\j<S.heap.size) aa (b.c.getD k [])):=Z (by simpa using ai);have q1:=(J.o.cell (p:=⟨f,k,none⟩) al).trans aI;have q2:=(J.o.frozen (p:=⟨f,k,none⟩) al).trans aJ;clear ab D ai)
       |fail)
    have ar:=z.o.step hlk K.o J.o ay.o az.o;have aD:=Z ar;clear ar
    go_wp2_with fail
    go_roundw
    case rel=>exact⟨k+1,by omega,by go_num,aD⟩
    case measure=>simp[intOf];omega
   obtain rfl:k=n:=by omega
   have c0:wo.cell? ⟨t,0,none⟩=some (.int .i64 b.n):=(g.o.pf.at_ 0 _ rfl).1;have c1:wo.cell? ⟨t,1,none⟩=some (.slice (some ⟨f,0,none⟩) k k):=(g.o.pf.at_ 1 _ rfl).1;have r0:=g.o.pr.at_ 0 _ rfl;have r1:=g.o.pr.at_ 1 _ rfl;obtain⟨r0,f0⟩:=r0;obtain⟨r1,f1⟩:=r1;have z:=Z g.o;clear g
   go_wp2_with fail
   have ae:=(z.o.pr.set (k:=0) (by simp) (.int .i64 b.n)).set (k:=1) (by simp) (.slice (some ⟨f,0,none⟩) k k);have hlt:=z.o.lt;have hzw:=z.o.bel.size;obtain⟨H,F⟩:∃H,(wo.setCell ⟨w.heap.size,0,none⟩ (.int .i64 b.n)).setCell ⟨w.heap.size,1,none⟩ (.slice (some ⟨f,0,none⟩) k k)=H:=⟨_,rfl⟩
   have hz5:H.heap.size=wo.heap.size:=by rw[<-F];simp
   have ac:∀j,j≠w.heap.size->H.heap[j]? =wo.heap[j]? :=λj r=>by
    rw[<-F];exact(Aa _ _ _ j λe=>r e).trans (Aa _ _ _ j λe=>r e)
   rw[F] at ae⊢;have q0:H.cell? ⟨w.heap.size,0,none⟩=some (.int .i64 b.n):=(ae.at_ 0 _ rfl).1;have q1:H.cell? ⟨w.heap.size,1,none⟩=some (.slice (some ⟨f,0,none⟩) k k):=(ae.at_ 1 _ rfl).1;refine bodyPost_ret (v:=.agg #[.int .i64 b.n,.slice (some ⟨f,0,none⟩) k k]) (by simp[results,Tryz.results29,go_sem,q0,q1]) rfl ?_;obtain⟨E,Q,hp,Y,aG⟩:=z.o.hs;have e:E++List.replicate (k-k) (none,0,0)=E:=by simp
   rw[e] at hp;refine⟨f,k,λj=>w.heap.size<=j,E,by rw[K.o],z.o.bel.trans ⟨?_,?_,?_,by omega,λj r=>ac j (by omega)⟩,λi hi=>⟨f,0,rfl,by omega,λj r=> ?_⟩,(by rw[List.take_of_length_le (by rw[K.o];exact A1 _)] at Y;exact Y.frame (by omega) (λj r=>ac j r.2.2.2.2) λj h=>h.1),by omega,λj r=>r,aG⟩
   ·rw[<-F];rfl
   ·rw[<-F];rfl
   ·rw[<-F];rfl
   obtain rfl:j=0:=by have:j<1:=r;omega
   have ad:=(hp.at_ i (.slice (E.getD i (none,0,0)).1 (E.getD i (none,0,0)).2.1 (E.getD i (none,0,0)).2.2) (by rw[iM];simp[List.getD_eq_getElem?_getD,List.getElem?_eq_getElem hi])).1;have:(⟨f,0+i*Lay.sl.sz+0,none⟩:Addr)=⟨f,i,none⟩:=by simp[Lay.sl]
   rw[this];exact(Ah (a:=⟨f,i,none⟩) (ac f (by omega))).trans ad
