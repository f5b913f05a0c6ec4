/- Walks: blast: Lift. -/
import Derived.Test.YtmicnollchhlfaaGreatR47
set_option linter.all false
namespace Go.Proofs.YtmicnollchhlfaaGreat
open Go
section
variable {m:Nat->Bool} {wd:List Int} {W:Nat} {L:List Nd} {M:Mo} {b:Bl}
def dY(m:Nat->Bool)(wd:List Int):Nat->Nat|0=>0|i+1=>if tv m (wd.getD i 0)=true then dY m wd i|||2^i else dY m wd i
theorem Dy i:dY m wd i<2^i:=by induction i with|zero=>simp[dY]|succ i ih=>have a:2^i<2^(i+1):=Nat.pow_lt_pow_right (by decide) (by omega);unfold dY;split;{exact Nat.or_lt_two_pow (by omega) a};omega
theorem Nr j i:(dY m wd i).testBit j=(decide (j<i)&&tv m (wd.getD j 0)):=by induction i with|zero=>simp[dY]|succ i ih=>unfold dY;by_cases e:j=i;{subst e;have c:(dY m wd j).testBit j=false:=by{rw[ih];simp};split;{rename_i h;rw[Nat.testBit_or,c,Nat.testBit_two_pow_self,h];simp};rename_i h;rw[c];have:tv m (wd.getD j 0)=false:=by{simpa using h};rw[this];simp};have a:decide (j<i+1)=decide (j<i):=decide_eq_decide.2 (by omega);split;{rw[Nat.testBit_or,ih,Nat.testBit_two_pow_of_ne (Ne.symm e),a];simp};rw[ih,a]
theorem Ns(h:wd.length=W):dS W (dY m wd W)=wd.map (tv m):=by refine List.ext_getElem (by simp[dS,h]) λi a h2=> ?_;have c:i<W:=by{simpa[dS] using a};simp only[dS,List.getElem_map,List.getElem_range];rw[Nr];simp[c,List.getD_eq_getElem?_getD,List.getElem?_eq_getElem (show i<wd.length by omega)]
def woF(M:Mo)(t:Nat):=((M.find? λe=>e.1==t).map (·.2)).getD []
theorem Nt{t wd}(h:(t,wd)∈M):(t,woF M t)∈M:=by unfold woF;cases hf:M.find? (λe=>e.1==t) with|none=>exact absurd (List.find?_eq_none.1 hf _ h) (by simp)|some e=>have a:=List.find?_some hf;have c:=List.mem_of_find?_eq_some hf;have:e.1=t:=by{simpa using a};rw[<-this];exact c
def Dz(h:dP W L M b){t:Nat}{wd:List Int}(hm:(t,wd)∈M):=h.key (Nt hm) hm
theorem Nu(h:dP W L M b)(H:GOk W L)(J:L.Nodup){i j}(a:i<(cY L M).length)(c:j<(cY L M).length)(e:((cY L M).getD i (0,0)).1=((cY L M).getD j (0,0)).1):i=j:=by have K:((cY L M).map (·.2)).Nodup:=by{have g:((cY L M).map (·.2))=(M.map (·.1)).filter λt=>(ndL L t).op=1:=by{unfold cY;clear h e a c;induction M with|nil=>rfl|cons x M ih=>rw[List.filterMap_cons,List.map_cons,List.filter_cons];by_cases q:(ndL L x.1).op=1;{simp[q,ih]};simp[q,ih]};rw[g];exact h.nodup.filter _};have E:(cY L M)[i]∈cY L M:=Aj a;have F:(cY L M)[j]∈cY L M:=Aj c;rw[A2,A2,A5 a,A5 c] at e;obtain⟨wi,a1,a2,z⟩:=td (v:=(cY L M)[i].1) (t:=(cY L M)[i].2) E;obtain⟨wj,A,d,B⟩:=td (v:=(cY L M)[j].1) (t:=(cY L M)[j].2) F;have k:=(h.each _ _ a1).1;have l:=(h.each _ _ A).1;have r:∀t,t<L.length->(ndL L t).op=1->(ndL L t).args=[]:=λt O N=>by{have q:=(H t O).2.2.2.2.1;rw[show(L.getD t default).op=1 from N] at q;exact List.eq_nil_of_length_eq_zero q};have f:ndL L (cY L M)[i].2=ndL L (cY L M)[j].2:=by{have q1:=r _ k a2;have q2:=r _ l d;have q3:(ndL L (cY L M)[i].2).num=(ndL L (cY L M)[j].2).num:=by{rw[z,B];exact e};generalize ndL L (cY L M)[i].2=x at*;generalize ndL L (cY L M)[j].2=y at*;cases x;cases y;simp only at a2 d q1 q2 q3;rw[a2,d,q1,q2,q3]};have D:(cY L M)[i].2=(cY L M)[j].2:=by{unfold ndL at f;rw[A2,A2,A5 k,A5 l] at f;exact(List.getElem_inj (h₀:=k) (h₁:=l) J).1 f};have g:i<((cY L M).map (·.2)).length:=by{simpa using a};have G:j<((cY L M).map (·.2)).length:=by{simpa using c};refine(List.getElem_inj (h₀:=g) (h₁:=G) K).1 ?_;rw[List.getElem_map,List.getElem_map];exact D
structure LfI (V:List (Nat×Nat)) (wo:Nat->List Int) (m:Nat->Bool) (W n:Nat) (seen:Array Nat) (xs:List Nat):Prop where
 len:xs.length=n
 lt:∀x∈xs,x<2^W
 got:∀b,b<V.length->seen.contains b=true->(V.getD b (0,0)).1<n->xs.getD (V.getD b (0,0)).1 0=dY m (wo (V.getD b (0,0)).2) W
 rest:∀b,b<V.length->seen.contains b=false->(V.getD b (0,0)).1<n->xs.getD (V.getD b (0,0)).1 0=0
variable {V:List (Nat×Nat)} {wo:Nat->List Int} {n:Nat} {seen:Array Nat} {xs:List Nat}
theorem LfI.zero n:LfI V wo m W n #[] (List.replicate n 0):=by refine⟨by simp,λx a=> ?_,λb _ h=>by simp at h,λb _ _ h=> ?_⟩;{rw[(List.mem_replicate.1 a).2];exact Au W};generalize(V.getD b (0,0)).1=u at*;rw[A2,List.getElem?_replicate];split<;>rfl
theorem LfI.take(h:LfI V wo m W n seen xs)(r:∀i j,i<V.length->j<V.length->(V.getD i (0,0)).1=(V.getD j (0,0)).1->i=j){b v t}(z:b<V.length)(g:V.getD b (0,0)=(v,t))(hk:v<n):LfI V wo m W n (seen.push b) (xs.set v (dY m (wo t) W)):=by have A:=h.len;have B:(xs.set v (dY m (wo t) W)).getD v 0=dY m (wo t) W:=by{simp[List.getD_eq_getElem?_getD,A,hk]};have l:∀u,u≠v->(xs.set v (dY m (wo t) W)).getD u 0=xs.getD u 0:=λu D=>by{simp[List.getD_eq_getElem?_getD,List.getElem?_set_ne (Ne.symm D)]};refine⟨by simp[A],λx E=> ?_,λc a d k=> ?_,λc a d k=> ?_⟩;{rcases List.mem_or_eq_of_mem_set E with q|q;{exact h.lt x q};rw[q];exact Dy W};{by_cases e:(V.getD c (0,0)).1=v;{have:=r c b a z (by rw[e,g]);subst this;rw[g];exact B};rw[l _ e];have f:c≠b:=λq=>e (by rw[q,g]);exact h.got c a (by simpa[f] using d) k};have f:c≠b:=λq=>by{rw[q] at d;simp at d};have e:(V.getD c (0,0)).1≠v:=λq=>f (r c b a z (by rw[q,g]));rw[l _ e];exact h.rest c a (by simpa[f] using d) k
theorem LfI.skip(h:LfI V wo m W n seen xs){b v t}(j:V.getD b (0,0)=(v,t))(hk:n<=v):LfI V wo m W n (seen.push b) xs:=by refine⟨h.len,h.lt,λc f d a=> ?_,λc f d a=> ?_⟩;{have g:c≠b:=λq=>by{rw[q,j] at a;simp at a;omega};exact h.got c f (by simpa[g] using d) a};have g:c≠b:=λq=>by{rw[q] at d;simp at d};exact h.rest c f (by simpa[g] using d) a
theorem LfI.ok(h:LfI (cY L M) (woF M) m W n seen xs)(hm:dP W L M b)(g:∀b,b<(cY L M).length->seen.contains b=true):qI W L M m n xs:=by refine⟨h.len,h.lt,λv t k l wd f=> ?_⟩;obtain⟨i,a,j⟩:=List.mem_iff_getElem.1 l;have d:(cY L M).getD i (0,0)=(v,t):=by{rw[A2,A5 a];exact j};have c:=h.got i a (g i a) (by rw[d];exact k);rw[d] at c;rw[c,Dz hm f];exact Ns (hm.each _ _ f).2.1
end
open Go.RowKit Go.Shelf
open Go.Proofs.YtmicnollchhlfaaGreat.Cr
open Go.ChangeMaps (setBlock)
theorem Nv:Tryz.prog.underlying 116=some (.map 41 3):=by kernel_rfl
theorem xL q:∀S (i j:Nat),(fX q S i)[j]? =S[j]?.map λp=>{key:=.int q p.1,val:=p.2,born:=i+j}|[],i,j=>by simp[fX]|p::S,i,0=>by simp[fX]|p::S,i,j+1=>by show(fX q S (i+1))[j]? =_;rw[xL q S (i+1) j,show i+1+j=i+(j+1) by omega];rfl
theorem xM q:∀S i,(fX q S i).length=S.length|[],_=>rfl|_::S,i=>by show(fX q S (i+1)).length+1=_;rw[xM q S (i+1)];rfl
theorem Nw{V e}(h:e∈fX .u64 (fN V) 0):∃b,b<V.length/\e={key:=.int .u64 (V.getD b (0,0)).1,val:=.int .i64 (V.getD b (0,0)).2,born:=b}:=by obtain⟨j,c,g⟩:=List.mem_iff_getElem.1 h;have d:j<V.length:=by{rw[xM] at c;simpa[fN] using c};refine⟨j,d,?_⟩;have a:=xL .u64 (fN V) 0 j;rw[A5 c,g] at a;have f:(fN V)[j]? =some ((((V.getD j (0,0)).1:Nat):Int),.int .i64 (((V.getD j (0,0)).2:Nat):Int)):=by{unfold fN;rw[AI,A5 d,A2,A5 d];rfl};rw[f] at a;simpa using a
theorem Ny{V es}(h:es.toList=fX .u64 (fN V) 0):Bn es V.length/\(∀e∈es.toList,∃b,b<V.length/\e={key:=.int .u64 (V.getD b (0,0)).1,val:=.int .i64 (V.getD b (0,0)).2,born:=b})/\∀b,b<V.length->∃e0∈es.toList,e0.born=b:=by have f:es.size=V.length:=by{rw[<-Array.length_toList,h,xM];simp[fN]};have d:∀(j:Nat) (e:MapEntry),es[j]? =some e->e.born=j:=λj e c=>by{have a:=xL .u64 (fN V) 0 j;rw[<-h,AN,c] at a;cases hv:(fN V)[j]? with|none=>rw[hv] at a;cases a|some p=>rw[hv] at a;injection a with a;rw[a];simp};refine⟨⟨f.symm,d⟩,λe c=>Nw (by rw[<-h];exact c),λb hb2=> ?_⟩;have:b<es.size:=by{omega};exact⟨es[b],by simp,d b _ (AF this)⟩
structure LfW (w wr:World) (vb R n k:Nat) (seen:Array Nat) (xs:List Nat):Prop where
 it:wr.heap[R]? =some (.mapIter (some vb) k seen k)
 own:(Lay.int .u64).Own 41 wr w.heap.size (.slice (some ⟨w.heap.size,0,none⟩) n n) (cT xs)
 bel:Below w.heap.size w wr
 sz:R<wr.heap.size
 gR:w.heap.size<R
theorem LfW.drew{w wr vb R n k seen xs}(h:LfW w wr vb R n k seen xs):LfW w wr.drew vb R n k seen xs:=⟨h.it,dA h.own λ _ _=>rfl,h.bel.drew,h.sz,h.gR⟩
theorem LfW.put{w wr a R n k seen xs}(h:LfW w wr a R n k seen xs)(c:xs.length=n)(v x:Nat):LfW w (wr.setCell ⟨w.heap.size,v,none⟩ (.int .u64 (x:Int))) a R n k seen (xs.set v x):=by refine⟨(Aa _ _ _ R (by have:=h.gR;simp;omega)).trans h.it,?_,fD h.bel (A1 _) _,by simpa using h.sz,h.gR⟩;have e:cT (xs.set v x)=(cT xs).set v (x:Int):=by{simp[cT,List.map_set]};rw[e];exact(Lay.Own.put1 rfl h.own (by simpa[cT] using c) rfl v).1
theorem LfW.cell{w wr g R n k seen xs}(h:LfW w wr g R n k seen xs)(a:xs.length=n){v}(d:v<n):wr.cell? ⟨w.heap.size,v,none⟩=some (.int .u64 ((xs.getD v 0:Nat):Int))/\wr.frozen? ⟨w.heap.size,v,none⟩=false:=by obtain⟨c,f⟩:=eV h.own (by simpa[cT] using a) d;have e:(cT xs).getD v 0=((xs.getD v 0:Nat):Int):=by{simp[cT,List.getD_eq_getElem?_getD,a,d]};rw[e] at c;exact⟨c,f⟩
theorem Nz{xs:List Nat}{n v x}(a:xs.length=n)(c:v<n):(xs.set v x).getD v 0=x:=by simp[List.getD_eq_getElem?_getD,a,c]
theorem NA{xs:List Nat}{v}(h:xs.getD v 0=0):xs.set v 0=xs:=by refine List.ext_getElem (by simp) λi h1 a=> ?_;rw[List.getElem_set];split;{rename_i e;subst e;rw[A2,A5 a] at h;exact h.symm};rfl
def NB(w:World)(W:Nat)(L:List Nd)(M:Mo)(m:Nat->Bool)(n:Nat)(e:Ending)(w':World):=∃v xs,e= .returned (.tuple #[v,.int .i64 0])/\(Lay.int .u64).Own 41 w' w.heap.size v (cT xs)/\qI W L M m n xs/\Below w.heap.size w w'
set_option maxRecDepth 100000 in
set_option maxHeartbeats 8000000 in
theorem NC{w}{B bb xb r wb d W n ml mc:Nat}{off L M b m ma mm}(h:jy w B bb off xb r wb d W L M (cY L M) b)(al:dP W L M b)(hg:GOk W L)(a9:L.Nodup)(h4:W<=4)(hn:n<=100)
  (aQ:Lay.bool.At false w ma mm)(a7:mm.length=ml)(af:b.n=ml)(bG:b.n<=100000)(a8:∀l,0<l->l.natAbs<=b.n->mm.getD (l-1).toNat false=tv m l):
  Calls Tryz.prog 30 #[.pointer (some ⟨xb,0,none⟩),.int .i64 n,.slice ma ml mc] w (NB w W L M m n):=by
 obtain⟨G,aI,aL,aA⟩:=h.words;have hV:∀i j,i<(cY L M).length->j<(cY L M).length->((cY L M).getD i (0,0)).1=((cY L M).getD j (0,0)).1->i=j:=λi j hi hj e=>Nu al hg a9 hi hj e
 have ay:=h.xp;have an:=h.vars;have av:=Z al;have hvn:(cY L M).length<=M.length:=List.length_filterMap_le _ _;obtain⟨es,bz,e1,e2,e3⟩:=an.ents;have bD:bz=(cY L M).length:=by rw[e2];simp[fN]
 subst bD;clear e2;obtain⟨aT,aF,aZ⟩:=Ny e3;have O:Hid (∀c,Below w.heap.size w c->cN c xb (XV r bb wb d)/\dB .i64 c wb (dN M G)/\di c (λk=>k<w.heap.size) G (M.map (·.2))/\Lay.bool.At false c ma mm/\c.heap[d]? =some (.map es (cY L M).length)):=Z λc f=>by
  have bH:di w (λk=>k<w.heap.size) G (M.map (·.2)):=⟨aA.len,λi hi=>by
   have S:=aA.at_ i hi;exact⟨S.len,S.at_,λa e=>by obtain⟨o,ho,-⟩:=S.cel a e;exact(Al.1 ho).1,S.non,S.cel⟩⟩
  exact⟨ay.keep f,aL.frame (f.block _ aL.lt),bH.frame f.size (λk hk=>f.block k hk) λ _ h=>h,aQ.below f,(f.block _ an.lt).trans e1⟩
 have bq:=Z aF;have bn:=Z aZ;have bl:∀x∈es.toList,x.born<(cY L M).length:=λx hx=>by obtain⟨b,f,rfl⟩:=aF x hx;exact f
 have bB:=aT.nodup;have bw:Hid (∀t,(∃wd,(t,wd)∈M)->∃i,i<M.length/\(M.getD i (0,[])).1=t/\lkS (dN M G) t=some (hdV (G.getD i (none,0,0)))/\M.getD i (0,[])=(t,woF M t)):=Z λt ⟨wd,ht⟩=>by
  have q:=mw t M G aI;cases hk:lkS (dN M G) t with
  |none=>rw[hk] at q;exact absurd ht (q wd)
  |some v=>
   rw[hk] at q;obtain⟨i,q1,q2,q3⟩:=q;have q4:M.getD i (0,[])∈M:=eF _ _ q1;have q5:(t,(M.getD i (0,[])).2)∈M:=by rw[<-q2];exact q4
   exact⟨i,q1,q2,by rw[q3],by rw[Dz al q5,<-q2]⟩
 have HV:=Z hV;have HSL:=Z aI;have bs:=Z a8;have br:=Z a7;have hvbl:=an.lt;have hbni:(ml:Int)<=100000:=by omega
 have bk:=Z af;obtain⟨c3,-⟩:=ay.at_ 3 (.map (some d)) rfl;have hni:(n:Int)<=100:=by omega
 have hwn:IntKind.u64.wrap (n:Int)=n:=by rw[IntKind.wrap_u64];omega
 clear h al aL aA hV ay an aI a8 e1 e3 aQ a7 af bG a9 hg aF aZ aT;go_enter Tryz.func30,Tryz.ntmps30
 go_upto_region 6 with(first
  |(refine lX Tryz.elemU 0 rfl rfl _ _ rfl w.heap.size n _ rfl rfl rfl (by omega) w.heap.size rfl (A1 _) ?_
    intro w1 aG H)
  |fail)
 have HO:=Z aG;have HB:=Z H;obtain⟨bc,-,-,-,q1⟩:=O.o w1 H;obtain⟨bx,-⟩:=bc.at_ 3 (.map (some d)) rfl;have aY:=(aG.lt _ rfl).2;clear aG H bc c3
 go_wp2_with(at_range;refine zx rfl _ _ rfl Nv rfl q1 ?_)
 clear q1;intro w2 U;replace U:=U.o;have H0:Hid (LfW w w2 d w1.heap.size n (cY L M).length #[] (List.replicate n 0)):=by
  have aR:Below w1.heap.size w1 w2:=by rw[U];exact(A4 _ _).alloc (A1 _) _
  refine Z ⟨by rw[U];exact heap_alloc_new w1 _,?_,HB.o.trans (aR.mono HB.o.size),by rw[U];simp,aY⟩;have e:cT (List.replicate n 0)=List.replicate n (0:Int):=by simp[cT]
  rw[e];exact dA HO.o λk hk=>aR.block k (HO.o.lt k hk).2
 clear U;generalize hR:w1.heap.size=R at*;clear hR HO HB aY bx
 go_wp2_with fail
 go_loopw [] (λwr=>∃(seen:Array Nat) (xs:List Nat),Hid (LfW w wr d R n (cY L M).length seen xs/\LfI (cY L M) (woF M) m W n seen xs)) (λwr=>iT es R wr)
 case atStart=>exact⟨#[],List.replicate n 0,Z ⟨H0.o,LfI.zero n⟩⟩
 case round=>
  clear H0;obtain⟨seen,xs,g⟩:=hrel;generalize wr=wo at*;have aj:=g.o.1.it;have az:=(O.o _ g.o.1.bel).2.2.2.2
  go_wp2_with(at_next;refine zy rfl _ rfl (by rfl) aj az bl (A1 _) ?_ ?_)
  ·intro aW;have E:=Z (g.o.2.ok av.o λb f=>by
    obtain⟨e0,bJ,bF⟩:=bn.o b f;have:=all_seen es seen (by rw[aW.o];rfl) e0 bJ;rwa[bF] at this)
   clear aj az aW
   go_wp2_with fail
   go_ret2
   exact⟨_,xs,rfl,g.o.1.own,E.o,g.o.1.bel⟩
  intro e he w3 z aJ ac;replace ac:=ac.o;replace he:e∈(leftOf es seen).toList:=by simpa using he
  obtain⟨aB,aX⟩:=mem_left he;have aP:=g.o.1.sz;have bL:=g.o.1.gR;have Q:wo.grownBy w3 none:=by
   rcases aJ with rfl|rfl
   ·exact World.grownBy.refl _ _
   exact⟨rfl,rfl,rfl,A1 _,λ _ _ _=>rfl⟩
  have bA:w3.heap.size=wo.heap.size:=by rcases aJ with rfl|rfl<;>rfl
  have ai:wo.grownBy z (some R):=by
   rw[ac];refine⟨Q.os,Q.tape,Q.output,by simpa[setBlock] using Q.size,λk hk bO=> ?_⟩;show(w3.heap.setIfInBounds R _)[k]? =_;rw[AK (by intro e;exact bO (by rw[e]))];exact Q.block k hk (by simp)
  have aH:z.heap[R]? =some (.mapIter (some d) (cY L M).length (seen.push e.born) (cY L M).length):=by
   rw[ac];show(w3.heap.setIfInBounds R _)[R]? =_;rw[Array.getElem?_setIfInBounds_self_of_lt (by omega)]
  have ae:Below w.heap.size w z:=g.o.1.bel.grown ai g.o.1.bel.size (λk hk=>by injection hk with hk;omega);have aS:z.heap[d]? =some (.map es (cY L M).length):=(O.o _ ae).2.2.2.2;have bK:=run_entry_at (P:=Tryz.prog) z R d (cY L M).length seen es (cY L M).length e aH aS aB bB;have H4:Hid (LfW w z d R n (cY L M).length (seen.push e.born) xs):=Z ⟨aH,dA g.o.1.own λk hk=>ai.block k ((g.o.1.own.lt k hk).2) (λe9=>by
   have e8:=fe hk;injection e9 with e9;omega),ae,A8 aP ai.size,bL⟩
  have aa:Hid ((leftOf es (seen.push e.born)).size<(leftOf es seen).size/\iT es R wo=(leftOf es seen).size/\seen.contains e.born=false):=Z ⟨left_shrinks es seen e he,jm aj,aX⟩;obtain⟨A,H,rfl⟩:=bq.o e aB;have N:=Z g.o.2;clear ac aJ aj az he Q bA ai aX aH aS aB g aP;obtain⟨v,t,ao⟩:∃v t,(cY L M).getD A (0,0)=(v,t):=⟨_,_,rfl⟩
  rw[ao] at bK⊢;have ad:=Z ao;have a6:(v,t)∈cY L M:=by rw[<-ao];exact eF _ _ H
  obtain⟨bT,bi,ba,bP⟩:=td a6;obtain⟨Y,ab,bM,a4,aD⟩:=bw.o t ⟨bT,bi⟩;obtain⟨bd,bj,aV,bE,-⟩:=O.o z ae;obtain⟨c2,-⟩:=bd.at_ 2 (.map (some wb)) rfl;have bp:=Z bj;have bo:=Z a4;have aK:(t,woF M t)∈M:=by rw[<-aD];exact eF _ _ ab
  have aC:=av.o.each _ _ aK;have bf:=av.o.pos _ _ aK ba;have ah:=aV.at_ Y (by simpa using ab);have e5:(M.map (·.2)).getD Y []=woF M t:=by
   have:(M.map (·.2)).getD Y []=(M.getD Y (0,[])).2:=by simp[List.getD_eq_getElem?_getD,ab]
   rw[this,aD]
  rw[e5] at ah;clear bd bj aV bE a4 aD bM a6 bi ba bP ae ao;generalize hhd:G.getD Y (none,0,0)=hd at*;obtain⟨ha,F,S⟩:=hd;have bN:F=W:=ah.len.trans aC.2.1;subst bN;have bm:Hid (∀c,Below z.heap.size z c->(Lay.int .i64).At 0 c ha (woF M t)):=Z λc f=>ah.at_.below f
  have bv:Hid (∀c,Below w.heap.size w c->(Lay.int .i64).At 0 c ha (woF M t)/\Lay.bool.At false c ma mm):=Z λc f=>⟨by
   have q:=(O.o c f).2.2.1.at_ Y (by simpa using ab);rw[e5,hhd] at q;exact q.at_,(O.o c f).2.2.2.1⟩
  have ar:=Z aC;have bu:=Z bf;clear ah aC bf aK ab e5 hhd bm;have hv64:(v:Int)<18446744073709551616\/True:=.inr trivial;by_cases hlt:v<n
  ·have hvi:(v:Int)<n:=by omega
   have bI:decide ((n:Int)<=v)=false:=decide_eq_false (by omega);have bg:xs.getD v 0=0:=by
    have:=N.o.rest A H aa.o.2.2 (by rw[ad.o];exact hlt);rw[ad.o] at this;exact this
   have aM:Hid (LfW w z d R n (cY L M).length (seen.push A) (xs.set v (dY m (woF M t) 0))):=Z (by
    show LfW _ _ _ _ _ _ _ (xs.set v 0);rw[NA bg];exact H4.o)
   have ax:=Z N.o.len;clear bg
   go_wp2_with(first
    |(refine Ck lm rfl _ _ rfl rfl bp.o rfl ?_
      rw[bo.o];simp only[Option.getD_some,hdV])
    |fail)
   go_loopw [44] (λiv wr=>∃i:Nat,iv= .int .i64 i/\i<=F/\Hid (LfW w wr d R n (cY L M).length (seen.push A) (xs.set v (dY m (woF M t) i)))) (λiv _=>F-(intOf iv).toNat)
   case atStart=>exact⟨0,rfl,by omega,aM⟩
   case round=>
    clear aM c2;obtain⟨i,rfl,hi,D⟩:=hrel;generalize wr=wi at*;by_cases hil:i<F
    ·have hii:(i:Int)<F:=by omega
     obtain⟨bh,a5⟩:=bv.o wi D.o.bel;obtain⟨qb,qo,rfl,hqb,hq⟩:=bh.int (i:=i) (by rw[ar.o.2.1];exact hil);have aE:(woF M t).getD i 0∈woF M t:=eF _ _ (by rw[ar.o.2.1];exact hil);have a0:=bu.o _ aE;have a3:=(ar.o.2.2 _ aE).2;obtain⟨u,hu⟩:∃u:Nat,(woF M t).getD i 0=(u:Int)+1:=⟨((woF M t).getD i 0-1).toNat,by omega⟩
     have af:=bk.o;have bR:u<ml:=by omega
     have am:=bs.o _ a0 a3;rw[hu] at am hq;rw[show((u:Int)+1-1).toNat=u by omega] at am;obtain⟨pb,po,e8,hpb,be⟩:=a5 u (by rw[br.o];exact bR);subst e8;have T:=be 0 (by decide);rw[am] at T;replace T:wi.cell? ⟨pb,po+u,none⟩=some (.bool (tv m ((u:Int)+1))):=by simpa[Lay.bool] using T
     have hwu:IntKind.i64.wrap ((u:Int)+1-1)=u:=by rw[IntKind.wrap_i64];omega
     have hui:(u:Int)<ml:=by omega
     have aw:Hid (dY m (woF M t) (i+1)=if tv m ((u:Int)+1)=true then dY m (woF M t) i|||2^i else dY m (woF M t) i):=Z (by rw[<-hu];rfl);clear bh a5 aE a0 a3 hu af am be;cases htv:tv m ((u:Int)+1) with
     |false=>
      rw[htv] at T;have E:Hid (LfW w wi d R n (cY L M).length (seen.push A) (xs.set v (dY m (woF M t) (i+1)))):=Z (by rw[aw.o,htv];exact D.o);clear D htv
      go_wp2_with fail
      go_roundw
      case rel=>exact⟨i+1,by go_num,by omega,E⟩
      case measure=>simp[intOf];omega
     |true=>
      rw[htv] at T;have aN:=Z htv;clear htv
      go_upto_region 14 with fail
      have aq:=Z (D.o.cell (by simpa using ax.o) hlt);have hx:(xs.set v (dY m (woF M t) i)).getD v 0=dY m (woF M t) i:=Nz ax.o hlt;rw[hx] at aq;have bS:dY m (woF M t) i<2^i:=Dy i;have hi4:i<4:=by omega
      have aU:bits .or .u64 ((dY m (woF M t) i:Nat):Int) (2^i)=((dY m (woF M t) i|||2^i:Nat):Int):=by
       have h16:2^i<=2^3:=Nat.pow_le_pow_right (by decide) (by omega);rw[<-xq _ (2^i) (by omega) (by omega)]
       congr 1
      have E:Hid (LfW w (wi.setCell ⟨w.heap.size,v,none⟩ (.int .u64 (bits .or .u64 ((dY m (woF M t) i:Nat):Int) (2^i)))).drew d R n (cY L M).length (seen.push A) (xs.set v (dY m (woF M t) (i+1)))):=Z (by
       rw[aw.o,aN.o,if_pos rfl,aU];have:=(D.o.put (by simpa using ax.o) v (dY m (woF M t) i|||2^i)).drew;rw[List.set_set] at this;exact this)
      have hsh:IntKind.u64.wrap (2^i)=2^i:=by
       have q:i=0\/i=1\/i=2\/i=3:=by omega
       rcases q with rfl|rfl|rfl|rfl<;>rfl
      generalize dY m (woF M t) i=x at*;clear aU bS;obtain⟨cc,ff⟩:=aq.o;have aO:wi.drew.cell? ⟨w.heap.size,v,none⟩=some (.int .u64 (x:Int)):=cc;clear aw aN D hx T hq aq;refine gV (λw'=>w'.cell? ⟨w.heap.size,v,none⟩=some (.int .u64 (x:Int))) (λi=>i==8) (by kernel_rfl) (λJ hJ=> ?_)
      repeat(
       (first|apply tk0 0 (by rfl) (by decide+kernel)|apply tk0 1 (by rfl) (by decide+kernel)|apply tk0 2 (by rfl) (by decide+kernel)|apply tk2 3 (by rfl) (by decide+kernel) (by assumption)|apply tk0 4 (by rfl) (by decide+kernel)|apply tk0 5 (by rfl) (by decide+kernel)|apply tk0 6 (by rfl) (by decide+kernel)|apply tk0 7 (by rfl) (by decide+kernel))
       intro w bC
       try dsimp only at bC
       (go_simp<;>with_reducible rfl)
       try simp only[pS,pN,pA,pZ,pC])
      refine tk5 8 (by kernel_rfl) (by rfl) λK hK=> ?_
      go_simp;refine hK.out _ _ ?_ (λaO=> ?_)
      ·intro F;cases F
      clear aO;clear hK K
      try simp only[pS,pN,pA,pZ,pC]
      refine eN (by kernel_rfl) ?_ _;refine hJ.o _ _ ?_;clear hJ J
      go_wp2_with fail
      go_roundw
      case rel=>exact⟨i+1,by go_num,by omega,E⟩
      case measure=>simp[intOf];omega
    obtain rfl:i=F:=by omega
    have E:Hid (LfW w wi d R n (cY L M).length (seen.push A) (xs.set v (dY m (woF M t) i))/\LfI (cY L M) (woF M) m i n (seen.push A) (xs.set v (dY m (woF M t) i))):=Z ⟨D.o,N.o.take HV.o H ad.o hlt⟩;have au:=Z (jm (ents:=es) D.o.it);clear H4 N D
    go_wp2_with fail
    go_roundw
    case rel=>exact⟨_,_,E⟩
    case measure=>rw[au.o,aa.o.2.1];exact aa.o.1
  have bI:decide ((n:Int)<=v)=true:=decide_eq_true (by omega);have bQ:n<=v:=by omega
  have E:Hid (LfW w z d R n (cY L M).length (seen.push A) xs/\LfI (cY L M) (woF M) m F n (seen.push A) xs):=Z ⟨H4.o,N.o.skip ad.o bQ⟩;have au:=Z (jm (ents:=es) H4.o.it);clear H4 N
  go_wp2_with fail
  go_roundw
  case rel=>exact⟨_,xs,E⟩
  case measure=>rw[au.o,aa.o.2.1];exact aa.o.1
