/- Walk: Vars of the code. -/
import Derived.Test.YtmicnollchhlfaaGreatR13
import Derived.Shelf.Sort.Plain
import Derived.Shelf.Slices.In.SortNone
import Derived.Sort.OwnSortedInts
set_option linter.all false
set_option maxHeartbeats 8000000
set_option maxRecDepth 100000
namespace Go.Proofs.YtmicnollchhlfaaGreat
open Go Go.RowKit
open Go.Proofs.YtmicnollchhlfaaGreat.Cr
def iy(L:List Nd)(ts:List Nat)(j:Nat):=∃t∈ts,Occ L t j
def qH L ts n:=∃j,iy L ts j/\(L.getD j default).op=1/\(((L.getD j default).num:Nat):Int)=n
theorem iy.lt{W L ts}(h:GOk W L)(ht:∀t∈ts,t<L.length){j}:iy L ts j->j<L.length:=λ⟨t,a,o⟩=>o.lt h (ht t a)
theorem iy.arg{L ts i a}:iy L ts i->a∈(L.getD i default).args->iy L ts a:=λ⟨t,h,o⟩ ha=>⟨t,h,.arg o ha⟩
structure gQ (L:List Nd) (ts:List Nat) (S K:List Nat):Prop where
 nd:S.Nodup
 occS:∀x∈S,iy L ts x
 occK:∀x∈K,iy L ts x
 top:∀t∈ts,t∈S\/t∈K
 closed:∀x∈S,∀a∈(L.getD x default).args,a∈S\/a∈K
 kl:K.length<=3*S.length+ts.length
section
variable {W:Nat} {L:List Nd} {x:Nat} {ts S K:List Nat}
theorem gQ.start L ts:gQ L ts [] ts:=⟨.nil,λx hx=>(by cases hx),λx hx=>⟨x,hx,.top⟩,λt ht=>.inr ht,λx hx=>(by cases hx),by simp⟩
theorem gQ.skip(h:gQ L ts S (K++[x]))(g:x∈S):gQ L ts S K:=by have key:∀a,a∈S\/a∈K++[x]->a∈S\/a∈K:=λa e=>by{rcases e with e|e;{exact .inl e};rcases A6.1 e with e|e;{exact .inr e};rw[List.mem_singleton.1 e];exact .inl g};exact⟨h.nd,h.occS,λy c=>h.occK y (A6.2 (.inl c)),λt f=>key _ (h.top t f),λy c a d=>key _ (h.closed y c a d),by have:=h.kl;simp at this;omega⟩
theorem gQ.push(k:GOk W L)(h:gQ L ts S (K++[x]))(n:x∉S):gQ L ts (S++[x]) (K++(L.getD x default).args):=by have f:iy L ts x:=h.occK x (by simp);have key:∀a,a∈S\/a∈K++[x]->a∈S++[x]\/a∈K++(L.getD x default).args:=λa e=>by{rcases e with e|e;{exact .inl (A6.2 (.inl e))};rcases A6.1 e with e|e;{exact .inr (A6.2 (.inl e))};exact .inl (A6.2 (.inr e))};refine⟨List.nodup_append.2 ⟨h.nd,by simp,λa d b j=>by rw[List.mem_singleton.1 j];rintro rfl;exact n d⟩,λy c=> ?_,λy c=> ?_,λt l=>key _ (h.top t l),λy c a d=> ?_,?_⟩;{rcases A6.1 c with c|c;{exact h.occS y c};rw[List.mem_singleton.1 c];exact f};{rcases A6.1 c with c|c;{exact h.occK y (A6.2 (.inl c))};exact f.arg c};{rcases A6.1 c with c|c;{exact key _ (h.closed y c a d)};rw[List.mem_singleton.1 c] at d;exact .inr (A6.2 (.inr d))};have g:=h.kl;have h2:=k.argl x;rw[Aq] at g⊢;rw[Aq,List.length_singleton] at*;omega
def gQ.len(hg:GOk W L)(ht:∀t∈ts,t<L.length)(h:gQ L ts S K):=Bj h.nd λx hx=>(h.occS x hx).lt hg ht
theorem gQ.less(c:GOk W L)(d:∀t∈ts,t<L.length)(h:gQ L ts S (K++[x]))(f:x∉S):S.length<L.length:=by have:=(h.push c f).len c d;simp at this;omega
theorem gQ.done(h:gQ L ts S []) j:j∈S↔iy L ts j:=by refine⟨h.occS j,λ⟨t,c,o⟩=> ?_⟩;induction o with|top=>(rcases h.top t c with e|e;exact e;cases e)| @arg i a d ha ih=>rcases h.closed _ (ih ⟨t,c,d⟩) _ ha with e|e;exact e;cases e
end
section
variable {w:World} {ops:Array Oper} {rest:List Oper} {o:Oper} {a:Act} {Q:Exit->Act->World->Prop} {mb:Nat} {L:List Nd} {S:List Nat}
theorem Ct(j:o.guard=none) m x(l:o.op=Op.lookup 109 m x true)(hm:a.eval m= .map (some mb))(h:gF w mb L S){k:Nat}(t:a.eval x= .int .i64 (k:Int)) (f:∀(p u:Nat) d n c,wpList Tryz.prog ops Q rest (a.put o.dst (.tuple #[.agg #[.int .u8 (p:Int),.int .u64 (u:Int),.slice d n c],.bool (decide (k∈S))])) w):wpList Tryz.prog ops Q (o::rest) a w:=by refine wpList_plain j λK' g=> ?_;obtain⟨p,u,d,n,c,r⟩:=h.lookup k;unfold Oper.wp;simp[execOp,l,hm,t,r,Result.andThen];exact g _ _ (f p u d n c)
theorem Lv(t:o.guard=none) m x v(A:o.op=Op.mapUpdate 109 m x v)(hm:a.eval m= .map (some mb))(h:gF w mb L S){k:Nat}(F:a.eval x= .int .i64 (k:Int))(z:k∉S) {f n c p u}(B:((L.getD k default).op:Int)=p)(D:((L.getD k default).num:Int)=u)(E:a.eval v= .agg #[.int .u8 p,.int .u64 u,.slice f n c]) (j:∀w',gF w' mb L (S++[k])->w'.heap.size=w.heap.size->(∀b,b≠mb->w'.heap[b]? =w.heap[b]?)->Below mb w w'->wpList Tryz.prog ops Q rest (a.put o.dst undef) w'):wpList Tryz.prog ops Q (o::rest) a w:=by refine wpList_plain t λK' l=> ?_;obtain⟨G,g,r⟩:=h.update z f n c;rw[B,D] at g;have d:∀b,b≠mb->(w.heap.setIfInBounds mb G)[b]? =w.heap[b]? :=λb d=>AK (Ne.symm d);unfold Oper.wp;simp[execOp,A,hm,F,E,g,Result.andThen];exact l _ _ (j _ (r _ rfl) (by simp) d ⟨rfl,rfl,rfl,by simp,λk hk=>d k (by omega)⟩)
end
theorem Own.off{α}{Ly:Lay α}{e w w' mb base v xs}(h:Ly.Own e w base v xs)(hb:mb<base)(hk:∀b,b≠mb->w'.heap[b]? =w.heap[b]?):Ly.Own e w' base v xs:=by obtain⟨c,h|⟨g,d,f,rfl,j,k,l,hm,n,r⟩⟩:=h;{exact⟨c,.inl h⟩};exact⟨c,.inr ⟨g,d,f,rfl,j,(hk g (by omega)).trans k,l,hm,n,r⟩⟩
theorem Own.pop{w base b m cap x xs}(h:(Lay.int .i64).Own 3 w base (.slice (some ⟨b,0,none⟩) (m+1) cap) (xs++[x]))(hm:xs.length=m):(Lay.int .i64).Own 3 w base (.slice (some ⟨b,0,none⟩) m cap) xs:=by obtain⟨hl,h|⟨g,cap',d,e,f,j,l,k,n,r⟩⟩:=h;{cases h.1};injection e with e1 e2 e3;injection e1 with e1;injection e1 with e1 _;subst e1 e3 hm;refine⟨(Lay.int .i64).flat_length xs,.inr ⟨_,_,d,rfl,f,j,by simp at l;omega,k,n,?_⟩⟩;have c:=congrArg (List.take (xs.length*(Lay.int .i64).sz)) r;rw[List.take_take,Lay.flat_append,Nat.min_eq_left (by simp[Lay.int])] at c;rw[c,List.take_append_of_le_length (by rw[Lay.flat_length];exact A1 _),<-Lay.flat_length,AU]
def nU(w:World)(mb:Nat):Nat:=match w.heap[mb]? with|some (.map es _)=>es.size|_=>0
def lenOf:Value->Nat| .slice _ n _=>n|_=>0
theorem gF.sz{w mb L S}(h:gF w mb L S):nU w mb=S.length:=by obtain⟨es,c,d,h2,f⟩:=h.ents;unfold nU;rw[d];have:=f.len;simpa using this
theorem Cu l r:cT (l++r)=cT l++cT r:=by simp[cT]
structure wX (w0 w:World) (L:List Nd) (ts:List Nat) (mb:Nat) (v:Value) (S K:List Nat):Prop where
 inv:gQ L ts S K
 map:gF w mb L S
 own:(Lay.int .i64).Own 3 w (mb+1) v (cT K)
 bel:Below w0.heap.size w0 w
 lt:mb<w.heap.size
def Lw{w w':World}{B b:Nat}(h:Below B w w')(hb:b<w.heap.size):=A8 hb h.size
def Cw(w:World)(L:List Nd)(ts:List Nat)(e:Ending)(w':World):=∃mb S,e= .returned (.tuple #[.map (some mb),.int .i64 0])/\gF w' mb L S/\(∀j,j∈S↔iy L ts j)/\S.Nodup/\w.heap.size<=mb/\mb<w'.heap.size/\Below w.heap.size w w'
theorem Lx{w r W L}(h:RV w r W L) ts(ht:∀t∈ts,t<L.length)(hL:L.length<=1000)(aU:ts.length<=1000) ta c(aR:ta=none->c=0)(hc:(Lay.int .i64).At 0 w ta (cT ts)):Calls Tryz.prog 45 #[.pointer (some ⟨r,0,none⟩),.slice ta ts.length c] w (Cw w L ts):=by have z:=Z h;have F:Hid (∀t∈ts,t<L.length):=Z ht;have aC:Hid (L.length<=1000):=Z hL;have an:Hid (ts.length<=1000):=Z aU;obtain⟨na,nc,aQ,_⟩:=h.nodes;have aD:=Z (Jf r L.length w aQ);have ay:=Z hc;have a8:=Z aR;clear h aQ hc aR ht hL;obtain⟨nl,hl⟩:∃nl,L.length=nl:=⟨_,rfl⟩;rw[hl] at aD F;have A:=Z hl;clear hl;obtain⟨E,ax⟩:∃E,ts.length=E:=⟨_,rfl⟩;rw[ax] at aU⊢;have V:=Z ax;clear ax;have hmm:=@run_makeMap Tryz.prog;go_enter Tryz.func45,Tryz.ntmps45;go_wp2_with fail;go_step3;go_wp2_with fail;go_loop [19] (λi=>∃k:Nat,k<=E/\i= .int .i64 k) (λi=>E-(intOf i).toNat);(case atStart=>exact⟨0,by omega,rfl⟩);case round=>obtain⟨k,hk,rfl⟩:=hrel;by_cases hk0:k<E;{have hki:(k:Int)<E:=by{omega};obtain⟨tb,to_,rfl,htb,c0⟩:=ay.o.int (i:=k) (by rw[ed,V.o];exact hk0);rw[lW] at c0;have hx:=F.o _ (iU 0 ts k (by rw[V.o];exact hk0));generalize ts.getD k 0=t at*;have d0:decide ((t:Int)<0)=false:=by{simp};have d1:decide ((nl:Int)<=(t:Int))=false:=by{simp;omega};go_wp2_with fail;refine aD.o.mono ?_;rintro e w' ⟨rfl,rfl⟩;go_wp2_with fail;go_round;(case rel=>exact⟨k+1,by omega,by go_num⟩);case measure=>simp[intOf]<;>omega};obtain rfl:k=E:=by{omega};have BM:Below w.heap.size w (w.alloc (.map #[] 0)):=(A4 _ _).alloc (A1 _) _;have aI:Hid (gF (w.alloc (.map #[] 0)) w.heap.size L []):=Z ⟨#[],0,heap_alloc_new w _,rfl,trivial⟩;have aP:w.heap.size<(w.alloc (.map #[] 0)).heap.size:=by{simp};have af:=Z BM;have aj:=Z aP;clear BM aP hk0;go_wp2_with(first|(at_builtin;refine sq Tryz.elemI (d:=0) (qs:=cT ts) (base:=w.heap.size+1) rfl _ _ rfl rfl (Lay.Own.nil _ _) rfl a8.o (by rw[ed];exact V.o) (ay.o.below af.o) (by have O:=an.o;have h2:=V.o;show 0+_<=1000000;omega) (by first|exact aj.o|(simp;done)) ?_;intro v1 w1 r1 r2;rw[List.nil_append] at r1;have f:Hid (wX w w1 L ts w.heap.size v1 [] ts):=Z ⟨gQ.start L ts,aI.o.frame (r2.block _ (AJ _)),r1,af.o.trans (r2.mono (AP _)),Lw r2 aj.o⟩;clear r1 r2));clear aI af aj;generalize hmb:w.heap.size=mb at*;have ai:=Z hmb;clear hmb;go_step3;go_wp2_with fail;go_loopw [9] (λv wr=>∃S K,Hid (wX w wr L ts mb v S K)) (λv wr=>(nl-nU wr mb)*4+lenOf v);(case atStart=>exact⟨_,_,f⟩);case round=>clear f;obtain⟨S,K,f⟩:=hrel;have aT:=f.o.own;obtain⟨ka,D,Y,aW,_,aX⟩:=aT.at_ (d:=0);rw[ed] at Y;subst Y;have ah:=Z aW;clear aT aW;by_cases hz:K.length=0;{have hK:K=[]:=List.eq_nil_of_length_eq_zero hz;have HR:Hid (Cw w L ts (.returned (.tuple #[.map (some mb),.int .i64 0])) wr):=Z (by subst hK;exact⟨mb,S,rfl,f.o.map,λj=>f.o.inv.done j,f.o.inv.nd,Nat.le_of_eq ai.o,f.o.lt,f.o.bel⟩);clear hK ah;rw[hz];go_wp2_with fail;go_ret2;exact HR.o};obtain⟨m,hm⟩:∃m,K.length=m+1:=⟨K.length-1,by omega⟩;have aa:=Je K (by omega);rw[hm,Nat.add_sub_cancel] at aa;obtain⟨kb,ko,rfl,hkb,k0⟩:=ah.o.int (i:=m) (by rw[ed];omega);rw[lW] at k0;obtain⟨x,hx⟩:∃x,K.getD m 0=x:=⟨_,rfl⟩;obtain⟨B,ar⟩:∃B,K.take m=B:=⟨_,rfl⟩;rw[hx] at k0 aa;rw[ar] at aa;have aw:B.length=m:=by{rw[<-ar,Ae];omega};subst aa;have bf:ko=0:=by{rcases f.o.own.2 with⟨h,_⟩|⟨g,c',be,h,_⟩;{cases h};injection h with h _ _;injection h with h;injection h};subst bf;rw[Ap] at k0;rw[hm] at f⊢;have al:Hid ((Lay.int .i64).Own 3 wr (mb+1) (.slice (some ⟨kb,0,none⟩) m D) (cT B)):=Z (by have:=f.o.own;rw[Cu] at this;exact Own.pop this (by rw[ed];exact aw));have aO:m+1<=D:=by{rcases f.o.own.2 with⟨h,_⟩|⟨g,c',be,h,_,_,h',_⟩;{cases h};injection h with O h2 P;rw[P,ed,hm] at*;exact h'};have aB:=Z aw;have HKC:Hid (m+1<=D/\D<=maxLen):=Z ⟨aO,aX⟩;have hm1:(m:Int)<D:=by{omega};have hm4:m<=10000:=by{have O:=f.o.inv.kl;have h2:=f.o.inv.len z.o.ok (by rw[A.o];exact F.o);have P:=aC.o;have h4:=A.o;have h5:=an.o;simp only[Aq,List.length_singleton] at O;omega};have hm2:(m:Int)<=D:=by{omega};clear hx ar aw hm hz ah aO aX;have bd:Hid (x<L.length):=Z (iy.lt z.o.ok (by rw[A.o];exact F.o) (f.o.inv.occK x (by simp)));by_cases hxs:x∈S;{have n:Hid (wX w (wr) L ts mb (.slice (some ⟨kb,0,none⟩) m D) S B):=Z ⟨f.o.inv.skip hxs,f.o.map,al.o,f.o.bel,f.o.lt⟩;have au:decide (x∈S)=true:=decide_eq_true hxs;have HM:=Z f.o.map;have aF:=Z f.o.map.sz;clear hxs al;go_wp2_with(at_lookup;refine Ct rfl _ _ rfl rfl HM.o rfl ?_;intro qo qu qa qn qc;rw[au]);go_roundw;(case rel=>exact⟨S,B,Z ⟨n.o.inv,n.o.map.frame (Ax _ _ _ n.o.lt),n.o.own.alloc _,n.o.bel.alloc n.o.bel.size _,by simp;have:=n.o.lt;omega⟩⟩);case measure=>have Y:nU (wr.alloc (.cells #[.int .u8 qo,.int .u64 qu,.slice qa qn qc] 95)) mb=nU wr mb:=by{unfold nU;rw[Ax _ _ _ n.o.lt]};rw[Y];simp only[lenOf];omega};have au:decide (x∈S)=false:=decide_eq_false hxs;have ao:=Z hxs;have HM:=Z f.o.map;have aF:=Z f.o.map.sz;have N:=Z f.o.lt;have T:=Z f.o.bel;have U:=Z f.o.inv;have aG:=Z (λ(w':World) (hb:Below wr.heap.size wr w')=>pU (z.o.below (T.o.trans (hb.mono T.o.size))) x bd.o);obtain⟨nd,R⟩:∃nd,L.getD x default=nd:=⟨_,rfl⟩;rw[R] at aG;have ba:Hid ((((L.getD x default).op:Nat):Int)=nd.op):=Z (by rw[R]);have a9:Hid ((((L.getD x default).num:Nat):Int)=nd.num):=Z (by rw[R]);have ab:Hid ((L.getD x default).args=nd.args):=Z (by rw[R]);clear R;generalize nd.op=op at*;generalize nd.num=num at*;generalize nd.args=args at*;clear hxs f;go_wp2_with(first|(at_lookup;refine Ct rfl _ _ rfl rfl HM.o rfl ?_;intro qo qu qa qn qc;rw[au];have ae:Hid (Below wr.heap.size wr (wr.alloc (.cells #[.int .u8 qo,.int .u64 qu,.slice qa qn qc] 95))):=Z ((A4 _ _).alloc (A1 _) _))|(go_at_call 65;refine(aG.o _ ae.o).mono ?_;rintro e l ⟨G,H,rfl,aK,aN,aS,aL⟩;have a7:=Z aS;clear aS;have ac:Hid (Below wr.heap.size wr l):=Z (ae.o.trans (aL.mono ae.o.size));have aY:=Z aK;have a5:=Z aN;have az:Hid (Below l.heap.size l (l.alloc (.cells #[.int .u8 (op:Int),.int .u64 (num:Int),.slice G args.length H] 95))):=Z ((A4 _ _).alloc (A1 _) _);have c50:(l.alloc (.cells #[.int .u8 (op:Int),.int .u64 (num:Int),.slice G args.length H] 95)).cell? ⟨l.heap.size,2,none⟩=some (.slice G args.length H):=by{rw[AC];rfl};have a4:=Z c50;have J:Hid (Below wr.heap.size wr (l.alloc (.cells #[.int .u8 (op:Int),.int .u64 (num:Int),.slice G args.length H] 95))):=Z (ac.o.trans (az.o.mono ac.o.size));have a6:=Z (HM.o.frame (J.o.block _ N.o));have aZ:=Z (aY.o.below az.o);have bb:=Z (al.o.grown J.o);have HZX:Hid (l.heap.size<(l.alloc (.cells #[.int .u8 (op:Int),.int .u64 (num:Int),.slice G args.length H] 95)).heap.size):=Z (by simp);clear aK aN aL c50)|(at_mapUpdate;refine Lv rfl _ _ _ rfl rfl a6.o rfl ao.o ba.o a9.o rfl ?_;intro wC aJ aV av aM;have bc:=Z aJ;have aA:=Z av;have a3:=Z aM;have aq:=Z aV;have c51:wC.cell? ⟨l.heap.size,2,none⟩=some (.slice G args.length H):=(Ah (a:=⟨l.heap.size,2,none⟩) (av l.heap.size (by have:=ac.o.size;have:=N.o;omega))).trans a4.o;clear aJ aV av aM)|(at_builtin;refine sq Tryz.elemI (d:=0) (qs:=cT args) rfl _ _ rfl rfl (Own.off bb.o (AJ _) aA.o) rfl a7.o (ed _) (At.frame aZ.o (Nat.le_of_eq aq.o.symm) (λad e=>aA.o _ (by have:=a5.o ad e;simp at this;have:=N.o;omega))) (by have O:=aB.o;have h2:=U.o.kl;have P:=U.o.len z.o.ok (by rw[A.o];exact F.o);have h4:=z.o.ok.argl x;rw[ab.o] at h4;have h5:=aC.o;have h6:=A.o;have h7:=an.o;simp only[Aq,List.length_singleton,ed] at*;omega) (by rw[aq.o];have:=J.o.size;have:=N.o;omega) ?_;intro v9 w9 r1 r2;rw[<-Cu] at r1;have aH:=Z r1;have am:=Z r2;clear r1 r2));have a0:Hid (Below w.heap.size w w9):=Z ((T.o.trans (J.o.mono T.o.size)).trans ((by have:=a3.o;rwa[<-ai.o] at this:Below w.heap.size _ wC).trans (am.o.mono (by have:=ai.o;omega))));have aE:Hid (gF w9 mb L (S++[x])):=Z (bc.o.frame (am.o.block _ (AJ _)));go_roundw;(case rel=>exact⟨S++[x],B++args,Z ⟨by rw[<-ab.o];exact U.o.push z.o.ok ao.o,aE.o,aH.o,a0.o,by have:=am.o.size;have:=aq.o;have:=J.o.size;have:=N.o;omega⟩⟩);case measure=>rw[aE.o.sz,aF.o];obtain⟨_,_,e9,_⟩:=aH.o.at_ (d:=0);rw[e9];have O:=U.o.less z.o.ok (by rw[A.o];exact F.o) ao.o;have h2:=A.o;have P:=z.o.ok.argl x;rw[ab.o] at P;have h4:=aB.o;simp only[lenOf,Aq,List.length_singleton,ed];omega
open Go.Shelf
def Tryz.lays189_ren:Go.Shelf.Ren:=⟨λ|189=>46|125=>76|257=>75|128=>107|129=>108|294=>98|295=>99|296=>100|297=>101|298=>102|299=>103|216=>104|300=>105|301=>106|328=>141|329=>142|330=>143|331=>144|332=>145|215=>146|343=>167|n=>n,λ|28=>23|3=>3|46=>86|0=>0|51=>202|53=>41|4=>4|183=>196|182=>195|131=>153|5=>5|9=>9|218=>212|222=>215|228=>234|229=>235|n=>n,λ|n=>n⟩
theorem Tryz.lays189:Go.Proofs.Lays.n189 Tryz.prog Tryz.lays189_ren:={
 mixed:=by kernel_rfl
 f125:=Tryz.func76.trans (congrArg some (by kernel_rfl))
 f128:=Tryz.func107.trans (congrArg some (by kernel_rfl))
 f129:=Tryz.func108.trans (congrArg some (by kernel_rfl))
 f189:=Tryz.func46.trans (congrArg some (by kernel_rfl))
 f215:=Tryz.func146.trans (congrArg some (by kernel_rfl))
 f216:=Tryz.func104.trans (congrArg some (by kernel_rfl))
 f257:=Tryz.func75.trans (congrArg some (by kernel_rfl))
 f294:=Tryz.func98.trans (congrArg some (by kernel_rfl))
 f295:=Tryz.func99.trans (congrArg some (by kernel_rfl))
 f296:=Tryz.func100.trans (congrArg some (by kernel_rfl))
 f297:=Tryz.func101.trans (congrArg some (by kernel_rfl))
 f298:=Tryz.func102.trans (congrArg some (by kernel_rfl))
 f299:=Tryz.func103.trans (congrArg some (by kernel_rfl))
 f300:=Tryz.func105.trans (congrArg some (by kernel_rfl))
 f301:=Tryz.func106.trans (congrArg some (by kernel_rfl))
 f328:=Tryz.func141.trans (congrArg some (by kernel_rfl))
 f329:=Tryz.func142.trans (congrArg some (by kernel_rfl))
 f330:=Tryz.func143.trans (congrArg some (by kernel_rfl))
 f331:=Tryz.func144.trans (congrArg some (by kernel_rfl))
 f332:=Tryz.func145.trans (congrArg some (by kernel_rfl))
 f343:=Tryz.func167.trans (congrArg some (by kernel_rfl))
 t0:=Tryz.underlying0
 a0:=Tryz.isAgg0
 z0:=Tryz.sizeOf0
 v0:=Tryz.zeroValue0
 t3:=Tryz.underlying3
 a3:=Tryz.isAgg3
 z3:=Tryz.sizeOf3
 v3:=Tryz.zeroValue3
 t4:=Tryz.underlying4
 a4:=Tryz.isAgg4
 z4:=Tryz.sizeOf4
 v4:=Tryz.zeroValue4
 t5:=Tryz.underlying5
 a5:=Tryz.isAgg5
 z5:=Tryz.sizeOf5
 v5:=Tryz.zeroValue5
 t9:=Tryz.underlying9
 a9:=Tryz.isAgg9
 z9:=Tryz.sizeOf9
 v9:=Tryz.zeroValue9
 t28:=Tryz.underlying23
 a28:=Tryz.isAgg23
 z28:=Tryz.sizeOf23
 v28:=Tryz.zeroValue23
 t46:=Tryz.underlying86
 a46:=Tryz.isAgg86
 z46:=Tryz.sizeOf86
 v46:=Tryz.zeroValue86
 t51:=Tryz.underlying202
 a51:=Tryz.isAgg202
 z51:=Tryz.sizeOf202
 v51:=Tryz.zeroValue202
 t53:=Tryz.underlying41
 a53:=Tryz.isAgg41
 z53:=Tryz.sizeOf41
 v53:=Tryz.zeroValue41
 t131:=Tryz.underlying153
 a131:=Tryz.isAgg153
 z131:=Tryz.sizeOf153
 v131:=Tryz.zeroValue153
 t182:=Tryz.underlying195
 a182:=Tryz.isAgg195
 z182:=Tryz.sizeOf195
 v182:=Tryz.zeroValue195
 t183:=Tryz.underlying196
 a183:=Tryz.isAgg196
 z183:=Tryz.sizeOf196
 v183:=Tryz.zeroValue196
 t218:=Tryz.underlying212
 a218:=Tryz.isAgg212
 z218:=Tryz.sizeOf212
 v218:=Tryz.zeroValue212
 t222:=Tryz.underlying215
 a222:=Tryz.isAgg215
 z222:=Tryz.sizeOf215
 v222:=Tryz.zeroValue215
 t228:=Tryz.underlying234
 a228:=Tryz.isAgg234
 z228:=Tryz.sizeOf234
 v228:=Tryz.zeroValue234
 t229:=Tryz.underlying235
 a229:=Tryz.isAgg235
 z229:=Tryz.sizeOf235
 v229:=Tryz.zeroValue235}
open Go.Sort Go.RowKit in
theorem Tryz.slices_Sort_int(blk off cap:Nat)(zs:List Int)(w:World)(hH:Holds (Value.int .i64) w blk off zs.toArray)(hblk:blk<w.heap.size)(hsz:zs.length<4611686018427387904):
 Calls Tryz.prog 46 #[.slice (some ⟨blk,off,none⟩) zs.length cap] w λe w'=>
  e= .returned (.tuple #[])/\∃n os,w'=grow (putRow (Value.int .i64) (Sort.ahead w n) blk off (zs.mergeSort λx y=>decide (x<=y)).toArray) os:=Any.slices_Sort_int Tryz.lays189 blk off cap zs w hH hblk hsz
open Go.RowKit Go.Sort in
theorem Tryz.slices_Sort_int_none p cap w:
 Calls Tryz.prog 46 #[.slice p 0 cap] w λe w'=>e= .returned (.tuple #[])/\w'=w:=Any.slices_Sort_int_none Tryz.lays189 p cap w
open Go Go.RowKit
open Go.Proofs.YtmicnollchhlfaaGreat.Cr
open Go.ChangeMaps (setBlock)
theorem Cx xs:(Lay.int .i64).flat xs=xs.map (Value.int .i64):=by induction xs with|nil=>rfl|cons x xs ih=>simp only[Lay.flat,Lay.int,List.flatMap_cons,List.map_cons] at ih⊢;rw[ih];rfl
theorem Lz{w base v xs}(h:(Lay.int .i64).Own 3 w base v xs)(A:base<=w.heap.size)(hl:xs.length<=100000):Calls Tryz.prog 46 #[v] w λe w'=>e= .returned (.tuple #[])/\∃r,(r.Perm xs/\r.Pairwise (·<=·))/\(Lay.int .i64).Own 3 w' base v r/\Below base w w':=by obtain⟨h0,h|⟨g,t,z,rfl,B,j,E,hm,F,H⟩⟩:=h;{obtain⟨rfl,d⟩:=h;have:xs=[]:=List.eq_nil_of_length_eq_zero d;subst this;exact(Tryz.slices_Sort_int_none none 0 w).mono λe w' ⟨f,d⟩=>by subst d;exact⟨f,[],⟨List.Perm.refl _,List.Pairwise.nil⟩,Lay.Own.nil _ _,A4 _ _⟩};have J:z.toList.take xs.length=xs.map (Value.int .i64):=by{rw[<-Cx,<-H];simp[Lay.int]};have D:g<w.heap.size:=(Al.1 j).1;refine(Tryz.slices_Sort_int g 0 t xs w (holds_of_blockI j J) D (by omega)).mono λe w' ⟨f,n,os,d⟩=> ?_;subst d;have l:(xs.mergeSort λx y=>decide (x<=y)).Perm xs:=List.mergeSort_perm _ _;have G:(xs.mergeSort λx y=>decide (x<=y)).Pairwise (·<=·):=(List.pairwise_mergeSort (le:=λx y=>decide (x<=y)) (λa b c f d=>by simp at f d⊢;omega) (λa b=>by simp;omega) xs).imp λh=>by{simpa using h};refine⟨f,_,⟨l,G⟩,?_,(A4 _ _).grown (grownBy_sortedI _) A λk hk=>by injection hk with hk;omega⟩;have:=ownsRow_sortedI (n:=n) (os:=os) (ts:=xs.mergeSort λx y=>decide (x<=y)) l.length_eq B j E hm (by simpa[Lay.int] using F);unfold Lay.Own;rw[Cx,l.length_eq];exact this
structure LA (R:Nat) (w1:World) (mb clock:Nat) (f:Nat->Option Nat) (len:Nat) (v:Value) (wr:World):Prop where
 it:∃seen last L,wr.heap[R]? =some (.mapIter (some mb) clock seen last)/\clock<=last/\(Lay.int .i64).Own 3 wr (R+1) v L/\gE f len seen L
 below:Below R w1 wr
 size:R<wr.heap.size
def LB(w:World)(L:List Nd)(ts:List Nat)(e:Ending)(w':World):=∃v xs,e= .returned (.tuple #[v,.int .i64 0])/\(Lay.int .i64).Own 3 w' w.heap.size v xs/\(∀n,n∈xs↔qH L ts n)/\xs.length<=1000/\(L.Nodup->xs.Nodup)/\xs.Pairwise (·<=·)/\Below w.heap.size w w'
def nV(L:List Nd)(S:List Nat)(j:Nat):=if(L.getD (S.getD j 0) default).op=1 then some (L.getD (S.getD j 0) default).num else none
theorem Cy{f len c L}(h:gE f len c L):L.length<=len:=by have:=h.length;have h2:((List.range len).filterMap f).length<=len:=by{have:=List.length_filterMap_le f (List.range len);simpa using this};omega
theorem LC{L ts S}{l:List Int}(d:∀j,j∈S↔iy L ts j)(t:l.Perm (((List.range S.length).filterMap (nV L S)).map λ(n:Nat)=>(n:Int))) n:n∈l↔qH L ts n:=by rw[t.mem_iff];simp only[Az,List.mem_filterMap,List.mem_range,nV];constructor;{rintro⟨k,⟨j,h,hk⟩,rfl⟩;split at hk;{rename_i c;injection hk with hk;exact⟨S.getD j 0,(d _).1 (iU 0 S j h),c,by rw[hk]⟩};cases hk};rintro⟨j,r,c,g⟩;obtain⟨i,f,e⟩:=List.getElem_of_mem ((d j).2 r);refine⟨(L.getD j default).num,⟨i,f,?_⟩,g⟩;have:S.getD i 0=j:=by{rw[A2,A5 f];exact e};rw[this,if_pos c]
theorem Cz{W L}(f:GOk W L)(g:L.Nodup){i j}(c:i<L.length)(d:j<L.length)(k:(L.getD i default).op=1)(l:(L.getD j default).op=1)(h:(L.getD i default).num=(L.getD j default).num):i=j:=by have ai:(L.getD i default).args=[]:=by{have:=(f i c).2.2.2.2.1;rw[k] at this;exact List.eq_nil_of_length_eq_zero this};have aj:(L.getD j default).args=[]:=by{have:=(f j d).2.2.2.2.1;rw[l] at this;exact List.eq_nil_of_length_eq_zero this};have e:L.getD i default=L.getD j default:=by{generalize L.getD i default=x at*;generalize L.getD j default=y at*;cases x;cases y;simp_all};rw[A2,A2,A5 c,A5 d] at e;exact(List.getElem_inj (h₀:=c) (h₁:=d) g).1 e
theorem LD{W L S}{l:List Int}(z:GOk W L)(A:L.Nodup)(t:S.Nodup)(h:∀j∈S,j<L.length)(D:l.Perm (((List.range S.length).filterMap (nV L S)).map λ(n:Nat)=>(n:Int))):l.Nodup:=by refine D.nodup_iff.2 (List.pairwise_map.2 (List.pairwise_filterMap.2 (List.Pairwise.imp_of_mem (R:=(·≠·)) ?_ List.nodup_range)));intro i j f g B x c y d hxy;rw[List.mem_range] at f g;unfold nV at c d;split at c;{split at d;{rename_i k r;injection c with c;injection d with d;have:=Cz z A (h _ (iU 0 S i f)) (h _ (iU 0 S j g)) k r (by omega);rw[A2,A2,A5 f,A5 g] at this;exact B ((List.getElem_inj (h₀:=f) (h₁:=g) t).1 this)};cases d};cases c
theorem LE{w r W L}(h:RV w r W L) ts(aX:∀j,iy L ts j->(L.getD j default).op=1->(L.getD j default).num<4194304)(ht:∀t∈ts,t<L.length)(hL:L.length<=1000)(aV:ts.length<=1000) ta c(aQ:ta=none->c=0)(hc:(Lay.int .i64).At 0 w ta (cT ts)):Calls Tryz.prog 24 #[.pointer (some ⟨r,0,none⟩),.slice ta ts.length c] w (LB w L ts):=by have HO:=Z (Lx h ts ht hL aV ta c aQ hc);have a9:=Z aX;have ab:=Z h.ok;have aC:Hid (∀t∈ts,t<L.length):=Z ht;have a0:Hid (L.length<=1000):=Z hL;clear h aX ht hL hc aQ aV;go_enter Tryz.func24,Tryz.ntmps24;go_wp2_with fail;refine HO.o.mono ?_;rintro e G ⟨mb,S,rfl,aT,ao,am,bf,A,aH⟩;obtain⟨es,d,q1,q2,q3⟩:=aT.ents;have az:=Z q2;clear q2;have aB:Hid (S.length<=1000):=Z (A9 (Bj am λx hx=>((ao x).1 hx).lt ab.o aC.o) a0.o);go_wp2_with(at_range;refine zx rfl _ _ rfl sA rfl q1 ?_);have al:=q3.len;have aj:Bn es d:=⟨by rw[az.o,<-al];simp,λj e l=>by have:=q3.born j e (by simpa using l);omega⟩;have ay:=Z q1;have HN:Hid (∀e∈es.toList,e.born<S.length/\∃a n c,e.val=ndV (L.getD (S.getD e.born 0) default).op (L.getD (S.getD e.born 0) default).num a n c):=Z λe l=>by{obtain⟨j,hj,_,h2,z⟩:=q3.at_ e l;rw[Ap] at h2;rw[h2];exact⟨hj,z⟩};have ax:∀x∈es.toList,x.born<d:=λx hx=>by{have:=(HN.o x hx).1;rw[az.o];exact this};have aF:=aj.nodup;have HJ:Hid (∀b,b<S.length->∃e0∈es.toList,e0.born=b):=Z (λb hb=>by have bb:b<es.size:=by{simp at al;omega};exact⟨es[b],by simp,aj.born b _ (AF bb)⟩);have ad:=Z ao;have a4:=Z am;have aw:=Z aH;have aO:mb<G.heap.size:=A;clear aj q3 q1 al aT ao am aH A HO;intro w2 F;replace F:=F.o;generalize hR:G.heap.size=R at*;have aG:w2.heap[R]? =some (.mapIter (some mb) d #[] d):=by{subst hR;rw[F];exact heap_alloc_new G _};have aD:Below R G w2:=by{subst hR;rw[F];exact(A4 _ _).alloc (A1 _) _};have bi:w2.heap.size=R+1:=by{rw[F];simp[hR]};have af:Hid (w.heap.size<=R):=Z (by rw[<-hR];exact aw.o.size);clear F bf;go_wp2_with fail;go_loopw [8] (λv wr=>LA R G mb d (nV L S) S.length v wr) (λ _ wr=>iT es R wr);(case atStart=>exact⟨⟨#[],d,[],aG,A1 _,Lay.Own.nil w2 (R+1),gE.nil _ _⟩,aD,by omega⟩);case round=>obtain⟨⟨g,last,Q,V,aN,H,B⟩,hbel,hszr⟩:=hrel;clear aG aD bi;have ai:wr.heap[mb]? =some (.map es d):=(hbel.block mb aO).trans ay.o;go_wp2_with(at_next;refine zy rfl _ rfl (by rfl) V ai ax aN ?_ ?_);{intro aJ;have aq:=B.perm λb hb=>by{obtain⟨e0,be,bc⟩:=HJ.o b hb;have:=all_seen es g (by rw[aJ.o];rfl) e0 be;rwa[bc] at this};have a3:=Z (LC ad.o aq);have a5:=Z (λh=>LD ab.o h a4.o (λj hj=>((ad.o j).1 hj).lt ab.o aC.o) aq);have aA:Hid (Q.length<=1000):=Z (A9 (Cy B) aB.o);have a7:=Z (Lz H (by omega) (by have:=aA.o;omega));have aZ:Hid (Below w.heap.size w wr):=Z (aw.o.trans (hbel.mono af.o));clear H aq B V ai aJ aN aF ax;go_wp2_with fail;refine a7.o.mono ?_;rintro e N ⟨rfl,ys,⟨hp,aU⟩,aR,aI⟩;have a8:=Z aU;have a6:=Z aR;have aY:=Z aI;have ae:=Z hp;clear aR aI hp aU;go_wp2_with fail;go_ret2;exact⟨_,ys,rfl,a6.o.lower (by have:=af.o;omega),λn=>(ae.o.mem_iff).trans (a3.o n),by rw[ae.o.length_eq];have:=aA.o;omega,λh=>ae.o.nodup_iff.2 (a5.o h),a8.o,aZ.o.trans (aY.o.mono (by have:=af.o;omega))⟩};intro e l N f av J;replace J:=J.o;replace l:e∈(leftOf es g).toList:=by{simpa using l};obtain⟨aK,aL⟩:=mem_left l;have z:wr.grownBy N none:=by{rcases av with rfl|rfl;{exact World.grownBy.refl _ _};exact⟨rfl,rfl,rfl,A1 _,λ _ _ _=>rfl⟩};have ba:N.heap.size=wr.heap.size:=by{rcases av with rfl|rfl<;>rfl};have U:wr.grownBy f (some R):=by{rw[J];refine⟨z.os,z.tape,z.output,by simpa[setBlock] using z.size,λk hk bg=> ?_⟩;show(N.heap.setIfInBounds R _)[k]? =_;rw[AK (by intro e;exact bg (by rw[e]))];exact z.block k hk (by simp)};have E:f.heap[R]? =some (.mapIter (some mb) d (g.push e.born) d):=by{rw[J];show(N.heap.setIfInBounds R _)[R]? =_;rw[Array.getElem?_setIfInBounds_self_of_lt (by omega)]};have ah:Below R G f:=hbel.grown U (by omega) (λk hk=>by injection hk with hk;omega);have bd:f.heap[mb]? =some (.map es d):=(ah.block mb aO).trans ay.o;have aM:=run_entry_at (P:=Tryz.prog) f R mb d g es d e E bd aK aF;have Y:R<f.heap.size:=by{have:=U.size;omega};have aS:(Lay.int .i64).Own 3 f (R+1) u8 Q:=World.ownsRow.kept (row:=some R) H U (by cases hk:u8.ownBlock with|none=>exact .inl rfl|some k=>exact .inr (λe=>by injection e with e;have:=(World.ownsRow.lt H k hk).1;omega));have aP:=left_shrinks es g e l;have aE:iT es R wr=(leftOf es g).size:=jm V;obtain⟨A,aa,an,ac,aW⟩:=HN.o e aK;have T:g.contains e.born=false:=aL;have hQl:=Cy B;have hSl:=aB.o;clear J av H V ai l z ba U aL;have au:=a9.o (S.getD e.born 0) ((ad.o _).1 (iU 0 S _ A));have D:nV L S e.born=if(L.getD (S.getD e.born 0) default).op=1 then some (L.getD (S.getD e.born 0) default).num else none:=rfl;rw[aW] at aM⊢;unfold ndV at aM⊢;generalize(L.getD (S.getD e.born 0) default).op=op at*;generalize(L.getD (S.getD e.born 0) default).num=num at*;clear aW;have hm4:iT es R f=(leftOf es (g.push e.born)).size:=jm E;by_cases hop:op=1;{subst hop;rw[if_pos rfl] at D;have hnum:=au rfl;have ar:=B.take A T D;clear D T A B au;generalize g.push e.born=sn at*;generalize e.key=ky at*;have hnw:(num:Int)<9223372036854775808:=by{omega};go_wp2_with(at_builtin;refine sk Tryz.elemI [(num:Int)] rfl _ _ rfl rfl (aS.alloc _) rfl (by simp) rfl (by simp;omega) (by simp;omega) ?_);intro v5 w5 bh O;go_wp2_with fail;go_roundw;(case rel=>refine⟨⟨sn,d,Q++[(num:Int)],((O.block R (by omega)).trans (Ax f _ R Y)).trans E,A1 _,bh,ar⟩,(ah.alloc (by omega) _).trans (O.mono (by omega)),by have:=O.size;simp at this;omega⟩);case measure=>rw[jm (((O.block R (by omega)).trans (Ax f _ R Y)).trans E),aE];exact aP};have hop':((op:Int)==1)=false:=by{simp;omega};rw[if_neg hop] at D;have ar:=B.skip A T D;clear D T A B hop au;generalize g.push e.born=sn at*;generalize e.key=ky at*;go_wp2_with fail;go_roundw;(case rel=>exact⟨⟨sn,d,Q,(Ax f _ R Y).trans E,A1 _,aS.alloc _,ar⟩,ah.alloc (by omega) _,by simp;omega⟩);case measure=>rw[jm ((Ax f _ R Y).trans E),aE];exact aP
