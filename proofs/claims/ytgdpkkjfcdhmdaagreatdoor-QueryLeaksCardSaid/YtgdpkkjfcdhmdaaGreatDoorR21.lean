/- Walk: occur (the nodes that occur in a term). -/
import Derived.Test.YtgdpkkjfcdhmdaaGreatDoorR20
namespace Go.Proofs.YtgdpkkjfcdhmdaaGreatDoor
open Go Go.RowKit
open Go.Proofs.YtgdpkkjfcdhmdaaGreatDoor.Cr
def iL(L:List Nd)(ts:List Nat)(j:Nat):Prop:=∃t∈ts,Occ L t j
def jE(L:List Nd)(ts:List Nat)(n:Int):Prop:=∃j,iL L ts j/\(L.getD j default).op=1/\(((L.getD j default).num:Nat):Int)=n
theorem iL.lt{W:Nat}{L:List Nd}{ts:List Nat}(h:GOk W L)(ht:∀t∈ts,t<L.length){j:Nat}:iL L ts j->j<L.length:=λ⟨t,a,o⟩=>o.lt h (ht t a)
theorem iL.arg{L:List Nd}{ts:List Nat}{i a:Nat}:iL L ts i->a∈(L.getD i default).args->iL L ts a:=λ⟨t,h,o⟩ ha=>⟨t,h,.arg o ha⟩
theorem tZ{L:List Nd}{t j:Nat}:iL L [t] j↔Occ L t j:=⟨λ⟨u,h,o⟩=>by rw[List.mem_singleton.1 h] at o;exact o,λ o=>⟨t,List.mem_singleton.2 rfl,o⟩⟩
theorem Lz{L:List Nd}{t:Nat}{n:Int}:jE L [t] n↔Jf L t n:=⟨λ⟨j,h,q⟩=>⟨j,tZ.1 h,q⟩,λ⟨j,h,q⟩=>⟨j,tZ.2 h,q⟩⟩
structure jS (L:List Nd) (ts:List Nat) (S K:List Nat):Prop where
 nd:S.Nodup
 occS:∀x∈S,iL L ts x
 occK:∀x∈K,iL L ts x
 top:∀t∈ts,t∈S\/t∈K
 closed:∀x∈S,∀a∈(L.getD x default).args,a∈S\/a∈K
 kl:K.length<=3*S.length+ts.length
section
variable {W:Nat} {L:List Nd} {x:Nat} {ts S K:List Nat}
theorem jS.start(L:List Nd)(ts:List Nat):jS L ts [] ts:=⟨.nil,λ x hx=>(by cases hx),λ x hx=>⟨x,hx,.top⟩,λ t ht=>.inr ht,λ x hx=>(by cases hx),by simp⟩
theorem jS.skip(h:jS L ts S (K++[x]))(f:x∈S):jS L ts S K:=by have key:∀a,a∈S\/a∈K++[x]->a∈S\/a∈K:=λ a e=>by{rcases e with e|e;{exact .inl e};rcases Ar.1 e with e|e;{exact .inr e};rw[List.mem_singleton.1 e];exact .inl f};exact⟨h.nd,h.occS,λ y b=>h.occK y (Ar.2 (.inl b)),λ t d=>key _ (h.top t d),λ y b a c=>key _ (h.closed y b a c),by have:=h.kl;simp at this;omega⟩
theorem jS.push(k:GOk W L)(h:jS L ts S (K++[x]))(q:x∉S):jS L ts (S++[x]) (K++(L.getD x default).args):=by have f:iL L ts x:=h.occK x (by simp);have key:∀a,a∈S\/a∈K++[x]->a∈S++[x]\/a∈K++(L.getD x default).args:=λ a e=>by{rcases e with e|e;{exact .inl (Ar.2 (.inl e))};rcases Ar.1 e with e|e;{exact .inr (Ar.2 (.inl e))};exact .inl (Ar.2 (.inr e))};refine⟨List.nodup_append.2 ⟨h.nd,by simp,λ a d b j=>by rw[List.mem_singleton.1 j];rintro rfl;exact q d⟩,λ y c=> ?_,λ y c=> ?_,λ t n=>key _ (h.top t n),λ y c a d=> ?_,?_⟩;{rcases Ar.1 c with c|c;{exact h.occS y c};rw[List.mem_singleton.1 c];exact f};{rcases Ar.1 c with c|c;{exact h.occK y (Ar.2 (.inl c))};exact f.arg c};{rcases Ar.1 c with c|c;{exact key _ (h.closed y c a d)};rw[List.mem_singleton.1 c] at d;exact .inr (Ar.2 (.inr d))};have g:=h.kl;have h2:=k.argl x;rw[Av] at g⊢;rw[Av,List.length_singleton] at*;omega
theorem jS.len(hg:GOk W L)(ht:∀t∈ts,t<L.length)(h:jS L ts S K):S.length<=L.length:=vE h.nd λ x hx=>(h.occS x hx).lt hg ht
theorem jS.less(b:GOk W L)(c:∀t∈ts,t<L.length)(h:jS L ts S (K++[x]))(d:x∉S):S.length<L.length:=by have:=(h.push b d).len b c;simp at this;omega
theorem jS.done(h:jS L ts S [])(j:Nat):j∈S↔iL L ts j:=by refine⟨h.occS j,λ⟨t,b,o⟩=> ?_⟩;induction o with|top=>(rcases h.top t b with e|e;exact e;cases e)| @arg i a c ha ih=>rcases h.closed _ (ih ⟨t,b,c⟩) _ ha with e|e;exact e;cases e
end
section
variable {w:World} {ops:Array Oper} {rest:List Oper} {o:Oper} {a:Act} {Q:Exit->Act->World->Prop} {mb:Nat} {L:List Nd} {S:List Nat}
theorem Dq(g:o.guard=none)(m x:Operand)(q:o.op=Op.lookup 144 m x true)(j:a.eval m= .map (some mb))(h:jA w mb L S){k:Nat}(t:a.eval x= .int .i64 (k:Int)) (d:∀(p u:Nat) (b:Option Addr) (n c:Nat),wpList Tryz.prog ops Q rest (a.put o.dst (.tuple #[.agg #[.int .u8 (p:Int),.int .u64 (u:Int),.slice b n c],.bool (decide (k∈S))])) w):wpList Tryz.prog ops Q (o::rest) a w:=by refine wpList_plain g λ K' f=> ?_;obtain⟨p,u,b,n,c,r⟩:=h.lookup k;unfold Oper.wp;simp[execOp,q,j,t,r,Result.andThen];exact f _ _ (d p u b n c)
theorem LA(t:o.guard=none)(m x v:Operand)(B:o.op=Op.mapUpdate 144 m x v)(z:a.eval m= .map (some mb))(h:jA w mb L S){k:Nat}(F:a.eval x= .int .i64 (k:Int))(A:k∉S) {f:Option Addr}{n c:Nat}{p u:Int}(C:((L.getD k default).op:Int)=p)(D:((L.getD k default).num:Int)=u)(E:a.eval v= .agg #[.int .u8 p,.int .u64 u,.slice f n c]) (j:∀w',jA w' mb L (S++[k])->w'.heap.size=w.heap.size->(∀b,b≠mb->w'.heap[b]? =w.heap[b]?)->Below mb w w'->wpList Tryz.prog ops Q rest (a.put o.dst undef) w'):wpList Tryz.prog ops Q (o::rest) a w:=by refine wpList_plain t λ K' q=> ?_;obtain⟨G,g,r⟩:=h.update A f n c;rw[C,D] at g;have d:∀b,b≠mb->(w.heap.setIfInBounds mb G)[b]? =w.heap[b]? :=λ b d=>AZ (Ne.symm d);unfold Oper.wp;simp[execOp,B,z,F,E,g,Result.andThen];exact q _ _ (j _ (r _ rfl) (by simp) d ⟨rfl,rfl,rfl,by simp,λ k hk=>d k (by omega)⟩)
end
theorem Own.off{α:Type}{c:Lay α}{e:TypeId}{w w':World}{mb base:Nat}{v:Value}{xs:List α}(h:c.Own e w base v xs)(hb:mb<base)(q:∀b,b≠mb->w'.heap[b]? =w.heap[b]?):c.Own e w' base v xs:=by obtain⟨d,h|⟨g,f,j,rfl,k,n,t,r,z,A⟩⟩:=h;{exact⟨d,.inl h⟩};exact⟨d,.inr ⟨g,f,j,rfl,k,(q g (by omega)).trans n,t,r,z,A⟩⟩
theorem Own.pop{w:World}{base b m cap:Nat}{x:Int}{xs:List Int}(h:(Lay.int .i64).Own 3 w base (.slice (some ⟨b,0,none⟩) (m+1) cap) (xs++[x]))(k:xs.length=m):(Lay.int .i64).Own 3 w base (.slice (some ⟨b,0,none⟩) m cap) xs:=by obtain⟨hl,h|⟨g,cap',d,e,f,j,q,n,r,t⟩⟩:=h;{cases h.1};injection e with e1 e2 e3;injection e1 with e1;injection e1 with e1 _;subst e1 e3 k;refine⟨(Lay.int .i64).flat_length xs,.inr ⟨_,_,d,rfl,f,j,by simp at q;omega,n,r,?_⟩⟩;have c:=congrArg (List.take (xs.length*(Lay.int .i64).sz)) t;rw[List.take_take,Lay.flat_append,Nat.min_eq_left (by simp[Lay.int])] at c;rw[c,List.take_append_of_le_length (by rw[Lay.flat_length];exact A8 _),<-Lay.flat_length,AD]
def pR(w:World)(mb:Nat):Nat:=match w.heap[mb]? with|some (.map es _)=>es.size|_=>0
def lenOf:Value->Nat| .slice _ n _=>n|_=>0
theorem jA.sz{w:World}{mb:Nat}{L:List Nd}{S:List Nat}(h:jA w mb L S):pR w mb=S.length:=by obtain⟨es,c,b,h2,d⟩:=h.ents;unfold pR;rw[b];have:=d.len;simpa using this
theorem ov(l r:List Nat):fE (l++r)=fE l++fE r:=by simp[fE]
structure xw (w0 w:World) (L:List Nd) (ts:List Nat) (mb:Nat) (v:Value) (S K:List Nat):Prop where
 inv:jS L ts S K
 map:jA w mb L S
 own:(Lay.int .i64).Own 3 w (mb+1) v (fE K)
 bel:Below w0.heap.size w0 w
 lt:mb<w.heap.size
theorem LB{w w':World}{B b:Nat}(h:Below B w w')(hb:b<w.heap.size):b<w'.heap.size:=A9 hb h.size
def Dr(w:World)(L:List Nd)(ts:List Nat)(e:Ending)(w':World):Prop:=∃mb S,e= .returned (.tuple #[.map (some mb),.int .i64 0])/\jA w' mb L S/\(∀j,j∈S↔iL L ts j)/\S.Nodup/\w.heap.size<=mb/\mb<w'.heap.size/\Below w.heap.size w w'
set_option maxRecDepth 100000 in
set_option maxHeartbeats 8000000 in
theorem LC{w:World}{r W:Nat}{L:List Nd}(h:RV w r W L)(ts:List Nat)(ht:∀t∈ts,t<L.length)(hL:L.length<=1000)(aT:ts.length<=1000)(ta:Option Addr)(c:Nat)(aQ:ta=none->c=0)(hc:(Lay.int .i64).At 0 w ta (fE ts)):
  Calls Tryz.prog 60 #[.pointer (some ⟨r,0,none⟩),.slice ta ts.length c] w (Dr w L ts):=by
 have q:=Z h;have D:Hid (∀t∈ts,t<L.length):=Z ht;have aA:Hid (L.length<=1000):=Z hL;have am:Hid (ts.length<=1000):=Z aT;obtain⟨na,nc,aP,_⟩:=h.nodes;have aB:=Z (tX r L.length w aP);have aw:=Z hc;have a7:=Z aQ;clear h aP hc aQ ht hL;obtain⟨nl,hl⟩:∃nl,L.length=nl:=⟨_,rfl⟩
 rw[hl] at aB D;have z:=Z hl;clear hl;obtain⟨C,av⟩:∃C,ts.length=C:=⟨_,rfl⟩
 rw[av] at aT⊢;have R:=Z av;clear av;have hmm:=@run_makeMap Tryz.prog;go_enter Tryz.func60,Tryz.ntmps60
 go_wp2_with fail
 go_step3
 go_wp2_with fail
 go_loop [19] (λ i=>∃k:Nat,k<=C/\i= .int .i64 k) (λ i=>C-(intOf i).toNat)
 case atStart=>exact⟨0,by omega,rfl⟩
 case round=>
  obtain⟨k,hk,rfl⟩:=hrel;by_cases hk0:k<C
  ·have hki:(k:Int)<C:=by omega
   obtain⟨tb,to_,rfl,htb,c0⟩:=aw.o.int (i:=k) (by rw[fK,R.o];exact hk0);rw[ij] at c0;have hx:=D.o _ (gE 0 ts k (by rw[R.o];exact hk0));generalize ts.getD k 0=t at*;have d0:decide ((t:Int)<0)=false:=by simp
   have d1:decide ((nl:Int)<=(t:Int))=false:=by simp;omega
   go_wp2_with fail
   refine aB.o.mono ?_;rintro e w' ⟨rfl,rfl⟩
   go_wp2_with fail
   go_round
   case rel=>exact⟨k+1,by omega,by go_num⟩
   case measure=>simp[intOf]<;>omega
  obtain rfl:k=C:=by omega
  have BM:Below w.heap.size w (w.alloc (.map #[] 0)):=(A6 _ _).alloc (A8 _) _;have aG:Hid (jA (w.alloc (.map #[] 0)) w.heap.size L []):=Z ⟨#[],0,heap_alloc_new w _,rfl,trivial⟩;have aO:w.heap.size<(w.alloc (.map #[] 0)).heap.size:=by simp
  have af:=Z BM;have aj:=Z aO;clear BM aO hk0
  go_wp2_with(first
   |(at_builtin
     refine lY Tryz.elemI (d:=0) (qs:=fE ts) (base:=w.heap.size+1) rfl _ _ rfl rfl (Lay.Own.nil _ _) rfl a7.o (by rw[fK];exact R.o) (aw.o.below af.o) (by have I:=am.o;have V:=R.o;show 0+_<=1000000;omega) (by first|exact aj.o|(simp;done)) ?_;intro v1 w1 r1 r2;rw[List.nil_append] at r1;have b:Hid (xw w w1 L ts w.heap.size v1 [] ts):=Z ⟨jS.start L ts,aG.o.frame (r2.block _ (B3 _)),r1,af.o.trans (r2.mono (AL _)),LB r2 aj.o⟩;clear r1 r2))
  clear aG af aj;generalize hmb:w.heap.size=mb at*;have ai:=Z hmb;clear hmb
  go_step3
  go_wp2_with fail
  go_loopw [9] (λ v wr=>∃S K,Hid (xw w wr L ts mb v S K)) (λ v wr=>(nl-pR wr mb)*4+lenOf v)
  case atStart=>exact⟨_,_,b⟩
  case round=>
   clear b;obtain⟨S,K,b⟩:=hrel;have aS:=b.o.own;obtain⟨ka,B,U,aV,_,aW⟩:=aS.at_ (d:=0);rw[fK] at U;subst U;have ah:=Z aV;clear aS aV;by_cases hz:K.length=0
   ·have hK:K=[]:=List.eq_nil_of_length_eq_zero hz;have HR:Hid (Dr w L ts (.returned (.tuple #[.map (some mb),.int .i64 0])) wr):=Z (by
     subst hK;exact⟨mb,S,rfl,b.o.map,λ j=>b.o.inv.done j,b.o.inv.nd,Nat.le_of_eq ai.o,b.o.lt,b.o.bel⟩)
    clear hK ah;rw[hz]
    go_wp2_with fail
    go_ret2
    exact HR.o
   obtain⟨m,X⟩:∃m,K.length=m+1:=⟨K.length-1,by omega⟩
   have Y:=Jh K (by omega);rw[X,Nat.add_sub_cancel] at Y;obtain⟨kb,ko,rfl,hkb,k0⟩:=ah.o.int (i:=m) (by rw[fK];omega);rw[ij] at k0;obtain⟨x,hx⟩:∃x,K.getD m 0=x:=⟨_,rfl⟩
   obtain⟨A,ap⟩:∃A,K.take m=A:=⟨_,rfl⟩
   rw[hx] at k0 Y;rw[ap] at Y;have au:A.length=m:=by rw[<-ap,AO];omega
   subst Y;have bf:ko=0:=by
    rcases b.o.own.2 with⟨h,_⟩|⟨g,c',be,h,_⟩
    ·cases h
    injection h with h _ _;injection h with h;injection h
   subst bf;rw[AJ] at k0;rw[X] at b⊢;have ak:Hid ((Lay.int .i64).Own 3 wr (mb+1) (.slice (some ⟨kb,0,none⟩) m B) (fE A)):=Z (by
    have:=b.o.own;rw[ov] at this;exact Own.pop this (by rw[fK];exact au))
   have aN:m+1<=B:=by
    rcases b.o.own.2 with⟨h,_⟩|⟨g,c',be,h,_,_,h',_⟩
    ·cases h
    injection h with I V J;rw[J,fK,X] at*;exact h'
   have az:=Z au;have HKC:Hid (m+1<=B/\B<=maxLen):=Z ⟨aN,aW⟩;have hm1:(m:Int)<B:=by omega
   have hm4:m<=10000:=by
    have I:=b.o.inv.kl;have V:=b.o.inv.len q.o.ok (by rw[z.o];exact D.o);have J:=aA.o;have h4:=z.o;have h5:=am.o;simp only[Av,List.length_singleton] at I;omega
   have hm2:(m:Int)<=B:=by omega
   clear hx ap au X hz ah aN aW;have bd:Hid (x<L.length):=Z (iL.lt q.o.ok (by rw[z.o];exact D.o) (b.o.inv.occK x (by simp)));by_cases hxs:x∈S
   ·have n:Hid (xw w (wr) L ts mb (.slice (some ⟨kb,0,none⟩) m B) S A):=Z ⟨b.o.inv.skip hxs,b.o.map,ak.o,b.o.bel,b.o.lt⟩;have aq:decide (x∈S)=true:=decide_eq_true hxs;have P:=Z b.o.map;have aD:=Z b.o.map.sz;clear hxs ak
    go_wp2_with(at_lookup;refine Dq rfl _ _ rfl rfl P.o rfl ?_;intro qo qu qa qn qc;rw[aq])
    go_roundw
    case rel=>exact⟨S,A,Z ⟨n.o.inv,n.o.map.frame (AW _ _ _ n.o.lt),n.o.own.alloc _,n.o.bel.alloc n.o.bel.size _,by simp;have:=n.o.lt;omega⟩⟩
    case measure=>
     have U:pR (wr.alloc (.cells #[.int .u8 qo,.int .u64 qu,.slice qa qn qc] 148)) mb=pR wr mb:=by unfold pR;rw[AW _ _ _ n.o.lt]
     rw[U];simp only[lenOf];omega
   have aq:decide (x∈S)=false:=decide_eq_false hxs;have an:=Z hxs;have P:=Z b.o.map;have aD:=Z b.o.map.sz;have H:=Z b.o.lt;have N:=Z b.o.bel;have O:=Z b.o.inv;have aE:=Z (λ(w':World) (hb:Below wr.heap.size wr w')=>tY (q.o.below (N.o.trans (hb.mono N.o.size))) x bd.o);obtain⟨nd,M⟩:∃nd,L.getD x default=nd:=⟨_,rfl⟩
   rw[M] at aE;have a9:Hid ((((L.getD x default).op:Nat):Int)=nd.op):=Z (by rw[M]);have a8:Hid ((((L.getD x default).num:Nat):Int)=nd.num):=Z (by rw[M]);have aa:Hid ((L.getD x default).args=nd.args):=Z (by rw[M]);clear M;generalize nd.op=op at*;generalize nd.num=num at*;generalize nd.args=args at*;clear hxs b
   go_wp2_with(first
    |(at_lookup;refine Dq rfl _ _ rfl rfl P.o rfl ?_;intro qo qu qa qn qc;rw[aq]
      have ae:Hid (Below wr.heap.size wr (wr.alloc (.cells #[.int .u8 qo,.int .u64 qu,.slice qa qn qc] 148))):=Z ((A6 _ _).alloc (A8 _) _))
    |(go_at_call 71
      refine(aE.o _ ae.o).mono ?_;rintro e f ⟨E,F,rfl,aJ,aM,aR,aK⟩;have a6:=Z aR;clear aR;have ab:Hid (Below wr.heap.size wr f):=Z (ae.o.trans (aK.mono ae.o.size));have aX:=Z aJ;have a4:=Z aM;have ax:Hid (Below f.heap.size f (f.alloc (.cells #[.int .u8 (op:Int),.int .u64 (num:Int),.slice E args.length F] 148))):=Z ((A6 _ _).alloc (A8 _) _);have aH:(f.alloc (.cells #[.int .u8 (op:Int),.int .u64 (num:Int),.slice E args.length F] 148)).cell? ⟨f.heap.size,2,none⟩=some (.slice E args.length F):=by rw[Ah];rfl
      have a3:=Z aH;have G:Hid (Below wr.heap.size wr (f.alloc (.cells #[.int .u8 (op:Int),.int .u64 (num:Int),.slice E args.length F] 148))):=Z (ab.o.trans (ax.o.mono ab.o.size));have a5:=Z (P.o.frame (G.o.block _ H.o));have aY:=Z (aX.o.below ax.o);have ba:=Z (ak.o.grown G.o);have HZX:Hid (f.heap.size<(f.alloc (.cells #[.int .u8 (op:Int),.int .u64 (num:Int),.slice E args.length F] 148)).heap.size):=Z (by simp);clear aJ aM aK aH)
    |(at_mapUpdate
      refine LA rfl _ _ _ rfl rfl a5.o rfl an.o a9.o a8.o rfl ?_;intro wC aI aU ar aL;have bb:=Z aI;have ay:=Z ar;have a0:=Z aL;have ao:=Z aU;have c51:wC.cell? ⟨f.heap.size,2,none⟩=some (.slice E args.length F):=(Ai (a:=⟨f.heap.size,2,none⟩) (ar f.heap.size (by have:=ab.o.size;have:=H.o;omega))).trans a3.o;clear aI aU ar aL)
    |(at_builtin
      refine lY Tryz.elemI (d:=0) (qs:=fE args) rfl _ _ rfl rfl (Own.off ba.o (B3 _) ay.o) rfl a6.o (fK _) (At.frame aY.o (Nat.le_of_eq ao.o.symm) (λ ad e=>ay.o _ (by have:=a4.o ad e;simp at this;have:=H.o;omega))) (by have I:=az.o;have V:=O.o.kl;have J:=O.o.len q.o.ok (by rw[z.o];exact D.o);have h4:=q.o.ok.argl x;rw[aa.o] at h4;have h5:=aA.o;have h6:=z.o;have h7:=am.o;simp only[Av,List.length_singleton,fK] at*;omega) (by rw[ao.o];have:=G.o.size;have:=H.o;omega) ?_;intro v9 w9 r1 r2;rw[<-ov] at r1;have aF:=Z r1;have al:=Z r2;clear r1 r2))
   have aZ:Hid (Below w.heap.size w w9):=Z ((N.o.trans (G.o.mono N.o.size)).trans ((by have:=a0.o;rwa[<-ai.o] at this:Below w.heap.size _ wC).trans (al.o.mono (by have:=ai.o;omega))));have aC:Hid (jA w9 mb L (S++[x])):=Z (bb.o.frame (al.o.block _ (B3 _)));go_roundw
   case rel=>exact⟨S++[x],A++args,Z ⟨by rw[<-aa.o];exact O.o.push q.o.ok an.o,aC.o,aF.o,aZ.o,by have:=al.o.size;have:=ao.o;have:=G.o.size;have:=H.o;omega⟩⟩
   case measure=>
    rw[aC.o.sz,aD.o];obtain⟨_,_,e9,_⟩:=aF.o.at_ (d:=0);rw[e9];have I:=O.o.less q.o.ok (by rw[z.o];exact D.o) an.o;have V:=z.o;have J:=q.o.ok.argl x;rw[aa.o] at J;have h4:=az.o;simp only[lenOf,Av,List.length_singleton,fK];omega
