/- What the loop of twin.Term keeps. -/
import Derived.Test.YtgdpkkjfcdhmdaaGreatDoorS0
import Derived.Test.YtgdpkkjfcdhmdaaGreatDoorU7
import Derived.Test.YtgdpkkjfcdhmdaaGreatDoorU11
namespace Go.Proofs.YtgdpkkjfcdhmdaaGreatDoor
open Go
structure St (W:Nat) (V:Nat->Bool) (L0 L:List Nd) (c:Nat):Prop where
 pre:L0<+:L
 gok:GOk W L
 vok:VOk L
 nd:L.Nodup
 cnt:∃D E,Cnt W V L0.length L D E/\L.length<=c+D.length+E.length
theorem St.len{W:Nat}{V:Nat->Bool}{L0 L:List Nd}{c:Nat}(h:St W V L0 L c):L.length<=c+L0.length+12:=by
 obtain⟨D,E,h1,h2⟩:=h.cnt;have:=h1.le;omega
theorem St.start{W:Nat}(V:Nat->Bool){L:List Nd}(hg:GOk W L)(hv:VOk L)(hn:L.Nodup):St W V L L L.length:=⟨List.prefix_rfl,hg,hv,hn,[],[],Cnt.nil _ _ _ _,Nat.le_refl _⟩
theorem St.mono{W:Nat}{V:Nat->Bool}{L0 L:List Nd}{c d:Nat}(h:St W V L0 L c)(hd:c<=d):St W V L0 L d:=by
 obtain⟨D,E,h1,h2⟩:=h.cnt;exact⟨h.pre,h.gok,h.vok,h.nd,D,E,h1,by omega⟩
theorem nodup_ask{n:Nd}{L:List Nd}(h:L.Nodup):(askL n L).Nodup:=by
 unfold askL
 split
 ·exact h
 ·rename_i hn;rw[List.nodup_append];exact⟨h,by simp,λ a ha b hb=>by
   have e:b=n:=by simpa using hb
   intro e2;exact hn (by rw[<-e,<-e2];exact ha)⟩
theorem nodup_runP{L:List Nd}(h:L.Nodup)(p:Plan):(runP L p).2.Nodup:=by
 cases p with
 |same t=>exact h
 |ask n=>exact nodup_ask h
theorem St.run{W:Nat}{V:Nat->Bool}{L0 L:List Nd}{c:Nat}(h:St W V L0 L c){p:Plan}(hp:p.Ok W L):St W V L0 (runP L p).2 (c+1):=by
 obtain⟨D,E,h1,h2⟩:=h.cnt;have hpre:=runP_pre L p;have hl:=runP_len L p;refine⟨h.pre.trans hpre,runP_ok h.gok hp,?_,nodup_runP h.nd p,D,E,h1.pre h.gok h.pre.length_le hpre,by omega⟩;cases p with
 |same t=>exact h.vok
 |ask n=>exact h.vok.ask λ e=>absurd e hp.2
theorem St.simp{W:Nat}{V:Nat->Bool}{L0 L:List Nd}{c:Nat}(hW:1<=W)(hW2:W<=64)(h:St W V L0 L c){o:Nat}{args:List Nat}(ho:2<=o)(ho2:o<=20)(hl:args.length=arN o)(ha:∀a∈args,a<L.length):St W V L0 (simpM W o args L).2 (c+1):=
 h.run (planS_good [] hW hW2 h.gok ho ho2 hl ha).1
theorem St.num{W:Nat}{V:Nat->Bool}{L0 L:List Nd}{c:Nat}(hW2:W<=64)(h:St W V L0 L c)(v:Nat):St W V L0 (runP L (.ask (cN W v))).2 (c+1):=h.run (p:=.ask (cN W v)) (cN_ok hW2)
def twL(V:Nat->Bool):List Nat->List Nd->List Nd
 |[],L=>L
 |n::vs,L=>twL V vs (if V n then L else askL (vN (n+1)) L)
def twS(V:Nat->Bool)(vs:List Nat)(L:List Nd)(n:Nat):Option Nat:=if n∈vs/\V n=false then some (ndAt (vN (n+1)) L) else none
def twinM(W:Nat)(V:Nat->Bool)(vs:List Nat)(occ:Nat->Bool)(t:Nat)(L:List Nd):Nat×List Nd:=
 ((subN W (twS V vs (twL V vs L)) (twL V vs L) occ (twL V vs L) (t+1)).1.getD t 0,(subN W (twS V vs (twL V vs L)) (twL V vs L) occ (twL V vs L) (t+1)).2)
theorem twL_pre(V:Nat->Bool):∀(vs:List Nat) (L:List Nd),L<+:twL V vs L
 |[],L=>List.prefix_rfl
 |n::vs,L=>by
  refine List.IsPrefix.trans ?_ (twL_pre V vs _)
  split
  ·exact List.prefix_rfl
  ·exact ask_pre _ _
theorem twL_mem(V:Nat->Bool):∀(vs:List Nat) (L:List Nd),∀n∈vs,V n=false->vN (n+1)∈twL V vs L
 |m::vs,L,n,hn,hv=>by
  rcases List.mem_cons.1 hn with rfl|hn
  ·show vN (n+1)∈twL V vs (if V n then L else askL (vN (n+1)) L);rw[hv];exact(twL_pre V vs _).subset (askL_mem _ _)
  ·exact twL_mem V vs _ n hn hv
theorem St.var{W:Nat}{V:Nat->Bool}{L0 L:List Nd}{c:Nat}(h:St W V L0 L c){n:Nat}(hn:n<12):St W V L0 (askL (vN n) L) c:=by
 obtain⟨D,E,h1,h2⟩:=h.cnt;have hpre:=ask_pre (vN n) L;have hc:=h1.pre h.gok h.pre.length_le hpre;refine⟨h.pre.trans hpre,h.gok.ask (vN_ok hn),h.vok.ask λ _=>hn,nodup_ask h.nd,?_⟩;by_cases hm:vN n∈L
 ·have:askL (vN n) L=L:=if_pos hm;exact⟨D,E,hc,by rw[this];exact h2⟩
 ·have hl:=askL_len (vN n) L;refine⟨D,E++[n],⟨hc.nd,hc.bec,?_,?_⟩,by simp only[List.length_append,List.length_singleton];omega⟩
  ·rw[List.nodup_append];exact⟨hc.ne,by simp,λ a ha b hb=>by
    have e:b=n:=by simpa using hb
    intro e2;exact hm (by rw[<-e,<-e2];exact(h1.var a ha).2)⟩
  ·intro m hm';rcases List.mem_append.1 hm' with hm'|hm'
   ·exact hc.var m hm'
   ·simp at hm';subst hm';exact⟨hn,askL_mem _ _⟩
theorem St.twins{W:Nat}{V:Nat->Bool}{L0:List Nd}{c:Nat}:∀{vs:List Nat} {L:List Nd},St W V L0 L c->(∀n∈vs,V n=false->n+1<12)->St W V L0 (twL V vs L) c
 |[],_,h,_=>h
 |n::vs,L,h,hv=>by
  refine St.twins (vs:=vs) ?_ λ m hm=>hv m (List.mem_cons_of_mem _ hm)
  cases hn:V n with
  |true=>exact h
  |false=>exact h.var (hv n (List.mem_cons_self ..) hn)
theorem occ_pre{L M:List Nd}{W:Nat}(hg:GOk W L)(h:L<+:M){t:Nat}(ht:t<L.length){j:Nat}:Occ M t j↔Occ L t j:=by
 constructor
 ·intro o
  induction o with
  |top=>exact .top
  |arg o ha ih=>exact .arg ih (by rwa[pre_get h (ih.lt hg ht)] at ha)
 ·intro o
  induction o with
  |top=>exact .top
  |arg o ha ih=>exact .arg ih (by rw[pre_get h (o.lt hg ht)];exact ha)
def VarsOf(L:List Nd)(t:Nat)(vs:List Nat):Prop:=∀n,n∈vs↔∃j,Occ L t j/\(L.getD j default).op=1/\(L.getD j default).num=n
theorem twin_good{W:Nat}{V:Nat->Bool}(hW:1<=W)(hW2:W<=64){L0 L:List Nd}{c t:Nat}{vs:List Nat}{occ:Nat->Bool}(h:St W V L0 L c)(ht:t<L0.length)(hvs:VarsOf L t vs)(hev:∀n∈vs,n+1<12)(hocc:∀j,occ j=true↔Occ L t j):
  St W V L0 (twinM W V vs occ t L).2 c/\L<+:(twinM W V vs occ t L).2/\Bec W V (twinM W V vs occ t L).2 t (twinM W V vs occ t L).1/\(twinM W V vs occ t L).1<(twinM W V vs occ t L).2.length:=by
 have h1:St W V L0 (twL V vs L) c:=h.twins λ n hn _=>hev n hn
 have htL:t<L.length:=Nat.lt_of_lt_of_le ht h.pre.length_le;have hp:=twL_pre V vs L;obtain⟨D,E,hc,hl⟩:=h1.cnt;have ho:∀i a,occ i=true->a∈((twL V vs L).getD i default).args->occ a=true:=λ i a hi ha=>by
  rw[hocc] at hi⊢;exact .arg hi (by rwa[pre_get hp (hi.lt h.gok htL)] at ha)
 have hs:∀i,occ i=true->((twL V vs L).getD i default).op=1->(V ((twL V vs L).getD i default).num=true->twS V vs (twL V vs L) ((twL V vs L).getD i default).num=none)/\(V ((twL V vs L).getD i default).num=false->vN (((twL V vs L).getD i default).num+1)∈twL V vs L/\twS V vs (twL V vs L) ((twL V vs L).getD i default).num=some (ndAt (vN (((twL V vs L).getD i default).num+1)) (twL V vs L))):=λ i hi h1=>by
  have hi':=(hocc i).1 hi;have e:=pre_get hp (hi'.lt h.gok htL);rw[e] at h1⊢;have hm:(L.getD i default).num∈vs:=(hvs _).2 ⟨i,hi',h1,rfl⟩;refine⟨λ hv=>if_neg λ hc=> ?_,λ hv=>⟨twL_mem V vs L _ hm hv,if_pos ⟨hm,hv⟩⟩⟩;rw[hv] at hc;exact absurd hc.2 (by decide)
 obtain⟨g1,D',g2,g3⟩:=sub_inv hW hW2 h1.gok h1.vok ho hs h1.pre.length_le hc (t+1) (by omega);have hb:=g1.bec t (by omega) ((hocc t).2 .top);refine⟨⟨h1.pre.trans g1.pre,g1.gok,g1.vok,?_,D',E,g2,?_⟩,hp.trans g1.pre,hb,hb.lt hW hW2 g1.gok ?_⟩
 ·
  have:∀k,(subN W (twS V vs (twL V vs L)) (twL V vs L) occ (twL V vs L) k).2.Nodup:=λ k=>by
   induction k with
   |zero=>exact h1.nd
   |succ k ih=>
    show(subStep _ _ _ _ _ _).2.Nodup;unfold subStep
    split
    ·show(becM _ _ _ _ _ _).2.Nodup;unfold becM
     split
     ·exact ih
     ·split
      ·exact ih
      ·exact nodup_runP ih _
    ·exact ih
  exact this (t+1)
 ·show(subN _ _ _ _ _ _).2.length<=_;omega
 ·exact Nat.lt_of_lt_of_le htL (hp.trans g1.pre).length_le
theorem same_val{W:Nat}{V:Nat->Bool}{L:List Nd}(hg:GOk W L)(hv:VOk L){vals sec:List Nat}(hs:Second W V vals sec){t:Nat}(ht:t<L.length)(hall:∀j,Occ L t j->(L.getD j default).op=1->V (L.getD j default).num=true):∀j,Occ L t j->vAt W vals L j=vAt W sec L j:=by
 intro j
 induction j using Nat.strongRecOn with
 |ind j ih=>
  intro o;have hj:=o.lt hg ht;have hn:=hg j hj;rw[vAt_node vals hg hj,vAt_node sec hg hj];by_cases h0:(L.getD j default).op=0
  ·unfold valN;rw[if_pos h0,if_pos h0]
  ·by_cases h1:(L.getD j default).op=1
   ·rw[valN_var h1,valN_var h1,hs _ (hv j h1),if_pos (hall j o h1)]
   ·refine Eq.trans (valN_args hn λ a ha=>ih a (hg.arg ha).1 (.arg o ha)) ?_;unfold valN;rw[if_neg h0,if_neg h1,if_neg h0,if_neg h1]
def numM(W v:Nat)(L:List Nd):Nat×List Nd:=runP L (.ask (cN W v))
def joinM(W out t:Nat)(L:List Nd):Nat×List Nd:=
 simpM W 9 [out,(simpM W 16 [t,(numM W 0 L).1] (numM W 0 L).2).1] (simpM W 16 [t,(numM W 0 L).1] (numM W 0 L).2).2
def joinsM(W:Nat):Nat->List Nat->List Nd->Nat×List Nd
 |out,[],L=>(out,L)
 |out,t::l,L=>joinsM W (joinM W out t L).1 l (joinM W out t L).2
def allM(W:Nat)(l:List Nat)(L:List Nd):Nat×List Nd:=joinsM W (numM W 1 L).1 l (numM W 1 L).2
structure Made (W:Nat) (V:Nat->Bool) (L0 L:List Nd) (c:Nat) (z:List Nat->Nat) (r:Nat×List Nd):Prop where
 st:St W V L0 r.2 c
 pre:L<+:r.2
 lt:r.1<r.2.length
 val:∀vals,vAt W vals r.2 r.1=z vals
theorem num_made{W:Nat}{V:Nat->Bool}{L0 L:List Nd}{c:Nat}(hW2:W<=64)(h:St W V L0 L c)(v:Nat):Made W V L0 L (c+1) (λ _=>v%2^W) (numM W v L):=
 ⟨h.num hW2 v,runP_pre _ _,runP_lt (p:=.ask (cN W v)) (cN_ok hW2),λ vals=>runP_val vals h.gok (p:=.ask (cN W v)) (cN_ok hW2)⟩
theorem simp_made{W:Nat}{V:Nat->Bool}{L0 L:List Nd}{c:Nat}(hW:1<=W)(hW2:W<=64)(h:St W V L0 L c){o a b:Nat}(ho:4<=o)(ho2:o<=20)(ha:a<L.length)(hb:b<L.length):Made W V L0 L (c+1) (λ vals=>appN o W (vAt W vals L a) (vAt W vals L b)) (simpM W o [a,b] L):=by
 have hl:[a,b].length=arN o:=by unfold arN;rw[if_neg (by omega),if_neg (by omega),if_neg (by omega)];rfl
 have hx:∀x∈[a,b],x<L.length:=by simpa using⟨ha,hb⟩
 have hg:=simpM_good hW hW2 h.gok (by omega) ho2 hl hx;exact⟨h.simp hW hW2 (by omega) ho2 hl hx,simpM_pre _ _ _ _,hg.2.1,hg.2.2⟩
theorem bit_and(p q:Prop)[Decidable p][Decidable q]:b2n p&&&b2n q=b2n (p/\q):=by
 by_cases hp:p<;>by_cases hq:q<;>simp[b2n,hp,hq]
theorem join_made{W:Nat}{V:Nat->Bool}{L0 L:List Nd}{c:Nat}(hW:1<=W)(hW2:W<=64)(h:St W V L0 L c){out t:Nat}(ho:out<L.length)(ht:t<L.length){P:List Nat->Prop}[∀vals,Decidable (P vals)](hP:∀vals,vAt W vals L out=b2n (P vals)):
  Made W V L0 L (c+3) (λ vals=>b2n (P vals/\vAt W vals L t≠0)) (joinM W out t L):=by
 have m1:=num_made hW2 h 0;have m2:=simp_made hW hW2 m1.st (o:=16) (a:=t) (b:=(numM W 0 L).1) (by decide) (by decide) (Nat.lt_of_lt_of_le ht m1.pre.length_le) m1.lt;have hp2:=m1.pre.trans m2.pre;have m3:=simp_made hW hW2 m2.st (o:=9) (a:=out) (b:=(simpM W 16 [t,(numM W 0 L).1] (numM W 0 L).2).1) (by decide) (by decide) (Nat.lt_of_lt_of_le ho hp2.length_le) m2.lt;refine⟨m3.st,hp2.trans m3.pre,m3.lt,λ vals=> ?_⟩;refine(m3.val vals).trans ?_;show vAt W vals _ out&&&_=_;rw[vAt_pre hp2 ho,hP,m2.val vals];show _&&&b2n _=_;rw[vAt_pre m1.pre ht,m1.val vals,Nat.zero_mod];exact bit_and _ _
theorem joins_made{W:Nat}{V:Nat->Bool}{L0:List Nd}(hW:1<=W)(hW2:W<=64):∀(l:List Nat) {L:List Nd} {c out:Nat},St W V L0 L c->out<L.length->(∀t∈l,t<L.length)->∀{P:List Nat->Prop} [∀vals,Decidable (P vals)],(∀vals,vAt W vals L out=b2n (P vals))->
  Made W V L0 L (c+3*l.length) (λ vals=>b2n (P vals/\∀t∈l,vAt W vals L t≠0)) (joinsM W out l L)
 |[],L,c,out,h,ho,_,P,_,hP=>⟨h,List.prefix_rfl,ho,λ vals=>by rw[show joinsM W out [] L=(out,L) from rfl,hP];simp⟩
 |t::l,L,c,out,h,ho,hl,P,_,hP=>by
  have m1:=join_made hW hW2 h ho (hl t (by simp)) hP;have hl':∀t∈l,t<L.length:=λ t ht=>hl t (List.mem_cons_of_mem _ ht)
  have m2:=joins_made hW hW2 l m1.st m1.lt (λ t ht=>Nat.lt_of_lt_of_le (hl' t ht) m1.pre.length_le) m1.val;refine⟨m2.st.mono (by simp;omega),m1.pre.trans m2.pre,m2.lt,λ vals=> ?_⟩;refine(m2.val vals).trans ?_;have e:(P vals/\vAt W vals L t≠0)/\(∀u∈l,vAt W vals (joinM W out t L).2 u≠0)↔P vals/\∀u∈t::l,vAt W vals L u≠0:=by
   simp only[List.forall_mem_cons,and_assoc];constructor
   ·rintro⟨a,b,d⟩;exact⟨a,b,λ u hu=>by rw[<-vAt_pre m1.pre (hl' u hu)];exact d u hu⟩
   ·rintro⟨a,b,d⟩;exact⟨a,b,λ u hu=>by rw[vAt_pre m1.pre (hl' u hu)];exact d u hu⟩
  unfold b2n;by_cases hh:P vals/\∀u∈t::l,vAt W vals L u≠0
  ·rw[if_pos hh,if_pos (e.2 hh)]
  ·rw[if_neg hh,if_neg λ k=>hh (e.1 k)]
theorem all_made{W:Nat}{V:Nat->Bool}{L0 L:List Nd}{c:Nat}(hW:1<=W)(hW2:W<=64)(h:St W V L0 L c){l:List Nat}(hl:∀t∈l,t<L.length):Made W V L0 L (c+1+3*l.length) (λ vals=>b2n (∀t∈l,vAt W vals L t≠0)) (allM W l L):=by
 have m1:=num_made hW2 h 1;have m2:=joins_made hW hW2 l m1.st m1.lt (λ t ht=>Nat.lt_of_lt_of_le (hl t ht) m1.pre.length_le) (P:=λ _=>True) λ vals=>by rw[m1.val vals,one_mod hW];rfl
 refine⟨m2.st,m1.pre.trans m2.pre,m2.lt,λ vals=> ?_⟩;refine(m2.val vals).trans ?_;have e:(True/\∀u∈l,vAt W vals (numM W 1 L).2 u≠0)↔∀u∈l,vAt W vals L u≠0:=by
  rw[true_and];constructor
  ·intro d u hu;rw[<-vAt_pre m1.pre (hl u hu)];exact d u hu
  ·intro d u hu;rw[vAt_pre m1.pre (hl u hu)];exact d u hu
 unfold b2n;by_cases hh:∀u∈l,vAt W vals L u≠0
 ·rw[if_pos hh,if_pos (e.2 hh)]
 ·rw[if_neg hh,if_neg λ k=>hh (e.1 k)]
def eqsM(W:Nat):List (Int×Nat)->List (Int×Nat)->List Nat->List Nd->Option (List Nat)×List Nd
 |x::a,y::b,acc,L=>if x.1=y.1 then eqsM W a b (acc++[(simpM W 15 [x.2,y.2] L).1]) (simpM W 15 [x.2,y.2] L).2 else(none,L)
 |_,_,acc,L=>(some acc,L)
def begunM(W:Nat)(a b:List (Int×Nat))(L:List Nd):Nat×List Nd:=
 match eqsM W a b [] L with
 |(none,L)=>numM W 0 L
 |(some l,L)=>allM W l L
def equalM(W:Nat)(a b:List (Int×Nat))(L:List Nd):Nat×List Nd:=if a.length=b.length then begunM W a b L else numM W 0 L
def Begun(W:Nat)(vals:List Nat)(L:List Nd):List (Int×Nat)->List (Int×Nat)->Prop
 |x::a,y::b=>(x.1=y.1/\vAt W vals L x.2=vAt W vals L y.2)/\Begun W vals L a b
 |_,_=>True
instance Begun.dec (W:Nat) (vals:List Nat) (L:List Nd):∀a b,Decidable (Begun W vals L a b)
 |x::a,y::b=>by
  have:=Begun.dec W vals L a b;unfold Begun;exact inferInstance
 |[],_=>.isTrue (by unfold Begun;trivial)
 |_::_,[]=>.isTrue (by unfold Begun;trivial)
theorem b2n_congr{p q:Prop}[Decidable p][Decidable q](h:p↔q):b2n p=b2n q:=by
 unfold b2n;by_cases hp:p
 ·rw[if_pos hp,if_pos (h.1 hp)]
 ·rw[if_neg hp,if_neg λ k=>hp (h.2 k)]
theorem Begun.pre{W:Nat}{vals:List Nat}{L M:List Nd}(h:L<+:M):∀{a b:List (Int×Nat)},(∀x∈a,x.2<L.length)->(∀x∈b,x.2<L.length)->(Begun W vals M a b↔Begun W vals L a b)
 |x::a,y::b,ha,hb=>by
  unfold Begun;rw[vAt_pre h (ha x (by simp)),vAt_pre h (hb y (by simp)),Begun.pre h (λ x hx=>ha x (List.mem_cons_of_mem _ hx)) (λ x hx=>hb x (List.mem_cons_of_mem _ hx))]
 |[],_,_,_=>by unfold Begun;exact Iff.rfl
 |_::_,[],_,_=>by unfold Begun;exact Iff.rfl
theorem eqs_made{W:Nat}{V:Nat->Bool}{L0:List Nd}(hW:1<=W)(hW2:W<=64):∀(a b:List (Int×Nat)) {acc:List Nat} {L:List Nd} {c:Nat},St W V L0 L c->(∀x∈a,x.2<L.length)->(∀x∈b,x.2<L.length)->(∀t∈acc,t<L.length)->
  St W V L0 (eqsM W a b acc L).2 (c+a.length)/\L<+:(eqsM W a b acc L).2/\match(eqsM W a b acc L).1 with
   |none=>∀vals,¬Begun W vals L a b
   |some l=>l.length<=acc.length+a.length/\(∀t∈l,t<(eqsM W a b acc L).2.length)/\∀vals,(∀t∈l,vAt W vals (eqsM W a b acc L).2 t≠0)↔((∀t∈acc,vAt W vals L t≠0)/\Begun W vals L a b)
 |x::a,y::b,acc,L,c,h,ha,hb,hc=>by
  unfold eqsM;by_cases e:x.1=y.1
  ·rw[if_pos e];have m:=simp_made hW hW2 h (o:=15) (by decide) (by decide) (ha x (by simp)) (hb y (by simp));have ha':∀z∈a,z.2<L.length:=λ z hz=>ha z (List.mem_cons_of_mem _ hz)
   have hb':∀z∈b,z.2<L.length:=λ z hz=>hb z (List.mem_cons_of_mem _ hz)
   generalize simpM W 15 [x.2,y.2] L=r at m⊢;have hle:=m.pre.length_le;obtain⟨g1,g2,g3⟩:=eqs_made hW hW2 a b (acc:=acc++[r.1]) m.st (λ z hz=>Nat.lt_of_lt_of_le (ha' z hz) hle) (λ z hz=>Nat.lt_of_lt_of_le (hb' z hz) hle) (λ t ht=>by
    rcases List.mem_append.1 ht with ht|ht
    ·exact Nat.lt_of_lt_of_le (hc t ht) hle
    ·simp at ht;subst ht;exact m.lt)
   refine⟨g1.mono (by simp;omega),m.pre.trans g2,?_⟩;have hv:∀vals,(vAt W vals r.2 r.1≠0↔vAt W vals L x.2=vAt W vals L y.2):=λ vals=>by
    rw[m.val vals];show b2n (vAt W vals L x.2=vAt W vals L y.2)≠0↔_;unfold b2n
    split<;>simp_all
   generalize eqsM W a b (acc++[r.1]) r.2=q at g1 g2 g3⊢;obtain⟨q1,q2⟩:=q;cases q1 with
   |none=>
    intro vals hbg;unfold Begun at hbg;exact g3 vals ((Begun.pre m.pre ha' hb').2 hbg.2)
   |some l=>
    obtain⟨k1,k2,k3⟩:=g3;refine⟨by simp at k1⊢;omega,k2,λ vals=>(k3 vals).trans ?_⟩;rw[Begun.pre m.pre ha' hb']
    conv=>rhs;unfold Begun
    constructor
    ·rintro⟨u1,u2⟩;refine⟨λ t ht=>by rw[<-vAt_pre m.pre (hc t ht)];exact u1 t (List.mem_append_left _ ht),⟨e,(hv vals).1 (u1 r.1 (by simp))⟩,u2⟩
    ·rintro⟨u1,⟨_,u2⟩,u3⟩;refine⟨λ t ht=> ?_,u3⟩;rcases List.mem_append.1 ht with ht|ht
     ·rw[vAt_pre m.pre (hc t ht)];exact u1 t ht
     ·simp at ht;subst ht;exact(hv vals).2 u2
  ·rw[if_neg e];exact⟨h.mono (by omega),List.prefix_rfl,λ vals hbg=>by unfold Begun at hbg;exact e hbg.1.1⟩
 |[],b,acc,L,c,h,ha,hb,hc=>by
  unfold eqsM;exact⟨h,List.prefix_rfl,by simp,hc,λ vals=>by unfold Begun;simp⟩
 |x::a,[],acc,L,c,h,ha,hb,hc=>by
  unfold eqsM;exact⟨h.mono (by omega),List.prefix_rfl,by simp,hc,λ vals=>by unfold Begun;simp⟩
theorem begun_made{W:Nat}{V:Nat->Bool}{L0 L:List Nd}{c:Nat}(hW:1<=W)(hW2:W<=64)(h:St W V L0 L c){a b:List (Int×Nat)}(ha:∀x∈a,x.2<L.length)(hb:∀x∈b,x.2<L.length):Made W V L0 L (c+1+4*a.length) (λ vals=>b2n (Begun W vals L a b)) (begunM W a b L):=by
 obtain⟨g1,g2,g3⟩:=eqs_made hW hW2 a b (acc:=[]) h ha hb (λ t ht=>by cases ht);unfold begunM;generalize eqsM W a b [] L=q at g1 g2 g3⊢;obtain⟨q1,q2⟩:=q;cases q1 with
 |none=>
  have m:=num_made hW2 g1 0;refine⟨m.st.mono (by omega),g2.trans m.pre,m.lt,λ vals=> ?_⟩;show vAt W vals (numM W 0 q2).2 (numM W 0 q2).1=_;rw[m.val vals,Nat.zero_mod,b2n_false (g3 vals)]
 |some l=>
  obtain⟨k1,k2,k3⟩:=g3;have m:=all_made hW hW2 g1 k2;refine⟨m.st.mono (by simp at k1;omega),g2.trans m.pre,m.lt,λ vals=> ?_⟩;show vAt W vals (allM W l q2).2 (allM W l q2).1=_;rw[m.val vals];exact b2n_congr ((k3 vals).trans (by simp))
def cmpM(W:Nat)(mode:Bool)(a b:List (Int×Nat))(L:List Nd):Nat×List Nd:=if mode then begunM W a b L else equalM W a b L
def Cmp(W:Nat)(vals:List Nat)(L:List Nd)(mode:Bool)(a b:List (Int×Nat)):Prop:=(mode=true\/a.length=b.length)/\Begun W vals L a b
instance (W:Nat) (vals:List Nat) (L:List Nd) (mode:Bool) (a b:List (Int×Nat)):Decidable (Cmp W vals L mode a b):=by unfold Cmp;exact inferInstance
theorem cmp_made{W:Nat}{V:Nat->Bool}{L0 L:List Nd}{c:Nat}(hW:1<=W)(hW2:W<=64)(h:St W V L0 L c)(mode:Bool){a b:List (Int×Nat)}(ha:∀x∈a,x.2<L.length)(hb:∀x∈b,x.2<L.length):Made W V L0 L (c+1+4*a.length) (λ vals=>b2n (Cmp W vals L mode a b)) (cmpM W mode a b L):=by
 have m:=begun_made hW hW2 h ha hb;cases mode with
 |true=>exact⟨m.st,m.pre,m.lt,λ vals=>(m.val vals).trans (b2n_congr (by simp[Cmp]))⟩
 |false=>
  unfold cmpM equalM;rw[if_neg (by decide)];by_cases e:a.length=b.length
  ·rw[if_pos e];exact⟨m.st,m.pre,m.lt,λ vals=>(m.val vals).trans (b2n_congr (by simp[Cmp,e]))⟩
  ·rw[if_neg e];have m:=num_made hW2 h 0;exact⟨m.st.mono (by omega),m.pre,m.lt,λ vals=>by rw[m.val vals,Nat.zero_mod,b2n_false (by simp[Cmp,e])]⟩
end Go.Proofs.YtgdpkkjfcdhmdaaGreatDoor
namespace Go.Proofs.YtgdpkkjfcdhmdaaGreatDoor
open Go Go.RowKit
theorem app_keep{α:Type}{Ly:Lay α}{t e:TypeId}{z:Value}{bytes:Nat}(T:ElemT Tryz.prog Ly t e z bytes){w:World}{ops:Array Oper}{rest:List Oper}{o:Oper}{a:Act}{Q:Exit->Act->World->Prop}(qs:List α)(hgd:o.guard=none)(s x:Operand)
  (ho:o.op= .call {callee:=.builtin .append,args:=#[s,x],argTypes:=#[t,t]}){base g:Nat}{v:Value}{ps:List α}{m c:Nat}
  (hs:a.eval s=v)(hown:Ly.Own e w base v ps)(hx:a.eval x= .slice (some ⟨g,0,none⟩) m c)(hg:g=w.heap.size)(hm:qs.length=m)
  (hl:ps.length+m<=1000000)(hbase:base<=w.heap.size)
  (h:∀v' w',Ly.Own e w' base v' (ps++qs)->(w.alloc (.cells (Ly.flat qs).toArray e)).grownBy w' v.ownBlock->(v'.ownBlock=v.ownBlock\/v'.ownBlock=some (w.heap.size+1))->wpList Tryz.prog ops Q rest (a.put o.dst v') w'):wpList Tryz.prog ops Q (o::rest) a (w.alloc (.cells (Ly.flat qs).toArray e)):=by
 refine wpList_plain hgd λ K' hK'=> ?_
 subst hg;obtain⟨v',w',hr,h1,h2,h3⟩:=run_some T (c:=c) (hown.alloc _) hm (lay_new_cells w qs e) hl (by simp;omega) o.type;rw[<-hs] at hr;exact Lib.wp_append_run _ s x t t ho _ _ rfl hx v' w' hr (hK' _ _ (h v' w' h1 h2 (by simpa using h3)))
theorem twL_snoc(V:Nat->Bool)(n:Nat):∀(l:List Nat) (L:List Nd),twL V (l++[n]) L=if V n then twL V l L else askL (vN (n+1)) (twL V l L)
 |[],_=>rfl
 |_::l,_=>twL_snoc V n l _
def twT(V:Nat->Bool)(l:List Nat)(M:List Nd):List Nat:=(l.filter λ n=> !V n).map λ n=>ndAt (vN (n+1)) M
theorem twT_pre{V:Nat->Bool}{l:List Nat}{L M:List Nd}(h:L<+:M)(hl:∀n∈l,V n=false->vN (n+1)∈L):twT V l M=twT V l L:=by
 unfold twT;refine List.map_congr_left λ n hn=> ?_
 rw[List.mem_filter] at hn;obtain⟨r,rfl⟩:=h;exact ndAt_pre r (hl n hn.1 (by simpa using hn.2))
theorem twT_snoc{V:Nat->Bool}{l:List Nat}{n:Nat}{L:List Nd}(hn:V n=false):twT V (l++[n]) (twL V (l++[n]) L)=twT V l (twL V l L)++[ndAt (vN (n+1)) (twL V l L)]:=by
 have e:twL V (l++[n]) L=askL (vN (n+1)) (twL V l L):=by rw[twL_snoc,hn];rfl
 rw[e,<-twT_pre (ask_pre (vN (n+1)) (twL V l L)) (twL_mem V l L)];unfold twT;rw[List.filter_append,List.map_append];simp[hn,ndAt_ask]
theorem lk_map(f:Nat->Nat)(x:Nat):∀l:List Nat,lkS (varE l (l.map f)) (x:Int)=if x∈l then some (.int .i64 (f x:Nat)) else none
 |[]=>rfl
 |n::l=>by
  have ih:=lk_map f x l;unfold varE at ih⊢;rw[List.map_cons,List.zip_cons_cons,List.map_cons];show(if((n:Nat):Int)=(x:Int) then some (Value.int .i64 (f n:Nat)) else lkS _ _)=_;rw[ih];by_cases e:n=x
  ·subst e;simp
  ·have e2:¬((n:Nat):Int)=(x:Int):=by omega
   rw[if_neg e2];have e3:x∈n::l↔x∈l:=by simp[Ne.symm e]
   by_cases hx:x∈l
   ·rw[if_pos hx,if_pos (e3.2 hx)]
   ·rw[if_neg hx,if_neg λ h=>hx (e3.1 h)]
structure SubOk (W:Nat) (V:Nat->Bool) (vs:List Nat) (occ:Nat->Bool) (t:Nat) (L:List Nd):Prop where
 sig:∀i,i<=t->occ i=true->((twL V vs L).getD i default).op=1->lkS (varE (vs.filter λ n=> !V n) (twT V vs (twL V vs L))) (((twL V vs L).getD i default).num:Int)=(twS V vs (twL V vs L) ((twL V vs L).getD i default).num).map λ s=>.int .i64 (s:Nat)
 room:∀k,k<=t+1->(subN W (twS V vs (twL V vs L)) (twL V vs L) occ (twL V vs L) k).2.length<=999
 bl:∀k,k<=t->∀a,a<k->occ a=true->(subN W (twS V vs (twL V vs L)) (twL V vs L) occ (twL V vs L) k).1.getD a 0<(subN W (twS V vs (twL V vs L)) (twL V vs L) occ (twL V vs L) k).2.length
 occ:∀j,occ j=true↔Occ (twL V vs L) t j
 lt:t<(twL V vs L).length
 ts:∀s∈twT V vs (twL V vs L),s<(twL V vs L).length
theorem sub_ok{W:Nat}{V:Nat->Bool}(hW:1<=W)(hW2:W<=64){L0 L:List Nd}{c t:Nat}{vs:List Nat}{occ:Nat->Bool}(h:St W V L0 L c)(hr:c+L0.length+12<=999)(ht:t<L0.length)(hvs:VarsOf L t vs)(hev:∀n∈vs,n+1<12)(hocc:∀j,occ j=true↔Occ L t j):SubOk W V vs occ t L:=by
 have h1:St W V L0 (twL V vs L) c:=h.twins λ n hn _=>hev n hn
 have htL:t<L.length:=Nat.lt_of_lt_of_le ht h.pre.length_le;have hp:=twL_pre V vs L;obtain⟨D,E,hc,hl⟩:=h1.cnt;have ho:∀i a,occ i=true->a∈((twL V vs L).getD i default).args->occ a=true:=λ i a hi ha=>by
  rw[hocc] at hi⊢;exact .arg hi (by rwa[pre_get hp (hi.lt h.gok htL)] at ha)
 have hm:∀i,occ i=true->((twL V vs L).getD i default).op=1->((twL V vs L).getD i default).num∈vs:=λ i hi h1=>by
  have hi':=(hocc i).1 hi;have e:=pre_get hp (hi'.lt h.gok htL);rw[e] at h1⊢;exact(hvs _).2 ⟨i,hi',h1,rfl⟩
 have hs:∀i,occ i=true->((twL V vs L).getD i default).op=1->(V ((twL V vs L).getD i default).num=true->twS V vs (twL V vs L) ((twL V vs L).getD i default).num=none)/\(V ((twL V vs L).getD i default).num=false->vN (((twL V vs L).getD i default).num+1)∈twL V vs L/\twS V vs (twL V vs L) ((twL V vs L).getD i default).num=some (ndAt (vN (((twL V vs L).getD i default).num+1)) (twL V vs L))):=λ i hi h1=>by
  have hm:=hm i hi h1;refine⟨λ hv=>if_neg λ hc=> ?_,λ hv=>⟨twL_mem V vs L _ hm hv,if_pos ⟨hm,hv⟩⟩⟩;rw[hv] at hc;exact absurd hc.2 (by decide)
 have hle:=hc.le;have inv:=λ k hk=>sub_inv hW hW2 h1.gok h1.vok ho hs h1.pre.length_le hc k hk
 refine⟨λ i _ hi h1=> ?_,λ k hk=> ?_,λ k hk a ha hoa=> ?_,λ j=>(hocc j).trans (occ_pre h.gok hp htL).symm,Nat.lt_of_lt_of_le htL hp.length_le,λ s hs=> ?_⟩
 ·unfold twT;rw[lk_map λ n=>ndAt (vN (n+1)) (twL V vs L)];unfold twS;have hm:=hm i hi h1;generalize((twL V vs L).getD i default).num=x at hm⊢;cases hv:V x with
  |true=>rw[if_neg (by simp[hv]),if_neg (by simp)];rfl
  |false=>rw[if_pos (by simp[hv,hm]),if_pos ⟨hm,rfl⟩];rfl
 ·obtain⟨_,D',g2,g3⟩:=inv k (by omega);have:=g2.le;omega
 ·obtain⟨g1,_⟩:=inv k (by omega);exact(g1.bec a ha hoa).lt hW hW2 g1.gok (by have:=g1.pre.length_le;have:=hp.length_le;omega)
 ·unfold twT at hs;obtain⟨n,hn,rfl⟩:=List.mem_map.1 hs;rw[List.mem_filter] at hn;exact ndAt_lt (twL_mem V vs L n hn.1 (by simpa using hn.2))
section
variable {w0 w w':World} {B:Nat} {A A':Nat->Prop} {gb mb:Nat} {nv0 nv:Value} {W:Nat} {L:List Nd}
def Off(A A':Nat->Prop)(gb mb:Nat)(nv:Value)(k:Nat):Prop:=¬MutB gb (some mb) nv k/\¬(A k\/A' k)
theorem Run.grown{row:Option Nat}(h:Run w0 w B A A' gb mb nv0 nv W L)(hg:w.grownBy w' row)(hr:∀k,row=some k->w0.heap.size<=k/\Off A A' gb mb nv k):Run w0 w' B A A' gb mb nv0 nv W L:=by
 refine⟨h.pg.frame hg.size λ k hk=>hg.block k ?_ λ e=> ?_,h.new,⟨hg.os.trans h.mt.os,hg.tape.trans h.mt.tape,hg.output.trans h.mt.output,Nat.le_trans h.mt.size hg.size,λ k hk hn=> ?_⟩,h.nb⟩
 ·rcases hk with hk|hk
  ·exact(h.pg.lo k hk).2
  ·exact(h.pg.ar k hk).2.1
 ·obtain⟨_,h1,h2⟩:=hr k e.symm;exact hk.elim h1 h2
 ·rw[hg.block k (Nat.lt_of_lt_of_le hk h.mt.size) λ e=>by have:=(hr k e.symm).1;omega];exact h.mt.block k hk hn
theorem Run.off_new(h:Run w0 w B A A' gb mb nv0 nv W L){k:Nat}(hk:w.heap.size<=k):Off A A' gb mb nv k:=
 ⟨λ m=>by have:=(h.pg.lo k m).2;omega,λ m=>by have:=(h.pg.ar k m).2.1;omega⟩
theorem Run.off_step{nv':Value}{A1:Nat->Prop}{L':List Nd}(h:Run w w' B (λ k=>A k\/A' k) A1 gb mb nv nv' W L'){k:Nat}(hk:k<w.heap.size)(ho:Off A A' gb mb nv k):Off A (λ k=>A' k\/A1 k) gb mb nv' k:=
 ⟨h.free hk ho.1,λ m=>by
   rcases m with m|m|m
   ·exact ho.2 (.inl m)
   ·exact ho.2 (.inr m)
   ·have:=h.new k m;omega⟩
theorem Own.at_mut{α:Type}{Ly:Lay α}{d:α}{t:TypeId}{S:Nat->Prop}{base n cap:Nat}{a:Option Addr}{xs:List α}(h:Ly.Own t w base (.slice a n cap) xs)(hm:Mut S w w')(hn:∀g,base<=g->g<w.heap.size->¬S g):Ly.At d w' a xs:=by
 obtain⟨a',cap',e,hat,_⟩:=(Own.written h hm λ g e=>hn g (h.lt g e).1 (h.lt g e).2).at_ (d:=d);injection e with e1;subst e1;exact hat
theorem vars_nat{ts:List Nat}{ys:List Int}(h:∀n,n∈ys↔VarInS L ts n):∃vs:List Nat,ys=intsN vs:=by
 refine⟨ys.map Int.toNat,?_⟩;unfold intsN;rw[List.map_map];refine(List.map_id ys).symm.trans (List.map_congr_left λ n hn=> ?_);obtain⟨j,_,_,e⟩:=(h n).1 hn;simp only[id,Function.comp];omega
structure TwI (w6 wr:World) (B:Nat) (A A':Nat->Prop) (gb mb:Nat) (nv nvk:Value) (W:Nat) (V:Nat->Bool) (l:List Nat) (L:List Nd) (v1 v2:Value):Prop where
 run:Run w6 wr B A A' gb mb nv nvk W (twL V l L)
 o1:(Lay.int .i64).Own 3 wr w6.heap.size v1 (intsN (l.filter λ n=> !V n))
 o2:(Lay.int .i64).Own 3 wr w6.heap.size v2 (intsN (twT V l (twL V l L)))
 n1:∀g,v1.ownBlock=some g->Off A A' gb mb nvk g
 n2:∀g,v2.ownBlock=some g->Off A A' gb mb nvk g
 ne:∀g,v1.ownBlock=some g->v2.ownBlock≠some g
variable {w6 wr:World} {nvk:Value} {V:Nat->Bool} {l:List Nat} {v1 v2:Value}
theorem TwI.start(h:PG w B A gb mb nv W L):TwI w w B A noB gb mb nv nv W V [] L (.slice none 0 0) (.slice none 0 0):=
 ⟨Run.start h,Lay.Own.nil _ _,Lay.Own.nil _ _,(λ g e=>by cases e),(λ g e=>by cases e),(λ g e=>by cases e)⟩
theorem TwI.skip{n:Nat}(h:TwI w6 wr B A A' gb mb nv nvk W V l L v1 v2)(hn:V n=true):TwI w6 wr B A A' gb mb nv nvk W V (l++[n]) L v1 v2:=by
 have e:twL V (l++[n]) L=twL V l L:=by rw[twL_snoc,hn];rfl
 refine⟨by rw[e];exact h.run,?_,?_,h.n1,h.n2,h.ne⟩
 ·rw[List.filter_append];simp[hn];exact h.o1
 ·rw[e];unfold twT;rw[List.filter_append];simp[hn];exact h.o2
structure TwJ (w6 wr:World) (B:Nat) (A A':Nat->Prop) (gb mb:Nat) (nv nvk:Value) (W:Nat) (M:List Nd) (v1 v2:Value) (r s:List Nat):Prop where
 run:Run w6 wr B A A' gb mb nv nvk W M
 o1:(Lay.int .i64).Own 3 wr w6.heap.size v1 (intsN r)
 o2:(Lay.int .i64).Own 3 wr w6.heap.size v2 (intsN s)
 n1:∀g,v1.ownBlock=some g->Off A A' gb mb nvk g
 n2:∀g,v2.ownBlock=some g->Off A A' gb mb nvk g
 ne:∀g,v1.ownBlock=some g->v2.ownBlock≠some g
theorem TwI.ask{n:Nat}{e:Ending}(h:TwI w6 wr B A A' gb mb nv nvk W V l L v1 v2)(hs:SimpPost wr B (λ k=>A k\/A' k) gb mb nvk W (runP (twL V l L) (.ask (vN (n+1)))) e w'):
  ∃(nv':Value) (A1:Nat->Prop),e= .returned (.tuple #[.int .i64 (ndAt (vN (n+1)) (twL V l L):Nat),.int .i64 0])/\TwJ w6 w' B A (λ k=>A' k\/A1 k) gb mb nv nv' W (askL (vN (n+1)) (twL V l L)) v1 v2 (l.filter λ n=> !V n) (twT V l (twL V l L)):=by
 obtain⟨nv',A1,rfl,h1,h2⟩:=h.run.step hs;refine⟨nv',A1,rfl,h1,Own.written h.o1 h2.mt λ g e=>(h.n1 g e).1,Own.written h.o2 h2.mt λ g e=>(h.n2 g e).1,λ g e=>h2.off_step ((h.o1.lt g e).2) (h.n1 g e),λ g e=>h2.off_step ((h.o2.lt g e).2) (h.n2 g e),h.ne⟩
theorem TwJ.keep{M:List Nd}{r s:List Nat}(h:TwJ w6 w B A A' gb mb nv nvk W M v1 v2 r s)(hb:Below w.heap.size w w'):TwJ w6 w' B A A' gb mb nv nvk W M v1 v2 r s:=
 ⟨h.run.keep hb,h.o1.grown hb,h.o2.grown hb,h.n1,h.n2,h.ne⟩
theorem TwJ.app1{M:List Nd}{r s:List Nat}(h:TwJ w6 w B A A' gb mb nv nvk W M v1 v2 r s){v':Value}{r':List Nat}(ho:(Lay.int .i64).Own 3 w' w6.heap.size v' (intsN r'))(hg:w.grownBy w' v1.ownBlock)(hv:v'.ownBlock=v1.ownBlock\/v'.ownBlock=some w.heap.size):TwJ w6 w' B A A' gb mb nv nvk W M v' v2 r' s:=by
 refine⟨h.run.grown hg λ k e=>⟨(h.o1.lt k e).1,h.n1 k e⟩,ho,World.ownsRow.kept h.o2 hg ?_,λ g e=> ?_,h.n2,λ g e=> ?_⟩
 ·cases hk:v2.ownBlock with
  |none=>exact .inl rfl
  |some k=>exact .inr λ e=>h.ne k e.symm hk
 ·rcases hv with hv|hv
  ·exact h.n1 g (hv▸e)
  ·rw[hv] at e;injection e with e;exact h.run.off_new (by omega)
 ·rcases hv with hv|hv
  ·exact h.ne g (hv▸e)
  ·rw[hv] at e;injection e with e;intro e2;have:=(h.o2.lt g e2).2;omega
theorem TwJ.app2{M:List Nd}{r s:List Nat}(h:TwJ w6 w B A A' gb mb nv nvk W M v1 v2 r s){v':Value}{s':List Nat}(ho:(Lay.int .i64).Own 3 w' w6.heap.size v' (intsN s'))(hg:w.grownBy w' v2.ownBlock)(hv:v'.ownBlock=v2.ownBlock\/v'.ownBlock=some w.heap.size):TwJ w6 w' B A A' gb mb nv nvk W M v1 v' r s':=by
 refine⟨h.run.grown hg λ k e=>⟨(h.o2.lt k e).1,h.n2 k e⟩,World.ownsRow.kept h.o1 hg ?_,ho,h.n1,λ g e=> ?_,λ g e=> ?_⟩
 ·cases hk:v1.ownBlock with
  |none=>exact .inl rfl
  |some k=>exact .inr λ e=>h.ne k hk e.symm
 ·rcases hv with hv|hv
  ·exact h.n2 g (hv▸e)
  ·rw[hv] at e;injection e with e;exact h.run.off_new (by omega)
 ·rcases hv with hv|hv
  ·rw[hv];exact h.ne g e
  ·rw[hv];intro e2;injection e2 with e2;have:=(h.o1.lt g e).2;omega
theorem TwJ.next{n:Nat}(h:TwJ w6 wr B A A' gb mb nv nvk W (askL (vN (n+1)) (twL V l L)) v1 v2 ((l.filter λ n=> !V n)++[n]) (twT V l (twL V l L)++[ndAt (vN (n+1)) (twL V l L)]))(hn:V n=false):TwI w6 wr B A A' gb mb nv nvk W V (l++[n]) L v1 v2:=by
 have e:twL V (l++[n]) L=askL (vN (n+1)) (twL V l L):=by rw[twL_snoc,hn];rfl
 refine⟨by rw[e];exact h.run,?_,?_,h.n1,h.n2,h.ne⟩
 ·rw[List.filter_append];simp[hn];exact h.o1
 ·rw[twT_snoc hn];exact h.o2
end
end Go.Proofs.YtgdpkkjfcdhmdaaGreatDoor
