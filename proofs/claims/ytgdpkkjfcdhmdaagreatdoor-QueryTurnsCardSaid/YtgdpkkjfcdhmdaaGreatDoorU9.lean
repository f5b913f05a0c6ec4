/- Subst: what its last loop keeps. -/
import Derived.Test.YtgdpkkjfcdhmdaaGreatDoorS0
import Derived.Test.YtgdpkkjfcdhmdaaGreatDoorU7
import Derived.Test.YtgdpkkjfcdhmdaaGreatDoorU3
import Derived.Defers
import Derived.Recover
namespace Go.Proofs.YtgdpkkjfcdhmdaaGreatDoor
open Go.RowKit
theorem catch100(p q:Addr)(w:World):CallsD Tryz.prog 100 #[.pointer (some p),.pointer (some q)] .returning w λ e u' w'=>e= .returned (.tuple #[])/\u'= .returning/\w'=w:=by
 refine callsD_of_wpS Tryz.func100 rfl λ c₀ cs hu=> ?_
 have hnil:∀w:World,(Op.equalIn 10000 20 .nilIface .nilIface).run Tryz.prog w= .ok true w:=λ w=>by kernel_rfl
 apply wpS_seq;apply wpS_region;simp[wpOpsS,go_sem,recoverD,hu,Tryz.ntmps100,Exit.thenS];refine wpS_of_wp ?_;refine wp_block ?_
 go_wp2_with fail
 cases c₀
 simp_all[bodyPostS,results,Tryz.results100]
structure NeedS (w:World) (L:List Nd) (t0:Nat) (nb g mx n t:Nat) (N:List Bool) (NH:List NdH):Prop where
 len:N.length=n
 hlen:NH.length=n
 own:Lay.bool.Own 4 w nb (.slice (some ⟨nb,0,none⟩) n n) N
 nds:Lay.nd.Own 148 w g (.slice (some ⟨g,0,none⟩) n n) NH
 ne:g≠nb/\nb<=mx/\g<=mx
 top:N.getD t0 false=true
 only:∀j,N.getD j false=true->Occ L t0 j
 closed:∀j,t<=j->j<n->N.getD j false=true->∀a∈(L.getD j default).args,N.getD a false=true
 heads:∀j,t<=j->j<n->N.getD j false=true->HeadAt w mx (NH.getD j nd0) (L.getD j default)
theorem NeedS.below{w w':World}{L:List Nd}{t0:Nat}{nb g mx n t:Nat}{N:List Bool}{NH:List NdH}(h:NeedS w L t0 nb g mx n t N NH)(hb:Below w.heap.size w w'):NeedS w' L t0 nb g mx n t N NH:=
 ⟨h.len,h.hlen,h.own.grown hb,h.nds.grown hb,h.ne,h.top,h.only,h.closed,λ j h1 h2 h3=>(h.heads j h1 h2 h3).keep hb.size λ k _ hl=>hb.block k hl⟩
theorem NeedS.skip{w:World}{L:List Nd}{t0:Nat}{nb g mx n t:Nat}{N:List Bool}{NH:List NdH}(h:NeedS w L t0 nb g mx n (t+1) N NH)(hf:N.getD t false=false):NeedS w L t0 nb g mx n t N NH:=
 ⟨h.len,h.hlen,h.own,h.nds,h.ne,h.top,h.only,λ j h1 h2 h3=>by
   by_cases e:j=t
   ·subst e;rw[hf] at h3;cases h3
   ·exact h.closed j (by omega) h2 h3,λ j h1 h2 h3=>by
   by_cases e:j=t
   ·subst e;rw[hf] at h3;cases h3
   ·exact h.heads j (by omega) h2 h3⟩
structure MarkS (w:World) (L:List Nd) (t0:Nat) (nb g mx n t k:Nat) (N:List Bool) (NH:List NdH):Prop where
 len:N.length=n
 hlen:NH.length=n
 own:Lay.bool.Own 4 w nb (.slice (some ⟨nb,0,none⟩) n n) N
 nds:Lay.nd.Own 148 w g (.slice (some ⟨g,0,none⟩) n n) NH
 ne:g≠nb/\nb<=mx/\g<=mx
 top:N.getD t0 false=true
 only:∀j,N.getD j false=true->Occ L t0 j
 closed:∀j,t+1<=j->j<n->N.getD j false=true->∀a∈(L.getD j default).args,N.getD a false=true
 heads:∀j,t<=j->j<n->N.getD j false=true->HeadAt w mx (NH.getD j nd0) (L.getD j default)
 first:∀i,i<k->N.getD ((L.getD t default).args.getD i 0) false=true
 here:N.getD t false=true
theorem MarkS.done{w:World}{L:List Nd}{t0:Nat}{nb g mx n t:Nat}{N:List Bool}{NH:List NdH}(h:MarkS w L t0 nb g mx n t (L.getD t default).args.length N NH):NeedS w L t0 nb g mx n t N NH:=
 ⟨h.len,h.hlen,h.own,h.nds,h.ne,h.top,h.only,λ j h1 h2 h3=>by
   by_cases e:j=t
   ·subst e;intro a ha;obtain⟨i,hi,rfl⟩:=List.mem_iff_getElem.1 ha;have:=h.first i hi;rwa[List.getD_eq_getElem?_getD (l:=(L.getD j default).args),List.getElem?_eq_getElem hi] at this
   ·exact h.closed j (by omega) h2 h3,h.heads⟩
theorem MarkS.mark{w w':World}{L:List Nd}{t0:Nat}{nb g mx n t k:Nat}{N:List Bool}{NH:List NdH}(h:MarkS w L t0 nb g mx n t k N NH)(ht:t<n){x:Nat}(hx:(L.getD t default).args.getD k 0=x)(hxt:x<t)(hka:k<(L.getD t default).args.length)
  (ho:Lay.bool.Own 4 w' nb (.slice (some ⟨nb,0,none⟩) n n) (N.set x true))(hg:w.grownBy w' (some nb)):MarkS w' L t0 nb g mx n t (k+1) (N.set x true) NH:=by
 have hne:=h.ne;have hback:∀j,t<=j->(N.set x true).getD j false=N.getD j false:=λ j hj=>getD_set_ne _ _ _ _ _ (by omega)
 refine⟨by rw[List.length_set];exact h.len,h.hlen,ho,h.nds.keep hg (λ e=>by injection e with e;omega),h.ne,getD_set_true _ _ _ h.top,λ j hj=> ?_,λ j h1 h2 h3 a ha=>getD_set_true _ _ _ (h.closed j h1 h2 (by rwa[hback j (by omega)] at h3) a ha),λ j h1 h2 h3=>(h.heads j h1 h2 (by rwa[hback j h1] at h3)).keep hg.size λ k hk hl=>hg.block k hl (λ e=>by injection e with e;omega),λ i hi=> ?_,getD_set_true _ _ _ h.here⟩
 ·by_cases e:j=x
  ·subst e;subst hx;exact .arg (h.only t h.here) (by rw[List.getD_eq_getElem?_getD (l:=(L.getD t default).args),List.getElem?_eq_getElem hka];exact List.getElem_mem hka)
  ·exact h.only j (by rwa[getD_set_ne _ _ _ _ _ (λ h=>e h.symm)] at hj)
 ·by_cases e:i=k
  ·subst e;rw[hx];exact getD_set_same _ _ _ _ (by rw[h.len];omega)
  ·exact getD_set_true _ _ _ (h.first i (by omega))
theorem NeedS.copy{w w':World}{L:List Nd}{t0:Nat}{nb g mx n t:Nat}{N:List Bool}{NH:List NdH}(h:NeedS w L t0 nb g mx n (t+1) N NH)(ht:t<n)(hN:N.getD t false=true){x:NdH}(hx:HeadAt w mx x (L.getD t default))
  (ho:Lay.nd.Own 148 w' g (.slice (some ⟨g,0,none⟩) n n) (NH.set t x))(hg:w.grownBy w' (some g)):MarkS w' L t0 nb g mx n t 0 N (NH.set t x):=by
 have hne:=h.ne;refine⟨h.len,by rw[List.length_set];exact h.hlen,h.own.keep hg (λ e=>by injection e with e;omega),ho,h.ne,h.top,h.only,h.closed,λ j h1 h2 h3=> ?_,λ i hi=>absurd hi (by omega),hN⟩;by_cases e:t=j
 ·subst e;rw[getD_set_same _ _ _ _ (by rw[h.hlen];exact ht)];exact hx.keep hg.size λ k hk hl=>hg.block k hl (λ e=>by injection e with e;omega)
 ·rw[getD_set_ne _ _ _ _ _ e];exact(h.heads j (by omega) h2 h3).keep hg.size λ k hk hl=>hg.block k hl (λ e=>by injection e with e;omega)
theorem NeedS.start{w:World}{L:List Nd}{t0 nb g mx n:Nat}{N:List Bool}{NH:List NdH}(h1:N.length=n)(h2:NH.length=n)(h3:Lay.bool.Own 4 w nb (.slice (some ⟨nb,0,none⟩) n n) N)(h4:Lay.nd.Own 148 w g (.slice (some ⟨g,0,none⟩) n n) NH)(h5:g≠nb/\nb<=mx/\g<=mx)
  (h6:N.getD t0 false=true)(h7:∀j,N.getD j false=true->j=t0):NeedS w L t0 nb g mx n n N NH:=
 ⟨h1,h2,h3,h4,h5,h6,λ j hj=>by rw[h7 j hj];exact .top,λ j a b=>absurd b (by omega),λ j a b=>absurd b (by omega)⟩
theorem NeedS.occ{w:World}{L:List Nd}{t0 nb g mx n:Nat}{N:List Bool}{NH:List NdH}(h:NeedS w L t0 nb g mx n 0 N NH)(j:Nat):N.getD j false=true↔Occ L t0 j:=by
 refine⟨h.only j,λ o=> ?_⟩
 induction o with
 |top=>exact h.top
 | @arg i a _ ha ih=>
   have hi:i<n:=by
    rcases Nat.lt_or_ge i n with hi|hi
    ·exact hi
    ·rw[List.getD_eq_getElem?_getD,List.getElem?_eq_none (by rw[h.len];exact hi)] at ih;cases ih
   exact h.closed i (Nat.zero_le _) hi ih a ha
def seenE(l:List Nat):List (Int×Value):=l.map λ(v:Nat)=>((v:Int),.bool true)
theorem seenE_none:∀{l:List Nat} {x:Nat},x∉l->lkS (seenE l) (x:Int)=none
 |[],_,_=>rfl
 |v::l,x,h=>by
  show(if(v:Int)=(x:Int) then _ else lkS (seenE l) x)=none;rw[if_neg (λ e=>h (by rw[show v=x by omega];exact List.mem_cons_self ..))];exact seenE_none λ hm=>h (List.mem_cons_of_mem _ hm)
def varE(l r:List Nat):List (Int×Value):=(l.zip r).map λ p=>((p.1:Int),.int .i64 (p.2:Nat))
theorem varE_none:∀{l r:List Nat} {x:Nat},x∉l->lkS (varE l r) (x:Int)=none
 |[],_,_,_=>rfl
 |_::_,[],_,_=>rfl
 |v::l,s::r,x,h=>by
  show(if(v:Int)=(x:Int) then _ else lkS (varE l r) x)=none;rw[if_neg (λ e=>h (by rw[show v=x by omega];exact List.mem_cons_self ..))];exact varE_none λ hm=>h (List.mem_cons_of_mem _ hm)
theorem varE_snoc{l r:List Nat}(h:l.length=r.length)(v s:Nat):varE (l++[v]) (r++[s])=varE l r++[((v:Int),.int .i64 (s:Nat))]:=by
 unfold varE;rw[List.zip_append h,List.map_append];rfl
theorem seenE_snoc(l:List Nat)(v:Nat):seenE (l++[v])=seenE l++[((v:Int),.bool true)]:=by simp[seenE]
def becE(occ:Nat->Bool)(Bs:List Nat):Nat->List (Int×Value)
 |0=>[]
 |k+1=>if occ k then becE occ Bs k++[((k:Int),.int .i64 (Bs.getD k 0:Nat))] else becE occ Bs k
theorem becE_congr{occ:Nat->Bool}{Bs Cs:List Nat}:∀k,(∀i,i<k->Bs.getD i 0=Cs.getD i 0)->becE occ Bs k=becE occ Cs k
 |0,_=>rfl
 |k+1,h=>by
  unfold becE;rw[becE_congr k λ i hi=>h i (by omega),h k (by omega)]
theorem lk_becE{occ:Nat->Bool}{Bs:List Nat}(i:Nat):∀k,lkS (becE occ Bs k) (i:Int)=if i<k/\occ i=true then some (.int .i64 (Bs.getD i 0:Nat)) else none
 |0=>by rw[if_neg (by omega)];rfl
 |k+1=>by
  unfold becE;have ih:=lk_becE (occ:=occ) (Bs:=Bs) i k;by_cases ho:occ k=true
  ·rw[if_pos ho,lkS_snoc,ih];by_cases e:i<k/\occ i=true
   ·rw[if_pos e];exact(if_pos ⟨by omega,e.2⟩).symm
   ·rw[if_neg e];by_cases ek:k=i
    ·subst ek;exact(if_pos rfl).trans (if_pos ⟨by omega,ho⟩).symm
    ·exact(if_neg (by omega)).trans (if_neg (by rintro⟨a,b⟩;exact e ⟨by omega,b⟩)).symm
  ·rw[if_neg ho,ih];by_cases ek:k=i
   ·subst ek;rw[if_neg (by omega),if_neg (by rintro⟨_,b⟩;exact ho b)]
   ·by_cases e:i<k/\occ i=true
    ·rw[if_pos e,if_pos ⟨by omega,e.2⟩]
    ·rw[if_neg e,if_neg];rintro⟨a,b⟩;exact e ⟨by omega,b⟩
theorem subN_len(W:Nat)(σ:Nat->Option Nat)(N:List Nd)(occ:Nat->Bool)(L:List Nd):∀k,(subN W σ N occ L k).1.length=k
 |0=>rfl
 |k+1=>by
  show(subStep W σ N occ k (subN W σ N occ L k)).1.length=_;unfold subStep
  split<;>simp[subN_len W σ N occ L k]
theorem subN_prev{W:Nat}{σ:Nat->Option Nat}{N:List Nd}{occ:Nat->Bool}{L:List Nd}(k i:Nat)(hi:i<k):(subN W σ N occ L (k+1)).1.getD i 0=(subN W σ N occ L k).1.getD i 0:=by
 show(subStep W σ N occ k (subN W σ N occ L k)).1.getD i 0=_;have hl:=subN_len W σ N occ L k;unfold subStep
 split<;>exact getD_snoc_lt (by rw[hl];exact hi)
theorem subN_yes{W:Nat}{σ:Nat->Option Nat}{N:List Nd}{occ:Nat->Bool}{L:List Nd}{k:Nat}(ho:occ k=true):
  (subN W σ N occ L (k+1)).1.getD k 0=(becM W σ (subN W σ N occ L k).1 k (N.getD k default) (subN W σ N occ L k).2).1/\(subN W σ N occ L (k+1)).2=(becM W σ (subN W σ N occ L k).1 k (N.getD k default) (subN W σ N occ L k).2).2:=by
 show(subStep W σ N occ k (subN W σ N occ L k)).1.getD k 0=_/\(subStep W σ N occ k (subN W σ N occ L k)).2=_;unfold subStep;rw[if_pos ho];exact⟨getD_snoc_eq (subN_len W σ N occ L k),rfl⟩
theorem subN_no{W:Nat}{σ:Nat->Option Nat}{N:List Nd}{occ:Nat->Bool}{L:List Nd}{k:Nat}(ho:occ k=false):(subN W σ N occ L (k+1)).2=(subN W σ N occ L k).2:=by
 show(subStep W σ N occ k (subN W σ N occ L k)).2=_;unfold subStep;rw[if_neg (by rw[ho];decide)]
structure SubK (w w4 wi:World) (B:Nat) (A:Nat->Prop) (gb mb bm:Nat) (nv nvk:Value) (A':Nat->Prop) (W:Nat) (Lk:List Nd) (SB:List (Int×Value)):Prop where
 pg:PG wi B (λ k=>A k\/A' k) gb mb nvk W Lk
 map:MapAt .i64 wi bm SB
 mt:∀b,b<w4.heap.size->¬MutB gb (some mb) nv b->b≠bm->wi.heap[b]? =w4.heap[b]?
 fr:wi.os=w4.os/\wi.tape=w4.tape/\wi.output=w4.output/\w4.heap.size<=wi.heap.size
 new:nvk.ownBlock=nv.ownBlock\/∃k,nvk.ownBlock=some k/\w4.heap.size<=k
 lo:∀b,A' b->w4.heap.size<=b
structure SubC (w w4:World) (A:Nat->Prop) (gb mb bm:Nat) (nv:Value):Prop where
 m:∀b,MutB gb (some mb) nv b->b<w.heap.size
 a:∀b,A b->b<w.heap.size
 b1:w.heap.size<=bm
 b2:bm<w4.heap.size
section
variable {w w4 wi wj w' w'':World} {B:Nat} {A A':Nat->Prop} {gb mb bm:Nat} {nv nvk:Value} {W:Nat} {Lk:List Nd} {SB:List (Int×Value)}
theorem SubK.start(h:PG w4 B A gb mb nv W Lk)(hm:MapAt .i64 w4 bm []):SubK w w4 w4 B A gb mb bm nv nv noB W Lk []:=
 ⟨h.more λ _ h=>h.elim,hm,λ _ _ _ _=>rfl,⟨rfl,rfl,rfl,Nat.le_refl _⟩,.inl rfl,λ _ h=>h.elim⟩
theorem SubK.keep(h:SubK w w4 wi B A gb mb bm nv nvk A' W Lk SB)(hb:Below wi.heap.size wi wj):SubK w w4 wj B A gb mb bm nv nvk A' W Lk SB:=
 ⟨h.pg.below hb,h.map.frame (hb.block _ h.map.lt),λ b h1 h2 h3=>(hb.block b (Nat.lt_of_lt_of_le h1 h.fr.2.2.2)).trans (h.mt b h1 h2 h3),⟨hb.os.trans h.fr.1,hb.tape.trans h.fr.2.1,hb.output.trans h.fr.2.2.1,Nat.le_trans h.fr.2.2.2 hb.size⟩,h.new,h.lo⟩
theorem SubK.same(h:SubK w w4 wi B A gb mb bm nv nvk A' W Lk SB)(c:SubC w w4 A gb mb bm nv){b:Nat}(h1:w.heap.size<=b)(h2:b<w4.heap.size)(h3:b≠bm):wi.heap[b]? =w4.heap[b]? :=
 h.mt b h2 (λ m=>by have:=c.m b m;omega) h3
theorem SubK.not(h:SubK w w4 wi B A gb mb bm nv nvk A' W Lk SB)(c:SubC w w4 A gb mb bm nv){b:Nat}(h1:w.heap.size<=b)(h2:b<w4.heap.size):¬MutB gb (some mb) nvk b:=by
 have hg:=c.m gb (.inl rfl);have hmb:=c.m mb (.inr (.inl rfl));rintro(e|e|e)
 ·omega
 ·injection e with e;omega
 ·rcases h.new with hn|⟨k,hn,hk⟩
  ·rw[hn] at e;have:=c.m b (.inr (.inr e));omega
  ·rw[hn] at e;injection e with e;omega
theorem SubK.step(h:SubK w w4 wj B A gb mb bm nv nvk A' W Lk SB)(c:SubC w w4 A gb mb bm nv){nv':Value}{A'':Nat->Prop}{L':List Nd}(hp:PG w' B (λ k=>(A k\/A' k)\/A'' k) gb mb nv' W L')(ha:∀k,A'' k->wj.heap.size<=k)(hm:Mut (MutB gb (some mb) nvk) wj w')(hn:NewB wj nvk nv')
  {S:List (Int×Value)}(hS:MapAt .i64 w'' bm S)(hs:w''.heap.size=w'.heap.size)(hk:∀k,k≠bm->w''.heap[k]? =w'.heap[k]?)(e1:w''.os=w'.os)(e2:w''.tape=w'.tape)(e3:w''.output=w'.output):
  SubK w w4 w'' B A gb mb bm nv nv' (λ k=>A' k\/A'' k) W L' S:=by
 have hnew:nv'.ownBlock=nv.ownBlock\/∃k,nv'.ownBlock=some k/\w4.heap.size<=k:=by
  rcases hn with e|⟨k,e,hk⟩
  ·rw[e];exact h.new
  ·exact .inr ⟨k,e,Nat.le_trans h.fr.2.2.2 hk⟩
 have hlo:∀b,A' b\/A'' b->w4.heap.size<=b:=λ b hb=>hb.elim (h.lo b) λ hb=>Nat.le_trans h.fr.2.2.2 (ha b hb)
 have hg:=c.m gb (.inl rfl);have hmb:=c.m mb (.inr (.inl rfl));have c1:=c.b1;have c2:=c.b2;have eA:(λ k=>(A k\/A' k)\/A'' k)=λ k=>A k\/(A' k\/A'' k):=funext λ k=>propext or_assoc
 rw[eA] at hp;refine⟨hp.frame (by omega) λ k hk'=>hk k λ e=> ?_,hS,λ b h1 h2 h3=> ?_,⟨e1.trans (hm.os.trans h.fr.1),e2.trans (hm.tape.trans h.fr.2.1),e3.trans (hm.output.trans h.fr.2.2.1),by have:=hm.size;have:=h.fr.2.2.2;omega⟩,hnew,hlo⟩
 ·subst e;rcases hk' with(e|e|e)|e|e
  ·omega
  ·injection e with e;omega
  ·rcases hnew with hn|⟨k',hn,hk''⟩
   ·rw[hn] at e;have:=c.m _ (.inr (.inr e));omega
   ·rw[hn] at e;injection e with e;omega
  ·have:=c.a _ e;omega
  ·have:=hlo _ e;omega
 ·rw[hk b h3,hm.block b (Nat.lt_of_lt_of_le h1 h.fr.2.2.2) ?_]
  ·exact h.mt b h1 h2 h3
  ·rintro(e|e|e)
   ·exact h2 (.inl e)
   ·exact h2 (.inr (.inl e))
   ·rcases h.new with hn|⟨k',hn,hk''⟩
    ·rw[hn] at e;exact h2 (.inr (.inr e))
    ·rw[hn] at e;injection e with e;omega
theorem SubK.post2(h:SubK w w4 wi B A gb mb bm nv nvk A' W Lk SB)(c:SubC w w4 A gb mb bm nv)(hw:Below w.heap.size w w4)(t:Nat){p8 p9:Nat}(h8:w.heap.size<=p8/\p8<w4.heap.size)(h9:w.heap.size<=p9/\p9<w4.heap.size)(u v:Value):
  SimpPost w B A gb mb nv W (t,Lk) (.returned (.tuple #[.int .i64 (t:Nat),.int .i64 0])) ((wi.setCell ⟨p8,0,none⟩ u).setCell ⟨p9,0,none⟩ v):=by
 have c1:=c.b1;have hk:∀k,k≠p8->k≠p9->((wi.setCell ⟨p8,0,none⟩ u).setCell ⟨p9,0,none⟩ v).heap[k]? =wi.heap[k]? :=λ k h1 h2=>(Below.heap_setCell _ _ _ k h2).trans (Below.heap_setCell _ _ _ k h1)
 have n8:=h.not c h8.1 h8.2;have n9:=h.not c h9.1 h9.2;refine⟨nvk,A',rfl,h.pg.frame (by simp) λ k hm=>hk k (λ e=> ?_) (λ e=> ?_),λ b hb=>by have:=h.lo b hb;have:=hw.size;omega,⟨h.fr.1.trans hw.os,h.fr.2.1.trans hw.tape,h.fr.2.2.1.trans hw.output,by have:=h.fr.2.2.2;have:=hw.size;simp;omega,λ b h1 h2=> ?_⟩,?_⟩
 ·subst e;rcases hm with hm|hm|hm
  ·exact n8 hm
  ·have:=c.a _ hm;omega
  ·have:=h.lo _ hm;omega
 ·subst e;rcases hm with hm|hm|hm
  ·exact n9 hm
  ·have:=c.a _ hm;omega
  ·have:=h.lo _ hm;omega
 ·rw[hk b (by omega) (by omega)];exact(h.mt b (by have:=hw.size;omega) h2 (by omega)).trans (hw.block b h1)
 ·exact h.new.elim .inl λ⟨k,e1,e2⟩=>.inr ⟨k,e1,by have:=hw.size;omega⟩
end
end Go.Proofs.YtgdpkkjfcdhmdaaGreatDoor
