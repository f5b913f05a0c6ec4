/- Walk: occur (the nodes that occur in a term). -/
import Derived.Test.YtgdpkkjfcdhmdaaGreatDoorS0
import Derived.Test.YtgdpkkjfcdhmdaaGreatDoorS17
import Derived.Test.YtgdpkkjfcdhmdaaGreatDoorS22
namespace Go.Proofs.YtgdpkkjfcdhmdaaGreatDoor
open Go Go.RowKit
open Go.Proofs.YtgdpkkjfcdhmdaaGreatDoor.Cr
def OccS(L:List Nd)(ts:List Nat)(j:Nat):Prop:=∃t∈ts,Occ L t j
def VarInS(L:List Nd)(ts:List Nat)(n:Int):Prop:=∃j,OccS L ts j/\(L.getD j default).op=1/\(((L.getD j default).num:Nat):Int)=n
theorem OccS.lt{W:Nat}{L:List Nd}{ts:List Nat}(h:GOk W L)(ht:∀t∈ts,t<L.length){j:Nat}:OccS L ts j->j<L.length:=λ⟨t,a,o⟩=>o.lt h (ht t a)
theorem OccS.arg{L:List Nd}{ts:List Nat}{i a:Nat}:OccS L ts i->a∈(L.getD i default).args->OccS L ts a:=λ⟨t,h,o⟩ ha=>⟨t,h,.arg o ha⟩
theorem occS_one{L:List Nd}{t j:Nat}:OccS L [t] j↔Occ L t j:=⟨λ⟨u,h,o⟩=>by rw[List.mem_singleton.1 h] at o;exact o,λ o=>⟨t,List.mem_singleton.2 rfl,o⟩⟩
theorem varInS_one{L:List Nd}{t:Nat}{n:Int}:VarInS L [t] n↔VarIn L t n:=⟨λ⟨j,h,q⟩=>⟨j,occS_one.1 h,q⟩,λ⟨j,h,q⟩=>⟨j,occS_one.2 h,q⟩⟩
structure SeenS (L:List Nd) (ts:List Nat) (S K:List Nat):Prop where
 nd:S.Nodup
 occS:∀x∈S,OccS L ts x
 occK:∀x∈K,OccS L ts x
 top:∀t∈ts,t∈S\/t∈K
 closed:∀x∈S,∀a∈(L.getD x default).args,a∈S\/a∈K
 kl:K.length<=3*S.length+ts.length
section
variable {W:Nat} {L:List Nd} {x:Nat} {ts S K:List Nat}
theorem SeenS.start(L:List Nd)(ts:List Nat):SeenS L ts [] ts:=
 ⟨.nil,λ x hx=>(by cases hx),λ x hx=>⟨x,hx,.top⟩,λ t ht=>.inr ht,λ x hx=>(by cases hx),by simp⟩
theorem SeenS.skip(h:SeenS L ts S (K++[x]))(hx:x∈S):SeenS L ts S K:=by
 have key:∀a,a∈S\/a∈K++[x]->a∈S\/a∈K:=λ a e=>by
  rcases e with e|e
  ·exact .inl e
  ·rcases List.mem_append.1 e with e|e
   ·exact .inr e
   ·rw[List.mem_singleton.1 e];exact .inl hx
 exact⟨h.nd,h.occS,λ y hy=>h.occK y (List.mem_append.2 (.inl hy)),λ t ht=>key _ (h.top t ht),λ y hy a ha=>key _ (h.closed y hy a ha),by have:=h.kl;simp at this;omega⟩
theorem SeenS.push(hg:GOk W L)(h:SeenS L ts S (K++[x]))(hx:x∉S):SeenS L ts (S++[x]) (K++(L.getD x default).args):=by
 have ox:OccS L ts x:=h.occK x (by simp);have key:∀a,a∈S\/a∈K++[x]->a∈S++[x]\/a∈K++(L.getD x default).args:=λ a e=>by
  rcases e with e|e
  ·exact .inl (List.mem_append.2 (.inl e))
  ·rcases List.mem_append.1 e with e|e
   ·exact .inr (List.mem_append.2 (.inl e))
   ·exact .inl (List.mem_append.2 (.inr e))
 refine⟨List.nodup_append.2 ⟨h.nd,by simp,λ a ha b hb=>by rw[List.mem_singleton.1 hb];rintro rfl;exact hx ha⟩,λ y hy=> ?_,λ y hy=> ?_,λ t ht=>key _ (h.top t ht),λ y hy a ha=> ?_,?_⟩
 ·rcases List.mem_append.1 hy with hy|hy
  ·exact h.occS y hy
  ·rw[List.mem_singleton.1 hy];exact ox
 ·rcases List.mem_append.1 hy with hy|hy
  ·exact h.occK y (List.mem_append.2 (.inl hy))
  ·exact ox.arg hy
 ·rcases List.mem_append.1 hy with hy|hy
  ·exact key _ (h.closed y hy a ha)
  ·rw[List.mem_singleton.1 hy] at ha;exact .inr (List.mem_append.2 (.inr ha))
 ·have h1:=h.kl;have h2:=hg.argl x;rw[List.length_append] at h1⊢;rw[List.length_append,List.length_singleton] at*;omega
theorem SeenS.len(hg:GOk W L)(ht:∀t∈ts,t<L.length)(h:SeenS L ts S K):S.length<=L.length:=
 nodup_len h.nd λ x hx=>(h.occS x hx).lt hg ht
theorem SeenS.less(hg:GOk W L)(ht:∀t∈ts,t<L.length)(h:SeenS L ts S (K++[x]))(hx:x∉S):S.length<L.length:=by
 have:=(h.push hg hx).len hg ht;simp at this;omega
theorem SeenS.done(h:SeenS L ts S [])(j:Nat):j∈S↔OccS L ts j:=by
 refine⟨h.occS j,λ⟨t,ht,o⟩=> ?_⟩
 induction o with
 |top=>rcases h.top t ht with e|e;exact e;cases e
 | @arg i a hi ha ih=>rcases h.closed _ (ih ⟨t,ht,hi⟩) _ ha with e|e;exact e;cases e
end
section
variable {w:World} {ops:Array Oper} {rest:List Oper} {o:Oper} {a:Act} {Q:Exit->Act->World->Prop} {mb:Nat} {L:List Nd} {S:List Nat}
theorem seen_look(hg:o.guard=none)(m x:Operand)(hop:o.op=Op.lookup 144 m x true)(hm:a.eval m= .map (some mb))(h:SeenAt w mb L S){k:Nat}(hx:a.eval x= .int .i64 (k:Int))
  (hK:∀(p u:Nat) (aa:Option Addr) (n c:Nat),wpList Tryz.prog ops Q rest (a.put o.dst (.tuple #[.agg #[.int .u8 (p:Int),.int .u64 (u:Int),.slice aa n c],.bool (decide (k∈S))])) w):wpList Tryz.prog ops Q (o::rest) a w:=by
 refine wpList_plain hg λ K' hK'=> ?_
 obtain⟨p,u,aa,n,c,hrun⟩:=h.lookup k;unfold Oper.wp;simp[execOp,hop,hm,hx,hrun,Result.andThen];exact hK' _ _ (hK p u aa n c)
theorem seen_put(hg:o.guard=none)(m x v:Operand)(hop:o.op=Op.mapUpdate 144 m x v)(hm:a.eval m= .map (some mb))(h:SeenAt w mb L S){k:Nat}(hx:a.eval x= .int .i64 (k:Int))(hno:k∉S)
  {aa:Option Addr}{n c:Nat}{p u:Int}(hp:((L.getD k default).op:Int)=p)(hu:((L.getD k default).num:Int)=u)(hv:a.eval v= .agg #[.int .u8 p,.int .u64 u,.slice aa n c])
  (hK:∀w',SeenAt w' mb L (S++[k])->w'.heap.size=w.heap.size->(∀b,b≠mb->w'.heap[b]? =w.heap[b]?)->Below mb w w'->wpList Tryz.prog ops Q rest (a.put o.dst undef) w'):wpList Tryz.prog ops Q (o::rest) a w:=by
 refine wpList_plain hg λ K' hK'=> ?_
 obtain⟨ob,hrun,hS⟩:=h.update hno aa n c;rw[hp,hu] at hrun;have hb:∀b,b≠mb->(w.heap.setIfInBounds mb ob)[b]? =w.heap[b]? :=λ b hb=>Array.getElem?_setIfInBounds_ne (Ne.symm hb)
 unfold Oper.wp;simp[execOp,hop,hm,hx,hv,hrun,Result.andThen];exact hK' _ _ (hK _ (hS _ rfl) (by simp) hb ⟨rfl,rfl,rfl,by simp,λ k hk=>hb k (by omega)⟩)
end
theorem Own.off{α:Type}{Ly:Lay α}{e:TypeId}{w w':World}{mb base:Nat}{v:Value}{xs:List α}(h:Ly.Own e w base v xs)(hb:mb<base)(hk:∀b,b≠mb->w'.heap[b]? =w.heap[b]?):Ly.Own e w' base v xs:=by
 obtain⟨hl,h|⟨g,cap,cur,rfl,hg,hh,hn,hm,hs,ht⟩⟩:=h
 ·exact⟨hl,.inl h⟩
 ·exact⟨hl,.inr ⟨g,cap,cur,rfl,hg,(hk g (by omega)).trans hh,hn,hm,hs,ht⟩⟩
theorem Own.pop{w:World}{base b m cap:Nat}{x:Int}{xs:List Int}(h:(Lay.int .i64).Own 3 w base (.slice (some ⟨b,0,none⟩) (m+1) cap) (xs++[x]))(hm:xs.length=m):(Lay.int .i64).Own 3 w base (.slice (some ⟨b,0,none⟩) m cap) xs:=by
 obtain⟨hl,h|⟨g,cap',cur,e,hg,hh,hn,hmx,hs,ht⟩⟩:=h
 ·cases h.1
 ·injection e with e1 e2 e3;injection e1 with e1;injection e1 with e1 _;subst e1 e3 hm;refine⟨(Lay.int .i64).flat_length xs,.inr ⟨_,_,cur,rfl,hg,hh,by simp at hn;omega,hmx,hs,?_⟩⟩;have h1:=congrArg (List.take (xs.length*(Lay.int .i64).sz)) ht;rw[List.take_take,Lay.flat_append,Nat.min_eq_left (by simp[Lay.int])] at h1;rw[h1,List.take_append_of_le_length (by rw[Lay.flat_length];exact Nat.le_refl _),<-Lay.flat_length,List.take_length]
def mapSz(w:World)(mb:Nat):Nat:=match w.heap[mb]? with|some (.map es _)=>es.size|_=>0
def lenOf:Value->Nat| .slice _ n _=>n|_=>0
theorem SeenAt.sz{w:World}{mb:Nat}{L:List Nd}{S:List Nat}(h:SeenAt w mb L S):mapSz w mb=S.length:=by
 obtain⟨es,c,h1,h2,h3⟩:=h.ents;unfold mapSz;rw[h1];have:=h3.len;simpa using this
theorem intsN_append(l r:List Nat):intsN (l++r)=intsN l++intsN r:=by simp[intsN]
structure SrchP (w0 w:World) (L:List Nd) (ts:List Nat) (mb:Nat) (v:Value) (S K:List Nat):Prop where
 inv:SeenS L ts S K
 map:SeenAt w mb L S
 own:(Lay.int .i64).Own 3 w (mb+1) v (intsN K)
 bel:Below w0.heap.size w0 w
 lt:mb<w.heap.size
theorem world_lt{w w':World}{B b:Nat}(h:Below B w w')(hb:b<w.heap.size):b<w'.heap.size:=Nat.lt_of_lt_of_le hb h.size
def OccP(w:World)(L:List Nd)(ts:List Nat)(e:Ending)(w':World):Prop:=∃mb S,e= .returned (.tuple #[.map (some mb),.int .i64 0])/\SeenAt w' mb L S/\(∀j,j∈S↔OccS L ts j)/\S.Nodup/\w.heap.size<=mb/\mb<w'.heap.size/\Below w.heap.size w w'
set_option maxRecDepth 100000 in
set_option maxHeartbeats 8000000 in
theorem occur60{w:World}{r W:Nat}{L:List Nd}(h:RV w r W L)(ts:List Nat)(ht:∀t∈ts,t<L.length)(hL:L.length<=1000)(htl:ts.length<=1000)(ta:Option Addr)(c:Nat)(hnc:ta=none->c=0)(hc:(Lay.int .i64).At 0 w ta (intsN ts)):
  Calls Tryz.prog 60 #[.pointer (some ⟨r,0,none⟩),.slice ta ts.length c] w (OccP w L ts):=by
 have HV:=Z h;have HT:Hid (∀t∈ts,t<L.length):=Z ht;have HLL:Hid (L.length<=1000):=Z hL;have HTL:Hid (ts.length<=1000):=Z htl;obtain⟨na,nc,hn2,_⟩:=h.nodes;have HLN:=Z (len58 r L.length w hn2);have HAT:=Z hc;have HNC:=Z hnc;clear h hn2 hc hnc ht hL;obtain⟨nl,hl⟩:∃nl,L.length=nl:=⟨_,rfl⟩
 rw[hl] at HLN HT;have HNL:=Z hl;clear hl;obtain⟨tn,htn⟩:∃tn,ts.length=tn:=⟨_,rfl⟩
 rw[htn] at htl⊢;have HTN:=Z htn;clear htn;have hmm:=@run_makeMap Tryz.prog;go_enter Tryz.func60,Tryz.ntmps60
 go_wp2_with fail
 go_step3
 go_wp2_with fail
 go_loop [19] (λ i=>∃k:Nat,k<=tn/\i= .int .i64 k) (λ i=>tn-(intOf i).toNat)
 case atStart=>exact⟨0,by omega,rfl⟩
 case round=>
  obtain⟨k,hk,rfl⟩:=hrel;by_cases hk0:k<tn
  ·have hki:(k:Int)<tn:=by omega
   obtain⟨tb,to_,rfl,htb,c0⟩:=HAT.o.int (i:=k) (by rw[intsN_len,HTN.o];exact hk0);rw[intsN_getD] at c0;have hx:=HT.o _ (getD_mem 0 ts k (by rw[HTN.o];exact hk0));generalize ts.getD k 0=t at*;have d0:decide ((t:Int)<0)=false:=by simp
   have d1:decide ((nl:Int)<=(t:Int))=false:=by simp;omega
   go_wp2_with fail
   refine HLN.o.mono ?_;rintro e w' ⟨rfl,rfl⟩
   go_wp2_with fail
   go_round
   case rel=>exact⟨k+1,by omega,by go_num⟩
   case measure=>simp[intOf]<;>omega
  ·obtain rfl:k=tn:=by omega
   have BM:Below w.heap.size w (w.alloc (.map #[] 0)):=(Below.refl _ _).alloc (Nat.le_refl _) _;have HS0:Hid (SeenAt (w.alloc (.map #[] 0)) w.heap.size L []):=Z ⟨#[],0,heap_alloc_new w _,rfl,trivial⟩;have hms:w.heap.size<(w.alloc (.map #[] 0)).heap.size:=by simp
   have HBM:=Z BM;have HMS:=Z hms;clear BM hms hk0
   go_wp2_with(first
    |(at_builtin
      refine app_lay_at Tryz.elemI (d:=0) (qs:=intsN ts) (base:=w.heap.size+1) rfl _ _ rfl rfl (Lay.Own.nil _ _) rfl HNC.o (by rw[intsN_len];exact HTN.o) (HAT.o.below HBM.o) (by have h1:=HTL.o;have h2:=HTN.o;show 0+_<=1000000;omega) (by first|exact HMS.o|(simp;done)) ?_;intro v1 w1 r1 r2;rw[List.nil_append] at r1;have HP:Hid (SrchP w w1 L ts w.heap.size v1 [] ts):=Z ⟨SeenS.start L ts,HS0.o.frame (r2.block _ (Nat.lt_succ_self _)),r1,HBM.o.trans (r2.mono (Nat.le_succ _)),world_lt r2 HMS.o⟩;clear r1 r2))
   clear HS0 HBM HMS;generalize hmb:w.heap.size=mb at*;have HMB:=Z hmb;clear hmb
   go_step3
   go_wp2_with fail
   go_loopw [9] (λ v wr=>∃S K,Hid (SrchP w wr L ts mb v S K)) (λ v wr=>(nl-mapSz wr mb)*4+lenOf v)
   case atStart=>exact⟨_,_,HP⟩
   case round=>
    clear HP;obtain⟨S,K,HP⟩:=hrel;have hown:=HP.o.own;obtain⟨ka,kc,e1,kat,_,kcm⟩:=hown.at_ (d:=0);rw[intsN_len] at e1;subst e1;have HKA:=Z kat;clear hown kat;by_cases hz:K.length=0
    ·have hK:K=[]:=List.eq_nil_of_length_eq_zero hz;have HR:Hid (OccP w L ts (.returned (.tuple #[.map (some mb),.int .i64 0])) wr):=Z (by
      subst hK;exact⟨mb,S,rfl,HP.o.map,λ j=>HP.o.inv.done j,HP.o.inv.nd,Nat.le_of_eq HMB.o,HP.o.lt,HP.o.bel⟩)
     clear hK HKA;rw[hz]
     go_wp2_with fail
     go_ret2
     exact HR.o
    ·obtain⟨m,hm⟩:∃m,K.length=m+1:=⟨K.length-1,by omega⟩
     have hst:=stack_top K (by omega);rw[hm,Nat.add_sub_cancel] at hst;obtain⟨kb,ko,rfl,hkb,k0⟩:=HKA.o.int (i:=m) (by rw[intsN_len];omega);rw[intsN_getD] at k0;obtain⟨x,hx⟩:∃x,K.getD m 0=x:=⟨_,rfl⟩
     obtain⟨K',hK'⟩:∃K',K.take m=K':=⟨_,rfl⟩
     rw[hx] at k0 hst;rw[hK'] at hst;have hl':K'.length=m:=by rw[<-hK',List.length_take];omega
     subst hst;have hko:ko=0:=by
      rcases HP.o.own.2 with⟨h,_⟩|⟨g,c',cur,h,_⟩
      ·cases h
      ·injection h with h _ _;injection h with h;injection h
     subst hko;rw[Nat.zero_add] at k0;rw[hm] at HP⊢;have HPO:Hid ((Lay.int .i64).Own 3 wr (mb+1) (.slice (some ⟨kb,0,none⟩) m kc) (intsN K')):=Z (by
      have:=HP.o.own;rw[intsN_append] at this;exact Own.pop this (by rw[intsN_len];exact hl'))
     have hcap:m+1<=kc:=by
      rcases HP.o.own.2 with⟨h,_⟩|⟨g,c',cur,h,_,_,h',_⟩
      ·cases h
      ·injection h with h1 h2 h3;rw[h3,intsN_len,hm] at*;exact h'
     have HL':=Z hl';have HKC:Hid (m+1<=kc/\kc<=maxLen):=Z ⟨hcap,kcm⟩;have hm1:(m:Int)<kc:=by omega
     have hm4:m<=10000:=by
      have h1:=HP.o.inv.kl;have h2:=HP.o.inv.len HV.o.ok (by rw[HNL.o];exact HT.o);have h3:=HLL.o;have h4:=HNL.o;have h5:=HTL.o;simp only[List.length_append,List.length_singleton] at h1;omega
     have hm2:(m:Int)<=kc:=by omega
     clear hx hK' hl' hm hz HKA hcap kcm;have HXL:Hid (x<L.length):=Z (OccS.lt HV.o.ok (by rw[HNL.o];exact HT.o) (HP.o.inv.occK x (by simp)));by_cases hxs:x∈S
     ·have HP2:Hid (SrchP w (wr) L ts mb (.slice (some ⟨kb,0,none⟩) m kc) S K'):=Z ⟨HP.o.inv.skip hxs,HP.o.map,HPO.o,HP.o.bel,HP.o.lt⟩;have hdec:decide (x∈S)=true:=decide_eq_true hxs;have HM:=Z HP.o.map;have HMZ:=Z HP.o.map.sz;clear hxs HPO
      go_wp2_with(at_lookup;refine seen_look rfl _ _ rfl rfl HM.o rfl ?_;intro qo qu qa qn qc;rw[hdec])
      go_roundw
      case rel=>exact⟨S,K',Z ⟨HP2.o.inv,HP2.o.map.frame (Below.heap_alloc _ _ _ HP2.o.lt),HP2.o.own.alloc _,HP2.o.bel.alloc HP2.o.bel.size _,by simp;have:=HP2.o.lt;omega⟩⟩
      case measure=>
       have e1:mapSz (wr.alloc (.cells #[.int .u8 qo,.int .u64 qu,.slice qa qn qc] 148)) mb=mapSz wr mb:=by unfold mapSz;rw[Below.heap_alloc _ _ _ HP2.o.lt]
       rw[e1];simp only[lenOf];omega
     ·have hdec:decide (x∈S)=false:=decide_eq_false hxs;have HXS:=Z hxs;have HM:=Z HP.o.map;have HMZ:=Z HP.o.map.sz;have HLT:=Z HP.o.lt;have HBL:=Z HP.o.bel;have HIV:=Z HP.o.inv;have HND:=Z (λ(w':World) (hb:Below wr.heap.size wr w')=>node70 (HV.o.below (HBL.o.trans (hb.mono HBL.o.size))) x HXL.o);obtain⟨nd,hnd⟩:∃nd,L.getD x default=nd:=⟨_,rfl⟩
      rw[hnd] at HND;have HOP:Hid ((((L.getD x default).op:Nat):Int)=nd.op):=Z (by rw[hnd]);have HNU:Hid ((((L.getD x default).num:Nat):Int)=nd.num):=Z (by rw[hnd]);have HAR:Hid ((L.getD x default).args=nd.args):=Z (by rw[hnd]);clear hnd;generalize nd.op=op at*;generalize nd.num=num at*;generalize nd.args=args at*;clear hxs HP
      go_wp2_with(first
       |(at_lookup;refine seen_look rfl _ _ rfl rfl HM.o rfl ?_;intro qo qu qa qn qc;rw[hdec]
         have HBA:Hid (Below wr.heap.size wr (wr.alloc (.cells #[.int .u8 qo,.int .u64 qu,.slice qa qn qc] 148))):=Z ((Below.refl _ _).alloc (Nat.le_refl _) _))
       |(go_at_call 71
         refine(HND.o _ HBA.o).mono ?_;rintro e w5 ⟨ha,hc5,rfl,hat5,hbk5,hno5,hb5⟩;have HN5:=Z hno5;clear hno5;have HB5:Hid (Below wr.heap.size wr w5):=Z (HBA.o.trans (hb5.mono HBA.o.size));have HA5:=Z hat5;have HK5:=Z hbk5;have HBB:Hid (Below w5.heap.size w5 (w5.alloc (.cells #[.int .u8 (op:Int),.int .u64 (num:Int),.slice ha args.length hc5] 148))):=Z ((Below.refl _ _).alloc (Nat.le_refl _) _);have c50:(w5.alloc (.cells #[.int .u8 (op:Int),.int .u64 (num:Int),.slice ha args.length hc5] 148)).cell? ⟨w5.heap.size,2,none⟩=some (.slice ha args.length hc5):=by rw[World.cell?_alloc_new];rfl
         have HC5:=Z c50;have HBX:Hid (Below wr.heap.size wr (w5.alloc (.cells #[.int .u8 (op:Int),.int .u64 (num:Int),.slice ha args.length hc5] 148))):=Z (HB5.o.trans (HBB.o.mono HB5.o.size));have HMX:=Z (HM.o.frame (HBX.o.block _ HLT.o));have HAX:=Z (HA5.o.below HBB.o);have HOX:=Z (HPO.o.grown HBX.o);have HZX:Hid (w5.heap.size<(w5.alloc (.cells #[.int .u8 (op:Int),.int .u64 (num:Int),.slice ha args.length hc5] 148)).heap.size):=Z (by simp);clear hat5 hbk5 hb5 c50)
       |(at_mapUpdate
         refine seen_put rfl _ _ _ rfl rfl HMX.o rfl HXS.o HOP.o HNU.o rfl ?_;intro wC hSC hzC hkC hbC;have HSC:=Z hSC;have HKC2:=Z hkC;have HBC:=Z hbC;have HZC:=Z hzC;have c51:wC.cell? ⟨w5.heap.size,2,none⟩=some (.slice ha args.length hc5):=(World.cell?_of_block (a:=⟨w5.heap.size,2,none⟩) (hkC w5.heap.size (by have:=HB5.o.size;have:=HLT.o;omega))).trans HC5.o;clear hSC hzC hkC hbC)
       |(at_builtin
         refine app_lay_at Tryz.elemI (d:=0) (qs:=intsN args) rfl _ _ rfl rfl (Own.off HOX.o (Nat.lt_succ_self _) HKC2.o) rfl HN5.o (intsN_len _) (At.frame HAX.o (Nat.le_of_eq HZC.o.symm) (λ ad e=>HKC2.o _ (by have:=HK5.o ad e;simp at this;have:=HLT.o;omega))) (by have h1:=HL'.o;have h2:=HIV.o.kl;have h3:=HIV.o.len HV.o.ok (by rw[HNL.o];exact HT.o);have h4:=HV.o.ok.argl x;rw[HAR.o] at h4;have h5:=HLL.o;have h6:=HNL.o;have h7:=HTL.o;simp only[List.length_append,List.length_singleton,intsN_len] at*;omega) (by rw[HZC.o];have:=HBX.o.size;have:=HLT.o;omega) ?_;intro v9 w9 r1 r2;rw[<-intsN_append] at r1;have HR1:=Z r1;have HR2:=Z r2;clear r1 r2))
      have HB9:Hid (Below w.heap.size w w9):=Z ((HBL.o.trans (HBX.o.mono HBL.o.size)).trans ((by have:=HBC.o;rwa[<-HMB.o] at this:Below w.heap.size _ wC).trans (HR2.o.mono (by have:=HMB.o;omega))));have HM9:Hid (SeenAt w9 mb L (S++[x])):=Z (HSC.o.frame (HR2.o.block _ (Nat.lt_succ_self _)));go_roundw
      case rel=>exact⟨S++[x],K'++args,Z ⟨by rw[<-HAR.o];exact HIV.o.push HV.o.ok HXS.o,HM9.o,HR1.o,HB9.o,by have:=HR2.o.size;have:=HZC.o;have:=HBX.o.size;have:=HLT.o;omega⟩⟩
      case measure=>
       rw[HM9.o.sz,HMZ.o];obtain⟨_,_,e9,_⟩:=HR1.o.at_ (d:=0);rw[e9];have h1:=HIV.o.less HV.o.ok (by rw[HNL.o];exact HT.o) HXS.o;have h2:=HNL.o;have h3:=HV.o.ok.argl x;rw[HAR.o] at h3;have h4:=HL'.o;simp only[lenOf,List.length_append,List.length_singleton,intsN_len];omega
end Go.Proofs.YtgdpkkjfcdhmdaaGreatDoor
