/- Plain laws of graphs of terms: nodes, asking for a node, the values of all terms. -/
import Derived.Test.YtgdpkkjfcdhmdaaGreatDoorS0
import Derived.WalkKit
import Derived.Laws.Entries
namespace Go.Proofs.YtgdpkkjfcdhmdaaGreatDoor
open Go
theorem wrap_u(n:Nat)(h:n<18446744073709551616):IntKind.u64.wrap (n:Int)=n:=by
 rw[IntKind.wrap_u64];omega
theorem ofInt_nat(n:Nat)(h:n<18446744073709551616):(BitVec.ofInt 64 (n:Int)).toNat=n:=by
 rw[BitVec.toNat_ofInt];omega
theorem bits_and(a b:Nat)(ha:a<18446744073709551616)(hb:b<18446744073709551616):bits .and .u64 (a:Int) (b:Int)=((a&&&b:Nat):Int):=by
 have e:(BitVec.ofInt 64 (a:Int)&&&BitVec.ofInt 64 (b:Int)).toNat=a&&&b:=by rw[BitVec.toNat_and,ofInt_nat a ha,ofInt_nat b hb]
 show IntKind.u64.wrap ((BitVec.ofInt 64 (a:Int)&&&BitVec.ofInt 64 (b:Int)).toNat:Int)=_;rw[e];exact wrap_u _ (Nat.lt_of_le_of_lt Nat.and_le_left ha)
theorem bits_or(a b:Nat)(ha:a<18446744073709551616)(hb:b<18446744073709551616):bits .or .u64 (a:Int) (b:Int)=((a|||b:Nat):Int):=by
 have e:(BitVec.ofInt 64 (a:Int)|||BitVec.ofInt 64 (b:Int)).toNat=a|||b:=by rw[BitVec.toNat_or,ofInt_nat a ha,ofInt_nat b hb]
 show IntKind.u64.wrap ((BitVec.ofInt 64 (a:Int)|||BitVec.ofInt 64 (b:Int)).toNat:Int)=_;rw[e];exact wrap_u _ (Nat.or_lt_two_pow (n:=64) ha hb)
theorem bits_xor(a b:Nat)(ha:a<18446744073709551616)(hb:b<18446744073709551616):bits .xor .u64 (a:Int) (b:Int)=((a^^^b:Nat):Int):=by
 have e:(BitVec.ofInt 64 (a:Int)^^^BitVec.ofInt 64 (b:Int)).toNat=a^^^b:=by rw[BitVec.toNat_xor,ofInt_nat a ha,ofInt_nat b hb]
 show IntKind.u64.wrap ((BitVec.ofInt 64 (a:Int)^^^BitVec.ofInt 64 (b:Int)).toNat:Int)=_;rw[e];exact wrap_u _ (Nat.xor_lt_two_pow (n:=64) ha hb)
theorem pow_le{w:Nat}(h:w<=64):2^w<=18446744073709551616:=by
 have:2^w<=2^64:=Nat.pow_le_pow_right (by decide) h;omega
theorem and_mask(a w:Nat):a&&&(2^w-1)=a%2^w:=Nat.and_two_pow_sub_one_eq_mod a w
theorem xor_all(a:Nat)(ha:a<18446744073709551616):a^^^18446744073709551615=18446744073709551615-a:=by
 have h:(BitVec.ofNat 64 a^^^BitVec.allOnes 64)= ~~~ (BitVec.ofNat 64 a):=by rw[BitVec.xor_allOnes]
 have h2:=congrArg BitVec.toNat h;rw[BitVec.toNat_xor,BitVec.toNat_not,BitVec.toNat_ofNat,BitVec.toNat_allOnes] at h2;have e:a%2^64=a:=Nat.mod_eq_of_lt ha;rw[e] at h2;exact h2
theorem or_high(a w:Nat)(ha:a<2^w)(hw:w<=64):a|||(18446744073709551615-(2^w-1))=a+(18446744073709551616-2^w):=by
 have h:=pow_le hw;have hp:0<2^w:=Nat.two_pow_pos w;have e0:2^w*2^(64-w)=2^64:=by rw[<-Nat.pow_add];congr 1;omega
 have e:18446744073709551616=2^w*2^(64-w):=by rw[e0]
 have e1:18446744073709551615-(2^w-1)=2^w*(2^(64-w)-1):=by rw[Nat.mul_sub,<-e];omega
 rw[e1,Nat.or_comm,<-Nat.two_pow_add_eq_or_of_lt ha,Nat.mul_sub,<-e];omega
def sgn(w a:Nat):Int:=if 2^(w-1)<=a then(a:Int)-2^w else a
def sarN(w a b:Nat):Nat:=((sgn w a/(2:Int)^(min b 63))%(2:Int)^w).toNat
def b2n(p:Prop)[Decidable p]:Nat:=if p then 1 else 0
def appN(o w a b:Nat):Nat:=
 match o with
 |2=>2^w-1-a
 |3=>(2^w-a)%2^w
 |4=>(a+b)%2^w
 |5=>(a+(2^w-b))%2^w
 |6=>a*b%2^w
 |7=>if b=0 then 2^w-1 else a/b
 |8=>if b=0 then a else a%b
 |9=>a&&&b
 |10=>a|||b
 |11=>a^^^b
 |12=>if w<=b then 0 else a*2^b%2^w
 |13=>if w<=b then 0 else a/2^b
 |14=>sarN w a b
 |15=>b2n (a=b)
 |16=>b2n (a≠b)
 |17=>b2n (a<b)
 |18=>b2n (a<=b)
 |19=>b2n (sgn w a<sgn w b)
 |20=>b2n (sgn w a<=sgn w b)
 |_=>0
theorem b2n_lt{p:Prop}[Decidable p]{w:Nat}(hw:1<=w):b2n p<2^w:=by
 have:2^1<=2^w:=Nat.pow_le_pow_right (by decide) hw;unfold b2n;split<;>omega
theorem two_pow_pred{w:Nat}(hw:1<=w):2^w=2*2^(w-1):=by
 rw[<-Nat.pow_succ'];congr 1;omega
theorem appN_lt{o w a b:Nat}(hw:1<=w)(ha:a<2^w)(hb:b<2^w):appN o w a b<2^w:=by
 have hp:0<2^w:=Nat.two_pow_pos w;unfold appN
 split
 ·omega
 ·exact Nat.mod_lt _ hp
 ·exact Nat.mod_lt _ hp
 ·exact Nat.mod_lt _ hp
 ·exact Nat.mod_lt _ hp
 ·split
  ·omega
  ·exact Nat.lt_of_le_of_lt (Nat.div_le_self _ _) ha
 ·split
  ·exact ha
  ·exact Nat.lt_of_le_of_lt (Nat.mod_le _ _) ha
 ·exact Nat.lt_of_le_of_lt Nat.and_le_left ha
 ·exact Nat.or_lt_two_pow ha hb
 ·exact Nat.xor_lt_two_pow ha hb
 ·split
  ·exact hp
  ·exact Nat.mod_lt _ hp
 ·split
  ·exact hp
  ·exact Nat.lt_of_le_of_lt (Nat.div_le_self _ _) ha
 ·unfold sarN;have hp':(0:Int)<(2:Int)^w:=Int.pow_pos (by decide);have h1:=Int.emod_lt_of_pos (sgn w a/(2:Int)^(min b 63)) hp';have h0:=Int.emod_nonneg (sgn w a/(2:Int)^(min b 63)) (Int.ne_of_gt hp');have e:((2^w:Nat):Int)=(2:Int)^w:=by simp
  omega
 ·exact b2n_lt hw
 ·exact b2n_lt hw
 ·exact b2n_lt hw
 ·exact b2n_lt hw
 ·exact b2n_lt hw
 ·exact b2n_lt hw
 ·exact hp
structure Nd where
 op:Nat
 num:Nat
 args:List Nat
deriving DecidableEq
instance:Inhabited Nd:=⟨⟨0,0,[]⟩⟩
def ndAt(n:Nd):List Nd->Nat
 |[]=>0
 |m::l=>if m=n then 0 else ndAt n l+1
theorem ndAt_lt{n:Nd}:∀{l:List Nd},n∈l->ndAt n l<l.length
 |m::l,h=>by
  unfold ndAt
  split
  ·simp
  ·rename_i hne;have:n∈l:=by
    rcases List.mem_cons.1 h with h|h
    ·exact absurd h.symm hne
    ·exact h
   have:=ndAt_lt this;simp only[List.length_cons];omega
theorem ndAt_get{n:Nd}:∀{l:List Nd},n∈l->l.getD (ndAt n l) default=n
 |m::l,h=>by
  unfold ndAt
  split
  ·rename_i e;simpa using e
  ·rename_i hne;have:n∈l:=by
    rcases List.mem_cons.1 h with h|h
    ·exact absurd h.symm hne
    ·exact h
   simpa using ndAt_get this
theorem ndAt_none{n:Nd}:∀{l:List Nd},n∉l->ndAt n l=l.length
 |[],_=>rfl
 |m::l,h=>by
  simp only[List.mem_cons,not_or] at h;unfold ndAt;rw[if_neg (λ e=>h.1 e.symm),ndAt_none h.2];rfl
def askL(n:Nd)(l:List Nd):List Nd:=if n∈l then l else l++[n]
theorem ndAt_ask(n:Nd)(l:List Nd):ndAt n (askL n l)=ndAt n l:=by
 unfold askL
 split
 ·rfl
 ·rename_i h;rw[ndAt_none h]
  induction l with
  |nil=>simp[ndAt]
  |cons m l ih=>
   simp only[List.mem_cons,not_or] at h;show ndAt n (m::(l++[n]))=_;unfold ndAt;rw[if_neg (λ e=>h.1 e.symm),ih h.2];rfl
theorem askL_len(n:Nd)(l:List Nd):(askL n l).length<=l.length+1:=by
 unfold askL;split<;>simp
theorem askL_mem(n:Nd)(l:List Nd):n∈askL n l:=by
 unfold askL;split<;>simp_all
theorem ndAt_ask_lt(n:Nd)(l:List Nd):ndAt n l<(askL n l).length:=by
 rw[<-ndAt_ask];exact ndAt_lt (askL_mem n l)
def arN(o:Nat):Nat:=if o<=1 then 0 else if o<=3 then 1 else if o=21 then 3 else 2
def NdOk(W i:Nat)(n:Nd):Prop:=n.op<=20/\n.num<2^W+12/\n.num<18446744073709551616/\(n.op=0->n.num<2^W)/\n.args.length=arN n.op/\(2<=n.op->n.num=0)/\∀a∈n.args,a<i
def GOk(W:Nat)(l:List Nd):Prop:=∀i,i<l.length->NdOk W i (l.getD i default)
theorem GOk.nil(W:Nat):GOk W []:=λ i h=>by simp at h
theorem GOk.ask{W:Nat}{l:List Nd}(h:GOk W l){n:Nd}(hn:NdOk W l.length n):GOk W (askL n l):=by
 unfold askL
 split
 ·exact h
 ·intro i hi;simp only[List.length_append,List.length_singleton] at hi;by_cases e:i<l.length
  ·have:(l++[n]).getD i default=l.getD i default:=by
    rw[List.getD_eq_getElem?_getD,List.getD_eq_getElem?_getD,List.getElem?_append_left e]
   rw[this];exact h i e
  ·have e2:i=l.length:=by omega
   subst e2;have:(l++[n]).getD l.length default=n:=by
    rw[List.getD_eq_getElem?_getD,List.getElem?_append_right (Nat.le_refl _)];simp
   rw[this];exact hn
def valN(W:Nat)(vals:List Nat)(prev:List Nat)(n:Nd):Nat:=
 if n.op=0 then n.num else if n.op=1 then(if n.num<vals.length then vals.getD n.num 0%2^W else 0) else appN n.op W (prev.getD (n.args.getD 0 0) 0) (prev.getD (n.args.getD 1 0) 0)
def valuesN(W:Nat)(vals:List Nat)(l:List Nd):List Nat:=l.foldl (λ acc n=>acc++[valN W vals acc n]) []
theorem valuesN_snoc(W:Nat)(vals:List Nat)(l:List Nd)(n:Nd):valuesN W vals (l++[n])=valuesN W vals l++[valN W vals (valuesN W vals l) n]:=by
 simp[valuesN]
theorem valuesN_len(W:Nat)(vals:List Nat)(l:List Nd):(valuesN W vals l).length=l.length:=by
 rw[<-List.reverse_reverse l]
 induction l.reverse with
 |nil=>rfl
 |cons n l ih=>rw[List.reverse_cons,valuesN_snoc];simp[ih]
theorem take_snoc'{α:Type}(d:α)(l:List α){k:Nat}(h:k<l.length):l.take (k+1)=l.take k++[l.getD k d]:=by
 rw[List.take_succ_eq_append_getElem h,List.getD_eq_getElem?_getD,List.getElem?_eq_getElem h];rfl
theorem valuesN_take(W:Nat)(vals:List Nat)(l:List Nd):∀k,k<=l.length->(valuesN W vals l).take k=valuesN W vals (l.take k):=by
 rw[<-List.reverse_reverse l]
 induction l.reverse with
 |nil=>intro k hk;simp at hk;subst hk;rfl
 |cons n l ih=>
  intro k hk;rw[List.reverse_cons] at hk⊢;rw[valuesN_snoc];simp only[List.length_append,List.length_singleton] at hk;by_cases e:k<=l.reverse.length
  ·rw[List.take_append_of_le_length (by rw[valuesN_len];exact e),List.take_append_of_le_length e,ih k e]
  ·have e2:k=(l.reverse++[n]).length:=by simp at hk e⊢;omega
   subst e2;rw[List.take_length,valuesN_snoc];exact List.take_of_length_le (by simp[valuesN_len])
theorem valuesN_at(W:Nat)(vals:List Nat)(l:List Nd){t:Nat}(ht:t<l.length):(valuesN W vals l).getD t 0=valN W vals ((valuesN W vals l).take t) (l.getD t default):=by
 have h:=valuesN_take W vals l (t+1) ht;rw[take_snoc' default l ht,valuesN_snoc,<-valuesN_take W vals l t (by omega),take_snoc' 0 _ (by rw[valuesN_len];exact ht)] at h;have:=List.append_inj_right' h rfl;simpa using this
theorem getD_take{α:Type}(d:α)(l:List α){a k:Nat}(h:a<k):(l.take k).getD a d=l.getD a d:=by
 rw[List.getD_eq_getElem?_getD,List.getD_eq_getElem?_getD,List.getElem?_take_of_lt h]
theorem valN_args{W:Nat}{vals p q:List Nat}{n:Nd}{i:Nat}(hn:NdOk W i n)(h:∀a∈n.args,p.getD a 0=q.getD a 0):valN W vals p n=valN W vals q n:=by
 unfold valN
 split
 ·rfl
 ·split
  ·rfl
  ·rename_i h0 h1;have hl:=hn.2.2.2.2.1;have ho:=hn.1;have key:∀j,j<n.args.length->p.getD (n.args.getD j 0) 0=q.getD (n.args.getD j 0) 0:=λ j hj=>h _ (by
    rw[List.getD_eq_getElem?_getD,List.getElem?_eq_getElem hj];exact List.getElem_mem hj)
   have h0':0<n.args.length:=by rw[hl];unfold arN;(repeat' split)<;>omega
   rw[key 0 h0'];by_cases h2:1<n.args.length
   ·rw[key 1 h2]
   ·
    have hop:n.op=2\/n.op=3:=by
     rw[hl] at h2;unfold arN at h2
     split at h2
     ·omega
     ·split at h2
      ·omega
      ·split at h2<;>omega
    rcases hop with e|e<;>rw[e]<;>rfl
theorem valN_lt{W:Nat}{vals p:List Nat}{n:Nd}{i:Nat}(hW:1<=W)(hn:NdOk W i n)(hp:∀a,p.getD a 0<2^W):valN W vals p n<2^W:=by
 have h0:0<2^W:=Nat.two_pow_pos W;unfold valN
 split
 ·rename_i e;exact hn.2.2.2.1 e
 ·split
  ·split
   ·exact Nat.mod_lt _ h0
   ·exact h0
  ·exact appN_lt hW (hp _) (hp _)
theorem valuesN_lt{W:Nat}(vals:List Nat){l:List Nd}(hW:1<=W)(h:GOk W l):∀t,(valuesN W vals l).getD t 0<2^W:=by
 have h0:0<2^W:=Nat.two_pow_pos W;intro t
 induction t using Nat.strongRecOn with
 |ind t ih=>
  by_cases ht:t<l.length
  ·rw[valuesN_at W vals l ht];refine valN_lt hW (h t ht) λ a=> ?_
   by_cases ha:a<t
   ·rw[getD_take 0 _ ha];exact ih a ha
   ·rw[List.getD_eq_getElem?_getD,List.getElem?_eq_none (by rw[List.length_take];omega)];exact h0
  ·rw[List.getD_eq_getElem?_getD,List.getElem?_eq_none (by rw[valuesN_len];omega)];exact h0
end Go.Proofs.YtgdpkkjfcdhmdaaGreatDoor
