/- Plain law: what simp.App makes out of a list of nodes, and what its terms come to. -/
import Derived.Test.YtgdpkkjfcdhmdaaGreatDoorS0
import Derived.Test.YtgdpkkjfcdhmdaaGreatDoorS9
namespace Go.Proofs.YtgdpkkjfcdhmdaaGreatDoor
open Go
theorem pre_get{L M:List Nd}(h:L<+:M){i:Nat}(hi:i<L.length):M.getD i default=L.getD i default:=by
 obtain⟨l,rfl⟩:=h;rw[List.getD_eq_getElem?_getD,List.getD_eq_getElem?_getD,List.getElem?_append_left hi]
theorem ask_pre(n:Nd)(L:List Nd):L<+:askL n L:=by
 unfold askL
 split
 ·exact List.prefix_rfl
 ·exact⟨_,rfl⟩
theorem ndAt_pre{n:Nd}:∀{L:List Nd} (l:List Nd),n∈L->ndAt n (L++l)=ndAt n L
 |m::L,l,h=>by
  show(if m=n then 0 else ndAt n (L++l)+1)=if m=n then 0 else ndAt n L+1
  by_cases e:m=n
  ·rw[if_pos e,if_pos e]
  ·rw[if_neg e,if_neg e,ndAt_pre l (by
    rcases List.mem_cons.1 h with h|h
    ·exact absurd h.symm e
    ·exact h)]
theorem ask_done{n:Nd}{L M:List Nd}(h:askL n L<+:M):ndAt n M=ndAt n L/\askL n M=M:=by
 obtain⟨l,rfl⟩:=h;refine⟨by rw[ndAt_pre l (askL_mem n L),ndAt_ask],?_⟩;unfold askL;rw[if_pos];exact List.mem_append_left _ (askL_mem n L)
inductive Plan
 |same (t:Nat)
 |ask (n:Nd)
def runP(L:List Nd):Plan->Nat×List Nd
 | .same t=>(t,L)
 | .ask n=>(ndAt n L,askL n L)
theorem runP_pre(L:List Nd)(p:Plan):L<+:(runP L p).2:=by
 cases p with
 |same t=>exact List.prefix_rfl
 |ask n=>exact ask_pre n L
theorem runP_len(L:List Nd)(p:Plan):(runP L p).2.length<=L.length+1:=by
 cases p with
 |same t=>show L.length<=_;omega
 |ask n=>exact askL_len n L
theorem runP_done{L M:List Nd}{p:Plan}(h:(runP L p).2<+:M):runP M p=((runP L p).1,M):=by
 cases p with
 |same t=>rfl
 |ask n=>
  obtain⟨a,b⟩:=ask_done h;show(ndAt n M,askL n M)=(ndAt n L,M)
  rw[a,b]
def Plan.Ok(W:Nat)(L:List Nd):Plan->Prop
 | .same t=>t<L.length
 | .ask n=>NdOk W L.length n/\n.op≠1
theorem runP_lt{W:Nat}{L:List Nd}{p:Plan}(h:p.Ok W L):(runP L p).1<(runP L p).2.length:=by
 cases p with
 |same t=>exact h
 |ask n=>exact ndAt_ask_lt n L
theorem runP_ok{W:Nat}{L:List Nd}(hg:GOk W L){p:Plan}(h:p.Ok W L):GOk W (runP L p).2:=by
 cases p with
 |same t=>exact hg
 |ask n=>exact hg.ask h.1
inductive Rule
 |twice
 |neutral (v:Nat)
 |fixed (i v w:Nat)
 |equal (v:Nat)
 |both
 |full (k:Nat)
 |beyond
inductive Ans
 |no
 |same (t:Nat)
 |known (v:Nat)
 |not (t:Nat)
def isC(L:List Nd)(t:Nat):Bool:=(L.getD t default).op==0
def numC(L:List Nd)(t:Nat):Nat:=(L.getD t default).num
def numIs(L:List Nd)(t v:Nat):Bool:=isC L t&&numC L t==v
def ruleA(W:Nat)(L:List Nd)(o a b:Nat):Rule->Ans
 | .twice=>if(L.getD a default).op=o then .same ((L.getD a default).args.getD 0 0) else .no
 | .neutral v=>if numIs L b v then .same a else .no
 | .fixed i v w=>if numIs L (if i=0 then a else b) v then .known w else .no
 | .equal v=>if a=b then .known v else .no
 | .both=>if a=b then .same a else .no
 | .full k=>if numIs L b (2^W-1) then(if k=1 then .same a else if k=2 then .known (2^W-1) else .not a) else .no
 | .beyond=>if isC L b&&decide (W<=numC L b) then .known 0 else .no
def rulesN:Nat->List Rule
 |2=>[.twice]
 |3=>[.twice]
 |4=>[.neutral 0]
 |5=>[.neutral 0,.equal 0]
 |6=>[.fixed 1 0 0,.neutral 1]
 |7=>[.neutral 1]
 |8=>[.fixed 1 1 0]
 |9=>[.fixed 1 0 0,.full 1,.both]
 |10=>[.neutral 0,.full 2,.both]
 |11=>[.neutral 0,.full 3,.equal 0]
 |12=>[.neutral 0,.beyond]
 |13=>[.neutral 0,.beyond]
 |14=>[.neutral 0]
 |15=>[.equal 1]
 |16=>[.equal 0]
 |17=>[.equal 0,.fixed 1 0 0]
 |18=>[.equal 1,.fixed 0 0 1]
 |19=>[.equal 0]
 |20=>[.equal 1]
 |_=>[]
def firstA(f:Rule->Ans):List Rule->Ans
 |[]=>.no
 |r::l=>match f r with
  | .no=>firstA f l
  |x=>x
def commN(o:Nat):Bool:=o==4||(o==6||(o==9||(o==10||(o==11||(o==15||o==16)))))
def swapB(L:List Nd)(o a b:Nat):Bool:=commN o&&(isC L a||(!isC L b&&decide (b<a)))
def cN(W v:Nat):Nd:=⟨0,v%2^W,[]⟩
def planU(W o a:Nat)(L:List Nd):Plan:=
 if isC L a then .ask (cN W (appN o W (numC L a) 0)) else match ruleA W L o a 0 .twice with
  | .same t=>.same t
  |_=>.ask ⟨o,0,[a]⟩
def planA(W o:Nat)(args:List Nat)(L:List Nd):Ans->Plan
 | .no=>.ask ⟨o,0,args⟩
 | .same t=>.same t
 | .known v=>.ask (cN W v)
 | .not t=>planU W 2 t L
def planB(W o a b:Nat)(L:List Nd):Plan:=planA W o [a,b] L (firstA (ruleA W L o a b) (rulesN o))
def planS(W o:Nat)(args:List Nat)(L:List Nd):Plan:=
 match args with
 |[a]=>planU W o a L
 |[a,b]=>if isC L a&&isC L b then .ask (cN W (appN o W (numC L a) (numC L b))) else if swapB L o a b then planB W o b a L else planB W o a b L
 |_=>.same 0
def simpM(W o:Nat)(args:List Nat)(L:List Nd):Nat×List Nd:=runP L (planS W o args L)
theorem isC_pre{L M:List Nd}(h:L<+:M){a:Nat}(ha:a<L.length):isC M a=isC L a:=by unfold isC;rw[pre_get h ha]
theorem numC_pre{L M:List Nd}(h:L<+:M){a:Nat}(ha:a<L.length):numC M a=numC L a:=by unfold numC;rw[pre_get h ha]
theorem numIs_pre{L M:List Nd}(h:L<+:M){a v:Nat}(ha:a<L.length):numIs M a v=numIs L a v:=by unfold numIs;rw[isC_pre h ha,numC_pre h ha]
theorem ruleA_pre{W:Nat}{L M:List Nd}(h:L<+:M){o a b:Nat}(ha:a<L.length)(hb:b<L.length)(r:Rule):ruleA W M o a b r=ruleA W L o a b r:=by
 cases r with
 |twice=>simp only[ruleA];rw[pre_get h ha]
 |neutral v=>simp only[ruleA];rw[numIs_pre h hb]
 |fixed i v w=>
  simp only[ruleA];rw[numIs_pre h (show(if i=0 then a else b)<L.length by split<;>assumption)]
 |equal v=>rfl
 |both=>rfl
 |full k=>simp only[ruleA];rw[numIs_pre h hb]
 |beyond=>simp only[ruleA];rw[isC_pre h hb,numC_pre h hb]
theorem firstA_congr{f g:Rule->Ans}(h:∀r,f r=g r)(l:List Rule):firstA f l=firstA g l:=by rw[funext h]
theorem planU_pre{W:Nat}{L M:List Nd}(h:L<+:M){o a:Nat}(ha:a<L.length):planU W o a M=planU W o a L:=by
 unfold planU;rw[isC_pre h ha,numC_pre h ha,show ruleA W M o a 0 .twice=ruleA W L o a 0 .twice by simp only[ruleA];rw[pre_get h ha]]
def Ans.Lt(n:Nat):Ans->Prop
 | .not t=>t<n
 |_=>True
theorem ruleA_lt{W:Nat}{L:List Nd}{o a b:Nat}(ha:a<L.length)(r:Rule):(ruleA W L o a b r).Lt L.length:=by
 cases r<;>simp only[ruleA]<;>(repeat' split)<;>first|exact trivial|exact ha
theorem firstA_ind{f:Rule->Ans}{P:Ans->Prop}(h0:P .no):∀{l:List Rule},(∀r∈l,P (f r))->P (firstA f l)
 |[],_=>h0
 |r::l,h=>by
  have hr:=h r (List.mem_cons_self ..);have hl:=firstA_ind h0 (l:=l) λ r hr=>h r (List.mem_cons_of_mem _ hr)
  unfold firstA
  split
  ·exact hl
  ·exact hr
theorem planA_pre{W:Nat}{L M:List Nd}(h:L<+:M){o:Nat}{args:List Nat}{x:Ans}(hx:x.Lt L.length):planA W o args M x=planA W o args L x:=by
 cases x<;>try rfl
 exact planU_pre h hx
theorem planB_pre{W:Nat}{L M:List Nd}(h:L<+:M){o a b:Nat}(ha:a<L.length)(hb:b<L.length):planB W o a b M=planB W o a b L:=by
 unfold planB;rw[firstA_congr λ r=>ruleA_pre h ha hb r,planA_pre h (firstA_ind trivial λ r _=>ruleA_lt ha r)]
theorem planS_pre{W:Nat}{L M:List Nd}(h:L<+:M){o:Nat}{args:List Nat}(ha:∀a∈args,a<L.length):planS W o args M=planS W o args L:=by
 match args,ha with
 |[],_=>rfl
 |[a],ha=>exact planU_pre h (ha a (by simp))
 |[a,b],ha=>
  have h1:=ha a (by simp);have h2:=ha b (by simp);have e:swapB M o a b=swapB L o a b:=by unfold swapB;rw[isC_pre h h1,isC_pre h h2]
  simp only[planS];rw[e,isC_pre h h1,isC_pre h h2,numC_pre h h1,numC_pre h h2,planB_pre h h1 h2,planB_pre h h2 h1]
 |_::_::_::_,_=>rfl
theorem simpM_pre(W o:Nat)(args:List Nat)(L:List Nd):L<+:(simpM W o args L).2:=runP_pre _ _
theorem simpM_len(W o:Nat)(args:List Nat)(L:List Nd):(simpM W o args L).2.length<=L.length+1:=runP_len _ _
theorem simpM_done{W o:Nat}{args:List Nat}{L M:List Nd}(ha:∀a∈args,a<L.length)(h:(simpM W o args L).2<+:M):simpM W o args M=((simpM W o args L).1,M):=by
 unfold simpM;rw[planS_pre ((simpM_pre W o args L).trans h) ha];exact runP_done h
def vAt(W:Nat)(vals:List Nat)(L:List Nd)(t:Nat):Nat:=(valuesN W vals L).getD t 0
theorem vAt_pre{W:Nat}{vals:List Nat}{L M:List Nd}(h:L<+:M){t:Nat}(ht:t<L.length):vAt W vals M t=vAt W vals L t:=by
 obtain⟨l,rfl⟩:=h;have:=valuesN_take W vals (L++l) L.length (by simp);rw[List.take_left] at this;unfold vAt;rw[<-this,getD_take 0 _ ht]
theorem vAt_lt{W:Nat}(vals:List Nat){L:List Nd}(hW:1<=W)(h:GOk W L)(t:Nat):vAt W vals L t<2^W:=valuesN_lt vals hW h t
theorem vAt_node{W:Nat}(vals:List Nat){L:List Nd}(h:GOk W L){t:Nat}(ht:t<L.length):vAt W vals L t=valN W vals (valuesN W vals L) (L.getD t default):=by
 unfold vAt;rw[valuesN_at W vals L ht];exact valN_args (h t ht) λ a ha=>getD_take 0 _ ((h t ht).2.2.2.2.2.2 a ha)
theorem vAt_const{W:Nat}(vals:List Nat){L:List Nd}(h:GOk W L){t:Nat}(ht:t<L.length)(hc:isC L t=true):vAt W vals L t=numC L t:=by
 rw[vAt_node vals h ht,valN,if_pos (by simpa[isC] using hc)];rfl
theorem vAt_app{W:Nat}(vals:List Nat){L:List Nd}(h:GOk W L){t:Nat}(ht:t<L.length)(ho:2<=(L.getD t default).op):
  vAt W vals L t=appN (L.getD t default).op W (vAt W vals L ((L.getD t default).args.getD 0 0)) (vAt W vals L ((L.getD t default).args.getD 1 0)):=by
 rw[vAt_node vals h ht,valN,if_neg (by omega),if_neg (by omega)];rfl
theorem vAt_ask{W:Nat}(vals:List Nat){L:List Nd}(h:GOk W L){n:Nd}(hn:NdOk W L.length n):vAt W vals (askL n L) (ndAt n L)=valN W vals (valuesN W vals L) n:=by
 rw[vAt_node vals (h.ask hn) (ndAt_ask_lt n L)];have e:(askL n L).getD (ndAt n L) default=n:=by rw[<-ndAt_ask];exact ndAt_get (askL_mem n L)
 rw[e];exact valN_args hn λ a ha=>vAt_pre (ask_pre n L) (hn.2.2.2.2.2.2 a ha)
def planV(W:Nat)(vals:List Nat)(L:List Nd):Plan->Nat
 | .same t=>vAt W vals L t
 | .ask n=>valN W vals (valuesN W vals L) n
theorem runP_val{W:Nat}(vals:List Nat){L:List Nd}(h:GOk W L){p:Plan}(hp:p.Ok W L):vAt W vals (runP L p).2 (runP L p).1=planV W vals L p:=by
 cases p with
 |same t=>rfl
 |ask n=>exact vAt_ask vals h hp.1
theorem cN_ok{W i v:Nat}(h:W<=64):NdOk W i (cN W v)/\(cN W v).op≠1:=by
 have h0:v%2^W<2^W:=Nat.mod_lt _ (Nat.two_pow_pos W);have hp:=pow_le h;exact⟨⟨by show 0<=20;decide,by show v%2^W<_;omega,by show v%2^W<_;omega,λ _=>h0,rfl,λ h=>absurd h (by show¬2<=0;decide),λ a ha=>by cases ha⟩,by show(0:Nat)≠1;decide⟩
theorem or_ones{x w:Nat}(h:x<2^w):x|||(2^w-1)=2^w-1:=by
 apply Nat.eq_of_testBit_eq;intro i;rw[Nat.testBit_or,Nat.testBit_two_pow_sub_one];by_cases hi:i<w
 ·simp[hi]
 ·rw[Nat.testBit_lt_two_pow (Nat.lt_of_lt_of_le h (Nat.pow_le_pow_right (by decide) (by omega)))];simp
theorem xor_ones{x w:Nat}(h:x<2^w):x^^^(2^w-1)=2^w-1-x:=by
 have h0:=Nat.two_pow_pos w;have e:2^w-1-x=2^w-(x+1):=by omega
 rw[e];apply Nat.eq_of_testBit_eq;intro i;rw[Nat.testBit_xor,Nat.testBit_two_pow_sub_one,Nat.testBit_two_pow_sub_succ h];by_cases hi:i<w
 ·simp[hi]
 ·rw[Nat.testBit_lt_two_pow (Nat.lt_of_lt_of_le h (Nat.pow_le_pow_right (by decide) (by omega)))];simp[hi]
theorem sarN_zero{w x:Nat}(hw:1<=w)(h:x<2^w):sarN w x 0=x:=by
 have e:=two_pow_pred hw;have e':((2^w:Nat):Int)=(2:Int)^w:=by simp
 unfold sarN sgn;simp only[Nat.zero_min,Int.pow_zero,Int.ediv_one]
 split
 ·have:((x:Int)-2^w)%2^w=x:=by
   rw[<-Int.add_emod_right,Int.sub_add_cancel,Int.emod_eq_of_lt (by omega) (by omega)]
  rw[this];simp
 ·rw[Int.emod_eq_of_lt (by omega) (by omega)];simp
theorem one_mod{w:Nat}(hw:1<=w):1%2^w=1:=Nat.mod_eq_of_lt (by
 have:2^1<=2^w:=Nat.pow_le_pow_right (by decide) hw;omega)
theorem b2n_true{p:Prop}[Decidable p](h:p):b2n p=1:=if_pos h
theorem b2n_false{p:Prop}[Decidable p](h:¬p):b2n p=0:=if_neg h
theorem appN_comm{o w a b:Nat}(h:commN o=true):appN o w a b=appN o w b a:=by
 simp only[commN,Bool.or_eq_true,beq_iff_eq] at h;rcases h with rfl|rfl|rfl|rfl|rfl|rfl|rfl
 ·show(a+b)%_=(b+a)%_;rw[Nat.add_comm]
 ·show a*b%_=b*a%_;rw[Nat.mul_comm]
 ·exact Nat.and_comm a b
 ·exact Nat.or_comm a b
 ·exact Nat.xor_comm a b
 ·show b2n (a=b)=b2n (b=a);by_cases e:a=b
  ·rw[b2n_true e,b2n_true e.symm]
  ·rw[b2n_false e,b2n_false λ h=>e h.symm]
 ·show b2n (a≠b)=b2n (b≠a);by_cases e:a=b
  ·subst e;rfl
  ·unfold b2n;rw[if_pos e,if_pos (Ne.symm e)]
def Ans.Right(W:Nat)(vals:List Nat)(L:List Nd)(z:Nat):Ans->Prop
 | .no=>True
 | .same t=>t<L.length/\vAt W vals L t=z
 | .known v=>v%2^W=z
 | .not t=>t<L.length/\appN 2 W (vAt W vals L t) 0=z
theorem numIs_val{W:Nat}(vals:List Nat){L:List Nd}(h:GOk W L){t v:Nat}(ht:t<L.length)(hc:numIs L t v=true):vAt W vals L t=v:=by
 unfold numIs at hc;rw[Bool.and_eq_true] at hc;rw[vAt_const vals h ht hc.1];exact by simpa using hc.2
theorem twice_right{W:Nat}(vals:List Nat){L:List Nd}(hW:1<=W)(h:GOk W L){o a:Nat}(ho:o=2\/o=3)(ha:a<L.length)(y:Nat):(ruleA W L o a 0 .twice).Right W vals L (appN o W (vAt W vals L a) y):=by
 show Ans.Right W vals L _ (if(L.getD a default).op=o then .same ((L.getD a default).args.getD 0 0) else .no)
 split
 ·rename_i e;have hn:=h a ha;have hl:(L.getD a default).args.length=1:=by rw[hn.2.2.2.2.1,e];rcases ho with rfl|rfl<;>rfl
  have hm:(L.getD a default).args.getD 0 0∈(L.getD a default).args:=by
   generalize(L.getD a default).args=l at hl;rw[List.getD_eq_getElem?_getD,List.getElem?_eq_getElem (by omega)];exact List.getElem_mem _
  have hlt:=hn.2.2.2.2.2.2 _ hm;refine⟨by omega,?_⟩;rw[vAt_app vals h ha (by omega),e];have hx:=vAt_lt vals hW h ((L.getD a default).args.getD 0 0);generalize vAt W vals L ((L.getD a default).args.getD 0 0)=x at*;have h0:=Nat.two_pow_pos W;rcases ho with rfl|rfl
  ·show x=2^W-1-(2^W-1-x);omega
  ·show x=(2^W-(2^W-x)%2^W)%2^W;by_cases e0:x=0
   ·subst e0;simp
   ·rw[Nat.mod_eq_of_lt (a:=2^W-x) (by omega),Nat.mod_eq_of_lt (by omega)];omega
 ·trivial
theorem rule_right{W:Nat}(vals:List Nat){L:List Nd}(hW:1<=W)(h:GOk W L){o a b:Nat}(ho:4<=o)(ha:a<L.length)(hb:b<L.length):∀r∈rulesN o,(ruleA W L o a b r).Right W vals L (appN o W (vAt W vals L a) (vAt W vals L b)):=by
 have hx:=vAt_lt vals hW h a;have hy:=vAt_lt vals hW h b;have h0:=Nat.two_pow_pos W;have h1:=one_mod hW;have neutral:∀v,(vAt W vals L b=v->vAt W vals L a=appN o W (vAt W vals L a) v)->(ruleA W L o a b (.neutral v)).Right W vals L (appN o W (vAt W vals L a) (vAt W vals L b)):=λ v hv=>by
  simp only[ruleA]
  split
  ·rename_i hc;have e:=numIs_val vals h hb hc;exact⟨ha,by rw[e];exact hv e⟩
  ·trivial
 have fixed1:∀v z,(vAt W vals L b=v->z%2^W=appN o W (vAt W vals L a) v)->(ruleA W L o a b (.fixed 1 v z)).Right W vals L (appN o W (vAt W vals L a) (vAt W vals L b)):=λ v z hv=>by
  show Ans.Right W vals L _ (if numIs L b v then .known z else .no)
  split
  ·rename_i hc;have e:=numIs_val vals h hb hc;show z%2^W=_;rw[e];exact hv e
  ·trivial
 have fixed0:∀v z,(vAt W vals L a=v->z%2^W=appN o W v (vAt W vals L b))->(ruleA W L o a b (.fixed 0 v z)).Right W vals L (appN o W (vAt W vals L a) (vAt W vals L b)):=λ v z hv=>by
  show Ans.Right W vals L _ (if numIs L a v then .known z else .no)
  split
  ·rename_i hc;have e:=numIs_val vals h ha hc;show z%2^W=_;rw[e];exact hv e
  ·trivial
 have equal:∀z,z%2^W=appN o W (vAt W vals L a) (vAt W vals L a)->(ruleA W L o a b (.equal z)).Right W vals L (appN o W (vAt W vals L a) (vAt W vals L b)):=λ z hv=>by
  simp only[ruleA]
  split
  ·rename_i e;subst e;exact hv
  ·trivial
 have both:vAt W vals L a=appN o W (vAt W vals L a) (vAt W vals L a)->(ruleA W L o a b .both).Right W vals L (appN o W (vAt W vals L a) (vAt W vals L b)):=λ hv=>by
  simp only[ruleA]
  split
  ·rename_i e;subst e;exact⟨ha,hv⟩
  ·trivial
 have beyond:(∀y,W<=y->0=appN o W (vAt W vals L a) y)->(ruleA W L o a b .beyond).Right W vals L (appN o W (vAt W vals L a) (vAt W vals L b)):=λ hv=>by
  simp only[ruleA]
  split
  ·rename_i hc;rw[Bool.and_eq_true,decide_eq_true_eq] at hc;rw[vAt_const vals h hb hc.1];show 0%2^W=_;rw[Nat.zero_mod];exact hv _ hc.2
  ·trivial
 by_cases ho20:21<=o
 ·intro r hr;have:rulesN o=[]:=by
   unfold rulesN
   split<;>first|omega|rfl
  rw[this] at hr;cases hr
 ·have hc:o=4\/o=5\/o=6\/o=7\/o=8\/o=9\/o=10\/o=11\/o=12\/o=13\/o=14\/o=15\/o=16\/o=17\/o=18\/o=19\/o=20:=by omega
  generalize hxx:vAt W vals L a=x at*;rcases hc with rfl|rfl|rfl|rfl|rfl|rfl|rfl|rfl|rfl|rfl|rfl|rfl|rfl|rfl|rfl|rfl|rfl<;>simp only[rulesN,List.forall_mem_cons,List.not_mem_nil,false_imp_iff,implies_true,and_true]
  ·exact neutral 0 λ _=>(Nat.mod_eq_of_lt hx).symm
  ·exact⟨neutral 0 λ _=>by show x=(x+(2^W-0))%2^W;rw[Nat.sub_zero,Nat.add_mod_right,Nat.mod_eq_of_lt hx],equal 0 (by show 0%2^W=(x+(2^W-x))%2^W;rw[show x+(2^W-x)=2^W by omega,Nat.mod_self,Nat.zero_mod])⟩
  ·exact⟨fixed1 0 0 λ _=>by show 0%2^W=x*0%2^W;rw[Nat.mul_zero],neutral 1 λ _=>by show x=x*1%2^W;rw[Nat.mul_one,Nat.mod_eq_of_lt hx]⟩
  ·exact neutral 1 λ _=>by show x=if 1=0 then 2^W-1 else x/1;rw[if_neg (by decide),Nat.div_one]
  ·exact fixed1 1 0 λ _=>by show 0%2^W=if 1=0 then x else x%1;rw[if_neg (by decide),Nat.mod_one,Nat.zero_mod]
  ·refine⟨fixed1 0 0 λ _=>by show 0%2^W=x&&&0;rw[Nat.and_zero,Nat.zero_mod],?_,both (by show x=x&&&x;rw[Nat.and_self])⟩;show Ans.Right W vals L _ (if numIs L b (2^W-1) then .same a else .no)
   split
   ·rename_i hc;have e:=numIs_val vals h hb hc;exact⟨ha,by rw[hxx,e];show x=x&&&(2^W-1);rw[and_mask,Nat.mod_eq_of_lt hx]⟩
   ·trivial
  ·refine⟨neutral 0 λ _=>by show x=x|||0;rw[Nat.or_zero],?_,both (by show x=x|||x;rw[Nat.or_self])⟩;show Ans.Right W vals L _ (if numIs L b (2^W-1) then .known (2^W-1) else .no)
   split
   ·rename_i hc;have e:=numIs_val vals h hb hc;show(2^W-1)%2^W=_;rw[e];show(2^W-1)%2^W=x|||(2^W-1);rw[or_ones hx,Nat.mod_eq_of_lt (by omega)]
   ·trivial
  ·refine⟨neutral 0 λ _=>by show x=x^^^0;rw[Nat.xor_zero],?_,equal 0 (by show 0%2^W=x^^^x;rw[Nat.xor_self,Nat.zero_mod])⟩;show Ans.Right W vals L _ (if numIs L b (2^W-1) then .not a else .no)
   split
   ·rename_i hc;have e:=numIs_val vals h hb hc;refine⟨ha,?_⟩;rw[e,hxx];show 2^W-1-x=x^^^(2^W-1);rw[xor_ones hx]
   ·trivial
  ·exact⟨neutral 0 λ _=>by show x=if W<=0 then 0 else x*2^0%2^W;rw[if_neg (by omega),Nat.pow_zero,Nat.mul_one,Nat.mod_eq_of_lt hx],beyond λ y hy=>by show 0=if W<=y then 0 else _;rw[if_pos hy]⟩
  ·exact⟨neutral 0 λ _=>by show x=if W<=0 then 0 else x/2^0;rw[if_neg (by omega),Nat.pow_zero,Nat.div_one],beyond λ y hy=>by show 0=if W<=y then 0 else _;rw[if_pos hy]⟩
  ·exact neutral 0 λ _=>(sarN_zero hW hx).symm
  ·exact equal 1 (by show 1%2^W=b2n (x=x);rw[b2n_true rfl,h1])
  ·exact equal 0 (by show 0%2^W=b2n (x≠x);rw[b2n_false λ h=>h rfl,Nat.zero_mod])
  ·exact⟨equal 0 (by show 0%2^W=b2n (x<x);rw[b2n_false (Nat.lt_irrefl _),Nat.zero_mod]),fixed1 0 0 λ _=>by show 0%2^W=b2n (x<0);rw[b2n_false (by omega),Nat.zero_mod]⟩
  ·exact⟨equal 1 (by show 1%2^W=b2n (x<=x);rw[b2n_true (Nat.le_refl _),h1]),fixed0 0 1 λ _=>by show 1%2^W=b2n (0<=_);rw[b2n_true (Nat.zero_le _),h1]⟩
  ·exact equal 0 (by show 0%2^W=b2n (sgn W x<sgn W x);rw[b2n_false (Int.lt_irrefl _),Nat.zero_mod])
  ·exact equal 1 (by show 1%2^W=b2n (sgn W x<=sgn W x);rw[b2n_true (Int.le_refl _),h1])
theorem appNode_ok{W:Nat}{L:List Nd}{o:Nat}{args:List Nat}(h2:2<=o)(h20:o<=20)(hl:args.length=arN o)(ha:∀a∈args,a<L.length):NdOk W L.length ⟨o,0,args⟩/\(⟨o,0,args⟩:Nd).op≠1:=
 ⟨⟨h20,by show 0<_;have:=Nat.two_pow_pos W;omega,by show 0<_;omega,λ e=>by have:o=0:=e;omega,hl,λ _=>rfl,ha⟩,by show o≠1;omega⟩
def Plan.Good(W:Nat)(vals:List Nat)(L:List Nd)(z:Nat)(p:Plan):Prop:=p.Ok W L/\planV W vals L p=z
theorem planU_good{W:Nat}(vals:List Nat){L:List Nd}(hW:1<=W)(hW2:W<=64)(h:GOk W L){o a:Nat}(ho:o=2\/o=3)(ha:a<L.length)(y:Nat):(planU W o a L).Good W vals L (appN o W (vAt W vals L a) y):=by
 have hy:∀x z,appN o W x z=appN o W x y:=λ x z=>by rcases ho with rfl|rfl<;>rfl
 unfold planU
 split
 ·rename_i hc;refine⟨cN_ok hW2,?_⟩;show appN o W (numC L a) 0%2^W=_;rw[<-vAt_const vals h ha hc,Nat.mod_eq_of_lt (appN_lt hW (vAt_lt vals hW h a) (Nat.two_pow_pos W)),hy]
 ·have ht:=twice_right vals hW h ho ha y
  split
  ·rename_i t e;rw[e] at ht;exact ht
  ·refine⟨appNode_ok (by omega) (by omega) (by rcases ho with rfl|rfl<;>rfl) (by simpa using ha),?_⟩;show valN W vals _ ⟨o,0,[a]⟩=_;unfold valN;rw[if_neg (by show¬o=0;omega),if_neg (by show¬o=1;omega)];exact hy _ _
theorem planB_good{W:Nat}(vals:List Nat){L:List Nd}(hW:1<=W)(hW2:W<=64)(h:GOk W L){o a b:Nat}(ho:4<=o)(ho2:o<=20)(ha:a<L.length)(hb:b<L.length):(planB W o a b L).Good W vals L (appN o W (vAt W vals L a) (vAt W vals L b)):=by
 have hr:(firstA (ruleA W L o a b) (rulesN o)).Right W vals L (appN o W (vAt W vals L a) (vAt W vals L b)):=firstA_ind trivial (rule_right vals hW h ho ha hb);unfold planB;generalize firstA (ruleA W L o a b) (rulesN o)=x at hr⊢;cases x with
 |no=>
  refine⟨appNode_ok (by omega) ho2 (by unfold arN;rw[if_neg (by omega),if_neg (by omega),if_neg (by omega)];rfl) (by simpa using⟨ha,hb⟩),?_⟩;show valN W vals _ ⟨o,0,[a,b]⟩=_;unfold valN;rw[if_neg (by show¬o=0;omega),if_neg (by show¬o=1;omega)]
  rfl
 |same t=>exact hr
 |known v=>exact⟨cN_ok hW2,hr⟩
 |not t=>
  obtain⟨h1,h2⟩:=hr;rw[<-h2];exact planU_good vals hW hW2 h (.inl rfl) h1 0
theorem planS_good{W:Nat}(vals:List Nat){L:List Nd}(hW:1<=W)(hW2:W<=64)(h:GOk W L){o:Nat}{args:List Nat}(ho:2<=o)(ho2:o<=20)(hl:args.length=arN o)(ha:∀a∈args,a<L.length):(planS W o args L).Good W vals L (appN o W (vAt W vals L (args.getD 0 0)) (vAt W vals L (args.getD 1 0))):=by
 match args,hl,ha with
 |[],hl,_=>
  exfalso
  unfold arN at hl
  (repeat' split at hl)<;>simp at hl<;>omega
 |[a],hl,ha=>
  have:o=2\/o=3:=by
   unfold arN at hl
   (repeat' split at hl)<;>simp at hl<;>omega
  exact planU_good vals hW hW2 h this (ha a (by simp)) _
 |[a,b],hl,ha=>
  have ho4:4<=o:=by
   unfold arN at hl
   (repeat' split at hl)<;>simp at hl<;>omega
  have h1:=ha a (by simp);have h2:=ha b (by simp);show Plan.Good W vals L (appN o W (vAt W vals L a) (vAt W vals L b)) _;simp only[planS]
  split
  ·rename_i hc;rw[Bool.and_eq_true] at hc;refine⟨cN_ok hW2,?_⟩;show appN o W (numC L a) (numC L b)%2^W=_;rw[<-vAt_const vals h h1 hc.1,<-vAt_const vals h h2 hc.2,Nat.mod_eq_of_lt (appN_lt hW (vAt_lt vals hW h a) (vAt_lt vals hW h b))]
  ·split
   ·rename_i hs;unfold swapB at hs;rw[Bool.and_eq_true] at hs;rw[appN_comm hs.1];exact planB_good vals hW hW2 h ho4 ho2 h2 h1
   ·exact planB_good vals hW hW2 h ho4 ho2 h1 h2
 |a::b::c::l,hl,_=>
  exfalso
  unfold arN at hl
  (repeat' split at hl)<;>simp at hl<;>omega
theorem simpM_good{W:Nat}{L:List Nd}(hW:1<=W)(hW2:W<=64)(h:GOk W L){o:Nat}{args:List Nat}(ho:2<=o)(ho2:o<=20)(hl:args.length=arN o)(ha:∀a∈args,a<L.length):
  GOk W (simpM W o args L).2/\(simpM W o args L).1<(simpM W o args L).2.length/\∀vals,vAt W vals (simpM W o args L).2 (simpM W o args L).1=appN o W (vAt W vals L (args.getD 0 0)) (vAt W vals L (args.getD 1 0)):=
 ⟨runP_ok h (planS_good [] hW hW2 h ho ho2 hl ha).1,runP_lt (planS_good [] hW hW2 h ho ho2 hl ha).1,λ vals=>(runP_val vals h (planS_good vals hW hW2 h ho ho2 hl ha).1).trans (planS_good vals hW hW2 h ho ho2 hl ha).2⟩
end Go.Proofs.YtgdpkkjfcdhmdaaGreatDoor
