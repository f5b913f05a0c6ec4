/- Which operators commute, without a change of the world; the exchange of two arguments. -/
import Derived.Test.YtgdpkkjfcdhmdaaGreatDoorS0
import Derived.Test.YtgdpkkjfcdhmdaaGreatDoorS34
import Derived.Test.YtgdpkkjfcdhmdaaGreatDoorU4
import Derived.Test.YtgdpkkjfcdhmdaaGreatDoorS31
namespace Go.Proofs.YtgdpkkjfcdhmdaaGreatDoor
open Go.RowKit
def numZ(L:List Nd)(t:Nat):Nat:=if isC L t then numC L t else 0
set_option maxHeartbeats 1000000 in
theorem number102{w:World}{gb W:Nat}{L:List Nd}(hg:RV w gb W L)(t:Nat)(ht:t<L.length):Calls Tryz.prog 102 #[.pointer (some ⟨gb,0,none⟩),.int .i64 t] w λ e w'=>e= .returned (.tuple #[.int .u64 (numZ L t:Nat),.bool (isC L t)])/\Below w.heap.size w w':=by
 have HN:=Z (node70 hg t ht);have HR:Hid (numZ L t=if isC L t then(L.getD t default).num else 0):=Z rfl;have HC:Hid (isC L t=((L.getD t default).op==0)):=Z rfl;clear hg ht;generalize numZ L t=r at*;generalize isC L t=c at*;generalize L.getD t default=n at*;obtain⟨op,num,args⟩:=n;simp only at HN HR HC;cases c with
 |true=>
  have d:(((op:Nat):Int)==0)=true:=by have:=HC.o.symm;simp at this;subst this;rfl
  have d2:(((op:Nat):Int) !=0)=false:=by rw[bne,d];rfl
  have HR2:Hid (num=r):=Z (by rw[HR.o];rfl);clear HR HC;go_enter Tryz.func102,Tryz.ntmps102
  go_wp2_with(go_at_call 71;refine HN.o.mono ?_;rintro e w3 ⟨hd,hc,rfl,k1,k2,k3,k4⟩;have K4:=Z k4;clear k1 k2 k3 k4)
  go_ret2
  exact⟨by rw[HR2.o];rfl,K4.o.alloc K4.o.size _⟩
 |false=>
  have d:(((op:Nat):Int)==0)=false:=by have:=HC.o.symm;simp at this;rw[beq_eq_false_iff_ne];omega
  have d2:(((op:Nat):Int) !=0)=true:=by rw[bne,d];rfl
  have HR2:Hid (r=0):=Z (by rw[HR.o];rfl);clear HR HC;go_enter Tryz.func102,Tryz.ntmps102
  go_wp2_with(go_at_call 71;refine HN.o.mono ?_;rintro e w3 ⟨hd,hc,rfl,k1,k2,k3,k4⟩;have K4:=Z k4;clear k1 k2 k3 k4)
  go_ret2
  exact⟨by rw[HR2.o];rfl,K4.o.alloc K4.o.size _⟩
def swG(L:List Nd)(o:Nat):List Nat->List Nat
 |[a,b]=>if swapB L o a b then[b,a] else[a,b]
 |l=>l
theorem swG_two(L:List Nd)(o a b:Nat):swG L o [a,b]=if swapB L o a b then[b,a] else[a,b]:=rfl
theorem swG_len(L:List Nd)(o:Nat)(args:List Nat):(swG L o args).length=args.length:=by
 match args with
 |[]=>rfl
 |[a]=>rfl
 |[a,b]=>rw[swG_two];by_cases h:swapB L o a b=true<;>simp[h]
 |_::_::_::_=>rfl
theorem swG_mem{L:List Nd}{o:Nat}{args:List Nat}{n:Nat}(h:∀a∈args,a<n):∀a∈swG L o args,a<n:=by
 match args,h with
 |[],h=>exact h
 |[a],h=>exact h
 |[a,b],h=>
  rw[swG_two];have ha:=h a (by simp);have hb:=h b (by simp);by_cases e:swapB L o a b=true<;>simp[e,ha,hb]
 |_::_::_::_,h=>exact h
theorem one_two{o n:Nat}(ho:2<=o)(ho2:o<=20)(hn:n=arN o):(n=1/\(o=2\/o=3))\/(n=2/\4<=o):=by
 subst hn;unfold arN
 (repeat' split)<;>omega
theorem planS_all{W o:Nat}{args:List Nat}{L:List Nd}(ho:2<=o)(ho2:o<=20)(hl:args.length=arN o)(h:args.all (isC L)=true):
  planS W o args L= .ask (cN W (appN o W (numC L (args.getD 0 0)) (if args.length=1 then 0 else numC L (args.getD 1 0)))):=by
 rcases one_two ho ho2 hl with⟨e,_⟩|⟨e,_⟩
 ·match args,e with
  |[a],_=>
   simp at h;show planU W o a L=_;unfold planU;rw[if_pos h]
   rfl
 ·match args,e with
  |[a,b],_=>
   simp at h;show(if isC L a&&isC L b then _ else _)=_;rw[if_pos (by simp[h])]
   rfl
theorem planS_not{W o:Nat}{args:List Nat}{L:List Nd}(ho:2<=o)(ho2:o<=20)(hl:args.length=arN o)(h:args.all (isC L)=false):
  planS W o args L=planA W o (swG L o args) L (firstA (ruleA W L o ((swG L o args).getD 0 0) ((swG L o args).getD 1 0)) (rulesN o)):=by
 rcases one_two ho ho2 hl with⟨e,e2⟩|⟨e,_⟩
 ·match args,e with
  |[a],_=>
   simp at h;show planU W o a L=planA W o [a] L (firstA (ruleA W L o a 0) (rulesN o));unfold planU;rw[if_neg (by rw[h];decide)];have:rulesN o=[.twice]:=by rcases e2 with rfl|rfl<;>rfl
   rw[this];have e3:firstA (ruleA W L o a 0) [.twice]=match ruleA W L o a 0 .twice with| .no=>.no|x=>x:=rfl
   rw[e3];have e4:(∃t,ruleA W L o a 0 .twice= .same t)\/ruleA W L o a 0 .twice= .no:=by
    simp only[ruleA];by_cases e5:(L.getD a default).op=o
    ·rw[if_pos e5];exact .inl ⟨_,rfl⟩
    ·rw[if_neg e5];exact .inr rfl
   rcases e4 with⟨t,e4⟩|e4<;>rw[e4]<;>rfl
 ·match args,e with
  |[a,b],_=>
   have hh:¬((isC L a&&isC L b)=true):=by
    intro k;rw[Bool.and_eq_true] at k;simp[k.1,k.2] at h
   show(if isC L a&&isC L b then _ else _)=_;rw[if_neg hh,swG_two];by_cases e:swapB L o a b=true
   ·rw[if_pos e,if_pos e];rfl
   ·rw[if_neg e,if_neg e];rfl
def numsK(L:List Nd)(n:Nat)(args:List Nat)(k:Nat):List Nat:=(args.take k).map (numZ L)++List.replicate (n-k) 0
def boolsK(L:List Nd)(n:Nat)(args:List Nat)(k:Nat):List Bool:=(args.take k).map (isC L)++List.replicate (n-k) false
theorem foundK{α:Type}(f:Nat->α)(d:α){n:Nat}{args:List Nat}(hl:args.length=n){k:Nat}(hk:k<n):
  ((args.take k).map f++List.replicate (n-k) d).set k (f (args.getD k 0))=(args.take (k+1)).map f++List.replicate (n-(k+1)) d:=by
 have e:n-k=(n-(k+1))+1:=by omega
 have hlen:((args.take k).map f).length=k:=by simp;omega
 rw[e,List.replicate_succ,List.set_append_right _ _ (by rw[hlen];exact Nat.le_refl _),hlen,Nat.sub_self,List.set_cons_zero,take_snoc' 0 args (by omega),List.map_append,List.append_assoc]
 rfl
theorem numsK_succ{L:List Nd}{n:Nat}{args:List Nat}(hl:args.length=n){k:Nat}(hk:k<n):(numsK L n args k).set k (numZ L (args.getD k 0))=numsK L n args (k+1):=foundK _ _ hl hk
theorem boolsK_succ{L:List Nd}{n:Nat}{args:List Nat}(hl:args.length=n){k:Nat}(hk:k<n):(boolsK L n args k).set k (isC L (args.getD k 0))=boolsK L n args (k+1):=foundK _ _ hl hk
theorem numsK_all{L:List Nd}{n:Nat}{args:List Nat}(hl:args.length=n):numsK L n args n=args.map (numZ L):=by subst hl;simp[numsK]
theorem boolsK_all{L:List Nd}{n:Nat}{args:List Nat}(hl:args.length=n):boolsK L n args n=args.map (isC L):=by subst hl;simp[boolsK]
theorem boolsK_at{L:List Nd}{n:Nat}{args:List Nat}(hl:args.length=n){k:Nat}(hk:k<n):(boolsK L n args (k+1)).getD k false=isC L (args.getD k 0):=by
 rw[<-boolsK_succ hl hk,List.getD_eq_getElem?_getD,List.getElem?_set_self (by simp[boolsK];omega)]
 rfl
theorem all_step{L:List Nd}{args:List Nat}{k:Nat}(hk:k<args.length):(args.take (k+1)).all (isC L)=((args.take k).all (isC L)&&isC L (args.getD k 0)):=by
 rw[take_snoc' 0 args hk,List.all_append];simp
theorem found_ok(L:List Nd)(zs:List Nat):XOk L zs (zs.map (numZ L)) (zs.map (isC L)):=by
 refine⟨by simp,by simp,λ i hi=> ?_,λ i hi hc=> ?_⟩
 ·simp[List.getD_eq_getElem?_getD,List.getElem?_eq_getElem hi]
 ·have:(zs.map (numZ L)).getD i 0=numZ L (zs.getD i 0):=by simp[List.getD_eq_getElem?_getD,List.getElem?_eq_getElem hi]
  rw[this,numZ,if_pos hc]
theorem any_answer{w:World}{xb gb o W:Nat}{L:List Nd}{zs:List Nat}(hg:RV w gb W L)(h1:1<=W)(h2:W<=64)(ho:2<=o)(ho2:o<=20)(hl:zs.length=arN o)(hz:∀a∈zs,a<L.length)
  (h:XAt w xb gb o zs (zs.map (numZ L)) (zs.map (isC L))){f:Value}{r:Rule}(hr:r∈rulesN o)(hf:RuleAt w f r):Answers w xb f (ruleA W L o (zs.getD 0 0) (zs.getD 1 0) r):=by
 rcases one_two ho ho2 hl with⟨e,e2⟩|⟨e,e2⟩
 ·match zs,e with
  |[a],_=>
   have:rulesN o=[.twice]:=by rcases e2 with rfl|rfl<;>rfl
   rw[this] at hr;simp at hr;subst hr;exact any_twice hg h (hz a (by simp)) e2 hf
 ·match zs,e with
  |[a,b],_=>exact any_rule hg h1 h2 h (found_ok L [a,b]) (rulesN_ok e2 r hr) hf
theorem numZ_lt{W:Nat}{L:List Nd}(h:GOk W L){t:Nat}(ht:t<L.length):numZ L t<2^W:=by
 unfold numZ
 split
 ·rename_i hc;exact(h t ht).2.2.2.1 (by simpa[isC] using hc)
 ·exact Nat.two_pow_pos W
theorem map_lt{W:Nat}{L:List Nd}(h:GOk W L){zs:List Nat}(hz:∀a∈zs,a<L.length):∀v∈zs.map (numZ L),v<2^W:=by
 intro v hv;obtain⟨a,ha,rfl⟩:=List.mem_map.1 hv;exact numZ_lt h (hz a ha)
theorem plan_num{W o:Nat}{L:List Nd}{args:List Nat}(hg:GOk W L)(ho:2<=o)(ho2:o<=20)(hl:args.length=arN o)(ha:∀a∈args,a<L.length)(h:args.all (isC L)=true):
  planS W o args L= .ask (cN W (appN o W ((args.map (numZ L)).getD 0 0%2^W) ((args.map (numZ L)).getD 1 0%2^W))):=by
 rw[planS_all ho ho2 hl h];have key:∀a∈args,numZ L a%2^W=numC L a:=λ a hm=>by
  have hc:isC L a=true:=List.all_eq_true.1 h a hm;rw[Nat.mod_eq_of_lt (numZ_lt hg (ha a hm)),numZ,if_pos hc]
 rcases one_two ho ho2 hl with⟨e,_⟩|⟨e,_⟩
 ·match args,e,key with
  |[a],_,key=>
   have:=key a (by simp);show Plan.ask (cN W (appN o W (numC L a) 0))= .ask (cN W (appN o W (numZ L a%2^W) (0%2^W)));rw[this,Nat.zero_mod]
 ·match args,e,key with
  |[a,b],_,key=>
   have h1:=key a (by simp);have h2:=key b (by simp);show Plan.ask (cN W (appN o W (numC L a) (numC L b)))= .ask (cN W (appN o W (numZ L a%2^W) (numZ L b%2^W)));rw[h1,h2]
theorem apply_any{o w:Nat}{ns:List Nat}{n:Nat}(ho:2<=o)(ho2:o<=20)(hl:ns.length=n)(hn:n=arN o)(a:Option Addr)(cap:Nat)(W:World)(h1:1<=w)(h:w<=64)(hx:∀v∈ns,v<18446744073709551616)(hat:(Lay.int .u64).At 0 W a (intsN ns)):
  Calls Tryz.prog 75 #[.int .u8 o,.int .i64 w,.slice a n cap] W (ApPost o w (ns.getD 0 0) (ns.getD 1 0) W):=by
 rcases one_two ho ho2 hn with⟨e,e2⟩|⟨e,e2⟩
 ·subst e
  match ns,hl with
  |[x],_=>
   rcases e2 with rfl|rfl
   ·exact apply_not w x 0 a cap W h1 h (hx x (by simp)) hat
   ·exact apply_neg w x 0 a cap W h1 h (hx x (by simp)) hat
 ·subst e
  match ns,hl with
  |[x,y],_=>exact apply_two o w x y a cap W e2 ho2 h1 h (hx x (by simp)) (hx y (by simp)) hat
set_option maxHeartbeats 4000000 in
theorem commQ103(o:Nat)(ho:2<=o)(ho2:o<=20){w:World}:Calls Tryz.prog 103 #[.int .u8 o] w λ e w'=>e= .returned (.bool (commN o))/\w=w':=by
 have hc:o=2\/o=3\/o=4\/o=5\/o=6\/o=7\/o=8\/o=9\/o=10\/o=11\/o=12\/o=13\/o=14\/o=15\/o=16\/o=17\/o=18\/o=19\/o=20:=by omega
 clear ho ho2;rcases hc with rfl|rfl|rfl|rfl|rfl|rfl|rfl|rfl|rfl|rfl|rfl|rfl|rfl|rfl|rfl|rfl|rfl|rfl|rfl<;>
  (go_enter Tryz.func103,Tryz.ntmps103
   go_wp2_with fail
   go_ret
   exact⟨rfl,rfl⟩)
def swQ(L:List Nd)(o:Nat):List Nat->Bool
 |[a,b]=>swapB L o a b
 |_=>false
theorem swQ_no{L:List Nd}{o:Nat}{args:List Nat}(h:swQ L o args=false):swG L o args=args:=by
 match args,h with
 |[],_=>rfl
 |[a],_=>rfl
 |[a,b],h=>rw[swG_two,if_neg];intro k;have:swapB L o a b=false:=h;rw[this] at k;cases k
 |_::_::_::_,_=>rfl
theorem swQ_yes{L:List Nd}{o:Nat}{args:List Nat}(h:swQ L o args=true):∃a b,args=[a,b]/\swG L o args=[b,a]:=by
 match args,h with
 |[a,b],h=>exact⟨a,b,rfl,by rw[swG_two];exact if_pos h⟩
theorem rule_ans{W o a b:Nat}{L:List Nd}(hW:W<=64)(ho:2<=o):∀r∈rulesN o,(∀v,ruleA W L o a b r= .known v->v<18446744073709551616)/\∀t,ruleA W L o a b r= .not t->4<=o/\t=a:=by
 have hp:=pow_le hW;have h0:=Nat.two_pow_pos W;have hn:∀v,(∀u,ruleA W L o a b (.neutral v)= .known u->u<18446744073709551616)/\∀t,ruleA W L o a b (.neutral v)= .not t->4<=o/\t=a:=λ v=>by
  simp only[ruleA];split<;>exact⟨(λ _ h=>by cases h),(λ _ h=>by cases h)⟩
 have hf:∀i v z,z<2->(∀u,ruleA W L o a b (.fixed i v z)= .known u->u<18446744073709551616)/\∀t,ruleA W L o a b (.fixed i v z)= .not t->4<=o/\t=a:=λ i v z hz=>by
  simp only[ruleA];(repeat' split)<;>exact⟨(λ _ h=>by cases h<;>omega),(λ _ h=>by cases h)⟩
 have he:∀z,z<2->(∀u,ruleA W L o a b (.equal z)= .known u->u<18446744073709551616)/\∀t,ruleA W L o a b (.equal z)= .not t->4<=o/\t=a:=λ z hz=>by
  simp only[ruleA];split<;>exact⟨(λ _ h=>by cases h<;>omega),(λ _ h=>by cases h)⟩
 have hb:(∀u,ruleA W L o a b .both= .known u->u<18446744073709551616)/\∀t,ruleA W L o a b .both= .not t->4<=o/\t=a:=by
  simp only[ruleA];split<;>exact⟨(λ _ h=>by cases h),(λ _ h=>by cases h)⟩
 have hy:(∀u,ruleA W L o a b .beyond= .known u->u<18446744073709551616)/\∀t,ruleA W L o a b .beyond= .not t->4<=o/\t=a:=by
  simp only[ruleA];split<;>exact⟨(λ _ h=>by cases h<;>omega),(λ _ h=>by cases h)⟩
 have ht:(∀u,ruleA W L o a b .twice= .known u->u<18446744073709551616)/\∀t,ruleA W L o a b .twice= .not t->4<=o/\t=a:=by
  simp only[ruleA];split<;>exact⟨(λ _ h=>by cases h),(λ _ h=>by cases h)⟩
 have hl:4<=o->∀q,(∀u,ruleA W L o a b (.full q)= .known u->u<18446744073709551616)/\∀t,ruleA W L o a b (.full q)= .not t->4<=o/\t=a:=λ h4 q=>by
  simp only[ruleA];(repeat' split)<;>exact⟨(λ _ h=>by cases h<;>omega),(λ _ h=>by cases h<;>exact⟨h4,rfl⟩)⟩
 intro r hr;unfold rulesN at hr
 split at hr<;>first
  |omega
  |(simp only[List.mem_cons,List.not_mem_nil,or_false] at hr
    (first|(rcases hr with rfl|rfl|rfl)|(rcases hr with rfl|rfl)|subst hr)<;>
      first|exact hn _|exact hb|exact hy|exact ht|exact he _ (by decide)|exact hf _ _ _ (by decide)|exact hl (by decide) _)
  |cases hr
theorem enter_rule(r:Rule)(args:Array Value)(w:World):(callFunc (ruleFn r) args).run Tryz.prog w= .ok (.enter (ruleFn r) args) w:=by
 cases r<;>kernel_rfl
theorem answers_enter{w:World}{xb:Nat}{f:Value}{x:Ans}{r:Rule}(h:Answers w xb f x)(hf:RuleAt w f r):
  ∃fn cs,f= .func (.func fn) #[] ⟨cs⟩/\(∀args w',(callFunc fn args).run Tryz.prog w'= .ok (.enter fn args) w')/\Calls Tryz.prog fn ⟨.pointer (some ⟨xb,0,none⟩)::cs⟩ w (AnsP w x):=by
 obtain⟨fn,cs,e,hc⟩:=h;obtain⟨cs',e',_⟩:=hf;have:fn=ruleFn r:=by rw[e] at e';injection e' with e1 _ _;injection e1
 subst this;exact⟨_,cs,e,enter_rule r,hc⟩
theorem at_one_new{w:World}{g:Nat}(hg:w.heap.size=g)(t:Nat):(Lay.int .i64).At 0 (w.alloc (.cells #[.int .i64 (t:Nat)] 3)) (some ⟨g,0,none⟩) (intsN [t]):=by
 subst hg;exact Lay.At.made w [(t:Int)] 3
theorem firstA_step{f:Rule->Ans}{rs:List Rule}{j:Nat}{r:Rule}(h:rs[j]? =some r):firstA f (rs.drop j)=match f r with| .no=>firstA f (rs.drop (j+1))|x=>x:=by
 obtain⟨hj,e⟩:=List.getElem?_eq_some_iff.1 h;rw[List.drop_eq_getElem_cons hj,e]
 rfl
end Go.Proofs.YtgdpkkjfcdhmdaaGreatDoor
