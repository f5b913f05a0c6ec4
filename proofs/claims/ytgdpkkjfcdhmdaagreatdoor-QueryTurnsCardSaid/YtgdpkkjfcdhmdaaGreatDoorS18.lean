/- A bridge: a region's still head, walked by the cheap steps of the quiet walk. (and what follows on it). -/
import Derived.Test.YtgdpkkjfcdhmdaaGreatDoorS0
import Derived.Test.YtgdpkkjfcdhmdaaGreatDoorS10
import Derived.BigQuiet
import Derived.StillTailTactics
import Derived.Lib.TrailingZeros
import Derived.WalkKit
import Derived.Lib.Hide
import Derived.Deep.QuietTactic
namespace Go.Proofs.YtgdpkkjfcdhmdaaGreatDoor
theorem wpStill_of_quiet{P:Program}{ops:Array Oper}{W:World}{Q:Act->Prop}:∀(l:List Oper) (a:Act),wpQuiet P ops (λ x=>x=W) Q l a->wpStill P ops W Q l a
 |[],_,h=>h
 |o::rest,a,h=>by
  unfold wpQuiet at h;unfold wpStill
  split
  ·rename_i hw;rw[if_pos hw] at h;obtain⟨v,hv,hk⟩:=h;have hW:=hv W rfl;unfold Oper.quietAt at hW;unfold Oper.still;generalize(execOp a.eval o).run P W=res at*;cases res with
   |ok n w'=>
    cases n<;>simp only[Oper.quietUpon,Oper.stillUpon] at hW⊢
    case value u=>obtain⟨h1,rfl⟩:=hW;exact⟨h1,wpStill_of_quiet rest _ hk⟩
    case skip=>obtain⟨h1,rfl⟩:=hW;exact⟨h1,wpStill_of_quiet rest _ hk⟩
    case enter f args=>exact⟨hW.1,v,hW.2,wpStill_of_quiet rest _ hk⟩
   |halt x w'=>cases x<;>simp only[Oper.quietUpon] at hW
  ·rename_i hw;rw[if_neg hw] at h;exact wpStill_of_quiet rest _ h
end Go.Proofs.YtgdpkkjfcdhmdaaGreatDoor
namespace Go.Proofs.YtgdpkkjfcdhmdaaGreatDoor.Pl
theorem ctz_spec(r:Nat)(h0:r≠0)(h:r<4294967296):Lib.ctz 32 r<32/\r.testBit (Lib.ctz 32 r)=true/\∀j,j<Lib.ctz 32 r->r.testBit j=false:=by
 obtain⟨m,hm,hk⟩:=Lib.ctzFrom_spec 32 r (by omega) (by omega);have e:Lib.ctz 32 r=Lib.ctzFrom 32 r:=by simp[Lib.ctz,h0]
 rw[e];refine⟨hk,?_,?_⟩
 ·conv=>lhs;arg 1;rw[hm]
  rw[Nat.mul_comm,Nat.testBit_mul_two_pow];simp
 ·intro j hj;rw[hm,Nat.mul_comm,Nat.testBit_mul_two_pow];simp;omega
theorem and_pred(r:Nat)(h0:r≠0)(h:r<4294967296)(j:Nat):(r&&&(r-1)).testBit j=(r.testBit j&&decide (j≠Lib.ctz 32 r)):=by
 obtain⟨m,hm,hk⟩:=Lib.ctzFrom_spec 32 r (by omega) (by omega);have e:Lib.ctz 32 r=Lib.ctzFrom 32 r:=by simp[Lib.ctz,h0]
 rw[e];generalize Lib.ctzFrom 32 r=k at*;have e2:r-1=2^k*(2*m)+(2^k-1):=by
  have:=Nat.two_pow_pos k;rw[hm,Nat.mul_add,Nat.mul_one];omega
 have hr:∀i,r.testBit i=(decide (k<=i)&&(2*m+1).testBit (i-k)):=λ i=>by
  rw[hm,Nat.mul_comm,Nat.testBit_mul_two_pow]
 have hp:∀i,(r-1).testBit i=if i<k then true else(2*m).testBit (i-k):=λ i=>by
  rw[e2];rw[Nat.testBit_two_pow_mul_add _ (by have:=Nat.two_pow_pos k;omega)]
  split
  ·rw[Nat.testBit_two_pow_sub_one];simp;assumption
  ·rfl
 rw[Nat.testBit_and,hr,hp];by_cases h1:j<k
 ·simp[h1];intro h;omega
 ·rw[if_neg h1];by_cases h2:j=k
  ·subst h2;simp
  ·obtain⟨d,rfl⟩:∃d,j=k+(d+1):=⟨j-k-1,by omega⟩
   have e3:k+(d+1)-k=d+1:=by omega
   rw[e3,Nat.testBit_succ,Nat.testBit_succ];have a1:(2*m+1)/2=m:=by omega
   have a2:(2*m)/2=m:=by omega
   rw[a1,a2];simp
theorem and_pred_lt(r:Nat)(h0:r≠0):r&&&(r-1)<r:=by
 have:=@Nat.and_le_right r (r-1);omega
def sub(a b:Nat):Bool:=(a&&&(4294967295-b))==0
theorem sub_iff(a b:Nat)(ha:a<4294967296)(hb:b<4294967296):sub a b=true↔∀j,a.testBit j=true->b.testBit j=true:=by
 unfold sub;rw[beq_iff_eq];have hbit:∀j,j<32->(4294967295-b).testBit j=!b.testBit j:=λ j hj=>by
  have e:4294967295-b=2^32-(b+1):=by omega
  rw[e,Nat.testBit_two_pow_sub_succ (by omega)];simp[hj]
 have hz:∀j,32<=j->a.testBit j=false:=λ j hj=>Nat.testBit_lt_two_pow (Nat.lt_of_lt_of_le (by omega:a<2^32) (Nat.pow_le_pow_right (by omega) hj))
 constructor
 ·intro h j hj;have:=congrArg (λ x=>x.testBit j) h;simp only[Nat.testBit_and,Nat.zero_testBit,hj,Bool.true_and] at this;by_cases h32:j<32
  ·rw[hbit j h32] at this;simpa using this
  ·rw[hz j (by omega)] at hj;cases hj
 ·intro h;apply Nat.eq_of_testBit_eq;intro j;rw[Nat.testBit_and,Nat.zero_testBit];by_cases h32:j<32
  ·rw[hbit j h32];cases hj:a.testBit j with
   |false=>simp
   |true=>simp[h j hj]
  ·rw[hz j (by omega)];simp
def bndFrom(s:Nat->Nat)(set:Nat):Nat->Nat->Int
 |0,_=> -1
 |f+1,i=>if set.testBit i&&sub set (s i) then(i:Int) else bndFrom s set f (i+1)
def bnd(s:Nat->Nat)(set:Nat):Int:=bndFrom s set 32 0
theorem bndFrom_skip(s:Nat->Nat)(set:Nat):∀(d f i:Nat),(∀j,i<=j->j<i+d->(set.testBit j&&sub set (s j))=false)->bndFrom s set (f+d) i=bndFrom s set f (i+d)
 |0,f,i,_=>rfl
 |d+1,f,i,h=>by
  have h0:=h i (by omega) (by omega);rw[show f+(d+1)=(f+d)+1 by omega,bndFrom,h0];simp only[Bool.false_eq_true,if_false];rw[bndFrom_skip s set d f (i+1) (λ j h1 h2=>h j (by omega) (by omega)),show i+1+d=i+(d+1) by omega]
theorem bnd_at(s:Nat->Nat)(set k:Nat)(hk:k<32)(hb:∀j,j<k->(set.testBit j&&sub set (s j))=false)(h:(set.testBit k&&sub set (s k))=true):bnd s set=k:=by
 unfold bnd;have:=bndFrom_skip s set k (32-k) 0 (λ j _ h2=>hb j (by omega));rw[show 32-k+k=32 by omega,Nat.zero_add] at this;rw[this,show 32-k=(31-k)+1 by omega,bndFrom,if_pos h]
theorem bnd_none(s:Nat->Nat)(set:Nat)(hb:∀j,j<32->(set.testBit j&&sub set (s j))=false):bnd s set= -1:=by
 unfold bnd;have:=bndFrom_skip s set 32 0 0 (λ j _ h2=>hb j (by omega));rw[Nat.zero_add] at this;rw[this];rfl
theorem bnd_cases(s:Nat->Nat)(set:Nat):(bnd s set= -1/\∀j,j<32->(set.testBit j&&sub set (s j))=false)\/∃k:Nat,k<32/\bnd s set=k/\(set.testBit k&&sub set (s k))=true/\∀j,j<k->(set.testBit j&&sub set (s j))=false:=by
 by_cases h:∃k,k<32/\(set.testBit k&&sub set (s k))=true
 ·have:∀n,(∃k,k<n/\k<32/\(set.testBit k&&sub set (s k))=true)->∃k,k<32/\(set.testBit k&&sub set (s k))=true/\∀j,j<k->(set.testBit j&&sub set (s j))=false:=by
   intro n
   induction n with
   |zero=>rintro⟨k,hk,_⟩;omega
   |succ n ih=>
    rintro⟨k,hk,h32,h⟩;by_cases hl:∃k,k<n/\k<32/\(set.testBit k&&sub set (s k))=true
    ·exact ih hl
    ·obtain rfl:k=n:=by
      by_cases e:k=n
      ·exact e
      ·exact absurd ⟨k,by omega,h32,h⟩ hl
     refine⟨k,h32,h,λ j hj=> ?_⟩;cases hj':set.testBit j&&sub set (s j) with
     |false=>rfl
     |true=>exact absurd ⟨j,hj,by omega,hj'⟩ hl
  obtain⟨k,hk,h1,h2⟩:=this 32 (by obtain⟨k,hk,h⟩:=h;exact⟨k,hk,hk,h⟩);exact Or.inr ⟨k,hk,bnd_at s set k hk h2 h1,h1,h2⟩
 ·refine Or.inl ⟨?_,?_⟩
  ·exact bnd_none s set λ j hj=>by
    cases hj':set.testBit j&&sub set (s j) with
    |false=>rfl
    |true=>exact absurd ⟨j,hj,hj'⟩ h
  ·intro j hj;cases hj':set.testBit j&&sub set (s j) with
   |false=>rfl
   |true=>exact absurd ⟨j,hj,hj'⟩ h
theorem bnd_lo(s:Nat->Nat)(set:Nat): -1<=bnd s set/\bnd s set<32:=by
 rcases bnd_cases s set with⟨h,_⟩|⟨k,hk,h,_⟩<;>omega
def BI(s:Nat->Nat)(set x k:Nat):Prop:=(∀j,x.testBit j=(set.testBit j&&decide (k<=j)))/\∀j,j<k->(set.testBit j&&sub set (s j))=false
theorem BI.start(s:Nat->Nat)(set:Nat):BI s set set 0:=⟨λ j=>by simp,λ j h=>by omega⟩
theorem BI.none{s:Nat->Nat}{set k:Nat}(h:BI s set 0 k):bnd s set= -1:=by
 refine bnd_none s set λ j hj=> ?_
 by_cases hjk:j<k
 ·exact h.2 j hjk
 ·have:=h.1 j;rw[Nat.zero_testBit] at this;have h1:decide (k<=j)=true:=by simp;omega
  rw[h1,Bool.and_true] at this;rw[<-this];rfl
theorem BI.low{s:Nat->Nat}{set x k:Nat}(h:BI s set x k)(hx0:x≠0)(hx:x<4294967296):
  set.testBit (Lib.ctz 32 x)=true/\∀j,j<Lib.ctz 32 x->(set.testBit j&&sub set (s j))=false:=by
 obtain⟨c1,c2,c3⟩:=ctz_spec x hx0 hx;have hbi:=h.1 (Lib.ctz 32 x);rw[c2] at hbi;have h1:set.testBit (Lib.ctz 32 x)=true:=by
  cases h:set.testBit (Lib.ctz 32 x)<;>simp[h] at hbi;rfl
 refine⟨h1,λ j hj=> ?_⟩;by_cases hjk:j<k
 ·exact h.2 j hjk
 ·have:=h.1 j;rw[c3 j hj] at this;have h2:decide (k<=j)=true:=by simp;omega
  rw[h2,Bool.and_true] at this;rw[<-this];rfl
theorem BI.found{s:Nat->Nat}{set x k:Nat}(h:BI s set x k)(hx0:x≠0)(hx:x<4294967296)(hs:sub set (s (Lib.ctz 32 x))=true):bnd s set=Lib.ctz 32 x:=by
 obtain⟨h1,h2⟩:=h.low hx0 hx;exact bnd_at s set _ (ctz_spec x hx0 hx).1 h2 (by rw[h1,hs];rfl)
theorem BI.next{s:Nat->Nat}{set x k:Nat}(h:BI s set x k)(hx0:x≠0)(hx:x<4294967296)(hs:sub set (s (Lib.ctz 32 x))=false):BI s set (x&&&(x-1)) (Lib.ctz 32 x+1):=by
 obtain⟨h1,h2⟩:=h.low hx0 hx;obtain⟨c1,c2,c3⟩:=ctz_spec x hx0 hx;have hk:k<=Lib.ctz 32 x:=by
  have:=h.1 (Lib.ctz 32 x);rw[c2] at this;by_cases hk:k<=Lib.ctz 32 x
  ·exact hk
  ·rw[show decide (k<=Lib.ctz 32 x)=false by simp;omega] at this;simp at this
 refine⟨λ j=> ?_,λ j hj=> ?_⟩
 ·rw[and_pred x hx0 hx,h.1 j];by_cases e:j=Lib.ctz 32 x
  ·subst e;simp
  ·by_cases hj:j<Lib.ctz 32 x
   ·have h3:=c3 j hj;rw[h.1 j] at h3;rw[h3];have:decide (Lib.ctz 32 x+1<=j)=false:=by simp;omega
    rw[this];simp
   ·have e1:decide (k<=j)=true:=by simp;omega
    have e2:decide (Lib.ctz 32 x+1<=j)=true:=by simp;omega
    rw[e1,e2];simp[e]
 ·by_cases e:j=Lib.ctz 32 x
  ·subst e;rw[hs];simp
  ·exact h2 j (by omega)
end Go.Proofs.YtgdpkkjfcdhmdaaGreatDoor.Pl
namespace Go.Proofs.YtgdpkkjfcdhmdaaGreatDoor
def upd(f:Nat->Nat)(i v:Nat):Nat->Nat:=λ j=>if j=i then v else f j
def up0(k:Nat):Nat->Nat:=λ j=>if j<k then 2^j else 0
theorem up0_zero:up0 0=λ _=>0:=by funext j;simp[up0]
theorem up0_succ(k:Nat):upd (up0 k) k (2^k)=up0 (k+1):=by
 funext j;unfold upd up0
 by_cases h:j=k
 ·subst h;simp
 ·rw[if_neg h];by_cases h2:j<k
  ·rw[if_pos h2,if_pos (by omega)]
  ·rw[if_neg h2,if_neg (by omega)]
def okP(n:Nat)(p:Int×Int):Bool:=decide (0<=p.1)&&decide (p.1<n)&&(decide (0<=p.2)&&decide (p.2<n))
def addP(up:Nat->Nat)(p:Int×Int):Nat->Nat:=upd up p.1.toNat (up p.1.toNat|||2^p.2.toNat)
def addPairs(n:Nat):List (Int×Int)->(Nat->Nat)->Option (Nat->Nat)
 |[],up=>some up
 |p::r,up=>if okP n p then addPairs n r (addP up p) else none
def stepC(k:Nat)(up:Nat->Nat)(i:Nat):Nat->Nat:=if(up i).testBit k then upd up i (up i|||up k) else up
def closeI(n k:Nat)(up:Nat->Nat):Nat->Nat:=(List.range n).foldl (stepC k) up
def closeAll(n:Nat)(up:Nat->Nat)(m:Nat):Nat->Nat:=(List.range m).foldl (λ u k=>closeI n k u) up
def stepD(up:Nat->Nat)(i:Nat)(d:Nat->Nat)(k:Nat):Nat->Nat:=if(up i).testBit k then upd d k (d k|||2^i) else d
def downI(n:Nat)(up:Nat->Nat)(i:Nat)(d:Nat->Nat):Nat->Nat:=(List.range n).foldl (stepD up i) d
def downAll(n:Nat)(up:Nat->Nat)(m:Nat):Nat->Nat:=(List.range m).foldl (λ d i=>downI n up i d) (λ _=>0)
def okLoop(up dn:Nat->Nat)(i:Nat):Bool:=(up i&&&dn i)==2^i
def whole2(s:Nat->Nat)(i k:Nat):Bool:=decide (0<=Pl.bnd s (s i&&&s k))
def whole1(n:Nat)(s:Nat->Nat)(i:Nat):Bool:=(List.range n).all (whole2 s i)
def whole(n:Nat)(s:Nat->Nat):Bool:=(List.range n).all (whole1 n s)
theorem range_foldl_succ{α:Type}(f:α->Nat->α)(a:α)(k:Nat):(List.range (k+1)).foldl f a=f ((List.range k).foldl f a) k:=by
 rw[List.range_succ,List.foldl_append];rfl
theorem range_all_succ(f:Nat->Bool)(k:Nat):(List.range (k+1)).all f=((List.range k).all f&&f k):=by
 rw[List.range_succ,List.all_append];simp
theorem range_all_false{f:Nat->Bool}{k n:Nat}(hk:k<n)(h:f k=false):(List.range n).all f=false:=by
 rw[List.all_eq_false];exact⟨k,List.mem_range.2 hk,by simp[h]⟩
theorem addPairs_step(n:Nat)(ps:List (Int×Int))(u:Nat->Nat)(j:Nat)(hj:j<ps.length):
  addPairs n (ps.drop j) u=if okP n (ps.getD j (0,0)) then addPairs n (ps.drop (j+1)) (addP u (ps.getD j (0,0))) else none:=by
 rw[List.drop_eq_getElem_cons hj,List.getD_eq_getElem?_getD,List.getElem?_eq_getElem hj];rfl
theorem okP_in(n x y:Nat)(hx:x<n)(hy:y<n):okP n ((x:Int),(y:Int))=true:=by
 simp[okP];omega
theorem okP_out(n:Nat)(x y:Int)(h:¬(0<=x/\x<n/\0<=y/\y<n)):okP n (x,y)=false:=by
 cases e:okP n (x,y) with
 |false=>rfl
 |true=>simp[okP] at e;exact absurd ⟨e.1.1,e.1.2,e.2.1,e.2.2⟩ h
def newL(n:Nat)(ps:List (Int×Int)):Nat×(Nat->Nat)×(Nat->Nat):=
 match addPairs n ps (up0 n) with
 |none=>(3,λ _=>0,λ _=>0)
 |some u=>
  let up:=closeAll n u n
  let dn:=downAll n up n
  if(List.range n).all (okLoop up dn) then(if whole n up&&whole n dn then(0,up,dn) else(4,λ _=>0,λ _=>0)) else(9,λ _=>0,λ _=>0)
theorem newL_none{n:Nat}{ps:List (Int×Int)}(h:addPairs n ps (up0 n)=none):newL n ps=(3,λ _=>0,λ _=>0):=by unfold newL;rw[h]
theorem newL_loop{n:Nat}{ps:List (Int×Int)}{u:Nat->Nat}(h:addPairs n ps (up0 n)=some u)(h2:(List.range n).all (okLoop (closeAll n u n) (downAll n (closeAll n u n) n))=false):newL n ps=(9,λ _=>0,λ _=>0):=by
 unfold newL;rw[h];simp only[h2,Bool.false_eq_true,if_false]
theorem newL_form{n:Nat}{ps:List (Int×Int)}{u:Nat->Nat}(h:addPairs n ps (up0 n)=some u)(h2:(List.range n).all (okLoop (closeAll n u n) (downAll n (closeAll n u n) n))=true)
  (h3:(whole n (closeAll n u n)&&whole n (downAll n (closeAll n u n) n))=false):newL n ps=(4,λ _=>0,λ _=>0):=by
 unfold newL;rw[h];simp only[h2,if_true,h3,Bool.false_eq_true,if_false]
theorem newL_ok{n:Nat}{ps:List (Int×Int)}{u:Nat->Nat}(h:addPairs n ps (up0 n)=some u)(h2:(List.range n).all (okLoop (closeAll n u n) (downAll n (closeAll n u n) n))=true)
  (h3:(whole n (closeAll n u n)&&whole n (downAll n (closeAll n u n) n))=true):newL n ps=(0,closeAll n u n,downAll n (closeAll n u n) n):=by
 unfold newL;rw[h];simp only[h2,if_true,h3]
end Go.Proofs.YtgdpkkjfcdhmdaaGreatDoor
namespace Go.Proofs.YtgdpkkjfcdhmdaaGreatDoor
open Go.RowKit
set_option maxHeartbeats 400000 in
theorem tz32_core(x k idx:Nat)(w:World)(hx0:((x:Int)==0)=false)
  (key:bits BinOp.and IntKind.u32 (x:Int) (-(x:Int)%4294967296)*125613361%4294967296/134217728=(idx:Int))
  (hi:idx<32)(hk:k<32)(hcell:w.cell? ⟨2,idx,none⟩=some (.int .u8 k)):
  Calls Tryz.prog 85 #[.int .u32 x] w λ e w'=>e= .returned (.int .i64 k)/\w=w':=by
 go_enter Tryz.func85,Tryz.ntmps85
 go_wp2_with(simp only[key])
 go_ret
 exact⟨rfl,rfl⟩
theorem tz32_key(x a:Nat)(hx:x<4294967296)(hx0:x≠0)(hlow:x&&&(4294967296-x)=a):
  bits BinOp.and IntKind.u32 (x:Int) (-(x:Int)%4294967296)*125613361%4294967296/134217728=((a*125613361%4294967296/134217728:Nat):Int):=by
 have e1: -(x:Int)%4294967296=((4294967296-x:Nat):Int):=by omega
 rw[e1,u32_and_nat x _ hx (by omega),hlow];omega
def Tab(w:World):Prop:=∀i,i<32->w.cell? ⟨2,i,none⟩=some (.int .u8 (Lib.deBruijn32tab.getD i 0))
theorem tz32(x:Nat)(hx0:x≠0)(hx:x<4294967296)(w:World)(hT:Tab w):
  Calls Tryz.prog 85 #[.int .u32 x] w λ e w'=>e= .returned (.int .i64 (Lib.ctz 32 x))/\w=w':=by
 obtain⟨hlow,hk⟩:=Lib.lowest_bit 32 x hx0 hx;obtain⟨hi,htab⟩:=Lib.deBruijn32_at _ hk;have hcell:=hT _ hi;rw[htab] at hcell;exact tz32_core x _ _ w (by simp;omega) (tz32_key x _ hx hx0 hlow) hi hk hcell
def isB(n:Nat)(a:Int):Bool:=decide (0<=a)&&decide (a<n)
set_option maxHeartbeats 400000 in
theorem is_any(a:Int)(n b:Nat)(w:World)(hn:w.cell? ⟨b,0,none⟩=some (.int .i64 n)):
  Calls Tryz.prog 84 #[.pointer (some ⟨b,0,none⟩),.int .i64 a] w λ e w'=>e= .returned (.bool (isB n a))/\w=w':=by
 by_cases h0:0<=a
 ·go_enter Tryz.func84,Tryz.ntmps84
  go_wp2
  go_ret
  exact⟨by simp[isB,h0],rfl⟩
 ·have h1:decide (0<=a)=false:=by simpa using h0
  go_enter Tryz.func84,Tryz.ntmps84
  go_wp2
  go_ret
  exact⟨by simp[isB];omega,rfl⟩
set_option maxHeartbeats 400000 in
theorem bound_any(b off set:Nat)(s:Nat->Nat)(w:World)(hT:Tab w)(hset:set<4294967296)(hs:∀i,i<32->s i<4294967296)
  (hc:∀i,i<32->w.cell? ⟨b,off+i,none⟩=some (.int .u32 (s i))):
  Calls Tryz.prog 42 #[.pointer (some ⟨b,off,none⟩),.int .u32 set] w λ e w'=>e= .returned (.int .i64 (Pl.bnd s set))/\w=w':=by
 have HT:=Z hT;have HC:=Z hc;have HS:=Z hs;clear hT hc hs;go_enter Tryz.func42,Tryz.ntmps42
 go_wp2_with fail
 go_loop [5] (λ r=>∃x k:Nat,x<4294967296/\r= .int .u32 x/\Pl.BI s set x k) (λ r=>(intOf r).toNat)
 case atStart=>exact⟨set,0,hset,rfl,Pl.BI.start s set⟩
 case round=>
  obtain⟨x,k,hx,rfl,hb⟩:=hrel;by_cases hx0:x=0
  ·subst hx0;have Hfin:=Z hb.none
   go_wp2_with fail
   go_ret
   exact⟨by rw[Hfin.o];rfl,rfl⟩
  ·have hx1:((x:Int) !=0)=true:=by simp;omega
   obtain⟨c1,_,_⟩:=Pl.ctz_spec x hx0 hx;have Hf:=Z (hb.found hx0 hx);have Hn:=Z (hb.next hx0 hx);have hlt:=Pl.and_pred_lt x hx0;clear hb;have hz:=tz32 x hx0 hx w HT.o;generalize Lib.ctz 32 x=i at*;have Hz:=Z hz;have hci:=HC.o i c1;have hsi:=HS.o i c1;have hand:bits BinOp.andNot IntKind.u32 (set:Int) (s i:Int)=((set&&&(4294967295-s i):Nat):Int):=u32_andNot_nat _ _ hset hsi;clear hz;cases hsub:Pl.sub set (s i) with
   |true=>
    have hz:(((set&&&(4294967295-s i):Nat):Int)==0)=true:=by
     unfold Pl.sub at hsub;rw[beq_iff_eq] at hsub⊢;omega
    have Hfin:=Z (Hf.o hsub);clear hsub
    go_wp2_with fail
    refine Hz.o.mono ?_;rintro e w' ⟨rfl,rfl⟩
    go_wp2_with fail
    go_ret
    exact⟨by rw[Hfin.o];rfl,rfl⟩
   |false=>
    have hz:(((set&&&(4294967295-s i):Nat):Int)==0)=false:=by
     unfold Pl.sub at hsub;rw[beq_eq_false_iff_ne] at hsub⊢;omega
    have Hfin:=Z (Hn.o hsub);have hand2:bits BinOp.and IntKind.u32 (x:Int) ((x:Int)-1)=((x&&&(x-1):Nat):Int):=by
     rw[show(x:Int)-1=((x-1:Nat):Int) by omega];exact u32_and_nat _ _ hx (by omega)
    clear hsub
    go_wp2_with fail
    refine Hz.o.mono ?_;rintro e w' ⟨rfl,rfl⟩
    go_wp2_with fail
    go_round
    case rel=>exact⟨_,_,by omega,rfl,Hfin.o⟩
    case measure=>simp only[intOf];omega
structure LatC (w:World) (b n:Nat) (up dn:Nat->Nat):Prop where
 hn:w.cell? ⟨b,0,none⟩=some (.int .i64 n)
 hup:∀i,i<32->w.cell? ⟨b,1+i,none⟩=some (.int .u32 (up i))
 hdn:∀i,i<32->w.cell? ⟨b,33+i,none⟩=some (.int .u32 (dn i))
 bup:∀i,i<32->up i<4294967296
 bdn:∀i,i<32->dn i<4294967296
 n32:n<=32
theorem bit_test(x j:Nat)(hx:x<4294967296):(bits BinOp.and IntKind.u32 ((x:Int)/2^j) 1==1)=x.testBit j:=by
 have e:(x:Int)/2^j=((x/2^j:Nat):Int):=by simp
 have hl:x/2^j<4294967296:=Nat.lt_of_le_of_lt (Nat.div_le_self _ _) hx;rw[e,show(1:Int)=((1:Nat):Int) from rfl,u32_and_nat _ 1 hl (by decide),nat_mask1,Nat.testBit_eq_decide_div_mod_eq,Bool.eq_iff_iff];simp only[beq_iff_eq,decide_eq_true_eq];omega
theorem and_u32(x y:Nat)(hx:x<4294967296)(hy:y<4294967296):bits BinOp.and IntKind.u32 (x:Int) (y:Int)=((x&&&y:Nat):Int):=u32_and_nat x y hx hy
theorem and_lt32(x y:Nat)(hx:x<4294967296):x&&&y<4294967296:=Nat.lt_of_le_of_lt Nat.and_le_left hx
def leB(n:Nat)(up:Nat->Nat)(a b:Int):Bool:=isB n a&&isB n b&&(up a.toNat).testBit b.toNat
set_option maxHeartbeats 400000 in
theorem le_any(b n:Nat)(up dn:Nat->Nat)(x y:Int)(w:World)(h:LatC w b n up dn):
  Calls Tryz.prog 40 #[.pointer (some ⟨b,0,none⟩),.int .i64 x,.int .i64 y] w λ e w'=>e= .returned (.bool (leB n up x y))/\w=w':=by
 have H:=Z h;clear h;cases hx:isB n x with
 |false=>
  have Hx:=Z hx;clear hx;go_enter Tryz.func40,Tryz.ntmps40
  go_wp2_with fail
  refine(is_any x n b _ H.o.hn).mono ?_;rintro e w' ⟨rfl,rfl⟩;rw[Hx.o]
  go_wp2_with fail
  go_ret
  exact⟨by simp[leB,Hx.o],rfl⟩
 |true=>
  cases hy:isB n y with
  |false=>
   have Hx:=Z hx;have Hy:=Z hy;clear hx hy;go_enter Tryz.func40,Tryz.ntmps40
   go_wp2_with fail
   refine(is_any x n b _ H.o.hn).mono ?_;rintro e w' ⟨rfl,rfl⟩;rw[Hx.o]
   go_wp2_with fail
   refine(is_any y n b _ H.o.hn).mono ?_;rintro e w' ⟨rfl,rfl⟩;rw[Hy.o]
   go_wp2_with fail
   go_ret
   exact⟨by simp[leB,Hy.o],rfl⟩
  |true=>
   have Hx:=Z hx;have Hy:=Z hy;simp[isB] at hx hy;obtain⟨i,rfl⟩:=Int.eq_ofNat_of_zero_le hx.1;obtain⟨j,rfl⟩:=Int.eq_ofNat_of_zero_le hy.1;have hn:=H.o.n32;have hc:=H.o.hup i (by omega);have hb:=H.o.bup i (by omega);have hi:i<32:=by omega
   have hj:j<32:=by omega
   clear hx hy;go_enter Tryz.func40,Tryz.ntmps40
   go_wp2_with fail
   refine(is_any _ n b _ H.o.hn).mono ?_;rintro e w' ⟨rfl,rfl⟩;rw[Hx.o]
   go_wp2_with fail
   refine(is_any _ n b _ H.o.hn).mono ?_;rintro e w' ⟨rfl,rfl⟩;rw[Hy.o]
   go_wp2_with fail
   go_ret
   refine⟨?_,rfl⟩;simp[leB,Hx.o,Hy.o];exact bit_test _ _ hb
theorem bound_q(b off set:Nat)(s:Nat->Nat)(w:World)(hT:Tab w)(hset:set<4294967296)(hs:∀i,i<32->s i<4294967296)
  (hc:∀i,i<32->w.cell? ⟨b,off+i,none⟩=some (.int .u32 (s i)))(n:Nat):
  Calls Tryz.prog 42 #[.pointer (some ⟨b,off,none⟩),.int .u32 set] (w.drewN n) λ e w'=>e= .returned (.int .i64 (Pl.bnd s set))/\∃m,w'=w.drewN m:=
 (bound_any b off set s _ (λ i h=>by rw[World.cell?_drewN];exact hT i h) hset hs (λ i h=>by rw[World.cell?_drewN];exact hc i h)).mono λ _ _ h=>⟨h.1,n,h.2.symm⟩
set_option maxHeartbeats 400000 in
set_option maxRecDepth 100000 in
theorem new_lo(n:Int)(v:Value)(w:World)(h:n<1):
  Calls Tryz.prog 14 #[.int .i64 n,v] w λ e w'=>e= .returned (.tuple #[.pointer none,.int .i64 3])/\Below w.heap.size w w':=by
 go_enter Tryz.func14,Tryz.ntmps14
 go_wp2_with fail
 go_ret2
 exact⟨rfl,(Below.refl _ _).alloc (Nat.le_refl _) _⟩
set_option maxHeartbeats 400000 in
set_option maxRecDepth 100000 in
theorem new_hi(n:Int)(v:Value)(w:World)(h:32<n):
  Calls Tryz.prog 14 #[.int .i64 n,v] w λ e w'=>e= .returned (.tuple #[.pointer none,.int .i64 3])/\Below w.heap.size w w':=by
 have h1:decide (n<1)=false:=by simp;omega
 go_enter Tryz.func14,Tryz.ntmps14
 go_wp2_with fail
 go_ret2
 exact⟨rfl,(Below.refl _ _).alloc (Nat.le_refl _) _⟩
set_option maxHeartbeats 400000 in
set_option maxRecDepth 100000 in
theorem new_long(n:Int)(a:Option Addr)(len cap:Nat)(w:World)(h1:1<=n)(h2:n<=32)(h:1024<len):
  Calls Tryz.prog 14 #[.int .i64 n,.slice a len cap] w λ e w'=>e= .returned (.tuple #[.pointer none,.int .i64 5])/\Below w.heap.size w w':=by
 have h3:decide (n<1)=false:=by simp;omega
 have h4:(1024:Int)<len:=by omega
 go_enter Tryz.func14,Tryz.ntmps14
 go_wp2_with fail
 go_ret2
 exact⟨rfl,(Below.refl _ _).alloc (Nat.le_refl _) _⟩
theorem zc169:Tryz.zeroCells112=(Value.int .i64 0::List.replicate 64 (Value.int .u32 0)).toArray:=by kernel_rfl
structure LatW (w0 wr:World) (B n:Nat) (up dn:Nat->Nat):Prop where
 below:Below B w0 wr
 box:wr.cell? ⟨B,0,none⟩=some (.int .i64 n)
 lat:LatC wr (B+1) n up dn
 fz:∀o,wr.frozen? ⟨B+1,o,none⟩=false
 size:B+1<wr.heap.size
theorem LatW.drew{w0 wr:World}{B n:Nat}{up dn:Nat->Nat}(h:LatW w0 wr B n up dn):LatW w0 wr.drew B n up dn:=
 ⟨h.below.drew,h.box,⟨h.lat.hn,h.lat.hup,h.lat.hdn,h.lat.bup,h.lat.bdn,h.lat.n32⟩,h.fz,h.size⟩
theorem LatW.drewN{w0 wr:World}{B n k:Nat}{up dn:Nat->Nat}(h:LatW w0 wr B n up dn):LatW w0 (wr.drewN k) B n up dn:=
 ⟨⟨h.below.os,h.below.tape,h.below.output,h.below.size,h.below.block⟩,h.box,⟨h.lat.hn,h.lat.hup,h.lat.hdn,h.lat.bup,h.lat.bdn,h.lat.n32⟩,h.fz,h.size⟩
theorem LatW.alloc{w0 wr:World}{B n:Nat}{up dn:Nat->Nat}(h:LatW w0 wr B n up dn)(o:Obj):LatW w0 (wr.alloc o) B n up dn:=by
 have hs:=h.size;have hc:∀j k,j<wr.heap.size->(wr.alloc o).cell? ⟨j,k,none⟩=wr.cell? ⟨j,k,none⟩:=λ j k hj=>World.cell?_alloc_lt _ _ _ hj
 refine⟨h.below.alloc (by omega) o,?_,⟨?_,?_,?_,h.lat.bup,h.lat.bdn,h.lat.n32⟩,?_,by simp;omega⟩
 ·rw[hc _ _ (by omega)];exact h.box
 ·rw[hc _ _ (by omega)];exact h.lat.hn
 ·intro i hi;rw[hc _ _ (by omega)];exact h.lat.hup i hi
 ·intro i hi;rw[hc _ _ (by omega)];exact h.lat.hdn i hi
 ·intro k;rw[World.frozen?_alloc_past _ _ _ (by omega)];exact h.fz k
theorem LatW.setUp{w0 wr:World}{B n i v:Nat}{up dn:Nat->Nat}(h:LatW w0 wr B n up dn)(hi:i<32)(hv:v<4294967296):
  LatW w0 (wr.setCell ⟨B+1,1+i,none⟩ (.int .u32 v)) B n (upd up i v) dn:=by
 have ho:∀a:Addr,a≠⟨B+1,1+i,none⟩->(wr.setCell ⟨B+1,1+i,none⟩ (.int .u32 v)).cell? a=wr.cell? a:=λ a ha=>World.cell?_setCell_other _ _ _ _ (Ne.symm ha)
 refine⟨h.below.setCell (by show B<=B+1;omega) _,?_,⟨?_,?_,?_,?_,h.lat.bdn,h.lat.n32⟩,?_,by simp[World.setCell];exact h.size⟩
 ·rw[ho _ (by simp)];exact h.box
 ·rw[ho _ (by simp<;>omega)];exact h.lat.hn
 ·intro j hj;by_cases e:j=i
  ·subst e;rw[World.cell?_setCell_same _ _ _ (h.lat.hup j hj)];simp[upd]
  ·rw[ho _ (by simp<;>omega)];simp only[upd,if_neg e];exact h.lat.hup j hj
 ·intro j hj;rw[ho _ (by simp<;>omega)];exact h.lat.hdn j hj
 ·intro j hj;unfold upd;split;exact hv;exact h.lat.bup j hj
 ·intro k;rw[World.frozen?_setCell];exact h.fz k
theorem LatW.setDn{w0 wr:World}{B n i v:Nat}{up dn:Nat->Nat}(h:LatW w0 wr B n up dn)(hi:i<32)(hv:v<4294967296):
  LatW w0 (wr.setCell ⟨B+1,33+i,none⟩ (.int .u32 v)) B n up (upd dn i v):=by
 have ho:∀a:Addr,a≠⟨B+1,33+i,none⟩->(wr.setCell ⟨B+1,33+i,none⟩ (.int .u32 v)).cell? a=wr.cell? a:=λ a ha=>World.cell?_setCell_other _ _ _ _ (Ne.symm ha)
 refine⟨h.below.setCell (by show B<=B+1;omega) _,?_,⟨?_,?_,?_,h.lat.bup,?_,h.lat.n32⟩,?_,by simp[World.setCell];exact h.size⟩
 ·rw[ho _ (by simp)];exact h.box
 ·rw[ho _ (by simp<;>omega)];exact h.lat.hn
 ·intro j hj;rw[ho _ (by simp<;>omega)];exact h.lat.hup j hj
 ·intro j hj;by_cases e:j=i
  ·subst e;rw[World.cell?_setCell_same _ _ _ (h.lat.hdn j hj)];simp[upd]
  ·rw[ho _ (by simp<;>omega)];simp only[upd,if_neg e];exact h.lat.hdn j hj
 ·intro j hj;unfold upd;split;exact hv;exact h.lat.bdn j hj
 ·intro k;rw[World.frozen?_setCell];exact h.fz k
theorem LatW.start(w:World)(n:Nat)(hn:n<=32):
  LatW w ((w.alloc (Obj.cells #[Value.int IntKind.i64 n] 3)).alloc (Obj.cells (Tryz.zeroCells112.setIfInBounds 0 (Value.int IntKind.i64 n)) 112)) w.heap.size n (λ _=>0) (λ _=>0):=by
 have hz:∀k,k<64->(Tryz.zeroCells112.setIfInBounds 0 (Value.int IntKind.i64 n))[1+k]? =some (.int .u32 0):=λ k hk=>by
  have e:∀l:List Value,((Value.int .i64 0::l).toArray.setIfInBounds 0 (Value.int IntKind.i64 n))[1+k]? =l[k]? :=λ l=>by simp[Nat.add_comm 1 k]
  rw[zc169,e,List.getElem?_replicate,if_pos hk]
 refine⟨((Below.refl _ _).alloc (Nat.le_refl _) _).alloc (by simp) _,?_,⟨?_,?_,?_,?_,?_,hn⟩,?_,by simp⟩
 ·simp
 ·simp[zc169]
 ·intro i hi;rw[World.cell?_alloc2_new,hz i (by omega)];rfl
 ·intro i hi;rw[World.cell?_alloc2_new,show 33+i=1+(32+i) by omega,hz _ (by omega)];rfl
 ·intro i hi;simp
 ·intro i hi;simp
 ·intro o;simp
def PairsAt(w:World)(a:Option Addr)(ps:List (Int×Int)):Prop:=
 ∀i,i<ps.length->∃b o,a=some ⟨b,o,none⟩/\b<w.heap.size/\w.cell? ⟨b,o+i*2,none⟩=some (.int .i64 (ps.getD i (0,0)).1)/\w.cell? ⟨b,o+i*2+1,none⟩=some (.int .i64 (ps.getD i (0,0)).2)
theorem shl_u32(k:Nat)(h:k<32):((2:Int)^k)%4294967296=((2^k:Nat):Int):=by
 have:2^k<=2^31:=Nat.pow_le_pow_right (by decide) (by omega);have e:((2:Int)^k)=((2^k:Nat):Int):=by simp
 rw[e];generalize 2^k=x at*;omega
theorem lor_lt(x y:Nat)(hx:x<4294967296)(hy:y<4294967296):x|||y<4294967296:=Nat.or_lt_two_pow (n:=32) hx hy
theorem pow_lt32(k:Nat)(h:k<32):2^k<4294967296:=by
 have:2^k<=2^31:=Nat.pow_le_pow_right (by decide) (by omega);omega
theorem or_pow(x y:Nat)(hx:x<4294967296)(hy:y<32):bits BinOp.or IntKind.u32 (x:Int) (2^y)=((x|||2^y:Nat):Int):=by
 have:=u32_or_nat x (2^y) hx (pow_lt32 y hy);rw[<-this];simp
theorem or_u32(x y:Nat)(hx:x<4294967296)(hy:y<4294967296):bits BinOp.or IntKind.u32 (x:Int) (y:Int)=((x|||y:Nat):Int):=u32_or_nat x y hx hy
def NewPost(n:Nat)(ps:List (Int×Int))(w:World)(e:Ending)(w':World):Prop:=
 ((newL n ps).1≠0->e= .returned (.tuple #[.pointer none,.int .i64 ((newL n ps).1:Nat)]))/\
 ((newL n ps).1=0->e= .returned (.tuple #[.pointer (some ⟨w.heap.size+1,0,none⟩),.int .i64 0])/\LatC w' (w.heap.size+1) n (newL n ps).2.1 (newL n ps).2.2/\w.heap.size+1<w'.heap.size)/\
 Below w.heap.size w w'
theorem NewPost.err{n c:Nat}{ps:List (Int×Int)}{f g:Nat->Nat}{w w':World}(h:newL n ps=(c,f,g))(hc:c≠0)(hb:Below w.heap.size w w'):
  NewPost n ps w (.returned (.tuple #[.pointer none,.int .i64 c])) w':=by
 unfold NewPost;rw[h];exact⟨λ _=>rfl,λ h=>absurd h hc,hb⟩
theorem NewPost.ok{n:Nat}{ps:List (Int×Int)}{f g:Nat->Nat}{w w':World}(h:newL n ps=(0,f,g))(hb:LatW w w' w.heap.size n f g):
  NewPost n ps w (.returned (.tuple #[.pointer (some ⟨w.heap.size+1,0,none⟩),.int .i64 0])) w':=by
 unfold NewPost;rw[h];exact⟨λ h=>absurd rfl h,λ _=>⟨rfl,hb.lat,hb.size⟩,hb.below⟩
theorem Same.tab{w w':World}(h:Same w w')(hT:Tab w):Tab w':=λ i hi=>by rw[h.cell];exact hT i hi
theorem LatC.same{w w':World}{b n:Nat}{up dn:Nat->Nat}(h:LatC w b n up dn)(s:Same w w'):LatC w' b n up dn:=by
 obtain⟨m,rfl⟩:=s;exact⟨h.hn,h.hup,h.hdn,h.bup,h.bdn,h.n32⟩
set_option maxHeartbeats 1000000 in
theorem whole_any(b off c n:Nat)(s:Nat->Nat)(w:World)(hT:Tab w)(hn:n<=32)(hs:∀i,i<32->s i<4294967296)
  (hbox:w.cell? ⟨c,0,none⟩=some (.int .i64 n))
  (hc:∀i,i<32->w.cell? ⟨b,off+i,none⟩=some (.int .u32 (s i))):
  Calls Tryz.prog 41 #[.pointer (some ⟨b,off,none⟩),.pointer (some ⟨c,0,none⟩)] w λ e w'=>e= .returned (.bool (whole n s))/\Same w w':=by
 have HT:=Z hT;have HC:=Z hc;have HS:=Z hs;clear hT hc hs;go_enter Tryz.func41,Tryz.ntmps41
 go_wp2_with fail
 go_loopw [7] (λ i wr=>∃k:Nat,k<=n/\i= .int .i64 k/\Hid ((List.range k).all (whole1 n s)=true)/\Same w wr) (λ i _=>n-(intOf i).toNat)
 case atStart=>exact⟨0,by omega,rfl,rfl,Same.refl w⟩
 case round=>
  obtain⟨k,hk,rfl,hall,hS⟩:=hrel;have hbx:=(hS.cell _).trans hbox;by_cases hlt:k<n
  ·go_wp2_with fail
   go_loopw [11] (λ i wr=>∃j:Nat,j<=n/\i= .int .i64 j/\Hid ((List.range j).all (whole2 s k)=true)/\Same w wr) (λ i _=>n-(intOf i).toNat)
   case atStart=>exact⟨0,by omega,rfl,rfl,hS⟩
   case round=>
    clear hbx hS;obtain⟨j,hj,rfl,hallj,hS⟩:=hrel;have hbx:=(hS.cell _).trans hbox;by_cases hlt2:j<n
    ·have hk2:(k:Int)<32:=by omega
     have hj2:(j:Int)<32:=by omega
     have hck:=(hS.cell _).trans (HC.o k (by omega));have hcj:=(hS.cell _).trans (HC.o j (by omega));have hand:=and_u32 _ _ (HS.o k (by omega)) (HS.o j (by omega));have hcall:=Z (bound_q b off (s k&&&s j) s wr (hS.tab HT.o) (and_lt32 _ _ (HS.o k (by omega))) HS.o (λ i h=>(hS.cell _).trans (HC.o i h)));have hlo:=(Pl.bnd_lo s (s k&&&s j)).1;have hhi:=(Pl.bnd_lo s (s k&&&s j)).2;cases hw:whole2 s k j with
     |true=>
      have hd:decide (Pl.bnd s (s k&&&s j)<0)=false:=by simp[whole2] at hw⊢;omega
      have Hw:=Z hw;clear hw
      go_wp2_with fail
      go_quiet((go_at_call 42;exact hcall.o _))
      go_wp2_with fail
      go_roundw
      case rel=>exact⟨j+1,by omega,by go_num,by show _=true;rw[range_all_succ,hallj.o,Hw.o];rfl,hS.drewN _⟩
      case measure=>simp[intOf];omega
     |false=>
      have hd:Pl.bnd s (s k&&&s j)<0:=by simp[whole2] at hw;exact hw
      have Hw:=Z (show whole n s=false from range_all_false hlt (range_all_false hlt2 hw));clear hw
      go_wp2_with fail
      go_quiet((go_at_call 42;exact hcall.o _))
      go_wp2_with fail
      go_ret
      exact⟨by rw[Hw.o];rfl,hS.drewN _⟩
    ·obtain rfl:j=n:=by omega
     go_wp2_with fail
     go_roundw
     case rel=>exact⟨k+1,by omega,by go_num,by show _=true;rw[range_all_succ,hall.o,show whole1 j s k=true from hallj.o];rfl,hS⟩
     case measure=>simp[intOf];omega
  ·obtain rfl:k=n:=by omega
   go_wp2_with fail
   go_ret
   exact⟨by rw[show whole k s=true from hall.o];rfl,hS⟩
end Go.Proofs.YtgdpkkjfcdhmdaaGreatDoor
