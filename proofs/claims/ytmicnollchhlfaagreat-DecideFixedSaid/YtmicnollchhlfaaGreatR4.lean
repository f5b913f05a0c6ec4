/- Plain: the length of an operator's word, and how much it adds to a formula. -/
import Derived.Test.YtmicnollchhlfaaGreatR3
import Derived.WalkKit
set_option linter.all false
namespace Go.Proofs.YtmicnollchhlfaaGreat
open Go
theorem qQ(n:Nat)(h:n<18446744073709551616):IntKind.u64.wrap (n:Int)=n:=by rw[IntKind.wrap_u64];omega
theorem RK(n:Nat)(h:n<18446744073709551616):(BitVec.ofInt 64 (n:Int)).toNat=n:=by simp_all
theorem qR(a b:Nat)(c:a<18446744073709551616)(hb:b<18446744073709551616):bits .and .u64 (a:Int) (b:Int)=((a&&&b:Nat):Int):=by have e:(BitVec.ofInt 64 (a:Int)&&&BitVec.ofInt 64 (b:Int)).toNat=a&&&b:=by{grind};show IntKind.u64.wrap ((BitVec.ofInt 64 (a:Int)&&&BitVec.ofInt 64 (b:Int)).toNat:Int)=_;rw[e];exact qQ _ (Ay Nat.and_le_left c)
theorem xq(a b:Nat)(c:a<18446744073709551616)(d:b<18446744073709551616):bits .or .u64 (a:Int) (b:Int)=((a|||b:Nat):Int):=by have e:(BitVec.ofInt 64 (a:Int)|||BitVec.ofInt 64 (b:Int)).toNat=a|||b:=by{grind};show IntKind.u64.wrap ((BitVec.ofInt 64 (a:Int)|||BitVec.ofInt 64 (b:Int)).toNat:Int)=_;rw[e];exact qQ _ (Nat.or_lt_two_pow (n:=64) c d)
theorem xr(a b:Nat)(c:a<18446744073709551616)(d:b<18446744073709551616):bits .xor .u64 (a:Int) (b:Int)=((a^^^b:Nat):Int):=by have e:(BitVec.ofInt 64 (a:Int)^^^BitVec.ofInt 64 (b:Int)).toNat=a^^^b:=by{grind};show IntKind.u64.wrap ((BitVec.ofInt 64 (a:Int)^^^BitVec.ofInt 64 (b:Int)).toNat:Int)=_;rw[e];exact qQ _ (Nat.xor_lt_two_pow (n:=64) c d)
theorem gH{w}(h:w<=64):2^w<=18446744073709551616:=by have:2^w<=2^64:=Nat.pow_le_pow_right (by decide) h;omega
def Mm(a w:Nat):=Nat.and_two_pow_sub_one_eq_mod a w
theorem C6 a(ha:a<18446744073709551616):a^^^18446744073709551615=18446744073709551615-a:=by have h:(BitVec.ofNat 64 a^^^BitVec.allOnes 64)= ~~~ (BitVec.ofNat 64 a):=by{rw[BitVec.xor_allOnes]};have h2:=congrArg BitVec.toNat h;grind
theorem Mn a w(f:a<2^w)(g:w<=64):a|||(18446744073709551615-(2^w-1))=a+(18446744073709551616-2^w):=by have h:=gH g;have hp:0<2^w:=Au w;have c:2^w*2^(64-w)=2^64:=by{rw[<-Nat.pow_add];congr 1;omega};have e:18446744073709551616=2^w*2^(64-w):=by{rw[c]};have d:18446744073709551615-(2^w-1)=2^w*(2^(64-w)-1):=by{rw[Nat.mul_sub,<-e];omega};rw[d,Nat.or_comm,<-Nat.two_pow_add_eq_or_of_lt f,Nat.mul_sub,<-e];omega
def sgn(w a:Nat):=if 2^(w-1)<=a then(a:Int)-2^w else a
def tp w a b:=((sgn w a/(2:Int)^(min b 63))%(2:Int)^w).toNat
def b2n p[Decidable p]:=if p then 1 else 0
def fY(o w a b:Nat):=match o with|2=>2^w-1-a|3=>(2^w-a)%2^w|4=>(a+b)%2^w|5=>(a+(2^w-b))%2^w|6=>a*b%2^w|7=>if b=0 then 2^w-1 else a/b|8=>if b=0 then a else a%b|9=>a&&&b|10=>a|||b|11=>a^^^b|12=>if w<=b then 0 else a*2^b%2^w|13=>if w<=b then 0 else a/2^b|14=>tp w a b|15=>b2n (a=b)|16=>b2n (a≠b)|17=>b2n (a<b)|18=>b2n (a<=b)|19=>b2n (sgn w a<sgn w b)|20=>b2n (sgn w a<=sgn w b)|_=>0
theorem mG{p}[Decidable p]{w}(a:1<=w):b2n p<2^w:=by have:2^1<=2^w:=Nat.pow_le_pow_right (by decide) a;unfold b2n;grind
theorem xt{w}(hw:1<=w):2^w=2*2^(w-1):=by rw[<-Nat.pow_succ'];congr 1;omega
theorem Mp{o w a b}(d:1<=w)(c:a<2^w)(f:b<2^w):fY o w a b<2^w:=by have hp:0<2^w:=Au w;unfold fY;split;{omega};{omega};{omega};{omega};{omega};{split;{omega};exact Ay (Nat.div_le_self _ _) c};{split;{omega};exact Ay (Nat.mod_le _ _) c};{exact Ay Nat.and_le_left c};{exact Nat.or_lt_two_pow c f};{exact Nat.xor_lt_two_pow c f};{split;all_goals omega};{split;{omega};exact Ay (Nat.div_le_self _ _) c};{unfold tp;have g:(0:Int)<(2:Int)^w:=Int.pow_pos (by decide);have h1:=Int.emod_lt_of_pos (sgn w a/(2:Int)^(min b 63)) g;simp_all};{exact mG d};{exact mG d};{exact mG d};{exact mG d};{exact mG d};{exact mG d};omega
structure Nd where
 op:Nat
 num:Nat
 args:List Nat
deriving DecidableEq
instance:Inhabited Nd:=⟨⟨0,0,[]⟩⟩
def dO(n:Nd):List Nd->Nat|[]=>0|m::l=>if m=n then 0 else dO n l+1
theorem C7{n}:∀{l},n∈l->dO n l<l.length|m::l,h=>by unfold dO;split;{simp};rename_i hne;have:n∈l:=by{grind};have:=C7 this;simp_all
theorem C8{n}:∀{l:List Nd},n∈l->l.getD (dO n l) default=n|m::l,h=>by unfold dO;split;{simp_all};rename_i hne;have:n∈l:=by{grind};simpa using C8 this
theorem xu{n}:∀{l},n∉l->dO n l=l.length|[],_=>rfl|m::l,h=>by simp only[List.mem_cons,not_or] at h;unfold dO;rw[if_neg (λe=>h.1 e.symm),xu h.2];rfl
def dW(n:Nd)(l:List Nd):=if n∈l then l else l++[n]
theorem C9 n l:dO n (dW n l)=dO n l:=by unfold dW;split;{rfl};rename_i h;rw[xu h];induction l with|nil=>simp[dO]|cons m l ih=>simp only[List.mem_cons,not_or] at h;show dO n (m::(l++[n]))=_;unfold dO;grind
theorem tq n l:(dW n l).length<=l.length+1:=by unfold dW;grind
theorem Da n l:n∈dW n l:=by unfold dW;grind
theorem qS n l:dO n l<(dW n l).length:=by rw[<-C9];exact C7 (Da n l)
def arN o:=if o<=1 then 0 else if o<=3 then 1 else if o=21 then 3 else 2
def fZ(W i:Nat)(n:Nd):=n.op<=21/\n.num<2^W+12/\n.num<18446744073709551616/\(n.op=0->n.num<2^W)/\n.args.length=arN n.op/\(2<=n.op->n.num=0)/\∀a∈n.args,a<i
def GOk(W:Nat)(l:List Nd):=∀i,i<l.length->fZ W i (l.getD i default)
theorem GOk.nil W:GOk W []:=λi h=>by grind
theorem GOk.ask{W l}(h:GOk W l){n}(hn:fZ W l.length n):GOk W (dW n l):=by unfold dW;split;{exact h};intro i a;simp only[Aq,List.length_singleton] at a;by_cases e:i<l.length;{have:(l++[n]).getD i default=l.getD i default:=by{simp_all};rw[this];exact h i e};grind
def dR(W:Nat)(vals:List Nat)(prev:List Nat)(n:Nd):=if n.op=0 then n.num else if n.op=1 then(if n.num<vals.length then vals.getD n.num 0%2^W else 0) else if n.op=21 then(if prev.getD (n.args.getD 0 0) 0≠0 then prev.getD (n.args.getD 1 0) 0 else prev.getD (n.args.getD 2 0) 0) else fY n.op W (prev.getD (n.args.getD 0 0) 0) (prev.getD (n.args.getD 1 0) 0)
def dX(W:Nat)(vals:List Nat)(l:List Nd):=l.foldl (λacc n=>acc++[dR W vals acc n]) []
theorem oe W vals l n:dX W vals (l++[n])=dX W vals l++[dR W vals (dX W vals l) n]:=by simp[dX]
theorem tw W vals l:(dX W vals l).length=l.length:=by rw[<-List.reverse_reverse l];induction l.reverse with|nil=>rfl|cons n l ih=>rw[List.reverse_cons,oe];grind
theorem fO{α:Type} d(l:List α){k}(h:k<l.length):l.take (k+1)=l.take k++[l.getD k d]:=by simp_all
theorem xx W vals l:∀k,k<=l.length->(dX W vals l).take k=dX W vals (l.take k):=by rw[<-List.reverse_reverse l];induction l.reverse with|nil=>intro k hk;simp at hk;subst hk;rfl|cons n l ih=>intro k hk;rw[List.reverse_cons] at hk⊢;rw[oe];simp only[Aq,List.length_singleton] at hk;by_cases e:k<=l.reverse.length;{rw[List.take_append_of_le_length (by rw[tw];exact e),List.take_append_of_le_length e,ih k e]};have a:k=(l.reverse++[n]).length:=by{grind};subst a;rw[AU,oe];exact List.take_of_length_le (by simp[tw])
theorem xy W vals l{t}(a:t<l.length):(dX W vals l).getD t 0=dR W vals ((dX W vals l).take t) (l.getD t default):=by have h:=xx W vals l (t+1) a;rw[fO default l a,oe,<-xx W vals l t (by omega),fO 0 _ (by rw[tw];omega)] at h;simp_all
theorem Db{α:Type} d(l:List α){a k}(h:a<k):(l.take k).getD a d=l.getD a d:=by simp_all
theorem Mq{W vals p q n i}(d:fZ W i n)(h:∀a∈n.args,p.getD a 0=q.getD a 0):dR W vals p n=dR W vals q n:=by unfold dR;split;{rfl};split;{rfl};rename_i h0 h1;have c:=d.2.2.2.2.1;have ho:=d.1;have key:∀j,j<n.args.length->p.getD (n.args.getD j 0) 0=q.getD (n.args.getD j 0) 0:=λj hj=>h _ (by simp_all);have f:0<n.args.length:=by{rw[c];unfold arN;grind};rw[key 0 f];by_cases h21:n.op=21;{have h3:n.args.length=3:=by{rw[c,h21];rfl};grind};rw[if_neg h21,if_neg h21];by_cases h2:1<n.args.length;{simp_all};have g:n.op=2\/n.op=3:=by{rw[c] at h2;unfold arN at h2;grind};rcases g with e|e<;>rw[e]<;>rfl
theorem Mr{W vals p n i}(d:1<=W)(f:fZ W i n)(c:∀a,p.getD a 0<2^W):dR W vals p n<2^W:=by have h0:0<2^W:=Au W;unfold dR;split;{rename_i e;exact f.2.2.2.1 e};split;{split;all_goals omega};split;{grind};exact Mp d (c _) (c _)
theorem xz{W} vals{l}(c:1<=W)(h:GOk W l):∀t,(dX W vals l).getD t 0<2^W:=by have h0:0<2^W:=Au W;intro t;induction t using Nat.strongRecOn with|ind t ih=>by_cases ht:t<l.length;{rw[xy W vals l ht];refine Mr c (h t ht) λa=> ?_;grind};rw[A2,AM (by rw[tw];omega)];grind
def dS(m v:Nat):=(List.range m).map λi=>v.testBit i
theorem Dc m v:(dS m v).length=m:=by simp[dS]
def Dd m o a:=(List.range (2^m)).all λb=>decide (lq o m (dS m a) (dS m b) []=dS m (fY o m a b))
def tbl m:=(List.range 19).all λo=>(List.range (2^m)).all λa=>Dd m (o+2) a
theorem Ms:tbl 1=true:=by kernel_rfl
theorem Mt:tbl 2=true:=by kernel_rfl
theorem Mw:tbl 3=true:=by kernel_rfl
theorem Mx:tbl 4=true:=by kernel_rfl
theorem My{m}(h1:1<=m)(h4:m<=4):tbl m=true:=by have:m=1\/m=2\/m=3\/m=4:=by{omega};rcases this with rfl|rfl|rfl|rfl;{exact Ms};{exact Mt};{exact Mw};exact Mx
theorem Mz o m p q r a(h2:2<=o)(h:o<=20):lq o m p q r=lq o m p q a:=by have:o=2\/o=3\/o=4\/o=5\/o=6\/o=7\/o=8\/o=9\/o=10\/o=11\/o=12\/o=13\/o=14\/o=15\/o=16\/o=17\/o=18\/o=19\/o=20:=by{omega};rcases this with rfl|rfl|rfl|rfl|rfl|rfl|rfl|rfl|rfl|rfl|rfl|rfl|rfl|rfl|rfl|rfl|rfl|rfl|rfl<;>rfl
theorem De{m o a b}(d:1<=m)(j:m<=4)(f:2<=o)(g:o<=20)(ha:a<2^m)(hb:b<2^m) r:lq o m (dS m a) (dS m b) r=dS m (fY o m a b):=by have c:=My d j;unfold tbl at c;rw[AE] at c;have h:=c (o-2) (by grind);rw[AE] at h;have h:=h a (by simp_all);rw[show o-2+2=o by omega] at h;unfold Dd at h;rw[AE] at h;have h:=h b (by simp_all);rw[decide_eq_true_iff] at h;rw[Mz o m _ _ r [] f g];exact h
theorem MA{m}:(dS m 0).any id=false:=by unfold dS;rw[List.any_map];simp
theorem Df{m a}(ha:a<2^m):(dS m a).any id=decide (a≠0):=by by_cases h:a=0;{subst h;simp[MA]};have:(dS m a).any id=true:=by{refine Decidable.byContradiction λc=>h ?_;rw[Bool.not_eq_true,List.any_eq_false] at c;apply Nat.eq_of_testBit_eq;intro i;rw[Nat.zero_testBit];by_cases hi:i<m;{have:=c (a.testBit i) (Az.2 ⟨i,List.mem_range.2 hi,rfl⟩);simp_all};have h2:2^m<=2^i:=Nat.pow_le_pow_right (by decide) (by omega);exact Nat.testBit_lt_two_pow (by omega)};simp_all
theorem Dg c:∀{x y},x.length=y.length->kC c x y=bif c then x else y|[],[],_=>by cases c<;>rfl|[],_::_,h=>by grind|_::_,[],h=>by grind|p::x,q::y,h=>by show _::kC c x y=_;rw[Dg c (by simp_all)];grind
theorem MB{m a b c}(d:a<2^m):lq 21 m (dS m a) (dS m b) (dS m c)=dS m (if a≠0 then b else c):=by show kC ((dS m a).any id) _ _=_;rw[Dg _ (by rw[Dc,Dc]),Df d];grind
theorem MC m v:dS m (v%2^m)=dS m v:=by unfold dS;simp_all
theorem MD{x y} b(h:y.length=x.length)(h1:1<=x.length):(nP x y b).1.length=x.length:=lp 64 _ _ (sR x y 0 b (by omega)) (by rw[nS];omega)
theorem ME{x y} b(h:y.length=x.length)(h1:1<=x.length):sz (nP x y b).2<=sz b+28*x.length*x.length:=by have a:=sS x y 0 b;have c:=nR 64 (dU x y 0 b).1 (dU x y 0 b).2 (sR x y 0 b (by omega)) (by rw[nS];omega);rw[nS,h] at c;rw[h] at a;have h4:21*x.length*(x.length-1)<=21*x.length*x.length:=Nat.mul_le_mul_left _ (by omega);have h5:28*x.length*x.length=7*x.length*x.length+21*x.length*x.length:=by{grind};show sz (de 64 _ _).2<=_;omega
theorem xA:∀bits y quo rest b,1<=rest.length->y.length=rest.length->(dQ bits y quo rest b).1.1.length=bits.length+quo.length/\(dQ bits y quo rest b).1.2.length=rest.length|[],y,quo,rest,b,h0,hy=>⟨by simp[dQ],rfl⟩|bit::bits,y,quo,rest,b,h0,hy=>by have hl:=sQ (bit:=bit) (b:=b) h0 hy;have h:=xA bits y ((dD rest y bit b).1.1::quo) (dD rest y bit b).1.2 (dD rest y bit b).2 (by omega) (by omega);refine⟨?_,?_⟩;{show(dQ bits y ((dD rest y bit b).1.1::quo) (dD rest y bit b).1.2 (dD rest y bit b).2).1.1.length=_;grind};show(dQ bits y ((dD rest y bit b).1.1::quo) (dD rest y bit b).1.2 (dD rest y bit b).2).1.2.length=_;omega
theorem xB:∀bits y quo rest b,1<=rest.length->y.length=rest.length->sz (dQ bits y quo rest b).2<=sz b+(42*rest.length+7)*bits.length|[],y,quo,rest,b,h0,hy=>by simp[dQ]|bit::bits,y,quo,rest,b,h0,hy=>by have hl:=sQ (bit:=bit) (b:=b) h0 hy;have hs:=KX rest y bit b h0 hy;have h:=xB bits y ((dD rest y bit b).1.1::quo) (dD rest y bit b).1.2 (dD rest y bit b).2 (by omega) (by omega);rw[hl] at h;show sz (dQ bits y ((dD rest y bit b).1.1::quo) (dD rest y bit b).1.2 (dD rest y bit b).2).2<=_;rw[Af,Nat.mul_add,Nat.mul_one];omega
theorem tx{x y} b(h:y.length=x.length)(h1:1<=x.length):(eA x y b).1.1.length=x.length/\(eA x y b).1.2.length=x.length:=by have:=xA x.reverse y [] (List.replicate x.length (-1)) b (by simp_all) (by simp_all);simpa[eA] using this
theorem Dh{x y} b(h:y.length=x.length)(h1:1<=x.length):sz (eA x y b).2<=sz b+(42*x.length+7)*x.length:=by have:=xB x.reverse y [] (List.replicate x.length (-1)) b (by simp_all) (by simp_all);simpa[eA] using this
theorem MF{o m p q r} b(c:1<=m)(a:p.length=m)(d:q.length=m)(hr:o=21->r.length=m)(ho:2<=o)(ho2:o<=21):(dq o m p q r b).1.length=m:=by have hb:=jS;have:o=2\/o=3\/o=4\/o=5\/o=6\/o=7\/o=8\/o=9\/o=10\/o=11\/o=12\/o=13\/o=14\/o=15\/o=16\/o=17\/o=18\/o=19\/o=20\/o=21:=by{omega};rcases this with rfl|rfl|rfl|rfl|rfl|rfl|rfl|rfl|rfl|rfl|rfl|rfl|rfl|rfl|rfl|rfl|rfl|rfl|rfl|rfl;{show(p.map _).length=m;simp_all};{show(eh _ _ _ _).1.length=m;rw[mq _ _ _ _ (by simp_all),jS _ c]};{show(eh _ _ _ _).1.length=m;rw[mq _ _ _ _ (by omega),a]};{show(eh _ _ _ _).1.length=m;rw[mq _ _ _ _ (by simp_all),a]};{exact(MD b (by omega) (by omega)).trans a};{exact(tx b (by omega) (by omega)).1.trans a};{exact(tx b (by omega) (by omega)).2.trans a};{exact(nT dk p q b (by omega)).trans a};{exact(nT orF p q b (by omega)).trans a};{exact(nT cR p q b (by omega)).trans a};{exact(qB true _ q 0 p b).trans a};{exact(qB false _ q 0 p b).trans a};{exact(qB false _ q 0 p b).trans a};{exact jS _ c};{exact jS _ c};{exact jS _ c};{exact jS _ c};{exact jS _ c};{exact jS _ c};show(dt _ _ _ _).1.length=m;rw[qf _ _ _ _ (by omega),d]
theorem MG{o m p q r} b(c:1<=m)(h4:m<=4)(hp:p.length=m)(hq:q.length=m)(hr:o=21->r.length=m)(ho:2<=o)(ho2:o<=21):sz (dq o m p q r b).2<=sz b+800:=by have:o=2\/o=3\/o=4\/o=5\/o=6\/o=7\/o=8\/o=9\/o=10\/o=11\/o=12\/o=13\/o=14\/o=15\/o=16\/o=17\/o=18\/o=19\/o=20\/o=21:=by{omega};have hpq:7*p.length*q.length<=7*4*4:=Nat.mul_le_mul (by omega) (by omega);rcases this with rfl|rfl|rfl|rfl|rfl|rfl|rfl|rfl|rfl|rfl|rfl|rfl|rfl|rfl|rfl|rfl|rfl|rfl|rfl|rfl;{show sz b<=_;omega};{have:=lf (ez (-1) m) (p.map λl=> -l) 1 b;rw[jS _ c] at this;show sz (eh _ _ _ _).2<=_;omega};{have:=lf p q (-1) b;show sz (eh _ _ _ _).2<=_;omega};{have:=lf p (q.map λl=> -l) 1 b;show sz (eh _ _ _ _).2<=_;omega};{have:=ME (x:=p) (y:=q) b (by omega) (by omega);have a:28*p.length*p.length<=28*4*4:=Nat.mul_le_mul (by omega) (by omega);show sz (nP p q b).2<=_;omega};{have:=Dh (x:=p) (y:=q) b (by omega) (by omega);have a:(42*p.length+7)*p.length<=(42*4+7)*4:=Nat.mul_le_mul (by omega) (by omega);show sz (eA p q b).2<=_;omega};{have:=Dh (x:=p) (y:=q) b (by omega) (by omega);have a:(42*p.length+7)*p.length<=(42*4+7)*4:=Nat.mul_le_mul (by omega) (by omega);show sz (eA p q b).2<=_;omega};{have:=qF wQ p q b;show sz (ep _ p q b).2<=_;omega};{have:=qF wR p q b;show sz (ep _ p q b).2<=_;omega};{have:=qF wT p q b;show sz (ep _ p q b).2<=_;omega};{have:=qC true (-1) q 0 p b;show sz (shF _ _ q 0 p b).2<=_;omega};{have:=qC false (-1) q 0 p b;show sz (shF _ _ q 0 p b).2<=_;omega};{have:=qC false (p.getD (m-1) 0) q 0 p b;show sz (shF _ _ q 0 p b).2<=_;omega};{have:=nL p q (-1) b;show sz (neF p q (-1) b).2<=_;omega};{have:=nL p q (-1) b;show sz (neF p q (-1) b).2<=_;omega};{have:=lg p q false b;show sz (db p q false b).2<=_;omega};{have:=lg q p false b;show sz (db q p false b).2<=_;omega};{have:=lg p q true b;show sz (db p q true b).2<=_;omega};{have:=lg q p true b;show sz (db q p true b).2<=_;omega};have a:=nM p (-1) b;have h3:=qe (ey p b).1 q r (ey p b).2;have h5:sz (ey p b).2<=sz b+7*p.length:=a;show sz (dt _ q r _).2<=_;omega
