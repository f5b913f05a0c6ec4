/- Walks of the functions of package lattice (part 5): New. (and what follows on it). -/
import Derived.Test.YtgdpkkjfcdhmdaaGreatDoorR16
namespace Go.Proofs.YtgdpkkjfcdhmdaaGreatDoor
open Go.RowKit
theorem Jy{c d:Nat->Nat}{m:Nat}(h:kw c d m=true):(((c m&&&d m:Nat):Int) !=2^m)=false:=by unfold kw at h;rw[beq_iff_eq] at h;rw[h];simp
theorem Jz{c d:Nat->Nat}{m:Nat}(h:kw c d m=false):(((c m&&&d m:Nat):Int) !=2^m)=true:=by unfold kw at h;rw[beq_eq_false_iff_ne] at h;rw[bne_iff_ne];intro e;apply h;have:((2^m:Nat):Int)=2^m:=by{simp};rw[<-this] at e;exact Int.ofNat.inj e
theorem gJ.same{w0 wr a:World}{B n:Nat}{up dn:Nat->Nat}(h:gJ w0 wr B n up dn)(s:fP wr a):gJ w0 a B n up dn:=by obtain⟨m,rfl⟩:=s;exact h.drewN
set_option maxHeartbeats 2000000 in
set_option maxRecDepth 100000 in
theorem JA(n:Nat)(a:Option Addr)(len cap:Nat)(w:World)(ps:List (Int×Int))(h1:1<=n)(h2:n<=32)(h:len<=1024)(ah:ps.length=len)(hp:lr w a ps)(B:Tab w)(az:3<w.heap.size):
  Calls Tryz.prog 14 #[.int .i64 n,.slice a len cap] w (kU n ps w):=by
 have h3:decide ((n:Int)<1)=false:=by simp;omega
 have h3':decide ((32:Int)<n)=false:=by simp;omega
 have h4:decide ((1024:Int)<len)=false:=by simp;omega
 have HP:=Z hp;have N:=Z ah;have HT:=Z B;clear hp ah B;go_enter Tryz.func14,Tryz.ntmps14
 go_wp2_with fail
 go_loopw [29] (λ i wr=>∃k:Nat,k<=n/\i= .int .i64 k/\gJ w wr w.heap.size n (up0 k) (λ _=>0)) (λ i _=>n-(intOf i).toNat)
 case atStart=>exact⟨0,by omega,rfl,by rw[Jk];exact gJ.start w n h2⟩
 case round=>
  obtain⟨k,hk,rfl,b⟩:=hrel;by_cases hlt:k<n
  ·have K:(k:Int)<32:=by omega
   have L:k<32:=by omega
   have hc:=b.lat.hup k (by omega);have U:=b.fz (1+k);have aa:=tp k L
   go_wp2_with fail
   go_still_tail 7,(by kernel_rfl)
   go_wp2_with fail
   go_roundw
   case rel=>exact⟨k+1,by omega,by go_num,by have:=(b.setUp L (tq k L)).drew;rw[Jl] at this;exact this⟩
   case measure=>simp[intOf];omega
  obtain rfl:k=n:=by omega
  have q:=b.box;clear hk hlt
  go_wp2_with fail
  have f:=b;clear b
  go_loopw [42] (λ i wr=>∃j:Nat,j<=len/\i= .int .i64 j/\∃u,Hid (iG k ps (up0 k)=iG k (ps.drop j) u)/\gJ w wr w.heap.size k u (λ _=>0)) (λ i _=>len-(intOf i).toNat)
  case atStart=>exact⟨0,by omega,rfl,_,rfl,f⟩
  case round=>
   clear f q;obtain⟨j,X,rfl,u,M,b⟩:=hrel;by_cases hlt:j<len
   ·obtain⟨pb,po,rfl,am,ak,al⟩:=HP.o j (by rw[N.o];exact hlt);have aw:=(b.below.cell (p:=⟨pb,po+j*2,none⟩) am).trans ak;have ax:=(b.below.cell (p:=⟨pb,po+j*2+1,none⟩) am).trans al;have q:=b.box;have hsz:w.heap.size<wr.heap.size:=by have:=b.size;omega
    clear ak al;have z:=Z (M.o.trans (Jn k ps u j (by rw[N.o];exact hlt)));clear M;generalize ps.getD j (0,0)=pq at*;obtain⟨x,y⟩:=pq;simp only at aw ax;by_cases hok:0<=x/\x<k/\0<=y/\y<k
    ·obtain⟨x0,x1,y0,y1⟩:=hok;obtain⟨x,rfl⟩:=AX x0;obtain⟨y,rfl⟩:=AX y0;have hx:(x:Int)<32:=by omega
     have ab:y<32:=by omega
     have aA:x<32:=by omega
     have ar:decide ((x:Int)<0)=false:=by simp
     have au:decide ((y:Int)<0)=false:=by simp
     have av:decide ((k:Int)<=x)=false:=by simp;omega
     have hn3:decide ((k:Int)<=y)=false:=by simp;omega
     have hc:=b.lat.hup x (by omega);have af:=b.lat.bup x (by omega);have U:=b.fz (1+x);have aa:=tp y ab;have ay:=tq y ab;have aj:=BF (u x) y af ab;have hsz2:w.heap.size+1<wr.heap.size:=b.size
     go_wp2_with fail
     have H:=b.alloc (Obj.cells #[Value.int .i64 x,Value.int .i64 y] 113);have q0:(wr.alloc (Obj.cells #[Value.int .i64 x,Value.int .i64 y] 113)).cell? ⟨wr.heap.size,0,none⟩=some (.int .i64 x):=by simp
     have q1:(wr.alloc (Obj.cells #[Value.int .i64 x,Value.int .i64 y] 113)).cell? ⟨wr.heap.size,1,none⟩=some (.int .i64 y):=by simp
     generalize wr.alloc (Obj.cells #[Value.int .i64 x,Value.int .i64 y] 113)=W2 at H q0 q1⊢;have S:=H.lat.hup x (by omega);have hf2:=H.fz (1+x)
     go_still_tail 14,(by kernel_rfl)
     go_wp2_with fail
     go_roundw
     case rel=>exact⟨j+1,by omega,by go_num,_,(z.o.trans (by rw[Bw k x y (by omega) (by omega)];rfl)),(H.setUp aA (vO _ _ af ay)).drew⟩
     case measure=>simp[intOf];omega
    have r:=Z (vL (z.o.trans (by rw[Bx k x y hok];rfl)));have F:=Z (λ W=>kU.err (w:=w) (w':=W) r.o (by decide));have J:=b.below;by_cases c1:x<0
    ·go_wp2_with fail
     go_ret2
     exact F.o _ (J.alloc (by omega) _)
    have ar:decide ((x:Int)<0)=false:=by simpa using c1
    by_cases c2:(k:Int)<=x
    ·go_wp2_with fail
     go_ret2
     exact F.o _ (J.alloc (by omega) _)
    have av:decide ((k:Int)<=x)=false:=by simpa using c2
    by_cases c3:y<0
    ·go_wp2_with fail
     go_ret2
     exact F.o _ (J.alloc (by omega) _)
    have au:decide ((y:Int)<0)=false:=by simpa using c3
    have c4:(k:Int)<=y:=by omega
    go_wp2_with fail
    go_ret2
    exact F.o _ (J.alloc (by omega) _)
   have an:iG k ps (up0 k)=some u:=by
    rw[M.o,List.drop_of_length_le (by rw[N.o];omega)];rfl
   have z:=Z an;have q:=b.box;clear an M X
   go_wp2_with fail
   have f:=b;clear b
   go_loopw [82] (λ i wr=>∃j:Nat,j<=k/\i= .int .i64 j/\gJ w wr w.heap.size k (gy k u j) (λ _=>0)) (λ i _=>k-(intOf i).toNat)
   case atStart=>exact⟨0,by omega,rfl,f⟩
   case round=>
    clear f q;obtain⟨j,X,rfl,b⟩:=hrel;by_cases hlt:j<k
    ·have q:=b.box
     go_wp2_with fail
     have f:=b;clear b q
     go_loopw [86] (λ i wr=>∃m:Nat,m<=k/\i= .int .i64 m/\gJ w wr w.heap.size k ((List.range m).foldl (lq j) (gy k u j)) (λ _=>0)) (λ i _=>k-(intOf i).toNat)
     case atStart=>exact⟨0,by omega,rfl,f⟩
     case round=>
      clear f;obtain⟨m,Y,rfl,b⟩:=hrel;by_cases hlt2:m<k
      ·have E:=Z (mX (lq j) (gy k u j) m);generalize(List.range m).foldl (lq j) (gy k u j)=c at*;have ai:(m:Int)<32:=by omega
       have hj2:(j:Int)<32:=by omega
       have hcm:=b.lat.hup m (by omega);have hcj:=b.lat.hup j (by omega);have A:=b.lat.bup m (by omega);have bj:=b.lat.bup j (by omega);have U:=b.fz (1+m);have D:=vM (c m) j A;cases hbit:(c m).testBit j with
       |true=>
        rw[hbit] at D;have aj:=Jx (c m) (c j) A bj;have t:=Z (show lq j c m=upd c m (c m|||c j) by unfold lq;rw[hbit];rfl);clear hbit
        go_wp2_with fail
        go_still_tail 16,(by kernel_rfl)
        go_wp2_with fail
        go_roundw
        case rel=>exact⟨m+1,by omega,by go_num,by rw[E.o,t.o];exact(b.setUp (by omega) (vO _ _ A bj)).drew⟩
        case measure=>simp[intOf];omega
       |false=>
        rw[hbit] at D;have t:=Z (show lq j c m=c by unfold lq;rw[hbit];rfl);clear hbit
        go_wp2_with fail
        go_roundw
        case rel=>exact⟨m+1,by omega,by go_num,by rw[E.o,t.o];exact b⟩
        case measure=>simp[intOf];omega
      obtain rfl:m=k:=by omega
      go_wp2_with fail
      go_roundw
      case rel=>exact⟨j+1,by omega,by go_num,by unfold gy;rw[mX];exact b⟩
      case measure=>simp[intOf];omega
    obtain rfl:j=k:=by omega
    have q:=b.box;clear hlt X;generalize hcl:gy j u j=c at*;have ad:=Z hcl;clear hcl
    go_wp2_with fail
    have f:=b;clear b q
    go_loopw [118] (λ i wr=>∃m:Nat,m<=j/\i= .int .i64 m/\gJ w wr w.heap.size j c (jk j c m)) (λ i _=>j-(intOf i).toNat)
    case atStart=>exact⟨0,by omega,rfl,f⟩
    case round=>
     clear f;obtain⟨i,K,rfl,b⟩:=hrel;by_cases hlt:i<j
     ·have q:=b.box
      go_wp2_with fail
      have f:=b;clear b q
      go_loopw [122] (λ v wr=>∃m:Nat,m<=j/\v= .int .i64 m/\gJ w wr w.heap.size j c ((List.range m).foldl (kT c i) (jk j c i))) (λ v _=>j-(intOf v).toNat)
      case atStart=>exact⟨0,by omega,rfl,f⟩
      case round=>
       clear f;obtain⟨m,Y,rfl,b⟩:=hrel;by_cases hlt2:m<j
       ·have E:=Z (mX (kT c i) (jk j c i) m);generalize(List.range m).foldl (kT c i) (jk j c i)=d at*;have ai:(m:Int)<32:=by omega
        have L:(i:Int)<32:=by omega
        have V:i<32:=by omega
        have ao:=b.lat.hup i (by omega);have ap:=b.lat.hdn m (by omega);have bi:=b.lat.bup i (by omega);have A:=b.lat.bdn m (by omega);have U:=b.fz (33+m);have aa:=tp i V;have D:=vM (c i) m bi;cases hbit:(c i).testBit m with
        |true=>
         rw[hbit] at D;have aj:=BF (d m) i A V;have t:=Z (show kT c i d m=upd d m (d m|||2^i) by unfold kT;rw[hbit];rfl);clear hbit
         go_wp2_with fail
         go_still_tail 12,(by kernel_rfl)
         go_wp2_with fail
         go_roundw
         case rel=>exact⟨m+1,by omega,by go_num,by rw[E.o,t.o];exact(b.setDn (by omega) (vO _ _ A (tq i V))).drew⟩
         case measure=>simp[intOf];omega
        |false=>
         rw[hbit] at D;have t:=Z (show kT c i d m=d by unfold kT;rw[hbit];rfl);clear hbit
         go_wp2_with fail
         go_roundw
         case rel=>exact⟨m+1,by omega,by go_num,by rw[E.o,t.o];exact b⟩
         case measure=>simp[intOf];omega
       obtain rfl:m=j:=by omega
       go_wp2_with fail
       go_roundw
       case rel=>exact⟨i+1,by omega,by go_num,by unfold jk;rw[mX];exact b⟩
       case measure=>simp[intOf];omega
     obtain rfl:i=j:=by omega
     have q:=b.box;clear hlt K;generalize hdl:jk i c i=d at*;have ae:=Z hdl;clear hdl
     go_wp2_with fail
     have f:=b;clear b q
     go_loopw [150] (λ v wr=>∃m:Nat,m<=i/\v= .int .i64 m/\Hid ((List.range m).all (kw c d)=true)/\gJ w wr w.heap.size i c d) (λ v _=>i-(intOf v).toNat)
     case atStart=>exact⟨0,by omega,rfl,rfl,f⟩
     case round=>
      clear f;obtain⟨m,Y,rfl,I,b⟩:=hrel;by_cases hlt:m<i
      ·have ai:(m:Int)<32:=by omega
       have aq:m<32:=by omega
       have ao:=b.lat.hup m (by omega);have ap:=b.lat.hdn m (by omega);have hand:=BC _ _ (b.lat.bup m (by omega)) (b.lat.bdn m (by omega));have aa:=tp m aq;cases hok:kw c d m with
       |true=>
        have ht:(((c m&&&d m:Nat):Int) !=2^m)=false:=Jy hok;have G:=Z hok;clear hok
        go_wp2_with fail
        go_quiet(fail)
        go_wp2_with fail
        go_roundw
        case rel=>exact⟨m+1,by omega,by go_num,by show _=true;rw[rf,I.o,G.o];rfl,b.drewN⟩
        case measure=>simp[intOf];omega
       |false=>
        have ht:(((c m&&&d m:Nat):Int) !=2^m)=true:=Jz hok;have r:=Z (By z.o (by rw[ad.o,ae.o];exact tl hlt hok));clear hok
        go_wp2_with fail
        go_quiet(fail)
        go_wp2_with fail
        go_ret2
        exact kU.err r.o (by decide) b.drewN.below
      obtain rfl:m=i:=by omega
      have B:Tab wr:=λ i K=>(b.below.cell (p:=⟨2,i,none⟩) (Nat.lt_of_succ_lt az)).trans (HT.o i K)
      have R:=Z (λ W (g:fP wr W)=>BG (w.heap.size+1) 1 w.heap.size m c W (g.tab B) b.lat.n32 b.lat.bup ((g.cell _).trans b.box) (λ i h=>(g.cell _).trans (b.lat.hup i h)));have S:=Z (λ W (g:fP wr W)=>BG (w.heap.size+1) 33 w.heap.size m d W (g.tab B) b.lat.n32 b.lat.bdn ((g.cell _).trans b.box) (λ i h=>(g.cell _).trans (b.lat.hdn i h)));have O:=Z (Bz (n:=m) (ps:=ps) z.o);have G:=Z (BA (n:=m) (ps:=ps) z.o);rw[ad.o,ae.o] at O G;clear B hlt Y;cases hw1:whole m c with
      |false=>
       have r:=Z (O.o I.o (by rw[hw1];rfl));have C:=Z hw1;clear hw1
       go_wp2_with fail
       refine(R.o _ (fP.refl _)).mono ?_;rintro e w' ⟨rfl,g⟩;rw[C.o]
       go_wp2_with fail
       go_ret2
       exact kU.err r.o (by decide) (b.below.trans (g.below _))
      |true=>
       cases hw2:whole m d with
       |false=>
        have r:=Z (O.o I.o (by rw[hw1,hw2];rfl));have C:=Z hw1;have P:=Z hw2;clear hw1 hw2
        go_wp2_with fail
        refine(R.o _ (fP.refl _)).mono ?_;rintro e w' ⟨rfl,g⟩;rw[C.o]
        go_wp2_with fail
        refine(S.o _ g).mono ?_;rintro e w2 ⟨rfl,Q⟩;rw[P.o]
        go_wp2_with fail
        go_ret2
        exact kU.err r.o (by decide) (b.below.trans ((g.trans Q).below _))
       |true=>
        have r:=Z (G.o I.o (by rw[hw1,hw2];rfl));have C:=Z hw1;have P:=Z hw2;clear hw1 hw2
        go_wp2_with fail
        refine(R.o _ (fP.refl _)).mono ?_;rintro e w' ⟨rfl,g⟩;rw[C.o]
        go_wp2_with fail
        refine(S.o _ g).mono ?_;rintro e w2 ⟨rfl,Q⟩;rw[P.o]
        go_wp2_with fail
        go_ret2
        exact kU.ok r.o (b.same (g.trans Q))
def gF(n:Int)(ps:List (Int×Int)):Nat×(Nat->Nat)×(Nat->Nat):=if n<1\/32<n then(3,λ _=>0,λ _=>0) else if 1024<ps.length then(5,λ _=>0,λ _=>0) else gA n.toNat ps
theorem JB(n:Int)(a:Option Addr)(len cap:Nat)(w:World)(ps:List (Int×Int))(d:ps.length=len)(f:lr w a ps)(c:Tab w)(g:3<w.heap.size):Calls Tryz.prog 14 #[.int .i64 n,.slice a len cap] w λ e w'=>((gF n ps).1≠0->e= .returned (.tuple #[.pointer none,.int .i64 ((gF n ps).1:Nat)]))/\((gF n ps).1=0->e= .returned (.tuple #[.pointer (some ⟨w.heap.size+1,0,none⟩),.int .i64 0])/\gI w' (w.heap.size+1) n.toNat (gF n ps).2.1 (gF n ps).2.2/\w.heap.size+1<w'.heap.size)/\Below w.heap.size w w':=by by_cases h1:n<1;{have e:gF n ps=(3,λ _=>0,λ _=>0):=by{unfold gF;rw[if_pos (Or.inl h1)]};rw[e];exact(Ju n _ w h1).mono λ e w' ⟨h,b⟩=>⟨λ _=>h,λ h=>absurd h (by decide),b⟩};by_cases h2:32<n;{have e:gF n ps=(3,λ _=>0,λ _=>0):=by{unfold gF;rw[if_pos (Or.inr h2)]};rw[e];exact(Jv n _ w h2).mono λ e w' ⟨h,b⟩=>⟨λ _=>h,λ h=>absurd h (by decide),b⟩};by_cases h3:1024<len;{have e:gF n ps=(5,λ _=>0,λ _=>0):=by{unfold gF;rw[if_neg (by omega),if_pos (by omega)]};rw[e];exact(Jw n a len cap w (by omega) (by omega) h3).mono λ e w' ⟨h,b⟩=>⟨λ _=>h,λ h=>absurd h (by decide),b⟩};have e:gF n ps=gA n.toNat ps:=by{unfold gF;rw[if_neg (by omega),if_neg (by omega)]};obtain⟨k,rfl⟩:=AX (show 0<=n by omega);rw[e];exact(JA k a len cap w ps (by omega) (by omega) (by omega) d f c g).mono λ e w' h=>h
theorem Tab.below{w w':World}(h:Tab w)(hb:Below w.heap.size w w')(h0:3<w.heap.size):Tab w':=λ i hi=>(hb.cell (p:=⟨2,i,none⟩) (Nat.lt_of_succ_lt h0)).trans (h i hi)
theorem gI.below{w w':World}{b n:Nat}{up dn:Nat->Nat}(h:gI w b n up dn)(hb:Below w.heap.size w w')(h0:b<w.heap.size):gI w' b n up dn:=⟨(hb.cell (p:=⟨b,_,none⟩) h0).trans h.hn,λ i hi=>(hb.cell (p:=⟨b,_,none⟩) h0).trans (h.hup i hi),λ i hi=>(hb.cell (p:=⟨b,_,none⟩) h0).trans (h.hdn i hi),h.bup,h.bdn,h.n32⟩
theorem lr.below{w w':World}{a:Option Addr}{ps:List (Int×Int)}(h:lr w a ps)(hb:Below w.heap.size w w'):lr w' a ps:=λ i hi=>by obtain⟨b,o,e,h0,h1,h2⟩:=h i hi;exact⟨b,o,e,A9 h0 hb.size,(hb.cell (p:=⟨b,_,none⟩) h0).trans h1,(hb.cell (p:=⟨b,_,none⟩) h0).trans h2⟩
theorem ri{n:Nat}{x:Int}(h:isB n x=true):∃i:Nat,x=i/\i<n:=by simp[isB] at h;obtain⟨i,rfl⟩:=AX h.1;exact⟨i,rfl,by omega⟩
def T(s:Nat->Nat)(i j:Nat):Prop:=(s i).testBit j=true
theorem vP(s:Nat->Nat)(x v i j:Nat):T (upd s x v) i j↔(if i=x then v.testBit j=true else T s i j):=by unfold T upd;split<;>simp_all
theorem JC(n i j:Nat):T (up0 n) i j↔i<n/\i=j:=by unfold T up0;split;{rw[Nat.testBit_two_pow];simp;omega};simp;omega
theorem JD(s:Nat->Nat)(p:Int×Int)(i j:Nat):T (tj s p) i j↔T s i j\/(i=p.1.toNat/\j=p.2.toNat):=by unfold tj;rw[vP];by_cases h:i=p.1.toNat;{subst h;rw[if_pos rfl,Nat.testBit_or,Nat.testBit_two_pow];unfold T;rw[Bool.or_eq_true,decide_eq_true_eq];constructor;{rintro(h|h);{exact Or.inl h};exact Or.inr ⟨rfl,h.symm⟩};rintro(h|h);{exact Or.inl h};exact Or.inr h.2.symm};rw[if_neg h];simp[h]
theorem BH(n:Nat):∀(ps:List (Int×Int)) (s u:Nat->Nat),iG n ps s=some u->∀i j,T u i j↔T s i j\/∃p∈ps,i=p.1.toNat/\j=p.2.toNat|[],s,u,h,i,j=>by simp only[iG,A7] at h;subst h;simp|p::ps,s,u,h,i,j=>by unfold iG at h;split at h;{rw[BH n ps _ u h,JD];simp only[List.mem_cons,exists_eq_or_imp];constructor;{rintro((h|h)|h);{exact Or.inl h};{exact Or.inr (Or.inl h)};exact Or.inr (Or.inr h)};rintro(h|h|h);{exact Or.inl (Or.inl h)};{exact Or.inl (Or.inr h)};exact Or.inr h};cases h
theorem BJ(n:Nat):∀(ps:List (Int×Int)) (s:Nat->Nat),(∀p∈ps,okP n p=true)->∃u,iG n ps s=some u|[],s,_=>⟨s,rfl⟩|p::ps,s,h=>by unfold iG;rw[if_pos (h p (by simp))];exact BJ n ps _ λ q hq=>h q (by simp[hq])
theorem vQ(n:Nat):∀(ps:List (Int×Int)) (s u:Nat->Nat),iG n ps s=some u->∀p∈ps,okP n p=true|[],s,u,_,p,hp=>by simp at hp|q::ps,s,u,h,p,hp=>by unfold iG at h;split at h;{rcases List.mem_cons.1 hp with rfl|hp;{assumption};exact vQ n ps _ u h p hp};cases h
theorem BK(n:Nat)(ps:List (Int×Int))(s:Nat->Nat)(p:Int×Int)(a:p∈ps)(h:okP n p=false):iG n ps s=none:=by cases e:iG n ps s with|none=>rfl|some u=>have:=vQ n ps s u e p a;rw[h] at this;cases this
theorem JE(k:Nat)(s:Nat->Nat)(x i j:Nat):T (lq k s x) i j↔T s i j\/(i=x/\T s x k/\T s k j):=by unfold lq;by_cases h:(s x).testBit k=true;{rw[if_pos h,vP];by_cases e:i=x;{subst e;rw[if_pos rfl,Nat.testBit_or];unfold T;simp[h]};rw[if_neg e];simp[e]};rw[if_neg h];constructor;{exact Or.inl};rintro(a|⟨_,a,_⟩);{exact a};exact absurd a h
theorem tw(k:Nat)(s:Nat->Nat):∀m i j,T ((List.range m).foldl (lq k) s) i j↔T s i j\/(i<m/\T s i k/\T s k j)|0,i,j=>by simp|m+1,i,j=>by rw[mX,JE,tw k s m,tw k s m,tw k s m];constructor;{rintro((h|h)|⟨rfl,a,b⟩);{exact Or.inl h};{exact Or.inr ⟨by omega,h.2⟩};have c:T s i k:=by{rcases a with a|a;exact a;exact a.2.1};have d:T s k j:=by{rcases b with b|b;exact b;exact b.2.2};exact Or.inr ⟨by omega,c,d⟩};rintro(h|⟨h,a,b⟩);{exact Or.inl (Or.inl h)};by_cases e:i=m;{subst e;exact Or.inr ⟨rfl,Or.inl a,Or.inl b⟩};exact Or.inl (Or.inr ⟨by omega,a,b⟩)
theorem vR(n:Nat)(s:Nat->Nat)(m i j:Nat):T (gy n s (m+1)) i j↔T (gy n s m) i j\/(i<n/\T (gy n s m) i m/\T (gy n s m) m j):=by unfold gy;rw[mX];exact tw m _ n i j
def RT(ps:List (Int×Int))(i j:Nat):Prop:=∀S:Nat->Nat->Prop,(∀x,S x x)->(∀x y z,S x y->S y z->S x z)->(∀p∈ps,S p.1.toNat p.2.toNat)->S i j
theorem RT.refl(ps:List (Int×Int))(i:Nat):RT ps i i:=λ _ h _ _=>h i
theorem RT.trans{ps:List (Int×Int)}{i j k:Nat}(h:RT ps i j)(h':RT ps j k):RT ps i k:=λ S h1 h2 h3=>h2 i j k (h S h1 h2 h3) (h' S h1 h2 h3)
theorem RT.pair{ps:List (Int×Int)}{p:Int×Int}(h:p∈ps):RT ps p.1.toNat p.2.toNat:=λ _ _ _ h3=>h3 p h
theorem tx(n:Nat)(ps:List (Int×Int))(u:Nat->Nat)(hu:∀i j,T u i j->i<n/\j<n/\RT ps i j):∀m i j,T (gy n u m) i j->i<n/\j<n/\RT ps i j|0,i,j,h=>hu i j h|m+1,i,j,h=>by rw[vR] at h;rcases h with h|⟨h0,h1,h2⟩;{exact tx n ps u hu m i j h};have a:=tx n ps u hu m i m h1;have b:=tx n ps u hu m m j h2;exact⟨h0,b.2.1,a.2.2.trans b.2.2⟩
theorem vS(n:Nat)(u:Nat->Nat):∀m i j,T u i j->T (gy n u m) i j|0,_,_,h=>h|m+1,i,j,h=>by rw[vR];exact Or.inl (vS n u m i j h)
theorem BL(n:Nat)(u:Nat->Nat):∀m i k j,m<=n->k<m->i<n->T (gy n u m) i k->T (gy n u m) k j->T (gy n u m) i j|0,_,_,_,_,h,_,_,_=>by omega|m+1,i,k,j,hmn,hk,f,d,c=>by rw[vR] at d c⊢;have r:=BL n u m;by_cases e:k=m;{subst e;have a:T (gy n u k) i k:=by{rcases d with h|h;exact h;exact h.2.1};have b:T (gy n u k) k j:=by{rcases c with h|h;exact h;exact h.2.2};exact Or.inr ⟨f,a,b⟩};have q:k<m:=by{omega};rcases d with d|⟨_,d,t⟩;{rcases c with c|⟨_,c,g⟩;{exact Or.inl (r i k j (by omega) q f d c)};exact Or.inr ⟨f,r i k m (by omega) q f d c,g⟩};rcases c with c|⟨_,c,g⟩;{exact Or.inr ⟨f,d,r m k j (by omega) q (by omega) t c⟩};exact Or.inr ⟨f,d,g⟩
theorem rj(n:Nat)(p:Int×Int):okP n p=true↔0<=p.1/\p.1<n/\0<=p.2/\p.2<n:=by simp[okP];omega
theorem JF{n:Nat}{ps:List (Int×Int)}{u:Nat->Nat}(h:iG n ps (up0 n)=some u)(i j:Nat):T (gy n u n) i j↔i<n/\j<n/\RT ps i j:=by have g:=vQ n ps _ u h;have f:∀i j,T u i j↔(i<n/\i=j)\/∃p∈ps,i=p.1.toNat/\j=p.2.toNat:=λ i j=>by{rw[BH n ps _ u h,JC]};have t:∀i j,T u i j->i<n/\j<n/\RT ps i j:=λ i j r=>by{rcases(f i j).1 r with⟨a,rfl⟩|⟨p,b,rfl,rfl⟩;{exact⟨a,a,RT.refl _ _⟩};have:=(rj n p).1 (g p b);exact⟨by omega,by omega,RT.pair b⟩};constructor;{exact tx n ps u t n i j};rintro⟨q,hj,hr⟩;have key:=hr (λ x y=>(x<n->y<n/\T (gy n u n) x y)) (λ x c=>⟨c,vS n u n x x ((f x x).2 (Or.inl ⟨c,rfl⟩))⟩) (λ x y z a d c=>by obtain⟨k,a⟩:=a c;obtain⟨A,d⟩:=d k;exact⟨A,BL n u n x y z (A8 _) k c a d⟩) (λ p b _=>by have:=(rj n p).1 (g p b);exact⟨by omega,vS n u n _ _ ((f _ _).2 (Or.inr ⟨p,b,rfl,rfl⟩))⟩);exact(key q).2
theorem JG(up:Nat->Nat)(i:Nat)(d:Nat->Nat)(k x y:Nat):T (kT up i d k) x y↔T d x y\/(x=k/\y=i/\T up i k):=by unfold kT;by_cases h:(up i).testBit k=true;{rw[if_pos h,vP];by_cases e:x=k;{subst e;rw[if_pos rfl,Nat.testBit_or,Nat.testBit_two_pow,Bool.or_eq_true,decide_eq_true_eq];unfold T;constructor;{rintro(a|a);{exact Or.inl a};exact Or.inr ⟨rfl,a.symm,h⟩};rintro(a|a);{exact Or.inl a};exact Or.inr a.2.1.symm};rw[if_neg e];simp[e]};rw[if_neg h];constructor;{exact Or.inl};rintro(a|⟨_,_,a⟩);{exact a};exact absurd a h
theorem BN(up:Nat->Nat)(i:Nat)(d:Nat->Nat):∀m x y,T ((List.range m).foldl (kT up i) d) x y↔T d x y\/(x<m/\y=i/\T up i x)|0,x,y=>by simp|m+1,x,y=>by rw[mX,JG,BN up i d m];constructor;{rintro((h|h)|⟨rfl,rfl,h⟩);{exact Or.inl h};{exact Or.inr ⟨by omega,h.2⟩};exact Or.inr ⟨by omega,rfl,h⟩};rintro(h|⟨h,rfl,h1⟩);{exact Or.inl (Or.inl h)};by_cases e:x=m;{subst e;exact Or.inr ⟨rfl,rfl,h1⟩};exact Or.inl (Or.inr ⟨by omega,rfl,h1⟩)
theorem BO(n:Nat)(up:Nat->Nat):∀m x y,T (jk n up m) x y↔x<n/\y<m/\T up y x|0,x,y=>by simp[jk,T]|m+1,x,y=>by have ih:=BO n up m x y;unfold jk at ih⊢;rw[mX];unfold Bv;rw[BN,show T ((List.range m).foldl (λ d i=>(List.range n).foldl (kT up i) d) λ _=>0) x y↔_ from ih];constructor;{rintro(⟨h1,h2,h3⟩|⟨h1,rfl,h3⟩);{exact⟨h1,by omega,h3⟩};exact⟨h1,by omega,h3⟩};rintro⟨h1,h2,h3⟩;by_cases e:y=m;{subst e;exact Or.inr ⟨h1,rfl,h3⟩};exact Or.inl ⟨h1,by omega,h3⟩
theorem BP{s:Nat->Nat}{i:Nat}(h:∀j,T s i j->j<32):s i<4294967296:=by rw[show(4294967296:Nat)=2^32 from rfl];apply Nat.lt_pow_two_of_testBit;intro j hj;cases e:(s i).testBit j with|false=>rfl|true=>exact absurd (h j e) (by omega)
theorem vT(s:Nat->Nat)(i j k:Nat):(s i&&&s j).testBit k=true↔T s i k/\T s j k:=by rw[Nat.testBit_and,Af];rfl
def Bd(s:Nat->Nat)(i j k:Nat):Prop:=T s i k/\T s j k/\∀m,T s i m->T s j m->T s k m
theorem BQ{s:Nat->Nat}(h:∀i j,T s i j->j<32)(i j k:Nat):((s i&&&s j).testBit k&&Pl.sub (s i&&&s j) (s k))=true↔Bd s i j k:=by have g:s i&&&s j<4294967296:=AN Nat.and_le_left (BP (h i));rw[Af,vT,Pl.sub_iff _ _ g (BP (h k))];constructor;{rintro⟨⟨c,d⟩,f⟩;exact⟨c,d,λ m a b=>f m ((vT s i j m).2 ⟨a,b⟩)⟩};rintro⟨c,d,f⟩;exact⟨⟨c,d⟩,λ m q=>by have:=(vT s i j m).1 q;exact f m this.1 this.2⟩
theorem BS{s:Nat->Nat}(h:∀i j,T s i j->j<32)(i j:Nat)(hw:0<=Pl.bnd s (s i&&&s j)):∃k:Nat,Pl.bnd s (s i&&&s j)=k/\Bd s i j k:=by rcases Pl.bnd_cases s (s i&&&s j) with⟨h1,_⟩|⟨k,_,b,a,_⟩;{omega};exact⟨k,b,(BQ h i j k).1 a⟩
theorem BT{s:Nat->Nat}(h:∀i j,T s i j->j<32)(i j k:Nat)(a:Bd s i j k):0<=Pl.bnd s (s i&&&s j):=by rcases Pl.bnd_cases s (s i&&&s j) with⟨_,b⟩|⟨m,_,hk,_,_⟩;{have:=b k (h i k a.1);rw[(BQ h i j k).2 a] at this;cases this};omega
theorem BU(n:Nat)(s:Nat->Nat):whole n s=true↔∀i,i<n->∀j,j<n->0<=Pl.bnd s (s i&&&s j):=by unfold whole;rw[AE];simp only[List.mem_range,tk,AE,pz,decide_eq_true_eq]
theorem BV{up dn:Nat->Nat}(i:Nat):kw up dn i=true↔∀j,(T up i j/\T dn i j)↔j=i:=by unfold kw;rw[beq_iff_eq];constructor;{intro h j;have:=congrArg (λ x=>x.testBit j) h;simp only[Nat.testBit_and,Nat.testBit_two_pow] at this;unfold T;rw[<-Af,this,decide_eq_true_eq];exact eq_comm};intro h;apply Nat.eq_of_testBit_eq;intro j;rw[Nat.testBit_and,Nat.testBit_two_pow,Bool.eq_iff_iff,Af,decide_eq_true_eq];exact(h j).trans eq_comm
def nR(ps:List (Int×Int))(n:Nat):Prop:=∀i j,i<n->j<n->RT ps i j->RT ps j i->i=j
def lO(ps:List (Int×Int))(n i j k:Nat):Prop:=k<n/\RT ps i k/\RT ps j k/\∀m,m<n->RT ps i m->RT ps j m->RT ps k m
def lP(ps:List (Int×Int))(n i j k:Nat):Prop:=k<n/\RT ps k i/\RT ps k j/\∀m,m<n->RT ps m i->RT ps m j->RT ps m k
def pA(ps:List (Int×Int))(n:Nat):Prop:=∀i j,i<n->j<n->(∃k,lO ps n i j k)/\∃k,lP ps n i j k
structure mY (n:Nat) (ps:List (Int×Int)) (up dn:Nat->Nat):Prop where
 up:∀i j,T up i j↔i<n/\j<n/\RT ps i j
 dn:∀i j,T dn i j↔i<n/\j<n/\RT ps j i
 anti:nR ps n
 full:pA ps n
section
variable {n:Nat} {ps:List (Int×Int)} {up dn:Nat->Nat}
theorem BW(t:∀i j,T up i j↔i<n/\j<n/\RT ps i j){i j:Nat}(q:i<n)(r:j<n)(k:Nat):Bd up i j k↔lO ps n i j k:=by unfold Bd lO;simp only[t,q,r,true_and];constructor;{rintro⟨⟨a,b⟩,⟨_,c⟩,d⟩;exact⟨a,b,c,λ m h f g=>(d m ⟨h,f⟩ ⟨h,g⟩).2.2⟩};rintro⟨a,b,c,d⟩;exact⟨⟨a,b⟩,⟨a,c⟩,λ m f g=>⟨a,f.1,d m f.1 f.2 g.2⟩⟩
theorem BZ(q:∀i j,T dn i j↔i<n/\j<n/\RT ps j i){i j:Nat}(r:i<n)(t:j<n)(k:Nat):Bd dn i j k↔lP ps n i j k:=by unfold Bd lP;simp only[q,r,t,true_and];constructor;{rintro⟨⟨a,b⟩,⟨_,c⟩,d⟩;exact⟨a,b,c,λ m h f g=>(d m ⟨h,f⟩ ⟨h,g⟩).2.2⟩};rintro⟨a,b,c,d⟩;exact⟨⟨a,b⟩,⟨a,c⟩,λ m f g=>⟨a,f.1,d m f.1 f.2 g.2⟩⟩
end
theorem Ca{n:Nat}{ps:List (Int×Int)}(hn:n<=32)(H:∀p∈ps,okP n p=true):(¬nR ps n->(gA n ps).1=9)/\(nR ps n->¬pA ps n->(gA n ps).1=4)/\(nR ps n->pA ps n->(gA n ps).1=0/\mY n ps (gA n ps).2.1 (gA n ps).2.2):=by obtain⟨u,B⟩:=BJ n ps (up0 n) H;have g:=JF B;have q:∀i j,T (jk n (gy n u n) n) i j↔i<n/\j<n/\RT ps j i:=λ i j=>by{rw[BO,g];constructor;{rintro⟨a,b,_,_,c⟩;exact⟨a,b,c⟩};rintro⟨a,b,c⟩;exact⟨a,b,b,a,c⟩};generalize hup:gy n u n=up at*;generalize hdn:jk n up n=dn at*;have C:(List.range n).all (kw up dn)=true↔nR ps n:=by{rw[AE];simp only[List.mem_range];constructor;{intro h i j d f t x;have:=((BV i).1 (h i d) j).1 ⟨(g i j).2 ⟨d,f,t⟩,(q i j).2 ⟨d,f,x⟩⟩;exact this.symm};intro h i d;rw[BV];intro j;rw[g,q];constructor;{rintro⟨⟨_,f,t⟩,_,_,x⟩;exact(h i j d f t x).symm};rintro rfl;exact⟨⟨d,d,RT.refl _ _⟩,d,d,RT.refl _ _⟩};have E:∀i j,T up i j->j<32:=λ i j h=>by{have:=(g i j).1 h;omega};have D:∀i j,T dn i j->j<32:=λ i j h=>by{have:=(q i j).1 h;omega};have F:(whole n up&&whole n dn)=true↔pA ps n:=by{rw[Af,BU,BU];constructor;{rintro⟨t,x⟩ i j d f;obtain⟨k,_,z⟩:=BS E i j (t i d j f);obtain⟨m,_,G⟩:=BS D i j (x i d j f);exact⟨⟨k,(BW g d f k).1 z⟩,⟨m,(BZ q d f m).1 G⟩⟩};intro h;refine⟨λ i d j f=> ?_,λ i d j f=> ?_⟩;{obtain⟨⟨k,z⟩,_⟩:=h i j d f;exact BT E i j k ((BW g d f k).2 z)};obtain⟨_,⟨k,z⟩⟩:=h i j d f;exact BT D i j k ((BZ q d f k).2 z)};refine⟨λ r=> ?_,λ r A=> ?_,λ r A=> ?_⟩;{rw[By B (by rw[hup,hdn];cases e:(List.range n).all (kw up dn) with|false=>rfl|true=>exact absurd (C.1 e) r)]};{rw[Bz B (by rw[hup,hdn];exact C.2 r) (by rw[hup,hdn];cases e:(whole n up&&whole n dn) with|false=>rfl|true=>exact absurd (F.1 e) A)]};rw[BA B (by rw[hup,hdn];exact C.2 r) (by rw[hup,hdn];exact F.2 A),hup,hdn];exact⟨rfl,g,q,r,A⟩
theorem JH{n:Nat}{ps:List (Int×Int)}(j:n<=32)(h:(gA n ps).1=0):(∀p∈ps,okP n p=true)/\mY n ps (gA n ps).2.1 (gA n ps).2.2:=by have c:∀p∈ps,okP n p=true:=λ p k=>by{cases e:okP n p with|true=>rfl|false=>rw[vL (BK n ps _ p k e)] at h;cases h};obtain⟨d,f,g⟩:=Ca j c;have a:nR ps n:=Classical.byContradiction λ a=>by{rw[d a] at h;cases h};have b:pA ps n:=Classical.byContradiction λ b=>by{rw[f a b] at h;cases h};exact⟨c,(g a b).2⟩
section
variable {n:Nat} {ps:List (Int×Int)} {up dn:Nat->Nat}
theorem Cb{n i:Nat}(h:i<n):isB n (i:Int)=true:=by simp[isB];exact h
theorem JI(h:mY n ps up dn){i j:Nat}(a:i<n)(b:j<n):leB n up i j=true↔RT ps i j:=by unfold leB;rw[Cb a,Cb b];simp only[Bool.and_self,AV,Int.toNat_natCast];exact(h.up i j).trans ⟨λ h=>h.2.2,λ h=>⟨a,b,h⟩⟩
end
