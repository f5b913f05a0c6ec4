/- Walks of the functions of package lattice (part 5): New. (and what follows on it). -/
import Derived.Test.YtgdpkkjfcdhmdaaGreatDoorS0
import Derived.Test.YtgdpkkjfcdhmdaaGreatDoorS18
namespace Go.Proofs.YtgdpkkjfcdhmdaaGreatDoor
open Go.RowKit
theorem loop_ne_false{c d:Nat->Nat}{m:Nat}(h:okLoop c d m=true):(((c m&&&d m:Nat):Int) !=2^m)=false:=by
 unfold okLoop at h;rw[beq_iff_eq] at h;rw[h];simp
theorem loop_ne_true{c d:Nat->Nat}{m:Nat}(h:okLoop c d m=false):(((c m&&&d m:Nat):Int) !=2^m)=true:=by
 unfold okLoop at h;rw[beq_eq_false_iff_ne] at h;rw[bne_iff_ne];intro e;apply h;have:((2^m:Nat):Int)=2^m:=by simp
 rw[<-this] at e;exact Int.ofNat.inj e
theorem LatW.same{w0 wr wr':World}{B n:Nat}{up dn:Nat->Nat}(h:LatW w0 wr B n up dn)(s:Same wr wr'):LatW w0 wr' B n up dn:=by
 obtain⟨m,rfl⟩:=s;exact h.drewN
set_option maxHeartbeats 2000000 in
set_option maxRecDepth 100000 in
theorem new_main(n:Nat)(a:Option Addr)(len cap:Nat)(w:World)(ps:List (Int×Int))(h1:1<=n)(h2:n<=32)(h:len<=1024)(hlen:ps.length=len)(hp:PairsAt w a ps)(hT:Tab w)(hsz0:3<w.heap.size):
  Calls Tryz.prog 14 #[.int .i64 n,.slice a len cap] w (NewPost n ps w):=by
 have h3:decide ((n:Int)<1)=false:=by simp;omega
 have h3':decide ((32:Int)<n)=false:=by simp;omega
 have h4:decide ((1024:Int)<len)=false:=by simp;omega
 have HP:=Z hp;have HLEN:=Z hlen;have HT:=Z hT;clear hp hlen hT;go_enter Tryz.func14,Tryz.ntmps14
 go_wp2_with fail
 go_loopw [29] (λ i wr=>∃k:Nat,k<=n/\i= .int .i64 k/\LatW w wr w.heap.size n (up0 k) (λ _=>0)) (λ i _=>n-(intOf i).toNat)
 case atStart=>exact⟨0,by omega,rfl,by rw[up0_zero];exact LatW.start w n h2⟩
 case round=>
  obtain⟨k,hk,rfl,hL⟩:=hrel;by_cases hlt:k<n
  ·have hi:(k:Int)<32:=by omega
   have hi2:k<32:=by omega
   have hc:=hL.lat.hup k (by omega);have hf:=hL.fz (1+k);have hsh:=shl_u32 k hi2
   go_wp2_with fail
   go_still_tail 7,(by kernel_rfl)
   go_wp2_with fail
   go_roundw
   case rel=>exact⟨k+1,by omega,by go_num,by have:=(hL.setUp hi2 (pow_lt32 k hi2)).drew;rw[up0_succ] at this;exact this⟩
   case measure=>simp[intOf];omega
  ·obtain rfl:k=n:=by omega
   have hb:=hL.box;clear hk hlt
   go_wp2_with fail
   have hL0:=hL;clear hL
   go_loopw [42] (λ i wr=>∃j:Nat,j<=len/\i= .int .i64 j/\∃u,Hid (addPairs k ps (up0 k)=addPairs k (ps.drop j) u)/\LatW w wr w.heap.size k u (λ _=>0)) (λ i _=>len-(intOf i).toNat)
   case atStart=>exact⟨0,by omega,rfl,_,rfl,hL0⟩
   case round=>
    clear hL0 hb;obtain⟨j,hj,rfl,u,hu,hL⟩:=hrel;by_cases hlt:j<len
    ·obtain⟨pb,po,rfl,hpb,hp0,hp1⟩:=HP.o j (by rw[HLEN.o];exact hlt);have hp0':=(hL.below.cell (p:=⟨pb,po+j*2,none⟩) hpb).trans hp0;have hp1':=(hL.below.cell (p:=⟨pb,po+j*2+1,none⟩) hpb).trans hp1;have hb:=hL.box;have hsz:w.heap.size<wr.heap.size:=by have:=hL.size;omega
     clear hp0 hp1;have HU:=Z (hu.o.trans (addPairs_step k ps u j (by rw[HLEN.o];exact hlt)));clear hu;generalize ps.getD j (0,0)=pq at*;obtain⟨x,y⟩:=pq;simp only at hp0' hp1';by_cases hok:0<=x/\x<k/\0<=y/\y<k
     ·obtain⟨x0,x1,y0,y1⟩:=hok;obtain⟨x,rfl⟩:=Int.eq_ofNat_of_zero_le x0;obtain⟨y,rfl⟩:=Int.eq_ofNat_of_zero_le y0;have hx:(x:Int)<32:=by omega
      have hy2:y<32:=by omega
      have hx2:x<32:=by omega
      have hn0:decide ((x:Int)<0)=false:=by simp
      have hn1:decide ((y:Int)<0)=false:=by simp
      have hn2:decide ((k:Int)<=x)=false:=by simp;omega
      have hn3:decide ((k:Int)<=y)=false:=by simp;omega
      have hc:=hL.lat.hup x (by omega);have hbb:=hL.lat.bup x (by omega);have hf:=hL.fz (1+x);have hsh:=shl_u32 y hy2;have hpl:=pow_lt32 y hy2;have hor:=or_pow (u x) y hbb hy2;have hsz2:w.heap.size+1<wr.heap.size:=hL.size
      go_wp2_with fail
      have hLa:=hL.alloc (Obj.cells #[Value.int .i64 x,Value.int .i64 y] 113);have q0:(wr.alloc (Obj.cells #[Value.int .i64 x,Value.int .i64 y] 113)).cell? ⟨wr.heap.size,0,none⟩=some (.int .i64 x):=by simp
      have q1:(wr.alloc (Obj.cells #[Value.int .i64 x,Value.int .i64 y] 113)).cell? ⟨wr.heap.size,1,none⟩=some (.int .i64 y):=by simp
      generalize wr.alloc (Obj.cells #[Value.int .i64 x,Value.int .i64 y] 113)=W2 at hLa q0 q1⊢;have hc2:=hLa.lat.hup x (by omega);have hf2:=hLa.fz (1+x)
      go_still_tail 14,(by kernel_rfl)
      go_wp2_with fail
      go_roundw
      case rel=>exact⟨j+1,by omega,by go_num,_,(HU.o.trans (by rw[okP_in k x y (by omega) (by omega)];rfl)),(hLa.setUp hx2 (lor_lt _ _ hbb hpl)).drew⟩
      case measure=>simp[intOf];omega
     ·have Hres:=Z (newL_none (HU.o.trans (by rw[okP_out k x y hok];rfl)));have Hend:=Z (λ W=>NewPost.err (w:=w) (w':=W) Hres.o (by decide));have hbl:=hL.below;by_cases c1:x<0
      ·go_wp2_with fail
       go_ret2
       exact Hend.o _ (hbl.alloc (by omega) _)
      ·have hn0:decide ((x:Int)<0)=false:=by simpa using c1
       by_cases c2:(k:Int)<=x
       ·go_wp2_with fail
        go_ret2
        exact Hend.o _ (hbl.alloc (by omega) _)
       ·have hn2:decide ((k:Int)<=x)=false:=by simpa using c2
        by_cases c3:y<0
        ·go_wp2_with fail
         go_ret2
         exact Hend.o _ (hbl.alloc (by omega) _)
        ·have hn1:decide ((y:Int)<0)=false:=by simpa using c3
         have c4:(k:Int)<=y:=by omega
         go_wp2_with fail
         go_ret2
         exact Hend.o _ (hbl.alloc (by omega) _)
    ·have hu2:addPairs k ps (up0 k)=some u:=by
      rw[hu.o,List.drop_of_length_le (by rw[HLEN.o];omega)];rfl
     have HU:=Z hu2;have hb:=hL.box;clear hu2 hu hj
     go_wp2_with fail
     have hL0:=hL;clear hL
     go_loopw [82] (λ i wr=>∃j:Nat,j<=k/\i= .int .i64 j/\LatW w wr w.heap.size k (closeAll k u j) (λ _=>0)) (λ i _=>k-(intOf i).toNat)
     case atStart=>exact⟨0,by omega,rfl,hL0⟩
     case round=>
      clear hL0 hb;obtain⟨j,hj,rfl,hL⟩:=hrel;by_cases hlt:j<k
      ·have hb:=hL.box
       go_wp2_with fail
       have hL0:=hL;clear hL hb
       go_loopw [86] (λ i wr=>∃m:Nat,m<=k/\i= .int .i64 m/\LatW w wr w.heap.size k ((List.range m).foldl (stepC j) (closeAll k u j)) (λ _=>0)) (λ i _=>k-(intOf i).toNat)
       case atStart=>exact⟨0,by omega,rfl,hL0⟩
       case round=>
        clear hL0;obtain⟨m,hm,rfl,hL⟩:=hrel;by_cases hlt2:m<k
        ·have hsucc:=Z (range_foldl_succ (stepC j) (closeAll k u j) m);generalize(List.range m).foldl (stepC j) (closeAll k u j)=c at*;have hm2:(m:Int)<32:=by omega
         have hj2:(j:Int)<32:=by omega
         have hcm:=hL.lat.hup m (by omega);have hcj:=hL.lat.hup j (by omega);have bm:=hL.lat.bup m (by omega);have bj:=hL.lat.bup j (by omega);have hf:=hL.fz (1+m);have hbt:=bit_test (c m) j bm;cases hbit:(c m).testBit j with
         |true=>
          rw[hbit] at hbt;have hor:=or_u32 (c m) (c j) bm bj;have Hst:=Z (show stepC j c m=upd c m (c m|||c j) by unfold stepC;rw[hbit];rfl);clear hbit
          go_wp2_with fail
          go_still_tail 16,(by kernel_rfl)
          go_wp2_with fail
          go_roundw
          case rel=>exact⟨m+1,by omega,by go_num,by rw[hsucc.o,Hst.o];exact(hL.setUp (by omega) (lor_lt _ _ bm bj)).drew⟩
          case measure=>simp[intOf];omega
         |false=>
          rw[hbit] at hbt;have Hst:=Z (show stepC j c m=c by unfold stepC;rw[hbit];rfl);clear hbit
          go_wp2_with fail
          go_roundw
          case rel=>exact⟨m+1,by omega,by go_num,by rw[hsucc.o,Hst.o];exact hL⟩
          case measure=>simp[intOf];omega
        ·obtain rfl:m=k:=by omega
         go_wp2_with fail
         go_roundw
         case rel=>exact⟨j+1,by omega,by go_num,by unfold closeAll;rw[range_foldl_succ];exact hL⟩
         case measure=>simp[intOf];omega
      ·obtain rfl:j=k:=by omega
       have hb:=hL.box;clear hlt hj;generalize hcl:closeAll j u j=c at*;have Hcl:=Z hcl;clear hcl
       go_wp2_with fail
       have hL0:=hL;clear hL hb
       go_loopw [118] (λ i wr=>∃m:Nat,m<=j/\i= .int .i64 m/\LatW w wr w.heap.size j c (downAll j c m)) (λ i _=>j-(intOf i).toNat)
       case atStart=>exact⟨0,by omega,rfl,hL0⟩
       case round=>
        clear hL0;obtain⟨i,hi,rfl,hL⟩:=hrel;by_cases hlt:i<j
        ·have hb:=hL.box
         go_wp2_with fail
         have hL0:=hL;clear hL hb
         go_loopw [122] (λ v wr=>∃m:Nat,m<=j/\v= .int .i64 m/\LatW w wr w.heap.size j c ((List.range m).foldl (stepD c i) (downAll j c i))) (λ v _=>j-(intOf v).toNat)
         case atStart=>exact⟨0,by omega,rfl,hL0⟩
         case round=>
          clear hL0;obtain⟨m,hm,rfl,hL⟩:=hrel;by_cases hlt2:m<j
          ·have hsucc:=Z (range_foldl_succ (stepD c i) (downAll j c i) m);generalize(List.range m).foldl (stepD c i) (downAll j c i)=d at*;have hm2:(m:Int)<32:=by omega
           have hi2:(i:Int)<32:=by omega
           have hi3:i<32:=by omega
           have hci:=hL.lat.hup i (by omega);have hdm:=hL.lat.hdn m (by omega);have bi:=hL.lat.bup i (by omega);have bm:=hL.lat.bdn m (by omega);have hf:=hL.fz (33+m);have hsh:=shl_u32 i hi3;have hbt:=bit_test (c i) m bi;cases hbit:(c i).testBit m with
           |true=>
            rw[hbit] at hbt;have hor:=or_pow (d m) i bm hi3;have Hst:=Z (show stepD c i d m=upd d m (d m|||2^i) by unfold stepD;rw[hbit];rfl);clear hbit
            go_wp2_with fail
            go_still_tail 12,(by kernel_rfl)
            go_wp2_with fail
            go_roundw
            case rel=>exact⟨m+1,by omega,by go_num,by rw[hsucc.o,Hst.o];exact(hL.setDn (by omega) (lor_lt _ _ bm (pow_lt32 i hi3))).drew⟩
            case measure=>simp[intOf];omega
           |false=>
            rw[hbit] at hbt;have Hst:=Z (show stepD c i d m=d by unfold stepD;rw[hbit];rfl);clear hbit
            go_wp2_with fail
            go_roundw
            case rel=>exact⟨m+1,by omega,by go_num,by rw[hsucc.o,Hst.o];exact hL⟩
            case measure=>simp[intOf];omega
          ·obtain rfl:m=j:=by omega
           go_wp2_with fail
           go_roundw
           case rel=>exact⟨i+1,by omega,by go_num,by unfold downAll;rw[range_foldl_succ];exact hL⟩
           case measure=>simp[intOf];omega
        ·obtain rfl:i=j:=by omega
         have hb:=hL.box;clear hlt hi;generalize hdl:downAll i c i=d at*;have Hdl:=Z hdl;clear hdl
         go_wp2_with fail
         have hL0:=hL;clear hL hb
         go_loopw [150] (λ v wr=>∃m:Nat,m<=i/\v= .int .i64 m/\Hid ((List.range m).all (okLoop c d)=true)/\LatW w wr w.heap.size i c d) (λ v _=>i-(intOf v).toNat)
         case atStart=>exact⟨0,by omega,rfl,rfl,hL0⟩
         case round=>
          clear hL0;obtain⟨m,hm,rfl,hall,hL⟩:=hrel;by_cases hlt:m<i
          ·have hm2:(m:Int)<32:=by omega
           have hm3:m<32:=by omega
           have hci:=hL.lat.hup m (by omega);have hdm:=hL.lat.hdn m (by omega);have hand:=and_u32 _ _ (hL.lat.bup m (by omega)) (hL.lat.bdn m (by omega));have hsh:=shl_u32 m hm3;cases hok:okLoop c d m with
           |true=>
            have ht:(((c m&&&d m:Nat):Int) !=2^m)=false:=loop_ne_false hok;have Hok:=Z hok;clear hok
            go_wp2_with fail
            go_quiet(fail)
            go_wp2_with fail
            go_roundw
            case rel=>exact⟨m+1,by omega,by go_num,by show _=true;rw[range_all_succ,hall.o,Hok.o];rfl,hL.drewN⟩
            case measure=>simp[intOf];omega
           |false=>
            have ht:(((c m&&&d m:Nat):Int) !=2^m)=true:=loop_ne_true hok;have Hres:=Z (newL_loop HU.o (by rw[Hcl.o,Hdl.o];exact range_all_false hlt hok));clear hok
            go_wp2_with fail
            go_quiet(fail)
            go_wp2_with fail
            go_ret2
            exact NewPost.err Hres.o (by decide) hL.drewN.below
          ·obtain rfl:m=i:=by omega
           have hT:Tab wr:=λ i hi=>(hL.below.cell (p:=⟨2,i,none⟩) (Nat.lt_of_succ_lt hsz0)).trans (HT.o i hi)
           have hc1:=Z (λ W (hS:Same wr W)=>whole_any (w.heap.size+1) 1 w.heap.size m c W (hS.tab hT) hL.lat.n32 hL.lat.bup ((hS.cell _).trans hL.box) (λ i h=>(hS.cell _).trans (hL.lat.hup i h)));have hc2:=Z (λ W (hS:Same wr W)=>whole_any (w.heap.size+1) 33 w.heap.size m d W (hS.tab hT) hL.lat.n32 hL.lat.bdn ((hS.cell _).trans hL.box) (λ i h=>(hS.cell _).trans (hL.lat.hdn i h)));have Hform:=Z (newL_form (n:=m) (ps:=ps) HU.o);have Hok:=Z (newL_ok (n:=m) (ps:=ps) HU.o);rw[Hcl.o,Hdl.o] at Hform Hok;clear hT hlt hm;cases hw1:whole m c with
           |false=>
            have Hres:=Z (Hform.o hall.o (by rw[hw1];rfl));have Hw:=Z hw1;clear hw1
            go_wp2_with fail
            refine(hc1.o _ (Same.refl _)).mono ?_;rintro e w' ⟨rfl,hS⟩;rw[Hw.o]
            go_wp2_with fail
            go_ret2
            exact NewPost.err Hres.o (by decide) (hL.below.trans (hS.below _))
           |true=>
            cases hw2:whole m d with
            |false=>
             have Hres:=Z (Hform.o hall.o (by rw[hw1,hw2];rfl));have Hw:=Z hw1;have Hw2:=Z hw2;clear hw1 hw2
             go_wp2_with fail
             refine(hc1.o _ (Same.refl _)).mono ?_;rintro e w' ⟨rfl,hS⟩;rw[Hw.o]
             go_wp2_with fail
             refine(hc2.o _ hS).mono ?_;rintro e w2 ⟨rfl,hS2⟩;rw[Hw2.o]
             go_wp2_with fail
             go_ret2
             exact NewPost.err Hres.o (by decide) (hL.below.trans ((hS.trans hS2).below _))
            |true=>
             have Hres:=Z (Hok.o hall.o (by rw[hw1,hw2];rfl));have Hw:=Z hw1;have Hw2:=Z hw2;clear hw1 hw2
             go_wp2_with fail
             refine(hc1.o _ (Same.refl _)).mono ?_;rintro e w' ⟨rfl,hS⟩;rw[Hw.o]
             go_wp2_with fail
             refine(hc2.o _ hS).mono ?_;rintro e w2 ⟨rfl,hS2⟩;rw[Hw2.o]
             go_wp2_with fail
             go_ret2
             exact NewPost.ok Hres.o (hL.same (hS.trans hS2))
def newE(n:Int)(ps:List (Int×Int)):Nat×(Nat->Nat)×(Nat->Nat):=
 if n<1\/32<n then(3,λ _=>0,λ _=>0) else if 1024<ps.length then(5,λ _=>0,λ _=>0) else newL n.toNat ps
theorem new_all(n:Int)(a:Option Addr)(len cap:Nat)(w:World)(ps:List (Int×Int))(hlen:ps.length=len)(hp:PairsAt w a ps)(hT:Tab w)(hsz0:3<w.heap.size):
  Calls Tryz.prog 14 #[.int .i64 n,.slice a len cap] w λ e w'=>
   ((newE n ps).1≠0->e= .returned (.tuple #[.pointer none,.int .i64 ((newE n ps).1:Nat)]))/\
   ((newE n ps).1=0->e= .returned (.tuple #[.pointer (some ⟨w.heap.size+1,0,none⟩),.int .i64 0])/\LatC w' (w.heap.size+1) n.toNat (newE n ps).2.1 (newE n ps).2.2/\w.heap.size+1<w'.heap.size)/\
   Below w.heap.size w w':=by
 by_cases h1:n<1
 ·have e:newE n ps=(3,λ _=>0,λ _=>0):=by unfold newE;rw[if_pos (Or.inl h1)]
  rw[e];exact(new_lo n _ w h1).mono λ e w' ⟨h,hb⟩=>⟨λ _=>h,λ h=>absurd h (by decide),hb⟩
 ·by_cases h2:32<n
  ·have e:newE n ps=(3,λ _=>0,λ _=>0):=by unfold newE;rw[if_pos (Or.inr h2)]
   rw[e];exact(new_hi n _ w h2).mono λ e w' ⟨h,hb⟩=>⟨λ _=>h,λ h=>absurd h (by decide),hb⟩
  ·by_cases h3:1024<len
   ·have e:newE n ps=(5,λ _=>0,λ _=>0):=by unfold newE;rw[if_neg (by omega),if_pos (by omega)]
    rw[e];exact(new_long n a len cap w (by omega) (by omega) h3).mono λ e w' ⟨h,hb⟩=>⟨λ _=>h,λ h=>absurd h (by decide),hb⟩
   ·have e:newE n ps=newL n.toNat ps:=by unfold newE;rw[if_neg (by omega),if_neg (by omega)]
    obtain⟨k,rfl⟩:=Int.eq_ofNat_of_zero_le (show 0<=n by omega);rw[e];exact(new_main k a len cap w ps (by omega) (by omega) (by omega) hlen hp hT hsz0).mono λ e w' h=>h
theorem Tab.below{w w':World}(h:Tab w)(hb:Below w.heap.size w w')(h0:3<w.heap.size):Tab w':=λ i hi=>(hb.cell (p:=⟨2,i,none⟩) (Nat.lt_of_succ_lt h0)).trans (h i hi)
theorem LatC.below{w w':World}{b n:Nat}{up dn:Nat->Nat}(h:LatC w b n up dn)(hb:Below w.heap.size w w')(h0:b<w.heap.size):LatC w' b n up dn:=
 ⟨(hb.cell (p:=⟨b,_,none⟩) h0).trans h.hn,λ i hi=>(hb.cell (p:=⟨b,_,none⟩) h0).trans (h.hup i hi),λ i hi=>(hb.cell (p:=⟨b,_,none⟩) h0).trans (h.hdn i hi),h.bup,h.bdn,h.n32⟩
theorem PairsAt.below{w w':World}{a:Option Addr}{ps:List (Int×Int)}(h:PairsAt w a ps)(hb:Below w.heap.size w w'):PairsAt w' a ps:=λ i hi=>by
 obtain⟨b,o,e,h0,h1,h2⟩:=h i hi;exact⟨b,o,e,Nat.lt_of_lt_of_le h0 hb.size,(hb.cell (p:=⟨b,_,none⟩) h0).trans h1,(hb.cell (p:=⟨b,_,none⟩) h0).trans h2⟩
theorem isB_nat{n:Nat}{x:Int}(h:isB n x=true):∃i:Nat,x=i/\i<n:=by
 simp[isB] at h;obtain⟨i,rfl⟩:=Int.eq_ofNat_of_zero_le h.1;exact⟨i,rfl,by omega⟩
end Go.Proofs.YtgdpkkjfcdhmdaaGreatDoor
namespace Go.Proofs.YtgdpkkjfcdhmdaaGreatDoor
def T(s:Nat->Nat)(i j:Nat):Prop:=(s i).testBit j=true
theorem T_upd(s:Nat->Nat)(x v i j:Nat):T (upd s x v) i j↔(if i=x then v.testBit j=true else T s i j):=by
 unfold T upd;split<;>simp_all
theorem T_up0(n i j:Nat):T (up0 n) i j↔i<n/\i=j:=by
 unfold T up0
 split
 ·rw[Nat.testBit_two_pow];simp;omega
 ·simp;omega
theorem T_addP(s:Nat->Nat)(p:Int×Int)(i j:Nat):T (addP s p) i j↔T s i j\/(i=p.1.toNat/\j=p.2.toNat):=by
 unfold addP;rw[T_upd];by_cases h:i=p.1.toNat
 ·subst h;rw[if_pos rfl,Nat.testBit_or,Nat.testBit_two_pow];unfold T;rw[Bool.or_eq_true,decide_eq_true_eq];constructor
  ·rintro(h|h)
   ·exact Or.inl h
   ·exact Or.inr ⟨rfl,h.symm⟩
  ·rintro(h|h)
   ·exact Or.inl h
   ·exact Or.inr h.2.symm
 ·rw[if_neg h];simp[h]
theorem T_addPairs(n:Nat):∀(ps:List (Int×Int)) (s u:Nat->Nat),addPairs n ps s=some u->∀i j,T u i j↔T s i j\/∃p∈ps,i=p.1.toNat/\j=p.2.toNat
 |[],s,u,h,i,j=>by simp only[addPairs,Option.some.injEq] at h;subst h;simp
 |p::ps,s,u,h,i,j=>by
  unfold addPairs at h
  split at h
  ·rw[T_addPairs n ps _ u h,T_addP];simp only[List.mem_cons,exists_eq_or_imp];constructor
   ·rintro((h|h)|h)
    ·exact Or.inl h
    ·exact Or.inr (Or.inl h)
    ·exact Or.inr (Or.inr h)
   ·rintro(h|h|h)
    ·exact Or.inl (Or.inl h)
    ·exact Or.inl (Or.inr h)
    ·exact Or.inr h
  ·cases h
theorem addPairs_isSome(n:Nat):∀(ps:List (Int×Int)) (s:Nat->Nat),(∀p∈ps,okP n p=true)->∃u,addPairs n ps s=some u
 |[],s,_=>⟨s,rfl⟩
 |p::ps,s,h=>by
  unfold addPairs;rw[if_pos (h p (by simp))];exact addPairs_isSome n ps _ λ q hq=>h q (by simp[hq])
theorem addPairs_ok(n:Nat):∀(ps:List (Int×Int)) (s u:Nat->Nat),addPairs n ps s=some u->∀p∈ps,okP n p=true
 |[],s,u,_,p,hp=>by simp at hp
 |q::ps,s,u,h,p,hp=>by
  unfold addPairs at h
  split at h
  ·rcases List.mem_cons.1 hp with rfl|hp
   ·assumption
   ·exact addPairs_ok n ps _ u h p hp
  ·cases h
theorem addPairs_none(n:Nat)(ps:List (Int×Int))(s:Nat->Nat)(p:Int×Int)(hp:p∈ps)(h:okP n p=false):addPairs n ps s=none:=by
 cases e:addPairs n ps s with
 |none=>rfl
 |some u=>have:=addPairs_ok n ps s u e p hp;rw[h] at this;cases this
theorem T_stepC(k:Nat)(s:Nat->Nat)(x i j:Nat):T (stepC k s x) i j↔T s i j\/(i=x/\T s x k/\T s k j):=by
 unfold stepC;by_cases h:(s x).testBit k=true
 ·rw[if_pos h,T_upd];by_cases e:i=x
  ·subst e;rw[if_pos rfl,Nat.testBit_or];unfold T;simp[h]
  ·rw[if_neg e];simp[e]
 ·rw[if_neg h];constructor
  ·exact Or.inl
  ·rintro(h'|⟨_,h',_⟩)
   ·exact h'
   ·exact absurd h' h
theorem T_closeI(k:Nat)(s:Nat->Nat):∀m i j,T ((List.range m).foldl (stepC k) s) i j↔T s i j\/(i<m/\T s i k/\T s k j)
 |0,i,j=>by simp
 |m+1,i,j=>by
  rw[range_foldl_succ,T_stepC,T_closeI k s m,T_closeI k s m,T_closeI k s m];constructor
  ·rintro((h|h)|⟨rfl,h1,h2⟩)
   ·exact Or.inl h
   ·exact Or.inr ⟨by omega,h.2⟩
   ·have h1':T s i k:=by rcases h1 with h1|h1;exact h1;exact h1.2.1
    have h2':T s k j:=by rcases h2 with h2|h2;exact h2;exact h2.2.2
    exact Or.inr ⟨by omega,h1',h2'⟩
  ·rintro(h|⟨h,h1,h2⟩)
   ·exact Or.inl (Or.inl h)
   ·by_cases e:i=m
    ·subst e;exact Or.inr ⟨rfl,Or.inl h1,Or.inl h2⟩
    ·exact Or.inl (Or.inr ⟨by omega,h1,h2⟩)
theorem T_closeAll_succ(n:Nat)(s:Nat->Nat)(m i j:Nat):T (closeAll n s (m+1)) i j↔T (closeAll n s m) i j\/(i<n/\T (closeAll n s m) i m/\T (closeAll n s m) m j):=by
 unfold closeAll;rw[range_foldl_succ];exact T_closeI m _ n i j
def RT(ps:List (Int×Int))(i j:Nat):Prop:=
 ∀S:Nat->Nat->Prop,(∀x,S x x)->(∀x y z,S x y->S y z->S x z)->(∀p∈ps,S p.1.toNat p.2.toNat)->S i j
theorem RT.refl(ps:List (Int×Int))(i:Nat):RT ps i i:=λ _ h _ _=>h i
theorem RT.trans{ps:List (Int×Int)}{i j k:Nat}(h:RT ps i j)(h':RT ps j k):RT ps i k:=λ S h1 h2 h3=>h2 i j k (h S h1 h2 h3) (h' S h1 h2 h3)
theorem RT.pair{ps:List (Int×Int)}{p:Int×Int}(h:p∈ps):RT ps p.1.toNat p.2.toNat:=λ _ _ _ h3=>h3 p h
theorem closeAll_sound(n:Nat)(ps:List (Int×Int))(u:Nat->Nat)(hu:∀i j,T u i j->i<n/\j<n/\RT ps i j):∀m i j,T (closeAll n u m) i j->i<n/\j<n/\RT ps i j
 |0,i,j,h=>hu i j h
 |m+1,i,j,h=>by
  rw[T_closeAll_succ] at h;rcases h with h|⟨h0,h1,h2⟩
  ·exact closeAll_sound n ps u hu m i j h
  ·have a:=closeAll_sound n ps u hu m i m h1;have b:=closeAll_sound n ps u hu m m j h2;exact⟨h0,b.2.1,a.2.2.trans b.2.2⟩
theorem closeAll_mono(n:Nat)(u:Nat->Nat):∀m i j,T u i j->T (closeAll n u m) i j
 |0,_,_,h=>h
 |m+1,i,j,h=>by rw[T_closeAll_succ];exact Or.inl (closeAll_mono n u m i j h)
theorem closeAll_trans(n:Nat)(u:Nat->Nat):∀m i k j,m<=n->k<m->i<n->T (closeAll n u m) i k->T (closeAll n u m) k j->T (closeAll n u m) i j
 |0,_,_,_,_,h,_,_,_=>by omega
 |m+1,i,k,j,hmn,hk,hi,h1,h2=>by
  rw[T_closeAll_succ] at h1 h2⊢;have ih:=closeAll_trans n u m;by_cases e:k=m
  ·subst e;have a:T (closeAll n u k) i k:=by rcases h1 with h|h;exact h;exact h.2.1
   have b:T (closeAll n u k) k j:=by rcases h2 with h|h;exact h;exact h.2.2
   exact Or.inr ⟨hi,a,b⟩
  ·have hkm:k<m:=by omega
   rcases h1 with h1|⟨_,h1,h1'⟩
   ·rcases h2 with h2|⟨_,h2,h2'⟩
    ·exact Or.inl (ih i k j (by omega) hkm hi h1 h2)
    ·exact Or.inr ⟨hi,ih i k m (by omega) hkm hi h1 h2,h2'⟩
   ·rcases h2 with h2|⟨_,h2,h2'⟩
    ·exact Or.inr ⟨hi,h1,ih m k j (by omega) hkm (by omega) h1' h2⟩
    ·exact Or.inr ⟨hi,h1,h2'⟩
theorem okP_iff(n:Nat)(p:Int×Int):okP n p=true↔0<=p.1/\p.1<n/\0<=p.2/\p.2<n:=by
 simp[okP];omega
theorem T_close{n:Nat}{ps:List (Int×Int)}{u:Nat->Nat}(h:addPairs n ps (up0 n)=some u)(i j:Nat):T (closeAll n u n) i j↔i<n/\j<n/\RT ps i j:=by
 have hok:=addPairs_ok n ps _ u h;have hu:∀i j,T u i j↔(i<n/\i=j)\/∃p∈ps,i=p.1.toNat/\j=p.2.toNat:=λ i j=>by rw[T_addPairs n ps _ u h,T_up0]
 have hs:∀i j,T u i j->i<n/\j<n/\RT ps i j:=λ i j hij=>by
  rcases(hu i j).1 hij with⟨h1,rfl⟩|⟨p,hp,rfl,rfl⟩
  ·exact⟨h1,h1,RT.refl _ _⟩
  ·have:=(okP_iff n p).1 (hok p hp);exact⟨by omega,by omega,RT.pair hp⟩
 constructor
 ·exact closeAll_sound n ps u hs n i j
 ·rintro⟨hi,hj,hr⟩;have key:=hr (λ x y=>(x<n->y<n/\T (closeAll n u n) x y)) (λ x hx=>⟨hx,closeAll_mono n u n x x ((hu x x).2 (Or.inl ⟨hx,rfl⟩))⟩)
   (λ x y z h1 h2 hx=>by
     obtain⟨hy,h1⟩:=h1 hx;obtain⟨hz,h2⟩:=h2 hy;exact⟨hz,closeAll_trans n u n x y z (Nat.le_refl _) hy hx h1 h2⟩)
   (λ p hp _=>by
     have:=(okP_iff n p).1 (hok p hp);exact⟨by omega,closeAll_mono n u n _ _ ((hu _ _).2 (Or.inr ⟨p,hp,rfl,rfl⟩))⟩)
  exact(key hi).2
theorem T_stepD(up:Nat->Nat)(i:Nat)(d:Nat->Nat)(k x y:Nat):T (stepD up i d k) x y↔T d x y\/(x=k/\y=i/\T up i k):=by
 unfold stepD;by_cases h:(up i).testBit k=true
 ·rw[if_pos h,T_upd];by_cases e:x=k
  ·subst e;rw[if_pos rfl,Nat.testBit_or,Nat.testBit_two_pow,Bool.or_eq_true,decide_eq_true_eq];unfold T;constructor
   ·rintro(h'|h')
    ·exact Or.inl h'
    ·exact Or.inr ⟨rfl,h'.symm,h⟩
   ·rintro(h'|h')
    ·exact Or.inl h'
    ·exact Or.inr h'.2.1.symm
  ·rw[if_neg e];simp[e]
 ·rw[if_neg h];constructor
  ·exact Or.inl
  ·rintro(h'|⟨_,_,h'⟩)
   ·exact h'
   ·exact absurd h' h
theorem T_downI(up:Nat->Nat)(i:Nat)(d:Nat->Nat):∀m x y,T ((List.range m).foldl (stepD up i) d) x y↔T d x y\/(x<m/\y=i/\T up i x)
 |0,x,y=>by simp
 |m+1,x,y=>by
  rw[range_foldl_succ,T_stepD,T_downI up i d m];constructor
  ·rintro((h|h)|⟨rfl,rfl,h⟩)
   ·exact Or.inl h
   ·exact Or.inr ⟨by omega,h.2⟩
   ·exact Or.inr ⟨by omega,rfl,h⟩
  ·rintro(h|⟨h,rfl,h1⟩)
   ·exact Or.inl (Or.inl h)
   ·by_cases e:x=m
    ·subst e;exact Or.inr ⟨rfl,rfl,h1⟩
    ·exact Or.inl (Or.inr ⟨by omega,rfl,h1⟩)
theorem T_downAll(n:Nat)(up:Nat->Nat):∀m x y,T (downAll n up m) x y↔x<n/\y<m/\T up y x
 |0,x,y=>by simp[downAll,T]
 |m+1,x,y=>by
  have ih:=T_downAll n up m x y;unfold downAll at ih⊢;rw[range_foldl_succ];unfold downI;rw[T_downI,show T ((List.range m).foldl (λ d i=>(List.range n).foldl (stepD up i) d) λ _=>0) x y↔_ from ih];constructor
  ·rintro(⟨h1,h2,h3⟩|⟨h1,rfl,h3⟩)
   ·exact⟨h1,by omega,h3⟩
   ·exact⟨h1,by omega,h3⟩
  ·rintro⟨h1,h2,h3⟩;by_cases e:y=m
   ·subst e;exact Or.inr ⟨h1,rfl,h3⟩
   ·exact Or.inl ⟨h1,by omega,h3⟩
theorem lt_of_T{s:Nat->Nat}{i:Nat}(h:∀j,T s i j->j<32):s i<4294967296:=by
 rw[show(4294967296:Nat)=2^32 from rfl];apply Nat.lt_pow_two_of_testBit;intro j hj;cases e:(s i).testBit j with
 |false=>rfl
 |true=>exact absurd (h j e) (by omega)
theorem T_and(s:Nat->Nat)(i j k:Nat):(s i&&&s j).testBit k=true↔T s i k/\T s j k:=by
 rw[Nat.testBit_and,Bool.and_eq_true];rfl
def Bd(s:Nat->Nat)(i j k:Nat):Prop:=T s i k/\T s j k/\∀m,T s i m->T s j m->T s k m
theorem good_iff{s:Nat->Nat}(h:∀i j,T s i j->j<32)(i j k:Nat):((s i&&&s j).testBit k&&Pl.sub (s i&&&s j) (s k))=true↔Bd s i j k:=by
 have hl:s i&&&s j<4294967296:=Nat.lt_of_le_of_lt Nat.and_le_left (lt_of_T (h i));rw[Bool.and_eq_true,T_and,Pl.sub_iff _ _ hl (lt_of_T (h k))];constructor
 ·rintro⟨⟨h1,h2⟩,h3⟩;exact⟨h1,h2,λ m a b=>h3 m ((T_and s i j m).2 ⟨a,b⟩)⟩
 ·rintro⟨h1,h2,h3⟩;exact⟨⟨h1,h2⟩,λ m hm=>by have:=(T_and s i j m).1 hm;exact h3 m this.1 this.2⟩
theorem bnd_good{s:Nat->Nat}(h:∀i j,T s i j->j<32)(i j:Nat)(hw:0<=Pl.bnd s (s i&&&s j)):∃k:Nat,Pl.bnd s (s i&&&s j)=k/\Bd s i j k:=by
 rcases Pl.bnd_cases s (s i&&&s j) with⟨h1,_⟩|⟨k,_,hk,hg,_⟩
 ·omega
 ·exact⟨k,hk,(good_iff h i j k).1 hg⟩
theorem bnd_ge{s:Nat->Nat}(h:∀i j,T s i j->j<32)(i j k:Nat)(hb:Bd s i j k):0<=Pl.bnd s (s i&&&s j):=by
 rcases Pl.bnd_cases s (s i&&&s j) with⟨_,h2⟩|⟨m,_,hk,_,_⟩
 ·have:=h2 k (h i k hb.1);rw[(good_iff h i j k).2 hb] at this;cases this
 ·omega
theorem whole_iff(n:Nat)(s:Nat->Nat):whole n s=true↔∀i,i<n->∀j,j<n->0<=Pl.bnd s (s i&&&s j):=by
 unfold whole;rw[List.all_eq_true];simp only[List.mem_range,whole1,List.all_eq_true,whole2,decide_eq_true_eq]
theorem okLoop_iff{up dn:Nat->Nat}(i:Nat):okLoop up dn i=true↔∀j,(T up i j/\T dn i j)↔j=i:=by
 unfold okLoop;rw[beq_iff_eq];constructor
 ·intro h j;have:=congrArg (λ x=>x.testBit j) h;simp only[Nat.testBit_and,Nat.testBit_two_pow] at this;unfold T;rw[<-Bool.and_eq_true,this,decide_eq_true_eq];exact eq_comm
 ·intro h;apply Nat.eq_of_testBit_eq;intro j;rw[Nat.testBit_and,Nat.testBit_two_pow,Bool.eq_iff_iff,Bool.and_eq_true,decide_eq_true_eq];exact(h j).trans eq_comm
def Anti(ps:List (Int×Int))(n:Nat):Prop:=∀i j,i<n->j<n->RT ps i j->RT ps j i->i=j
def IsJoin(ps:List (Int×Int))(n i j k:Nat):Prop:=k<n/\RT ps i k/\RT ps j k/\∀m,m<n->RT ps i m->RT ps j m->RT ps k m
def IsMeet(ps:List (Int×Int))(n i j k:Nat):Prop:=k<n/\RT ps k i/\RT ps k j/\∀m,m<n->RT ps m i->RT ps m j->RT ps m k
def Full(ps:List (Int×Int))(n:Nat):Prop:=∀i j,i<n->j<n->(∃k,IsJoin ps n i j k)/\∃k,IsMeet ps n i j k
structure IsLat (n:Nat) (ps:List (Int×Int)) (up dn:Nat->Nat):Prop where
 up:∀i j,T up i j↔i<n/\j<n/\RT ps i j
 dn:∀i j,T dn i j↔i<n/\j<n/\RT ps j i
 anti:Anti ps n
 full:Full ps n
section
variable {n:Nat} {ps:List (Int×Int)} {up dn:Nat->Nat}
theorem Bd_up(hu:∀i j,T up i j↔i<n/\j<n/\RT ps i j){i j:Nat}(hi:i<n)(hj:j<n)(k:Nat):Bd up i j k↔IsJoin ps n i j k:=by
 unfold Bd IsJoin;simp only[hu,hi,hj,true_and];constructor
 ·rintro⟨⟨a,b⟩,⟨_,c⟩,d⟩;exact⟨a,b,c,λ m hm h1 h2=>(d m ⟨hm,h1⟩ ⟨hm,h2⟩).2.2⟩
 ·rintro⟨a,b,c,d⟩;exact⟨⟨a,b⟩,⟨a,c⟩,λ m h1 h2=>⟨a,h1.1,d m h1.1 h1.2 h2.2⟩⟩
theorem Bd_dn(hd:∀i j,T dn i j↔i<n/\j<n/\RT ps j i){i j:Nat}(hi:i<n)(hj:j<n)(k:Nat):Bd dn i j k↔IsMeet ps n i j k:=by
 unfold Bd IsMeet;simp only[hd,hi,hj,true_and];constructor
 ·rintro⟨⟨a,b⟩,⟨_,c⟩,d⟩;exact⟨a,b,c,λ m hm h1 h2=>(d m ⟨hm,h1⟩ ⟨hm,h2⟩).2.2⟩
 ·rintro⟨a,b,c,d⟩;exact⟨⟨a,b⟩,⟨a,c⟩,λ m h1 h2=>⟨a,h1.1,d m h1.1 h1.2 h2.2⟩⟩
end
theorem newL_all{n:Nat}{ps:List (Int×Int)}(hn:n<=32)(hok:∀p∈ps,okP n p=true):
  (¬Anti ps n->(newL n ps).1=9)/\(Anti ps n->¬Full ps n->(newL n ps).1=4)/\
  (Anti ps n->Full ps n->(newL n ps).1=0/\IsLat n ps (newL n ps).2.1 (newL n ps).2.2):=by
 obtain⟨u,hu⟩:=addPairs_isSome n ps (up0 n) hok;have hT:=T_close hu;have hD:∀i j,T (downAll n (closeAll n u n) n) i j↔i<n/\j<n/\RT ps j i:=λ i j=>by
  rw[T_downAll,hT];constructor
  ·rintro⟨a,b,_,_,c⟩;exact⟨a,b,c⟩
  ·rintro⟨a,b,c⟩;exact⟨a,b,b,a,c⟩
 generalize hup:closeAll n u n=up at*;generalize hdn:downAll n up n=dn at*;have hloop:(List.range n).all (okLoop up dn)=true↔Anti ps n:=by
  rw[List.all_eq_true];simp only[List.mem_range];constructor
  ·intro h i j hi hj h1 h2;have:=((okLoop_iff i).1 (h i hi) j).1 ⟨(hT i j).2 ⟨hi,hj,h1⟩,(hD i j).2 ⟨hi,hj,h2⟩⟩;exact this.symm
  ·intro h i hi;rw[okLoop_iff];intro j;rw[hT,hD];constructor
   ·rintro⟨⟨_,hj,h1⟩,_,_,h2⟩;exact(h i j hi hj h1 h2).symm
   ·rintro rfl;exact⟨⟨hi,hi,RT.refl _ _⟩,hi,hi,RT.refl _ _⟩
 have hbu:∀i j,T up i j->j<32:=λ i j h=>by have:=(hT i j).1 h;omega
 have hbd:∀i j,T dn i j->j<32:=λ i j h=>by have:=(hD i j).1 h;omega
 have hfull:(whole n up&&whole n dn)=true↔Full ps n:=by
  rw[Bool.and_eq_true,whole_iff,whole_iff];constructor
  ·rintro⟨h1,h2⟩ i j hi hj;obtain⟨k,_,hk⟩:=bnd_good hbu i j (h1 i hi j hj);obtain⟨m,_,hm⟩:=bnd_good hbd i j (h2 i hi j hj);exact⟨⟨k,(Bd_up hT hi hj k).1 hk⟩,⟨m,(Bd_dn hD hi hj m).1 hm⟩⟩
  ·intro h;refine⟨λ i hi j hj=> ?_,λ i hi j hj=> ?_⟩
   ·obtain⟨⟨k,hk⟩,_⟩:=h i j hi hj;exact bnd_ge hbu i j k ((Bd_up hT hi hj k).2 hk)
   ·obtain⟨_,⟨k,hk⟩⟩:=h i j hi hj;exact bnd_ge hbd i j k ((Bd_dn hD hi hj k).2 hk)
 refine⟨λ ha=> ?_,λ ha hf=> ?_,λ ha hf=> ?_⟩
 ·rw[newL_loop hu (by rw[hup,hdn];cases e:(List.range n).all (okLoop up dn) with
   |false=>rfl
   |true=>exact absurd (hloop.1 e) ha)]
 ·rw[newL_form hu (by rw[hup,hdn];exact hloop.2 ha) (by rw[hup,hdn];cases e:(whole n up&&whole n dn) with
   |false=>rfl
   |true=>exact absurd (hfull.1 e) hf)]
 ·rw[newL_ok hu (by rw[hup,hdn];exact hloop.2 ha) (by rw[hup,hdn];exact hfull.2 hf),hup,hdn];exact⟨rfl,hT,hD,ha,hf⟩
theorem newL_zero{n:Nat}{ps:List (Int×Int)}(hn:n<=32)(h:(newL n ps).1=0):(∀p∈ps,okP n p=true)/\IsLat n ps (newL n ps).2.1 (newL n ps).2.2:=by
 have hok:∀p∈ps,okP n p=true:=λ p hp=>by
  cases e:okP n p with
  |true=>rfl
  |false=>rw[newL_none (addPairs_none n ps _ p hp e)] at h;cases h
 obtain⟨h1,h2,h3⟩:=newL_all hn hok;have ha:Anti ps n:=Classical.byContradiction λ ha=>by rw[h1 ha] at h;cases h
 have hf:Full ps n:=Classical.byContradiction λ hf=>by rw[h2 ha hf] at h;cases h
 exact⟨hok,(h3 ha hf).2⟩
section
variable {n:Nat} {ps:List (Int×Int)} {up dn:Nat->Nat}
theorem isB_of{n i:Nat}(h:i<n):isB n (i:Int)=true:=by simp[isB];exact h
theorem leB_iff(h:IsLat n ps up dn){i j:Nat}(hi:i<n)(hj:j<n):leB n up i j=true↔RT ps i j:=by
 unfold leB;rw[isB_of hi,isB_of hj];simp only[Bool.and_self,Bool.true_and,Int.toNat_natCast];exact(h.up i j).trans ⟨λ h=>h.2.2,λ h=>⟨hi,hj,h⟩⟩
end
end Go.Proofs.YtgdpkkjfcdhmdaaGreatDoor
