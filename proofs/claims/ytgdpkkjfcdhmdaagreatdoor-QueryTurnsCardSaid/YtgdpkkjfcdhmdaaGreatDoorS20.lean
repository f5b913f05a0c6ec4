/- Walks of the reference's lattice: Is, Le, Join, Meet. (and what follows on it). -/
import Derived.Test.YtgdpkkjfcdhmdaaGreatDoorS0
import Derived.Test.YtgdpkkjfcdhmdaaGreatDoorS19
import Derived.Deep.DeepCutAuto
import Derived.Deep.CutBlock
import Derived.Maps.AppendAt
namespace Go.Proofs.YtgdpkkjfcdhmdaaGreatDoor
open Go.RowKit
structure RefC (w:World) (xb g cap n:Nat) (r:Nat->Nat) (M:Nat->Nat->Bool):Prop where
 top:w.cell? ⟨xb,0,none⟩=some (.slice (some ⟨g,0,none⟩) n cap)
 row:∀i,i<n->w.cell? ⟨g,i,none⟩=some (.slice (some ⟨r i,0,none⟩) n n)
 bit:∀i j,i<n->j<n->w.cell? ⟨r i,j,none⟩=some (.bool (M i j))
 n32:n<=32
def rleB(n:Nat)(M:Nat->Nat->Bool)(x y:Int):Bool:=isB n x&&isB n y&&M x.toNat y.toNat
def jok(M:Nat->Nat->Bool)(a b c d:Nat):Bool:=M c d||(!M a d||!M b d)
def jbase(M:Nat->Nat->Bool)(a b c:Nat):Bool:=M a c&&M b c
def jgood(n:Nat)(M:Nat->Nat->Bool)(a b c:Nat):Bool:=jbase M a b c&&(List.range n).all (jok M a b c)
def firstFrom(p:Nat->Bool):Nat->Nat->Int
 |0,_=> -1
 |f+1,c=>if p c then(c:Int) else firstFrom p f (c+1)
def rjoin(n:Nat)(M:Nat->Nat->Bool)(a b:Nat):Int:=firstFrom (jgood n M a b) n 0
theorem firstFrom_step{p:Nat->Bool}{n c:Nat}(h:c<n):firstFrom p (n-c) c=if p c then(c:Int) else firstFrom p (n-(c+1)) (c+1):=by
 rw[show n-c=(n-(c+1))+1 by omega,firstFrom]
set_option maxHeartbeats 1000000 in
set_option maxRecDepth 100000 in
theorem rjoin_any(xb g cap n a b:Nat)(r:Nat->Nat)(M:Nat->Nat->Bool)(w:World)(h:RefC w xb g cap n r M)(ha:a<n)(hb:b<n):
  Calls Tryz.prog 86 #[.pointer (some ⟨xb,0,none⟩),.int .i64 a,.int .i64 b] w λ e w'=>e= .returned (.int .i64 (rjoin n M a b))/\w=w':=by
 have H:=Z h;have ht:=h.top;have hra:=h.row a ha;have hrb:=h.row b hb;have hn:=h.n32;have ha2:(a:Int)<n:=by omega
 have hb2:(b:Int)<n:=by omega
 clear h;go_enter Tryz.func86,Tryz.ntmps86
 go_wp2_with fail
 go_loop [7] (λ i=>∃c:Nat,c<=n/\i= .int .i64 c/\Hid (rjoin n M a b=firstFrom (jgood n M a b) (n-c) c)) (λ i=>n-(intOf i).toNat)
 case atStart=>exact⟨0,by omega,rfl,rfl⟩
 case round=>
  obtain⟨c,hc,rfl,hf⟩:=hrel;by_cases hlt:c<n
  ·have hrc:=H.o.row c hlt;have hac:=H.o.bit a c ha hlt;have hbc:=H.o.bit b c hb hlt;have Hstep:=Z (hf.o.trans (firstFrom_step hlt));clear hf;have hc2:(c:Int)<n:=by omega
   go_upto_region 4 with(fail)
   go_cut[8] (λ s wx=>s= .bool (jbase M a b c)/\w=wx)
   case first=>
    cases hA:M a c with
    |false=>
     rw[hA] at hac;have Hb:=Z (show jbase M a b c=false by simp[jbase,hA]);clear hA
     go_wp2_with fail
     go_meet
     exact⟨by rw[Hb.o],rfl⟩
    |true=>
     rw[hA] at hac;cases hB:M b c with
     |false=>
      rw[hB] at hbc;have Hb:=Z (show jbase M a b c=false by simp[jbase,hB]);clear hA hB
      go_wp2_with fail
      go_meet
      exact⟨by rw[Hb.o],rfl⟩
     |true=>
      rw[hB] at hbc;have Hb:=Z (show jbase M a b c=true by simp[jbase,hA,hB]);clear hA hB
      go_wp2_with fail
      go_meet
      exact⟨by rw[Hb.o],rfl⟩
   case rest=>
    obtain⟨rfl,rfl⟩:=hcut;clear hac hbc
    go_upto_block 2 with(fail)
    go_cut[8] (λ s wx=>s= .bool (jgood n M a b c)/\w=wx)
    case first=>
     go_wp2_with fail
     go_loop [8,9] (λ l i=>∃d:Nat,d<=n/\i= .int .i64 d/\l= .bool (jbase M a b c&&(List.range d).all (jok M a b c))) (λ _ i=>n-(intOf i).toNat)
     case atStart=>exact⟨0,by omega,rfl,by simp⟩
     case round=>
      obtain⟨d,hd,rfl,rfl⟩:=hrel;by_cases hlt2:d<n
      ·have hd2:(d:Int)<n:=by omega
       cases hL:(jbase M a b c&&(List.range d).all (jok M a b c)) with
       |false=>
        have Hg:Hid (jgood n M a b c=false):=by
         show jgood n M a b c=false;unfold jgood;rw[Bool.and_eq_false_iff] at hL⊢;rcases hL with hL|hL
         ·exact Or.inl hL
         ·right
          rw[List.all_eq_false] at hL⊢;obtain⟨x,hx,hx2⟩:=hL;exact⟨x,List.mem_range.2 (by have:=List.mem_range.1 hx;omega),hx2⟩
        clear hL
        go_wp2_with fail
        go_meet
        exact⟨by rw[Hg.o],rfl⟩
       |true=>
        have hcd:=H.o.bit c d hlt hlt2;have had:=H.o.bit a d ha hlt2;have hbd:=H.o.bit b d hb hlt2;have Hsucc:Hid ((jbase M a b c&&(List.range (d+1)).all (jok M a b c))=jok M a b c d):=by
         show _=_;rw[range_all_succ,<-Bool.and_assoc,hL,Bool.true_and]
        clear hL;cases e1:M c d with
        |true=>
         rw[e1] at hcd;have Hj:=Z (show jok M a b c d=true by simp[jok,e1]);clear e1
         go_wp2_with fail
         go_round
         case rel=>exact⟨d+1,by omega,by go_num,by rw[Hsucc.o,Hj.o]⟩
         case measure=>simp[intOf];omega
        |false=>
         rw[e1] at hcd;cases e2:M a d with
         |false=>
          rw[e2] at had;have Hj:=Z (show jok M a b c d=true by simp[jok,e2]);clear e1 e2
          go_wp2_with fail
          go_round
          case rel=>exact⟨d+1,by omega,by go_num,by rw[Hsucc.o,Hj.o]⟩
          case measure=>simp[intOf];omega
         |true=>
          rw[e2] at had;cases e3:M b d with
          |false=>
           rw[e3] at hbd;have Hj:=Z (show jok M a b c d=true by simp[jok,e3]);clear e1 e2 e3
           go_wp2_with fail
           go_round
           case rel=>exact⟨d+1,by omega,by go_num,by rw[Hsucc.o,Hj.o]⟩
           case measure=>simp[intOf];omega
          |true=>
           rw[e3] at hbd;have Hj:=Z (show jok M a b c d=false by simp[jok,e1,e2,e3]);clear e1 e2 e3
           go_wp2_with fail
           go_round
           case rel=>exact⟨d+1,by omega,by go_num,by rw[Hsucc.o,Hj.o]⟩
           case measure=>simp[intOf];omega
      ·obtain rfl:d=n:=by omega
       go_wp2_with fail
       go_meet
       exact⟨rfl,rfl⟩
    case rest=>
     obtain⟨rfl,rfl⟩:=hcut;cases hg:jgood n M a b c with
     |true=>
      have Hfin:Hid (rjoin n M a b=c):=by rw[Hstep.o,hg];rfl
      clear hg
      go_wp2_with fail
      go_ret
      exact⟨by rw[Hfin.o];rfl,rfl⟩
     |false=>
      have Hfin:Hid (rjoin n M a b=firstFrom (jgood n M a b) (n-(c+1)) (c+1)):=by rw[Hstep.o,hg];rfl
      clear hg
      go_wp2_with fail
      go_round
      case rel=>exact⟨c+1,by omega,by go_num,Hfin⟩
      case measure=>simp[intOf];omega
  ·obtain rfl:c=n:=by omega
   have Hfin:Hid (rjoin c M a b= -1):=by rw[hf.o,Nat.sub_self];rfl
   go_wp2_with fail
   go_ret
   exact⟨by rw[Hfin.o];rfl,rfl⟩
def tr(M:Nat->Nat->Bool):Nat->Nat->Bool:=λ i j=>M j i
set_option maxHeartbeats 1000000 in
set_option maxRecDepth 100000 in
theorem rmeet_any(xb g cap n a b:Nat)(r:Nat->Nat)(M:Nat->Nat->Bool)(w:World)(h:RefC w xb g cap n r M)(ha:a<n)(hb:b<n):
  Calls Tryz.prog 87 #[.pointer (some ⟨xb,0,none⟩),.int .i64 a,.int .i64 b] w λ e w'=>e= .returned (.int .i64 (rjoin n (tr M) a b))/\w=w':=by
 have H:=Z h;have ht:=h.top;have hn:=h.n32;have ha2:(a:Int)<n:=by omega
 have hb2:(b:Int)<n:=by omega
 clear h;go_enter Tryz.func87,Tryz.ntmps87
 go_wp2_with fail
 go_loop [7] (λ i=>∃c:Nat,c<=n/\i= .int .i64 c/\Hid (rjoin n (tr M) a b=firstFrom (jgood n (tr M) a b) (n-c) c)) (λ i=>n-(intOf i).toNat)
 case atStart=>exact⟨0,by omega,rfl,rfl⟩
 case round=>
  obtain⟨c,hc,rfl,hf⟩:=hrel;by_cases hlt:c<n
  ·have hrc:=H.o.row c hlt;have hac:=H.o.bit c a hlt ha;have hbc:=H.o.bit c b hlt hb;have Hstep:=Z (hf.o.trans (firstFrom_step hlt));clear hf;have hc2:(c:Int)<n:=by omega
   go_upto_region 4 with(fail)
   go_cut[8] (λ s wx=>s= .bool (jbase (tr M) a b c)/\w=wx)
   case first=>
    cases hA:M c a with
    |false=>
     rw[hA] at hac;have Hb:=Z (show jbase (tr M) a b c=false by simp[jbase,tr,hA]);clear hA
     go_wp2_with fail
     go_meet
     exact⟨by rw[Hb.o],rfl⟩
    |true=>
     rw[hA] at hac;cases hB:M c b with
     |false=>
      rw[hB] at hbc;have Hb:=Z (show jbase (tr M) a b c=false by simp[jbase,tr,hB]);clear hA hB
      go_wp2_with fail
      go_meet
      exact⟨by rw[Hb.o],rfl⟩
     |true=>
      rw[hB] at hbc;have Hb:=Z (show jbase (tr M) a b c=true by simp[jbase,tr,hA,hB]);clear hA hB
      go_wp2_with fail
      go_meet
      exact⟨by rw[Hb.o],rfl⟩
   case rest=>
    obtain⟨rfl,rfl⟩:=hcut;clear hac hbc
    go_upto_block 2 with(fail)
    go_cut[8] (λ s wx=>s= .bool (jgood n (tr M) a b c)/\w=wx)
    case first=>
     go_wp2_with fail
     go_loop [8,9] (λ l i=>∃d:Nat,d<=n/\i= .int .i64 d/\l= .bool (jbase (tr M) a b c&&(List.range d).all (jok (tr M) a b c))) (λ _ i=>n-(intOf i).toNat)
     case atStart=>exact⟨0,by omega,rfl,by simp⟩
     case round=>
      obtain⟨d,hd,rfl,rfl⟩:=hrel;by_cases hlt2:d<n
      ·have hd2:(d:Int)<n:=by omega
       cases hL:(jbase (tr M) a b c&&(List.range d).all (jok (tr M) a b c)) with
       |false=>
        have Hg:Hid (jgood n (tr M) a b c=false):=by
         show jgood n (tr M) a b c=false;unfold jgood;rw[Bool.and_eq_false_iff] at hL⊢;rcases hL with hL|hL
         ·exact Or.inl hL
         ·right
          rw[List.all_eq_false] at hL⊢;obtain⟨x,hx,hx2⟩:=hL;exact⟨x,List.mem_range.2 (by have:=List.mem_range.1 hx;omega),hx2⟩
        clear hL
        go_wp2_with fail
        go_meet
        exact⟨by rw[Hg.o],rfl⟩
       |true=>
        have hcd:=H.o.bit d c hlt2 hlt;have had:=H.o.bit d a hlt2 ha;have hbd:=H.o.bit d b hlt2 hb;have hrd:=H.o.row d hlt2;have Hsucc:Hid ((jbase (tr M) a b c&&(List.range (d+1)).all (jok (tr M) a b c))=jok (tr M) a b c d):=by
         show _=_;rw[range_all_succ,<-Bool.and_assoc,hL,Bool.true_and]
        clear hL;cases e1:M d c with
        |true=>
         rw[e1] at hcd;have Hj:=Z (show jok (tr M) a b c d=true by simp[jok,tr,e1]);clear e1
         go_wp2_with fail
         go_round
         case rel=>exact⟨d+1,by omega,by go_num,by rw[Hsucc.o,Hj.o]⟩
         case measure=>simp[intOf];omega
        |false=>
         rw[e1] at hcd;cases e2:M d a with
         |false=>
          rw[e2] at had;have Hj:=Z (show jok (tr M) a b c d=true by simp[jok,tr,e2]);clear e1 e2
          go_wp2_with fail
          go_round
          case rel=>exact⟨d+1,by omega,by go_num,by rw[Hsucc.o,Hj.o]⟩
          case measure=>simp[intOf];omega
         |true=>
          rw[e2] at had;cases e3:M d b with
          |false=>
           rw[e3] at hbd;have Hj:=Z (show jok (tr M) a b c d=true by simp[jok,tr,e3]);clear e1 e2 e3
           go_wp2_with fail
           go_round
           case rel=>exact⟨d+1,by omega,by go_num,by rw[Hsucc.o,Hj.o]⟩
           case measure=>simp[intOf];omega
          |true=>
           rw[e3] at hbd;have Hj:=Z (show jok (tr M) a b c d=false by simp[jok,tr,e1,e2,e3]);clear e1 e2 e3
           go_wp2_with fail
           go_round
           case rel=>exact⟨d+1,by omega,by go_num,by rw[Hsucc.o,Hj.o]⟩
           case measure=>simp[intOf];omega
      ·obtain rfl:d=n:=by omega
       go_wp2_with fail
       go_meet
       exact⟨rfl,rfl⟩
    case rest=>
     obtain⟨rfl,rfl⟩:=hcut;cases hg:jgood n (tr M) a b c with
     |true=>
      have Hfin:Hid (rjoin n (tr M) a b=c):=by rw[Hstep.o,hg];rfl
      clear hg
      go_wp2_with fail
      go_ret
      exact⟨by rw[Hfin.o];rfl,rfl⟩
     |false=>
      have Hfin:Hid (rjoin n (tr M) a b=firstFrom (jgood n (tr M) a b) (n-(c+1)) (c+1)):=by rw[Hstep.o,hg];rfl
      clear hg
      go_wp2_with fail
      go_round
      case rel=>exact⟨c+1,by omega,by go_num,Hfin⟩
      case measure=>simp[intOf];omega
  ·obtain rfl:c=n:=by omega
   have Hfin:Hid (rjoin c (tr M) a b= -1):=by rw[hf.o,Nat.sub_self];rfl
   go_wp2_with fail
   go_ret
   exact⟨by rw[Hfin.o];rfl,rfl⟩
theorem Tryz.info4:(Tryz.prog.info? 4).map (λ i=>(i.zero,i.size,i.bytes))=some (some (.bool false),1,1):=by kernel_rfl
theorem Tryz.info26:(Tryz.prog.info? 26).map (λ i=>(i.zero,i.size,i.bytes))=some (some (.slice none 0 0),1,24):=by kernel_rfl
def rowV(n R:Nat):Value:=.slice (some ⟨R,0,none⟩) n n
structure RefB (w0 wr:World) (n k:Nat) (v:Value) (r:Nat->Nat) (M:Nat->Nat->Bool):Prop where
 below:Below w0.heap.size w0 wr
 xc:wr.cell? ⟨w0.heap.size,0,none⟩=some v
 xf:wr.frozen? ⟨w0.heap.size,0,none⟩=false
 own:wr.ownsRow (w0.heap.size+1) 26 1 v k ((List.range k).map λ i=>rowV n (r i))
 size:w0.heap.size<wr.heap.size
 lo:∀i,i<k->w0.heap.size<r i/\r i<wr.heap.size
 bit:∀i j,i<k->j<n->wr.cell? ⟨r i,j,none⟩=some (.bool (M i j))
 fz:∀i j,i<k->wr.frozen? ⟨r i,j,none⟩=false
 inj:∀i j,i<k->j<k->r i=r j->i=j
 sep:∀i,i<k->v.ownBlock≠some (r i)
theorem RefB.drew{w0 wr:World}{n k:Nat}{v:Value}{r:Nat->Nat}{M:Nat->Nat->Bool}(h:RefB w0 wr n k v r M):RefB w0 wr.drew n k v r M:=
 ⟨h.below.drew,h.xc,h.xf,h.own,h.size,h.lo,h.bit,h.fz,h.inj,h.sep⟩
theorem RefB.step{w0 wq w2 w3:World}{n k:Nat}{v v':Value}{r:Nat->Nat}{M:Nat->Nat->Bool}(h:RefB w0 wq n k v r M)
  (hB:Below wq.heap.size wq w2)(hR:wq.heap.size<w2.heap.size)(hRc:∀j,j<n->w2.cell? ⟨wq.heap.size,j,none⟩=some (.bool false))(hRf:∀j,w2.frozen? ⟨wq.heap.size,j,none⟩=false)
  (h3:w3.ownsRow (w0.heap.size+1) 26 1 v' (k+1) (((List.range k).map λ i=>rowV n (r i))++[rowV n wq.heap.size]))(g3:w2.grownBy w3 v.ownBlock)
  (hat:v'.ownBlock=v.ownBlock\/v'.ownBlock=some w2.heap.size):
  RefB w0 (w3.setCell ⟨w0.heap.size,0,none⟩ v') n (k+1) v' (λ i=>if i=k then wq.heap.size else r i) (λ i j=>if i=k then false else M i j):=by
 have hs0:=h.size;have gs1:=hB.size;have gs3:=g3.size;have hvlt:∀b,v.ownBlock=some b->w0.heap.size<b/\b<wq.heap.size:=λ b hb=>by have:=h.own.lt b hb;omega
 have keep:∀b,b<wq.heap.size->v.ownBlock≠some b->w3.heap[b]? =wq.heap[b]? :=λ b hb hne=>
  (g3.block b (by omega) (Ne.symm hne)).trans (hB.block b hb)
 have keepR:w3.heap[wq.heap.size]? =w2.heap[wq.heap.size]? :=
  g3.block wq.heap.size (by omega) (λ e=>by have:=hvlt _ e.symm;omega)
 have hx:v.ownBlock≠some w0.heap.size:=λ e=>by have:=hvlt _ e;omega
 have kx:=keep w0.heap.size hs0 hx;have far:∀b o',b≠w0.heap.size->(w3.setCell ⟨w0.heap.size,0,none⟩ v').cell? ⟨b,o',none⟩=w3.cell? ⟨b,o',none⟩:=λ b o' hb=>World.cell?_setCell_other _ _ _ _ (λ e=>hb (congrArg Addr.block e).symm)
 refine⟨?_,?_,?_,?_,?_,?_,?_,?_,?_,?_⟩
 ·refine(h.below.trans ⟨g3.os.trans hB.os,g3.tape.trans hB.tape,g3.output.trans hB.output,by omega,λ b hb=>keep b (by omega) (λ e=>by have:=hvlt _ e;omega)⟩).setCell (Nat.le_refl _) _
 ·exact World.cell?_setCell_same _ _ _ ((World.cell?_of_block (w:=wq) (a:=⟨w0.heap.size,0,none⟩) kx).trans h.xc)
 ·rw[World.frozen?_setCell];exact(World.frozen?_of_block (w:=wq) (a:=⟨w0.heap.size,0,none⟩) kx).trans h.xf
 ·refine ownsRow_setCell_below ?_ (by show w0.heap.size<w0.heap.size+1;omega) _;rw[List.range_succ,List.map_append];have e1:((List.range k).map λ i=>rowV n (if i=k then wq.heap.size else r i))=(List.range k).map λ i=>rowV n (r i):=by
   apply List.map_congr_left;intro i hi;rw[if_neg (by have:=List.mem_range.1 hi;omega)]
  rw[e1];simpa using h3
 ·simp only[World.setCell,Array.size_modify];omega
 ·intro i hi;simp only[World.setCell,Array.size_modify];by_cases e:i=k
  ·rw[if_pos e];omega
  ·rw[if_neg e];have:=h.lo i (by omega);omega
 ·intro i j hi hj;by_cases e:i=k
  ·simp only[if_pos e];rw[far _ _ (by omega),World.cell?_of_block (w:=w2) (a:=⟨wq.heap.size,j,none⟩) keepR];exact hRc j hj
  ·simp only[if_neg e];have hl:=h.lo i (by omega);rw[far _ _ (by omega),World.cell?_of_block (w:=wq) (a:=⟨r i,j,none⟩) (keep (r i) hl.2 (h.sep i (by omega)))];exact h.bit i j (by omega) hj
 ·intro i j hi;rw[World.frozen?_setCell];by_cases e:i=k
  ·simp only[if_pos e];rw[World.frozen?_of_block (w:=w2) (a:=⟨wq.heap.size,j,none⟩) keepR];exact hRf j
  ·simp only[if_neg e];have hl:=h.lo i (by omega);rw[World.frozen?_of_block (w:=wq) (a:=⟨r i,j,none⟩) (keep (r i) hl.2 (h.sep i (by omega)))];exact h.fz i j (by omega)
 ·intro i j hi hj;by_cases ei:i=k
  ·by_cases ej:j=k
   ·intro _;omega
   ·simp only[if_pos ei,if_neg ej];intro e;have:=h.lo j (by omega);omega
  ·by_cases ej:j=k
   ·simp only[if_neg ei,if_pos ej];intro e;have:=h.lo i (by omega);omega
   ·simp only[if_neg ei,if_neg ej];exact h.inj i j (by omega) (by omega)
 ·intro i hi;by_cases e:i=k
  ·simp only[if_pos e];rcases hat with hat|hat
   ·rw[hat];intro e;have:=hvlt _ e;omega
   ·rw[hat];intro e;simp at e;omega
  ·simp only[if_neg e];rcases hat with hat|hat
   ·rw[hat];exact h.sep i (by omega)
   ·rw[hat];intro e;simp at e;have:=h.lo i (by omega);omega
def updM(M:Nat->Nat->Bool)(a b:Nat)(x:Bool):Nat->Nat->Bool:=λ i j=>if i=a/\j=b then x else M i j
theorem RefB.setBit{w0 wr:World}{n k:Nat}{v:Value}{r:Nat->Nat}{M:Nat->Nat->Bool}(h:RefB w0 wr n k v r M){a b:Nat}(ha:a<k)(hb:b<n)(x:Bool):
  RefB w0 (wr.setCell ⟨r a,b,none⟩ (.bool x)) n k v r (updM M a b x):=by
 have hl:=h.lo a ha;have ho:∀p:Addr,p≠⟨r a,b,none⟩->(wr.setCell ⟨r a,b,none⟩ (.bool x)).cell? p=wr.cell? p:=λ p hp=>World.cell?_setCell_other _ _ _ _ (Ne.symm hp)
 refine⟨h.below.setCell (by show w0.heap.size<=r a;omega) _,?_,by rw[World.frozen?_setCell];exact h.xf,?_,by simp[World.setCell];exact h.size,?_,?_,?_,h.inj,h.sep⟩
 ·rw[ho _ (λ e=>absurd (congrArg Addr.block e) (by show¬w0.heap.size=r a;omega))];exact h.xc
 ·refine World.ownsRow.kept (row:=some (r a)) h.own ⟨rfl,rfl,rfl,by simp[World.setCell],λ q _ hq=>Below.heap_setCell _ _ _ _ (by intro e;exact hq (by rw[e]))⟩ (Or.inr (h.sep a ha))
 ·intro i hi;simp only[World.setCell,Array.size_modify];exact h.lo i hi
 ·intro i j hi hj;unfold updM;by_cases e:i=a/\j=b
  ·obtain⟨rfl,rfl⟩:=e;rw[if_pos ⟨rfl,rfl⟩];exact World.cell?_setCell_same _ _ _ (h.bit i j hi hj)
  ·rw[if_neg e,ho _ (λ e2=>e (by simp at e2;exact⟨h.inj i a hi ha e2.1,e2.2⟩))];exact h.bit i j hi hj
 ·intro i j hi;rw[World.frozen?_setCell];exact h.fz i j hi
theorem dia_step{M:Nat->Nat->Bool}{k n:Nat}(hM:∀i j,i<k->j<n->M i j=decide (i=j)):∀i j,i<k+1->j<n->updM (λ i j=>if i=k then false else M i j) k k true i j=decide (i=j):=λ i j hi hj=>by
 show(if i=k/\j=k then true else if i=k then false else M i j)=decide (i=j);by_cases e:i=k
 ·by_cases e2:j=k
  ·rw[if_pos ⟨e,e2⟩];simp;omega
  ·rw[if_neg (by omega),if_pos e];simp;omega
 ·rw[if_neg (by omega),if_neg e];exact hM i j (by omega) hj
theorem RefB.start(w:World)(n:Nat):RefB w (w.alloc (.cells #[.slice none 0 0] 93)) n 0 (.slice none 0 0) (λ _=>0) (λ _ _=>false):=
 ⟨(Below.refl _ _).alloc (Nat.le_refl _) _,by simp,World.frozen?_alloc_at _ _ _ _ rfl,World.ownsRow_nil _ _ _ _,by simp,λ _ h=>by omega,λ _ _ h=>by omega,λ _ _ h=>by omega,λ _ _ h=>by omega,λ _ h=>by omega⟩
theorem RefB.congr{w0 wr:World}{n k:Nat}{v:Value}{r:Nat->Nat}{M M':Nat->Nat->Bool}(h:RefB w0 wr n k v r M)(hm:∀i j,i<k->j<n->M i j=M' i j):RefB w0 wr n k v r M':=
 ⟨h.below,h.xc,h.xf,h.own,h.size,h.lo,λ i j hi hj=>by rw[<-hm i j hi hj];exact h.bit i j hi hj,h.fz,h.inj,h.sep⟩
theorem RefB.same{w0 wr wr':World}{n k:Nat}{v:Value}{r:Nat->Nat}{M:Nat->Nat->Bool}(h:RefB w0 wr n k v r M)(s:Same wr wr'):RefB w0 wr' n k v r M:=by
 obtain⟨m,rfl⟩:=s;exact⟨⟨h.below.os,h.below.tape,h.below.output,h.below.size,h.below.block⟩,h.xc,h.xf,h.own,h.size,h.lo,h.bit,h.fz,h.inj,h.sep⟩
theorem RefB.form{w0 wr:World}{n:Nat}{v:Value}{r:Nat->Nat}{M:Nat->Nat->Bool}(h:RefB w0 wr n n v r M)(hn:1<=n):∃g cap,v= .slice (some ⟨g,0,none⟩) n cap:=by
 obtain⟨_,⟨_,h0⟩|⟨g,cap,cur,hv,_⟩⟩:=h.own
 ·omega
 ·exact⟨g,cap,hv⟩
theorem RefB.refC{w0 wr:World}{n g cap:Nat}{r:Nat->Nat}{M:Nat->Nat->Bool}(h:RefB w0 wr n n (.slice (some ⟨g,0,none⟩) n cap) r M)(h32:n<=32):RefC wr w0.heap.size g cap n r M:=by
 refine⟨h.xc,λ i hi=> ?_,λ i j hi hj=>h.bit i j hi hj,h32⟩;have:=World.ownsRow.cells h.own (g:=g) rfl i (rowV n (r i)) (by simp[hi]);rw[show(⟨g,0,none⟩:Addr).add i=⟨g,i,none⟩ by unfold Addr.add;split<;>simp_all] at this;exact this
end Go.Proofs.YtgdpkkjfcdhmdaaGreatDoor
namespace Go.Proofs.YtgdpkkjfcdhmdaaGreatDoor
def PM(n:Nat)(ps:List (Int×Int))(q:Nat)(M:Nat->Nat->Bool):Prop:=
 (∀p∈ps.take q,okP n p=true)/\∀i j,i<n->j<n->(M i j=true↔i=j\/∃p∈ps.take q,i=p.1.toNat/\j=p.2.toNat)
theorem PM.start{n:Nat}{ps:List (Int×Int)}{M:Nat->Nat->Bool}(h:∀i j,i<n->j<n->M i j=decide (i=j)):PM n ps 0 M:=
 ⟨λ p hp=>by simp at hp,λ i j hi hj=>by rw[h i j hi hj];simp⟩
theorem take_succ_getD(ps:List (Int×Int))(q:Nat)(h:q<ps.length):ps.take (q+1)=ps.take q++[ps.getD q (0,0)]:=by
 rw[List.take_succ_eq_append_getElem h,List.getD_eq_getElem?_getD,List.getElem?_eq_getElem h];rfl
theorem PM.step{n q:Nat}{ps:List (Int×Int)}{M:Nat->Nat->Bool}(h:PM n ps q M)(hq:q<ps.length){x y:Nat}(hx:x<n)(hy:y<n)(e:ps.getD q (0,0)=((x:Int),(y:Int))):
  PM n ps (q+1) (updM M x y true):=by
 have ht:=take_succ_getD ps q hq;rw[e] at ht;refine⟨λ p hp=> ?_,λ i j hi hj=> ?_⟩
 ·rw[ht] at hp;rcases List.mem_append.1 hp with hp|hp
  ·exact h.1 p hp
  ·rw[List.mem_singleton] at hp;subst hp;exact okP_in n x y hx hy
 ·rw[ht];unfold updM;by_cases c:i=x/\j=y
  ·rw[if_pos c];obtain⟨rfl,rfl⟩:=c;simp only[true_iff];exact Or.inr ⟨_,List.mem_append_right _ (List.mem_singleton.2 rfl),by simp,by simp⟩
  ·rw[if_neg c,h.2 i j hi hj];constructor
   ·rintro(h|⟨p,hp,h1⟩)
    ·exact Or.inl h
    ·exact Or.inr ⟨p,List.mem_append_left _ hp,h1⟩
   ·rintro(h|⟨p,hp,h1,h2⟩)
    ·exact Or.inl h
    ·rcases List.mem_append.1 hp with hp|hp
     ·exact Or.inr ⟨p,hp,h1,h2⟩
     ·rw[List.mem_singleton] at hp;subst hp;simp only[Int.toNat_natCast] at h1 h2;exact absurd ⟨h1,h2⟩ c
structure CM (n:Nat) (ps:List (Int×Int)) (m:Nat) (M:Nat->Nat->Bool):Prop where
 ok:∀p∈ps,okP n p=true
 sound:∀i j,i<n->j<n->M i j=true->RT ps i j
 refl:∀i,i<n->M i i=true
 pair:∀p∈ps,M p.1.toNat p.2.toNat=true
 trans:∀k,k<m->k<n->∀i j,i<n->j<n->M i k=true->M k j=true->M i j=true
theorem CM.start{n:Nat}{ps:List (Int×Int)}{M:Nat->Nat->Bool}(h:PM n ps ps.length M):CM n ps 0 M:=by
 rw[PM,List.take_length] at h;refine⟨h.1,λ i j hi hj hm=> ?_,λ i hi=>(h.2 i i hi hi).2 (Or.inl rfl),λ p hp=> ?_,λ k hk=>by omega⟩
 ·rcases(h.2 i j hi hj).1 hm with rfl|⟨p,hp,rfl,rfl⟩
  ·exact RT.refl _ _
  ·exact RT.pair hp
 ·have:=(okP_iff n p).1 (h.1 p hp);exact(h.2 _ _ (by omega) (by omega)).2 (Or.inr ⟨p,hp,rfl,rfl⟩)
def clM(M:Nat->Nat->Bool)(k i j:Nat):Nat->Nat->Bool:=λ a b=>if a<i\/(a=i/\b<j) then M a b||(M a k&&M k b) else M a b
theorem clM_ik(M:Nat->Nat->Bool)(k i j a:Nat):clM M k i j a k=M a k:=by
 unfold clM;split
 ·cases M a k<;>simp
 ·rfl
theorem clM_kj(M:Nat->Nat->Bool)(k i j b:Nat):clM M k i j k b=M k b:=by
 unfold clM;split
 ·cases M k b<;>simp
 ·rfl
theorem clM_ij(M:Nat->Nat->Bool)(k i j:Nat):clM M k i j i j=M i j:=by
 unfold clM;rw[if_neg (by omega)]
theorem clM_step(M:Nat->Nat->Bool)(k i j:Nat):updM (clM M k i j) i j (M i j||(M i k&&M k j))=clM M k i (j+1):=by
 funext a b
 unfold updM clM;by_cases c:a=i/\b=j
 ·obtain⟨rfl,rfl⟩:=c;rw[if_pos ⟨rfl,rfl⟩,if_pos (by omega)]
 ·rw[if_neg c];by_cases d:a<i\/(a=i/\b<j)
  ·rw[if_pos d,if_pos (by omega)]
  ·rw[if_neg d,if_neg (by omega)]
theorem clM_row(M:Nat->Nat->Bool)(k i n a b:Nat)(hb:b<n):clM M k i n a b=clM M k (i+1) 0 a b:=by
 unfold clM;by_cases d:a<i\/(a=i/\b<n)
 ·rw[if_pos d,if_pos (by omega)]
 ·rw[if_neg d,if_neg (by omega)]
theorem clM_zero(M:Nat->Nat->Bool)(k a b:Nat):clM M k 0 0 a b=M a b:=by
 unfold clM;rw[if_neg (by omega)]
theorem CM.step{n m:Nat}{ps:List (Int×Int)}{M:Nat->Nat->Bool}(h:CM n ps m M)(hm:m<n):CM n ps (m+1) (clM M m n 0):=by
 have hv:∀a b,a<n->clM M m n 0 a b=(M a b||(M a m&&M m b)):=λ a b ha=>by unfold clM;rw[if_pos (Or.inl ha)]
 have hT:∀a b,a<n->(clM M m n 0 a b=true↔M a b=true\/(M a m=true/\M m b=true)):=λ a b ha=>by rw[hv a b ha];simp
 refine⟨h.ok,λ i j hi hj hm'=> ?_,λ i hi=>(hT i i hi).2 (Or.inl (h.refl i hi)),λ p hp=> ?_,λ k hk hkn i j hi hj h1 h2=> ?_⟩
 ·rcases(hT i j hi).1 hm' with h1|⟨h1,h2⟩
  ·exact h.sound i j hi hj h1
  ·exact(h.sound i m hi hm h1).trans (h.sound m j hm hj h2)
 ·have:=(okP_iff n p).1 (h.ok p hp);exact(hT _ _ (by omega)).2 (Or.inl (h.pair p hp))
 ·rw[hT _ _ hi] at h1⊢;rw[hT _ _ hkn] at h2;by_cases e:k=m
  ·subst e;have a:M i k=true:=by rcases h1 with h|h;exact h;exact h.1
   have b:M k j=true:=by rcases h2 with h|h;exact h;exact h.2
   exact Or.inr ⟨a,b⟩
  ·have hkm:k<m:=by omega
   rcases h1 with h1|⟨h1,h1'⟩
   ·rcases h2 with h2|⟨h2,h2'⟩
    ·exact Or.inl (h.trans k hkm hkn i j hi hj h1 h2)
    ·exact Or.inr ⟨h.trans k hkm hkn i m hi hm h1 h2,h2'⟩
   ·rcases h2 with h2|⟨h2,h2'⟩
    ·exact Or.inr ⟨h1,h.trans k hkm hkn m j hm hj h1' h2⟩
    ·exact Or.inr ⟨h1,h2'⟩
theorem CM.iff{n:Nat}{ps:List (Int×Int)}{M:Nat->Nat->Bool}(h:CM n ps n M){i j:Nat}(hi:i<n)(hj:j<n):M i j=true↔RT ps i j:=by
 refine⟨h.sound i j hi hj,λ hr=> ?_⟩;have key:=hr (λ x y=>(x<n->y<n/\M x y=true)) (λ x hx=>⟨hx,h.refl x hx⟩)
  (λ x y z h1 h2 hx=>by
    obtain⟨hy,h1⟩:=h1 hx;obtain⟨hz,h2⟩:=h2 hy;exact⟨hz,h.trans y hy hy x z hx hz h1 h2⟩)
  (λ p hp _=>by
    have:=(okP_iff n p).1 (h.ok p hp);exact⟨by omega,h.pair p hp⟩)
 exact(key hi).2
theorem firstFrom_cases(p:Nat->Bool):∀f c,(firstFrom p f c= -1/\∀j,c<=j->j<c+f->p j=false)\/∃k:Nat,c<=k/\k<c+f/\firstFrom p f c=k/\p k=true
 |0,c=>Or.inl ⟨rfl,λ j h1 h2=>by omega⟩
 |f+1,c=>by
  rw[firstFrom];cases hp:p c with
  |true=>exact Or.inr ⟨c,by omega,by omega,by simp,hp⟩
  |false=>
   simp only[Bool.false_eq_true,if_false];rcases firstFrom_cases p f (c+1) with⟨h1,h2⟩|⟨k,h1,h2,h3,h4⟩
   ·refine Or.inl ⟨h1,λ j a b=> ?_⟩;by_cases e:j=c
    ·subst e;exact hp
    ·exact h2 j (by omega) (by omega)
   ·exact Or.inr ⟨k,by omega,by omega,h3,h4⟩
def IsJ(R:Nat->Nat->Prop)(n i j k:Nat):Prop:=k<n/\R i k/\R j k/\∀m,m<n->R i m->R j m->R k m
theorem jgood_iff{n:Nat}{R:Nat->Nat->Prop}{M:Nat->Nat->Bool}(hM:∀i j,i<n->j<n->(M i j=true↔R i j)){a b c:Nat}(ha:a<n)(hb:b<n)(hc:c<n):
  jgood n M a b c=true↔IsJ R n a b c:=by
 unfold jgood jbase IsJ;rw[Bool.and_eq_true,Bool.and_eq_true,List.all_eq_true,hM a c ha hc,hM b c hb hc];constructor
 ·rintro⟨⟨h1,h2⟩,h3⟩;refine⟨hc,h1,h2,λ m hm h4 h5=> ?_⟩;have:=h3 m (List.mem_range.2 hm);unfold jok at this;rw[(hM a m ha hm).2 h4,(hM b m hb hm).2 h5] at this;simp at this;exact(hM c m hc hm).1 this
 ·rintro⟨_,h1,h2,h3⟩;refine⟨⟨h1,h2⟩,λ m hm=> ?_⟩;have hm:=List.mem_range.1 hm;unfold jok;cases e1:M a m with
  |false=>simp
  |true=>
   cases e2:M b m with
   |false=>simp
   |true=>simp[(hM c m hc hm).2 (h3 m hm ((hM a m ha hm).1 e1) ((hM b m hb hm).1 e2))]
theorem rjoin_cases{n:Nat}{R:Nat->Nat->Prop}{M:Nat->Nat->Bool}(hM:∀i j,i<n->j<n->(M i j=true↔R i j)){a b:Nat}(ha:a<n)(hb:b<n):
  (rjoin n M a b= -1/\∀k,¬IsJ R n a b k)\/∃k:Nat,rjoin n M a b=k/\IsJ R n a b k:=by
 rcases firstFrom_cases (jgood n M a b) n 0 with⟨h1,h2⟩|⟨k,_,h2,h3,h4⟩
 ·refine Or.inl ⟨h1,λ k hk=> ?_⟩;have:=h2 k (by omega) (by have:=hk.1;omega);rw[(jgood_iff hM ha hb hk.1).2 hk] at this;cases this
 ·exact Or.inr ⟨k,h3,(jgood_iff hM ha hb (by omega)).1 h4⟩
theorem rmeet_cases{n:Nat}{ps:List (Int×Int)}{M:Nat->Nat->Bool}(hM:∀i j,i<n->j<n->(M i j=true↔RT ps i j)){a b:Nat}(ha:a<n)(hb:b<n):
  (rjoin n (tr M) a b= -1/\∀k,¬IsMeet ps n a b k)\/∃k:Nat,rjoin n (tr M) a b=k/\IsMeet ps n a b k:=
 rjoin_cases (R:=λ x y=>RT ps y x) (λ i j hi hj=>hM j i hj hi) ha hb
theorem rjoin_cases'{n:Nat}{ps:List (Int×Int)}{M:Nat->Nat->Bool}(hM:∀i j,i<n->j<n->(M i j=true↔RT ps i j)){a b:Nat}(ha:a<n)(hb:b<n):
  (rjoin n M a b= -1/\∀k,¬IsJoin ps n a b k)\/∃k:Nat,rjoin n M a b=k/\IsJoin ps n a b k:=
 rjoin_cases hM ha hb
end Go.Proofs.YtgdpkkjfcdhmdaaGreatDoor
