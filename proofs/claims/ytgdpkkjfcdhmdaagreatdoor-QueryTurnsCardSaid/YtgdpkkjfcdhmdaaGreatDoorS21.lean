/- Walk of the reference's New (part 1: the rows). (and what follows on it). -/
import Derived.Test.YtgdpkkjfcdhmdaaGreatDoorS0
import Derived.Test.YtgdpkkjfcdhmdaaGreatDoorS20
import Derived.Deep.QuietTactic
import Derived.BigQuiet
import Derived.StillTailTactics
import Derived.Deep.RegionHeld3
import Derived.Deep.RegionLaw
import Derived.Deep.AppendLies
namespace Go.Proofs.YtgdpkkjfcdhmdaaGreatDoor
open Go.RowKit
def RNewPost(n:Nat)(ps:List (Int×Int))(w:World)(e:Ending)(w':World):Prop:=
 ((newL n ps).1≠0->e= .returned (.tuple #[.pointer none,.int .i64 ((newL n ps).1:Nat)]))/\
 ((newL n ps).1=0->e= .returned (.tuple #[.pointer (some ⟨w.heap.size,0,none⟩),.int .i64 0])/\w.heap.size<w'.heap.size/\∃g cap r M,RefC w' w.heap.size g cap n r M/\∀i j,i<n->j<n->(M i j=true↔RT ps i j))/\
 Below w.heap.size w w'
theorem RNewPost.err{n c:Nat}{ps:List (Int×Int)}{w w':World}(h:(newL n ps).1=c)(hc:c≠0)(hb:Below w.heap.size w w'):
  RNewPost n ps w (.returned (.tuple #[.pointer none,.int .i64 c])) w':=by
 unfold RNewPost;rw[h];exact⟨λ _=>rfl,λ h=>absurd h hc,hb⟩
set_option maxHeartbeats 4000000 in
set_option maxRecDepth 100000 in
theorem rnew_main(n:Nat)(a:Option Addr)(len cap:Nat)(w:World)(ps:List (Int×Int))(h1:1<=n)(h2:n<=32)(h:len<=1024)(hlen:ps.length=len)(hp:PairsAt w a ps):
  Calls Tryz.prog 44 #[.int .i64 n,.slice a len cap] w (RNewPost n ps w):=by
 obtain⟨i4,q40,q41,q42,q43⟩:=info_parts Tryz.info4;obtain⟨i9,q90,q91,q92,q93⟩:=info_parts Tryz.info26;have h3:decide ((n:Int)<1)=false:=by simp;omega
 have h3':decide ((32:Int)<n)=false:=by simp;omega
 have h4:decide ((1024:Int)<len)=false:=by simp;omega
 have HP:=Z hp;have HLEN:=Z hlen;clear hp hlen;obtain⟨FR,hmk,hFR,hFS⟩:∃FR:Array Value,(∀W,(Instr.makeSlice 26 (.int .i64 n) (.int .i64 n)).run Tryz.prog W= .ok (.slice (some ⟨W.heap.size,0,none⟩) n n) (W.alloc (.cells FR 4)))/\(∀j,j<n->FR[j]? =some (.bool false))/\FR.size=n:=by
  refine⟨madeCells (Value.bool false).cells (n*1),λ W=> ?_,λ j hj=>by simp[madeCells,Value.cells,hj,Nat.mod_one],by simp[madeCells]⟩;have:=run_make (P:=Tryz.prog) W 26 4 i4 (.bool false) Tryz.underlying26 q40 q41 .i64 .i64 n n (by omega) (by omega) (by rw[q43];omega) (by omega);rw[q42] at this;simpa using this
 have HFR:=Z hFR;have HFS:=Z hFS;clear hFR hFS;go_enter Tryz.func44,Tryz.ntmps44
 go_wp2_with fail
 go_loopw [7] (λ i wr=>∃(k:Nat) (v:Value) (r:Nat->Nat) (M:Nat->Nat->Bool),k<=n/\i= .int .i64 k/\RefB w wr n k v r M/\Hid (∀i j,i<k->j<n->M i j=decide (i=j))) (λ i _=>n-(intOf i).toNat)
 case atStart=>exact⟨0,_,λ _=>0,λ _ _=>false,by omega,rfl,RefB.start w n,λ i j h=>by omega⟩
 case round=>
  obtain⟨k,v,r,M,hk,rfl,hR,hM⟩:=hrel;by_cases hlt:k<n
  ·have hxc:=hR.xc
   go_wp2_with fail
   have hxs:w.heap.size<wr.heap.size:=hR.size;have hne:v.ownBlock≠some w.heap.size:=λ e=>by have:=hR.own.lt _ e;omega
   have hnews:∀j u,[rowV n wr.heap.size][j]? =some u->(((wr.alloc (.cells FR 4)).alloc (.cells #[rowV n wr.heap.size] 26)).drew).cell? ((⟨wr.heap.size+1,0,none⟩:Addr).add j)=some u:=λ j u hj=>by
    match j,hj with
    |0,hj=>simp at hj;subst hj;simp[Addr.add]
   have Hnews:=Z hnews;have hxf:wr.frozen? ⟨w.heap.size,0,none⟩=false:=hR.xf;clear hnews;have kA:∀(W:World) (c:Array Value) (t:TypeId),w.heap.size<W.heap.size->(W.cell? ⟨w.heap.size,0,none⟩=some v/\W.frozen? ⟨w.heap.size,0,none⟩=false)->((W.alloc (.cells c t)).cell? ⟨w.heap.size,0,none⟩=some v/\(W.alloc (.cells c t)).frozen? ⟨w.heap.size,0,none⟩=false):=λ W c t hs hc=>
    ⟨(World.cell?_alloc_past _ _ _ hs).trans hc.1,(World.frozen?_alloc_past _ _ _ hs).trans hc.2⟩
   have k1:=kA wr FR 4 hxs ⟨hxc,hxf⟩;have k2:=kA _ #[rowV n wr.heap.size] 26 (by simp;omega) k1;have K1:=Z k1;have K2:=Z k2;clear kA k1 k2
   go_region_law((refine step_append_lies _ (by rfl) _ _ _ (by rfl) (w.heap.size+1) 26 i9 _ 1 24 Tryz.underlying91 q90 q91 q92 q93 rfl (by omega) v k _ (by rfl) (((hR.own.alloc _).alloc _).drew) ⟨wr.heap.size+1,0,none⟩ 1 1 [rowV n wr.heap.size] (by rfl) (by rfl) Hnews.o (by simp[rowV,Value.oneCell']) (by omega) (by unfold maxLen;omega) (by omega) (by simp;omega) (wr.heap.size+2) (by simp) ?_;intro gg cap1 w1 hown1 hgrow hat hgl;have kc:=(World.cell?_of_block (a:=⟨w.heap.size,0,none⟩) (hgrow.block _ (by simp;omega) (Ne.symm hne))).trans K2.o.1;have kf:=(World.frozen?_of_block (a:=⟨w.heap.size,0,none⟩) (hgrow.block _ (by simp;omega) (Ne.symm hne))).trans K2.o.2))
   all_goals
    have hgg:gg<w1.heap.size:=hgl;have hStep:=hR.step (w2:=(((wr.alloc (.cells FR 4)).alloc (.cells #[rowV n wr.heap.size] 26)).drew)) (((Below.refl _ _).alloc (Nat.le_refl _) _).alloc (by simp) _).drew (by simp;omega)
     (λ j hj=>by have e1:(((wr.alloc (.cells FR 4)).alloc (.cells #[rowV n wr.heap.size] 26)).drew).cell? ⟨wr.heap.size,j,none⟩=FR[j]? :=(World.cell?_alloc_past _ _ _ (by simp)).trans (World.cell?_alloc_new _ _ _ _)
                 exact e1.trans (HFR.o j hj))
     (λ j=>(World.frozen?_alloc_past _ _ _ (by simp)).trans (World.frozen?_alloc_at _ _ _ _ rfl))
     hown1 hgrow (hat.elim (λ hat=>Or.inl hat.symm) (λ hat=>Or.inr (by rw[hat];simp[Value.ownBlock])))
    have hrow:(w1.setCell ⟨w.heap.size,0,none⟩ (.slice (some ⟨gg,0,none⟩) (k+1) cap1)).cell? ⟨gg,k,none⟩=some (.slice (some ⟨wr.heap.size,0,none⟩) n n):=by
     have:=World.ownsRow.cells hStep.own (g:=gg) rfl k (rowV n wr.heap.size) (by simp);rw[add_at,Nat.zero_add] at this;exact this
    have hbt:=hStep.bit k k (by omega) hlt;have hfz:=hStep.fz k k (by omega);have hxc4:=hStep.xc;simp only[if_true] at hbt hfz;have hset:=hStep.setBit (a:=k) (b:=k) (by omega) hlt true;simp only[if_true] at hset;clear hown1 hgrow hat hgl kc kf hgg;generalize w1.setCell ⟨w.heap.size,0,none⟩ (.slice (some ⟨gg,0,none⟩) (k+1) cap1)=w4 at*;have hk2:(k:Int)<k+1:=by omega
    have hk3:(k:Int)<n:=by omega
    have hM2:=Z (dia_step hM.o)
    go_wp2_with fail
    exact⟨⟨k+1,_,_,_,by omega,by go_num,hset,hM2⟩,by simp[intOf];omega⟩
  ·obtain rfl:k=n:=by omega
   obtain⟨g,cp,rfl⟩:=hR.form h1;have hPM:=PM.start (ps:=ps) hM.o;clear hM hk hlt hmk HFR HFS
   go_wp2_with fail
   have hR0:=hR;clear hR
   go_loopw [8] (λ i wr=>∃(q:Nat) (M:Nat->Nat->Bool),q<=len/\i= .int .i64 q/\RefB w wr k k (.slice (some ⟨g,0,none⟩) k cp) r M/\PM k ps q M) (λ i _=>len-(intOf i).toNat)
   case atStart=>exact⟨0,M,by omega,rfl,hR0,hPM⟩
   case round=>
    clear hR0 hPM;obtain⟨q,M,hq,rfl,hR,hPM⟩:=hrel;by_cases hlt:q<len
    ·have hq':q<ps.length:=by rw[HLEN.o];exact hlt
     obtain⟨pb,po,rfl,hpb,hp0,hp1⟩:=HP.o q hq';have hp0':=(hR.below.cell (p:=⟨pb,po+q*2,none⟩) hpb).trans hp0;have hp1':=(hR.below.cell (p:=⟨pb,po+q*2+1,none⟩) hpb).trans hp1;have Hstep:=Z (λ x y hx hy e=>PM.step (x:=x) (y:=y) hPM hq' hx hy e);have Hbad:Hid (okP k (ps.getD q (0,0))=false->(newL k ps).1=3):=λ hb=>by
      rw[newL_none (addPairs_none k ps _ _ (by rw[List.getD_eq_getElem?_getD,List.getElem?_eq_getElem hq'];exact List.getElem_mem hq') hb)]
     have hlt2:(q:Int)<len:=by omega
     clear hp0 hp1 hPM hq';generalize ps.getD q (0,0)=pq at*;obtain⟨x,y⟩:=pq;simp only at hp0' hp1';by_cases hok:0<=x/\x<k/\0<=y/\y<k
     ·obtain⟨x0,x1,y0,y1⟩:=hok;obtain⟨x,rfl⟩:=Int.eq_ofNat_of_zero_le x0;obtain⟨y,rfl⟩:=Int.eq_ofNat_of_zero_le y0;have hn0:decide ((x:Int)<0)=false:=by simp
      have hn1:decide ((y:Int)<0)=false:=by simp
      have hn2:decide ((k:Int)<=x)=false:=by simp;omega
      have hn3:decide ((k:Int)<=y)=false:=by simp;omega
      have hxk:x<k:=by omega
      have hyk:y<k:=by omega
      have hC:=hR.refC h2;have hxc:=hC.top;have hrw:=hC.row x hxk;have hbt:=hC.bit x y hxk hyk;have hfz:=hR.fz x y hxk;have hset:=(hR.setBit hxk hyk true)
      have Hpm:=Z (Hstep.o x y hxk hyk rfl);clear hC
      go_wp2_with fail
      go_quiet(fail)
      go_wp2_with fail
      go_roundw
      case rel=>exact⟨q+1,_,by omega,by go_num,hset.same ⟨_,rfl⟩,Hpm.o⟩
      case measure=>simp[intOf];omega
     ·have Hres:=Z (Hbad.o (okP_out k x y hok));have Hend:=Z (λ W=>RNewPost.err (w:=w) (w':=W) Hres.o (by decide));have hbl:=hR.below;by_cases c1:x<0
      ·go_wp2_with fail
       go_quiet(fail)
       go_wp2_with fail
       go_ret2
       exact Hend.o _ (hbl.trans (Same.below ⟨_,rfl⟩ _))
      ·have hn0:decide ((x:Int)<0)=false:=by simpa using c1
       by_cases c2:(k:Int)<=x
       ·go_wp2_with fail
        go_quiet(fail)
        go_wp2_with fail
        go_ret2
        exact Hend.o _ (hbl.trans (Same.below ⟨_,rfl⟩ _))
       ·have hn2:decide ((k:Int)<=x)=false:=by simpa using c2
        by_cases c3:y<0
        ·go_wp2_with fail
         go_quiet(fail)
         go_wp2_with fail
         go_ret2
         exact Hend.o _ (hbl.trans (Same.below ⟨_,rfl⟩ _))
        ·have hn1:decide ((y:Int)<0)=false:=by simpa using c3
         have c4:(k:Int)<=y:=by omega
         go_wp2_with fail
         go_quiet(fail)
         go_wp2_with fail
         go_ret2
         exact Hend.o _ (hbl.trans (Same.below ⟨_,rfl⟩ _))
    ·obtain rfl:q=len:=by omega
     have hCM:CM k ps 0 M:=CM.start (by rw[HLEN.o];exact hPM);clear hPM hq hlt
     go_wp2_with fail
     have hR0:=hR;clear hR
     go_loopw [11] (λ v wr=>∃(m:Nat) (M:Nat->Nat->Bool),m<=k/\v= .int .i64 m/\RefB w wr k k (.slice (some ⟨g,0,none⟩) k cp) r M/\CM k ps m M) (λ v _=>k-(intOf v).toNat)
     case atStart=>exact⟨0,M,by omega,rfl,hR0,hCM⟩
     case round=>
      clear hR0 hCM;obtain⟨m,M,hm,rfl,hR,hCM⟩:=hrel;by_cases hlt:m<k
      ·go_wp2_with fail
       have hR0:=hR;clear hR
       go_loopw [12] (λ v wr=>∃(i:Nat),i<=k/\v= .int .i64 i/\RefB w wr k k (.slice (some ⟨g,0,none⟩) k cp) r (clM M m i 0)) (λ v _=>k-(intOf v).toNat)
       case atStart=>exact⟨0,by omega,rfl,hR0.congr λ a b _ _=>(clM_zero M m a b).symm⟩
       case round=>
        clear hR0;obtain⟨i,hi,rfl,hR⟩:=hrel;by_cases hlti:i<k
        ·go_wp2_with fail
         have hR0:=hR;clear hR
         go_loopw [13] (λ v wr=>∃(j:Nat),j<=k/\v= .int .i64 j/\RefB w wr k k (.slice (some ⟨g,0,none⟩) k cp) r (clM M m i j)) (λ v _=>k-(intOf v).toNat)
         case atStart=>exact⟨0,by omega,rfl,hR0⟩
         case round=>
          clear hR0;obtain⟨j,hj,rfl,hR⟩:=hrel;by_cases hltj:j<k
          ·have hC:=hR.refC h2;have hxc:=hC.top;have hri:=hC.row i hlti;have hrm:=hC.row m hlt;have bij:=hC.bit i j hlti hltj;have bim:=hC.bit i m hlti hlt;have bmj:=hC.bit m j hlt hltj;rw[clM_ij] at bij;rw[clM_ik] at bim;rw[clM_kj] at bmj;have hfz:=hR.fz i j hlti;have hset:=(hR.setBit hlti hltj (M i j||(M i m&&M m j))).drew;rw[clM_step] at hset;have hi2:(i:Int)<k:=by omega
           have hj2:(j:Int)<k:=by omega
           have hm2:(m:Int)<k:=by omega
           clear hC hR;cases e1:M i j with
           |true=>
            rw[e1] at bij;have Hset:=Z hset;rw[e1,Bool.true_or] at Hset;clear hset e1
            go_wp2_with fail
            refine wp_region_still_tail 43 (by kernel_rfl) (by kernel_rfl) ?_;simp only[List.take_succ_cons,List.take_zero,List.drop_succ_cons,List.drop_zero];refine wpStill_of_quiet _ _ ?_
            repeat(go_big_quiet_step (fail))
            refine wpQuiet_nil ?_
            go_wp2_with fail
            go_roundw
            case rel=>exact⟨j+1,by omega,by go_num,Hset.o⟩
            case measure=>simp[intOf];omega
           |false=>
            rw[e1] at bij;cases e2:M i m with
            |false=>
             rw[e2] at bim;have Hset:=Z hset;rw[e1,e2,Bool.false_or,Bool.false_and] at Hset;clear hset e1 e2
             go_wp2_with fail
             refine wp_region_still_tail 43 (by kernel_rfl) (by kernel_rfl) ?_;simp only[List.take_succ_cons,List.take_zero,List.drop_succ_cons,List.drop_zero];refine wpStill_of_quiet _ _ ?_
             repeat(go_big_quiet_step (fail))
             refine wpQuiet_nil ?_
             go_wp2_with fail
             go_roundw
             case rel=>exact⟨j+1,by omega,by go_num,Hset.o⟩
             case measure=>simp[intOf];omega
            |true=>
             rw[e2] at bim;have Hset:=Z hset;rw[e1,e2,Bool.false_or,Bool.true_and] at Hset;clear hset e1 e2
             go_wp2_with fail
             refine wp_region_still_tail 43 (by kernel_rfl) (by kernel_rfl) ?_;simp only[List.take_succ_cons,List.take_zero,List.drop_succ_cons,List.drop_zero];refine wpStill_of_quiet _ _ ?_
             repeat(go_big_quiet_step (fail))
             refine wpQuiet_nil ?_
             go_wp2_with fail
             go_roundw
             case rel=>exact⟨j+1,by omega,by go_num,Hset.o⟩
             case measure=>simp[intOf];omega
          ·obtain rfl:j=k:=by omega
           go_wp2_with fail
           go_roundw
           case rel=>exact⟨i+1,by omega,by go_num,hR.congr λ a b _ hb=>clM_row M m i j a b hb⟩
           case measure=>simp[intOf];omega
        ·obtain rfl:i=k:=by omega
         have Hcm:=Z (hCM.step hlt)
         go_wp2_with fail
         go_roundw
         case rel=>exact⟨m+1,_,by omega,by go_num,hR,Hcm.o⟩
         case measure=>simp[intOf];omega
      ·obtain rfl:m=k:=by omega
       have HM:Hid (∀i j,i<m->j<m->(M i j=true↔RT ps i j)):=λ i j hi hj=>hCM.iff hi hj
       have HOK:=Z hCM.ok;clear hCM hlt hm;have HC:=Z (hR.refC h2);have hbel:=hR.below;have hsz:=hR.size;have Hall:=Z (newL_all h2 HOK.o);clear hR HOK
       go_wp2_with fail
       go_loop [14] (λ v=>∃i:Nat,i<=m/\v= .int .i64 i/\Hid (∀x y,x<i->y<x->(M x y&&M y x)=false)) (λ v=>m-(intOf v).toNat)
       case atStart=>exact⟨0,by omega,rfl,λ x y hx=>by omega⟩
       case round=>
        obtain⟨i,hi,rfl,hno⟩:=hrel;by_cases hlti:i<m
        ·go_wp2_with fail
         go_loop [15] (λ v=>∃j:Nat,j<=i/\v= .int .i64 j/\Hid (∀y,y<j->(M i y&&M y i)=false)) (λ v=>i-(intOf v).toNat)
         case atStart=>exact⟨0,by omega,rfl,λ y hy=>by omega⟩
         case round=>
          obtain⟨j,hj,rfl,hnoj⟩:=hrel;by_cases hltj:j<i
          ·have hxc:=HC.o.top;have hri:=HC.o.row i hlti;have hrj:=HC.o.row j (by omega);have bij:=HC.o.bit i j hlti (by omega);have bji:=HC.o.bit j i (by omega) hlti;have hi2:(i:Int)<m:=by omega
           have hj2:(j:Int)<m:=by omega
           cases e1:M i j with
           |false=>
            rw[e1] at bij;have Hn:Hid (∀y,y<j+1->(M i y&&M y i)=false):=λ y hy=>by
             by_cases e:y=j
             ·subst e;rw[e1];rfl
             ·exact hnoj.o y (by omega)
            clear e1
            go_wp2_with fail
            go_round
            case rel=>exact⟨j+1,by omega,by go_num,Hn⟩
            case measure=>simp[intOf];omega
           |true=>
            rw[e1] at bij;cases e2:M j i with
            |false=>
             rw[e2] at bji;have Hn:Hid (∀y,y<j+1->(M i y&&M y i)=false):=λ y hy=>by
              by_cases e:y=j
              ·subst e;rw[e1,e2];rfl
              ·exact hnoj.o y (by omega)
             clear e1 e2
             go_wp2_with fail
             go_round
             case rel=>exact⟨j+1,by omega,by go_num,Hn⟩
             case measure=>simp[intOf];omega
            |true=>
             rw[e2] at bji;have Hres:Hid ((newL m ps).1=9):=Hall.o.1 λ ha=>by
              have:=ha i j hlti (by omega) ((HM.o i j hlti (by omega)).1 e1) ((HM.o j i (by omega) hlti).1 e2);omega
             clear e1 e2
             go_wp2_with fail
             go_ret2
             exact RNewPost.err Hres.o (by decide) hbel
          ·obtain rfl:j=i:=by omega
           have Hn:Hid (∀x y,x<j+1->y<x->(M x y&&M y x)=false):=λ x y hx hy=>by
            by_cases e:x=j
            ·subst e;exact hnoj.o y hy
            ·exact hno.o x y (by omega) hy
           go_wp2_with fail
           go_round
           case rel=>exact⟨j+1,by omega,by go_num,Hn⟩
           case measure=>simp[intOf];omega
        ·obtain rfl:i=m:=by omega
         have HA:Hid (Anti ps i):=λ x y hx hy h1' h2'=>by
          rcases Nat.lt_trichotomy x y with c|c|c
          ·have:=hno.o y x hy c;rw[(HM.o y x hy hx).2 h2',(HM.o x y hx hy).2 h1'] at this;cases this
          ·exact c
          ·have:=hno.o x y hx c;rw[(HM.o y x hy hx).2 h2',(HM.o x y hx hy).2 h1'] at this;cases this
         clear hno hi hlti
         go_wp2_with fail
         go_loop [16] (λ v=>∃a:Nat,a<=i/\v= .int .i64 a/\Hid (∀x y,x<a->y<i->(∃c,IsJoin ps i x y c)/\∃c,IsMeet ps i x y c)) (λ v=>i-(intOf v).toNat)
         case atStart=>exact⟨0,by omega,rfl,λ x y hx=>by omega⟩
         case round=>
          obtain⟨a',ha,rfl,hf⟩:=hrel;by_cases hlta:a'<i
          ·go_wp2_with fail
           go_loop [17] (λ v=>∃b:Nat,b<=i/\v= .int .i64 b/\Hid (∀y,y<b->(∃c,IsJoin ps i a' y c)/\∃c,IsMeet ps i a' y c)) (λ v=>i-(intOf v).toNat)
           case atStart=>exact⟨0,by omega,rfl,λ y hy=>by omega⟩
           case round=>
            obtain⟨b,hb,rfl,hfb⟩:=hrel;by_cases hltb:b<i
            ·have c1:=Z (rjoin_any w.heap.size g cp i a' b r M wr HC.o hlta hltb);have c2:=Z (rmeet_any w.heap.size g cp i a' b r M wr HC.o hlta hltb);have nofull:Hid ((¬((∃c,IsJoin ps i a' b c)/\∃c,IsMeet ps i a' b c))->(newL i ps).1=4):=λ hn=>Hall.o.2.1 HA.o λ hF=>hn (hF a' b hlta hltb)
             rcases rjoin_cases' HM.o hlta hltb with⟨e1,hj1⟩|⟨c,e1,hj1⟩
             ·rw[e1] at c1;have Hres:=Z (nofull.o λ h=>by obtain⟨⟨c,hc⟩,_⟩:=h;exact hj1 c hc);clear e1 hj1
              go_wp2_with fail
              refine c1.o.mono ?_;rintro e w' ⟨rfl,rfl⟩
              go_wp2_with fail
              go_ret2
              exact RNewPost.err Hres.o (by decide) hbel
             ·rw[e1] at c1;rcases rmeet_cases HM.o hlta hltb with⟨e2,hj2⟩|⟨d,e2,hj2⟩
              ·rw[e2] at c2;have Hres:=Z (nofull.o λ h=>by obtain⟨_,⟨c,hc⟩⟩:=h;exact hj2 c hc);have hd:decide ((c:Int)<0)=false:=by simp
               clear e1 e2 hj1 hj2
               go_wp2_with fail
               refine c1.o.mono ?_;rintro e w' ⟨rfl,rfl⟩
               go_wp2_with fail
               refine c2.o.mono ?_;rintro e w' ⟨rfl,rfl⟩
               go_wp2_with fail
               go_ret2
               exact RNewPost.err Hres.o (by decide) hbel
              ·rw[e2] at c2;have hd:decide ((c:Int)<0)=false:=by simp
               have hd2:decide ((d:Int)<0)=false:=by simp
               have Hn:Hid (∀y,y<b+1->(∃c,IsJoin ps i a' y c)/\∃c,IsMeet ps i a' y c):=λ y hy=>by
                by_cases e:y=b
                ·subst e;exact⟨⟨c,hj1⟩,⟨d,hj2⟩⟩
                ·exact hfb.o y (by omega)
               clear e1 e2 hj1 hj2
               go_wp2_with fail
               refine c1.o.mono ?_;rintro e w' ⟨rfl,rfl⟩
               go_wp2_with fail
               refine c2.o.mono ?_;rintro e w' ⟨rfl,rfl⟩
               go_wp2_with fail
               go_round
               case rel=>exact⟨b+1,by omega,by go_num,Hn⟩
               case measure=>simp[intOf];omega
            ·obtain rfl:b=i:=by omega
             have Hn:Hid (∀x y,x<a'+1->y<b->(∃c,IsJoin ps b x y c)/\∃c,IsMeet ps b x y c):=λ x y hx hy=>by
              by_cases e:x=a'
              ·subst e;exact hfb.o y hy
              ·exact hf.o x y (by omega) hy
             go_wp2_with fail
             go_round
             case rel=>exact⟨a'+1,by omega,by go_num,Hn⟩
             case measure=>simp[intOf];omega
          ·obtain rfl:a'=i:=by omega
           have HF:Hid (Full ps a'):=λ x y hx hy=>hf.o x y hx hy
           have Hz:=Z (Hall.o.2.2 HA.o HF.o).1
           go_wp2_with fail
           go_ret2
           unfold RNewPost;rw[Hz.o];exact⟨λ h=>absurd rfl h,λ _=>⟨rfl,hsz,g,cp,r,M,HC.o,HM.o⟩,hbel⟩
set_option maxHeartbeats 400000 in
set_option maxRecDepth 100000 in
theorem rnew_lo(n:Int)(v:Value)(w:World)(h:n<1):
  Calls Tryz.prog 44 #[.int .i64 n,v] w λ e w'=>e= .returned (.tuple #[.pointer none,.int .i64 3])/\w=w':=by
 go_enter Tryz.func44,Tryz.ntmps44
 go_wp2_with fail
 go_ret2
 exact⟨rfl,rfl⟩
set_option maxHeartbeats 400000 in
set_option maxRecDepth 100000 in
theorem rnew_hi(n:Int)(v:Value)(w:World)(h:32<n):
  Calls Tryz.prog 44 #[.int .i64 n,v] w λ e w'=>e= .returned (.tuple #[.pointer none,.int .i64 3])/\w=w':=by
 have h1:decide (n<1)=false:=by simp;omega
 go_enter Tryz.func44,Tryz.ntmps44
 go_wp2_with fail
 go_ret2
 exact⟨rfl,rfl⟩
set_option maxHeartbeats 400000 in
set_option maxRecDepth 100000 in
theorem rnew_long(n:Int)(a:Option Addr)(len cap:Nat)(w:World)(h1:1<=n)(h2:n<=32)(h:1024<len):
  Calls Tryz.prog 44 #[.int .i64 n,.slice a len cap] w λ e w'=>e= .returned (.tuple #[.pointer none,.int .i64 5])/\w=w':=by
 have h3:decide (n<1)=false:=by simp;omega
 have h4:(1024:Int)<len:=by omega
 go_enter Tryz.func44,Tryz.ntmps44
 go_wp2_with fail
 go_ret2
 exact⟨rfl,rfl⟩
theorem rnew_all(n:Int)(a:Option Addr)(len cap:Nat)(w:World)(ps:List (Int×Int))(hlen:ps.length=len)(hp:PairsAt w a ps):
  Calls Tryz.prog 44 #[.int .i64 n,.slice a len cap] w λ e w'=>
   ((newE n ps).1≠0->e= .returned (.tuple #[.pointer none,.int .i64 ((newE n ps).1:Nat)]))/\
   ((newE n ps).1=0->e= .returned (.tuple #[.pointer (some ⟨w.heap.size,0,none⟩),.int .i64 0])/\w.heap.size<w'.heap.size/\∃g cap r M,RefC w' w.heap.size g cap n.toNat r M/\∀i j,i<n.toNat->j<n.toNat->(M i j=true↔RT ps i j))/\
   Below w.heap.size w w':=by
 by_cases h1:n<1
 ·have e:newE n ps=(3,λ _=>0,λ _=>0):=by unfold newE;rw[if_pos (Or.inl h1)]
  rw[e];exact(rnew_lo n _ w h1).mono λ e w' ⟨h,hb⟩=>⟨λ _=>h,λ h=>absurd h (by decide),by rw[<-hb];exact Below.refl _ _⟩
 ·by_cases h2:32<n
  ·have e:newE n ps=(3,λ _=>0,λ _=>0):=by unfold newE;rw[if_pos (Or.inr h2)]
   rw[e];exact(rnew_hi n _ w h2).mono λ e w' ⟨h,hb⟩=>⟨λ _=>h,λ h=>absurd h (by decide),by rw[<-hb];exact Below.refl _ _⟩
  ·by_cases h3:1024<len
   ·have e:newE n ps=(5,λ _=>0,λ _=>0):=by unfold newE;rw[if_neg (by omega),if_pos (by omega)]
    rw[e];exact(rnew_long n a len cap w (by omega) (by omega) h3).mono λ e w' ⟨h,hb⟩=>⟨λ _=>h,λ h=>absurd h (by decide),by rw[<-hb];exact Below.refl _ _⟩
   ·have e:newE n ps=newL n.toNat ps:=by unfold newE;rw[if_neg (by omega),if_neg (by omega)]
    obtain⟨k,rfl⟩:=Int.eq_ofNat_of_zero_le (show 0<=n by omega);rw[e];exact(rnew_main k a len cap w ps (by omega) (by omega) (by omega) hlen hp).mono λ e w' h=>h
set_option maxHeartbeats 400000 in
theorem len_any(b n:Nat)(w:World)(hn:w.cell? ⟨b,0,none⟩=some (.int .i64 n)):
  Calls Tryz.prog 45 #[.pointer (some ⟨b,0,none⟩)] w λ e w'=>e= .returned (.int .i64 n)/\w=w':=by
 go_enter Tryz.func45,Tryz.ntmps45
 go_wp2_with fail
 go_ret
 exact⟨rfl,rfl⟩
theorem take_filter{α:Type}(d:α)(p:α->Bool)(ps:List α)(q:Nat)(h:q<ps.length):(ps.take (q+1)).filter p=(ps.take q).filter p++if p (ps.getD q d) then[ps.getD q d] else[]:=by
 rw[take_getD d ps q h,List.filter_append,List.filter_cons,List.filter_nil]
def mayB(n:Nat)(level:Int)(levels:List Int):Bool:=(level::levels).all (isB n)
theorem le_q(b n:Nat)(up dn:Nat->Nat)(x y:Int)(w:World)(h:LatC w b n up dn)(m:Nat):
  Calls Tryz.prog 40 #[.pointer (some ⟨b,0,none⟩),.int .i64 x,.int .i64 y] (w.drewN m) λ e w'=>e= .returned (.bool (leB n up x y))/\∃k,w'=w.drewN k:=
 (le_any b n up dn x y _ (h.same ⟨m,rfl⟩)).mono λ _ _ h=>⟨h.1,m,h.2.symm⟩
def seen(n:Nat)(up:Nat->Nat)(level:Int)(xs:List Int)(es:List (Int×Int)):List (Int×Int):=es.filter λ p=>leB n up (xs.getD p.1.toNat 0) level
def RefL(w:World)(xb n:Nat)(up:Nat->Nat):Prop:=∃g cap r M,RefC w xb g cap n r M/\∀x y,rleB n M x y=leB n up x y
theorem RefC.below{w w':World}{xb g cap n:Nat}{r:Nat->Nat}{M:Nat->Nat->Bool}(h:RefC w xb g cap n r M)(hb:Below w.heap.size w w'):RefC w' xb g cap n r M:=
 ⟨(hb.cell (p:=⟨xb,0,none⟩) (World.block_lt_of_cell? w _ h.top)).trans h.top,λ i hi=>(hb.cell (p:=⟨g,i,none⟩) (World.block_lt_of_cell? w _ (h.row i hi))).trans (h.row i hi),
   λ i j hi hj=>(hb.cell (p:=⟨r i,j,none⟩) (World.block_lt_of_cell? w _ (h.bit i j hi hj))).trans (h.bit i j hi hj),h.n32⟩
theorem RefL.below{w w':World}{xb n:Nat}{up:Nat->Nat}(h:RefL w xb n up)(hb:Below w.heap.size w w'):RefL w' xb n up:=by
 obtain⟨g,cap,r,M,h1,h2⟩:=h;exact⟨g,cap,r,M,h1.below hb,h2⟩
theorem RefL.same{w w':World}{xb n:Nat}{up:Nat->Nat}(h:RefL w xb n up)(s:Same w w'):RefL w' xb n up:=h.below (s.below _)
theorem RefL.of{w:World}{xb g cap n:Nat}{r:Nat->Nat}{M:Nat->Nat->Bool}{up dn:Nat->Nat}{ps:List (Int×Int)}(h:RefC w xb g cap n r M)(hI:IsLat n ps up dn)(hM:∀i j,i<n->j<n->(M i j=true↔RT ps i j)):RefL w xb n up:=by
 refine⟨g,cap,r,M,h,λ x y=> ?_⟩;unfold rleB leB;cases hx:isB n x with
 |false=>rfl
 |true=>
  cases hy:isB n y with
  |false=>rfl
  |true=>
   obtain⟨i,rfl,hi⟩:=isB_nat hx;obtain⟨j,rfl,hj⟩:=isB_nat hy;rw[Bool.true_and,Bool.true_and,Bool.eq_iff_iff,Int.toNat_natCast,Int.toNat_natCast,hM i j hi hj];have:=leB_iff hI hi hj;unfold leB at this;rw[hx,hy,Bool.true_and,Bool.true_and,Int.toNat_natCast,Int.toNat_natCast] at this;exact this.symm
theorem isB_split(n:Nat)(x:Int)(h0:0<=x):isB n x=decide (x<n):=by simp[isB,h0]
set_option maxHeartbeats 1000000 in
theorem known_any(xb n:Nat)(up:Nat->Nat)(level:Int)(a:Option Addr)(len cap:Nat)(xs:List Int)(w:World)(hR:RefL w xb n up)(hlen:xs.length=len)(hat:(Lay.int .i64).At 0 w a xs)(hsm:len<=10000):
  Calls Tryz.prog 46 #[.pointer (some ⟨xb,0,none⟩),.int .i64 level,.slice a len cap] w λ e w'=>e= .returned (.bool (mayB n level xs))/\Same w w':=by
 obtain⟨g,rcap,r,M,hC,_⟩:=hR;have htop:=hC.top;have HA:=Z hat;have HLEN:=Z hlen;clear hat hlen hC;by_cases hl0:0<=level
 all_goals
  first
   |(have hlx:Hid (decide (level<n)=isB n level):=(isB_split n level hl0).symm)
   |(have hl0':decide (0<=level)=false:=by simpa using hl0
     have hlx:Hid (false=isB n level):=by(show _=_);simp[isB,hl0'])
  go_enter Tryz.func46,Tryz.ntmps46
  go_wp2_with fail
  go_loopw [7,8] (λ v i wr=>∃k:Nat,k<=len/\i= .int .i64 k/\v= .bool ((level::xs.take k).all (isB n))/\Same w wr) (λ _ i _=>len-(intOf i).toNat)
  case atStart=>exact⟨0,by omega,rfl,by rw[hlx.o];simp,Same.refl _⟩
  case round=>
   obtain⟨k,hk,rfl,rfl,hS⟩:=hrel;by_cases hlt:k<len
   ·have hq:k<xs.length:=by rw[HLEN.o];exact hlt
    obtain⟨pb,po,rfl,hpb,hp0⟩:=HA.o.int hq;have hp0':=(hS.cell ⟨pb,po+k,none⟩).trans hp0;have ht':=(hS.cell ⟨xb,0,none⟩).trans htop;have Ht:Hid ((level::xs.take (k+1)).all (isB n)=((level::xs.take k).all (isB n)&&isB n (xs.getD k 0))):=by
     show _=_;rw[take_getD 0 xs k hq];simp[List.all_append,Bool.and_assoc]
    have hlt2:(k:Int)<len:=by omega
    clear hp0 hq;generalize xs.getD k 0=x at*;generalize hok:(level::xs.take k).all (isB n)=ok at*;clear hok;cases ok with
    |false=>
     go_wp2_with fail
     go_quiet(fail)
     go_wp2_with fail
     go_roundw
     case rel=>exact⟨k+1,by omega,by go_num,by rw[Ht.o];rfl,hS.drewN _⟩
     case measure=>simp[intOf];omega
    |true=>
     by_cases hx0:0<=x
     ·have Hx:=Z (isB_split n x hx0)
      go_wp2_with fail
      go_quiet(fail)
      go_wp2_with fail
      go_roundw
      case rel=>exact⟨k+1,by omega,by go_num,by rw[Ht.o,Hx.o];rfl,hS.drewN _⟩
      case measure=>simp[intOf];omega
     ·have hx0':decide (0<=x)=false:=by simpa using hx0
      have Hx:Hid (isB n x=false):=by(show _=_);simp[isB,hx0']
      go_wp2_with fail
      go_quiet(fail)
      go_wp2_with fail
      go_roundw
      case rel=>exact⟨k+1,by omega,by go_num,by rw[Ht.o,Hx.o];rfl,hS.drewN _⟩
      case measure=>simp[intOf];omega
   ·obtain rfl:k=len:=by omega
    have Hfin:Hid ((level::xs.take k).all (isB n)=mayB n level xs):=by
     show _=_;unfold mayB;rw[<-HLEN.o,List.take_length]
    go_wp2_with fail
    go_ret
    exact⟨by rw[<-Hfin.o];rfl,hS⟩
def fewB(a b c:Nat):Bool:=decide (a<=30)&&decide (b<=40)&&decide (c<=30)
set_option maxHeartbeats 400000 in
theorem few_any(a b c:Option Addr)(la lb lc ca cb cc:Nat)(w:World):
  Calls Tryz.prog 16 #[.slice a la ca,.slice b lb cb,.slice c lc cc] w λ e w'=>e= .returned (.bool (fewB la lb lc))/\w=w':=by
 by_cases h1:(la:Int)<=30
 ·by_cases h2:(lb:Int)<=40
  ·have e:Hid (fewB la lb lc=decide (lc<=30)):=by(show _=_);unfold fewB;rw[show decide (la<=30)=true by simp;omega,show decide (lb<=40)=true by simp;omega];rfl
   have e2:Hid (decide ((lc:Int)<=30)=decide (lc<=30)):=by(show _=_);rw[Bool.eq_iff_iff];simp;omega
   go_enter Tryz.func16,Tryz.ntmps16
   go_wp2_with fail
   go_ret
   exact⟨by rw[e.o,<-e2.o];rfl,rfl⟩
  ·have h2':decide ((lb:Int)<=40)=false:=by simpa using h2
   have e:Hid (fewB la lb lc=false):=by(show _=_);unfold fewB;rw[show decide (lb<=40)=false by simp;omega];simp
   go_enter Tryz.func16,Tryz.ntmps16
   go_wp2_with fail
   go_ret
   exact⟨by rw[e.o];rfl,rfl⟩
 ·have h1':decide ((la:Int)<=30)=false:=by simpa using h1
  have e:Hid (fewB la lb lc=false):=by(show _=_);unfold fewB;rw[show decide (la<=30)=false by simp;omega];simp
  go_enter Tryz.func16,Tryz.ntmps16
  go_wp2_with fail
  go_ret
  exact⟨by rw[e.o];rfl,rfl⟩
def LatsPost(w:World)(ps:List (Int×Int))(n:Int)(e:Ending)(w':World):Prop:=
 Below w.heap.size w w'/\(e= .returned (.tuple #[.pointer none,.pointer none,.bool true])\/
  ∃(b xb N:Nat) (up dn:Nat->Nat),e= .returned (.tuple #[.pointer (some ⟨b,0,none⟩),.pointer (some ⟨xb,0,none⟩),.bool true])/\(N:Int)=n/\N<=32/\b<w'.heap.size/\LatC w' b N up dn/\RefL w' xb N up/\IsLat N ps up dn)
set_option maxHeartbeats 400000 in
theorem lats_any(n:Int)(a:Option Addr)(len cap:Nat)(ps:List (Int×Int))(w:World)(hT:Tab w)(h0:3<w.heap.size)(hlen:ps.length=len)(hp:PairsAt w a ps):
  Calls Tryz.prog 18 #[.int .i64 n,.slice a len cap] w (LatsPost w ps n):=by
 have HN:=Z (new_all n a len cap w ps hlen hp hT h0);have HRN:=Z (λ W (hb:Below w.heap.size w W)=>rnew_all n a len cap W ps hlen (hp.below hb));clear hT h0 hlen hp;by_cases hz:(newE n ps).1=0
 ·have HZ:=Z hz;have hn:1<=n/\n<=32/\newE n ps=newL n.toNat ps:=by
   unfold newE at hz⊢;by_cases h1:n<1\/32<n
   ·rw[if_pos h1] at hz;cases hz
   ·rw[if_neg h1] at hz⊢;by_cases h2:1024<ps.length
    ·rw[if_pos h2] at hz;cases hz
    ·rw[if_neg h2];exact⟨by omega,by omega,rfl⟩
  obtain⟨hn1,hn2,he⟩:=hn;obtain⟨N,rfl⟩:=Int.eq_ofNat_of_zero_le (show 0<=n by omega);have hI:=(newL_zero (n:=N) (ps:=ps) (by omega) (by rw[Int.toNat_natCast] at he;rw[<-he];exact hz)).2;have HI:Hid (IsLat N ps (newE N ps).2.1 (newE N ps).2.2):=by(show IsLat _ _ _ _);rw[he,Int.toNat_natCast];exact hI
  clear hz he hI;go_enter Tryz.func18,Tryz.ntmps18
  go_wp2_with fail
  refine HN.o.mono ?_;rintro e w1 ⟨_,h2,hb1⟩;obtain⟨rfl,hL,hbs⟩:=h2 HZ.o;rw[Int.toNat_natCast] at hL;have HLt:=Z hL;clear hL h2;generalize w.heap.size+1=b at*
  go_wp2_with fail
  refine(HRN.o _ hb1).mono ?_;rintro e w2 ⟨_,h3,hb2⟩;obtain⟨rfl,hxs,g,rcap,r,M,hRC,hM⟩:=h3 HZ.o;rw[Int.toNat_natCast] at hRC hM;have HRL:=Z (RefL.of hRC HI.o hM);have HL2:=Z (HLt.o.below hb2 hbs);have hbs2:b<w2.heap.size:=Nat.lt_of_lt_of_le hbs hb2.size;have B2:=hb1.trans (hb2.mono hb1.size);clear h3 hRC hM HLt HRN HN hb1 hb2
  go_wp2_with fail
  exact bodyPost_ret (v:=.tuple #[.pointer (some ⟨b,0,none⟩),.pointer (some ⟨w1.heap.size,0,none⟩),.bool true]) (by simp[results,Tryz.results18,go_sem]) rfl ⟨B2,Or.inr ⟨b,_,N,_,_,rfl,rfl,by omega,hbs2,HL2.o,HRL.o,HI.o⟩⟩
 ·have HZ:=Z hz;clear hz;go_enter Tryz.func18,Tryz.ntmps18
  go_wp2_with fail
  refine HN.o.mono ?_;rintro e w1 ⟨h1,_,hb1⟩;rw[h1 HZ.o]
  go_wp2_with fail
  refine(HRN.o _ hb1).mono ?_;rintro e w2 ⟨h2,_,hb2⟩;rw[h2 HZ.o];have B2:=hb1.trans (hb2.mono hb1.size);generalize(newE n ps).1=c at*;have hcc:((c:Int)==c)=true:=by simp
  clear h1 h2 HRN HN hb1 hb2
  go_wp2_with fail
  exact bodyPost_ret (v:=.tuple #[.pointer none,.pointer none,.bool true]) (by simp[results,Tryz.results18,go_sem]) rfl ⟨B2,Or.inl rfl⟩
end Go.Proofs.YtgdpkkjfcdhmdaaGreatDoor
