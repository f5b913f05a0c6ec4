/- Subst: what its last loop keeps. -/
import Derived.Test.YtgdpkkjfcdhmdaaGreatDoorR33
import Derived.Test.YtgdpkkjfcdhmdaaGreatDoorR34
import Derived.Test.YtgdpkkjfcdhmdaaGreatDoorR28
namespace Go.Proofs.YtgdpkkjfcdhmdaaGreatDoor
open Go.RowKit
def oH(w:World)(B:Nat)(A:Nat->Prop)(gb mb:Nat)(nv:Value)(W:Nat)(r:Nat×List Nd)(e:Ending)(w':World):Prop:=∃(nv':Value) (A':Nat->Prop),e= .returned (.int .i64 (r.1:Nat))/\PG w' B (λ k=>A k\/A' k) gb mb nv' W r.2/\(∀k,A' k->w.heap.size<=k)/\Mut (fG gb (some mb) nv) w w'/\nI w nv nv'
theorem Oe(w:World):(Instr.makeSlice 24 (.int .i64 1) (.int .i64 1)).run Tryz.prog w= .ok (.slice (some ⟨w.heap.size,0,none⟩) 1 1) (w.alloc (.cells #[.int .i64 0] 3)):=by kernel_rfl
theorem Of(w:World):(Instr.makeSlice 24 (.int .i64 2) (.int .i64 2)).run Tryz.prog w= .ok (.slice (some ⟨w.heap.size,0,none⟩) 2 2) (w.alloc (.cells #[.int .i64 0,.int .i64 0] 3)):=by kernel_rfl
theorem Og{n:Nat}(h1:1<=n)(h2:n<=2)(w:World):(Instr.makeSlice 24 (.int .i64 (n:Int)) (.int .i64 (n:Int))).run Tryz.prog w= .ok (.slice (some ⟨w.heap.size,0,none⟩) n n) (w.alloc (.cells ⟨jf (List.replicate n 0)⟩ 3)):=by have:n=1\/n=2:=by{omega};rcases this with rfl|rfl;{exact Oe w};exact Of w
theorem Oh{w:World}{g:Nat}{zs:List Nat}(h:fH w g (jf zs)):(Lay.int .i64).At 0 w (some ⟨g,0,none⟩) (fE zs):=λ i a=>by have hi':i<zs.length:=by{simpa[fE] using a};refine⟨g,0,rfl,h.lt,λ j b=> ?_⟩;obtain rfl:j=0:=by{have:j<1:=b;omega};have:=(h.at_ i _ (Er hi')).1;show w.cell? ⟨g,0+i*1+0,none⟩=_;rw[Nat.mul_one,AJ,Nat.add_zero,this];simp[Lay.int,fE,List.getD_eq_getElem?_getD,List.getElem?_eq_getElem hi']
section
variable {w:World} {B:Nat} {A:Nat->Prop} {gb mb:Nat} {nv:Value} {W:Nat} {L:List Nd}
theorem oH.same{w':World}(hp:PG w B A gb mb nv W L)(hb:Below w.heap.size w w')(t:Nat):oH w B A gb mb nv W (t,L) (.returned (.int .i64 (t:Nat))) w':=⟨nv,noB,rfl,(hp.below hb).more λ _ h=>h.elim,λ _ h=>h.elim,Mut.of_below hb,.inl rfl⟩
set_option maxRecDepth 100000 in
set_option maxHeartbeats 8000000 in
theorem Oi(h:PG w B A gb mb nv W L)(hB:B<=w.heap.size)(hL:L.length<=999)(h1:1<=W)(h2:W<=64){f bm J:Nat}(F:f<w.heap.size)(aQ:¬fG gb (some mb) nv f)
  (G:w.cell? ⟨f,0,none⟩=some (.pointer (some ⟨gb,0,none⟩)))(r1:w.cell? ⟨f,1,none⟩=some (.map (some bm)))(r2:w.cell? ⟨f,2,none⟩=some (.map (some J)))
  {SB D:List (Int×Value)}(P:gu .i64 w bm SB)(V:gu .u64 w J D)(i:Nat)(n:Nd)(aw:n.op<=20)(r:n.args.length=arN n.op){j:Option Addr}{hc:Nat}(ae:(Lay.int .i64).At 0 w j (fE n.args))
  (d:List Nat)(ah:∀a∈n.args,lkS SB (a:Int)=some (.int .i64 (d.getD a 0:Nat))/\d.getD a 0<L.length)(σ:Nat->Option Nat)(X:n.op=1->lkS D (n.num:Int)=(σ n.num).map λ s=>.int .i64 (s:Nat)):
  Calls Tryz.prog 101 #[.pointer (some ⟨f,0,none⟩),.int .i64 i,.agg #[.int .u8 (n.op:Nat),.int .u64 (n.num:Nat),.slice j n.args.length hc]] w (oH w B A gb mb nv W (jU W σ d i n L)):=by
 obtain⟨c,num,b⟩:=n;simp only at aw r ae ah X⊢;have N:=Z h;have aa:=Z ae;have Y:=Z ah;have ab:=Z P;have q:Hid (Below w.heap.size w (w.alloc (.cells #[.int .u8 (c:Nat),.int .u64 (num:Nat),.slice j b.length hc] 148))):=Z ((A6 _ _).alloc (A8 _) _);generalize hQ:oH w B A gb mb nv W (jU W σ d i ⟨c,num,b⟩ L)=Q;have HQ:=Z hQ;clear hQ h ae ah;by_cases O:c=1
 ·subst O;have ai:b=[]:=List.length_eq_zero_iff.1 (by rw[r];rfl);subst ai;simp only[List.length_nil] at q⊢;have r0':=(q.o.cell (p:=⟨f,0,none⟩) F).trans G;have r1':=(q.o.cell (p:=⟨f,1,none⟩) F).trans r1;have r2':=(q.o.cell (p:=⟨f,2,none⟩) F).trans r2;have U:gu .u64 (w.alloc (.cells #[.int .u8 (1:Nat),.int .u64 (num:Nat),.slice j 0 hc] 148)).drew J D:=V.frame (q.o.block J V.lt);have am:=Z U;have M:=Z (X rfl);have z:Hid (jU W σ d i ⟨1,num,[]⟩ L=match σ num with|some s=>(s,L)|none=>(i,L)):=Z rfl;clear X r aa Y ab V P G r1 r2 U;have an:Hid ((w.alloc (.cells #[.int .u8 (1:Nat),.int .u64 (num:Nat),.slice j 0 hc] 148)).cell? ⟨w.heap.size,0,none⟩=some (.int .u8 (1:Nat))/\(w.alloc (.cells #[.int .u8 (1:Nat),.int .u64 (num:Nat),.slice j 0 hc] 148)).cell? ⟨w.heap.size,1,none⟩=some (.int .u64 (num:Nat))/\(w.alloc (.cells #[.int .u8 (1:Nat),.int .u64 (num:Nat),.slice j 0 hc] 148)).cell? ⟨w.heap.size,2,none⟩=some (.slice j 0 hc)):=
   Z ⟨by rw[Ah];rfl,by rw[Ah];rfl,by rw[Ah];rfl⟩
  go_enter Tryz.func101,Tryz.ntmps101
  go_upto_region 2 with fail
  obtain⟨x0,x1,x2⟩:=an.o;clear an;generalize w.alloc (.cells #[.int .u8 (1:Nat),.int .u64 (num:Nat),.slice j 0 hc] 148)=w1 at*;have R:(Instr.lookup 208 (.map (some J)) (.int .u64 (num:Nat)) true).run Tryz.prog w1.drew= .ok (.tuple #[(lkS D num).getD (.int .i64 0),.bool (lkS D num).isSome]) w1.drew:=am.o.look2 xS num;have S:(Instr.lookup 208 (.map (some J)) (.int .u64 (num:Nat)) true).run Tryz.prog w1= .ok (.tuple #[(lkS D num).getD (.int .i64 0),.bool (lkS D num).isSome]) w1:=(gu.frame (w':=w1) am.o rfl).look2 xS num;rw[M.o] at R S;cases hs:σ num with
  |some s=>
   rw[hs] at z R S;simp only[Option.map_some,Option.getD_some,Option.isSome_some] at R S;clear hs M
   go_region
   go_wp2_with fail
   rw[<-HQ.o,z.o];exact oH.same N.o q.o.drew s
  |none=>
   rw[hs] at z R S;simp only[Option.map_none,Option.getD_none,Option.isSome_none] at R S;clear hs M
   go_region
   go_wp2_with fail
   rw[<-HQ.o,z.o];exact oH.same N.o q.o.drew i
 by_cases e0:b.length=0
 ·have ai:b=[]:=List.length_eq_zero_iff.1 e0;subst ai;simp only[List.length_nil] at q⊢;have z:Hid (jU W σ d i ⟨c,num,[]⟩ L=(i,L)):=Z (by unfold jU;rw[if_neg O];rfl);have aO:((c:Int)==1)=false:=by rw[beq_eq_false_iff_ne];omega
  clear X r aa Y ab V P G r1 r2;go_enter Tryz.func101,Tryz.ntmps101
  go_wp2_with fail
  rw[<-HQ.o,z.o];exact oH.same N.o q.o i
 have ho:2<=c:=by
  rcases Nat.lt_or_ge c 2 with h|h
  ·exfalso
   apply e0;rw[r];have:c=0\/c=1:=by omega
   rcases this with rfl|rfl<;>rfl
  exact h
 have aM:1<=b.length/\b.length<=2:=by
  rw[r];unfold arN;(repeat' split)<;>omega
 have z:Hid (jU W σ d i ⟨c,num,b⟩ L=fR W c (b.map λ a=>d.getD a 0) L):=Z (by unfold jU;rw[if_neg O];show(if b.length=0 then _ else _)=_;rw[if_neg e0]);have aO:((c:Int)==1)=false:=by rw[beq_eq_false_iff_ne];omega
 have hne2:((b.length:Int)==0)=false:=by rw[beq_eq_false_iff_ne];omega
 have aF:=Z r;generalize hal:b.length=n at*;have C:=Z hal;obtain⟨aL,aN⟩:=aM;have U:=λ w=>Og aL aN w
 have x0:(w.alloc (.cells #[.int .u8 (c:Nat),.int .u64 (num:Nat),.slice j n hc] 148)).cell? ⟨w.heap.size,0,none⟩=some (.int .u8 (c:Nat)):=by rw[Ah];rfl
 have x2:(w.alloc (.cells #[.int .u8 (c:Nat),.int .u64 (num:Nat),.slice j n hc] 148)).cell? ⟨w.heap.size,2,none⟩=some (.slice j n hc):=by rw[Ah];rfl
 have I:w.heap.size<(w.alloc (.cells #[.int .u8 (c:Nat),.int .u64 (num:Nat),.slice j n hc] 148)).heap.size:=by simp
 have aJ:=P.lt;clear X r hal e0 V P r2;go_enter Tryz.func101,Tryz.ntmps101
 go_upto_region 7 with fail
 generalize w.alloc (.cells #[.int .u8 (c:Nat),.int .u64 (num:Nat),.slice j n hc] 148)=w1 at*;have aK:=U w1;clear U
 go_upto_region 8 with fail
 have ao:=Z (fH.made (w:=w1) (vs:=jf (List.replicate n 0)) (t:=3) rfl);have aD:=Z (fQ q.o (.cells ⟨jf (List.replicate n 0)⟩ 3));have af:Below w1.heap.size w1 (w1.alloc (.cells ⟨jf (List.replicate n 0)⟩ 3)):=(A6 _ _).alloc (A8 _) _;have aB:=(af.cell (p:=⟨w.heap.size,0,none⟩) I).trans x0;have aU:=(af.cell (p:=⟨w.heap.size,2,none⟩) I).trans x2;have az:w.heap.size<w1.heap.size:=I;clear aK af x0 x2 I;generalize w1.alloc (.cells ⟨jf (List.replicate n 0)⟩ 3)=w2 at*;have aR:=q.o.size;generalize w1.heap.size=g at*;clear q;have ap:Hid (w2.cell? ⟨w.heap.size,0,none⟩=some (.int .u8 (c:Nat))):=Z aB;clear aB
 go_wp2_with fail
 go_loopw [41] (λ i wr=>∃k:Nat,k<=n/\i= .int .i64 k/\Hid (fH wr g (jf ((b.take k).map (λ a=>d.getD a 0)++List.replicate (n-k) 0)))/\Hid (Below w.heap.size w wr)/\Hid (Below g w2 wr)) (λ i _=>n-(intOf i).toNat)
 case atStart=>exact⟨0,by omega,rfl,ao,aD,Z (A6 _ _)⟩
 case round=>
  obtain⟨k,hk,rfl,H,E,au⟩:=hrel;by_cases hlk:k<n
  ·obtain⟨ib,io,rfl,aP,aj⟩:=aa.o.int (i:=k) (by simp[fE,C.o];exact hlk);have ay:(fE b).getD k 0=((b.getD k 0:Nat):Int):=by simp[fE,List.getD_eq_getElem?_getD,List.getElem?_eq_getElem (C.o.symm▸hlk)]
   rw[ay] at aj;have hp0':=(E.o.cell (p:=⟨ib,io+k,none⟩) aP).trans aj;have av:b.getD k 0∈b:=by rw[Aa,Ab (C.o.symm▸hlk)];exact AI _
   have M:=Z (Y.o _ av).1;have aE:=Z (xQ (λ a=>d.getD a 0) 0 C.o hlk);have aq:gu .i64 wr bm SB:=ab.o.frame (E.o.block bm aJ);have aG:=Z aq;have al:=(E.o.cell (p:=⟨f,0,none⟩) F).trans G;have r1r:=(E.o.cell (p:=⟨f,1,none⟩) F).trans r1;have r:((b.take k).map (λ a=>d.getD a 0)++List.replicate (n-k) 0).length=n:=by simp[C.o];omega
   obtain⟨v0,ax⟩:∃v,(jf ((b.take k).map (λ a=>d.getD a 0)++List.replicate (n-k) 0))[k]? =some v:=⟨_,Ab (by rw[jf,Ak,r];exact hlk)⟩
   obtain⟨g0,g1⟩:=H.o.at_ k _ ax;have hki:(k:Int)<n:=by omega
   have ak:=H.o.set (k:=k) (by rw[jf,Ak,r];exact hlk) (.int .i64 (d.getD (b.getD k 0) 0:Nat));rw[jf,<-List.map_set,aE.o] at ak;have aI:=Z ak;clear ay aj av aq r ax ak G;generalize b.getD k 0=t at*;generalize d.getD t 0=bt at*
   go_wp2_with(refine xU xR rfl _ _ rfl rfl aG.o rfl ?_;rw[M.o];simp only[Option.getD_some])
   go_roundw
   case rel=>exact⟨k+1,by omega,by go_num,aI,Z (E.o.setCell aR _),Z (au.o.setCell (A8 _) _)⟩
   case measure=>simp[intOf];omega
  obtain rfl:k=n:=by omega
  have ar:(b.take k).map (λ a=>d.getD a 0)++List.replicate (k-k) 0=b.map λ a=>d.getD a 0:=by rw[Nat.sub_self,<-C.o,AD];simp
  rw[ar] at H;have ad:Hid (wr.cell? ⟨w.heap.size,0,none⟩=some (.int .u8 (c:Nat))):=Z ((au.o.cell (p:=⟨w.heap.size,0,none⟩) az).trans ap.o);have al:=(E.o.cell (p:=⟨f,0,none⟩) F).trans G;have aA:wr.drew.cell? ⟨f,0,none⟩=some (.pointer (some ⟨gb,0,none⟩)):=al;have aT:=ad.o;have aC:wr.drew.cell? ⟨w.heap.size,0,none⟩=some (.int .u8 (c:Nat)):=ad.o;have K:=Z E.o.drew;have HC:=Z (Ev (N.o.below K.o) (Ag hB K.o.size) hL h1 h2 c ho aw (b.map λ a=>d.getD a 0) k (by rw[Ak,C.o]) aF.o (λ x I=>by
   obtain⟨a,j,rfl⟩:=AF.1 I;exact(Y.o a j).2) (cap:=k) (Oh H.o.drew))
  have HZ:=Z (show w.heap.size<wr.drew.heap.size from Nat.lt_trans az H.o.lt);clear ar H G ap ad ao aU
  go_upto_region 13 with fail
  have aH:Hid (¬fG gb (some mb) nv w.heap.size):=Z λ m=>by have:=(N.o.lo _ m).2;omega
  go_region_held3(λ w'=>w'.cell? ⟨f,0,none⟩=some (.pointer (some ⟨gb,0,none⟩))/\w'.cell? ⟨w.heap.size,0,none⟩=some (.int .u8 (c:Nat)))
   (first|exact⟨al,aT⟩|exact⟨aA,aC⟩|exact KE.o)
   (first
     |(go_at_call 67
       refine HC.o.mono ?_;rintro e w5 ⟨aS,A',rfl,p1,p2,p3,p4⟩;have H1:=Z p1;have H2:=Z p2;have H3:=Z p3;have H4:=Z p4;have KE:Hid (w5.cell? ⟨f,0,none⟩=some (.pointer (some ⟨gb,0,none⟩))/\w5.cell? ⟨w.heap.size,0,none⟩=some (.int .u8 (c:Nat))):=Z
        ⟨(Ai (a:=⟨f,0,none⟩) (p3.block f (Nat.lt_trans F HZ.o) aQ)).trans aA,(Ai (a:=⟨w.heap.size,0,none⟩) (p3.block w.heap.size HZ.o aH.o)).trans aC⟩
       clear p1 p2 p3 p4))
  go_wp2_with fail
  rw[<-HQ.o,z.o];refine⟨aS,A',rfl,H1.o,λ k hk=>Ag K.o.size (H2.o k hk),(Mut.of_below K.o).trans H3.o,?_⟩;exact H4.o.elim .inl λ⟨k,O,e2⟩=>.inr ⟨k,O,Ag K.o.size e2⟩
end
theorem Oj(p q:Addr)(w:World):CallsD Tryz.prog 100 #[.pointer (some p),.pointer (some q)] .returning w λ e c w'=>e= .returned (.tuple #[])/\c= .returning/\w'=w:=by refine callsD_of_wpS Tryz.func100 rfl λ a cs b=> ?_;have hnil:∀w:World,(Op.equalIn 10000 20 .nilIface .nilIface).run Tryz.prog w= .ok true w:=λ w=>by{kernel_rfl};apply wpS_seq;apply wpS_region;simp[wpOpsS,go_sem,recoverD,b,Tryz.ntmps100,Exit.thenS];refine wpS_of_wp ?_;refine wp_block ?_;go_wp2_with fail;cases a;simp_all[bodyPostS,results,Tryz.results100]
structure jV (w:World) (L:List Nd) (t0:Nat) (nb g mx n t:Nat) (N:List Bool) (NH:List NdH):Prop where
 len:N.length=n
 hlen:NH.length=n
 own:Lay.bool.Own 4 w nb (.slice (some ⟨nb,0,none⟩) n n) N
 nds:Lay.nd.Own 148 w g (.slice (some ⟨g,0,none⟩) n n) NH
 ne:g≠nb/\nb<=mx/\g<=mx
 top:N.getD t0 false=true
 only:∀j,N.getD j false=true->Occ L t0 j
 closed:∀j,t<=j->j<n->N.getD j false=true->∀a∈(L.getD j default).args,N.getD a false=true
 heads:∀j,t<=j->j<n->N.getD j false=true->ly w mx (NH.getD j nd0) (L.getD j default)
theorem jV.below{w w':World}{L:List Nd}{t0:Nat}{nb g mx n t:Nat}{N:List Bool}{NH:List NdH}(h:jV w L t0 nb g mx n t N NH)(hb:Below w.heap.size w w'):jV w' L t0 nb g mx n t N NH:=⟨h.len,h.hlen,h.own.grown hb,h.nds.grown hb,h.ne,h.top,h.only,h.closed,λ j h1 h2 h3=>(h.heads j h1 h2 h3).keep hb.size λ k _ hl=>hb.block k hl⟩
theorem jV.skip{w:World}{L:List Nd}{t0:Nat}{nb g mx n t:Nat}{N:List Bool}{NH:List NdH}(h:jV w L t0 nb g mx n (t+1) N NH)(hf:N.getD t false=false):jV w L t0 nb g mx n t N NH:=⟨h.len,h.hlen,h.own,h.nds,h.ne,h.top,h.only,λ j h1 h2 h3=>by by_cases e:j=t;{subst e;rw[hf] at h3;cases h3};·exact h.closed j (by omega) h2 h3,λ j h1 h2 h3=>by by_cases e:j=t;{subst e;rw[hf] at h3;cases h3};exact h.heads j (by omega) h2 h3⟩
structure oI (w:World) (L:List Nd) (t0:Nat) (nb g mx n t k:Nat) (N:List Bool) (NH:List NdH):Prop where
 len:N.length=n
 hlen:NH.length=n
 own:Lay.bool.Own 4 w nb (.slice (some ⟨nb,0,none⟩) n n) N
 nds:Lay.nd.Own 148 w g (.slice (some ⟨g,0,none⟩) n n) NH
 ne:g≠nb/\nb<=mx/\g<=mx
 top:N.getD t0 false=true
 only:∀j,N.getD j false=true->Occ L t0 j
 closed:∀j,t+1<=j->j<n->N.getD j false=true->∀a∈(L.getD j default).args,N.getD a false=true
 heads:∀j,t<=j->j<n->N.getD j false=true->ly w mx (NH.getD j nd0) (L.getD j default)
 first:∀i,i<k->N.getD ((L.getD t default).args.getD i 0) false=true
 here:N.getD t false=true
theorem oI.done{w:World}{L:List Nd}{t0:Nat}{nb g mx n t:Nat}{N:List Bool}{NH:List NdH}(h:oI w L t0 nb g mx n t (L.getD t default).args.length N NH):jV w L t0 nb g mx n t N NH:=⟨h.len,h.hlen,h.own,h.nds,h.ne,h.top,h.only,λ j h1 h2 h3=>by by_cases e:j=t;{subst e;intro a ha;obtain⟨i,hi,rfl⟩:=List.mem_iff_getElem.1 ha;have:=h.first i hi;rwa[Aa (l:=(L.getD j default).args),Ab hi] at this};exact h.closed j (by omega) h2 h3,h.heads⟩
theorem oI.mark{w w':World}{L:List Nd}{G:Nat}{b g F n t k:Nat}{N:List Bool}{r:List NdH}(h:oI w L G b g F n t k N r)(ht:t<n){x:Nat}(E:(L.getD t default).args.getD k 0=x)(hxt:x<t)(D:k<(L.getD t default).args.length) (J:Lay.bool.Own 4 w' b (.slice (some ⟨b,0,none⟩) n n) (N.set x true))(q:w.grownBy w' (some b)):oI w' L G b g F n t (k+1) (N.set x true) r:=by have hne:=h.ne;have z:∀j,t<=j->(N.set x true).getD j false=N.getD j false:=λ j C=>mC _ _ _ _ _ (by omega);refine⟨by rw[List.length_set];exact h.len,h.hlen,J,h.nds.keep q (λ e=>by injection e with e;omega),h.ne,kI _ _ _ h.top,λ j C=> ?_,λ j c d f a H=>kI _ _ _ (h.closed j c d (by rwa[z j (by omega)] at f) a H),λ j c d f=>(h.heads j c d (by rwa[z j c] at f)).keep q.size λ k hk I=>q.block k I (λ e=>by injection e with e;omega),λ i hi=> ?_,kI _ _ _ h.here⟩;{by_cases e:j=x;{subst e;subst E;exact .arg (h.only t h.here) (by rw[Aa (l:=(L.getD t default).args),Ab D];exact AI D)};exact h.only j (by rwa[mC _ _ _ _ _ (λ h=>e h.symm)] at C)};by_cases e:i=k;{subst e;rw[E];exact kZ _ _ _ _ (by rw[h.len];omega)};exact kI _ _ _ (h.first i (by omega))
theorem jV.copy{w w':World}{L:List Nd}{q:Nat}{f g d n t:Nat}{N:List Bool}{b:List NdH}(h:jV w L q f g d n (t+1) N b)(G:t<n)(C:N.getD t false=true){x:NdH}(H:ly w d x (L.getD t default)) (F:Lay.nd.Own 148 w' g (.slice (some ⟨g,0,none⟩) n n) (b.set t x))(a:w.grownBy w' (some g)):oI w' L q f g d n t 0 N (b.set t x):=by have hne:=h.ne;refine⟨h.len,by rw[List.length_set];exact h.hlen,h.own.keep a (λ e=>by injection e with e;omega),F,h.ne,h.top,h.only,h.closed,λ j h1 r z=> ?_,λ i D=>absurd D (by omega),C⟩;by_cases e:t=j;{subst e;rw[kZ _ _ _ _ (by rw[h.hlen];exact G)];exact H.keep a.size λ k E c=>a.block k c (λ e=>by injection e with e;omega)};rw[mC _ _ _ _ _ e];exact(h.heads j (by omega) r z).keep a.size λ k E c=>a.block k c (λ e=>by injection e with e;omega)
theorem jV.start{w:World}{L:List Nd}{t0 nb g mx n:Nat}{N:List Bool}{NH:List NdH}(h1:N.length=n)(h2:NH.length=n)(h3:Lay.bool.Own 4 w nb (.slice (some ⟨nb,0,none⟩) n n) N)(h4:Lay.nd.Own 148 w g (.slice (some ⟨g,0,none⟩) n n) NH)(h5:g≠nb/\nb<=mx/\g<=mx) (h6:N.getD t0 false=true)(h7:∀j,N.getD j false=true->j=t0):jV w L t0 nb g mx n n N NH:=⟨h1,h2,h3,h4,h5,h6,λ j hj=>by rw[h7 j hj];exact .top,λ j a b=>absurd b (by omega),λ j a b=>absurd b (by omega)⟩
theorem jV.occ{w:World}{L:List Nd}{c k g f n:Nat}{N:List Bool}{d:List NdH}(h:jV w L c k g f n 0 N d)(j:Nat):N.getD j false=true↔Occ L c j:=by refine⟨h.only j,λ o=> ?_⟩;induction o with|top=>exact h.top| @arg i a _ ha ih=>have b:i<n:=by{rcases Nat.lt_or_ge i n with b|b;{exact b};rw[Aa,Ba (by rw[h.len];exact b)] at ih;cases ih};exact h.closed i (Nat.zero_le _) b ih a ha
def lf(l:List Nat):List (Int×Value):=l.map λ(v:Nat)=>((v:Int),.bool true)
theorem EC:∀{l:List Nat} {x:Nat},x∉l->lkS (lf l) (x:Int)=none|[],_,_=>rfl|v::l,x,h=>by show(if(v:Int)=(x:Int) then _ else lkS (lf l) x)=none;rw[if_neg (λ e=>h (by rw[show v=x by omega];exact AK ..))];exact EC λ hm=>h (AC _ hm)
def jI(l r:List Nat):List (Int×Value):=(l.zip r).map λ p=>((p.1:Int),.int .i64 (p.2:Nat))
theorem ED:∀{l r:List Nat} {x:Nat},x∉l->lkS (jI l r) (x:Int)=none|[],_,_,_=>rfl|_::_,[],_,_=>rfl|v::l,s::r,x,h=>by show(if(v:Int)=(x:Int) then _ else lkS (jI l r) x)=none;rw[if_neg (λ e=>h (by rw[show v=x by omega];exact AK ..))];exact ED λ hm=>h (AC _ hm)
theorem Ol{l r:List Nat}(h:l.length=r.length)(v s:Nat):jI (l++[v]) (r++[s])=jI l r++[((v:Int),.int .i64 (s:Nat))]:=by unfold jI;rw[List.zip_append h,List.map_append];rfl
theorem Om(l:List Nat)(v:Nat):lf (l++[v])=lf l++[((v:Int),.bool true)]:=by simp[lf]
def jg(occ:Nat->Bool)(Bs:List Nat):Nat->List (Int×Value)|0=>[]|k+1=>if occ k then jg occ Bs k++[((k:Int),.int .i64 (Bs.getD k 0:Nat))] else jg occ Bs k
theorem EE{occ:Nat->Bool}{Bs Cs:List Nat}:∀k,(∀i,i<k->Bs.getD i 0=Cs.getD i 0)->jg occ Bs k=jg occ Cs k|0,_=>rfl|k+1,h=>by unfold jg;rw[EE k λ i hi=>h i (by omega),h k (by omega)]
theorem un{occ:Nat->Bool}{Bs:List Nat}(i:Nat):∀k,lkS (jg occ Bs k) (i:Int)=if i<k/\occ i=true then some (.int .i64 (Bs.getD i 0:Nat)) else none|0=>by rw[if_neg (by omega)];rfl|k+1=>by unfold jg;have ih:=un (occ:=occ) (Bs:=Bs) i k;by_cases ho:occ k=true;{rw[if_pos ho,N9,ih];by_cases e:i<k/\occ i=true;{rw[if_pos e];exact(if_pos ⟨by omega,e.2⟩).symm};rw[if_neg e];by_cases ek:k=i;{subst ek;exact(if_pos rfl).trans (if_pos ⟨by omega,ho⟩).symm};exact(if_neg (by omega)).trans (if_neg (by rintro⟨a,b⟩;exact e ⟨by omega,b⟩)).symm};rw[if_neg ho,ih];by_cases ek:k=i;{subst ek;rw[if_neg (by omega),if_neg (by rintro⟨_,b⟩;exact ho b)]};by_cases e:i<k/\occ i=true;{rw[if_pos e,if_pos ⟨by omega,e.2⟩]};rw[if_neg e,if_neg];rintro⟨a,b⟩;exact e ⟨by omega,b⟩
theorem xY(W:Nat)(σ:Nat->Option Nat)(N:List Nd)(occ:Nat->Bool)(L:List Nd):∀k,(fO W σ N occ L k).1.length=k|0=>rfl|k+1=>by show(jr W σ N occ k (fO W σ N occ L k)).1.length=_;unfold jr;split<;>simp[xY W σ N occ L k]
theorem On{W:Nat}{σ:Nat->Option Nat}{N:List Nd}{occ:Nat->Bool}{L:List Nd}(k i:Nat)(a:i<k):(fO W σ N occ L (k+1)).1.getD i 0=(fO W σ N occ L k).1.getD i 0:=by show(jr W σ N occ k (fO W σ N occ L k)).1.getD i 0=_;have b:=xY W σ N occ L k;unfold jr;split<;>exact um (by rw[b];exact a)
theorem Oo{W:Nat}{σ:Nat->Option Nat}{N:List Nd}{occ:Nat->Bool}{L:List Nd}{k:Nat}(a:occ k=true):(fO W σ N occ L (k+1)).1.getD k 0=(jU W σ (fO W σ N occ L k).1 k (N.getD k default) (fO W σ N occ L k).2).1/\(fO W σ N occ L (k+1)).2=(jU W σ (fO W σ N occ L k).1 k (N.getD k default) (fO W σ N occ L k).2).2:=by show(jr W σ N occ k (fO W σ N occ L k)).1.getD k 0=_/\(jr W σ N occ k (fO W σ N occ L k)).2=_;unfold jr;rw[if_pos a];exact⟨xW (xY W σ N occ L k),rfl⟩
theorem Oq{W:Nat}{σ:Nat->Option Nat}{N:List Nd}{occ:Nat->Bool}{L:List Nd}{k:Nat}(a:occ k=false):(fO W σ N occ L (k+1)).2=(fO W σ N occ L k).2:=by show(jr W σ N occ k (fO W σ N occ L k)).2=_;unfold jr;rw[if_neg (by rw[a];decide)]
structure jJ (w w4 wi:World) (B:Nat) (A:Nat->Prop) (gb mb bm:Nat) (nv nvk:Value) (A':Nat->Prop) (W:Nat) (Lk:List Nd) (SB:List (Int×Value)):Prop where
 pg:PG wi B (λ k=>A k\/A' k) gb mb nvk W Lk
 map:gu .i64 wi bm SB
 mt:∀b,b<w4.heap.size->¬fG gb (some mb) nv b->b≠bm->wi.heap[b]? =w4.heap[b]?
 fr:wi.os=w4.os/\wi.tape=w4.tape/\wi.output=w4.output/\w4.heap.size<=wi.heap.size
 new:nvk.ownBlock=nv.ownBlock\/∃k,nvk.ownBlock=some k/\w4.heap.size<=k
 lo:∀b,A' b->w4.heap.size<=b
structure sd (w w4:World) (A:Nat->Prop) (gb mb bm:Nat) (nv:Value):Prop where
 m:∀b,fG gb (some mb) nv b->b<w.heap.size
 a:∀b,A b->b<w.heap.size
 b1:w.heap.size<=bm
 b2:bm<w4.heap.size
section
variable {w w4 wi wj w' w'':World} {B:Nat} {A A':Nat->Prop} {gb mb bm:Nat} {nv nvk:Value} {W:Nat} {Lk:List Nd} {SB:List (Int×Value)}
theorem jJ.start(h:PG w4 B A gb mb nv W Lk)(hm:gu .i64 w4 bm []):jJ w w4 w4 B A gb mb bm nv nv noB W Lk []:=⟨h.more λ _ h=>h.elim,hm,λ _ _ _ _=>rfl,⟨rfl,rfl,rfl,A8 _⟩,.inl rfl,λ _ h=>h.elim⟩
theorem jJ.keep(h:jJ w w4 wi B A gb mb bm nv nvk A' W Lk SB)(hb:Below wi.heap.size wi wj):jJ w w4 wj B A gb mb bm nv nvk A' W Lk SB:=⟨h.pg.below hb,h.map.frame (hb.block _ h.map.lt),λ b h1 h2 h3=>(hb.block b (A9 h1 h.fr.2.2.2)).trans (h.mt b h1 h2 h3),⟨hb.os.trans h.fr.1,hb.tape.trans h.fr.2.1,hb.output.trans h.fr.2.2.1,Ag h.fr.2.2.2 hb.size⟩,h.new,h.lo⟩
theorem jJ.same(h:jJ w w4 wi B A gb mb bm nv nvk A' W Lk SB)(c:sd w w4 A gb mb bm nv){b:Nat}(h1:w.heap.size<=b)(h2:b<w4.heap.size)(h3:b≠bm):wi.heap[b]? =w4.heap[b]? :=h.mt b h2 (λ m=>by have:=c.m b m;omega) h3
theorem jJ.not(h:jJ w w4 wi B A gb mb bm nv nvk A' W Lk SB)(c:sd w w4 A gb mb bm nv){b:Nat}(h1:w.heap.size<=b)(h2:b<w4.heap.size):¬fG gb (some mb) nvk b:=by have hg:=c.m gb (.inl rfl);have hmb:=c.m mb (.inr (.inl rfl));rintro(e|e|e);{omega};{injection e with e;omega};rcases h.new with a|⟨k,a,hk⟩;{rw[a] at e;have:=c.m b (.inr (.inr e));omega};rw[a] at e;injection e with e;omega
theorem jJ.step(h:jJ w w4 wj B A gb mb bm nv nvk A' W Lk SB)(c:sd w w4 A gb mb bm nv){j:Value}{f:Nat->Prop}{t:List Nd}(E:PG w' B (λ k=>(A k\/A' k)\/f k) gb mb j W t)(K:∀k,f k->wj.heap.size<=k)(g:Mut (fG gb (some mb) nvk) wj w')(d:nI wj nvk j) {S:List (Int×Value)}(J:gu .i64 w'' bm S)(hs:w''.heap.size=w'.heap.size)(q:∀k,k≠bm->w''.heap[k]? =w'.heap[k]?)(F:w''.os=w'.os)(G:w''.tape=w'.tape)(H:w''.output=w'.output):jJ w w4 w'' B A gb mb bm nv j (λ k=>A' k\/f k) W t S:=by have D:j.ownBlock=nv.ownBlock\/∃k,j.ownBlock=some k/\w4.heap.size<=k:=by{rcases d with e|⟨k,e,q⟩;{rw[e];exact h.new};exact .inr ⟨k,e,Ag h.fr.2.2.2 q⟩};have C:∀b,A' b\/f b->w4.heap.size<=b:=λ b r=>r.elim (h.lo b) λ r=>Ag h.fr.2.2.2 (K b r);have hg:=c.m gb (.inl rfl);have hmb:=c.m mb (.inr (.inl rfl));have c1:=c.b1;have c2:=c.b2;have I:(λ k=>(A k\/A' k)\/f k)=λ k=>A k\/(A' k\/f k):=funext λ k=>propext or_assoc;rw[I] at E;refine⟨E.frame (by omega) λ k M=>q k λ e=> ?_,J,λ b x n z=> ?_,⟨F.trans (g.os.trans h.fr.1),G.trans (g.tape.trans h.fr.2.1),H.trans (g.output.trans h.fr.2.2.1),by have:=g.size;have:=h.fr.2.2.2;omega⟩,D,C⟩;{subst e;rcases M with(e|e|e)|e|e;{omega};{injection e with e;omega};{rcases D with d|⟨O,d,N⟩;{rw[d] at e;have:=c.m _ (.inr (.inr e));omega};rw[d] at e;injection e with e;omega};{have:=c.a _ e;omega};have:=C _ e;omega};rw[q b z,g.block b (A9 x h.fr.2.2.2) ?_];{exact h.mt b x n z};rintro(e|e|e);{exact n (.inl e)};{exact n (.inr (.inl e))};rcases h.new with d|⟨O,d,N⟩;{rw[d] at e;exact n (.inr (.inr e))};rw[d] at e;injection e with e;omega
theorem jJ.post2(h:jJ w w4 wi B A gb mb bm nv nvk A' W Lk SB)(c:sd w w4 A gb mb bm nv)(f:Below w.heap.size w w4)(t:Nat){p8 p9:Nat}(n:w.heap.size<=p8/\p8<w4.heap.size)(q:w.heap.size<=p9/\p9<w4.heap.size)(u v:Value):gD w B A gb mb nv W (t,Lk) (.returned (.tuple #[.int .i64 (t:Nat),.int .i64 0])) ((wi.setCell ⟨p8,0,none⟩ u).setCell ⟨p9,0,none⟩ v):=by have c1:=c.b1;have r:∀k,k≠p8->k≠p9->((wi.setCell ⟨p8,0,none⟩ u).setCell ⟨p9,0,none⟩ v).heap[k]? =wi.heap[k]? :=λ k g j=>(AY _ _ _ k j).trans (AY _ _ _ k g);have C:=h.not c n.1 n.2;have D:=h.not c q.1 q.2;refine⟨nvk,A',rfl,h.pg.frame (by simp) λ k d=>r k (λ e=> ?_) (λ e=> ?_),λ b z=>by have:=h.lo b z;have:=f.size;omega,⟨h.fr.1.trans f.os,h.fr.2.1.trans f.tape,h.fr.2.2.1.trans f.output,by have:=h.fr.2.2.2;have:=f.size;simp;omega,λ b g j=> ?_⟩,?_⟩;{subst e;rcases d with d|d|d;{exact C d};{have:=c.a _ d;omega};have:=h.lo _ d;omega};{subst e;rcases d with d|d|d;{exact D d};{have:=c.a _ d;omega};have:=h.lo _ d;omega};{rw[r b (by omega) (by omega)];exact(h.mt b (by have:=f.size;omega) j (by omega)).trans (f.block b g)};exact h.new.elim .inl λ⟨k,x,e2⟩=>.inr ⟨k,x,by have:=f.size;omega⟩
end
