/- Walk: Subst. -/
import Derived.Test.YtgdpkkjfcdhmdaaGreatDoorS0
import Derived.Test.YtgdpkkjfcdhmdaaGreatDoorU9
namespace Go.Proofs.YtgdpkkjfcdhmdaaGreatDoor
open Go.RowKit
structure SubM (w0 w:World) (gb p9 sm bm vm rb:Nat) (S1 SB SV:List (Int×Value)):Prop where
 bel:Below w0.heap.size w0 w
 r8:Part w w0.heap.size [.int .i64 0]
 r9:Part w p9 [.int .i64 0]
 m1:MapAt .i64 w sm S1
 mB:MapAt .i64 w bm SB
 mV:MapAt .u64 w vm SV
 rp:Part w rb [.pointer (some ⟨gb,0,none⟩),.map (some bm),.map (some vm)]
 ord:w0.heap.size<p9/\p9<sm/\sm<bm/\bm<vm/\vm<rb
section
variable {w0 w w':World} {gb p9 sm bm vm rb:Nat} {S1 SB SV:List (Int×Value)}
theorem SubM.keep(h:SubM w0 w gb p9 sm bm vm rb S1 SB SV)(hb:Below w.heap.size w w'):SubM w0 w' gb p9 sm bm vm rb S1 SB SV:=
 ⟨bel_st h.bel hb,h.r8.keep hb,h.r9.keep hb,h.m1.frame (hb.block _ h.m1.lt),h.mB.frame (hb.block _ h.mB.lt),h.mV.frame (hb.block _ h.mV.lt),h.rp.keep hb,h.ord⟩
theorem part_one{g b:Nat}{vs:List Value}(h:Part w g vs)(hne:g≠b)(hs:w'.heap.size=w.heap.size)(hk:∀k,k≠b->w'.heap[k]? =w.heap[k]?):Part w' g vs:=
 ⟨by rw[hs];exact h.lt,λ i v e=>⟨(World.cell?_of_block (a:=⟨g,i,none⟩) (hk g hne)).trans (h.at_ i v e).1,(World.frozen?_of_block (a:=⟨g,i,none⟩) (hk g hne)).trans (h.at_ i v e).2⟩⟩
theorem below_one{b:Nat}(hb:w0.heap.size<=b)(h:Below w0.heap.size w0 w)(hs:w'.heap.size=w.heap.size)(hk:∀k,k≠b->w'.heap[k]? =w.heap[k]?)(e1:w'.os=w.os)(e2:w'.tape=w.tape)(e3:w'.output=w.output):Below w0.heap.size w0 w':=
 ⟨e1.trans h.os,e2.trans h.tape,e3.trans h.output,by rw[hs];exact h.size,λ k hk'=>(hk k (by omega)).trans (h.block k hk')⟩
theorem SubM.put1(h:SubM w0 w gb p9 sm bm vm rb S1 SB SV){S:List (Int×Value)}(hm:MapAt .i64 w' sm S)(hs:w'.heap.size=w.heap.size)(hk:∀k,k≠sm->w'.heap[k]? =w.heap[k]?)(e1:w'.os=w.os)(e2:w'.tape=w.tape)(e3:w'.output=w.output):SubM w0 w' gb p9 sm bm vm rb S SB SV:=by
 have o:=h.ord;exact⟨below_one (by omega) h.bel hs hk e1 e2 e3,part_one h.r8 (by omega) hs hk,part_one h.r9 (by omega) hs hk,hm,h.mB.frame (hk _ (by omega)),h.mV.frame (hk _ (by omega)),part_one h.rp (by omega) hs hk,o⟩
theorem SubM.putV(h:SubM w0 w gb p9 sm bm vm rb S1 SB SV){S:List (Int×Value)}(hm:MapAt .u64 w' vm S)(hs:w'.heap.size=w.heap.size)(hk:∀k,k≠vm->w'.heap[k]? =w.heap[k]?)(e1:w'.os=w.os)(e2:w'.tape=w.tape)(e3:w'.output=w.output):SubM w0 w' gb p9 sm bm vm rb S1 SB S:=by
 have o:=h.ord;exact⟨below_one (by omega) h.bel hs hk e1 e2 e3,part_one h.r8 (by omega) hs hk,part_one h.r9 (by omega) hs hk,h.m1.frame (hk _ (by omega)),h.mB.frame (hk _ (by omega)),hm,part_one h.rp (by omega) hs hk,o⟩
theorem Part.frame{g:Nat}{vs:List Value}(h:Part w g vs)(hs:w.heap.size<=w'.heap.size)(hk:w'.heap[g]? =w.heap[g]?):Part w' g vs:=
 ⟨Nat.lt_of_lt_of_le h.lt hs,λ i v e=>⟨(World.cell?_of_block (a:=⟨g,i,none⟩) hk).trans (h.at_ i v e).1,(World.frozen?_of_block (a:=⟨g,i,none⟩) hk).trans (h.at_ i v e).2⟩⟩
theorem SubM.grown(h:SubM w0 w gb p9 sm bm vm rb S1 SB SV){b:Nat}(hg:w.grownBy w' (some b))(hb:rb<b):SubM w0 w' gb p9 sm bm vm rb S1 SB SV:=by
 have o:=h.ord;have hk:∀k,k<w.heap.size->k<=rb->w'.heap[k]? =w.heap[k]? :=λ k hk hr=>hg.block k hk (λ e=>by injection e with e;omega)
 have l8:=h.r8.lt;exact⟨h.bel.grown hg h.bel.size (λ k hk=>by injection hk with hk;omega),h.r8.frame hg.size (hk _ h.r8.lt (by omega)),h.r9.frame hg.size (hk _ h.r9.lt (by omega)),h.m1.frame (hk _ h.m1.lt (by omega)),h.mB.frame (hk _ h.mB.lt (by omega)),h.mV.frame (hk _ h.mV.lt (by omega)),h.rp.frame hg.size (hk _ h.rp.lt (by omega)),o⟩
theorem made_map{w1:World}{q:IntKind}{b:Nat}(hb:w1.heap.size=b):MapAt q (w1.alloc (.map #[] 0)) b []:=by subst hb;exact MapAt.new w1
theorem map_alloc{q:IntKind}{b:Nat}{S:List (Int×Value)}(h:MapAt q w b S)(ob:Obj):MapAt q (w.alloc ob) b S:=h.frame (((Below.refl _ _).alloc (Nat.le_refl _) ob).block _ h.lt)
theorem SubM.start(w:World)(gb:Nat):SubM w ((((((w.alloc (.cells #[.int .i64 0] 3)).alloc (.cells #[.int .i64 0] 41)).alloc (.map #[] 0)).alloc (.map #[] 0)).alloc (.map #[] 0)).alloc (.cells #[.pointer (some ⟨gb,0,none⟩),.map (some (w.heap.size+1+1+1)),.map (some (w.heap.size+1+1+1+1))] 210)) gb
  (w.heap.size+1) (w.heap.size+1+1) (w.heap.size+1+1+1) (w.heap.size+1+1+1+1) (w.heap.size+1+1+1+1+1) [] [] []:=
 ⟨bel_al (bel_al (bel_al (bel_al (bel_al (bel_al (Below.refl _ _) _) _) _) _) _) _,((((((Part.made rfl).alloc _).alloc _).alloc _).alloc _).alloc _),(((((Part.made (by simp)).alloc _).alloc _).alloc _).alloc _),
  map_alloc (map_alloc (map_alloc (made_map (by simp)) _) _) _,map_alloc (map_alloc (made_map (by simp)) _) _,map_alloc (made_map (by simp)) _,Part.made (by simp),by omega,by omega,by omega,by omega,by omega⟩
end
section
variable {w:World} {B:Nat} {A:Nat->Prop} {gb mb:Nat} {nv:Value} {W:Nat} {L:List Nd}
set_option maxRecDepth 100000 in
set_option maxHeartbeats 8000000 in
theorem subst65(h:PG w B A gb mb nv W L)(hB:B<=w.heap.size)(h1:1<=W)(h2:W<=64)(t:Nat)(ht:t<L.length)(vs ts:List Nat){m:Nat}(hvl:vs.length=m)(htl:ts.length=m)(hm:m<=100)(hnd:vs.Nodup)(hts:∀s∈ts,s<L.length)
  {va ta:Option Addr}{c d:Nat}(hva:(Lay.int .i64).At 0 w va (intsN vs))(hta:(Lay.int .i64).At 0 w ta (intsN ts))(hsm:∀v∈vs,v<4194304)(σ:Nat->Option Nat)(occ:Nat->Bool)(hocc:∀j,occ j=true↔Occ L t j)
  (hσ:∀i,i<=t->occ i=true->(L.getD i default).op=1->lkS (varE vs ts) ((L.getD i default).num:Int)=(σ (L.getD i default).num).map λ s=>.int .i64 (s:Nat))
  (hroom:∀k,k<=t+1->(subN W σ L occ L k).2.length<=999)(hbl:∀k,k<=t->∀a,a<k->occ a=true->(subN W σ L occ L k).1.getD a 0<(subN W σ L occ L k).2.length):
  Calls Tryz.prog 65 #[.pointer (some ⟨gb,0,none⟩),.int .i64 t,.slice va m c,.slice ta m d] w (SimpPost w B A gb mb nv W ((subN W σ L occ L (t+1)).1.getD t 0,(subN W σ L occ L (t+1)).2)):=by
 have hg:=h.rv;obtain⟨na,ncap,rfl,hcl,hcm⟩:=h.slice;have c2:w.cell? ⟨gb,2,none⟩=some (.slice na L.length ncap):=by simp[World.cell?,h.blk]
 have hgl:=(h.lo gb (.inl rfl)).2;have HLEN:Hid (∀w',Below w.heap.size w w'->Calls Tryz.prog 59 #[.pointer (some ⟨gb,0,none⟩)] w' λ e w''=>e= .returned (.int .i64 L.length)/\w'=w''):=Z λ w' hb=>len58 gb L.length w' ((hb.cell (p:=⟨gb,2,none⟩) hgl).trans c2)
 have HRV:=Z hg;have HP:=Z h;have HVA:=Z hva;have HTA:=Z hta;have HVL:=Z hvl;have HTL:=Z htl;have HND:=Z hnd;have HTS:=Z hts;have HSM:=Z hsm;have HOC:=Z hocc;have HSI:=Z hσ;have HRO:=Z hroom;have HBL:=Z hbl;have hLL:=hroom 0 (by omega);have HLL:Hid (L.length<=999):=Z hLL;generalize hQ:SimpPost w B A gb mb (.slice na L.length ncap) W ((subN W σ L occ L (t+1)).1.getD t 0,(subN W σ L occ L (t+1)).2)=Q;have HQ:=Z hQ;have hti:(t:Int)<L.length:=by omega
 have ht9:(t:Int)<=999:=by have:=HLL.o;omega
 have hmi:(m:Int)<=100:=by omega
 clear hQ h hva hta hvl htl hnd hts hsm hocc hσ hroom hbl hg c2 hLL;have hmf:∀(fn:Fn) (first cap:Array Value) (w:World),(Instr.makeFunc fn first cap).run Tryz.prog w= .ok (.func fn first cap) w:=λ _ _ _ _=>rfl
 have hmm:=@run_makeMap Tryz.prog;have HL2:Hid (Calls Tryz.prog 59 #[.pointer (some ⟨gb,0,none⟩)] ((w.alloc (.cells #[.int .i64 0] 3)).alloc (.cells #[.int .i64 0] 41)) λ e w''=>e= .returned (.int .i64 L.length)/\((w.alloc (.cells #[.int .i64 0] 3)).alloc (.cells #[.int .i64 0] 41))=w''):=Z (HLEN.o _ (bel_al (bel_al (Below.refl _ _) _) _));have dt1:decide ((t:Int)<0)=false:=decide_eq_false (by omega);have dt2:decide (L.length<=t)=false:=decide_eq_false (by omega);have dt3:decide ((L.length:Int)<=t)=false:=decide_eq_false (by omega)
 go_enter_defers Tryz.func65,Tryz.ntmps65
 go_upto_region 9 with(go_at_call 59;refine HL2.o.mono ?_;rintro e w' ⟨rfl,rfl⟩)
 have HM0:=Z (SubM.start w gb);generalize((((((w.alloc (.cells #[.int .i64 0] 3)).alloc (.cells #[.int .i64 0] 41)).alloc (.map #[] 0)).alloc (.map #[] 0)).alloc (.map #[] 0)).alloc (.cells #[.pointer (some ⟨gb,0,none⟩),.map (some (w.heap.size+1+1+1)),.map (some (w.heap.size+1+1+1+1))] 210))=w6 at*;generalize w.heap.size+1+1+1+1+1=rb at*;generalize w.heap.size+1+1+1+1=vm at*;generalize w.heap.size+1+1+1=bm at*;generalize w.heap.size+1+1=sm at*;generalize w.heap.size+1=p9 at*;clear HL2 dt1 dt2 dt3
 go_wp2_with fail
 go_loopw [44] (λ i wr=>∃k:Nat,k<=m/\i= .int .i64 k/\Hid (SubM w wr gb p9 sm bm vm rb (seenE (vs.take k)) [] (varE (vs.take k) (ts.take k)))) (λ i _=>m-(intOf i).toNat)
 case atStart=>exact⟨0,by omega,rfl,HM0⟩
 case round=>
  obtain⟨k,hk,rfl,hsm⟩:=hrel;by_cases hlk:k<m
  ·obtain⟨ib,io,hva,hib,hi0⟩:=HVA.o.int (i:=k) (by simp[intsN,HVL.o];exact hlk);obtain⟨jb,jo,hta,hjb,hj0⟩:=HTA.o.int (i:=k) (by simp[intsN,HTL.o];exact hlk);have hvk:(intsN vs).getD k 0=((vs.getD k 0:Nat):Int):=intsN_getD _ _;have htk:(intsN ts).getD k 0=((ts.getD k 0:Nat):Int):=intsN_getD _ _;rw[hvk] at hi0;rw[htk] at hj0;have i0:=(hsm.o.bel.cell (p:=⟨ib,io+k,none⟩) hib).trans hi0;have j0:=(hsm.o.bel.cell (p:=⟨jb,jo+k,none⟩) hjb).trans hj0;have hvm:vs.getD k 0∈vs:=by rw[List.getD_eq_getElem?_getD,List.getElem?_eq_getElem (HVL.o.symm▸hlk)];exact List.getElem_mem _
   have htm:ts.getD k 0∈ts:=by rw[List.getD_eq_getElem?_getD,List.getElem?_eq_getElem (HTL.o.symm▸hlk)];exact List.getElem_mem _
   have hfresh:vs.getD k 0∉vs.take k:=by
    intro hm;have:=HND.o;rw[<-List.take_append_drop k vs] at this;have hd:vs.getD k 0∈vs.drop k:=by
     rw[List.drop_eq_getElem_cons (HVL.o.symm▸hlk),List.getD_eq_getElem?_getD,List.getElem?_eq_getElem (HVL.o.symm▸hlk)];exact List.mem_cons_self ..
    exact(List.nodup_append.1 this).2.2 _ hm _ hd rfl
   have HS1:=Z (seenE_none hfresh);have HS2:=Z (varE_none (r:=ts.take k) hfresh);have HSN:=Z (show seenE (vs.take (k+1))=seenE (vs.take k)++[(((vs.getD k 0:Nat):Int),Value.bool true)] by rw[take_snoc' 0 vs (HVL.o.symm▸hlk),seenE_snoc]);have HVN:=Z (show varE (vs.take (k+1)) (ts.take (k+1))=varE (vs.take k) (ts.take k)++[(((vs.getD k 0:Nat):Int),Value.int .i64 (ts.getD k 0:Nat))] by
    rw[take_snoc' 0 vs (HVL.o.symm▸hlk),take_snoc' 0 ts (HTL.o.symm▸hlk),varE_snoc (by simp[HVL.o,HTL.o])])
   have hv22:=HSM.o _ hvm;have htl:((ts.getD k 0:Nat):Int)<L.length:=by have:=HTS.o _ htm;omega
   have hki:(k:Int)<m:=by omega
   have HJ:Hid (∀w':World,Below w.heap.size w w'->w'.cell? ⟨jb,jo+k,none⟩=some (.int .i64 (ts.getD k 0:Nat))):=Z λ w' hb=>(hb.cell (p:=⟨jb,jo+k,none⟩) hjb).trans hj0
   clear hvk htk hi0 hj0 hvm htm hfresh hib hjb;generalize vs.getD k 0=v at*;generalize ts.getD k 0=s at*;subst hva hta;have HM1:=Z hsm.o.m1
   go_upto_region 14 with(refine wp_look1 mt205 rfl _ _ rfl rfl HM1.o rfl ?_;rw[HS1.o];simp only[Option.getD_none])
   go_simp
   go_cut[65] from 45 to 80 (λ x wx=>x= .bool false/\∃n,wx=wr.drewN n)
   case first=>
    have HLQ:Hid (∀q,Calls Tryz.prog 59 #[.pointer (some ⟨gb,0,none⟩)] (wr.drewN q) λ e w''=>e= .returned (.int .i64 L.length)/\∃k,w''=wr.drewN k):=Z λ q=>(HLEN.o _ (below_drewN hsm.o.bel q)).mono λ e w'' h=>⟨h.1,q,h.2.symm⟩
    have d1:decide ((s:Int)<0)=false:=decide_eq_false (by omega);have d2:decide (L.length<=s)=false:=decide_eq_false (by omega)
    go_quiet((go_at_call 59;exact HLQ.o _))
    go_wp2_with fail
    go_meet
    exact⟨by first|rfl|exact congrArg Value.bool d2,_,rfl⟩
   case rest=>
    obtain⟨rfl,q,rfl⟩:=hcut;have HSM2:=Z (hsm.o.keep (below_drewN (Below.refl _ _) q));have hvz:decide (0<=(v:Int))=true:=decide_eq_true (by omega);have hcv:IntKind.u64.wrap (v:Int)=v:=wrap_u v (by omega);clear i0 j0 hsm HM1;generalize wr.drewN q=w2 at*
    go_upto_region 18 with(refine wp_put mt205 rfl _ _ _ rfl rfl HSM2.o.m1 rfl HS1.o rfl ?_;intro w3 hm3 hs3 hk3 e1 e2 e3)
    have HSM3:=Z (HSM2.o.put1 (S:=seenE (vs.take (k+1))) (by rw[HSN.o];exact hm3) hs3 hk3 e1 e2 e3);clear hm3 hs3 hk3 e1 e2 e3 HSM2;have HSM4:=Z (HSM3.o.keep (Below.refl _ _).drew);have x2:=(HSM4.o.rp.at_ 2 _ rfl).1;have x2':=(HSM3.o.rp.at_ 2 _ rfl).1;have j1:=HJ.o _ HSM4.o.bel;have j2:=HJ.o _ HSM3.o.bel;go_simp
    go_still_tail 10,(by kernel_rfl)
    change wpList _ _ _ _ _ w3.drew
    clear x2' j2 HSM3;generalize w3.drew=w4 at*
    go_wp2_with(refine wp_put mt208 rfl _ _ _ rfl rfl HSM4.o.mV rfl HS2.o rfl ?_;intro w5 hm5 hs5 hk5 e1 e2 e3;have HSM5:=Z (HSM4.o.putV (S:=varE (vs.take (k+1)) (ts.take (k+1))) (by rw[HVN.o];exact hm5) hs5 hk5 e1 e2 e3);clear hm5 hs5 hk5 e1 e2 e3)
    go_roundw
    case rel=>first|exact⟨k+1,by omega,by go_num,HSM5⟩|((repeat apply Exists.intro);exact⟨⟨k+1,by omega,by go_num,HSM5⟩,rfl⟩)
    case measure=>simp[intOf];omega
  ·obtain rfl:k=m:=by omega
   have e1:vs.take k=vs:=by rw[<-HVL.o,List.take_length]
   have e2:ts.take k=ts:=by rw[<-HTL.o,List.take_length]
   rw[e1,e2] at hsm;clear e1 e2;have hHSM:=Z hsm.o;clear hsm HVA HTA HND HTS HSM;have ht1:(0:Int)<=t:=by omega
   go_upto_region 22 with(refine make_lay Tryz.elemB false rfl rfl _ _ rfl wr.heap.size (t+1) _ rfl rfl (by omega) (by omega) wr.heap.size rfl (Nat.le_refl _) ?_;intro wO hoO hbO)
   have HSMO:=Z (hHSM.o.keep hbO);obtain⟨o1,o2,hfz⟩:=hoO.put1 rfl List.length_replicate (x:=true) (u:=.bool true) rfl t;have hcl:=boolCell hoO (t:=t) (by rw[List.length_replicate];omega);have HO1:=Z o1;have hbel:=hHSM.o.bel.size;have hord:=hHSM.o.ord;have hrl:=hHSM.o.rp.lt;have hHSM1:SubM w (wO.setCell ⟨wr.heap.size,t,none⟩ (.bool true)) gb p9 sm bm vm rb (seenE vs) [] (varE vs ts):=hHSM.o.keep ((hbO.setCell (p:=⟨wr.heap.size,t,none⟩) (Nat.le_refl _) _));have HSM1:=Z hHSM1;have HG:=Z o2;have hti2:(t:Int)<((t+1:Nat):Int):=by omega
   go_simp
   go_upto_region 23 with fail
   generalize hnb:wr.heap.size=nb at*;have HO2:=HO1;clear hbO hoO HSMO hHSM hHSM1 hcl hfz o1 o2 HG HO1;generalize wO.setCell ⟨nb,t,none⟩ (.bool true)=w2 at*
   go_upto_region 24 with(refine make_lay Tryz.elemN (0,0,(none,0,0)) rfl rfl _ _ rfl w2.heap.size (t+1) _ rfl rfl (by omega) (by omega) w2.heap.size rfl (Nat.le_refl _) ?_;intro wN hoN hbN)
   have HSMN:=Z (HSM1.o.keep hbN);have hnbl:=(HO2.o.lt nb rfl).2;have HON:=Z (HO2.o.grown hbN);have hbw:=HSM1.o.bel.size;have hlN:=(hoN.lt w2.heap.size rfl).2;have hrb:rb<nb:=by rw[<-hnb] at*;exact hrl
   have HNS:Hid (NeedS wN L t nb w2.heap.size w2.heap.size (t+1) (t+1) ((List.replicate (t+1) false).set t true) (List.replicate (t+1) (0,0,(none,0,0)))):=Z (NeedS.start (by simp) (by simp) HON.o hoN (by omega)
    (getD_set_same _ _ _ _ (by simp)) (λ j hj=>by
      by_cases e:t=j
      ·exact e.symm
      ·rw[getD_set_ne _ _ _ _ _ e] at hj;rw[List.getD_eq_getElem?_getD,List.getElem?_replicate] at hj
       split at hj<;>cases hj))
   have hgnb:nb<w2.heap.size:=hnbl;clear hoN HON HO2 hbN HSM1 hnb hlN hbw hnbl;generalize w2.heap.size=g at*
   go_wp2_with fail
   go_loopw [16] (λ i wi=>∃(x:Int) (q:Nat) (N:List Bool) (NH:List NdH),i= .int .i64 x/\Hid (x=(q:Int)-1)/\q<=t+1/\Hid (NeedS wi L t nb g g (t+1) q N NH)/\Hid (SubM w wi gb p9 sm bm vm rb (seenE vs) [] (varE vs ts))) (λ i _=>(intOf i+1).toNat)
   case atStart=>exact⟨_,t+1,_,_,rfl,Z (by omega),Nat.le_refl _,HNS,HSMN⟩
   case round=>
    clear HNS HSMN;obtain⟨x,q,N,NH,rfl,hx,hqn,hns,hsm⟩:=hrel;have HRVi:=Z (HRV.o.below hsm.o.bel);cases q with
    |zero=>
     obtain rfl:x= -1:=by have:=hx.o;omega
     clear hx;have hns0:=hns.o;have hsm0:=hsm.o;have HSC:Hid (SubC w wr A gb mb bm (.slice na L.length ncap)):=Z ⟨λ b m=>(HP.o.lo b m).2,λ b a=>(HP.o.ar b a).2.1,by omega,hsm0.mB.lt⟩;have HK0:=Z (SubK.start (w:=w) (HP.o.below hsm0.bel) hsm0.mB);have HNO:Hid (∀j,N.getD j false=occ j):=Z λ j=>by
      have h1:=hns0.occ j;have h2:=HOC.o j;cases h3:N.getD j false with
      |true=>exact(h2.2 (h1.1 h3)).symm
      |false=>
       cases h4:occ j with
       |false=>rfl
       |true=>rw[h1.2 (h2.1 h4)] at h3;cases h3
     have HNS:=Z hns0;have HSM4:=Z hsm0;have HBW:=Z hsm0.bel;clear hns hsm hns0 hsm0 HRVi;generalize wr=w4 at*;have hg4:=(HNS.o.nds.lt g rfl).2;have hnb4:=(HNS.o.own.lt nb rfl).2
     go_wp2_with fail
     go_loopw [125] (λ i wi=>∃(k:Nat) (nvk:Value) (A':Nat->Prop),k<=t+1/\i= .int .i64 k/\Hid (SubK w w4 wi B A gb mb bm (.slice na L.length ncap) nvk A' W (subN W σ L occ L k).2 (becE occ (subN W σ L occ L k).1 k))) (λ i _=>t+1-(intOf i).toNat)
     case atStart=>exact⟨0,_,_,by omega,rfl,HK0⟩
     case round=>
      clear HK0;obtain⟨j,nvk,A',hj,rfl,hk⟩:=hrel;have HSAME:Hid (∀b,w.heap.size<=b->b<w4.heap.size->b≠bm->wr.heap[b]? =w4.heap[b]?):=Z λ b h1 h2 h3=>hk.o.same HSC.o h1 h2 h3
      by_cases hjt:j<t+1
      ·have cb:=boolCell HNS.o.own (t:=j) (by rw[HNS.o.len];exact hjt);rw[HNO.o] at cb;have cb':=(World.cell?_of_block (a:=⟨nb,j,none⟩) (HSAME.o nb (by omega) hnb4 (by omega))).trans cb;obtain⟨c0,c1,c2⟩:=ndCells HNS.o.nds (t:=j) (by rw[HNS.o.hlen];exact hjt);have c0':=(World.cell?_of_block (a:=⟨g,j*3,none⟩) (HSAME.o g (by omega) hg4 (by omega))).trans c0;have c1':=(World.cell?_of_block (a:=⟨g,j*3+1,none⟩) (HSAME.o g (by omega) hg4 (by omega))).trans c1;have c2':=(World.cell?_of_block (a:=⟨g,j*3+2,none⟩) (HSAME.o g (by omega) hg4 (by omega))).trans c2;have hji:(j:Int)<((t+1:Nat):Int):=by omega
       have HBC:Hid (becE occ (subN W σ L occ L (j+1)).1 j=becE occ (subN W σ L occ L j).1 j):=Z (becE_congr j λ i hi=>subN_prev j i hi);clear c0 c1 c2 cb;have hne0:=HNS.o.heads j (Nat.zero_le _) hjt;generalize NH.getD j nd0=nh at*;obtain⟨op',num',ha,al,hc⟩:=nh;simp only at c0' c1' c2';have cbA:=cell_alloc cb' (.cells #[.int .u8 op',.int .u64 num',.slice ha al hc] 148);cases ho:occ j with
       |false=>
        rw[ho] at cb' cbA;have HNX:=Z (subN_no (W:=W) (σ:=σ) (N:=L) (L:=L) ho);have HB1:Hid (becE occ (subN W σ L occ L (j+1)).1 (j+1)=becE occ (subN W σ L occ L j).1 j):=Z (by
         show(if occ j then _ else becE occ (subN W σ L occ L (j+1)).1 j)=_;rw[if_neg (by rw[ho];decide),HBC.o])
        have HKA:=Z (hk.o.keep ((Below.refl _ _).alloc (Nat.le_refl _) (.cells #[.int .u8 op',.int .u64 num',.slice ha al hc] 148)));clear hne0 ho
        go_upto_region 37 with fail
        generalize wr.alloc (.cells #[.int .u8 op',.int .u64 num',.slice ha al hc] 148)=wA at*
        go_wp2_with fail
        go_roundw
        case rel=>exact⟨j+1,nvk,A',by omega,by go_num,Z (by rw[HNX.o,HB1.o];exact HKA.o)⟩
        case measure=>simp[intOf];omega
       |true=>
        rw[ho] at cb' cbA;obtain⟨e1,e2,e3,hatA,hblk⟩:=hne0 (by rw[HNO.o];exact ho);have hjL:j<L.length:=by omega
        have HOKJ:=Z (HRV.o.ok j hjL);have HCL:=Z (HNS.o.closed j (Nat.zero_le _) hjt (by rw[HNO.o];exact ho));have HYES:=Z (subN_yes (W:=W) (σ:=σ) (N:=L) (L:=L) ho);have HB1:Hid (becE occ (subN W σ L occ L (j+1)).1 (j+1)=becE occ (subN W σ L occ L j).1 j++[((j:Int),.int .i64 ((becM W σ (subN W σ L occ L j).1 j (L.getD j default) (subN W σ L occ L j).2).1:Nat))]):=Z (by
         show(if occ j then _ else _)=_;rw[if_pos ho,HBC.o,HYES.o.1])
        have HSIJ:=Z (HSI.o j (by omega) ho);clear hne0;rcases hn:L.getD j default with⟨op,num,args⟩
        rw[hn] at e1 e2 e3 hatA HOKJ HCL HYES HB1 HSIJ;simp only at e1 e2 e3 hatA hblk HCL HSIJ;subst e1 e2 e3;clear hn ho;have HPGW:=Z hk.o.pg;have hxbm:bm<wr.heap.size:=hk.o.map.lt;have hba:Below wr.heap.size wr (wr.alloc (.cells #[.int .u8 op',.int .u64 num',.slice ha args.length hc] 148)):=(Below.refl _ _).alloc (Nat.le_refl _) _;have HKA:=Z (hk.o.keep hba);have hKD:SubK w w4 (wr.alloc (.cells #[.int .u8 op',.int .u64 num',.slice ha args.length hc] 148)).drew B A gb mb bm (.slice na L.length ncap) nvk A' W (subN W σ L occ L j).2 (becE occ (subN W σ L occ L j).1 j):=hk.o.keep hba.drew;have HKD:=Z hKD;clear hKD hba;have hrp:∀i v,[Value.pointer (some ⟨gb,0,none⟩),.map (some bm),.map (some vm)][i]? =some v->(wr.alloc (.cells #[.int .u8 op',.int .u64 num',.slice ha args.length hc] 148)).cell? ⟨rb,i,none⟩=some v:=λ i v e=>cell_alloc ((World.cell?_of_block (a:=⟨rb,i,none⟩) (HSAME.o rb (by omega) HSM4.o.rp.lt (by omega))).trans (HSM4.o.rp.at_ i v e).1) _
        have p0:=hrp 0 _ rfl;have p1:=hrp 1 _ rfl;have p2:=hrp 2 _ rfl;have HVA2:Hid (MapAt .u64 (wr.alloc (.cells #[.int .u8 op',.int .u64 num',.slice ha args.length hc] 148)) vm (varE vs ts)):=Z (map_alloc (HSM4.o.mV.frame (HSAME.o vm (by omega) HSM4.o.mV.lt (by omega))) _);have HAT2:Hid ((Lay.int .i64).At 0 (wr.alloc (.cells #[.int .u8 op',.int .u64 num',.slice ha args.length hc] 148)) ha (intsN args)):=Z
         ((At.keep hatA hk.o.fr.2.2.2 (λ ad e hl=>HSAME.o _ (by have:=hblk ad e;omega) hl (by have:=hblk ad e;omega))).below ((Below.refl _ _).alloc (Nat.le_refl _) _))
        have HNB:=Z (hk.o.not HSC.o (b:=bm) (by omega) HSC.o.b2);have HRBL:Hid (rb<(wr.alloc (.cells #[.int .u8 op',.int .u64 num',.slice ha args.length hc] 148)).heap.size):=Z (World.block_lt_of_cell? _ _ p0);have HNM:=Z (hk.o.not HSC.o (b:=rb) (by omega) HSM4.o.rp.lt);have hbx:wr.heap.size<(wr.alloc (.cells #[.int .u8 op',.int .u64 num',.slice ha args.length hc] 148)).heap.size:=by simp
        have q0:(wr.alloc (.cells #[.int .u8 op',.int .u64 num',.slice ha args.length hc] 148)).cell? ⟨wr.heap.size,0,none⟩=some (.int .u8 op'):=by rw[World.cell?_alloc_new];rfl
        have q1:(wr.alloc (.cells #[.int .u8 op',.int .u64 num',.slice ha args.length hc] 148)).cell? ⟨wr.heap.size,1,none⟩=some (.int .u64 num'):=by rw[World.cell?_alloc_new];rfl
        have q2:(wr.alloc (.cells #[.int .u8 op',.int .u64 num',.slice ha args.length hc] 148)).cell? ⟨wr.heap.size,2,none⟩=some (.slice ha args.length hc):=by rw[World.cell?_alloc_new];rfl
        clear hatA hrp hk cb'
        go_upto_region 37 with fail
        generalize wr.alloc (.cells #[.int .u8 op',.int .u64 num',.slice ha args.length hc] 148)=wA at*;have HOCA:Hid (∀a∈args,occ a=true):=Z λ a ha=>by rw[<-HNO.o];exact HCL.o a ha
        have HND:=Z (node101 (w:=wA.drew) HKD.o.pg (by have:=HKD.o.fr.2.2.2;have:=HBW.o.size;show B<=wA.heap.size;exact Nat.le_trans hB (Nat.le_trans (by assumption) (by assumption))) (HRO.o j (by omega)) h1 h2 HRBL.o HNM.o p0 p1 p2 HKD.o.map (HVA2.o.frame rfl) j ⟨op',num',args⟩ HOKJ.o.1 HOKJ.o.2.2.2.2.1 (hc:=hc) (HAT2.o.below (Below.refl _ _).drew) (subN W σ L occ L j).1
         (λ a ha=>⟨by rw[lk_becE,if_pos ⟨HOKJ.o.2.2.2.2.2.2 a ha,HOCA.o a ha⟩],HBL.o j (by omega) a (HOKJ.o.2.2.2.2.2.2 a ha) (HOCA.o a ha)⟩) σ HSIJ.o)
        have HNONE:Hid (lkS (becE occ (subN W σ L occ L j).1 j) (j:Int)=none):=Z (by rw[lk_becE,if_neg (by omega)])
        go_upto_region 38 with fail
        have p1':wA.drew.cell? ⟨rb,1,none⟩=some (.map (some bm)):=p1;have q0':wA.drew.cell? ⟨wr.heap.size,0,none⟩=some (.int .u8 op'):=q0;have q1':wA.drew.cell? ⟨wr.heap.size,1,none⟩=some (.int .u64 num'):=q1;have q2':wA.drew.cell? ⟨wr.heap.size,2,none⟩=some (.slice ha args.length hc):=q2;have HXL:=Z hbx;have HNX2:Hid (¬MutB gb (some mb) nvk wr.heap.size):=Z λ m=>by have:=(HPGW.o.lo _ m).2;omega
        generalize hxb:wr.heap.size=xb at*;have nrb:bm≠rb:=by omega
        have nxb:bm≠xb:=by omega
        go_region_held3(λ w'=>w'.cell? ⟨rb,1,none⟩=some (.map (some bm))/\w'.cell? ⟨xb,0,none⟩=some (.int .u8 op')/\w'.cell? ⟨xb,1,none⟩=some (.int .u64 num')/\w'.cell? ⟨xb,2,none⟩=some (.slice ha args.length hc))
         (first|exact⟨p1,q0,q1,q2⟩|exact⟨p1',q0',q1',q2'⟩|exact KE.o|exact KF.o)
         (first
           |(go_at_call 101
             refine HND.o.mono ?_;rintro e wE ⟨nv',A2,rfl,r1,r2,r3,r4⟩;have H1:=Z r1;have H2:=Z r2;have H3:=Z r3;have H4:=Z r4;have kr:=r3.block rb HRBL.o HNM.o;have kx:=r3.block xb HXL.o HNX2.o;have KE:Hid (wE.cell? ⟨rb,1,none⟩=some (.map (some bm))/\wE.cell? ⟨xb,0,none⟩=some (.int .u8 op')/\wE.cell? ⟨xb,1,none⟩=some (.int .u64 num')/\wE.cell? ⟨xb,2,none⟩=some (.slice ha args.length hc)):=Z
              ⟨(World.cell?_of_block (a:=⟨rb,1,none⟩) kr).trans p1',(World.cell?_of_block (a:=⟨xb,0,none⟩) kx).trans q0',(World.cell?_of_block (a:=⟨xb,1,none⟩) kx).trans q1',(World.cell?_of_block (a:=⟨xb,2,none⟩) kx).trans q2'⟩
             have hme:MapAt .i64 wE bm (becE occ (subN W σ L occ L j).1 j):=HKD.o.map.frame (r3.block bm HKD.o.map.lt HNB.o);obtain⟨ob,hup,hS⟩:=hme.update mt207 HNONE.o (.int .i64 ((becM W σ (subN W σ L occ L j).1 j ⟨op',num',args⟩ (subN W σ L occ L j).2).1:Nat));have HUS:=Z hS;have KF:Hid (({wE with heap:=wE.heap.setIfInBounds bm ob}:World).cell? ⟨rb,1,none⟩=some (.map (some bm))/\({wE with heap:=wE.heap.setIfInBounds bm ob}:World).cell? ⟨xb,0,none⟩=some (.int .u8 op')/\({wE with heap:=wE.heap.setIfInBounds bm ob}:World).cell? ⟨xb,1,none⟩=some (.int .u64 num')/\({wE with heap:=wE.heap.setIfInBounds bm ob}:World).cell? ⟨xb,2,none⟩=some (.slice ha args.length hc)):=Z
              ⟨(World.cell?_of_block (w:=wE) (a:=⟨rb,1,none⟩) (Array.getElem?_setIfInBounds_ne nrb)).trans KE.o.1,(World.cell?_of_block (w:=wE) (a:=⟨xb,0,none⟩) (Array.getElem?_setIfInBounds_ne nxb)).trans KE.o.2.1,(World.cell?_of_block (w:=wE) (a:=⟨xb,1,none⟩) (Array.getElem?_setIfInBounds_ne nxb)).trans KE.o.2.2.1,(World.cell?_of_block (w:=wE) (a:=⟨xb,2,none⟩) (Array.getElem?_setIfInBounds_ne nxb)).trans KE.o.2.2.2⟩
             clear r1 r2 r3 r4 kr kx hme hS))
        have HST:=Z (HKD.o.step HSC.o H1.o H2.o H3.o H4.o (w'':={wE with heap:=wE.heap.setIfInBounds bm ob}) (HUS.o _ rfl) (by simp) (λ k hk=>Array.getElem?_setIfInBounds_ne (Ne.symm hk)) rfl rfl rfl)
        go_wp2_with fail
        go_roundw
        case rel=>exact⟨j+1,nv',_,by omega,by go_num,Z (by rw[HYES.o.2,HB1.o];exact HST.o)⟩
        case measure=>simp[intOf];omega
      ·obtain rfl:j=t+1:=by omega
       have HOT:Hid (occ t=true):=Z ((HOC.o t).2 .top);have HLK:Hid (lkS (becE occ (subN W σ L occ L (t+1)).1 (t+1)) (t:Int)=some (.int .i64 ((subN W σ L occ L (t+1)).1.getD t 0:Nat))):=Z (by rw[lk_becE,if_pos ⟨by omega,HOT.o⟩]);have h8:=HSM4.o.r8.frame hk.o.fr.2.2.2 (HSAME.o _ (Nat.le_refl _) HSM4.o.r8.lt (by omega));have h9:=HSM4.o.r9.frame hk.o.fr.2.2.2 (HSAME.o _ (by omega) HSM4.o.r9.lt (by omega));obtain⟨a0,a1⟩:=h8.at_ 0 _ rfl;obtain⟨b0,b1⟩:=h9.at_ 0 _ rfl;have p1:=(World.cell?_of_block (a:=⟨rb,1,none⟩) (HSAME.o rb (by omega) HSM4.o.rp.lt (by omega))).trans (HSM4.o.rp.at_ 1 _ rfl).1;have hp9:¬w.heap.size=p9:=by omega
       have hp9':¬p9=w.heap.size:=by omega
       have HPOST:=Z (hk.o.post2 HSC.o HBW.o ((subN W σ L occ L (t+1)).1.getD t 0) (p8:=w.heap.size) (p9:=p9) ⟨Nat.le_refl _,HSM4.o.r8.lt⟩ ⟨by omega,HSM4.o.r9.lt⟩ (.int .i64 ((subN W σ L occ L (t+1)).1.getD t 0:Nat)) (.int .i64 0));have HMK:=Z hk.o.map;rw[HQ.o] at HPOST;clear hk HSAME h8 h9;generalize(subN W σ L occ L (t+1)).1.getD t 0=rt at*
       go_wp2_with(refine wp_look1 mt207 rfl _ _ rfl rfl HMK.o rfl ?_;rw[HLK.o];simp only[Option.getD_some])
       have ra:((wr.setCell ⟨w.heap.size,0,none⟩ (.int .i64 (rt:Nat))).setCell ⟨p9,0,none⟩ (.int .i64 0)).cell? ⟨w.heap.size,0,none⟩=some (.int .i64 (rt:Nat)):=cell_set hp9 (set_same a0);have rb':((wr.setCell ⟨w.heap.size,0,none⟩ (.int .i64 (rt:Nat))).setCell ⟨p9,0,none⟩ (.int .i64 0)).cell? ⟨p9,0,none⟩=some (.int .i64 0):=set_same (cell_set hp9' b0);generalize(wr.setCell ⟨w.heap.size,0,none⟩ (.int .i64 (rt:Nat))).setCell ⟨p9,0,none⟩ (.int .i64 0)=wz at*;refine leaves_cons (f:=100) (args:=#[.pointer (some ⟨w.heap.size,0,none⟩),.pointer (some ⟨p9,0,none⟩)]) (by simp) (by simp[go_sem]) ?_;refine(catch100 ⟨w.heap.size,0,none⟩ ⟨p9,0,none⟩ _).mono ?_;rintro e u' w'' ⟨rfl,rfl,rfl⟩;simp[Leaves,settle,results,Tryz.results65,go_sem,ra,rb',Result.andThen];exact HPOST.o
    |succ q=>
     obtain rfl:x=(q:Int):=by have:=hx.o;omega
     clear hx;have hq:q<t+1:=by omega
     have hqi:(q:Int)<((t+1:Nat):Int):=by omega
     have cb:=boolCell hns.o.own (t:=q) (by rw[hns.o.len];exact hq);cases hNt:N.getD q false with
     |false=>
      rw[hNt] at cb;have HSK:=Z (hns.o.skip hNt);clear hNt hns
      go_wp2_with fail
      go_roundw
      case rel=>exact⟨(q:Int)-1,q,N,NH,by go_num,Z rfl,by omega,HSK,hsm⟩
      case measure=>simp[intOf]<;>omega
     |true=>
      rw[hNt] at cb;have HNt:=Z hNt;have hqL:q<L.length:=by omega
      have HARG:Hid (∀a∈(L.getD q default).args,a<q):=Z (HRV.o.ok q hqL).2.2.2.2.2.2;have HNODE:=Z (node75 HRVi.o q hqL);have HAL:Hid ((L.getD q default).args.length<=2):=Z (by have:=HRV.o.ok q hqL;have h5:=this.2.2.2.2.1;have h6:=this.1;rw[h5];simp only[arN];(repeat' split)<;>omega);have HGI:=Z (hns.o.nds.lt g rfl).2;clear hNt;rcases hn:L.getD q default with⟨op,num,args⟩
      rw[hn] at HNODE HARG HAL;simp only at HNODE HARG HAL;have hal2:=HAL.o;have HN:=Z hn;clear hn
      go_wp2_with(first
       |(go_at_call 71
         refine HNODE.o.mono ?_;rintro e wB ⟨ha,hc,rfl,hatB,hbB,hB⟩;have HX:Hid (HeadAt wB g (op,num,(ha,args.length,hc)) (L.getD q default)):=Z (by rw[HN.o];exact⟨rfl,rfl,rfl,hatB,λ ad e=>Nat.lt_of_lt_of_le HGI.o (hbB ad e)⟩);have HNPB:=Z (hns.o.below hB);have HSMB:=Z (hsm.o.keep hB);clear hatB hbB hB)
       |(refine store_nd rfl _ _ rfl HNPB.o.nds HNPB.o.hlen (op,num,(ha,args.length,hc)) q hq _ rfl rfl rfl ?_
         intro w5 ho5 hg5;have cA:w5.cell? ⟨g,q*3+2,none⟩=some (.slice ha args.length hc):=by
          have:=(ndCells ho5 (t:=q) (by rw[List.length_set,HNPB.o.hlen];exact hq)).2.2;rw[getD_set_same _ _ _ _ (by rw[HNPB.o.hlen];exact hq)] at this;exact this
         have HMP:=Z (HNPB.o.copy hq HNt.o HX.o ho5 hg5);have HHA:Hid ((NH.set q (op,num,(ha,args.length,hc))).getD q nd0=(op,num,(ha,args.length,hc))):=Z (getD_set_same _ _ _ _ (by rw[HNPB.o.hlen];exact hq));have HSM5:=Z (HSMB.o.grown hg5 (by omega));clear ho5 hg5))
      generalize NH.set q (op,num,(ha,args.length,hc))=NH2 at*
      go_loopw [115] (λ i wj=>∃(j:Nat) (N2:List Bool),j<=args.length/\i= .int .i64 j/\Hid (MarkS wj L t nb g g (t+1) q j N2 NH2)/\Hid (SubM w wj gb p9 sm bm vm rb (seenE vs) [] (varE vs ts))) (λ i _=>args.length-(intOf i).toNat)
      case atStart=>exact⟨0,N,by omega,rfl,HMP,HSM5⟩
      case round=>
       clear HMP HSM5;obtain⟨j,N2,hj,rfl,hmp,hsj⟩:=hrel;by_cases hja:j<args.length
       ·have hhd:=(hmp.o.heads q (Nat.le_refl _) hq hmp.o.here).2.2.2.1;rw[HHA.o,HN.o] at hhd;obtain⟨ib,io,rfl,hib,i0⟩:=hhd.int (i:=j) (by rw[intsN_len];exact hja);rw[intsN_getD] at i0;have hxt:=HARG.o (args.getD j 0) (by rw[List.getD_eq_getElem?_getD,List.getElem?_eq_getElem hja];exact List.getElem_mem hja);have HXE:Hid ((L.getD q default).args.getD j 0=args.getD j 0):=Z (by rw[HN.o]);have HJL:Hid (j<(L.getD q default).args.length):=Z (by rw[HN.o];exact hja);clear hhd;generalize args.getD j 0=y at*;obtain⟨o1,o2,hfz⟩:=hmp.o.own.put1 rfl hmp.o.len (x:=true) (u:=.bool true) rfl y;have hcl2:=boolCell hmp.o.own (t:=y) (by rw[hmp.o.len];omega);have HM2:=Z (hmp.o.mark hq HXE.o hxt HJL.o o1 o2);have HS7:=Z (hsj.o.grown o2 hrl);have hji:(j:Int)<args.length:=by omega
        have hyi:(y:Int)<((t+1:Nat):Int):=by omega
        clear o1 o2
        go_wp2_with fail
        go_roundw
        case rel=>exact⟨j+1,N2.set y true,by omega,by go_num,HM2,HS7⟩
        case measure=>simp[intOf];omega
       ·obtain rfl:j=args.length:=by omega
        have HD:=hmp.o;rw[show args.length=(L.getD q default).args.length by rw[HN.o]] at HD;have HD2:=Z HD.done;clear HD
        go_wp2_with fail
        go_roundw
        case rel=>exact⟨(q:Int)-1,q,N2,NH2,by go_num,Z rfl,by omega,HD2,hsj⟩
        case measure=>simp[intOf]<;>omega
end
end Go.Proofs.YtgdpkkjfcdhmdaaGreatDoor
