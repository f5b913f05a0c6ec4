/- The value of the term of Leak is not 0 exactly if the two paths leak, for every case and all values: no condition beside those of the statement and the laid variables that it ties. -/
import Derived.Test.YtgdpkkjfcdhmdaaGreatDoorR52
import Derived.Test.YtgdpkkjfcdhmdaaGreatDoorR6
import Derived.Test.YtgdpkkjfcdhmdaaGreatDoorR25
set_option maxRecDepth 100000
namespace Go.Proofs.YtgdpkkjfcdhmdaaGreatDoor
open Go Go.RowKit
theorem FT{w:World}(h:Cr.Laid w):Tab w:=by obtain⟨b,e,f,j,k⟩:=h.bits;intro i a;have c:w.cell? ⟨2,i,none⟩=b[i]? :=by{simp[World.cell?,j]};rw[c,k i a];have d:(List.range 32).map (λ i=>Cr.dbr[i]?)=(List.range 32).map (λ i=>some (Value.int .u8 (Lib.deBruijn32tab.getD i 0))):=by{kernel_rfl};have g:=congrArg (λ l=>l[i]?) d;simpa[List.getElem?_map,List.getElem?_range a] using g
theorem FU{w:World}(h:Cr.Laid w):w.cell? ⟨0,0,none⟩=some (.func (Fn.func 209) #[] #[])/\w.cell? ⟨0,1,none⟩=some (.func (Fn.func 210) #[] #[]):=by obtain⟨c,e,f,d,b⟩:=h.compare;have a:∀i,w.cell? ⟨0,i,none⟩=c[i]? :=λ i=>by{simp[World.cell?,d]};exact⟨(a 0).trans ((b 0 (by decide)).trans rfl),(a 1).trans ((b 1 (by decide)).trans rfl)⟩
theorem FW{w a:World}{l:List Value}{t:TypeId}(h:w.alloc (.cells l.toArray t)=a):Below w.heap.size w a/\Hid (fH a w.heap.size l)/\a.rangeAt w.heap.size 0 l/\w.heap.size<a.heap.size:=by subst h;exact⟨(A6 _ _).alloc (A8 _) _,Z (fH.new _ _ _),λ j v h=>by rw[AJ,Ah];simpa using h,by simp⟩
theorem fH.get19{w:World}{b c:Nat}{a0 a1 a2 a3 a4 a5 a6 a7 a8 a9 a10 a11 a12 a13 a14 a15 a16 a17 a18 a19 a20 a21 b0 b1 b2 b3:Value}(h:fH w b [a0,a1,a2,a3,a4,a5,a6,a7,a8,a9,a10,a11,a12,a13,a14,a15,a16,a17,a18,a19,a20,a21])(k:fH w c [b0,b1,b2,b3]):w.cell? ⟨b,7,none⟩=some a7/\w.cell? ⟨b,8,none⟩=some a8/\w.cell? ⟨b,9,none⟩=some a9/\w.cell? ⟨b,10,none⟩=some a10/\w.cell? ⟨b,11,none⟩=some a11/\w.cell? ⟨b,12,none⟩=some a12/\w.cell? ⟨b,13,none⟩=some a13/\w.cell? ⟨b,14,none⟩=some a14/\w.cell? ⟨b,15,none⟩=some a15/\w.cell? ⟨b,16,none⟩=some a16/\w.cell? ⟨b,17,none⟩=some a17/\w.cell? ⟨b,18,none⟩=some a18/\w.cell? ⟨b,19,none⟩=some a19/\w.cell? ⟨b,20,none⟩=some a20/\w.cell? ⟨b,21,none⟩=some a21/\w.cell? ⟨c,0,none⟩=some b0/\w.cell? ⟨c,1,none⟩=some b1/\w.cell? ⟨c,2,none⟩=some b2/\w.cell? ⟨c,3,none⟩=some b3:=⟨(h.at_ 7 _ rfl).1,(h.at_ 8 _ rfl).1,(h.at_ 9 _ rfl).1,(h.at_ 10 _ rfl).1,(h.at_ 11 _ rfl).1,(h.at_ 12 _ rfl).1,(h.at_ 13 _ rfl).1,(h.at_ 14 _ rfl).1,(h.at_ 15 _ rfl).1,(h.at_ 16 _ rfl).1,(h.at_ 17 _ rfl).1,(h.at_ 18 _ rfl).1,(h.at_ 19 _ rfl).1,(h.at_ 20 _ rfl).1,(h.at_ 21 _ rfl).1,(k.at_ 0 _ rfl).1,(k.at_ 1 _ rfl).1,(k.at_ 2 _ rfl).1,(k.at_ 3 _ rfl).1⟩
set_option maxHeartbeats 16000000 in
theorem FX(w:World)(x:iM)(bm:x.Ok w)(vals:List Nat)(M:Nat)(bq:vals.length=M){va:Option Addr}{vc:Nat}(bo:(Lay.int .u64).At 0 w va (fE vals))(bp:∀v∈vals,v<18446744073709551616)(Q:Cr.Laid w)(hA:∀w',Cr.Laid w'->Calls Tryz.prog 7 #[] w' λ e w''=>e= .returned (.bool true)/\Below w'.heap.size w' w''):
  Calls Tryz.prog 3 #[x.v,.slice va M vc] w λ e w'=>e= .returned (.bool true)/\Below w.heap.size w w':=by
 have N:Hid (∀w',Below w.heap.size w w'->Calls Tryz.prog 7 #[] w' λ e w''=>e= .returned (.bool true)/\Below w'.heap.size w' w''):=Z λ w' J=>hA w' (Q.below J)
 have aI:Hid (∀a,Below w.heap.size w a->Calls Tryz.prog 6 #[x.v] a (mz a x)):=Z λ a J=>Mw a x (bm.below J) ((FT Q).below J Q.pos) (A9 Q.pos J.size)
 have aH:Hid (∀a c w3 g j f n,Below w.heap.size w a->w.heap.size<a.heap.size->Below a.heap.size a c->rG a c x g j f n->Below c.heap.size c w3->M<=40->
  Calls Tryz.prog 8 #[.pointer g,.pointer f,.int .i64 x.level,x.p.v,x.q.v] w3 (yz a.heap.size c.heap.size x j f n va M vc w3)):=Z λ a c w3 g j f n K hz J h bE bD=>by
   have bF:Below w.heap.size w c:=K.trans (J.mono K.size);exact Ql h J bE (AN (Nat.zero_le _) hz) (FU (Q.below bF)) vals bq bD (bo.below K) bp w3 (A6 _ _)
 obtain⟨x0,aT⟩:∃x0,x0=x:=⟨_,rfl⟩
 have aX:Hid (∀a,mz a x=mz a x0):=Z (by rw[aT];exact λ _=>rfl);have bz:Hid (∀a w' g j f n,rG a w' x0 g j f n->rG a w' x g j f n):=Z (by rw[aT];exact λ _ _ _ _ _ _ h=>h);clear aT bm Q hA bq bo bp;obtain⟨Wd,na,nc,qs,lv,oa,oc,ord,ca,cc,xs,sa,sc,ys,sens,level,⟨Y,aa,ab,an,am,ah,ai,pos,aj,ak,al,V,W,X,ad,ae,af⟩,⟨ar,au,av,aG,aF,az,aA,aB,aC,aD,aE,ao,ap,aq,aw,ax,ay⟩⟩:=x;have hv:iM.v ⟨Wd,na,nc,qs,lv,oa,oc,ord,ca,cc,xs,sa,sc,ys,sens,level,⟨Y,aa,ab,an,am,ah,ai,pos,aj,ak,al,V,W,X,ad,ae,af⟩,⟨ar,au,av,aG,aF,az,aA,aB,aC,aD,aE,ao,ap,aq,aw,ax,ay⟩⟩= .agg #[.int .i64 Wd,.slice na qs.length nc,.int .i64 lv,.slice oa ord.length oc,.slice ca xs.length cc,.slice sa ys.length sc,.bool sens,.int .i64 level,.slice Y ab.length aa,.int .u8 an,.int .i64 am,.slice ah pos.length ai,.slice aj al.length ak,.slice V X.length W,.slice ad af.length ae,.slice ar av.length au,.int .u8 aG,.int .i64 aF,.slice az aB.length aA,.slice aC aE.length aD,.slice ao aq.length ap,.slice aw ay.length ax]:=rfl;have hp:fM.v ⟨Y,aa,ab,an,am,ah,ai,pos,aj,ak,al,V,W,X,ad,ae,af⟩= .agg #[.slice Y ab.length aa,.int .u8 an,.int .i64 am,.slice ah pos.length ai,.slice aj al.length ak,.slice V X.length W,.slice ad af.length ae]:=rfl;have hq:fM.v ⟨ar,au,av,aG,aF,az,aA,aB,aC,aD,aE,ao,ap,aq,aw,ax,ay⟩= .agg #[.slice ar av.length au,.int .u8 aG,.int .i64 aF,.slice az aB.length aA,.slice aC aE.length aD,.slice ao aq.length ap,.slice aw ay.length ax]:=rfl;rw[hv] at aI⊢;unfold yz at aH;dsimp only at aH;rw[hp,hq] at aH;clear hv hp hq;simp only[aX.o] at aI;clear aX;go_enter Tryz.func3,Tryz.ntmps3
 go_upto_region 1 with fail
 generalize hw1:w.alloc (.cells #[.int .i64 Wd,.slice na qs.length nc,.int .i64 lv,.slice oa ord.length oc,.slice ca xs.length cc,.slice sa ys.length sc,.bool sens,.int .i64 level,.slice Y ab.length aa,.int .u8 an,.int .i64 am,.slice ah pos.length ai,.slice aj al.length ak,.slice V X.length W,.slice ad af.length ae,.slice ar av.length au,.int .u8 aG,.int .i64 aF,.slice az aB.length aA,.slice aC aE.length aD,.slice ao aq.length ap,.slice aw ay.length ax] 30)=a at*;obtain⟨K,bA,bn,bs⟩:=FW hw1;have aL:=Z K;have bB:=Z bn;have aP:=Z bs;have bw:=Z (aI.o a K);clear hw1 K bn bs aI
 go_wp2_with(first|(refine wpList_load_mid rfl 30 (.tmp 2) rfl w.heap.size 0 rfl _ _ bB.o Tryz.underlying30 rfl (by kernel_rfl) ?_)|(go_at_call 6;refine bw.o.mono ?_))
 intro e c P;obtain⟨bC,g,j,f,n,rfl,S,P⟩:=P;have bt:=Z S;have aZ:=Z (aL.o.trans (S.mono aL.o.size));have bx:Hid ((c.alloc (.cells #[.pointer g,.pointer j,.pointer f,.pointer n] 37)).heap[c.heap.size]? =some (.cells #[.pointer g,.pointer j,.pointer f,.pointer n] 37 (0,0))):=Z (heap_alloc_new c (DA g j f n));have aM:Hid (Below c.heap.size c (c.alloc (.cells #[.pointer g,.pointer j,.pointer f,.pointer n] 37))):=Z ((A6 _ _).alloc (A8 _) _);have H:=Z (aZ.o.trans (aM.o.mono aZ.o.size));have aY:=Z (bA.o.keep (S.trans (aM.o.mono S.size)));have aU:=Z (fH.new c #[.pointer g,.pointer j,.pointer f,.pointer n] 37);obtain⟨g0,g1,g2,g3,k0,k1,k2,k3⟩:=iB bx.o;clear S;by_cases hv40:M<=40
 ·have bG:decide ((40:Int)<M)=false:=by simp;omega
  cases bC with
  |false=>
   clear P
   go_wp2_with(go_at_call 7;refine(N.o _ H.o).mono ?_;rintro e w9 ⟨rfl,b⟩;have r:=Z (H.o.trans (b.mono H.o.size));clear b)
   go_ret
   exact⟨rfl,r.o⟩
  |true=>
   have bh:=bz.o _ _ _ _ _ _ (P rfl);clear P;have H8:=Z (aH.o _ _ _ _ _ _ _ aL.o aP.o bt.o bh aM.o hv40);clear bh;have r3:=aY.o;obtain⟨e0,e1,e2,e3,e4,e5,e6,e7,e8,e9,a5,a6,a7,a8,a9,ba,bb,bd,be⟩:=r3.get19 aU.o;clear r3
   go_upto_region 5 with
    (go_at_call 8
     refine H8.o.mono ?_;rintro e w5 ⟨t,er,rfl,aK,kb,bi,bj,br⟩;have a0:=Z (H.o.trans (aK.below (B:=w.heap.size) (λ k hk=>Ag (Nat.le_of_lt aP.o) hk.1) H.o.size));have E:=Z (aY.o.written aK (λ h=>absurd h.1 (Nat.not_le_of_lt aP.o)));have D:=Z (aU.o.written aK (λ h=>absurd h.2 (Nat.lt_irrefl _)));have bu:=Z bi;have aV:=Z bj;have a4:=Z br;clear aK bi bj br)
   clear e0 e1 e2 e3 e4 e5 e6 e7 e8 e9 a5 a6 a7 a8 a9 ba bb bd be g0 g1 g2 g3 k0 k1 k2 k3;have K5:Hid (Below w5.heap.size w5 w5):=Z (A6 _ _);obtain⟨e0,e1,e2,e3,e4,e5,e6,e7,e8,e9,a5,a6,a7,a8,a9,ba,bb,bd,be⟩:=E.o.get19 D.o;clear H8
   go_upto_region 6 with(go_at_call 9;refine(bu.o _ K5.o).mono ?_;rintro e w6 ⟨rfl,aQ⟩;have A:=Z (K5.o.trans (aQ.mono K5.o.size));have F:=Z (a0.o.trans (aQ.mono a0.o.size));obtain⟨f6_0,f6_1,f6_2,f6_3,f6_4,f6_5,f6_6,f6_7,f6_8,f6_9,f6_10,f6_11,f6_12,f6_13,f6_14,f6_15,f6_16,f6_17,f6_18⟩:=(E.o.keep A.o).get19 (D.o.keep A.o);clear aQ)
   cases kb with
   |false=>
    obtain⟨rfl,rfl⟩:=aV.o rfl;rw[show lh false=3 from rfl]
    go_wp2_with(go_at_call 7;refine(N.o _ F.o).mono ?_;rintro e w9 ⟨rfl,b⟩;have r:=Z (F.o.trans (b.mono F.o.size));clear b)
    go_ret
    exact⟨rfl,r.o⟩
   |true=>
    obtain⟨b1,b2,bk,bl,U,aJ⟩:=a4.o rfl;rw[show lh true=0 from rfl];have aN:=Z bk;have aW:=Z bl;clear bk bl a4 aV;cases b1 with
    |true=>
     obtain⟨rfl,rfl⟩:=U rfl;clear U aJ
     go_wp2_with(first|(go_at_call 7;refine(N.o _ G.o).mono ?_;rintro e w9 ⟨rfl,b⟩;have r:=Z (G.o.trans (b.mono G.o.size));clear b)|(go_at_call 10;refine(aN.o _ A.o).mono ?_;rintro e w7 ⟨rfl,C⟩;have d:=Z (A.o.trans (C.mono A.o.size));have G:=Z (F.o.trans (C.mono F.o.size));obtain⟨f7_0,f7_1,f7_2,f7_3,f7_4,f7_5,f7_6,f7_7,f7_8,f7_9,f7_10,f7_11,f7_12,f7_13,f7_14,f7_15,f7_16,f7_17,f7_18⟩:=(E.o.keep d.o).get19 (D.o.keep d.o);clear C))
     go_ret
     exact⟨rfl,r.o⟩
    |false=>
     cases b2 with
     |true=>
      obtain⟨rfl,rfl⟩:=U rfl;clear U aJ
      go_wp2_with(first|(go_at_call 7;refine(N.o _ O.o).mono ?_;rintro e w9 ⟨rfl,b⟩;have r:=Z (O.o.trans (b.mono O.o.size));clear b)|(go_at_call 10;refine(aW.o _ d.o).mono ?_;rintro e w8 ⟨rfl,L⟩;have I:=Z (d.o.trans (L.mono d.o.size));have O:=Z (G.o.trans (L.mono G.o.size));obtain⟨f8_0,f8_1,f8_2,f8_3,f8_4,f8_5,f8_6,f8_7,f8_8,f8_9,f8_10,f8_11,f8_12,f8_13,f8_14,f8_15,f8_16,f8_17,f8_18⟩:=(E.o.keep I.o).get19 (D.o.keep I.o);clear L)|(go_at_call 10;refine(aN.o _ A.o).mono ?_;rintro e w7 ⟨rfl,C⟩;have d:=Z (A.o.trans (C.mono A.o.size));have G:=Z (F.o.trans (C.mono F.o.size));obtain⟨f7_0,f7_1,f7_2,f7_3,f7_4,f7_5,f7_6,f7_7,f7_8,f7_9,f7_10,f7_11,f7_12,f7_13,f7_14,f7_15,f7_16,f7_17,f7_18⟩:=(E.o.keep d.o).get19 (D.o.keep d.o);clear C))
      go_ret
      exact⟨rfl,r.o⟩
     |false=>
      obtain⟨rfl,z,bf,bg⟩:=aJ rfl;have HE:=Z bf;have HH:=Z bg;clear U aJ bf bg
      go_upto_region 13 with(first|(go_at_call 11;refine(HE.o _ I.o).mono ?_;rintro e w10 ⟨rfl,aR⟩;have R:=Z (I.o.trans (aR.mono I.o.size));have a3:=Z (O.o.trans (aR.mono O.o.size));obtain⟨fa_0,fa_1,fa_2,fa_3,fa_4,fa_5,fa_6,fa_7,fa_8,fa_9,fa_10,fa_11,fa_12,fa_13,fa_14,fa_15,fa_16,fa_17,fa_18⟩:=(E.o.keep R.o).get19 (D.o.keep R.o);clear aR)|(go_at_call 10;refine(aW.o _ d.o).mono ?_;rintro e w8 ⟨rfl,L⟩;have I:=Z (d.o.trans (L.mono d.o.size));have O:=Z (G.o.trans (L.mono G.o.size));obtain⟨f8_0,f8_1,f8_2,f8_3,f8_4,f8_5,f8_6,f8_7,f8_8,f8_9,f8_10,f8_11,f8_12,f8_13,f8_14,f8_15,f8_16,f8_17,f8_18⟩:=(E.o.keep I.o).get19 (D.o.keep I.o);clear L)|(go_at_call 10;refine(aN.o _ A.o).mono ?_;rintro e w7 ⟨rfl,C⟩;have d:=Z (A.o.trans (C.mono A.o.size));have G:=Z (F.o.trans (C.mono F.o.size));obtain⟨f7_0,f7_1,f7_2,f7_3,f7_4,f7_5,f7_6,f7_7,f7_8,f7_9,f7_10,f7_11,f7_12,f7_13,f7_14,f7_15,f7_16,f7_17,f7_18⟩:=(E.o.keep d.o).get19 (D.o.keep d.o);clear C))
      have z0:((z:Int) !=0)=decide (z≠0):=by rw[Bool.eq_iff_iff];simp
      cases hd:decide (z≠0)
      all_goals
       rw[hd] at HH z0
       go_wp2_with(first|(go_at_call 7;refine(N.o _ aO.o).mono ?_;rintro e w9 ⟨rfl,b⟩;have r:=Z (aO.o.trans (b.mono aO.o.size));clear b)|(go_at_call 12;refine(HH.o _ R.o).mono ?_;rintro e w11 ⟨rfl,aS⟩;have Kb:=Z (R.o.trans (aS.mono R.o.size));have aO:=Z (a3.o.trans (aS.mono a3.o.size));obtain⟨fb_0,fb_1,fb_2,fb_3,fb_4,fb_5,fb_6,fb_7,fb_8,fb_9,fb_10,fb_11,fb_12,fb_13,fb_14,fb_15,fb_16,fb_17,fb_18⟩:=(E.o.keep Kb.o).get19 (D.o.keep Kb.o);clear aS))
       go_ret
       exact⟨rfl,r.o⟩
 have bG:decide ((40:Int)<M)=true:=by simp;omega
 clear P
 go_wp2_with(go_at_call 7;refine(N.o _ H.o).mono ?_;rintro e w9 ⟨rfl,b⟩;have r:=Z (H.o.trans (b.mono H.o.size));clear b)
 go_ret
 exact⟨rfl,r.o⟩
end Go.Proofs.YtgdpkkjfcdhmdaaGreatDoor
namespace Go.Proofs.YtgdpkkjfcdhmdaaGreatDoor.QueryLeaks
open Go Go.ChangeShapes Go.WideShapes
set_option maxRecDepth 100000
theorem gH{a b:Bool}(h:a=true)(k:b=true):(a&&b)=true:=by rw[h,k];rfl
theorem q0:Rows.queryLeaksRow.wf (OpenSpec.ofChange (OpenSpec.ofChange Rows.queryLeaksSpec).bare)=true:=by kernel_rfl
theorem q1:laidOutB Tryz.pinned.checked.prog=true:=by kernel_rfl
theorem q2:mapsRowed Tryz.pinned.checked.prog=true:=by kernel_rfl
theorem q3:Tryz.f3.params.all (Tryz.pinned.checked.prog.readableRec ·)=true:=by kernel_rfl
theorem q4:namedTie Tryz.pinned.checked.prog Rows.queryLeaksRow.named (OpenSpec.ofChange Rows.queryLeaksSpec).bare.vars=true:=by kernel_rfl
theorem q5:(Rows.queryLeaksRow.stops==[])=true:=by kernel_rfl
theorem q6:(Tryz.pinned.checked.prog.stops==[])=true:=by kernel_rfl
theorem q7:(Rows.queryLeaksRow.knobs==[])=true:=by kernel_rfl
theorem q8:(Tryz.pinned.checked.prog.stopKnobs==[])=true:=by kernel_rfl
theorem q9:(Rows.queryLeaksRow.inPlace==Tryz.pinned.checked.prog.inPlace 3)=true:=by kernel_rfl
theorem q10:(Rows.queryLeaksRow.unfollowed==Tryz.pinned.checked.prog.unfollowed 3)=true:=by kernel_rfl
theorem q11:(Rows.queryLeaksRow.recurses==Tryz.pinned.checked.prog.recurses 3)=true:=by kernel_rfl
theorem q12:(Rows.queryLeaksRow.named==Tryz.pinned.checked.prog.varsNamed 3)=true:=by kernel_rfl
theorem q13:(Rows.queryLeaksRow.maps==(Tryz.f3.params.toList++(OpenSpec.ofChange Rows.queryLeaksSpec).bare.plain.varTypes Tryz.pinned.checked.prog).any (Tryz.pinned.checked.prog.mapsRec ·))=true:=by kernel_rfl
theorem q14:(Rows.queryLeaksRow.ifaces==(Tryz.f3.params.toList++(OpenSpec.ofChange Rows.queryLeaksSpec).bare.plain.varTypes Tryz.pinned.checked.prog).any (Tryz.pinned.checked.prog.ifacesRec ·))=true:=by kernel_rfl
theorem q15:(Rows.queryLeaksRow.mapsOut==Tryz.pinned.checked.prog.mapsAmong Tryz.f3.resultTypes.toList)=true:=by kernel_rfl
theorem q16:(Rows.queryLeaksRow.loops==(Tryz.f3.params.toList++(OpenSpec.ofChange Rows.queryLeaksSpec).bare.plain.varTypes Tryz.pinned.checked.prog).any (Tryz.pinned.checked.prog.loopsFrom ·))=true:=by kernel_rfl
theorem q17:(Rows.queryLeaksRow.wideKeys==(Tryz.f3.params.toList++(OpenSpec.ofChange Rows.queryLeaksSpec).bare.plain.varTypes Tryz.pinned.checked.prog++Tryz.f3.resultTypes.toList).any (Tryz.pinned.checked.prog.wideKeysFrom ·))=true:=by kernel_rfl
theorem q18:(OpenSpec.ofChange Rows.queryLeaksSpec).bare.vars.all (Tryz.pinned.checked.prog.varReadable ·)=true:=by kernel_rfl
theorem q19:Tryz.f3.resultTypes.all (λ t=>Tryz.pinned.checked.prog.readableRec t&&decide (t<Tryz.pinned.checked.prog.types.size))=true:=by kernel_rfl
theorem q20:(Rows.queryLeaksRow.ifacesOut==Tryz.f3.resultTypes.toList.any (Tryz.pinned.checked.prog.ifacesRec ·))=true:=by kernel_rfl
theorem q21:(Rows.queryLeaksRow.loopsOut==Tryz.f3.resultTypes.toList.any (Tryz.pinned.checked.prog.loopsFrom ·))=true:=by kernel_rfl
theorem q22:(Rows.queryLeaksRow.plainKeys==Tryz.pinned.checked.prog.plainKeys)=true:=by kernel_rfl
theorem q23:Rows.queryLeaksRow.shortTexts.isNone=true:=by kernel_rfl
theorem q24:Tryz.pinned.checked.prog.stopsHeard=true:=by kernel_rfl
theorem q25:Tryz.pinned.checked.prog.mayEnter=true:=by kernel_rfl
theorem q26:(Rows.queryLeaksRow.lifted==Tryz.pinned.checked.prog.liftsFinal)=true:=by kernel_rfl
theorem q27:(Tryz.pinned.checked.prog.make==some Rows.queryLeaksRow.make)=true:=by kernel_rfl
theorem q28:(Rows.queryLeaksRow.kinds==(if Rows.queryLeaksRow.domain.isEmpty then[] else Tryz.f3.params.toList.map λ t=>match Tryz.pinned.checked.prog.underlying t with|some (.int k)=>some k|_=>none))=true:=by kernel_rfl
theorem q29:(Rows.queryLeaksRow.pinned==Rows.queryLeaksRow.pinnedBy)=true:=by kernel_rfl
theorem q30:(Rows.queryLeaksRow.veiled==(Tryz.f3.params.toList++(OpenSpec.ofChange Rows.queryLeaksSpec).bare.plain.varTypes Tryz.pinned.checked.prog++Tryz.f3.resultTypes.toList).any (Tryz.pinned.checked.prog.veiledRec ·))=true:=by kernel_rfl
theorem q31:Rows.queryLeaksRow.veiledFits Tryz.pinned.checked.prog Tryz.f3.params.toList (Tryz.f3.params.toList++(OpenSpec.ofChange Rows.queryLeaksSpec).bare.plain.varTypes Tryz.pinned.checked.prog++Tryz.f3.resultTypes.toList)=true:=by kernel_rfl
theorem closedFacts:joinedFacts Tryz.pinned.checked.prog 3 Tryz.f3 (OpenSpec.ofChange Rows.queryLeaksSpec).bare Rows.queryLeaksRow=true:=by unfold joinedFacts;exact(gH (gH (gH (gH (gH (gH (gH (gH (gH (gH (gH (gH (gH (gH (gH (gH (gH (gH (gH (gH (gH (gH (gH (gH (gH (gH (gH (gH (gH (gH (gH q0 q1) q2) q3) q4) q5) q6) q7) q8) q9) q10) q11) q12) q13) q14) q15) q16) q17) q18) q19) q20) q21) q22) q23) q24) q25) q26) q27) q28) q29) q30) q31)
end Go.Proofs.YtgdpkkjfcdhmdaaGreatDoor.QueryLeaks
namespace Go.Proofs.YtgdpkkjfcdhmdaaGreatDoor.QueryLeaks
open Go.ChangeShapes Go.WideShapes Go.ChangeAt Go.RowKit
theorem contract(H:Type)(enc:TypeId×Value->H)(W:World)(base:Nat)(args:Array Value)(k L:List (DataW H))(I:List MemPlace) (f:∀(j:Nat) t v,Tryz.f3.params[j]? =some t->args[j]? =some v->Value.okWide Tryz.prog W .any base t v) (B:DataW.Whole enc Tryz.prog Tryz.f3.params.toList Rows.queryLeaksSpec.vars false W args.toList k L I)(M:laidMetH Tryz.prog Rows.queryLeaksRow.laid W):Calls Tryz.prog 3 args W λ e g=>∃v,e= .returned v/\Rows.queryLeaksSpec.post enc Tryz.prog Tryz.f3 false true false false W args v g:=by have b:=B;obtain⟨p,q,A,O,rfl,hfz,hnd⟩:=B;have z:DataW.TrodAll enc Tryz.prog W 0 (λ _=>true) true Tryz.f3.params.toList args.toList k p:=A;rw[Tryz.params3] at z f;obtain⟨F,vs0,d0,ds0,p0,q0,hargs,rfl,rfl,n,X⟩:=trodAll_cons z;obtain⟨G,vs1,d1,ds1,p1,q1,rfl,rfl,rfl,r,r1⟩:=trodAll_cons X;obtain⟨rfl,rfl,rfl⟩:=trodAll_nil r1;obtain rfl:args=#[F,G]:=by{cases args;simp_all};obtain⟨rfl,rfl⟩:=trodVars_none O;have d:=b.lt;obtain⟨Y,rfl,U⟩:=Mo (f 0 30 F rfl rfl) n;obtain⟨a1,V,cap1,aa,rfl,S,P,Q⟩:=Mr (f 1 31 G rfl rfl) r;clear A;simp only[List.append_nil] at b d;have N:=O6 M;refine(FX W Y U aa V S P Q N (λ w' h=>Cr.awake7 h)).mono λ e g ⟨R,c⟩=> ?_;subst R;refine⟨_,rfl,OM rfl rfl rfl rfl b (λ E D=> ?_) c⟩;have J:=WideElems.Trod_stays (sp':=E) DG Mi Mj n (λ x a=>c.same (d x (by simp[a]))) (λ x a=>D x (by simp[a]));have K:=WideElems.Trod_stays (sp':=E) DG Mp Mq r (λ x a=>c.same (d x (by simp[a]))) (λ x a=>D x (by simp[a]));have C:=trodAll_cons_mk J (trodAll_cons_mk K (trodAll_mk0));simp only[List.append_nil] at C;exact C
theorem laid_met(os:Os):laidMetH Tryz.prog Rows.queryLeaksRow.laid ((yp os).forCall (λ _ _=>0) ⟨#[],#[.agg #[.int .i64 0,.slice none 0 0,.int .i64 0,.slice none 0 0,.slice none 0 0,.slice none 0 0,.bool false,.int .i64 0,.slice none 0 0,.int .u8 0,.int .i64 0,.slice none 0 0,.slice none 0 0,.slice none 0 0,.slice none 0 0,.slice none 0 0,.int .u8 0,.int .i64 0,.slice none 0 0,.slice none 0 0,.slice none 0 0,.slice none 0 0],.slice none 0 0],[]⟩).memory:=O8 (laidMet_of_run' 8 (by kernel_rfl) (by kernel_rfl)) (E5 (fuel:=8) (cs:=#[.map (some (World.holding Tryz.prog os ⟨#[],#[],[]⟩).heap.size)]) EY EZ (by kernel_rfl) (by kernel_rfl)) (E5 (fuel:=8) (cs:=#[Cr.fnv 209,Cr.fnv 210]) E0 E1 (by kernel_rfl) (by kernel_rfl))
theorem reads(os:Os){H:Type}(enc:TypeId×Value->H):∃places,DataW.whole enc Tryz.prog ((yp os).forCall (λ _ _=>0) ⟨#[],#[.agg #[.int .i64 0,.slice none 0 0,.int .i64 0,.slice none 0 0,.slice none 0 0,.slice none 0 0,.bool false,.int .i64 0,.slice none 0 0,.int .u8 0,.int .i64 0,.slice none 0 0,.slice none 0 0,.slice none 0 0,.slice none 0 0,.slice none 0 0,.int .u8 0,.int .i64 0,.slice none 0 0,.slice none 0 0,.slice none 0 0,.slice none 0 0],.slice none 0 0],[]⟩).memory Tryz.f3.params.toList Rows.queryLeaksSpec.vars false #[Value.agg #[.int .i64 0,.slice none 0 0,.int .i64 0,.slice none 0 0,.slice none 0 0,.slice none 0 0,.bool false,.int .i64 0,.slice none 0 0,.int .u8 0,.int .i64 0,.slice none 0 0,.slice none 0 0,.slice none 0 0,.slice none 0 0,.slice none 0 0,.int .u8 0,.int .i64 0,.slice none 0 0,.slice none 0 0,.slice none 0 0,.slice none 0 0],.slice none 0 0].toList 8=some ([.agg [.lit (.int .i64 0),.nil,.lit (.int .i64 0),.nil,.nil,.nil,.lit (.bool false),.lit (.int .i64 0),.agg [.nil,.lit (.int .u8 0),.lit (.int .i64 0),.nil,.nil,.nil,.nil],.agg [.nil,.lit (.int .u8 0),.lit (.int .i64 0),.nil,.nil,.nil,.nil]],.nil],[],places):=⟨[],by kernel_rfl⟩
theorem lifted(os:Os)(r:os.Started)(H:Type)(enc:TypeId×Value->H)(F:Stop.Interp):
  ReturnsInHanded {} Tryz.checked os 3 .any ((OpenSpec.ofChange Rows.queryLeaksSpec).preRow enc Tryz.prog Tryz.f3 Rows.queryLeaksRow.domain false Rows.queryLeaksRow.laid) (((OpenSpec.ofChange Rows.queryLeaksSpec).at F).post enc Tryz.prog Tryz.f3 false true false false):=by
 obtain⟨places,q⟩:=reads os enc;refine returnsInHanded_of_row (C:=Tryz.checked) (s:=OpenSpec.ofChange Rows.queryLeaksSpec) own r (by kernel_rfl) Tryz.func3
  (witness_row_at (enc:=enc) (C:=Tryz.checked) false (yp os) #[.agg #[.int .i64 0,.slice none 0 0,.int .i64 0,.slice none 0 0,.slice none 0 0,.slice none 0 0,.bool false,.int .i64 0,.slice none 0 0,.int .u8 0,.int .i64 0,.slice none 0 0,.slice none 0 0,.slice none 0 0,.slice none 0 0,.slice none 0 0,.int .u8 0,.int .i64 0,.slice none 0 0,.slice none 0 0,.slice none 0 0,.slice none 0 0],.slice none 0 0] rfl (by kernel_rfl) (by kernel_rfl) (by kernel_rfl)
    (OpenSpec.preRow_of_cond 8 q (by kernel_rfl) (λ k j=>by cases j) (by kernel_rfl) (laid_met os))) ?_
 intro W b a d f c n h _ _ _ g _ _;exact contract H enc W b a d f c n h g
theorem said:Rows.QueryLeaksSaid:=OpenClaim.holds_of_cond 3 Tryz.f3 rfl rfl rfl rfl rfl rfl rfl ⟨rfl,rfl,rfl,rfl,rfl⟩ rfl rfl rfl rfl rfl (by kernel_rfl) Tryz.func3 closedFacts (of_decide_eq_true (by kernel_rfl)) (by unfold Func.isWrapper;first|(rw[if_pos (by decide+kernel)];kernel_rfl)|(rw[if_neg (by decide+kernel)];exact⟨rfl,rfl⟩)) (λ os started H enc _ F=>by rw[OpenClaim.pre_eq_preRow];exact lifted os started H enc F)
theorem plain(f:FuncId)(fn:Func)(c:Tryz.pinned.checked.prog.funcNamed "weephole/weepholelaw36.QueryLeaks"=some f)(d:Tryz.pinned.checked.prog.funcs[f]? =some fn):true=Tryz.pinned.checked.prog.looks []/\∀(j:Nat) t,fn.params[j]? =some t->Tryz.pinned.checked.prog.wantsStandIn t=false:=by obtain rfl:f=3:=Option.some.inj ((show Tryz.prog.funcNamed "weephole/weepholelaw36.QueryLeaks"=some 3 by kernel_rfl).symm.trans c)|>.symm;obtain rfl:fn=Tryz.f3:=(Option.some.inj (Tryz.func3.symm.trans d)).symm;refine⟨by kernel_rfl,λ j t a=> ?_⟩;rw[Tryz.params3] at a;have b:(#[30,31]:Array TypeId).toList.all (λ t=> !Tryz.prog.wantsStandIn t)=true:=by{kernel_rfl};have:=AE.1 b t (Array.mem_def.1 (Array.mem_of_getElem? a));rw[Bool.not_eq_true'] at this;exact this
theorem card:Rows.QueryLeaksCardSaid:=Claim7.holds_tied_plain_at .later [] _ _ _ _ said (λ _ h=>by cases h) (by kernel_rfl) (λ _ h=>by cases h) queryLeaks_row_tie rfl ⟨rfl,rfl⟩ (by kernel_rfl) rfl plain (by kernel_rfl)
#print axioms card
