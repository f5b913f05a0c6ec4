/- Walk: Leak's closure 'moved': events of which the terms are twins. -/
import Derived.Test.YtgdpkkjfcdhmdaaGreatDoorS0
import Derived.Test.YtgdpkkjfcdhmdaaGreatDoorU15
import Derived.Test.YtgdpkkjfcdhmdaaGreatDoorU12
import Derived.Test.YtgdpkkjfcdhmdaaGreatDoorU16
namespace Go.Proofs.YtgdpkkjfcdhmdaaGreatDoor
open Go Go.RowKit
theorem run_cell{w w1:World}{B:Nat}{A A1:Nat->Prop}{gb mb:Nat}{nv nv1:Value}{W:Nat}{L:List Nd}(h:Run w w1 B A A1 gb mb nv nv1 W L){p i:Nat}{v:Value}(c:w.cell? ⟨p,i,none⟩=some v)(hn:¬MutB gb (some mb) nv p):w1.cell? ⟨p,i,none⟩=some v:=
 (World.cell?_of_block (a:=⟨p,i,none⟩) (h.block (World.block_lt_of_cell? _ _ c) hn)).trans c
def OthP(w:World)(B:Nat)(A:Nat->Prop)(gb mb:Nat)(nv:Value)(W:Nat)(V:Nat->Bool)(L0 L:List Nd)(c t:Nat)(e:Ending)(w':World):Prop:=
 ∃r,TmP w B A gb mb nv W r e w'/\St W V L0 r.2 c/\L<+:r.2/\Bec W V r.2 t r.1/\r.1<r.2.length
section
variable {u w:World} {lb N:Nat} {up dn:Nat->Nat} {level:Int} {ca:Option Addr} {cc:Nat} {xs:List Int} {sa:Option Addr} {sc:Nat} {ys:List Int} {sb qb:Nat}
set_option maxRecDepth 100000 in
set_option maxHeartbeats 8000000 in
theorem other26{B:Nat}{A:Nat->Prop}{gb mb:Nat}{nv:Value}{W:Nat}{L0 L:List Nd}{c:Nat}(h:PG w B A gb mb nv W L)(hB:B<=w.heap.size)(h1:1<=W)(h2:W<=64)
  (hu:Below u.heap.size u w)(hub:u.heap.size<=B)(hS:SideAt u sb lb ca cc xs sa sc ys)(hL:LatC u lb N up dn)(hlv:isB N level=true)(hok:xs.all (isB N)=true)(hx1:1<=xs.length)(hx2:xs.length<=32)
  (hst:St W (visB N up xs level) L0 L c)(hroom:c+L0.length+12<=999)(t:Nat)(ht:t<L0.length)(hev:∀j,Occ L t j->(L.getD j default).op=1->(L.getD j default).num%2=0)
  {b1 b2 b3 b4:Nat}(hq:Part w qb [.pointer (some ⟨gb,0,none⟩),.int .i64 0])(hqn:¬MutB gb (some mb) nv qb)(c1:w.cell? ⟨b1,0,none⟩=some (.pointer (some ⟨qb,0,none⟩)))(n1:¬MutB gb (some mb) nv b1)
  (c2:w.cell? ⟨b2,0,none⟩=some (.pointer (some ⟨gb,0,none⟩)))(n2:¬MutB gb (some mb) nv b2)(c3:w.cell? ⟨b3,0,none⟩=some (.pointer (some ⟨sb,0,none⟩)))(n3:¬MutB gb (some mb) nv b3)(c4:w.cell? ⟨b4,0,none⟩=some (.int .i64 level))(n4:¬MutB gb (some mb) nv b4):
  Calls Tryz.prog 26 #[.int .i64 (t:Nat),.pointer (some ⟨b1,0,none⟩),.pointer (some ⟨b2,0,none⟩),.pointer (some ⟨b3,0,none⟩),.pointer (some ⟨b4,0,none⟩)] w (OthP w B A gb mb nv W (visB N up xs level) L0 L c t):=by
 have hd:Below w.heap.size w w.drew:=(Below.refl _ _).drew;have hud:Below u.heap.size u w.drew:=hu.trans (hd.mono hu.size);have HT:=Z (twin27 (w:=w.drew) (h.below hd) hB h1 h2 hud hub hL hlv hS.x hok hx1 hx2 (cc:=cc) hst hroom t ht hev);have q0:=(hq.at_ 0 _ rfl).1;have q1:=(hq.at_ 1 _ rfl).1;have hSw:=hS.below hu;have s0:=hSw.l;have s1:=hSw.c1;have hlo:=λ b hb=>(h.lo b hb).1
 have nsb:¬MutB gb (some mb) nv sb:=λ hm=>by have:=hlo _ hm;have:=World.block_lt_of_cell? _ _ hS.l;simp at this;omega
 have k1:w.drew.cell? ⟨b1,0,none⟩=some (.pointer (some ⟨qb,0,none⟩)):=c1;have k2:w.drew.cell? ⟨b2,0,none⟩=some (.pointer (some ⟨gb,0,none⟩)):=c2;have k3:w.drew.cell? ⟨b3,0,none⟩=some (.pointer (some ⟨sb,0,none⟩)):=c3;have k4:w.drew.cell? ⟨b4,0,none⟩=some (.int .i64 level):=c4;have k5:w.drew.cell? ⟨sb,0,none⟩=some (.pointer (some ⟨lb,0,none⟩)):=s0;have k6:w.drew.cell? ⟨sb,1,none⟩=some (.slice ca xs.length cc):=s1;have HQ:=Z (hq.keep hd);have HN:=Z (And.intro hqn (And.intro n1 (And.intro n2 (And.intro n3 (And.intro n4 nsb)))));have HD:=Z hd;clear hud hd h hB hu hub hS hL hlv hok hx1 hx2 hst hroom ht hev hq hqn n1 n2 n3 n4 hSw hlo nsb;generalize visB N up xs level=V at*;generalize xs.length=m at*;go_enter Tryz.func26,Tryz.ntmps26
 go_upto_region 3 with fail
 go_region_held3(λ w'=>w'.cell? ⟨b2,0,none⟩=some (.pointer (some ⟨gb,0,none⟩))/\w'.cell? ⟨b3,0,none⟩=some (.pointer (some ⟨sb,0,none⟩))/\w'.cell? ⟨b4,0,none⟩=some (.int .i64 level)/\w'.cell? ⟨sb,0,none⟩=some (.pointer (some ⟨lb,0,none⟩))/\w'.cell? ⟨sb,1,none⟩=some (.slice ca m cc))
  (first|exact⟨c2,c3,c4,s0,s1⟩|exact⟨k2,k3,k4,k5,k6⟩|exact KE.o)
  (first
    |(go_at_call 27
      refine HT.o.mono ?_;rintro e w1 ⟨r,hs,ht1,ht2,ht3,ht4⟩;obtain⟨nv',A',rfl,hr⟩:=TmP.of hs;have HR:=Z hr;have HTW:=Z (And.intro ht1 (And.intro ht2 (And.intro ht3 ht4)));have KE:=Z (And.intro (run_cell hr k2 HN.o.2.2.1) (And.intro (run_cell hr k3 HN.o.2.2.2.1) (And.intro (run_cell hr k4 HN.o.2.2.2.2.1) (And.intro (run_cell hr k5 HN.o.2.2.2.2.2) (run_cell hr k6 HN.o.2.2.2.2.2)))));have z1:=run_cell hr k1 HN.o.2.1;have hq':=HQ.o.written hr.mt HN.o.1;have z2:=(hq'.at_ 1 _ rfl).1;have z3:=(hq'.at_ 1 _ rfl).2;have HST:=Z (setCell_there z2);clear hs hr hq' ht1 ht2 ht3 ht4))
 all_goals
  go_wp2_with fail
  try go_ret
  exact⟨r,⟨nv',A',rfl,by rw[HST.o];exact⟨HR.o.pg,HR.o.new,(Mut.of_below HD.o).trans HR.o.mt,HR.o.nb⟩⟩,HTW.o⟩
end
end Go.Proofs.YtgdpkkjfcdhmdaaGreatDoor
namespace Go.Proofs.YtgdpkkjfcdhmdaaGreatDoor
open Go
inductive MovE (W:Nat) (V:Nat->Bool) (M:List Nd):List (Int×Nat)->List (Int×Nat)->Prop
 |nil:MovE W V M [] []
 |cons {x y:Int×Nat} {a b:List (Int×Nat)}:x.1=y.1->Bec W V M x.2 y.2->x.2<M.length->y.2<M.length->MovE W V M a b->MovE W V M (x::a) (y::b)
section
variable {W:Nat} {V:Nat->Bool} {L M:List Nd} {a b b':List (Int×Nat)} {vals sec:List Nat}
theorem MovE.pre(hg:GOk W L)(hp:L<+:M)(h:MovE W V L a b):MovE W V M a b:=by
 induction h with
 |nil=>exact .nil
 |cons e hb h1 h2 _ ih=>exact .cons e (hb.pre hg hp h1) (Nat.lt_of_lt_of_le h1 hp.length_le) (Nat.lt_of_lt_of_le h2 hp.length_le) ih
theorem MovE.snoc(h:MovE W V M a b){x y:Int×Nat}(e:x.1=y.1)(hb:Bec W V M x.2 y.2)(h1:x.2<M.length)(h2:y.2<M.length):MovE W V M (a++[x]) (b++[y]):=by
 induction h with
 |nil=>exact .cons e hb h1 h2 .nil
 |cons e' hb' k1 k2 _ ih=>exact .cons e' hb' k1 k2 ih
theorem MovE.len(h:MovE W V M a b):a.length=b.length:=by
 induction h with
 |nil=>rfl
 |cons _ _ _ _ _ ih=>simp[ih]
theorem MovE.lt(h:MovE W V M a b):∀y∈b,y.2<M.length:=by
 induction h with
 |nil=>intro y hy;cases hy
 |cons _ _ _ k2 _ ih=>
  intro y hy;rcases List.mem_cons.1 hy with rfl|hy
  ·exact k2
  ·exact ih y hy
def Begun2(W:Nat)(vals sec:List Nat)(L:List Nd):List (Int×Nat)->List (Int×Nat)->Prop
 |x::a,y::b=>(x.1=y.1/\vAt W vals L x.2=vAt W sec L y.2)/\Begun2 W vals sec L a b
 |_,_=>True
theorem begun2(hW:1<=W)(hW2:W<=64)(hg:GOk W M)(hv:VOk M)(hs:Second W V vals sec):∀{a b b':List (Int×Nat)},MovE W V M b b'->(Begun W vals M a b'↔Begun2 W vals sec M a b)
 |[],_,_,_=>by unfold Begun Begun2;exact Iff.rfl
 |x::a,_,_,.nil=>by unfold Begun Begun2;exact Iff.rfl
 |x::a,_,_,.cons e hb h1 _ h=>by
  unfold Begun Begun2;rw[begun2 hW hW2 hg hv hs h,hb.val hW hW2 hg hv hs h1,e]
theorem Begun2.pre(h:L<+:M):∀{a b:List (Int×Nat)},(∀x∈a,x.2<L.length)->(∀x∈b,x.2<L.length)->(Begun2 W vals sec M a b↔Begun2 W vals sec L a b)
 |x::a,y::b,ha,hb=>by
  unfold Begun2;rw[vAt_pre h (ha x (by simp)),vAt_pre h (hb y (by simp)),Begun2.pre h (λ x hx=>ha x (List.mem_cons_of_mem _ hx)) (λ x hx=>hb x (List.mem_cons_of_mem _ hx))]
 |[],_,_,_=>by unfold Begun2;exact Iff.rfl
 |_::_,[],_,_=>by unfold Begun2;exact Iff.rfl
def Cmp2(W:Nat)(vals sec:List Nat)(L:List Nd)(mode:Bool)(a b:List (Int×Nat)):Prop:=(mode=true\/a.length=b.length)/\Begun2 W vals sec L a b
theorem cmp2(hW:1<=W)(hW2:W<=64)(hg:GOk W M)(hv:VOk M)(hs:Second W V vals sec)(mode:Bool)(h:MovE W V M b b'):Cmp W vals M mode a b'↔Cmp2 W vals sec M mode a b:=by
 unfold Cmp Cmp2;rw[begun2 hW hW2 hg hv hs h,h.len]
theorem Cmp2.pre(h:L<+:M){mode:Bool}(ha:∀x∈a,x.2<L.length)(hb:∀x∈b,x.2<L.length):Cmp2 W vals sec M mode a b↔Cmp2 W vals sec L mode a b:=by
 unfold Cmp2;rw[Begun2.pre h ha hb]
inductive MovT (W:Nat) (V:Nat->Bool) (M:List Nd):List Nat->List Nat->Prop
 |nil:MovT W V M [] []
 |cons {x y:Nat} {a b:List Nat}:Bec W V M x y->x<M.length->y<M.length->MovT W V M a b->MovT W V M (x::a) (y::b)
variable {s t:List Nat}
theorem MovT.pre(hg:GOk W L)(hp:L<+:M)(h:MovT W V L s t):MovT W V M s t:=by
 induction h with
 |nil=>exact .nil
 |cons hb h1 h2 _ ih=>exact .cons (hb.pre hg hp h1) (Nat.lt_of_lt_of_le h1 hp.length_le) (Nat.lt_of_lt_of_le h2 hp.length_le) ih
theorem MovT.snoc(h:MovT W V M s t){x y:Nat}(hb:Bec W V M x y)(h1:x<M.length)(h2:y<M.length):MovT W V M (s++[x]) (t++[y]):=by
 induction h with
 |nil=>exact .cons hb h1 h2 .nil
 |cons hb' k1 k2 _ ih=>exact .cons hb' k1 k2 ih
theorem MovT.len(h:MovT W V M s t):s.length=t.length:=by
 induction h with
 |nil=>rfl
 |cons _ _ _ _ ih=>simp[ih]
theorem MovT.lt(h:MovT W V M s t):∀y∈t,y<M.length:=by
 induction h with
 |nil=>intro y hy;cases hy
 |cons _ _ k2 _ ih=>
  intro y hy;rcases List.mem_cons.1 hy with rfl|hy
  ·exact k2
  ·exact ih y hy
theorem MovT.all(hW:1<=W)(hW2:W<=64)(hg:GOk W M)(hv:VOk M)(hs:Second W V vals sec)(h:MovT W V M s t):(∀y∈t,vAt W vals M y≠0)↔∀x∈s,vAt W sec M x≠0:=by
 induction h with
 |nil=>simp
 |cons hb h1 _ _ ih=>rw[List.forall_mem_cons,List.forall_mem_cons,ih,hb.val hW hW2 hg hv hs h1]
def LeakF(W:Nat)(vals sec:List Nat)(L:List Nd)(mode same:Bool)(ac bc:List Nat)(ao bo ar br:List (Int×Nat)):Prop:=
 (∀c∈ac,vAt W vals L c≠0)/\(∀c∈bc,vAt W sec L c≠0)/\Cmp2 W vals sec L mode ar br/\¬(same=true/\Cmp2 W vals sec L mode ao bo)
theorem cmp_two{L0 L1 L2:List Nd}{mode:Bool}{r:Nat}(hW:1<=W)(hW2:W<=64)(g1:GOk W L1)(v1:VOk L1)(h0:L0<+:L1)(ha:∀x∈a,x.2<L0.length)(hb:∀x∈b,x.2<L0.length)(hm:MovE W V L1 b b')
  (hv:∀vals,vAt W vals L2 r=b2n (Cmp W vals L1 mode a b')):∀vals sec,Second W V vals sec->(vAt W vals L2 r≠0↔Cmp2 W vals sec L0 mode a b):=λ vals sec hsec=>by
 rw[hv vals,<-Cmp2.pre h0 ha hb,<-cmp2 hW hW2 g1 v1 hsec mode hm];unfold b2n
 split<;>simp_all
theorem leak_made{L0 L2 L3 L4:List Nd}{c rels same ne:Nat}{mode sm:Bool}{ac bc bc':List Nat}{ao bo ar br:List (Int×Nat)}(hW:1<=W)(hW2:W<=64)(hst:St W V L0 L4 c)(p2:L2<+:L4)(p3:L3<+:L4)
  (hac:∀x∈ac,x<L0.length)(hbc:∀x∈bc,x<L0.length)(hr:rels<L2.length)(hrv:∀vals sec,Second W V vals sec->(vAt W vals L2 rels≠0↔Cmp2 W vals sec L0 mode ar br))
  (hs:same<L3.length)(hsv:∀vals sec,Second W V vals sec->(vAt W vals L3 same≠0↔(sm=true/\Cmp2 W vals sec L0 mode ao bo)))(hmc:MovT W V L4 bc bc')
  (hne:ne<L4.length)(hnv:∀vals,vAt W vals L4 ne=b2n (vAt W vals L4 same=0)):
  St W V L0 (allM W (ac++bc'++[rels,ne]) L4).2 (c+1+3*(ac++bc'++[rels,ne]).length)/\L4<+:(allM W (ac++bc'++[rels,ne]) L4).2/\(allM W (ac++bc'++[rels,ne]) L4).1<(allM W (ac++bc'++[rels,ne]) L4).2.length/\
  ∀vals sec,Second W V vals sec->(vAt W vals (allM W (ac++bc'++[rels,ne]) L4).2 (allM W (ac++bc'++[rels,ne]) L4).1≠0↔LeakF W vals sec L0 mode sm ac bc ao bo ar br):=by
 have p04:=hst.pre;have le04:=p04.length_le;have hlt:∀t∈ac++bc'++[rels,ne],t<L4.length:=λ t ht=>by
  simp only[List.mem_append,List.mem_cons,List.not_mem_nil,or_false] at ht;rcases ht with(ht|ht)|rfl|rfl
  ·exact Nat.lt_of_lt_of_le (hac t ht) le04
  ·exact hmc.lt t ht
  ·exact Nat.lt_of_lt_of_le hr p2.length_le
  ·exact hne
 have m:=all_made hW hW2 hst hlt;refine⟨m.st,m.pre,m.lt,λ vals sec hsec=> ?_⟩;rw[m.val vals];have nz:∀(p:Prop) [Decidable p],(b2n p≠0↔p):=λ p _=>by unfold b2n;split<;>simp_all
 rw[nz];simp only[List.forall_mem_append,List.forall_mem_cons,List.not_mem_nil,false_implies,implies_true,and_true];unfold LeakF;have e1:(∀x∈ac,vAt W vals L4 x≠0)↔∀x∈ac,vAt W vals L0 x≠0:=by
  constructor
  ·intro h x hx;rw[<-vAt_pre p04 (hac x hx)];exact h x hx
  ·intro h x hx;rw[vAt_pre p04 (hac x hx)];exact h x hx
 have e2:(∀x∈bc',vAt W vals L4 x≠0)↔∀x∈bc,vAt W sec L0 x≠0:=by
  rw[hmc.all hW hW2 hst.gok hst.vok hsec];constructor
  ·intro h x hx;rw[<-vAt_pre p04 (hbc x hx)];exact h x hx
  ·intro h x hx;rw[vAt_pre p04 (hbc x hx)];exact h x hx
 have e3:vAt W vals L4 rels≠0↔Cmp2 W vals sec L0 mode ar br:=by
  rw[vAt_pre p2 hr];exact hrv vals sec hsec
 have e4:vAt W vals L4 ne≠0↔¬(sm=true/\Cmp2 W vals sec L0 mode ao bo):=by
  rw[hnv vals,nz,vAt_pre p3 hs,<-hsv vals sec hsec];exact Decidable.not_not.symm
 rw[e1,e2,e3,e4,and_assoc]
end
end Go.Proofs.YtgdpkkjfcdhmdaaGreatDoor
namespace Go.Proofs.YtgdpkkjfcdhmdaaGreatDoor
open Go Go.RowKit
structure OthE (u w:World) (B gb mb:Nat) (nv:Value) (lb N:Nat) (up dn:Nat->Nat) (level:Int) (ca:Option Addr) (cc:Nat) (xs:List Int) (sa:Option Addr) (sc:Nat) (ys:List Int) (sb qb b1 b2 b3 b4 b5:Nat):Prop where
 bu:Below u.heap.size u w
 ub:u.heap.size<=B
 bw:B<=w.heap.size
 lo:∀k,MutB gb (some mb) nv k->B<=k
 S:SideAt u sb lb ca cc xs sa sc ys
 L:LatC u lb N up dn
 lv:isB N level=true
 ok:xs.all (isB N)=true
 x1:1<=xs.length
 x2:xs.length<=32
 q:Part w qb [.pointer (some ⟨gb,0,none⟩),.int .i64 0]
 qn:¬MutB gb (some mb) nv qb
 c1:w.cell? ⟨b1,0,none⟩=some (.pointer (some ⟨qb,0,none⟩))
 n1:¬MutB gb (some mb) nv b1
 c2:w.cell? ⟨b2,0,none⟩=some (.pointer (some ⟨gb,0,none⟩))
 n2:¬MutB gb (some mb) nv b2
 c3:w.cell? ⟨b3,0,none⟩=some (.pointer (some ⟨sb,0,none⟩))
 n3:¬MutB gb (some mb) nv b3
 c4:w.cell? ⟨b4,0,none⟩=some (.int .i64 level)
 n4:¬MutB gb (some mb) nv b4
 c5:w.cell? ⟨b5,0,none⟩=some (.func (Fn.func 26) #[] #[.pointer (some ⟨b1,0,none⟩),.pointer (some ⟨b2,0,none⟩),.pointer (some ⟨b3,0,none⟩),.pointer (some ⟨b4,0,none⟩)])
 n5:¬MutB gb (some mb) nv b5
section
variable {u w w':World} {B gb mb:Nat} {A A':Nat->Prop} {nv nv':Value} {W:Nat} {L L0 M:List Nd} {c:Nat} {lb N:Nat} {up dn:Nat->Nat} {level:Int} {ca:Option Addr} {cc:Nat} {xs:List Int} {sa:Option Addr} {sc:Nat} {ys:List Int} {sb qb b1 b2 b3 b4 b5:Nat}
theorem OthE.step(h:OthE u w B gb mb nv lb N up dn level ca cc xs sa sc ys sb qb b1 b2 b3 b4 b5)(hr:Run w w' B A A' gb mb nv nv' W M):OthE u w' B gb mb nv' lb N up dn level ca cc xs sa sc ys sb qb b1 b2 b3 b4 b5:=
 ⟨h.bu.trans ((hr.below h.bw h.lo).mono h.ub),h.ub,Nat.le_trans h.bw hr.mt.size,λ k hk=>(hr.lo k hk).1,h.S,h.L,h.lv,h.ok,h.x1,h.x2,h.q.written hr.mt h.qn,hr.free h.q.lt h.qn,
  run_cell hr h.c1 h.n1,hr.free (World.block_lt_of_cell? _ _ h.c1) h.n1,run_cell hr h.c2 h.n2,hr.free (World.block_lt_of_cell? _ _ h.c2) h.n2,run_cell hr h.c3 h.n3,hr.free (World.block_lt_of_cell? _ _ h.c3) h.n3,
  run_cell hr h.c4 h.n4,hr.free (World.block_lt_of_cell? _ _ h.c4) h.n4,run_cell hr h.c5 h.n5,hr.free (World.block_lt_of_cell? _ _ h.c5) h.n5⟩
theorem OthE.keep(h:OthE u w B gb mb nv lb N up dn level ca cc xs sa sc ys sb qb b1 b2 b3 b4 b5)(hb:Below w.heap.size w w'):OthE u w' B gb mb nv lb N up dn level ca cc xs sa sc ys sb qb b1 b2 b3 b4 b5:=
 ⟨h.bu.trans (hb.mono h.bu.size),h.ub,Nat.le_trans h.bw hb.size,h.lo,h.S,h.L,h.lv,h.ok,h.x1,h.x2,h.q.keep hb,h.qn,
  (hb.cell (World.block_lt_of_cell? _ _ h.c1)).trans h.c1,h.n1,(hb.cell (World.block_lt_of_cell? _ _ h.c2)).trans h.c2,h.n2,(hb.cell (World.block_lt_of_cell? _ _ h.c3)).trans h.c3,h.n3,(hb.cell (World.block_lt_of_cell? _ _ h.c4)).trans h.c4,h.n4,(hb.cell (World.block_lt_of_cell? _ _ h.c5)).trans h.c5,h.n5⟩
theorem OthE.call(h:OthE u w B gb mb nv lb N up dn level ca cc xs sa sc ys sb qb b1 b2 b3 b4 b5)(hp:PG w B A gb mb nv W L)(h1:1<=W)(h2:W<=64)(hst:St W (visB N up xs level) L0 L c)(hroom:c+L0.length+12<=999)(t:Nat)(ht:t<L0.length)(hg0:GOk W L0)(hev:∀j,Occ L0 t j->(L0.getD j default).op=1->(L0.getD j default).num%2=0):
  Calls Tryz.prog 26 #[.int .i64 (t:Nat),.pointer (some ⟨b1,0,none⟩),.pointer (some ⟨b2,0,none⟩),.pointer (some ⟨b3,0,none⟩),.pointer (some ⟨b4,0,none⟩)] w (OthP w B A gb mb nv W (visB N up xs level) L0 L c t):=
 other26 hp h.bw h1 h2 h.bu h.ub h.S h.L h.lv h.ok h.x1 h.x2 hst hroom t ht (λ j o h1=>by
  have o0:=(occ_pre hg0 hst.pre ht).1 o;rw[pre_get hst.pre (o0.lt hg0 ht)] at h1⊢;exact hev j o0 h1) h.q h.qn h.c1 h.n1 h.c2 h.n2 h.c3 h.n3 h.c4 h.n4
def MovP(w:World)(B:Nat)(A:Nat->Prop)(gb mb:Nat)(nv:Value)(W:Nat)(V:Nat->Bool)(L0 L:List Nd)(c:Nat)(b:List (Int×Nat))(e:Ending)(w':World):Prop:=
 ∃(v nv':Value) (A':Nat->Prop) (M:List Nd) (b':List (Int×Nat)),e= .returned v/\Lst Lay.sev 83 w w' B A A' gb mb nv nv' W M v (evI b')/\St W V L0 M c/\L<+:M/\MovE W V M b b'
theorem evI_append(l r:List (Int×Nat)):evI (l++r)=evI l++evI r:=by simp[evI]
theorem grown_cell{w w':World}{row:Option Nat}{p:Addr}{v:Value}(hg:w.grownBy w' row)(h:w.cell? p=some v)(hn:¬row=some p.block):w'.cell? p=some v:=
 (World.cell?_of_block (hg.block p.block (World.block_lt_of_cell? _ _ h) (λ e=>hn e.symm))).trans h
set_option maxRecDepth 100000 in
set_option maxHeartbeats 16000000 in
theorem moved28(he:OthE u w B gb mb nv lb N up dn level ca cc xs sa sc ys sb qb b1 b2 b3 b4 b5)(hp:PG w B A gb mb nv W L)(h1:1<=W)(h2:W<=64)(hst:St W (visB N up xs level) L0 L c)(hroom:c+L0.length+12<=999)(hg0:GOk W L0)
  (b:List (Int×Nat))(n:Nat)(hl:b.length=n)(hn:n<=1000)(hbt:∀x∈b,x.2<L0.length)(hbe:∀x∈b,∀j,Occ L0 x.2 j->(L0.getD j default).op=1->(L0.getD j default).num%2=0)
  {ea:Option Addr}{ec:Nat}(hat:Lay.sev.At (0,0) w ea (evI b))(hna:∀ad,ea=some ad->¬MutB gb (some mb) nv ad.block):
  Calls Tryz.prog 28 #[.slice ea n ec,.pointer (some ⟨b5,0,none⟩)] w (MovP w B A gb mb nv W (visB N up xs level) L0 L c b):=by
 have HE:=Z he;have HP:=Z hp;have HST:=Z hst;have HL:=Z hl;have HBT:=Z hbt;have HBE:=Z hbe;have HAT:=Z hat;have HNA:=Z hna;generalize hV:visB N up xs level=V at*;have HV:=Z hV;clear he hp hst hl hbt hbe hat hna hV;go_enter Tryz.func28,Tryz.ntmps28
 go_wp2_with fail
 go_loopw [4,9] (λ v4 i wr=>∃(k:Nat) (nvk:Value) (A':Nat->Prop) (acc:List (Int×Nat)) (M:List Nd),k<=n/\i= .int .i64 k/\Hid (Lst Lay.sev 83 w wr B A A' gb mb nv nvk W M v4 (evI acc))/\Hid (St W V L0 M c/\L<+:M/\MovE W V M (b.take k) acc)) (λ _ i _=>n-(intOf i).toNat)
 case atStart=>exact⟨0,nv,noB,[],L,by omega,rfl,Z (Lst.start HP.o),Z ⟨HST.o,List.prefix_rfl,.nil⟩⟩
 case round=>
  obtain⟨k,nvk,A',acc,M,hk,rfl,hl,hg⟩:=hrel;by_cases hkn:k<n
  ·have hki:(k:Int)<n:=by omega
   have hkl:k<b.length:=by rw[HL.o];exact hkn
   obtain⟨e1,o1,rfl,hb1,c0,c1⟩:=(HAT.o.mut hl.o.run.mt HNA.o).sev (i:=k) (by rw[evI_len];exact hkl);rw[evI_getD] at c0 c1;have hx:=HBT.o _ (getD_mem (0,0) b k hkl);have hxe:=HBE.o _ (getD_mem (0,0) b k hkl);have HTK:=Z (take_getD (0,0) b k hkl);generalize b.getD k (0,0)=x at*;obtain⟨xn,xt⟩:=x;simp only at c0 c1 hx hxe;have hb:Below wr.heap.size wr (wr.alloc (.cells #[.int .i64 xn,.int .i64 (xt:Int)] 83)):=bel_al (Below.refl _ _) _;have HLB:=Z ((hl.o.keep hb).keep (Below.refl _ _).drew);have HCA:=Z (((HE.o.step hl.o.run).keep hb).keep (Below.refl _ _).drew);have k5:=((HE.o.step hl.o.run).keep hb).c5;have HC:=Z (HCA.o.call (c:=c) HLB.o.run.pg h1 h2 (by rw[HV.o];exact hg.o.1) hroom xt hx hg0 hxe);rw[HV.o] at HC;have HPX:Hid (Part (wr.alloc (.cells #[.int .i64 xn,.int .i64 (xt:Int)] 83)) wr.heap.size [.int .i64 xn,.int .i64 (xt:Int)]):=Z (Part.new _ _ _);have HX:=Z hx;have x0:=(HPX.o.at_ 0 _ rfl).1;have x1:=(HPX.o.at_ 1 _ rfl).1;clear hx hxe hkl hb1 hb
   go_wp2_with fail
   have HS:Hid (∀w',Mut (MutB gb (some mb) nvk) (wr.alloc (.cells #[.int .i64 xn,.int .i64 (xt:Int)] 83)) w'->w'.cell? ⟨wr.heap.size,0,none⟩=some (.int .i64 xn)/\w'.cell? ⟨wr.heap.size,1,none⟩=some (.int .i64 (xt:Int))/\w'.cell? ⟨b5,0,none⟩=some (.func (Fn.func 26) #[] #[.pointer (some ⟨b1,0,none⟩),.pointer (some ⟨b2,0,none⟩),.pointer (some ⟨b3,0,none⟩),.pointer (some ⟨b4,0,none⟩)])):=Z λ w' hm=>by
    have q:=HPX.o.written hm (λ h=>by have:=(hl.o.run.lo _ h).2;omega);exact⟨(q.at_ 0 _ rfl).1,(q.at_ 1 _ rfl).1,(World.cell?_of_block (a:=⟨b5,0,none⟩) (hm.block b5 (World.block_lt_of_cell? _ _ k5) ((HE.o.step hl.o.run).n5))).trans k5⟩
   have HM0:Hid (Mut (MutB gb (some mb) nvk) (wr.alloc (.cells #[.int .i64 xn,.int .i64 (xt:Int)] 83)) (wr.alloc (.cells #[.int .i64 xn,.int .i64 (xt:Int)] 83))):=Z (Mut.of_below (Below.refl _ _));have HM1:Hid (Mut (MutB gb (some mb) nvk) (wr.alloc (.cells #[.int .i64 xn,.int .i64 (xt:Int)] 83)) (wr.alloc (.cells #[.int .i64 xn,.int .i64 (xt:Int)] 83)).drew):=Z (Mut.of_below (Below.refl _ _).drew);have HAL:Hid (acc.length+1<=1000000/\acc.length=k):=Z (by have:=hg.o.2.2.len;rw[List.length_take] at this;have:=HL.o;omega);generalize hwb:wr.alloc (.cells #[.int .i64 xn,.int .i64 (xt:Int)] 83)=wb at*;clear k5 x0 x1
   go_region_held3(λ w'=>w'.cell? ⟨wr.heap.size,0,none⟩=some (.int .i64 xn)/\w'.cell? ⟨wr.heap.size,1,none⟩=some (.int .i64 (xt:Int))/\w'.cell? ⟨b5,0,none⟩=some (.func (Fn.func 26) #[] #[.pointer (some ⟨b1,0,none⟩),.pointer (some ⟨b2,0,none⟩),.pointer (some ⟨b3,0,none⟩),.pointer (some ⟨b4,0,none⟩)]))
    (first|with_reducible exact HS.o _ HM1.o|with_reducible exact HS.o _ HM3.o|with_reducible exact HS.o _ (HM4.o _)|with_reducible exact HM5.o|fail)
    (first
      |(go_at_call 26
        refine HC.o.mono ?_;rintro e w5 ⟨r,hs,s1,s2,s3,s4⟩;obtain⟨nv',A2,rfl,hr⟩:=hs;have HL2:=Z (HLB.o.step hr);have HG2:=Z (And.intro s1 (And.intro s2 (And.intro s3 s4)));have HM3:=Z (HM1.o.trans hr.mt);have HM4:=Z λ ob=>(HM1.o.trans hr.mt).keep (bel_al (Below.refl w5.heap.size w5) ob)
        clear hr s1 s2 s3 s4)
      |(refine step_app Tryz.elemE [(xn,(r.1:Int))] rfl _ _ rfl rfl HL2.o.own rfl rfl rfl (by rw[evI_len];exact HAL.o.1) HL2.o.run.mt.size ?_
        intro v' w6 p1 p2 p3;have HL3:=Z ((HL2.o.keep (bel_al (Below.refl _ _) _)).app (ys:=evI (acc++[(xn,r.1)])) (by rw[evI_append];exact p1) p2 (p3.elim .inl λ e=>.inr (by rw[e];simp)));have hs5:=HS.o _ (HM4.o (.cells #[.int .i64 xn,.int .i64 (r.1:Int)] 83));have HM5:Hid (w6.cell? ⟨wr.heap.size,0,none⟩=some (.int .i64 xn)/\w6.cell? ⟨wr.heap.size,1,none⟩=some (.int .i64 (xt:Int))/\w6.cell? ⟨b5,0,none⟩=some (.func (Fn.func 26) #[] #[.pointer (some ⟨b1,0,none⟩),.pointer (some ⟨b2,0,none⟩),.pointer (some ⟨b3,0,none⟩),.pointer (some ⟨b4,0,none⟩)])):=Z
         ⟨grown_cell p2 hs5.1 (λ e=>by have:=(hl.o.own.lt _ e).2;simp at this),grown_cell p2 hs5.2.1 (λ e=>by have:=(hl.o.own.lt _ e).2;simp at this),grown_cell p2 hs5.2.2 (λ e=>by have h3:=(hl.o.own.lt _ e).1;have h4:=World.block_lt_of_cell? _ _ HE.o.c5;simp only at h3 h4;omega)⟩
        clear p1 p2 p3 hs5))
   go_wp2_with fail
   go_roundw
   case rel=>exact⟨k+1,_,_,acc++[(xn,r.1)],r.2,by omega,by go_num,HL3,Z ⟨HG2.o.1,hg.o.2.1.trans HG2.o.2.1,by rw[HTK.o];exact(hg.o.2.2.pre hg.o.1.gok HG2.o.2.1).snoc rfl HG2.o.2.2.1 (Nat.lt_of_lt_of_le HX.o HG2.o.1.pre.length_le) HG2.o.2.2.2⟩⟩
   case measure=>simp[intOf]<;>omega
  ·obtain rfl:k=n:=by omega
   have e1:b.take k=b:=by rw[<-HL.o,List.take_length]
   rw[e1] at hg
   go_wp2_with fail
   go_ret
   exact⟨_,nvk,A',M,acc,rfl,hl.o,hg.o⟩
end
end Go.Proofs.YtgdpkkjfcdhmdaaGreatDoor
