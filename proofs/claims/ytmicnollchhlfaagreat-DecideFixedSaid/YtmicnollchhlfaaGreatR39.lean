/- Plain: what unit propagation keeps: the two watched literals of each clause. -/
import Derived.Test.YtmicnollchhlfaaGreatR38
set_option linter.all false
set_option maxRecDepth 100000
namespace Go.Proofs.YtmicnollchhlfaaGreat
open Go.RowKit Go.Shelf
def cQ(a:Int):=if a<0 then 2*a.natAbs+1 else 2*a.natAbs
def dh(v:List Int)(a:Int):=if a<0 then-(v.getD a.natAbs 0) else v.getD a.natAbs 0
theorem mA{N a}(h:a.natAbs<N):cQ a<2*N:=by unfold cQ;split<;>omega
theorem mB{a b}(ha:a≠0)(hb:b≠0)(h:cQ a=cQ b):a=b:=by unfold cQ at h;split at h<;>split at h<;>omega
theorem xh{α}{L:Lay α}(t:L.sz=1){e w B g n c xs}(h:L.Own e w B (.slice (some ⟨g,0,none⟩) n c) xs)(F:xs.length=n){i}(hi:i<n){x u}(l:xs[i]? =some x)(z:L.f x=[u]):w.cell? ⟨g,i,none⟩=some u/\w.frozen? ⟨g,i,none⟩=false:=by subst F;have r:w.ownsRow B e 1 (.slice (some ⟨g,0,none⟩) xs.length c) xs.length (L.flat xs):=by{rw[<-t];exact h};refine⟨?_,World.ownsRow.frozenAt r i⟩;rw[World.ownsRow.cellAt r i (by omega)];have:xs[i]? =some x:=l;have hl:(xs.map L.f)[i]? =some [u]:=by{simp[l,z]};have key:∀(d:List α) (i:Nat),d[i]? =some x->(L.flat d)[i]? =some u:=by{intro d;induction d with|nil=>intro i h;simp at h|cons y d ih=>intro i h;have D:∃v,L.f y=[v]:=by{have:=L.len y;rw[t] at this;exact List.length_eq_one_iff.1 this};obtain⟨v,j⟩:=D;have A:L.flat (y::d)=v::L.flat d:=by{simp[Lay.flat,j]};rw[A];cases i with|zero=>simp at h;subst h;rw[z] at j;simpa using(List.cons.inj j).1.symm▸rfl|succ i=>simpa using ih i (by simpa using h)};exact key xs i l
def eV{q:IntKind}{e:TypeId}{w:World}{B g n c:Nat}{xs:List Int}(h:(Lay.int q).Own e w B (.slice (some ⟨g,0,none⟩) n c) xs)(hn:xs.length=n){i:Nat}(hi:i<n):=xh rfl h hn hi (x:=xs.getD i 0) (by rw[A2,A5 (by omega)];rfl) rfl
theorem nY{e w B g n c}{xs:List Hd}(h:Lay.sl.Own e w B (.slice (some ⟨g,0,none⟩) n c) xs)(hn:xs.length=n){i}(hi:i<n):w.cell? ⟨g,i,none⟩=some (hdV (xs.getD i nh))/\w.frozen? ⟨g,i,none⟩=false:=xh rfl h hn hi (x:=xs.getD i nh) (by rw[A2,A5 (by omega)];rfl) rfl
theorem xm w a(h: -1000000000<=a/\a<=1000000000):Calls Tryz.prog 88 #[.int .i64 a] w λe w'=>e= .returned (.int .i64 (cQ a:Nat))/\w=w':=by obtain⟨h1,h2⟩:=h;by_cases hn:a<0;{have e1:IntKind.i64.wrap (-2*a)= -2*a:=by{rw[IntKind.wrap_i64];omega};have c:((cQ a:Nat):Int)= -2*a+1:=by{unfold cQ;rw[if_pos hn];omega};have d:=Z c;have f:IntKind.i64.wrap (-2*a+1)= -2*a+1:=by{rw[IntKind.wrap_i64];omega};clear c;go_enter Tryz.func88,Tryz.ntmps88;go_wp2_with fail;go_ret;rw[d.o];exact⟨eH (by first|rfl|omega),rfl⟩};have c:((cQ a:Nat):Int)=2*a:=by{unfold cQ;rw[if_neg hn];omega};have d:=Z c;have f:IntKind.i64.wrap (2*a)=2*a:=by{rw[IntKind.wrap_i64];omega};clear c;go_enter Tryz.func88,Tryz.ntmps88;go_wp2_with fail;go_ret;rw[d.o];exact⟨eH (by first|rfl|omega),rfl⟩
theorem Mk w a(h: -1000000000<=a/\a<=1000000000):Calls Tryz.prog 89 #[.int .i64 a] w λe w'=>e= .returned (.int .i64 (a.natAbs:Nat))/\w=w':=by obtain⟨h1,h2⟩:=h;have e3:IntKind.i64.wrap (-a)= -a:=by{rw[IntKind.wrap_i64];omega};go_enter Tryz.func89,Tryz.ntmps89;go_wp2_with fail;go_ret;exact⟨eH (by omega),rfl⟩
section
variable {w:World} {B sb:Nat} {k:Cn} {N:Nat} {s:St} {y:Ly} {tg:Nat->Nat}
def SM.cell(h:SM w B sb k N s y tg)(i:Nat)(v:Value)(e:(stV k N s y)[i]? =some v):=h.st.at_ i v e
def SM.val(h:SM w B sb k N s y tg){i:Nat}(hi:i<N):=eV h.ov.own h.vl hi
theorem nZ(h:SM w B sb k N s y tg)(hN:N<=1000000){a}(d:a.natAbs<N)(f:∀x∈s.val,-1<=x/\x<=1):Calls Tryz.prog 87 #[.pointer (some ⟨sb,0,none⟩),.int .i64 a] w λe w'=>e= .returned (.int .i8 (dh s.val a))/\w=w':=by have j:=f (s.val.getD a.natAbs 0) (eF _ _ (by rw[h.vl];exact d));obtain⟨c3,_⟩:=h.cell 3 _ rfl;obtain⟨g,_⟩:=h.val d;unfold dh;generalize s.val.getD a.natAbs 0=x at*;have hNi:(N:Int)<=1000000:=by{omega};by_cases hn:a<0;{obtain⟨p,rfl⟩:∃p:Nat,a= -(p:Int):=⟨a.natAbs,by omega⟩;have e5:IntKind.i8.wrap (-x)= -x:=by{have:x= -1\/x=0\/x=1:=by{omega};rcases this with rfl|rfl|rfl<;>decide};rw[if_pos hn];have c:(-(p:Int)).natAbs=p:=by{omega};rw[c] at g d;have l:(p:Int)<N:=by{omega};have e6:IntKind.i64.wrap (p:Int)=p:=by{rw[IntKind.wrap_i64];omega};have hp0:(0:Int)<p:=by{omega};clear c h f j;go_enter Tryz.func87,Tryz.ntmps87;go_wp2_with fail;go_ret;exact⟨rfl,rfl⟩};obtain⟨p,rfl⟩:∃p:Nat,a=(p:Int):=⟨a.natAbs,by omega⟩;rw[if_neg hn];have c:((p:Int)).natAbs=p:=by{omega};rw[c] at g d;have l:(p:Int)<N:=by{omega};clear c h f j;go_enter Tryz.func87,Tryz.ntmps87;go_wp2_with fail;go_ret;exact⟨rfl,rfl⟩
end
def gG(k:Cn)(s:St)(a r:Int):={s with val:=s.val.set a.natAbs (if a<0 then-1 else 1),lvl:=s.lvl.set a.natAbs k.lv.2.1,rsn:=s.rsn.set a.natAbs r,trail:=s.trail++[a]}
section
variable {w:World} {B sb:Nat} {k:Cn} {N:Nat} {s:St} {y:Ly} {tg:Nat->Nat}
def SP w B sb k N s w':=∃y tg,SM w' B sb k N s y tg/\Below B w w'
def SPt(w:World)(B sb:Nat)(k:Cn)(N:Nat)(s:St)(y:Ly)(w':World):=∃v tg,SM w' B sb k N s {y with tv:=v} tg/\Below B w w'
theorem SPt.sp{w w' B sb k N s y}(h:SPt w B sb k N s y w'):SP w B sb k N s w':=by obtain⟨v,tg,c,d⟩:=h;exact⟨_,tg,c,d⟩
theorem SM.ne(h:SM w B sb k N s y tg):(¬sb=y.vb/\¬sb=y.lb/\¬sb=y.rb/\¬sb=y.wb)/\(¬y.vb=y.lb/\¬y.vb=y.rb/\¬y.vb=y.wb/\¬y.lb=y.rb/\¬y.lb=y.wb/\¬y.rb=y.wb):=by have t1:=h.tst;have t3:tg y.wb=3:=h.ow.tag _ rfl;have t4:tg y.vb=4:=h.ov.tag _ rfl;have t6:tg y.lb=6:=h.ol.tag _ rfl;have t7:tg y.rb=7:=h.orr.tag _ rfl;refine⟨⟨?_,?_,?_,?_⟩,?_,?_,?_,?_,?_,?_⟩<;>(intro e;have:=congrArg tg e;omega)
theorem fD{B w w'}(h:Below B w w'){g j}(hg:B<=g) u:Below B w (w'.setCell ⟨g,j,none⟩ u):=Below.setCell h hg u
set_option maxHeartbeats 4000000 in
theorem CU(h:SM w B sb k N s y tg)(hN:N<=1000000){a}(D:a.natAbs<N)(ha0:a≠0)(ht:s.trail.length<=500000)(hlv:k.lv.2.1<=1000000) r:
  Calls Tryz.prog 58 #[.pointer (some ⟨sb,0,none⟩),.int .i64 a,.int .i64 r] w λe w'=>e= .returned (.tuple #[])/\SPt w B sb k N (gG k s a r) y w':=by
 have HV:=Z (Mk w a (by omega));obtain⟨p,hp⟩:∃p:Nat,p=a.natAbs:=⟨_,rfl⟩
 rw[<-hp] at HV D;have ah:=Z hp;clear hp;obtain⟨⟨A,g,j,n4⟩,n5,n6,n7,n8,n9,n10⟩:=h.ne;obtain⟨c3,_⟩:=h.cell 3 _ rfl;obtain⟨c5,_⟩:=h.cell 5 _ rfl;obtain⟨c6,_⟩:=h.cell 6 _ rfl;obtain⟨l,f8⟩:=h.cell 8 _ rfl;obtain⟨U,_⟩:=h.cell 10 _ rfl;have U:w.cell? ⟨sb,10,none⟩=some (.slice k.lv.1 k.lv.2.1 k.lv.2.2):=U;obtain⟨cv,fv⟩:=h.val (i:=p) D;obtain⟨cl,fl⟩:=eV h.ol.own h.ll (i:=p) D;obtain⟨cr,fr⟩:=eV h.orr.own h.rl (i:=p) D;have hpi:(p:Int)<N:=by omega
 have H:=Z h;clear h;have al:B<=y.vb:=(H.o.ov.own.lt _ rfl).1;have ai:B<=y.lb:=(H.o.ol.own.lt _ rfl).1;have aj:B<=y.rb:=(H.o.orr.own.lt _ rfl).1;have Q:Below B w (w.setCell ⟨y.vb,p,none⟩ (.int .i8 1)):=Below.setCell (A4 _ _) al _;have c:=H.o.setVal p 1;have t:=dJ (q:=⟨y.vb,p,none⟩) (u:=.int .i8 1) A c5;have z:=dJ (q:=⟨y.vb,p,none⟩) (u:=.int .i8 1) A c6;have O:=dJ (q:=⟨y.vb,p,none⟩) (u:=.int .i8 1) A l;have P:=lY (q:=⟨y.vb,p,none⟩) (u:=.int .i8 1) A f8;have n:=dJ (q:=⟨y.vb,p,none⟩) (u:=.int .i8 1) A U;by_cases hn:a<0
 ·go_enter Tryz.func58,Tryz.ntmps58
  go_wp2_with(go_at_call 89;refine HV.o.mono ?_;rintro e w1 ⟨rfl,rfl⟩)
  have Q:=Below.setCell Q (p:=⟨y.vb,p,none⟩) al (.int .i8 (-1));have c:=c.setVal p (-1);have W:({({s with val:=s.val.set p 1}:St) with val:=(s.val.set p 1).set p (-1)}:St)={s with val:=s.val.set p (if a<0 then-1 else 1)}:=by rw[List.set_set,if_pos hn]
  have c:SM _ B sb k N {s with val:=s.val.set p (if a<0 then-1 else 1)} y tg:=W▸c;have c:=Z c;clear W;have t:=dJ (q:=⟨y.vb,p,none⟩) (u:=.int .i8 (-1)) A t;have z:=dJ (q:=⟨y.vb,p,none⟩) (u:=.int .i8 (-1)) A z;have O:=dJ (q:=⟨y.vb,p,none⟩) (u:=.int .i8 (-1)) A O;have P:=lY (q:=⟨y.vb,p,none⟩) (u:=.int .i8 (-1)) A P;have n:=dJ (q:=⟨y.vb,p,none⟩) (u:=.int .i8 (-1)) A n;clear c3 c5 c6 l f8 U cv fv cl fl cr fr;generalize(w.setCell ⟨y.vb,p,none⟩ (.int .i8 1)).setCell ⟨y.vb,p,none⟩ (.int .i8 (-1))=w4 at*;obtain⟨aa,ac⟩:=eV c.o.ol.own c.o.ll (i:=p) D;obtain⟨ab,ad⟩:=eV c.o.orr.own c.o.rl (i:=p) D
  go_region_held3(λw'=>w'.cell? ⟨sb,5,none⟩=some (.slice (some ⟨y.lb,0,none⟩) N y.cpl)/\w'.cell? ⟨sb,6,none⟩=some (.slice (some ⟨y.rb,0,none⟩) N y.cpr)/\w'.cell? ⟨sb,10,none⟩=some (.slice k.lv.1 k.lv.2.1 k.lv.2.2))
   (first
     |exact⟨t,z,n⟩
     |exact⟨dJ g t,dJ g z,dJ g n⟩
     |exact⟨dJ j t,dJ j z,dJ j n⟩
     |exact⟨dJ j (dJ g t),dJ j (dJ g z),dJ j (dJ g n)⟩
     |go_keep)
   (fail)
  have f:Hid (SM ((w4.setCell ⟨y.lb,p,none⟩ (.int .i64 (k.lv.2.1:Nat))).setCell ⟨y.rb,p,none⟩ (.int .i64 r)).drew B sb k N _ y tg):=Z ((c.o.setLvl p (k.lv.2.1:Nat)).setRsn p r).drew;have Y:Below B w4 ((w4.setCell ⟨y.lb,p,none⟩ (.int .i64 (k.lv.2.1:Nat))).setCell ⟨y.rb,p,none⟩ (.int .i64 r)).drew:=(Below.setCell (Below.setCell (A4 _ _) ai _) aj _).drew;have l:=dJ (q:=⟨y.rb,p,none⟩) (u:=.int .i64 r) j (dJ (q:=⟨y.lb,p,none⟩) (u:=.int .i64 (k.lv.2.1:Nat)) g O);have f8:=lY (q:=⟨y.rb,p,none⟩) (u:=.int .i64 r) j (lY (q:=⟨y.lb,p,none⟩) (u:=.int .i64 (k.lv.2.1:Nat)) g P);have l:((w4.setCell ⟨y.lb,p,none⟩ (.int .i64 (k.lv.2.1:Nat))).setCell ⟨y.rb,p,none⟩ (.int .i64 r)).drew.cell? ⟨sb,8,none⟩=some y.tv:=l;have f8:((w4.setCell ⟨y.lb,p,none⟩ (.int .i64 (k.lv.2.1:Nat))).setCell ⟨y.rb,p,none⟩ (.int .i64 r)).drew.frozen? ⟨sb,8,none⟩=false:=f8;have HZ:=Z (Q.trans Y);clear t z O P n aa ab ac ad Y Q;generalize((w4.setCell ⟨y.lb,p,none⟩ (.int .i64 (k.lv.2.1:Nat))).setCell ⟨y.rb,p,none⟩ (.int .i64 r)).drew=w5 at*;have ae:B<=w5.heap.size:=by have:=f.o.lo sb (by rw[f.o.tst];decide);omega
  go_wp2_with(at_builtin;suffices hzz:id (wpList _ _ _ _ _ _) from hzz)
  show wpList _ _ _ _ _ _;have S:Hid ((Lay.int .i64).Own 3 w5 B y.tv s.trail):=Z f.o.ot.own;refine gW (d:=0) (qs:=[a]) Tryz.elemI rfl _ _ rfl rfl (Lay.Own.alloc S.o _) rfl (λh=>by cases h) rfl (fV (L:=Lay.int .i64) w5 a 3) (by simp;omega) (by simp;omega) ?_;intro v6 w6 K q6 T;obtain⟨F,rfl,_⟩:=js K;obtain⟨af,V,_⟩:=(f.o.alloc _).pushTrail K q6 T;have J:=f.o.lo sb (by rw[f.o.tst];decide);have G:w6.heap[sb]? =w5.heap[sb]? :=(q6.block sb (by simp;omega) λe=>by have:=f.o.ot.tag sb e.symm;rw[f.o.tst] at this;omega).trans (fL w5 _ J.2);have l:=(Ah (a:=⟨sb,8,none⟩) G).trans l;have f8:=(World.frozen?_of_block (a:=⟨sb,8,none⟩) G).trans f8;have HP:Hid (SPt w B sb k N (gG k s a r) y (w6.setCell ⟨sb,8,none⟩ (.slice F.1 F.2.1 F.2.2))):=Z ⟨_,af,by unfold gG;rw[<-ah.o];exact V,Below.setCell ((HZ.o.alloc ae _).grown q6 (by simp;omega) λk hk=>by
   have:=(S.o.lt k hk).1;omega) J.1 _⟩
  clear V K q6 T G J
  go_wp2_with fail
  (try simp only[Exit.inBlock,Exit.then])
  refine bodyPost_end (results_none rfl _ _ _) rfl ?_;exact⟨rfl,HP.o⟩
 have W:({s with val:=s.val.set p 1}:St)={s with val:=s.val.set p (if a<0 then-1 else 1)}:=by rw[if_neg hn]
 have c:SM _ B sb k N {s with val:=s.val.set p (if a<0 then-1 else 1)} y tg:=W▸c;have c:=Z c;clear W;go_enter Tryz.func58,Tryz.ntmps58
 go_wp2_with(go_at_call 89;refine HV.o.mono ?_;rintro e w1 ⟨rfl,rfl⟩)
 clear c3 c5 c6 l f8 U cv fv cl fl cr fr;generalize w.setCell ⟨y.vb,p,none⟩ (.int .i8 1)=w4 at*;obtain⟨aa,ac⟩:=eV c.o.ol.own c.o.ll (i:=p) D;obtain⟨ab,ad⟩:=eV c.o.orr.own c.o.rl (i:=p) D
 go_region_held3(λw'=>w'.cell? ⟨sb,5,none⟩=some (.slice (some ⟨y.lb,0,none⟩) N y.cpl)/\w'.cell? ⟨sb,6,none⟩=some (.slice (some ⟨y.rb,0,none⟩) N y.cpr)/\w'.cell? ⟨sb,10,none⟩=some (.slice k.lv.1 k.lv.2.1 k.lv.2.2))
  (first
    |exact⟨t,z,n⟩
    |exact⟨dJ g t,dJ g z,dJ g n⟩
    |exact⟨dJ j t,dJ j z,dJ j n⟩
    |exact⟨dJ j (dJ g t),dJ j (dJ g z),dJ j (dJ g n)⟩
    |go_keep)
  (fail)
 have f:Hid (SM ((w4.setCell ⟨y.lb,p,none⟩ (.int .i64 (k.lv.2.1:Nat))).setCell ⟨y.rb,p,none⟩ (.int .i64 r)).drew B sb k N _ y tg):=Z ((c.o.setLvl p (k.lv.2.1:Nat)).setRsn p r).drew;have Y:Below B w4 ((w4.setCell ⟨y.lb,p,none⟩ (.int .i64 (k.lv.2.1:Nat))).setCell ⟨y.rb,p,none⟩ (.int .i64 r)).drew:=(Below.setCell (Below.setCell (A4 _ _) ai _) aj _).drew;have l:=dJ (q:=⟨y.rb,p,none⟩) (u:=.int .i64 r) j (dJ (q:=⟨y.lb,p,none⟩) (u:=.int .i64 (k.lv.2.1:Nat)) g O);have f8:=lY (q:=⟨y.rb,p,none⟩) (u:=.int .i64 r) j (lY (q:=⟨y.lb,p,none⟩) (u:=.int .i64 (k.lv.2.1:Nat)) g P);have l:((w4.setCell ⟨y.lb,p,none⟩ (.int .i64 (k.lv.2.1:Nat))).setCell ⟨y.rb,p,none⟩ (.int .i64 r)).drew.cell? ⟨sb,8,none⟩=some y.tv:=l;have f8:((w4.setCell ⟨y.lb,p,none⟩ (.int .i64 (k.lv.2.1:Nat))).setCell ⟨y.rb,p,none⟩ (.int .i64 r)).drew.frozen? ⟨sb,8,none⟩=false:=f8;have HZ:=Z (Q.trans Y);clear t z O P n aa ab ac ad Y Q;generalize((w4.setCell ⟨y.lb,p,none⟩ (.int .i64 (k.lv.2.1:Nat))).setCell ⟨y.rb,p,none⟩ (.int .i64 r)).drew=w5 at*;have ae:B<=w5.heap.size:=by have:=f.o.lo sb (by rw[f.o.tst];decide);omega
 go_wp2_with(at_builtin;suffices hzz:id (wpList _ _ _ _ _ _) from hzz)
 show wpList _ _ _ _ _ _;have S:Hid ((Lay.int .i64).Own 3 w5 B y.tv s.trail):=Z f.o.ot.own;refine gW (d:=0) (qs:=[a]) Tryz.elemI rfl _ _ rfl rfl (Lay.Own.alloc S.o _) rfl (λh=>by cases h) rfl (fV (L:=Lay.int .i64) w5 a 3) (by simp;omega) (by simp;omega) ?_;intro v6 w6 K q6 T;obtain⟨F,rfl,_⟩:=js K;obtain⟨af,V,_⟩:=(f.o.alloc _).pushTrail K q6 T;have J:=f.o.lo sb (by rw[f.o.tst];decide);have G:w6.heap[sb]? =w5.heap[sb]? :=(q6.block sb (by simp;omega) λe=>by have:=f.o.ot.tag sb e.symm;rw[f.o.tst] at this;omega).trans (fL w5 _ J.2);have l:=(Ah (a:=⟨sb,8,none⟩) G).trans l;have f8:=(World.frozen?_of_block (a:=⟨sb,8,none⟩) G).trans f8;have HP:Hid (SPt w B sb k N (gG k s a r) y (w6.setCell ⟨sb,8,none⟩ (.slice F.1 F.2.1 F.2.2))):=Z ⟨_,af,by unfold gG;rw[<-ah.o];exact V,Below.setCell ((HZ.o.alloc ae _).grown q6 (by simp;omega) λk hk=>by
  have:=(S.o.lt k hk).1;omega) J.1 _⟩
 clear V K q6 T G J
 go_wp2_with fail
 (try simp only[Exit.inBlock,Exit.then])
 refine bodyPost_end (results_none rfl _ _ _) rfl ?_;exact⟨rfl,HP.o⟩
end
def ly(s:St)(a:Int)(i:Int):={s with wat:=s.wat.set (cQ a) (s.wat.getD (cQ a) []++[i])}
def jU(s:St)(c:List Int):Nat->St|0=>{s with cl:=s.cl++[c]}|n+1=>ly (jU s c n) (c.getD n 0) s.cl.length
def mC s c:=jU s c 2
theorem CV s c:∀n,(jU s c n).cl=s.cl++[c]|0=>rfl|n+1=>CV s c n
def gw{w:World}{a:Addr}{v:Value}{o:Obj}(h:w.cell? a=some v):=(World.cell?_alloc_some w a o (by rw[h];rfl)).trans h
def oa(s:St)(m:Nat):=∀j,(s.wat.getD j []).length<=m
theorem oa.push{s m}(h:oa s m) a i:oa (ly s a i) (m+1):=λj=>by show((s.wat.set (cQ a) (s.wat.getD (cQ a) []++[i])).getD j []).length<=m+1;by_cases e:j=cQ a;{subst e;by_cases hl:cQ a<s.wat.length;{have:=h (cQ a);simp[List.getD_eq_getElem?_getD,hl] at this⊢;omega};rw[List.set_eq_of_length_le (by omega)];exact Nat.le_succ_of_le (h _)};have:=h j;simp[List.getD_eq_getElem?_getD,List.getElem?_set_ne (Ne.symm e)] at this⊢;omega
theorem CX{s m}(h:oa s m) c:∀n,oa (jU s c n) (m+n)|0=>h|n+1=>(CX h c n).push _ _
theorem jV{α}{L:Lay α}{e w B n c a xs}(h:L.Own e w B (.slice a n c) xs)(h0:0<xs.length):∃g,a=some ⟨g,0,none⟩/\B<=g/\n<=c/\n=xs.length:=by obtain⟨hl,h|⟨g,cap,cur,d,j,hh,hn,hm,hs,ht⟩⟩:=h;{have:=h.2;omega};obtain⟨f,e3,e4⟩:=Value.slice.inj d;exact⟨g,f,j,by omega,by omega⟩
section
variable {w:World} {B sb:Nat} {k:Cn} {N:Nat} {s:St} {y:Ly} {tg:Nat->Nat}
theorem SM.appW2(h:SM w B sb k N s y tg){a i ix}(G:ix=cQ a)(l:ix<2*N){V w6 v6}(r:(Lay.int .i64).Own 3 w6 B v6 (s.wat.getD ix []++[i]))(F:V.grownBy w6 (hdV (y.hw.getD ix nh)).ownBlock) (n:v6.ownBlock=(hdV (y.hw.getD ix nh)).ownBlock\/v6.ownBlock=some V.heap.size)(hs:SW (w.alloc (.cells #[.int .i64 i] 3)) V):∃c:Hd,v6= .slice c.1 c.2.1 c.2.2/\w6.heap[sb]? =w.heap[sb]? /\w6.heap[y.wb]? =w.heap[y.wb]? /\(∀j,tg j≠0->tg j≠13+2*ix->w6.heap[j]? =w.heap[j]?)/\∃t tg',SM (w6.setCell ⟨y.wb,ix,none⟩ v6) B sb k N (ly s a i) t tg'/\Below B w (w6.setCell ⟨y.wb,ix,none⟩ v6)/\(∀T v xs,12<=T->T%2=0->OT (Lay.int .i64) 3 w B tg T v xs->OT (Lay.int .i64) 3 (w6.setCell ⟨y.wb,ix,none⟩ v6) B tg' T v xs)/\∀j,j≠ix->t.hw.getD j nh=y.hw.getD j nh:=by subst G;have f:=hs.grown F;rw[hs.1] at n;obtain⟨c,rfl,_⟩:=js r;obtain⟨tg',D,hm⟩:=(h.alloc _).pushWl l (hd:=c) r f n;have hsb:=h.lo sb (by rw[h.tst];decide);have K:=h.lo y.wb (by rw[h.ow.tag _ rfl];decide);have g:∀j,tg j≠0->tg j≠13+2*cQ a->w6.heap[j]? =w.heap[j]? :=λj d z=>(f.block j (by have:=(h.lo j d).2;simp;omega) λe=>z ((h.wa _ l).tag j e.symm)).trans (fL w _ (h.lo j d).2);refine⟨c,rfl,g sb (by rw[h.tst];decide) (by rw[h.tst];omega),g y.wb (by rw[h.ow.tag _ rfl];decide) (by rw[h.ow.tag _ rfl];omega),g,_,tg',D,Below.setCell (((A4 B w).alloc (by omega) _).grown f (by simp;omega) λj e=>((h.wa _ l).own.lt j e).1) K.1 _,λT v xs hT hT2 J=> ?_,λj H=>by show(y.hw.set _ c).getD j nh=_;simp[List.getD_eq_getElem?_getD,List.getElem?_set_ne (Ne.symm H)]⟩;have A:tg' y.wb=3:=by{rw[hm.ext _ (by rw[h.ow.tag _ rfl];decide)];exact h.ow.tag _ rfl};exact((OT.go (tg':=tg) (X:=0) J ⟨by simp,λi d _=>fL w _ (h.lo i d).2,λ _ _=>rfl⟩ (by omega) (by omega)).go hm (by omega) (by omega)).go (Mv.put A) (by omega) (by omega)
theorem SM.appW(h:SM w B sb k N s y tg){a i ix}(r:ix=cQ a)(z:ix<2*N){V w6 v6}(t:(Lay.int .i64).Own 3 w6 B v6 (s.wat.getD ix []++[i]))(n:V.grownBy w6 (hdV (y.hw.getD ix nh)).ownBlock) (l:v6.ownBlock=(hdV (y.hw.getD ix nh)).ownBlock\/v6.ownBlock=some V.heap.size)(hs:SW (w.alloc (.cells #[.int .i64 i] 3)) V):∃c:Hd,v6= .slice c.1 c.2.1 c.2.2/\w6.heap[sb]? =w.heap[sb]? /\w6.heap[y.wb]? =w.heap[y.wb]? /\∃d tg',SM (w6.setCell ⟨y.wb,ix,none⟩ v6) B sb k N (ly s a i) d tg'/\Below B w (w6.setCell ⟨y.wb,ix,none⟩ v6)/\∀T v xs,12<=T->T%2=0->OT (Lay.int .i64) 3 w B tg T v xs->OT (Lay.int .i64) 3 (w6.setCell ⟨y.wb,ix,none⟩ v6) B tg' T v xs:=by obtain⟨c,f,g,j,_,d,tg',q1,q2,q3,_⟩:=h.appW2 r z t n l hs;exact⟨c,f,g,j,d,tg',q1,q2,q3⟩
end
def swp(c:List Int)(i j:Nat):=(c.set i (c.getD j 0)).set j (c.getD i 0)
def od a c:=if c.getD 0 0=a then swp c 0 1 else c
def iz(s:St)(ja kp:Nat)(i:Int):={s with wat:=s.wat.set ja ((s.wat.getD ja []).set kp i)}
def eW(s:St)(i:Nat)(c:List Int):={s with cl:=s.cl.set i c}
def qO(s:St)(ja kp:Nat):={s with wat:=s.wat.set ja ((s.wat.getD ja []).take kp)}
open Go
def LN(N:Nat)(l:Int):=l≠0/\l.natAbs<N
theorem LN.neg{N l}(h:LN N l):LN N (-l):=⟨by have:=h.1;omega,by have:=h.2;omega⟩
theorem mD v{l}(h:l≠0):dh v (-l)= -dh v l:=by unfold dh;grind
theorem xn{v}(h:∀x∈v,-1<=x/\x<=1) l: -1<=dh v l/\dh v l<=1:=by have: -1<=v.getD l.natAbs 0/\v.getD l.natAbs 0<=1:=by{rw[A2];by_cases hl:l.natAbs<v.length;all_goals simp_all};unfold dh;omega
theorem CY{v a l}(ha:a.natAbs<v.length)(ha0:a≠0)(hl:l≠0):dh (v.set a.natAbs (if a<0 then-1 else 1)) l=if l=a then 1 else if l= -a then-1 else dh v l:=by unfold dh;grind
theorem CZ{α:Type}[DecidableEq α]:∀(l l':List α),l.Nodup->(∀x∈l,x∈l')->l.length<=l'.length|[],_,_,_=>Nat.zero_le _|x::t,l',h,hs=>by obtain⟨h1,h2⟩:=List.nodup_cons.1 h;have hx:=hs x (by simp);have:=CZ t (l'.erase x) h2 λz hz=>(List.mem_erase_of_ne (by grind)).2 (hs z (Ac _ hz));grind
theorem Ml{l:List Int}{n}(h:l.Nodup)(hr:∀i∈l,0<=i/\i.toNat<n):l.length<=n:=by have:=CZ l ((List.range n).map Int.ofNat) h λx hx=>by{grind};simp_all
def Cvd(s:St)(c:List Int):=(∃x∈c,-x∈c)\/(∃x∈c,x∈s.trail)\/∃i,i<s.cl.length/\∀l,l∈s.cl.getD i []↔l∈c
def cw(s:St)(i k:Nat):=(s.cl.getD i []).getD k 0
structure TI (N:Nat) (s:St):Prop where
 vl:s.val.length=N
 vr:∀x∈s.val,-1<=x/\x<=1
 tl:∀l∈s.trail,LN N l
 tr:∀l,LN N l->(dh s.val l=1↔l∈s.trail)
 ct:s.val.count 0+s.trail.length=N
 dn:s.done<=s.trail.length
structure PI (N:Nat) (Md:(Nat->Bool)->Prop) (Cv:List Int->Prop) (s:St) (E:Nat->List Int) (a:Int) (R:List Int):Prop where
 t:TI N s
 len:∀c∈s.cl,2<=c.length/\c.length<=1000
 lit:∀c∈s.cl,∀l∈c,LN N l
 nd:∀c∈s.cl,c.Nodup
 en:∀j,(E j).Nodup
 rg:∀j,∀i∈E j,0<=i/\i.toNat<s.cl.length
 wm:∀i,i<s.cl.length->∀x,(i:Int)∈E x↔x=cQ (cw s i 0)\/x=cQ (cw s i 1)
 w0:∀i,i<s.cl.length-> -(cw s i 0)∈s.trail.take s.done->(cw s i 0=a/\(i:Int)∈R)\/dh s.val (cw s i 1)=1
 w1:∀i,i<s.cl.length-> -(cw s i 1)∈s.trail.take s.done->(cw s i 1=a/\(i:Int)∈R)\/dh s.val (cw s i 0)=1
 snd:∀m,Md m->(∀c∈s.cl,holds m c=true)/\∀l∈s.trail,tv m l=true
 cov:∀c,Cv c->Cvd s c
section
variable {N:Nat} {Md:(Nat->Bool)->Prop} {Cv:List Int->Prop} {s:St} {E:Nat->List Int} {a:Int} {R:List Int}
theorem TI.le(h:TI N s):s.trail.length<=N:=by have:=h.ct;omega
def TI.true(h:TI N s){l:Int}(hl:l∈s.trail):=(h.tr l (h.tl l hl)).2 hl
def TI.false(h:TI N s){l:Int}(hl:LN N l)(hf:dh s.val l= -1):=(h.tr _ hl.neg).1 (by rw[mD _ hl.1,hf];rfl)
theorem TI.not(h:TI N s){l}(hl:LN N l)(hf:dh s.val l≠ -1):¬-l∈s.trail:=λhm=>hf (by have:=h.true hm;rw[mD _ hl.1] at this;omega)
theorem PI.mem(h:PI N Md Cv s E a R){i}(hi:i<s.cl.length):s.cl.getD i []∈s.cl:=by simp_all
theorem mE{c:List Int}{k}(hk:k<c.length):c.getD k 0∈c:=by simp_all
theorem PI.ln(h:PI N Md Cv s E a R){i k}(hi:i<s.cl.length)(hk:k<(s.cl.getD i []).length):LN N (cw s i k):=h.lit _ (h.mem hi) _ (mE hk)
def PI.le(h:PI N Md Cv s E a R)(j:Nat):=Ml (h.en j) (h.rg j)
theorem mF{c:List Int}(h:c.Nodup){i j}(d:i<c.length)(g:j<c.length)(f:i≠j):c.getD i 0≠c.getD j 0:=by rw[A2,A5 d,A2,A5 g];exact λe=>f ((List.getElem_inj h).1 e)
theorem PI.chg(h:PI N Md Cv s E a R){i}(O:i<s.cl.length){c'}(G:c'.Perm (s.cl.getD i [])){A}(K:∀x,(A x).Nodup) (H:∀x (n:Int),n≠i->(n∈A x↔n∈E x))(e3:∀x,(i:Int)∈A x↔x=cQ (c'.getD 0 0)\/x=cQ (c'.getD 1 0)){R'}(r:∀n:Int,n≠i->n∈R->n∈R') (Q: -(c'.getD 0 0)∈s.trail.take s.done->(c'.getD 0 0=a/\(i:Int)∈R')\/dh s.val (c'.getD 1 0)=1) (S: -(c'.getD 1 0)∈s.trail.take s.done->(c'.getD 1 0=a/\(i:Int)∈R')\/dh s.val (c'.getD 0 0)=1):PI N Md Cv (eW s i c') A a R':=by have hm:∀c∈(eW s i c').cl,c=c'\/c∈s.cl:=λc d=>by{rcases List.mem_or_eq_of_mem_set (show c∈s.cl.set i c' from d) with h|h;all_goals simp_all};have P:(eW s i c').cl.length=s.cl.length:=by{show(s.cl.set i c').length=_;simp};have L:(eW s i c').cl.getD i []=c':=by{show(s.cl.set i c').getD i []=c';simp_all};have g2:∀n,n≠i->(eW s i c').cl.getD n []=s.cl.getD n []:=λn g=>by{show(s.cl.set i c').getD n []=_;grind};have c1:∀k,cw (eW s i c') i k=c'.getD k 0:=λk=>by{unfold cw;rw[L]};have z:∀n k,n≠i->cw (eW s i c') n k=cw s n k:=λn k g=>by{unfold cw;simp_all};have D:=h.mem O;refine⟨⟨h.t.vl,h.t.vr,h.t.tl,h.t.tr,h.t.ct,h.t.dn⟩,λc d=> ?_,λc d l J=> ?_,λc d=> ?_,K,λj n g=> ?_,λn g x=> ?_,λn g f=> ?_,λn g f=> ?_,λm F=>⟨λc d=> ?_,(h.snd m F).2⟩,λc d=> ?_⟩;{rcases hm c d with rfl|d;{rw[G.length_eq];exact h.len _ D};exact h.len c d};{rcases hm c d with rfl|d;{exact h.lit _ D _ (G.mem_iff.1 J)};exact h.lit c d l J};{rcases hm c d with rfl|d;{exact G.nodup_iff.2 (h.nd _ D)};exact h.nd c d};{rw[P];by_cases e:n=i;{omega};exact h.rg j n ((H j n e).1 g)};{by_cases e:n=i;{simp_all};rw[z n 0 e,z n 1 e,H x n (by omega)];exact h.wm n (by omega) x};{by_cases e:n=i;{subst e;rw[c1] at f⊢;rw[c1];exact Q f};rw[z n 0 e] at f⊢;rw[z n 1 e];rcases h.w0 n (by omega) f with⟨q1,q2⟩|q;{grind};exact .inr q};{by_cases e:n=i;{subst e;rw[c1] at f⊢;rw[c1];exact S f};rw[z n 1 e] at f⊢;rw[z n 0 e];rcases h.w1 n (by omega) f with⟨q1,q2⟩|q;{grind};exact .inr q};{rcases hm c d with rfl|d;{have:=(h.snd m F).1 _ D;unfold holds at this⊢;grind};exact(h.snd m F).1 c d};rcases h.cov c d with q|q|⟨n,g,hq⟩;{exact .inl q};{exact .inr (.inl q)};refine .inr (.inr ⟨n,by omega,λl=> ?_⟩);grind
theorem C0 c{i j}(hi:i<c.length)(hj:j<c.length):(swp c i j).Perm c:=by unfold swp;grind
theorem qP c{i j}(hi:i<c.length)(hj:j<c.length) n:(swp c i j).getD n 0=if n=j then c.getD i 0 else if n=i then c.getD j 0 else c.getD n 0:=by unfold swp;grind
theorem PI.put(h:PI N Md Cv s E a R) k{l}(z:LN N l)(h0:dh s.val l=0) r(hs:∀m,Md m->tv m l=true):PI N Md Cv (gG k s l r) E a R:=by have J:(s.val.set l.natAbs (if l<0 then-1 else 1)).length=N:=by{rw[List.length_set];exact h.t.vl};have A:l.natAbs<s.val.length:=by{rw[h.t.vl];exact z.2};have hz:s.val.getD l.natAbs 0=0:=by{unfold dh at h0;omega};have mono:∀x,x≠0->dh s.val x=1->dh (gG k s l r).val x=1:=λx d f=>by{show dh (s.val.set l.natAbs (if l<0 then-1 else 1)) x=1;rw[CY A z.1 d];by_cases e:x=l;{omega};rw[if_neg e,if_neg (by intro j;subst j;rw[mD _ z.1,h0] at f;omega)];omega};have F:(gG k s l r).trail.take (gG k s l r).done=s.trail.take s.done:=by{show(s.trail++[l]).take s.done=_;rw[List.take_append_of_le_length h.t.dn]};refine⟨⟨J,λx d=> ?_,λx d=> ?_,λx d=> ?_,?_,?_⟩,h.len,h.lit,h.nd,h.en,h.rg,h.wm,λn g d=> ?_,λn g d=> ?_,λm D=>⟨(h.snd m D).1,λx d=> ?_⟩,λc H=> ?_⟩;{rcases List.mem_or_eq_of_mem_set (show x∈s.val.set l.natAbs (if l<0 then-1 else 1) from d) with f|f;{exact h.t.vr x f};omega};{rcases A6.1 (show x∈s.trail++[l] from d) with f|f;{exact h.t.tl x f};simp_all};{show dh (s.val.set l.natAbs (if l<0 then-1 else 1)) x=1↔x∈s.trail++[l];rw[CY A z.1 d.1,A6,List.mem_singleton];by_cases e:x=l;{omega};rw[if_neg e];by_cases j:x= -l;{rw[if_pos j];constructor;{omega};rintro(f|f);{have:=h.t.true f;rw[j,mD _ z.1,h0] at this;omega};omega};rw[if_neg j,h.t.tr x d];grind};{show(s.val.set l.natAbs (if l<0 then-1 else 1)).count 0+(s.trail++[l]).length=N;have G:s.val[l.natAbs]=0:=by{grind};rw[List.count_set A,G];have hne:((if l<0 then(-1:Int) else 1)==0)=false:=by{grind};have hpos:0<s.val.count 0:=List.count_pos_iff.2 (G▸Aj A);have:=h.t.ct;grind};{show s.done<=(s.trail++[l]).length;have:=h.t.dn;grind};{rw[F] at d;rcases h.w0 n g d with q|q;{exact .inl q};exact .inr (mono _ (h.ln g (by have:=h.len _ (h.mem g);omega)).1 q)};{rw[F] at d;rcases h.w1 n g d with q|q;{exact .inl q};exact .inr (mono _ (h.ln g (by have:=h.len _ (h.mem g);omega)).1 q)};{rcases A6.1 (show x∈s.trail++[l] from d) with f|f;{exact(h.snd m D).2 x f};simp_all};rcases h.cov c H with q|⟨x,q1,q2⟩|q;{exact .inl q};{exact .inr (.inl ⟨x,q1,Ak _ q2⟩)};exact .inr (.inr q)
end
