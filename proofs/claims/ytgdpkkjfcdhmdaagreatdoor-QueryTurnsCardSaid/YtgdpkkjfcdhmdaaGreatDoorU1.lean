/- Walk: may of the code (what both paths must be). -/
import Derived.Test.YtgdpkkjfcdhmdaaGreatDoorS0
import Derived.Test.YtgdpkkjfcdhmdaaGreatDoorS22
import Derived.Test.YtgdpkkjfcdhmdaaGreatDoorS17
import Derived.Test.YtgdpkkjfcdhmdaaGreatDoorS24
import Derived.Deep.MidRow
import Derived.Laws.OwnMore
import Derived.Maps.AppendAt
import Derived.OwnWalk
import Derived.Laws.AppendOwnNone
import Derived.Lib.AppendZerosOnto
namespace Go.Proofs.YtgdpkkjfcdhmdaaGreatDoor
open Go.RowKit
theorem made_rep{α:Type}(L:Lay α)(z:Value)(d:α)(hz:z.cells.toList=L.f d)(hs:z.cells.size=L.sz)(n:Nat):(madeCells z.cells (n*L.sz)).toList=L.flat (List.replicate n d):=by
 apply List.ext_getElem?;intro i;have hp:=L.pos;have hl:(L.flat (List.replicate n d)).length=n*L.sz:=by rw[Lay.flat_length,List.length_replicate]
 by_cases hi:i<n*L.sz
 ·have h1:i/L.sz<n:=(Nat.div_lt_iff_lt_mul hp).2 hi;have h2:i%L.sz<L.sz:=Nat.mod_lt _ hp;have h3:=L.flat_at d (List.replicate n d) (i/L.sz) (i%L.sz) (by rwa[List.length_replicate]) h2;rw[show i/L.sz*L.sz+i%L.sz=i by rw[Nat.mul_comm];exact Nat.div_add_mod i L.sz] at h3;rw[h3,show(List.replicate n d).getD (i/L.sz) d=d by rw[List.getD_eq_getElem?_getD,List.getElem?_replicate];split<;>rfl,<-hz];unfold madeCells;rw[Array.getElem?_toList,Array.getElem?_toList,Array.getElem?_map,Array.getElem?_range,if_pos hi,hs];simp only[Option.map_some];rw[getElem!_pos z.cells (i%L.sz) (by rw[hs];exact h2),Array.getElem?_eq_getElem (by rw[hs];exact h2)]
 ·rw[List.getElem?_eq_none (l:=L.flat _) (by rw[hl];omega),List.getElem?_eq_none (l:=(madeCells _ _).toList) (by rw[Array.length_toList,size_madeCells];omega)]
theorem make_lay{α:Type}{L:Lay α}{P:Program}{t e:TypeId}{z:Value}{bytes:Nat}(T:ElemT P L t e z bytes)(d:α)(hz:z.cells.toList=L.f d){w:World}{ops:Array Oper}{rest:List Oper}{o:Oper}{a:Act}{Q:Exit->Act->World->Prop}(hg:o.guard=none)(l c:Operand)(hop:o.op=Op.makeSlice t l c)
  (base n:Nat)(x:Int)(hl:a.eval l= .int .i64 x)(hc:a.eval c= .int .i64 x)(hx:x=(n:Int))(hn:n<=100000)(g:Nat)(hgz:w.heap.size=g)(hb:base<=g)
  (hK:∀w',L.Own e w' base (.slice (some ⟨g,0,none⟩) n n) (List.replicate n d)->Below base w w'->wpList P ops Q rest (a.put o.dst (.slice (some ⟨g,0,none⟩) n n)) w'):wpList P ops Q (o::rest) a w:=by
 subst hgz;obtain⟨i0,hi,hz0,hz1,hz2⟩:=info_parts T.info;have hby:=T.by_;refine wpList_make_full w hg l c t hop base e i0 z L.sz T.und hi hz0 hz1 .i64 .i64 x x n hl hc hx hx (by rw[hz2];have:bytes*n<=100*100000:=Nat.mul_le_mul hby hn;omega) (by unfold maxLen;omega) hb ?_;intro w' h1 h2;refine hK w' ?_ ((Below.refl base w).grown h2 hb (λ k hk=>by cases hk));unfold Lay.Own;rw[List.length_replicate,<-made_rep L z d hz T.zs n];exact h1
section
variable {α:Type} {L:Lay α}
theorem Lay.flat_set(h1:L.sz=1){x:α}{u:Value}(hu:L.f x=[u]):∀(xs:List α) (j:Nat),(L.flat xs).set j u=L.flat (xs.set j x)
 |[],j=>rfl
 |y::ys,j=>by
  obtain⟨y',hy⟩:∃y',L.f y=[y']:=by
   have:=L.len y;rw[h1] at this
   match hf:L.f y,this with
   |[a],_=>exact⟨a,rfl⟩
  have e:L.flat (y::ys)=y'::L.flat ys:=by simp[Lay.flat,hy]
  cases j with
  |zero=>
   rw[e];show u::L.flat ys=L.flat (x::ys);simp[Lay.flat,hu]
  |succ j=>
   rw[e];show y'::(L.flat ys).set j u=L.flat (y::ys.set j x);rw[Lay.flat_set h1 hu ys j];simp[Lay.flat,hy]
theorem Lay.Own.put1(h1:L.sz=1){e:TypeId}{w:World}{base g n cap:Nat}{xs:List α}(h:L.Own e w base (.slice (some ⟨g,0,none⟩) n cap) xs)(hn:xs.length=n){x:α}{u:Value}(hu:L.f x=[u])(j:Nat):
  L.Own e (w.setCell ⟨g,j,none⟩ u) base (.slice (some ⟨g,0,none⟩) n cap) (xs.set j x)/\w.grownBy (w.setCell ⟨g,j,none⟩ u) (some g)/\w.frozen? ⟨g,j,none⟩=false:=by
 subst hn;have h':w.ownsRow base e 1 (.slice (some ⟨g,0,none⟩) xs.length cap) xs.length (L.flat xs):=by rw[<-h1];exact h
 obtain⟨s1,s2⟩:=World.ownsRow.stored h' j u;rw[Lay.flat_set h1 hu] at s1;refine⟨?_,s2,World.ownsRow.frozenAt h' j⟩;unfold Lay.Own;rw[List.length_set,h1];exact s1
end
theorem boolCell{w:World}{base g n cap:Nat}{N:List Bool}(h:Lay.bool.Own 4 w base (.slice (some ⟨g,0,none⟩) n cap) N){t:Nat}(ht:t<N.length):w.cell? ⟨g,t,none⟩=some (.bool (N.getD t false)):=by
 obtain⟨a2,c2,e2,hat2,_,_⟩:=h.at_ (d:=false);injection e2 with e2 _ _;subst e2;obtain⟨b',o',e',_,hc'⟩:=hat2 t ht;injection e' with e';injection e' with e3 e4 _;subst e3 e4;have h0:=hc' 0 (by decide);simpa[Lay.bool] using h0
theorem wordCell{k:IntKind}{e:TypeId}{w:World}{base g n cap:Nat}{N:List Int}(h:(Lay.int k).Own e w base (.slice (some ⟨g,0,none⟩) n cap) N){t:Nat}(ht:t<N.length):w.cell? ⟨g,t,none⟩=some (.int k (N.getD t 0)):=by
 obtain⟨a2,c2,e2,hat2,_,_⟩:=h.at_ (d:=0);injection e2 with e2 _ _;subst e2;obtain⟨b',o',e',_,hc'⟩:=hat2 t ht;injection e' with e';injection e' with e3 e4 _;subst e3 e4;have h0:=hc' 0 (Lay.int k).pos;simpa[Lay.int] using h0
theorem Tryz.elemB:ElemT Tryz.prog Lay.bool 26 4 (.bool false) 1:=⟨Tryz.underlying26,by kernel_rfl,rfl,by decide⟩
theorem Tryz.elemU:ElemT Tryz.prog (Lay.int .u64) 31 46 (.int .u64 0) 8:=⟨Tryz.underlying31,by kernel_rfl,rfl,by decide⟩
section
variable {α:Type} {L:Lay α} {d:α} {t e:TypeId} {z:Value} {bytes:Nat}
theorem run_some(T:ElemT Tryz.prog L t e z bytes){w:World}{base:Nat}{v:Value}{ps qs:List α}{ad:Addr}{m c:Nat}(hown:L.Own e w base v ps)(hm:qs.length=m)(hnews:∀j u,(L.flat qs)[j]? =some u->w.cell? (ad.add j)=some u)
  (hl:ps.length+m<=1000000)(hbase:base<=w.heap.size)(ty:TypeId):
  ∃v' w',(Builtin.append_ #[t,t] ty #[v,.slice (some ad) m c]).run Tryz.prog w= .ok v' w'/\L.Own e w' base v' (ps++qs)/\w.grownBy w' v.ownBlock/\(v'.ownBlock=v.ownBlock\/v'.ownBlock=some w.heap.size):=by
 obtain⟨i0,hi,hz0,hz1,hz2⟩:=info_parts T.info;subst hm;have hb:=T.by_;have hbs:(ps.length+qs.length)*bytes<=140737488355328:=by
  have:=Nat.mul_le_mul hl hb;omega
 obtain⟨v',w',hr,h1,h2,_,h4⟩:=run_append_own_at (P:=Tryz.prog) w base t ty e i0 _ L.sz bytes T.und hi hz0 hz1 hz2 T.zs L.pos v ps.length (L.flat ps) hown ad qs.length c (L.flat qs) (L.flat_length qs) hnews (L.flat_one qs) (by unfold maxLen;omega) hbs hbase;refine⟨v',w',hr,?_,h2,h4⟩;unfold Lay.Own;rw[L.flat_append,List.length_append];exact h1
theorem at_news{w:World}{ad:Addr}{qs:List α}(hat:L.At d w (some ad) qs):∀j u,(L.flat qs)[j]? =some u->w.cell? (ad.add j)=some u:=λ j u hj=>by
 have hj':=(List.getElem?_eq_some_iff.1 hj).1;rw[L.flat_length] at hj';have hp:=L.pos;have hi:j/L.sz<qs.length:=Nat.div_lt_of_lt_mul (by rw[Nat.mul_comm];exact hj');obtain⟨b,o,e,_,h1⟩:=hat (j/L.sz) hi;injection e with e;subst e;have hm:=Nat.mod_lt j hp;have e2:j/L.sz*L.sz+j%L.sz=j:=by rw[Nat.mul_comm];exact Nat.div_add_mod j L.sz
 have:=h1 (j%L.sz) hm;rw[Nat.add_assoc,e2,<-L.flat_at d qs _ _ hi hm,e2] at this;rw[add_at,this,hj]
structure Fresh (L:Lay α) (e:TypeId) (w:World) (base:Nat) (v:Value) (xs:List α):Prop where
 own:L.Own e w base v xs
theorem Fresh.form{w:World}{base n:Nat}{v:Value}{xs:List α}(h:Fresh L e w base v xs)(hn:xs.length=n)(h0:0<n):∃g cap,v= .slice (some ⟨g,0,none⟩) n cap/\base<=g/\g<w.heap.size:=by
 subst hn;have hlt:=h.own.lt;rcases h.own.2 with⟨hv,hx⟩|⟨g,c2,cur,hv,hb,hg,_⟩
 ·omega
 ·exact⟨g,c2,hv,hb,(Array.getElem?_eq_some_iff.1 hg).1⟩
theorem step_copy(T:ElemT Tryz.prog L t e z bytes){W:World}{ops:Array Oper}{o:Oper}{a:Act}{K:Act->World->Prop}{Q:Exit->Act->World->Prop}{E:Prop}(hgd:o.guard=none)(s x:Operand)
  (ho:o.op= .call {callee:=.builtin .append,args:=#[s,x],argTypes:=#[t,t]}){base:Nat}{qs:List α}{ad:Addr}{m c:Nat}
  (hs:a.eval s= .slice none 0 0)(hx:a.eval x= .slice (some ad) m c)(hm:qs.length=m)(hat:L.At d W (some ad) qs)(hl:m<=1000000)(hbase:base<=W.heap.size)
  (h:∀v' w',Fresh L e w' base v' qs->W.grownBy w' none->K (a.put o.dst v') w'):
  if Region.wanted o (yielded ops a.tmps)=true then Oper.wp Tryz.prog o a W K Q else E:=by
 have hw:Region.wanted o (yielded ops a.tmps)=true:=by simp[Region.wanted,hgd]
 rw[if_pos hw];obtain⟨v',w',hr,h1,h2,h3⟩:=run_some T (c:=c) (Lay.Own.nil W base) hm (at_news hat) (by simpa using hl) hbase o.type;exact Lib.wp_append_run W s x t t ho _ _ hs hx v' w' hr (h v' w' ⟨h1⟩ h2)
end
def inB(m:Nat)(p:Int×Int):Bool:=decide (0<=p.1)&&decide (p.1<m)
def pathOk(nl nx ny:Nat)(p:PathN):Bool:=p.os.all (inB nx)&&p.rs.all (inB ny)&&(p.cs++p.os.map (·.2)++p.rs.map (·.2)).all (isB nl)
section
variable {nl nx ny:Nat} {p:PathN}
theorem pathOk_outs{o:Int×Int}(h:o∈p.os)(hb:inB nx o=false):pathOk nl nx ny p=false:=by
 unfold pathOk;rw[show p.os.all (inB nx)=false from List.all_eq_false.2 ⟨o,h,by rw[hb];decide⟩];rfl
theorem pathOk_rels{o:Int×Int}(h:o∈p.rs)(hb:inB ny o=false):pathOk nl nx ny p=false:=by
 unfold pathOk;rw[show p.rs.all (inB ny)=false from List.all_eq_false.2 ⟨o,h,by rw[hb];decide⟩];simp
theorem pathOk_terms{t:Int}(h:t∈p.cs++p.os.map (·.2)++p.rs.map (·.2))(hb:isB nl t=false):pathOk nl nx ny p=false:=by
 unfold pathOk;rw[show(p.cs++p.os.map (·.2)++p.rs.map (·.2)).all (isB nl)=false from List.all_eq_false.2 ⟨t,h,by rw[hb];decide⟩];simp
theorem pathOk_all(h1:p.os.all (inB nx)=true)(h2:p.rs.all (inB ny)=true)(h3:(p.cs++p.os.map (·.2)++p.rs.map (·.2)).all (isB nl)=true):pathOk nl nx ny p=true:=by
 unfold pathOk;rw[h1,h2,h3];rfl
end
def mayR(b:Bool):Int:=if b then 0 else 3
set_option maxRecDepth 100000 in
set_option maxHeartbeats 8000000 in
theorem may23{sb lb:Nat}{ca0:Option Addr}{cc0:Nat}{xs:List Int}{sa0:Option Addr}{sc0:Nat}{ys:List Int}(n gb nl:Nat){na:Option Addr}{nc:Nat}(level:Int)(pa:Option Addr)(pc:Nat)(ps:List PathN)(w:World)
  (hs:SideAt w sb lb ca0 cc0 xs sa0 sc0 ys)(hn:w.cell? ⟨lb,0,none⟩=some (.int .i64 n))(hg:w.cell? ⟨gb,2,none⟩=some (.slice na nl nc))(hp:Lay.path.At default w pa ps)(hok:∀p∈ps,p.Ok w/\p.short)(hpl:ps.length<=1000):
  Calls Tryz.prog 23 #[.pointer (some ⟨sb,0,none⟩),.pointer (some ⟨gb,0,none⟩),.int .i64 level,.slice pa ps.length pc] w λ e w'=>e= .returned (.int .i64 (mayR (isB n level&&ps.all (pathOk nl xs.length ys.length))))/\Below w.heap.size w w':=by
 have HS:=Z hs;have HP:=Z hp;have HOK:=Z hok;have HG2:=Z hg;have HGL:Hid (gb<w.heap.size):=Z (World.block_lt_of_cell? w _ hg);have s0:=hs.l;have HN:=Z (len_any lb n w hn);clear hs hp hok hg hn;generalize hnx:xs.length=nx at*;generalize hny:ys.length=ny at*;have HNX:=Z hnx;have HNY:=Z hny;clear hnx hny;by_cases h0:level<0
 ·have HR:Hid (isB n level=false):=Z (by simp[isB];omega);generalize ps.length=m at*;go_enter Tryz.func23,Tryz.ntmps23
  go_wp2_with fail
  go_ret
  exact⟨by rw[HR.o];rfl,Below.refl _ _⟩
 ·have h0':decide (level<0)=false:=by simpa using h0
  by_cases h1:(n:Int)<=level
  ·have HR:Hid (isB n level=false):=Z (by simp[isB];omega);generalize ps.length=m at*;go_enter Tryz.func23,Tryz.ntmps23
   go_wp2_with fail
   refine HN.o.mono ?_;rintro e w' ⟨rfl,rfl⟩
   go_wp2_with fail
   go_ret
   exact⟨by rw[HR.o];rfl,Below.refl _ _⟩
  ·have h1':decide ((n:Int)<=level)=false:=by simpa using h1
   have HR:Hid (isB n level=true):=Z (by simp[isB];omega);generalize hm:ps.length=m at*;have HM:=Z hm;have HTP:Hid (∀k,k<m->ps.take (k+1)=ps.take k++[ps.getD k default]):=Z λ k hk=>take_getD default ps k (by omega)
   have HFP:Hid (ps.take m=ps):=Z (by rw[<-hm,List.take_length]);clear hm;go_enter Tryz.func23,Tryz.ntmps23
   go_wp2_with fail
   refine HN.o.mono ?_;rintro e w' ⟨rfl,rfl⟩
   go_wp2_with fail
   go_loopw [36] (λ i wr=>∃k:Nat,k<=m/\i= .int .i64 k/\Hid ((ps.take k).all (pathOk nl nx ny)=true)/\Below w.heap.size w wr) (λ i _=>m-(intOf i).toNat)
   case atStart=>exact⟨0,by omega,rfl,Z (by simp),Below.refl _ _⟩
   case round=>
    obtain⟨k,hk,rfl,HAL,hbel⟩:=hrel;have HBE:=Z hbel;have hsz:=hbel.size;clear hbel;by_cases hlt:k<m
    ·have hq:k<ps.length:=by rw[HM.o];exact hlt
     obtain⟨pb,po,rfl,hpb,k0,k1,k2,k3,k4,k5,k6⟩:=path_cells (HP.o.below HBE.o) hq;have hmem:=getD_mem default ps k hq;have HTK:=Z (HTP.o k hlt);have HFAIL:Hid (pathOk nl nx ny (ps.getD k default)=false->mayR (isB n level&&ps.all (pathOk nl nx ny))=3):=Z λ h=>by
      rw[show ps.all (pathOk nl nx ny)=false from List.all_eq_false.2 ⟨_,hmem,by rw[h];decide⟩,Bool.and_false];rfl
     obtain⟨p1,p2⟩:=HOK.o _ hmem;have HPK:=Z p1;have HSH:=Z p2;have hki:(k:Int)<m:=by omega
     clear p1 p2 hmem hq;generalize ps.getD k default=p at*;obtain⟨ca,cc,cs,st,sp,oa,oc,os,ra,rc,rs,ba,bc,bs,ia,ic,is⟩:=p;simp only at k0 k1 k2 k3 k4 k5 k6;have HFO:Hid (∀o,o∈os->inB nx o=false->mayR (isB n level&&ps.all (pathOk nl nx ny))=3):=Z λ o ho h=>HFAIL.o (pathOk_outs ho h)
     have HFR:Hid (∀o,o∈rs->inB ny o=false->mayR (isB n level&&ps.all (pathOk nl nx ny))=3):=Z λ o ho h=>HFAIL.o (pathOk_rels ho h)
     have HFT:Hid (∀t,t∈cs++os.map (·.2)++rs.map (·.2)->isB nl t=false->mayR (isB n level&&ps.all (pathOk nl nx ny))=3):=Z λ t ht h=>HFAIL.o (pathOk_terms ht h)
     have HGD:=Z (λ(h1:os.all (inB nx)=true) (h2:rs.all (inB ny)=true) (h3:(cs++os.map (·.2)++rs.map (·.2)).all (isB nl)=true)=>pathOk_all (p:=⟨ca,cc,cs,st,sp,oa,oc,os,ra,rc,rs,ba,bc,bs,ia,ic,is⟩) h1 h2 h3);have hos:os.length<=12:=HSH.o.2.1;have hrs:rs.length<=12:=HSH.o.2.2.1;obtain⟨bp,hgp,gb⟩:=box_new wr [.slice ca cs.length cc,.int .u8 st,.int .i64 sp,.slice oa os.length oc,.slice ra rs.length rc,.slice ba bs.length bc,.slice ia is.length ic] 28 rfl;obtain⟨g0,g1,g2,g3,g4,g5,g6⟩:=gb.get7;have GB:=Z gb;have HBP:=Z (HBE.o.trans (bp.mono hsz));clear bp gb
     go_wp2_with fail
     generalize wr.alloc (.cells #[.slice ca cs.length cc,.int .u8 st,.int .i64 sp,.slice oa os.length oc,.slice ra rs.length rc,.slice ba bs.length bc,.slice ia is.length ic] 28)=wp at*;generalize wr.heap.size=gp at*
     go_loopw [43] (λ i wr=>∃j:Nat,j<=os.length/\i= .int .i64 j/\Hid ((os.take j).all (inB nx)=true)/\Below wp.heap.size wp wr) (λ i _=>os.length-(intOf i).toNat)
     case atStart=>exact⟨0,by omega,rfl,Z (by simp),Below.refl _ _⟩
     case round=>
      obtain⟨j,hj,rfl,HAJ,hbx⟩:=hrel;have HBX:=Z hbx;have hszx:=hbx.size;clear hbx;by_cases hlj:j<os.length
      ·obtain⟨qb,qo,rfl,hqb,q0,q1⟩:=(HPK.o.o.below HBP.o).sev hlj;have c0:=(HBX.o.cell (p:=⟨qb,qo+j*2,none⟩) hqb).trans q0;have c1:=(HBX.o.cell (p:=⟨qb,qo+j*2+1,none⟩) hqb).trans q1;have HTJ:=Z (take_getD (0,0) os j hlj);have HBJ:=Z (HFO.o _ (getD_mem (0,0) os j hlj));have hji:(j:Int)<os.length:=by omega
       clear q0 q1;generalize os.getD j (0,0)=ev at*;obtain⟨N,T⟩:=ev;simp only at c0 c1;have BY:Below wr.heap.size wr (wr.alloc (.cells #[.int .i64 N,.int .i64 T] 83)):=(Below.refl _ _).alloc (Nat.le_refl _) _;have hY:Below wp.heap.size wp (wr.alloc (.cells #[.int .i64 N,.int .i64 T] 83)):=HBX.o.trans (BY.mono hszx);have y0:(wr.alloc (.cells #[.int .i64 N,.int .i64 T] 83)).cell? ⟨wr.heap.size,0,none⟩=some (.int .i64 N):=by rw[World.cell?_alloc_new];rfl
       have s1:=(HS.o.below (HBP.o.trans (hY.mono HBP.o.size))).c1;rw[HNX.o] at s1;have HY:=Z hY;clear BY hY;by_cases h0:N<0
       ·have HR:=Z (HBJ.o (by simp[inB];omega))
        go_wp2_with fail
        generalize wr.alloc (.cells #[.int .i64 N,.int .i64 T] 83)=wy at*
        go_quiet(fail)
        go_wp2_with fail
        go_ret
        exact⟨(by rw[HR.o];first|done|rfl),below_drewN (HBP.o.trans (HY.o.mono HBP.o.size)) _⟩
       ·have h0':decide (N<0)=false:=by simpa using h0
        by_cases h1:(nx:Int)<=N
        ·have HR:=Z (HBJ.o (by simp[inB];omega))
         go_wp2_with fail
         generalize wr.alloc (.cells #[.int .i64 N,.int .i64 T] 83)=wy at*
         go_quiet(fail)
         go_wp2_with fail
         go_ret
         exact⟨(by rw[HR.o];first|done|rfl),below_drewN (HBP.o.trans (HY.o.mono HBP.o.size)) _⟩
        ·have h1':decide ((nx:Int)<=N)=false:=by simpa using h1
         have HI:Hid (inB nx (N,T)=true):=Z (by simp[inB];omega)
         go_wp2_with fail
         generalize wr.alloc (.cells #[.int .i64 N,.int .i64 T] 83)=wy at*
         go_quiet(fail)
         go_wp2_with fail
         go_roundw
         case rel=>exact⟨j+1,by omega,by go_num,Z (by rw[HTJ.o,List.all_append,HAJ.o];simp[HI.o]),below_drewN HY.o _⟩
         case measure=>simp[intOf]<;>omega
      ·obtain rfl:j=os.length:=by omega
       have HAos:Hid (os.all (inB nx)=true):=Z (by have:=HAJ.o;rwa[List.take_length] at this);clear HAJ hj;have HBR:=Z (HBP.o.trans (HBX.o.mono HBP.o.size));have DB:=Z (GB.o.below HBX.o hgp);obtain⟨d0,d1,d2,d3,d4,d5,d6⟩:=DB.o.get7;have hgr:gp<wr.heap.size:=Nat.lt_of_lt_of_le hgp hszx;clear HBX hszx g0 g1 g2 g3 g4 g5 g6;generalize wr=wq at*
       go_wp2_with fail
       go_loopw [64] (λ i wr=>∃j:Nat,j<=rs.length/\i= .int .i64 j/\Hid ((rs.take j).all (inB ny)=true)/\Below wq.heap.size wq wr) (λ i _=>rs.length-(intOf i).toNat)
       case atStart=>exact⟨0,by omega,rfl,Z (by simp),Below.refl _ _⟩
       case round=>
        obtain⟨j,hj,rfl,HAJ,hbx⟩:=hrel;have HBX:=Z hbx;have hszx:=hbx.size;clear hbx;by_cases hlj:j<rs.length
        ·obtain⟨qb,qo,rfl,hqb,q0,q1⟩:=(HPK.o.r.below HBR.o).sev hlj;have c0:=(HBX.o.cell (p:=⟨qb,qo+j*2,none⟩) hqb).trans q0;have c1:=(HBX.o.cell (p:=⟨qb,qo+j*2+1,none⟩) hqb).trans q1;have HTJ:=Z (take_getD (0,0) rs j hlj);have HBJ:=Z (HFR.o _ (getD_mem (0,0) rs j hlj));have hji:(j:Int)<rs.length:=by omega
         clear q0 q1;generalize rs.getD j (0,0)=ev at*;obtain⟨N,T⟩:=ev;simp only at c0 c1;have BY:Below wr.heap.size wr (wr.alloc (.cells #[.int .i64 N,.int .i64 T] 83)):=(Below.refl _ _).alloc (Nat.le_refl _) _;have hY:Below wq.heap.size wq (wr.alloc (.cells #[.int .i64 N,.int .i64 T] 83)):=HBX.o.trans (BY.mono hszx);have y0:(wr.alloc (.cells #[.int .i64 N,.int .i64 T] 83)).cell? ⟨wr.heap.size,0,none⟩=some (.int .i64 N):=by rw[World.cell?_alloc_new];rfl
         have s1:=(HS.o.below (HBR.o.trans (hY.mono HBR.o.size))).c2;rw[HNY.o] at s1;have HY:=Z hY;clear BY hY;by_cases h0:N<0
         ·have HR:=Z (HBJ.o (by simp[inB];omega))
          go_wp2_with fail
          generalize wr.alloc (.cells #[.int .i64 N,.int .i64 T] 83)=wy at*
          go_quiet(fail)
          go_wp2_with fail
          go_ret
          exact⟨(by rw[HR.o];first|done|rfl),below_drewN (HBR.o.trans (HY.o.mono HBR.o.size)) _⟩
         ·have h0':decide (N<0)=false:=by simpa using h0
          by_cases h1:(ny:Int)<=N
          ·have HR:=Z (HBJ.o (by simp[inB];omega))
           go_wp2_with fail
           generalize wr.alloc (.cells #[.int .i64 N,.int .i64 T] 83)=wy at*
           go_quiet(fail)
           go_wp2_with fail
           go_ret
           exact⟨(by rw[HR.o];first|done|rfl),below_drewN (HBR.o.trans (HY.o.mono HBR.o.size)) _⟩
          ·have h1':decide ((ny:Int)<=N)=false:=by simpa using h1
           have HI:Hid (inB ny (N,T)=true):=Z (by simp[inB];omega)
           go_wp2_with fail
           generalize wr.alloc (.cells #[.int .i64 N,.int .i64 T] 83)=wy at*
           go_quiet(fail)
           go_wp2_with fail
           go_roundw
           case rel=>exact⟨j+1,by omega,by go_num,Z (by rw[HTJ.o,List.all_append,HAJ.o];simp[HI.o]),below_drewN HY.o _⟩
           case measure=>simp[intOf]<;>omega
        ·obtain rfl:j=rs.length:=by omega
         have HArs:Hid (rs.all (inB ny)=true):=Z (by have:=HAJ.o;rwa[List.take_length] at this);clear HAJ hj;have HBT:=Z (HBR.o.trans (HBX.o.mono HBR.o.size));have HTC:Hid (Calls Tryz.prog 25 #[.agg #[.slice ca cs.length cc,.int .u8 st,.int .i64 sp,.slice oa os.length oc,.slice ra rs.length rc,.slice ba bs.length bc,.slice ia is.length ic]] wr _):=Z (terms25 wr ⟨ca,cc,cs,st,sp,oa,oc,os,ra,rc,rs,ba,bc,bs,ia,ic,is⟩ (HPK.o.below HBT.o) HSH.o);obtain⟨e0,e1,e2,e3,e4,e5,e6⟩:=(DB.o.below HBX.o hgr).get7;clear HBX d0 d1 d2 d3 d4 d5 d6
         go_wp2_with fail
         refine HTC.o.mono ?_;rintro e w5 ⟨v5,rfl,ho5,hb5⟩;obtain⟨ta,tc,rfl,hta,_,_⟩:=ho5.at_ (d:=0);have HTA:=Z hta;have HB5:=Z (HBT.o.trans (hb5.mono HBT.o.size));have hg5:=(HB5.o.cell (p:=⟨gb,2,none⟩) HGL.o).trans HG2.o;have HC:=Z (len58 gb nl w5 hg5);have HTL:Hid ((cs++os.map (·.2)++rs.map (·.2)).length<=100):=Z (by have:=HSH.o;simp only[PathN.short] at this;simp only[List.length_append,List.length_map];omega);have HTT:Hid (∀j,j<(cs++os.map (·.2)++rs.map (·.2)).length->(cs++os.map (·.2)++rs.map (·.2)).take (j+1)=(cs++os.map (·.2)++rs.map (·.2)).take j++[(cs++os.map (·.2)++rs.map (·.2)).getD j 0]):=Z λ j hj=>take_getD 0 _ j hj
         have HBC:Hid (∀j,j<(cs++os.map (·.2)++rs.map (·.2)).length->isB nl ((cs++os.map (·.2)++rs.map (·.2)).getD j 0)=false->mayR (isB n level&&ps.all (pathOk nl nx ny))=3):=Z λ j hj h=>HFT.o _ (getD_mem 0 _ j hj) h
         have HGC:=Z (λ h=>HGD.o HAos.o HArs.o h);clear ho5 hb5 hta e0 e1 e2 e3 e4 e5 e6 HTC;generalize cs++os.map (·.2)++rs.map (·.2)=ts at*;have HFT:Hid (ts.take ts.length=ts):=Z List.take_length
         go_wp2_with fail
         have htl:=HTL.o
         go_loop [85] (λ i=>∃j:Nat,j<=ts.length/\i= .int .i64 j/\Hid ((ts.take j).all (isB nl)=true)) (λ i=>ts.length-(intOf i).toNat)
         case atStart=>exact⟨0,by omega,rfl,Z (by simp)⟩
         case round=>
          obtain⟨j,hj,rfl,HAJ⟩:=hrel;by_cases hlj:j<ts.length
          ·obtain⟨qb,qo,rfl,hqb,q0⟩:=HTA.o.int hlj;have HTJ:=Z (HTT.o j hlj);have HBJ:=Z (HBC.o j hlj);have hji:(j:Int)<ts.length:=by omega
           clear hqb;generalize ts.getD j 0=t at*;by_cases h0:t<0
           ·have HR:=Z (HBJ.o (by simp[isB];omega))
            go_wp2_with fail
            go_ret
            exact⟨(by rw[HR.o];first|done|rfl),HB5.o⟩
           ·have h0':decide (t<0)=false:=by simpa using h0
            by_cases h1:(nl:Int)<=t
            ·have HR:=Z (HBJ.o (by simp[isB];omega))
             go_wp2_with fail
             refine HC.o.mono ?_;rintro e w' ⟨rfl,rfl⟩
             go_wp2_with fail
             go_ret
             exact⟨(by rw[HR.o];first|done|rfl),HB5.o⟩
            ·have h1':decide ((nl:Int)<=t)=false:=by simpa using h1
             have HI:Hid (isB nl t=true):=Z (by simp[isB];omega)
             go_wp2_with fail
             refine HC.o.mono ?_;rintro e w' ⟨rfl,rfl⟩
             go_wp2_with fail
             go_round
             case rel=>exact⟨j+1,by omega,by go_num,Z (by rw[HTJ.o,List.all_append,HAJ.o];simp[HI.o])⟩
             case measure=>simp[intOf]<;>omega
          ·obtain rfl:j=ts.length:=by omega
           rw[HFT.o] at HAJ;have HPG:=Z (HGC.o HAJ.o)
           go_wp2_with fail
           go_roundw
           case rel=>exact⟨k+1,by omega,by go_num,Z (by rw[HTK.o,List.all_append,HAL.o];simp[HPG.o]),HB5.o⟩
           case measure=>simp[intOf]<;>omega
    ·obtain rfl:k=m:=by omega
     rw[HFP.o] at HAL
     go_wp2_with fail
     go_ret
     exact⟨by rw[HAL.o,HR.o];rfl,HBE.o⟩
end Go.Proofs.YtgdpkkjfcdhmdaaGreatDoor
