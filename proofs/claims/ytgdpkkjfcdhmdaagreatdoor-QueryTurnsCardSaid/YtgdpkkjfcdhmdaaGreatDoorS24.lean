/- Blocks of cells in memory. -/
import Derived.Test.YtgdpkkjfcdhmdaaGreatDoorS0
import Derived.Test.YtgdpkkjfcdhmdaaGreatDoorProg
import Derived.Test.YtgdpkkjfcdhmdaaGreatDoorS23
import Derived.Test.YtgdpkkjfcdhmdaaGreatDoorS17
import Derived.Test.YtgdpkkjfcdhmdaaGreatDoorS16
import Derived.Shelf.Sort.Plain
import Derived.Shelf.Slices.In.SortNone
import Derived.Sort.OwnSortedInts
namespace Go.Proofs.YtgdpkkjfcdhmdaaGreatDoor
open Go.Shelf
def Tryz.lays189_ren:Go.Shelf.Ren:=⟨λ|189=>61|125=>99|257=>98|128=>129|129=>130|294=>120|295=>121|296=>122|297=>123|298=>124|299=>125|216=>126|300=>127|301=>128|328=>165|329=>166|330=>167|331=>168|332=>169|215=>170|343=>181|n=>n,λ|28=>24|3=>3|46=>204|0=>0|51=>108|53=>46|4=>4|183=>257|182=>256|131=>245|5=>5|9=>9|218=>279|222=>282|228=>290|229=>291|n=>n,λ|n=>n⟩
theorem Tryz.lays189:Go.Proofs.Lays.n189 Tryz.prog Tryz.lays189_ren:={
 mixed:=by kernel_rfl
 f125:=Tryz.func99.trans (congrArg some (by kernel_rfl))
 f128:=Tryz.func129.trans (congrArg some (by kernel_rfl))
 f129:=Tryz.func130.trans (congrArg some (by kernel_rfl))
 f189:=Tryz.func61.trans (congrArg some (by kernel_rfl))
 f215:=Tryz.func170.trans (congrArg some (by kernel_rfl))
 f216:=Tryz.func126.trans (congrArg some (by kernel_rfl))
 f257:=Tryz.func98.trans (congrArg some (by kernel_rfl))
 f294:=Tryz.func120.trans (congrArg some (by kernel_rfl))
 f295:=Tryz.func121.trans (congrArg some (by kernel_rfl))
 f296:=Tryz.func122.trans (congrArg some (by kernel_rfl))
 f297:=Tryz.func123.trans (congrArg some (by kernel_rfl))
 f298:=Tryz.func124.trans (congrArg some (by kernel_rfl))
 f299:=Tryz.func125.trans (congrArg some (by kernel_rfl))
 f300:=Tryz.func127.trans (congrArg some (by kernel_rfl))
 f301:=Tryz.func128.trans (congrArg some (by kernel_rfl))
 f328:=Tryz.func165.trans (congrArg some (by kernel_rfl))
 f329:=Tryz.func166.trans (congrArg some (by kernel_rfl))
 f330:=Tryz.func167.trans (congrArg some (by kernel_rfl))
 f331:=Tryz.func168.trans (congrArg some (by kernel_rfl))
 f332:=Tryz.func169.trans (congrArg some (by kernel_rfl))
 f343:=Tryz.func181.trans (congrArg some (by kernel_rfl))
 t0:=Tryz.underlying0
 a0:=Tryz.isAgg0
 z0:=Tryz.sizeOf0
 v0:=Tryz.zeroValue0
 t3:=Tryz.underlying3
 a3:=Tryz.isAgg3
 z3:=Tryz.sizeOf3
 v3:=Tryz.zeroValue3
 t4:=Tryz.underlying4
 a4:=Tryz.isAgg4
 z4:=Tryz.sizeOf4
 v4:=Tryz.zeroValue4
 t5:=Tryz.underlying5
 a5:=Tryz.isAgg5
 z5:=Tryz.sizeOf5
 v5:=Tryz.zeroValue5
 t9:=Tryz.underlying9
 a9:=Tryz.isAgg9
 z9:=Tryz.sizeOf9
 v9:=Tryz.zeroValue9
 t28:=Tryz.underlying24
 a28:=Tryz.isAgg24
 z28:=Tryz.sizeOf24
 v28:=Tryz.zeroValue24
 t46:=Tryz.underlying204
 a46:=Tryz.isAgg204
 z46:=Tryz.sizeOf204
 v46:=Tryz.zeroValue204
 t51:=Tryz.underlying108
 a51:=Tryz.isAgg108
 z51:=Tryz.sizeOf108
 v51:=Tryz.zeroValue108
 t53:=Tryz.underlying46
 a53:=Tryz.isAgg46
 z53:=Tryz.sizeOf46
 v53:=Tryz.zeroValue46
 t131:=Tryz.underlying245
 a131:=Tryz.isAgg245
 z131:=Tryz.sizeOf245
 v131:=Tryz.zeroValue245
 t182:=Tryz.underlying256
 a182:=Tryz.isAgg256
 z182:=Tryz.sizeOf256
 v182:=Tryz.zeroValue256
 t183:=Tryz.underlying257
 a183:=Tryz.isAgg257
 z183:=Tryz.sizeOf257
 v183:=Tryz.zeroValue257
 t218:=Tryz.underlying279
 a218:=Tryz.isAgg279
 z218:=Tryz.sizeOf279
 v218:=Tryz.zeroValue279
 t222:=Tryz.underlying282
 a222:=Tryz.isAgg282
 z222:=Tryz.sizeOf282
 v222:=Tryz.zeroValue282
 t228:=Tryz.underlying290
 a228:=Tryz.isAgg290
 z228:=Tryz.sizeOf290
 v228:=Tryz.zeroValue290
 t229:=Tryz.underlying291
 a229:=Tryz.isAgg291
 z229:=Tryz.sizeOf291
 v229:=Tryz.zeroValue291}
open Go.Sort Go.RowKit in
theorem Tryz.slices_Sort_int(blk off cap:Nat)(zs:List Int)(w:World)(hH:Holds (Value.int .i64) w blk off zs.toArray)(hblk:blk<w.heap.size)(hsz:zs.length<4611686018427387904):
 Calls Tryz.prog 61 #[.slice (some ⟨blk,off,none⟩) zs.length cap] w λ e w'=>
  e= .returned (.tuple #[])/\∃n os,w'=grow (putRow (Value.int .i64) (Sort.ahead w n) blk off (zs.mergeSort λ x y=>decide (x<=y)).toArray) os:=Any.slices_Sort_int Tryz.lays189 blk off cap zs w hH hblk hsz
open Go.RowKit Go.Sort in
theorem Tryz.slices_Sort_int_none(p:Option Addr)(cap:Nat)(w:World):
 Calls Tryz.prog 61 #[.slice p 0 cap] w λ e w'=>e= .returned (.tuple #[])/\w'=w:=Any.slices_Sort_int_none Tryz.lays189 p cap w
end Go.Proofs.YtgdpkkjfcdhmdaaGreatDoor
namespace Go.Proofs.YtgdpkkjfcdhmdaaGreatDoor
open Go Go.RowKit
open Go.Proofs.YtgdpkkjfcdhmdaaGreatDoor.Cr
open Go.ChangeMaps (setBlock)
theorem flat_int(xs:List Int):(Lay.int .i64).flat xs=xs.map (Value.int .i64):=by
 induction xs with
 |nil=>rfl
 |cons x xs ih=>simp only[Lay.flat,Lay.int,List.flatMap_cons,List.map_cons] at ih⊢;rw[ih];rfl
theorem sort60{w:World}{base:Nat}{v:Value}{xs:List Int}(h:(Lay.int .i64).Own 3 w base v xs)(hb:base<=w.heap.size)(hl:xs.length<=100000):
  Calls Tryz.prog 61 #[v] w λ e w'=>e= .returned (.tuple #[])/\∃ys:List Int,ys.Perm xs/\(Lay.int .i64).Own 3 w' base v ys/\Below base w w':=by
 obtain⟨h0,h|⟨g,cap,cur,rfl,hg,hh,hn,hm,hs,ht⟩⟩:=h
 ·obtain⟨rfl,h2⟩:=h;have:xs=[]:=List.eq_nil_of_length_eq_zero h2;subst this;exact(Tryz.slices_Sort_int_none none 0 w).mono λ e w' ⟨h1,h2⟩=>by subst h2;exact⟨h1,[],List.Perm.refl _,Lay.Own.nil _ _,Below.refl _ _⟩
 ·have ht':cur.toList.take xs.length=xs.map (Value.int .i64):=by
   rw[<-flat_int,<-ht];simp[Lay.int]
  have hlt:g<w.heap.size:=(Array.getElem?_eq_some_iff.1 hh).1;refine(Tryz.slices_Sort_int g 0 cap xs w (holds_of_blockI hh ht') hlt (by omega)).mono λ e w' ⟨h1,n,os,h2⟩=> ?_
  subst h2;have hp:(xs.mergeSort λ x y=>decide (x<=y)).Perm xs:=List.mergeSort_perm _ _;refine⟨h1,_,hp,?_,(Below.refl _ _).grown (grownBy_sortedI _) hb λ k hk=>by injection hk with hk;omega⟩;have:=ownsRow_sortedI (n:=n) (os:=os) (ts:=xs.mergeSort λ x y=>decide (x<=y)) hp.length_eq hg hh hn hm (by simpa[Lay.int] using hs);unfold Lay.Own;rw[flat_int,hp.length_eq];exact this
structure VarsP (R:Nat) (w1:World) (mb clock:Nat) (f:Nat->Option Nat) (len:Nat) (v:Value) (wr:World):Prop where
 it:∃seen last L,wr.heap[R]? =some (.mapIter (some mb) clock seen last)/\clock<=last/\(Lay.int .i64).Own 3 wr (R+1) v L/\SeenVars f len seen L
 below:Below R w1 wr
 size:R<wr.heap.size
def VarsR(w:World)(L:List Nd)(ts:List Nat)(e:Ending)(w':World):Prop:=∃v xs,e= .returned (.tuple #[v,.int .i64 0])/\(Lay.int .i64).Own 3 w' w.heap.size v xs/\(∀n,n∈xs↔VarInS L ts n)/\xs.length<=1000/\(L.Nodup->xs.Nodup)/\Below w.heap.size w w'
def fvar(L:List Nd)(S:List Nat)(j:Nat):Option Nat:=if(L.getD (S.getD j 0) default).op=1 then some (L.getD (S.getD j 0) default).num else none
theorem seenVars_le{f:Nat->Option Nat}{len:Nat}{seen:Array Nat}{L:List Int}(h:SeenVars f len seen L):L.length<=len:=by
 have:=h.length;have h2:((List.range len).filterMap f).length<=len:=by
  have:=List.length_filterMap_le f (List.range len);simpa using this
 omega
theorem fvar_mem{L:List Nd}{ts:List Nat}{S:List Nat}{l:List Int}(hS:∀j,j∈S↔OccS L ts j)(hp:l.Perm (((List.range S.length).filterMap (fvar L S)).map λ(n:Nat)=>(n:Int)))(n:Int):n∈l↔VarInS L ts n:=by
 rw[hp.mem_iff];simp only[List.mem_map,List.mem_filterMap,List.mem_range,fvar];constructor
 ·rintro⟨k,⟨j,hj,hk⟩,rfl⟩
  split at hk
  ·rename_i h1;injection hk with hk;exact⟨S.getD j 0,(hS _).1 (getD_mem 0 S j hj),h1,by rw[hk]⟩
  ·cases hk
 ·rintro⟨j,ho,h1,h2⟩;obtain⟨i,hi,e⟩:=List.getElem_of_mem ((hS j).2 ho);refine⟨(L.getD j default).num,⟨i,hi,?_⟩,h2⟩;have:S.getD i 0=j:=by rw[List.getD_eq_getElem?_getD,List.getElem?_eq_getElem hi];exact e
  rw[this,if_pos h1]
theorem nd_same{W:Nat}{L:List Nd}(hg:GOk W L)(hn:L.Nodup){i j:Nat}(hi:i<L.length)(hj:j<L.length)(oi:(L.getD i default).op=1)(oj:(L.getD j default).op=1)(h:(L.getD i default).num=(L.getD j default).num):i=j:=by
 have ai:(L.getD i default).args=[]:=by have:=(hg i hi).2.2.2.2.1;rw[oi] at this;exact List.eq_nil_of_length_eq_zero this
 have aj:(L.getD j default).args=[]:=by have:=(hg j hj).2.2.2.2.1;rw[oj] at this;exact List.eq_nil_of_length_eq_zero this
 have e:L.getD i default=L.getD j default:=by
  generalize L.getD i default=x at*;generalize L.getD j default=y at*;cases x;cases y;simp_all
 rw[List.getD_eq_getElem?_getD,List.getD_eq_getElem?_getD,List.getElem?_eq_getElem hi,List.getElem?_eq_getElem hj] at e;exact(List.getElem_inj (h₀:=hi) (h₁:=hj) hn).1 e
theorem fvar_nodup{W:Nat}{L:List Nd}{S:List Nat}{l:List Int}(hg:GOk W L)(hn:L.Nodup)(hS:S.Nodup)(hlt:∀j∈S,j<L.length)(hp:l.Perm (((List.range S.length).filterMap (fvar L S)).map λ(n:Nat)=>(n:Int))):l.Nodup:=by
 refine hp.nodup_iff.2 (List.pairwise_map.2 (List.pairwise_filterMap.2 (List.Pairwise.imp_of_mem (R:=(·≠·)) ?_ List.nodup_range)));intro i j hi hj hne x hx y hy hxy;rw[List.mem_range] at hi hj;unfold fvar at hx hy
 split at hx
 ·split at hy
  ·rename_i h1 h2;injection hx with hx;injection hy with hy;have:=nd_same hg hn (hlt _ (getD_mem 0 S i hi)) (hlt _ (getD_mem 0 S j hj)) h1 h2 (by omega);rw[List.getD_eq_getElem?_getD,List.getD_eq_getElem?_getD,List.getElem?_eq_getElem hi,List.getElem?_eq_getElem hj] at this;exact hne ((List.getElem_inj (h₀:=hi) (h₁:=hj) hS).1 this)
  ·cases hy
 ·cases hx
set_option maxRecDepth 100000 in
set_option maxHeartbeats 8000000 in
theorem vars24{w:World}{r W:Nat}{L:List Nd}(h:RV w r W L)(ts:List Nat)(hvo:∀j,OccS L ts j->(L.getD j default).op=1->(L.getD j default).num<4194304)(ht:∀t∈ts,t<L.length)(hL:L.length<=1000)(htl:ts.length<=1000)(ta:Option Addr)(c:Nat)(hnc:ta=none->c=0)(hc:(Lay.int .i64).At 0 w ta (intsN ts)):
  Calls Tryz.prog 24 #[.pointer (some ⟨r,0,none⟩),.slice ta ts.length c] w (VarsR w L ts):=by
 have HO:=Z (occur60 h ts ht hL htl ta c hnc hc);have HVO:=Z hvo;have HGO:=Z h.ok;have HTL:Hid (∀t∈ts,t<L.length):=Z ht;have HLL:Hid (L.length<=1000):=Z hL;clear h hvo ht hL hc hnc htl;go_enter Tryz.func24,Tryz.ntmps24
 go_wp2_with fail
 refine HO.o.mono ?_;rintro e w1 ⟨mb,S,rfl,hsa,hocc,hnd,hlo,hlt,hb1⟩;obtain⟨es,clock,q1,q2,q3⟩:=hsa.ents;have HQ2:=Z q2;clear q2;have HSL:Hid (S.length<=1000):=Z (Nat.le_trans (nodup_len hnd λ x hx=>((hocc x).1 hx).lt HGO.o HTL.o) HLL.o)
 go_wp2_with(at_range;refine wpList_range_at rfl _ _ rfl und137 rfl q1 ?_)
 have hlen:=q3.len;have hbn:Bn es clock:=⟨by rw[HQ2.o,<-hlen];simp,λ j e he=>by have:=q3.born j e (by simpa using he);omega⟩
 have HQ1:=Z q1;have HN:Hid (∀e∈es.toList,e.born<S.length/\∃a n c,e.val=ndV (L.getD (S.getD e.born 0) default).op (L.getD (S.getD e.born 0) default).num a n c):=Z λ e he=>by
  obtain⟨j,hj,_,h2,h3⟩:=q3.at_ e he;rw[Nat.zero_add] at h2;rw[h2];exact⟨hj,h3⟩
 have HBo:∀x∈es.toList,x.born<clock:=λ x hx=>by have:=(HN.o x hx).1;rw[HQ2.o];exact this
 have hND:=hbn.nodup;have HJ:Hid (∀b,b<S.length->∃e0∈es.toList,e0.born=b):=Z (λ b hb=>by
  have hb':b<es.size:=by simp at hlen;omega
  exact⟨es[b],by simp,hbn.born b _ (Array.getElem?_eq_getElem hb')⟩)
 have HOCC:=Z hocc;have HND:=Z hnd;have HB1:=Z hb1;have hmbl:mb<w1.heap.size:=hlt;clear hbn q3 q1 hlen hsa hocc hnd hb1 hlt HO;intro w2 hw2;replace hw2:=hw2.o;generalize hR:w1.heap.size=R at*;have hR2:w2.heap[R]? =some (.mapIter (some mb) clock #[] clock):=by subst hR;rw[hw2];exact heap_alloc_new w1 _
 have hB2:Below R w1 w2:=by subst hR;rw[hw2];exact(Below.refl _ _).alloc (Nat.le_refl _) _
 have hs2:w2.heap.size=R+1:=by rw[hw2];simp[hR]
 have HRR:Hid (w.heap.size<=R):=Z (by rw[<-hR];exact HB1.o.size);clear hw2 hlo
 go_wp2_with fail
 go_loopw [8] (λ v wr=>VarsP R w1 mb clock (fvar L S) S.length v wr) (λ _ wr=>leftIn es R wr)
 case atStart=>exact⟨⟨#[],clock,[],hR2,Nat.le_refl _,Lay.Own.nil w2 (R+1),SeenVars.nil _ _⟩,hB2,by omega⟩
 case round=>
  obtain⟨⟨seen,last,Q,hrr,hll,hown,hsv⟩,hbel,hszr⟩:=hrel;clear hR2 hB2 hs2;have hbm':wr.heap[mb]? =some (.map es clock):=(hbel.block mb hmbl).trans HQ1.o
  go_wp2_with(at_next;refine wpList_next_at rfl _ rfl (by rfl) hrr hbm' HBo hll ?_ ?_)
  ·intro hdone;have hperm:=hsv.perm λ b hb=>by
    obtain⟨e0,he0,hb0⟩:=HJ.o b hb;have:=all_seen es seen (by rw[hdone.o];rfl) e0 he0;rwa[hb0] at this
   have HMEM:=Z (fvar_mem HOCC.o hperm);have HNO:=Z (λ h=>fvar_nodup HGO.o h HND.o (λ j hj=>((HOCC.o j).1 hj).lt HGO.o HTL.o) hperm);have HQL:Hid (Q.length<=1000):=Z (Nat.le_trans (seenVars_le hsv) HSL.o);have HSO:=Z (sort60 hown (by omega) (by have:=HQL.o;omega));have HBW:Hid (Below w.heap.size w wr):=Z (HB1.o.trans (hbel.mono HRR.o));clear hown hperm hsv hrr hbm' hdone hll hND HBo
   go_wp2_with fail
   refine HSO.o.mono ?_;rintro e w3 ⟨rfl,ys,hp,hown3,hb3⟩;have HOW3:=Z hown3;have HB3:=Z hb3;have HPP:=Z hp;clear hown3 hb3 hp
   go_wp2_with fail
   go_ret2
   exact⟨_,ys,rfl,HOW3.o.lower (by have:=HRR.o;omega),λ n=>(HPP.o.mem_iff).trans (HMEM.o n),by rw[HPP.o.length_eq];have:=HQL.o;omega,λ h=>HPP.o.nodup_iff.2 (HNO.o h),HBW.o.trans (HB3.o.mono (by have:=HRR.o;omega))⟩
  ·intro e he w3 w4 hw3 hw4;replace hw4:=hw4.o;replace he:e∈(leftOf es seen).toList:=by simpa using he
   obtain⟨he1,he2⟩:=mem_left he;have h3:wr.grownBy w3 none:=by
    rcases hw3 with rfl|rfl
    ·exact World.grownBy.refl _ _
    ·exact⟨rfl,rfl,rfl,Nat.le_refl _,λ _ _ _=>rfl⟩
   have h34:w3.heap.size=wr.heap.size:=by rcases hw3 with rfl|rfl<;>rfl
   have hg4:wr.grownBy w4 (some R):=by
    rw[hw4];refine⟨h3.os,h3.tape,h3.output,by simpa[setBlock] using h3.size,λ k hk hne=> ?_⟩;show(w3.heap.setIfInBounds R _)[k]? =_;rw[Array.getElem?_setIfInBounds_ne (by intro e;exact hne (by rw[e]))];exact h3.block k hk (by simp)
   have hr4:w4.heap[R]? =some (.mapIter (some mb) clock (seen.push e.born) clock):=by
    rw[hw4];show(w3.heap.setIfInBounds R _)[R]? =_;rw[Array.getElem?_setIfInBounds_self_of_lt (by omega)]
   have hb4:Below R w1 w4:=hbel.grown hg4 (by omega) (λ k hk=>by injection hk with hk;omega);have hbm4:w4.heap[mb]? =some (.map es clock):=(hb4.block mb hmbl).trans HQ1.o;have hen:=run_entry_at (P:=Tryz.prog) w4 R mb clock seen es clock e hr4 hbm4 he1 hND;have hs4:R<w4.heap.size:=by have:=hg4.size;omega
   have hown4:(Lay.int .i64).Own 3 w4 (R+1) u8 Q:=World.ownsRow.kept (row:=some R) hown hg4 (by
    cases hk:u8.ownBlock with
    |none=>exact .inl rfl
    |some k=>exact .inr (λ e=>by injection e with e;have:=(World.ownsRow.lt hown k hk).1;omega))
   have hmes:=left_shrinks es seen e he;have hL0:leftIn es R wr=(leftOf es seen).size:=leftIn_of hrr;obtain⟨hlt,aa,an,ac,hval⟩:=HN.o e he1;have hec:seen.contains e.born=false:=he2;have hQl:=seenVars_le hsv;have hSl:=HSL.o;clear hw4 hw3 hown hrr hbm' he h3 h34 hg4 he2;have hvo':=HVO.o (S.getD e.born 0) ((HOCC.o _).1 (getD_mem 0 S _ hlt));have hfv:fvar L S e.born=if(L.getD (S.getD e.born 0) default).op=1 then some (L.getD (S.getD e.born 0) default).num else none:=rfl
   rw[hval] at hen⊢;unfold ndV at hen⊢;generalize(L.getD (S.getD e.born 0) default).op=op at*;generalize(L.getD (S.getD e.born 0) default).num=num at*;clear hval;have hm4:leftIn es R w4=(leftOf es (seen.push e.born)).size:=leftIn_of hr4;by_cases hop:op=1
   ·subst hop;rw[if_pos rfl] at hfv;have hnum:=hvo' rfl;have hsv4:=hsv.take hlt hec hfv;clear hfv hec hlt hsv hvo';generalize seen.push e.born=sn at*;generalize e.key=ky at*;have hnw:(num:Int)<9223372036854775808:=by omega
    go_wp2_with(at_builtin;refine app_lay_new_g Tryz.elemI [(num:Int)] rfl _ _ rfl rfl (hown4.alloc _) rfl (by simp) rfl (by simp;omega) (by simp;omega) ?_)
    intro v5 w5 hown5 hb5
    go_wp2_with fail
    go_roundw
    case rel=>
     refine⟨⟨sn,clock,Q++[(num:Int)],((hb5.block R (by omega)).trans (Below.heap_alloc w4 _ R hs4)).trans hr4,Nat.le_refl _,hown5,hsv4⟩,(hb4.alloc (by omega) _).trans (hb5.mono (by omega)),by have:=hb5.size;simp at this;omega⟩
    case measure=>
     rw[leftIn_of (((hb5.block R (by omega)).trans (Below.heap_alloc w4 _ R hs4)).trans hr4),hL0];exact hmes
   ·have hop':((op:Int)==1)=false:=by simp;omega
    rw[if_neg hop] at hfv;have hsv4:=hsv.skip hlt hec hfv;clear hfv hec hlt hsv hop hvo';generalize seen.push e.born=sn at*;generalize e.key=ky at*
    go_wp2_with fail
    go_roundw
    case rel=>exact⟨⟨sn,clock,Q,(Below.heap_alloc w4 _ R hs4).trans hr4,Nat.le_refl _,hown4.alloc _,hsv4⟩,hb4.alloc (by omega) _,by simp;omega⟩
    case measure=>
     rw[leftIn_of ((Below.heap_alloc w4 _ R hs4).trans hr4),hL0];exact hmes
end Go.Proofs.YtgdpkkjfcdhmdaaGreatDoor
namespace Go.Proofs.YtgdpkkjfcdhmdaaGreatDoor
open Go.RowKit
set_option maxRecDepth 100000 in
set_option maxHeartbeats 4000000 in
theorem terms25(w:World)(p:PathN)(hok:p.Ok w)(hsh:p.short):
  Calls Tryz.prog 25 #[p.v] w λ e w'=>∃v,e= .returned v/\(Lay.int .i64).Own 3 w' w.heap.size v (p.cs++p.os.map (·.2)++p.rs.map (·.2))/\Below w.heap.size w w':=by
 obtain⟨ca,cc,cs,st,sp,oa,oc,os,ra,rc,rs,ba,bc,bs,ia,ic,is⟩:=p;have HOK:=Z hok;have hl1:cs.length<=12:=hsh.1;have hl2:os.length<=12:=hsh.2.1;have hl3:rs.length<=12:=hsh.2.2.1;clear hok hsh;simp only[PathN.v];have HBA:Hid (Below w.heap.size w (w.alloc (.cells #[.slice ca cs.length cc,.int .u8 st,.int .i64 sp,.slice oa os.length oc,.slice ra rs.length rc,.slice ba bs.length bc,.slice ia is.length ic] 28))):=Z ((Below.refl _ _).alloc (Nat.le_refl _) _);have HAC:=Z (HOK.o.c.below HBA.o);have HCN:Hid (ca=none->cc=0):=Z HOK.o.cn;go_enter Tryz.func25,Tryz.ntmps25
 go_wp2_with(first
  |(at_builtin
    refine app_lay_at Tryz.elemI (d:=0) (qs:=cs) rfl _ _ rfl rfl (Lay.Own.nil _ (w.heap.size+1)) rfl HCN.o rfl HAC.o (by show 0+cs.length<=1000000;omega) (by simp) ?_;intro v1 w1 r1 r2;have HO1:=Z r1;have HB1:=Z r2;have b0:=(r2.cell (p:=⟨w.heap.size,3,none⟩) (Nat.lt_succ_self _)).trans (show World.cell? _ _=some (.slice oa os.length oc) by rw[World.cell?_alloc_new];rfl);have b4:=(r2.cell (p:=⟨w.heap.size,4,none⟩) (Nat.lt_succ_self _)).trans (show World.cell? _ _=some (.slice ra rs.length rc) by rw[World.cell?_alloc_new];rfl);have hz1:=r2.size;simp at hz1;clear r1 r2))
 have HB4:=Z b4;clear b0 b4;have HT1:Hid (∀k,k<os.length->(os.map (·.2)).take (k+1)=(os.map (·.2)).take k++[(os.getD k (0,0)).2]):=Z λ k hk=>by
  rw[take_getD 0 _ k (by simpa using hk)]
  congr 2
  rw[List.getD_eq_getElem?_getD,List.getD_eq_getElem?_getD,List.getElem?_map,List.getElem?_eq_getElem hk];rfl
 have HT2:Hid (∀k,k<rs.length->(rs.map (·.2)).take (k+1)=(rs.map (·.2)).take k++[(rs.getD k (0,0)).2]):=Z λ k hk=>by
  rw[take_getD 0 _ k (by simpa using hk)]
  congr 2
  rw[List.getD_eq_getElem?_getD,List.getD_eq_getElem?_getD,List.getElem?_map,List.getElem?_eq_getElem hk];rfl
 have HL1:Hid (∀k,(cs++(os.map (·.2)).take k).length<=24):=Z λ k=>by rw[List.length_append,List.length_take,List.length_map];omega
 have HL2:Hid (∀k,(cs++os.map (·.2)++(rs.map (·.2)).take k).length<=36):=Z λ k=>by rw[List.length_append,List.length_append,List.length_take,List.length_map,List.length_map];omega
 have HE1:Hid ((os.map (·.2)).take os.length=os.map (·.2)):=Z (List.take_of_length_le (by simp));have HE2:Hid ((rs.map (·.2)).take rs.length=rs.map (·.2)):=Z (List.take_of_length_le (by simp))
 go_loopw [3,14] (λ v i wr=>∃k:Nat,k<=os.length/\i= .int .i64 k/\Hid ((Lay.int .i64).Own 3 wr (w.heap.size+1) v (cs++(os.map (·.2)).take k))/\Below (w.heap.size+1) w1 wr) (λ _ i _=>os.length-(intOf i).toNat)
 case atStart=>exact⟨0,by omega,rfl,Z (by simpa using HO1.o),Below.refl _ _⟩
 case round=>
  obtain⟨k,hk,rfl,hown,hb⟩:=hrel;have HB:=Z hb;have HOW:=Z hown.o;have hzw:=hb.size;have HBW:=Z (HBA.o.trans ((HB1.o.trans HB.o).mono (Nat.le_succ _)));clear hb hown;by_cases hlt:k<os.length
  ·obtain⟨pb,po,rfl,hpb,p0,p1⟩:=HOK.o.o.sev hlt;have c0:=(HBW.o.cell (p:=⟨pb,po+k*2,none⟩) hpb).trans p0;have c1:=(HBW.o.cell (p:=⟨pb,po+k*2+1,none⟩) hpb).trans p1;have HTK:=Z (HT1.o k hlt);have hki:(k:Int)<os.length:=by omega
   have hlk:=HL1.o k;have HLK:=Z hlk;clear p0 p1 hlk;generalize(os.getD k (0,0)).1=n at*;generalize(os.getD k (0,0)).2=t at*
   go_wp2_with(first
    |(at_builtin
      refine app_lay_new_g Tryz.elemI [t] rfl _ _ rfl rfl (HOW.o.alloc _) rfl (by simp) rfl (by have:=HLK.o;show _+1<=1000000;omega) (by simp;omega) ?_;intro v' w5 r1 r2;have HO5:=Z r1;have HB5:=Z ((HB.o.alloc (by omega) _).trans r2);clear r1 r2))
   go_roundw
   case rel=>exact⟨k+1,by omega,by go_num,Z (by rw[HTK.o,<-List.append_assoc];exact HO5.o),HB5.o⟩
   case measure=>simp[intOf]<;>omega
  ·obtain rfl:k=os.length:=by omega
   have b4:=(HB.o.cell (p:=⟨w.heap.size,4,none⟩) (Nat.lt_succ_self _)).trans HB4.o;rw[HE1.o] at HOW
   go_wp2_with fail
   clear b4;have hz2:=HB.o.size;generalize wr=w2 at*
   go_loopw [3,27] (λ v i wr=>∃k:Nat,k<=rs.length/\i= .int .i64 k/\Hid ((Lay.int .i64).Own 3 wr (w.heap.size+1) v (cs++os.map (·.2)++(rs.map (·.2)).take k))/\Below (w.heap.size+1) w2 wr) (λ _ i _=>rs.length-(intOf i).toNat)
   case atStart=>exact⟨0,by omega,rfl,Z (by simpa using HOW.o),Below.refl _ _⟩
   case round=>
    obtain⟨k,hk,rfl,hown,hb⟩:=hrel;have HB':=Z hb;have HOX:=Z hown.o;have hzx:=hb.size;have HBX:=Z (HBA.o.trans ((HB1.o.trans (HB.o.trans HB'.o)).mono (Nat.le_succ _)));clear hb hown;by_cases hlt:k<rs.length
    ·obtain⟨pb,po,rfl,hpb,p0,p1⟩:=HOK.o.r.sev hlt;have c0:=(HBX.o.cell (p:=⟨pb,po+k*2,none⟩) hpb).trans p0;have c1:=(HBX.o.cell (p:=⟨pb,po+k*2+1,none⟩) hpb).trans p1;have HTK:=Z (HT2.o k hlt);have hki:(k:Int)<rs.length:=by omega
     have HLK:=Z (HL2.o k);clear p0 p1;generalize(rs.getD k (0,0)).1=n at*;generalize(rs.getD k (0,0)).2=t at*
     go_wp2_with(first
      |(at_builtin
        refine app_lay_new_g Tryz.elemI [t] rfl _ _ rfl rfl (HOX.o.alloc _) rfl (by simp) rfl (by have:=HLK.o;show _+1<=1000000;omega) (by simp;omega) ?_;intro v' w5 r1 r2;have HO5:=Z r1;have HB5:=Z ((HB'.o.alloc (by omega) _).trans r2);clear r1 r2))
     go_roundw
     case rel=>exact⟨k+1,by omega,by go_num,Z (by rw[HTK.o,<-List.append_assoc];exact HO5.o),HB5.o⟩
     case measure=>simp[intOf]<;>omega
    ·obtain rfl:k=rs.length:=by omega
     rw[HE2.o] at HOX
     go_wp2_with fail
     go_ret
     exact⟨_,rfl,by first|exact HOX.o.lower (Nat.le_succ _)|(rw[<-List.append_assoc];exact HOX.o.lower (Nat.le_succ _)),HBX.o⟩
def Box(w:World)(b:Nat)(l:List Value):Prop:=∀k v,l[k]? =some v->w.cell? ⟨b,k,none⟩=some v
theorem Box.below{w w':World}{B b:Nat}{l:List Value}(h:Box w b l)(hb:Below B w w')(hlt:b<B):Box w' b l:=λ k v e=>(hb.cell (p:=⟨b,k,none⟩) hlt).trans (h k v e)
theorem Box.get7{w:World}{b:Nat}{a0 a1 a2 a3 a4 a5 a6:Value}(h:Box w b [a0,a1,a2,a3,a4,a5,a6]):
  w.cell? ⟨b,0,none⟩=some a0/\w.cell? ⟨b,1,none⟩=some a1/\w.cell? ⟨b,2,none⟩=some a2/\w.cell? ⟨b,3,none⟩=some a3/\w.cell? ⟨b,4,none⟩=some a4/\w.cell? ⟨b,5,none⟩=some a5/\w.cell? ⟨b,6,none⟩=some a6:=
 ⟨h 0 _ rfl,h 1 _ rfl,h 2 _ rfl,h 3 _ rfl,h 4 _ rfl,h 5 _ rfl,h 6 _ rfl⟩
theorem Box.get22{w:World}{b:Nat}{a0 a1 a2 a3 a4 a5 a6 a7 a8 a9 a10 a11 a12 a13 a14 a15 a16 a17 a18 a19 a20 a21:Value}(h:Box w b [a0,a1,a2,a3,a4,a5,a6,a7,a8,a9,a10,a11,a12,a13,a14,a15,a16,a17,a18,a19,a20,a21]):
  w.cell? ⟨b,0,none⟩=some a0/\w.cell? ⟨b,1,none⟩=some a1/\w.cell? ⟨b,2,none⟩=some a2/\w.cell? ⟨b,3,none⟩=some a3/\w.cell? ⟨b,4,none⟩=some a4/\w.cell? ⟨b,5,none⟩=some a5/\w.cell? ⟨b,6,none⟩=some a6/\w.cell? ⟨b,7,none⟩=some a7/\w.cell? ⟨b,8,none⟩=some a8/\w.cell? ⟨b,9,none⟩=some a9/\w.cell? ⟨b,10,none⟩=some a10/\w.cell? ⟨b,11,none⟩=some a11/\w.cell? ⟨b,12,none⟩=some a12/\w.cell? ⟨b,13,none⟩=some a13/\w.cell? ⟨b,14,none⟩=some a14/\w.cell? ⟨b,15,none⟩=some a15/\w.cell? ⟨b,16,none⟩=some a16/\w.cell? ⟨b,17,none⟩=some a17/\w.cell? ⟨b,18,none⟩=some a18/\w.cell? ⟨b,19,none⟩=some a19/\w.cell? ⟨b,20,none⟩=some a20/\w.cell? ⟨b,21,none⟩=some a21:=
 ⟨h 0 _ rfl,h 1 _ rfl,h 2 _ rfl,h 3 _ rfl,h 4 _ rfl,h 5 _ rfl,h 6 _ rfl,h 7 _ rfl,h 8 _ rfl,h 9 _ rfl,h 10 _ rfl,h 11 _ rfl,h 12 _ rfl,h 13 _ rfl,h 14 _ rfl,h 15 _ rfl,h 16 _ rfl,h 17 _ rfl,h 18 _ rfl,h 19 _ rfl,h 20 _ rfl,h 21 _ rfl⟩
theorem box_new(w:World)(l:List Value)(t:TypeId){w1:World}(e:w1=w.alloc (.cells l.toArray t)):Below w.heap.size w w1/\w.heap.size<w1.heap.size/\Box w1 w.heap.size l:=by
 subst e;exact⟨(Below.refl _ _).alloc (Nat.le_refl _) _,by simp,λ k v e=>by rw[World.cell?_alloc_new];simpa using e⟩
theorem two_cells(w:World)(l m:List Value)(t u:TypeId){w2:World}(e:w2=(w.alloc (.cells l.toArray t)).alloc (.cells m.toArray u)):
  Hid (Below w.heap.size w w2)/\Hid (w2.heap.size=w.heap.size+2)/\Hid (Box w2 w.heap.size l)/\Hid (Box w2 (w.heap.size+1) m):=by
 subst e;refine⟨Z (((Below.refl _ _).alloc (Nat.le_refl _) _).alloc (by simp) _),Z (by simp),Z λ k v e=> ?_,Z λ k v e=> ?_⟩
 ·rw[World.cell?_alloc_past _ _ _ (by simp),World.cell?_alloc_new];simpa using e
 ·have:=World.cell?_alloc_new (w.alloc (.cells l.toArray t)) m.toArray u k;rw[show(w.alloc (.cells l.toArray t)).heap.size=w.heap.size+1 by simp] at this;rw[this];simpa using e
end Go.Proofs.YtgdpkkjfcdhmdaaGreatDoor
