/- Walk: Vars of the code. -/
import Derived.Test.YtgdpkkjfcdhmdaaGreatDoorR21
import Derived.Shelf.Sort.Plain
import Derived.Shelf.Slices.In.SortNone
import Derived.Sort.OwnSortedInts
namespace Go.Proofs.YtgdpkkjfcdhmdaaGreatDoor
open Go.Shelf
def Tryz.lays189_ren:Go.Shelf.Ren:=⟨λ|189=>61|125=>99|257=>98|128=>129|129=>130|294=>120|295=>121|296=>122|297=>123|298=>124|299=>125|216=>126|300=>127|301=>128|328=>165|329=>166|330=>167|331=>168|332=>169|215=>170|343=>181|n=>n,λ|28=>24|3=>3|46=>204|0=>0|51=>108|53=>46|4=>4|183=>257|182=>256|131=>245|5=>5|9=>9|218=>279|222=>282|228=>290|229=>291|n=>n,λ|n=>n⟩
theorem Tryz.lays189:Go.Proofs.Lays.n189 Tryz.prog Tryz.lays189_ren:={
 mixed:=by kernel_rfl
 f125:=Tryz.func99.trans (congrArg some (by kernel_rfl))
 f128:=Tryz.func129.trans (congrArg some (by kernel_rfl))
 f129:=Tryz.func130.trans (congrArg some (by kernel_rfl))
 f189:=Tryz.func61.trans (congrArg some (by kernel_rfl))
 f215:=Tryz.func170.trans (congrArg some (by kernel_rfl))
 f216:=Tryz.func126.trans (congrArg some (by kernel_rfl))
 f257:=Tryz.func98.trans (congrArg some (by kernel_rfl))
 f294:=Tryz.func120.trans (congrArg some (by kernel_rfl))
 f295:=Tryz.func121.trans (congrArg some (by kernel_rfl))
 f296:=Tryz.func122.trans (congrArg some (by kernel_rfl))
 f297:=Tryz.func123.trans (congrArg some (by kernel_rfl))
 f298:=Tryz.func124.trans (congrArg some (by kernel_rfl))
 f299:=Tryz.func125.trans (congrArg some (by kernel_rfl))
 f300:=Tryz.func127.trans (congrArg some (by kernel_rfl))
 f301:=Tryz.func128.trans (congrArg some (by kernel_rfl))
 f328:=Tryz.func165.trans (congrArg some (by kernel_rfl))
 f329:=Tryz.func166.trans (congrArg some (by kernel_rfl))
 f330:=Tryz.func167.trans (congrArg some (by kernel_rfl))
 f331:=Tryz.func168.trans (congrArg some (by kernel_rfl))
 f332:=Tryz.func169.trans (congrArg some (by kernel_rfl))
 f343:=Tryz.func181.trans (congrArg some (by kernel_rfl))
 t0:=Tryz.underlying0
 a0:=Tryz.isAgg0
 z0:=Tryz.sizeOf0
 v0:=Tryz.zeroValue0
 t3:=Tryz.underlying3
 a3:=Tryz.isAgg3
 z3:=Tryz.sizeOf3
 v3:=Tryz.zeroValue3
 t4:=Tryz.underlying4
 a4:=Tryz.isAgg4
 z4:=Tryz.sizeOf4
 v4:=Tryz.zeroValue4
 t5:=Tryz.underlying5
 a5:=Tryz.isAgg5
 z5:=Tryz.sizeOf5
 v5:=Tryz.zeroValue5
 t9:=Tryz.underlying9
 a9:=Tryz.isAgg9
 z9:=Tryz.sizeOf9
 v9:=Tryz.zeroValue9
 t28:=Tryz.underlying24
 a28:=Tryz.isAgg24
 z28:=Tryz.sizeOf24
 v28:=Tryz.zeroValue24
 t46:=Tryz.underlying204
 a46:=Tryz.isAgg204
 z46:=Tryz.sizeOf204
 v46:=Tryz.zeroValue204
 t51:=Tryz.underlying108
 a51:=Tryz.isAgg108
 z51:=Tryz.sizeOf108
 v51:=Tryz.zeroValue108
 t53:=Tryz.underlying46
 a53:=Tryz.isAgg46
 z53:=Tryz.sizeOf46
 v53:=Tryz.zeroValue46
 t131:=Tryz.underlying245
 a131:=Tryz.isAgg245
 z131:=Tryz.sizeOf245
 v131:=Tryz.zeroValue245
 t182:=Tryz.underlying256
 a182:=Tryz.isAgg256
 z182:=Tryz.sizeOf256
 v182:=Tryz.zeroValue256
 t183:=Tryz.underlying257
 a183:=Tryz.isAgg257
 z183:=Tryz.sizeOf257
 v183:=Tryz.zeroValue257
 t218:=Tryz.underlying279
 a218:=Tryz.isAgg279
 z218:=Tryz.sizeOf279
 v218:=Tryz.zeroValue279
 t222:=Tryz.underlying282
 a222:=Tryz.isAgg282
 z222:=Tryz.sizeOf282
 v222:=Tryz.zeroValue282
 t228:=Tryz.underlying290
 a228:=Tryz.isAgg290
 z228:=Tryz.sizeOf290
 v228:=Tryz.zeroValue290
 t229:=Tryz.underlying291
 a229:=Tryz.isAgg291
 z229:=Tryz.sizeOf291
 v229:=Tryz.zeroValue291}
open Go.Sort Go.RowKit in
theorem Tryz.slices_Sort_int(blk off cap:Nat)(zs:List Int)(w:World)(hH:Holds (Value.int .i64) w blk off zs.toArray)(hblk:blk<w.heap.size)(hsz:zs.length<4611686018427387904):
 Calls Tryz.prog 61 #[.slice (some ⟨blk,off,none⟩) zs.length cap] w λ e w'=>
  e= .returned (.tuple #[])/\∃n os,w'=grow (putRow (Value.int .i64) (Sort.ahead w n) blk off (zs.mergeSort λ x y=>decide (x<=y)).toArray) os:=Any.slices_Sort_int Tryz.lays189 blk off cap zs w hH hblk hsz
open Go.RowKit Go.Sort in
theorem Tryz.slices_Sort_int_none(p:Option Addr)(cap:Nat)(w:World):
 Calls Tryz.prog 61 #[.slice p 0 cap] w λ e w'=>e= .returned (.tuple #[])/\w'=w:=Any.slices_Sort_int_none Tryz.lays189 p cap w
open Go Go.RowKit
open Go.Proofs.YtgdpkkjfcdhmdaaGreatDoor.Cr
open Go.ChangeMaps (setBlock)
theorem Dt(xs:List Int):(Lay.int .i64).flat xs=xs.map (Value.int .i64):=by induction xs with|nil=>rfl|cons x xs ih=>simp only[Lay.flat,Lay.int,List.flatMap_cons,List.map_cons] at ih⊢;rw[ih];rfl
theorem LD{w:World}{base:Nat}{v:Value}{xs:List Int}(h:(Lay.int .i64).Own 3 w base v xs)(r:base<=w.heap.size)(hl:xs.length<=100000):Calls Tryz.prog 61 #[v] w λ e w'=>e= .returned (.tuple #[])/\∃ys:List Int,ys.Perm xs/\(Lay.int .i64).Own 3 w' base v ys/\Below base w w':=by obtain⟨h0,h|⟨g,j,q,rfl,t,c,B,A,C,D⟩⟩:=h;{obtain⟨rfl,a⟩:=h;have:xs=[]:=List.eq_nil_of_length_eq_zero a;subst this;exact(Tryz.slices_Sort_int_none none 0 w).mono λ e w' ⟨b,a⟩=>by subst a;exact⟨b,[],List.Perm.refl _,Lay.Own.nil _ _,A6 _ _⟩};have E:q.toList.take xs.length=xs.map (Value.int .i64):=by{rw[<-Dt,<-D];simp[Lay.int]};have z:g<w.heap.size:=(AS.1 c).1;refine(Tryz.slices_Sort_int g 0 j xs w (holds_of_blockI c E) z (by omega)).mono λ e w' ⟨b,n,os,a⟩=> ?_;subst a;have d:(xs.mergeSort λ x y=>decide (x<=y)).Perm xs:=List.mergeSort_perm _ _;refine⟨b,_,d,?_,(A6 _ _).grown (grownBy_sortedI _) r λ k f=>by injection f with f;omega⟩;have:=ownsRow_sortedI (n:=n) (os:=os) (ts:=xs.mergeSort λ x y=>decide (x<=y)) d.length_eq t c B A (by simpa[Lay.int] using C);unfold Lay.Own;rw[Dt,d.length_eq];exact this
structure LE (R:Nat) (w1:World) (mb clock:Nat) (f:Nat->Option Nat) (len:Nat) (v:Value) (wr:World):Prop where
 it:∃fF last L,wr.heap[R]? =some (.mapIter (some mb) clock fF last)/\clock<=last/\(Lay.int .i64).Own 3 wr (R+1) v L/\jG f len fF L
 below:Below R w1 wr
 size:R<wr.heap.size
def xx(w:World)(L:List Nd)(ts:List Nat)(e:Ending)(w':World):Prop:=∃v xs,e= .returned (.tuple #[v,.int .i64 0])/\(Lay.int .i64).Own 3 w' w.heap.size v xs/\(∀n,n∈xs↔jE L ts n)/\xs.length<=1000/\(L.Nodup->xs.Nodup)/\Below w.heap.size w w'
def pT(L:List Nd)(S:List Nat)(j:Nat):Option Nat:=if(L.getD (S.getD j 0) default).op=1 then some (L.getD (S.getD j 0) default).num else none
theorem Du{f:Nat->Option Nat}{len:Nat}{fF:Array Nat}{L:List Int}(h:jG f len fF L):L.length<=len:=by have:=h.length;have h2:((List.range len).filterMap f).length<=len:=by{have:=List.length_filterMap_le f (List.range len);simpa using this};omega
theorem LF{L:List Nd}{ts:List Nat}{S:List Nat}{l:List Int}(c:∀j,j∈S↔iL L ts j)(q:l.Perm (((List.range S.length).filterMap (pT L S)).map λ(n:Nat)=>(n:Int)))(n:Int):n∈l↔jE L ts n:=by rw[q.mem_iff];simp only[AF,List.mem_filterMap,List.mem_range,pT];constructor;{rintro⟨k,⟨j,g,a⟩,rfl⟩;split at a;{rename_i b;injection a with a;exact⟨S.getD j 0,(c _).1 (gE 0 S j g),b,by rw[a]⟩};cases a};rintro⟨j,h,b,f⟩;obtain⟨i,d,e⟩:=List.getElem_of_mem ((c j).2 h);refine⟨(L.getD j default).num,⟨i,d,?_⟩,f⟩;have:S.getD i 0=j:=by{rw[Aa,Ab d];exact e};rw[this,if_pos b]
theorem LG{W:Nat}{L:List Nd}(c:GOk W L)(d:L.Nodup){i j:Nat}(a:i<L.length)(b:j<L.length)(f:(L.getD i default).op=1)(g:(L.getD j default).op=1)(h:(L.getD i default).num=(L.getD j default).num):i=j:=by have ai:(L.getD i default).args=[]:=by{have:=(c i a).2.2.2.2.1;rw[f] at this;exact List.eq_nil_of_length_eq_zero this};have aj:(L.getD j default).args=[]:=by{have:=(c j b).2.2.2.2.1;rw[g] at this;exact List.eq_nil_of_length_eq_zero this};have e:L.getD i default=L.getD j default:=by{generalize L.getD i default=x at*;generalize L.getD j default=y at*;cases x;cases y;simp_all};rw[Aa,Aa,Ab a,Ab b] at e;exact(List.getElem_inj (h₀:=a) (h₁:=b) d).1 e
theorem LH{W:Nat}{L:List Nd}{S:List Nat}{l:List Int}(q:GOk W L)(r:L.Nodup)(k:S.Nodup)(f:∀j∈S,j<L.length)(z:l.Perm (((List.range S.length).filterMap (pT L S)).map λ(n:Nat)=>(n:Int))):l.Nodup:=by refine z.nodup_iff.2 (List.pairwise_map.2 (List.pairwise_filterMap.2 (List.Pairwise.imp_of_mem (R:=(·≠·)) ?_ List.nodup_range)));intro i j c d t x a y b hxy;rw[List.mem_range] at c d;unfold pT at a b;split at a;{split at b;{rename_i g h;injection a with a;injection b with b;have:=LG q r (f _ (gE 0 S i c)) (f _ (gE 0 S j d)) g h (by omega);rw[Aa,Aa,Ab c,Ab d] at this;exact t ((List.getElem_inj (h₀:=c) (h₁:=d) k).1 this)};cases b};cases a
set_option maxRecDepth 100000 in
set_option maxHeartbeats 8000000 in
theorem Dv{w:World}{r W:Nat}{L:List Nd}(h:RV w r W L)(ts:List Nat)(aS:∀j,iL L ts j->(L.getD j default).op=1->(L.getD j default).num<4194304)(ht:∀t∈ts,t<L.length)(hL:L.length<=1000)(aQ:ts.length<=1000)(U:Option Addr)(c:Nat)(aM:U=none->c=0)(hc:(Lay.int .i64).At 0 w U (fE ts)):
  Calls Tryz.prog 24 #[.pointer (some ⟨r,0,none⟩),.slice U ts.length c] w (xx w L ts):=by
 have HO:=Z (LC h ts ht hL aQ U c aM hc);have a3:=Z aS;have X:=Z h.ok;have ay:Hid (∀t∈ts,t<L.length):=Z ht;have aV:Hid (L.length<=1000):=Z hL;clear h aS ht hL hc aM aQ;go_enter Tryz.func24,Tryz.ntmps24
 go_wp2_with fail
 refine HO.o.mono ?_;rintro e F ⟨g,S,rfl,aP,ak,aj,a9,z,aD⟩;obtain⟨es,d,q1,q2,q3⟩:=aP.ents;have av:=Z q2;clear q2;have ax:Hid (S.length<=1000):=Z (Ag (vE aj λ x hx=>((ak x).1 hx).lt X.o ay.o) aV.o)
 go_wp2_with(at_range;refine Dl rfl _ _ rfl th rfl q1 ?_)
 have ai:=q3.len;have ah:Bn es d:=⟨by rw[av.o,<-ai];simp,λ j e f=>by have:=q3.born j e (by simpa using f);omega⟩
 have au:=Z q1;have HN:Hid (∀e∈es.toList,e.born<S.length/\∃a n c,e.val=ndV (L.getD (S.getD e.born 0) default).op (L.getD (S.getD e.born 0) default).num a n c):=Z λ e f=>by
  obtain⟨j,hj,_,h2,q⟩:=q3.at_ e f;rw[AJ] at h2;rw[h2];exact⟨hj,q⟩
 have ar:∀x∈es.toList,x.born<d:=λ x hx=>by have:=(HN.o x hx).1;rw[av.o];exact this
 have aB:=ah.nodup;have HJ:Hid (∀b,b<S.length->∃e0∈es.toList,e0.born=b):=Z (λ b hb=>by
  have a5:b<es.size:=by simp at ai;omega
  exact⟨es[b],by simp,ah.born b _ (B9 a5)⟩)
 have Y:=Z ak;have aX:=Z aj;have aq:=Z aD;have aK:g<F.heap.size:=z;clear ah q3 q1 ai aP ak aj aD z HO;intro V E;replace E:=E.o;generalize hR:F.heap.size=R at*;have aC:V.heap[R]? =some (.mapIter (some g) d #[] d):=by subst hR;rw[E];exact heap_alloc_new F _
 have az:Below R F V:=by subst hR;rw[E];exact(A6 _ _).alloc (A8 _) _
 have bd:V.heap.size=R+1:=by rw[E];simp[hR]
 have ad:Hid (w.heap.size<=R):=Z (by rw[<-hR];exact aq.o.size);clear E a9
 go_wp2_with fail
 go_loopw [8] (λ v wr=>LE R F g d (pT L S) S.length v wr) (λ _ wr=>lZ es R wr)
 case atStart=>exact⟨⟨#[],d,[],aC,A8 _,Lay.Own.nil V (R+1),jG.nil _ _⟩,az,by omega⟩
 case round=>
  obtain⟨⟨fF,last,Q,N,aJ,G,A⟩,hbel,hszr⟩:=hrel;clear aC az bd;have af:wr.heap[g]? =some (.map es d):=(hbel.block g aK).trans au.o
  go_wp2_with(at_next;refine Dm rfl _ rfl (by rfl) N af ar aJ ?_ ?_)
  ·intro aF;have al:=A.perm λ b hb=>by
    obtain⟨e0,a8,a6⟩:=HJ.o b hb;have:=all_seen es fF (by rw[aF.o];rfl) e0 a8;rwa[a6] at this
   have aW:=Z (LF Y.o al);have aY:=Z (λ h=>LH X.o h aX.o (λ j hj=>((Y.o j).1 hj).lt X.o ay.o) al);have aw:Hid (Q.length<=1000):=Z (Ag (Du A) ax.o);have a0:=Z (LD G (by omega) (by have:=aw.o;omega));have aU:Hid (Below w.heap.size w wr):=Z (aq.o.trans (hbel.mono ad.o));clear G al A N af aF aJ aB ar
   go_wp2_with fail
   refine a0.o.mono ?_;rintro e I ⟨rfl,ys,hp,aN,aE⟩;have aZ:=Z aN;have aT:=Z aE;have ab:=Z hp;clear aN aE hp
   go_wp2_with fail
   go_ret2
   exact⟨_,ys,rfl,aZ.o.lower (by have:=ad.o;omega),λ n=>(ab.o.mem_iff).trans (aW.o n),by rw[ab.o.length_eq];have:=aw.o;omega,λ h=>ab.o.nodup_iff.2 (aY.o h),aU.o.trans (aT.o.mono (by have:=ad.o;omega))⟩
  intro e f I w4 ap H;replace H:=H.o;replace f:e∈(leftOf es fF).toList:=by simpa using f
  obtain⟨aG,aH⟩:=mem_left f;have q:wr.grownBy I none:=by
   rcases ap with rfl|rfl
   ·exact World.grownBy.refl _ _
   exact⟨rfl,rfl,rfl,A8 _,λ _ _ _=>rfl⟩
  have a4:I.heap.size=wr.heap.size:=by rcases ap with rfl|rfl<;>rfl
  have M:wr.grownBy w4 (some R):=by
   rw[H];refine⟨q.os,q.tape,q.output,by simpa[setBlock] using q.size,λ k C ba=> ?_⟩;show(I.heap.setIfInBounds R _)[k]? =_;rw[AZ (by intro e;exact ba (by rw[e]))];exact q.block k C (by simp)
  have D:w4.heap[R]? =some (.mapIter (some g) d (fF.push e.born) d):=by
   rw[H];show(I.heap.setIfInBounds R _)[R]? =_;rw[Array.getElem?_setIfInBounds_self_of_lt (by omega)]
  have ae:Below R F w4:=hbel.grown M (by omega) (λ k C=>by injection C with C;omega);have a7:w4.heap[g]? =some (.map es d):=(ae.block g aK).trans au.o;have aI:=run_entry_at (P:=Tryz.prog) w4 R g d fF es d e D a7 aG aB;have O:R<w4.heap.size:=by have:=M.size;omega
  have aO:(Lay.int .i64).Own 3 w4 (R+1) u8 Q:=World.ownsRow.kept (row:=some R) G M (by
   cases C:u8.ownBlock with
   |none=>exact .inl rfl
   |some k=>exact .inr (λ e=>by injection e with e;have:=(World.ownsRow.lt G k C).1;omega))
  have aL:=left_shrinks es fF e f;have aA:lZ es R wr=(leftOf es fF).size:=leftIn_of N;obtain⟨z,aa,an,ac,aR⟩:=HN.o e aG;have K:fF.contains e.born=false:=aH;have hQl:=Du A;have hSl:=ax.o;clear H ap G N af f q a4 M aH;have ao:=a3.o (S.getD e.born 0) ((Y.o _).1 (gE 0 S _ z));have B:pT L S e.born=if(L.getD (S.getD e.born 0) default).op=1 then some (L.getD (S.getD e.born 0) default).num else none:=rfl
  rw[aR] at aI⊢;unfold ndV at aI⊢;generalize(L.getD (S.getD e.born 0) default).op=op at*;generalize(L.getD (S.getD e.born 0) default).num=num at*;clear aR;have hm4:lZ es R w4=(leftOf es (fF.push e.born)).size:=leftIn_of D;by_cases hop:op=1
  ·subst hop;rw[if_pos rfl] at B;have hnum:=ao rfl;have am:=A.take z K B;clear B K z A ao;generalize fF.push e.born=sn at*;generalize e.key=ky at*;have hnw:(num:Int)<9223372036854775808:=by omega
   go_wp2_with(at_builtin;refine jF Tryz.elemI [(num:Int)] rfl _ _ rfl rfl (aO.alloc _) rfl (by simp) rfl (by simp;omega) (by simp;omega) ?_)
   intro v5 w5 bb J
   go_wp2_with fail
   go_roundw
   case rel=>
    refine⟨⟨sn,d,Q++[(num:Int)],((J.block R (by omega)).trans (AW w4 _ R O)).trans D,A8 _,bb,am⟩,(ae.alloc (by omega) _).trans (J.mono (by omega)),by have:=J.size;simp at this;omega⟩
   case measure=>
    rw[leftIn_of (((J.block R (by omega)).trans (AW w4 _ R O)).trans D),aA];exact aL
  have hop':((op:Int)==1)=false:=by simp;omega
  rw[if_neg hop] at B;have am:=A.skip z K B;clear B K z A hop ao;generalize fF.push e.born=sn at*;generalize e.key=ky at*
  go_wp2_with fail
  go_roundw
  case rel=>exact⟨⟨sn,d,Q,(AW w4 _ R O).trans D,A8 _,aO.alloc _,am⟩,ae.alloc (by omega) _,by simp;omega⟩
  case measure=>
   rw[leftIn_of ((AW w4 _ R O).trans D),aA];exact aL
