/- Walk: ask of the code's graph. -/
import Derived.Test.YtgdpkkjfcdhmdaaGreatDoorS0
import Derived.Test.YtgdpkkjfcdhmdaaGreatDoorS10
import Derived.Laws.CopyOwn
import Derived.Deep.RegionLaw
import Derived.Lib.AppendZerosOnto
import Derived.Deep.RegionHeld3
import Derived.StillTailTactics
namespace Go.Proofs.YtgdpkkjfcdhmdaaGreatDoor
open Go.RowKit
def NewB(w:World)(nv nv':Value):Prop:=nv'.ownBlock=nv.ownBlock\/∃k,nv'.ownBlock=some k/\w.heap.size<=k
def AskPost(w:World)(B:Nat)(A A':Nat->Prop)(gb mb:Nat)(nv:Value)(W:Nat)(L:List Nd)(n:Nd)(e:Ending)(w':World):Prop:=
 ∃nv',e= .returned (.tuple #[.int .i64 (ndAt n L:Nat),.int .i64 0])/\PG w' B (λ k=>A k\/A' k) gb mb nv' W (askL n L)/\Mut (MutB gb (some mb) nv) w w'/\NewB w nv nv'
theorem getD3(l:List Nat)(h:l.length<=2):l=[]\/(∃a,l=[a])\/∃a b,l=[a,b]:=by
 match l,h with
 |[],_=>exact .inl rfl
 |[a],_=>exact .inr (.inl ⟨a,rfl⟩)
 |[a,b],_=>exact .inr (.inr ⟨a,b,rfl⟩)
theorem splice_key(n:Nd)(h:n.args.length<=2):splice [.int .u8 (n.op:Int),.int .u64 (n.num:Int),.int .i64 0,.int .i64 0,.int .i64 0] 2 (n.args.map λ(x:Nat)=>Value.int .i64 (x:Int))=keyL n:=by
 obtain⟨o,u,l⟩:=n;rcases getD3 l h with rfl|⟨a,rfl⟩|⟨a,b,rfl⟩<;>rfl
theorem at_ints{w:World}{a:Option Addr}{l:List Nat}(h:(Lay.int .i64).At 0 w a (intsN l))(hl:0<l.length):∃ad,a=some ad/\∀j v,(l.map λ(x:Nat)=>Value.int .i64 (x:Int))[j]? =some v->w.cell? (ad.add j)=some v:=by
 obtain⟨b,o,e,_,_⟩:=h.int (i:=0) (by simpa[intsN] using hl);refine⟨⟨b,o,none⟩,e,λ j v hv=> ?_⟩;obtain⟨hj,rfl⟩:=List.getElem?_eq_some_iff.1 hv;simp only[List.length_map] at hj;obtain⟨b',o',e',_,hc⟩:=h.int (i:=j) (by simpa[intsN] using hj);rw[e] at e';injection e' with e';injection e' with e1 e2;subst e1 e2;rw[add_at,hc];simp[intsN,List.getD_eq_getElem?_getD,List.getElem?_eq_getElem hj]
theorem step_nd{W:World}{ops:Array Oper}{o:Oper}{a:Act}{K:Act->World->Prop}{Q:Exit->Act->World->Prop}{E:Prop}(hgd:o.guard=none)(s x:Operand)
  (ho:o.op= .call {callee:=.builtin .append,args:=#[s,x],argTypes:=#[129,129]}){base:Nat}{v:Value}{ps:List NdH}(q:NdH){ad:Addr}{c:Nat}
  (hs:a.eval s=v)(hown:Lay.nd.Own 148 W base v ps)(hx:a.eval x= .slice (some ad) 1 c)(hnews:∀j u,(Lay.nd.flat [q])[j]? =some u->W.cell? (ad.add j)=some u)
  (hl:ps.length<=1000)(hbase:base<=W.heap.size)
  (h:∀v' w',Lay.nd.Own 148 w' base v' (ps++[q])->W.grownBy w' v.ownBlock->(v'.ownBlock=v.ownBlock\/v'.ownBlock=some W.heap.size)->K (a.put o.dst v') w'):
  if Region.wanted o (yielded ops a.tmps)=true then Oper.wp Tryz.prog o a W K Q else E:=by
 have hw:Region.wanted o (yielded ops a.tmps)=true:=by simp[Region.wanted,hgd]
 rw[if_pos hw];obtain⟨i0,hi,hz0,hz1,hz2⟩:=info_parts Tryz.elemN.info;obtain⟨v',w',hr,h1,h2,_,h4⟩:=run_append_own_at (P:=Tryz.prog) W base 129 o.type 148 i0 _ 3 40 Tryz.elemN.und hi hz0 hz1 hz2 rfl (by decide) v ps.length (Lay.nd.flat ps) hown ad 1 c (Lay.nd.flat [q]) (Lay.nd.flat_length [q]) hnews (Lay.nd.flat_one [q]) (by unfold maxLen;omega) (by omega) hbase;refine Lib.wp_append_run W s x 129 129 ho v _ hs hx v' w' hr (h v' w' ?_ h2 h4);unfold Lay.Own;rw[Lay.flat_append,List.length_append];exact h1
theorem PG.more{w:World}{B:Nat}{A A':Nat->Prop}{gb mb:Nat}{nv:Value}{W:Nat}{L:List Nd}(h:PG w B A gb mb nv W L)(hA':∀k,A' k->B<=k/\k<w.heap.size/\¬MutB gb (some mb) nv k):PG w B (λ k=>A k\/A' k) gb mb nv W L:=by
 obtain⟨xs,h1,h2⟩:=h.nds;exact⟨h.blk,h.map,⟨xs,h1,h2.len,λ i hi=>⟨(h2.at_ i hi).1,(h2.at_ i hi).2.1,(h2.at_ i hi).2.2.mono λ k a=>.inl a⟩⟩,h.ok,h.lo,h.ne,λ k a=>a.elim (h.ar k) (hA' k)⟩
theorem PG.add{w w4 w5 w7:World}{B:Nat}{A A':Nat->Prop}{gb mb:Nat}{nv v':Value}{W:Nat}{L:List Nd}{n:Nd}{hd:Option Addr×Nat×Nat}{es:Array MapEntry}{clock:Nat}{xs:List NdH}(h:PG w B A gb mb nv W L)(hn:NdOk W L.length n)
  (hA':∀k,A' k->B<=k/\k<w.heap.size/\¬MutB gb (some mb) nv k)(hh:HdAt w A' hd n.args)(hno:n∉L)
  (h4:Below w.heap.size w w4)(hxs:NdsOk w A xs L)(hown:Lay.nd.Own 148 w5 B v' (xs++[(n.op,n.num,hd)]))(hg:w4.grownBy w5 nv.ownBlock)(hv:v'.ownBlock=nv.ownBlock\/v'.ownBlock=some w4.heap.size)
  (h1:w.heap[mb]? =some (.map es clock))(h2:(es.toList.map λ e=>(e.key,e.val))=mapOf L 0)
  (e7:w7.heap=(w5.setCell ⟨gb,2,none⟩ v').heap.setIfInBounds mb (putE n L es clock))(o7:w7.os=w5.os/\w7.tape=w5.tape/\w7.output=w5.output):
  PG w7 B (λ k=>A k\/A' k) gb mb v' W (L++[n])/\Mut (MutB gb (some mb) nv) w w7/\NewB w nv v':=by
 have hgl:=h.lo gb (.inl rfl);have hml:=h.lo mb (.inr (.inl rfl));have hz4:=h4.size;have hz5:=hg.size;have hz7:w7.heap.size=w5.heap.size:=by rw[e7];simp
 obtain⟨n1,n2,n3⟩:=h.ne;have g4:w4.heap[gb]? =w.heap[gb]? :=h4.block gb hgl.2;have g5:w5.heap[gb]? =w.heap[gb]? :=(hg.block gb (by omega) (λ e=>n2 e.symm)).trans g4;have m5:w5.heap[mb]? =w.heap[mb]? :=(hg.block mb (by omega) (λ e=>n3 e.symm)).trans (h4.block mb hml.2);have old:∀k,k<w.heap.size->¬MutB gb (some mb) nv k->w7.heap[k]? =w.heap[k]? :=λ k hk hm=>by
  have hk1:k≠gb:=λ e=>hm (.inl e)
  have hk2:k≠mb:=λ e=>hm (.inr (.inl (by rw[e])))
  rw[e7,Array.getElem?_setIfInBounds_ne (λ e=>hk2 e.symm),Below.heap_setCell _ _ _ _ hk1];exact(hg.block k (by omega) (λ e=>hm (.inr (.inr e.symm)))).trans (h4.block k hk)
 have vne:v'.ownBlock≠some gb/\v'.ownBlock≠some mb:=by
  rcases hv with e|e
  ·rw[e];exact⟨n2,n3⟩
  ·rw[e];exact⟨λ e=>by injection e with e;omega,λ e=>by injection e with e;omega⟩
 have vlo:∀k,v'.ownBlock=some k->B<=k/\k<w5.heap.size:=λ k e=>World.ownsRow.lt hown k e
 refine⟨⟨?_,?_,⟨xs++[(n.op,n.num,hd)],?_,?_⟩,?_,?_,⟨n1,vne⟩,?_⟩,⟨?_,?_,?_,by omega,old⟩,?_⟩
 ·rw[e7,Array.getElem?_setIfInBounds_ne (λ e=>n1 e.symm)];have:=g5.trans h.blk;simp[World.setCell,Array.getElem?_modify,this]
 ·have hm6:(w5.setCell ⟨gb,2,none⟩ v').heap[mb]? =some (.map es clock):=by rw[Below.heap_setCell _ _ _ _ (λ e=>n1 e.symm)];exact m5.trans h1
  have:=GmAt.put hm6 h2 n;exact this.frame (by rw[e7])
 ·refine own_frame hown λ k e=> ?_
  rw[e7,Array.getElem?_setIfInBounds_ne (λ e'=>vne.2 (by rw[e,e'])),Below.heap_setCell _ _ _ _ (λ e'=>vne.1 (by rw[e,e']))]
 ·refine NdsOk.snoc (A:=A) ?_ (λ k a=>.inl a) ?_
  ·exact hxs.frame (by omega) λ k a=>old k (h.ar k a).2.1 (h.ar k a).2.2
  ·exact(hh.frame (by omega) λ k a=>old k (hA' k a).2.1 (hA' k a).2.2).mono λ k a=>.inr a
 ·have:=h.ok.ask hn;unfold askL at this;rwa[if_neg hno] at this
 ·rintro k (rfl|e|e)
  ·exact⟨hgl.1,by omega⟩
  ·injection e with e;subst e;exact⟨hml.1,by omega⟩
  ·have:=vlo k e;exact⟨this.1,by omega⟩
 ·have key:∀k,B<=k/\k<w.heap.size/\¬MutB gb (some mb) nv k->B<=k/\k<w7.heap.size/\¬MutB gb (some mb) v' k:=λ k ⟨a1,a2,a3⟩=>by
   refine⟨a1,by omega,?_⟩;rintro(e|e|e)
   ·exact a3 (.inl e)
   ·exact a3 (.inr (.inl e))
   ·rcases hv with e'|e'
    ·exact a3 (.inr (.inr (e'.symm.trans e)))
    ·rw[e'] at e;injection e with e;omega
  rintro k (a|a)
  ·exact key k (h.ar k a)
  ·exact key k (hA' k a)
 ·rw[o7.1,hg.os,h4.os]
 ·rw[o7.2.1,hg.tape,h4.tape]
 ·rw[o7.2.2,hg.output,h4.output]
 ·rcases hv with e|e
  ·exact .inl e
  ·exact .inr ⟨_,e,by omega⟩
def putW(w:World)(mb:Nat)(ob:Obj):World:={w with heap:=w.heap.setIfInBounds mb ob}
theorem below_drewN{B:Nat}{w w':World}(h:Below B w w')(m:Nat):Below B w (w'.drewN m):=⟨h.os,h.tape,h.output,h.size,h.block⟩
theorem AskPost.add{w w4 w5 w7:World}{B:Nat}{A A':Nat->Prop}{gb mb:Nat}{nv v':Value}{W:Nat}{L:List Nd}{n:Nd}{hd:Option Addr×Nat×Nat}{es:Array MapEntry}{clock:Nat}{xs:List NdH}(h:Hid (PG w B A gb mb nv W L))(hn:Hid (NdOk W L.length n))
  (hA':Hid (∀k,A' k->B<=k/\k<w.heap.size/\¬MutB gb (some mb) nv k))(hh:Hid (HdAt w A' hd n.args))(hno:Hid (n∉L))
  (h4:Below w.heap.size w w4)(hxs:Hid (NdsOk w A xs L))(hown:Hid (Lay.nd.Own 148 w5 B v' (xs++[(n.op,n.num,hd)])))(hg:Hid (w4.grownBy w5 nv.ownBlock))(hv:Hid (v'.ownBlock=nv.ownBlock\/v'.ownBlock=some w4.heap.size))
  (h1:Hid (w.heap[mb]? =some (.map es clock)))(h2:Hid ((es.toList.map λ e=>(e.key,e.val))=mapOf L 0))
  (e7:w7.heap=(w5.setCell ⟨gb,2,none⟩ v').heap.setIfInBounds mb (putE n L es clock))(o7:w7.os=w5.os/\w7.tape=w5.tape/\w7.output=w5.output):
  AskPost w B A A' gb mb nv W L n (.returned (.tuple #[.int .i64 (L.length:Int),.int .i64 0])) w7:=by
 obtain⟨p1,p2,p3⟩:=PG.add h.o hn.o hA'.o hh.o hno.o h4 hxs.o hown.o hg.o hv.o h1.o h2.o e7 o7;exact⟨v',by rw[ndAt_none hno.o],by rw[askL,if_neg hno.o];exact p1,p2,p3⟩
theorem mem_getN(L:List Nd)(x:Nd)(h:x∈L):∃i,i<L.length/\L.getD i default=x:=by
 obtain⟨i,hi,e⟩:=List.getElem_of_mem h;exact⟨i,hi,by rw[List.getD_eq_getElem?_getD,List.getElem?_eq_getElem hi];exact e⟩
set_option maxRecDepth 100000 in
set_option maxHeartbeats 4000000 in
theorem ask69{w:World}{B:Nat}{A A':Nat->Prop}{gb mb:Nat}{nv:Value}{W:Nat}{L:List Nd}(h:PG w B A gb mb nv W L)(n:Nd)(hn:NdOk W L.length n){a:Option Addr}{len cap:Nat}(hd:HdAt w A' (a,len,cap) n.args)
  (hA':∀k,A' k->B<=k/\k<w.heap.size/\¬MutB gb (some mb) nv k)(hB:B<=w.heap.size)(hL:L.length<=999):
  Calls Tryz.prog 89 #[.pointer (some ⟨gb,0,none⟩),.agg #[.int .u8 n.op,.int .u64 n.num,.slice a len cap]] w (AskPost w B A A' gb mb nv W L n):=by
 have hlt:=(h.lo gb (.inl rfl)).2;have hmt:=(h.lo mb (.inr (.inl rfl))).2;obtain⟨na,ncap,rfl,hcl,hcm⟩:=h.slice;have c0:w.cell? ⟨gb,3,none⟩=some (.map (some mb)):=by simp[World.cell?,h.blk]
 have c1:w.cell? ⟨gb,1,none⟩=some (.int .i64 1000):=by simp[World.cell?,h.blk]
 have c2:w.cell? ⟨gb,2,none⟩=some (.slice na L.length ncap):=by simp[World.cell?,h.blk]
 have hLi:(L.length:Int)<=999:=by omega
 have hl2:n.args.length<=2:=by rw[hn.2.2.2.2.1];have:=hn.1;unfold arN;(repeat' split)<;>omega
 have HK:=Z (splice_key n hl2);have HAT:=Z hd.at_;have hlen:len=n.args.length:=hd.len;have HP:=Z h;have hd0:HdAt w A' (a,n.args.length,cap) n.args:=by rw[<-hlen];exact hd
 clear hd;go_enter Tryz.func89,Tryz.ntmps89
 go_wp2_with fail
 have hB2:Below w.heap.size w ((w.alloc (Obj.cells #[Value.int IntKind.u8 n.op,Value.int IntKind.u64 n.num,Value.slice a n.args.length cap] 148)).alloc (Obj.cells #[Value.int IntKind.u8 n.op,Value.int IntKind.u64 n.num,Value.int IntKind.i64 0,Value.int IntKind.i64 0,Value.int IntKind.i64 0] 244)):=
  ((Below.refl _ _).alloc (Nat.le_refl _) _).alloc (by simp) _
 have hG2:((w.alloc (Obj.cells #[Value.int IntKind.u8 n.op,Value.int IntKind.u64 n.num,Value.slice a n.args.length cap] 148)).alloc (Obj.cells #[Value.int IntKind.u8 n.op,Value.int IntKind.u64 n.num,Value.int IntKind.i64 0,Value.int IntKind.i64 0,Value.int IntKind.i64 0] 244)).heap[w.heap.size+1]? =some (.cells ([Value.int .u8 n.op,.int .u64 n.num,.int .i64 0,.int .i64 0,.int .i64 0]:List Value).toArray 244 (0,0)):=by
  have:=heap_alloc_new (w.alloc (Obj.cells #[Value.int IntKind.u8 n.op,Value.int IntKind.u64 n.num,Value.slice a n.args.length cap] 148)) (Obj.cells #[Value.int IntKind.u8 n.op,Value.int IntKind.u64 n.num,Value.int IntKind.i64 0,Value.int IntKind.i64 0,Value.int IntKind.i64 0] 244);simpa using this
 have hC0:((w.alloc (Obj.cells #[Value.int IntKind.u8 n.op,Value.int IntKind.u64 n.num,Value.slice a n.args.length cap] 148)).alloc (Obj.cells #[Value.int IntKind.u8 n.op,Value.int IntKind.u64 n.num,Value.int IntKind.i64 0,Value.int IntKind.i64 0,Value.int IntKind.i64 0] 244)).cell? ⟨w.heap.size,0,none⟩=some (.int .u8 (n.op:Int)):=by
  have:=(((Below.refl (w.heap.size+1) (w.alloc (Obj.cells #[Value.int IntKind.u8 n.op,Value.int IntKind.u64 n.num,Value.slice a n.args.length cap] 148))).alloc (by simp) (Obj.cells #[Value.int IntKind.u8 n.op,Value.int IntKind.u64 n.num,Value.int IntKind.i64 0,Value.int IntKind.i64 0,Value.int IntKind.i64 0] 244)).cell (p:=⟨w.heap.size,0,none⟩) (by show w.heap.size<_;omega))
  rw[this,World.cell?_alloc_new];rfl
 have hC1:((w.alloc (Obj.cells #[Value.int IntKind.u8 n.op,Value.int IntKind.u64 n.num,Value.slice a n.args.length cap] 148)).alloc (Obj.cells #[Value.int IntKind.u8 n.op,Value.int IntKind.u64 n.num,Value.int IntKind.i64 0,Value.int IntKind.i64 0,Value.int IntKind.i64 0] 244)).cell? ⟨w.heap.size,1,none⟩=some (.int .u64 (n.num:Int)):=by
  have:=(((Below.refl (w.heap.size+1) (w.alloc (Obj.cells #[Value.int IntKind.u8 n.op,Value.int IntKind.u64 n.num,Value.slice a n.args.length cap] 148))).alloc (by simp) (Obj.cells #[Value.int IntKind.u8 n.op,Value.int IntKind.u64 n.num,Value.int IntKind.i64 0,Value.int IntKind.i64 0,Value.int IntKind.i64 0] 244)).cell (p:=⟨w.heap.size,1,none⟩) (by show w.heap.size<_;omega))
  rw[this,World.cell?_alloc_new];rfl
 have hC2:((w.alloc (Obj.cells #[Value.int IntKind.u8 n.op,Value.int IntKind.u64 n.num,Value.slice a n.args.length cap] 148)).alloc (Obj.cells #[Value.int IntKind.u8 n.op,Value.int IntKind.u64 n.num,Value.int IntKind.i64 0,Value.int IntKind.i64 0,Value.int IntKind.i64 0] 244)).cell? ⟨w.heap.size,2,none⟩=some (.slice a n.args.length cap):=by
  have:=(((Below.refl (w.heap.size+1) (w.alloc (Obj.cells #[Value.int IntKind.u8 n.op,Value.int IntKind.u64 n.num,Value.slice a n.args.length cap] 148))).alloc (by simp) (Obj.cells #[Value.int IntKind.u8 n.op,Value.int IntKind.u64 n.num,Value.int IntKind.i64 0,Value.int IntKind.i64 0,Value.int IntKind.i64 0] 244)).cell (p:=⟨w.heap.size,2,none⟩) (by show w.heap.size<_;omega))
  rw[this,World.cell?_alloc_new];rfl
 generalize((w.alloc (Obj.cells #[Value.int IntKind.u8 n.op,Value.int IntKind.u64 n.num,Value.slice a n.args.length cap] 148)).alloc (Obj.cells #[Value.int IntKind.u8 n.op,Value.int IntKind.u64 n.num,Value.int IntKind.i64 0,Value.int IntKind.i64 0,Value.int IntKind.i64 0] 244))=w2 at*
 go_region_law(refine step_copy_splice rfl (.tmp 16) (.tmp 18) 24 24 rfl 3 Tryz.underlying24 (by kernel_rfl) (some ⟨w.heap.size+1,2,none⟩) a 3 3 n.args.length cap rfl rfl (w.heap.size+1) 2 _ 244 (by first|exact hG2) (n.args.map λ(x:Nat)=>Value.int .i64 (x:Int)) (by rw[List.length_map];exact(Nat.min_eq_left (by omega)).symm) (λ hp=>⟨rfl,at_ints (HAT.o.below (by first|exact hB2|exact hB2.drew)) (by simpa using hp)⟩) (by simp;omega) (by intro v hv;obtain⟨x,_,rfl⟩:=List.mem_map.1 hv;rfl) (w.heap.size+1) w2 (by first|exact Below.refl _ _|exact(Below.refl _ _).drew) (by omega) ?_;intro w4 hg4 hb4x)
 have hb4:Below w.heap.size w w4:=hB2.trans (hb4x.mono (by omega));have hK4:w4.heap[w.heap.size+1]? =some (.cells (keyL n).toArray 244 (0,0)):=by rw[<-HK.o];exact hg4.o
 have k0:w4.cell? ⟨w.heap.size+1,0,none⟩=some (.int .u8 (n.op:Int)):=by simp[World.cell?,hK4,keyL]
 have k1:w4.cell? ⟨w.heap.size+1,1,none⟩=some (.int .u64 (n.num:Int)):=by simp[World.cell?,hK4,keyL]
 have k2:w4.cell? ⟨w.heap.size+1,2,none⟩=some (.int .i64 ((n.args.getD 0 0:Nat):Int)):=by simp[World.cell?,hK4,keyL]
 have k3:w4.cell? ⟨w.heap.size+1,3,none⟩=some (.int .i64 ((n.args.getD 1 0:Nat):Int)):=by simp[World.cell?,hK4,keyL]
 have k4:w4.cell? ⟨w.heap.size+1,4,none⟩=some (.int .i64 ((n.args.getD 2 0:Nat):Int)):=by simp[World.cell?,hK4,keyL]
 have c4:w4.cell? ⟨gb,3,none⟩=some (.map (some mb)):=(hb4.cell (p:=⟨gb,3,none⟩) hlt).trans c0;have c41:w4.cell? ⟨gb,1,none⟩=some (.int .i64 1000):=(hb4.cell (p:=⟨gb,1,none⟩) hlt).trans c1;have c42:w4.cell? ⟨gb,2,none⟩=some (.slice na L.length ncap):=(hb4.cell (p:=⟨gb,2,none⟩) hlt).trans c2;have hx0:w4.cell? ⟨w.heap.size,0,none⟩=some (.int .u8 (n.op:Int)):=(hb4x.cell (p:=⟨w.heap.size,0,none⟩) (by show w.heap.size<_;omega)).trans hC0;have hx1:w4.cell? ⟨w.heap.size,1,none⟩=some (.int .u64 (n.num:Int)):=(hb4x.cell (p:=⟨w.heap.size,1,none⟩) (by show w.heap.size<_;omega)).trans hC1;have hx2:w4.cell? ⟨w.heap.size,2,none⟩=some (.slice a n.args.length cap):=(hb4x.cell (p:=⟨w.heap.size,2,none⟩) (by show w.heap.size<_;omega)).trans hC2;have hLk:∀m,(Instr.lookup 174 (.map (some mb)) (.agg #[.int .u8 (n.op:Int),.int .u64 (n.num:Int),.int .i64 ((n.args.getD 0 0:Nat):Int),.int .i64 ((n.args.getD 1 0:Nat):Int),.int .i64 ((n.args.getD 2 0:Nat):Int)]) true).run Tryz.prog (w4.drewN m)= .ok (.tuple #[.int .i64 (if n∈L then(ndAt n L:Int) else 0),.bool (decide (n∈L))]) (w4.drewN m):=λ m=>by
  have hgm:GmAt (w4.drewN m) mb L:=HP.o.map.frame (hb4.block mb hmt);exact hgm.lookup gmT hn.2.2.2.2.1 (λ x hx=>by
   obtain⟨i,hi,rfl⟩:=mem_getN L x hx;exact(HP.o.ok i hi).2.2.2.2.1)
 have HB4:=Z hb4;have HKC:=Z hK4;have hs4:w.heap.size+1<w4.heap.size:=by have:=(Array.getElem?_eq_some_iff.1 hK4).1;exact this
 clear hb4 hb4x hg4 hK4 hB2 hG2 hC2 hC0 hC1 c0 c1 c2 HK HAT;have HHD:=Z hd0;have HNOK:=Z hn;have HAA:=Z hA';clear hd0 hn hA' h;by_cases hm:n∈L
 ·rw[if_pos hm,decide_eq_true hm] at hLk;have HM:=Z hm;clear hm;generalize n.args.getD 0 0=g0 at*;generalize n.args.getD 1 0=g1 at*;generalize n.args.getD 2 0=g2 at*
  go_wp2_with fail
  go_quiet(fail)
  go_wp2_with fail
  go_ret2
  exact⟨_,rfl,(by rw[askL,if_pos HM.o];exact(HP.o.more HAA.o).below (below_drewN HB4.o _)),Mut.of_below (below_drewN HB4.o _),.inl rfl⟩
 ·rw[if_neg hm,decide_eq_false hm] at hLk;have HM:=Z hm;clear hm;generalize hg0:n.args.getD 0 0=g0 at*;generalize hg1:n.args.getD 1 0=g1 at*;generalize hg2:n.args.getD 2 0=g2 at*;have HG0:=Z hg0;have HG1:=Z hg1;have HG2:=Z hg2;clear hg0 hg1 hg2
  go_wp2_with fail
  go_quiet(fail)
  go_wp2_with fail
  go_quiet(fail)
  go_wp2_with fail
  obtain⟨es,clock,hes1,hes2⟩:=HP.o.map.ents;have HE1:=Z hes1;have HE2:=Z hes2;have HAR:Hid (n.args.length=arN n.op):=Z HNOK.o.2.2.2.2.1;have HAL:Hid (∀m∈L,m.args.length=arN m.op):=Z λ x hx=>by
   obtain⟨i,hi,rfl⟩:=mem_getN L x hx;exact(HP.o.ok i hi).2.2.2.2.1
  clear hes1 hes2;obtain⟨xs,hown,hxs⟩:=HP.o.nds;have HXS:=Z hxs;have hxl:xs.length<=999:=by rw[hxs.len];exact hL
  have HOW:Hid (Lay.nd.Own 148 w4 B (.slice na L.length ncap) xs):=Z (own_frame hown λ k e=>HB4.o.block k (HP.o.lo k (.inr (.inr e))).2);have HNE:=Z HP.o.ne;have HGB:Hid (w4.heap[gb]? =some (.cells #[.int .i64 W,.int .i64 1000,.slice na L.length ncap,.map (some mb)] 176 (0,0))):=Z ((HB4.o.block gb hlt).trans HP.o.blk);have hgb4:gb<w4.heap.size:=by omega
  have hsz4:w.heap.size<w4.heap.size:=by omega
  have hcA:∀m ob,((w4.drewN m).alloc ob).cell? ⟨gb,2,none⟩=some (.slice na L.length ncap):=λ m ob=>(World.cell?_of_block (a:=⟨gb,2,none⟩) (Below.heap_alloc (w4.drewN m) ob gb hgb4)).trans c42
  clear hown hxs
  go_region_law(refine step_nd rfl (.tmp 50) (.tmp 52) rfl (n.op,n.num,a,n.args.length,cap) rfl (by first|exact(show Lay.nd.Own 148 _ B _ _ from HOW.o).alloc _) rfl (by first|exact lay_new_cells _ _ 148) (by omega) (by first|(simp;done)|(simp;omega)|omega) ?_;intro v' w5 ho5 hg5 hv5;obtain⟨av,cv,hav,_,_,_⟩:=ho5.at_ (d:=default);generalize hl9:(xs++[(n.op,n.num,(a,n.args.length,cap))]).length=l9 at hav;subst hav;have HO5:=Z ho5;have HG5:=Z hg5;have HV5:=Z hv5;clear hl9;have hb5:w5.heap[gb]? =some (.cells #[.int .i64 W,.int .i64 1000,.slice na L.length ncap,.map (some mb)] 176 (0,0)):=(hg5.block gb (by first|(simp;done)|(simp;omega)|omega) (λ e=>HNE.o.2.1 e.symm)).trans ((Below.heap_alloc _ _ gb (by exact hgb4)).trans HGB.o);have hc5:w5.cell? ⟨gb,2,none⟩=some (.slice na L.length ncap):=(by simp[World.cell?,hb5]);have hf5:w5.frozen? ⟨gb,2,none⟩=false:=(by simp[World.frozen?,hb5]);have HB5:=Z hb5;clear ho5 hg5 hv5 hb5)
  all_goals
   have hnb:∀k,(Value.slice na L.length ncap).ownBlock=some k->k<w.heap.size:=λ k e=>(HP.o.lo k (.inr (.inr e))).2
   have hgk:gb≠w.heap.size+1:=by omega
   have kk:∀j,(w5.setCell ⟨gb,2,none⟩ (.slice av l9 cv)).cell? ⟨w.heap.size+1,j,none⟩=w4.cell? ⟨w.heap.size+1,j,none⟩:=λ j=>World.cell?_of_block (a:=⟨w.heap.size+1,j,none⟩) ((Below.heap_setCell _ _ _ _ (λ e=>hgk e.symm)).trans ((HG5.o.block (w.heap.size+1) (by first|(simp;done)|(simp;omega)|omega) (λ e=>by have:=hnb _ e.symm;omega)).trans (Below.heap_alloc _ _ _ (by exact hs4))))
   have hmbm:(w5.setCell ⟨gb,2,none⟩ (.slice av l9 cv)).heap[mb]? =some (.map es clock):=(Below.heap_setCell _ _ _ _ (λ e=>HNE.o.1 e.symm)).trans ((HG5.o.block mb (by first|(simp;done)|(simp;omega)|omega) (λ e=>HNE.o.2.2 e.symm)).trans ((Below.heap_alloc _ _ _ (by show mb<w4.heap.size;omega)).trans ((HB4.o.block mb hmt).trans HE1.o)));have q0:=(kk 0).trans k0;have q1:=(kk 1).trans k1;have q2:=(kk 2).trans k2;have q3:=(kk 3).trans k3;have q4:=(kk 4).trans k4;have q5:(w5.setCell ⟨gb,2,none⟩ (.slice av l9 cv)).cell? ⟨gb,3,none⟩=some (.map (some mb)):=by
    have:=HB5.o;simp[World.cell?,World.setCell,Array.getElem?_modify,this]
   have HMB:=Z hmbm;have HKE:Hid (keyV n= .agg #[.int .u8 (n.op:Int),.int .u64 (n.num:Int),.int .i64 (g0:Int),.int .i64 (g1:Int),.int .i64 (g2:Int)]):=Z (by rw[<-HG0.o,<-HG1.o,<-HG2.o];rfl);have hUpA:∀w',Hid (w'.heap=(w5.setCell ⟨gb,2,none⟩ (.slice av l9 cv)).heap)->(Instr.mapUpdate 174 (.map (some mb)) (.agg #[.int .u8 (n.op:Int),.int .u64 (n.num:Int),.int .i64 (g0:Int),.int .i64 (g1:Int),.int .i64 (g2:Int)]) (.int .i64 (L.length:Int))).run Tryz.prog w'= .ok () (putW w' mb (putE n L es clock)):=λ w' hw'=>by
    have:=GmAt.update (w:=w') gmT (by rw[hw'.o];exact HMB.o) HE2.o HAR.o HAL.o HM.o;rw[HKE.o] at this;exact this
   have hUp1:=hUpA (w5.setCell ⟨gb,2,none⟩ (.slice av l9 cv)).drew (Z rfl);have hUp2:=hUpA (w5.setCell ⟨gb,2,none⟩ (.slice av l9 cv)) (Z rfl);clear hUpA;clear hnb kk hmbm k0 k1 k2 k3 k4 c4 c41 c42 hcA hc5 hf5 hLk hx0 hx1 hx2;generalize hw6:w5.setCell ⟨gb,2,none⟩ (.slice av l9 cv)=w6 at*;have HW:=Z hw6;clear hw6
   go_wp2_with fail
   go_still_tail 6,(by kernel_rfl)
   go_wp2_with fail
   all_goals
    go_wp2_with fail
    go_ret2
    exact AskPost.add HP HNOK HAA HHD HM ((below_drewN HB4.o _).alloc (by show w.heap.size<=w4.heap.size;omega) _) HXS HO5 HG5 HV5 HE1 HE2 (by rw[HW.o];rfl) (by rw[<-HW.o];exact⟨rfl,rfl,rfl⟩)
end Go.Proofs.YtgdpkkjfcdhmdaaGreatDoor
