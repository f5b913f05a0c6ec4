/- Graphs of terms in memory, of the code and of the reference. -/
import Derived.Test.YtgdpkkjfcdhmdaaGreatDoorS0
import Derived.Test.YtgdpkkjfcdhmdaaGreatDoorS9
import Derived.Test.YtgdpkkjfcdhmdaaGreatDoorS2
import Derived.Test.YtgdpkkjfcdhmdaaGreatDoorS5
import Derived.WalkKit
import Derived.Outline
import Derived.Deep.CutBlock
import Derived.Deep.Draws
namespace Go.Proofs.YtgdpkkjfcdhmdaaGreatDoor
open Go Go.RowKit
open Go.Proofs.YtgdpkkjfcdhmdaaGreatDoor.Cr
def keyL(n:Nd):List Value:=[.int .u8 (Int.ofNat n.op),.int .u64 (Int.ofNat n.num),.int .i64 (Int.ofNat (n.args.getD 0 0)),.int .i64 (Int.ofNat (n.args.getD 1 0)),.int .i64 (Int.ofNat (n.args.getD 2 0))]
def keyV(n:Nd):Value:=.agg ⟨keyL n⟩
def ksK:List Nat:=[0,0,0,0,0]
theorem args_eq:∀{l r:List Nat},l.length=r.length->l.length<=3->l.getD 0 0=r.getD 0 0->l.getD 1 0=r.getD 1 0->l.getD 2 0=r.getD 2 0->l=r
 |[],[],_,_,_,_,_=>rfl
 |[],_::_,h,_,_,_,_=>by simp at h
 |_::_,[],h,_,_,_,_=>by simp at h
 |[a],[b],_,_,h0,_,_=>by simpa using h0
 |[a],_::_::_,h,_,_,_,_=>by simp at h
 |_::_::_,[b],h,_,_,_,_=>by simp at h
 |[a,b],[c,d],_,_,h0,h1,_=>by simp at h0 h1;rw[h0,h1]
 |[a,b],_::_::_::_,h,_,_,_,_=>by simp at h
 |_::_::_::_,[c,d],h,_,_,_,_=>by simp at h
 |[a,b,c],[d,e,f],_,_,h0,h1,h2=>by simp at h0 h1 h2;rw[h0,h1,h2]
 |_::_::_::_::_,_::_::_::_,_,h,_,_,_=>by simp at h
 |[a,b,c],_::_::_::_::_,h,_,_,_,_=>by simp at h
theorem arN_le(o:Nat):arN o<=3:=by unfold arN;(repeat' split)<;>omega
theorem leq1_nat(k:IntKind)(a b:Nat)(hk:keq k k=true):leq1 0 (.int k (Int.ofNat a)) (.int k (Int.ofNat b))=some (Nat.beq a b):=by
 show(bif Nat.beq 0 0&&keq k k then some (ieq (Int.ofNat a) (Int.ofNat b)) else none)=_;rw[hk];rfl
theorem keyEq_nd{n m:Nd}(hn:n.args.length=arN n.op)(hm:m.args.length=arN m.op):keyEq ksK true (keyV n) (keyV m)=some (decide (m=n)):=by
 show leqE ksK (keyL n) (keyL m)=_;obtain⟨o,u,l⟩:=n;obtain⟨p,v,r⟩:=m;simp only at hn hm;have key:∀{a b:Nat},(a=b)->Nat.beq a b=true:=λ h=>by subst h;exact Nat.beq_refl _
 have kno:∀{a b:Nat},(a≠b)->Nat.beq a b=false:=λ{a b} h=>by
  cases hb:Nat.beq a b with
  |true=>exact absurd (Nat.eq_of_beq_eq_true hb) h
  |false=>rfl
 unfold ksK keyL;simp only[leqE,leq1_nat .u8 _ _ rfl,leq1_nat .u64 _ _ rfl,leq1_nat .i64 _ _ rfl];by_cases e:(⟨p,v,r⟩:Nd)=⟨o,u,l⟩
 ·simp only[Nd.mk.injEq] at e;obtain⟨rfl,rfl,rfl⟩:=e;simp[Nat.beq_refl]
 ·rw[decide_eq_false e];by_cases h1:o=p
  ·subst h1;rw[key rfl];simp only;by_cases h2:u=v
   ·subst h2;rw[key rfl];simp only;by_cases h3:l.getD 0 0=r.getD 0 0
    ·rw[key h3];simp only;by_cases h4:l.getD 1 0=r.getD 1 0
     ·rw[key h4];simp only;by_cases h5:l.getD 2 0=r.getD 2 0
      ·exact absurd (by rw[args_eq (hn.trans hm.symm) (by rw[hn];exact arN_le _) h3 h4 h5]) e
      ·rw[kno h5]
     ·rw[kno h4]
    ·rw[kno h3]
   ·rw[kno h2]
  ·rw[kno h1]
def mapOf:List Nd->Nat->List (Value×Value)
 |[],_=>[]
 |n::l,i=>(keyV n,.int .i64 (Int.ofNat i))::mapOf l (i+1)
theorem mapOf_snoc(n:Nd):∀(l:List Nd) (i:Nat),mapOf (l++[n]) i=mapOf l i++[(keyV n,.int .i64 (Int.ofNat (i+l.length)))]
 |[],i=>rfl
 |m::l,i=>by
  show _::mapOf (l++[n]) (i+1)=_::(mapOf l (i+1)++_);rw[mapOf_snoc n l (i+1)];simp only[List.length_cons];rw[show i+1+l.length=i+(l.length+1) by omega]
theorem kfind_nd{n:Nd}(hn:n.args.length=arN n.op):∀(l:List Nd) (i j:Nat),(∀m∈l,m.args.length=arN m.op)->kfind ksK true (keyV n) (mapOf l i) j=some (if n∈l then some (j+ndAt n l,.int .i64 (Int.ofNat (i+ndAt n l))) else none)
 |[],i,j,_=>by simp[mapOf,kfind]
 |m::l,i,j,h=>by
  have ih:=kfind_nd hn l (i+1) (j+1) (λ x hx=>h x (List.mem_cons_of_mem _ hx));have hk:=keyEq_nd hn (h m (List.mem_cons_self ..));show(match keyEq ksK true (keyV n) (keyV m) with
   |none=>none
   |some true=>some (some (j,(.int .i64 (Int.ofNat i):Value)))
   |some false=>kfind ksK true (keyV n) (mapOf l (i+1)) (Nat.succ j))=_
  rw[hk];by_cases e:m=n
  ·rw[decide_eq_true e];simp[e,ndAt]
  ·rw[decide_eq_false e];simp only;show kfind ksK true (keyV n) (mapOf l (i+1)) (j+1)=_;rw[ih];have e1:ndAt n (m::l)=ndAt n l+1:=by
    show(if m=n then 0 else ndAt n l+1)=_;rw[if_neg e]
   have e2:(n∈m::l)↔n∈l:=by simp[Ne.symm e]
   rw[e1];by_cases hm:n∈l
   ·rw[if_pos hm,if_pos (e2.2 hm)]
    congr 2
    ·rw[show j+1+ndAt n l=j+(ndAt n l+1) by omega,show i+1+ndAt n l=i+(ndAt n l+1) by omega]
   ·rw[if_neg hm,if_neg (λ h=>hm (e2.1 h))]
structure GmT (P:Program) (t kt et:TypeId) (D:TypeDesc) (d:Nat):Prop where
 und:P.underlying t=some (.map kt et)
 key:P.underlying kt=some D
 shape:shp P d kt=some ksK
 deep:d<=10000
 agg:aggD D=true
 zero:∀w,(zeroValue et).run P w= .ok (.int .i64 0) w
structure GmAt (w:World) (mb:Nat) (L:List Nd):Prop where
 ents:∃es clock,w.heap[mb]? =some (.map es clock)/\(es.toList.map λ e=>(e.key,e.val))=mapOf L 0
def idMu:Mu:=⟨λ _=>none,λ _=>0⟩
theorem mapOf_keys:∀(l:List Nd) (i:Nat),(mapOf l i).map (·.1)=l.map keyV
 |[],_=>rfl
 |n::l,i=>by simp[mapOf,mapOf_keys l (i+1)]
theorem VR.key(n:Nd):VR idMu (keyV n) (keyV n):=VR.plain rfl
theorem LR.same_keys(l:List Nd):LR idMu (l.map keyV) (l.map keyV):=⟨rfl,λ j a b=>by
 simp only[List.getElem_map];exact VR.key _⟩
theorem LR.same_vals:∀(l:List Nd) (i:Nat),LR idMu ((mapOf l i).map (·.2)) ((mapOf l i).map (·.2))
 |[],_=>LR.nil _
 |_::l,i=>LR.cons (VR.int _ _) (LR.same_vals l (i+1))
section
variable {P:Program} {t kt et:TypeId} {D:TypeDesc} {d:Nat} {w:World} {mb:Nat} {L:List Nd}
theorem GmAt.find(T:GmT P t kt et D d){n:Nd}(hn:n.args.length=arN n.op)(hl:∀m∈L,m.args.length=arN m.op){es:Array MapEntry}(he:(es.toList.map λ e=>(e.key,e.val))=mapOf L 0):
  (Instr.findKey kt (keyV n) es.toList).run P w= .ok (if n∈L then some (ndAt n L,.int .i64 (Int.ofNat (ndAt n L))) else none) w:=by
 have h1:es.toList.map (·.key)=L.map keyV:=by
  have:=congrArg (List.map (·.1)) he;rw[List.map_map,mapOf_keys] at this;exact this
 have h2:es.toList.map (·.val)=(mapOf L 0).map (·.2):=by
  have:=congrArg (List.map (·.2)) he;rw[List.map_map] at this;exact this
 have hf:=kfind_nd hn L 0 0 hl;rw[Nat.zero_add] at hf;obtain⟨r',k1,k2⟩:=findKey_ok (P:=P) (w:=w) (μ:=idMu) (es:=mapOf L 0) (ents:=es.toList) T.deep T.shape T.key (VR.key n) (by rw[mapOf_keys,h1];exact LR.same_keys L) (by rw[h2];exact LR.same_vals L 0) (by rw[T.agg];exact hf);rw[k1];by_cases hm:n∈L
 ·rw[if_pos hm] at k2⊢;obtain⟨v',rfl,hv⟩:=k2;cases hv
  rfl
 ·rw[if_neg hm] at k2⊢;have:r'=none:=k2;rw[this]
theorem GmAt.check(T:GmT P t kt et D d)(n:Nd)(em:Bool):(Instr.checkKey em 10000 kt (keyV n)).run P w= .ok () w:=
 chk_of (μ:=idMu) T.deep T.shape T.key (VR.key n) (by rw[T.agg];rfl)
theorem GmAt.lookup(T:GmT P t kt et D d)(h:GmAt w mb L){n:Nd}(hn:n.args.length=arN n.op)(hl:∀m∈L,m.args.length=arN m.op):
  (Instr.lookup t (.map (some mb)) (keyV n) true).run P w= .ok (.tuple #[.int .i64 (if n∈L then(ndAt n L:Int) else 0),.bool (decide (n∈L))]) w:=by
 obtain⟨es,clock,h1,h2⟩:=h.ents;have hget:(getObj mb).run P w= .ok (.map es clock) w:=by simp[getObj,Sem.run,h1]
 have:=run_lookup (ok:=true) T.und hget (GmAt.check T n) (GmAt.find T hn hl h2) (T.zero w);rw[this];by_cases hm:n∈L
 ·rw[if_pos hm,if_pos hm,decide_eq_true hm];rfl
 ·rw[if_neg hm,if_neg hm,decide_eq_false hm];rfl
def putE(n:Nd)(L:List Nd)(es:Array MapEntry)(clock:Nat):Obj:=.map (es.push {key:=keyV n,val:=.int .i64 (L.length:Int),born:=clock}) (clock+1)
theorem GmAt.update(T:GmT P t kt et D d){es:Array MapEntry}{clock:Nat}(h1:w.heap[mb]? =some (.map es clock))(h2:(es.toList.map λ e=>(e.key,e.val))=mapOf L 0){n:Nd}(hn:n.args.length=arN n.op)(hl:∀m∈L,m.args.length=arN m.op)(hno:n∉L):
  (Instr.mapUpdate t (.map (some mb)) (keyV n) (.int .i64 (L.length:Int))).run P w= .ok () {w with heap:=w.heap.setIfInBounds mb (putE n L es clock)}:=by
 have hget:(getObj mb).run P w= .ok (.map es clock) w:=by simp[getObj,Sem.run,h1]
 have hset:∀ob,(setObj mb ob).run P w= .ok () {w with heap:=w.heap.setIfInBounds mb ob}:=λ ob=>by simp[setObj,Sem.run,h1]
 have hf:=GmAt.find (w:=w) T hn hl h2;rw[if_neg hno] at hf;simp only[Instr.mapUpdate,Sem.run_bind,run_underlying T.und,Result.andThen_ok,hget,GmAt.check T n false,hf,hset,putE]
theorem GmAt.put{es:Array MapEntry}{clock:Nat}(h1:w.heap[mb]? =some (.map es clock))(h2:(es.toList.map λ e=>(e.key,e.val))=mapOf L 0)(n:Nd):GmAt {w with heap:=w.heap.setIfInBounds mb (putE n L es clock)} mb (L++[n]):=by
 have hlt:mb<w.heap.size:=(Array.getElem?_eq_some_iff.1 h1).1;refine⟨es.push {key:=keyV n,val:=.int .i64 (L.length:Int),born:=clock},clock+1,by show(w.heap.setIfInBounds mb _)[mb]? =_;rw[Array.getElem?_setIfInBounds_self_of_lt hlt];rfl,?_⟩;rw[mapOf_snoc,<-h2];simp
end
end Go.Proofs.YtgdpkkjfcdhmdaaGreatDoor
namespace Go.Proofs.YtgdpkkjfcdhmdaaGreatDoor
open Go.RowKit
def Same(w w':World):Prop:=∃m,w'=w.drewN m
theorem Same.refl(w:World):Same w w:=⟨0,rfl⟩
theorem Same.drewN{w w':World}(h:Same w w')(n:Nat):Same w (w'.drewN n):=by
 obtain⟨m,rfl⟩:=h;exact⟨m+n,World.drewN_drewN ..⟩
theorem Same.trans{a b c:World}(h:Same a b)(k:Same b c):Same a c:=by
 obtain⟨m,rfl⟩:=h;obtain⟨n,rfl⟩:=k;exact⟨m+n,World.drewN_drewN ..⟩
theorem Same.cell{w w':World}(h:Same w w')(a:Addr):w'.cell? a=w.cell? a:=by obtain⟨m,rfl⟩:=h;rfl
theorem Same.below{w w':World}(h:Same w w')(B:Nat):Below B w w':=by obtain⟨m,rfl⟩:=h;exact⟨rfl,rfl,rfl,Nat.le_refl _,λ _ _=>rfl⟩
theorem Lay.At.same{α:Type}{L:Lay α}{d:α}{w w':World}{a:Option Addr}{xs:List α}(h:L.At d w a xs)(s:Same w w'):L.At d w' a xs:=h.below (s.below _)
theorem getD_mem{α:Type}(d:α)(xs:List α)(i:Nat)(h:i<xs.length):xs.getD i d∈xs:=by
 rw[List.getD_eq_getElem?_getD,List.getElem?_eq_getElem h];exact List.getElem_mem h
theorem take_getD{α:Type}(d:α)(ps:List α)(q:Nat)(h:q<ps.length):ps.take (q+1)=ps.take q++[ps.getD q d]:=by
 rw[List.take_succ_eq_append_getElem h,List.getD_eq_getElem?_getD,List.getElem?_eq_getElem h];rfl
theorem Lay.Own.lower{α:Type}{L:Lay α}{e:TypeId}{w:World}{b b':Nat}{v:Value}{xs:List α}(h:L.Own e w b v xs)(hb:b'<=b):L.Own e w b' v xs:=
 ⟨h.1,h.2.imp id λ⟨g,cap,cur,e,hg,r⟩=>⟨g,cap,cur,e,Nat.le_trans hb hg,r⟩⟩
section
variable {α:Type} {L:Lay α} {w:World} {P:Program} {t e:TypeId} {z:Value} {bytes:Nat}
end
abbrev Hdr:=Option Addr×Nat×Nat
theorem getD_left{α:Type}(d:α)(xs ys:List α)(i:Nat)(h:i<xs.length):(xs++ys).getD i d=xs.getD i d:=by
 rw[List.getD_eq_getElem?_getD,List.getD_eq_getElem?_getD,List.getElem?_append_left h]
theorem getD_last{α:Type}(d x:α)(xs:List α)(i:Nat)(h:i=xs.length):(xs++[x]).getD i d=x:=by
 subst h;rw[List.getD_eq_getElem?_getD,List.getElem?_append_right (Nat.le_refl _)];simp
abbrev NdH:=Nat×Nat×(Option Addr×Nat×Nat)
def Lay.nd:Lay NdH:=⟨3,λ p=>[.int .u8 (p.1:Int),.int .u64 (p.2.1:Int),.slice p.2.2.1 p.2.2.2.1 p.2.2.2.2],λ _=>rfl,λ x u hu=>by simp at hu;rcases hu with rfl|rfl|rfl<;>rfl,by decide⟩
theorem Tryz.elemN:ElemT Tryz.prog Lay.nd 129 148 (.agg #[.int .u8 0,.int .u64 0,.slice none 0 0]) 40:=⟨Tryz.underlying129,by kernel_rfl,rfl,by decide⟩
theorem gmT:GmT Tryz.prog 174 244 3 ((Tryz.prog.underlying 244).getD .bool) 6:=⟨by kernel_rfl,by kernel_rfl,by kernel_rfl,by decide,by kernel_rfl,λ w=>by kernel_rfl⟩
def intsN(l:List Nat):List Int:=l.map λ(n:Nat)=>(n:Int)
structure HdAt (w:World) (A:Nat->Prop) (h:Option Addr×Nat×Nat) (args:List Nat):Prop where
 len:h.2.1=args.length
 at_:(Lay.int .i64).At 0 w h.1 (intsN args)
 blk:∀a,h.1=some a->A a.block
 non:h.1=none->h.2.2=0
structure NdsOk (w:World) (A:Nat->Prop) (xs:List NdH) (L:List Nd):Prop where
 len:xs.length=L.length
 at_:∀i,i<L.length->(xs.getD i default).1=(L.getD i default).op/\(xs.getD i default).2.1=(L.getD i default).num/\HdAt w A (xs.getD i default).2.2 (L.getD i default).args
def MutB(gb:Nat)(mb:Option Nat)(nv:Value)(k:Nat):Prop:=k=gb\/mb=some k\/nv.ownBlock=some k
structure PG (w:World) (B:Nat) (A:Nat->Prop) (gb mb:Nat) (nv:Value) (W:Nat) (L:List Nd):Prop where
 blk:w.heap[gb]? =some (.cells #[.int .i64 W,.int .i64 1000,nv,.map (some mb)] 176 (0,0))
 map:GmAt w mb L
 nds:∃xs,Lay.nd.Own 148 w B nv xs/\NdsOk w A xs L
 ok:GOk W L
 lo:∀k,MutB gb (some mb) nv k->B<=k/\k<w.heap.size
 ne:gb≠mb/\nv.ownBlock≠some gb/\nv.ownBlock≠some mb
 ar:∀k,A k->B<=k/\k<w.heap.size/\¬MutB gb (some mb) nv k
structure RG (w:World) (B:Nat) (A:Nat->Prop) (gb:Nat) (nv:Value) (W:Nat) (L:List Nd):Prop where
 blk:w.heap[gb]? =some (.cells #[.int .i64 W,.int .i64 1000,nv] 131 (0,0))
 nds:∃xs,Lay.nd.Own 148 w B nv xs/\NdsOk w A xs L
 ok:GOk W L
 lo:∀k,MutB gb none nv k->B<=k/\k<w.heap.size
 ne:nv.ownBlock≠some gb
 ar:∀k,A k->B<=k/\k<w.heap.size/\¬MutB gb none nv k
structure Mut (S:Nat->Prop) (w w':World):Prop where
 os:w'.os=w.os
 tape:w'.tape=w.tape
 output:w'.output=w.output
 size:w.heap.size<=w'.heap.size
 block:∀k,k<w.heap.size->¬S k->w'.heap[k]? =w.heap[k]?
theorem Mut.below{S:Nat->Prop}{B:Nat}{w w':World}(h:Mut S w w')(hS:∀k,S k->B<=k)(hB:B<=w.heap.size):Below B w w':=
 ⟨h.os,h.tape,h.output,h.size,λ k hk=>h.block k (by omega) (λ hs=>by have:=hS k hs;omega)⟩
theorem Mut.of_below{S:Nat->Prop}{w w':World}(h:Below w.heap.size w w'):Mut S w w':=⟨h.os,h.tape,h.output,h.size,λ k hk _=>h.block k hk⟩
theorem Mut.trans{S:Nat->Prop}{a b c:World}(h:Mut S a b)(k:Mut S b c):Mut S a c:=
 ⟨k.os.trans h.os,k.tape.trans h.tape,k.output.trans h.output,Nat.le_trans h.size k.size,λ i hi hs=>(k.block i (Nat.lt_of_lt_of_le hi h.size) hs).trans (h.block i hi hs)⟩
theorem At.frame{α:Type}{L:Lay α}{d:α}{w w':World}{a:Option Addr}{xs:List α}(h:L.At d w a xs)(hs:w.heap.size<=w'.heap.size)(hk:∀ad,a=some ad->w'.heap[ad.block]? =w.heap[ad.block]?):L.At d w' a xs:=λ i hi=>by
 obtain⟨b,o,e,h0,h1⟩:=h i hi;exact⟨b,o,e,Nat.lt_of_lt_of_le h0 hs,λ j hj=>(World.cell?_of_block (a:=⟨b,o+i*L.sz+j,none⟩) (hk ⟨b,o,none⟩ e)).trans (h1 j hj)⟩
theorem HdAt.frame{w w':World}{A:Nat->Prop}{h:Option Addr×Nat×Nat}{args:List Nat}(hh:HdAt w A h args)(hs:w.heap.size<=w'.heap.size)(hk:∀k,A k->w'.heap[k]? =w.heap[k]?):HdAt w' A h args:=
 ⟨hh.len,At.frame hh.at_ hs λ ad e=>hk _ (hh.blk ad e),hh.blk,hh.non⟩
theorem HdAt.mono{w:World}{A A':Nat->Prop}{h:Option Addr×Nat×Nat}{args:List Nat}(hh:HdAt w A h args)(hk:∀k,A k->A' k):HdAt w A' h args:=
 ⟨hh.len,hh.at_,λ a e=>hk _ (hh.blk a e),hh.non⟩
theorem NdsOk.frame{w w':World}{A:Nat->Prop}{xs:List NdH}{L:List Nd}(h:NdsOk w A xs L)(hs:w.heap.size<=w'.heap.size)(hk:∀k,A k->w'.heap[k]? =w.heap[k]?):NdsOk w' A xs L:=
 ⟨h.len,λ i hi=>⟨(h.at_ i hi).1,(h.at_ i hi).2.1,(h.at_ i hi).2.2.frame hs hk⟩⟩
theorem NdsOk.snoc{w:World}{A A':Nat->Prop}{xs:List NdH}{L:List Nd}(h:NdsOk w A xs L)(hA:∀k,A k->A' k){n:Nd}{hd:Option Addr×Nat×Nat}(hh:HdAt w A' hd n.args):NdsOk w A' (xs++[(n.op,n.num,hd)]) (L++[n]):=by
 refine⟨by simp[h.len],λ i hi=> ?_⟩;simp only[List.length_append,List.length_singleton] at hi;by_cases e:i<L.length
 ·have h1:(xs++[(n.op,n.num,hd)]).getD i default=xs.getD i default:=by
   rw[List.getD_eq_getElem?_getD,List.getD_eq_getElem?_getD,List.getElem?_append_left (by rw[h.len];exact e)]
  have h2:(L++[n]).getD i default=L.getD i default:=by
   rw[List.getD_eq_getElem?_getD,List.getD_eq_getElem?_getD,List.getElem?_append_left e]
  rw[h1,h2];exact⟨(h.at_ i e).1,(h.at_ i e).2.1,(h.at_ i e).2.2.mono hA⟩
 ·have e2:i=L.length:=by omega
  subst e2;have h1:(xs++[(n.op,n.num,hd)]).getD L.length default=(n.op,n.num,hd):=by
   rw[List.getD_eq_getElem?_getD,List.getElem?_append_right (by rw[h.len];exact Nat.le_refl _),h.len];simp
  have h2:(L++[n]).getD L.length default=n:=by
   rw[List.getD_eq_getElem?_getD,List.getElem?_append_right (Nat.le_refl _)];simp
  rw[h1,h2];exact⟨rfl,rfl,hh⟩
theorem own_frame{w w':World}{B:Nat}{nv:Value}{xs:List NdH}(h:Lay.nd.Own 148 w B nv xs)(hk:∀k,nv.ownBlock=some k->w'.heap[k]? =w.heap[k]?):Lay.nd.Own 148 w' B nv xs:=by
 obtain⟨hl,h|⟨g,cap,cur,rfl,hg,hh,hn,hm,hs,ht⟩⟩:=h
 ·exact⟨hl,.inl h⟩
 ·exact⟨hl,.inr ⟨g,cap,cur,rfl,hg,(hk g rfl).trans hh,hn,hm,hs,ht⟩⟩
theorem GmAt.frame{w w':World}{mb:Nat}{L:List Nd}(h:GmAt w mb L)(hk:w'.heap[mb]? =w.heap[mb]?):GmAt w' mb L:=by
 obtain⟨es,clock,h1,h2⟩:=h.ents;exact⟨⟨es,clock,hk.trans h1,h2⟩⟩
section
variable {w w':World} {B:Nat} {A:Nat->Prop} {gb mb:Nat} {nv:Value} {W:Nat} {L:List Nd}
theorem PG.frame(h:PG w B A gb mb nv W L)(hs:w.heap.size<=w'.heap.size)(hk:∀k,MutB gb (some mb) nv k\/A k->w'.heap[k]? =w.heap[k]?):PG w' B A gb mb nv W L:=by
 obtain⟨xs,h1,h2⟩:=h.nds;exact⟨(hk gb (.inl (.inl rfl))).trans h.blk,h.map.frame (hk mb (.inl (.inr (.inl rfl)))),⟨xs,own_frame h1 λ k e=>hk k (.inl (.inr (.inr e))),h2.frame hs λ k a=>hk k (.inr a)⟩,h.ok,
  λ k m=>⟨(h.lo k m).1,Nat.lt_of_lt_of_le (h.lo k m).2 hs⟩,h.ne,λ k a=>⟨(h.ar k a).1,Nat.lt_of_lt_of_le (h.ar k a).2.1 hs,(h.ar k a).2.2⟩⟩
theorem RG.frame(h:RG w B A gb nv W L)(hs:w.heap.size<=w'.heap.size)(hk:∀k,MutB gb none nv k\/A k->w'.heap[k]? =w.heap[k]?):RG w' B A gb nv W L:=by
 obtain⟨xs,h1,h2⟩:=h.nds;exact⟨(hk gb (.inl (.inl rfl))).trans h.blk,⟨xs,own_frame h1 λ k e=>hk k (.inl (.inr (.inr e))),h2.frame hs λ k a=>hk k (.inr a)⟩,h.ok,
  λ k m=>⟨(h.lo k m).1,Nat.lt_of_lt_of_le (h.lo k m).2 hs⟩,h.ne,λ k a=>⟨(h.ar k a).1,Nat.lt_of_lt_of_le (h.ar k a).2.1 hs,(h.ar k a).2.2⟩⟩
theorem PG.below(h:PG w B A gb mb nv W L)(hb:Below w.heap.size w w'):PG w' B A gb mb nv W L:=
 h.frame hb.size λ k hk=>hb.block k (by rcases hk with m|a;exact(h.lo k m).2;exact(h.ar k a).2.1)
theorem RG.below(h:RG w B A gb nv W L)(hb:Below w.heap.size w w'):RG w' B A gb nv W L:=
 h.frame hb.size λ k hk=>hb.block k (by rcases hk with m|a;exact(h.lo k m).2;exact(h.ar k a).2.1)
theorem PG.slice(h:PG w B A gb mb nv W L):∃a cap,nv= .slice a L.length cap/\L.length<=cap/\cap<=maxLen:=by
 obtain⟨xs,h1,h2⟩:=h.nds;obtain⟨a,cap,rfl,_,h3,h4⟩:=h1.at_ (d:=default);exact⟨a,cap,by rw[h2.len],by rw[<-h2.len];exact h3,h4⟩
theorem RG.slice(h:RG w B A gb nv W L):∃a cap,nv= .slice a L.length cap/\L.length<=cap/\cap<=maxLen:=by
 obtain⟨xs,h1,h2⟩:=h.nds;obtain⟨a,cap,rfl,_,h3,h4⟩:=h1.at_ (d:=default);exact⟨a,cap,by rw[h2.len],by rw[<-h2.len];exact h3,h4⟩
theorem nds_cells{xs:List NdH}(h1:Lay.nd.Own 148 w B nv xs)(h2:NdsOk w A xs L){i:Nat}(hi:i<L.length):∃b cap ha hc,nv= .slice (some ⟨b,0,none⟩) L.length cap/\b<w.heap.size/\nv.ownBlock=some b/\w.cell? ⟨b,i*3,none⟩=some (.int .u8 ((L.getD i default).op:Int))/\w.cell? ⟨b,i*3+1,none⟩=some (.int .u64 ((L.getD i default).num:Int))/\
  w.cell? ⟨b,i*3+2,none⟩=some (.slice ha (L.getD i default).args.length hc)/\(Lay.int .i64).At 0 w ha (intsN (L.getD i default).args)/\(ha=none->hc=0)/\∀a,ha=some a->A a.block:=by
 obtain⟨e1,e2,hd⟩:=h2.at_ i hi;have hl:=h2.len;obtain⟨_,hh|⟨g,cap,cur,rfl,hg,hh,hn,hm,hs,ht⟩⟩:=h1
 ·omega
 ·have h3:=World.ownsRow.cells (w:=w) (base:=B) (e:=148) (size:=Lay.nd.sz) (n:=xs.length) (xs:=Lay.nd.flat xs) ⟨Lay.nd.flat_length xs,.inr ⟨g,cap,cur,rfl,hg,hh,hn,hm,hs,ht⟩⟩ (g:=g) rfl;have hc:∀j,j<3->w.cell? ⟨g,i*3+j,none⟩=(Lay.nd.f (xs.getD i default))[j]? :=λ j hj=>by
   have h4:=Lay.nd.flat_at default xs i j (by omega) hj;have h5:(Lay.nd.f (xs.getD i default)).length=3:=rfl;have h6:(Lay.nd.flat xs)[i*3+j]? =some ((Lay.nd.f (xs.getD i default))[j]'(by omega)):=by
    rw[<-List.getElem?_eq_getElem (by omega)];exact h4
   have h7:=h3 _ _ h6;rw[add_at,Nat.zero_add] at h7;rw[h7,List.getElem?_eq_getElem (by omega)]
  refine⟨g,cap,(xs.getD i default).2.2.1,(xs.getD i default).2.2.2.2,by rw[hl],(Array.getElem?_eq_some_iff.1 hh).1,rfl,?_,?_,?_,hd.at_,hd.non,hd.blk⟩
  ·have:=hc 0 (by decide);rw[Nat.add_zero] at this;rw[this,<-e1];rfl
  ·rw[hc 1 (by decide),<-e2];rfl
  ·rw[hc 2 (by decide),<-hd.len];rfl
end
end Go.Proofs.YtgdpkkjfcdhmdaaGreatDoor
