/- Walk: what a node becomes, whose arguments were replaced. -/
import Derived.Test.YtgdpkkjfcdhmdaaGreatDoorS0
import Derived.Test.YtgdpkkjfcdhmdaaGreatDoorS17
import Derived.Test.YtgdpkkjfcdhmdaaGreatDoorS33
import Derived.Test.YtgdpkkjfcdhmdaaGreatDoorU6
import Derived.StillTailTactics
import Derived.Deep.DeepCutAuto
namespace Go.Proofs.YtgdpkkjfcdhmdaaGreatDoor
open Go Go.RowKit
open Go.Proofs.YtgdpkkjfcdhmdaaGreatDoor.Cr
structure MT (mt kt et:TypeId) (q:IntKind) (z:Value):Prop where
 und:Tryz.prog.underlying mt=some (.map kt et)
 key:Tryz.prog.underlying kt=some (.int q)
 zero:∀w,(zeroValue et).run Tryz.prog w= .ok z w
 chk:∀(em:Bool) (k:Int) (w:World),(Instr.checkKey em 10000 kt (.int q k)).run Tryz.prog w= .ok () w
theorem mt205:MT 205 3 4 .i64 (.bool false):=⟨by kernel_rfl,Tryz.underlying3,λ w=>by kernel_rfl,λ em k w=>chk_of (μ:=idMu) (d:=1) (ks:=[0]) (by decide) (by kernel_rfl) Tryz.underlying3 (VR.int _ _) (by rfl)⟩
theorem mt207:MT 207 3 3 .i64 (.int .i64 0):=⟨by kernel_rfl,Tryz.underlying3,λ w=>by kernel_rfl,λ em k w=>chk_of (μ:=idMu) (d:=1) (ks:=[0]) (by decide) (by kernel_rfl) Tryz.underlying3 (VR.int _ _) (by rfl)⟩
theorem mt208:MT 208 46 3 .u64 (.int .i64 0):=⟨by kernel_rfl,Tryz.underlying46,λ w=>by kernel_rfl,λ em k w=>chk_of (μ:=idMu) (d:=1) (ks:=[0]) (by decide) (by kernel_rfl) Tryz.underlying46 (VR.int _ _) (by rfl)⟩
def lkS:List (Int×Value)->Int->Option Value
 |[],_=>none
 |p::S,k=>if p.1=k then some p.2 else lkS S k
def entS(q:IntKind):List (Int×Value)->Nat->List MapEntry
 |[],_=>[]
 |p::S,i=>{key:=.int q p.1,val:=p.2,born:=i}::entS q S (i+1)
theorem entS_snoc(q:IntKind)(p:Int×Value):∀(S:List (Int×Value)) (i:Nat),entS q (S++[p]) i=entS q S i++[{key:=.int q p.1,val:=p.2,born:=i+S.length}]
 |[],i=>rfl
 |x::S,i=>by
  show _::entS q (S++[p]) (i+1)=_::(entS q S (i+1)++_);rw[entS_snoc q p S (i+1),List.length_cons,show i+1+S.length=i+(S.length+1) by omega]
theorem lkS_snoc{S:List (Int×Value)}{k:Int}{v:Value}{x:Int}:lkS (S++[(k,v)]) x=match lkS S x with|some u=>some u|none=>if k=x then some v else none:=by
 induction S with
 |nil=>rfl
 |cons p S ih=>
  show(if p.1=x then some p.2 else lkS (S++[(k,v)]) x)=_;by_cases e:p.1=x
  ·rw[if_pos e];show _=match(if p.1=x then some p.2 else lkS S x) with|some u=>some u|none=>_;rw[if_pos e]
  ·rw[if_neg e,ih];show _=match(if p.1=x then some p.2 else lkS S x) with|some u=>some u|none=>_;rw[if_neg e]
theorem find_entS(q:IntKind)(k:Int):∀(S:List (Int×Value)) (i j:Nat),match lkS S k with
  |none=>Instr.findNow (.int q) (.int q k) (entS q S i) j=some none
  |some v=>∃m,Instr.findNow (.int q) (.int q k) (entS q S i) j=some (some (m,v))
 |[],i,j=>rfl
 |p::S,i,j=>by
  have ih:=find_entS q k S (i+1) (j+1);have hs:Instr.sameNow (.int q) (.int q k) (.int q p.1)=some (k==p.1):=by simp[Instr.sameNow]
  by_cases e:p.1=k
  ·have e1:lkS (p::S) k=some p.2:=if_pos e;rw[e1];refine⟨j,?_⟩;have:(k==p.1)=true:=by simp[e]
   rw[this] at hs;simp only[entS,Instr.findNow,hs]
  ·have e1:lkS (p::S) k=lkS S k:=if_neg e;rw[e1];have:(k==p.1)=false:=by rw[beq_eq_false_iff_ne];exact λ h=>e h.symm
   rw[this] at hs;cases hl:lkS S k with
   |none=>rw[hl] at ih;simp only[entS,Instr.findNow,hs];exact ih
   |some v=>rw[hl] at ih;simp only[entS,Instr.findNow,hs];exact ih
structure MapAt (q:IntKind) (w:World) (mb:Nat) (S:List (Int×Value)):Prop where
 ents:∃es clock,w.heap[mb]? =some (.map es clock)/\clock=S.length/\es.toList=entS q S 0
section
variable {q:IntKind} {w w':World} {mb:Nat} {S:List (Int×Value)} {mt kt et:TypeId} {z:Value}
theorem MapAt.frame(h:MapAt q w mb S)(hk:w'.heap[mb]? =w.heap[mb]?):MapAt q w' mb S:=by
 obtain⟨es,c,h1,h2⟩:=h.ents;exact⟨es,c,hk.trans h1,h2⟩
theorem MapAt.lt(h:MapAt q w mb S):mb<w.heap.size:=by
 obtain⟨es,c,h1,h2⟩:=h.ents;exact(Array.getElem?_eq_some_iff.1 h1).1
theorem MapAt.new(w:World):MapAt q (w.alloc (.map #[] 0)) w.heap.size []:=⟨⟨#[],0,World.alloc_heap_new _ _,rfl,rfl⟩⟩
theorem find_key(T:MT mt kt et q z){k:Int}{es:List MapEntry}{r:Option (Nat×Value)}(h:Instr.findNow (.int q) (.int q k) es 0=some r):(Instr.findKey kt (.int q k) es).run Tryz.prog w= .ok r w:=by
 simp[Instr.findKey,run_underlying T.key,h]
theorem MapAt.look2(T:MT mt kt et q z)(h:MapAt q w mb S)(k:Int):(Instr.lookup mt (.map (some mb)) (.int q k) true).run Tryz.prog w= .ok (.tuple #[(lkS S k).getD z,.bool (lkS S k).isSome]) w:=by
 obtain⟨es,clock,h1,h2,h3⟩:=h.ents;have hget:(getObj mb).run Tryz.prog w= .ok (.map es clock) w:=by simp[getObj,Sem.run,h1]
 have hf:=find_entS q k S 0 0;rw[<-h3] at hf;cases hl:lkS S k with
 |none=>rw[hl] at hf;rw[run_lookup (ok:=true) T.und hget (λ em=>T.chk em k w) (find_key T hf) (T.zero w)];rfl
 |some v=>rw[hl] at hf;obtain⟨m,hf⟩:=hf;rw[run_lookup (ok:=true) T.und hget (λ em=>T.chk em k w) (find_key T hf) (T.zero w)];rfl
theorem MapAt.look1(T:MT mt kt et q z)(h:MapAt q w mb S)(k:Int):(Instr.lookup mt (.map (some mb)) (.int q k) false).run Tryz.prog w= .ok ((lkS S k).getD z) w:=by
 obtain⟨es,clock,h1,h2,h3⟩:=h.ents;have hget:(getObj mb).run Tryz.prog w= .ok (.map es clock) w:=by simp[getObj,Sem.run,h1]
 have hf:=find_entS q k S 0 0;rw[<-h3] at hf;cases hl:lkS S k with
 |none=>rw[hl] at hf;rw[run_lookup (ok:=false) T.und hget (λ em=>T.chk em k w) (find_key T hf) (T.zero w)];rfl
 |some v=>rw[hl] at hf;obtain⟨m,hf⟩:=hf;rw[run_lookup (ok:=false) T.und hget (λ em=>T.chk em k w) (find_key T hf) (T.zero w)];rfl
theorem MapAt.update(T:MT mt kt et q z)(h:MapAt q w mb S){k:Int}(hno:lkS S k=none)(v:Value):
  ∃ob,(Instr.mapUpdate mt (.map (some mb)) (.int q k) v).run Tryz.prog w= .ok () {w with heap:=w.heap.setIfInBounds mb ob}/\∀w',w'.heap=w.heap.setIfInBounds mb ob->MapAt q w' mb (S++[(k,v)]):=by
 obtain⟨es,clock,h1,h2,h3⟩:=h.ents;have hget:(getObj mb).run Tryz.prog w= .ok (.map es clock) w:=by simp[getObj,Sem.run,h1]
 have hset:∀ob,(setObj mb ob).run Tryz.prog w= .ok () {w with heap:=w.heap.setIfInBounds mb ob}:=λ ob=>by simp[setObj,Sem.run,h1]
 have hf:=find_entS q k S 0 0;rw[<-h3,hno] at hf;have hf:=find_key (w:=w) T hf;refine⟨.map (es.push {key:=.int q k,val:=v,born:=clock}) (clock+1),?_,λ w' hw'=> ?_⟩
 ·simp only[Instr.mapUpdate,Sem.run_bind,run_underlying T.und,Result.andThen_ok,hget,T.chk,hf,hset]
 ·have hlt:mb<w.heap.size:=(Array.getElem?_eq_some_iff.1 h1).1;refine⟨_,_,by rw[hw',Array.getElem?_setIfInBounds_self_of_lt hlt],by rw[h2];simp,?_⟩;rw[Array.toList_push,h3,entS_snoc,h2,Nat.zero_add]
end
section
variable {w:World} {ops:Array Oper} {rest:List Oper} {o:Oper} {a:Act} {Q:Exit->Act->World->Prop} {q:IntKind} {mb:Nat} {S:List (Int×Value)} {mt kt et:TypeId} {z:Value}
theorem wp_look1(T:MT mt kt et q z)(hg:o.guard=none)(m x:Operand)(hop:o.op=Op.lookup mt m x false)(hm:a.eval m= .map (some mb))(h:MapAt q w mb S){k:Int}(hx:a.eval x= .int q k)
  (hK:wpList Tryz.prog ops Q rest (a.put o.dst ((lkS S k).getD z)) w):wpList Tryz.prog ops Q (o::rest) a w:=by
 refine wpList_plain hg λ K' hK'=> ?_
 have hrun:=h.look1 T k;unfold Oper.wp;simp[execOp,hop,hm,hx,hrun,Result.andThen];exact hK' _ _ hK
theorem wp_put(T:MT mt kt et q z)(hg:o.guard=none)(m x v:Operand)(hop:o.op=Op.mapUpdate mt m x v)(hm:a.eval m= .map (some mb))(h:MapAt q w mb S){k:Int}(hx:a.eval x= .int q k)(hno:lkS S k=none)
  {u:Value}(hv:a.eval v=u)(hK:∀w',MapAt q w' mb (S++[(k,u)])->w'.heap.size=w.heap.size->(∀b,b≠mb->w'.heap[b]? =w.heap[b]?)->w'.os=w.os->w'.tape=w.tape->w'.output=w.output->wpList Tryz.prog ops Q rest (a.put o.dst undef) w'):wpList Tryz.prog ops Q (o::rest) a w:=by
 refine wpList_plain hg λ K' hK'=> ?_
 obtain⟨ob,hrun,hS⟩:=h.update T hno u;have hb:∀b,b≠mb->(w.heap.setIfInBounds mb ob)[b]? =w.heap[b]? :=λ b hb=>Array.getElem?_setIfInBounds_ne (Ne.symm hb)
 unfold Oper.wp;simp[execOp,hop,hm,hx,hv,hrun,Result.andThen];exact hK' _ _ (hK _ (hS _ rfl) (by simp) hb rfl rfl rfl)
end
end Go.Proofs.YtgdpkkjfcdhmdaaGreatDoor
namespace Go.Proofs.YtgdpkkjfcdhmdaaGreatDoor
open Go
def vN(n:Nat):Nd:=⟨1,n,[]⟩
theorem vN_ok{W i n:Nat}(h:n<12):NdOk W i (vN n):=
 ⟨by show 1<=20;decide,by show n<_;have:=Nat.two_pow_pos W;omega,by show n<_;omega,λ e=>absurd e (show¬(1=0) by decide),rfl,λ e=>absurd e (show¬(2<=1) by decide),λ a ha=>by cases ha⟩
def varV(W:Nat)(vals:List Nat)(n:Nat):Nat:=vals.getD n 0%2^W
theorem valN_var{W:Nat}{vals p:List Nat}{m:Nd}(h:m.op=1):valN W vals p m=varV W vals m.num:=by
 unfold valN varV;rw[if_neg (by omega),if_pos h]
 split
 ·rfl
 ·rename_i h;rw[List.getD_eq_getElem?_getD,List.getElem?_eq_none (by omega)];simp
def Second(W:Nat)(V:Nat->Bool)(vals sec:List Nat):Prop:=∀n,n<12->varV W sec n=if V n then varV W vals n else varV W vals (n+1)
inductive Bec (W:Nat) (V:Nat->Bool) (L:List Nd):Nat->Nat->Prop
 |con {i:Nat}:(L.getD i default).op=0->Bec W V L i i
 |vis {i:Nat}:(L.getD i default).op=1->V (L.getD i default).num=true->Bec W V L i i
 |hid {i:Nat}:(L.getD i default).op=1->V (L.getD i default).num=false->vN ((L.getD i default).num+1)∈L->Bec W V L i (ndAt (vN ((L.getD i default).num+1)) L)
 |app {i b:Nat} (bs:List Nat):2<=(L.getD i default).op->bs.length=(L.getD i default).args.length->(∀k,k<(L.getD i default).args.length->Bec W V L ((L.getD i default).args.getD k 0) (bs.getD k 0))->
   (∀x∈bs,x<L.length)->simpM W (L.getD i default).op bs L=(b,L)->Bec W V L i b
theorem getDm{l:List Nat}{k:Nat}(h:k<l.length):l.getD k 0∈l:=by
 rw[List.getD_eq_getElem?_getD,List.getElem?_eq_getElem h];exact List.getElem_mem h
theorem ext_getD{l r:List Nat}(h:l.length=r.length)(hk:∀k,k<l.length->l.getD k 0=r.getD k 0):l=r:=by
 apply List.ext_getElem h;intro k h1 h2;have:=hk k h1;rwa[List.getD_eq_getElem?_getD,List.getD_eq_getElem?_getD,List.getElem?_eq_getElem h1,List.getElem?_eq_getElem h2] at this
theorem Bec.pre{W:Nat}{V:Nat->Bool}{L M:List Nd}(hg:GOk W L)(h:L<+:M){i b:Nat}(hb:Bec W V L i b):i<L.length->Bec W V M i b:=by
 induction hb with
 |con h0=>intro hi;exact .con (by rw[pre_get h hi];exact h0)
 |vis h1 h2=>intro hi;exact .vis (by rw[pre_get h hi];exact h1) (by rw[pre_get h hi];exact h2)
 | @hid i h1 h2 h3=>
   intro hi;have e:=pre_get h hi;have hm:vN ((L.getD i default).num+1)∈M:=h.subset h3;obtain⟨l,rfl⟩:=h;have:=Bec.hid (W:=W) (V:=V) (L:=L++l) (i:=i) (by rw[e];exact h1) (by rw[e];exact h2) (by rw[e];exact hm);rwa[e,ndAt_pre l h3] at this
 | @app i b bs h2 hl hr hx hs ih=>
   intro hi;have e:=pre_get h hi;refine .app bs (by rw[e];exact h2) (by rw[e];exact hl) (λ k hk=> ?_) (λ x hxm=>Nat.lt_of_lt_of_le (hx x hxm) h.length_le) ?_
   ·rw[e] at hk⊢;exact ih k hk (Nat.lt_trans (hg.arg (getDm hk)).1 hi)
   ·rw[e,simpM_done hx (by rw[hs];exact h),hs]
theorem Bec.func{W:Nat}{V:Nat->Bool}{L:List Nd}{i b:Nat}(hb:Bec W V L i b):∀{c:Nat},Bec W V L i c->b=c:=by
 induction hb with
 |con h0=>intro c hc;cases hc<;>first|rfl|omega
 |vis h1 h2=>intro c hc;cases hc<;>first|rfl|omega|(rename_i h;rw[h] at h2;cases h2)|(rename_i h _;rw[h] at h2;cases h2)
 |hid h1 h2 h3=>intro c hc;cases hc<;>first|rfl|omega|(rename_i h;rw[h] at h2;cases h2)|(rename_i h _;rw[h] at h2;cases h2)
 |app bs h2 hl hr hx hs ih=>
  intro c hc;cases hc with
  |con h0=>omega
  |vis h1 _=>omega
  |hid h1 _ _=>omega
  |app cs g2 gl gr gx gs=>
   have e:bs=cs:=ext_getD (hl.trans gl.symm) λ k hk=>ih k (by omega) (gr k (by omega))
   subst e;rw[hs] at gs;exact(Prod.mk.inj gs).1
theorem Bec.lt{W:Nat}{V:Nat->Bool}{L:List Nd}(hW:1<=W)(hW2:W<=64)(hg:GOk W L){i b:Nat}(hb:Bec W V L i b)(hi:i<L.length):b<L.length:=by
 cases hb with
 |con _=>exact hi
 |vis _ _=>exact hi
 |hid _ _ h3=>exact ndAt_lt h3
 |app bs h2 hl hr hx hs=>
  have hn:=hg i hi;have:=(simpM_good hW hW2 hg h2 hn.1 (hl.trans hn.2.2.2.2.1) hx).2.1;rwa[hs] at this
theorem Bec.val{W:Nat}{V:Nat->Bool}{L:List Nd}(hW:1<=W)(hW2:W<=64)(hg:GOk W L)(hv:VOk L){vals sec:List Nat}(hs:Second W V vals sec){i b:Nat}(hb:Bec W V L i b):i<L.length->vAt W vals L b=vAt W sec L i:=by
 induction hb with
 | @con i h0=>
   intro hi;rw[vAt_const vals hg hi (by simpa[isC] using h0),vAt_const sec hg hi (by simpa[isC] using h0)]
 | @vis i h1 h2=>
   intro hi;rw[vAt_node vals hg hi,vAt_node sec hg hi,valN_var h1,valN_var h1,hs _ (hv i h1),if_pos h2]
 | @hid i h1 h2 h3=>
   intro hi;rw[vAt_node vals hg (ndAt_lt h3),ndAt_get h3,vAt_node sec hg hi,valN_var h1,valN_var rfl,hs _ (hv i h1),if_neg (by rw[h2];decide)]
   rfl
 | @app i b bs h2 hl hr hx hm ih=>
   intro hi;have hn:=hg i hi;have hal:=hn.2.2.2.2.1;have hgd:=(simpM_good hW hW2 hg h2 hn.1 (hl.trans hal) hx).2.2 vals;rw[hm] at hgd;rw[show vAt W vals L b=_ from hgd,vAt_app sec hg hi h2];have ha1:0<(L.getD i default).args.length:=by rw[hal];unfold arN;(repeat' split)<;>omega
   have e0:=ih 0 ha1 (Nat.lt_trans (hg.arg (getDm ha1)).1 hi);rw[e0];by_cases h1:1<(L.getD i default).args.length
   ·rw[ih 1 h1 (Nat.lt_trans (hg.arg (getDm h1)).1 hi)]
   ·have:(L.getD i default).op=2\/(L.getD i default).op=3:=by
     rw[hal] at h1;unfold arN at h1
     (repeat' split at h1)<;>omega
    rcases this with e|e<;>rw[e]<;>rfl
def becM(W:Nat)(σ:Nat->Option Nat)(B:List Nat)(i:Nat)(n:Nd)(L:List Nd):Nat×List Nd:=
 match(if n.op=1 then σ n.num else none) with
 |some s=>(s,L)
 |none=>if n.args.length=0 then(i,L) else simpM W n.op (n.args.map λ a=>B.getD a 0) L
def subStep(W:Nat)(σ:Nat->Option Nat)(N:List Nd)(occ:Nat->Bool)(i:Nat)(s:List Nat×List Nd):List Nat×List Nd:=
 if occ i then(s.1++[(becM W σ s.1 i (N.getD i default) s.2).1],(becM W σ s.1 i (N.getD i default) s.2).2) else(s.1++[0],s.2)
def subN(W:Nat)(σ:Nat->Option Nat)(N:List Nd)(occ:Nat->Bool)(L:List Nd):Nat->List Nat×List Nd
 |0=>([],L)
 |k+1=>subStep W σ N occ k (subN W σ N occ L k)
structure Cnt (W:Nat) (V:Nat->Bool) (n0:Nat) (L:List Nd) (D E:List Nat):Prop where
 nd:D.Nodup
 bec:∀i∈D,i<n0/\∃b,Bec W V L i b
 ne:E.Nodup
 var:∀n∈E,n<12/\vN n∈L
theorem Cnt.nil(W:Nat)(V:Nat->Bool)(n0:Nat)(L:List Nd):Cnt W V n0 L [] []:=⟨List.nodup_nil,(λ _ h=>by cases h),List.nodup_nil,(λ _ h=>by cases h)⟩
theorem Cnt.pre{W:Nat}{V:Nat->Bool}{n0:Nat}{L M:List Nd}{D E:List Nat}(hg:GOk W L)(hn:n0<=L.length)(h:Cnt W V n0 L D E)(hp:L<+:M):Cnt W V n0 M D E:=
 ⟨h.nd,λ i hi=>⟨(h.bec i hi).1,(h.bec i hi).2.imp λ b hb=>hb.pre hg hp (by have:=(h.bec i hi).1;omega)⟩,h.ne,λ n hn=>⟨(h.var n hn).1,hp.subset (h.var n hn).2⟩⟩
theorem nodup_lt{l:List Nat}{n:Nat}(h:l.Nodup)(hl:∀x∈l,x<n):l.length<=n:=nodup_len h hl
theorem Cnt.le{W:Nat}{V:Nat->Bool}{n0:Nat}{L:List Nd}{D E:List Nat}(h:Cnt W V n0 L D E):D.length<=n0/\E.length<=12:=⟨nodup_lt h.nd λ x hx=>(h.bec x hx).1,nodup_lt h.ne λ x hx=>(h.var x hx).1⟩
structure SubI (W:Nat) (V:Nat->Bool) (n0:Nat) (L0:List Nd) (occ:Nat->Bool) (k:Nat) (s:List Nat×List Nd):Prop where
 len:s.1.length=k
 pre:L0<+:s.2
 gok:GOk W s.2
 vok:VOk s.2
 bec:∀i,i<k->occ i=true->Bec W V s.2 i (s.1.getD i 0)
theorem simpM_vok{W o:Nat}{args:List Nat}{L:List Nd}(hW:1<=W)(hW2:W<=64)(hg:GOk W L)(hv:VOk L)(ho:2<=o)(ho2:o<=20)(hl:args.length=arN o)(ha:∀a∈args,a<L.length):VOk (simpM W o args L).2:=by
 have h:=(planS_good [] hW hW2 hg ho ho2 hl ha).1;unfold simpM;generalize planS W o args L=p at h⊢;cases p with
 |same t=>exact hv
 |ask n=>exact hv.ask λ e=>absurd e h.2
theorem getD_snoc_lt{l:List Nat}{x k:Nat}(h:k<l.length):(l++[x]).getD k 0=l.getD k 0:=by
 rw[List.getD_eq_getElem?_getD,List.getD_eq_getElem?_getD,List.getElem?_append_left h]
theorem getD_snoc_eq{l:List Nat}{x k:Nat}(h:l.length=k):(l++[x]).getD k 0=x:=by
 subst h;rw[List.getD_eq_getElem?_getD,List.getElem?_append_right (Nat.le_refl _)];simp
theorem getD_map{l:List Nat}{f:Nat->Nat}{k:Nat}(h:k<l.length):(l.map f).getD k 0=f (l.getD k 0):=by
 rw[List.getD_eq_getElem?_getD,List.getD_eq_getElem?_getD,List.getElem?_map,List.getElem?_eq_getElem h];rfl
theorem sub_step{W:Nat}{V:Nat->Bool}(hW:1<=W)(hW2:W<=64){L0:List Nd}(hg0:GOk W L0){occ:Nat->Bool}(hocc:∀i a,occ i=true->a∈(L0.getD i default).args->occ a=true){σ:Nat->Option Nat}
  (hσ:∀i,occ i=true->(L0.getD i default).op=1->(V (L0.getD i default).num=true->σ (L0.getD i default).num=none)/\(V (L0.getD i default).num=false->vN ((L0.getD i default).num+1)∈L0/\σ (L0.getD i default).num=some (ndAt (vN ((L0.getD i default).num+1)) L0)))
  {n0 k:Nat}(hk:k<n0)(hn0:n0<=L0.length){s:List Nat×List Nd}(h:SubI W V n0 L0 occ k s){D E:List Nat}(hc:Cnt W V n0 s.2 D E):
  SubI W V n0 L0 occ (k+1) (subStep W σ L0 occ k s)/\s.2<+:(subStep W σ L0 occ k s).2/\∃D',Cnt W V n0 (subStep W σ L0 occ k s).2 D' E/\(subStep W σ L0 occ k s).2.length+D.length<=s.2.length+D'.length:=by
 obtain⟨B,L⟩:=s;obtain⟨hlen,hpre,hgok,hvok,hbec⟩:=h;simp only at hlen hpre hgok hvok hbec hc;have hkl:k<L0.length:=by omega
 have hkL:k<L.length:=Nat.lt_of_lt_of_le hkl hpre.length_le;have ek:L.getD k default=L0.getD k default:=pre_get hpre hkl;have stay:∀b,Bec W V L k b->SubI W V n0 L0 occ (k+1) (B++[b],L)/\L<+:L/\∃D',Cnt W V n0 L D' E/\L.length+D.length<=L.length+D'.length:=λ b hb=>
  ⟨⟨by simp[hlen],hpre,hgok,hvok,λ i hi ho=>by
    show Bec W V L i ((B++[b]).getD i 0);by_cases e:i=k
    ·subst e;rw[getD_snoc_eq hlen];exact hb
    ·rw[getD_snoc_lt (by omega)];exact hbec i (by omega) ho⟩,List.prefix_rfl,D,hc,Nat.le_refl _⟩
 unfold subStep;by_cases ho:occ k=true
 ·rw[if_pos ho];simp only;unfold becM;by_cases h1:(L0.getD k default).op=1
  ·rw[if_pos h1];obtain⟨v1,v2⟩:=hσ k ho h1;cases hv:V (L0.getD k default).num with
   |true=>
    rw[v1 hv];have ha:(L0.getD k default).args.length=0:=by rw[(hg0 k hkl).2.2.2.2.1,h1];rfl
    simp only[ha,if_true];exact stay k (.vis (by rw[ek];exact h1) (by rw[ek];exact hv))
   |false=>
    obtain⟨v3,v4⟩:=v2 hv;rw[v4];simp only;refine stay _ ?_;have:=Bec.hid (W:=W) (V:=V) (L:=L) (i:=k) (by rw[ek];exact h1) (by rw[ek];exact hv) (by rw[ek];exact hpre.subset v3);rw[ek] at this;obtain⟨l,rfl⟩:=hpre;rwa[ndAt_pre l v3] at this
  ·rw[if_neg h1];simp only;have hn:=hg0 k hkl;by_cases h0:(L0.getD k default).op=0
   ·have ha:(L0.getD k default).args.length=0:=by rw[hn.2.2.2.2.1,h0];rfl
    rw[if_pos ha];exact stay k (.con (by rw[ek];exact h0))
   ·have h2:2<=(L0.getD k default).op:=by omega
    have ha:(L0.getD k default).args.length≠0:=by rw[hn.2.2.2.2.1];unfold arN;(repeat' split)<;>omega
    rw[if_neg ha];have hbs:∀j,j<(L0.getD k default).args.length->Bec W V L ((L0.getD k default).args.getD j 0) (((L0.getD k default).args.map λ a=>B.getD a 0).getD j 0):=λ j hj=>by
     rw[getD_map hj];exact hbec _ (hg0.arg (getDm hj)).1 (hocc k _ ho (getDm hj))
    have hx:∀x∈(L0.getD k default).args.map (λ a=>B.getD a 0),x<L.length:=λ x hx=>by
     obtain⟨a,ha,rfl⟩:=List.mem_map.1 hx;have hak:=(hg0.arg ha).1;exact(hbec a hak (hocc k a ho ha)).lt hW hW2 hgok (by omega)
    by_cases hD:k∈D
    ·
     obtain⟨_,b,hb⟩:=hc.bec k hD;have hb0:=hb;cases hb with
     |con e=>rw[ek] at e;omega
     |vis e _=>rw[ek] at e;omega
     |hid e _ _=>rw[ek] at e;omega
     |app cs g2 gl gr gx gs=>
      rw[ek] at gl gr gs;have e:(L0.getD k default).args.map (λ a=>B.getD a 0)=cs:=ext_getD (by rw[List.length_map,gl]) λ j hj=>by
       rw[List.length_map] at hj;exact(hbs j hj).func (gr j hj)
      rw[e,gs];exact stay b hb0
    ·have hd:=simpM_done hx (List.prefix_rfl (l:=(simpM W (L0.getD k default).op ((L0.getD k default).args.map λ a=>B.getD a 0) L).2));have hp:=simpM_pre W (L0.getD k default).op ((L0.getD k default).args.map λ a=>B.getD a 0) L;have hl:=simpM_len W (L0.getD k default).op ((L0.getD k default).args.map λ a=>B.getD a 0) L;have hal:((L0.getD k default).args.map λ a=>B.getD a 0).length=arN (L0.getD k default).op:=by rw[List.length_map];exact hn.2.2.2.2.1
     have hgd:=simpM_good hW hW2 hgok h2 hn.1 hal hx;have hvd:=simpM_vok hW hW2 hgok hvok h2 hn.1 hal hx;generalize simpM W (L0.getD k default).op ((L0.getD k default).args.map λ a=>B.getD a 0) L=r at*;obtain⟨b,L'⟩:=r;simp only at hd hp hl hgd hvd⊢;have ek':L'.getD k default=L0.getD k default:=(pre_get hp hkL).trans ek;have hbk:Bec W V L' k b:=.app ((L0.getD k default).args.map λ a=>B.getD a 0) (by rw[ek'];exact h2) (by rw[ek',List.length_map]) (λ j hj=>by
      rw[ek'] at hj⊢;have:=(hg0.arg (getDm hj)).1;exact(hbs j hj).pre hgok hp (by omega)) (λ x hxm=>Nat.lt_of_lt_of_le (hx x hxm) hp.length_le) (by rw[ek'];exact hd)
     have hc':=hc.pre hgok (Nat.le_trans hn0 hpre.length_le) hp;refine⟨⟨by simp[hlen],hpre.trans hp,hgd.1,hvd,λ i hi hoi=> ?_⟩,hp,D++[k],⟨?_,?_,hc'.ne,hc'.var⟩,?_⟩
     ·show Bec W V L' i ((B++[b]).getD i 0);by_cases e:i=k
      ·subst e;rw[getD_snoc_eq hlen];exact hbk
      ·rw[getD_snoc_lt (by omega)];exact(hbec i (by omega) hoi).pre hgok hp (by omega)
     ·rw[List.nodup_append];exact⟨hc.nd,by simp,λ a ha' b hb=>by
       have e:b=k:=by simpa using hb
       intro e2;exact hD (by rw[<-e,<-e2];exact ha')⟩
     ·intro i hi;rcases List.mem_append.1 hi with hi|hi
      ·exact hc'.bec i hi
      ·simp at hi;subst hi;exact⟨hk,b,hbk⟩
     ·simp only[List.length_append,List.length_singleton];omega
 ·rw[if_neg ho];exact⟨⟨by simp[hlen],hpre,hgok,hvok,λ i hi hoi=>by
   show Bec W V L i ((B++[0]).getD i 0);by_cases e:i=k
   ·subst e;exact absurd hoi ho
   ·rw[getD_snoc_lt (by omega)];exact hbec i (by omega) hoi⟩,List.prefix_rfl,D,hc,Nat.le_refl _⟩
theorem sub_inv{W:Nat}{V:Nat->Bool}(hW:1<=W)(hW2:W<=64){L0:List Nd}(hg0:GOk W L0)(hv0:VOk L0){occ:Nat->Bool}(hocc:∀i a,occ i=true->a∈(L0.getD i default).args->occ a=true){σ:Nat->Option Nat}
  (hσ:∀i,occ i=true->(L0.getD i default).op=1->(V (L0.getD i default).num=true->σ (L0.getD i default).num=none)/\(V (L0.getD i default).num=false->vN ((L0.getD i default).num+1)∈L0/\σ (L0.getD i default).num=some (ndAt (vN ((L0.getD i default).num+1)) L0)))
  {n0:Nat}(hn0:n0<=L0.length){D E:List Nat}(hc:Cnt W V n0 L0 D E):∀k,k<=n0->
  SubI W V n0 L0 occ k (subN W σ L0 occ L0 k)/\∃D',Cnt W V n0 (subN W σ L0 occ L0 k).2 D' E/\(subN W σ L0 occ L0 k).2.length+D.length<=L0.length+D'.length
 |0,_=>⟨⟨rfl,List.prefix_rfl,hg0,hv0,λ i hi=>by omega⟩,D,hc,Nat.le_refl _⟩
 |k+1,hk=>by
  obtain⟨h1,D1,h2,h3⟩:=sub_inv hW hW2 hg0 hv0 hocc hσ hn0 hc k (by omega);obtain⟨g1,_,D2,g2,g3⟩:=sub_step hW hW2 hg0 hocc hσ (by omega) hn0 h1 h2;exact⟨g1,D2,g2,by show(subStep W σ L0 occ k (subN W σ L0 occ L0 k)).2.length+_<=_;omega⟩
end Go.Proofs.YtgdpkkjfcdhmdaaGreatDoor
namespace Go.Proofs.YtgdpkkjfcdhmdaaGreatDoor
open Go.RowKit
def SubPost(w:World)(B:Nat)(A:Nat->Prop)(gb mb:Nat)(nv:Value)(W:Nat)(r:Nat×List Nd)(e:Ending)(w':World):Prop:=
 ∃(nv':Value) (A':Nat->Prop),e= .returned (.int .i64 (r.1:Nat))/\PG w' B (λ k=>A k\/A' k) gb mb nv' W r.2/\(∀k,A' k->w.heap.size<=k)/\Mut (MutB gb (some mb) nv) w w'/\NewB w nv nv'
theorem mk24_1(w:World):(Instr.makeSlice 24 (.int .i64 1) (.int .i64 1)).run Tryz.prog w= .ok (.slice (some ⟨w.heap.size,0,none⟩) 1 1) (w.alloc (.cells #[.int .i64 0] 3)):=by kernel_rfl
theorem mk24_2(w:World):(Instr.makeSlice 24 (.int .i64 2) (.int .i64 2)).run Tryz.prog w= .ok (.slice (some ⟨w.heap.size,0,none⟩) 2 2) (w.alloc (.cells #[.int .i64 0,.int .i64 0] 3)):=by kernel_rfl
theorem mk24{n:Nat}(h1:1<=n)(h2:n<=2)(w:World):(Instr.makeSlice 24 (.int .i64 (n:Int)) (.int .i64 (n:Int))).run Tryz.prog w= .ok (.slice (some ⟨w.heap.size,0,none⟩) n n) (w.alloc (.cells ⟨intV (List.replicate n 0)⟩ 3)):=by
 have:n=1\/n=2:=by omega
 rcases this with rfl|rfl
 ·exact mk24_1 w
 ·exact mk24_2 w
theorem part_at{w:World}{g:Nat}{zs:List Nat}(h:Part w g (intV zs)):(Lay.int .i64).At 0 w (some ⟨g,0,none⟩) (intsN zs):=λ i hi=>by
 have hi':i<zs.length:=by simpa[intsN] using hi
 refine⟨g,0,rfl,h.lt,λ j hj=> ?_⟩;obtain rfl:j=0:=by have:j<1:=hj;omega
 have:=(h.at_ i _ (intV_at hi')).1;show w.cell? ⟨g,0+i*1+0,none⟩=_;rw[Nat.mul_one,Nat.zero_add,Nat.add_zero,this];simp[Lay.int,intsN,List.getD_eq_getElem?_getD,List.getElem?_eq_getElem hi']
section
variable {w:World} {B:Nat} {A:Nat->Prop} {gb mb:Nat} {nv:Value} {W:Nat} {L:List Nd}
theorem SubPost.same{w':World}(hp:PG w B A gb mb nv W L)(hb:Below w.heap.size w w')(t:Nat):SubPost w B A gb mb nv W (t,L) (.returned (.int .i64 (t:Nat))) w':=
 ⟨nv,noB,rfl,(hp.below hb).more λ _ h=>h.elim,λ _ h=>h.elim,Mut.of_below hb,.inl rfl⟩
set_option maxRecDepth 100000 in
set_option maxHeartbeats 8000000 in
theorem node101(h:PG w B A gb mb nv W L)(hB:B<=w.heap.size)(hL:L.length<=999)(h1:1<=W)(h2:W<=64){rb bm vm:Nat}(hrl:rb<w.heap.size)(hrm:¬MutB gb (some mb) nv rb)
  (r0:w.cell? ⟨rb,0,none⟩=some (.pointer (some ⟨gb,0,none⟩)))(r1:w.cell? ⟨rb,1,none⟩=some (.map (some bm)))(r2:w.cell? ⟨rb,2,none⟩=some (.map (some vm)))
  {SB SV:List (Int×Value)}(hb:MapAt .i64 w bm SB)(hv:MapAt .u64 w vm SV)(i:Nat)(n:Nd)(ho2:n.op<=20)(hlen:n.args.length=arN n.op){ha:Option Addr}{hc:Nat}(hat:(Lay.int .i64).At 0 w ha (intsN n.args))
  (Bl:List Nat)(hbec:∀a∈n.args,lkS SB (a:Int)=some (.int .i64 (Bl.getD a 0:Nat))/\Bl.getD a 0<L.length)(σ:Nat->Option Nat)(hσ:n.op=1->lkS SV (n.num:Int)=(σ n.num).map λ s=>.int .i64 (s:Nat)):
  Calls Tryz.prog 101 #[.pointer (some ⟨rb,0,none⟩),.int .i64 i,.agg #[.int .u8 (n.op:Nat),.int .u64 (n.num:Nat),.slice ha n.args.length hc]] w (SubPost w B A gb mb nv W (becM W σ Bl i n L)):=by
 obtain⟨op,num,args⟩:=n;simp only at ho2 hlen hat hbec hσ⊢;have HP:=Z h;have HAT:=Z hat;have HBE:=Z hbec;have HMB:=Z hb;have HBW:Hid (Below w.heap.size w (w.alloc (.cells #[.int .u8 (op:Nat),.int .u64 (num:Nat),.slice ha args.length hc] 148))):=Z ((Below.refl _ _).alloc (Nat.le_refl _) _);generalize hQ:SubPost w B A gb mb nv W (becM W σ Bl i ⟨op,num,args⟩ L)=Q;have HQ:=Z hQ;clear hQ h hat hbec;by_cases e1:op=1
 ·subst e1;have hl0:args=[]:=List.length_eq_zero_iff.1 (by rw[hlen];rfl);subst hl0;simp only[List.length_nil] at HBW⊢;have r0':=(HBW.o.cell (p:=⟨rb,0,none⟩) hrl).trans r0;have r1':=(HBW.o.cell (p:=⟨rb,1,none⟩) hrl).trans r1;have r2':=(HBW.o.cell (p:=⟨rb,2,none⟩) hrl).trans r2;have hm1:MapAt .u64 (w.alloc (.cells #[.int .u8 (1:Nat),.int .u64 (num:Nat),.slice ha 0 hc] 148)).drew vm SV:=hv.frame (HBW.o.block vm hv.lt);have HM1:=Z hm1;have HLK:=Z (hσ rfl);have HN:Hid (becM W σ Bl i ⟨1,num,[]⟩ L=match σ num with|some s=>(s,L)|none=>(i,L)):=Z rfl;clear hσ hlen HAT HBE HMB hv hb r0 r1 r2 hm1;have HNEW:Hid ((w.alloc (.cells #[.int .u8 (1:Nat),.int .u64 (num:Nat),.slice ha 0 hc] 148)).cell? ⟨w.heap.size,0,none⟩=some (.int .u8 (1:Nat))/\(w.alloc (.cells #[.int .u8 (1:Nat),.int .u64 (num:Nat),.slice ha 0 hc] 148)).cell? ⟨w.heap.size,1,none⟩=some (.int .u64 (num:Nat))/\(w.alloc (.cells #[.int .u8 (1:Nat),.int .u64 (num:Nat),.slice ha 0 hc] 148)).cell? ⟨w.heap.size,2,none⟩=some (.slice ha 0 hc)):=
   Z ⟨by rw[World.cell?_alloc_new];rfl,by rw[World.cell?_alloc_new];rfl,by rw[World.cell?_alloc_new];rfl⟩
  go_enter Tryz.func101,Tryz.ntmps101
  go_upto_region 2 with fail
  obtain⟨x0,x1,x2⟩:=HNEW.o;clear HNEW;generalize w.alloc (.cells #[.int .u8 (1:Nat),.int .u64 (num:Nat),.slice ha 0 hc] 148)=w1 at*;have hl1:(Instr.lookup 208 (.map (some vm)) (.int .u64 (num:Nat)) true).run Tryz.prog w1.drew= .ok (.tuple #[(lkS SV num).getD (.int .i64 0),.bool (lkS SV num).isSome]) w1.drew:=HM1.o.look2 mt208 num;have hl2:(Instr.lookup 208 (.map (some vm)) (.int .u64 (num:Nat)) true).run Tryz.prog w1= .ok (.tuple #[(lkS SV num).getD (.int .i64 0),.bool (lkS SV num).isSome]) w1:=(MapAt.frame (w':=w1) HM1.o rfl).look2 mt208 num;rw[HLK.o] at hl1 hl2;cases hs:σ num with
  |some s=>
   rw[hs] at HN hl1 hl2;simp only[Option.map_some,Option.getD_some,Option.isSome_some] at hl1 hl2;clear hs HLK
   go_region
   go_wp2_with fail
   rw[<-HQ.o,HN.o];exact SubPost.same HP.o HBW.o.drew s
  |none=>
   rw[hs] at HN hl1 hl2;simp only[Option.map_none,Option.getD_none,Option.isSome_none] at hl1 hl2;clear hs HLK
   go_region
   go_wp2_with fail
   rw[<-HQ.o,HN.o];exact SubPost.same HP.o HBW.o.drew i
 ·by_cases e0:args.length=0
  ·have hl0:args=[]:=List.length_eq_zero_iff.1 e0;subst hl0;simp only[List.length_nil] at HBW⊢;have HN:Hid (becM W σ Bl i ⟨op,num,[]⟩ L=(i,L)):=Z (by unfold becM;rw[if_neg e1];rfl);have hne:((op:Int)==1)=false:=by rw[beq_eq_false_iff_ne];omega
   clear hσ hlen HAT HBE HMB hv hb r0 r1 r2;go_enter Tryz.func101,Tryz.ntmps101
   go_wp2_with fail
   rw[<-HQ.o,HN.o];exact SubPost.same HP.o HBW.o i
  ·have ho:2<=op:=by
    rcases Nat.lt_or_ge op 2 with h|h
    ·exfalso
     apply e0;rw[hlen];have:op=0\/op=1:=by omega
     rcases this with rfl|rfl<;>rfl
    ·exact h
   have hn12:1<=args.length/\args.length<=2:=by
    rw[hlen];unfold arN;(repeat' split)<;>omega
   have HN:Hid (becM W σ Bl i ⟨op,num,args⟩ L=simpM W op (args.map λ a=>Bl.getD a 0) L):=Z (by unfold becM;rw[if_neg e1];show(if args.length=0 then _ else _)=_;rw[if_neg e0]);have hne:((op:Int)==1)=false:=by rw[beq_eq_false_iff_ne];omega
   have hne2:((args.length:Int)==0)=false:=by rw[beq_eq_false_iff_ne];omega
   have HLEN:=Z hlen;generalize hal:args.length=n at*;have HAL:=Z hal;obtain⟨hn1,hn2⟩:=hn12;have hm1:=λ w=>mk24 hn1 hn2 w
   have x0:(w.alloc (.cells #[.int .u8 (op:Nat),.int .u64 (num:Nat),.slice ha n hc] 148)).cell? ⟨w.heap.size,0,none⟩=some (.int .u8 (op:Nat)):=by rw[World.cell?_alloc_new];rfl
   have x2:(w.alloc (.cells #[.int .u8 (op:Nat),.int .u64 (num:Nat),.slice ha n hc] 148)).cell? ⟨w.heap.size,2,none⟩=some (.slice ha n hc):=by rw[World.cell?_alloc_new];rfl
   have hx:w.heap.size<(w.alloc (.cells #[.int .u8 (op:Nat),.int .u64 (num:Nat),.slice ha n hc] 148)).heap.size:=by simp
   have hblt:=hb.lt;clear hσ hlen hal e0 hv hb r2;go_enter Tryz.func101,Tryz.ntmps101
   go_upto_region 7 with fail
   generalize w.alloc (.cells #[.int .u8 (op:Nat),.int .u64 (num:Nat),.slice ha n hc] 148)=w1 at*;have hm1':=hm1 w1;clear hm1
   go_upto_region 8 with fail
   have HPT:=Z (Part.made (w:=w1) (vs:=intV (List.replicate n 0)) (t:=3) rfl);have HB2:=Z (bel_al HBW.o (.cells ⟨intV (List.replicate n 0)⟩ 3));have hba:Below w1.heap.size w1 (w1.alloc (.cells ⟨intV (List.replicate n 0)⟩ 3)):=(Below.refl _ _).alloc (Nat.le_refl _) _;have x0':=(hba.cell (p:=⟨w.heap.size,0,none⟩) hx).trans x0;have x2':=(hba.cell (p:=⟨w.heap.size,2,none⟩) hx).trans x2;have hx2:w.heap.size<w1.heap.size:=hx;clear hm1' hba x0 x2 hx;generalize w1.alloc (.cells ⟨intV (List.replicate n 0)⟩ 3)=w2 at*;have hwle:=HBW.o.size;generalize w1.heap.size=g at*;clear HBW;have HX0:Hid (w2.cell? ⟨w.heap.size,0,none⟩=some (.int .u8 (op:Nat))):=Z x0';clear x0'
   go_wp2_with fail
   go_loopw [41] (λ i wr=>∃k:Nat,k<=n/\i= .int .i64 k/\Hid (Part wr g (intV ((args.take k).map (λ a=>Bl.getD a 0)++List.replicate (n-k) 0)))/\Hid (Below w.heap.size w wr)/\Hid (Below g w2 wr)) (λ i _=>n-(intOf i).toNat)
   case atStart=>exact⟨0,by omega,rfl,HPT,HB2,Z (Below.refl _ _)⟩
   case round=>
    obtain⟨k,hk,rfl,hpt,hbw,hbg⟩:=hrel;by_cases hlk:k<n
    ·obtain⟨ib,io,rfl,hpb,hp0⟩:=HAT.o.int (i:=k) (by simp[intsN,HAL.o];exact hlk);have hvv:(intsN args).getD k 0=((args.getD k 0:Nat):Int):=by simp[intsN,List.getD_eq_getElem?_getD,List.getElem?_eq_getElem (HAL.o.symm▸hlk)]
     rw[hvv] at hp0;have hp0':=(hbw.o.cell (p:=⟨ib,io+k,none⟩) hpb).trans hp0;have hmem:args.getD k 0∈args:=by rw[List.getD_eq_getElem?_getD,List.getElem?_eq_getElem (HAL.o.symm▸hlk)];exact List.getElem_mem _
     have HLK:=Z (HBE.o _ hmem).1;have HFK:=Z (foundK (λ a=>Bl.getD a 0) 0 HAL.o hlk);have hMB:MapAt .i64 wr bm SB:=HMB.o.frame (hbw.o.block bm hblt);have HMR:=Z hMB;have r0r:=(hbw.o.cell (p:=⟨rb,0,none⟩) hrl).trans r0;have r1r:=(hbw.o.cell (p:=⟨rb,1,none⟩) hrl).trans r1;have hlen:((args.take k).map (λ a=>Bl.getD a 0)++List.replicate (n-k) 0).length=n:=by simp[HAL.o];omega
     obtain⟨v0,hv0⟩:∃v,(intV ((args.take k).map (λ a=>Bl.getD a 0)++List.replicate (n-k) 0))[k]? =some v:=⟨_,List.getElem?_eq_getElem (by rw[intV,List.length_map,hlen];exact hlk)⟩
     obtain⟨g0,g1⟩:=hpt.o.at_ k _ hv0;have hki:(k:Int)<n:=by omega
     have hst:=hpt.o.set (k:=k) (by rw[intV,List.length_map,hlen];exact hlk) (.int .i64 (Bl.getD (args.getD k 0) 0:Nat));rw[intV,<-List.map_set,HFK.o] at hst;have HST:=Z hst;clear hvv hp0 hmem hMB hlen hv0 hst r0;generalize args.getD k 0=t at*;generalize Bl.getD t 0=bt at*
     go_wp2_with(refine wp_look1 mt207 rfl _ _ rfl rfl HMR.o rfl ?_;rw[HLK.o];simp only[Option.getD_some])
     go_roundw
     case rel=>exact⟨k+1,by omega,by go_num,HST,Z (hbw.o.setCell hwle _),Z (hbg.o.setCell (Nat.le_refl _) _)⟩
     case measure=>simp[intOf];omega
    ·obtain rfl:k=n:=by omega
     have hall:(args.take k).map (λ a=>Bl.getD a 0)++List.replicate (k-k) 0=args.map λ a=>Bl.getD a 0:=by rw[Nat.sub_self,<-HAL.o,List.take_length];simp
     rw[hall] at hpt;have HXR:Hid (wr.cell? ⟨w.heap.size,0,none⟩=some (.int .u8 (op:Nat))):=Z ((hbg.o.cell (p:=⟨w.heap.size,0,none⟩) hx2).trans HX0.o);have r0r:=(hbw.o.cell (p:=⟨rb,0,none⟩) hrl).trans r0;have r0d:wr.drew.cell? ⟨rb,0,none⟩=some (.pointer (some ⟨gb,0,none⟩)):=r0r;have x0r:=HXR.o;have x0d:wr.drew.cell? ⟨w.heap.size,0,none⟩=some (.int .u8 (op:Nat)):=HXR.o;have HBD:=Z hbw.o.drew;have HC:=Z (simp67 (HP.o.below HBD.o) (Nat.le_trans hB HBD.o.size) hL h1 h2 op ho ho2 (args.map λ a=>Bl.getD a 0) k (by rw[List.length_map,HAL.o]) HLEN.o (λ x hx=>by
      obtain⟨a,ha,rfl⟩:=List.mem_map.1 hx;exact(HBE.o a ha).2) (cap:=k) (part_at hpt.o.drew))
     have HZ:=Z (show w.heap.size<wr.drew.heap.size from Nat.lt_trans hx2 hpt.o.lt);clear hall hpt r0 HX0 HXR HPT x2'
     go_upto_region 13 with fail
     have HMX:Hid (¬MutB gb (some mb) nv w.heap.size):=Z λ m=>by have:=(HP.o.lo _ m).2;omega
     go_region_held3(λ w'=>w'.cell? ⟨rb,0,none⟩=some (.pointer (some ⟨gb,0,none⟩))/\w'.cell? ⟨w.heap.size,0,none⟩=some (.int .u8 (op:Nat)))
      (first|exact⟨r0r,x0r⟩|exact⟨r0d,x0d⟩|exact KE.o)
      (first
        |(go_at_call 67
          refine HC.o.mono ?_;rintro e w5 ⟨nv',A',rfl,p1,p2,p3,p4⟩;have H1:=Z p1;have H2:=Z p2;have H3:=Z p3;have H4:=Z p4;have KE:Hid (w5.cell? ⟨rb,0,none⟩=some (.pointer (some ⟨gb,0,none⟩))/\w5.cell? ⟨w.heap.size,0,none⟩=some (.int .u8 (op:Nat))):=Z
           ⟨(World.cell?_of_block (a:=⟨rb,0,none⟩) (p3.block rb (Nat.lt_trans hrl HZ.o) hrm)).trans r0d,(World.cell?_of_block (a:=⟨w.heap.size,0,none⟩) (p3.block w.heap.size HZ.o HMX.o)).trans x0d⟩
          clear p1 p2 p3 p4))
     go_wp2_with fail
     rw[<-HQ.o,HN.o];refine⟨nv',A',rfl,H1.o,λ k hk=>Nat.le_trans HBD.o.size (H2.o k hk),(Mut.of_below HBD.o).trans H3.o,?_⟩;exact H4.o.elim .inl λ⟨k,e1,e2⟩=>.inr ⟨k,e1,Nat.le_trans HBD.o.size e2⟩
end
end Go.Proofs.YtgdpkkjfcdhmdaaGreatDoor
