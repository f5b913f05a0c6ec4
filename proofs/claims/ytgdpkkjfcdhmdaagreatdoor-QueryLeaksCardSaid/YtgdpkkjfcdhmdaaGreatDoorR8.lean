/- Graphs of terms in memory, of the code and of the reference. -/
import Derived.Test.YtgdpkkjfcdhmdaaGreatDoorR7
import Derived.Test.YtgdpkkjfcdhmdaaGreatDoorR4
import Derived.Deep.CutBlock
namespace Go.Proofs.YtgdpkkjfcdhmdaaGreatDoor
open Go Go.RowKit
open Go.Proofs.YtgdpkkjfcdhmdaaGreatDoor.Cr
def lH(n:Nd):List Value:=[.int .u8 (Int.ofNat n.op),.int .u64 (Int.ofNat n.num),.int .i64 (Int.ofNat (n.args.getD 0 0)),.int .i64 (Int.ofNat (n.args.getD 1 0)),.int .i64 (Int.ofNat (n.args.getD 2 0))]
def iF(n:Nd):Value:=.agg ⟨lH n⟩
def ksK:List Nat:=[0,0,0,0,0]
theorem Qv:∀{l r:List Nat},l.length=r.length->l.length<=3->l.getD 0 0=r.getD 0 0->l.getD 1 0=r.getD 1 0->l.getD 2 0=r.getD 2 0->l=r|[],[],_,_,_,_,_=>rfl|[],_::_,h,_,_,_,_=>by simp at h|_::_,[],h,_,_,_,_=>by simp at h|[a],[b],_,_,h0,_,_=>by simpa using h0|[a],_::_::_,h,_,_,_,_=>by simp at h|_::_::_,[b],h,_,_,_,_=>by simp at h|[a,b],[c,d],_,_,h0,h1,_=>by simp at h0 h1;rw[h0,h1]|[a,b],_::_::_::_,h,_,_,_,_=>by simp at h|_::_::_::_,[c,d],h,_,_,_,_=>by simp at h|[a,b,c],[d,e,f],_,_,h0,h1,h2=>by simp at h0 h1 h2;rw[h0,h1,h2]|_::_::_::_::_,_::_::_::_,_,h,_,_,_=>by simp at h|[a,b,c],_::_::_::_::_,h,_,_,_,_=>by simp at h
theorem Qw(o:Nat):arN o<=3:=by unfold arN;(repeat' split)<;>omega
theorem yJ(k:IntKind)(a b:Nat)(c:keq k k=true):gU 0 (.int k (Int.ofNat a)) (.int k (Int.ofNat b))=some (Nat.beq a b):=by show(bif Nat.beq 0 0&&keq k k then some (ieq (Int.ofNat a) (Int.ofNat b)) else none)=_;rw[c];rfl
theorem Qx{n m:Nd}(f:n.args.length=arN n.op)(g:m.args.length=arN m.op):gO ksK true (iF n) (iF m)=some (decide (m=n)):=by show jm ksK (lH n) (lH m)=_;obtain⟨o,u,l⟩:=n;obtain⟨p,v,r⟩:=m;simp only at f g;have key:∀{a b:Nat},(a=b)->Nat.beq a b=true:=λ h=>by{subst h;exact Nat.beq_refl _};have c:∀{a b:Nat},(a≠b)->Nat.beq a b=false:=λ{a b} h=>by{cases hb:Nat.beq a b with|true=>exact absurd (Aj hb) h|false=>rfl};unfold ksK lH;simp only[jm,yJ .u8 _ _ rfl,yJ .u64 _ _ rfl,yJ .i64 _ _ rfl];by_cases e:(⟨p,v,r⟩:Nd)=⟨o,u,l⟩;{simp only[Nd.mk.injEq] at e;obtain⟨rfl,rfl,rfl⟩:=e;simp[Nat.beq_refl]};rw[decide_eq_false e];by_cases h1:o=p;{subst h1;rw[key rfl];simp only;by_cases h2:u=v;{subst h2;rw[key rfl];simp only;by_cases h3:l.getD 0 0=r.getD 0 0;{rw[key h3];simp only;by_cases h4:l.getD 1 0=r.getD 1 0;{rw[key h4];simp only;by_cases h5:l.getD 2 0=r.getD 2 0;{exact absurd (by rw[Qv (f.trans g.symm) (by rw[f];exact Qw _) h3 h4 h5]) e};rw[c h5]};rw[c h4]};rw[c h3]};rw[c h2]};rw[c h1]
def iR:List Nd->Nat->List (Value×Value)|[],_=>[]|n::l,i=>(iF n,.int .i64 (Int.ofNat i))::iR l (i+1)
theorem FP(n:Nd):∀(l:List Nd) (i:Nat),iR (l++[n]) i=iR l i++[(iF n,.int .i64 (Int.ofNat (i+l.length)))]|[],i=>rfl|m::l,i=>by show _::iR (l++[n]) (i+1)=_::(iR l (i+1)++_);rw[FP n l (i+1)];simp only[AQ];rw[show i+1+l.length=i+(l.length+1) by omega]
theorem FQ{n:Nd}(b:n.args.length=arN n.op):∀(l:List Nd) (i j:Nat),(∀m∈l,m.args.length=arN m.op)->gL ksK true (iF n) (iR l i) j=some (if n∈l then some (j+fN n l,.int .i64 (Int.ofNat (i+fN n l))) else none)|[],i,j,_=>by simp[iR,gL]|m::l,i,j,h=>by have k:=FQ b l (i+1) (j+1) (λ x g=>h x (AC _ g));have f:=Qx b (h m (AK ..));show(match gO ksK true (iF n) (iF m) with|none=>none|some true=>some (some (j,(.int .i64 (Int.ofNat i):Value)))|some false=>gL ksK true (iF n) (iR l (i+1)) (Nat.succ j))=_;rw[f];by_cases e:m=n;{rw[decide_eq_true e];simp[e,fN]};rw[decide_eq_false e];simp only;show gL ksK true (iF n) (iR l (i+1)) (j+1)=_;rw[k];have c:fN n (m::l)=fN n l+1:=by{show(if m=n then 0 else fN n l+1)=_;rw[if_neg e]};have a:(n∈m::l)↔n∈l:=by{simp[Ne.symm e]};rw[c];by_cases hm:n∈l;{rw[if_pos hm,if_pos (a.2 hm)];congr 2;·rw[show j+1+fN n l=j+(fN n l+1) by omega,show i+1+fN n l=i+(fN n l+1) by omega]};rw[if_neg hm,if_neg (λ h=>hm (a.1 h))]
structure GmT (P:Program) (t kt et:TypeId) (D:TypeDesc) (d:Nat):Prop where
 und:P.underlying t=some (.map kt et)
 key:P.underlying kt=some D
 shape:shp P d kt=some ksK
 deep:d<=10000
 agg:fT D=true
 zero:∀w,(zeroValue et).run P w= .ok (.int .i64 0) w
structure jy (w:World) (mb:Nat) (L:List Nd):Prop where
 ents:∃es clock,w.heap[mb]? =some (.map es clock)/\(es.toList.map λ e=>(e.key,e.val))=iR L 0
def mL:Mu:=⟨λ _=>none,λ _=>0⟩
theorem yK:∀(l:List Nd) (i:Nat),(iR l i).map (·.1)=l.map iF|[],_=>rfl|n::l,i=>by simp[iR,yK l (i+1)]
theorem VR.key(n:Nd):VR mL (iF n) (iF n):=VR.plain rfl
theorem LR.same_keys(l:List Nd):LR mL (l.map iF) (l.map iF):=⟨rfl,λ j a b=>by simp only[List.getElem_map];exact VR.key _⟩
theorem LR.same_vals:∀(l:List Nd) (i:Nat),LR mL ((iR l i).map (·.2)) ((iR l i).map (·.2))|[],_=>LR.nil _|_::l,i=>LR.cons (VR.int _ _) (LR.same_vals l (i+1))
section
variable {P:Program} {t kt et:TypeId} {D:TypeDesc} {d:Nat} {w:World} {mb:Nat} {L:List Nd}
theorem jy.find(T:GmT P t kt et D d){n:Nd}(j:n.args.length=arN n.op)(h:∀m∈L,m.args.length=arN m.op){es:Array MapEntry}(b:(es.toList.map λ e=>(e.key,e.val))=iR L 0):(Instr.findKey kt (iF n) es.toList).run P w= .ok (if n∈L then some (fN n L,.int .i64 (Int.ofNat (fN n L))) else none) w:=by have f:es.toList.map (·.key)=L.map iF:=by{have:=congrArg (List.map (·.1)) b;rw[List.map_map,yK] at this;exact this};have g:es.toList.map (·.val)=(iR L 0).map (·.2):=by{have:=congrArg (List.map (·.2)) b;rw[List.map_map] at this;exact this};have c:=FQ j L 0 0 h;rw[AJ] at c;obtain⟨r,q,a⟩:=tI (P:=P) (w:=w) (μ:=mL) (es:=iR L 0) (ents:=es.toList) T.deep T.shape T.key (VR.key n) (by rw[yK,f];exact LR.same_keys L) (by rw[g];exact LR.same_vals L 0) (by rw[T.agg];exact c);rw[q];by_cases hm:n∈L;{rw[if_pos hm] at a⊢;obtain⟨v',rfl,k⟩:=a;cases k;rfl};rw[if_neg hm] at a⊢;have:r=none:=a;rw[this]
theorem jy.check(T:GmT P t kt et D d)(n:Nd)(em:Bool):(Instr.checkKey em 10000 kt (iF n)).run P w= .ok () w:=od (μ:=mL) T.deep T.shape T.key (VR.key n) (by rw[T.agg];rfl)
theorem jy.lookup(T:GmT P t kt et D d)(h:jy w mb L){n:Nd}(j:n.args.length=arN n.op)(g:∀m∈L,m.args.length=arN m.op):(Instr.lookup t (.map (some mb)) (iF n) true).run P w= .ok (.tuple #[.int .i64 (if n∈L then(fN n L:Int) else 0),.bool (decide (n∈L))]) w:=by obtain⟨es,a,b,c⟩:=h.ents;have f:(getObj mb).run P w= .ok (.map es a) w:=by{simp[getObj,Sem.run,b]};have:=nj (ok:=true) T.und f (jy.check T n) (jy.find T j g c) (T.zero w);rw[this];by_cases hm:n∈L;{rw[if_pos hm,if_pos hm,decide_eq_true hm];rfl};rw[if_neg hm,if_neg hm,decide_eq_false hm];rfl
def qG(n:Nd)(L:List Nd)(es:Array MapEntry)(clock:Nat):Obj:=.map (es.push {key:=iF n,val:=.int .i64 (L.length:Int),born:=clock}) (clock+1)
theorem jy.update(T:GmT P t kt et D d){es:Array MapEntry}{a:Nat}(c:w.heap[mb]? =some (.map es a))(g:(es.toList.map λ e=>(e.key,e.val))=iR L 0){n:Nd}(k:n.args.length=arN n.op)(j:∀m∈L,m.args.length=arN m.op)(q:n∉L):(Instr.mapUpdate t (.map (some mb)) (iF n) (.int .i64 (L.length:Int))).run P w= .ok () {w with heap:=w.heap.setIfInBounds mb (qG n L es a)}:=by have h:(getObj mb).run P w= .ok (.map es a) w:=by{simp[getObj,Sem.run,c]};have r:∀b,(setObj mb b).run P w= .ok () {w with heap:=w.heap.setIfInBounds mb b}:=λ b=>by{simp[setObj,Sem.run,c]};have f:=jy.find (w:=w) T k j g;rw[if_neg q] at f;simp only[Instr.mapUpdate,AB,run_underlying T.und,Al,h,jy.check T n false,f,r,qG]
theorem jy.put{es:Array MapEntry}{a:Nat}(b:w.heap[mb]? =some (.map es a))(c:(es.toList.map λ e=>(e.key,e.val))=iR L 0)(n:Nd):jy {w with heap:=w.heap.setIfInBounds mb (qG n L es a)} mb (L++[n]):=by have f:mb<w.heap.size:=(AS.1 b).1;refine⟨es.push {key:=iF n,val:=.int .i64 (L.length:Int),born:=a},a+1,by show(w.heap.setIfInBounds mb _)[mb]? =_;rw[Array.getElem?_setIfInBounds_self_of_lt f];rfl,?_⟩;rw[FP,<-c];simp
end
open Go.RowKit
def fP(w w':World):Prop:=∃m,w'=w.drewN m
theorem fP.refl(w:World):fP w w:=⟨0,rfl⟩
theorem fP.drewN{w w':World}(h:fP w w')(n:Nat):fP w (w'.drewN n):=by obtain⟨m,rfl⟩:=h;exact⟨m+n,World.drewN_drewN ..⟩
theorem fP.trans{a b c:World}(h:fP a b)(k:fP b c):fP a c:=by obtain⟨m,rfl⟩:=h;obtain⟨n,rfl⟩:=k;exact⟨m+n,World.drewN_drewN ..⟩
theorem fP.cell{w w':World}(h:fP w w')(a:Addr):w'.cell? a=w.cell? a:=by obtain⟨m,rfl⟩:=h;rfl
theorem fP.heap{w w':World}(h:fP w w'):w'.heap=w.heap:=by obtain⟨m,rfl⟩:=h;rfl
theorem fP.below{w w':World}(h:fP w w')(B:Nat):Below B w w':=by obtain⟨m,rfl⟩:=h;exact⟨rfl,rfl,rfl,A8 _,λ _ _=>rfl⟩
theorem Lay.At.same{α:Type}{L:Lay α}{d:α}{w w':World}{a:Option Addr}{xs:List α}(h:L.At d w a xs)(s:fP w w'):L.At d w' a xs:=h.below (s.below _)
theorem gE{α:Type}(d:α)(xs:List α)(i:Nat)(h:i<xs.length):xs.getD i d∈xs:=by rw[Aa,Ab h];exact AI h
theorem gZ{α:Type}(d:α)(ps:List α)(q:Nat)(h:q<ps.length):ps.take (q+1)=ps.take q++[ps.getD q d]:=by rw[List.take_succ_eq_append_getElem h,Aa,Ab h];rfl
theorem Lay.Own.lower{α:Type}{L:Lay α}{e:TypeId}{w:World}{b b':Nat}{v:Value}{xs:List α}(h:L.Own e w b v xs)(hb:b'<=b):L.Own e w b' v xs:=⟨h.1,h.2.imp id λ⟨g,cap,cur,e,hg,r⟩=>⟨g,cap,cur,e,Ag hb hg,r⟩⟩
section
variable {α:Type} {L:Lay α} {w:World} {P:Program} {t e:TypeId} {z:Value} {bytes:Nat}
end
abbrev Hdr:=Option Addr×Nat×Nat
theorem Qy{α:Type}(d:α)(xs ys:List α)(i:Nat)(h:i<xs.length):(xs++ys).getD i d=xs.getD i d:=by rw[Aa,Aa,Bc h]
theorem Qz{α:Type}(d x:α)(xs:List α)(i:Nat)(h:i=xs.length):(xs++[x]).getD i d=x:=by subst h;rw[Aa,Bi (A8 _)];simp
abbrev NdH:=Nat×Nat×(Option Addr×Nat×Nat)
def Lay.nd:Lay NdH:=⟨3,λ p=>[.int .u8 (p.1:Int),.int .u64 (p.2.1:Int),.slice p.2.2.1 p.2.2.2.1 p.2.2.2.2],λ _=>rfl,λ x u hu=>by simp at hu;rcases hu with rfl|rfl|rfl<;>rfl,by decide⟩
theorem Tryz.elemN:jp Tryz.prog Lay.nd 129 148 (.agg #[.int .u8 0,.int .u64 0,.slice none 0 0]) 40:=⟨Tryz.underlying129,by kernel_rfl,rfl,by decide⟩
theorem gmT:GmT Tryz.prog 174 244 3 ((Tryz.prog.underlying 244).getD .bool) 6:=⟨by kernel_rfl,by kernel_rfl,by kernel_rfl,by decide,by kernel_rfl,λ w=>by kernel_rfl⟩
def fE(l:List Nat):List Int:=l.map λ(n:Nat)=>(n:Int)
structure jM (w:World) (A:Nat->Prop) (h:Option Addr×Nat×Nat) (args:List Nat):Prop where
 len:h.2.1=args.length
 at_:(Lay.int .i64).At 0 w h.1 (fE args)
 blk:∀a,h.1=some a->A a.block
 non:h.1=none->h.2.2=0
structure kp (w:World) (A:Nat->Prop) (xs:List NdH) (L:List Nd):Prop where
 len:xs.length=L.length
 at_:∀i,i<L.length->(xs.getD i default).1=(L.getD i default).op/\(xs.getD i default).2.1=(L.getD i default).num/\jM w A (xs.getD i default).2.2 (L.getD i default).args
def fG(gb:Nat)(mb:Option Nat)(nv:Value)(k:Nat):Prop:=k=gb\/mb=some k\/nv.ownBlock=some k
structure PG (w:World) (B:Nat) (A:Nat->Prop) (gb mb:Nat) (nv:Value) (W:Nat) (L:List Nd):Prop where
 blk:w.heap[gb]? =some (.cells #[.int .i64 W,.int .i64 1000,nv,.map (some mb)] 176 (0,0))
 map:jy w mb L
 nds:∃xs,Lay.nd.Own 148 w B nv xs/\kp w A xs L
 ok:GOk W L
 lo:∀k,fG gb (some mb) nv k->B<=k/\k<w.heap.size
 ne:gb≠mb/\nv.ownBlock≠some gb/\nv.ownBlock≠some mb
 ar:∀k,A k->B<=k/\k<w.heap.size/\¬fG gb (some mb) nv k
structure RG (w:World) (B:Nat) (A:Nat->Prop) (gb:Nat) (nv:Value) (W:Nat) (L:List Nd):Prop where
 blk:w.heap[gb]? =some (.cells #[.int .i64 W,.int .i64 1000,nv] 131 (0,0))
 nds:∃xs,Lay.nd.Own 148 w B nv xs/\kp w A xs L
 ok:GOk W L
 lo:∀k,fG gb none nv k->B<=k/\k<w.heap.size
 ne:nv.ownBlock≠some gb
 ar:∀k,A k->B<=k/\k<w.heap.size/\¬fG gb none nv k
structure Mut (S:Nat->Prop) (w w':World):Prop where
 os:w'.os=w.os
 tape:w'.tape=w.tape
 output:w'.output=w.output
 size:w.heap.size<=w'.heap.size
 block:∀k,k<w.heap.size->¬S k->w'.heap[k]? =w.heap[k]?
theorem Mut.below{S:Nat->Prop}{B:Nat}{w w':World}(h:Mut S w w')(hS:∀k,S k->B<=k)(hB:B<=w.heap.size):Below B w w':=⟨h.os,h.tape,h.output,h.size,λ k hk=>h.block k (by omega) (λ hs=>by have:=hS k hs;omega)⟩
theorem Mut.of_below{S:Nat->Prop}{w w':World}(h:Below w.heap.size w w'):Mut S w w':=⟨h.os,h.tape,h.output,h.size,λ k hk _=>h.block k hk⟩
theorem Mut.trans{S:Nat->Prop}{a b c:World}(h:Mut S a b)(k:Mut S b c):Mut S a c:=⟨k.os.trans h.os,k.tape.trans h.tape,k.output.trans h.output,Ag h.size k.size,λ i hi hs=>(k.block i (A9 hi h.size) hs).trans (h.block i hi hs)⟩
theorem At.frame{α:Type}{L:Lay α}{d:α}{w w':World}{a:Option Addr}{xs:List α}(h:L.At d w a xs)(hs:w.heap.size<=w'.heap.size)(hk:∀ad,a=some ad->w'.heap[ad.block]? =w.heap[ad.block]?):L.At d w' a xs:=λ i hi=>by obtain⟨b,o,e,h0,h1⟩:=h i hi;exact⟨b,o,e,A9 h0 hs,λ j hj=>(Ai (a:=⟨b,o+i*L.sz+j,none⟩) (hk ⟨b,o,none⟩ e)).trans (h1 j hj)⟩
theorem jM.frame{w w':World}{A:Nat->Prop}{h:Option Addr×Nat×Nat}{args:List Nat}(hh:jM w A h args)(hs:w.heap.size<=w'.heap.size)(hk:∀k,A k->w'.heap[k]? =w.heap[k]?):jM w' A h args:=⟨hh.len,At.frame hh.at_ hs λ ad e=>hk _ (hh.blk ad e),hh.blk,hh.non⟩
theorem jM.mono{w:World}{A A':Nat->Prop}{h:Option Addr×Nat×Nat}{args:List Nat}(hh:jM w A h args)(hk:∀k,A k->A' k):jM w A' h args:=⟨hh.len,hh.at_,λ a e=>hk _ (hh.blk a e),hh.non⟩
theorem kp.frame{w w':World}{A:Nat->Prop}{xs:List NdH}{L:List Nd}(h:kp w A xs L)(hs:w.heap.size<=w'.heap.size)(hk:∀k,A k->w'.heap[k]? =w.heap[k]?):kp w' A xs L:=⟨h.len,λ i hi=>⟨(h.at_ i hi).1,(h.at_ i hi).2.1,(h.at_ i hi).2.2.frame hs hk⟩⟩
theorem kp.snoc{w:World}{A A':Nat->Prop}{xs:List NdH}{L:List Nd}(h:kp w A xs L)(g:∀k,A k->A' k){n:Nd}{a:Option Addr×Nat×Nat}(j:jM w A' a n.args):kp w A' (xs++[(n.op,n.num,a)]) (L++[n]):=by refine⟨by simp[h.len],λ i q=> ?_⟩;simp only[Av,List.length_singleton] at q;by_cases e:i<L.length;{have b:(xs++[(n.op,n.num,a)]).getD i default=xs.getD i default:=by{rw[Aa,Aa,Bc (by rw[h.len];exact e)]};have c:(L++[n]).getD i default=L.getD i default:=by{rw[Aa,Aa,Bc e]};rw[b,c];exact⟨(h.at_ i e).1,(h.at_ i e).2.1,(h.at_ i e).2.2.mono g⟩};have f:i=L.length:=by{omega};subst f;have b:(xs++[(n.op,n.num,a)]).getD L.length default=(n.op,n.num,a):=by{rw[Aa,Bi (by rw[h.len];exact A8 _),h.len];simp};have c:(L++[n]).getD L.length default=n:=by{rw[Aa,Bi (A8 _)];simp};rw[b,c];exact⟨rfl,rfl,j⟩
theorem qH{w w':World}{B:Nat}{nv:Value}{xs:List NdH}(h:Lay.nd.Own 148 w B nv xs)(n:∀k,nv.ownBlock=some k->w'.heap[k]? =w.heap[k]?):Lay.nd.Own 148 w' B nv xs:=by obtain⟨a,h|⟨g,b,c,rfl,f,j,r,q,x,C⟩⟩:=h;{exact⟨a,.inl h⟩};exact⟨a,.inr ⟨g,b,c,rfl,f,(n g rfl).trans j,r,q,x,C⟩⟩
theorem jy.frame{w w':World}{mb:Nat}{L:List Nd}(h:jy w mb L)(f:w'.heap[mb]? =w.heap[mb]?):jy w' mb L:=by obtain⟨es,a,b,c⟩:=h.ents;exact⟨⟨es,a,f.trans b,c⟩⟩
section
variable {w w':World} {B:Nat} {A:Nat->Prop} {gb mb:Nat} {nv:Value} {W:Nat} {L:List Nd}
theorem PG.frame(h:PG w B A gb mb nv W L)(c:w.heap.size<=w'.heap.size)(b:∀k,fG gb (some mb) nv k\/A k->w'.heap[k]? =w.heap[k]?):PG w' B A gb mb nv W L:=by obtain⟨j,f,g⟩:=h.nds;exact⟨(b gb (.inl (.inl rfl))).trans h.blk,h.map.frame (b mb (.inl (.inr (.inl rfl)))),⟨j,qH f λ k e=>b k (.inl (.inr (.inr e))),g.frame c λ k a=>b k (.inr a)⟩,h.ok,λ k m=>⟨(h.lo k m).1,A9 (h.lo k m).2 c⟩,h.ne,λ k a=>⟨(h.ar k a).1,A9 (h.ar k a).2.1 c,(h.ar k a).2.2⟩⟩
theorem RG.frame(h:RG w B A gb nv W L)(c:w.heap.size<=w'.heap.size)(b:∀k,fG gb none nv k\/A k->w'.heap[k]? =w.heap[k]?):RG w' B A gb nv W L:=by obtain⟨j,f,g⟩:=h.nds;exact⟨(b gb (.inl (.inl rfl))).trans h.blk,⟨j,qH f λ k e=>b k (.inl (.inr (.inr e))),g.frame c λ k a=>b k (.inr a)⟩,h.ok,λ k m=>⟨(h.lo k m).1,A9 (h.lo k m).2 c⟩,h.ne,λ k a=>⟨(h.ar k a).1,A9 (h.ar k a).2.1 c,(h.ar k a).2.2⟩⟩
theorem PG.below(h:PG w B A gb mb nv W L)(hb:Below w.heap.size w w'):PG w' B A gb mb nv W L:=h.frame hb.size λ k hk=>hb.block k (by rcases hk with m|a;exact(h.lo k m).2;exact(h.ar k a).2.1)
theorem RG.below(h:RG w B A gb nv W L)(hb:Below w.heap.size w w'):RG w' B A gb nv W L:=h.frame hb.size λ k hk=>hb.block k (by rcases hk with m|a;exact(h.lo k m).2;exact(h.ar k a).2.1)
theorem PG.slice(h:PG w B A gb mb nv W L):∃a cap,nv= .slice a L.length cap/\L.length<=cap/\cap<=maxLen:=by obtain⟨xs,c,b⟩:=h.nds;obtain⟨a,cap,rfl,_,f,g⟩:=c.at_ (d:=default);exact⟨a,cap,by rw[b.len],by rw[<-b.len];exact f,g⟩
theorem RG.slice(h:RG w B A gb nv W L):∃a cap,nv= .slice a L.length cap/\L.length<=cap/\cap<=maxLen:=by obtain⟨xs,c,b⟩:=h.nds;obtain⟨a,cap,rfl,_,f,g⟩:=c.at_ (d:=default);exact⟨a,cap,by rw[b.len],by rw[<-b.len];exact f,g⟩
theorem yL{xs:List NdH}(F:Lay.nd.Own 148 w B nv xs)(q:kp w A xs L){i:Nat}(K:i<L.length):∃b cap c hc,nv= .slice (some ⟨b,0,none⟩) L.length cap/\b<w.heap.size/\nv.ownBlock=some b/\w.cell? ⟨b,i*3,none⟩=some (.int .u8 ((L.getD i default).op:Int))/\w.cell? ⟨b,i*3+1,none⟩=some (.int .u64 ((L.getD i default).num:Int))/\w.cell? ⟨b,i*3+2,none⟩=some (.slice c (L.getD i default).args.length hc)/\(Lay.int .i64).At 0 w c (fE (L.getD i default).args)/\(c=none->hc=0)/\∀a,c=some a->A a.block:=by obtain⟨C,E,h⟩:=q.at_ i K;have N:=q.len;obtain⟨_,k|⟨g,cap,x,rfl,J,k,Q,O,R,S⟩⟩:=F;{omega};have G:=World.ownsRow.cells (w:=w) (base:=B) (e:=148) (size:=Lay.nd.sz) (n:=xs.length) (xs:=Lay.nd.flat xs) ⟨Lay.nd.flat_length xs,.inr ⟨g,cap,x,rfl,J,k,Q,O,R,S⟩⟩ (g:=g) rfl;have hc:∀j,j<3->w.cell? ⟨g,i*3+j,none⟩=(Lay.nd.f (xs.getD i default))[j]? :=λ j M=>by{have H:=Lay.nd.flat_at default xs i j (by omega) M;have h5:(Lay.nd.f (xs.getD i default)).length=3:=rfl;have I:(Lay.nd.flat xs)[i*3+j]? =some ((Lay.nd.f (xs.getD i default))[j]'(by omega)):=by{rw[<-Ab (by omega)];exact H};have r:=G _ _ I;rw[kK,AJ] at r;rw[r,Ab (by omega)]};refine⟨g,cap,(xs.getD i default).2.2.1,(xs.getD i default).2.2.2.2,by rw[N],(AS.1 k).1,rfl,?_,?_,?_,h.at_,h.non,h.blk⟩;{have:=hc 0 (by decide);rw[Nat.add_zero] at this;rw[this,<-C];rfl};{rw[hc 1 (by decide),<-E];rfl};rw[hc 2 (by decide),<-h.len];rfl
end
