/- The map of a graph of terms: from what a node is to its place; found and entered. -/
import Derived.Test.YtmicnollchhlfaaGreatR4
import Derived.Test.YtmicnollchhlfaaGreatR7
set_option linter.all false
namespace Go.Proofs.YtmicnollchhlfaaGreat
open Go Go.RowKit
open Go.Proofs.YtmicnollchhlfaaGreat.Cr
def jF(n:Nd):List Value:=[.int .u8 (Int.ofNat n.op),.int .u64 (Int.ofNat n.num),.int .i64 (Int.ofNat (n.args.getD 0 0)),.int .i64 (Int.ofNat (n.args.getD 1 0)),.int .i64 (Int.ofNat (n.args.getD 2 0))]
def fK(n:Nd):Value:=.agg ⟨jF n⟩
def ksK:=[0,0,0,0,0]
theorem Rp:∀{l r:List Nat},l.length=r.length->l.length<=3->l.getD 0 0=r.getD 0 0->l.getD 1 0=r.getD 1 0->l.getD 2 0=r.getD 2 0->l=r|[],[],_,_,_,_,_=>rfl|[],_::_,h,_,_,_,_=>by simp at h|_::_,[],h,_,_,_,_=>by simp at h|[a],[b],_,_,h0,_,_=>by simpa using h0|[a],_::_::_,h,_,_,_,_=>by simp at h|_::_::_,[b],h,_,_,_,_=>by simp at h|[a,b],[c,d],_,_,h0,h1,_=>by simp at h0 h1;rw[h0,h1]|[a,b],_::_::_::_,h,_,_,_,_=>by simp at h|_::_::_::_,[c,d],h,_,_,_,_=>by simp at h|[a,b,c],[d,e,f],_,_,h0,h1,h2=>by simp at h0 h1 h2;rw[h0,h1,h2]|_::_::_::_::_,_::_::_::_,_,h,_,_,_=>by simp at h|[a,b,c],_::_::_::_::_,h,_,_,_,_=>by simp at h
theorem FQ o:arN o<=3:=by unfold arN;(repeat' split)<;>omega
theorem zA k a b(hk:keq k k=true):eK 0 (.int k (Int.ofNat a)) (.int k (Int.ofNat b))=some (Nat.beq a b):=by show(bif Nat.beq 0 0&&keq k k then some (ieq (Int.ofNat a) (Int.ofNat b)) else none)=_;rw[hk];rfl
theorem Rq{n m}(f:n.args.length=arN n.op)(hm:m.args.length=arN m.op):eG ksK true (fK n) (fK m)=some (decide (m=n)):=by show gB ksK (jF n) (jF m)=_;obtain⟨o,u,l⟩:=n;obtain⟨p,v,r⟩:=m;simp only at f hm;have key:∀{a b:Nat},(a=b)->Nat.beq a b=true:=λh=>by{subst h;exact Nat.beq_refl _};have c:∀{a b:Nat},(a≠b)->Nat.beq a b=false:=λ{a b} h=>by{cases hb:Nat.beq a b with|true=>exact absurd (Ab hb) h|false=>rfl};unfold ksK jF;simp only[gB,zA .u8 _ _ rfl,zA .u64 _ _ rfl,zA .i64 _ _ rfl];by_cases e:(⟨p,v,r⟩:Nd)=⟨o,u,l⟩;{simp only[Nd.mk.injEq] at e;obtain⟨rfl,rfl,rfl⟩:=e;simp[Nat.beq_refl]};rw[decide_eq_false e];by_cases h1:o=p;{subst h1;rw[key rfl];simp only;by_cases h2:u=v;{subst h2;rw[key rfl];simp only;by_cases h3:l.getD 0 0=r.getD 0 0;{rw[key h3];simp only;by_cases h4:l.getD 1 0=r.getD 1 0;{rw[key h4];simp only;by_cases h5:l.getD 2 0=r.getD 2 0;{exact absurd (by rw[Rp (f.trans hm.symm) (by rw[f];exact FQ _) h3 h4 h5]) e};rw[c h5]};rw[c h4]};rw[c h3]};rw[c h2]};rw[c h1]
def fR:List Nd->Nat->List (Value×Value)|[],_=>[]|n::l,i=>(fK n,.int .i64 (Int.ofNat i))::fR l (i+1)
theorem fS9 n:∀l i,fR (l++[n]) i=fR l i++[(fK n,.int .i64 (Int.ofNat (i+l.length)))]|[],i=>rfl|m::l,i=>by show _::fR (l++[n]) (i+1)=_::(fR l (i+1)++_);rw[fS9 n l (i+1)];simp only[Af];rw[show i+1+l.length=i+(l.length+1) by omega]
theorem FT{n}(c:n.args.length=arN n.op):∀l i j,(∀m∈l,m.args.length=arN m.op)->eC ksK true (fK n) (fR l i) j=some (if n∈l then some (j+dO n l,.int .i64 (Int.ofNat (i+dO n l))) else none)|[],i,j,_=>by simp[fR,eC]|m::l,i,j,h=>by have k:=FT c l (i+1) (j+1) (λx g=>h x (Ac _ g));have hk:=Rq c (h m (Ao ..));show(match eG ksK true (fK n) (fK m) with|none=>none|some true=>some (some (j,(.int .i64 (Int.ofNat i):Value)))|some false=>eC ksK true (fK n) (fR l (i+1)) (Nat.succ j))=_;rw[hk];by_cases e:m=n;{rw[decide_eq_true e];simp[e,dO]};rw[decide_eq_false e];simp only;show eC ksK true (fK n) (fR l (i+1)) (j+1)=_;rw[k];have f:dO n (m::l)=dO n l+1:=by{show(if m=n then 0 else dO n l+1)=_;rw[if_neg e]};have a:(n∈m::l)↔n∈l:=by{simp[Ne.symm e]};rw[f];by_cases hm:n∈l;{rw[if_pos hm,if_pos (a.2 hm)];congr 2;·rw[show j+1+dO n l=j+(dO n l+1) by omega,show i+1+dO n l=i+(dO n l+1) by omega]};rw[if_neg hm,if_neg (λh=>hm (a.1 h))]
structure GmT (P:Program) (t kt et:TypeId) (D:TypeDesc) (d:Nat):Prop where
 und:P.underlying t=some (.map kt et)
 key:P.underlying kt=some D
 shape:shp P d kt=some ksK
 deep:d<=10000
 agg:du D=true
 zero:∀w,(zeroValue et).run P w= .ok (.int .i64 0) w
structure gD (w:World) (mb:Nat) (L:List Nd):Prop where
 ents:∃es clock,w.heap[mb]? =some (.map es clock)/\(es.toList.map λe=>(e.key,e.val))=fR L 0
def kX:Mu:=⟨λ _=>none,λ _=>0⟩
theorem zB:∀l i,(fR l i).map (·.1)=l.map fK|[],_=>rfl|n::l,i=>by simp[fR,zB l (i+1)]
theorem VR.key n:VR kX (fK n) (fK n):=VR.plain rfl
theorem LR.same_keys(l:List Nd):LR kX (l.map fK) (l.map fK):=⟨rfl,λj a b=>by simp only[List.getElem_map];exact VR.key _⟩
theorem LR.same_vals:∀l i,LR kX ((fR l i).map (·.2)) ((fR l i).map (·.2))|[],_=>LR.nil _|_::l,i=>LR.cons (VR.int _ _) (LR.same_vals l (i+1))
section
variable {P:Program} {t kt et:TypeId} {D:TypeDesc} {d:Nat} {w:World} {mb:Nat} {L:List Nd}
theorem gD.find(T:GmT P t kt et D d){n}(k:n.args.length=arN n.op)(j:∀m∈L,m.args.length=arN m.op){es:Array MapEntry}(c:(es.toList.map λe=>(e.key,e.val))=fR L 0):(Instr.findKey kt (fK n) es.toList).run P w= .ok (if n∈L then some (dO n L,.int .i64 (Int.ofNat (dO n L))) else none) w:=by have g:es.toList.map (·.key)=L.map fK:=by{have:=congrArg (List.map (·.1)) c;rw[List.map_map,zB] at this;exact this};have h:es.toList.map (·.val)=(fR L 0).map (·.2):=by{have:=congrArg (List.map (·.2)) c;rw[List.map_map] at this;exact this};have f:=FT k L 0 0 j;rw[Ap] at f;obtain⟨z,r,a⟩:=uO (P:=P) (w:=w) (μ:=kX) (es:=fR L 0) (ents:=es.toList) T.deep T.shape T.key (VR.key n) (by rw[zB,g];exact LR.same_keys L) (by rw[h];exact LR.same_vals L 0) (by rw[T.agg];exact f);rw[r];by_cases hm:n∈L;{rw[if_pos hm] at a⊢;obtain⟨v',rfl,l⟩:=a;cases l;rfl};rw[if_neg hm] at a⊢;have:z=none:=a;rw[this]
theorem gD.check(T:GmT P t kt et D d) n em:(Instr.checkKey em 10000 kt (fK n)).run P w= .ok () w:=nf (μ:=kX) T.deep T.shape T.key (VR.key n) (by rw[T.agg];rfl)
theorem gD.lookup(T:GmT P t kt et D d)(h:gD w mb L){n}(k:n.args.length=arN n.op)(j:∀m∈L,m.args.length=arN m.op):(Instr.lookup t (.map (some mb)) (fK n) true).run P w= .ok (.tuple #[.int .i64 (if n∈L then(dO n L:Int) else 0),.bool (decide (n∈L))]) w:=by obtain⟨es,a,c,f⟩:=h.ents;have g:(getObj mb).run P w= .ok (.map es a) w:=by{simp[getObj,Sem.run,c]};have:=lM (ok:=true) T.und g (gD.check T n) (gD.find T k j f) (T.zero w);rw[this];by_cases hm:n∈L;{rw[if_pos hm,if_pos hm,decide_eq_true hm];rfl};rw[if_neg hm,if_neg hm,decide_eq_false hm];rfl
def pD(n:Nd)(L:List Nd)(es:Array MapEntry)(clock:Nat):Obj:=.map (es.push {key:=fK n,val:=.int .i64 (L.length:Int),born:=clock}) (clock+1)
theorem gD.update(T:GmT P t kt et D d){es a}(f:w.heap[mb]? =some (.map es a))(h:(es.toList.map λe=>(e.key,e.val))=fR L 0){n}(l:n.args.length=arN n.op)(k:∀m∈L,m.args.length=arN m.op)(r:n∉L):(Instr.mapUpdate t (.map (some mb)) (fK n) (.int .i64 (L.length:Int))).run P w= .ok () {w with heap:=w.heap.setIfInBounds mb (pD n L es a)}:=by have j:(getObj mb).run P w= .ok (.map es a) w:=by{simp[getObj,Sem.run,f]};have z:∀c,(setObj mb c).run P w= .ok () {w with heap:=w.heap.setIfInBounds mb c}:=λc=>by{simp[setObj,Sem.run,f]};have g:=gD.find (w:=w) T l k h;rw[if_neg r] at g;simp only[Instr.mapUpdate,Ai,run_underlying T.und,Ag,j,gD.check T n false,g,z,pD]
theorem gD.put{es a}(c:w.heap[mb]? =some (.map es a))(f:(es.toList.map λe=>(e.key,e.val))=fR L 0) n:gD {w with heap:=w.heap.setIfInBounds mb (pD n L es a)} mb (L++[n]):=by have g:mb<w.heap.size:=(Al.1 c).1;refine⟨es.push {key:=fK n,val:=.int .i64 (L.length:Int),born:=a},a+1,by show(w.heap.setIfInBounds mb _)[mb]? =_;rw[Array.getElem?_setIfInBounds_self_of_lt g];rfl,?_⟩;rw[fS9,<-f];simp
end
