/- Paths in memory; walk: Short. -/
import Derived.Test.YtgdpkkjfcdhmdaaGreatDoorR14
namespace Go.Proofs.YtgdpkkjfcdhmdaaGreatDoor
open Go.RowKit
inductive Occ (L:List Nd) (t:Nat):Nat->Prop|top:Occ L t t|arg {i a:Nat}:Occ L t i->a∈(L.getD i default).args->Occ L t a
theorem Bl(L:List Nd)(i:Nat)(h:L.length<=i):(L.getD i default).args=[]:=by rw[Aa,Ba h];rfl
theorem GOk.arg{W:Nat}{L:List Nd}(h:GOk W L){i a:Nat}(b:a∈(L.getD i default).args):a<i/\i<L.length:=by by_cases c:i<L.length;{exact⟨(h i c).2.2.2.2.2.2 a b,c⟩};rw[Bl L i (by omega)] at b;cases b
theorem GOk.argl{W:Nat}{L:List Nd}(h:GOk W L)(i:Nat):(L.getD i default).args.length<=3:=by by_cases hi:i<L.length;{rw[(h i hi).2.2.2.2.1];unfold arN;(repeat' split)<;>omega};rw[Bl L i (by omega)];simp
theorem Occ.lt{W:Nat}{L:List Nd}{t:Nat}(h:GOk W L)(a:t<L.length){j:Nat}(o:Occ L t j):j<L.length:=by induction o with|top=>exact a|arg _ ha ih=>have:=(h.arg ha).1;omega
def Jf(L:List Nd)(t:Nat)(n:Int):Prop:=∃j,Occ L t j/\(L.getD j default).op=1/\(((L.getD j default).num:Nat):Int)=n
def VOk(L:List Nd):Prop:=∀i,(L.getD i default).op=1->(L.getD i default).num<12
theorem VOk.nil:VOk []:=λ i h=>by simp at h
theorem VOk.ask{L:List Nd}(h:VOk L){n:Nd}(b:n.op=1->n.num<12):VOk (fW n L):=by unfold fW;split;{exact h};intro i a;by_cases e:i<L.length;{rw[Aa,Bc e,<-Aa] at a⊢;exact h i a};by_cases e2:i=L.length;{subst e2;rw[Aa,Bi (A8 _)] at a⊢;simp at a⊢;exact b a};rw[Aa,Ba (by simp;omega)] at a;cases a
theorem Jg(W:Nat)(qs:List jZ):VOk (iu W qs):=by rw[<-List.reverse_reverse qs];induction qs.reverse with|nil=>exact VOk.nil|cons q qs ih=>rw[List.reverse_cons,tg];refine ih.ask λ h=> ?_;unfold lp at h⊢;(repeat' split)<;>(repeat' split at h)<;>simp_all<;>omega
theorem vE{n:Nat}{S:List Nat}(f:S.Nodup)(g:∀x∈S,x<n):S.length<=n:=by have h:(S++(List.range n).filter λ b=> !S.contains b).Perm (List.range n):=by{refine(List.perm_ext_iff_of_nodup ?_ List.nodup_range).2 λ b=> ?_;{refine List.nodup_append.2 ⟨f,List.nodup_range.filter _,λ a d b c=> ?_⟩;rintro rfl;simp at c;exact c.2 d};simp only[Ar,List.mem_filter,List.mem_range];constructor;{rintro(c|c);{exact g b c};exact c.1};intro c;by_cases hc:b∈S;{exact .inl hc};exact .inr ⟨c,by simpa using hc⟩};have:=h.length_eq;rw[Av,List.length_range] at this;omega
section
variable {W:Nat} {L:List Nd} {t x:Nat} {S K:List Nat}
theorem Jh(K:List Nat)(h:0<K.length):K=K.take (K.length-1)++[K.getD (K.length-1) 0]:=by have:=gZ 0 K (K.length-1) (by omega);rw[show K.length-1+1=K.length by omega,AD] at this;exact this
end
theorem kI(N:List Bool)(i j:Nat)(h:N.getD j false=true):(N.set i true).getD j false=true:=by simp only[Aa,List.getElem?_set] at*;split;{split;{rfl};rename_i a e2;subst a;rw[Ba (by omega)] at h;cases h};exact h
theorem Bm(N:List Bool)(i:Nat)(h:i<N.length):(N.set i true).getD i false=true:=by rw[Aa,List.getElem?_set_self h];rfl
theorem vF(N:List Bool)(i j:Nat)(h:(N.set i true).getD j false=true):j=i\/N.getD j false=true:=by by_cases e:i=j;{exact .inl e.symm};right;simpa[List.getD_eq_getElem?_getD,List.getElem?_set,e] using h
section
variable {W:Nat} {L:List Nd} {t i m:Nat} {N:List Bool}
end
structure ke (L:List Nd) (N:List Bool) (t:Nat) (xs:List Int):Prop where
 mem:∀n:Int,n∈xs↔∃j,j<t/\N.getD j false=true/\(L.getD j default).op=1/\(((L.getD j default).num:Nat):Int)=n
 len:xs.length<=t
section
variable {L:List Nd} {N:List Bool} {t:Nat} {xs:List Int}
theorem ke.nil(L:List Nd)(N:List Bool):ke L N 0 []:=⟨λ n=>by simp,by simp⟩
theorem ke.skip(h:ke L N t xs)(hf:¬(N.getD t false=true/\(L.getD t default).op=1)):ke L N (t+1) xs:=⟨λ n=>(h.mem n).trans ⟨λ⟨j,h1,h2⟩=>⟨j,by omega,h2⟩,λ⟨j,h1,h2,h3,h4⟩=>⟨j,by by_cases e:j=t;{subst e;exact absurd ⟨h2,h3⟩ hf};omega,h2,h3,h4⟩⟩,by have:=h.len;omega⟩
theorem ke.take(h:ke L N t xs)(h1:N.getD t false=true)(h2:(L.getD t default).op=1){ys:List Int}(hm:∀n,n∈ys↔n∈xs\/n=(((L.getD t default).num:Nat):Int))(hl:ys.length=xs.length+1):ke L N (t+1) ys:=⟨λ n=>by rw[hm,h.mem];constructor;{rintro(⟨j,a,b⟩|rfl);{exact⟨j,by omega,b⟩};exact⟨t,by omega,h1,h2,rfl⟩};rintro⟨j,a,b,c,d⟩;by_cases e:j=t;{subst e;exact .inr d.symm};exact .inl ⟨j,by omega,b,c,d⟩,by have:=h.len;omega⟩
end
open Go Go.RowKit
open Go.Proofs.YtgdpkkjfcdhmdaaGreatDoor.Cr
def ndV(o u:Nat)(a:Option Addr)(n c:Nat):Value:=.agg #[.int .u8 (o:Int),.int .u64 (u:Int),.slice a n c]
def vG(L:List Nd)(x:Nat)(i:Nat)(e:MapEntry):Prop:=e.key= .int .i64 (x:Int)/\e.born=i/\∃a n c,e.val=ndV (L.getD x default).op (L.getD x default).num a n c
def jQ(L:List Nd):List Nat->Nat->List MapEntry->Prop|[],_,[]=>True|x::S,i,e::es=>vG L x i e/\jQ L S (i+1) es|_,_,_=>False
theorem jQ.len{L:List Nd}:∀{S:List Nat} {i:Nat} {es:List MapEntry},jQ L S i es->es.length=S.length|[],_,[],_=>rfl|[],_,_::_,h=>h.elim|_::_,_,[],h=>h.elim|x::S,i,e::es,h=>by simp[jQ.len (S:=S) h.2]
theorem jQ.snoc{L:List Nd}{x:Nat}{e:MapEntry}:∀{S:List Nat} {i:Nat} {es:List MapEntry},jQ L S i es->vG L x (i+S.length) e->jQ L (S++[x]) i (es++[e])|[],_,[],_,he=>⟨he,trivial⟩|[],_,_::_,h,_=>h.elim|_::_,_,[],h,_=>h.elim|y::S,i,e'::es,h,he=>⟨h.1,jQ.snoc h.2 (by rw[AQ] at he;rwa[show i+1+S.length=i+(S.length+1) by omega])⟩
theorem jQ.at_{L:List Nd}:∀{S:List Nat} {i:Nat} {es:List MapEntry},jQ L S i es->∀e∈es,∃j,j<S.length/\vG L (S.getD j 0) (i+j) e|[],_,[],_,e,he=>by cases he|[],_,_::_,h,_,_=>h.elim|_::_,_,[],h,_,_=>h.elim|x::S,i,e'::es,h,e,he=>by rcases List.mem_cons.1 he with rfl|he;{exact⟨0,by simp,h.1⟩};obtain⟨j,hj,hh⟩:=jQ.at_ h.2 e he;exact⟨j+1,by simpa using hj,by rw[show i+(j+1)=i+1+j by omega];simpa using hh⟩
theorem jQ.born{L:List Nd}:∀{S:List Nat} {i:Nat} {es:List MapEntry},jQ L S i es->∀j e,es[j]? =some e->e.born=i+j|[],_,[],_,j,e,he=>by simp at he|[],_,_::_,h,_,_,_=>h.elim|_::_,_,[],h,_,_,_=>h.elim|x::S,i,e'::es,h,j,e,he=>by cases j with|zero=>simp at he;subst he;exact h.1.2.1|succ j=>simp at he;rw[jQ.born h.2 j e he];omega
theorem Bp(a b:Int):Instr.sameNow (.int .i64) (.int .i64 a) (.int .i64 b)=some (a==b):=by simp[Instr.sameNow]
theorem vH{L:List Nd}(k:Nat):∀{S:List Nat} {i:Nat} {es:List MapEntry} (j:Nat),jQ L S i es->(k∈S->∃m o u a n c,Instr.findNow (.int .i64) (.int .i64 (k:Int)) es j=some (some (m,ndV o u a n c)))/\(k∉S->Instr.findNow (.int .i64) (.int .i64 (k:Int)) es j=some none)|[],_,[],j,_=>⟨λ h=>(by cases h),λ _=>rfl⟩|[],_,_::_,_,h=>h.elim|_::_,_,[],_,h=>h.elim|x::S,i,e::es,j,h=>by obtain⟨⟨g,h2,a,n,c,A⟩,h4⟩:=h;obtain⟨C,D⟩:=vH k (S:=S) (j+1) h4;by_cases e1:k=x;{subst e1;have b:Instr.sameNow (.int .i64) (.int .i64 (k:Int)) e.key=some true:=by{rw[g,Bp];simp};exact⟨λ _=>⟨j,(L.getD k default).op,(L.getD k default).num,a,n,c,by simp only[Instr.findNow,b,A]⟩,λ B=>absurd (AK ..) B⟩};have b:Instr.sameNow (.int .i64) (.int .i64 (k:Int)) e.key=some false:=by{rw[g,Bp];have:((k:Int)==(x:Int))=false:=by{simp;omega};rw[this]};refine⟨λ f=> ?_,λ f=> ?_⟩;{obtain⟨m,o,u,q,E,z,d⟩:=C (by rcases List.mem_cons.1 f with r|r;exact absurd r e1;exact r);exact⟨m,o,u,q,E,z,by simp only[Instr.findNow,b];exact d⟩};simp only[Instr.findNow,b];exact D λ d=>f (AC _ d)
structure jA (w:World) (mb:Nat) (L:List Nd) (S:List Nat):Prop where
 ents:∃es clock,w.heap[mb]? =some (.map es clock)/\clock=S.length/\jQ L S 0 es.toList
theorem jA.frame{w w':World}{a:Nat}{L:List Nd}{S:List Nat}(h:jA w a L S)(f:w'.heap[a]? =w.heap[a]?):jA w' a L S:=by obtain⟨es,c,b,d⟩:=h.ents;exact⟨es,c,f.trans b,d⟩
theorem th:Tryz.prog.underlying 144=some (.map 3 148):=by kernel_rfl
theorem Bq(w:World):(zeroValue 148).run Tryz.prog w= .ok (.agg #[.int .u8 0,.int .u64 0,.slice none 0 0]) w:=by kernel_rfl
theorem vI(em:Bool)(k:Int)(w:World):(Instr.checkKey em 10000 3 (.int .i64 k)).run Tryz.prog w= .ok () w:=od (μ:=mL) (d:=1) (ks:=[0]) (by decide) (by kernel_rfl) Tryz.underlying3 (VR.int _ _) (by rfl)
theorem vJ{w:World}{k:Int}{es:List MapEntry}{r:Option (Nat×Value)}(h:Instr.findNow (.int .i64) (.int .i64 k) es 0=some r):(Instr.findKey 3 (.int .i64 k) es).run Tryz.prog w= .ok r w:=by simp[Instr.findKey,run_underlying Tryz.underlying3,h]
theorem jA.lookup{w:World}{d:Nat}{L:List Nd}{S:List Nat}(h:jA w d L S)(k:Nat):∃o u a n c,(Instr.lookup 144 (.map (some d)) (.int .i64 (k:Int)) true).run Tryz.prog w= .ok (.tuple #[.agg #[.int .u8 ((o:Nat):Int),.int .u64 ((u:Nat):Int),.slice a n c],.bool (decide (k∈S))]) w:=by obtain⟨es,g,r,h2,z⟩:=h.ents;have f:(getObj d).run Tryz.prog w= .ok (.map es g) w:=by{simp[getObj,Sem.run,r]};obtain⟨j,q⟩:=vH k 0 z;by_cases hm:k∈S;{obtain⟨m,o,u,a,n,c,A⟩:=j hm;refine⟨o,u,a,n,c,?_⟩;rw[nj (ok:=true) th f (λ b=>vI b k w) (vJ A) (Bq w),decide_eq_true hm];rfl};refine⟨0,0,none,0,0,?_⟩;rw[nj (ok:=true) th f (λ b=>vI b k w) (vJ (q hm)) (Bq w),decide_eq_false hm];rfl
def Br(k:Nat)(v:Value)(es:Array MapEntry)(clock:Nat):Obj:=.map (es.push {key:=.int .i64 (k:Int),val:=v,born:=clock}) (clock+1)
theorem jA.update{w:World}{b:Nat}{L:List Nd}{S:List Nat}(h:jA w b L S){k:Nat}(A:k∉S)(a:Option Addr)(n c:Nat):∃ob,(Instr.mapUpdate 144 (.map (some b)) (.int .i64 (k:Int)) (.agg #[.int .u8 ((L.getD k default).op:Int),.int .u64 ((L.getD k default).num:Int),.slice a n c])).run Tryz.prog w= .ok () {w with heap:=w.heap.setIfInBounds b ob}/\∀w',w'.heap=w.heap.setIfInBounds b ob->jA w' b L (S++[k]):=by obtain⟨es,f,d,g,j⟩:=h.ents;have r:(getObj b).run Tryz.prog w= .ok (.map es f) w:=by{simp[getObj,Sem.run,d]};have B:∀ob,(setObj b ob).run Tryz.prog w= .ok () {w with heap:=w.heap.setIfInBounds b ob}:=λ ob=>by{simp[setObj,Sem.run,d]};have q:=vJ (w:=w) ((vH k 0 j).2 A);refine⟨Br k (ndV (L.getD k default).op (L.getD k default).num a n c) es f,?_,λ w' C=> ?_⟩;{simp only[Instr.mapUpdate,AB,run_underlying th,Al,r,vI,q,B,Br];rfl};have z:b<w.heap.size:=(AS.1 d).1;refine⟨_,_,by rw[C,Array.getElem?_setIfInBounds_self_of_lt z];rfl,by rw[g];simp,?_⟩;rw[Array.toList_push];refine j.snoc ⟨rfl,by simp[g],a,n,c,rfl⟩
open Go.RowKit
def Lay.bool:Lay Bool:=⟨1,λ b=>[.bool b],λ _=>rfl,λ x u hu=>by simp at hu;subst hu;rfl,by decide⟩
def Lay.sev:Lay (Int×Int):=⟨2,λ p=>[.int .i64 p.1,.int .i64 p.2],λ _=>rfl,λ x u hu=>by simp at hu;rcases hu with rfl|rfl<;>rfl,by decide⟩
theorem Lay.At.sev{w:World}{a:Option Addr}{xs:List (Int×Int)}(h:Lay.sev.At (0,0) w a xs){i:Nat}(j:i<xs.length):∃b o,a=some ⟨b,o,none⟩/\b<w.heap.size/\w.cell? ⟨b,o+i*2,none⟩=some (.int .i64 (xs.getD i (0,0)).1)/\w.cell? ⟨b,o+i*2+1,none⟩=some (.int .i64 (xs.getD i (0,0)).2):=by obtain⟨b,o,e,g,f⟩:=h i j;have c:=f 0 (by decide);have d:=f 1 (by decide);simp only[Lay.sev,Nat.add_zero] at c d;exact⟨b,o,e,g,by simpa using c,by simpa using d⟩
theorem Lay.At.bool{w:World}{a:Option Addr}{xs:List Bool}(h:Lay.bool.At false w a xs){i:Nat}(f:i<xs.length):∃b o,a=some ⟨b,o,none⟩/\b<w.heap.size/\w.cell? ⟨b,o+i,none⟩=some (.bool (xs.getD i false)):=by obtain⟨b,o,e,c,d⟩:=h i f;have:=d 0 (by decide);simp only[Lay.bool,Nat.mul_one,Nat.add_zero] at this;exact⟨b,o,e,c,by simpa using this⟩
structure fM where
 ca:Option Addr
 cc:Nat
 cs:List Int
 st:Int
 sp:Int
 oa:Option Addr
 oc:Nat
 os:List (Int×Int)
 ra:Option Addr
 rc:Nat
 rs:List (Int×Int)
 ba:Option Addr
 bc:Nat
 bs:List Bool
 ia:Option Addr
 ic:Nat
 is:List Int
instance:Inhabited fM:=⟨⟨none,0,[],0,0,none,0,[],none,0,[],none,0,[],none,0,[]⟩⟩
def Lay.path:Lay fM:=⟨7,λ p=>[.slice p.ca p.cs.length p.cc,.int .u8 p.st,.int .i64 p.sp,.slice p.oa p.os.length p.oc,.slice p.ra p.rs.length p.rc,.slice p.ba p.bs.length p.bc,.slice p.ia p.is.length p.ic],λ _=>rfl,λ x u hu=>by simp at hu;rcases hu with rfl|rfl|rfl|rfl|rfl|rfl|rfl<;>rfl,by decide⟩
def fM.v(p:fM):Value:=.agg #[.slice p.ca p.cs.length p.cc,.int .u8 p.st,.int .i64 p.sp,.slice p.oa p.os.length p.oc,.slice p.ra p.rs.length p.rc,.slice p.ba p.bs.length p.bc,.slice p.ia p.is.length p.ic]
structure fM.Ok (w:World) (p:fM):Prop where
 c:(Lay.int .i64).At 0 w p.ca p.cs
 o:Lay.sev.At (0,0) w p.oa p.os
 r:Lay.sev.At (0,0) w p.ra p.rs
 b:Lay.bool.At false w p.ba p.bs
 i:(Lay.int .i64).At 0 w p.ia p.is
 bn:p.ba=none->p.bc=0
 cn:p.ca=none->p.cc=0
 in_:p.ia=none->p.ic=0
theorem fM.Ok.below{w w':World}{p:fM}(h:p.Ok w)(hb:Below w.heap.size w w'):p.Ok w':=⟨h.c.below hb,h.o.below hb,h.r.below hb,h.b.below hb,h.i.below hb,h.bn,h.cn,h.in_⟩
def fM.short(p:fM):Prop:=p.cs.length<=12/\p.os.length<=12/\p.rs.length<=12/\p.bs.length<=40/\p.is.length<=40
theorem Ji{w:World}{a:Option Addr}{ps:List fM}(h:Lay.path.At default w a ps){i:Nat}(z:i<ps.length):∃b o,a=some ⟨b,o,none⟩/\b<w.heap.size/\w.cell? ⟨b,o+i*7,none⟩=some (.slice (ps.getD i default).ca (ps.getD i default).cs.length (ps.getD i default).cc)/\w.cell? ⟨b,o+i*7+1,none⟩=some (.int .u8 (ps.getD i default).st)/\w.cell? ⟨b,o+i*7+2,none⟩=some (.int .i64 (ps.getD i default).sp)/\w.cell? ⟨b,o+i*7+3,none⟩=some (.slice (ps.getD i default).oa (ps.getD i default).os.length (ps.getD i default).oc)/\w.cell? ⟨b,o+i*7+4,none⟩=some (.slice (ps.getD i default).ra (ps.getD i default).rs.length (ps.getD i default).rc)/\w.cell? ⟨b,o+i*7+5,none⟩=some (.slice (ps.getD i default).ba (ps.getD i default).bs.length (ps.getD i default).bc)/\w.cell? ⟨b,o+i*7+6,none⟩=some (.slice (ps.getD i default).ia (ps.getD i default).is.length (ps.getD i default).ic):=by obtain⟨b,o,e,r,c⟩:=h i z;have d:=c 0 (by decide);have f:=c 1 (by decide);have g:=c 2 (by decide);have j:=c 3 (by decide);have k:=c 4 (by decide);have n:=c 5 (by decide);have q:=c 6 (by decide);exact⟨b,o,e,r,d,f,g,j,k,n,q⟩
theorem Bt(w:World)(p:fM):Calls Tryz.prog 17 #[p.v] w λ e w'=>(∃g,e= .returned (.bool g)/\(g=true↔p.short))/\Below w.heap.size w w':=by obtain⟨F,G,z,U,R,M,O,C,P,Q,D,E,bc,r,I,J,B⟩:=p;have d:Hid (Below w.heap.size w (w.alloc (.cells #[.slice F z.length G,.int .u8 U,.int .i64 R,.slice M C.length O,.slice P D.length Q,.slice E r.length bc,.slice I B.length J] 28))):=Z ((A6 _ _).alloc (A8 _) _);simp only[fM.v,fM.short];generalize z.length=l1 at*;generalize C.length=l2 at*;generalize D.length=l3 at*;generalize r.length=l4 at*;generalize B.length=l5 at*;by_cases b:l1<=12;{by_cases c:l2<=12;{by_cases f:l3<=12;{by_cases c4:l4<=40;{by_cases k:l5<=40;{have j:decide ((l1:Int)<=12)=true:=by{simp;omega};have n:decide ((l2:Int)<=12)=true:=by{simp;omega};have q:decide ((l3:Int)<=12)=true:=by{simp;omega};have A:decide ((l4:Int)<=40)=true:=by{simp;omega};have H:decide ((l5:Int)<=40)=true:=by{simp;omega};have a:Hid (l1<=12/\l2<=12/\l3<=12/\l4<=40/\l5<=40):=Z ⟨b,c,f,c4,k⟩;clear b c f c4 k;go_enter Tryz.func17,Tryz.ntmps17;go_wp2_with fail;go_ret;exact⟨⟨true,rfl,λ _=>a.o,λ _=>rfl⟩,d.o⟩};have j:decide ((l1:Int)<=12)=true:=by{simp;omega};have n:decide ((l2:Int)<=12)=true:=by{simp;omega};have q:decide ((l3:Int)<=12)=true:=by{simp;omega};have A:decide ((l4:Int)<=40)=true:=by{simp;omega};have H:decide ((l5:Int)<=40)=false:=by{simp;omega};have a:=Z k;clear b c f c4 k;go_enter Tryz.func17,Tryz.ntmps17;go_wp2_with fail;go_ret;exact⟨⟨false,rfl,λ h=>(by cases h),λ h=>absurd h.2.2.2.2 a.o⟩,d.o⟩};have j:decide ((l1:Int)<=12)=true:=by{simp;omega};have n:decide ((l2:Int)<=12)=true:=by{simp;omega};have q:decide ((l3:Int)<=12)=true:=by{simp;omega};have A:decide ((l4:Int)<=40)=false:=by{simp;omega};have a:=Z c4;clear b c f c4;go_enter Tryz.func17,Tryz.ntmps17;go_wp2_with fail;go_ret;exact⟨⟨false,rfl,λ h=>(by cases h),λ h=>absurd h.2.2.2.1 a.o⟩,d.o⟩};have j:decide ((l1:Int)<=12)=true:=by{simp;omega};have n:decide ((l2:Int)<=12)=true:=by{simp;omega};have q:decide ((l3:Int)<=12)=false:=by{simp;omega};have a:=Z f;clear b c f;go_enter Tryz.func17,Tryz.ntmps17;go_wp2_with fail;go_ret;exact⟨⟨false,rfl,λ h=>(by cases h),λ h=>absurd h.2.2.1 a.o⟩,d.o⟩};have j:decide ((l1:Int)<=12)=true:=by{simp;omega};have n:decide ((l2:Int)<=12)=false:=by{simp;omega};have a:=Z c;clear b c;go_enter Tryz.func17,Tryz.ntmps17;go_wp2_with fail;go_ret;exact⟨⟨false,rfl,λ h=>(by cases h),λ h=>absurd h.2.1 a.o⟩,d.o⟩};have j:decide ((l1:Int)<=12)=false:=by{simp;omega};have a:=Z b;clear b;go_enter Tryz.func17,Tryz.ntmps17;go_wp2_with fail;go_ret;exact⟨⟨false,rfl,λ h=>(by cases h),λ h=>absurd h.1 a.o⟩,d.o⟩
