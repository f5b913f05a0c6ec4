/- The machine's contract for support.Vars is right: a walk. -/
import Derived.Test.YtmicnollchhlfaaGreatProg
import Derived.Test.YtmicnollchhlfaaGreatR9
import Derived.BigQuiet
import Derived.Maps.AppendAt
import Derived.Laws.AppendOwnNone
set_option linter.all false
namespace Go.Proofs.YtmicnollchhlfaaGreat
open Go.RowKit
theorem jl g o j:(⟨g,o,none⟩:Addr).add j=⟨g,o+j,none⟩:=by unfold Addr.add;split;{simp_all};rfl
structure Lay (α:Type) where
 sz:Nat
 f:α->List Value
 len:∀x,(f x).length=sz
 one:∀x,∀u∈f x,u.oneCell'=true
 pos:0<sz
def Lay.int(k:IntKind):Lay Int:=⟨1,λn=>[.int k n],λ _=>rfl,λx u hu=>by simp at hu;subst hu;rfl,by decide⟩
def Lay.sl:Lay (Option Addr×Nat×Nat):=⟨1,λp=>[.slice p.1 p.2.1 p.2.2],λ _=>rfl,λx u hu=>by simp at hu;subst hu;rfl,by decide⟩
def Lay.bool:Lay Bool:=⟨1,λb=>[.bool b],λ _=>rfl,λx u hu=>by simp at hu;subst hu;rfl,by decide⟩
section
variable {α:Type} (L:Lay α)
def Lay.flat(xs:List α):=xs.flatMap L.f
theorem Lay.flat_append a b:L.flat (a++b)=L.flat a++L.flat b:=by simp[Lay.flat]
theorem Lay.flat_length xs:(L.flat xs).length=xs.length*L.sz:=by induction xs with|nil=>simp[Lay.flat]|cons p ps ih=>simp only[Lay.flat,List.flatMap_cons,Aq,Af,L.len] at ih⊢;rw[ih,Nat.add_mul];omega
theorem Lay.flat_one xs:∀u∈L.flat xs,u.oneCell'=true:=λu hu=>by simp only[Lay.flat,List.mem_flatMap] at hu;obtain⟨p,_,hu⟩:=hu;exact L.one p u hu
theorem Lay.flat_at d:∀xs i j,i<xs.length->j<L.sz->(L.flat xs)[i*L.sz+j]? =(L.f (xs.getD i d))[j]?|[],i,j,h,_=>by simp at h|p::ps,0,j,_,hj=>by simp only[Lay.flat,List.flatMap_cons,Nat.zero_mul,Ap,List.getD_cons_zero];rw[AD (by rw[L.len];exact hj)]|p::ps,i+1,j,h,hj=>by have:=Lay.flat_at d ps i j (by simpa using h) hj;simp only[Lay.flat,List.flatMap_cons,List.getD_cons_succ] at this⊢;rw[Ar (by rw[L.len,Nat.add_mul];omega),L.len,<-this];congr 1;rw[Nat.add_mul];omega
def Lay.At(d:α)(w:World)(a:Option Addr)(xs:List α):=∀i,i<xs.length->∃b o,a=some ⟨b,o,none⟩/\b<w.heap.size/\∀j,j<L.sz->w.cell? ⟨b,o+i*L.sz+j,none⟩=(L.f (xs.getD i d))[j]?
variable {L} {d:α} {w w':World} {a:Option Addr} {xs:List α}
theorem Lay.At.nil:L.At d w a []:=λi hi=>by simp at hi
theorem Lay.At.below(h:L.At d w a xs)(hb:Below w.heap.size w w'):L.At d w' a xs:=λi hi=>by obtain⟨b,o,e,h0,h1⟩:=h i hi;exact⟨b,o,e,A8 h0 hb.size,λj hj=>(hb.cell (p:=⟨b,_,none⟩) h0).trans (h1 j hj)⟩
theorem Lay.At.take(h:L.At d w a xs) k:L.At d w a (xs.take k):=λi hi=>by rw[Ae] at hi;obtain⟨b,o,e,h0,h1⟩:=h i (by omega);refine⟨b,o,e,h0,λj hj=> ?_⟩;rw[h1 j hj,A2,A2,List.getElem?_take_of_lt (by omega)]
theorem Lay.At.drop{b o}(h:L.At d w (some ⟨b,o,none⟩) xs) k:L.At d w (some ⟨b,o+k*L.sz,none⟩) (xs.drop k):=λi g=>by rw[Aw] at g;obtain⟨b',o',e,h0,f⟩:=h (k+i) (by omega);injection e with e;injection e with e1 e2;subst e1 e2;refine⟨b,_,rfl,h0,λj l=> ?_⟩;have c:o+k*L.sz+i*L.sz+j=o+(k+i)*L.sz+j:=by{rw[Nat.add_mul];omega};rw[c,f j l,A2,A2,List.getElem?_drop]
theorem Lay.At.made(w:World) xs t:L.At d (w.alloc (.cells (L.flat xs).toArray t)) (some ⟨w.heap.size,0,none⟩) xs:=λi hi=>⟨_,_,rfl,by simp,λj hj=>by rw[AC,<-L.flat_at d xs i j hi hj];simp⟩
def Lay.Own(L:Lay α)(e:TypeId)(w:World)(base:Nat)(v:Value)(xs:List α):=w.ownsRow base e L.sz v xs.length (L.flat xs)
theorem Lay.Own.nil{e} w base:L.Own e w base (.slice none 0 0) []:=World.ownsRow_nil w base e L.sz
theorem Lay.Own.at_{e base:Nat}{v}(h:L.Own e w base v xs):∃a cap,v= .slice a xs.length cap/\L.At d w a xs/\xs.length<=cap/\cap<=maxLen:=by obtain⟨hl,h|⟨g,cap,l,rfl,hg,f,B,hm,hs,D⟩⟩:=h;{refine⟨none,0,by rw[h.1,h.2],?_,by omega,by decide⟩;have:xs=[]:=List.eq_nil_of_length_eq_zero h.2;subst this;exact Lay.At.nil};refine⟨_,cap,rfl,?_,B,hm⟩;intro i k;have r:g<w.heap.size:=(Al.1 f).1;have n:∀j,j<xs.length*L.sz->w.cell? ⟨g,0+j,none⟩=(L.flat xs)[j]? :=λj c=>by{have:w.cell? ⟨g,0+j,none⟩=l[j]? :=by{simp[World.cell?,f]};rw[this,<-D,List.getElem?_take_of_lt c];simp};refine⟨g,0,rfl,r,λj c=> ?_⟩;have A:i*L.sz+j<xs.length*L.sz:=by{have:(i+1)*L.sz<=xs.length*L.sz:=Nat.mul_le_mul_right _ k;rw[Nat.add_mul] at this;omega};rw[Nat.add_assoc,n _ A,L.flat_at d xs i j k c]
theorem Lay.Own.grown{e base:Nat}{v}(h:L.Own e w base v xs)(c:Below w.heap.size w w'):L.Own e w' base v xs:=by refine World.ownsRow.kept (row:=none) h ⟨c.os,c.tape,c.output,c.size,λk hk _=>c.block k hk⟩ ?_;cases hv:v.ownBlock<;>simp
theorem Lay.Own.alloc{e base:Nat}{v}(h:L.Own e w base v xs) o:L.Own e (w.alloc o) base v xs:=World.ownsRow.alloc h o
theorem Lay.Own.made{e base:Nat}(w:World) xs(hb:base<=w.heap.size)(hl:xs.length<=1000000):L.Own e (w.alloc (.cells (L.flat xs).toArray e)) base (.slice (some ⟨w.heap.size,0,none⟩) xs.length xs.length) xs:=⟨L.flat_length xs,.inr ⟨w.heap.size,xs.length,_,rfl,hb,heap_alloc_new w _,A1 _,by unfold maxLen;omega,by simp[L.flat_length],by rw[<-L.flat_length xs];simp⟩⟩
theorem Lay.Own.made_at{e base:Nat}(w:World) xs{g m}(f:w.heap.size=g)(hm:xs.length=m)(c:base<=w.heap.size)(h:xs.length<=1000000):L.Own e (w.alloc (.cells (L.flat xs).toArray e)) base (.slice (some ⟨g,0,none⟩) m m) xs:=by subst f hm;exact Lay.Own.made w xs c h
structure fU (P:Program) (L:Lay α) (t e:TypeId) (z:Value) (bytes:Nat):Prop where
 und:P.underlying t=some (.slice e)
 info:(P.info? e).map (λi=>(i.zero,i.size,i.bytes))=some (some z,L.sz,bytes)
 zs:z.cells.size=L.sz
 by_:bytes<=100
variable {P:Program} {t e:TypeId} {z:Value} {bytes:Nat}
theorem zS(T:fU P L t e z bytes){ops rest}{o:Oper}{a:Act}{Q}(D:o.guard=none) s x (H:o.op= .call {callee:=.builtin .append,args:=#[s,x],argTypes:=#[t,t]}){base v ps qs g m c} (hs:a.eval s=v)(n:L.Own e w base v ps)(K:a.eval x= .slice (some g) m c)(hm:qs.length=m)(G:∀j u,(L.flat qs)[j]? =some u->w.cell? (g.add j)=some u) (F:ps.length+m<=1000000)(l:base<=w.heap.size) (h:∀f w',L.Own e w' base f (ps++qs)->Below base w w'->wpList P ops Q rest (a.put o.dst f) w'):wpList P ops Q (o::rest) a w:=by obtain⟨S,E,N,O,R⟩:=info_parts T.info;subst hm;have r:=T.by_;have A:(ps.length+qs.length)*bytes<=140737488355328:=by{have:=Nat.mul_le_mul F r;omega};refine wpList_append_own w D s x t H base e S _ L.sz bytes T.und E N O R T.zs L.pos v ps.length (L.flat ps) hs n g qs.length c (L.flat qs) K (L.flat_length qs) G (L.flat_one qs) (by unfold maxLen;omega) A l ?_;intro f w' J B _;refine h f w' ?_ ((A4 _ _).grown B l λk hk=>(n.lt k hk).1);unfold Lay.Own;rw[L.flat_append,Aq];exact J
theorem zT(w:World) qs t:∀j u,(L.flat qs)[j]? =some u->(w.alloc (.cells (L.flat qs).toArray t)).cell? ((⟨w.heap.size,0,none⟩:Addr).add j)=some u:=λj u hj=>by rw[jl,Ap,AC];simpa using hj
def vw(T:fU P L t e z bytes){ops:Array Oper}{rest:List Oper}{o:Oper}{a:Act}{Q:Exit->Act->World->Prop}(qs:List α)(hgd:o.guard=none)(s x:Operand) (ho:o.op= .call {callee:=.builtin .append,args:=#[s,x],argTypes:=#[t,t]}){base:Nat}{v:Value}{ps:List α}{m c:Nat} (hs:a.eval s=v)(hown:L.Own e w base v ps)(hx:a.eval x= .slice (some ⟨w.heap.size,0,none⟩) m c)(hm:qs.length=m) (hl:ps.length+m<=1000000)(hbase:base<=w.heap.size) (h:∀v' w',L.Own e w' base v' (ps++qs)->Below base w w'->wpList P ops Q rest (a.put o.dst v') w'):=zS T hgd s x ho hs (hown.alloc _) hx hm (zT w qs e) hl (by simp;omega) λv' w' h1 h2=>h v' w' h1 (((A4 _ _).alloc hbase _).trans h2)
def sk(T:fU P L t e z bytes){ops:Array Oper}{rest:List Oper}{o:Oper}{a:Act}{Q:Exit->Act->World->Prop}(qs:List α)(hgd:o.guard=none)(s x:Operand) (ho:o.op= .call {callee:=.builtin .append,args:=#[s,x],argTypes:=#[t,t]}){base g:Nat}{v:Value}{ps:List α}{m c:Nat} (hs:a.eval s=v)(hown:L.Own e w base v ps)(hx:a.eval x= .slice (some ⟨g,0,none⟩) m c)(hg:g=w.heap.size)(hm:qs.length=m) (hl:ps.length+m<=1000000)(hbase:base<=w.heap.size) (h:∀v' w',L.Own e w' base v' (ps++qs)->Below base w w'->wpList P ops Q rest (a.put o.dst v') w'):=vw T qs hgd s x ho hs hown (by rw[hx,hg]) hm hl hbase h
theorem sq(T:fU P L t e z bytes){ops rest}{o:Oper}{a:Act}{Q}(n:o.guard=none) s x (D:o.op= .call {callee:=.builtin .append,args:=#[s,x],argTypes:=#[t,t]}){base v ps qs A m c} (hs:a.eval s=v)(g:L.Own e w base v ps)(E:a.eval x= .slice A m c)(H:A=none->c=0)(hm:qs.length=m)(l:L.At d w A qs) (K:ps.length+m<=1000000)(J:base<=w.heap.size) (h:∀F w',L.Own e w' base F (ps++qs)->Below base w w'->wpList P ops Q rest (a.put o.dst F) w'):wpList P ops Q (o::rest) a w:=by cases A with|none=>(have O:qs=[]:=by{cases qs with|nil=>rfl|cons q qs=>obtain⟨b,o,e,_⟩:=l 0 (by simp);cases e};subst O;obtain rfl:=H rfl;simp at hm;subst hm;obtain⟨R,f,hz0,hz1,hz2⟩:=info_parts T.info;refine wpList_append_own_none n s x t D base e R L.sz T.und f v ps.length (L.flat ps) hs g E (h v w ?_ (A4 _ _));rw[List.append_nil];exact g)|some ad=>refine zS T n s x D hs g E hm (λj u r=> ?_) K J h;have B:=(List.getElem?_eq_some_iff.1 r).1;rw[L.flat_length] at B;have N:=L.pos;have f:j/L.sz<qs.length:=Nat.div_lt_of_lt_mul (by rw[Nat.mul_comm];exact B);obtain⟨b,o,e,_,G⟩:=l (j/L.sz) f;injection e with e;subst e;have hm:=Av j N;have k:j/L.sz*L.sz+j%L.sz=j:=by{rw[Nat.mul_comm];exact Nat.div_add_mod j L.sz};have:=G (j%L.sz) hm;rw[Nat.add_assoc,k,<-L.flat_at d qs _ _ f hm,k] at this;rw[jl,this,r]
end
theorem Lay.At.int{k w a xs}(h:(Lay.int k).At 0 w a xs){i}(g:i<xs.length):∃b o,a=some ⟨b,o,none⟩/\b<w.heap.size/\w.cell? ⟨b,o+i,none⟩=some (.int k (xs.getD i 0)):=by obtain⟨b,o,e,c,f⟩:=h i g;have:=f 0 (Lay.int k).pos;simp only[Lay.int,Nat.mul_one,Nat.add_zero] at this;exact⟨b,o,e,c,by simpa using this⟩
theorem Lay.At.sl{w a xs}(h:Lay.sl.At (none,0,0) w a xs){i}(g:i<xs.length):∃b o,a=some ⟨b,o,none⟩/\b<w.heap.size/\w.cell? ⟨b,o+i,none⟩=some (.slice (xs.getD i (none,0,0)).1 (xs.getD i (none,0,0)).2.1 (xs.getD i (none,0,0)).2.2):=by obtain⟨b,o,e,c,f⟩:=h i g;have:=f 0 (by decide);simp only[Lay.sl,Nat.mul_one,Nat.add_zero] at this;exact⟨b,o,e,c,by simpa using this⟩
theorem Tryz.elemI:fU Tryz.prog (Lay.int .i64) 23 3 (.int .i64 0) 8:=⟨Tryz.underlying23,by kernel_rfl,rfl,by decide⟩
namespace Cr
open Go Go.RowKit
open Go.ChangeMaps (setBlock)
theorem Ih{e es r}(h:pE (e::es)=some r):∃(op num:Nat) (a:Option Addr×Nat×Nat) (rs:List Value),e.2= .agg ⟨[.int .u8 (.ofNat op),.int .u64 (.ofNat num),.slice a.1 a.2.1 a.2.2]⟩/\pE es=some rs/\((op=1/\num<=9223372036854775807/\r= .int .i64 (.ofNat num)::rs)\/(op≠1/\r=rs)):=by unfold pE at h;split at h;{rename_i op num a1 a2 c f;split at h;{cases h};rename_i rs g;refine⟨op,num,(a1,a2,c),rs,f,g,?_⟩;cases hb:Nat.beq op 1 with|false=>rw[hb] at h;simp only[cond_false,A3] at h;exact .inr ⟨λe=>(by rw[e] at hb;cases hb),h.symm⟩|true=>rw[hb,cond_true] at h;cases hl:Nat.ble num 9223372036854775807 with|false=>rw[hl] at h;cases h|true=>rw[hl] at h;simp only[cond_true,A3] at h;exact .inl ⟨Ab hb,As hl,h.symm⟩};cases h
def zU(es:List (Value×Value))(j op num:Nat):=∃(k:Value) (a:Option Addr×Nat×Nat),es[j]? =some (k,.agg ⟨[.int .u8 (.ofNat op),.int .u64 (.ofNat num),.slice a.1 a.2.1 a.2.2]⟩)
theorem zV:∀{es} {vs},pE es=some vs->∃f,(∀j,j<es.length->∃op num,zU es j op num/\((op=1/\num<=9223372036854775807/\f j=some num)\/(op≠1/\f j=none)))/\vs=((List.range es.length).filterMap f).map λn=>Value.int .i64 (.ofNat n)|[],vs,h=>⟨λ _=>none,λj hj=>by simp at hj,by have h':some []=some vs:=h;injection h' with h';exact h'.symm⟩|e::es,vs,h=>by obtain⟨op,num,a,rs,h1,h2,h3⟩:=Ih h;obtain⟨f,hf,hrs⟩:=zV h2;rcases h3 with⟨h3,h5,h4⟩|⟨h3,h4⟩;{refine⟨λj=>match j with|0=>some num|j+1=>f j,λj hj=> ?_,?_⟩;{cases j with|zero=>exact⟨op,num,⟨e.1,a,by rw[<-h1];rfl⟩,.inl ⟨h3,h5,rfl⟩⟩|succ j=>obtain⟨op',nm,⟨k,b,g⟩,g2⟩:=hf j (by simpa using hj);exact⟨op',nm,⟨k,b,by simpa using g⟩,g2⟩};rw[h4,hrs];simp[List.range_succ_eq_map,List.filterMap_map,Function.comp_def]};refine⟨λj=>match j with|0=>none|j+1=>f j,λj hj=> ?_,?_⟩;{cases j with|zero=>exact⟨op,num,⟨e.1,a,by rw[<-h1];rfl⟩,.inr ⟨h3,rfl⟩⟩|succ j=>obtain⟨op',nm,⟨k,b,g⟩,g2⟩:=hf j (by simpa using hj);exact⟨op',nm,⟨k,b,by simpa using g⟩,g2⟩};rw[h4,hrs];simp[List.range_succ_eq_map,List.filterMap_map,Function.comp_def]
theorem Ii{w base n v L}(h:(Lay.int .i64).Own 3 w base v L)(F:L.length=n)(h0:0<n):∃g cap cur,v= .slice (some ⟨g,0,none⟩) n cap/\base<=g/\w.heap[g]? =some (.cells cur 3 (0,0))/\n<=cap/\cap<=maxLen/\cur.size=cap/\∀k,k<n->cur[k]? =(L.map (Value.int .i64))[k]? :=by have E:∀l:List Int,(Lay.int .i64).flat l=l.map (Value.int .i64):=λl=>by{induction l with|nil=>rfl|cons x l ih=>simp only[Lay.flat,List.flatMap_cons,List.map_cons] at ih⊢;rw[ih];rfl};obtain⟨_,h|⟨g,cap,cur,f,j,r,A,B,D,c⟩⟩:=h;{omega};subst F;refine⟨g,cap,cur,f,j,r,A,B,by simpa[Lay.int] using D,λk hk=> ?_⟩;rw[E] at c;have e:L.length*(Lay.int .i64).sz=L.length:=by{simp[Lay.int]};rw[e] at c;rw[<-c,List.getElem?_take_of_lt hk];simp
structure gE (f:Nat->Option Nat) (len:Nat) (seen:Array Nat) (L:List Int):Prop where
 nodup:seen.toList.Nodup
 lt:∀b∈seen.toList,b<len
 list:L=(seen.toList.filterMap f).map λ(n:Nat)=>(n:Int)
theorem gE.nil f len:gE f len #[] []:=⟨by simp,by simp,by simp⟩
theorem gE.skip{f len seen L}(h:gE f len seen L){b}(hb:b<len)(hn:seen.contains b=false)(hf:f b=none):gE f len (seen.push b) L:=⟨by simpa[List.nodup_append,h.nodup] using λa ha=>by rintro rfl;simp[Array.contains_eq_mem] at hn;exact hn (by simpa using ha),by simp;intro x hx;rcases hx with hx|rfl;exact h.lt x (by simpa using hx);exact hb,by simp[List.filterMap_append,hf,<-h.list]⟩
theorem gE.take{f len seen L}(h:gE f len seen L){b n}(hb:b<len)(hn:seen.contains b=false)(hf:f b=some n):gE f len (seen.push b) (L++[(n:Int)]):=⟨by simpa[List.nodup_append,h.nodup] using λa ha=>by rintro rfl;simp[Array.contains_eq_mem] at hn;exact hn (by simpa using ha),by simp;intro x hx;rcases hx with hx|rfl;exact h.lt x (by simpa using hx);exact hb,by simp[List.filterMap_append,hf,<-h.list]⟩
theorem gE.perm{f len g L}(h:gE f len g L)(j:∀b,b<len->g.contains b=true):L.Perm (((List.range len).filterMap f).map λ(n:Nat)=>(n:Int)):=by rw[h.list];refine List.Perm.map _ (List.Perm.filterMap _ ?_);refine(List.perm_ext_iff_of_nodup h.nodup List.nodup_range).2 λb=>⟨λc=>List.mem_range.2 (h.lt b c),λc=> ?_⟩;have:=j b (List.mem_range.1 c);simpa[Array.contains_eq_mem] using this
theorem gE.length{f len g L}(h:gE f len g L):L.length<=((List.range len).filterMap f).length:=by have k:(g.toList++(List.range len).filter λb=> !g.toList.contains b).Perm (List.range len):=by{refine(List.perm_ext_iff_of_nodup ?_ List.nodup_range).2 λb=> ?_;{refine List.nodup_append.2 ⟨h.nodup,List.nodup_range.filter _,λa j b c=> ?_⟩;rintro rfl;simp at c;exact c.2 (by simpa using j)};simp only[A6,List.mem_filter,List.mem_range];constructor;{rintro(c|c);{exact h.lt b c};exact c.1};intro c;by_cases hc:b∈g.toList;{exact .inl hc};exact .inr ⟨c,by simpa using hc⟩};have:=(k.filterMap f).length_eq;rw[List.filterMap_append,Aq] at this;rw[h.list,An];omega
theorem Ij{es ents D}(l:Bn ents D){μ}(r:LR μ (es.map (·.1)) (ents.toList.map (·.key)))(F:LR μ (es.map (·.2)) (ents.toList.map (·.val))){e}(H:e∈ents.toList):e.born<es.length/\∀op num,zU es e.born op num->∃B n c,e.val= .agg ⟨[.int .u8 (.ofNat op),.int .u64 (.ofNat num),.slice B n c]⟩:=by obtain⟨j,K,rfl⟩:=List.getElem_of_mem H;have A:j<ents.size:=by{simpa using K};have G:=l.born j _ (AF A);have hlen:=(l.size r).2;have E:ents.toList[j]=ents[j]:=by{simp};rw[E,G];refine⟨by omega,λop num O=> ?_⟩;obtain⟨k,a,hk⟩:=O;obtain⟨e',g,g2,g3,h⟩:=zw l r F hk;rw[AF A] at g;injection g with g;subst g;revert h;generalize ents[j].val=v';intro h;cases h with|agg c c' N J=>have f:LR μ [.int .u8 (.ofNat op),.int .u64 (.ofNat num),.slice a.1 a.2.1 a.2.2] c':=⟨N,J⟩;obtain⟨v1,r1,rfl,Q,f⟩:=f.cons_inv;obtain⟨v2,r2,rfl,R,f⟩:=f.cons_inv;obtain⟨v3,r3,rfl,S,f⟩:=f.cons_inv;obtain rfl:=f.nil_inv;cases Q;cases R;obtain⟨a1,a2,a3⟩:=a;cases S<;>exact⟨_,_,_,rfl⟩
theorem Ik{μ r v}(h:VR μ (.tuple ⟨[.map (some r),.int .i64 (.ofNat 0)]⟩) v):∃b,v= .tuple #[.map (some b),.int .i64 0]/\μ r=some (b,0):=by cases h with|tuple c c' j g=>have f:LR μ [.map (some r),.int .i64 (.ofNat 0)] c':=⟨j,g⟩;obtain⟨v1,r1,rfl,k,f⟩:=f.cons_inv;obtain⟨v2,r2,rfl,l,f⟩:=f.cons_inv;obtain rfl:=f.nil_inv;cases k with|map _ b hm=>cases l;exact⟨b,rfl,hm⟩
structure Il (R:Nat) (w1:World) (bm clock:Nat) (f:Nat->Option Nat) (len:Nat) (v:Value) (wr:World):Prop where
 it:∃seen last L,wr.heap[R]? =some (.mapIter (some bm) clock seen last)/\clock<=last/\(Lay.int .i64).Own 3 wr (R+1) v L/\gE f len seen L/\(L=[]->v= .slice none 0 0)
 below:Below R w1 wr
 size:R<wr.heap.size
def iT(ents:Array MapEntry)(r:Nat)(wr:World):Nat:=match wr.heap[r]? with|some (.mapIter _ _ seen _)=>(leftOf ents seen).size|_=>0
theorem jm{ents R m c l f wr}(h:wr.heap[R]? =some (.mapIter (some m) c f l)):iT ents R wr=(leftOf ents f).size:=by unfold iT;rw[h]
set_option maxHeartbeats 4000000 in
set_option maxRecDepth 100000 in
theorem Im{G B w0 call}(az:∀B w0,gA Tryz.prog G B w0 call){args H H' v}(A:rY call 45 46 args H= .ok v H')
  {μ w aH}(ax:LR μ args aH)(hr:HR G B w0 H μ w):
  Calls Tryz.prog 24 ⟨aH⟩ w λe w'=>∃v' μ',e= .returned v'/\VR μ' v v'/\Nx G B w0 H μ H' μ' w':=by
 unfold rY at A
 split at A
 ·rename_i x y;obtain⟨x',r1,rfl,hx,aS⟩:=ax.cons_inv;obtain⟨y',r2,rfl,hy,aT⟩:=aS.cons_inv;obtain rfl:=aT.nil_inv;clear aS aT
  split at A
  ·rename_i r F aX
   split at A
   ·rename_i es bq
    split at A
    ·rename_i vs a5;obtain⟨f,aW,a6⟩:=zV a5;have HC:=Z (rV (az _ _) aX ax hr);have br:((List.range es.length).filterMap f).length<1000:=by
      have:=Rw A;rwa[a6,An] at this
     have HS:=Z A;clear aX A a5 ax hr hx hy;go_enter Tryz.func24,Tryz.ntmps24
     go_wp2_with fail
     refine HC.o.mono ?_;rintro e w1 ⟨v1,μ1,rfl,a4,aF⟩;obtain⟨E,rfl,hm⟩:=Ik a4;have af:=aF.hr;obtain⟨_,bf,h,j,qm,q1,q2,q3,q4⟩:=af.blk r _ bq E 0 hm;obtain rfl:es=bf:=Eq.symm qm;obtain⟨hB,N⟩:=q2 rfl;clear HC a4 q2 qm
     go_wp2_with(at_range;refine zx rfl _ _ rfl Tryz.underlying109 rfl q1 ?_)
     have aG:=Z q1;have HN:=Z (λe O=>Ij (e:=e) N q3 q4 O);have a9:∀x∈h.toList,x.born<j:=λx hx=>by have:=(HN.o x hx).1;rw[(N.size q3).1];exact this
     have bh:=N.nodup;have hcl:=Z (N.size q3).1;have hsz:=(N.size q3).2;have HJ:Hid (∀b,b<es.length->∃e0∈h.toList,e0.born=b):=Z (λb hb=>by
      have bi:b<h.size:=by have:=N.size q3;omega
      exact⟨h[b],by simp,N.born b _ (AF bi)⟩)
     have aO:E<w1.heap.size:=(Al.1 q1).1;clear N q3 q4 q1;intro w2 aa;replace aa:=aa.o;generalize hR:w1.heap.size=R at*;have aK:w2.heap[R]? =some (.mapIter (some E) j #[] j):=by subst hR;rw[aa];exact heap_alloc_new w1 _
     have aI:Below R w1 w2:=by subst hR;rw[aa];exact(A4 _ _).alloc (A1 _) _
     have bA:w2.heap.size=R+1:=by rw[aa];simp[hR]
     clear aa
     go_wp2_with fail
     go_loopw [8] (λv wr=>Il R w1 E j f es.length v wr) (λ _ wr=>iT h R wr)
     case atStart=>exact⟨⟨#[],j,[],aK,A1 _,Lay.Own.nil w2 (R+1),gE.nil _ _,λ _=>rfl⟩,aI,by omega⟩
     case round=>
      obtain⟨⟨D,last,L,aB,bs,W,S,ar⟩,hbel,hszr⟩:=hrel;clear aK aI bA;have aN:wr.heap[E]? =some (.map h j):=(hbel.block E aO).trans aG.o
      go_wp2_with(at_next;refine zy rfl _ rfl (by rfl) aB aN a9 bs ?_ ?_)
      ·intro bn;have Y:=S.perm λb hb=>by
        obtain⟨e0,bo,bj⟩:=HJ.o b hb;have:=all_seen h D (by rw[bn.o];rfl) e0 bo;rwa[bj] at this
       have K:=HS.o;rw[a6] at K;clear HS
       match hvars:(List.range es.length).filterMap f with
       |[]=>
        rw[hvars] at K Y;have hL:L=[]:=by simpa using Y
        obtain rfl:=ar hL;obtain⟨v3,ah,rfl⟩:=Rv K;clear K;have a0:Nx G B w0 F μ1 F μ1 wr:=Nx.refl (af.beside (by rw[hR];exact hbel));have aj:=Z (rV (az _ _) ah (LR.cons (VR.sl0 _ _) (LR.nil _)) a0.hr);clear ah W
        go_wp2_with fail
        refine aj.o.mono ?_;rintro e w3 ⟨bE,μ3,rfl,bC,J⟩
        go_wp2_with fail
        go_ret2
        exact⟨_,μ3,rfl,VR.tuple_of (LR.cons (VR.sl0 _ _) (LR.cons (VR.int _ _) (LR.nil _))),(aF.trans a0).trans J⟩
       |U::nums=>
        rw[hvars] at K Y;rw[List.map_cons] at K;obtain⟨n,c,aA,ay,bu,aV,aL,rfl,rfl⟩:=F9 K;clear K;rw[An] at aA;have aw:L.length=n:=by
         have:=Y.length_eq;rw[An,Af] at this;omega
        have hp:(L.map (Value.int .i64)).Perm (.int .i64 (.ofNat U)::nums.map λn=>Value.int .i64 (.ofNat n)):=by
         have:=Y.map (Value.int .i64);rw[List.map_map] at this;exact this
        obtain⟨v3,H3,x,ah,a7,aZ⟩:=aL _ hp;obtain⟨g,cap,cur,rfl,k1,k2,k3,k4,k5,k6⟩:=Ii W aw (by omega);have a8:(L.map (Value.int .i64)).all scalar=true:=AE.2 λv hv=>by
         obtain⟨y,_,rfl⟩:=Az.1 hv
         rfl
        have a3:=Rx (cap:=cap) af bu (by rw[hR];exact hbel) (by omega) k2 (by omega) (by rw[An];exact aw) a8 k6;have aC:VR (μ1.bind F.next (g,0) cap) (.slice (some ⟨F.next,0,none⟩) n c) (.slice (some ⟨g,0,none⟩) n cap):=
         VR.sl F.next g 0 0 n c cap Mu.bind_same (.inr ⟨by omega,by rw[ay,RB aV];exact k3,by rw[Mu.tot_same,ay,RC aV];omega⟩)
        have aj:=Z (rV (az _ _) ah (LR.cons aC (LR.nil _)) a3);have HX:=Z a7;have bd:=Z aZ;have bc:=Z (show(ku (.int .i64 (.ofNat U)::nums.map λn=>Value.int .i64 (.ofNat n))).length=n by rw[Rz,Af,An];exact aA.symm);have ba:R<=g:=by omega
        have be:=Z aC;clear ah W a7 aZ hp aL a8 a3 aC k6 k2 k5 aA ay aw Y hvars S ar br aW
        go_wp2_with fail
        refine aj.o.mono ?_;rintro e w3 ⟨bE,μ3,rfl,bC,J⟩;have bb:=Z J;clear J aj
        go_wp2_with fail
        go_ret2
        have J:=bb.o;have bp:=J.ext.loc _ _ (Mu.bind_same (μ:=μ1) (i:=F.next) (p:=(g,0)) (T:=cap));have bB:=(J.ext.tot _ _ (Mu.bind_same (μ:=μ1) (i:=F.next) (p:=(g,0)) (T:=cap))).trans Mu.tot_same;have aM:=J.hr.blk F.next x HX.o g 0 bp;rw[bB] at aM;have ab:=(aM.post bd.o (A1 _)).1;have bD:=af.born (c:=g) (T:=cap) (by omega) J.hr.below (by rw[hR];exact ba) (ab.ints (B:=B) (μ:=μ1.bind F.next (g,0) cap) bc.o (RA _) af.base);exact⟨_,_,rfl,VR.tuple_of (LR.cons be.o (LR.cons (VR.int _ _) (LR.nil _))),aF.trans bD⟩
      intro e O w3 l aE ai;replace ai:=ai.o;replace O:e∈(leftOf h D).toList:=by simpa using O
      obtain⟨aP,aQ⟩:=mem_left O;have V:wr.grownBy w3 none:=by
       rcases aE with rfl|rfl
       ·exact World.grownBy.refl _ _
       exact⟨rfl,rfl,rfl,A1 _,λ _ _ _=>rfl⟩
      have bg:w3.heap.size=wr.heap.size:=by rcases aE with rfl|rfl<;>rfl
      have ao:wr.grownBy l (some R):=by
       rw[ai];refine⟨V.os,V.tape,V.output,by simpa[setBlock] using V.size,λk hk bw=> ?_⟩;show(w3.heap.setIfInBounds R _)[k]? =_;rw[AK (by intro e;exact bw (by rw[e]))];exact V.block k hk (by simp)
      have Q:l.heap[R]? =some (.mapIter (some E) j (D.push e.born) j):=by
       rw[ai];show(w3.heap.setIfInBounds R _)[R]? =_;rw[Array.getElem?_setIfInBounds_self_of_lt (by omega)]
      have ab:Below R w1 l:=hbel.grown ao (by omega) (λk hk=>by injection hk with hk;omega);have bk:l.heap[E]? =some (.map h j):=(ab.block E aO).trans aG.o;have aR:=run_entry_at (P:=Tryz.prog) l R E j D h j e Q bk aP bh;have av:R<l.heap.size:=by have:=ao.size;omega
      have aY:(Lay.int .i64).Own 3 l (R+1) u8 L:=World.ownsRow.kept (row:=some R) W ao (by
       cases hk:u8.ownBlock with
       |none=>exact .inl rfl
       |some k=>exact .inr (λe=>by injection e with e;have:=(World.ownsRow.lt W k hk).1;omega))
      have aU:=left_shrinks h D e O;have aJ:iT h R wr=(leftOf h D).size:=by unfold iT;rw[aB]
      obtain⟨ae,au⟩:=HN.o e aP;have am:D.contains e.born=false:=aQ;obtain⟨op,U,aq,bl⟩:=aW e.born ae;clear ai aE W aB aN O HJ V bg ao aQ;have hLl:=S.length;rcases bl with⟨rfl,hnle,hf⟩|⟨bx,hf⟩
      ·obtain⟨ad,an,ac,ha⟩:=au 1 U aq;have aD:=S.take ae am hf;rw[ha] at aR⊢;clear ha au aq hf am ae S ar;have bv:iT h R l=(leftOf h (D.push e.born)).size:=jm Q;generalize D.push e.born=sn at*;generalize e.key=ky at*
       go_wp2_with(at_builtin;refine sk Tryz.elemI [(U:Int)] rfl _ _ rfl rfl (aY.alloc _) rfl (by simp) rfl (by simp;omega) (by simp;omega) ?_)
       intro v5 w5 bz al
       go_wp2_with fail
       go_roundw
       case rel=>
        refine⟨⟨sn,j,L++[(U:Int)],((al.block R (by omega)).trans (Ax l _ R av)).trans Q,A1 _,bz,aD,by simp⟩,(ab.alloc (by omega) _).trans (al.mono (by omega)),by have:=al.size;simp at this;omega⟩
       case measure=>
        rw[jm (((al.block R (by omega)).trans (Ax l _ R av)).trans Q),aJ];exact aU
      obtain⟨ad,an,ac,ha⟩:=au op U aq;have hop':(((op:Nat):Int)==1)=false:=by simp;omega
      have aD:=S.skip ae am hf;rw[ha] at aR⊢;clear ha au aq hf am ae S bx;have bv:iT h R l=(leftOf h (D.push e.born)).size:=jm Q;generalize D.push e.born=sn at*;generalize e.key=ky at*
      go_wp2_with fail
      go_roundw
      case rel=>exact⟨⟨sn,j,L,(Ax l _ R av).trans Q,A1 _,aY.alloc _,aD,ar⟩,ab.alloc (by omega) _,by simp;omega⟩
      case measure=>
       rw[jm ((Ax l _ R av).trans Q),aJ];exact aU
    cases A
   cases A
  cases A
 cases A
end Cr
