/- The machine's contract for support.Vars is right: a walk. -/
import Derived.Test.YtgdpkkjfcdhmdaaGreatDoorProg
import Derived.Test.YtgdpkkjfcdhmdaaGreatDoorR2
import Derived.BigQuiet
import Derived.Maps.AppendAt
import Derived.Laws.AppendOwnNone
namespace Go.Proofs.YtgdpkkjfcdhmdaaGreatDoor
open Go.RowKit
theorem kK(g o j:Nat):(⟨g,o,none⟩:Addr).add j=⟨g,o+j,none⟩:=by unfold Addr.add;split;{simp_all};rfl
structure Lay (α:Type) where
 sz:Nat
 f:α->List Value
 len:∀x,(f x).length=sz
 one:∀x,∀u∈f x,u.oneCell'=true
 pos:0<sz
def Lay.int(k:IntKind):Lay Int:=⟨1,λ n=>[.int k n],λ _=>rfl,λ x u hu=>by simp at hu;subst hu;rfl,by decide⟩
def Lay.ev:Lay (Int×Int):=⟨2,λ p=>[.int .i64 p.1,.int .u64 p.2],λ _=>rfl,λ x u hu=>by simp at hu;rcases hu with rfl|rfl<;>rfl,by decide⟩
section
variable {α:Type} (L:Lay α)
def Lay.flat(xs:List α):List Value:=xs.flatMap L.f
theorem Lay.flat_append(a b:List α):L.flat (a++b)=L.flat a++L.flat b:=by simp[Lay.flat]
theorem Lay.flat_length(xs:List α):(L.flat xs).length=xs.length*L.sz:=by induction xs with|nil=>simp[Lay.flat]|cons p ps ih=>simp only[Lay.flat,List.flatMap_cons,Av,AQ,L.len] at ih⊢;rw[ih,Nat.add_mul];omega
theorem Lay.flat_one(xs:List α):∀u∈L.flat xs,u.oneCell'=true:=λ u hu=>by simp only[Lay.flat,List.mem_flatMap] at hu;obtain⟨p,_,hu⟩:=hu;exact L.one p u hu
theorem Lay.flat_at(d:α):∀(xs:List α) (i j:Nat),i<xs.length->j<L.sz->(L.flat xs)[i*L.sz+j]? =(L.f (xs.getD i d))[j]?|[],i,j,h,_=>by simp at h|p::ps,0,j,_,hj=>by simp only[Lay.flat,List.flatMap_cons,Nat.zero_mul,AJ,List.getD_cons_zero];rw[Bc (by rw[L.len];exact hj)]|p::ps,i+1,j,h,hj=>by have:=Lay.flat_at d ps i j (by simpa using h) hj;simp only[Lay.flat,List.flatMap_cons,List.getD_cons_succ] at this⊢;rw[Bi (by rw[L.len,Nat.add_mul];omega),L.len,<-this];congr 1;rw[Nat.add_mul];omega
def Lay.At(d:α)(w:World)(a:Option Addr)(xs:List α):Prop:=∀i,i<xs.length->∃b o,a=some ⟨b,o,none⟩/\b<w.heap.size/\∀j,j<L.sz->w.cell? ⟨b,o+i*L.sz+j,none⟩=(L.f (xs.getD i d))[j]?
variable {L} {d:α} {w w':World} {a:Option Addr} {xs:List α}
theorem Lay.At.nil:L.At d w a []:=λ i hi=>by simp at hi
theorem Lay.At.below(h:L.At d w a xs)(hb:Below w.heap.size w w'):L.At d w' a xs:=λ i hi=>by obtain⟨b,o,e,h0,h1⟩:=h i hi;exact⟨b,o,e,A9 h0 hb.size,λ j hj=>(hb.cell (p:=⟨b,_,none⟩) h0).trans (h1 j hj)⟩
theorem Lay.At.made(w:World)(xs:List α)(t:TypeId):L.At d (w.alloc (.cells (L.flat xs).toArray t)) (some ⟨w.heap.size,0,none⟩) xs:=λ i hi=>⟨_,_,rfl,by simp,λ j hj=>by rw[Ah,<-L.flat_at d xs i j hi hj];simp⟩
def Lay.Own(L:Lay α)(e:TypeId)(w:World)(base:Nat)(v:Value)(xs:List α):Prop:=w.ownsRow base e L.sz v xs.length (L.flat xs)
theorem Lay.Own.nil{e:TypeId}(w:World)(base:Nat):L.Own e w base (.slice none 0 0) []:=World.ownsRow_nil w base e L.sz
theorem Lay.Own.at_{e base:Nat}{v:Value}(h:L.Own e w base v xs):∃a cap,v= .slice a xs.length cap/\L.At d w a xs/\xs.length<=cap/\cap<=maxLen:=by obtain⟨hl,h|⟨g,cap,k,rfl,hg,c,A,x,hs,B⟩⟩:=h;{refine⟨none,0,by rw[h.1,h.2],?_,by omega,by decide⟩;have:xs=[]:=List.eq_nil_of_length_eq_zero h.2;subst this;exact Lay.At.nil};refine⟨_,cap,rfl,?_,A,x⟩;intro i f;have q:g<w.heap.size:=(AS.1 c).1;have n:∀j,j<xs.length*L.sz->w.cell? ⟨g,0+j,none⟩=(L.flat xs)[j]? :=λ j b=>by{have:w.cell? ⟨g,0+j,none⟩=k[j]? :=by{simp[World.cell?,c]};rw[this,<-B,List.getElem?_take_of_lt b];simp};refine⟨g,0,rfl,q,λ j b=> ?_⟩;have r:i*L.sz+j<xs.length*L.sz:=by{have:(i+1)*L.sz<=xs.length*L.sz:=Nat.mul_le_mul_right _ f;rw[Nat.add_mul] at this;omega};rw[Nat.add_assoc,n _ r,L.flat_at d xs i j f b]
theorem Lay.Own.grown{e base:Nat}{v:Value}(h:L.Own e w base v xs)(b:Below w.heap.size w w'):L.Own e w' base v xs:=by refine World.ownsRow.kept (row:=none) h ⟨b.os,b.tape,b.output,b.size,λ k c _=>b.block k c⟩ ?_;cases hv:v.ownBlock<;>simp
theorem Lay.Own.alloc{e base:Nat}{v:Value}(h:L.Own e w base v xs)(o:Obj):L.Own e (w.alloc o) base v xs:=World.ownsRow.alloc h o
theorem Lay.Own.made{e base:Nat}(w:World)(xs:List α)(hb:base<=w.heap.size)(hl:xs.length<=1000000):L.Own e (w.alloc (.cells (L.flat xs).toArray e)) base (.slice (some ⟨w.heap.size,0,none⟩) xs.length xs.length) xs:=⟨L.flat_length xs,.inr ⟨w.heap.size,xs.length,_,rfl,hb,heap_alloc_new w _,A8 _,by unfold maxLen;omega,by simp[L.flat_length],by rw[<-L.flat_length xs];simp⟩⟩
structure jp (P:Program) (L:Lay α) (t e:TypeId) (z:Value) (bytes:Nat):Prop where
 und:P.underlying t=some (.slice e)
 info:(P.info? e).map (λ i=>(i.zero,i.size,i.bytes))=some (some z,L.sz,bytes)
 zs:z.cells.size=L.sz
 by_:bytes<=100
variable {P:Program} {t e:TypeId} {z:Value} {bytes:Nat}
theorem Eh(T:jp P L t e z bytes){ops:Array Oper}{rest:List Oper}{o:Oper}{a:Act}{Q:Exit->Act->World->Prop}(B:o.guard=none)(s x:Operand) (H:o.op= .call {callee:=.builtin .append,args:=#[s,x],argTypes:=#[t,t]}){base:Nat}{v:Value}{ps qs:List α}{f:Addr}{m c:Nat} (J:a.eval s=v)(n:L.Own e w base v ps)(K:a.eval x= .slice (some f) m c)(F:qs.length=m)(G:∀j u,(L.flat qs)[j]? =some u->w.cell? (f.add j)=some u) (E:ps.length+m<=1000000)(g:base<=w.heap.size) (h:∀b w',L.Own e w' base b (ps++qs)->Below base w w'->wpList P ops Q rest (a.put o.dst b) w'):wpList P ops Q (o::rest) a w:=by obtain⟨R,C,M,N,O⟩:=info_parts T.info;subst F;have q:=T.by_;have r:(ps.length+qs.length)*bytes<=140737488355328:=by{have:=Nat.mul_le_mul E q;omega};refine wpList_append_own w B s x t H base e R _ L.sz bytes T.und C M N O T.zs L.pos v ps.length (L.flat ps) J n f qs.length c (L.flat qs) K (L.flat_length qs) G (L.flat_one qs) (by unfold maxLen;omega) r g ?_;intro b w' I A _;refine h b w' ?_ ((A6 _ _).grown A g λ k D=>(n.lt k D).1);unfold Lay.Own;rw[L.flat_append,Av];exact I
theorem qg(w:World)(qs:List α)(t:TypeId):∀j u,(L.flat qs)[j]? =some u->(w.alloc (.cells (L.flat qs).toArray t)).cell? ((⟨w.heap.size,0,none⟩:Addr).add j)=some u:=λ j u hj=>by rw[kK,AJ,Ah];simpa using hj
theorem oD(T:jp P L t e z bytes){ops:Array Oper}{rest:List Oper}{o:Oper}{a:Act}{Q:Exit->Act->World->Prop}(qs:List α)(hgd:o.guard=none)(s x:Operand) (ho:o.op= .call {callee:=.builtin .append,args:=#[s,x],argTypes:=#[t,t]}){base:Nat}{v:Value}{ps:List α}{m c:Nat} (hs:a.eval s=v)(hown:L.Own e w base v ps)(hx:a.eval x= .slice (some ⟨w.heap.size,0,none⟩) m c)(hm:qs.length=m) (hl:ps.length+m<=1000000)(hbase:base<=w.heap.size) (h:∀v' w',L.Own e w' base v' (ps++qs)->Below base w w'->wpList P ops Q rest (a.put o.dst v') w'):wpList P ops Q (o::rest) a (w.alloc (.cells (L.flat qs).toArray e)):=Eh T hgd s x ho hs (hown.alloc _) hx hm (qg w qs e) hl (by simp;omega) λ v' w' h1 h2=>h v' w' h1 (((A6 _ _).alloc hbase _).trans h2)
theorem jF(T:jp P L t e z bytes){ops:Array Oper}{rest:List Oper}{o:Oper}{a:Act}{Q:Exit->Act->World->Prop}(qs:List α)(hgd:o.guard=none)(s x:Operand) (ho:o.op= .call {callee:=.builtin .append,args:=#[s,x],argTypes:=#[t,t]}){base g:Nat}{v:Value}{ps:List α}{m c:Nat} (hs:a.eval s=v)(hown:L.Own e w base v ps)(hx:a.eval x= .slice (some ⟨g,0,none⟩) m c)(hg:g=w.heap.size)(hm:qs.length=m) (hl:ps.length+m<=1000000)(hbase:base<=w.heap.size) (h:∀v' w',L.Own e w' base v' (ps++qs)->Below base w w'->wpList P ops Q rest (a.put o.dst v') w'):wpList P ops Q (o::rest) a (w.alloc (.cells (L.flat qs).toArray e)):=oD T qs hgd s x ho hs hown (by rw[hx,hg]) hm hl hbase h
theorem lY(T:jp P L t e z bytes){ops:Array Oper}{rest:List Oper}{o:Oper}{a:Act}{Q:Exit->Act->World->Prop}(B:o.guard=none)(s x:Operand) (E:o.op= .call {callee:=.builtin .append,args:=#[s,x],argTypes:=#[t,t]}){base:Nat}{v:Value}{ps qs:List α}{A:Option Addr}{m c:Nat} (F:a.eval s=v)(k:L.Own e w base v ps)(G:a.eval x= .slice A m c)(J:A=none->c=0)(f:qs.length=m)(r:L.At d w A qs) (M:ps.length+m<=1000000)(K:base<=w.heap.size) (h:∀H w',L.Own e w' base H (ps++qs)->Below base w w'->wpList P ops Q rest (a.put o.dst H) w'):wpList P ops Q (o::rest) a w:=by cases A with|none=>{have O:qs=[]:=by{cases qs with|nil=>rfl|cons q qs=>obtain⟨b,o,e,_⟩:=r 0 (by simp);cases e};subst O;obtain rfl:=J rfl;simp at f;subst f;obtain⟨R,g,hz0,hz1,hz2⟩:=info_parts T.info;refine wpList_append_own_none B s x t E base e R L.sz T.und g v ps.length (L.flat ps) F k G (h v w ?_ (A6 _ _));rw[List.append_nil];exact k}|some ad=>refine Eh T B s x E F k G f (λ j u C=> ?_) M K h;have D:=(List.getElem?_eq_some_iff.1 C).1;rw[L.flat_length] at D;have N:=L.pos;have g:j/L.sz<qs.length:=Nat.div_lt_of_lt_mul (by rw[Nat.mul_comm];exact D);obtain⟨b,o,e,_,I⟩:=r (j/L.sz) g;injection e with e;subst e;have f:=Ay j N;have n:j/L.sz*L.sz+j%L.sz=j:=by{rw[Nat.mul_comm];exact Nat.div_add_mod j L.sz};have:=I (j%L.sz) f;rw[Nat.add_assoc,n,<-L.flat_at d qs _ _ g f,n] at this;rw[kK,this,C]
end
theorem Lay.At.int{k:IntKind}{w:World}{a:Option Addr}{xs:List Int}(h:(Lay.int k).At 0 w a xs){i:Nat}(g:i<xs.length):∃b o,a=some ⟨b,o,none⟩/\b<w.heap.size/\w.cell? ⟨b,o+i,none⟩=some (.int k (xs.getD i 0)):=by obtain⟨b,o,e,c,f⟩:=h i g;have:=f 0 (Lay.int k).pos;simp only[Lay.int,Nat.mul_one,Nat.add_zero] at this;exact⟨b,o,e,c,by simpa using this⟩
theorem Lay.At.ev{w:World}{a:Option Addr}{xs:List (Int×Int)}(h:Lay.ev.At (0,0) w a xs){i:Nat}(k:i<xs.length):∃b o,a=some ⟨b,o,none⟩/\b<w.heap.size/\w.cell? ⟨b,o+i*2,none⟩=some (.int .i64 (xs.getD i (0,0)).1)/\w.cell? ⟨b,o+i*2+1,none⟩=some (.int .u64 (xs.getD i (0,0)).2):=by obtain⟨b,o,e,j,g⟩:=h i k;have c:=g 0 (by decide);have f:=g 1 (by decide);simp only[Lay.ev,Nat.add_zero] at c f;exact⟨b,o,e,j,by simpa using c,by simpa using f⟩
theorem Tryz.elemI:jp Tryz.prog (Lay.int .i64) 24 3 (.int .i64 0) 8:=⟨Tryz.underlying24,by kernel_rfl,rfl,by decide⟩
namespace Cr
open Go Go.RowKit
open Go.ChangeMaps (setBlock)
theorem M4{e:Value×Value}{es:List (Value×Value)}{r:List Value}(h:pQ (e::es)=some r):∃(b num:Nat) (a:Option Addr×Nat×Nat) (rs:List Value),e.2= .agg ⟨[.int .u8 (.ofNat b),.int .u64 (.ofNat num),.slice a.1 a.2.1 a.2.2]⟩/\pQ es=some rs/\((b=1/\num<=9223372036854775807/\r= .int .i64 (.ofNat num)::rs)\/(b≠1/\r=rs)):=by unfold pQ at h;split at h;{rename_i b num a1 a2 c f;split at h;{cases h};rename_i rs g;refine⟨b,num,(a1,a2,c),rs,f,g,?_⟩;cases hb:Nat.beq b 1 with|false=>rw[hb] at h;simp only[cond_false,A7] at h;exact .inr ⟨λ e=>(by rw[e] at hb;cases hb),h.symm⟩|true=>rw[hb,cond_true] at h;cases hl:Nat.ble num 9223372036854775807 with|false=>rw[hl] at h;cases h|true=>rw[hl] at h;simp only[cond_true,A7] at h;exact .inl ⟨Aj hb,AG hl,h.symm⟩};cases h
def Ei(es:List (Value×Value))(j op num:Nat):Prop:=∃(k:Value) (a:Option Addr×Nat×Nat),es[j]? =some (k,.agg ⟨[.int .u8 (.ofNat op),.int .u64 (.ofNat num),.slice a.1 a.2.1 a.2.2]⟩)
theorem Ej:∀{es:List (Value×Value)} {vs:List Value},pQ es=some vs->∃f:Nat->Option Nat,(∀j,j<es.length->∃op num,Ei es j op num/\((op=1/\num<=9223372036854775807/\f j=some num)\/(op≠1/\f j=none)))/\vs=((List.range es.length).filterMap f).map λ n=>Value.int .i64 (.ofNat n)|[],vs,h=>⟨λ _=>none,λ j hj=>by simp at hj,by have h':some []=some vs:=h;injection h' with h';exact h'.symm⟩|e::es,vs,h=>by obtain⟨op,num,a,rs,h1,h2,h3⟩:=M4 h;obtain⟨f,hf,hrs⟩:=Ej h2;rcases h3 with⟨h3,h5,h4⟩|⟨h3,h4⟩;{refine⟨λ j=>match j with|0=>some num|j+1=>f j,λ j hj=> ?_,?_⟩;{cases j with|zero=>exact⟨op,num,⟨e.1,a,by rw[<-h1];rfl⟩,.inl ⟨h3,h5,rfl⟩⟩|succ j=>obtain⟨op',nm,⟨k,b,g⟩,g2⟩:=hf j (by simpa using hj);exact⟨op',nm,⟨k,b,by simpa using g⟩,g2⟩};rw[h4,hrs];simp[List.range_succ_eq_map,List.filterMap_map,Function.comp_def]};refine⟨λ j=>match j with|0=>none|j+1=>f j,λ j hj=> ?_,?_⟩;{cases j with|zero=>exact⟨op,num,⟨e.1,a,by rw[<-h1];rfl⟩,.inr ⟨h3,rfl⟩⟩|succ j=>obtain⟨op',nm,⟨k,b,g⟩,g2⟩:=hf j (by simpa using hj);exact⟨op',nm,⟨k,b,by simpa using g⟩,g2⟩};rw[h4,hrs];simp[List.range_succ_eq_map,List.filterMap_map,Function.comp_def]
theorem M5{call:Nat->List Value->AH->Rs}{g:Nat}{f c:AH}{v:Value}(h:ou call g f []= .ok v c):∃b,call g [.slice none 0 0] f= .ok b c/\v= .tuple ⟨[.slice none 0 0,.int .i64 (.ofNat 0)]⟩:=by simp only[ou] at h;split at h;{rename_i b H3 j;simp only[Rs.ok.injEq] at h;exact⟨b,by rw[j,h.2],h.1.symm⟩};cases h
theorem M6{call:Nat->List Value->AH->Rs}{g:Nat}{b f:AH}{n v:Value}(h:ou call g b [n]= .ok v f):b.next<900000000000/\∃c,call g [.slice (some ⟨b.next,0,none⟩) 1 36893488147419103233] (b.push (.cells true 1 1 [n] .nil))= .ok c f/\v= .tuple ⟨[.slice (some ⟨b.next,0,none⟩) 1 36893488147419103233,.int .i64 (.ofNat 0)]⟩:=by simp only[ou] at h;rw[ix] at h;cases hlt:Nat.blt b.next 900000000000 with|false=>rw[hlt] at h;cases h|true=>rw[hlt,cond_true,kv] at h;split at h;{rename_i c H3 j;simp only[Rs.ok.injEq] at h;exact⟨by simpa[Nat.blt_eq] using hlt,c,by rw[j,h.2],h.1.symm⟩};cases h
theorem M7{call:Nat->List Value->AH->Rs}{f:Nat}{c b:AH}{vs:List Value}{v:Value}(h:ou call f c vs= .ok v b):vs.length<=1:=by match vs with|[]=>simp|[_]=>simp|_::_::_=>simp only[ou] at h;cases h
structure jG (f:Nat->Option Nat) (len:Nat) (fF:Array Nat) (L:List Int):Prop where
 nodup:fF.toList.Nodup
 lt:∀b∈fF.toList,b<len
 list:L=(fF.toList.filterMap f).map λ(n:Nat)=>(n:Int)
theorem jG.nil(f:Nat->Option Nat)(len:Nat):jG f len #[] []:=⟨by simp,by simp,by simp⟩
theorem jG.skip{f:Nat->Option Nat}{len:Nat}{fF:Array Nat}{L:List Int}(h:jG f len fF L){b:Nat}(hb:b<len)(hn:fF.contains b=false)(hf:f b=none):jG f len (fF.push b) L:=⟨by simpa[List.nodup_append,h.nodup] using λ a ha=>by rintro rfl;simp[Array.contains_eq_mem] at hn;exact hn (by simpa using ha),by simp;intro x hx;rcases hx with hx|rfl;exact h.lt x (by simpa using hx);exact hb,by simp[List.filterMap_append,hf,<-h.list]⟩
theorem jG.take{f:Nat->Option Nat}{len:Nat}{fF:Array Nat}{L:List Int}(h:jG f len fF L){b n:Nat}(hb:b<len)(hn:fF.contains b=false)(hf:f b=some n):jG f len (fF.push b) (L++[(n:Int)]):=⟨by simpa[List.nodup_append,h.nodup] using λ a ha=>by rintro rfl;simp[Array.contains_eq_mem] at hn;exact hn (by simpa using ha),by simp;intro x hx;rcases hx with hx|rfl;exact h.lt x (by simpa using hx);exact hb,by simp[List.filterMap_append,hf,<-h.list]⟩
theorem jG.perm{f:Nat->Option Nat}{len:Nat}{fF:Array Nat}{L:List Int}(h:jG f len fF L)(g:∀b,b<len->fF.contains b=true):L.Perm (((List.range len).filterMap f).map λ(n:Nat)=>(n:Int)):=by rw[h.list];refine List.Perm.map _ (List.Perm.filterMap _ ?_);refine(List.perm_ext_iff_of_nodup h.nodup List.nodup_range).2 λ b=>⟨λ c=>List.mem_range.2 (h.lt b c),λ c=> ?_⟩;have:=g b (List.mem_range.1 c);simpa[Array.contains_eq_mem] using this
theorem jG.length{f:Nat->Option Nat}{len:Nat}{fF:Array Nat}{L:List Int}(h:jG f len fF L):L.length<=((List.range len).filterMap f).length:=by have j:(fF.toList++(List.range len).filter λ b=> !fF.toList.contains b).Perm (List.range len):=by{refine(List.perm_ext_iff_of_nodup ?_ List.nodup_range).2 λ b=> ?_;{refine List.nodup_append.2 ⟨h.nodup,List.nodup_range.filter _,λ a g b c=> ?_⟩;rintro rfl;simp at c;exact c.2 (by simpa using g)};simp only[Ar,List.mem_filter,List.mem_range];constructor;{rintro(c|c);{exact h.lt b c};exact c.1};intro c;by_cases hc:b∈fF.toList;{exact .inl hc};exact .inr ⟨c,by simpa using hc⟩};have:=(j.filterMap f).length_eq;rw[List.filterMap_append,Av] at this;rw[h.list,Ak];omega
theorem M8{es:List (Value×Value)}{ents:Array MapEntry}{B:Nat}(q:Bn ents B){μ:Mu}(r:LR μ (es.map (·.1)) (ents.toList.map (·.key)))(D:LR μ (es.map (·.2)) (ents.toList.map (·.val))){e:MapEntry}(F:e∈ents.toList):e.born<es.length/\∀g num,Ei es e.born g num->∃A n c,e.val= .agg ⟨[.int .u8 (.ofNat g),.int .u64 (.ofNat num),.slice A n c]⟩:=by obtain⟨j,H,rfl⟩:=List.getElem_of_mem F;have x:j<ents.size:=by{simpa using H};have E:=q.born j _ (B9 x);have hlen:=(q.size r).2;have C:ents.toList[j]=ents[j]:=by{simp};rw[C,E];refine⟨by omega,λ g num K=> ?_⟩;obtain⟨k,a,I⟩:=K;obtain⟨e',f,g2,g3,h⟩:=Dk q r D I;rw[B9 x] at f;injection f with f;subst f;revert h;generalize ents[j].val=v';intro h;cases h with|agg c c' J G=>have b:LR μ [.int .u8 (.ofNat g),.int .u64 (.ofNat num),.slice a.1 a.2.1 a.2.2] c':=⟨J,G⟩;obtain⟨v1,r1,rfl,M,b⟩:=b.cons_inv;obtain⟨v2,r2,rfl,N,b⟩:=b.cons_inv;obtain⟨v3,r3,rfl,O,b⟩:=b.cons_inv;obtain rfl:=b.nil_inv;cases M;cases N;obtain⟨a1,a2,a3⟩:=a;cases O<;>exact⟨_,_,_,rfl⟩
theorem M9{μ:Mu}{r:Nat}{v:Value}(h:VR μ (.tuple ⟨[.map (some r),.int .i64 (.ofNat 0)]⟩) v):∃b,v= .tuple #[.map (some b),.int .i64 0]/\μ r=some (b,0):=by cases h with|tuple c c' j g=>have f:LR μ [.map (some r),.int .i64 (.ofNat 0)] c':=⟨j,g⟩;obtain⟨v1,r1,rfl,n,f⟩:=f.cons_inv;obtain⟨v2,r2,rfl,q,f⟩:=f.cons_inv;obtain rfl:=f.nil_inv;cases n with|map _ b k=>cases q;exact⟨b,rfl,k⟩
structure Na (R:Nat) (w1:World) (bm clock:Nat) (f:Nat->Option Nat) (len:Nat) (v:Value) (wr:World):Prop where
 it:∃fF last L,wr.heap[R]? =some (.mapIter (some bm) clock fF last)/\clock<=last/\(Lay.int .i64).Own 3 wr (R+1) v L/\jG f len fF L/\(L=[]->v= .slice none 0 0)
 below:Below R w1 wr
 size:R<wr.heap.size
def lZ(ents:Array MapEntry)(r:Nat)(wr:World):Nat:=match wr.heap[r]? with|some (.mapIter _ _ fF _)=>(leftOf ents fF).size|_=>0
theorem leftIn_of {ents:Array MapEntry} {R m c l:Nat} {fF:Array Nat} {wr:World} (h:wr.heap[R]? =some (.mapIter (some m) c fF l)):lZ ents R wr=(leftOf ents fF).size:=by unfold lZ;rw[h]
set_option maxHeartbeats 4000000 in
set_option maxRecDepth 100000 in
theorem Nb{G B:Nat}{w0:World}{call:Nat->List Value->AH->Rs}(av:jP Tryz.prog G B w0 call){args:List Value}{H H':AH}{v:Value}(q:rE call 60 61 args H= .ok v H')
  {μ:Mu}{w:World}{aC:List Value}(ar:LR μ args aC)(hr:HR G B w0 H μ w):
  Calls Tryz.prog 24 ⟨aC⟩ w λ e w'=>∃v' μ',e= .returned v'/\VR μ' v v'/\Nx G B w0 H μ H' μ' w':=by
 unfold rE at q
 split at q
 ·rename_i x y;obtain⟨x',r1,rfl,hx,aL⟩:=ar.cons_inv;obtain⟨y',r2,rfl,hy,aM⟩:=aL.cons_inv;obtain rfl:=aM.nil_inv;clear aL aM
  split at q
  ·rename_i r V aP
   split at q
   ·rename_i es a8
    split at q
    ·rename_i vs aT;obtain⟨f,bd,ab⟩:=Ej aT;have HC:=Z (rF av aP ar hr);have aN:((List.range es.length).filterMap f).length<=1:=by
      have:=M7 q;rwa[ab,Ak] at this
     have HS:=Z q;clear aP q aT ar hr hx hy;go_enter Tryz.func24,Tryz.ntmps24
     go_wp2_with fail
     refine HC.o.mono ?_;rintro e S ⟨v1,μ1,rfl,aS,aA⟩;obtain⟨C,rfl,hm⟩:=M9 aS;have am:=aA.hr;obtain⟨_,aW,j,n,qm,q1,q2,q3,q4⟩:=am.blk r _ a8 C 0 hm;obtain rfl:es=aW:=Eq.symm qm;obtain⟨hB,F⟩:=q2 rfl;clear HC aS q2 qm
     go_wp2_with(at_range;refine Dl rfl _ _ rfl Tryz.underlying144 rfl q1 ?_)
     have aB:=Z q1;have HN:=Z (λ e J=>M8 (e:=e) F q3 q4 J);have aV:∀x∈j.toList,x.born<n:=λ x hx=>by have:=(HN.o x hx).1;rw[(F.size q3).1];exact this
     have aZ:=F.nodup;have hcl:=Z (F.size q3).1;have hsz:=(F.size q3).2;have HJ:Hid (∀b,b<es.length->∃e0∈j.toList,e0.born=b):=Z (λ b hb=>by
      have a0:b<j.size:=by have:=F.size q3;omega
      exact⟨j[b],by simp,F.born b _ (B9 a0)⟩)
     have aH:C<S.heap.size:=(AS.1 q1).1;clear F q3 q4 q1;intro w2 Q;replace Q:=Q.o;generalize hR:S.heap.size=R at*;have aF:w2.heap[R]? =some (.mapIter (some C) n #[] n):=by subst hR;rw[Q];exact heap_alloc_new S _
     have aD:Below R S w2:=by subst hR;rw[Q];exact(A6 _ _).alloc (A8 _) _
     have bg:w2.heap.size=R+1:=by rw[Q];simp[hR]
     clear Q
     go_wp2_with fail
     go_loopw [8] (λ v wr=>Na R S C n f es.length v wr) (λ _ wr=>lZ j R wr)
     case atStart=>exact⟨⟨#[],n,[],aF,A8 _,Lay.Own.nil w2 (R+1),jG.nil _ _,λ _=>rfl⟩,aD,by omega⟩
     case round=>
      obtain⟨⟨fF,last,L,ax,a9,N,O,aw⟩,hbel,hszr⟩:=hrel;clear aF aD bg;have aG:wr.heap[C]? =some (.map j n):=(hbel.block C aH).trans aB.o
      go_wp2_with(at_next;refine Dm rfl _ rfl (by rfl) ax aG aV a9 ?_ ?_)
      ·intro a6;have al:=O.perm λ b hb=>by
        obtain⟨e0,a7,a3⟩:=HJ.o b hb;have:=all_seen j fF (by rw[a6.o];rfl) e0 a7;rwa[a3] at this
       have I:=HS.o;rw[ab] at I;clear HS
       match hvars:(List.range es.length).filterMap f with
       |[]=>
        rw[hvars] at I al;have hL:L=[]:=by simpa using al
        obtain rfl:=aw hL;obtain⟨v3,aa,rfl⟩:=M5 I;clear I;have aR:Nx G B w0 V μ1 V μ1 wr:=Nx.refl (am.beside (by rw[hR];exact hbel));have aq:=Z (rF av aa (LR.cons (VR.sl0 _ _) (LR.nil _)) aR.hr);clear aa N
        go_wp2_with fail
        refine aq.o.mono ?_;rintro e U ⟨bi,μ3,rfl,bh,ap⟩
        go_wp2_with fail
        go_ret2
        exact⟨_,μ3,rfl,VR.tuple_of (LR.cons (VR.sl0 _ _) (LR.cons (VR.int _ _) (LR.nil _))),(aA.trans aR).trans ap⟩
       |[num]=>
        rw[hvars] at I al;have hL:L=[(num:Int)]:=by simpa using al
        subst hL;obtain⟨hlt',v3,aa,rfl⟩:=M6 I;clear I;obtain⟨g,A,D,rfl,k1,k2,k3,k4,k5,k6⟩:∃g A D,u8= .slice (some ⟨g,0,none⟩) 1 A/\R+1<=g/\wr.heap[g]? =some (.cells D 3 (0,0))/\1<=A/\A<=maxLen/\D.size=A/\D[0]? =some (.int .i64 num):=by
         obtain⟨_,h|⟨g,A,D,h1,h2,E,h4,h5,h6,h7⟩⟩:=N
         ·cases h.2
         refine⟨g,A,D,h1,h2,E,h4,h5,by simpa[Lay.int] using h6,?_⟩;have:(D.toList.take 1)[0]? =some (.int .i64 num):=by
          have aY:D.toList.take 1=[.int .i64 num]:=h7;rw[aY];rfl
         rw[List.getElem?_take_of_lt (by omega)] at this;simpa using this
        have aU:=am.born (x:=.cells true 1 1 [.int .i64 (.ofNat num)] .nil) (c:=g) (T:=A) (by omega) (w':=wr) (by rw[hR];exact hbel) (by omega)
         ⟨D,3,(0,0),k2,λ _=>⟨rfl,by have:=am.base;omega,by omega⟩,λ k K=>by
           obtain rfl:k=0:=by omega
           exact⟨_,k6,VR.int _ _⟩⟩
        have ab:VR (μ1.bind V.next (g,0) A) (.slice (some ⟨V.next,0,none⟩) 1 36893488147419103233) (.slice (some ⟨g,0,none⟩) 1 A):=
         VR.sl V.next g 0 0 1 _ A Mu.bind_same (.inr ⟨by decide,by rw[sI];exact k3,by rw[Mu.tot_same,sJ];simp⟩)
        have aq:=Z (rF av aa (LR.cons ab (LR.nil _)) aU.hr);clear aa N
        go_wp2_with fail
        refine aq.o.mono ?_;rintro e U ⟨bi,μ3,rfl,bh,ap⟩
        go_wp2_with fail
        go_ret2
        exact⟨_,μ3,rfl,VR.tuple_of (LR.cons (ab.ext ap.ext) (LR.cons (VR.int _ _) (LR.nil _))),(aA.trans aU).trans ap⟩
       |a::b::rest=>rw[hvars] at aN;simp at aN
      intro e J U w4 az ae;replace ae:=ae.o;replace J:e∈(leftOf j fF).toList:=by simpa using J
      obtain⟨aI,aJ⟩:=mem_left J;have E:wr.grownBy U none:=by
       rcases az with rfl|rfl
       ·exact World.grownBy.refl _ _
       exact⟨rfl,rfl,rfl,A8 _,λ _ _ _=>rfl⟩
      have aX:U.heap.size=wr.heap.size:=by rcases az with rfl|rfl<;>rfl
      have ai:wr.grownBy w4 (some R):=by
       rw[ae];refine⟨E.os,E.tape,E.output,by simpa[setBlock] using E.size,λ k K bb=> ?_⟩;show(U.heap.setIfInBounds R _)[k]? =_;rw[AZ (by intro e;exact bb (by rw[e]))];exact E.block k K (by simp)
      have M:w4.heap[R]? =some (.mapIter (some C) n (fF.push e.born) n):=by
       rw[ae];show(U.heap.setIfInBounds R _)[R]? =_;rw[Array.getElem?_setIfInBounds_self_of_lt (by omega)]
      have au:Below R S w4:=hbel.grown ai (by omega) (λ k K=>by injection K with K;omega);have a4:w4.heap[C]? =some (.map j n):=(au.block C aH).trans aB.o;have aK:=run_entry_at (P:=Tryz.prog) w4 R C n fF j n e M a4 aI aZ;have ao:R<w4.heap.size:=by have:=ai.size;omega
      have aQ:(Lay.int .i64).Own 3 w4 (R+1) u8 L:=World.ownsRow.kept (row:=some R) N ai (by
       cases K:u8.ownBlock with
       |none=>exact .inl rfl
       |some k=>exact .inr (λ e=>by injection e with e;have:=(World.ownsRow.lt N k K).1;omega))
      have aO:=left_shrinks j fF e J;have aE:lZ j R wr=(leftOf j fF).size:=by unfold lZ;rw[ax]
      obtain⟨Y,ak⟩:=HN.o e aI;have ah:fF.contains e.born=false:=aJ;obtain⟨op,num,aj,a5⟩:=bd e.born Y;clear ae az N ax aG J HJ E aX ai aJ;have hLl:=O.length;rcases a5 with⟨rfl,hnle,X⟩|⟨be,X⟩
      ·obtain⟨ad,an,ac,W⟩:=ak 1 num aj;have ay:=O.take Y ah X;rw[W] at aK⊢;clear W ak aj X ah Y O aw;have ba:lZ j R w4=(leftOf j (fF.push e.born)).size:=leftIn_of M;generalize fF.push e.born=sn at*;generalize e.key=ky at*
       go_wp2_with(at_builtin;refine jF Tryz.elemI [(num:Int)] rfl _ _ rfl rfl (aQ.alloc _) rfl (by simp) rfl (by simp;omega) (by simp;omega) ?_)
       intro v5 w5 bf af
       go_wp2_with fail
       go_roundw
       case rel=>
        refine⟨⟨sn,n,L++[(num:Int)],((af.block R (by omega)).trans (AW w4 _ R ao)).trans M,A8 _,bf,ay,by simp⟩,(au.alloc (by omega) _).trans (af.mono (by omega)),by have:=af.size;simp at this;omega⟩
       case measure=>
        rw[leftIn_of (((af.block R (by omega)).trans (AW w4 _ R ao)).trans M),aE];exact aO
      obtain⟨ad,an,ac,W⟩:=ak op num aj;have hop':(((op:Nat):Int)==1)=false:=by simp;omega
      have ay:=O.skip Y ah X;rw[W] at aK⊢;clear W ak aj X ah Y O be;have ba:lZ j R w4=(leftOf j (fF.push e.born)).size:=leftIn_of M;generalize fF.push e.born=sn at*;generalize e.key=ky at*
      go_wp2_with fail
      go_roundw
      case rel=>exact⟨⟨sn,n,L,(AW w4 _ R ao).trans M,A8 _,aQ.alloc _,ay,aw⟩,au.alloc (by omega) _,by simp;omega⟩
      case measure=>
       rw[leftIn_of ((AW w4 _ R ao).trans M),aE];exact aO
    cases q
   cases q
  cases q
 cases q
end Cr
