/- Lists in memory, whatever their elements are laid as; slices that the call owns; appends. -/
import Derived.Test.YtgdpkkjfcdhmdaaGreatDoorS0
import Derived.Test.YtgdpkkjfcdhmdaaGreatDoorProg
import Derived.WalkKit
import Derived.Below
import Derived.Lib.Hide
import Derived.BigQuiet
import Derived.Deep.QuietTactic
import Derived.KernelRfl
import Derived.Maps.AppendAt
import Derived.Laws.AppendOwn
import Derived.Laws.AppendOwnNone
namespace Go.Proofs.YtgdpkkjfcdhmdaaGreatDoor
open Go.RowKit
theorem add_at(g o j:Nat):(⟨g,o,none⟩:Addr).add j=⟨g,o+j,none⟩:=by
 unfold Addr.add
 split
 ·simp_all
 ·rfl
structure Lay (α:Type) where
 sz:Nat
 f:α->List Value
 len:∀x,(f x).length=sz
 one:∀x,∀u∈f x,u.oneCell'=true
 pos:0<sz
def Lay.int(k:IntKind):Lay Int:=⟨1,λ n=>[.int k n],λ _=>rfl,λ x u hu=>by simp at hu;subst hu;rfl,by decide⟩
section
variable {α:Type} (L:Lay α)
def Lay.flat(xs:List α):List Value:=xs.flatMap L.f
theorem Lay.flat_append(a b:List α):L.flat (a++b)=L.flat a++L.flat b:=by simp[Lay.flat]
theorem Lay.flat_length(xs:List α):(L.flat xs).length=xs.length*L.sz:=by
 induction xs with
 |nil=>simp[Lay.flat]
 |cons p ps ih=>simp only[Lay.flat,List.flatMap_cons,List.length_append,List.length_cons,L.len] at ih⊢;rw[ih,Nat.add_mul];omega
theorem Lay.flat_one(xs:List α):∀u∈L.flat xs,u.oneCell'=true:=λ u hu=>by
 simp only[Lay.flat,List.mem_flatMap] at hu;obtain⟨p,_,hu⟩:=hu;exact L.one p u hu
theorem Lay.flat_at(d:α):∀(xs:List α) (i j:Nat),i<xs.length->j<L.sz->(L.flat xs)[i*L.sz+j]? =(L.f (xs.getD i d))[j]?
 |[],i,j,h,_=>by simp at h
 |p::ps,0,j,_,hj=>by
  simp only[Lay.flat,List.flatMap_cons,Nat.zero_mul,Nat.zero_add,List.getD_cons_zero];rw[List.getElem?_append_left (by rw[L.len];exact hj)]
 |p::ps,i+1,j,h,hj=>by
  have:=Lay.flat_at d ps i j (by simpa using h) hj;simp only[Lay.flat,List.flatMap_cons,List.getD_cons_succ] at this⊢;rw[List.getElem?_append_right (by rw[L.len,Nat.add_mul];omega),L.len,<-this]
  congr 1
  rw[Nat.add_mul];omega
def Lay.At(d:α)(w:World)(a:Option Addr)(xs:List α):Prop:=
 ∀i,i<xs.length->∃b o,a=some ⟨b,o,none⟩/\b<w.heap.size/\∀j,j<L.sz->w.cell? ⟨b,o+i*L.sz+j,none⟩=(L.f (xs.getD i d))[j]?
variable {L} {d:α} {w w':World} {a:Option Addr} {xs:List α}
theorem Lay.At.nil:L.At d w a []:=λ i hi=>by simp at hi
theorem Lay.At.below(h:L.At d w a xs)(hb:Below w.heap.size w w'):L.At d w' a xs:=λ i hi=>by
 obtain⟨b,o,e,h0,h1⟩:=h i hi;exact⟨b,o,e,Nat.lt_of_lt_of_le h0 hb.size,λ j hj=>(hb.cell (p:=⟨b,_,none⟩) h0).trans (h1 j hj)⟩
theorem Lay.At.made(w:World)(xs:List α)(t:TypeId):L.At d (w.alloc (.cells (L.flat xs).toArray t)) (some ⟨w.heap.size,0,none⟩) xs:=λ i hi=>
 ⟨_,_,rfl,by simp,λ j hj=>by rw[World.cell?_alloc_new,<-L.flat_at d xs i j hi hj];simp⟩
def Lay.Own(L:Lay α)(e:TypeId)(w:World)(base:Nat)(v:Value)(xs:List α):Prop:=w.ownsRow base e L.sz v xs.length (L.flat xs)
theorem Lay.Own.nil{e:TypeId}(w:World)(base:Nat):L.Own e w base (.slice none 0 0) []:=World.ownsRow_nil w base e L.sz
theorem Lay.Own.at_{e base:Nat}{v:Value}(h:L.Own e w base v xs):∃a cap,v= .slice a xs.length cap/\L.At d w a xs/\xs.length<=cap/\cap<=maxLen:=by
 obtain⟨hl,h|⟨g,cap,cur,rfl,hg,hh,hn,hm,hs,ht⟩⟩:=h
 ·refine⟨none,0,by rw[h.1,h.2],?_,by omega,by decide⟩;have:xs=[]:=List.eq_nil_of_length_eq_zero h.2;subst this;exact Lay.At.nil
 ·refine⟨_,cap,rfl,?_,hn,hm⟩;intro i hi;have hlt:g<w.heap.size:=(Array.getElem?_eq_some_iff.1 hh).1;have hc:∀j,j<xs.length*L.sz->w.cell? ⟨g,0+j,none⟩=(L.flat xs)[j]? :=λ j hj=>by
   have:w.cell? ⟨g,0+j,none⟩=cur[j]? :=by simp[World.cell?,hh]
   rw[this,<-ht,List.getElem?_take_of_lt hj];simp
  refine⟨g,0,rfl,hlt,λ j hj=> ?_⟩;have hlt2:i*L.sz+j<xs.length*L.sz:=by
   have:(i+1)*L.sz<=xs.length*L.sz:=Nat.mul_le_mul_right _ hi;rw[Nat.add_mul] at this;omega
  rw[Nat.add_assoc,hc _ hlt2,L.flat_at d xs i j hi hj]
theorem Lay.Own.grown{e base:Nat}{v:Value}(h:L.Own e w base v xs)(hb:Below w.heap.size w w'):L.Own e w' base v xs:=by
 refine World.ownsRow.kept (row:=none) h ⟨hb.os,hb.tape,hb.output,hb.size,λ k hk _=>hb.block k hk⟩ ?_;cases hv:v.ownBlock<;>simp
theorem Lay.Own.alloc{e base:Nat}{v:Value}(h:L.Own e w base v xs)(o:Obj):L.Own e (w.alloc o) base v xs:=World.ownsRow.alloc h o
theorem Lay.Own.made{e base:Nat}(w:World)(xs:List α)(hb:base<=w.heap.size)(hl:xs.length<=1000000):L.Own e (w.alloc (.cells (L.flat xs).toArray e)) base (.slice (some ⟨w.heap.size,0,none⟩) xs.length xs.length) xs:=
 ⟨L.flat_length xs,.inr ⟨w.heap.size,xs.length,_,rfl,hb,heap_alloc_new w _,Nat.le_refl _,by unfold maxLen;omega,by simp[L.flat_length],by rw[<-L.flat_length xs];simp⟩⟩
structure ElemT (P:Program) (L:Lay α) (t e:TypeId) (z:Value) (bytes:Nat):Prop where
 und:P.underlying t=some (.slice e)
 info:(P.info? e).map (λ i=>(i.zero,i.size,i.bytes))=some (some z,L.sz,bytes)
 zs:z.cells.size=L.sz
 by_:bytes<=100
variable {P:Program} {t e:TypeId} {z:Value} {bytes:Nat}
theorem app_lay(T:ElemT P L t e z bytes){ops:Array Oper}{rest:List Oper}{o:Oper}{a:Act}{Q:Exit->Act->World->Prop}(hgd:o.guard=none)(s x:Operand)
  (ho:o.op= .call {callee:=.builtin .append,args:=#[s,x],argTypes:=#[t,t]}){base:Nat}{v:Value}{ps qs:List α}{ad:Addr}{m c:Nat}
  (hs:a.eval s=v)(hown:L.Own e w base v ps)(hx:a.eval x= .slice (some ad) m c)(hm:qs.length=m)(hnews:∀j u,(L.flat qs)[j]? =some u->w.cell? (ad.add j)=some u)
  (hl:ps.length+m<=1000000)(hbase:base<=w.heap.size)
  (h:∀v' w',L.Own e w' base v' (ps++qs)->Below base w w'->wpList P ops Q rest (a.put o.dst v') w'):wpList P ops Q (o::rest) a w:=by
 obtain⟨i0,hi,hz0,hz1,hz2⟩:=info_parts T.info;subst hm;have hb:=T.by_;have hbs:(ps.length+qs.length)*bytes<=140737488355328:=by
  have:=Nat.mul_le_mul hl hb;omega
 refine wpList_append_own w hgd s x t ho base e i0 _ L.sz bytes T.und hi hz0 hz1 hz2 T.zs L.pos v ps.length (L.flat ps) hs hown ad qs.length c (L.flat qs) hx (L.flat_length qs) hnews (L.flat_one qs) (by unfold maxLen;omega) hbs hbase ?_;intro v' w' hown' hg _;refine h v' w' ?_ ((Below.refl _ _).grown hg hbase λ k hk=>(hown.lt k hk).1);unfold Lay.Own;rw[L.flat_append,List.length_append];exact hown'
theorem lay_new_cells(w:World)(qs:List α)(t:TypeId):∀j u,(L.flat qs)[j]? =some u->(w.alloc (.cells (L.flat qs).toArray t)).cell? ((⟨w.heap.size,0,none⟩:Addr).add j)=some u:=λ j u hj=>by
 rw[add_at,Nat.zero_add,World.cell?_alloc_new];simpa using hj
theorem app_lay_new(T:ElemT P L t e z bytes){ops:Array Oper}{rest:List Oper}{o:Oper}{a:Act}{Q:Exit->Act->World->Prop}(qs:List α)(hgd:o.guard=none)(s x:Operand)
  (ho:o.op= .call {callee:=.builtin .append,args:=#[s,x],argTypes:=#[t,t]}){base:Nat}{v:Value}{ps:List α}{m c:Nat}
  (hs:a.eval s=v)(hown:L.Own e w base v ps)(hx:a.eval x= .slice (some ⟨w.heap.size,0,none⟩) m c)(hm:qs.length=m)
  (hl:ps.length+m<=1000000)(hbase:base<=w.heap.size)
  (h:∀v' w',L.Own e w' base v' (ps++qs)->Below base w w'->wpList P ops Q rest (a.put o.dst v') w'):wpList P ops Q (o::rest) a (w.alloc (.cells (L.flat qs).toArray e)):=
 app_lay T hgd s x ho hs (hown.alloc _) hx hm (lay_new_cells w qs e) hl (by simp;omega) λ v' w' h1 h2=>h v' w' h1 (((Below.refl _ _).alloc hbase _).trans h2)
theorem app_lay_new_g(T:ElemT P L t e z bytes){ops:Array Oper}{rest:List Oper}{o:Oper}{a:Act}{Q:Exit->Act->World->Prop}(qs:List α)(hgd:o.guard=none)(s x:Operand)
  (ho:o.op= .call {callee:=.builtin .append,args:=#[s,x],argTypes:=#[t,t]}){base g:Nat}{v:Value}{ps:List α}{m c:Nat}
  (hs:a.eval s=v)(hown:L.Own e w base v ps)(hx:a.eval x= .slice (some ⟨g,0,none⟩) m c)(hg:g=w.heap.size)(hm:qs.length=m)
  (hl:ps.length+m<=1000000)(hbase:base<=w.heap.size)
  (h:∀v' w',L.Own e w' base v' (ps++qs)->Below base w w'->wpList P ops Q rest (a.put o.dst v') w'):wpList P ops Q (o::rest) a (w.alloc (.cells (L.flat qs).toArray e)):=
 app_lay_new T qs hgd s x ho hs hown (by rw[hx,hg]) hm hl hbase h
theorem app_lay_at(T:ElemT P L t e z bytes){ops:Array Oper}{rest:List Oper}{o:Oper}{a:Act}{Q:Exit->Act->World->Prop}(hgd:o.guard=none)(s x:Operand)
  (ho:o.op= .call {callee:=.builtin .append,args:=#[s,x],argTypes:=#[t,t]}){base:Nat}{v:Value}{ps qs:List α}{A:Option Addr}{m c:Nat}
  (hs:a.eval s=v)(hown:L.Own e w base v ps)(hx:a.eval x= .slice A m c)(hA:A=none->c=0)(hm:qs.length=m)(hat:L.At d w A qs)
  (hl:ps.length+m<=1000000)(hbase:base<=w.heap.size)
  (h:∀v' w',L.Own e w' base v' (ps++qs)->Below base w w'->wpList P ops Q rest (a.put o.dst v') w'):wpList P ops Q (o::rest) a w:=by
 cases A with
 |none=>
  have hq:qs=[]:=by
   cases qs with
   |nil=>rfl
   |cons q qs=>obtain⟨b,o,e,_⟩:=hat 0 (by simp);cases e
  subst hq;obtain rfl:=hA rfl;simp at hm;subst hm;obtain⟨i0,hi,hz0,hz1,hz2⟩:=info_parts T.info;refine wpList_append_own_none hgd s x t ho base e i0 L.sz T.und hi v ps.length (L.flat ps) hs hown hx (h v w ?_ (Below.refl _ _));rw[List.append_nil];exact hown
 |some ad=>
  refine app_lay T hgd s x ho hs hown hx hm (λ j u hj=> ?_) hl hbase h;have hj':=(List.getElem?_eq_some_iff.1 hj).1;rw[L.flat_length] at hj';have hp:=L.pos;have hi:j/L.sz<qs.length:=Nat.div_lt_of_lt_mul (by rw[Nat.mul_comm];exact hj');obtain⟨b,o,e,_,h1⟩:=hat (j/L.sz) hi;injection e with e;subst e;have hm:=Nat.mod_lt j hp;have e2:j/L.sz*L.sz+j%L.sz=j:=by rw[Nat.mul_comm];exact Nat.div_add_mod j L.sz
  have:=h1 (j%L.sz) hm;rw[Nat.add_assoc,e2,<-L.flat_at d qs _ _ hi hm,e2] at this;rw[add_at,this,hj]
end
theorem Lay.At.int{k:IntKind}{w:World}{a:Option Addr}{xs:List Int}(h:(Lay.int k).At 0 w a xs){i:Nat}(hi:i<xs.length):
  ∃b o,a=some ⟨b,o,none⟩/\b<w.heap.size/\w.cell? ⟨b,o+i,none⟩=some (.int k (xs.getD i 0)):=by
 obtain⟨b,o,e,h0,h1⟩:=h i hi;have:=h1 0 (Lay.int k).pos;simp only[Lay.int,Nat.mul_one,Nat.add_zero] at this;exact⟨b,o,e,h0,by simpa using this⟩
theorem Tryz.elemI:ElemT Tryz.prog (Lay.int .i64) 24 3 (.int .i64 0) 8:=⟨Tryz.underlying24,by kernel_rfl,rfl,by decide⟩
end Go.Proofs.YtgdpkkjfcdhmdaaGreatDoor
