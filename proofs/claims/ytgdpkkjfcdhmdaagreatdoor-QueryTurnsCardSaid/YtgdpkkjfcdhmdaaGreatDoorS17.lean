/- Paths in memory; walk: Short. -/
import Derived.Test.YtgdpkkjfcdhmdaaGreatDoorS0
import Derived.Test.YtgdpkkjfcdhmdaaGreatDoorS16
import Derived.Test.YtgdpkkjfcdhmdaaGreatDoorS2
namespace Go.Proofs.YtgdpkkjfcdhmdaaGreatDoor
open Go.RowKit
inductive Occ (L:List Nd) (t:Nat):Nat->Prop
 |top:Occ L t t
 |arg {i a:Nat}:Occ L t i->a∈(L.getD i default).args->Occ L t a
theorem args_default(L:List Nd)(i:Nat)(h:L.length<=i):(L.getD i default).args=[]:=by
 rw[List.getD_eq_getElem?_getD,List.getElem?_eq_none h];rfl
theorem GOk.arg{W:Nat}{L:List Nd}(h:GOk W L){i a:Nat}(ha:a∈(L.getD i default).args):a<i/\i<L.length:=by
 by_cases hi:i<L.length
 ·exact⟨(h i hi).2.2.2.2.2.2 a ha,hi⟩
 ·rw[args_default L i (by omega)] at ha;cases ha
theorem GOk.argl{W:Nat}{L:List Nd}(h:GOk W L)(i:Nat):(L.getD i default).args.length<=3:=by
 by_cases hi:i<L.length
 ·rw[(h i hi).2.2.2.2.1];unfold arN;(repeat' split)<;>omega
 ·rw[args_default L i (by omega)];simp
theorem Occ.lt{W:Nat}{L:List Nd}{t:Nat}(h:GOk W L)(ht:t<L.length){j:Nat}(o:Occ L t j):j<L.length:=by
 induction o with
 |top=>exact ht
 |arg _ ha ih=>have:=(h.arg ha).1;omega
def VarIn(L:List Nd)(t:Nat)(n:Int):Prop:=∃j,Occ L t j/\(L.getD j default).op=1/\(((L.getD j default).num:Nat):Int)=n
def VOk(L:List Nd):Prop:=∀i,(L.getD i default).op=1->(L.getD i default).num<12
theorem VOk.nil:VOk []:=λ i h=>by simp at h
theorem VOk.ask{L:List Nd}(h:VOk L){n:Nd}(hn:n.op=1->n.num<12):VOk (askL n L):=by
 unfold askL
 split
 ·exact h
 ·intro i hi;by_cases e:i<L.length
  ·rw[List.getD_eq_getElem?_getD,List.getElem?_append_left e,<-List.getD_eq_getElem?_getD] at hi⊢;exact h i hi
  ·by_cases e2:i=L.length
   ·subst e2;rw[List.getD_eq_getElem?_getD,List.getElem?_append_right (Nat.le_refl _)] at hi⊢;simp at hi⊢;exact hn hi
   ·rw[List.getD_eq_getElem?_getD,List.getElem?_eq_none (by simp;omega)] at hi;cases hi
theorem bldL_vok(W:Nat)(qs:List RawN):VOk (bldL W qs):=by
 rw[<-List.reverse_reverse qs]
 induction qs.reverse with
 |nil=>exact VOk.nil
 |cons q qs ih=>
  rw[List.reverse_cons,bldL_snoc];refine ih.ask λ h=> ?_
  unfold rawNd at h⊢
  (repeat' split)<;>(repeat' split at h)<;>simp_all<;>omega
theorem nodup_len{n:Nat}{S:List Nat}(hd:S.Nodup)(hl:∀x∈S,x<n):S.length<=n:=by
 have hp:(S++(List.range n).filter λ b=> !S.contains b).Perm (List.range n):=by
  refine(List.perm_ext_iff_of_nodup ?_ List.nodup_range).2 λ b=> ?_
  ·refine List.nodup_append.2 ⟨hd,List.nodup_range.filter _,λ a ha b hb=> ?_⟩;rintro rfl;simp at hb;exact hb.2 ha
  ·simp only[List.mem_append,List.mem_filter,List.mem_range];constructor
   ·rintro(hb|hb)
    ·exact hl b hb
    ·exact hb.1
   ·intro hb;by_cases hc:b∈S
    ·exact .inl hc
    ·exact .inr ⟨hb,by simpa using hc⟩
 have:=hp.length_eq;rw[List.length_append,List.length_range] at this;omega
section
variable {W:Nat} {L:List Nd} {t x:Nat} {S K:List Nat}
theorem stack_top(K:List Nat)(h:0<K.length):K=K.take (K.length-1)++[K.getD (K.length-1) 0]:=by
 have:=take_getD 0 K (K.length-1) (by omega);rw[show K.length-1+1=K.length by omega,List.take_length] at this;exact this
end
theorem getD_set_true(N:List Bool)(i j:Nat)(h:N.getD j false=true):(N.set i true).getD j false=true:=by
 simp only[List.getD_eq_getElem?_getD,List.getElem?_set] at*
 split
 ·split
  ·rfl
  ·rename_i e1 e2;subst e1;rw[List.getElem?_eq_none (by omega)] at h;cases h
 ·exact h
section
variable {W:Nat} {L:List Nd} {t i m:Nat} {N:List Bool}
end
section
variable {L:List Nd} {N:List Bool} {t:Nat} {xs:List Int}
end
end Go.Proofs.YtgdpkkjfcdhmdaaGreatDoor
namespace Go.Proofs.YtgdpkkjfcdhmdaaGreatDoor
open Go Go.RowKit
open Go.Proofs.YtgdpkkjfcdhmdaaGreatDoor.Cr
def ndV(o u:Nat)(a:Option Addr)(n c:Nat):Value:=.agg #[.int .u8 (o:Int),.int .u64 (u:Int),.slice a n c]
def EntOk(L:List Nd)(x:Nat)(i:Nat)(e:MapEntry):Prop:=e.key= .int .i64 (x:Int)/\e.born=i/\∃a n c,e.val=ndV (L.getD x default).op (L.getD x default).num a n c
def EntsOk(L:List Nd):List Nat->Nat->List MapEntry->Prop
 |[],_,[]=>True
 |x::S,i,e::es=>EntOk L x i e/\EntsOk L S (i+1) es
 |_,_,_=>False
theorem EntsOk.len{L:List Nd}:∀{S:List Nat} {i:Nat} {es:List MapEntry},EntsOk L S i es->es.length=S.length
 |[],_,[],_=>rfl
 |[],_,_::_,h=>h.elim
 |_::_,_,[],h=>h.elim
 |x::S,i,e::es,h=>by simp[EntsOk.len (S:=S) h.2]
theorem EntsOk.snoc{L:List Nd}{x:Nat}{e:MapEntry}:∀{S:List Nat} {i:Nat} {es:List MapEntry},EntsOk L S i es->EntOk L x (i+S.length) e->EntsOk L (S++[x]) i (es++[e])
 |[],_,[],_,he=>⟨he,trivial⟩
 |[],_,_::_,h,_=>h.elim
 |_::_,_,[],h,_=>h.elim
 |y::S,i,e'::es,h,he=>⟨h.1,EntsOk.snoc h.2 (by rw[List.length_cons] at he;rwa[show i+1+S.length=i+(S.length+1) by omega])⟩
theorem EntsOk.at_{L:List Nd}:∀{S:List Nat} {i:Nat} {es:List MapEntry},EntsOk L S i es->∀e∈es,∃j,j<S.length/\EntOk L (S.getD j 0) (i+j) e
 |[],_,[],_,e,he=>by cases he
 |[],_,_::_,h,_,_=>h.elim
 |_::_,_,[],h,_,_=>h.elim
 |x::S,i,e'::es,h,e,he=>by
  rcases List.mem_cons.1 he with rfl|he
  ·exact⟨0,by simp,h.1⟩
  ·obtain⟨j,hj,hh⟩:=EntsOk.at_ h.2 e he;exact⟨j+1,by simpa using hj,by rw[show i+(j+1)=i+1+j by omega];simpa using hh⟩
theorem EntsOk.born{L:List Nd}:∀{S:List Nat} {i:Nat} {es:List MapEntry},EntsOk L S i es->∀j e,es[j]? =some e->e.born=i+j
 |[],_,[],_,j,e,he=>by simp at he
 |[],_,_::_,h,_,_,_=>h.elim
 |_::_,_,[],h,_,_,_=>h.elim
 |x::S,i,e'::es,h,j,e,he=>by
  cases j with
  |zero=>simp at he;subst he;exact h.1.2.1
  |succ j=>simp at he;rw[EntsOk.born h.2 j e he];omega
theorem sameNow_int(a b:Int):Instr.sameNow (.int .i64) (.int .i64 a) (.int .i64 b)=some (a==b):=by simp[Instr.sameNow]
theorem findNow_ents{L:List Nd}(k:Nat):∀{S:List Nat} {i:Nat} {es:List MapEntry} (j:Nat),EntsOk L S i es->
  (k∈S->∃m o u a n c,Instr.findNow (.int .i64) (.int .i64 (k:Int)) es j=some (some (m,ndV o u a n c)))/\(k∉S->Instr.findNow (.int .i64) (.int .i64 (k:Int)) es j=some none)
 |[],_,[],j,_=>⟨λ h=>(by cases h),λ _=>rfl⟩
 |[],_,_::_,_,h=>h.elim
 |_::_,_,[],_,h=>h.elim
 |x::S,i,e::es,j,h=>by
  obtain⟨⟨h1,h2,a,n,c,h3⟩,h4⟩:=h;obtain⟨ih1,ih2⟩:=findNow_ents k (S:=S) (j+1) h4;by_cases e1:k=x
  ·subst e1;have hs:Instr.sameNow (.int .i64) (.int .i64 (k:Int)) e.key=some true:=by rw[h1,sameNow_int];simp
   exact⟨λ _=>⟨j,(L.getD k default).op,(L.getD k default).num,a,n,c,by simp only[Instr.findNow,hs,h3]⟩,λ hn=>absurd (List.mem_cons_self ..) hn⟩
  ·have hs:Instr.sameNow (.int .i64) (.int .i64 (k:Int)) e.key=some false:=by
    rw[h1,sameNow_int];have:((k:Int)==(x:Int))=false:=by simp;omega
    rw[this]
   refine⟨λ hm=> ?_,λ hm=> ?_⟩
   ·obtain⟨m,o,u,a',n',c',hh⟩:=ih1 (by rcases List.mem_cons.1 hm with r|r;exact absurd r e1;exact r);exact⟨m,o,u,a',n',c',by simp only[Instr.findNow,hs];exact hh⟩
   ·simp only[Instr.findNow,hs];exact ih2 λ hh=>hm (List.mem_cons_of_mem _ hh)
structure SeenAt (w:World) (mb:Nat) (L:List Nd) (S:List Nat):Prop where
 ents:∃es clock,w.heap[mb]? =some (.map es clock)/\clock=S.length/\EntsOk L S 0 es.toList
theorem SeenAt.frame{w w':World}{mb:Nat}{L:List Nd}{S:List Nat}(h:SeenAt w mb L S)(hk:w'.heap[mb]? =w.heap[mb]?):SeenAt w' mb L S:=by
 obtain⟨es,c,h1,h2⟩:=h.ents;exact⟨es,c,hk.trans h1,h2⟩
theorem und137:Tryz.prog.underlying 144=some (.map 3 148):=by kernel_rfl
theorem zero141(w:World):(zeroValue 148).run Tryz.prog w= .ok (.agg #[.int .u8 0,.int .u64 0,.slice none 0 0]) w:=by kernel_rfl
theorem check_int(em:Bool)(k:Int)(w:World):(Instr.checkKey em 10000 3 (.int .i64 k)).run Tryz.prog w= .ok () w:=
 chk_of (μ:=idMu) (d:=1) (ks:=[0]) (by decide) (by kernel_rfl) Tryz.underlying3 (VR.int _ _) (by rfl)
theorem find_int{w:World}{k:Int}{es:List MapEntry}{r:Option (Nat×Value)}(h:Instr.findNow (.int .i64) (.int .i64 k) es 0=some r):(Instr.findKey 3 (.int .i64 k) es).run Tryz.prog w= .ok r w:=by
 simp[Instr.findKey,run_underlying Tryz.underlying3,h]
theorem SeenAt.lookup{w:World}{mb:Nat}{L:List Nd}{S:List Nat}(h:SeenAt w mb L S)(k:Nat):
  ∃o u a n c,(Instr.lookup 144 (.map (some mb)) (.int .i64 (k:Int)) true).run Tryz.prog w= .ok (.tuple #[.agg #[.int .u8 ((o:Nat):Int),.int .u64 ((u:Nat):Int),.slice a n c],.bool (decide (k∈S))]) w:=by
 obtain⟨es,clock,h1,h2,h3⟩:=h.ents;have hget:(getObj mb).run Tryz.prog w= .ok (.map es clock) w:=by simp[getObj,Sem.run,h1]
 obtain⟨f1,f2⟩:=findNow_ents k 0 h3;by_cases hm:k∈S
 ·obtain⟨m,o,u,a,n,c,hf⟩:=f1 hm;refine⟨o,u,a,n,c,?_⟩;rw[run_lookup (ok:=true) und137 hget (λ em=>check_int em k w) (find_int hf) (zero141 w),decide_eq_true hm]
  rfl
 ·refine⟨0,0,none,0,0,?_⟩;rw[run_lookup (ok:=true) und137 hget (λ em=>check_int em k w) (find_int (f2 hm)) (zero141 w),decide_eq_false hm]
  rfl
def putS(k:Nat)(v:Value)(es:Array MapEntry)(clock:Nat):Obj:=.map (es.push {key:=.int .i64 (k:Int),val:=v,born:=clock}) (clock+1)
theorem SeenAt.update{w:World}{mb:Nat}{L:List Nd}{S:List Nat}(h:SeenAt w mb L S){k:Nat}(hno:k∉S)(a:Option Addr)(n c:Nat):
  ∃ob,(Instr.mapUpdate 144 (.map (some mb)) (.int .i64 (k:Int)) (.agg #[.int .u8 ((L.getD k default).op:Int),.int .u64 ((L.getD k default).num:Int),.slice a n c])).run Tryz.prog w= .ok () {w with heap:=w.heap.setIfInBounds mb ob}/\
   ∀w',w'.heap=w.heap.setIfInBounds mb ob->SeenAt w' mb L (S++[k]):=by
 obtain⟨es,clock,h1,h2,h3⟩:=h.ents;have hget:(getObj mb).run Tryz.prog w= .ok (.map es clock) w:=by simp[getObj,Sem.run,h1]
 have hset:∀ob,(setObj mb ob).run Tryz.prog w= .ok () {w with heap:=w.heap.setIfInBounds mb ob}:=λ ob=>by simp[setObj,Sem.run,h1]
 have hf:=find_int (w:=w) ((findNow_ents k 0 h3).2 hno);refine⟨putS k (ndV (L.getD k default).op (L.getD k default).num a n c) es clock,?_,λ w' hw'=> ?_⟩
 ·simp only[Instr.mapUpdate,Sem.run_bind,run_underlying und137,Result.andThen_ok,hget,check_int,hf,hset,putS]
  rfl
 ·have hlt:mb<w.heap.size:=(Array.getElem?_eq_some_iff.1 h1).1;refine⟨_,_,by rw[hw',Array.getElem?_setIfInBounds_self_of_lt hlt];rfl,by rw[h2];simp,?_⟩;rw[Array.toList_push];refine h3.snoc ⟨rfl,by simp[h2],a,n,c,rfl⟩
end Go.Proofs.YtgdpkkjfcdhmdaaGreatDoor
namespace Go.Proofs.YtgdpkkjfcdhmdaaGreatDoor
open Go.RowKit
def Lay.bool:Lay Bool:=⟨1,λ b=>[.bool b],λ _=>rfl,λ x u hu=>by simp at hu;subst hu;rfl,by decide⟩
def Lay.sev:Lay (Int×Int):=⟨2,λ p=>[.int .i64 p.1,.int .i64 p.2],λ _=>rfl,λ x u hu=>by simp at hu;rcases hu with rfl|rfl<;>rfl,by decide⟩
theorem Lay.At.sev{w:World}{a:Option Addr}{xs:List (Int×Int)}(h:Lay.sev.At (0,0) w a xs){i:Nat}(hi:i<xs.length):
  ∃b o,a=some ⟨b,o,none⟩/\b<w.heap.size/\w.cell? ⟨b,o+i*2,none⟩=some (.int .i64 (xs.getD i (0,0)).1)/\w.cell? ⟨b,o+i*2+1,none⟩=some (.int .i64 (xs.getD i (0,0)).2):=by
 obtain⟨b,o,e,h0,h1⟩:=h i hi;have e0:=h1 0 (by decide);have e1:=h1 1 (by decide);simp only[Lay.sev,Nat.add_zero] at e0 e1;exact⟨b,o,e,h0,by simpa using e0,by simpa using e1⟩
structure PathN where
 ca:Option Addr
 cc:Nat
 cs:List Int
 st:Int
 sp:Int
 oa:Option Addr
 oc:Nat
 os:List (Int×Int)
 ra:Option Addr
 rc:Nat
 rs:List (Int×Int)
 ba:Option Addr
 bc:Nat
 bs:List Bool
 ia:Option Addr
 ic:Nat
 is:List Int
instance:Inhabited PathN:=⟨⟨none,0,[],0,0,none,0,[],none,0,[],none,0,[],none,0,[]⟩⟩
def Lay.path:Lay PathN:=⟨7,λ p=>[.slice p.ca p.cs.length p.cc,.int .u8 p.st,.int .i64 p.sp,.slice p.oa p.os.length p.oc,.slice p.ra p.rs.length p.rc,.slice p.ba p.bs.length p.bc,.slice p.ia p.is.length p.ic],λ _=>rfl,λ x u hu=>by simp at hu;rcases hu with rfl|rfl|rfl|rfl|rfl|rfl|rfl<;>rfl,by decide⟩
def PathN.v(p:PathN):Value:=.agg #[.slice p.ca p.cs.length p.cc,.int .u8 p.st,.int .i64 p.sp,.slice p.oa p.os.length p.oc,.slice p.ra p.rs.length p.rc,.slice p.ba p.bs.length p.bc,.slice p.ia p.is.length p.ic]
structure PathN.Ok (w:World) (p:PathN):Prop where
 c:(Lay.int .i64).At 0 w p.ca p.cs
 o:Lay.sev.At (0,0) w p.oa p.os
 r:Lay.sev.At (0,0) w p.ra p.rs
 b:Lay.bool.At false w p.ba p.bs
 i:(Lay.int .i64).At 0 w p.ia p.is
 bn:p.ba=none->p.bc=0
 cn:p.ca=none->p.cc=0
 in_:p.ia=none->p.ic=0
theorem PathN.Ok.below{w w':World}{p:PathN}(h:p.Ok w)(hb:Below w.heap.size w w'):p.Ok w':=⟨h.c.below hb,h.o.below hb,h.r.below hb,h.b.below hb,h.i.below hb,h.bn,h.cn,h.in_⟩
def PathN.short(p:PathN):Prop:=p.cs.length<=12/\p.os.length<=12/\p.rs.length<=12/\p.bs.length<=40/\p.is.length<=40
theorem path_cells{w:World}{a:Option Addr}{ps:List PathN}(h:Lay.path.At default w a ps){i:Nat}(hi:i<ps.length):∃b o,a=some ⟨b,o,none⟩/\b<w.heap.size/\w.cell? ⟨b,o+i*7,none⟩=some (.slice (ps.getD i default).ca (ps.getD i default).cs.length (ps.getD i default).cc)/\w.cell? ⟨b,o+i*7+1,none⟩=some (.int .u8 (ps.getD i default).st)/\w.cell? ⟨b,o+i*7+2,none⟩=some (.int .i64 (ps.getD i default).sp)/\
  w.cell? ⟨b,o+i*7+3,none⟩=some (.slice (ps.getD i default).oa (ps.getD i default).os.length (ps.getD i default).oc)/\w.cell? ⟨b,o+i*7+4,none⟩=some (.slice (ps.getD i default).ra (ps.getD i default).rs.length (ps.getD i default).rc)/\w.cell? ⟨b,o+i*7+5,none⟩=some (.slice (ps.getD i default).ba (ps.getD i default).bs.length (ps.getD i default).bc)/\w.cell? ⟨b,o+i*7+6,none⟩=some (.slice (ps.getD i default).ia (ps.getD i default).is.length (ps.getD i default).ic):=by
 obtain⟨b,o,e,h0,h1⟩:=h i hi;have e0:=h1 0 (by decide);have e1:=h1 1 (by decide);have e2:=h1 2 (by decide);have e3:=h1 3 (by decide);have e4:=h1 4 (by decide);have e5:=h1 5 (by decide);have e6:=h1 6 (by decide);exact⟨b,o,e,h0,e0,e1,e2,e3,e4,e5,e6⟩
theorem short28(w:World)(p:PathN):Calls Tryz.prog 17 #[p.v] w λ e w'=>(∃g,e= .returned (.bool g)/\(g=true↔p.short))/\Below w.heap.size w w':=by
 obtain⟨ca,cc,cs,st,sp,oa,oc,os,ra,rc,rs,ba,bc,bs,ia,ic,is⟩:=p;have HBA:Hid (Below w.heap.size w (w.alloc (.cells #[.slice ca cs.length cc,.int .u8 st,.int .i64 sp,.slice oa os.length oc,.slice ra rs.length rc,.slice ba bs.length bc,.slice ia is.length ic] 28))):=Z ((Below.refl _ _).alloc (Nat.le_refl _) _);simp only[PathN.v,PathN.short];generalize cs.length=l1 at*;generalize os.length=l2 at*;generalize rs.length=l3 at*;generalize bs.length=l4 at*;generalize is.length=l5 at*;by_cases c1:l1<=12
 ·by_cases c2:l2<=12
  ·by_cases c3:l3<=12
   ·by_cases c4:l4<=40
    ·by_cases c5:l5<=40
     ·have d1:decide ((l1:Int)<=12)=true:=by simp;omega
      have d2:decide ((l2:Int)<=12)=true:=by simp;omega
      have d3:decide ((l3:Int)<=12)=true:=by simp;omega
      have d4:decide ((l4:Int)<=40)=true:=by simp;omega
      have d5:decide ((l5:Int)<=40)=true:=by simp;omega
      have HG:Hid (l1<=12/\l2<=12/\l3<=12/\l4<=40/\l5<=40):=Z ⟨c1,c2,c3,c4,c5⟩;clear c1 c2 c3 c4 c5;go_enter Tryz.func17,Tryz.ntmps17
      go_wp2_with fail
      go_ret
      exact⟨⟨true,rfl,λ _=>HG.o,λ _=>rfl⟩,HBA.o⟩
     ·have d1:decide ((l1:Int)<=12)=true:=by simp;omega
      have d2:decide ((l2:Int)<=12)=true:=by simp;omega
      have d3:decide ((l3:Int)<=12)=true:=by simp;omega
      have d4:decide ((l4:Int)<=40)=true:=by simp;omega
      have d5:decide ((l5:Int)<=40)=false:=by simp;omega
      have HG:=Z c5;clear c1 c2 c3 c4 c5;go_enter Tryz.func17,Tryz.ntmps17
      go_wp2_with fail
      go_ret
      exact⟨⟨false,rfl,λ h=>(by cases h),λ h=>absurd h.2.2.2.2 HG.o⟩,HBA.o⟩
    ·have d1:decide ((l1:Int)<=12)=true:=by simp;omega
     have d2:decide ((l2:Int)<=12)=true:=by simp;omega
     have d3:decide ((l3:Int)<=12)=true:=by simp;omega
     have d4:decide ((l4:Int)<=40)=false:=by simp;omega
     have HG:=Z c4;clear c1 c2 c3 c4;go_enter Tryz.func17,Tryz.ntmps17
     go_wp2_with fail
     go_ret
     exact⟨⟨false,rfl,λ h=>(by cases h),λ h=>absurd h.2.2.2.1 HG.o⟩,HBA.o⟩
   ·have d1:decide ((l1:Int)<=12)=true:=by simp;omega
    have d2:decide ((l2:Int)<=12)=true:=by simp;omega
    have d3:decide ((l3:Int)<=12)=false:=by simp;omega
    have HG:=Z c3;clear c1 c2 c3;go_enter Tryz.func17,Tryz.ntmps17
    go_wp2_with fail
    go_ret
    exact⟨⟨false,rfl,λ h=>(by cases h),λ h=>absurd h.2.2.1 HG.o⟩,HBA.o⟩
  ·have d1:decide ((l1:Int)<=12)=true:=by simp;omega
   have d2:decide ((l2:Int)<=12)=false:=by simp;omega
   have HG:=Z c2;clear c1 c2;go_enter Tryz.func17,Tryz.ntmps17
   go_wp2_with fail
   go_ret
   exact⟨⟨false,rfl,λ h=>(by cases h),λ h=>absurd h.2.1 HG.o⟩,HBA.o⟩
 ·have d1:decide ((l1:Int)<=12)=false:=by simp;omega
  have HG:=Z c1;clear c1;go_enter Tryz.func17,Tryz.ntmps17
  go_wp2_with fail
  go_ret
  exact⟨⟨false,rfl,λ h=>(by cases h),λ h=>absurd h.1 HG.o⟩,HBA.o⟩
end Go.Proofs.YtgdpkkjfcdhmdaaGreatDoor
