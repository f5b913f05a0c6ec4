/- For Leak: what it answers, told by lists. -/
import Derived.Test.YtgdpkkjfcdhmdaaGreatDoorS0
import Derived.Test.YtgdpkkjfcdhmdaaGreatDoorU18
namespace Go.Proofs.YtgdpkkjfcdhmdaaGreatDoor
open Go Go.RowKit
@[go_sem] theorem run_store_fn (P : Program) (a : Addr) (f : Fn) (x y : Array Value) (m : Mode) (w : World) : (store a (.func f x y) m).run P w = stored P w a (.func f x y) m := run_store P w a _ m rfl
theorem okB_terms{N nl nx ny:Nat}{level:Int}{p q:PathN}(h:okB N nl nx ny level p q=true):termsI p++termsI q=intsN (termsN p q)/\∀t∈termsN p q,t<nl:=by
 unfold okB at h;simp only[Bool.and_eq_true,List.all_cons,List.all_nil] at h;have hb:∀t∈termsI p++termsI q,isB nl t=true:=λ t ht=>by
  rcases List.mem_append.1 ht with ht|ht
  ·have:=h.2.1;unfold pathOk at this;rw[Bool.and_eq_true,List.all_eq_true] at this;exact this.2 t ht
  ·have:=h.2.2.1;unfold pathOk at this;rw[Bool.and_eq_true,List.all_eq_true] at this;exact this.2 t ht
 have hr:∀t∈termsI p++termsI q,0<=t/\t<nl:=λ t ht=>by have:=hb t ht;simpa[isB] using this
 refine⟨?_,λ t ht=> ?_⟩
 ·unfold termsN intsN;rw[List.map_map];refine(List.map_id _).symm.trans (List.map_congr_left λ t ht=> ?_);have:=(hr t ht).1;simp only[id,Function.comp];omega
 ·obtain⟨x,hx,rfl⟩:=List.mem_map.1 ht;have:=hr x hx;omega
def seenN(N:Nat)(up:Nat->Nat)(zs:List Int)(level:Int)(es:List (Int×Int)):List (Int×Nat):=(seen N up level zs es).map λ x=>(x.1,x.2.toNat)
def modeB(sens:Bool)(p q:PathN):Bool:= !sens&&(decide (p.st=2)||decide (q.st=2))
def LeakP(w:World)(B:Nat)(A:Nat->Prop)(gb mb:Nat)(nv:Value)(W N:Nat)(up:Nat->Nat)(xs ys:List Int)(level:Int)(L0 L:List Nd)(c:Nat)(sens:Bool)(p q:PathN)(e:Ending)(w':World):Prop:=
 (OddV L (termsN p q)/\e= .returned (.tuple #[.int .i64 0,.int .i64 2])/\Below w.heap.size w w')\/
 (¬OddV L (termsN p q)/\∃(nv':Value) (A':Nat->Prop) (M:List Nd) (t:Nat),e= .returned (.tuple #[.int .i64 (t:Nat),.int .i64 0])/\Run w w' B A A' gb mb nv nv' W M/\St W (visB N up xs level) L0 M (c+180)/\t<M.length/\
   ∀vals sec,Second W (visB N up xs level) vals sec->(vAt W vals M t≠0↔LeakF W vals sec L0 (modeB sens p q) (modeB sens p q||decide (p.st=q.st)) (p.cs.map Int.toNat) (q.cs.map Int.toNat) (seenN N up xs level p.os) (seenN N up xs level q.os) (seenN N up ys level p.rs) (seenN N up ys level q.rs)))
theorem seenN_ev{N nl:Nat}{up:Nat->Nat}{zs:List Int}{level:Int}{es:List (Int×Int)}(h:∀o∈es,isB nl o.2=true):evI (seenN N up zs level es)=seen N up level zs es:=by
 unfold evI seenN;rw[List.map_map];refine(List.map_congr_left λ x hx=> ?_).trans (List.map_id _);have:=h x (seen_mem hx);unfold isB at this;simp only[Bool.and_eq_true,decide_eq_true_eq] at this;simp only[Function.comp,id];rw[Int.toNat_of_nonneg this.1]
structure EvOk (nl nz:Nat) (es:List (Int×Int)):Prop where
 n:∀o∈es,0<=o.1/\o.1<nz
 t:∀o∈es,isB nl o.2=true
 l:es.length<=12
theorem ev_os{nl nx ny:Nat}{p:PathN}(h:pathOk nl nx ny p=true)(hs:p.short):EvOk nl nx p.os:=by
 unfold pathOk at h;simp only[Bool.and_eq_true,List.all_append,List.all_eq_true] at h;exact⟨λ o ho=>by simpa[inB] using h.1.1 o ho,λ o ho=>h.2.1.2 o.2 (List.mem_map.2 ⟨o,ho,rfl⟩),hs.2.1⟩
theorem ev_rs{nl nx ny:Nat}{p:PathN}(h:pathOk nl nx ny p=true)(hs:p.short):EvOk nl ny p.rs:=by
 unfold pathOk at h;simp only[Bool.and_eq_true,List.all_append,List.all_eq_true] at h;exact⟨λ o ho=>by simpa[inB] using h.1.2 o ho,λ o ho=>h.2.2 o.2 (List.mem_map.2 ⟨o,ho,rfl⟩),hs.2.2.1⟩
theorem seenEv{u:World}{sb lb:Nat}{za:Option Addr}{zc:Nat}{zs:List Int}{N nl:Nat}{up dn:Nat->Nat}{level:Int}{ea:Option Addr}{ec:Nat}{es:List (Int×Int)}(hx:SideX u sb lb za zs)(hL:LatC u lb N up dn)(he:EvOk nl zs.length es)(hat:Lay.sev.At (0,0) u ea es)(w:World)(hb:Below u.heap.size u w):
  Calls Tryz.prog 29 #[.pointer (some ⟨sb,0,none⟩),.int .i64 level,.slice za zs.length zc,.slice ea es.length ec] w λ e w'=>∃v,e= .returned v/\Lay.sev.Own 83 w' w.heap.size v (evI (seenN N up zs level es))/\Below w.heap.size w w':=by
 rw[seenN_ev he.t];exact seenX N up dn level ea ec es w (hx.below hb) (hL.below' hb) he.n (hat.below hb) (by have:=he.l;omega)
theorem seenN_ok{L L0:List Nd}{N:Nat}{up:Nat->Nat}{zs:List Int}{level:Int}{es:List (Int×Int)}{ts:List Nat}{W:Nat}(he:EvOk L.length zs.length es)(hts:∀o∈es,o.2.toNat∈ts)(hT:∀t∈ts,t<L.length->t<L0.length)(hp:L0<+:L)(hg:GOk W L0)(hno:¬OddV L ts):
  (seenN N up zs level es).length<=12/\(∀x∈seenN N up zs level es,x.2<L0.length)/\∀x∈seenN N up zs level es,∀j,Occ L0 x.2 j->(L0.getD j default).op=1->(L0.getD j default).num%2=0:=by
 have hm:∀x∈seenN N up zs level es,x.2∈ts/\x.2<L0.length:=λ x hx=>by
  obtain⟨o,ho,rfl⟩:=List.mem_map.1 hx;have ho:=seen_mem ho;have h1:=hts o ho;have h2:=he.t o ho;unfold isB at h2;simp only[Bool.and_eq_true,decide_eq_true_eq] at h2;exact⟨h1,hT _ h1 (by omega)⟩
 refine⟨?_,λ x hx=>(hm x hx).2,λ x hx j o h1=> ?_⟩
 ·unfold seenN;rw[List.length_map];exact Nat.le_trans (List.length_filter_le _ _) he.l
 ·by_cases h2:(L0.getD j default).num%2=0
  ·exact h2
  ·refine absurd ⟨(L0.getD j default).num,⟨j,⟨x.2,(hm x hx).1,(occ_pre hg hp (hm x hx).2).2 o⟩,?_,?_⟩,by omega⟩ hno
   ·rw[pre_get hp (o.lt hg (hm x hx).2)];exact h1
   ·rw[pre_get hp (o.lt hg (hm x hx).2)]
theorem terms_os{p q:PathN}:(∀o∈p.os,o.2.toNat∈termsN p q)/\(∀o∈p.rs,o.2.toNat∈termsN p q)/\(∀o∈q.os,o.2.toNat∈termsN p q)/\(∀o∈q.rs,o.2.toNat∈termsN p q)/\(∀c∈p.cs,c.toNat∈termsN p q)/\∀c∈q.cs,c.toNat∈termsN p q:=by
 unfold termsN termsI;refine⟨λ o ho=> ?_,λ o ho=> ?_,λ o ho=> ?_,λ o ho=> ?_,λ o ho=> ?_,λ o ho=> ?_⟩<;>refine List.mem_map.2 ⟨_,?_,rfl⟩<;>simp only[List.mem_append,List.mem_map]
 ·exact .inl (.inl (.inr ⟨o,ho,rfl⟩))
 ·exact .inl (.inr ⟨o,ho,rfl⟩)
 ·exact .inr (.inl (.inr ⟨o,ho,rfl⟩))
 ·exact .inr (.inr ⟨o,ho,rfl⟩)
 ·exact .inl (.inl (.inl ho))
 ·exact .inr (.inl (.inl ho))
structure LkI (W:Nat) (V:Nat->Bool) (L0 M:List Nd) (mode sm:Bool) (rels same:Nat) (ar br ao bo:List (Int×Nat)):Prop where
 rl:rels<M.length
 rv:∀vals sec,Second W V vals sec->(vAt W vals M rels≠0↔Cmp2 W vals sec L0 mode ar br)
 sl:same<M.length
 sv:∀vals sec,Second W V vals sec->(vAt W vals M same≠0↔(sm=true/\Cmp2 W vals sec L0 mode ao bo))
theorem LkI.yes{W:Nat}{V:Nat->Bool}{L0 M1 M:List Nd}{mode:Bool}{rels same:Nat}{ar br ao bo:List (Int×Nat)}(h1:rels<M1.length)(h2:∀vals sec,Second W V vals sec->(vAt W vals M1 rels≠0↔Cmp2 W vals sec L0 mode ar br))(h3:same<M.length)(h4:∀vals sec,Second W V vals sec->(vAt W vals M same≠0↔Cmp2 W vals sec L0 mode ao bo))(hp:M1<+:M):LkI W V L0 M mode true rels same ar br ao bo:=
 ⟨Nat.lt_of_lt_of_le h1 hp.length_le,λ vals sec h=>by rw[vAt_pre hp h1];exact h2 vals sec h,h3,λ vals sec h=>(h4 vals sec h).trans (by simp)⟩
theorem LkI.no{W:Nat}{V:Nat->Bool}{L0 M1:List Nd}{mode:Bool}{rels c:Nat}{ar br ao bo:List (Int×Nat)}{r:Nat×List Nd}(h1:rels<M1.length)(h2:∀vals sec,Second W V vals sec->(vAt W vals M1 rels≠0↔Cmp2 W vals sec L0 mode ar br))(hm:Made W V L0 M1 c (λ _=>0%2^W) r):LkI W V L0 r.2 mode false rels r.1 ar br ao bo:=
 ⟨Nat.lt_of_lt_of_le h1 hm.pre.length_le,λ vals sec h=>by rw[vAt_pre hm.pre h1];exact h2 vals sec h,hm.lt,λ vals sec _=>by rw[hm.val vals,Nat.zero_mod];simp⟩
theorem intsN_app2(l:List Nat)(a b:Nat):intsN (l++[a,b])=intsN l++[(a:Int),(b:Int)]:=by simp[intsN]
theorem cs_ok{L L0:List Nd}{cs:List Int}{ts:List Nat}{W:Nat}(he:∀c∈cs,isB L.length c=true)(hts:∀c∈cs,c.toNat∈ts)(hT:∀t∈ts,t<L.length->t<L0.length)(hp:L0<+:L)(hg:GOk W L0)(hno:¬OddV L ts):
  (∀x∈cs.map Int.toNat,x<L0.length)/\∀x∈cs.map Int.toNat,∀j,Occ L0 x j->(L0.getD j default).op=1->(L0.getD j default).num%2=0:=by
 have hm:∀x∈cs.map Int.toNat,x∈ts/\x<L0.length:=λ x hx=>by
  obtain⟨o,ho,rfl⟩:=List.mem_map.1 hx;have h1:=hts o ho;have h2:=he o ho;unfold isB at h2;simp only[Bool.and_eq_true,decide_eq_true_eq] at h2;exact⟨h1,hT _ h1 (by omega)⟩
 refine⟨λ x hx=>(hm x hx).2,λ x hx j o h1=> ?_⟩;by_cases h2:(L0.getD j default).num%2=0
 ·exact h2
 ·refine absurd ⟨(L0.getD j default).num,⟨j,⟨x,(hm x hx).1,(occ_pre hg hp (hm x hx).2).2 o⟩,?_,?_⟩,by omega⟩ hno
  ·rw[pre_get hp (o.lt hg (hm x hx).2)];exact h1
  ·rw[pre_get hp (o.lt hg (hm x hx).2)]
theorem cs_int{nl nx ny:Nat}{p:PathN}(h:pathOk nl nx ny p=true):(∀c∈p.cs,isB nl c=true)/\p.cs=intsN (p.cs.map Int.toNat):=by
 unfold pathOk at h;simp only[Bool.and_eq_true,List.all_append,List.all_eq_true] at h;refine⟨h.2.1.1,?_⟩;unfold intsN;rw[List.map_map];refine(List.map_id _).symm.trans (List.map_congr_left λ x hx=> ?_);have:=h.2.1.1 x hx;unfold isB at this;simp only[Bool.and_eq_true,decide_eq_true_eq] at this;simp only[Function.comp,id];rw[Int.toNat_of_nonneg this.1]
end Go.Proofs.YtgdpkkjfcdhmdaaGreatDoor
