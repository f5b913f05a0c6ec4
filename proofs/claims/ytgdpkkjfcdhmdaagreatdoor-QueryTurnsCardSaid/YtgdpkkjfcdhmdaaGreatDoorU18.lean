/- Walk: seen, for any list of levels. -/
import Derived.Test.YtgdpkkjfcdhmdaaGreatDoorS0
import Derived.Test.YtgdpkkjfcdhmdaaGreatDoorU17
import Derived.Test.YtgdpkkjfcdhmdaaGreatDoorS24
import Derived.Test.YtgdpkkjfcdhmdaaGreatDoorU1
import Derived.Test.YtgdpkkjfcdhmdaaGreatDoorS17
import Derived.Test.YtgdpkkjfcdhmdaaGreatDoorS22
import Derived.Laws.StructEq
import Derived.Deep.RegionHeld3
namespace Go.Proofs.YtgdpkkjfcdhmdaaGreatDoor
open Go Go.RowKit
section
variable {α:Type} {Ly:Lay α} {d:α} {t e:TypeId} {z:Value} {bytes:Nat}
theorem run_any(T:ElemT Tryz.prog Ly t e z bytes){w:World}{base:Nat}{v:Value}{ps qs:List α}{ax:Option Addr}{m c:Nat}(hown:Ly.Own e w base v ps)(hnc:ax=none->c=0)(hm:qs.length=m)(hat:Ly.At d w ax qs)(hl:ps.length+m<=1000000)(hbase:base<=w.heap.size)(ty:TypeId):
  ∃v' w',(Builtin.append_ #[t,t] ty #[v,.slice ax m c]).run Tryz.prog w= .ok v' w'/\Ly.Own e w' base v' (ps++qs)/\w.grownBy w' v.ownBlock/\(v'.ownBlock=v.ownBlock\/v'.ownBlock=some w.heap.size):=by
 cases ax with
 |none=>
  have hq:qs=[]:=by
   cases qs with
   |nil=>rfl
   |cons q qs=>obtain⟨b,o,e,_⟩:=hat 0 (by simp);cases e
  subst hq;obtain rfl:=hnc rfl;obtain rfl:m=0:=by simpa using hm.symm
  obtain⟨i0,hi,_⟩:=info_parts T.info;exact⟨v,w,run_append_owned_none w base t ty e i0 Ly.sz T.und hi v ps.length (Ly.flat ps) hown,by rw[List.append_nil];exact hown,⟨rfl,rfl,rfl,Nat.le_refl _,λ _ _ _=>rfl⟩,.inl rfl⟩
 |some ad=>exact run_some T hown hm (at_news hat) hl hbase ty
theorem step_join(T:ElemT Tryz.prog Ly t e z bytes){W:World}{ops:Array Oper}{o:Oper}{a:Act}{K:Act->World->Prop}{Q:Exit->Act->World->Prop}{E:Prop}(hgd:o.guard=none)(s x:Operand)
  (ho:o.op= .call {callee:=.builtin .append,args:=#[s,x],argTypes:=#[t,t]}){base:Nat}{v:Value}{ps qs:List α}{ax:Option Addr}{m c:Nat}
  (hs:a.eval s=v)(hown:Ly.Own e W base v ps)(hx:a.eval x= .slice ax m c)(hnc:ax=none->c=0)(hm:qs.length=m)(hat:Ly.At d W ax qs)(hl:ps.length+m<=1000000)(hbase:base<=W.heap.size)
  (h:∀v' w',Ly.Own e w' base v' (ps++qs)->W.grownBy w' v.ownBlock->(v'.ownBlock=v.ownBlock\/v'.ownBlock=some W.heap.size)->K (a.put o.dst v') w'):
  if Region.wanted o (yielded ops a.tmps)=true then Oper.wp Tryz.prog o a W K Q else E:=by
 have hw:Region.wanted o (yielded ops a.tmps)=true:=by simp[Region.wanted,hgd]
 rw[if_pos hw];obtain⟨v',w',hr,h1,h2,h3⟩:=run_any T hown hnc hm hat hl hbase o.type;rw[<-hs] at hr;exact Lib.wp_append_run W s x t t ho _ _ rfl hx v' w' hr (h v' w' h1 h2 h3)
theorem app_join(T:ElemT Tryz.prog Ly t e z bytes){W:World}{ops:Array Oper}{rest:List Oper}{o:Oper}{a:Act}{Q:Exit->Act->World->Prop}(hgd:o.guard=none)(s x:Operand)
  (ho:o.op= .call {callee:=.builtin .append,args:=#[s,x],argTypes:=#[t,t]}){base:Nat}{v:Value}{ps qs:List α}{ax:Option Addr}{m c:Nat}
  (hs:a.eval s=v)(hown:Ly.Own e W base v ps)(hx:a.eval x= .slice ax m c)(hnc:ax=none->c=0)(hm:qs.length=m)(hat:Ly.At d W ax qs)(hl:ps.length+m<=1000000)(hbase:base<=W.heap.size)
  (h:∀v' w',Ly.Own e w' base v' (ps++qs)->W.grownBy w' v.ownBlock->(v'.ownBlock=v.ownBlock\/v'.ownBlock=some W.heap.size)->wpList Tryz.prog ops Q rest (a.put o.dst v') w'):wpList Tryz.prog ops Q (o::rest) a W:=by
 refine wpList_plain hgd λ K' hK'=> ?_
 obtain⟨v',w',hr,h1,h2,h3⟩:=run_any T hown hnc hm hat hl hbase o.type;rw[<-hs] at hr;exact Lib.wp_append_run W s x t t ho _ _ rfl hx v' w' hr (hK' _ _ (h v' w' h1 h2 h3))
end
theorem boxes5(w:World)(a b c:Value)(d e:List Value)(t1 t2 t3 t4 t5:TypeId){w5:World}(h:((((w.alloc (.cells #[a] t1)).alloc (.cells #[b] t2)).alloc (.cells #[c] t3)).alloc (.cells d.toArray t4)).alloc (.cells e.toArray t5)=w5):
  Part w5 w.heap.size [a]/\Part w5 (w.heap.size+1) [b]/\Part w5 (w.heap.size+1+1) [c]/\Part w5 (w.heap.size+1+1+1) d/\Part w5 (w.heap.size+1+1+1+1) e/\Below w.heap.size w w5/\w5.heap.size=w.heap.size+5:=by
 have h1:((w.alloc (.cells #[a] t1))).heap.size=w.heap.size+1:=by simp
 have h2:(((w.alloc (.cells #[a] t1)).alloc (.cells #[b] t2))).heap.size=w.heap.size+1+1:=by simp
 have h3:((((w.alloc (.cells #[a] t1)).alloc (.cells #[b] t2)).alloc (.cells #[c] t3))).heap.size=w.heap.size+1+1+1:=by simp
 have h4:(((((w.alloc (.cells #[a] t1)).alloc (.cells #[b] t2)).alloc (.cells #[c] t3)).alloc (.cells d.toArray t4))).heap.size=w.heap.size+1+1+1+1:=by simp
 subst h;exact⟨((((Part.new w #[a] t1).alloc _).alloc _).alloc _).alloc _,(((Part.made (vs:=[b]) h1).alloc _).alloc _).alloc _,((Part.made (vs:=[c]) h2).alloc _).alloc _,(Part.made (vs:=d) h3).alloc _,Part.made (vs:=e) h4,
  bel_al (bel_al (bel_al (bel_al (bel_al (Below.refl _ _) _) _) _) _) _,by simp⟩
theorem boxes3(w:World)(a b:Value)(c d:Value)(t1 t2 t3:TypeId){w5:World}(h:((w.alloc (.cells #[a,b] t1)).alloc (.cells #[c] t2)).alloc (.cells #[d] t3)=w5):
  Part w5 w.heap.size [a,b]/\Part w5 (w.heap.size+1) [c]/\Part w5 (w.heap.size+1+1) [d]/\Below w.heap.size w w5:=by
 have h1:((w.alloc (.cells #[a,b] t1))).heap.size=w.heap.size+1:=by simp
 have h2:(((w.alloc (.cells #[a,b] t1)).alloc (.cells #[c] t2))).heap.size=w.heap.size+1+1:=by simp
 subst h;exact⟨((Part.new w #[a,b] t1).alloc _).alloc _,(Part.made (vs:=[c]) h1).alloc _,Part.made (vs:=[d]) h2,bel_al (bel_al (bel_al (Below.refl _ _) _) _) _⟩
def SevAt(w:World)(gb mb:Nat)(nv v:Value)(X:List (Int×Int)):Prop:=∃a cap,v= .slice a X.length cap/\Lay.sev.At (0,0) w a X/\∀ad,a=some ad->ad.block<w.heap.size/\¬MutB gb (some mb) nv ad.block
section
variable {u w wr w':World} {B gb mb:Nat} {A A' A1:Nat->Prop} {nv nvk nv' v:Value} {W:Nat} {V:Nat->Bool} {L L0 M M':List Nd} {c c':Nat} {lb N:Nat} {up dn:Nat->Nat} {level:Int} {ca:Option Addr} {cc:Nat} {xs:List Int} {sa:Option Addr} {sc:Nat} {ys:List Int} {sb qb b1 b2 b3 b4 b5:Nat} {X:List (Int×Int)}
theorem SevAt.keep(h:SevAt w gb mb nv v X)(hb:Below w.heap.size w w'):SevAt w' gb mb nv v X:=by
 obtain⟨a,cap,h1,h2,h3⟩:=h;exact⟨a,cap,h1,h2.below hb,λ ad e=>⟨Nat.lt_of_lt_of_le (h3 ad e).1 hb.size,(h3 ad e).2⟩⟩
theorem SevAt.step(h:SevAt w gb mb nv v X)(hr:Run w w' B A A' gb mb nv nv' W M):SevAt w' gb mb nv' v X:=by
 obtain⟨a,cap,h1,h2,h3⟩:=h;exact⟨a,cap,h1,h2.mut hr.mt λ ad e=>(h3 ad e).2,λ ad e=>⟨Nat.lt_of_lt_of_le (h3 ad e).1 hr.mt.size,hr.free (h3 ad e).1 (h3 ad e).2⟩⟩
theorem SevAt.own(h:PG w B A gb mb nv W L)(ho:Lay.sev.Own 83 w' w.heap.size v X):SevAt w' gb mb nv v X:=by
 obtain⟨a,cap,e1,hat,_,_⟩:=ho.at_ (d:=(0,0));refine⟨a,cap,e1,hat,λ ad e=> ?_⟩;rcases(ho:w'.ownsRow w.heap.size 83 Lay.sev.sz v X.length (Lay.sev.flat X)).2 with⟨hv,_⟩|⟨g,cap',cur,hv,hb,_⟩
 ·rw[hv] at e1;injection e1 with e1 _ _;rw[<-e1] at e;cases e
 ·have h1:=(ho.lt g (by rw[hv];rfl)).2;rw[hv] at e1;injection e1 with e1 _ _;rw[<-e1] at e;injection e with e;rw[<-e];exact⟨h1,λ hm=>by have:=(h.lo _ hm).2;simp only at this;omega⟩
theorem Lst.sev{ys:List (Int×Int)}(h:Lst Lay.sev 83 w wr B A A' gb mb nv nvk W M v ys):SevAt wr gb mb nvk v ys:=by
 obtain⟨a,cap,e1,hat,_⟩:=h.form (d:=(0,0));refine⟨a,cap,e1,hat,λ ad e=> ?_⟩;rcases(h.own:wr.ownsRow w.heap.size 83 Lay.sev.sz v ys.length (Lay.sev.flat ys)).2 with⟨hv,_⟩|⟨g,cap',cur,hv,hb,_⟩
 ·rw[hv] at e1;injection e1 with e1 _ _;rw[<-e1] at e;cases e
 ·have h1:=(h.own.lt g (by rw[hv];rfl)).2;have h2:=(h.off g (by rw[hv];rfl)).1;rw[hv] at e1;injection e1 with e1 _ _;rw[<-e1] at e;injection e with e;rw[<-e];exact⟨h1,h2⟩
theorem SevAt.slice{a:Option Addr}{n k:Nat}(h:SevAt w gb mb nv (.slice a n k) X):Lay.sev.At (0,0) w a X/\∀ad,a=some ad->ad.block<w.heap.size/\¬MutB gb (some mb) nv ad.block:=by
 obtain⟨a',k',e,h1,h2⟩:=h;injection e with e1;subst e1;exact⟨h1,h2⟩
structure Cur (u w wr:World) (B:Nat) (A A':Nat->Prop) (gb mb:Nat) (nv nvk:Value) (W:Nat) (V:Nat->Bool) (L0 M:List Nd) (c lb N:Nat) (up dn:Nat->Nat) (level:Int) (ca:Option Addr) (cc:Nat) (xs:List Int) (sa:Option Addr) (sc:Nat) (ys:List Int) (sb qb b1 b2 b3 b4 b5:Nat):Prop where
 run:Run w wr B A A' gb mb nv nvk W M
 oth:OthE u wr B gb mb nvk lb N up dn level ca cc xs sa sc ys sb qb b1 b2 b3 b4 b5
 st:St W V L0 M c
theorem Cur.keep(h:Cur u w wr B A A' gb mb nv nvk W V L0 M c lb N up dn level ca cc xs sa sc ys sb qb b1 b2 b3 b4 b5)(hb:Below wr.heap.size wr w'):Cur u w w' B A A' gb mb nv nvk W V L0 M c lb N up dn level ca cc xs sa sc ys sb qb b1 b2 b3 b4 b5:=⟨h.run.keep hb,h.oth.keep hb,h.st⟩
theorem Cur.step(h:Cur u w wr B A A' gb mb nv nvk W V L0 M c lb N up dn level ca cc xs sa sc ys sb qb b1 b2 b3 b4 b5)(hr:Run wr w' B (λ k=>A k\/A' k) A1 gb mb nvk nv' W M')(hs:St W V L0 M' c'):Cur u w w' B A (λ k=>A' k\/A1 k) gb mb nv nv' W V L0 M' c' lb N up dn level ca cc xs sa sc ys sb qb b1 b2 b3 b4 b5:=
 ⟨h.run.trans hr,h.oth.step hr,hs⟩
end
theorem at_one_cell{w:World}{b o t:Nat}(h1:b<w.heap.size)(h2:w.cell? ⟨b,o,none⟩=some (.int .i64 (t:Int))):(Lay.int .i64).At 0 w (some ⟨b,o,none⟩) (intsN [t]):=λ i hi=>by
 simp[intsN] at hi;subst hi;exact⟨b,o,rfl,h1,λ j hj=>by
  simp[Lay.int] at hj;subst hj;simpa[Lay.int,intsN] using h2⟩
theorem fields83:Tryz.prog.underlying 83=some (.struct (Tryz.prog.fieldsOf 83)):=by kernel_rfl
theorem stood83:Tryz.prog.stoodInHeld 83=false:=by kernel_rfl
theorem fl83:((Tryz.prog.fieldsOf 83).toList.map λ f=>(f.name,f.type,f.offset))=[("N",3,0),("Term",3,1)]:=by kernel_rfl
theorem eqFields_map'(d:Nat)(xs ys:Array Value):∀(fs gs:List Field),fs.map (λ f=>(f.name,f.type,f.offset))=gs.map (λ f=>(f.name,f.type,f.offset))->Op.eqFields d xs ys fs=Op.eqFields d xs ys gs
 |[],[],_=>rfl
 |[],g::gs,h=>by simp at h
 |f::fs,[],h=>by simp at h
 |f::fs,g::gs,h=>by
  simp only[List.map_cons,List.cons.injEq,Prod.mk.injEq] at h;obtain⟨⟨h1,h2,h3⟩,h4⟩:=h;unfold Op.eqFields;rw[h1,h2,h3,eqFields_map' d xs ys fs gs h4]
theorem eq_sev(x y x' y':Int)(W:World):(Op.equalIn 10000 83 (.agg #[.int .i64 x,.int .i64 y]) (.agg #[.int .i64 x',.int .i64 y'])).run Tryz.prog W= .ok (x==x'&&y==y') W:=by
 rw[show(10000:Nat)=9998+1+1 from rfl,run_equalIn_struct W _ 83 _ _ fields83 stood83,
  eqFields_map' _ _ _ _ [⟨"N",3,0,false,"","",0⟩,⟨"Term",3,1,false,"","",8⟩] fl83]
 cases hx:(x==x')<;>cases hy:(y==y')<;>
  simp[Op.eqFields,part,isAgg,run_underlying Tryz.underlying3,run_equalIn_int,Tryz.underlying3,hx,hy]
theorem neq_sev(x y x' y':Int)(W:World):(binOp .neq 83 (.agg #[.int .i64 x,.int .i64 y]) (.agg #[.int .i64 x',.int .i64 y'])).run Tryz.prog W= .ok (.bool (!(x==x'&&y==y'))) W:=by
 rw[run_neq_struct,eq_sev];rfl
def termsI(p:PathN):List Int:=p.cs++p.os.map (·.2)++p.rs.map (·.2)
def termsN(p q:PathN):List Nat:=(termsI p++termsI q).map Int.toNat
def okB(N nl nx ny:Nat)(level:Int)(p q:PathN):Bool:=isB N level&&[p,q].all (pathOk nl nx ny)
def OddV(L:List Nd)(ts:List Nat):Prop:=∃n:Nat,VarInS L ts n/\n%2=1
section
variable {u w:World} {B gb mb:Nat} {A:Nat->Prop} {nv:Value} {W:Nat} {L L0:List Nd} {c:Nat} {lb N:Nat} {up dn:Nat->Nat} {level:Int} {ca:Option Addr} {cc:Nat} {xs:List Int} {sa:Option Addr} {sc:Nat} {ys:List Int} {sb:Nat} {sens:Bool} {p q:PathN}
set_option maxRecDepth 100000 in
set_option maxHeartbeats 16000000 in
theorem leak_bad(hu:Below u.heap.size u w)(hS:SideAt u sb lb ca cc xs sa sc ys)(hL:LatC u lb N up dn)(hp:p.Ok u)(hps:p.short)(hq:q.Ok u)(hqs:q.short)(h:PG w B A gb mb nv W L)(hok:okB N L.length xs.length ys.length level p q=false):
  Calls Tryz.prog 8 #[.pointer (some ⟨sb,0,none⟩),.pointer (some ⟨gb,0,none⟩),.int .i64 level,p.v,q.v] w λ e w'=>e= .returned (.tuple #[.int .i64 0,.int .i64 3])/\Below w.heap.size w w':=by
 obtain⟨na,nc,hgn,_⟩:=h.rv.nodes;have HMAY:Hid (∀w',Below w.heap.size w w'->∀a,Lay.path.At default w' a [p,q]->Calls Tryz.prog 23 #[.pointer (some ⟨sb,0,none⟩),.pointer (some ⟨gb,0,none⟩),.int .i64 level,.slice a 2 2] w' λ e w''=>e= .returned (.int .i64 3)/\Below w'.heap.size w' w''):=Z λ w' hb a ha=>by
  have hb':Below u.heap.size u w':=hu.trans (hb.mono hu.size);have:=may23 N gb L.length level a 2 [p,q] w' (hS.below hb') (hL.below' hb').hn ((hb.cell (p:=⟨gb,2,none⟩) h.rv.low).trans hgn) ha (λ r hr=>by simp at hr;rcases hr with rfl|rfl;exact⟨hp.below hb',hps⟩;exact⟨hq.below hb',hqs⟩) (by simp);unfold okB at hok;rw[hok] at this;exact this
 have HPA:Hid (∀w':World,Lay.path.At default (w'.alloc (.cells (Lay.path.f p++Lay.path.f q).toArray 28)) (some ⟨w'.heap.size,0,none⟩) [p,q]):=Z λ w'=>by
  have:=Lay.At.made (L:=Lay.path) (d:=default) w' [p,q] 28;simpa[Lay.flat] using this
 clear hu hS hL hp hps hq hqs h hok hgn;obtain⟨pca,pcc,pcs,pst,psp,poa,poc,pos,pra,prc,prs,pba,pbc,pbs,pia,pic,pis⟩:=p;obtain⟨qca,qcc,qcs,qst,qsp,qoa,qoc,qos,qra,qrc,qrs,qba,qbc,qbs,qia,qic,qis⟩:=q;simp only[PathN.v] at*;go_enter Tryz.func8,Tryz.ntmps8
 go_upto_region 1 with fail
 generalize hw5:((((w.alloc (.cells #[.pointer (some ⟨sb,0,none⟩)] 32)).alloc (.cells #[.pointer (some ⟨gb,0,none⟩)] 34)).alloc (.cells #[.int .i64 level] 3)).alloc (.cells #[.slice pca pcs.length pcc,.int .u8 pst,.int .i64 psp,.slice poa pos.length poc,.slice pra prs.length prc,.slice pba pbs.length pbc,.slice pia pis.length pic] 28)).alloc (.cells #[.slice qca qcs.length qcc,.int .u8 qst,.int .i64 qsp,.slice qoa qos.length qoc,.slice qra qrs.length qrc,.slice qba qbs.length qbc,.slice qia qis.length qic] 28)=w5;obtain⟨q1,q2,q3,q4,q5,qb,qs⟩:=boxes5 w _ _ _ _ _ _ _ _ _ _ hw5;have c5:=(q1.at_ 0 _ rfl).1;have c6:=(q2.at_ 0 _ rfl).1;have c7:=(q3.at_ 0 _ rfl).1;have a0:=(q4.at_ 0 _ rfl).1;have a1:=(q4.at_ 1 _ rfl).1;have a2:=(q4.at_ 2 _ rfl).1;have a3:=(q4.at_ 3 _ rfl).1;have a4:=(q4.at_ 4 _ rfl).1;have a5:=(q4.at_ 5 _ rfl).1;have a6:=(q4.at_ 6 _ rfl).1;have b0:=(q5.at_ 0 _ rfl).1;have b1:=(q5.at_ 1 _ rfl).1;have b2:=(q5.at_ 2 _ rfl).1;have b3:=(q5.at_ 3 _ rfl).1;have b4:=(q5.at_ 4 _ rfl).1;have b5:=(q5.at_ 5 _ rfl).1;have b6:=(q5.at_ 6 _ rfl).1;have HB5:=Z qb;have HB14:Hid (Below w.heap.size w (w5.alloc (.cells #[.slice pca pcs.length pcc,.int .u8 pst,.int .i64 psp,.slice poa pos.length poc,.slice pra prs.length prc,.slice pba pbs.length pbc,.slice pia pis.length pic,.slice qca qcs.length qcc,.int .u8 qst,.int .i64 qsp,.slice qoa qos.length qoc,.slice qra qrs.length qrc,.slice qba qbs.length qbc,.slice qia qis.length qic] 28))):=Z (bel_al qb _);have HM:Hid (Calls Tryz.prog 23 #[.pointer (some ⟨sb,0,none⟩),.pointer (some ⟨gb,0,none⟩),.int .i64 level,.slice (some ⟨w5.heap.size,0,none⟩) 2 2] (w5.alloc (.cells #[.slice pca pcs.length pcc,.int .u8 pst,.int .i64 psp,.slice poa pos.length poc,.slice pra prs.length prc,.slice pba pbs.length pbc,.slice pia pis.length pic,.slice qca qcs.length qcc,.int .u8 qst,.int .i64 qsp,.slice qoa qos.length qoc,.slice qra qrs.length qrc,.slice qba qbs.length qbc,.slice qia qis.length qic] 28)) λ e w''=>e= .returned (.int .i64 3)/\Below (w5.alloc (.cells #[.slice pca pcs.length pcc,.int .u8 pst,.int .i64 psp,.slice poa pos.length poc,.slice pra prs.length prc,.slice pba pbs.length pbc,.slice pia pis.length pic,.slice qca qcs.length qcc,.int .u8 qst,.int .i64 qsp,.slice qoa qos.length qoc,.slice qra qrs.length qrc,.slice qba qbs.length qbc,.slice qia qis.length qic] 28)).heap.size (w5.alloc (.cells #[.slice pca pcs.length pcc,.int .u8 pst,.int .i64 psp,.slice poa pos.length poc,.slice pra prs.length prc,.slice pba pbs.length pbc,.slice pia pis.length pic,.slice qca qcs.length qcc,.int .u8 qst,.int .i64 qsp,.slice qoa qos.length qoc,.slice qra qrs.length qrc,.slice qba qbs.length qbc,.slice qia qis.length qic] 28)) w''):=Z (HMAY.o _ HB14.o _ (HPA.o w5));have HS5:=Z qs;clear hw5 q1 q2 q3 q4 q5 qb qs HMAY HPA;generalize hp0:w.heap.size=p0 at*;generalize p0+1=p1 at*;generalize p1+1=p2 at*;generalize p2+1=p3 at*;generalize p3+1=p4 at*
 go_wp2_with(go_at_call 23;refine HM.o.mono ?_;rintro e w6 ⟨rfl,hb6⟩;have HB6:=Z hb6;clear hb6)
 go_ret2
 subst hp0;exact⟨rfl,HB14.o.trans (HB6.o.mono HB14.o.size)⟩
end
end Go.Proofs.YtgdpkkjfcdhmdaaGreatDoor
namespace Go.Proofs.YtgdpkkjfcdhmdaaGreatDoor
open Go.RowKit
def sideOk(n:Nat)(xs ys:List Int):Bool:=decide (1<=xs.length)&&decide (xs.length<=32)&&decide (ys.length<=32)&&(xs++ys).all (isB n)
def NewSP(w:World)(lb n:Nat)(xs ys:List Int)(sens:Bool)(e:Ending)(w':World):Prop:=
 Below w.heap.size w w'/\((sideOk n xs ys=false/\e= .returned (.tuple #[.pointer none,.int .i64 3]))\/
  (sideOk n xs ys=true/\∃sb ca cc sa sc,e= .returned (.tuple #[.pointer (some ⟨sb,0,none⟩),.int .i64 0])/\SideAt w' sb lb ca cc xs sa sc ys/\w'.cell? ⟨sb,3,none⟩=some (.bool sens)))
theorem sideOk_len{n:Nat}{xs ys:List Int}(h:¬(1<=xs.length/\xs.length<=32/\ys.length<=32)):sideOk n xs ys=false:=by
 unfold sideOk;rw[Bool.eq_false_iff];intro e;simp only[Bool.and_eq_true,decide_eq_true_eq] at e;exact h ⟨e.1.1.1,e.1.1.2,e.1.2⟩
theorem sideOk_bad{n:Nat}{xs ys:List Int}{k:Nat}(hk:k<(xs++ys).length)(h:isB n ((xs++ys).getD k 0)=false):sideOk n xs ys=false:=by
 unfold sideOk;have:(xs++ys).all (isB n)=false:=List.all_eq_false.2 ⟨_,getD_mem 0 _ k hk,by rw[h];decide⟩;rw[this,Bool.and_false]
theorem sideOk_good{n:Nat}{xs ys:List Int}(h1:1<=xs.length)(h2:xs.length<=32)(h3:ys.length<=32)(h:(xs++ys).all (isB n)=true):sideOk n xs ys=true:=by
 unfold sideOk;rw[h];simp[h1,h2,h3]
set_option maxRecDepth 100000 in
set_option maxHeartbeats 2000000 in
theorem new16(lb n:Nat)(ca:Option Addr)(cc:Nat)(xs:List Int)(sa:Option Addr)(sc:Nat)(ys:List Int)(sens:Bool)(w:World)(hn:w.cell? ⟨lb,0,none⟩=some (.int .i64 n))
  (hx:(Lay.int .i64).At 0 w ca xs)(hxn:ca=none->cc=0)(hy:(Lay.int .i64).At 0 w sa ys)(hyn:sa=none->sc=0)(hxl:xs.length<=1000)(hyl:ys.length<=1000):
  Calls Tryz.prog 19 #[.pointer (some ⟨lb,0,none⟩),.slice ca xs.length cc,.slice sa ys.length sc,.bool sens] w (NewSP w lb n xs ys sens):=by
 by_cases hb:1<=xs.length/\xs.length<=32/\ys.length<=32
 ·obtain⟨h1,h2,h3⟩:=hb;have d1:decide ((xs.length:Int)<1)=false:=by simp;omega
  have d2:decide ((32:Int)<(xs.length:Int))=false:=by simp;omega
  have d3:decide ((32:Int)<(ys.length:Int))=false:=by simp;omega
  have HX:=Z hx;have HY:=Z hy;have HXN:=Z hxn;have HYN:=Z hyn;have HLT:Hid (lb<w.heap.size):=Z (World.block_lt_of_cell? w _ hn);have HLN:Hid (xs.length<=32/\ys.length<=32/\1<=xs.length):=Z ⟨h2,h3,h1⟩;clear hx hy hxn hyn h1 h2 h3 hxl hyl;go_enter Tryz.func19,Tryz.ntmps19
  go_wp2_with(first
   |(at_builtin
     refine app_lay_at Tryz.elemI (d:=0) (qs:=xs) rfl _ _ rfl rfl (Lay.Own.nil w w.heap.size) rfl HXN.o rfl HX.o (by have:=HLN.o;show 0+xs.length<=1000000;omega) (Nat.le_refl _) ?_;intro v1 w1 r1 r2;rw[List.nil_append] at r1;have HO1:=Z r1;have HB1:=Z r2;clear r1 r2)
   |(at_builtin
     refine app_lay_at Tryz.elemI (d:=0) (qs:=ys) rfl _ _ rfl rfl HO1.o rfl HYN.o rfl (HY.o.below HB1.o) (by have:=HLN.o;omega) HB1.o.size ?_;intro v2 w2 r1 r2;obtain⟨va,vc,rfl,hvat,_,_⟩:=r1.at_ (d:=0);generalize hm:(xs++ys).length=m at*;have HV2:=Z hvat;have HB2:=Z (HB1.o.trans r2);clear r1 r2 hvat))
  have hn2:=(HB2.o.cell (p:=⟨lb,0,none⟩) HLT.o).trans hn;have HM:Hid (m<=64):=Z (by rw[<-hm,List.length_append];have:=HLN.o;omega);have HMM:=Z hm;have hm64:=HM.o;have HTK:Hid (∀k,k<m->(xs++ys).take (k+1)=(xs++ys).take k++[(xs++ys).getD k 0]):=Z λ k hk=>take_getD 0 _ k (by omega)
  have HBAD:Hid (∀k,k<m->isB n ((xs++ys).getD k 0)=false->sideOk n xs ys=false):=Z λ k hk h=>sideOk_bad (by omega) h
  have HGOOD:Hid ((xs++ys).all (isB n)=true->sideOk n xs ys=true):=Z λ h=>sideOk_good HLN.o.2.2 HLN.o.1 HLN.o.2.1 h
  have HFU:Hid ((xs++ys).take m=xs++ys):=Z (by rw[<-hm,List.take_length]);clear hm
  go_wp2_with fail
  go_loop [32] (λ i=>∃k:Nat,k<=m/\i= .int .i64 k/\Hid (((xs++ys).take k).all (isB n)=true)) (λ i=>m-(intOf i).toNat)
  case atStart=>exact⟨0,by omega,rfl,Z (by simp)⟩
  case round=>
   obtain⟨k,hk,rfl,HAL⟩:=hrel;by_cases hlt:k<m
   ·obtain⟨pb,po,rfl,hpb,p0⟩:=HV2.o.int (i:=k) (by rw[HMM.o];exact hlt);have HT:=Z (HTK.o k hlt);have HBD:=Z (HBAD.o k hlt);have hki:(k:Int)<m:=by omega
    clear hpb;generalize(xs++ys).getD k 0=x at*;by_cases h0:x<0
    ·have HR:Hid (sideOk n xs ys=false):=Z (HBD.o (by simp[isB];omega))
     go_wp2_with fail
     go_ret2
     exact⟨HB2.o,.inl ⟨HR.o,rfl⟩⟩
    ·have h0':decide (x<0)=false:=by simpa using h0
     have HC:=Z (len_any lb n w2 hn2);by_cases h1:(n:Int)<=x
     ·have HR:Hid (sideOk n xs ys=false):=Z (HBD.o (by simp[isB];omega))
      go_wp2_with fail
      refine HC.o.mono ?_;rintro e w' ⟨rfl,rfl⟩
      go_wp2_with fail
      go_ret2
      exact⟨HB2.o,.inl ⟨HR.o,rfl⟩⟩
     ·have h1':decide ((n:Int)<=x)=false:=by simpa using h1
      have HR:Hid (isB n x=true):=Z (by simp[isB];omega)
      go_wp2_with fail
      refine HC.o.mono ?_;rintro e w' ⟨rfl,rfl⟩
      go_wp2_with fail
      go_round
      case rel=>exact⟨k+1,by omega,by go_num,Z (by rw[HT.o,List.all_append,HAL.o];simp[HR.o])⟩
      case measure=>simp[intOf];omega
   ·obtain rfl:k=m:=by omega
    rw[HFU.o] at HAL;have HR:=Z (HGOOD.o HAL.o);clear HAL
    go_wp2_with(at_builtin;refine app_lay_at Tryz.elemI (d:=0) (qs:=xs) rfl _ _ rfl rfl (Lay.Own.nil w2 w.heap.size) rfl HXN.o rfl (HX.o.below HB2.o) (by have:=HLN.o;show 0+xs.length<=1000000;omega) HB2.o.size ?_)
    intro v3 w3 r1 r2
    try rw[List.nil_append] at r1
    obtain⟨xa,xc,rfl,hxat,_,_⟩:=r1.at_ (d:=0);have HX3:=Z hxat;have HB3:=Z (HB2.o.trans r2);clear r1 r2 hxat
    go_wp2_with(at_builtin;refine app_lay_at Tryz.elemI (d:=0) (qs:=ys) rfl _ _ rfl rfl (Lay.Own.nil w3 w3.heap.size) rfl HYN.o rfl (HY.o.below HB3.o) (by have:=HLN.o;show 0+ys.length<=1000000;omega) (Nat.le_refl _) ?_)
    intro v4 w4 r1 r2
    try rw[List.nil_append] at r1
    obtain⟨ya,yc,rfl,hyat,_,_⟩:=r1.at_ (d:=0);have HY4:=Z hyat;have HX4:=Z (HX3.o.below r2);have HB4:=Z (HB3.o.trans (r2.mono HB3.o.size));clear r1 r2 hyat
    go_wp2_with fail
    go_ret2
    refine⟨HB4.o.alloc HB4.o.size _,.inr ⟨HR.o,_,xa,xc,ya,yc,rfl,⟨?_,?_,?_,HX4.o.below ((Below.refl _ _).alloc (Nat.le_refl _) _),HY4.o.below ((Below.refl _ _).alloc (Nat.le_refl _) _)⟩,?_⟩⟩<;>(rw[World.cell?_alloc_new];rfl)
 ·have HR:=Z (sideOk_len (n:=n) hb);clear hx hxn hy hyn;generalize xs.length=l1 at*;generalize ys.length=l2 at*;by_cases c1:l1<1
  ·have d1:decide ((l1:Int)<1)=true:=by simp;omega
   clear hb;go_enter Tryz.func19,Tryz.ntmps19
   go_wp2_with fail
   go_ret2
   exact⟨Below.refl _ _,.inl ⟨HR.o,rfl⟩⟩
  ·have d1:decide ((l1:Int)<1)=false:=by simp;omega
   by_cases c2:32<l1
   ·have d2:decide ((32:Int)<(l1:Int))=true:=by simp;omega
    clear hb;go_enter Tryz.func19,Tryz.ntmps19
    go_wp2_with fail
    go_ret2
    exact⟨Below.refl _ _,.inl ⟨HR.o,rfl⟩⟩
   ·have d2:decide ((32:Int)<(l1:Int))=false:=by simp;omega
    have d3:decide ((32:Int)<(l2:Int))=true:=by simp;omega
    clear hb;go_enter Tryz.func19,Tryz.ntmps19
    go_wp2_with fail
    go_ret2
    exact⟨Below.refl _ _,.inl ⟨HR.o,rfl⟩⟩
structure SideX (w:World) (sb lb:Nat) (ca:Option Addr) (xs:List Int):Prop where
 l:w.cell? ⟨sb,0,none⟩=some (.pointer (some ⟨lb,0,none⟩))
 x:(Lay.int .i64).At 0 w ca xs
theorem SideX.below{w w':World}{sb lb:Nat}{ca:Option Addr}{xs:List Int}(h:SideX w sb lb ca xs)(hb:Below w.heap.size w w'):SideX w' sb lb ca xs:=⟨(hb.cell (World.block_lt_of_cell? _ _ h.l)).trans h.l,h.x.below hb⟩
set_option maxRecDepth 100000 in
set_option maxHeartbeats 2000000 in
theorem seenX{sb lb:Nat}{ca:Option Addr}{cc:Nat}{xs:List Int}(n:Nat)(up dn:Nat->Nat)(level:Int)(ea:Option Addr)(ecap:Nat)(es:List (Int×Int))(w:World)
  (hs:SideX w sb lb ca xs)(hL:LatC w lb n up dn)(hin:∀p∈es,0<=p.1/\p.1<xs.length)(hea:Lay.sev.At (0,0) w ea es)(hsm:es.length<=1000):
  Calls Tryz.prog 29 #[.pointer (some ⟨sb,0,none⟩),.int .i64 level,.slice ca xs.length cc,.slice ea es.length ecap] w λ e w'=>∃v,e= .returned v/\Lay.sev.Own 83 w' w.heap.size v (seen n up level xs es)/\Below w.heap.size w w':=by
 have HS:=Z hs;have HL:=Z hL;have HIN:=Z hin;have HE:=Z hea;have HT:=Z (seen_take n up level xs es);have HTL:=Z (seen_len n up level xs es);have HF:Hid (es.take es.length=es):=Z List.take_length;clear hs hL hin hea;generalize hlen:es.length=elen at*;have HLEN:=Z hlen;generalize hxl:xs.length=xl at*;have HXL:=Z hxl;clear hlen hxl;go_enter Tryz.func29,Tryz.ntmps29
 go_wp2_with fail
 go_loopw [9,14] (λ v i wr=>∃k:Nat,k<=elen/\i= .int .i64 k/\Hid (Lay.sev.Own 83 wr w.heap.size v (seen n up level xs (es.take k)))/\Below w.heap.size w wr) (λ _ i _=>elen-(intOf i).toNat)
 case atStart=>exact⟨0,by omega,rfl,Z (Lay.Own.nil _ _),Below.refl _ _⟩
 case round=>
  obtain⟨k,hk,rfl,hown,hbel⟩:=hrel;have HOW:=Z hown.o;have HBE:=Z hbel;have hsz:=hbel.size;clear hown hbel;by_cases hlt:k<elen
  ·have hq:k<es.length:=by rw[HLEN.o];exact hlt
   obtain⟨pb,po,rfl,hpb,p0,p1⟩:=HE.o.sev hq;have c0:=(HBE.o.cell (p:=⟨pb,po+k*2,none⟩) hpb).trans p0;have c1:=(HBE.o.cell (p:=⟨pb,po+k*2+1,none⟩) hpb).trans p1;obtain⟨o1,o2⟩:=HIN.o _ (getD_mem (0,0) es k hq);have HTK:=Z (HT.o k hlt);have hbl:=HTL.o k;have HBL:=Z hbl;have hki:(k:Int)<elen:=by omega
   clear p0 p1 hq hbl;generalize es.getD k (0,0)=ev at*;obtain⟨N,T⟩:=ev;simp only at c0 c1 o1 o2 HTK;obtain⟨N,rfl⟩:=Int.eq_ofNat_of_zero_le o1;rw[Int.toNat_natCast] at HTK;have BX:Below wr.heap.size wr (wr.alloc (.cells #[.int .i64 N,.int .i64 T] 83)):=(Below.refl _ _).alloc (Nat.le_refl _) _;have BX0:=HBE.o.trans (BX.mono hsz);have q0:(wr.alloc (.cells #[.int .i64 N,.int .i64 T] 83)).cell? ⟨wr.heap.size,0,none⟩=some (.int .i64 N):=by rw[World.cell?_alloc_new];rfl
   have q1:(wr.alloc (.cells #[.int .i64 N,.int .i64 T] 83)).cell? ⟨wr.heap.size,1,none⟩=some (.int .i64 T):=by rw[World.cell?_alloc_new];rfl
   have s2:=HS.o.below BX0;obtain⟨lvb,lvo,rfl,hlvb,l0⟩:=s2.x.int (i:=N) (by rw[HXL.o];omega);have s0:=s2.l;have HC:=Z (λ m=>le_q lb n up dn (xs.getD N 0) level _ (HL.o.below' BX0) m);have hown2:=HOW.o.grown BX;have HO2:=Z hown2;have HBX:=Z BX;have HBX0:=Z BX0;have hsz2:=BX0.size;have hN:(N:Int)<xl:=by omega
   clear s2 hown2 BX BX0;generalize xs.getD N 0=lv at*;cases hc:leB n up lv level with
   |true=>
    rw[hc] at HC HTK;clear hc
    go_wp2_with fail
    generalize wr.alloc (.cells #[.int .i64 N,.int .i64 T] 83)=w2 at*
    go_quiet((go_at_call 40;exact HC.o _))
    go_wp2_with(at_builtin;refine app_lay_new_g Tryz.elemE [((N:Int),T)] rfl _ _ rfl rfl (HO2.o.grown (below_drewN (Below.refl _ _) _)) rfl (by first|rfl|simp) rfl (by have:=HBL.o;omega) (by first|exact hsz2|(simp;omega)) ?_)
    intro v' w3 r1 r2
    go_wp2_with fail
    go_roundw
    case rel=>exact⟨k+1,by omega,by go_num,Z (by rw[HTK.o];exact r1),(below_drewN HBX0.o _).trans r2⟩
    case measure=>simp[intOf]<;>omega
   |false=>
    rw[hc] at HC HTK;clear hc
    go_wp2_with fail
    generalize wr.alloc (.cells #[.int .i64 N,.int .i64 T] 83)=w2 at*
    go_quiet((go_at_call 40;exact HC.o _))
    go_wp2_with fail
    go_roundw
    case rel=>exact⟨k+1,by omega,by go_num,Z (by rw[HTK.o];simpa using HO2.o.grown (below_drewN (Below.refl _ _) _)),below_drewN HBX0.o _⟩
    case measure=>simp[intOf]<;>omega
  ·obtain rfl:k=elen:=by omega
   rw[HF.o] at HOW
   go_wp2_with fail
   go_ret
   exact⟨_,rfl,HOW.o,HBE.o⟩
end Go.Proofs.YtgdpkkjfcdhmdaaGreatDoor
