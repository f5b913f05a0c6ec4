/- Walk: twin.Term. -/
import Derived.Test.YtgdpkkjfcdhmdaaGreatDoorR37
namespace Go.Proofs.YtgdpkkjfcdhmdaaGreatDoor
open Go Go.RowKit
theorem ut{α:Type}{d:Lay α}{t e:TypeId}{z:Value}{f:Nat}(T:jp Tryz.prog d t e z f){w:World}{ops:Array Oper}{rest:List Oper}{o:Oper}{a:Act}{Q:Exit->Act->World->Prop}(qs:List α)(C:o.guard=none)(s x:Operand) (F:o.op= .call {callee:=.builtin .append,args:=#[s,x],argTypes:=#[t,t]}){base g:Nat}{v:Value}{ps:List α}{m c:Nat} (H:a.eval s=v)(G:d.Own e w base v ps)(I:a.eval x= .slice (some ⟨g,0,none⟩) m c)(r:g=w.heap.size)(E:qs.length=m) (D:ps.length+m<=1000000)(hbase:base<=w.heap.size) (h:∀b w',d.Own e w' base b (ps++qs)->(w.alloc (.cells (d.flat qs).toArray e)).grownBy w' v.ownBlock->(b.ownBlock=v.ownBlock\/b.ownBlock=some (w.heap.size+1))->wpList Tryz.prog ops Q rest (a.put o.dst b) w'):wpList Tryz.prog ops Q (o::rest) a (w.alloc (.cells (d.flat qs).toArray e)):=by refine wpList_plain C λ K' q=> ?_;subst r;obtain⟨b,w',hr,j,k,n⟩:=ud T (c:=c) (G.alloc _) E (qg w qs e) D (by simp;omega) o.type;rw[<-H] at hr;exact Lib.wp_append_run _ s x t t F _ _ rfl I b w' hr (q _ _ (h b w' j k (by simpa using n)))
theorem uu(V:Nat->Bool)(n:Nat):∀(l:List Nat) (L:List Nd),twL V (l++[n]) L=if V n then twL V l L else fW (vN (n+1)) (twL V l L)|[],_=>rfl|_::l,_=>uu V n l _
def twT(V:Nat->Bool)(l:List Nat)(M:List Nd):List Nat:=(l.filter λ n=> !V n).map λ n=>fN (vN (n+1)) M
theorem OA{V:Nat->Bool}{l:List Nat}{L M:List Nd}(h:L<+:M)(b:∀n∈l,V n=false->vN (n+1)∈L):twT V l M=twT V l L:=by unfold twT;refine List.map_congr_left λ n a=> ?_;rw[List.mem_filter] at a;obtain⟨r,rfl⟩:=h;exact rN r (b n a.1 (by simpa using a.2))
theorem OB{V:Nat->Bool}{l:List Nat}{n:Nat}{L:List Nd}(a:V n=false):twT V (l++[n]) (twL V (l++[n]) L)=twT V l (twL V l L)++[fN (vN (n+1)) (twL V l L)]:=by have e:twL V (l++[n]) L=fW (vN (n+1)) (twL V l L):=by{rw[uu,a];rfl};rw[e,<-OA (rM (vN (n+1)) (twL V l L)) (sf V l L)];unfold twT;rw[List.filter_append,List.map_append];simp[a,uQ]
theorem EN(f:Nat->Nat)(x:Nat):∀l:List Nat,lkS (jI l (l.map f)) (x:Int)=if x∈l then some (.int .i64 (f x:Nat)) else none|[]=>rfl|n::l=>by have b:=EN f x l;unfold jI at b⊢;rw[List.map_cons,List.zip_cons_cons,List.map_cons];show(if((n:Nat):Int)=(x:Int) then some (Value.int .i64 (f n:Nat)) else lkS _ _)=_;rw[b];by_cases e:n=x;{subst e;simp};have c:¬((n:Nat):Int)=(x:Int):=by{omega};rw[if_neg c];have a:x∈n::l↔x∈l:=by{simp[Ne.symm e]};by_cases hx:x∈l;{rw[if_pos hx,if_pos (a.2 hx)]};rw[if_neg hx,if_neg λ h=>hx (a.1 h)]
structure OC (W:Nat) (V:Nat->Bool) (vs:List Nat) (occ:Nat->Bool) (t:Nat) (L:List Nd):Prop where
 sig:∀i,i<=t->occ i=true->((twL V vs L).getD i default).op=1->lkS (jI (vs.filter λ n=> !V n) (twT V vs (twL V vs L))) (((twL V vs L).getD i default).num:Int)=(twS V vs (twL V vs L) ((twL V vs L).getD i default).num).map λ s=>.int .i64 (s:Nat)
 room:∀k,k<=t+1->(fO W (twS V vs (twL V vs L)) (twL V vs L) occ (twL V vs L) k).2.length<=999
 bl:∀k,k<=t->∀a,a<k->occ a=true->(fO W (twS V vs (twL V vs L)) (twL V vs L) occ (twL V vs L) k).1.getD a 0<(fO W (twS V vs (twL V vs L)) (twL V vs L) occ (twL V vs L) k).2.length
 occ:∀j,occ j=true↔Occ (twL V vs L) t j
 lt:t<(twL V vs L).length
 ts:∀s∈twT V vs (twL V vs L),s<(twL V vs L).length
theorem OD{W:Nat}{V:Nat->Bool}(K:1<=W)(M:W<=64){L0 L:List Nd}{c t:Nat}{vs:List Nat}{occ:Nat->Bool}(h:St W V L0 L c)(hr:c+L0.length+12<=999)(X:t<L0.length)(Y:yb L t vs)(R:∀n∈vs,n+1<12)(J:∀j,occ j=true↔Occ L t j):OC W V vs occ t L:=by have b:St W V L0 (twL V vs L) c:=h.twins λ n r _=>R n r;have F:t<L.length:=A9 X h.pre.length_le;have z:=uo V vs L;obtain⟨D,E,q,hl⟩:=b.cnt;have S:∀i a,occ i=true->a∈((twL V vs L).getD i default).args->occ a=true:=λ i a d H=>by{rw[J] at d⊢;exact .arg d (by rwa[iC z (d.lt h.gok F)] at H)};have f:∀i,occ i=true->((twL V vs L).getD i default).op=1->((twL V vs L).getD i default).num∈vs:=λ i d b=>by{have O:=(J i).1 d;have e:=iC z (O.lt h.gok F);rw[e] at b⊢;exact(Y _).2 ⟨i,O,b,rfl⟩};have C:∀i,occ i=true->((twL V vs L).getD i default).op=1->(V ((twL V vs L).getD i default).num=true->twS V vs (twL V vs L) ((twL V vs L).getD i default).num=none)/\(V ((twL V vs L).getD i default).num=false->vN (((twL V vs L).getD i default).num+1)∈twL V vs L/\twS V vs (twL V vs L) ((twL V vs L).getD i default).num=some (fN (vN (((twL V vs L).getD i default).num+1)) (twL V vs L))):=λ i d b=>by{have f:=f i d b;refine⟨λ g=>if_neg λ q=> ?_,λ g=>⟨sf V vs L _ f g,if_pos ⟨f,g⟩⟩⟩;rw[g] at q;exact absurd q.2 (by decide)};have hle:=q.le;have P:=λ k I=>xX K M b.gok b.vok S C b.pre.length_le q k I;refine⟨λ i _ d b=> ?_,λ k I=> ?_,λ k I a H U=> ?_,λ j=>(J j).trans (uq h.gok z F).symm,A9 F z.length_le,λ s C=> ?_⟩;{unfold twT;rw[EN λ n=>fN (vN (n+1)) (twL V vs L)];unfold twS;have f:=f i d b;generalize((twL V vs L).getD i default).num=x at f⊢;cases g:V x with|true=>rw[if_neg (by simp[g]),if_neg (by simp)];rfl|false=>rw[if_pos (by simp[g,f]),if_pos ⟨f,rfl⟩];rfl};{obtain⟨_,D',Q,g3⟩:=P k (by omega);have:=Q.le;omega};{obtain⟨G,_⟩:=P k (by omega);exact(G.bec a H U).lt K M G.gok (by have:=G.pre.length_le;have:=z.length_le;omega)};unfold twT at C;obtain⟨n,r,rfl⟩:=AF.1 C;rw[List.mem_filter] at r;exact sF (sf V vs L n r.1 (by simpa using r.2))
section
variable {w0 w w':World} {B:Nat} {A A':Nat->Prop} {gb mb:Nat} {nv0 nv:Value} {W:Nat} {L:List Nd}
def Off(A A':Nat->Prop)(gb mb:Nat)(nv:Value)(k:Nat):Prop:=¬fG gb (some mb) nv k/\¬(A k\/A' k)
theorem Run.grown{row:Option Nat}(h:Run w0 w B A A' gb mb nv0 nv W L)(b:w.grownBy w' row)(hr:∀k,row=some k->w0.heap.size<=k/\Off A A' gb mb nv k):Run w0 w' B A A' gb mb nv0 nv W L:=by refine⟨h.pg.frame b.size λ k a=>b.block k ?_ λ e=> ?_,h.new,⟨b.os.trans h.mt.os,b.tape.trans h.mt.tape,b.output.trans h.mt.output,Ag h.mt.size b.size,λ k a f=> ?_⟩,h.nb⟩;{rcases a with a|a;{exact(h.pg.lo k a).2};exact(h.pg.ar k a).2.1};{obtain⟨_,c,d⟩:=hr k e.symm;exact a.elim c d};rw[b.block k (A9 a h.mt.size) λ e=>by have:=(hr k e.symm).1;omega];exact h.mt.block k a f
theorem Run.off_new(h:Run w0 w B A A' gb mb nv0 nv W L){k:Nat}(hk:w.heap.size<=k):Off A A' gb mb nv k:=⟨λ m=>by have:=(h.pg.lo k m).2;omega,λ m=>by have:=(h.pg.ar k m).2.1;omega⟩
theorem Run.off_step{nv':Value}{A1:Nat->Prop}{L':List Nd}(h:Run w w' B (λ k=>A k\/A' k) A1 gb mb nv nv' W L'){k:Nat}(hk:k<w.heap.size)(ho:Off A A' gb mb nv k):Off A (λ k=>A' k\/A1 k) gb mb nv' k:=⟨h.free hk ho.1,λ m=>by rcases m with m|m|m;{exact ho.2 (.inl m)};{exact ho.2 (.inr m)};have:=h.new k m;omega⟩
theorem Own.at_mut{α:Type}{b:Lay α}{d:α}{t:TypeId}{S:Nat->Prop}{base n cap:Nat}{a:Option Addr}{xs:List α}(h:b.Own t w base (.slice a n cap) xs)(f:Mut S w w')(j:∀g,base<=g->g<w.heap.size->¬S g):b.At d w' a xs:=by obtain⟨a',cap',e,c,_⟩:=(Own.written h f λ g e=>j g (h.lt g e).1 (h.lt g e).2).at_ (d:=d);injection e with e1;subst e1;exact c
theorem EP{ts:List Nat}{ys:List Int}(h:∀n,n∈ys↔jE L ts n):∃vs:List Nat,ys=fE vs:=by refine⟨ys.map Int.toNat,?_⟩;unfold fE;rw[List.map_map];refine(List.map_id ys).symm.trans (List.map_congr_left λ n a=> ?_);obtain⟨j,_,_,e⟩:=(h n).1 a;simp only[id,Function.comp];omega
structure TwI (w6 wr:World) (B:Nat) (A A':Nat->Prop) (gb mb:Nat) (nv nvk:Value) (W:Nat) (V:Nat->Bool) (l:List Nat) (L:List Nd) (v1 v2:Value):Prop where
 run:Run w6 wr B A A' gb mb nv nvk W (twL V l L)
 o1:(Lay.int .i64).Own 3 wr w6.heap.size v1 (fE (l.filter λ n=> !V n))
 o2:(Lay.int .i64).Own 3 wr w6.heap.size v2 (fE (twT V l (twL V l L)))
 n1:∀g,v1.ownBlock=some g->Off A A' gb mb nvk g
 n2:∀g,v2.ownBlock=some g->Off A A' gb mb nvk g
 ne:∀g,v1.ownBlock=some g->v2.ownBlock≠some g
variable {w6 wr:World} {nvk:Value} {V:Nat->Bool} {l:List Nat} {v1 v2:Value}
theorem TwI.start(h:PG w B A gb mb nv W L):TwI w w B A noB gb mb nv nv W V [] L (.slice none 0 0) (.slice none 0 0):=⟨Run.start h,Lay.Own.nil _ _,Lay.Own.nil _ _,(λ g e=>by cases e),(λ g e=>by cases e),(λ g e=>by cases e)⟩
theorem TwI.skip{n:Nat}(h:TwI w6 wr B A A' gb mb nv nvk W V l L v1 v2)(a:V n=true):TwI w6 wr B A A' gb mb nv nvk W V (l++[n]) L v1 v2:=by have e:twL V (l++[n]) L=twL V l L:=by{rw[uu,a];rfl};refine⟨by rw[e];exact h.run,?_,?_,h.n1,h.n2,h.ne⟩;{rw[List.filter_append];simp[a];exact h.o1};rw[e];unfold twT;rw[List.filter_append];simp[a];exact h.o2
structure TwJ (w6 wr:World) (B:Nat) (A A':Nat->Prop) (gb mb:Nat) (nv nvk:Value) (W:Nat) (M:List Nd) (v1 v2:Value) (r s:List Nat):Prop where
 run:Run w6 wr B A A' gb mb nv nvk W M
 o1:(Lay.int .i64).Own 3 wr w6.heap.size v1 (fE r)
 o2:(Lay.int .i64).Own 3 wr w6.heap.size v2 (fE s)
 n1:∀g,v1.ownBlock=some g->Off A A' gb mb nvk g
 n2:∀g,v2.ownBlock=some g->Off A A' gb mb nvk g
 ne:∀g,v1.ownBlock=some g->v2.ownBlock≠some g
theorem TwI.ask{n:Nat}{e:Ending}(h:TwI w6 wr B A A' gb mb nv nvk W V l L v1 v2)(f:gD wr B (λ k=>A k\/A' k) gb mb nvk W (ie (twL V l L) (.ask (vN (n+1)))) e w'):∃(c:Value) (b:Nat->Prop),e= .returned (.tuple #[.int .i64 (fN (vN (n+1)) (twL V l L):Nat),.int .i64 0])/\TwJ w6 w' B A (λ k=>A' k\/b k) gb mb nv c W (fW (vN (n+1)) (twL V l L)) v1 v2 (l.filter λ n=> !V n) (twT V l (twL V l L)):=by obtain⟨c,b,rfl,d,a⟩:=h.run.step f;refine⟨c,b,rfl,d,Own.written h.o1 a.mt λ g e=>(h.n1 g e).1,Own.written h.o2 a.mt λ g e=>(h.n2 g e).1,λ g e=>a.off_step ((h.o1.lt g e).2) (h.n1 g e),λ g e=>a.off_step ((h.o2.lt g e).2) (h.n2 g e),h.ne⟩
theorem TwJ.keep{M:List Nd}{r s:List Nat}(h:TwJ w6 w B A A' gb mb nv nvk W M v1 v2 r s)(hb:Below w.heap.size w w'):TwJ w6 w' B A A' gb mb nv nvk W M v1 v2 r s:=⟨h.run.keep hb,h.o1.grown hb,h.o2.grown hb,h.n1,h.n2,h.ne⟩
theorem TwJ.app1{M:List Nd}{r s:List Nat}(h:TwJ w6 w B A A' gb mb nv nvk W M v1 v2 r s){b:Value}{r':List Nat}(f:(Lay.int .i64).Own 3 w' w6.heap.size b (fE r'))(c:w.grownBy w' v1.ownBlock)(a:b.ownBlock=v1.ownBlock\/b.ownBlock=some w.heap.size):TwJ w6 w' B A A' gb mb nv nvk W M b v2 r' s:=by refine⟨h.run.grown c λ k e=>⟨(h.o1.lt k e).1,h.n1 k e⟩,f,World.ownsRow.kept h.o2 c ?_,λ g e=> ?_,h.n2,λ g e=> ?_⟩;{cases hk:v2.ownBlock with|none=>exact .inl rfl|some k=>exact .inr λ e=>h.ne k e.symm hk};{rcases a with a|a;{exact h.n1 g (a▸e)};rw[a] at e;injection e with e;exact h.run.off_new (by omega)};rcases a with a|a;{exact h.ne g (a▸e)};rw[a] at e;injection e with e;intro d;have:=(h.o2.lt g d).2;omega
theorem TwJ.app2{M:List Nd}{r s:List Nat}(h:TwJ w6 w B A A' gb mb nv nvk W M v1 v2 r s){b:Value}{s':List Nat}(f:(Lay.int .i64).Own 3 w' w6.heap.size b (fE s'))(d:w.grownBy w' v2.ownBlock)(a:b.ownBlock=v2.ownBlock\/b.ownBlock=some w.heap.size):TwJ w6 w' B A A' gb mb nv nvk W M v1 b r s':=by refine⟨h.run.grown d λ k e=>⟨(h.o2.lt k e).1,h.n2 k e⟩,World.ownsRow.kept h.o1 d ?_,f,h.n1,λ g e=> ?_,λ g e=> ?_⟩;{cases hk:v1.ownBlock with|none=>exact .inl rfl|some k=>exact .inr λ e=>h.ne k hk e.symm};{rcases a with a|a;{exact h.n2 g (a▸e)};rw[a] at e;injection e with e;exact h.run.off_new (by omega)};rcases a with a|a;{rw[a];exact h.ne g e};rw[a];intro c;injection c with c;have:=(h.o1.lt g e).2;omega
theorem TwJ.next{n:Nat}(h:TwJ w6 wr B A A' gb mb nv nvk W (fW (vN (n+1)) (twL V l L)) v1 v2 ((l.filter λ n=> !V n)++[n]) (twT V l (twL V l L)++[fN (vN (n+1)) (twL V l L)]))(a:V n=false):TwI w6 wr B A A' gb mb nv nvk W V (l++[n]) L v1 v2:=by have e:twL V (l++[n]) L=fW (vN (n+1)) (twL V l L):=by{rw[uu,a];rfl};refine⟨by rw[e];exact h.run,?_,?_,h.n1,h.n2,h.ne⟩;{rw[List.filter_append];simp[a];exact h.o1};rw[OB a];exact h.o2
end
def OE(w:World)(B:Nat)(A:Nat->Prop)(gb mb:Nat)(nv:Value)(W:Nat)(V:Nat->Bool)(L0 L:List Nd)(c t:Nat)(e:Ending)(w':World):Prop:=∃r,gD w B A gb mb nv W r e w'/\St W V L0 r.2 c/\L<+:r.2/\Bec W V r.2 t r.1/\r.1<r.2.length
theorem OF(w:World)(a b c d:Value)(f g j k:TypeId){w4:World}(h:(((w.alloc (.cells #[a] f)).alloc (.cells #[b] g)).alloc (.cells #[c] j)).alloc (.cells #[d] k)=w4):fH w4 w.heap.size [a]/\fH w4 (w.heap.size+1) [b]/\fH w4 (w.heap.size+1+1) [c]/\fH w4 (w.heap.size+1+1+1) [d]/\Below w.heap.size w w4/\w4.heap.size=w.heap.size+4:=by subst h;exact⟨(((fH.made (vs:=[a]) rfl).alloc _).alloc _).alloc _,((fH.made (vs:=[b]) (by simp)).alloc _).alloc _,(fH.made (vs:=[c]) (by simp)).alloc _,fH.made (vs:=[d]) (by simp),fQ (fQ (fQ (fQ (A6 _ _) _) _) _) _,by simp⟩
section
variable {u w:World} {lb N:Nat} {up dn:Nat->Nat} {level:Int} {ca:Option Addr} {cc:Nat} {xs:List Int}
set_option maxRecDepth 100000 in
set_option maxHeartbeats 8000000 in
theorem OG{B:Nat}{A:Nat->Prop}{gb mb:Nat}{nv:Value}{W:Nat}{L0 L:List Nd}{c:Nat}(h:PG w B A gb mb nv W L)(hB:B<=w.heap.size)(Q:1<=W)(S:W<=64)
  (hu:Below u.heap.size u w)(bk:u.heap.size<=B)(hL:gI u lb N up dn)(aX:isB N level=true)(hx:(Lay.int .i64).At 0 u ca xs)(aZ:xs.all (isB N)=true)(am:1<=xs.length)(an:xs.length<=32)
  (ad:St W (fS N up xs level) L0 L c)(a4:c+L0.length+12<=999)(t:Nat)(ht:t<L0.length)(G:∀j,Occ L t j->(L.getD j default).op=1->(L.getD j default).num%2=0):
  Calls Tryz.prog 27 #[.pointer (some ⟨gb,0,none⟩),.pointer (some ⟨lb,0,none⟩),.int .i64 level,.slice ca xs.length cc,.int .i64 t] w (OE w B A gb mb nv W (fS N up xs level) L0 L c t):=by
 have aU:L.length<=999:=by have:=ad.len;omega
 have aw:t<L.length:=A9 ht ad.pre.length_le;have ap:=Z (λ w' (C:Below u.heap.size u w')=>Ou (hL.below' C) aX (hx.below C) (cc:=cc) aZ am an);have aE:=Z (λ w' (C:Below u.heap.size u w') n (D:n<4194304)=>EG (hL.below' C) (hx.below C) am an (level:=level) (cc:=cc) n D);have aL:Hid (∀j,Occ L t j->(L.getD j default).op=1->(L.getD j default).num<12/\(L.getD j default).num%2=0):=Z λ j o h=>⟨ad.vok j h,G j o h⟩
 have aK:Hid (∀w',Below w.heap.size w w'->Calls Tryz.prog 24 #[.pointer (some ⟨gb,0,none⟩),.slice (some ⟨w'.heap.size,0,none⟩) 1 1] (w'.alloc (.cells #[.int .i64 t] 3)) (xx (w'.alloc (.cells #[.int .i64 t] 3)) L [t])):=Z λ w' C=>
  Dv ((h.below C).below ((A6 _ _).alloc (A8 _) _)).rv [t] (λ j o h=>by have:=(aL.o j (tZ.1 o) h).1;omega) (by simpa using aw) (by omega) (by simp) _ 1 (λ e=>by cases e) (Lay.At.made w' (fE [t]) 3)
 have HP:=Z h;have HU:=Z hu;have a8:=Z hL;have HX:=Z hx;have aj:=Z ad;have aF:=Z a4;have HTL:=Z aw;have HLL:=Z aU;have aH:=Z ht;have bf:=Z am;have bg:=Z an;generalize hV:fS N up xs level=V at*;have HV:=Z hV;clear h hu hL aX hx aZ ad a4 ht aw aU G hV am an;obtain⟨m,z⟩:∃m,xs.length=m:=⟨_,rfl⟩
 rw[z] at ap aE⊢;have HM:=Z z;clear z;go_enter Tryz.func27,Tryz.ntmps27
 go_upto_region 1 with fail
 generalize hw4:(((w.alloc (.cells #[.pointer (some ⟨gb,0,none⟩)] 34)).alloc (.cells #[.pointer (some ⟨lb,0,none⟩)] 53)).alloc (.cells #[.int .i64 level] 3)).alloc (.cells #[.slice ca m cc] 24)=w4;obtain⟨q5,q6,q7,q8,qb,qs⟩:=OF w _ _ _ _ _ _ _ _ hw4;have X:=Z (And.intro q5 (And.intro q6 (And.intro q7 q8)));have az:=Z qb;have c5:=(q5.at_ 0 _ rfl).1;have c6:=(q6.at_ 0 _ rfl).1;have c7:=(q7.at_ 0 _ rfl).1;have c8:=(q8.at_ 0 _ rfl).1;have aC:=Z (ap.o _ (HU.o.trans (qb.mono HU.o.size)));have aG:=Z qs;clear q5 q6 q7 q8 qb hw4 ap qs;generalize hp5:w.heap.size=p5 at*;have F:Hid (p5<=p5+1/\p5<=p5+1+1/\p5<=p5+1+1+1):=Z (by omega);generalize p5+1=p6 at*;generalize p6+1=p7 at*;generalize p7+1=p8 at*;have aJ:=Z (aK.o _ az.o)
 go_step3
 go_wp2_with(first
  |(go_at_call 62;refine aC.o.mono ?_;rintro e w' ⟨rfl,rfl⟩)
  |(go_at_call 24;refine aJ.o.mono ?_;rintro e w6 ⟨v,ys,rfl,q1,q2,q3,q4,q5⟩
    obtain⟨vs,rfl⟩:=EP q2;obtain⟨va,vcap,rfl,qa,_,qm⟩:=q1.at_ (d:=0);rw[fK] at q1 q3;rw[fK];have aM:=Z q1;have bi:=Z qa;have aN:=Z q2;have au:=Z q3;have bh:=Z q4;have O:=Z q5;clear q1 q2 q3 q4 q5 qa qm;obtain⟨K,al⟩:∃K,vs.length=K:=⟨_,rfl⟩
    rw[al] at aM au;rw[al];have I:=Z al;clear al))
 have ar:Hid (Below p5 w (w4.alloc (.cells #[.int .i64 t] 3))/\(w4.alloc (.cells #[.int .i64 t] 3)).heap.size=p5+5):=Z ⟨az.o.alloc (by rw[aG.o];omega) _,by simp[aG.o]⟩;have Y:=Z (And.intro (X.o.1.alloc (.cells #[.int .i64 t] 3)) (And.intro (X.o.2.1.alloc (.cells #[.int .i64 t] 3)) (And.intro (X.o.2.2.1.alloc (.cells #[.int .i64 t] 3)) (X.o.2.2.2.alloc (.cells #[.int .i64 t] 3)))));generalize w4.alloc (.cells #[.int .i64 t] 3)=w5 at*;have E:=Z (And.intro (Y.o.1.keep O.o) (And.intro (Y.o.2.1.keep O.o) (And.intro (Y.o.2.2.1.keep O.o) (Y.o.2.2.2.keep O.o))));have aa:Hid (Below p5 w w6):=Z (ar.o.1.trans (O.o.mono (by have:=ar.o.2;omega)));have ah:Hid (∀n∈vs,n%2=0/\n<12):=Z λ n D=>by
  obtain⟨j,o,e1,e2⟩:=(aN.o (n:Int)).1 (AF.2 ⟨n,D,rfl⟩);have:=aL.o j (tZ.1 o) e1;omega
 clear X Y aC aJ aK c5 c6 c7 c8;have hvn3:=au.o
 go_loopw [45] (λ i wr=>∃k:Nat,k<=K/\i= .int .i64 k/\wr=w6) (λ i _=>K-(intOf i).toNat)
 case atStart=>exact⟨0,by omega,rfl,rfl⟩
 case round=>
  obtain⟨k,hk,rfl,rfl⟩:=hrel;by_cases hk0:k<K
  ·have hki:(k:Int)<K:=by omega
   obtain⟨tb,to_,rfl,bj,c0⟩:=bi.o.int (i:=k) (by rw[fK,I.o];exact hk0);rw[ij] at c0;obtain⟨bn,bm⟩:=ah.o _ (gE 0 vs k (by rw[I.o];exact hk0));generalize vs.getD k 0=x at*;have t1:Int.tmod (x:Int) 2=0:=by rw[Bj (by omega)];omega
   have t2:(x:Int)%2=0:=by omega
   have t3:decide ((4194302:Int)<x)=false:=decide_eq_false (by omega);have t4:decide (4194302<x)=false:=decide_eq_false (by omega)
   go_wp2_with fail
   go_roundw
   case rel=>exact⟨k+1,by omega,by go_num,trivial⟩
   case measure=>simp[intOf]<;>omega
  obtain rfl:k=K:=by omega
  clear hk0 hk;have H:Hid (∀b,fG gb (some mb) nv b->b<p5):=Z λ b C=>by rw[<-hp5];exact(HP.o.lo b C).2
  have ba:=Z (HP.o.below (by rw[hp5];exact aa.o));have HS6:=Z O.o.size;generalize wr=w6 at*
  go_wp2_with fail
  go_step3
  go_wp2_with fail
  go_loopw [18,19,60] (λ v1 v2 i wr=>∃(q:Nat) (nvk:Value) (A':Nat->Prop),q<=k/\i= .int .i64 q/\Hid (TwI w6 wr B A A' gb mb nv nvk W V (vs.take q) L v1 v2)) (λ _ _ i _=>k-(intOf i).toNat)
  case atStart=>exact⟨0,nv,noB,by omega,rfl,Z (by rw[List.take_zero];exact TwI.start ba.o)⟩
  case round=>
   obtain⟨q,nvk,A',hq,rfl,f⟩:=hrel;have aq:Hid (∀g,w5.heap.size<=g->g<w6.heap.size->¬fG gb (some mb) nv g):=Z λ g hg _ z=>by have:=H.o g z;have:=ar.o.2;omega
   have af:Hid (Below u.heap.size u wr):=Z (((HU.o.trans (aa.o.mono (by rw[<-hp5];exact HU.o.size)))).trans ((f.o.run.below (Ag hB (by have:=aa.o.size;rw[<-hp5];exact this)) (λ b C=>(HP.o.lo b C).1)).mono bk));have aA:Hid (B<=wr.heap.size):=Z (Ag (Ag hB (by have:=aa.o.size;rw[<-hp5];exact this)) f.o.run.mt.size);by_cases hqk:q<k
   ·have hqi:(q:Int)<k:=by omega
    obtain⟨tb,to_,rfl,bj,c0⟩:=(Own.at_mut (d:=0) aM.o f.o.run.mt aq.o).int (i:=q) (by rw[fK,I.o];exact hqk);rw[ij] at c0;obtain⟨bn,bm⟩:=ah.o _ (gE 0 vs q (by rw[I.o];exact hqk));have aI:=Z (gZ 0 vs q (by rw[I.o];exact hqk));generalize vs.getD q 0=x at*;have ai:=Z (aE.o wr af.o x (by omega));have m5:=E.o.1.written f.o.run.mt (λ z=>by have:=H.o _ z;have:=F.o;omega);have m6:=E.o.2.1.written f.o.run.mt (λ z=>by have:=H.o _ z;have:=F.o;omega);have m7:=E.o.2.2.1.written f.o.run.mt (λ z=>by have:=H.o _ z;have:=F.o;omega);have m8:=E.o.2.2.2.written f.o.run.mt (λ z=>by have:=H.o _ z;have:=F.o;omega);have c5:=(m5.at_ 0 _ rfl).1;have c6:=(m6.at_ 0 _ rfl).1;have c7:=(m7.at_ 0 _ rfl).1;have c8:=(m8.at_ 0 _ rfl).1;clear m5 m6 m7 m8;cases hvx:V x with
    |true=>
     have ae:twN V x=x:=by unfold twN;rw[hvx];rfl
     rw[ae] at ai;have aD:=Z (f.o.skip hvx);rw[<-aI.o] at aD;clear f
     go_wp2_with(go_at_call 64;refine ai.o.mono ?_;rintro e w' ⟨rfl,rfl⟩)
     go_roundw
     case rel=>exact⟨q+1,nvk,A',by omega,by go_num,aD⟩
     case measure=>simp[intOf]<;>omega
    |false=>
     have ae:twN V x=x+1:=by unfold twN;rw[hvx];rfl
     rw[ae] at ai;have ab:∀b,p5<=b->b<w6.heap.size->¬fG gb (some mb) nvk b:=λ b Q S=>f.o.run.free S (λ z=>by have:=H.o _ z;omega)
     have a5:(twL V (vs.take q) L).length<=999:=by
      have:=(aj.o.twins (vs:=vs.take q) λ n D _=>by have:=ah.o n (List.mem_of_mem_take D);omega).len;have:=aF.o;omega
     have hT:=Ov f.o.run.pg aA.o a5 (a8.o.below' af.o) (HX.o.below af.o) bf.o bg.o (level:=level) (cc:=cc) x (by omega) c5 c6 c7 (by rw[HM.o];exact c8) (ab _ (A8 _) E.o.1.lt) (ab _ F.o.1 E.o.2.1.lt) (ab _ F.o.2.1 E.o.2.2.1.lt) (ab _ F.o.2.2 E.o.2.2.2.lt);rw[HV.o,ae] at hT;have HT:=Z hT;have aB:Hid (((vs.take q).filter λ n=> !V n).length<=1000):=Z (Ag (List.length_filter_le _ _) (by rw[AO];have:=I.o;have:=au.o;omega));have bd:Hid ((twT V (vs.take q) (twL V (vs.take q) L)).length<=1000):=Z (by unfold twT;rw[Ak];exact aB.o);have be:=Z hvx;have HWB:Hid (w6.heap.size<=wr.heap.size):=Z f.o.run.mt.size;clear hT ab a5 ae hvx aq af;have aW:∀{M v1 v2 r s wx nvx Ax},TwJ w6 wx B A Ax gb mb nv nvx W M v1 v2 r s->w6.heap.size<=wx.heap.size:=λ h=>h.run.mt.size
     go_wp2_with(first
      |(go_at_call 64;refine ai.o.mono ?_;rintro e w' ⟨rfl,rfl⟩)
      |(go_at_call 63
        refine HT.o.mono ?_;intro e w7 a0;obtain⟨a6,A1,rfl,hj⟩:=f.o.ask a0;have HJ:=Z hj;clear hj a0;generalize U:fN (vN (x+1)) (twL V (vs.take q) L)=y at*;have a9:=Z U;clear U)
      |(at_builtin
        refine ut Tryz.elemI [(y:Int)] rfl _ _ rfl rfl ao.o.o2 rfl (by simp) rfl (by rw[fK];have:=bd.o;omega) (aW ao.o) ?_;intro v9 w9 r1 r2 r3;have a7:=Z ((ao.o.keep ((A6 _ _).alloc (A8 _) _)).app2 (s':=twT V (vs.take q) (twL V (vs.take q) L)++[y]) (by rw[ov];exact r1) r2 (r3.elim .inl λ e=>.inr (by rw[e];simp)));clear r1 r2 r3)
      |(at_builtin
        refine ut Tryz.elemI [(x:Int)] rfl _ _ rfl rfl HJ.o.o1 rfl (by simp) rfl (by rw[fK];have:=aB.o;omega) (aW HJ.o) ?_;intro v8 w8 r1 r2 r3;have ao:=Z ((HJ.o.keep ((A6 _ _).alloc (A8 _) _)).app1 (r':=((vs.take q).filter λ n=> !V n)++[x]) (by rw[ov];exact r1) r2 (r3.elim .inl λ e=>.inr (by rw[e];simp)));clear r1 r2 r3))
     go_roundw
     case rel=>exact⟨q+1,a6,_,by omega,by go_num,Z (by rw[aI.o];exact TwJ.next (by rw[a9.o];exact a7.o) be.o)⟩
     case measure=>simp[intOf]<;>omega
   obtain rfl:q=k:=by omega
   have e1:vs.take q=vs:=by rw[<-I.o,AD]
   rw[e1] at f;have ay:yb L t vs:=λ n=>by
    have:=aN.o (n:Int);rw[Lz] at this;constructor
    ·intro D;obtain⟨j,a,b,c⟩:=this.1 (AF.2 ⟨n,D,rfl⟩);exact⟨j,a,b,by omega⟩
    rintro⟨j,a,b,c⟩;obtain⟨n',Q,S⟩:=AF.1 (this.2 ⟨j,a,b,by omega⟩);obtain rfl:n'=n:=by omega
    exact Q
   have G:∀n∈vs,n+1<12:=λ n D=>by have:=ah.o n D;omega
   have U:vs.Nodup:=List.Pairwise.of_map _ (λ a b h e=>h (by rw[e])) (bh.o aj.o.nd);obtain⟨occ,av⟩:∃occ:Nat->Bool,∀j,occ j=true↔Occ L t j:=by
    classical
    exact⟨λ j=>decide (Occ L t j),λ j=>by simp⟩
   have J:=OD Q S aj.o aF.o aH.o ay G av;have aV:=Ow Q S aj.o aH.o ay G av;obtain⟨P,ak⟩:∃P,(vs.filter λ n=> !V n).length=P:=⟨_,rfl⟩
   have ax:(twT V vs (twL V vs L)).length=P:=by unfold twT;rw[Ak];exact ak
   have aY:P<=100:=by
    have h3:=List.length_filter_le (λ n=> !V n) vs;have h4:=xV U (n:=12) λ n D=>by have:=G n D;omega
    omega
   obtain⟨a1,aQ,aS,aO,_⟩:=f.o.o1.at_ (d:=0);obtain⟨a2,aR,aT,aP,_⟩:=f.o.o2.at_ (d:=0);rw[fK,ak] at aS;rw[fK,ax] at aT;subst aS aT;have hS:=Ot f.o.run.pg aA.o Q S t J.lt (vs.filter λ n=> !V n) (twT V vs (twL V vs L)) ak ax aY (U.filter _) J.ts (c:=aQ) (d:=aR) aO aP (λ v hv=>by have:=G v (List.mem_filter.1 hv).1;omega) (twS V vs (twL V vs L)) occ J.occ J.sig J.room J.bl;have HS:Hid (Calls Tryz.prog 65 #[.pointer (some ⟨gb,0,none⟩),.int .i64 t,.slice a1 P aQ,.slice a2 P aR] wr (gD wr B (λ k=>A k\/A' k) gb mb nvk W (nC W V vs occ t L))):=Z hS;have bb:=Z aV;have d5:=((E.o.1.written f.o.run.mt (λ z=>by have:=H.o _ z;have:=F.o;omega)).at_ 0 _ rfl).1;clear hS aV J aO aP ak ax aY U G ay e1 av aq;generalize nC W V vs occ t L=R at*
   go_wp2_with(first
    |(go_at_call 65
      refine HS.o.mono ?_;intro e w9 a3;obtain⟨a6,A1,rfl,hr,_⟩:=f.o.run.step a3;have HR:=Z hr;clear hr a3))
   go_ret2
   refine⟨R,gD.lift (by rw[hp5];exact aa.o) (HR.o.post R.1),bb.o⟩
end
