/- Rows of cells that a call made: what a store, an allocation, a call leave of them; an operator with its arguments, as App of simp keeps it. -/
import Derived.Test.YtgdpkkjfcdhmdaaGreatDoorR30
import Derived.Test.YtgdpkkjfcdhmdaaGreatDoorR27
namespace Go.Proofs.YtgdpkkjfcdhmdaaGreatDoor
open Go.RowKit
theorem Nr{d g:World}(h:Below (d.drew.alloc (.cells #[.int .u8 0,.int .u64 0,.slice none 0 0] 148)).heap.size (d.drew.alloc (.cells #[.int .u8 0,.int .u64 0,.slice none 0 0] 148)) g):g.cell? ⟨d.heap.size,0,none⟩=some (.int .u8 0)/\g.cell? ⟨d.heap.size,1,none⟩=some (.int .u64 0)/\g.cell? ⟨d.heap.size,2,none⟩=some (.slice none 0 0)/\g.frozen? ⟨d.heap.size,0,none⟩=false/\g.frozen? ⟨d.heap.size,1,none⟩=false/\g.frozen? ⟨d.heap.size,2,none⟩=false:=by have k:d.heap.size<(d.drew.alloc (.cells #[.int .u8 0,.int .u64 0,.slice none 0 0] 148)).heap.size:=by{show d.drew.heap.size<_;simp};have q:∀j,(d.drew.alloc (.cells #[.int .u8 0,.int .u64 0,.slice none 0 0] 148)).cell? ⟨d.heap.size,j,none⟩=(#[.int .u8 0,.int .u64 0,.slice none 0 0]:Array Value)[j]? :=λ j=>by{have:=Ah d.drew #[.int .u8 0,.int .u64 0,.slice none 0 0] 148 j;exact this};have r:∀j,(d.drew.alloc (.cells #[.int .u8 0,.int .u64 0,.slice none 0 0] 148)).frozen? ⟨d.heap.size,j,none⟩=false:=λ j=>by{have:(d.drew.alloc (.cells #[.int .u8 0,.int .u64 0,.slice none 0 0] 148)).frozen? ⟨d.drew.heap.size,j,none⟩=false:=by{simp[go_sem]};exact this};have c:∀j,g.cell? ⟨d.heap.size,j,none⟩=(#[.int .u8 0,.int .u64 0,.slice none 0 0]:Array Value)[j]? :=λ j=>(h.cell (p:=⟨d.heap.size,j,none⟩) k).trans (q j);have f:∀j,g.frozen? ⟨d.heap.size,j,none⟩=false:=λ j=>(h.frozen (p:=⟨d.heap.size,j,none⟩) k).trans (r j);exact⟨c 0,c 1,c 2,f 0,f 1,f 2⟩
theorem oE{w:World}{p:Addr}{v:Value}(h:w.cell? p=some v)(ob:Obj):(w.alloc ob).cell? p=some v:=(((A6 w.heap.size w).alloc (A8 _) ob).cell (Au w _ h)).trans h
theorem xM{w:World}{p:Addr}{v:Value}(h:w.cell? p=some v)(hf:w.frozen? p=false)(ob:Obj):(w.alloc ob).frozen? p=false:=(((A6 w.heap.size w).alloc (A8 _) ob).frozen (Au w _ h)).trans hf
theorem iT{w:World}{b i:Nat}{q:Addr}{v u:Value}(hne:¬b=q.block)(h:w.cell? ⟨b,i,none⟩=some v):(w.setCell q u).cell? ⟨b,i,none⟩=some v:=(Ai (a:=⟨b,i,none⟩) (AY w q u b hne)).trans h
theorem mc{w:World}{b i:Nat}{q:Addr}{x:Bool}{u:Value}(hne:¬b=q.block)(h:w.frozen? ⟨b,i,none⟩=x):(w.setCell q u).frozen? ⟨b,i,none⟩=x:=(World.frozen?_of_block (a:=⟨b,i,none⟩) (AY w q u b hne)).trans h
theorem Ns{w:World}{f:Option Addr}{args:List Nat}(h:(Lay.int .i64).At 0 w f (fE args))(c:Nat)(e:args=[c]):∃d g,f=some ⟨d,g,none⟩/\w.cell? ⟨d,g,none⟩=some (.int .i64 (c:Nat)):=by subst e;obtain⟨b,o,e,_,j⟩:=h.int (i:=0) (by simp[fE]);exact⟨b,o,e,j⟩
section
variable {w:World} {xb gb o W a b:Nat} {ns:List Nat} {bs:List Bool} {L:List Nd}
set_option maxRecDepth 100000 in
set_option maxHeartbeats 8000000 in
theorem Nt(hg:RV w gb W L)(h:XAt w xb gb o [a] ns bs)(g:a<L.length)(E:o=2\/o=3):Calls Tryz.prog 131 #[.pointer (some ⟨xb,0,none⟩)] w (mE w (fJ W L o a 0 .twice)):=by
 simp only[fJ];have R:Hid (∀I,Below w.heap.size w I->Calls Tryz.prog 71 #[.pointer (some ⟨gb,0,none⟩),.int .i64 a] I λ e az=>∃g k,e= .returned (.tuple #[.agg #[.int .u8 ((L.getD a default).op:Int),.int .u64 ((L.getD a default).num:Int),.slice g (L.getD a default).args.length k],.int .i64 0])/\(Lay.int .i64).At 0 az g (fE (L.getD a default).args)/\(∀D,g=some D->I.heap.size<=D.block)/\(g=none->k=0)/\Below I.heap.size I az):=Z λ I r=>tY (hg.below r) a g
 have ay:=hg.ok a g;have Q:Hid ((L.getD a default).op=o->(L.getD a default).args.length=1):=Z λ e=>by rw[ay.2.2.2.2.1,e];rcases E with rfl|rfl<;>rfl
 have z:Hid (Below w.heap.size w (w.alloc (.cells #[.int .u8 0,.int .i64 0,.int .u64 0] 224))):=Z ((A6 w.heap.size w).alloc (A8 _) _);have hxl:=h.low;have J:=h.below z.o;have ah:=J.c0;have ao:=J.c1;obtain⟨S,ac,a1,a2,a3⟩:=J.a;have U:=a3 0 (by simp);simp only[List.getD_cons_zero,AQ,List.length_nil,AJ] at U a2;have aC:S<(w.alloc (.cells #[.int .u8 0,.int .i64 0,.int .u64 0] 224)).heap.size:=a1;have aj:xb<(w.alloc (.cells #[.int .u8 0,.int .i64 0,.int .u64 0] 224)).heap.size:=J.low;have aD:(w.alloc (.cells #[.int .u8 0,.int .i64 0,.int .u64 0] 224)).heap.size=w.heap.size+1:=by simp
 have av:(w.alloc (.cells #[.int .u8 0,.int .i64 0,.int .u64 0] 224)).cell? ⟨w.heap.size,0,none⟩=some (.int .u8 0):=by rw[Ah];rfl
 have aw:(w.alloc (.cells #[.int .u8 0,.int .i64 0,.int .u64 0] 224)).cell? ⟨w.heap.size,1,none⟩=some (.int .i64 0):=by rw[Ah];rfl
 have ax:(w.alloc (.cells #[.int .u8 0,.int .i64 0,.int .u64 0] 224)).cell? ⟨w.heap.size,2,none⟩=some (.int .u64 0):=by rw[Ah];rfl
 have hf:∀j,(w.alloc (.cells #[.int .u8 0,.int .i64 0,.int .u64 0] 224)).frozen? ⟨w.heap.size,j,none⟩=false:=λ j=>by simp[go_sem]
 clear a3 J h hg E g ay;generalize L.getD a default=n at*;obtain⟨x,num,t⟩:=n;simp only at Q R⊢;generalize hAN:(if x=o then Ans.same (t.getD 0 0) else Ans.no)=an;have P:=Z hAN;clear hAN;go_enter Tryz.func131,Tryz.ntmps131
 go_wp2_with fail
 generalize w.alloc (.cells #[.int .u8 0,.int .i64 0,.int .u64 0] 224)=w1 at*;have X:=(A6 w1.heap.size w1).alloc (A8 _) (.cells #[.int .u8 0,.int .u64 0,.slice none 0 0] 148);have ap:=(X.cell (p:=⟨xb,0,none⟩) aj).trans ah;have ar:=(X.cell (p:=⟨xb,2,none⟩) aj).trans a2;have aq:=(X.cell (p:=⟨S,0,none⟩) aC).trans U;clear X;have Y:Below w1.heap.size w1 (w1.drew.alloc (.cells #[.int .u8 0,.int .u64 0,.slice none 0 0] 148)):=(A6 w1.heap.size w1).drew.alloc (show w1.heap.size<=w1.drew.heap.size from A8 _) _;have al:=R.o w1.drew z.o.drew;have am:=R.o (w1.drew.alloc (.cells #[.int .u8 0,.int .u64 0,.slice none 0 0] 148)) (z.o.trans (Y.mono z.o.size));have HK:Hid (∀f,Below w1.heap.size w1 f->f.cell? ⟨xb,1,none⟩=some (.int .u8 (o:Nat))/\f.cell? ⟨w.heap.size,0,none⟩=some (.int .u8 0)/\f.cell? ⟨w.heap.size,1,none⟩=some (.int .i64 0)/\f.cell? ⟨w.heap.size,2,none⟩=some (.int .u64 0)/\f.frozen? ⟨w.heap.size,0,none⟩=false/\f.frozen? ⟨w.heap.size,1,none⟩=false/\f.frozen? ⟨w.heap.size,2,none⟩=false/\w.heap.size+1<=f.heap.size):=Z λ f r=>by
  have hr:w.heap.size<w1.heap.size:=by omega
  exact⟨(r.cell (p:=⟨xb,1,none⟩) aj).trans ao,(r.cell (p:=⟨w.heap.size,0,none⟩) hr).trans av,(r.cell (p:=⟨w.heap.size,1,none⟩) hr).trans aw,(r.cell (p:=⟨w.heap.size,2,none⟩) hr).trans ax,(r.frozen (p:=⟨w.heap.size,0,none⟩) hr).trans (hf 0),(r.frozen (p:=⟨w.heap.size,1,none⟩) hr).trans (hf 1),(r.frozen (p:=⟨w.heap.size,2,none⟩) hr).trans (hf 2),by have:=r.size;omega⟩
 have ae:Hid (Calls Tryz.prog 71 #[.pointer (some ⟨gb,0,none⟩),.int .i64 a] w1.drew λ e f=>∃g k,e= .returned (.tuple #[.agg #[.int .u8 (x:Int),.int .u64 (num:Int),.slice g t.length k],.int .i64 0])/\(Lay.int .i64).At 0 f g (fE t)/\Below w1.heap.size w1 f):=Z (al.mono λ e f ⟨g,k,F,M,h3,h4,A⟩=>⟨g,k,F,M,⟨A.os,A.tape,A.output,A.size,A.block⟩⟩);have af:Hid (Calls Tryz.prog 71 #[.pointer (some ⟨gb,0,none⟩),.int .i64 a] (w1.drew.alloc (.cells #[.int .u8 0,.int .u64 0,.slice none 0 0] 148)) λ e f=>∃g k,e= .returned (.tuple #[.agg #[.int .u8 (x:Int),.int .u64 (num:Int),.slice g t.length k],.int .i64 0])/\(Lay.int .i64).At 0 f g (fE t)/\Below w1.heap.size w1 f/\(∀D,g=some D->¬D.block=w.heap.size+1)/\(f.cell? ⟨w.heap.size+1,0,none⟩=some (.int .u8 0)/\f.cell? ⟨w.heap.size+1,1,none⟩=some (.int .u64 0)/\f.cell? ⟨w.heap.size+1,2,none⟩=some (.slice none 0 0)/\f.frozen? ⟨w.heap.size+1,0,none⟩=false/\f.frozen? ⟨w.heap.size+1,1,none⟩=false/\f.frozen? ⟨w.heap.size+1,2,none⟩=false)):=Z (am.mono λ e f ⟨g,k,F,M,h3,h4,A⟩=>⟨g,k,F,M,Y.trans (A.mono Y.size),λ D e h=>by
  have h6:=h3 D e;have h7:(w1.drew.alloc (.cells #[.int .u8 0,.int .u64 0,.slice none 0 0] 148)).heap.size=w1.heap.size+1:=by show _=w1.drew.heap.size+1;simp
  omega,by rw[<-aD];exact Nr A⟩)
 have ak:¬xb=w.heap.size+1:=by omega
 have hxne0:¬xb=w.heap.size:=by omega
 have q:¬w.heap.size=w.heap.size+1:=by omega
 have ai:w1.heap.size<=w.heap.size+1:=by omega
 clear R al am Y hf av aw ax ao;rename_i KA hKA KB au;have aA:Hid (∀(nb:Nat) (w4:World) (C:Option Addr) (k:Nat),(w4.cell? ⟨nb,0,none⟩=some (.int .u8 (x:Int))/\w4.cell? ⟨nb,2,none⟩=some (.slice C t.length k)/\w4.cell? ⟨xb,1,none⟩=some (.int .u8 (o:Nat))/\w4.cell? ⟨w.heap.size,0,none⟩=some (.int .u8 0)/\w4.cell? ⟨w.heap.size,1,none⟩=some (.int .i64 0)/\w4.cell? ⟨w.heap.size,2,none⟩=some (.int .u64 0)/\w4.frozen? ⟨w.heap.size,0,none⟩=false/\w4.frozen? ⟨w.heap.size,1,none⟩=false/\w4.frozen? ⟨w.heap.size,2,none⟩=false/\(∀c,t=[c]->∃r E,C=some ⟨r,E,none⟩/\w4.cell? ⟨r,E,none⟩=some (.int .i64 (c:Nat)))/\Below w1.heap.size w1 w4)->
   KB {tmps:=#[.pointer (some ⟨xb,0,none⟩),undef,.pointer (some ⟨w.heap.size,0,none⟩),.pointer (some ⟨nb,0,none⟩),.int .i64 0,.tuple #[.agg #[.int .u8 (x:Int),.int .u64 (num:Int),.slice C t.length k],.int .i64 0],.pointer (some ⟨xb,0,none⟩),.pointer (some ⟨xb,0,none⟩),.pointer (some ⟨xb,0,none⟩),.pointer (some ⟨gb,0,none⟩),.pointer (some ⟨xb,0,none⟩),.pointer (some ⟨xb,0,none⟩),.pointer (some ⟨xb,2,none⟩),.slice (some ⟨S,0,none⟩) 1 ac,.pointer (some ⟨S,0,none⟩),.int .i64 (a:Nat),.tuple #[.agg #[.int .u8 (x:Int),.int .u64 (num:Int),.slice C t.length k],.int .i64 0],.agg #[.int .u8 (x:Int),.int .u64 (num:Int),.slice C t.length k],.int .i64 0,undef,undef,undef,undef,undef,undef,undef,undef,undef,undef,undef,undef,undef],defers:=[]} w4):=by
  refine Z λ nb w4 C k ⟨n0,n2,x1,H,r1,r2,r3,r4,r5,G,V⟩=> ?_
  refine au _ _ ?_;clear au ae af HK ap aq ar ah a2 U;by_cases e:x=o
  ·have d:(((x:Nat):Int)==((o:Nat):Int))=true:=by subst e;simp
   obtain⟨c,rfl⟩:∃c,t=[c]:=by
    match t,Q.o e with
    |[c],_=>exact⟨c,rfl⟩
   have HA:Hid (an=Ans.same c):=Z (by rw[<-P.o,if_pos e];rfl);obtain⟨hbk,hof,rfl,hce⟩:=G c rfl;have aa:=Z V;clear e P Q G V;simp only[AQ,List.length_nil,AJ] at n2⊢
   go_wp2_with fail
   go_quiet(fail)
   go_wp2_with fail
   (try simp only[Exit.inBlock,Exit.then])
   refine bodyPost_ret (by simp[results,Tryz.results131,go_sem,Result.andThen,H,r1,r2];try rfl) rfl ?_;rw[HA.o];exact⟨_,rfl,⟨_,rfl⟩,xK (gG (z.o.trans (aa.o.mono z.o.size)) _) _ _ _⟩
  have d:(((x:Nat):Int)==((o:Nat):Int))=false:=by rw[beq_eq_false_iff_ne];omega
  have HA:Hid (an=Ans.no):=Z (by rw[<-P.o,if_neg e]);have aa:=Z V;clear e P Q G V
  go_wp2_with fail
  go_quiet(fail)
  go_wp2_with fail
  (try simp only[Exit.inBlock,Exit.then])
  refine bodyPost_ret (by simp[results,Tryz.results131,go_sem,Result.andThen,H,r1,r2];try rfl) rfl ?_;rw[HA.o];exact⟨_,rfl,⟨_,_,rfl⟩,xK (gG (z.o.trans (aa.o.mono z.o.size)) _) _ _ _⟩
 go_region_with (go_at_call 71;first|(refine ae.o.mono ?_;rintro e f ⟨C,k,rfl,N,O⟩;have K1:=Z N;have K:=Z O;clear N O)|(refine af.o.mono ?_;rintro e f ⟨C,k,rfl,N,O,k3,A0,A1,A2,A3,A4,A5⟩;have K1:=Z N;have K:=Z O;have K3:=Z k3;clear N O k3))
 all_goals
  obtain⟨x1,H,r1,r2,r3,r4,r5,hs3⟩:=HK.o _ K.o;clear ah a2 U ap aq ar HK ae af
 all_goals
  have G:=Ns K1.o;refine aA.o _ _ _ _ ?_
  first
   |have aB:=A0
    exact⟨by simp[go_sem,aB],by simp[go_sem,A2],iT ak (iT ak (iT ak x1)),iT q (iT q (iT q H)),iT q (iT q (iT q r1)),iT q (iT q (iT q r2)),mc q (mc q (mc q r3)),mc q (mc q (mc q r4)),mc q (mc q (mc q r5)),λ c e=>by
     obtain⟨r,E,F,M⟩:=G c e;have hn:¬r=w.heap.size+1:=K3.o _ F;exact⟨r,E,F,iT hn (iT hn (iT hn M))⟩,((K.o.setCell (p:=⟨w.heap.size+1,0,none⟩) ai _).setCell (p:=⟨w.heap.size+1,1,none⟩) ai _).setCell (p:=⟨w.heap.size+1,2,none⟩) ai _⟩
   |exact⟨by rw[Ah];rfl,by rw[Ah];rfl,oE x1 _,oE H _,oE r1 _,oE r2 _,xM H r3 _,xM r1 r4 _,xM r2 r5 _,λ c e=>(G c e).imp λ _ h=>h.imp λ _ h=>⟨h.1,oE h.2 _⟩,K.o.alloc K.o.size _⟩
end
def gM.Ok:gM->Prop| .fixed i _ _=>i<2| .full k=>k=1\/k=2\/k=3| .twice=>False|_=>True
theorem Nu{o:Nat}(h:4<=o):∀r∈ig o,r.Ok:=by intro r hr;unfold ig at hr;split at hr<;>first|omega|(simp only[List.mem_cons,List.not_mem_nil,or_false] at hr;(first|(rcases hr with rfl|rfl|rfl)|(rcases hr with rfl|rfl)|subst hr)<;>simp[gM.Ok])|cases hr
def uj(w:World)(xb:Nat)(f:Value)(x:Ans):Prop:=∃fn cs,f= .func (.func fn) #[] ⟨cs⟩/\Calls Tryz.prog fn ⟨.pointer (some ⟨xb,0,none⟩)::cs⟩ w (mE w x)
theorem xN{w:World}{cs:List Value}{x:Value}(h:lB w cs [x]):∃p:Addr,cs=[.pointer (some p)]/\p.block<w.heap.size/\w.cell? p=some x:=by cases h with|cons d c ht=>cases ht;exact⟨_,rfl,d,c⟩
theorem xO{w:World}{cs:List Value}(h:lB w cs []):cs=[]:=by cases h;rfl
theorem Nv{w:World}{cs:List Value}{x y z:Value}(h:lB w cs [x,y,z]):∃p q r:Addr,cs=[.pointer (some p),.pointer (some q),.pointer (some r)]/\(p.block<w.heap.size/\w.cell? p=some x)/\(q.block<w.heap.size/\w.cell? q=some y)/\(r.block<w.heap.size/\w.cell? r=some z):=by cases h with|cons f c ht=>cases ht with|cons g d ht2=>cases ht2 with|cons hl3 hc3 ht3=>cases ht3;exact⟨_,_,_,rfl,⟨f,c⟩,⟨g,d⟩,hl3,hc3⟩
section
variable {w:World} {xb gb o W a b:Nat} {ns:List Nat} {bs:List Bool} {L:List Nd}
theorem Nw(x:RV w gb W L)(C:1<=W)(t:W<=64)(h:XAt w xb gb o [a,b] ns bs)(j:XOk L [a,b] ns bs){f:Value}{r:gM}(hr:r.Ok)(D:ma w f r):uj w xb f (fJ W L o a b r):=by obtain⟨A,rfl,c⟩:=D;refine⟨qh r,A,rfl,?_⟩;cases r with|twice=>exact hr.elim|neutral v=>obtain⟨p,rfl,d,g⟩:=xN c;exact Nl h j v g d|fixed i v z=>obtain⟨p,q,s,rfl,⟨l1,E⟩,⟨l2,F⟩,l3,p3⟩:=Nv c;exact Nm h j i v z hr E l1 F l2 p3 l3|equal v=>obtain⟨p,rfl,d,g⟩:=xN c;exact Nn h v g d|both=>obtain rfl:=xO c;exact No h|full k=>obtain⟨p,rfl,d,g⟩:=xN c;exact Np x C t h j k hr g d|beyond=>obtain rfl:=xO c;exact Nq x t h j
theorem Ny(j:RV w gb W L)(h:XAt w xb gb o [a] ns bs)(c:a<L.length)(k:o=2\/o=3){f:Value}(g:ma w f .twice):uj w xb f (fJ W L o a 0 .twice):=by obtain⟨cs,rfl,d⟩:=g;obtain rfl:=xO d;exact⟨131,[],rfl,Nt j h c k⟩
end
structure fH (w:World) (g:Nat) (vs:List Value):Prop where
 lt:g<w.heap.size
 at_:∀i v,vs[i]? =some v->w.cell? ⟨g,i,none⟩=some v/\w.frozen? ⟨g,i,none⟩=false
theorem fH.below{w w':World}{B g:Nat}{vs:List Value}(h:fH w g vs)(hb:Below B w w')(hg:g<B):fH w' g vs:=⟨A9 h.lt hb.size,λ i v e=>⟨(hb.cell (p:=⟨g,i,none⟩) hg).trans (h.at_ i v e).1,(hb.frozen (p:=⟨g,i,none⟩) hg).trans (h.at_ i v e).2⟩⟩
theorem fH.keep{w w':World}{g:Nat}{vs:List Value}(h:fH w g vs)(hb:Below w.heap.size w w'):fH w' g vs:=h.below hb h.lt
theorem fH.alloc{w:World}{g:Nat}{vs:List Value}(h:fH w g vs)(ob:Obj):fH (w.alloc ob) g vs:=h.keep ((A6 _ _).alloc (A8 _) ob)
theorem fH.drew{w:World}{g:Nat}{vs:List Value}(h:fH w g vs):fH w.drew g vs:=⟨h.lt,h.at_⟩
theorem fH.new(w:World)(cs:Array Value)(t:TypeId):fH (w.alloc (.cells cs t)) w.heap.size cs.toList:=⟨by simp,λ i v e=>⟨by rw[Ah];simpa using e,by simp[go_sem]⟩⟩
theorem fH.made{w:World}{vs:List Value}{t:TypeId}{g:Nat}(c:w.heap.size=g):fH (w.alloc (.cells ⟨vs⟩ t)) g vs:=by subst c;exact fH.new w ⟨vs⟩ t
theorem fH.off{w:World}{g:Nat}{vs:List Value}(h:fH w g vs){q:Addr}(hne:¬g=q.block)(u:Value):fH (w.setCell q u) g vs:=⟨by have:=h.lt;simpa using this,λ i v e=>⟨iT hne (h.at_ i v e).1,mc hne (h.at_ i v e).2⟩⟩
theorem xP{w:World}{g i:Nat}{v u:Value}(h:w.cell? ⟨g,i,none⟩=some v):(w.setCell ⟨g,i,none⟩ u).cell? ⟨g,i,none⟩=some u:=Bb w _ _ h
theorem Nz{w:World}{g i j:Nat}{v u:Value}(h:w.cell? ⟨g,i,none⟩=some v)(hne:¬i=j):(w.setCell ⟨g,j,none⟩ u).cell? ⟨g,i,none⟩=some v:=(B7 w _ _ _ (λ e=>hne (by injection e with _ e _;exact e.symm))).trans h
theorem Ep{w:World}{g i j:Nat}{b:Bool}{u:Value}(h:w.frozen? ⟨g,i,none⟩=b):(w.setCell ⟨g,j,none⟩ u).frozen? ⟨g,i,none⟩=b:=(World.frozen?_setCell _ _ _ _).trans h
theorem fH.set{w:World}{g:Nat}{vs:List Value}(h:fH w g vs){k:Nat}(hk:k<vs.length)(u:Value):fH (w.setCell ⟨g,k,none⟩ u) g (vs.set k u):=⟨by have:=h.lt;simpa using this,λ i v e=>by by_cases hi:i=k;{subst hi;rw[List.getElem?_set_self hk] at e;obtain rfl:=Option.some.inj e;obtain⟨x,hx⟩:∃x,vs[i]? =some x:=⟨_,Ab hk⟩;exact⟨xP (h.at_ i x hx).1,Ep (h.at_ i x hx).2⟩};rw[List.getElem?_set_ne (Ne.symm hi)] at e;exact⟨Nz (h.at_ i v e).1 hi,Ep (h.at_ i v e).2⟩⟩
theorem rK.part{α:Type}{L:Lay α}{e:TypeId}{w:World}{base n g cap:Nat}{xs:List α}(h:rK L e w base (.slice (some ⟨g,0,none⟩) n cap) xs)(c:xs.length=n):fH w g (L.flat xs):=by subst c;exact⟨(World.ownsRow.lt h.own g rfl).2,λ i v e=>⟨by have:=World.ownsRow.cells h.own rfl i v e;rwa[kK,AJ] at this,World.ownsRow.frozenAt h.own i⟩⟩
theorem fQ{w x:World}(h:Below w.heap.size w x)(ob:Obj):Below w.heap.size w (x.alloc ob):=h.alloc h.size ob
theorem jq{w x y:World}(h:Below w.heap.size w x)(k:Below x.heap.size x y):Below w.heap.size w y:=h.trans (k.mono h.size)
def jf(l:List Nat):List Value:=l.map λ(n:Nat)=>Value.int .i64 (n:Int)
def oF(l:List Nat):List Value:=l.map λ(n:Nat)=>Value.int .u64 (n:Int)
def oG(l:List Bool):List Value:=l.map Value.bool
theorem Er{l:List Nat}{i:Nat}(h:i<l.length):(jf l)[i]? =some (.int .i64 (l.getD i 0:Nat)):=by simp[jf,List.getD_eq_getElem?_getD,List.getElem?_eq_getElem h]
theorem NA{l:List Nat}{i:Nat}(h:i<l.length):(oF l)[i]? =some (.int .u64 (l.getD i 0:Nat)):=by simp[oF,List.getD_eq_getElem?_getD,List.getElem?_eq_getElem h]
theorem NB{l:List Bool}{i:Nat}(h:i<l.length):(oG l)[i]? =some (.bool (l.getD i false)):=by simp[oG,List.getD_eq_getElem?_getD,List.getElem?_eq_getElem h]
theorem NC(l:List Nat):(Lay.int .i64).flat (fE l)=jf l:=by induction l with|nil=>rfl|cons x l ih=>simp only[fE,List.map_cons,jf] at ih⊢;rw[<-ih];simp[Lay.flat,Lay.int]
structure XP (B:Nat) (w:World) (xb ga gn gi gb o n ca:Nat) (zs ns:List Nat) (bs:List Bool):Prop where
 x:fH w xb [.pointer (some ⟨gb,0,none⟩),.int .u8 (o:Nat),.slice (some ⟨ga,0,none⟩) n ca,.slice (some ⟨gn,0,none⟩) n n,.slice (some ⟨gi,0,none⟩) n n]
 pa:fH w ga (jf zs)
 pn:fH w gn (oF ns)
 pb:fH w gi (oG bs)
 len:zs.length=n/\ns.length=n/\bs.length=n
 lo:B<=ga/\B<=gn/\B<=gi/\B<=xb
 ne:(¬ga=gn/\¬ga=gi/\¬gn=gi)/\¬xb=ga/\¬xb=gn/\¬xb=gi
section
variable {B:Nat} {w:World} {xb ga gn gi gb o n ca:Nat} {zs ns:List Nat} {bs:List Bool}
theorem XP.keep(h:XP B w xb ga gn gi gb o n ca zs ns bs){w':World}(hb:Below w.heap.size w w'):XP B w' xb ga gn gi gb o n ca zs ns bs:=⟨h.x.keep hb,h.pa.keep hb,h.pn.keep hb,h.pb.keep hb,h.len,h.lo,h.ne⟩
theorem XP.seta(h:XP B w xb ga gn gi gb o n ca zs ns bs){k:Nat}(hk:k<n)(v:Nat):XP B (w.setCell ⟨ga,k,none⟩ (.int .i64 (v:Nat))) xb ga gn gi gb o n ca (zs.set k v) ns bs:=⟨h.x.off h.ne.2.1 _,by have:=h.pa.set (k:=k) (by simp[jf,h.len.1,hk]) (.int .i64 (v:Nat));rwa[jf,<-List.map_set] at this,h.pn.off (Ne.symm h.ne.1.1) _,h.pb.off (Ne.symm h.ne.1.2.1) _,⟨by simp[h.len.1],h.len.2⟩,h.lo,h.ne⟩
theorem XP.setn(h:XP B w xb ga gn gi gb o n ca zs ns bs){k:Nat}(hk:k<n)(v:Nat):XP B (w.setCell ⟨gn,k,none⟩ (.int .u64 (v:Nat))) xb ga gn gi gb o n ca zs (ns.set k v) bs:=⟨h.x.off h.ne.2.2.1 _,h.pa.off h.ne.1.1 _,by have:=h.pn.set (k:=k) (by simp[oF,h.len.2.1,hk]) (.int .u64 (v:Nat));rwa[oF,<-List.map_set] at this,h.pb.off (Ne.symm h.ne.1.2.2) _,⟨h.len.1,by simp[h.len.2.1],h.len.2.2⟩,h.lo,h.ne⟩
theorem XP.setb(h:XP B w xb ga gn gi gb o n ca zs ns bs){k:Nat}(hk:k<n)(v:Bool):XP B (w.setCell ⟨gi,k,none⟩ (.bool v)) xb ga gn gi gb o n ca zs ns (bs.set k v):=⟨h.x.off h.ne.2.2.2 _,h.pa.off h.ne.1.2.1 _,h.pn.off h.ne.1.2.2 _,by have:=h.pb.set (k:=k) (by simp[oG,h.len.2.2,hk]) (.bool v);rwa[oG,<-List.map_set] at this,⟨h.len.1,h.len.2.1,by simp[h.len.2.2]⟩,h.lo,h.ne⟩
theorem XP.cells(h:XP B w xb ga gn gi gb o n ca zs ns bs):w.cell? ⟨xb,0,none⟩=some (.pointer (some ⟨gb,0,none⟩))/\w.cell? ⟨xb,1,none⟩=some (.int .u8 (o:Nat))/\w.cell? ⟨xb,2,none⟩=some (.slice (some ⟨ga,0,none⟩) n ca)/\w.cell? ⟨xb,3,none⟩=some (.slice (some ⟨gn,0,none⟩) n n)/\w.cell? ⟨xb,4,none⟩=some (.slice (some ⟨gi,0,none⟩) n n):=⟨(h.x.at_ 0 _ rfl).1,(h.x.at_ 1 _ rfl).1,(h.x.at_ 2 _ rfl).1,(h.x.at_ 3 _ rfl).1,(h.x.at_ 4 _ rfl).1⟩
theorem XP.ac(h:XP B w xb ga gn gi gb o n ca zs ns bs){i:Nat}(hi:i<n):w.cell? ⟨ga,i,none⟩=some (.int .i64 (zs.getD i 0:Nat))/\w.frozen? ⟨ga,i,none⟩=false:=h.pa.at_ i _ (Er (by rw[h.len.1];exact hi))
theorem XP.nc(h:XP B w xb ga gn gi gb o n ca zs ns bs){i:Nat}(hi:i<n):w.cell? ⟨gn,i,none⟩=some (.int .u64 (ns.getD i 0:Nat))/\w.frozen? ⟨gn,i,none⟩=false:=h.pn.at_ i _ (NA (by rw[h.len.2.1];exact hi))
theorem XP.bc(h:XP B w xb ga gn gi gb o n ca zs ns bs){i:Nat}(hi:i<n):w.cell? ⟨gi,i,none⟩=some (.bool (bs.getD i false))/\w.frozen? ⟨gi,i,none⟩=false:=h.pb.at_ i _ (NB (by rw[h.len.2.2];exact hi))
theorem XP.xat(h:XP B w xb ga gn gi gb o n ca zs ns bs):XAt w xb gb o zs ns bs:=⟨h.x.lt,h.cells.1,h.cells.2.1,⟨ga,ca,h.pa.lt,by rw[h.len.1];exact h.cells.2.2.1,λ i hi=>(h.ac (by rw[<-h.len.1];exact hi)).1⟩,⟨gn,n,h.pn.lt,by rw[h.len.2.1];exact h.cells.2.2.2.1,λ i hi=>(h.nc (by rw[<-h.len.2.1];exact hi)).1⟩,⟨gi,n,h.pb.lt,by rw[h.len.2.2];exact h.cells.2.2.2.2,λ i hi=>(h.bc (by rw[<-h.len.2.2];exact hi)).1⟩⟩
theorem XP.numsAt(h:XP B w xb ga gn gi gb o n ca zs ns bs):(Lay.int .u64).At 0 w (some ⟨gn,0,none⟩) (fE ns):=λ i c=>by have hi':i<n:=by{rw[<-h.len.2.1];simpa[fE] using c};refine⟨gn,0,rfl,h.pn.lt,λ j d=> ?_⟩;obtain rfl:j=0:=by{have:j<1:=d;omega};have:=(h.nc hi').1;show w.cell? ⟨gn,0+i*1+0,none⟩=_;rw[Nat.mul_one,AJ,Nat.add_zero,this];simp[Lay.int,fE,List.getD_eq_getElem?_getD,List.getElem?_eq_getElem (show i<ns.length by rw[h.len.2.1];exact hi')]
theorem XP.argsAt(h:XP B w xb ga gn gi gb o n ca zs ns bs):(Lay.int .i64).At 0 w (some ⟨ga,0,none⟩) (fE zs):=λ i c=>by have hi':i<n:=by{rw[<-h.len.1];simpa[fE] using c};refine⟨ga,0,rfl,h.pa.lt,λ j d=> ?_⟩;obtain rfl:j=0:=by{have:j<1:=d;omega};have:=(h.ac hi').1;show w.cell? ⟨ga,0+i*1+0,none⟩=_;rw[Nat.mul_one,AJ,Nat.add_zero,this];simp[Lay.int,fE,List.getD_eq_getElem?_getD,List.getElem?_eq_getElem (show i<zs.length by rw[h.len.1];exact hi')]
theorem XP.box(c:fH w ga (jf zs))(d:fH w gn (oF ns))(f:fH w gi (oG bs))(h:zs.length=n/\ns.length=n/\bs.length=n)(lo:B<=ga/\B<=gn/\B<=gi)(k:¬ga=gn/\¬ga=gi/\¬gn=gi)(g:B<=w.heap.size)(j:w.heap.size=xb):XP B (w.alloc (.cells #[.pointer (some ⟨gb,0,none⟩),.int .u8 (o:Nat),.slice (some ⟨ga,0,none⟩) n ca,.slice (some ⟨gn,0,none⟩) n n,.slice (some ⟨gi,0,none⟩) n n] 216)) xb ga gn gi gb o n ca zs ns bs:=by subst j;exact⟨fH.new _ _ _,c.alloc _,d.alloc _,f.alloc _,h,⟨lo.1,lo.2.1,lo.2.2,g⟩,k,by have:=c.lt;omega,by have:=d.lt;omega,by have:=f.lt;omega⟩
end
