/- Rows of cells that a call made: what a store, an allocation, a call leave of them; an operator with its arguments, as App of simp keeps it. -/
import Derived.Test.YtgdpkkjfcdhmdaaGreatDoorS0
import Derived.Test.YtgdpkkjfcdhmdaaGreatDoorS34
import Derived.Test.YtgdpkkjfcdhmdaaGreatDoorU1
import Derived.Deep.RegionHeld3
namespace Go.Proofs.YtgdpkkjfcdhmdaaGreatDoor
open Go.RowKit
theorem new_kept{w1 w3:World}(h:Below (w1.drew.alloc (.cells #[.int .u8 0,.int .u64 0,.slice none 0 0] 148)).heap.size (w1.drew.alloc (.cells #[.int .u8 0,.int .u64 0,.slice none 0 0] 148)) w3):w3.cell? ⟨w1.heap.size,0,none⟩=some (.int .u8 0)/\w3.cell? ⟨w1.heap.size,1,none⟩=some (.int .u64 0)/\w3.cell? ⟨w1.heap.size,2,none⟩=some (.slice none 0 0)/\w3.frozen? ⟨w1.heap.size,0,none⟩=false/\w3.frozen? ⟨w1.heap.size,1,none⟩=false/\w3.frozen? ⟨w1.heap.size,2,none⟩=false:=by
 have hl:w1.heap.size<(w1.drew.alloc (.cells #[.int .u8 0,.int .u64 0,.slice none 0 0] 148)).heap.size:=by show w1.drew.heap.size<_;simp
 have hc:∀j,(w1.drew.alloc (.cells #[.int .u8 0,.int .u64 0,.slice none 0 0] 148)).cell? ⟨w1.heap.size,j,none⟩=(#[.int .u8 0,.int .u64 0,.slice none 0 0]:Array Value)[j]? :=λ j=>by
  have:=World.cell?_alloc_new w1.drew #[.int .u8 0,.int .u64 0,.slice none 0 0] 148 j;exact this
 have hf:∀j,(w1.drew.alloc (.cells #[.int .u8 0,.int .u64 0,.slice none 0 0] 148)).frozen? ⟨w1.heap.size,j,none⟩=false:=λ j=>by
  have:(w1.drew.alloc (.cells #[.int .u8 0,.int .u64 0,.slice none 0 0] 148)).frozen? ⟨w1.drew.heap.size,j,none⟩=false:=by simp[go_sem]
  exact this
 have c:∀j,w3.cell? ⟨w1.heap.size,j,none⟩=(#[.int .u8 0,.int .u64 0,.slice none 0 0]:Array Value)[j]? :=λ j=>(h.cell (p:=⟨w1.heap.size,j,none⟩) hl).trans (hc j)
 have f:∀j,w3.frozen? ⟨w1.heap.size,j,none⟩=false:=λ j=>(h.frozen (p:=⟨w1.heap.size,j,none⟩) hl).trans (hf j)
 exact⟨c 0,c 1,c 2,f 0,f 1,f 2⟩
theorem cell_alloc{w:World}{p:Addr}{v:Value}(h:w.cell? p=some v)(ob:Obj):(w.alloc ob).cell? p=some v:=(((Below.refl w.heap.size w).alloc (Nat.le_refl _) ob).cell (World.block_lt_of_cell? w _ h)).trans h
theorem frozen_alloc{w:World}{p:Addr}{v:Value}(h:w.cell? p=some v)(hf:w.frozen? p=false)(ob:Obj):(w.alloc ob).frozen? p=false:=(((Below.refl w.heap.size w).alloc (Nat.le_refl _) ob).frozen (World.block_lt_of_cell? w _ h)).trans hf
theorem cell_set{w:World}{b i:Nat}{q:Addr}{v u:Value}(hne:¬b=q.block)(h:w.cell? ⟨b,i,none⟩=some v):(w.setCell q u).cell? ⟨b,i,none⟩=some v:=(World.cell?_of_block (a:=⟨b,i,none⟩) (Below.heap_setCell w q u b hne)).trans h
theorem frozen_set{w:World}{b i:Nat}{q:Addr}{x:Bool}{u:Value}(hne:¬b=q.block)(h:w.frozen? ⟨b,i,none⟩=x):(w.setCell q u).frozen? ⟨b,i,none⟩=x:=(World.frozen?_of_block (a:=⟨b,i,none⟩) (Below.heap_setCell w q u b hne)).trans h
theorem at_one{w:World}{hd:Option Addr}{args:List Nat}(h:(Lay.int .i64).At 0 w hd (intsN args))(c:Nat)(e:args=[c]):∃hb ho,hd=some ⟨hb,ho,none⟩/\w.cell? ⟨hb,ho,none⟩=some (.int .i64 (c:Nat)):=by
 subst e;obtain⟨b,o,e,_,hc⟩:=h.int (i:=0) (by simp[intsN]);exact⟨b,o,e,hc⟩
section
variable {w:World} {xb gb o W a b:Nat} {ns:List Nat} {bs:List Bool} {L:List Nd}
set_option maxRecDepth 100000 in
set_option maxHeartbeats 8000000 in
theorem rule_twice(hg:RV w gb W L)(h:XAt w xb gb o [a] ns bs)(ha:a<L.length)(ho:o=2\/o=3):Calls Tryz.prog 131 #[.pointer (some ⟨xb,0,none⟩)] w (AnsP w (ruleA W L o a 0 .twice)):=by
 simp only[ruleA];have HN:Hid (∀w',Below w.heap.size w w'->Calls Tryz.prog 71 #[.pointer (some ⟨gb,0,none⟩),.int .i64 a] w' λ e w''=>∃ha hc,e= .returned (.tuple #[.agg #[.int .u8 ((L.getD a default).op:Int),.int .u64 ((L.getD a default).num:Int),.slice ha (L.getD a default).args.length hc],.int .i64 0])/\(Lay.int .i64).At 0 w'' ha (intsN (L.getD a default).args)/\(∀ad,ha=some ad->w'.heap.size<=ad.block)/\(ha=none->hc=0)/\Below w'.heap.size w' w''):=Z λ w' hb=>node70 (hg.below hb) a ha
 have hnd:=hg.ok a ha;have HL:Hid ((L.getD a default).op=o->(L.getD a default).args.length=1):=Z λ e=>by rw[hnd.2.2.2.2.1,e];rcases ho with rfl|rfl<;>rfl
 have HB:Hid (Below w.heap.size w (w.alloc (.cells #[.int .u8 0,.int .i64 0,.int .u64 0] 224))):=Z ((Below.refl w.heap.size w).alloc (Nat.le_refl _) _);have hxl:=h.low;have HXA:=h.below HB.o;have HX0:=HXA.c0;have HX1:=HXA.c1;obtain⟨ab,ac,a1,a2,a3⟩:=HXA.a;have c0:=a3 0 (by simp);simp only[List.getD_cons_zero,List.length_cons,List.length_nil,Nat.zero_add] at c0 a2;have hab:ab<(w.alloc (.cells #[.int .u8 0,.int .i64 0,.int .u64 0] 224)).heap.size:=a1;have hxb:xb<(w.alloc (.cells #[.int .u8 0,.int .i64 0,.int .u64 0] 224)).heap.size:=HXA.low;have hsz1:(w.alloc (.cells #[.int .u8 0,.int .i64 0,.int .u64 0] 224)).heap.size=w.heap.size+1:=by simp
 have hk0:(w.alloc (.cells #[.int .u8 0,.int .i64 0,.int .u64 0] 224)).cell? ⟨w.heap.size,0,none⟩=some (.int .u8 0):=by rw[World.cell?_alloc_new];rfl
 have hk1:(w.alloc (.cells #[.int .u8 0,.int .i64 0,.int .u64 0] 224)).cell? ⟨w.heap.size,1,none⟩=some (.int .i64 0):=by rw[World.cell?_alloc_new];rfl
 have hk2:(w.alloc (.cells #[.int .u8 0,.int .i64 0,.int .u64 0] 224)).cell? ⟨w.heap.size,2,none⟩=some (.int .u64 0):=by rw[World.cell?_alloc_new];rfl
 have hf:∀j,(w.alloc (.cells #[.int .u8 0,.int .i64 0,.int .u64 0] 224)).frozen? ⟨w.heap.size,j,none⟩=false:=λ j=>by simp[go_sem]
 clear a3 HXA h hg ho ha hnd;generalize L.getD a default=n at*;obtain⟨op,num,args⟩:=n;simp only at HL HN⊢;generalize hAN:(if op=o then Ans.same (args.getD 0 0) else Ans.no)=an;have HAN:=Z hAN;clear hAN;go_enter Tryz.func131,Tryz.ntmps131
 go_wp2_with fail
 generalize w.alloc (.cells #[.int .u8 0,.int .i64 0,.int .u64 0] 224)=w1 at*;have hba:=(Below.refl w1.heap.size w1).alloc (Nat.le_refl _) (.cells #[.int .u8 0,.int .u64 0,.slice none 0 0] 148);have hB0:=(hba.cell (p:=⟨xb,0,none⟩) hxb).trans HX0;have hB2:=(hba.cell (p:=⟨xb,2,none⟩) hxb).trans a2;have hB1:=(hba.cell (p:=⟨ab,0,none⟩) hab).trans c0;clear hba;have hbx:Below w1.heap.size w1 (w1.drew.alloc (.cells #[.int .u8 0,.int .u64 0,.slice none 0 0] 148)):=(Below.refl w1.heap.size w1).drew.alloc (show w1.heap.size<=w1.drew.heap.size from Nat.le_refl _) _;have HN1:=HN.o w1.drew HB.o.drew;have HN2:=HN.o (w1.drew.alloc (.cells #[.int .u8 0,.int .u64 0,.slice none 0 0] 148)) (HB.o.trans (hbx.mono HB.o.size));have HK:Hid (∀w3,Below w1.heap.size w1 w3->w3.cell? ⟨xb,1,none⟩=some (.int .u8 (o:Nat))/\w3.cell? ⟨w.heap.size,0,none⟩=some (.int .u8 0)/\w3.cell? ⟨w.heap.size,1,none⟩=some (.int .i64 0)/\w3.cell? ⟨w.heap.size,2,none⟩=some (.int .u64 0)/\w3.frozen? ⟨w.heap.size,0,none⟩=false/\w3.frozen? ⟨w.heap.size,1,none⟩=false/\w3.frozen? ⟨w.heap.size,2,none⟩=false/\w.heap.size+1<=w3.heap.size):=Z λ w3 hb=>by
  have hr:w.heap.size<w1.heap.size:=by omega
  exact⟨(hb.cell (p:=⟨xb,1,none⟩) hxb).trans HX1,(hb.cell (p:=⟨w.heap.size,0,none⟩) hr).trans hk0,(hb.cell (p:=⟨w.heap.size,1,none⟩) hr).trans hk1,(hb.cell (p:=⟨w.heap.size,2,none⟩) hr).trans hk2,(hb.frozen (p:=⟨w.heap.size,0,none⟩) hr).trans (hf 0),(hb.frozen (p:=⟨w.heap.size,1,none⟩) hr).trans (hf 1),(hb.frozen (p:=⟨w.heap.size,2,none⟩) hr).trans (hf 2),by have:=hb.size;omega⟩
 have HC1:Hid (Calls Tryz.prog 71 #[.pointer (some ⟨gb,0,none⟩),.int .i64 a] w1.drew λ e w3=>∃ha hc,e= .returned (.tuple #[.agg #[.int .u8 (op:Int),.int .u64 (num:Int),.slice ha args.length hc],.int .i64 0])/\(Lay.int .i64).At 0 w3 ha (intsN args)/\Below w1.heap.size w1 w3):=Z (HN1.mono λ e w3 ⟨ha,hc,h1,h2,h3,h4,h5⟩=>⟨ha,hc,h1,h2,⟨h5.os,h5.tape,h5.output,h5.size,h5.block⟩⟩);have HC2:Hid (Calls Tryz.prog 71 #[.pointer (some ⟨gb,0,none⟩),.int .i64 a] (w1.drew.alloc (.cells #[.int .u8 0,.int .u64 0,.slice none 0 0] 148)) λ e w3=>∃ha hc,e= .returned (.tuple #[.agg #[.int .u8 (op:Int),.int .u64 (num:Int),.slice ha args.length hc],.int .i64 0])/\(Lay.int .i64).At 0 w3 ha (intsN args)/\Below w1.heap.size w1 w3/\(∀ad,ha=some ad->¬ad.block=w.heap.size+1)/\(w3.cell? ⟨w.heap.size+1,0,none⟩=some (.int .u8 0)/\w3.cell? ⟨w.heap.size+1,1,none⟩=some (.int .u64 0)/\w3.cell? ⟨w.heap.size+1,2,none⟩=some (.slice none 0 0)/\w3.frozen? ⟨w.heap.size+1,0,none⟩=false/\w3.frozen? ⟨w.heap.size+1,1,none⟩=false/\w3.frozen? ⟨w.heap.size+1,2,none⟩=false)):=Z (HN2.mono λ e w3 ⟨ha,hc,h1,h2,h3,h4,h5⟩=>⟨ha,hc,h1,h2,hbx.trans (h5.mono hbx.size),λ ad e h=>by
  have h6:=h3 ad e;have h7:(w1.drew.alloc (.cells #[.int .u8 0,.int .u64 0,.slice none 0 0] 148)).heap.size=w1.heap.size+1:=by show _=w1.drew.heap.size+1;simp
  omega,by rw[<-hsz1];exact new_kept h5⟩)
 have hxne:¬xb=w.heap.size+1:=by omega
 have hxne0:¬xb=w.heap.size:=by omega
 have hwne:¬w.heap.size=w.heap.size+1:=by omega
 have hw1e:w1.heap.size<=w.heap.size+1:=by omega
 clear HN HN1 HN2 hbx hf hk0 hk1 hk2 HX1;rename_i KA hKA KB hKB;have KEY:Hid (∀(nb:Nat) (w4:World) (hd:Option Addr) (hc:Nat),(w4.cell? ⟨nb,0,none⟩=some (.int .u8 (op:Int))/\w4.cell? ⟨nb,2,none⟩=some (.slice hd args.length hc)/\w4.cell? ⟨xb,1,none⟩=some (.int .u8 (o:Nat))/\w4.cell? ⟨w.heap.size,0,none⟩=some (.int .u8 0)/\w4.cell? ⟨w.heap.size,1,none⟩=some (.int .i64 0)/\w4.cell? ⟨w.heap.size,2,none⟩=some (.int .u64 0)/\w4.frozen? ⟨w.heap.size,0,none⟩=false/\w4.frozen? ⟨w.heap.size,1,none⟩=false/\w4.frozen? ⟨w.heap.size,2,none⟩=false/\(∀c,args=[c]->∃hb ho,hd=some ⟨hb,ho,none⟩/\w4.cell? ⟨hb,ho,none⟩=some (.int .i64 (c:Nat)))/\Below w1.heap.size w1 w4)->
   KB {tmps:=#[.pointer (some ⟨xb,0,none⟩),undef,.pointer (some ⟨w.heap.size,0,none⟩),.pointer (some ⟨nb,0,none⟩),.int .i64 0,.tuple #[.agg #[.int .u8 (op:Int),.int .u64 (num:Int),.slice hd args.length hc],.int .i64 0],.pointer (some ⟨xb,0,none⟩),.pointer (some ⟨xb,0,none⟩),.pointer (some ⟨xb,0,none⟩),.pointer (some ⟨gb,0,none⟩),.pointer (some ⟨xb,0,none⟩),.pointer (some ⟨xb,0,none⟩),.pointer (some ⟨xb,2,none⟩),.slice (some ⟨ab,0,none⟩) 1 ac,.pointer (some ⟨ab,0,none⟩),.int .i64 (a:Nat),.tuple #[.agg #[.int .u8 (op:Int),.int .u64 (num:Int),.slice hd args.length hc],.int .i64 0],.agg #[.int .u8 (op:Int),.int .u64 (num:Int),.slice hd args.length hc],.int .i64 0,undef,undef,undef,undef,undef,undef,undef,undef,undef,undef,undef,undef,undef],defers:=[]} w4):=by
  refine Z λ nb w4 hd hc ⟨n0,n2,x1,r0,r1,r2,r3,r4,r5,hh,hb4⟩=> ?_
  refine hKB _ _ ?_;clear hKB HC1 HC2 HK hB0 hB1 hB2 HX0 a2 c0;by_cases e:op=o
  ·have d:(((op:Nat):Int)==((o:Nat):Int))=true:=by subst e;simp
   obtain⟨c,rfl⟩:∃c,args=[c]:=by
    match args,HL.o e with
    |[c],_=>exact⟨c,rfl⟩
   have HA:Hid (an=Ans.same c):=Z (by rw[<-HAN.o,if_pos e];rfl);obtain⟨hbk,hof,rfl,hce⟩:=hh c rfl;have HB4:=Z hb4;clear e HAN HL hh hb4;simp only[List.length_cons,List.length_nil,Nat.zero_add] at n2⊢
   go_wp2_with fail
   go_quiet(fail)
   go_wp2_with fail
   (try simp only[Exit.inBlock,Exit.then])
   refine bodyPost_ret (by simp[results,Tryz.results131,go_sem,Result.andThen,r0,r1,r2];try rfl) rfl ?_;rw[HA.o];exact⟨_,rfl,⟨_,rfl⟩,bel3' (below_drewN (HB.o.trans (HB4.o.mono HB.o.size)) _) _ _ _⟩
  ·have d:(((op:Nat):Int)==((o:Nat):Int))=false:=by rw[beq_eq_false_iff_ne];omega
   have HA:Hid (an=Ans.no):=Z (by rw[<-HAN.o,if_neg e]);have HB4:=Z hb4;clear e HAN HL hh hb4
   go_wp2_with fail
   go_quiet(fail)
   go_wp2_with fail
   (try simp only[Exit.inBlock,Exit.then])
   refine bodyPost_ret (by simp[results,Tryz.results131,go_sem,Result.andThen,r0,r1,r2];try rfl) rfl ?_;rw[HA.o];exact⟨_,rfl,⟨_,_,rfl⟩,bel3' (below_drewN (HB.o.trans (HB4.o.mono HB.o.size)) _) _ _ _⟩
 go_region_with (go_at_call 71;first|(refine HC1.o.mono ?_;rintro e w3 ⟨hd,hc,rfl,k1,k2⟩;have K1:=Z k1;have K2:=Z k2;clear k1 k2)|(refine HC2.o.mono ?_;rintro e w3 ⟨hd,hc,rfl,k1,k2,k3,A0,A1,A2,A3,A4,A5⟩;have K1:=Z k1;have K2:=Z k2;have K3:=Z k3;clear k1 k2 k3))
 all_goals
  obtain⟨x1,r0,r1,r2,r3,r4,r5,hs3⟩:=HK.o _ K2.o;clear HX0 a2 c0 hB0 hB1 hB2 HK HC1 HC2
 all_goals
  have hh:=at_one K1.o;refine KEY.o _ _ _ _ ?_
  first
   |have hA0:=A0
    exact⟨by simp[go_sem,hA0],by simp[go_sem,A2],cell_set hxne (cell_set hxne (cell_set hxne x1)),cell_set hwne (cell_set hwne (cell_set hwne r0)),cell_set hwne (cell_set hwne (cell_set hwne r1)),cell_set hwne (cell_set hwne (cell_set hwne r2)),frozen_set hwne (frozen_set hwne (frozen_set hwne r3)),frozen_set hwne (frozen_set hwne (frozen_set hwne r4)),frozen_set hwne (frozen_set hwne (frozen_set hwne r5)),λ c e=>by
     obtain⟨hb,ho,h1,h2⟩:=hh c e;have hn:¬hb=w.heap.size+1:=K3.o _ h1;exact⟨hb,ho,h1,cell_set hn (cell_set hn (cell_set hn h2))⟩,((K2.o.setCell (p:=⟨w.heap.size+1,0,none⟩) hw1e _).setCell (p:=⟨w.heap.size+1,1,none⟩) hw1e _).setCell (p:=⟨w.heap.size+1,2,none⟩) hw1e _⟩
   |exact⟨by rw[World.cell?_alloc_new];rfl,by rw[World.cell?_alloc_new];rfl,cell_alloc x1 _,cell_alloc r0 _,cell_alloc r1 _,cell_alloc r2 _,frozen_alloc r0 r3 _,frozen_alloc r1 r4 _,frozen_alloc r2 r5 _,λ c e=>(hh c e).imp λ _ h=>h.imp λ _ h=>⟨h.1,cell_alloc h.2 _⟩,K2.o.alloc K2.o.size _⟩
end
def Rule.Ok:Rule->Prop
 | .fixed i _ _=>i<2
 | .full k=>k=1\/k=2\/k=3
 | .twice=>False
 |_=>True
theorem rulesN_ok{o:Nat}(h:4<=o):∀r∈rulesN o,r.Ok:=by
 intro r hr;unfold rulesN at hr
 split at hr<;>first|omega|(simp only[List.mem_cons,List.not_mem_nil,or_false] at hr;(first|(rcases hr with rfl|rfl|rfl)|(rcases hr with rfl|rfl)|subst hr)<;>simp[Rule.Ok])|cases hr
def Answers(w:World)(xb:Nat)(f:Value)(x:Ans):Prop:=∃fn cs,f= .func (.func fn) #[] ⟨cs⟩/\Calls Tryz.prog fn ⟨.pointer (some ⟨xb,0,none⟩)::cs⟩ w (AnsP w x)
theorem caps_one{w:World}{cs:List Value}{x:Value}(h:CapsAt w cs [x]):∃p:Addr,cs=[.pointer (some p)]/\p.block<w.heap.size/\w.cell? p=some x:=by
 cases h with
 |cons hl hc ht=>
  cases ht
  exact⟨_,rfl,hl,hc⟩
theorem caps_nil{w:World}{cs:List Value}(h:CapsAt w cs []):cs=[]:=by
 cases h;rfl
theorem caps_three{w:World}{cs:List Value}{x y z:Value}(h:CapsAt w cs [x,y,z]):∃p q r:Addr,cs=[.pointer (some p),.pointer (some q),.pointer (some r)]/\(p.block<w.heap.size/\w.cell? p=some x)/\(q.block<w.heap.size/\w.cell? q=some y)/\(r.block<w.heap.size/\w.cell? r=some z):=by
 cases h with
 |cons hl hc ht=>
  cases ht with
  |cons hl2 hc2 ht2=>
   cases ht2 with
   |cons hl3 hc3 ht3=>
    cases ht3
    exact⟨_,_,_,rfl,⟨hl,hc⟩,⟨hl2,hc2⟩,hl3,hc3⟩
section
variable {w:World} {xb gb o W a b:Nat} {ns:List Nat} {bs:List Bool} {L:List Nd}
theorem any_rule(hg:RV w gb W L)(h1:1<=W)(h2:W<=64)(h:XAt w xb gb o [a,b] ns bs)(hx:XOk L [a,b] ns bs){f:Value}{r:Rule}(hr:r.Ok)(hf:RuleAt w f r):Answers w xb f (ruleA W L o a b r):=by
 obtain⟨cs,rfl,hc⟩:=hf;refine⟨ruleFn r,cs,rfl,?_⟩;cases r with
 |twice=>exact hr.elim
 |neutral v=>
  obtain⟨p,rfl,hl,hp⟩:=caps_one hc;exact rule_neutral h hx v hp hl
 |fixed i v z=>
  obtain⟨p,q,s,rfl,⟨l1,p1⟩,⟨l2,p2⟩,l3,p3⟩:=caps_three hc;exact rule_fixed h hx i v z hr p1 l1 p2 l2 p3 l3
 |equal v=>
  obtain⟨p,rfl,hl,hp⟩:=caps_one hc;exact rule_equal h v hp hl
 |both=>
  obtain rfl:=caps_nil hc;exact rule_both h
 |full k=>
  obtain⟨p,rfl,hl,hp⟩:=caps_one hc;exact rule_full hg h1 h2 h hx k hr hp hl
 |beyond=>
  obtain rfl:=caps_nil hc;exact rule_beyond hg h2 h hx
theorem any_twice(hg:RV w gb W L)(h:XAt w xb gb o [a] ns bs)(ha:a<L.length)(ho:o=2\/o=3){f:Value}(hf:RuleAt w f .twice):Answers w xb f (ruleA W L o a 0 .twice):=by
 obtain⟨cs,rfl,hc⟩:=hf;obtain rfl:=caps_nil hc;exact⟨131,[],rfl,rule_twice hg h ha ho⟩
end
structure Part (w:World) (g:Nat) (vs:List Value):Prop where
 lt:g<w.heap.size
 at_:∀i v,vs[i]? =some v->w.cell? ⟨g,i,none⟩=some v/\w.frozen? ⟨g,i,none⟩=false
theorem Part.below{w w':World}{B g:Nat}{vs:List Value}(h:Part w g vs)(hb:Below B w w')(hg:g<B):Part w' g vs:=
 ⟨Nat.lt_of_lt_of_le h.lt hb.size,λ i v e=>⟨(hb.cell (p:=⟨g,i,none⟩) hg).trans (h.at_ i v e).1,(hb.frozen (p:=⟨g,i,none⟩) hg).trans (h.at_ i v e).2⟩⟩
theorem Part.keep{w w':World}{g:Nat}{vs:List Value}(h:Part w g vs)(hb:Below w.heap.size w w'):Part w' g vs:=h.below hb h.lt
theorem Part.alloc{w:World}{g:Nat}{vs:List Value}(h:Part w g vs)(ob:Obj):Part (w.alloc ob) g vs:=h.keep ((Below.refl _ _).alloc (Nat.le_refl _) ob)
theorem Part.drew{w:World}{g:Nat}{vs:List Value}(h:Part w g vs):Part w.drew g vs:=⟨h.lt,h.at_⟩
theorem Part.new(w:World)(cs:Array Value)(t:TypeId):Part (w.alloc (.cells cs t)) w.heap.size cs.toList:=
 ⟨by simp,λ i v e=>⟨by rw[World.cell?_alloc_new];simpa using e,by simp[go_sem]⟩⟩
theorem Part.made{w:World}{vs:List Value}{t:TypeId}{g:Nat}(hg:w.heap.size=g):Part (w.alloc (.cells ⟨vs⟩ t)) g vs:=by
 subst hg;exact Part.new w ⟨vs⟩ t
theorem Part.off{w:World}{g:Nat}{vs:List Value}(h:Part w g vs){q:Addr}(hne:¬g=q.block)(u:Value):Part (w.setCell q u) g vs:=
 ⟨by have:=h.lt;simpa using this,λ i v e=>⟨cell_set hne (h.at_ i v e).1,frozen_set hne (h.at_ i v e).2⟩⟩
theorem set_same{w:World}{g i:Nat}{v u:Value}(h:w.cell? ⟨g,i,none⟩=some v):(w.setCell ⟨g,i,none⟩ u).cell? ⟨g,i,none⟩=some u:=World.cell?_setCell_same w _ _ h
theorem set_other{w:World}{g i j:Nat}{v u:Value}(h:w.cell? ⟨g,i,none⟩=some v)(hne:¬i=j):(w.setCell ⟨g,j,none⟩ u).cell? ⟨g,i,none⟩=some v:=
 (World.cell?_setCell_other w _ _ _ (λ e=>hne (by injection e with _ e _;exact e.symm))).trans h
theorem fr_set{w:World}{g i j:Nat}{b:Bool}{u:Value}(h:w.frozen? ⟨g,i,none⟩=b):(w.setCell ⟨g,j,none⟩ u).frozen? ⟨g,i,none⟩=b:=
 (World.frozen?_setCell _ _ _ _).trans h
theorem Part.set{w:World}{g:Nat}{vs:List Value}(h:Part w g vs){k:Nat}(hk:k<vs.length)(u:Value):Part (w.setCell ⟨g,k,none⟩ u) g (vs.set k u):=
 ⟨by have:=h.lt;simpa using this,λ i v e=>by
   by_cases hi:i=k
   ·subst hi;rw[List.getElem?_set_self hk] at e;obtain rfl:=Option.some.inj e;obtain⟨x,hx⟩:∃x,vs[i]? =some x:=⟨_,List.getElem?_eq_getElem hk⟩
    exact⟨set_same (h.at_ i x hx).1,fr_set (h.at_ i x hx).2⟩
   ·rw[List.getElem?_set_ne (Ne.symm hi)] at e;exact⟨set_other (h.at_ i v e).1 hi,fr_set (h.at_ i v e).2⟩⟩
theorem Fresh.part{α:Type}{L:Lay α}{e:TypeId}{w:World}{base n g cap:Nat}{xs:List α}(h:Fresh L e w base (.slice (some ⟨g,0,none⟩) n cap) xs)(hn:xs.length=n):Part w g (L.flat xs):=by
 subst hn;exact⟨(World.ownsRow.lt h.own g rfl).2,λ i v e=>⟨by have:=World.ownsRow.cells h.own rfl i v e;rwa[add_at,Nat.zero_add] at this,World.ownsRow.frozenAt h.own i⟩⟩
theorem bel_al{w x:World}(h:Below w.heap.size w x)(ob:Obj):Below w.heap.size w (x.alloc ob):=h.alloc h.size ob
theorem bel_st{w x y:World}(h:Below w.heap.size w x)(k:Below x.heap.size x y):Below w.heap.size w y:=h.trans (k.mono h.size)
def intV(l:List Nat):List Value:=l.map λ(n:Nat)=>Value.int .i64 (n:Int)
def wordV(l:List Nat):List Value:=l.map λ(n:Nat)=>Value.int .u64 (n:Int)
def boolV(l:List Bool):List Value:=l.map Value.bool
theorem intV_at{l:List Nat}{i:Nat}(h:i<l.length):(intV l)[i]? =some (.int .i64 (l.getD i 0:Nat)):=by simp[intV,List.getD_eq_getElem?_getD,List.getElem?_eq_getElem h]
theorem wordV_at{l:List Nat}{i:Nat}(h:i<l.length):(wordV l)[i]? =some (.int .u64 (l.getD i 0:Nat)):=by simp[wordV,List.getD_eq_getElem?_getD,List.getElem?_eq_getElem h]
theorem boolV_at{l:List Bool}{i:Nat}(h:i<l.length):(boolV l)[i]? =some (.bool (l.getD i false)):=by simp[boolV,List.getD_eq_getElem?_getD,List.getElem?_eq_getElem h]
theorem flat_intV(l:List Nat):(Lay.int .i64).flat (intsN l)=intV l:=by
 induction l with
 |nil=>rfl
 |cons x l ih=>simp only[intsN,List.map_cons,intV] at ih⊢;rw[<-ih];simp[Lay.flat,Lay.int]
structure XP (B:Nat) (w:World) (xb ga gn gi gb o n ca:Nat) (zs ns:List Nat) (bs:List Bool):Prop where
 x:Part w xb [.pointer (some ⟨gb,0,none⟩),.int .u8 (o:Nat),.slice (some ⟨ga,0,none⟩) n ca,.slice (some ⟨gn,0,none⟩) n n,.slice (some ⟨gi,0,none⟩) n n]
 pa:Part w ga (intV zs)
 pn:Part w gn (wordV ns)
 pb:Part w gi (boolV bs)
 len:zs.length=n/\ns.length=n/\bs.length=n
 lo:B<=ga/\B<=gn/\B<=gi/\B<=xb
 ne:(¬ga=gn/\¬ga=gi/\¬gn=gi)/\¬xb=ga/\¬xb=gn/\¬xb=gi
section
variable {B:Nat} {w:World} {xb ga gn gi gb o n ca:Nat} {zs ns:List Nat} {bs:List Bool}
theorem XP.keep(h:XP B w xb ga gn gi gb o n ca zs ns bs){w':World}(hb:Below w.heap.size w w'):XP B w' xb ga gn gi gb o n ca zs ns bs:=
 ⟨h.x.keep hb,h.pa.keep hb,h.pn.keep hb,h.pb.keep hb,h.len,h.lo,h.ne⟩
theorem XP.seta(h:XP B w xb ga gn gi gb o n ca zs ns bs){k:Nat}(hk:k<n)(v:Nat):XP B (w.setCell ⟨ga,k,none⟩ (.int .i64 (v:Nat))) xb ga gn gi gb o n ca (zs.set k v) ns bs:=
 ⟨h.x.off h.ne.2.1 _,by
   have:=h.pa.set (k:=k) (by simp[intV,h.len.1,hk]) (.int .i64 (v:Nat));rwa[intV,<-List.map_set] at this,h.pn.off (Ne.symm h.ne.1.1) _,h.pb.off (Ne.symm h.ne.1.2.1) _,⟨by simp[h.len.1],h.len.2⟩,h.lo,h.ne⟩
theorem XP.setn(h:XP B w xb ga gn gi gb o n ca zs ns bs){k:Nat}(hk:k<n)(v:Nat):XP B (w.setCell ⟨gn,k,none⟩ (.int .u64 (v:Nat))) xb ga gn gi gb o n ca zs (ns.set k v) bs:=
 ⟨h.x.off h.ne.2.2.1 _,h.pa.off h.ne.1.1 _,by
   have:=h.pn.set (k:=k) (by simp[wordV,h.len.2.1,hk]) (.int .u64 (v:Nat));rwa[wordV,<-List.map_set] at this,h.pb.off (Ne.symm h.ne.1.2.2) _,⟨h.len.1,by simp[h.len.2.1],h.len.2.2⟩,h.lo,h.ne⟩
theorem XP.setb(h:XP B w xb ga gn gi gb o n ca zs ns bs){k:Nat}(hk:k<n)(v:Bool):XP B (w.setCell ⟨gi,k,none⟩ (.bool v)) xb ga gn gi gb o n ca zs ns (bs.set k v):=
 ⟨h.x.off h.ne.2.2.2 _,h.pa.off h.ne.1.2.1 _,h.pn.off h.ne.1.2.2 _,by
   have:=h.pb.set (k:=k) (by simp[boolV,h.len.2.2,hk]) (.bool v);rwa[boolV,<-List.map_set] at this,⟨h.len.1,h.len.2.1,by simp[h.len.2.2]⟩,h.lo,h.ne⟩
theorem XP.cells(h:XP B w xb ga gn gi gb o n ca zs ns bs):w.cell? ⟨xb,0,none⟩=some (.pointer (some ⟨gb,0,none⟩))/\w.cell? ⟨xb,1,none⟩=some (.int .u8 (o:Nat))/\w.cell? ⟨xb,2,none⟩=some (.slice (some ⟨ga,0,none⟩) n ca)/\w.cell? ⟨xb,3,none⟩=some (.slice (some ⟨gn,0,none⟩) n n)/\w.cell? ⟨xb,4,none⟩=some (.slice (some ⟨gi,0,none⟩) n n):=
 ⟨(h.x.at_ 0 _ rfl).1,(h.x.at_ 1 _ rfl).1,(h.x.at_ 2 _ rfl).1,(h.x.at_ 3 _ rfl).1,(h.x.at_ 4 _ rfl).1⟩
theorem XP.ac(h:XP B w xb ga gn gi gb o n ca zs ns bs){i:Nat}(hi:i<n):w.cell? ⟨ga,i,none⟩=some (.int .i64 (zs.getD i 0:Nat))/\w.frozen? ⟨ga,i,none⟩=false:=h.pa.at_ i _ (intV_at (by rw[h.len.1];exact hi))
theorem XP.nc(h:XP B w xb ga gn gi gb o n ca zs ns bs){i:Nat}(hi:i<n):w.cell? ⟨gn,i,none⟩=some (.int .u64 (ns.getD i 0:Nat))/\w.frozen? ⟨gn,i,none⟩=false:=h.pn.at_ i _ (wordV_at (by rw[h.len.2.1];exact hi))
theorem XP.bc(h:XP B w xb ga gn gi gb o n ca zs ns bs){i:Nat}(hi:i<n):w.cell? ⟨gi,i,none⟩=some (.bool (bs.getD i false))/\w.frozen? ⟨gi,i,none⟩=false:=h.pb.at_ i _ (boolV_at (by rw[h.len.2.2];exact hi))
theorem XP.xat(h:XP B w xb ga gn gi gb o n ca zs ns bs):XAt w xb gb o zs ns bs:=
 ⟨h.x.lt,h.cells.1,h.cells.2.1,⟨ga,ca,h.pa.lt,by rw[h.len.1];exact h.cells.2.2.1,λ i hi=>(h.ac (by rw[<-h.len.1];exact hi)).1⟩,⟨gn,n,h.pn.lt,by rw[h.len.2.1];exact h.cells.2.2.2.1,λ i hi=>(h.nc (by rw[<-h.len.2.1];exact hi)).1⟩,⟨gi,n,h.pb.lt,by rw[h.len.2.2];exact h.cells.2.2.2.2,λ i hi=>(h.bc (by rw[<-h.len.2.2];exact hi)).1⟩⟩
theorem XP.numsAt(h:XP B w xb ga gn gi gb o n ca zs ns bs):(Lay.int .u64).At 0 w (some ⟨gn,0,none⟩) (intsN ns):=λ i hi=>by
 have hi':i<n:=by rw[<-h.len.2.1];simpa[intsN] using hi
 refine⟨gn,0,rfl,h.pn.lt,λ j hj=> ?_⟩;obtain rfl:j=0:=by have:j<1:=hj;omega
 have:=(h.nc hi').1;show w.cell? ⟨gn,0+i*1+0,none⟩=_;rw[Nat.mul_one,Nat.zero_add,Nat.add_zero,this];simp[Lay.int,intsN,List.getD_eq_getElem?_getD,List.getElem?_eq_getElem (show i<ns.length by rw[h.len.2.1];exact hi')]
theorem XP.argsAt(h:XP B w xb ga gn gi gb o n ca zs ns bs):(Lay.int .i64).At 0 w (some ⟨ga,0,none⟩) (intsN zs):=λ i hi=>by
 have hi':i<n:=by rw[<-h.len.1];simpa[intsN] using hi
 refine⟨ga,0,rfl,h.pa.lt,λ j hj=> ?_⟩;obtain rfl:j=0:=by have:j<1:=hj;omega
 have:=(h.ac hi').1;show w.cell? ⟨ga,0+i*1+0,none⟩=_;rw[Nat.mul_one,Nat.zero_add,Nat.add_zero,this];simp[Lay.int,intsN,List.getD_eq_getElem?_getD,List.getElem?_eq_getElem (show i<zs.length by rw[h.len.1];exact hi')]
theorem XP.box(h1:Part w ga (intV zs))(h2:Part w gn (wordV ns))(h3:Part w gi (boolV bs))(hl:zs.length=n/\ns.length=n/\bs.length=n)(lo:B<=ga/\B<=gn/\B<=gi)(ne:¬ga=gn/\¬ga=gi/\¬gn=gi)(hB:B<=w.heap.size)(hx:w.heap.size=xb):
  XP B (w.alloc (.cells #[.pointer (some ⟨gb,0,none⟩),.int .u8 (o:Nat),.slice (some ⟨ga,0,none⟩) n ca,.slice (some ⟨gn,0,none⟩) n n,.slice (some ⟨gi,0,none⟩) n n] 216)) xb ga gn gi gb o n ca zs ns bs:=by
 subst hx;exact⟨Part.new _ _ _,h1.alloc _,h2.alloc _,h3.alloc _,hl,⟨lo.1,lo.2.1,lo.2.2,hB⟩,ne,by have:=h1.lt;omega,by have:=h2.lt;omega,by have:=h3.lt;omega⟩
end
end Go.Proofs.YtgdpkkjfcdhmdaaGreatDoor
