/- Walk: Graphs. -/
import Derived.Test.YtgdpkkjfcdhmdaaGreatDoorS0
import Derived.Test.YtgdpkkjfcdhmdaaGreatDoorS15
namespace Go.Proofs.YtgdpkkjfcdhmdaaGreatDoor
open Go.RowKit
def GrP(w:World)(W:Nat)(qs:List RawN)(e:Ending)(w':World):Prop:=
 ∃g mb nv AP r rv AR,e= .returned (.tuple #[.pointer (some ⟨g,0,none⟩),.pointer (some ⟨r,0,none⟩)])/\Bo w' w.heap.size AP g mb nv (bldL W qs) AR r rv (bldL W qs) W/\Below w.heap.size w w'
theorem below_grown{B:Nat}{w X w5:World}{row:Option Nat}(hb:Below B w X)(hB:B<=w.heap.size)(hg:X.grownBy w5 row)(hr:∀k,row=some k->B<=k):Below B w w5:=hb.grown hg (Nat.le_trans hB hb.size) hr
set_option maxRecDepth 100000 in
theorem graphs_bad(w:World)(W:Int)(h:W<1\/64<W)(a:Option Addr)(len cap:Nat):Calls Tryz.prog 21 #[.int .i64 W,.slice a len cap] w λ e w'=>e= .returned (.tuple #[.pointer none,.pointer none])/\w=w':=by
 have HP:=Z (new39_bad w W h);have HR:=Z (new49_bad w W h);clear h;go_enter Tryz.func21,Tryz.ntmps21
 go_wp2_with(first|(go_at_call 47;refine HP.o.mono ?_;rintro e W' ⟨rfl,rfl⟩)|(go_at_call 48;refine HR.o.mono ?_;rintro e W' ⟨rfl,rfl⟩))
 go_ret2
 exact⟨rfl,rfl⟩
set_option maxRecDepth 100000 in
set_option maxHeartbeats 16000000 in
theorem graphs29(w:World)(W:Nat)(h1:1<=W)(h2:W<=64)(qs:List RawN){a:Option Addr}{len cap:Nat}(hlen:qs.length=len)(hq:qs.length<=40)(hat:Lay.raw.At default w a qs)(hb:∀q∈qs,q.2.1<256/\q.2.2.1<18446744073709551616/\q.2.2.2.1<65536/\q.2.2.2.2<65536):
  Calls Tryz.prog 21 #[.int .i64 W,.slice a len cap] w (GrP w W qs):=by
 subst hlen;have HN:=Z (new39 w w.heap.size W (Nat.le_refl _) h1 h2);have HNR:=Z (λ w' (hw:w.heap.size<=w'.heap.size)=>new49 w' w.heap.size W hw h1 h2);have HAT:=Z hat;have HBD:=Z hb;clear hat hb;go_enter Tryz.func21,Tryz.ntmps21
 go_wp2_with(go_at_call 47;refine HN.o.mono ?_;rintro e w1 ⟨g,mb,rfl,hpg,hb1,hg,hmb⟩)
 have hz1:=hb1.size
 go_wp2_with(go_at_call 48;refine(HNR.o w1 hz1).mono ?_;rintro e w2 ⟨r,rfl,hrg,hb2,hr⟩)
 have HBO:Hid (Bo w2 w.heap.size noB g mb (.slice none 0 0) [] noB r (.slice none 0 0) [] W):=Z ⟨hpg.below hb2,hrg,λ k hk hr'=>by
  rcases hk with(m|m|m)|m
  ·subst m;have:=(hpg.lo k (.inl rfl)).2;rcases hr' with(m|m|m)|m
   ·omega
   ·cases m
   ·cases m
   ·exact m
  ·injection m with m;subst m;have:=(hpg.lo mb (.inr (.inl rfl))).2;rcases hr' with(m|m|m)|m
   ·omega
   ·cases m
   ·cases m
   ·exact m
  ·cases m
  ·exact m⟩
 have HB2:=Z (hb1.trans (hb2.mono hz1));clear hpg hrg hb1 hb2 hg hmb hr hz1
 go_wp2_with fail
 go_loopw [10] (λ i wr=>∃k:Nat,k<=qs.length/\i= .int .i64 k/\Hid (∃AP nv AR rv,Bo wr w.heap.size AP g mb nv (bldL W (qs.take k)) AR r rv (bldL W (qs.take k)) W)/\Below w.heap.size w wr) (λ i _=>qs.length-(intOf i).toNat)
 case atStart=>exact⟨0,by omega,rfl,Z ⟨_,_,_,_,HBO.o⟩,HB2.o⟩
 case round=>
  clear HBO HB2;obtain⟨k,hk,rfl,HBO,hbel⟩:=hrel;by_cases hlk:k<qs.length
  ·have hts:=take_snoc' default qs hlk;have HSN:Hid (bldL W (qs.take (k+1))=askL (rawNd W (bldL W (qs.take k)) (qs.getD k default)) (bldL W (qs.take k))):=Z (by rw[hts,bldL_snoc]);have hLL:(bldL W (qs.take k)).length<=40:=by have:=bldL_len W (qs.take k);rw[List.length_take] at this;omega
   obtain⟨pb,po,rfl,hpb,q0,q1,q2,q3,q4⟩:=raw_cells HAT.o hlk;have hqb:=HBD.o (qs.getD k default) (by rw[List.getD_eq_getElem?_getD,List.getElem?_eq_getElem hlk];exact List.getElem_mem hlk);generalize bldL W (qs.take k)=L at*;generalize qs.getD k default=q at*;obtain⟨kd,op,num,qa,qbb⟩:=q;simp only at q0 q1 q2 q3 q4 hqb;obtain⟨AP,nv,AR,rv,hbo⟩:=HBO.o;obtain⟨rla,rlc,rfl,_,_⟩:=hbo.rg.slice;have hrl:=(hbo.rg.lo r (.inl rfl)).2;have cr:wr.cell? ⟨r,2,none⟩=some (.slice rla L.length rlc):=by simp[World.cell?,hbo.rg.blk]
   have p0:=(hbel.cell (p:=⟨pb,po+k*5,none⟩) hpb).trans q0;have p1:=(hbel.cell (p:=⟨pb,po+k*5+1,none⟩) hpb).trans q1;have p2:=(hbel.cell (p:=⟨pb,po+k*5+2,none⟩) hpb).trans q2;have p3:=(hbel.cell (p:=⟨pb,po+k*5+3,none⟩) hpb).trans q3;have p4:=(hbel.cell (p:=⟨pb,po+k*5+4,none⟩) hpb).trans q4;have hki:(k:Int)<qs.length:=by omega
   have HB:=Z hbo;have HBL:=Z hbel;have hsz:=hbel.size;obtain⟨hop,hnum,hqa,hqc⟩:=hqb;clear hbo HBO hbel q0 q1 q2 q3 q4 hts;have hwB:=Z h1;by_cases hk0:kd%3=0
   ·have HRN:Hid (rawNd W L (kd,op,num,qa,qbb)=⟨0,num%2^W,[]⟩):=Z (if_pos (.inl hk0));have HC:=Z (const50 HB.o.pg hsz (by omega) h1 h2 num hnum);have dk:((kd:Int)%3==0)=true:=by simp;omega
    clear hk0
    as_aux_lemma=>
     go_wp2_with(first
     |(go_at_call 49;refine HC.o.mono ?_;rintro e w3 hs;obtain⟨nv',rfl,hb3,hl3,_⟩:=HB.o.stepP hsz (λ k hk=>hk.elim) hs;have p2':=(hl3.cell (p:=⟨pb,po+k*5+2,none⟩) hpb).trans p2;have HB3:=Z hb3;have HL3:=Z hl3;have hz3:w.heap.size<=w3.heap.size:=Nat.le_trans hsz hl3.size;clear hs hb3 hl3)
     |(go_at_call 50;refine(const51 HB3.o.rg hz3 (by omega) h1 h2 num hnum).mono ?_;rintro e w4 hs;obtain⟨rv',rfl,hb4,hl4⟩:=HB3.o.stepR hz3 (λ k hk=>hk.elim) hs;have HB4:=Z hb4;have HL4:=Z hl4;clear hs hb4 hl4))
     go_roundw
     case rel=>exact⟨k+1,by omega,by go_num,Z ⟨_,_,_,_,by rw[HSN.o,HRN.o];exact HB4.o⟩,HBL.o.trans (HL3.o.trans HL4.o)⟩
     case measure=>simp[intOf];omega
   ·by_cases hL0:L.length=0
    ·have HRN:Hid (rawNd W L (kd,op,num,qa,qbb)=⟨0,num%2^W,[]⟩):=Z (if_pos (.inr hL0));have HC:=Z (const50 HB.o.pg hsz (by omega) h1 h2 num hnum);have dk:((kd:Int)%3==0)=false:=by rw[beq_eq_false_iff_ne];omega
     have dl:((L.length:Int)==0)=true:=by rw[beq_iff_eq];omega
     clear hk0 hL0
     as_aux_lemma=>
      go_wp2_with(first
      |(go_at_call 49;refine HC.o.mono ?_;rintro e w3 hs;obtain⟨nv',rfl,hb3,hl3,_⟩:=HB.o.stepP hsz (λ k hk=>hk.elim) hs;have p2':=(hl3.cell (p:=⟨pb,po+k*5+2,none⟩) hpb).trans p2;have HB3:=Z hb3;have HL3:=Z hl3;have hz3:w.heap.size<=w3.heap.size:=Nat.le_trans hsz hl3.size;clear hs hb3 hl3)
      |(go_at_call 50;refine(const51 HB3.o.rg hz3 (by omega) h1 h2 num hnum).mono ?_;rintro e w4 hs;obtain⟨rv',rfl,hb4,hl4⟩:=HB3.o.stepR hz3 (λ k hk=>hk.elim) hs;have HB4:=Z hb4;have HL4:=Z hl4;clear hs hb4 hl4))
      go_roundw
      case rel=>exact⟨k+1,by omega,by go_num,Z ⟨_,_,_,_,by rw[HSN.o,HRN.o];exact HB4.o⟩,HBL.o.trans (HL3.o.trans HL4.o)⟩
      case measure=>simp[intOf];omega
    ·by_cases hk1:kd%3=1
     ·have HRN:Hid (rawNd W L (kd,op,num,qa,qbb)=⟨1,qa%12,[]⟩):=Z (by unfold rawNd;rw[if_neg (by rintro(e|e);exact hk0 e;exact hL0 e),if_pos hk1]);have HC:=Z (var52 HB.o.pg hsz (by omega) (qa%12) (Nat.mod_lt _ (by decide)));have dk:((kd:Int)%3==0)=false:=by rw[beq_eq_false_iff_ne];omega
      have dk1:((kd:Int)%3==1)=true:=by rw[beq_iff_eq];omega
      have dl:((L.length:Int)==0)=false:=by rw[beq_eq_false_iff_ne];omega
      clear hk0 hL0 hk1
      as_aux_lemma=>
       go_wp2_with(first
       |(go_at_call 51;refine HC.o.mono ?_;rintro e w3 hs;obtain⟨nv',rfl,hb3,hl3,_⟩:=HB.o.stepP hsz (λ k hk=>hk.elim) hs;have p3':=(hl3.cell (p:=⟨pb,po+k*5+3,none⟩) hpb).trans p3;have HB3:=Z hb3;have HL3:=Z hl3;have hz3:w.heap.size<=w3.heap.size:=Nat.le_trans hsz hl3.size;clear hs hb3 hl3)
       |(go_at_call 52;refine(var53 HB3.o.rg hz3 (by omega) (qa%12) (Nat.mod_lt _ (by decide))).mono ?_;rintro e w4 hs;obtain⟨rv',rfl,hb4,hl4⟩:=HB3.o.stepR hz3 (λ k hk=>hk.elim) hs;have HB4:=Z hb4;have HL4:=Z hl4;clear hs hb4 hl4))
       go_roundw
       case rel=>exact⟨k+1,by omega,by go_num,Z ⟨_,_,_,_,by rw[HSN.o,HRN.o];exact HB4.o⟩,HBL.o.trans (HL3.o.trans HL4.o)⟩
       case measure=>simp[intOf];omega
     ·have dk:((kd:Int)%3==0)=false:=by rw[beq_eq_false_iff_ne];omega
      have dk1:((kd:Int)%3==1)=false:=by rw[beq_eq_false_iff_ne];omega
      have dl:((L.length:Int)==0)=false:=by rw[beq_eq_false_iff_ne];omega
      have hLp:0<L.length:=by omega
      have ho19:op%19<19:=Nat.mod_lt _ (by decide);have HRN:Hid (rawNd W L (kd,op,num,qa,qbb)=if 2+op%19=2\/2+op%19=3 then⟨2+op%19,0,[qa%L.length]⟩ else⟨2+op%19,0,[qa%L.length,qbb%L.length]⟩):=Z (by unfold rawNd;rw[if_neg (by rintro(e|e);exact hk0 e;exact hL0 e),if_neg hk1]);obtain⟨o,ho⟩:∃o:Nat,o=2+op%19:=⟨_,rfl⟩
      obtain⟨x,hx⟩:∃x:Nat,x=qa%L.length:=⟨_,rfl⟩
      obtain⟨y,hy⟩:∃y:Nat,y=qbb%L.length:=⟨_,rfl⟩
      have hxl:x<L.length:=by rw[hx];exact Nat.mod_lt _ hLp
      have hyl:y<L.length:=by rw[hy];exact Nat.mod_lt _ hLp
      have ho2:2<=o:=by omega
      have ho3:o<=20:=by omega
      have hoe:(2+(op:Int)%19)=(o:Int):=by omega
      have hmA:Int.tmod (qa:Int) (L.length:Int)=(x:Int):=by rw[Int.tmod_eq_emod_of_nonneg (by omega),hx,Int.natCast_emod]
      have hmA2:(qa:Int)%(L.length:Int)=(x:Int):=by rw[hx,Int.natCast_emod]
      have hmB:Int.tmod (qbb:Int) (L.length:Int)=(y:Int):=by rw[Int.tmod_eq_emod_of_nonneg (by omega),hy,Int.natCast_emod]
      have hmB2:(qbb:Int)%(L.length:Int)=(y:Int):=by rw[hy,Int.natCast_emod]
      rw[<-ho,<-hx,<-hy] at HRN;have hLne:(L.length:Int)≠0:=by omega
      have hwA:IntKind.i64.wrap (qa:Int)=(qa:Int):=by rw[IntKind.wrap_i64];omega
      have hwB:IntKind.i64.wrap (qbb:Int)=(qbb:Int):=by rw[IntKind.wrap_i64];omega
      clear ho hx hy hk0 hL0 hk1 ho19;generalize hm:L.length=m at*;have HLM:=Z hm;clear hm;have hmn:m≠0:=by omega
      have hmp:(0:Int)<m:=by omega
      go_wp2_with fail
      clear hoe;have HS:Hid (∀w',Below wr.heap.size wr w'->w'.cell? ⟨pb,po+k*5+3,none⟩=some (.int .u16 (qa:Int))/\w'.cell? ⟨pb,po+k*5+4,none⟩=some (.int .u16 (qbb:Int))/\w'.cell? ⟨r,2,none⟩=some (.slice rla m rlc)/\Below wr.heap.size wr w'):=Z λ w' hb=>
       ⟨(hb.cell (p:=⟨pb,po+k*5+3,none⟩) (by show pb<_;omega)).trans p3,(hb.cell (p:=⟨pb,po+k*5+4,none⟩) (by show pb<_;omega)).trans p4,(hb.cell (p:=⟨r,2,none⟩) (by show r<_;omega)).trans cr,hb⟩
      go_region_held3(λ w'=>w'.cell? ⟨pb,po+k*5+3,none⟩=some (.int .u16 (qa:Int))/\w'.cell? ⟨pb,po+k*5+4,none⟩=some (.int .u16 (qbb:Int))/\w'.cell? ⟨r,2,none⟩=some (.slice rla m rlc)/\Below wr.heap.size wr w')
       (first|exact HS.o _ (Below.refl _ _)|exact HS.o _ (Below.refl _ _).drew|exact HS.o _ ((Below.refl _ _).alloc (Nat.le_refl _) _)|exact HS.o _ ((Below.refl _ _).alloc (Nat.le_refl _) _).drew|exact HS.o _ ((‹_/\_/\_/\Below _ _ _›).2.2.2.alloc (‹_/\_/\_/\Below _ _ _›).2.2.2.size _)|exact HS.o _ (‹_/\_/\_/\Below _ _ _›).2.2.2|exact HS.o _ (‹_/\_/\_/\Below _ _ _›).2.2.2.drew)
       (fail)
      have HLE:Hid (L.length<=999):=Z (by have:=HLM.o;omega);have HXB:Hid (∀a∈[x],a<L.length):=Z (by simpa[HLM.o] using hxl);have HXYB:Hid (∀a∈[x,y],a<L.length):=Z (by simpa[HLM.o] using⟨hxl,hyl⟩);have HATX:Hid ((Lay.int .i64).At 0 (wr.alloc (.cells #[.int .i64 (x:Int)] 3)).drew (some ⟨wr.heap.size,0,none⟩) (intsN [x])):=Z λ i hi=>(Lay.At.made (L:=Lay.int .i64) (d:=0) wr [(x:Int)] 3) i hi
      clear HS;by_cases hq2:o=2
      ·have dq:((o:Int) !=2)=false:=by simp;omega
       have HAR:Hid ([x].length=arN o):=Z (by rw[hq2];rfl);have HRN2:=Z (HRN.o.trans (if_pos (.inl hq2)));clear hq2
       as_aux_lemma=>
        go_wp2_with(first
         |(go_at_call 53;refine(app_P HB.o hsz HLE.o o ho2 ho3 [x] HAR.o HXB.o rfl (by first|exact(Below.refl _ _).alloc (Nat.le_refl _) _|exact((Below.refl _ _).alloc (Nat.le_refl _) _).drew) HATX.o (λ ad e=>by injection e with e;subst e;exact Nat.le_refl _) (λ e=>by cases e)).mono ?_;rintro e w3 ⟨AP',nv',rfl,hb3,hl3,hat3⟩;have HB3:=Z hb3;have HL3:=Z hl3;have HAT3:=Z hat3;have hz3:w.heap.size<=w3.heap.size:=Nat.le_trans hsz hl3.size;clear hb3 hl3 hat3)
         |(go_at_call 54;refine(app_R HB3.o hz3 HLE.o o ho2 ho3 [x] HAR.o HXB.o rfl HAT3.o).mono ?_;rintro e w4 ⟨AR',rv',rfl,hb4,hl4⟩;have HB4:=Z hb4;have HL4:=Z hl4;clear hb4 hl4))
        go_roundw
        case rel=>exact⟨k+1,by omega,by go_num,Z ⟨_,_,_,_,by rw[HSN.o,HRN2.o];exact HB4.o⟩,HBL.o.trans (HL3.o.trans HL4.o)⟩
        case measure=>simp[intOf];omega
      ·by_cases hq3:o=3
       ·have dq:((o:Int) !=2)=true:=by simp;omega
        have dq2:((o:Int) !=3)=false:=by simp;omega
        have HAR:Hid ([x].length=arN o):=Z (by rw[hq3];rfl);have HRN2:=Z (HRN.o.trans (if_pos (.inr hq3)));clear hq2 hq3
        as_aux_lemma=>
         go_wp2_with(first
          |(go_at_call 53;refine(app_P HB.o hsz HLE.o o ho2 ho3 [x] HAR.o HXB.o rfl (by first|exact(Below.refl _ _).alloc (Nat.le_refl _) _|exact((Below.refl _ _).alloc (Nat.le_refl _) _).drew) HATX.o (λ ad e=>by injection e with e;subst e;exact Nat.le_refl _) (λ e=>by cases e)).mono ?_;rintro e w3 ⟨AP',nv',rfl,hb3,hl3,hat3⟩;have HB3:=Z hb3;have HL3:=Z hl3;have HAT3:=Z hat3;have hz3:w.heap.size<=w3.heap.size:=Nat.le_trans hsz hl3.size;clear hb3 hl3 hat3)
          |(go_at_call 54;refine(app_R HB3.o hz3 HLE.o o ho2 ho3 [x] HAR.o HXB.o rfl HAT3.o).mono ?_;rintro e w4 ⟨AR',rv',rfl,hb4,hl4⟩;have HB4:=Z hb4;have HL4:=Z hl4;clear hb4 hl4))
         go_roundw
         case rel=>exact⟨k+1,by omega,by go_num,Z ⟨_,_,_,_,by rw[HSN.o,HRN2.o];exact HB4.o⟩,HBL.o.trans (HL3.o.trans HL4.o)⟩
         case measure=>simp[intOf];omega
       ·have dq:((o:Int) !=2)=true:=by simp;omega
        have dq2:((o:Int) !=3)=true:=by simp;omega
        have HAR:Hid ([x,y].length=arN o):=Z (by unfold arN;rw[if_neg (by omega),if_neg (by omega),if_neg (by omega)];rfl);have HRN2:=Z (HRN.o.trans (if_neg (by rintro(e|e);exact hq2 e;exact hq3 e)));clear hq2 hq3;have HOW:Hid ((Lay.int .i64).Own 3 (wr.alloc (.cells #[.int .i64 (x:Int)] 3)).drew wr.heap.size (.slice (some ⟨wr.heap.size,0,none⟩) 1 1) [(x:Int)]):=Z (Lay.Own.made (L:=Lay.int .i64) (e:=3) wr [(x:Int)] (Nat.le_refl _) (by simp));have hbA:Below wr.heap.size wr (wr.alloc (.cells #[.int .i64 (x:Int)] 3)).drew:=((Below.refl _ _).alloc (Nat.le_refl _) _).drew;have p4A:=(hbA.cell (p:=⟨pb,po+k*5+4,none⟩) (by show pb<_;omega)).trans p4;have crA:=(hbA.cell (p:=⟨r,2,none⟩) (by show r<_;omega)).trans cr;have hzA:wr.heap.size<(wr.alloc (.cells #[.int .i64 (x:Int)] 3)).drew.heap.size:=by show wr.heap.size<(wr.alloc (.cells #[.int .i64 (x:Int)] 3)).heap.size;simp
        clear HATX p3 p4 cr;generalize(wr.alloc (.cells #[.int .i64 (x:Int)] 3)).drew=wA at*;have HBA:=Z hbA;have hrA:r<wA.heap.size:=by omega
        have hpA:pb<wA.heap.size:=by omega
        have hcA:∀ob,(wA.drew.alloc ob).cell? ⟨r,2,none⟩=some (.slice rla m rlc):=λ ob=>(World.cell?_of_block (a:=⟨r,2,none⟩) (Below.heap_alloc wA.drew ob r hrA)).trans crA
        have hcB:∀ob,(wA.drew.alloc ob).cell? ⟨pb,po+k*5+4,none⟩=some (.int .u16 (qbb:Int)):=λ ob=>(World.cell?_of_block (a:=⟨pb,po+k*5+4,none⟩) (Below.heap_alloc wA.drew ob pb hpA)).trans p4A
        clear hbA
        go_wp2_with fail
        go_region_law(refine step_int rfl (.tmp 71) (.tmp 84) rfl (y:Int) rfl (by first|exact HOW.o.alloc _|exact(show(Lay.int .i64).Own 3 _ wr.heap.size _ _ from HOW.o).alloc _) rfl (by first|exact lay_new_cells _ [(y:Int)] 3) (by simp) (by first|(simp;done)|(simp;omega)|omega) ?_;intro v' w5 ho5 hg5 hv5;obtain⟨av,cv,hav,hhd⟩:=hd_own (l:=[x,y]) ho5;have HLO:Hid (∀ad,av=some ad->wr.heap.size<=ad.block):=(Z λ ad e=>(ho5.lt ad.block (by rw[hav,e];rfl)).1);subst hav;have HHD:=Z hhd;have HB5:Hid (Below wr.heap.size wr w5):=(Z (below_grown (by first|exact(HBA.o.drew.alloc (by show wr.heap.size<=wA.heap.size;omega) _)|exact(HBA.o.alloc (by show wr.heap.size<=wA.heap.size;omega) _)|exact(HBA.o.drew.drew.alloc (by show wr.heap.size<=wA.heap.size;omega) _)|exact((below_drewN HBA.o _).alloc (by show wr.heap.size<=wA.heap.size;omega) _)) (Nat.le_refl _) hg5 (λ k hk=>by have hk:some wr.heap.size=some k:=hk;injection hk with hk;omega)));clear ho5 hg5 hv5 hhd)
        all_goals
         as_aux_lemma=>
          go_wp2_with(first
           |(go_at_call 53;refine(app_P HB.o hsz HLE.o o ho2 ho3 [x,y] HAR.o HXYB.o rfl (by first|exact HB5.o|exact HB5.o.drew|exact below_drewN HB5.o _) (λ i hi=>HHD.o.at_ i hi) HLO.o HHD.o.non).mono ?_;rintro e w3 ⟨AP',nv',rfl,hb3,hl3,hat3⟩;have HB3:=Z hb3;have HL3:=Z hl3;have HAT3:=Z hat3;have hz3:w.heap.size<=w3.heap.size:=Nat.le_trans hsz hl3.size;clear hb3 hl3 hat3)
           |(go_at_call 54;refine(app_R HB3.o hz3 HLE.o o ho2 ho3 [x,y] HAR.o HXYB.o rfl HAT3.o).mono ?_;rintro e w4 ⟨AR',rv',rfl,hb4,hl4⟩;have HB4:=Z hb4;have HL4:=Z hl4;clear hb4 hl4))
          go_roundw
          case rel=>exact⟨k+1,by omega,by go_num,Z ⟨_,_,_,_,by rw[HSN.o,HRN2.o];exact HB4.o⟩,HBL.o.trans (HL3.o.trans HL4.o)⟩
          case measure=>simp[intOf];omega
  ·obtain rfl:k=qs.length:=by omega
   rw[List.take_length] at HBO
   go_wp2_with fail
   go_ret2
   obtain⟨AP,nv,AR,rv,hbo⟩:=HBO.o;exact⟨g,mb,nv,AP,r,rv,AR,rfl,hbo,hbel⟩
end Go.Proofs.YtgdpkkjfcdhmdaaGreatDoor
