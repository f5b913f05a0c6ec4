/- Walk: Graphs. -/
import Derived.Test.YtgdpkkjfcdhmdaaGreatDoorR13
set_option maxRecDepth 100000
namespace Go.Proofs.YtgdpkkjfcdhmdaaGreatDoor
open Go.RowKit
def GrP(w:World)(W:Nat)(qs:List jZ)(e:Ending)(w':World):Prop:=∃g mb nv AP r rv AR,e= .returned (.tuple #[.pointer (some ⟨g,0,none⟩),.pointer (some ⟨r,0,none⟩)])/\Bo w' w.heap.size AP g mb nv (iu W qs) AR r rv (iu W qs) W/\Below w.heap.size w w'
theorem Jd{B:Nat}{w X w5:World}{row:Option Nat}(hb:Below B w X)(hB:B<=w.heap.size)(hg:X.grownBy w5 row)(hr:∀k,row=some k->B<=k):Below B w w5:=hb.grown hg (Ag hB hb.size) hr
theorem zZ(w:World)(W:Int)(h:W<1\/64<W)(a:Option Addr)(len cap:Nat):Calls Tryz.prog 21 #[.int .i64 W,.slice a len cap] w λ e w'=>e= .returned (.tuple #[.pointer none,.pointer none])/\w=w':=by have b:=Z (I2 w W h);have HR:=Z (I4 w W h);clear h;go_enter Tryz.func21,Tryz.ntmps21;go_wp2_with(first|(go_at_call 47;refine b.o.mono ?_;rintro e c ⟨rfl,rfl⟩)|(go_at_call 48;refine HR.o.mono ?_;rintro e c ⟨rfl,rfl⟩));go_ret2;exact⟨rfl,rfl⟩
set_option maxHeartbeats 16000000 in
theorem Je(w:World)(W:Nat)(V:1<=W)(h2:W<=64)(qs:List jZ){a:Option Addr}{len cap:Nat}(a0:qs.length=len)(hq:qs.length<=40)(aK:Lay.raw.At default w a qs)(X:∀q∈qs,q.2.1<256/\q.2.2.1<18446744073709551616/\q.2.2.2.1<65536/\q.2.2.2.2<65536):
  Calls Tryz.prog 21 #[.int .i64 W,.slice a len cap] w (GrP w W qs):=by
 subst a0;have HN:=Z (I1 w w.heap.size W (A8 _) V h2);have aW:=Z (λ D (hw:w.heap.size<=D.heap.size)=>I3 D w.heap.size W hw V h2);have aT:=Z aK;have aU:=Z X;clear aK X;go_enter Tryz.func21,Tryz.ntmps21
 go_wp2_with(go_at_call 47;refine HN.o.mono ?_;rintro e w1 ⟨g,mb,rfl,aq,az,hg,a3⟩)
 have aC:=az.size
 go_wp2_with(go_at_call 48;refine(aW.o w1 aC).mono ?_;rintro e w2 ⟨r,rfl,aQ,aA,hr⟩)
 have U:Hid (Bo w2 w.heap.size noB g mb (.slice none 0 0) [] noB r (.slice none 0 0) [] W):=Z ⟨aq.below aA,aQ,λ k c aP=>by
  rcases c with(m|m|m)|m
  ·subst m;have:=(aq.lo k (.inl rfl)).2;rcases aP with(m|m|m)|m
   ·omega
   ·cases m
   ·cases m
   exact m
  ·injection m with m;subst m;have:=(aq.lo mb (.inr (.inl rfl))).2;rcases aP with(m|m|m)|m
   ·omega
   ·cases m
   ·cases m
   exact m
  ·cases m
  exact m⟩
 have aF:=Z (az.trans (aA.mono aC));clear aq aQ az aA hg a3 hr aC
 go_wp2_with fail
 go_loopw [10] (λ i wr=>∃k:Nat,k<=qs.length/\i= .int .i64 k/\Hid (∃AP nv AR rv,Bo wr w.heap.size AP g mb nv (iu W (qs.take k)) AR r rv (iu W (qs.take k)) W)/\Below w.heap.size w wr) (λ i _=>qs.length-(intOf i).toNat)
 case atStart=>exact⟨0,by omega,rfl,Z ⟨_,_,_,_,U.o⟩,aF.o⟩
 case round=>
  clear U aF;obtain⟨k,c,rfl,U,O⟩:=hrel;by_cases hlk:k<qs.length
  ·have aR:=kn default qs hlk;have ae:Hid (iu W (qs.take (k+1))=fW (lp W (iu W (qs.take k)) (qs.getD k default)) (iu W (qs.take k))):=Z (by rw[aR,tg]);have hLL:(iu W (qs.take k)).length<=40:=by have:=zY W (qs.take k);rw[AO] at this;omega
   obtain⟨pb,t,rfl,S,q0,q1,q2,q3,q4⟩:=Jb aT.o hlk;have aO:=aU.o (qs.getD k default) (by rw[Aa,Ab hlk];exact AI hlk);generalize iu W (qs.take k)=L at*;generalize qs.getD k default=q at*;obtain⟨F,J,num,z,E⟩:=q;simp only at q0 q1 q2 q3 q4 aO;obtain⟨AP,nv,AR,rv,Y⟩:=U.o;obtain⟨ar,au,rfl,_,_⟩:=Y.rg.slice;have hrl:=(Y.rg.lo r (.inl rfl)).2;have cr:wr.cell? ⟨r,2,none⟩=some (.slice ar L.length au):=by simp[World.cell?,Y.rg.blk]
   have p0:=(O.cell (p:=⟨pb,t+k*5,none⟩) S).trans q0;have p1:=(O.cell (p:=⟨pb,t+k*5+1,none⟩) S).trans q1;have p2:=(O.cell (p:=⟨pb,t+k*5+2,none⟩) S).trans q2;have p3:=(O.cell (p:=⟨pb,t+k*5+3,none⟩) S).trans q3;have p4:=(O.cell (p:=⟨pb,t+k*5+4,none⟩) S).trans q4;have hki:(k:Int)<qs.length:=by omega
   have N:=Z Y;have aa:=Z O;have A:=O.size;obtain⟨hop,ap,hqa,hqc⟩:=aO;clear Y U O q0 q1 q2 q3 q4 aR;have a9:=Z V;by_cases hk0:F%3=0
   ·have M:Hid (lp W L (F,J,num,z,E)=⟨0,num%2^W,[]⟩):=Z (if_pos (.inl hk0));have HC:=Z (re N.o.pg A (by omega) V h2 num ap);have dk:((F:Int)%3==0)=true:=by simp;omega
    clear hk0
    as_aux_lemma=>
     go_wp2_with(first
     |(go_at_call 49;refine HC.o.mono ?_;rintro e K n;obtain⟨ak,rfl,f,b,_⟩:=N.o.stepP A (λ k c=>c.elim) n;have bb:=(b.cell (p:=⟨pb,t+k*5+2,none⟩) S).trans p2;have B:=Z f;have H:=Z b;have C:w.heap.size<=K.heap.size:=Ag A b.size;clear n f b)
     |(go_at_call 50;refine(zS B.o.rg C (by omega) V h2 num ap).mono ?_;rintro e w4 n;obtain⟨al,rfl,h,j⟩:=B.o.stepR C (λ k c=>c.elim) n;have G:=Z h;have I:=Z j;clear n h j))
     go_roundw
     case rel=>exact⟨k+1,by omega,by go_num,Z ⟨_,_,_,_,by rw[ae.o,M.o];exact G.o⟩,aa.o.trans (H.o.trans I.o)⟩
     case measure=>simp[intOf];omega
   by_cases hL0:L.length=0
   ·have M:Hid (lp W L (F,J,num,z,E)=⟨0,num%2^W,[]⟩):=Z (if_pos (.inr hL0));have HC:=Z (re N.o.pg A (by omega) V h2 num ap);have dk:((F:Int)%3==0)=false:=by rw[beq_eq_false_iff_ne];omega
    have dl:((L.length:Int)==0)=true:=by rw[beq_iff_eq];omega
    clear hk0 hL0
    as_aux_lemma=>
     go_wp2_with(first
     |(go_at_call 49;refine HC.o.mono ?_;rintro e K n;obtain⟨ak,rfl,f,b,_⟩:=N.o.stepP A (λ k c=>c.elim) n;have bb:=(b.cell (p:=⟨pb,t+k*5+2,none⟩) S).trans p2;have B:=Z f;have H:=Z b;have C:w.heap.size<=K.heap.size:=Ag A b.size;clear n f b)
     |(go_at_call 50;refine(zS B.o.rg C (by omega) V h2 num ap).mono ?_;rintro e w4 n;obtain⟨al,rfl,h,j⟩:=B.o.stepR C (λ k c=>c.elim) n;have G:=Z h;have I:=Z j;clear n h j))
     go_roundw
     case rel=>exact⟨k+1,by omega,by go_num,Z ⟨_,_,_,_,by rw[ae.o,M.o];exact G.o⟩,aa.o.trans (H.o.trans I.o)⟩
     case measure=>simp[intOf];omega
   by_cases hk1:F%3=1
   ·have M:Hid (lp W L (F,J,num,z,E)=⟨1,z%12,[]⟩):=Z (by unfold lp;rw[if_neg (by rintro(e|e);exact hk0 e;exact hL0 e),if_pos hk1]);have HC:=Z (zR N.o.pg A (by omega) (z%12) (Ay _ (by decide)));have dk:((F:Int)%3==0)=false:=by rw[beq_eq_false_iff_ne];omega
    have aY:((F:Int)%3==1)=true:=by rw[beq_iff_eq];omega
    have dl:((L.length:Int)==0)=false:=by rw[beq_eq_false_iff_ne];omega
    clear hk0 hL0 hk1
    as_aux_lemma=>
     go_wp2_with(first
     |(go_at_call 51;refine HC.o.mono ?_;rintro e K n;obtain⟨ak,rfl,f,b,_⟩:=N.o.stepP A (λ k c=>c.elim) n;have p3':=(b.cell (p:=⟨pb,t+k*5+3,none⟩) S).trans p3;have B:=Z f;have H:=Z b;have C:w.heap.size<=K.heap.size:=Ag A b.size;clear n f b)
     |(go_at_call 52;refine(IW B.o.rg C (by omega) (z%12) (Ay _ (by decide))).mono ?_;rintro e w4 n;obtain⟨al,rfl,h,j⟩:=B.o.stepR C (λ k c=>c.elim) n;have G:=Z h;have I:=Z j;clear n h j))
     go_roundw
     case rel=>exact⟨k+1,by omega,by go_num,Z ⟨_,_,_,_,by rw[ae.o,M.o];exact G.o⟩,aa.o.trans (H.o.trans I.o)⟩
     case measure=>simp[intOf];omega
   have dk:((F:Int)%3==0)=false:=by rw[beq_eq_false_iff_ne];omega
   have aY:((F:Int)%3==1)=false:=by rw[beq_eq_false_iff_ne];omega
   have dl:((L.length:Int)==0)=false:=by rw[beq_eq_false_iff_ne];omega
   have aJ:0<L.length:=by omega
   have a4:J%19<19:=Ay _ (by decide);have M:Hid (lp W L (F,J,num,z,E)=if 2+J%19=2\/2+J%19=3 then⟨2+J%19,0,[z%L.length]⟩ else⟨2+J%19,0,[z%L.length,E%L.length]⟩):=Z (by unfold lp;rw[if_neg (by rintro(e|e);exact hk0 e;exact hL0 e),if_neg hk1]);obtain⟨o,ho⟩:∃o:Nat,o=2+J%19:=⟨_,rfl⟩
   obtain⟨x,hx⟩:∃x:Nat,x=z%L.length:=⟨_,rfl⟩
   obtain⟨y,hy⟩:∃y:Nat,y=E%L.length:=⟨_,rfl⟩
   have aS:x<L.length:=by rw[hx];exact Ay _ aJ
   have ba:y<L.length:=by rw[hy];exact Ay _ aJ
   have af:2<=o:=by omega
   have ah:o<=20:=by omega
   have a5:(2+(J:Int)%19)=(o:Int):=by omega
   have hmA:Int.tmod (z:Int) (L.length:Int)=(x:Int):=by rw[Bj (by omega),hx,B6]
   have hmA2:(z:Int)%(L.length:Int)=(x:Int):=by rw[hx,B6]
   have hmB:Int.tmod (E:Int) (L.length:Int)=(y:Int):=by rw[Bj (by omega),hy,B6]
   have hmB2:(E:Int)%(L.length:Int)=(y:Int):=by rw[hy,B6]
   rw[<-ho,<-hx,<-hy] at M;have hLne:(L.length:Int)≠0:=by omega
   have hwA:IntKind.i64.wrap (z:Int)=(z:Int):=by rw[IntKind.wrap_i64];omega
   have a9:IntKind.i64.wrap (E:Int)=(E:Int):=by rw[IntKind.wrap_i64];omega
   clear ho hx hy hk0 hL0 hk1 a4;generalize hm:L.length=m at*;have ay:=Z hm;clear hm;have hmn:m≠0:=by omega
   have hmp:(0:Int)<m:=by omega
   go_wp2_with fail
   clear a5;have Q:Hid (∀D,Below wr.heap.size wr D->D.cell? ⟨pb,t+k*5+3,none⟩=some (.int .u16 (z:Int))/\D.cell? ⟨pb,t+k*5+4,none⟩=some (.int .u16 (E:Int))/\D.cell? ⟨r,2,none⟩=some (.slice ar m au)/\Below wr.heap.size wr D):=Z λ D X=>
    ⟨(X.cell (p:=⟨pb,t+k*5+3,none⟩) (by show pb<_;omega)).trans p3,(X.cell (p:=⟨pb,t+k*5+4,none⟩) (by show pb<_;omega)).trans p4,(X.cell (p:=⟨r,2,none⟩) (by show r<_;omega)).trans cr,X⟩
   go_region_held3(λ D=>D.cell? ⟨pb,t+k*5+3,none⟩=some (.int .u16 (z:Int))/\D.cell? ⟨pb,t+k*5+4,none⟩=some (.int .u16 (E:Int))/\D.cell? ⟨r,2,none⟩=some (.slice ar m au)/\Below wr.heap.size wr D)
    (first|exact Q.o _ (A6 _ _)|exact Q.o _ (A6 _ _).drew|exact Q.o _ ((A6 _ _).alloc (A8 _) _)|exact Q.o _ ((A6 _ _).alloc (A8 _) _).drew|exact Q.o _ ((‹_/\_/\_/\Below _ _ _›).2.2.2.alloc (‹_/\_/\_/\Below _ _ _›).2.2.2.size _)|exact Q.o _ (‹_/\_/\_/\Below _ _ _›).2.2.2|exact Q.o _ (‹_/\_/\_/\Below _ _ _›).2.2.2.drew)
    (fail)
   have ab:Hid (L.length<=999):=Z (by have:=ay.o;omega);have an:Hid (∀a∈[x],a<L.length):=Z (by simpa[ay.o] using aS);have aI:Hid (∀a∈[x,y],a<L.length):=Z (by simpa[ay.o] using⟨aS,ba⟩);have aw:Hid ((Lay.int .i64).At 0 (wr.alloc (.cells #[.int .i64 (x:Int)] 3)).drew (some ⟨wr.heap.size,0,none⟩) (fE [x])):=Z λ i hi=>(Lay.At.made (L:=Lay.int .i64) (d:=0) wr [(x:Int)] 3) i hi
   clear Q;by_cases hq2:o=2
   ·have dq:((o:Int) !=2)=false:=by simp;omega
    have P:Hid ([x].length=arN o):=Z (by rw[hq2];rfl);have aj:=Z (M.o.trans (if_pos (.inl hq2)));clear hq2
    as_aux_lemma=>
     go_wp2_with(first
      |(go_at_call 53;refine(vC N.o A ab.o o af ah [x] P.o an.o rfl (by first|exact(A6 _ _).alloc (A8 _) _|exact((A6 _ _).alloc (A8 _) _).drew) aw.o (λ ad e=>by injection e with e;subst e;exact A8 _) (λ e=>by cases e)).mono ?_;rintro e K ⟨aD,ak,rfl,f,b,R⟩;have B:=Z f;have H:=Z b;have ai:=Z R;have C:w.heap.size<=K.heap.size:=Ag A b.size;clear f b R)
      |(go_at_call 54;refine(vD B.o C ab.o o af ah [x] P.o an.o rfl ai.o).mono ?_;rintro e w4 ⟨aE,al,rfl,h,j⟩;have G:=Z h;have I:=Z j;clear h j))
     go_roundw
     case rel=>exact⟨k+1,by omega,by go_num,Z ⟨_,_,_,_,by rw[ae.o,aj.o];exact G.o⟩,aa.o.trans (H.o.trans I.o)⟩
     case measure=>simp[intOf];omega
   by_cases hq3:o=3
   ·have dq:((o:Int) !=2)=true:=by simp;omega
    have aZ:((o:Int) !=3)=false:=by simp;omega
    have P:Hid ([x].length=arN o):=Z (by rw[hq3];rfl);have aj:=Z (M.o.trans (if_pos (.inr hq3)));clear hq2 hq3
    as_aux_lemma=>
     go_wp2_with(first
      |(go_at_call 53;refine(vC N.o A ab.o o af ah [x] P.o an.o rfl (by first|exact(A6 _ _).alloc (A8 _) _|exact((A6 _ _).alloc (A8 _) _).drew) aw.o (λ ad e=>by injection e with e;subst e;exact A8 _) (λ e=>by cases e)).mono ?_;rintro e K ⟨aD,ak,rfl,f,b,R⟩;have B:=Z f;have H:=Z b;have ai:=Z R;have C:w.heap.size<=K.heap.size:=Ag A b.size;clear f b R)
      |(go_at_call 54;refine(vD B.o C ab.o o af ah [x] P.o an.o rfl ai.o).mono ?_;rintro e w4 ⟨aE,al,rfl,h,j⟩;have G:=Z h;have I:=Z j;clear h j))
     go_roundw
     case rel=>exact⟨k+1,by omega,by go_num,Z ⟨_,_,_,_,by rw[ae.o,aj.o];exact G.o⟩,aa.o.trans (H.o.trans I.o)⟩
     case measure=>simp[intOf];omega
   have dq:((o:Int) !=2)=true:=by simp;omega
   have aZ:((o:Int) !=3)=true:=by simp;omega
   have P:Hid ([x,y].length=arN o):=Z (by unfold arN;rw[if_neg (by omega),if_neg (by omega),if_neg (by omega)];rfl);have aj:=Z (M.o.trans (if_neg (by rintro(e|e);exact hq2 e;exact hq3 e)));clear hq2 hq3;have aH:Hid ((Lay.int .i64).Own 3 (wr.alloc (.cells #[.int .i64 (x:Int)] 3)).drew wr.heap.size (.slice (some ⟨wr.heap.size,0,none⟩) 1 1) [(x:Int)]):=Z (Lay.Own.made (L:=Lay.int .i64) (e:=3) wr [(x:Int)] (A8 _) (by simp));have ao:Below wr.heap.size wr (wr.alloc (.cells #[.int .i64 (x:Int)] 3)).drew:=((A6 _ _).alloc (A8 _) _).drew;have bd:=(ao.cell (p:=⟨pb,t+k*5+4,none⟩) (by show pb<_;omega)).trans p4;have aX:=(ao.cell (p:=⟨r,2,none⟩) (by show r<_;omega)).trans cr;have hzA:wr.heap.size<(wr.alloc (.cells #[.int .i64 (x:Int)] 3)).drew.heap.size:=by show wr.heap.size<(wr.alloc (.cells #[.int .i64 (x:Int)] 3)).heap.size;simp
   clear aw p3 p4 cr;generalize(wr.alloc (.cells #[.int .i64 (x:Int)] 3)).drew=wA at*;have am:=Z ao;have a7:r<wA.heap.size:=by omega
   have a6:pb<wA.heap.size:=by omega
   have hcA:∀ob,(wA.drew.alloc ob).cell? ⟨r,2,none⟩=some (.slice ar m au):=λ ob=>(Ai (a:=⟨r,2,none⟩) (AW wA.drew ob r a7)).trans aX
   have hcB:∀ob,(wA.drew.alloc ob).cell? ⟨pb,t+k*5+4,none⟩=some (.int .u16 (E:Int)):=λ ob=>(Ai (a:=⟨pb,t+k*5+4,none⟩) (AW wA.drew ob pb a6)).trans bd
   clear ao
   go_wp2_with fail
   go_region_law(refine Jc rfl (.tmp 71) (.tmp 84) rfl (y:Int) rfl (by first|exact aH.o.alloc _|exact(show(Lay.int .i64).Own 3 _ wr.heap.size _ _ from aH.o).alloc _) rfl (by first|exact qg _ [(y:Int)] 3) (by simp) (by first|(simp;done)|(simp;omega)|omega) ?_;intro v' w5 aB aM a8;obtain⟨av,cv,aL,aN⟩:=vA (l:=[x,y]) aB;have aV:Hid (∀ad,av=some ad->wr.heap.size<=ad.block):=(Z λ ad e=>(aB.lt ad.block (by rw[aL,e];rfl)).1);subst aL;have aG:=Z aN;have ax:Hid (Below wr.heap.size wr w5):=(Z (Jd (by first|exact(am.o.drew.alloc (by show wr.heap.size<=wA.heap.size;omega) _)|exact(am.o.alloc (by show wr.heap.size<=wA.heap.size;omega) _)|exact(am.o.drew.drew.alloc (by show wr.heap.size<=wA.heap.size;omega) _)|exact((gG am.o _).alloc (by show wr.heap.size<=wA.heap.size;omega) _)) (A8 _) aM (λ k c=>by have c:some wr.heap.size=some k:=c;injection c with c;omega)));clear aB aM a8 aN)
   all_goals
    as_aux_lemma=>
     go_wp2_with(first
      |(go_at_call 53;refine(vC N.o A ab.o o af ah [x,y] P.o aI.o rfl (by first|exact ax.o|exact ax.o.drew|exact gG ax.o _) (λ i hi=>aG.o.at_ i hi) aV.o aG.o.non).mono ?_;rintro e K ⟨aD,ak,rfl,f,b,R⟩;have B:=Z f;have H:=Z b;have ai:=Z R;have C:w.heap.size<=K.heap.size:=Ag A b.size;clear f b R)
      |(go_at_call 54;refine(vD B.o C ab.o o af ah [x,y] P.o aI.o rfl ai.o).mono ?_;rintro e w4 ⟨aE,al,rfl,h,j⟩;have G:=Z h;have I:=Z j;clear h j))
     go_roundw
     case rel=>exact⟨k+1,by omega,by go_num,Z ⟨_,_,_,_,by rw[ae.o,aj.o];exact G.o⟩,aa.o.trans (H.o.trans I.o)⟩
     case measure=>simp[intOf];omega
  obtain rfl:k=qs.length:=by omega
  rw[AD] at U
  go_wp2_with fail
  go_ret2
  obtain⟨AP,nv,AR,rv,Y⟩:=U.o;exact⟨g,mb,nv,AP,r,rv,AR,rfl,Y,O⟩
