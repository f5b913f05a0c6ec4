/- Walk: the values of all terms, of the reference. -/
import Derived.Test.YtgdpkkjfcdhmdaaGreatDoorR46
namespace Go.Proofs.YtgdpkkjfcdhmdaaGreatDoor
open Go.RowKit
set_option maxRecDepth 100000 in
set_option maxHeartbeats 8000000 in
theorem Py{w:World}{r W:Nat}{L:List Nd}(h:RV w r W L)(h1:1<=W)(h2:W<=64)(hL:L.length<=100)(vals:List Nat){a:Option Addr}{len cap:Nat}(a0:vals.length=len)(hvl:len<=100)(V:(Lay.int .u64).At 0 w a (fE vals))(aF:∀v∈vals,v<18446744073709551616):
  Calls Tryz.prog 157 #[.pointer (some ⟨r,0,none⟩),.slice a len cap] w (MD w W vals L):=by
 subst a0;have HR:=Z h;have aN:=Z V;have aU:=Z aF;clear h V aF;go_enter Tryz.func157,Tryz.ntmps157
 go_wp2_with fail
 go_loopw [5,6] (λ v i wr=>∃k:Nat,k<=L.length/\i= .int .i64 k/\Hid (mA wr w.heap.size v (fI W vals (L.take k)))/\Below w.heap.size w wr) (λ _ i _=>L.length-(intOf i).toNat)
 case atStart=>exact⟨0,by omega,rfl,Z (Lay.Own.nil _ _),A6 _ _⟩
 case round=>
  obtain⟨k,hk,rfl,I,af⟩:=hrel;have HV:=Z (HR.o.below af);obtain⟨na,ncap,cn,ap⟩:=HV.o.nodes;have c0:=HV.o.c0;have aE:=HV.o.low;have a7:=af.size;have aa:=Z af;clear af;by_cases hlk:k<L.length
  ·obtain⟨b,g,j,rfl,hbl,y0,y1,y2,V,_⟩:=ap k hlk;have aD:=HR.o.ok k hlk;have ae:Hid (fI W vals (L.take (k+1))=fI W vals (L.take k)++[fZ W vals (fI W vals (L.take k)) (L.getD k default)]):=Z (by rw[kn default L hlk,sG]);have az:(fI W vals (L.take k)).length=k:=by rw[qF,AO];omega
   have aA:Hid (∀t,(fI W vals (L.take k)).getD t 0<2^W):=Z (yI vals h1 (λ i hi=>by
    rw[AO] at hi;have:=HR.o.ok i (by omega);rwa[sH default L (by omega)]))
   have hki:(k:Int)<L.length:=by omega
   have au:=Z V;have ab:=Z aD;clear ap V aD;generalize L.getD k default=n at*;generalize fI W vals (L.take k)=P at*;obtain⟨d,num,c⟩:=n;simp only at y0 y1 y2;have al:=ab.o;have hop:d<=20:=al.1;have hPl:P.length<=100:=by omega
   have hnum:num<18446744073709551616:=al.2.2.1;have K:Hid ((Lay.int .u64).Own 46 wr w.heap.size u5 (fE P)):=Z I.o;have Q:Hid (∀ob,Below w.heap.size w (wr.alloc ob)):=Z λ ob=>aa.o.trans (((A6 _ _).alloc (A8 _) ob).mono a7)
   have B:Below wr.heap.size wr (wr.alloc (Obj.cells #[Value.int IntKind.u8 d,Value.int IntKind.u64 num,Value.slice g c.length j] 148)):=(A6 _ _).alloc (A8 _) _;have aO:=Z B;clear B al I;by_cases ho0:d=0
   ·subst ho0;have S:Hid (fZ W vals P ⟨0,num,c⟩=num):=Z rfl
    as_aux_lemma=>
     go_wp2_with(at_builtin;refine jF Tryz.elemU [(num:Int)] rfl _ _ rfl rfl (Lay.Own.alloc K.o _) rfl (by simp) rfl (by have:=fK P;show(fE P).length+1<=1000000;omega) (by simp;omega) ?_)
     intro v' F r1 r2;have E:=Z r1;have D:Hid (Below w.heap.size w F):=Z ((Q.o _).trans r2);clear r1 r2
     go_wp2_with fail
     go_roundw
     case rel=>exact⟨k+1,by omega,by go_num,Z (by rw[ae.o,S.o];unfold mA;rw[rL];exact E.o),D.o⟩
     case measure=>simp[intOf];omega
   by_cases ho1:d=1
   ·subst ho1;by_cases hnv:num<vals.length
    ·have S:Hid (fZ W vals P ⟨1,num,c⟩=vals.getD num 0%2^W):=Z (by unfold fZ;rw[if_neg (by simp),if_pos rfl,if_pos hnv]);obtain⟨J,Y,rfl,a8,aq⟩:=aN.o.int (i:=num) (by rw[fK];exact hnv);rw[ij] at aq;have aI:vals.getD num 0<18446744073709551616:=aU.o _ (by rw[Aa,Ab hnv];exact AI hnv);have HM:=Z (λ H=>zO W H h1 h2);have HT:bits .and .u64 ((vals.getD num 0:Nat):Int) ((2^W-1:Nat):Int)=((vals.getD num 0%2^W:Nat):Int):=lN h2 aI;have a3:(num:Int)<vals.length:=by omega
     have aH:=(aa.o.cell (p:=⟨J,Y+num,none⟩) a8).trans aq;have ba:J<wr.heap.size:=by omega
     clear aq;generalize vals.getD num 0=x at*;generalize x%2^W=z at*
     go_wp2_with fail
     have x1:(wr.alloc (Obj.cells #[Value.int IntKind.u8 1,Value.int IntKind.u64 num,Value.slice g c.length j] 148)).cell? ⟨wr.heap.size,1,none⟩=some (.int .u64 num):=by rw[Ah];rfl
     have G:=Z (Q.o (Obj.cells #[Value.int IntKind.u8 1,Value.int IntKind.u64 num,Value.slice g c.length j] 148));have ak:Hid ((Lay.int .u64).Own 46 (wr.alloc (Obj.cells #[Value.int IntKind.u8 1,Value.int IntKind.u64 num,Value.slice g c.length j] 148)) w.heap.size u5 (fE P)):=Z (Lay.Own.alloc K.o _);have B:Below wr.heap.size wr (wr.alloc (Obj.cells #[Value.int IntKind.u8 1,Value.int IntKind.u64 num,Value.slice g c.length j] 148)):=(A6 _ _).alloc (A8 _) _;have x2:=(B.cell (p:=⟨J,Y+num,none⟩) ba).trans aH;have x3:=(B.cell (p:=⟨r,0,none⟩) aE).trans c0;have ah:wr.heap.size<(wr.alloc (Obj.cells #[Value.int IntKind.u8 1,Value.int IntKind.u64 num,Value.slice g c.length j] 148)).heap.size:=by simp
     clear B c0 cn aH y0 y1 y2;generalize(wr.alloc (Obj.cells #[Value.int IntKind.u8 1,Value.int IntKind.u64 num,Value.slice g c.length j] 148))=wA at*;have A:Hid (∀f,Below wA.heap.size wA f->f.cell? ⟨wr.heap.size,1,none⟩=some (.int .u64 num)/\f.cell? ⟨J,Y+num,none⟩=some (.int .u64 (x:Int))/\f.cell? ⟨r,0,none⟩=some (.int .i64 W)/\Below wA.heap.size wA f):=Z λ f C=>
      ⟨(C.cell (p:=⟨wr.heap.size,1,none⟩) ah).trans x1,(C.cell (p:=⟨J,Y+num,none⟩) (by show J<_;omega)).trans x2,(C.cell (p:=⟨r,0,none⟩) (by show r<_;omega)).trans x3,C⟩
     go_region_held3(λ f=>f.cell? ⟨wr.heap.size,1,none⟩=some (.int .u64 num)/\f.cell? ⟨J,Y+num,none⟩=some (.int .u64 (x:Int))/\f.cell? ⟨r,0,none⟩=some (.int .i64 W)/\Below wA.heap.size wA f)
      (first|exact A.o _ (A6 _ _)|exact A.o _ (A6 _ _).drew|exact A.o _ (‹_/\_/\_/\Below _ _ _›).2.2.2|exact A.o _ (‹_/\_/\_/\Below _ _ _›).2.2.2.drew)
      (first
        |(go_at_call 91
          refine(HM.o _).mono ?_;rintro e wB ⟨rfl,rfl⟩))
     all_goals
      as_aux_lemma=>
       have aT:Hid ((Lay.int .u64).Own 46 wA.drew w.heap.size u5 (fE P)):=Z ak.o
       go_wp2_with(at_builtin;go_loud (refine jF (w:=wA.drew) (base:=w.heap.size) (ps:=fE P) Tryz.elemU [(z:Int)] rfl _ _ rfl rfl aT.o rfl (by first|rfl|simp) rfl (by have:=fK P;show(fE P).length+1<=1000000;omega) (by exact G.o.drew.size) ?_))
       intro v' F r1 r2;have E:=Z r1;have D:Hid (Below w.heap.size w F):=Z ((by first|exact G.o|exact G.o.drew|exact gG G.o _:Below w.heap.size w _).trans r2);clear r1 r2
       go_wp2_with fail
       go_roundw
       case rel=>exact⟨k+1,by omega,by go_num,Z (by rw[ae.o,S.o];unfold mA;rw[rL];exact E.o),D.o⟩
       case measure=>simp[intOf];omega
    have S:Hid (fZ W vals P ⟨1,num,c⟩=0):=Z (by unfold fZ;rw[if_neg (by simp),if_pos rfl,if_neg hnv]);have a3:(vals.length:Int)<=num:=by omega
    go_wp2_with(at_builtin;refine jF Tryz.elemU [0] rfl _ _ rfl rfl (Lay.Own.alloc K.o _) rfl (by simp) rfl (by have:=fK P;show(fE P).length+1<=1000000;omega) (by simp;omega) ?_)
    intro v' F r1 r2;have E:=Z r1;have D:Hid (Below w.heap.size w F):=Z ((Q.o _).trans r2);clear r1 r2
    go_wp2_with fail
    go_roundw
    case rel=>exact⟨k+1,by omega,by go_num,Z (by rw[ae.o,S.o];unfold mA;rw[rL];exact E.o),D.o⟩
    case measure=>simp[intOf];omega
   have a4:2<=d:=by omega
   have O:Hid ((gY P ⟨d,num,c⟩).length=c.length):=Z (by simp[gY]);have ar:Hid (∀t,t<c.length->c.getD t 0<k/\(gY P ⟨d,num,c⟩).take (t+1)=(gY P ⟨d,num,c⟩).take t++[P.getD (c.getD t 0) 0]):=Z λ t X=>⟨ab.o.2.2.2.2.2.2 _ (by rw[Aa,Ab X];exact AI X),by
    rw[kn 0 _ (by rw[O.o];exact X)]
    congr 2
    simp[gY,List.getD_eq_getElem?_getD,List.getElem?_eq_getElem X]⟩
   have aK:Hid (c.length<=2):=Z (by rw[ab.o.2.2.2.2.1];simp only[arN];(repeat' split)<;>omega);obtain⟨U,oc,e5,aC,a5,_⟩:=K.o.at_;rw[fK,az] at e5 a5;subst e5;have aw:=Z aC;clear aC
   go_wp2_with fail
   have B:Below wr.heap.size wr (wr.alloc (Obj.cells #[Value.int IntKind.u8 d,Value.int IntKind.u64 num,Value.slice g c.length j] 148)):=(A6 _ _).alloc (A8 _) _;have x0:(wr.alloc (Obj.cells #[Value.int IntKind.u8 d,Value.int IntKind.u64 num,Value.slice g c.length j] 148)).cell? ⟨wr.heap.size,0,none⟩=some (.int .u8 d):=by rw[Ah];rfl
   have x2:(wr.alloc (Obj.cells #[Value.int IntKind.u8 d,Value.int IntKind.u64 num,Value.slice g c.length j] 148)).cell? ⟨wr.heap.size,2,none⟩=some (.slice g c.length j):=by rw[Ah];rfl
   have x3:=(B.cell (p:=⟨r,0,none⟩) aE).trans c0;have aM:Hid ((Lay.int .i64).At 0 (wr.alloc (Obj.cells #[Value.int IntKind.u8 d,Value.int IntKind.u64 num,Value.slice g c.length j] 148)) g (fE c)):=Z (au.o.below B);have aL:Hid ((Lay.int .u64).At 0 (wr.alloc (Obj.cells #[Value.int IntKind.u8 d,Value.int IntKind.u64 num,Value.slice g c.length j] 148)) U (fE P)):=Z (aw.o.below B);have G:=Z (Q.o (Obj.cells #[Value.int IntKind.u8 d,Value.int IntKind.u64 num,Value.slice g c.length j] 148));have ak:Hid ((Lay.int .u64).Own 46 (wr.alloc (Obj.cells #[Value.int IntKind.u8 d,Value.int IntKind.u64 num,Value.slice g c.length j] 148)) w.heap.size (.slice U k oc) (fE P)):=Z (Lay.Own.alloc K.o _);have ah:wr.heap.size<(wr.alloc (Obj.cells #[Value.int IntKind.u8 d,Value.int IntKind.u64 num,Value.slice g c.length j] 148)).heap.size:=by simp
   clear B c0 cn y0 y1 y2 au aw K Q HV aa aO;generalize(wr.alloc (Obj.cells #[Value.int IntKind.u8 d,Value.int IntKind.u64 num,Value.slice g c.length j] 148))=wA at*;generalize wr.heap.size=N at*;clear wr
   go_loopw [9,10] (λ v i wi=>∃t:Nat,t<=c.length/\i= .int .i64 t/\Hid ((Lay.int .u64).Own 46 wi wA.heap.size v (fE ((gY P ⟨d,num,c⟩).take t)))/\Below wA.heap.size wA wi) (λ _ i _=>c.length-(intOf i).toNat)
   case atStart=>exact⟨0,by omega,rfl,Z (Lay.Own.nil _ _),A6 _ _⟩
   case round=>
    obtain⟨t,X,rfl,I,M⟩:=hrel;have z0:=(M.cell (p:=⟨N,0,none⟩) ah).trans x0;have z2:=(M.cell (p:=⟨N,2,none⟩) ah).trans x2;have z3:=(M.cell (p:=⟨r,0,none⟩) (by show r<_;omega)).trans x3;have ad:=Z I.o;have R:=Z M;have a6:=M.size;clear I M;by_cases hta:t<c.length
    ·obtain⟨aX,aG⟩:=ar.o t hta;have aV:=Z aG;obtain⟨ib,io,rfl,aY,am⟩:=aM.o.int (i:=t) (by rw[fK];exact hta);rw[ij] at am;obtain⟨jb,jo,rfl,aZ,an⟩:=aL.o.int (i:=c.getD t 0) (by rw[fK,az];exact aX);rw[ij] at an;have i0:=(R.o.cell (p:=⟨ib,io+t,none⟩) aY).trans am;have j0:=(R.o.cell (p:=⟨jb,jo+c.getD t 0,none⟩) aZ).trans an;have aI:P.getD (c.getD t 0) 0<2^W:=aA.o _;have aQ:Hid ((fE ((gY P ⟨d,num,c⟩).take t)).length=t):=Z (by rw[fK,AO,O.o];omega);have hti:(t:Int)<c.length:=by omega
     have haji:((c.getD t 0:Nat):Int)<k:=by omega
     have hA2:=aK.o;clear am an aG;generalize P.getD (c.getD t 0) 0=q at*;generalize c.getD t 0=aj at*;have bb:wA.heap.size<=wr.heap.size:=a6
     as_aux_lemma=>
      go_wp2_with(at_builtin;refine jF (base:=wA.heap.size) Tryz.elemU [(q:Int)] rfl _ _ rfl rfl ad.o rfl (by simp) rfl (by rw[aQ.o];omega) (by exact bb) ?_)
      intro v' F r1 r2;have E:=Z r1;have D:=Z (R.o.trans r2);clear r1 r2
      go_wp2_with fail
      go_roundw
      case rel=>exact⟨t+1,by omega,by go_num,Z (by rw[aV.o,rL];exact E.o),D.o⟩
      case measure=>simp[intOf];omega
    obtain rfl:t=c.length:=by omega
    rw[show(gY P ⟨d,num,c⟩).take c.length=gY P ⟨d,num,c⟩ by rw[<-O.o,AD]] at ad;obtain⟨a9,c9,e9,aB,_,_⟩:=ad.o.at_;rw[fK,O.o] at e9;have av:=Z aB;have aP:Hid (∀H,Below wr.heap.size wr H->Calls Tryz.prog 179 #[.int .u8 d,.int .i64 W,.slice a9 c.length c9] H λ e aW=>e= .returned (.tuple #[.int .u64 (fZ W vals P ⟨d,num,c⟩:Nat),.int .i64 0])/\Below H.heap.size H aW):=Z λ H C=>
     Px (n:=⟨d,num,c⟩) ab.o a4 h1 h2 aA.o rfl (av.o.below C)
    have ax:=Z (G.o.trans (R.o.mono G.o.size));have aS:Hid ((Lay.int .u64).Own 46 wr w.heap.size (.slice U k oc) (fE P)):=Z (ak.o.grown R.o);have bd:=ax.o.size;have be:N<wr.heap.size:=by omega
    clear aB av ad ar O;subst e9;generalize fZ W vals P ⟨d,num,c⟩=z at*;have A:Hid (∀f,Below wr.heap.size wr f->f.cell? ⟨N,0,none⟩=some (.int .u8 d)/\f.cell? ⟨r,0,none⟩=some (.int .i64 W)/\Below wr.heap.size wr f):=Z λ f C=>
     ⟨(C.cell (p:=⟨N,0,none⟩) be).trans z0,(C.cell (p:=⟨r,0,none⟩) (by show r<_;omega)).trans z3,C⟩
    go_wp2_with fail
    go_region_held3(λ f=>f.cell? ⟨N,0,none⟩=some (.int .u8 d)/\f.cell? ⟨r,0,none⟩=some (.int .i64 W)/\Below wr.heap.size wr f)
     (first|exact A.o _ (A6 _ _)|exact A.o _ (A6 _ _).drew|exact A.o _ KB.o|exact A.o _ KB.o.drew|exact A.o _ (‹_/\_/\Below _ _ _›).2.2|exact A.o _ (‹_/\_/\Below _ _ _›).2.2.drew)
     (first
       |(go_at_call 179
         refine(aP.o _ (‹_/\_/\Below _ _ _›).2.2).mono ?_;rintro e wB ⟨rfl,hB⟩;have KB:=Z ((‹_/\_/\Below _ _ _›).2.2.trans (hB.mono (‹_/\_/\Below _ _ _›).2.2.size))))
    all_goals
     as_aux_lemma=>
      have ay:Hid ((Lay.int .u64).Own 46 wB w.heap.size (.slice U k oc) (fE P)):=Z (aS.o.grown KB.o);have aR:Hid ((Lay.int .u64).Own 46 wB.drew w.heap.size (.slice U k oc) (fE P)):=Z ay.o;have ai:=Z (ax.o.trans (KB.o.mono bd));have aJ:=ai.o.size
      go_wp2_with(at_builtin;first
       |refine jF (w:=wB) (base:=w.heap.size) (ps:=fE P) Tryz.elemU [(z:Int)] rfl _ _ rfl rfl ay.o rfl (by first|rfl|simp) rfl (by have:=fK P;show(fE P).length+1<=1000000;omega) (by exact aJ) ?_
       |refine jF (w:=wB.drew) (base:=w.heap.size) (ps:=fE P) Tryz.elemU [(z:Int)] rfl _ _ rfl rfl aR.o rfl (by first|rfl|simp) rfl (by have:=fK P;show(fE P).length+1<=1000000;omega) (by exact aJ) ?_)
      intro v' F r1 r2;have E:=Z r1;have D:Hid (Below w.heap.size w F):=Z ((by first|exact ai.o|exact ai.o.drew:Below w.heap.size w _).trans r2);clear r1 r2
      go_wp2_with fail
      go_roundw
      case rel=>exact⟨k+1,by omega,by go_num,Z (by rw[ae.o];unfold mA;rw[rL];exact E.o),D.o⟩
      case measure=>simp[intOf];omega
  obtain rfl:k=L.length:=by omega
  rw[AD] at I;clear ap
  go_wp2_with fail
  go_ret
  exact⟨_,rfl,I.o,aa.o⟩
