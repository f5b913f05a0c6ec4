/- Walks: solve: attach. -/
import Derived.Test.YtmicnollchhlfaaGreatR39
set_option linter.all false
namespace Go.Proofs.YtmicnollchhlfaaGreat
open Go.RowKit Go.Shelf
section
variable {w:World} {B sb:Nat} {k:Cn} {N:Nat} {s:St} {y:Ly} {tg:Nat->Nat}
def AQ w B sb k N s c ca n cc i w':=∃y tg,SM w' B sb k N (jU s c i) y tg/\Below B w w'/\OT (Lay.int .i64) 3 w' B tg (12+2*s.cl.length) (.slice ca n cc) c
set_option maxRecDepth 100000 in
set_option maxHeartbeats 4000000 in
theorem MQ(h:SM w B sb k N s y tg)(hN:N<=1000000){c F n z}(hn:c.length=n)(hn2:2<=n)(hn3:n<=1000)(hc:OT (Lay.int .i64) 3 w B tg (12+2*s.cl.length) (.slice F n z) c)(Q:∀a∈c,a.natAbs<N)
  (hM:s.cl.length<=200000)(hW:oa s 400000):
  Calls Tryz.prog 57 #[.pointer (some ⟨sb,0,none⟩),.slice F n z] w λe w'=>e= .returned (.int .i64 s.cl.length)/\SP w B sb k N (mC s c) w':=by
 have ao:=Z (jV hc.own (by omega));have HC:=Z hc;have H:=Z h;have aj:=h.chl;obtain⟨aF,aE,Y,aH,_,_⟩:=h.oc.own.at_ (d:=nh);obtain⟨c1,f1⟩:=h.cell 1 _ rfl;have c1:w.cell? ⟨sb,1,none⟩=some y.cv:=c1;rw[aj] at Y;rw[Y] at c1;have aC:=Z aj;clear aj;go_enter Tryz.func57,Tryz.ntmps57
 go_wp2_with(at_builtin;suffices hzz:id (wpList _ _ _ _ _ _) from hzz)
 show wpList _ _ _ _ _ _;have aq:Hid (Lay.sl.Own 23 w B (.slice aF s.cl.length aE) y.ch):=Z (Y▸h.oc.own);have aI:B<=w.heap.size:=by have:=h.lo sb (by rw[h.tst];decide);omega
 refine gW (base:=B) (d:=(none,0,0)) (qs:=[(F,n,z)]) Tryz.elemS rfl _ _ rfl rfl (Lay.Own.alloc aq.o _) rfl (λh=>by cases h) rfl (fV (L:=Lay.sl) w (F,n,z) 23) (by rw[aC.o];simp;omega) (by simp;omega) ?_;intro v2 w2 o2 q2 a2;obtain⟨aA,h2,al⟩:=(h.alloc (.cells (Lay.sl.flat [(F,n,z)]).toArray 23)).pushCl (hd:=(F,n,z)) (c:=c) ⟨Lay.Own.alloc hc.own _,hc.tag⟩ (by exact o2) (by rw[Y];exact q2) (by rw[Y];exact a2);obtain⟨a3,c3,aJ,_,_,_⟩:=o2.at_ (d:=nh);subst aJ;have aw:=h.lo sb (by rw[h.tst];decide);have hq:w2.heap[sb]? =w.heap[sb]? :=(q2.block sb (by simp;omega) λe=>by have:=h.oc.tag sb (by rw[Y];exact e.symm);rw[h.tst] at this;omega).trans (fL w _ aw.2);have aD:=(Ah (a:=⟨sb,1,none⟩) hq).trans c1;have aG:=(World.frozen?_of_block (a:=⟨sb,1,none⟩) hq).trans f1;have ay:Below B w w2:=((A4 B w).alloc aI _).grown q2 (by simp;omega) λk hk=>by
  have:=(aq.o.lt k hk).1;omega
 have az:=Below.setCell ay (p:=⟨sb,1,none⟩) aw.1 (.slice a3 (y.ch++[(F,n,z)]).length c3);have ax:aA sb=1:=by rw[al.ext _ (by rw[h.tst];decide)];exact h.tst
 have H0:Hid (AQ w B sb k N s c F n z 0 (w2.setCell ⟨sb,1,none⟩ (.slice a3 (y.ch++[(F,n,z)]).length c3))):=Z ⟨_,aA,h2,az,((OT.go (tg':=tg) (X:=0) hc ⟨by simp,λi h0 _=>fL w _ (h.lo i h0).2,λ _ _=>rfl⟩ (by omega) (by omega)).go al (by omega) (by omega)).go (Mv.put ax) (by omega) (by omega)⟩;have aB:=Z (hc.own);have HL:Hid (∀i,i<2->(c.getD i 0).natAbs<N):=Z λi hi=>Q _ (eF _ _ (by omega))
 have HN:=Z hn;have HW:=Z hW;clear h2 o2 q2 a2 ay az hq hc h Y HC aH c1 f1 aB al ax hn hW Q;obtain⟨g,rfl,hBg,hcc,_⟩:=ao.o;have hcci:(2:Int)<=z:=by omega
 rw[show(y.ch++[((some ⟨g,0,none⟩:Option Addr),n,z)]).length=y.ch.length+1 by simp] at H0
 go_wp2_with fail
 generalize w2.setCell ⟨sb,1,none⟩ (.slice a3 (y.ch.length+1) c3)=w3 at*
 go_loopw [26] (λi wr=>∃j:Nat,j<=2/\i= .int .i64 j/\Hid (AQ w B sb k N s c (some ⟨g,0,none⟩) n z j wr)) (λi _=>2-(intOf i).toNat)
 case atStart=>exact⟨0,by omega,rfl,H0⟩
 case round=>
  obtain⟨j,hj,rfl,hw⟩:=hrel;have hji:(j:Int)<=2:=by omega
  by_cases hlk:j<2
  ·obtain⟨r,an,A,ac,o1⟩:=hw.o;have av:=HL.o j hlk;obtain⟨cc1,_⟩:=eV o1.own HN.o (i:=j) (by omega);obtain⟨S,_⟩:=A.cell 2 _ rfl;have hwle:((jU s c j).wat.getD (cQ (c.getD j 0)) []).length<=400000+j:=CX HW.o c j _;have af:=mA av;obtain⟨U,fh⟩:=nY A.ow.own A.hwl af;have HI:=Z λW=>xm W (c.getD j 0) (by omega)
   have hsb1:=A.lo sb (by rw[A.tst];decide);have hwb1:=(A.lo r.wb (by rw[A.ow.tag _ rfl];decide)).2;have ad:=Z λV w6 v6 (ho:(Lay.int .i64).Own 3 w6 B v6 ((jU s c j).wat.getD (cQ (c.getD j 0)) []++[(s.cl.length:Int)])) hg ha hs=>A.appW (V:=V) (w6:=w6) (v6:=v6) (i:=(s.cl.length:Int)) (a:=c.getD j 0) rfl af ho hg ha hs
   have ah:Hid ((Lay.int .i64).Own 3 wr B (hdV (r.hw.getD (cQ (c.getD j 0)) nh)) ((jU s c j).wat.getD (cQ (c.getD j 0)) [])):=Z (A.wa _ af).own;have hn4:¬sb=r.wb:=A.ne.1.2.2.2;have ae:Hid (∀w',(∃y' tg',SM w' B sb k N (ly (jU s c j) (c.getD j 0) s.cl.length) y' tg'/\Below B wr w'/\∀T v xs,12<=T->T%2=0->OT (Lay.int .i64) 3 wr B an T v xs->OT (Lay.int .i64) 3 w' B tg' T v xs)->AQ w B sb k N s c (some ⟨g,0,none⟩) n z (j+1) w'):=Z λw' ⟨y',tg',q1,q2,q3⟩=>⟨y',tg',q1,ac.trans q2,q3 _ _ _ (by omega) (by omega) o1⟩
   generalize(jU s c j).wat.getD (cQ (c.getD j 0)) []=wl at*;generalize r.hw.getD (cQ (c.getD j 0)) nh=hd at*;generalize c.getD j 0=a at*;generalize hgen:cQ a=ix at*;obtain⟨ha,am,ai⟩:=hd;have U:wr.cell? ⟨r.wb,ix,none⟩=some (.slice ha am ai):=U;have hxi:(ix:Int)<2*(N:Int):=by omega
   have hBw:B<=wr.heap.size:=by omega
   have S:wr.cell? ⟨sb,2,none⟩=some (.slice (some ⟨r.wb,0,none⟩) (2*N) r.cpw):=S;have hji2:(j:Int)<2:=by omega
   clear hw A o1 ac hgen av H H0 c1 aD aG ao
   go_wp2_with fail
   have hnn1:=World.new_ne wr ⟨r.wb,ix,none⟩ U;have hnn2:=World.new_ne wr ⟨sb,2,none⟩ S;have l:wr.drew.cell? ⟨sb,2,none⟩=some (.slice (some ⟨r.wb,0,none⟩) (2*N) r.cpw)/\wr.drew.cell? ⟨r.wb,ix,none⟩=some (.slice ha am ai):=⟨S,U⟩
   refine gV (λw'=>w'.cell? ⟨sb,2,none⟩=some (.slice (some ⟨r.wb,0,none⟩) (2*N) r.cpw)/\w'.cell? ⟨r.wb,ix,none⟩=some (.slice ha am ai)) (λi=>i==18) (by kernel_rfl) (λJ hJ=> ?_)
   repeat(
    (first|apply tk0 0 (by rfl) (by decide+kernel)|apply tk0 1 (by rfl) (by decide+kernel)|apply tk0 2 (by rfl) (by decide+kernel)|apply tk2 3 (by rfl) (by decide+kernel) (by assumption)|apply tk0 4 (by rfl) (by decide+kernel)|apply tk0 6 (by rfl) (by decide+kernel)|apply tk0 7 (by rfl) (by decide+kernel)|apply tk0 8 (by rfl) (by decide+kernel)|apply tk2 9 (by rfl) (by decide+kernel) (by assumption)|apply tk0 10 (by rfl) (by decide+kernel)|apply tk0 14 (by rfl) (by decide+kernel))
    intro w D
    try dsimp only at D
    (go_simp<;>with_reducible rfl)
    try simp only[pS,pN,pA,pZ,pC])
   refine mg (rs:=[5,15]) (by kernel_rfl) (by simp) ?_;refine eM.cons rfl (λK f=> ?_) (eM.cons rfl (λK f=> ?_) eM.nil)
   ·go_simp;refine(HI.o _).mono ?_;rintro e w5 ⟨rfl,rfl⟩;dsimp only;refine f.out _ _ ?_ (λl=> ?_)
    ·intro _ t;exact t
    have l:=l rfl (by assumption);clear f K
    try simp only[pS,pN,pA,pZ,pC]
    refine mg (rs:=[11,15]) (by kernel_rfl) (by simp) ?_;refine eM.cons rfl (λK f=> ?_) (eM.cons rfl (λK f=> ?_) eM.nil)
    ·go_simp;refine(HI.o _).mono ?_;rintro e w5 ⟨rfl,rfl⟩;dsimp only;refine f.out _ _ ?_ (λl=> ?_)
     ·intro _ t;exact t
     have l:=l rfl (by assumption);clear f K
     try simp only[pS,pN,pA,pZ,pC]
     repeat(
      (first|apply tk0 12 (by rfl) (by decide+kernel)|apply tk2 13 (by rfl) (by decide+kernel) (by assumption))
      intro w D
      try dsimp only at D
      (go_simp<;>with_reducible rfl)
      try simp only[pS,pN,pA,pZ,pC])
     refine tk5 15 (by kernel_rfl) (by rfl) λK f=> ?_
     go_simp;refine f.out _ _ ?_ (λl=> ?_)
     ·intro _ t;exact⟨gw t.1,gw t.2⟩
     have l:=l rfl (by assumption);clear f K
     try simp only[pS,pN,pA,pZ,pC]
     refine tk5 16 (by kernel_rfl) (by rfl) λK f=> ?_
     refine iK (base:=B) (d:=0) (ps:=wl) (qs:=[(s.cl.length:Int)]) Tryz.elemI rfl _ _ rfl rfl (SW.own (w:=wr.alloc (.cells #[.int .i64 (s.cl.length:Int)] 3)) ⟨rfl,rfl,rfl,rfl⟩ (Lay.Own.alloc ah.o _)) rfl (λh=>by cases h) rfl (SW.at_ (w:=wr.alloc (.cells #[.int .i64 (s.cl.length:Int)] 3)) ⟨rfl,rfl,rfl,rfl⟩ (fV (L:=Lay.int .i64) wr (s.cl.length:Int) 3)) (by simp;omega) (by simp;omega) ?_;intro v6 w6 R q6 G;obtain⟨au,rfl,O,E,P⟩:=ad.o _ _ _ R q6 G ⟨rfl,rfl,rfl,rfl⟩;have c26:=(Ah (a:=⟨sb,2,none⟩) O).trans S;have ab:=(Ah (a:=⟨r.wb,ix,none⟩) E).trans U;have ar:=(World.frozen?_of_block (a:=⟨r.wb,ix,none⟩) E).trans fh;have aa:=Z (ae.o _ P);clear P R q6 G O E;refine f.out _ _ ?_ (λl=> ?_)
     ·intro _ t;exact⟨c26,ab⟩
     have l:=l rfl (by assumption);clear f K
     try simp only[pS,pN,pA,pZ,pC]
     repeat(
      (first|apply tk0 17 (by rfl) (by decide+kernel))
      intro w D
      try dsimp only at D
      (go_simp<;>with_reducible rfl)
      try simp only[pS,pN,pA,pZ,pC])
     refine tk5 18 (by kernel_rfl) (by rfl) λK f=> ?_
     go_simp;refine f.out _ _ ?_ (λl=> ?_)
     ·intro Q;cases Q
     clear l;clear f K
     try simp only[pS,pN,pA,pZ,pC]
     refine eN (by kernel_rfl) ?_ _;refine hJ.o _ _ ?_;clear hJ J
     go_wp2_with fail
     go_roundw
     case rel=>exact⟨j+1,by omega,by go_num,aa⟩
     case measure=>simp[intOf];omega
    go_simp;refine f.out _ _ ?_ (λl=> ?_)
    ·intro _ t;exact⟨gw t.1,gw t.2⟩
    have l:=l rfl (by assumption);clear f K
    try simp only[pS,pN,pA,pZ,pC]
    refine tk5 11 (by kernel_rfl) (by rfl) λK f=> ?_
    go_simp;refine(HI.o _).mono ?_;rintro e w5 ⟨rfl,rfl⟩;dsimp only;refine f.out _ _ ?_ (λl=> ?_)
    ·intro _ t;exact t
    have l:=l rfl (by assumption);clear f K
    try simp only[pS,pN,pA,pZ,pC]
    repeat(
     (first|apply tk0 12 (by rfl) (by decide+kernel)|apply tk2 13 (by rfl) (by decide+kernel) (by assumption))
     intro w D
     try dsimp only at D
     (go_simp<;>with_reducible rfl)
     try simp only[pS,pN,pA,pZ,pC])
    refine tk5 16 (by kernel_rfl) (by rfl) λK f=> ?_
    refine iK (base:=B) (d:=0) (ps:=wl) (qs:=[(s.cl.length:Int)]) Tryz.elemI rfl _ _ rfl rfl (SW.own (w:=wr.alloc (.cells #[.int .i64 (s.cl.length:Int)] 3)) ⟨rfl,rfl,rfl,rfl⟩ (Lay.Own.alloc ah.o _)) rfl (λh=>by cases h) rfl (SW.at_ (w:=wr.alloc (.cells #[.int .i64 (s.cl.length:Int)] 3)) ⟨rfl,rfl,rfl,rfl⟩ (fV (L:=Lay.int .i64) wr (s.cl.length:Int) 3)) (by simp;omega) (by simp;omega) ?_;intro v6 w6 R q6 G;obtain⟨au,rfl,O,E,P⟩:=ad.o _ _ _ R q6 G ⟨rfl,rfl,rfl,rfl⟩;have c26:=(Ah (a:=⟨sb,2,none⟩) O).trans S;have ab:=(Ah (a:=⟨r.wb,ix,none⟩) E).trans U;have ar:=(World.frozen?_of_block (a:=⟨r.wb,ix,none⟩) E).trans fh;have aa:=Z (ae.o _ P);clear P R q6 G O E;refine f.out _ _ ?_ (λl=> ?_)
    ·intro _ t;exact⟨c26,ab⟩
    have l:=l rfl (by assumption);clear f K
    try simp only[pS,pN,pA,pZ,pC]
    repeat(
     (first|apply tk0 17 (by rfl) (by decide+kernel))
     intro w D
     try dsimp only at D
     (go_simp<;>with_reducible rfl)
     try simp only[pS,pN,pA,pZ,pC])
    refine tk5 18 (by kernel_rfl) (by rfl) λK f=> ?_
    go_simp;refine f.out _ _ ?_ (λl=> ?_)
    ·intro Q;cases Q
    clear l;clear f K
    try simp only[pS,pN,pA,pZ,pC]
    refine eN (by kernel_rfl) ?_ _;refine hJ.o _ _ ?_;clear hJ J
    go_wp2_with fail
    go_roundw
    case rel=>exact⟨j+1,by omega,by go_num,aa⟩
    case measure=>simp[intOf];omega
   go_simp;refine f.out _ _ ?_ (λl=> ?_)
   ·intro _ t;exact⟨gw t.1,gw t.2⟩
   have l:=l rfl (by assumption);clear f K
   try simp only[pS,pN,pA,pZ,pC]
   refine tk5 5 (by kernel_rfl) (by rfl) λK f=> ?_
   go_simp;refine(HI.o _).mono ?_;rintro e w5 ⟨rfl,rfl⟩;dsimp only;refine f.out _ _ ?_ (λl=> ?_)
   ·intro _ t;exact t
   have l:=l rfl (by assumption);clear f K
   try simp only[pS,pN,pA,pZ,pC]
   refine tk5 11 (by kernel_rfl) (by rfl) λK f=> ?_
   go_simp;refine(HI.o _).mono ?_;rintro e w5 ⟨rfl,rfl⟩;dsimp only;refine f.out _ _ ?_ (λl=> ?_)
   ·intro _ t;exact t
   have l:=l rfl (by assumption);clear f K
   try simp only[pS,pN,pA,pZ,pC]
   repeat(
    (first|apply tk0 12 (by rfl) (by decide+kernel)|apply tk2 13 (by rfl) (by decide+kernel) (by assumption))
    intro w D
    try dsimp only at D
    (go_simp<;>with_reducible rfl)
    try simp only[pS,pN,pA,pZ,pC])
   refine tk5 16 (by kernel_rfl) (by rfl) λK f=> ?_
   refine iK (base:=B) (d:=0) (ps:=wl) (qs:=[(s.cl.length:Int)]) Tryz.elemI rfl _ _ rfl rfl (SW.own (w:=wr.alloc (.cells #[.int .i64 (s.cl.length:Int)] 3)) ⟨rfl,rfl,rfl,rfl⟩ (Lay.Own.alloc ah.o _)) rfl (λh=>by cases h) rfl (SW.at_ (w:=wr.alloc (.cells #[.int .i64 (s.cl.length:Int)] 3)) ⟨rfl,rfl,rfl,rfl⟩ (fV (L:=Lay.int .i64) wr (s.cl.length:Int) 3)) (by simp;omega) (by simp;omega) ?_;intro v6 w6 R q6 G;obtain⟨au,rfl,O,E,P⟩:=ad.o _ _ _ R q6 G ⟨rfl,rfl,rfl,rfl⟩;have c26:=(Ah (a:=⟨sb,2,none⟩) O).trans S;have ab:=(Ah (a:=⟨r.wb,ix,none⟩) E).trans U;have ar:=(World.frozen?_of_block (a:=⟨r.wb,ix,none⟩) E).trans fh;have aa:=Z (ae.o _ P);clear P R q6 G O E;refine f.out _ _ ?_ (λl=> ?_)
   ·intro _ t;exact⟨c26,ab⟩
   have l:=l rfl (by assumption);clear f K
   try simp only[pS,pN,pA,pZ,pC]
   repeat(
    (first|apply tk0 17 (by rfl) (by decide+kernel))
    intro w D
    try dsimp only at D
    (go_simp<;>with_reducible rfl)
    try simp only[pS,pN,pA,pZ,pC])
   refine tk5 18 (by kernel_rfl) (by rfl) λK f=> ?_
   go_simp;refine f.out _ _ ?_ (λl=> ?_)
   ·intro Q;cases Q
   clear l;clear f K
   try simp only[pS,pN,pA,pZ,pC]
   refine eN (by kernel_rfl) ?_ _;refine hJ.o _ _ ?_;clear hJ J
   go_wp2_with fail
   go_roundw
   case rel=>exact⟨j+1,by omega,by go_num,aa⟩
   case measure=>simp[intOf];omega
  obtain rfl:j=2:=by omega
  go_wp2_with fail
  go_ret
  obtain⟨r,an,A,ac,o1⟩:=hw.o;exact⟨rfl,r,an,A,ac⟩
end
