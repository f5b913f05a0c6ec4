/- Walks: shift: Shift. -/
import Derived.Test.YtmicnollchhlfaaGreatR29
set_option linter.all false
namespace Go.Proofs.YtmicnollchhlfaaGreat
open Go.RowKit Go.Shelf
theorem Cp up fill:∀y n i w b,shF up fill (y++[n]) i w b=dt n (mvL up (gv (i+y.length) w.length) fill (shF up fill y i w b).1) (shF up fill y i w b).1 (shF up fill y i w b).2|[],n,i,w,b=>rfl|q::y,n,i,w,b=>by have h:=Cp up fill y n (i+1) (dt q (mvL up (gv i w.length) fill w) w b).1 (dt q (mvL up (gv i w.length) fill w) w b).2;rw[sU q b (mr up _ fill w),show i+1+y.length=i+(q::y).length by simp;omega] at h;exact h
open Go.Proofs.YtmicnollchhlfaaGreat.Cr in
theorem sV:MT 249 5 168 .u8 .nilFunc:=⟨by kernel_rfl,Tryz.underlying5,λw=>by kernel_rfl,λem k w=>nf (μ:=kX) (d:=1) (ks:=[0]) (by decide) (by kernel_rfl) Tryz.underlying5 (VR.int _ _) (by rfl)⟩
theorem wV{w ops rest o a Q q mb S d E f z}(T:MT d E f q z)(n:o.guard=none) m x v(t:o.op=Op.insert d m x v)(hm:a.eval m= .map (some mb))(h:dB q w mb S){k}(D:a.eval x= .int q k)(r:lkS S k=none) {u}(B:a.eval v=u)(g:∀w',dB q w' mb (S++[(k,u)])->w'.heap.size=w.heap.size->(∀b,b≠mb->w'.heap[b]? =w.heap[b]?)->w'.os=w.os->w'.tape=w.tape->w'.output=w.output->wpList Tryz.prog ops Q rest (a.put o.dst undef) w'):wpList Tryz.prog ops Q (o::rest) a w:=by refine wpList_plain n λK' j=> ?_;obtain⟨F,A,l⟩:=h.update T r u;have c:∀b,b≠mb->(w.heap.setIfInBounds mb F)[b]? =w.heap[b]? :=λb c=>AK (Ne.symm c);unfold Oper.wp;simp[execOp,t,hm,D,B,A,Result.andThen];exact j _ _ (g _ (l _ rfl) (by simp) c rfl rfl rfl)
def LI.bel{w1:World}{B bb:Nat}{off off1:Nat->Prop}{ps:List (Nat×List Value)}{W W':World}{r:Bl}(h:LI w1 B bb off off1 ps W r)(hb:Below W.heap.size W W'):=h.step1 (λ _=>.inl) (h.fb.below hb) (cP.of_below hb h.fb.lt h.fb.base)
structure SL (w:World) (B bb:Nat) (off:Nat->Prop) (sb m:Nat) (up:Bool) (fl:Int) (x y:List Int) (b:Bl) (n:Nat) (ha:Option Addr) (hc:Nat) (wr:World):Prop where
 ex:∃off1,LI w B bb off off1 [(sb,[.slice ha m hc,.int .i64 fl])] wr (shF up fl (y.take n) 0 x b).2/\CAt wr (λj=>off1 j/\j≠sb) (ha,m,hc) (shF up fl (y.take n) 0 x b).1
theorem K3{up fl x y b}(w:Wf b)(f:okW b.n x)(g:okW b.n y)(d:okL b.n fl) i:Wf (shF up fl y i x b).2/\b.n<=(shF up fl y i x b).2.n/\okW (shF up fl y i x b).2.n (shF up fl y i x b).1:=by have h:=qz (A:=fl::(x++y)) up y i x b _ _ w (cS.self f λl a=>Ac _ (Ak _ a)) (cS.self g λl a=>Ac _ (List.mem_append_right _ a)) (F:=λt=>t fl) ⟨d,λ _ _=>rfl,λp _ c=>c fl (by simp)⟩;exact⟨h.wf,h.gr.n,h.has.lit⟩
theorem K7{up k fl x n}(hx:okW n x)(hf:okL n fl):okW n (mvL up k fl x):=λl hl=>by unfold mvL at hl;split at hl;{rcases A6.1 hl with hl|hl;{rw[(List.mem_replicate.1 hl).2];exact hf};exact hx l (List.mem_of_mem_take hl)};rcases A6.1 hl with hl|hl;{exact hx l (List.mem_of_mem_drop hl)};rw[(List.mem_replicate.1 hl).2];exact hf
theorem K8{n m}(hn:n<=3):∃p:Nat,wrap64 ((2:Int)^n)=p/\gv n m=min m p:=by have:n=0\/n=1\/n=2\/n=3:=by{omega};rcases this with rfl|rfl|rfl|rfl;{exact⟨1,by kernel_rfl,rfl⟩};{exact⟨2,by kernel_rfl,rfl⟩};{exact⟨4,by kernel_rfl,rfl⟩};exact⟨8,by kernel_rfl,rfl⟩
def K9(up:Bool)(f:Nat):=∀wi (off1:Nat->Prop) sb ha hc m wd fl (_:wi.cell? ⟨sb,0,none⟩=some (.slice ha m hc)) (_:wi.cell? ⟨sb,1,none⟩=some (.int .i64 fl)) (_:CAt wi (λj=>off1 j/\j≠sb) (ha,m,hc) wd) (_:1<=m) (_:m<=64) (n:Nat) (_:n<=64),Calls Tryz.prog f #[.pointer (some ⟨sb,0,none⟩),.int .i64 n] wi.drew λe w5=>e= .returned (.slice (some ⟨wi.heap.size,0,none⟩) m m)/\Below wi.heap.size wi w5/\CAt w5 (λk=>k=wi.heap.size) (some ⟨wi.heap.size,0,none⟩,m,m) (mvL up n fl wd)/\wi.heap.size<w5.heap.size
theorem La{up f}(B:up=true/\f=177\/up=false/\f=178):K9 up f:=by intro j off1 sb ha hc m wd fl k c1 A l r n z;have t:=A.frame (w':=j.drew) (A1 _) (λ _ _=>rfl) λ _ h=>h;rcases B with⟨rfl,rfl⟩|⟨rfl,rfl⟩;{exact(KQ (w:=j.drew) k c1 t l r n z).mono λe w5 ⟨c,a,d,g⟩=>⟨c,⟨a.os,a.tape,a.output,a.size,a.block⟩,d,g⟩};exact(KS (w:=j.drew) k c1 t l r n z).mono λe w5 ⟨c,a,d,g⟩=>⟨c,⟨a.os,a.tape,a.output,a.size,a.block⟩,d,g⟩
theorem wW{k w0 w w'}(h:Below k w0 w)(hz:w'.heap.size=w.heap.size)(hb:∀b,b≠k->w'.heap[b]? =w.heap[b]?)(h1:w'.os=w.os)(h2:w'.tape=w.tape)(h3:w'.output=w.output):Below k w0 w':=⟨h1.trans h.os,h2.trans h.tape,h3.trans h.output,by rw[hz];exact h.size,λb hk=>(hb b (by omega)).trans (h.block b hk)⟩
set_option maxRecDepth 100000 in
set_option maxHeartbeats 8000000 in
theorem Lc{w B R b off}(h:FB w B R b off)(hr:cW b 8000){D L O P m x y}(o:Nat)(ho:o=12\/o=13\/o=14)(hx:CAt w off (D,m,O) x)(hy:CAt w off (L,m,P) y)(aI:okW b.n x)(aJ:okW b.n y)(A:1<=m)(h4:m<=4):
  Calls Tryz.prog 159 #[.pointer (some ⟨R,0,none⟩),.int .u8 o,.slice D m O,.slice L m P] w (dM w B R off (dq o m x y [] b)):=by
 have HR:=Z hr;have H:=Z h;have aC:Below w.heap.size w (w.alloc (.cells (Lay.sl.flat [(D,m,O),(L,m,P)]).toArray 23)):=cU (A4 _ _) _;have bs:=Z (h.below aC);have aS:=Z (cP.of_below aC h.lt h.base:cP B off w _);have bC:Hid (fW (w.alloc (.cells (Lay.sl.flat [(D,m,O),(L,m,P)]).toArray 23)) (cX w (w.alloc (.cells (Lay.sl.flat [(D,m,O),(L,m,P)]).toArray 23)) off) (some ⟨w.heap.size,0,none⟩) [(D,m,O),(L,m,P)] [x,y]):=Z
  ⟨Lay.At.made w _ 23,((di.cons (C:=[y]) (hs:=[(L,m,P)]) (di.cons (C:=[]) (hs:=[]) ⟨rfl,λi hi=>by simp at hi⟩ hy) hx).kept aS.o).frame (A1 _) (λ _ _=>rfl) (λ _=>.inl),λa e=>by injection e with e;subst e;exact .inr ⟨A1 _,by simp⟩⟩
 have ae:x.length=m:=hx.len.symm;have bm:y.length=m:=hy.len.symm;have U:=Z ae;have ac:=Z bm;have HX:=Z hx;have HY:=Z hy;have aV:=Z aI;have aW:=Z aJ;have bA:Hid (∀z∈[x,y],okW b.n z/\z.length<=64):=Z λz hz=>by
  simp only[List.mem_cons,List.not_mem_nil,or_false] at hz;rcases hz with rfl|rfl
  ·exact⟨aI,by omega⟩
  exact⟨aJ,by omega⟩
 have hmm:=@run_makeMap Tryz.prog;have hmi:(m:Int)<=4:=by omega
 have hmi1:(1:Int)<=m:=by omega
 have e1:decide ((m:Int)<1)=false:=by simp;omega
 have e2:decide ((64:Int)<m)=false:=by simp;omega
 have aA:Hid (∀k,off k->cX w (w.alloc (.cells (Lay.sl.flat [(D,m,O),(L,m,P)]).toArray 23)) off k):=Z λ _=>.inl
 clear h hr hx hy aI aJ aC ae bm;generalize hoff3:cX w (w.alloc (.cells (Lay.sl.flat [(D,m,O),(L,m,P)]).toArray 23)) off=off3 at*;obtain⟨up,r,f,K⟩:∃(up:Bool) (r:Int) (f:Nat),Hid ((up=true/\f=177\/up=false/\f=178)/\okL b.n r/\dq o m x y [] b=shF up r y 0 x b/\(o=14->r=x.getD (m-1) 0)/\(o≠14->r= -1)/\(o=12↔up=true)):=by
  have N:=H.o.wf;rcases ho with rfl|rfl|rfl
  ·exact⟨true,-1,177,Z ⟨.inl ⟨rfl,rfl⟩,(eu N.pos).neg,rfl,λe=>by omega,λ _=>rfl,by simp⟩⟩
  ·exact⟨false,-1,178,Z ⟨.inr ⟨rfl,rfl⟩,(eu N.pos).neg,rfl,λe=>by omega,λ _=>rfl,by simp⟩⟩
  exact⟨false,x.getD (m-1) 0,178,Z ⟨.inr ⟨rfl,rfl⟩,aV.o _ (eF _ _ (by rw[U.o];omega)),rfl,λ _=>rfl,λe=>by omega,by simp⟩⟩
 generalize dq o m x y [] b=rr at*;obtain⟨aP,aH⟩:∃aP,x.getD (m-1) 0=aP:=⟨_,rfl⟩
 rw[aH] at K;have bz:=Z aH;clear aH;have bp:=Z (La K.o.1);have hm1:(m:Int)-1=((m-1:Nat):Int):=by omega
 have hm1l:((m-1:Nat):Int)<m:=by omega
 have a4:∀u v z:Value,lkS [(12,u),(13,v),(14,z)] 12=some u:=λ _ _ _=>rfl
 have a5:∀u v z:Value,lkS [(12,u),(13,v),(14,z)] 13=some v:=λ _ _ _=>rfl
 have a6:∀u v z:Value,lkS [(12,u),(13,v),(14,z)] 14=some z:=λ _ _ _=>rfl
 have bv:=Z a4;have bw:=Z a5;have bx:=Z a6;clear a4 a5 a6;rcases ho with rfl|rfl|rfl;rw[show((12:Nat):Int)=12 from rfl];have au:Hid (r= -1):=Z (K.o.2.2.2.2.1 (by decide));obtain rfl:f=177:=by
  have A:=K.o.1;have h2:=K.o.2.2.2.2.2.1 rfl;rcases A with A|A
  ·exact A.2
  rw[A.1] at h2;cases h2
 rotate_left
 rw[show((13:Nat):Int)=13 from rfl];have au:Hid (r= -1):=Z (K.o.2.2.2.2.1 (by decide));obtain rfl:f=178:=by
  have A:=K.o.1;have h2:=K.o.2.2.2.2.2.2;rcases A with A|A
  ·have:=h2 A.1;omega
  exact A.2
 rotate_left
 rw[show((14:Nat):Int)=14 from rfl];have au:Hid (r=aP):=Z (K.o.2.2.2.1 rfl);obtain rfl:f=178:=by
  have A:=K.o.1;have h2:=K.o.2.2.2.2.2.2;rcases A with A|A
  ·have:=h2 A.1;omega
  exact A.2
 rotate_left
 all_goals
  go_enter Tryz.func159,Tryz.ntmps159
  go_wp2_with fail
  have bh:w.alloc (.cells #[.slice D m O,.slice L m P] 23)=w.alloc (.cells (Lay.sl.flat [(D,m,O),(L,m,P)]).toArray 23):=rfl;rw[bh];clear bh;generalize w.alloc (.cells (Lay.sl.flat [(D,m,O),(L,m,P)]).toArray 23)=w3 at*
  go_loopw [56] (λi wr=>∃n:Nat,n<=2/\i= .int .i64 n/\Hid (FB wr B R b off3/\cP B off3 w3 wr)) (λi _=>2-(intOf i).toNat)
  case atStart=>exact⟨0,by omega,rfl,Z ⟨bs.o,cP.refl _ _ _⟩⟩
  case round=>
   obtain⟨n,hn,rfl,N⟩:=hrel;generalize wr=wo at*;by_cases hln:n<2
   ·have an:=bC.o.kept N.o.2;obtain⟨pb,po,ab,aK,aj⟩:=an.at_.sl (i:=n) (by rw[an.cls.len];simp;exact hln);injection ab with ab;injection ab with g1 g2;subst g1 g2;rw[Ap] at aj;have aE:=an.cls.at_ n (by simp;exact hln);have a7:[x,y].getD n []∈[x,y]:=by
     have:n<[x,y].length:=by simp;exact hln
     rw[A2,A5 this];exact Aj this
    obtain⟨a8,bI⟩:=bA.o _ a7;generalize[x,y].getD n []=c at*;generalize[(D,m,O),(L,m,P)].getD n (none,0,0)=hd at*;obtain⟨xa,xl,xc⟩:=hd;have ae:c.length=xl:=aE.len.symm;have U:=Z ae;have br:=Z aE;have bB:=Z a8;have bJ:(n:Int)<2:=by omega
    have hx64:(xl:Int)<=64:=by omega
    clear an a7 ae aE a8 bI
    go_wp2_with fail
    go_loopw [62] (λi J=>∃j:Nat,j<=xl/\i= .int .i64 j/\Hid (FB J B R b off3/\cP B off3 wo J)) (λi _=>xl-(intOf i).toNat)
    case atStart=>exact⟨0,by omega,rfl,Z ⟨N.o.1,cP.refl _ _ _⟩⟩
    case round=>
     obtain⟨j,hj,rfl,hi⟩:=hrel;generalize wr=J at*;by_cases hlj:j<xl
     ·have aZ:=br.o.kept hi.o.2;obtain⟨qb,qo,ad,bO,bN⟩:=aZ.at_.int (i:=j) (by rw[U.o];exact hlj);have aL:xa=some ⟨qb,qo,none⟩:=ad;subst aL;have bj:c.getD j 0∈c:=by
       have:j<c.length:=by rw[U.o];exact hlj
       rw[A2,A5 this];exact Aj this
      have T:=bB.o _ bj;generalize c.getD j 0=x at*;obtain⟨bx1,bx2⟩:=T.small (HR.o.mono (by omega)) rfl;have HA:=Z (nK hi.o.1 (HR.o.mono (by omega)) T T);rw[wy] at HA;have HI:=Z hi.o;have hji:(j:Int)<xl:=by omega
      clear aZ ad bj T hi
      go_wp2_with(go_at_call 111;refine HA.o.mono ?_;rintro e Y ⟨rfl,p1,p2⟩;have P1:=Z p1;have P2:=Z p2;clear p1 p2)
      go_roundw
      case rel=>exact⟨j+1,by omega,by go_num,Z ⟨P1.o,HI.o.2.trans P2.o λ _ h=>h⟩⟩
      case measure=>simp[intOf];omega
     obtain rfl:j=xl:=by omega
     have HI:=Z hi.o;have bD:=Z N.o;clear hi N
     go_wp2_with fail
     go_roundw
     case rel=>exact⟨n+1,by omega,by go_num,Z ⟨HI.o.1,bD.o.2.trans HI.o.2 λ _ h=>h⟩⟩
     case measure=>simp[intOf];omega
   obtain rfl:n=2:=by omega
   obtain⟨hF,hK⟩:=N.o;have aw:=Z (aS.o.trans hK aA.o);have aN:=HX.o.kept aw.o;have aU:=Z (show D=none->O=0 from aN.non);have aB:=Z (show(Lay.int .i64).At 0 wo D x from aN.at_);have bu:=Z hF;have HLT:Hid (∀k,off k->k<wo.heap.size):=Z λk hk=>hF.lt k (aA.o k hk)
   have hbase:B<=wo.heap.size:=hF.base;clear N hF hK aN
   go_wp2_with(at_builtin;suffices hzz:id (wpList _ _ _ _ _ _) from hzz)
   show wpList _ _ _ _ _ _;refine gW (d:=0) Tryz.elemI rfl _ _ rfl rfl (Lay.Own.nil _ wo.heap.size) rfl aU.o U.o aB.o (by simp;omega) (A1 _) ?_;intro v1 t ai aa _;rw[List.nil_append] at ai;have af:Below wo.heap.size wo t:=Below.grown (A4 wo.heap.size wo) (w':=t) ⟨aa.os,aa.tape,aa.output,aa.size,aa.block⟩ (A1 _) λj e=>by cases e
   obtain⟨⟨va,vl,vc⟩,rfl,hcat⟩:=js ai;have bR:m=vl:=(hcat.len.trans U.o).symm;subst bR;obtain⟨pb,po,ab,aK,aj⟩:=aB.o.int (i:=m-1) (by rw[U.o];omega);have bM:D=some ⟨pb,po,none⟩:=ab;subst bM;rw[bz.o] at aj;have hp1:=(af.cell (p:=⟨pb,po+(m-1),none⟩) aK).trans aj;have hpb1:pb<t.heap.size:=A8 aK af.size;have ao:=Z af;have aR:=Z hcat;have az:=Z ai.lt;clear ai aa af hcat ab;have aT:Hid (∀(W:World) (g:Nat),g=W.heap.size->dB .u8 (W.alloc (.map #[] 0)) g []):=Z λW g e=>by subst e;exact dB.new W
   go_wp2_with(first
    |(go_at_call 80;refine(gX _ _).mono ?_;rintro e w3 ⟨rfl,rfl⟩)
    |(refine Ck sV rfl _ _ rfl rfl M6.o rfl ?_)
    |(refine wV sV rfl _ _ _ rfl rfl M5.o rfl rfl rfl ?_;intro w6 m6 z6 b6 x6 y6 v6
      have M6:Hid (dB .u8 w6 (t.heap.size+1) [(12,.func (.func 177) #[.pointer (some ⟨t.heap.size,0,none⟩)] #[]),(13,.func (.func 178) #[.pointer (some ⟨t.heap.size,0,none⟩)] #[]),(14,.func (.func 178) #[.pointer (some ⟨t.heap.size,0,none⟩)] #[])]):=Z m6;have B6:=Z (wW B5.o z6 b6 x6 y6 v6);clear m6 z6 b6 x6 y6 v6 M5 B5)
    |(refine wV sV rfl _ _ _ rfl rfl M4.o rfl rfl rfl ?_;intro Y m5 z5 b5 x5 y5 v5
      have M5:Hid (dB .u8 Y (t.heap.size+1) [(12,.func (.func 177) #[.pointer (some ⟨t.heap.size,0,none⟩)] #[]),(13,.func (.func 178) #[.pointer (some ⟨t.heap.size,0,none⟩)] #[])]):=Z m5;have B5:=Z (wW B4.o z5 b5 x5 y5 v5);clear m5 z5 b5 x5 y5 v5 M4 B4)
    |(refine wV (S:=[]) sV rfl _ _ _ rfl rfl (aT.o _ _ (by simp)) rfl rfl rfl ?_;intro w4 m4 z4 b4 x4 y4 v4
      have M4:Hid (dB .u8 w4 (t.heap.size+1) [(12,.func (.func 177) #[.pointer (some ⟨t.heap.size,0,none⟩)] #[])]):=Z m4;have B4:=Z (wW ((A4 (t.heap.size+1) _).alloc (by simp) _) z4 b4 x4 y4 v4);clear m4 z4 b4 x4 y4 v4))
   (first|rw[bv.o]|rw[bw.o]|rw[bx.o])
   simp only[Option.getD_some];rw[<-au.o] at B6;obtain⟨G,be⟩:∃G,t.heap.size=G:=⟨_,rfl⟩
   have aO:=ao.o.size;have bE:Hid (SL w B R off G m up r x y b 0 va vc w6):=by
    have aY:Below t.heap.size t (t.alloc (.cells #[.slice va m vc,.int .i64 r] 248)):=cU (A4 _ _) _;have bF:Below wo.heap.size wo w6:=(ao.o.trans (aY.mono aO)).trans (B6.o.mono (by omega));have hA0:(t.alloc (.cells #[.slice va m vc,.int .i64 r] 248)).heap.size=t.heap.size+1:=by simp
    have hz6:=B6.o.size;have ba:cN (t.alloc (.cells #[.slice va m vc,.int .i64 r] 248)) t.heap.size [.slice va m vc,.int .i64 r]:=cN.made rfl;have aF:∀k,k<t.heap.size+1->w6.heap[k]? =(t.alloc (.cells #[.slice va m vc,.int .i64 r] 248)).heap[k]? :=B6.o.block;have a9:cN w6 t.heap.size [.slice va m vc,.int .i64 r]:=⟨by omega,λi v e=>⟨(Ah (a:=⟨t.heap.size,i,none⟩) (aF _ (by show t.heap.size<_;omega))).trans (ba.at_ i v e).1,(World.frozen?_of_block (a:=⟨t.heap.size,i,none⟩) (aF _ (by show t.heap.size<_;omega))).trans (ba.at_ i v e).2⟩⟩
    refine Z ⟨cX wo w6 off3,LI.start bu.o aw.o aA.o H.o.lt H.o.base bF λp hp=> ?_,?_⟩
    ·simp only[List.mem_cons,List.not_mem_nil,or_false] at hp;subst hp;rw[<-be];exact⟨a9,.inr ⟨aO,a9.lt⟩,A9 aw.o.size aO⟩
    refine aR.o.frame (by omega) (λk hk=> ?_) λk hk=> ?_
    ·have:=(az.o k hk).2;exact(aF k (by omega)).trans (aY.block k this)
    have:=az.o k hk;exact⟨.inr ⟨this.1,by omega⟩,by omega⟩
   rw[be];clear M6 B6 ao aR az aT aB aU
   go_loopw [108] (λi wr=>∃(n:Nat) (E:Option Addr) (F:Nat),n<=m/\i= .int .i64 n/\Hid (SL w B R off G m up r x y b n E F wr)) (λi _=>m-(intOf i).toNat)
   case atStart=>exact⟨0,va,vc,by omega,rfl,bE⟩
   case round=>
    obtain⟨n,E,F,hn,rfl,N⟩:=hrel;generalize wr=J at*;by_cases hln:n<m
    ·obtain⟨bn,Q,hC⟩:=N.o.ex;have bk:=HY.o.kept Q.kept;obtain⟨qb,qo,ad,bO,bN⟩:=bk.at_.int (i:=n) (by rw[ac.o];exact hln);have aL:L=some ⟨qb,qo,none⟩:=ad;subst aL;have bg:=fO 0 y (k:=n) (by rw[ac.o];exact hln);have am:=Cp up r (y.take n) (y.getD n 0) 0 x b;rw[<-bg,Ae,ac.o,U.o,Ap,Nat.min_eq_left hn] at am;have bl:okL b.n (y.getD n 0):=aW.o _ (eF _ _ (by rw[ac.o];exact hln));have T:=K3 (up:=up) H.o.wf aV.o (λl hl=>aW.o l (List.mem_of_mem_take (i:=n) hl)) K.o.2.1 0;have aM:=qC up r (y.take n) 0 x b;have aG:=qB up r (y.take n) 0 x b;rw[Ae,U.o] at aM;have bQ:7*m*min n y.length<=7*4*4:=Nat.mul_le_mul (by omega) (by omega);generalize y.getD n 0=bit at*;generalize hdv:shF up r (y.take n) 0 x b=dv at*;obtain⟨wd,bi⟩:=dv;simp only at Q hC am T aM aG;have al:=Q.ps (G,[.slice E m F,.int .i64 r]) (by simp);obtain⟨c0,f0⟩:=al.1.at_ 0 (.slice E m F) rfl;obtain⟨c1,f1⟩:=al.1.at_ 1 (.int .i64 r) rfl;have a0:gv n m<=64:=by unfold gv;rw[if_pos (by omega)];omega
     have aq:=Z (bp.o _ _ _ _ _ _ _ _ c0 c1 hC A (by omega) (gv n m) a0);have bc:cW bi 2000:=by
      have h3:sz b+8000<=900000:=HR.o;show sz bi+2000<=900000;omega
     have ar:Hid (∀Y,Below J.heap.size J Y->CAt Y (λk=>k=J.heap.size) (some ⟨J.heap.size,0,none⟩,m,m) (mvL up (gv n m) r wd)->J.heap.size<Y.heap.size->Calls Tryz.prog 153 #[.pointer (some ⟨R,0,none⟩),.int .i64 bit,.slice (some ⟨J.heap.size,0,none⟩) m m,.slice E m F] Y (λe w'=>∃(hd:Option Addr×Nat×Nat) (V:Nat->Prop),e= .returned (.tuple #[.slice hd.1 m hd.2.2,.int .i64 0])/\LI w B R off V [(G,[.slice E m F,.int .i64 r])] w' (shF up r (y.take (n+1)) 0 x b).2/\CAt w' (λj=>V j/\j≠G) (hd.1,m,hd.2.2) (shF up r (y.take (n+1)) 0 x b).1)):=Z λY aD bG bH=>by
      have aX:=Q.bel aD;have bL:=K7 (up:=up) (k:=gv n m) T.2.2 (K.o.2.1.mono T.2.1);refine(wF aX.fb bc (bl.mono T.2.1) (bG.less λk e=>.inr (by subst e;exact⟨A1 _,bH⟩)) (hC.frame aD.size (λk hk=>aD.block k (Q.fb.lt k hk.1)) λk hk=>.inl hk.1) bL T.2.2 A (by omega)).mono ?_;rintro e w' ⟨⟨na,nl,nc⟩,V,rfl,u1,u2,u3,u4,u5,u6⟩;have bK:m=nl:=(u4.len.trans ((sU bit bi (mr up _ r wd)).trans (aG.trans U.o))).symm;subst bK;rw[am];refine⟨(na,m,nc),V,rfl,aX.step1 u1 u2 u3,u4.len,u4.at_,λa e=>⟨u4.blk a e,λe2=>u5 a e (by rw[e2];exact .inl al.2.1)⟩,u4.non,u4.cel⟩
     clear N Q hC bk ad bg am bl T aM aG bQ hdv al bc a0;have bP:G<J.heap.size:=AV J _ c0;have bJ:(n:Int)<m:=by omega
     have hn7:(n:Int)<7:=by omega
     obtain⟨p,hp,a3⟩:=K8 (n:=n) (m:=m) (by omega);have av:=Z a3;have HP:=Z hp;clear a3 hp
     go_wp2_with fail
     all_goals(rw[HP.o] at h;try rw[HP.o])
     all_goals
      first
       |(have ah:gv n m=p:=by rw[av.o];omega
         rw[ah] at aq ar)
       |(have ah:gv n m=m:=by rw[av.o];omega
         rw[ah] at aq ar)
      clear av HP h ah
      go_region_held3(λw'=>w'.cell? ⟨G,0,none⟩=some (.slice E m F))
       (first
         |exact c0
         |exact(aQ.o.cell (p:=⟨G,0,none⟩) bP).trans c0
         |exact((P1.o.ps (G,[.slice E m F,.int .i64 r]) (by simp)).1.at_ 0 (.slice E m F) rfl).1
         |go_keep)
       (first
         |((first|go_at_call 177|go_at_call 178);refine aq.o.mono ?_;rintro e Y ⟨rfl,b5,c5,l5⟩;have aQ:=Z b5;have bq:=Z c5;clear b5 c5)
         |(go_at_call 153;refine(ar.o _ aQ.o bq.o l5).mono ?_;rintro e w6 ⟨⟨na,nl,nc⟩,bo,rfl,p1,p2⟩;have P1:=Z p1;have P2:=Z p2;clear p1 p2)
         |fail)
     all_goals
      obtain⟨g0,gf0⟩:=(P1.o.ps (G,[.slice E m F,.int .i64 r]) (by simp)).1.at_ 0 (.slice E m F) rfl;have bf:Hid (LI w B R off bo [(G,[.slice na m nc,.int .i64 r])] (w6.setCell ⟨G,0,none⟩ (.slice na m nc)) (shF up r (y.take (n+1)) 0 x b).2):=Z (P1.o.set (i:=0) (by simp) (by simp) (.slice na m nc))
      go_wp2_with fail
      go_roundw
      case rel=>
       refine⟨n+1,na,nc,by omega,by go_num,Z ⟨bo,?_,?_⟩⟩
       ·first|exact bf.o|exact bf.o.drew
       exact P2.o.frame (by simp) (λk hk=>Aa _ _ _ k λe=>hk.2 e) λ _ h=>h
      case measure=>simp[intOf];omega
    obtain rfl:n=m:=by omega
    obtain⟨bn,Q,hC⟩:=N.o.ex;obtain⟨c0,f0⟩:=(Q.ps (G,[.slice E n F,.int .i64 r]) (by simp)).1.at_ 0 (.slice E n F) rfl;have bd:=K.o.2.2.1;rw[li ac.o,<-bd] at Q hC;have HF:Hid (∃V,(∀k,off k->V k)/\FB J B R rr.2 V/\cP B off w J/\CAt J V (E,n,F) rr.1):=Z ⟨bn,Q.up,Q.fb,Q.kept,hC.less λ _ h=>h.1⟩;clear N Q hC bd
    go_wp2_with fail
    go_ret2
    obtain⟨V,r1,r2,r3,r4⟩:=HF.o;exact⟨(E,n,F),V,rfl,r1,r2,r3,r4⟩
