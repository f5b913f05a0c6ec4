/- Walk: Leak, where what it is given may be. -/
import Derived.Test.YtgdpkkjfcdhmdaaGreatDoorR42
namespace Go.Proofs.YtgdpkkjfcdhmdaaGreatDoor
open Go Go.RowKit
section
variable {u w:World} {B gb mb:Nat} {A:Nat->Prop} {nv:Value} {W:Nat} {L L0:List Nd} {c:Nat} {lb N:Nat} {up dn:Nat->Nat} {level:Int} {ca:Option Addr} {cc:Nat} {xs:List Int} {sa:Option Addr} {sc:Nat} {ys:List Int} {sb:Nat} {sens:Bool} {p q:fM}
set_option maxRecDepth 100000 in
set_option maxHeartbeats 64000000 in
theorem Pj(hu:Below u.heap.size u w)(eG:u.heap.size<=B)(hB:B<=w.heap.size)(hS:iK u sb lb ca cc xs sa sc ys)(hL:gI u lb N up dn)(bx:gX N xs ys=true)(eE:u.cell? ⟨sb,3,none⟩=some (.bool sens))(er:u.cell? ⟨0,0,none⟩=some (.func (Fn.func 209) #[] #[])/\u.cell? ⟨0,1,none⟩=some (.func (Fn.func 210) #[] #[]))
  (hp:p.Ok u)(aX:p.short)(hq:q.Ok u)(aY:q.short)(h:PG w B A gb mb nv W L)(h1:1<=W)(h2:W<=64)(aZ:St W (fS N up xs level) L0 L c)(eD:c+200+L0.length+12<=999)(bD:GOk W L0)(hT:∀t∈gV p q,t<L.length->t<L0.length)(br:okB N L.length xs.length ys.length level p q=true):
  Calls Tryz.prog 8 #[.pointer (some ⟨sb,0,none⟩),.pointer (some ⟨gb,0,none⟩),.int .i64 level,p.v,q.v] w (yt w B A gb mb nv W N up xs ys level L0 L c sens p q):=by
 obtain⟨na,nc,et,_⟩:=h.rv.nodes;have fc:L.length<=999:=by have:=aZ.len;omega
 obtain⟨eF,dG⟩:=Fg br;have dy:=Z eF;have HTLT:=Z dG;have dm:Hid ((gV p q).length<=1000):=Z (by
  obtain⟨a1,a2,a3,_⟩:=aX;obtain⟨b1,b2,b3,_⟩:=aY;unfold gV kj;simp only[Ak,Av];omega)
 have d6:Hid (∀b,Below w.heap.size w b->∀a,Lay.path.At default b a [p,q]->Calls Tryz.prog 23 #[.pointer (some ⟨sb,0,none⟩),.pointer (some ⟨gb,0,none⟩),.int .i64 level,.slice a 2 2] b λ e bA=>e= .returned (.int .i64 0)/\Below b.heap.size b bA):=Z λ b D a ha=>by
  have cX:Below u.heap.size u b:=hu.trans (D.mono hu.size);have:=Dw N gb L.length level a 2 [p,q] b (hS.below cX) (hL.below' cX).hn ((D.cell (p:=⟨gb,2,none⟩) h.rv.low).trans et) ha (λ r hr=>by simp at hr;rcases hr with rfl|rfl;exact⟨hp.below cX,aX⟩;exact⟨hq.below cX,aY⟩) (by simp);unfold okB at br;rw[br] at this;exact this
 have bY:Hid (∀b:World,Lay.path.At default (b.alloc (.cells (Lay.path.f p++Lay.path.f q).toArray 28)) (some ⟨b.heap.size,0,none⟩) [p,q]):=Z λ b=>by
  have:=Lay.At.made (L:=Lay.path) (d:=default) b [p,q] 28;simpa[Lay.flat] using this
 have eh:Hid (∀b,Below w.heap.size w b->Calls Tryz.prog 25 #[p.v] b λ e bA=>∃v,e= .returned v/\(Lay.int .i64).Own 3 bA b.heap.size v (kj p)/\Below b.heap.size b bA):=Z λ b D=>xy b p (hp.below (hu.trans (D.mono hu.size))) aX
 have ei:Hid (∀b,Below w.heap.size w b->Calls Tryz.prog 25 #[q.v] b λ e bA=>∃v,e= .returned v/\(Lay.int .i64).Own 3 bA b.heap.size v (kj q)/\Below b.heap.size b bA):=Z λ b D=>xy b q (hq.below (hu.trans (D.mono hu.size))) aY
 have el:Hid (∀b (a:Option Addr) (k:Nat),Below w.heap.size w b->(a=none->k=0)->(Lay.int .i64).At 0 b a (fE (gV p q))->Calls Tryz.prog 24 #[.pointer (some ⟨gb,0,none⟩),.slice a (gV p q).length k] b (xx b L (gV p q))):=Z λ b a k D hn fd=>
  Dv (h.below D).rv (gV p q) (λ j _ h=>by have:=aZ.vok j h;omega) dG (by omega) dm.o a k hn fd
 have aw:gc L.length xs.length ys.length p=true/\gc L.length xs.length ys.length q=true:=by
  unfold okB at br;simp only[Af,List.all_cons,List.all_nil] at br;exact⟨br.2.1,br.2.2.1⟩
 have e6:=Z (λ b D=>uF (⟨hS.l,hS.y⟩:mI u sb lb sa ys) hL (uE aw.1 aX) hp.r b D (zc:=sc) (ec:=p.rc) (level:=level));have e8:=Z (λ b D=>uF (⟨hS.l,hS.y⟩:mI u sb lb sa ys) hL (uE aw.2 aY) hq.r b D (zc:=sc) (ec:=q.rc) (level:=level));have e0:=Z (λ b D=>uF (⟨hS.l,hS.x⟩:mI u sb lb ca xs) hL (uD aw.1 aX) hp.o b D (zc:=cc) (ec:=p.oc) (level:=level));have e7:=Z (λ b D=>uF (⟨hS.l,hS.x⟩:mI u sb lb ca xs) hL (uD aw.2 aY) hq.o b D (zc:=cc) (ec:=q.oc) (level:=level));have eU:=Z (λ(bO:¬kD L (gV p q))=>And.intro (uG (N:=N) (up:=up) (level:=level) (uE aw.1 aX) (oM (p:=p) (q:=q)).2.1 hT aZ.pre bD bO) (And.intro (uG (N:=N) (up:=up) (level:=level) (uE aw.2 aY) (oM (p:=p) (q:=q)).2.2.2.1 hT aZ.pre bD bO)
  (And.intro (uG (N:=N) (up:=up) (level:=level) (uD aw.1 aX) (oM (p:=p) (q:=q)).1 hT aZ.pre bD bO) (uG (N:=N) (up:=up) (level:=level) (uD aw.2 aY) (oM (p:=p) (q:=q)).2.2.1 hT aZ.pre bD bO))))
 have ea:=Z (uH aw.1).2;have ee:=Z (uH aw.2).2;have d9:=Z (And.intro aX.1 aY.1);have dR:=Z (λ(bO:¬kD L (gV p q))=>And.intro (Fi (uH aw.1).1 (oM (p:=p) (q:=q)).2.2.2.2.1 hT aZ.pre bD bO) (Fi (uH aw.2).1 (oM (p:=p) (q:=q)).2.2.2.2.2 hT aZ.pre bD bO));have HU:=Z hu;have ej:=Z eG;have eL:=Z hB;have cq:=Z hS;have eP:=Z hL;have eg:=Z bx;have eZ:=Z eE;have dQ:=Z er;have cT:=Z hp;have HPS:=Z aX;have ef:=Z hq;have HQS:=Z aY;have HP:=Z h;have dv:=Z aZ;have ah:=Z eD;have cO:=Z bD;have HT:=Z hT;have d8:=Z br;have C:=Z (And.intro h1 h2);generalize hts:gV p q=ts at*;have e9:=Z hts;clear aw hu eG hB hS hL bx eE er hp aX hq aY h aZ eD bD hT br et eF dG h1 h2 fc hts;obtain⟨O,b7⟩:∃O,O=p:=⟨_,rfl⟩
 obtain⟨Q,b8⟩:∃Q,Q=q:=⟨_,rfl⟩
 have eb:Hid (yt w B A gb mb nv W N up xs ys level L0 L c sens p q=yt w B A gb mb nv W N up xs ys level L0 L c sens O Q):=Z (by rw[b7,b8]);rw[eb.o];have b0:=Z (And.intro b7 b8);have dz:Hid (gV O Q=ts):=Z (by rw[b7,b8];exact e9.o);generalize hXA:gW N up ys level p.rs=XA at*;generalize hXB:gW N up ys level q.rs=XB at*;generalize hXC:gW N up xs level p.os=XC at*;generalize hXD:gW N up xs level q.os=XD at*;have bC:Hid (gW N up ys level O.rs=XA/\gW N up ys level Q.rs=XB/\gW N up xs level O.os=XC/\gW N up xs level Q.os=XD):=Z ⟨by rw[b7];exact hXA,by rw[b8];exact hXB,by rw[b7];exact hXC,by rw[b8];exact hXD⟩;clear eb b7 b8 hXA hXB hXC hXD;obtain⟨aQ,aR,X,H,a9,ax,ay,pos,az,aA,aB,a0,a4,a5,a6,a7,a8⟩:=p;obtain⟨aS,aT,G,R,bh,aC,aD,aE,aF,aG,aH,ba,bb,bd,be,bf,bg⟩:=q;simp only[fM.v] at*;go_enter Tryz.func8,Tryz.ntmps8
 go_upto_region 1 with fail
 generalize hw5:((((w.alloc (.cells #[.pointer (some ⟨sb,0,none⟩)] 32)).alloc (.cells #[.pointer (some ⟨gb,0,none⟩)] 34)).alloc (.cells #[.int .i64 level] 3)).alloc (.cells #[.slice aQ X.length aR,.int .u8 H,.int .i64 a9,.slice ax pos.length ay,.slice az aB.length aA,.slice a0 a5.length a4,.slice a6 a8.length a7] 28)).alloc (.cells #[.slice aS G.length aT,.int .u8 R,.int .i64 bh,.slice aC aE.length aD,.slice aF aH.length aG,.slice ba bd.length bb,.slice be bg.length bf] 28)=w5;obtain⟨q1,q2,q3,q4,q5,qb,qs⟩:=Ff w _ _ _ _ _ _ _ _ _ _ hw5;have c5:=(q1.at_ 0 _ rfl).1;have c6:=(q2.at_ 0 _ rfl).1;have c7:=(q3.at_ 0 _ rfl).1;have fp:=(q4.at_ 0 _ rfl).1;have fq:=(q4.at_ 1 _ rfl).1;have fr:=(q4.at_ 2 _ rfl).1;have fs:=(q4.at_ 3 _ rfl).1;have ft:=(q4.at_ 4 _ rfl).1;have fu:=(q4.at_ 5 _ rfl).1;have fw:=(q4.at_ 6 _ rfl).1;have fx:=(q5.at_ 0 _ rfl).1;have fy:=(q5.at_ 1 _ rfl).1;have fz:=(q5.at_ 2 _ rfl).1;have fA:=(q5.at_ 3 _ rfl).1;have fB:=(q5.at_ 4 _ rfl).1;have fC:=(q5.at_ 5 _ rfl).1;have fD:=(q5.at_ 6 _ rfl).1;have eK:=Z qb;have ed:=Z (And.intro q1 (And.intro q2 (And.intro q3 (And.intro q4 q5))));have c9:Hid (Below w.heap.size w (w5.alloc (.cells #[.slice aQ X.length aR,.int .u8 H,.int .i64 a9,.slice ax pos.length ay,.slice az aB.length aA,.slice a0 a5.length a4,.slice a6 a8.length a7,.slice aS G.length aT,.int .u8 R,.int .i64 bh,.slice aC aE.length aD,.slice aF aH.length aG,.slice ba bd.length bb,.slice be bg.length bf] 28))):=Z (fQ qb _);have HM:Hid (Calls Tryz.prog 23 #[.pointer (some ⟨sb,0,none⟩),.pointer (some ⟨gb,0,none⟩),.int .i64 level,.slice (some ⟨w5.heap.size,0,none⟩) 2 2] (w5.alloc (.cells #[.slice aQ X.length aR,.int .u8 H,.int .i64 a9,.slice ax pos.length ay,.slice az aB.length aA,.slice a0 a5.length a4,.slice a6 a8.length a7,.slice aS G.length aT,.int .u8 R,.int .i64 bh,.slice aC aE.length aD,.slice aF aH.length aG,.slice ba bd.length bb,.slice be bg.length bf] 28)) λ e bA=>e= .returned (.int .i64 0)/\Below (w5.alloc (.cells #[.slice aQ X.length aR,.int .u8 H,.int .i64 a9,.slice ax pos.length ay,.slice az aB.length aA,.slice a0 a5.length a4,.slice a6 a8.length a7,.slice aS G.length aT,.int .u8 R,.int .i64 bh,.slice aC aE.length aD,.slice aF aH.length aG,.slice ba bd.length bb,.slice be bg.length bf] 28)).heap.size (w5.alloc (.cells #[.slice aQ X.length aR,.int .u8 H,.int .i64 a9,.slice ax pos.length ay,.slice az aB.length aA,.slice a0 a5.length a4,.slice a6 a8.length a7,.slice aS G.length aT,.int .u8 R,.int .i64 bh,.slice aC aE.length aD,.slice aF aH.length aG,.slice ba bd.length bb,.slice be bg.length bf] 28)) bA):=Z (d6.o _ c9.o _ (bY.o w5));have dP:Hid (∀b,Below w5.heap.size w5 b->b.cell? ⟨w.heap.size+1,0,none⟩=some (.pointer (some ⟨gb,0,none⟩))/\b.cell? ⟨w.heap.size+1+1+1,0,none⟩=some (.slice aQ X.length aR)/\b.cell? ⟨w.heap.size+1+1+1,1,none⟩=some (.int .u8 H)/\b.cell? ⟨w.heap.size+1+1+1,2,none⟩=some (.int .i64 a9)/\b.cell? ⟨w.heap.size+1+1+1,3,none⟩=some (.slice ax pos.length ay)/\b.cell? ⟨w.heap.size+1+1+1,4,none⟩=some (.slice az aB.length aA)/\b.cell? ⟨w.heap.size+1+1+1,5,none⟩=some (.slice a0 a5.length a4)/\b.cell? ⟨w.heap.size+1+1+1,6,none⟩=some (.slice a6 a8.length a7)/\b.cell? ⟨w.heap.size+1+1+1+1,0,none⟩=some (.slice aS G.length aT)/\b.cell? ⟨w.heap.size+1+1+1+1,1,none⟩=some (.int .u8 R)/\b.cell? ⟨w.heap.size+1+1+1+1,2,none⟩=some (.int .i64 bh)/\b.cell? ⟨w.heap.size+1+1+1+1,3,none⟩=some (.slice aC aE.length aD)/\b.cell? ⟨w.heap.size+1+1+1+1,4,none⟩=some (.slice aF aH.length aG)/\b.cell? ⟨w.heap.size+1+1+1+1,5,none⟩=some (.slice ba bd.length bb)/\b.cell? ⟨w.heap.size+1+1+1+1,6,none⟩=some (.slice be bg.length bf)):=Z λ b D=>by
  have r2:=q2.keep D;have E:=q4.keep D;have r5:=q5.keep D;exact⟨(r2.at_ 0 _ rfl).1,(E.at_ 0 _ rfl).1,(E.at_ 1 _ rfl).1,(E.at_ 2 _ rfl).1,(E.at_ 3 _ rfl).1,(E.at_ 4 _ rfl).1,(E.at_ 5 _ rfl).1,(E.at_ 6 _ rfl).1,(r5.at_ 0 _ rfl).1,(r5.at_ 1 _ rfl).1,(r5.at_ 2 _ rfl).1,(r5.at_ 3 _ rfl).1,(r5.at_ 4 _ rfl).1,(r5.at_ 5 _ rfl).1,(r5.at_ 6 _ rfl).1⟩
 have HS5:=Z qs;clear hw5 q1 q2 q3 q4 q5 qb qs d6 bY;generalize hp1:w.heap.size+1=p1 at*;generalize hp2:p1+1=p2 at*;generalize hp3:p2+1=P at*;generalize hp4:P+1=S at*;have eX:Hid (p1=w.heap.size+1/\p2=w.heap.size+2/\P=w.heap.size+3/\S=w.heap.size+4):=Z (by omega);clear hp1 hp2 hp3 hp4
 go_wp2_with(go_at_call 23;refine HM.o.mono ?_;rintro e w6 ⟨rfl,dD⟩;have aI:=Z (c9.o.trans (dD.mono c9.o.size));have bU:=Z ((fQ (A6 w5.heap.size w5) (.cells #[.slice aQ X.length aR,.int .u8 H,.int .i64 a9,.slice ax pos.length ay,.slice az aB.length aA,.slice a0 a5.length a4,.slice a6 a8.length a7,.slice aS G.length aT,.int .u8 R,.int .i64 bh,.slice aC aE.length aD,.slice aF aH.length aG,.slice ba bd.length bb,.slice be bg.length bf] 28)).trans (dD.mono (by simp)));clear dD)
 have cp:Hid (∀b,Below w6.heap.size w6 b->Below w6.heap.size w6 b/\b.cell? ⟨p1,0,none⟩=some (.pointer (some ⟨gb,0,none⟩))/\b.cell? ⟨P,0,none⟩=some (.slice aQ X.length aR)/\b.cell? ⟨P,1,none⟩=some (.int .u8 H)/\b.cell? ⟨P,2,none⟩=some (.int .i64 a9)/\b.cell? ⟨P,3,none⟩=some (.slice ax pos.length ay)/\b.cell? ⟨P,4,none⟩=some (.slice az aB.length aA)/\b.cell? ⟨P,5,none⟩=some (.slice a0 a5.length a4)/\b.cell? ⟨P,6,none⟩=some (.slice a6 a8.length a7)/\b.cell? ⟨S,0,none⟩=some (.slice aS G.length aT)/\b.cell? ⟨S,1,none⟩=some (.int .u8 R)/\b.cell? ⟨S,2,none⟩=some (.int .i64 bh)/\b.cell? ⟨S,3,none⟩=some (.slice aC aE.length aD)/\b.cell? ⟨S,4,none⟩=some (.slice aF aH.length aG)/\b.cell? ⟨S,5,none⟩=some (.slice ba bd.length bb)/\b.cell? ⟨S,6,none⟩=some (.slice be bg.length bf)):=Z λ b D=>⟨D,dP.o b (bU.o.trans (D.mono bU.o.size))⟩
 have dW:Hid ((kj ⟨aQ,aR,X,H,a9,ax,ay,pos,az,aA,aB,a0,a4,a5,a6,a7,a8⟩).length+(kj ⟨aS,aT,G,R,bh,aC,aD,aE,aF,aG,aH,ba,bb,bd,be,bf,bg⟩).length<=1000000):=Z (by have e:=congrArg List.length dy.o;rw[Av,fK] at e;have:=dm.o;omega);rename_i K hK
 go_region_held3(λ b=>Below w6.heap.size w6 b/\b.cell? ⟨p1,0,none⟩=some (.pointer (some ⟨gb,0,none⟩))/\b.cell? ⟨P,0,none⟩=some (.slice aQ X.length aR)/\b.cell? ⟨P,1,none⟩=some (.int .u8 H)/\b.cell? ⟨P,2,none⟩=some (.int .i64 a9)/\b.cell? ⟨P,3,none⟩=some (.slice ax pos.length ay)/\b.cell? ⟨P,4,none⟩=some (.slice az aB.length aA)/\b.cell? ⟨P,5,none⟩=some (.slice a0 a5.length a4)/\b.cell? ⟨P,6,none⟩=some (.slice a6 a8.length a7)/\b.cell? ⟨S,0,none⟩=some (.slice aS G.length aT)/\b.cell? ⟨S,1,none⟩=some (.int .u8 R)/\b.cell? ⟨S,2,none⟩=some (.int .i64 bh)/\b.cell? ⟨S,3,none⟩=some (.slice aC aE.length aD)/\b.cell? ⟨S,4,none⟩=some (.slice aF aH.length aG)/\b.cell? ⟨S,5,none⟩=some (.slice ba bd.length bb)/\b.cell? ⟨S,6,none⟩=some (.slice be bg.length bf))
  (first|with_reducible exact cp.o _ (A6 _ _).drew|with_reducible exact cp.o _ KV.o|with_reducible exact cp.o _ KJ.o|with_reducible exact cp.o _ KA.o|with_reducible exact cp.o _ KB.o|fail)
  (first
    |(go_at_call 25
      have eA:=eV.o;have an:=(‹Below w6.heap.size w6 _/\_›).1;refine(ei.o _ (aI.o.trans (an.mono aI.o.size))).mono ?_;rintro e wb ⟨v2,rfl,ho,D⟩;obtain⟨a2,k2,rfl,eo,ey,_⟩:=ho.atBase (d:=0);have KB:=Z (an.trans (D.mono an.size));have eI:=Z eo;have eS:=Z ey;have d7:=Z (eA.grown D);have eN:=Z (Ag ce.o D.size);clear ho D an eo ey eA)
    |(go_at_call 25
      have an:=(‹Below w6.heap.size w6 _/\_›).1;refine(eh.o _ (aI.o.trans (an.mono aI.o.size))).mono ?_;rintro e wa ⟨v1,rfl,ho,D⟩;have KA:=Z (an.trans (D.mono an.size));have eV:=Z ho;have eO:=Z an.size;have ce:=Z D.size;clear ho D an)
    |(refine Pe (d:=0) Tryz.elemI rfl _ _ rfl rfl d7.o rfl eS.o rfl eI.o dW.o eN.o ?_
      intro v3 w8 p1 p2 P;have an:=(‹Below w6.heap.size w6 _/\_›).1;have KJ:Hid (Below w6.heap.size w6 w8):=Z (an.grown p2 an.size λ k e=>Ag eO.o (d7.o.lt k e).1);rw[dy.o] at p1;obtain⟨a3,k3,rfl,ep,ez,_⟩:=p1.atBase (d:=0);rw[fK];have eJ:=Z ep;have eT:=Z ez;clear p1 p2 P ep ez an)
    |(go_at_call 24
      refine(el.o _ _ _ (aI.o.trans (KJ.o.mono aI.o.size)) eT.o eJ.o).mono ?_;rintro e w9 ⟨v,ys2,rfl,q1,q2,q3,q4,q5⟩;have KV:=Z (KJ.o.trans (q5.mono KJ.o.size));obtain⟨vs,rfl⟩:=EP q2;obtain⟨va,vcap,rfl,qa,_,qm⟩:=q1.at_ (d:=0);rw[fK] at q3;rw[fK];have em:=Z qa;have cW:=Z q2;have dA:=Z q3;clear q1 q2 q3 q4 q5 qa qm))
 clear dP eh ei el dW dm dy HM eK c5 c6 c7 fp fq fr fs ft fu fw fx fy fz fA fB fC fD;obtain⟨vn,dH⟩:∃vn,vs.length=vn:=⟨_,rfl⟩
 rw[dH] at dA⊢;have cV:=Z dH;clear dH;have ek:Hid (∀n∈vs,n<12):=Z λ n hn=>by
  obtain⟨j,o,e1,e2⟩:=(cW.o (n:Int)).1 (AF.2 ⟨n,hn,rfl⟩);have:=dv.o.vok j e1;omega
 have fh:=dA.o
 go_wp2_with fail
 go_loopw [52] (λ i wr=>∃k:Nat,k<=vn/\i= .int .i64 k/\wr=w9/\Hid (∀n∈vs.take k,n%2=0)) (λ i _=>vn-(intOf i).toNat)
 case atStart=>exact⟨0,by omega,rfl,rfl,Z (by simp)⟩
 case round=>
  obtain⟨k,z,rfl,rfl,dE⟩:=hrel;by_cases hk0:k<vn
  ·have eu:(k:Int)<vn:=by omega
   obtain⟨tb,to_,rfl,htb,c0⟩:=em.o.int (i:=k) (by rw[fK,cV.o];exact hk0);rw[ij] at c0;have dI:=gE 0 vs k (by rw[cV.o];exact hk0);have hx12:=ek.o _ dI;have cr:=Z (gZ 0 vs k (by rw[cV.o];exact hk0));have fb:=Z dI;generalize vs.getD k 0=x at*;clear dI;have t3:decide ((4194302:Int)<x)=false:=decide_eq_false (by omega);have t4:decide (4194302<x)=false:=decide_eq_false (by omega);by_cases hx2:x%2=0
   ·have t1:Int.tmod (x:Int) 2=0:=by rw[Bj (by omega)];omega
    have t2:(x:Int)%2=0:=by omega
    have fa:=Z hx2
    go_wp2_with fail
    go_roundw
    case rel=>exact⟨k+1,by omega,by go_num,trivial,Z λ n hn=>by rw[cr.o] at hn;rcases Ar.1 hn with hn|hn;exact dE.o n hn;simp at hn;subst hn;exact fa.o⟩
    case measure=>simp[intOf]<;>omega
   have t1:Int.tmod (x:Int) 2=1:=by rw[Bj (by omega)];omega
   have t2:(x:Int)%2=1:=by omega
   have eW:Hid (kD L ts):=Z ⟨x,(cW.o (x:Int)).1 (AF.2 ⟨x,fb.o,rfl⟩),by omega⟩
   go_wp2_with fail
   go_ret2
   exact .inl ⟨by rw[dz.o];exact eW.o,rfl,aI.o.trans (KV.o.mono aI.o.size)⟩
  obtain rfl:k=vn:=by omega
  have en:∀n∈vs,n%2=0:=λ n hn=>dE.o n (by rw[<-cV.o,AD];exact hn)
  have co:Hid (¬kD L ts):=Z λ⟨n,hn,h2⟩=>by
   obtain⟨m,F,e⟩:=AF.1 ((cW.o (n:Int)).2 hn);have:=en m F;omega
  clear hk0 z fh en dE ek cW em dA;generalize wr=w9 at*
  go_upto_region 17 with fail
  generalize hw12:((w9.alloc (.cells #[.pointer (some ⟨gb,0,none⟩),.int .i64 0] 77)).alloc (.cells #[.pointer (some ⟨w9.heap.size,0,none⟩)] 75)).alloc (.cells #[.func (Fn.func 26) #[] #[.pointer (some ⟨w9.heap.size+1,0,none⟩),.pointer (some ⟨p1,0,none⟩),.pointer (some ⟨w.heap.size,0,none⟩),.pointer (some ⟨p2,0,none⟩)]] 81)=w12;obtain⟨m1,m2,m3,dC⟩:=Pf w9 _ _ _ _ _ _ _ hw12;clear hw12;generalize b4:w9.heap.size+1=b1 at*;generalize hb5:b1+1=b5 at*;have eM:Hid (w.heap.size<=w9.heap.size/\b1=w9.heap.size+1/\b5=w9.heap.size+2):=Z ⟨Ag aI.o.size KV.o.size,b4.symm,by omega⟩;clear b4 hb5;have dO:Hid (Below w.heap.size w w9):=Z (aI.o.trans (KV.o.mono aI.o.size));have cd:Hid (Below w.heap.size w w12):=Z (dO.o.trans (dC.mono dO.o.size));have cg:Hid (Below w5.heap.size w5 w12):=Z ((bU.o.trans (KV.o.mono bU.o.size)).trans (dC.mono (Ag bU.o.size KV.o.size)));have ct:Hid (Below u.heap.size u w12):=Z (HU.o.trans (cd.o.mono HU.o.size));have ew:∀k,fG gb (some mb) nv k->k<w.heap.size:=λ k z=>(HP.o.lo k z).2
  obtain⟨q1,q2,q3,q4,q5⟩:=ed.o;have q1:=q1.keep cg.o;have q2:=q2.keep cg.o;have q3:=q3.keep cg.o;have q4:=q4.keep cg.o;have q5:=q5.keep cg.o;have av:Hid (¬fG gb (some mb) nv w.heap.size/\¬fG gb (some mb) nv p1/\¬fG gb (some mb) nv p2/\¬fG gb (some mb) nv P/\¬fG gb (some mb) nv S/\¬fG gb (some mb) nv w9.heap.size/\¬fG gb (some mb) nv b1/\¬fG gb (some mb) nv b5):=Z (by
   have e1:=eX.o;have e2:=eM.o;refine⟨?_,?_,?_,?_,?_,?_,?_,?_⟩<;>(intro F;have:=ew _ F;omega))
  have bL:Hid (sb<u.heap.size/\0<u.heap.size/\∀k,k<u.heap.size->¬fG gb (some mb) nv k):=Z ⟨cq.o.lt,AN (Nat.zero_le _) cq.o.lt,λ k z F=>by have:=(HP.o.lo k F).1;have:=ej.o;omega⟩;have bx:=eg.o;unfold gX at bx;simp only[Af,decide_eq_true_eq,AU] at bx;have cY:=d8.o;unfold okB at cY;rw[Af] at cY;have dS:Hid (lF u w12 B gb mb nv lb N up dn level ca cc xs sa sc ys sb w9.heap.size b1 p1 w.heap.size p2 b5):=Z
   ⟨ct.o,ej.o,Ag eL.o cd.o.size,λ k z=>(HP.o.lo k z).1,cq.o,eP.o,cY.1,bx.2.1,bx.1.1.1,bx.1.1.2,m1,av.o.2.2.2.2.2.1,(m2.at_ 0 _ rfl).1,av.o.2.2.2.2.2.2.1,(q2.at_ 0 _ rfl).1,av.o.2.1,(q1.at_ 0 _ rfl).1,av.o.1,(q3.at_ 0 _ rfl).1,av.o.2.2.1,(m3.at_ 0 _ rfl).1,av.o.2.2.2.2.2.2.2⟩
  have I:Hid (Cur u w12 w12 B A noB gb mb nv nv W (fS N up xs level) L0 L c lb N up dn level ca cc xs sa sc ys sb w9.heap.size b1 p1 w.heap.size p2 b5):=Z ⟨Run.start (HP.o.below cd.o),dS.o,dv.o⟩;have aU:Hid (∀b,Mut (fG gb (some mb) nv) w12 b->b.cell? ⟨0,0,none⟩=some (.func (Fn.func 209) #[] #[])/\b.cell? ⟨0,1,none⟩=some (.func (Fn.func 210) #[] #[])/\b.cell? ⟨b1,0,none⟩=some (.pointer (some ⟨w9.heap.size,0,none⟩))/\b.cell? ⟨w.heap.size,0,none⟩=some (.pointer (some ⟨sb,0,none⟩))/\b.cell? ⟨p2,0,none⟩=some (.int .i64 level)/\b.cell? ⟨sb,1,none⟩=some (.slice ca xs.length cc)/\b.cell? ⟨sb,2,none⟩=some (.slice sa ys.length sc)/\b.cell? ⟨P,3,none⟩=some (.slice ax pos.length ay)/\b.cell? ⟨P,4,none⟩=some (.slice az aB.length aA)/\b.cell? ⟨S,3,none⟩=some (.slice aC aE.length aD)/\b.cell? ⟨S,4,none⟩=some (.slice aF aH.length aG)):=Z λ b F=>by
   have r1:=q1.written F av.o.1;have r3:=q3.written F av.o.2.2.1;have E:=q4.written F av.o.2.2.2.1;have r5:=q5.written F av.o.2.2.2.2.1;have r6:=m2.written F av.o.2.2.2.2.2.2.1;have b6:∀k,k<u.heap.size->b.heap[k]? =u.heap[k]? :=λ k z=>(F.block k (A9 z ct.o.size) (bL.o.2.2 k z)).trans (ct.o.block k z)
   exact⟨(Ai (a:=⟨0,0,none⟩) (b6 0 bL.o.2.1)).trans dQ.o.1,(Ai (a:=⟨0,1,none⟩) (b6 0 bL.o.2.1)).trans dQ.o.2,(r6.at_ 0 _ rfl).1,(r1.at_ 0 _ rfl).1,(r3.at_ 0 _ rfl).1,(Ai (a:=⟨sb,1,none⟩) (b6 sb bL.o.1)).trans cq.o.c1,(Ai (a:=⟨sb,2,none⟩) (b6 sb bL.o.1)).trans cq.o.c2,(E.at_ 3 _ rfl).1,(E.at_ 4 _ rfl).1,(r5.at_ 3 _ rfl).1,(r5.at_ 4 _ rfl).1⟩
  have bE:Hid (∀b,Mut (fG gb (some mb) nv) w12 b->b.cell? ⟨sb,3,none⟩=some (.bool sens)/\b.cell? ⟨P,0,none⟩=some (.slice aQ X.length aR)/\b.cell? ⟨P,1,none⟩=some (.int .u8 H)/\b.cell? ⟨S,0,none⟩=some (.slice aS G.length aT)/\b.cell? ⟨S,1,none⟩=some (.int .u8 R)):=Z λ b F=>by
   have E:=q4.written F av.o.2.2.2.1;have r5:=q5.written F av.o.2.2.2.2.1;have b6:∀k,k<u.heap.size->b.heap[k]? =u.heap[k]? :=λ k z=>(F.block k (A9 z ct.o.size) (bL.o.2.2 k z)).trans (ct.o.block k z)
   exact⟨(Ai (a:=⟨sb,3,none⟩) (b6 sb bL.o.1)).trans eZ.o,(E.at_ 0 _ rfl).1,(E.at_ 1 _ rfl).1,(r5.at_ 0 _ rfl).1,(r5.at_ 1 _ rfl).1⟩
  obtain⟨d0,d1,d2,d3,d4⟩:=bE.o w12 (Mut.of_below (A6 _ _));have d5:=(q1.at_ 0 _ rfl).1;have eB:O.st=H:=by rw[b0.o.1]
  have eC:Q.st=R:=by rw[b0.o.2]
  have fg:(sens=true/\¬H=R/\jv sens O Q=false/\(jv sens O Q||decide (O.st=Q.st))=false)\/(sens=false/\¬H=2/\¬R=2/\¬H=R/\jv sens O Q=false/\(jv sens O Q||decide (O.st=Q.st))=false)\/(sens=true/\H=R/\jv sens O Q=false/\(jv sens O Q||decide (O.st=Q.st))=true)\/(sens=false/\H=2/\jv sens O Q=true/\(jv sens O Q||decide (O.st=Q.st))=true)\/(sens=false/\¬H=2/\R=2/\jv sens O Q=true/\(jv sens O Q||decide (O.st=Q.st))=true)\/(sens=false/\¬H=2/\¬R=2/\H=R/\jv sens O Q=false/\(jv sens O Q||decide (O.st=Q.st))=true):=by
   unfold jv;rw[eB,eC];cases sens<;>by_cases e1:H=2<;>by_cases e2:R=2<;>by_cases e3:H=R<;>simp_all
  clear q1 q2 q3 q4 q5 m1 m2 m3 dC ew bx cY eB eC ed bU eg d8 dS;rcases fg with⟨rfl,e3,F,bS⟩|⟨rfl,e1,e2,e3,F,bS⟩|⟨rfl,e3,F,bS⟩|⟨rfl,rfl,F,bS⟩|⟨rfl,e1,rfl,F,bS⟩|⟨rfl,e1,e2,e3,F,bS⟩
  all_goals
   have cS:=Z (And.intro F bS);clear F bS
   try have f1:(H==2)=false:=by simpa using e1
   try have f2:decide (H=2)=false:=by simpa using e1
   try have g1:(R==2)=false:=by simpa using e2
   try have g2:decide (R=2)=false:=by simpa using e2
   try have e4:(H==R)=true:=by simpa using e3
   try have e4:(H==R)=false:=by simpa using e3
   try have e5:decide (H=R)=true:=by simpa using e3
   try have e5:decide (H=R)=false:=by simpa using e3
   go_upto_region 19 with fail
   clear d0 d1 d2 d3 d4 d5
  all_goals
   have cD:=eU.o co.o;have bm:=Z cD.1;have cu:=Z cD.2.1;have bM:=Z cD.2.2.1;have cv:=Z cD.2.2.2;clear cD;have hvl:=(dv.o.len)
   have HCB:Hid (∀(M:List Nd) k,St W (fS N up xs level) L0 M (c+k)->k<=150->M.length+1+4*12<=999):=Z λ M k J z=>by have:=J.len;have:=ah.o;omega
   have cQ:=Z (I.o.keep (A6 _ _).drew)
   go_region_held3(λ b=>b.cell? ⟨0,0,none⟩=some (.func (Fn.func 209) #[] #[])/\b.cell? ⟨0,1,none⟩=some (.func (Fn.func 210) #[] #[])/\b.cell? ⟨b1,0,none⟩=some (.pointer (some ⟨w9.heap.size,0,none⟩))/\b.cell? ⟨w.heap.size,0,none⟩=some (.pointer (some ⟨sb,0,none⟩))/\b.cell? ⟨p2,0,none⟩=some (.int .i64 level)/\b.cell? ⟨sb,1,none⟩=some (.slice ca xs.length cc)/\b.cell? ⟨sb,2,none⟩=some (.slice sa ys.length sc)/\b.cell? ⟨P,3,none⟩=some (.slice ax pos.length ay)/\b.cell? ⟨P,4,none⟩=some (.slice az aB.length aA)/\b.cell? ⟨S,3,none⟩=some (.slice aC aE.length aD)/\b.cell? ⟨S,4,none⟩=some (.slice aF aH.length aG))
    (first|with_reducible exact aU.o _ cQ.o.run.mt|with_reducible exact aU.o _ aq.o.run.mt|with_reducible exact aU.o _ dh.o.run.mt|with_reducible exact aU.o _ dV.o.run.mt|with_reducible exact aU.o _ dU.o.run.mt|fail)
    (first
      |(go_at_call 29
        have z:=dU.o;refine(e8.o _ z.oth.bu).mono ?_;rintro e wb ⟨v,rfl,ho,D⟩;have J:=jK.own z.run.pg ho;obtain⟨ab,kb,rfl,cx,cC⟩:=J;have dV:=Z (z.keep D);have dZ:=Z (And.intro cx cC);have eR:=Z ((jK.keep (v:=.slice aa (evI XA).length ka) ⟨aa,ka,rfl,dX.o.1,dX.o.2⟩ D));clear z ho D cx cC)
      |(go_at_call 29
        refine(e6.o _ cQ.o.oth.bu).mono ?_;rintro e wa ⟨v,rfl,ho,D⟩;have J:=jK.own cQ.o.run.pg ho;obtain⟨aa,ka,rfl,cw,cB⟩:=J;have dU:=Z (cQ.o.keep D);have dX:=Z (And.intro cw cB);clear ho D cw cB)
      |(go_at_call 28
        have z:=dV.o;refine(Fc z.oth z.run.pg C.o.1 C.o.2 z.st (by have:=ah.o;omega) cO.o XB (evI XB).length (iP _).symm (by rw[iP];have:=cu.o.1;omega) cu.o.2.1 cu.o.2.2 dZ.o.1 (λ ad e=>(dZ.o.2 ad e).2)).mono ?_;rintro e wm ⟨v,nvm,Am,M,aV,rfl,Y,J,cH,cA⟩;obtain⟨am,km,rfl,cy,cF⟩:=Y.sev;have dh:=Z (z.step Y.run J);have cR:=Z (And.intro cy cF);have bW:=Z cA;have HPM:=Z cH;have dY:=Z (eR.o.step Y.run);clear z Y J cH cA cy cF)
      |(go_at_call 209
        have z:=dh.o;have ak:=dY.o.slice;have bN:=z.st.len;have aM:=z.st.pre.length_le;have al:∀x∈XA,x.2<M.length:=λ x hx=>A9 (bm.o.2.1 x hx) aM
        refine(E8 z.run.pg z.oth.bw C.o.1 C.o.2 z.oth.q z.oth.qn XA aV (evI XA).length (evI aV).length (iP _).symm (iP _).symm (by rw[iP];have:=bm.o.1;have:=ah.o;omega) al bW.o.lt ak.1 (λ ad e=>(ak.2 ad e).2) cR.o.1 (λ ad e=>(cR.o.2 ad e).2)).mono ?_;intro e wc J;obtain⟨fi,Ac,rfl,hr⟩:=J;have V:lg W (fS N up xs level) L0 M (c+1+4*XA.length) (λ ae=>b2n (Cmp W ae M false XA aV)) (nD W XA aV M):=ur C.o.1 C.o.2 z.st false al bW.o.lt;have aP:=uB C.o.1 C.o.2 z.st.gok z.st.vok z.st.pre bm.o.2.1 cu.o.2.1 bW.o V.val;generalize nD W XA aV M=r1 at*;have aq:=Z (z.step hr V.st);have bK:=Z (And.intro V.lt aP);have dq:=Z V.pre;clear z ak bN aM al hr V aP)
      |(go_at_call 210
        have z:=dh.o;have ak:=dY.o.slice;have bN:=z.st.len;have aM:=z.st.pre.length_le;have al:∀x∈XA,x.2<M.length:=λ x hx=>A9 (bm.o.2.1 x hx) aM
        refine(yq z.run.pg z.oth.bw C.o.1 C.o.2 z.oth.q z.oth.qn XA aV (evI XA).length (evI aV).length (iP _).symm (iP _).symm (by rw[iP];have:=bm.o.1;have:=ah.o;omega) al bW.o.lt ak.1 (λ ad e=>(ak.2 ad e).2) cR.o.1 (λ ad e=>(cR.o.2 ad e).2)).mono ?_;intro e wc J;obtain⟨fi,Ac,rfl,hr⟩:=J;have V:lg W (fS N up xs level) L0 M (c+1+4*XA.length) (λ ae=>b2n (Cmp W ae M true XA aV)) (kN W XA aV M):=ur C.o.1 C.o.2 z.st true al bW.o.lt;have aP:=uB C.o.1 C.o.2 z.st.gok z.st.vok z.st.pre bm.o.2.1 cu.o.2.1 bW.o V.val;generalize kN W XA aV M=r1 at*;have aq:=Z (z.step hr V.st);have bK:=Z (And.intro V.lt aP);have dq:=Z V.pre;clear z ak bN aM al hr V aP))
   have z1:=aq.o.oth.c1;have bB:=Z (oL aq.o.run.pg aq.o.oth.bw (by have:=aq.o.st.len;have:=bm.o.1;have:=ah.o;omega) C.o.1 C.o.2 aq.o.oth.q aq.o.oth.qn 0 (by decide));have bX:=Z (oK C.o.2 aq.o.st 0);generalize fX W 0 r1.2=r2 at*
  iterate 2
   focus
    go_upto_region 23 with(go_at_call 30;refine bB.o.mono ?_;rintro e wd ⟨fj,Ad,rfl,hr⟩;have bj:=Z (aq.o.step hr (bX.o.st.mono (d:=c+50) (by have:=bm.o.1;omega)));obtain⟨_,y0,y1,_,y2⟩:=bE.o _ bj.o.run.mt;clear hr)
    have aJ:=Z (Cur.mk bj.o.run bj.o.oth (bj.o.st.mono (d:=c+99) (by omega)));have au:=Z (LkI.no (ao:=XC) (bo:=XD) bK.o.1 bK.o.2 bX.o);clear bj bX bB bK dq aq;generalize r2.1=same at*;generalize r2.2=M3 at*;generalize wd=ws at*;have af:=dR.o co.o;have da:=Z af.2.2;have ce:=Z af.2.1;have c3:=Z af.1.1;have bI:=cT.o.c;have bk:=ef.o.c;have bJ:=cT.o.cn
    try simp only at af
    try simp only at bI
    try simp only at bk
    try simp only at bJ
    have bP:=ea.o;have bQ:=ee.o;have aO:=d9.o
    try simp only at bP
    try simp only at bQ
    try simp only at aO
    have ds:=Z bP;have cI:G.length=(G.map Int.toNat).length:=by simp
    have cG:X.length=(X.map Int.toNat).length:=by simp
    have cb:Hid (∀x∈X.map Int.toNat,x<L0.length):=Z af.1.1;have cf:Hid (∀x∈G.map Int.toNat,x<L0.length):=Z af.2.1;have db:Hid (∀x∈G.map Int.toNat,∀j,Occ L0 x j->(L0.getD j default).op=1->(L0.getD j default).num%2=0):=Z af.2.2;rw[bQ] at bk;have du:=Z bk;have bY:=Z bI;have bZ:=Z bJ;have ch:Hid (O.cs.map Int.toNat=X.map Int.toNat/\Q.cs.map Int.toNat=G.map Int.toNat):=Z ⟨by rw[b0.o.1],by rw[b0.o.2]⟩;have bG:Hid ((X.map Int.toNat).length<=12/\(G.map Int.toNat).length<=12):=Z ⟨by rw[<-cG];exact aO.1,by rw[<-cI];exact aO.2⟩;have dt:=Z aO.1;clear af da ce c3 bI bk bJ bQ aO bP cI cG;obtain⟨_,x0,_,_,_⟩:=bE.o _ aJ.o.run.mt
    go_wp2_with(
     at_builtin
     refine Fe (d:=0) Tryz.elemI (base:=w12.heap.size) rfl _ _ rfl rfl (Lay.Own.nil _ _) rfl bZ.o rfl (bY.o.below aJ.o.oth.bu) (by have:=dt.o;simp only[List.length_nil];omega) aJ.o.run.mt.size ?_;intro cM fo j1 j2 j3;rw[List.nil_append,ds.o] at j1;have ck:=Z (Lst.app (Lst.mk aJ.o.run (Lay.Own.nil ws w12.heap.size) (λ g e=>by cases e)) j1 j2 j3);have x3:=(bE.o _ ck.o.run.mt).2.2.2.1;clear j1 j2 j3)
    generalize hbc:G.map Int.toNat=bc at*;generalize hac:X.map Int.toNat=ac at*;have bi:Hid (bc.length=G.length):=Z (by rw[<-hbc];simp);clear hbc hac;obtain⟨qn,bR⟩:∃qn,G.length=qn:=⟨_,rfl⟩
    rw[bR] at bi x3⊢;have eY:=Z bR;clear bR;have fe:qn<=12:=by have h:=bG.o.2;rw[bi.o] at h;exact h
    go_wp2_with fail
    go_loopw [23,151] (λ cM i wr=>∃(k:Nat) (bT:Value) (A':Nat->Prop) (M:List Nd) (l:List Nat),k<=qn/\i= .int .i64 k/\Hid (Lst (Lay.int .i64) 3 w12 wr B A A' gb mb nv bT W M cM (fE l))/\Hid (St W (fS N up xs level) L0 M (c+99)/\M3<+:M/\∃U,l=ac++U/\ju W (fS N up xs level) M (bc.take k) U)) (λ _ i _=>qn-(intOf i).toNat)
    case atStart=>exact⟨0,_,_,_,ac,by omega,rfl,ck,Z ⟨aJ.o.st,B4,[],by simp,by rw[List.take_zero];exact .nil⟩⟩
    case round=>
     obtain⟨k,bT,A',M,l,z,rfl,Y,hg⟩:=hrel;have aK:=Z (I.o.oth.step Y.o.run);by_cases hkn:k<qn
     ·have eu:(k:Int)<qn:=by omega
      have aL:k<bc.length:=by rw[bi.o];exact hkn
      obtain⟨e1,o1,rfl,b4,c0⟩:=(du.o.below aK.o.bu).int (i:=k) (by rw[fK];exact aL);rw[ij] at c0;have hx:=cf.o _ (gE 0 bc k aL);have cL:=db.o _ (gE 0 bc k aL);have cr:=Z (gZ 0 bc k aL);generalize bc.getD k 0=x at*;have HC:=Z (aK.o.call (c:=c+99) Y.o.run.pg C.o.1 C.o.2 hg.o.1 (by have:=ah.o;omega) x hx cO.o cL);have HX:=Z hx;have z5:=aK.o.c5;have c8:Hid (l.length+1<=1000000):=Z (by
       obtain⟨U,e,F⟩:=hg.o.2.2;have:=F.len;rw[AO] at this;have:=bG.o;rw[e,Av];omega)
      clear hx cL aL b4
      go_wp2_with(first
       |(go_at_call 26
         refine HC.o.mono ?_;rintro e wo ⟨r,J,s1,s2,s3,s4⟩;obtain⟨dL,Ao,rfl,hr⟩:=J;have ai:=Z (Y.o.step hr);have ap:=Z (And.intro s1 (And.intro s2 (And.intro s3 s4)));clear hr s1 s2 s3 s4)
       |(at_builtin
         refine ut Tryz.elemI [(r.1:Int)] rfl _ _ rfl rfl ai.o.own rfl (by simp) rfl (by rw[fK];exact c8.o) ai.o.run.mt.size ?_;intro v8 w8 j1 j2 j3;have aj:=Z ((ai.o.keep (fQ (A6 _ _) _)).app (ys:=fE (l++[r.1])) (by rw[ov];exact j1) j2 (j3.elim .inl λ e=>.inr (by rw[e];simp)));clear j1 j2 j3))
      go_roundw
      case rel=>exact⟨k+1,dL,_,r.2,l++[r.1],by omega,by go_num,aj,Z ⟨ap.o.1,hg.o.2.1.trans ap.o.2.1,by
       obtain⟨U,e,F⟩:=hg.o.2.2;exact⟨U++[r.1],by rw[e,B8],by rw[cr.o];exact(F.pre hg.o.1.gok ap.o.2.1).snoc ap.o.2.2.1 (A9 HX.o ap.o.1.pre.length_le) ap.o.2.2.2⟩⟩⟩
      case measure=>simp[intOf]<;>omega
     obtain rfl:k=qn:=by omega
     have e1:bc.take k=bc:=by rw[<-bi.o,AD]
     rw[e1] at hg;obtain⟨g1,g2,U,rfl,g3⟩:=hg.o;have hd:=Y.o.keep (A6 wr.heap.size wr).drew;have aN:=aK.o.keep (A6 wr.heap.size wr).drew;have dB:=g1.len;have m4:=oK C.o.2 g1 0;have bB:=Z (oL hd.run.pg aN.bw (by have:=ah.o;omega) C.o.1 C.o.2 aN.q aN.qn 0 (by decide));generalize fX W 0 M=E at*;have bt:same<E.2.length:=A9 au.o.sl (g2.trans m4.pre).length_le;have m5:=sg C.o.1 C.o.2 m4.st (o:=15) (by decide) (by decide) bt m4.lt;have dJ:=m4.st.len;have cK:∀x∈[same,E.1],x<E.2.length:=by simpa using And.intro bt m4.lt
     have dw:=Z (λ wn b9 An (hr:Run w12 wn B A An gb mb nv b9 W E.2)=>si (hr.pg.below (fQ (A6 _ _) (.cells #[.int .i64 (same:Nat),.int .i64 (E.1:Nat)] 3))) (Ag (I.o.oth.step hr).bw (by simp)) (by have:=ah.o;omega) C.o.1 C.o.2 ((I.o.oth.step hr).q.alloc _) (I.o.oth.step hr).qn 15 (by decide) (by decide) [same,E.1] 2 rfl rfl cK (cap:=2) (sk wn same E.1));generalize fR W 15 [same,E.1] E.2=r5 at*;have bz:=g2.trans (m4.pre.trans m5.pre);have dK:=m5.st.len;have bq:=g3.pre g1.gok (m4.pre.trans m5.pre);have dj:=Z (Fb (c:=c+101) C.o.1 C.o.2 m5.st bz bz cb.o cf.o au.o.rl au.o.rv au.o.sl au.o.sv bq m5.lt (λ ae=>by
      rw[m5.val ae,iw m5.pre bt];show b2n (vAt W ae E.2 same=vAt W ae E.2 E.1)=_;rw[m4.val ae,Nat.zero_mod]))
     have bF:Hid ((ac++U++[r1.1,r5.1]).length<=26):=Z (by
      have:=bq.len;have:=bG.o;simp only[Av,AQ,List.length_nil];omega)
     have di:Hid ((fE (ac++U)).length+2<=1000000):=Z (by
      have:=bF.o;simp only[Av,AQ,List.length_nil] at this;rw[fK,Av];omega)
     have dk:Hid (∀t∈ac++U++[r1.1,r5.1],t<r5.2.length):=Z λ t ht=>by
      simp only[Ar,List.mem_cons,List.not_mem_nil,or_false] at ht;rcases ht with(ht|ht)|rfl|rfl
      ·exact A9 (cb.o t ht) m5.st.pre.length_le
      ·exact bq.lt t ht
      ·exact A9 au.o.rl bz.length_le
      exact m5.lt
     have dl:Hid (r5.2.length+1+3*26<=999):=Z (by have:=ah.o;omega);have HD:=Z hd;have dp:=Z aN;have eQ:Hid (Run w12 wr B A A' gb mb nv bT W M):=Z Y.o.run;have x9:=aK.o.c1;clear g1 g2 g3 m4 m5 cK bt dJ dK dB bz bq hd aN
     go_wp2_with fail
     go_region_held3(λ b=>b.cell? ⟨b1,0,none⟩=some (.pointer (some ⟨w9.heap.size,0,none⟩)))
      (first|with_reducible exact dp.o.c1|with_reducible exact(I.o.oth.step bl.o).c1|with_reducible exact(I.o.oth.step ar.o.run).c1|with_reducible exact(I.o.oth.step cm.o.run).c1|with_reducible exact(I.o.oth.step aj.o.run).c1|with_reducible exact(I.o.oth.step cl.o.run).c1|with_reducible exact(I.o.oth.step ai.o.run).c1|fail)
      (first
        |(go_at_call 30
          apply Calls.mono bB.o;rintro e wn ⟨b9,An,rfl,hr⟩;have ai:=Z (HD.o.step hr);have cl:=Z (ai.o.keep (fQ (A6 wn.heap.size wn) (.cells #[.int .i64 (same:Nat),.int .i64 (E.1:Nat)] 3)));have dx:=Z (dw.o _ _ _ ai.o.run);clear hr)
        |(go_at_call 32
          apply Calls.mono dx.o;rintro e wq ⟨fl,Aq,rfl,hr⟩;have aj:=Z (cl.o.step hr);have cm:=Z (aj.o.keep (fQ (A6 wq.heap.size wq) (.cells #[.int .i64 (r1.1:Nat),.int .i64 (r5.1:Nat)] 3)));clear hr)
        |(have _q:=aj.o
          fail_if_success have _p:=ar.o
          refine uz Tryz.elemI [(r1.1:Int),(r5.1:Int)] rfl _ _ rfl rfl aj.o.own rfl rfl rfl di.o aj.o.run.mt.size ?_;clear _q;intro v9 fm j1 j2 j3;rw[<-Fh] at j1;have ar:=Z (cm.o.app j1 j2 (j3.elim .inl λ e=>.inr (by rw[e];simp)));obtain⟨vf,kf,rfl,cz,cE⟩:=ar.o.form (d:=0);obtain⟨nf,bp⟩:∃nf,(fE (ac++U++[r1.1,r5.1])).length=nf:=⟨_,rfl⟩
          rw[bp];rw[fK] at bp;have bs:=I.o.oth.step ar.o.run;have cZ:=Z (yf ar.o.run.pg bs.bw C.o.1 C.o.2 bs.q bs.qn (ac++U++[r1.1,r5.1]) nf bp (by have:=dl.o;have:=bF.o;omega) dk.o (tc:=kf) cz cE);clear j1 j2 j3 cz cE bs bp)
        |(go_at_call 31
          apply Calls.mono cZ.o;rintro e wz ⟨dM,Az,rfl,hr⟩;have bl:=Z (ar.o.run.trans hr);have zq:=((I.o.oth.step bl.o).q.at_ 1 _ rfl).1;have zc:=(I.o.oth.step bl.o).c1;clear hr))
     go_wp2_with fail
     go_ret2
     have bn:=dj.o;have cJ:=bl.o;have dF:=bF.o;rw[B8] at bn cJ dF;refine .inr ⟨by rw[dz.o];exact co.o,dM,_,_,_,rfl,cJ.lift cd.o,bn.1.mono (by omega),bn.2.2.1,λ ae dN h=> ?_⟩;rw[cS.o.2,cS.o.1,ch.o.1,ch.o.2,bC.o.1,bC.o.2.1,bC.o.2.2.1,bC.o.2.2.2];exact bn.2.2.2 ae dN h
  all_goals
   go_upto_region 22 with(go_at_call 30;refine bB.o.mono ?_;rintro e wd ⟨fj,Ad,rfl,hr⟩;have bj:=Z (aq.o.step hr (bX.o.st.mono (d:=c+50) (by have:=bm.o.1;omega)));obtain⟨_,y0,y1,_,y2⟩:=bE.o _ bj.o.run.mt;clear hr)
   have cj:=Z (bj.o.keep (A6 _ _).drew)
   go_region_held3(λ b=>b.cell? ⟨0,0,none⟩=some (.func (Fn.func 209) #[] #[])/\b.cell? ⟨0,1,none⟩=some (.func (Fn.func 210) #[] #[])/\b.cell? ⟨b1,0,none⟩=some (.pointer (some ⟨w9.heap.size,0,none⟩))/\b.cell? ⟨w.heap.size,0,none⟩=some (.pointer (some ⟨sb,0,none⟩))/\b.cell? ⟨p2,0,none⟩=some (.int .i64 level)/\b.cell? ⟨sb,1,none⟩=some (.slice ca xs.length cc)/\b.cell? ⟨sb,2,none⟩=some (.slice sa ys.length sc)/\b.cell? ⟨P,3,none⟩=some (.slice ax pos.length ay)/\b.cell? ⟨P,4,none⟩=some (.slice az aB.length aA)/\b.cell? ⟨S,3,none⟩=some (.slice aC aE.length aD)/\b.cell? ⟨S,4,none⟩=some (.slice aF aH.length aG))
    (first|with_reducible exact aU.o _ cj.o.run.mt|with_reducible exact aU.o _ bV.o.run.mt|with_reducible exact aU.o _ cP.o.run.mt|with_reducible exact aU.o _ dg.o.run.mt|with_reducible exact aU.o _ df.o.run.mt|fail)
    (first
      |(go_at_call 29
        have z:=df.o;refine(e7.o _ z.oth.bu).mono ?_;rintro e wb2 ⟨v,rfl,ho,D⟩;have J:=jK.own z.run.pg ho;obtain⟨ab,kb,rfl,cx,cC⟩:=J;have dg:=Z (z.keep D);have de:=Z (And.intro cx cC);have dT:=Z ((jK.keep (v:=.slice aa (evI XC).length ka) ⟨aa,ka,rfl,dc.o.1,dc.o.2⟩ D));clear z ho D cx cC)
      |(go_at_call 29
        refine(e0.o _ cj.o.oth.bu).mono ?_;rintro e wa2 ⟨v,rfl,ho,D⟩;have J:=jK.own cj.o.run.pg ho;obtain⟨aa,ka,rfl,cw,cB⟩:=J;have df:=Z (cj.o.keep D);have dc:=Z (And.intro cw cB);clear ho D cw cB)
      |(go_at_call 28
        have z:=dg.o;refine(Fc z.oth z.run.pg C.o.1 C.o.2 z.st (by have:=ah.o;omega) cO.o XD (evI XD).length (iP _).symm (by rw[iP];have:=cv.o.1;omega) cv.o.2.1 cv.o.2.2 de.o.1 (λ ad e=>(de.o.2 ad e).2)).mono ?_;rintro e wm2 ⟨v,b9,An,M2,aW,rfl,Y,J,cH,cA⟩;obtain⟨am,km,rfl,cy,cF⟩:=Y.sev;have cP:=Z (z.step Y.run J);have ci:=Z (And.intro cy cF);have bH:=Z cA;have bZ:=Z cH;have dd:=Z (dT.o.step Y.run);clear z Y J cH cA cy cF)
      |(go_at_call 209
        have z:=cP.o;have ak:=dd.o.slice;have bN:=z.st.len;have aM:=z.st.pre.length_le;have al:∀x∈XC,x.2<M2.length:=λ x hx=>A9 (bM.o.2.1 x hx) aM
        refine(E8 z.run.pg z.oth.bw C.o.1 C.o.2 z.oth.q z.oth.qn XC aW (evI XC).length (evI aW).length (iP _).symm (iP _).symm (by rw[iP];have:=bM.o.1;have:=ah.o;omega) al bH.o.lt ak.1 (λ ad e=>(ak.2 ad e).2) ci.o.1 (λ ad e=>(ci.o.2 ad e).2)).mono ?_;intro e eH J;obtain⟨fk,Ae,rfl,hr⟩:=J;have V:lg W (fS N up xs level) L0 M2 (c+50+1+4*XC.length) (λ ae=>b2n (Cmp W ae M2 false XC aW)) (nD W XC aW M2):=ur C.o.1 C.o.2 z.st false al bH.o.lt;have aP:=uB C.o.1 C.o.2 z.st.gok z.st.vok z.st.pre bM.o.2.1 cv.o.2.1 bH.o V.val;generalize nD W XC aW M2=r3 at*;have bV:=Z (z.step hr V.st);have cU:=Z (And.intro V.lt aP);have dr:=Z V.pre;clear z ak bN aM al hr V aP)
      |(go_at_call 210
        have z:=cP.o;have ak:=dd.o.slice;have bN:=z.st.len;have aM:=z.st.pre.length_le;have al:∀x∈XC,x.2<M2.length:=λ x hx=>A9 (bM.o.2.1 x hx) aM
        refine(yq z.run.pg z.oth.bw C.o.1 C.o.2 z.oth.q z.oth.qn XC aW (evI XC).length (evI aW).length (iP _).symm (iP _).symm (by rw[iP];have:=bM.o.1;have:=ah.o;omega) al bH.o.lt ak.1 (λ ad e=>(ak.2 ad e).2) ci.o.1 (λ ad e=>(ci.o.2 ad e).2)).mono ?_;intro e eH J;obtain⟨fk,Ae,rfl,hr⟩:=J;have V:lg W (fS N up xs level) L0 M2 (c+50+1+4*XC.length) (λ ae=>b2n (Cmp W ae M2 true XC aW)) (kN W XC aW M2):=ur C.o.1 C.o.2 z.st true al bH.o.lt;have aP:=uB C.o.1 C.o.2 z.st.gok z.st.vok z.st.pre bM.o.2.1 cv.o.2.1 bH.o V.val;generalize kN W XC aW M2=r3 at*;have bV:=Z (z.step hr V.st);have cU:=Z (And.intro V.lt aP);have dr:=Z V.pre;clear z ak bN aM al hr V aP))
   have aJ:=Z (Cur.mk bV.o.run bV.o.oth (bV.o.st.mono (d:=c+99) (by have:=bM.o.1;omega)));have au:=Z (LkI.yes bK.o.1 bK.o.2 cU.o.1 cU.o.2 (bX.o.pre.trans (bZ.o.trans dr.o)));clear cj df dg cP bV dc dT dd de ci bH bZ dr cU bj bX bB bK dq aq;generalize r3.1=same at*;generalize r3.2=M3 at*;generalize eH=ws at*;have af:=dR.o co.o;have da:=Z af.2.2;have ce:=Z af.2.1;have c3:=Z af.1.1;have bI:=cT.o.c;have bk:=ef.o.c;have bJ:=cT.o.cn
   try simp only at af
   try simp only at bI
   try simp only at bk
   try simp only at bJ
   have bP:=ea.o;have bQ:=ee.o;have aO:=d9.o
   try simp only at bP
   try simp only at bQ
   try simp only at aO
   have ds:=Z bP;have cI:G.length=(G.map Int.toNat).length:=by simp
   have cG:X.length=(X.map Int.toNat).length:=by simp
   have cb:Hid (∀x∈X.map Int.toNat,x<L0.length):=Z af.1.1;have cf:Hid (∀x∈G.map Int.toNat,x<L0.length):=Z af.2.1;have db:Hid (∀x∈G.map Int.toNat,∀j,Occ L0 x j->(L0.getD j default).op=1->(L0.getD j default).num%2=0):=Z af.2.2;rw[bQ] at bk;have du:=Z bk;have bY:=Z bI;have bZ:=Z bJ;have ch:Hid (O.cs.map Int.toNat=X.map Int.toNat/\Q.cs.map Int.toNat=G.map Int.toNat):=Z ⟨by rw[b0.o.1],by rw[b0.o.2]⟩;have bG:Hid ((X.map Int.toNat).length<=12/\(G.map Int.toNat).length<=12):=Z ⟨by rw[<-cG];exact aO.1,by rw[<-cI];exact aO.2⟩;have dt:=Z aO.1;clear af da ce c3 bI bk bJ bQ aO bP cI cG;obtain⟨_,x0,_,_,_⟩:=bE.o _ aJ.o.run.mt
   go_wp2_with(
    at_builtin
    refine Fe (d:=0) Tryz.elemI (base:=w12.heap.size) rfl _ _ rfl rfl (Lay.Own.nil _ _) rfl bZ.o rfl (bY.o.below aJ.o.oth.bu) (by have:=dt.o;simp only[List.length_nil];omega) aJ.o.run.mt.size ?_;intro cM fo j1 j2 j3;rw[List.nil_append,ds.o] at j1;have ck:=Z (Lst.app (Lst.mk aJ.o.run (Lay.Own.nil ws w12.heap.size) (λ g e=>by cases e)) j1 j2 j3);have x3:=(bE.o _ ck.o.run.mt).2.2.2.1;clear j1 j2 j3)
   generalize hbc:G.map Int.toNat=bc at*;generalize hac:X.map Int.toNat=ac at*;have bi:Hid (bc.length=G.length):=Z (by rw[<-hbc];simp);clear hbc hac;obtain⟨qn,bR⟩:∃qn,G.length=qn:=⟨_,rfl⟩
   rw[bR] at bi x3⊢;have eY:=Z bR;clear bR;have fe:qn<=12:=by have h:=bG.o.2;rw[bi.o] at h;exact h
   go_wp2_with fail
   go_loopw [23,151] (λ cM i wr=>∃(k:Nat) (bT:Value) (A':Nat->Prop) (M:List Nd) (l:List Nat),k<=qn/\i= .int .i64 k/\Hid (Lst (Lay.int .i64) 3 w12 wr B A A' gb mb nv bT W M cM (fE l))/\Hid (St W (fS N up xs level) L0 M (c+99)/\M3<+:M/\∃U,l=ac++U/\ju W (fS N up xs level) M (bc.take k) U)) (λ _ i _=>qn-(intOf i).toNat)
   case atStart=>exact⟨0,_,_,_,ac,by omega,rfl,ck,Z ⟨aJ.o.st,B4,[],by simp,by rw[List.take_zero];exact .nil⟩⟩
   case round=>
    obtain⟨k,bT,A',M,l,z,rfl,Y,hg⟩:=hrel;have aK:=Z (I.o.oth.step Y.o.run);by_cases hkn:k<qn
    ·have eu:(k:Int)<qn:=by omega
     have aL:k<bc.length:=by rw[bi.o];exact hkn
     obtain⟨e1,o1,rfl,b4,c0⟩:=(du.o.below aK.o.bu).int (i:=k) (by rw[fK];exact aL);rw[ij] at c0;have hx:=cf.o _ (gE 0 bc k aL);have cL:=db.o _ (gE 0 bc k aL);have cr:=Z (gZ 0 bc k aL);generalize bc.getD k 0=x at*;have HC:=Z (aK.o.call (c:=c+99) Y.o.run.pg C.o.1 C.o.2 hg.o.1 (by have:=ah.o;omega) x hx cO.o cL);have HX:=Z hx;have z5:=aK.o.c5;have c8:Hid (l.length+1<=1000000):=Z (by
      obtain⟨U,e,F⟩:=hg.o.2.2;have:=F.len;rw[AO] at this;have:=bG.o;rw[e,Av];omega)
     clear hx cL aL b4
     go_wp2_with(first
      |(go_at_call 26
        refine HC.o.mono ?_;rintro e wo ⟨r,J,s1,s2,s3,s4⟩;obtain⟨dL,Ao,rfl,hr⟩:=J;have ai:=Z (Y.o.step hr);have ap:=Z (And.intro s1 (And.intro s2 (And.intro s3 s4)));clear hr s1 s2 s3 s4)
      |(at_builtin
        refine ut Tryz.elemI [(r.1:Int)] rfl _ _ rfl rfl ai.o.own rfl (by simp) rfl (by rw[fK];exact c8.o) ai.o.run.mt.size ?_;intro v8 w8 j1 j2 j3;have aj:=Z ((ai.o.keep (fQ (A6 _ _) _)).app (ys:=fE (l++[r.1])) (by rw[ov];exact j1) j2 (j3.elim .inl λ e=>.inr (by rw[e];simp)));clear j1 j2 j3))
     go_roundw
     case rel=>exact⟨k+1,dL,_,r.2,l++[r.1],by omega,by go_num,aj,Z ⟨ap.o.1,hg.o.2.1.trans ap.o.2.1,by
      obtain⟨U,e,F⟩:=hg.o.2.2;exact⟨U++[r.1],by rw[e,B8],by rw[cr.o];exact(F.pre hg.o.1.gok ap.o.2.1).snoc ap.o.2.2.1 (A9 HX.o ap.o.1.pre.length_le) ap.o.2.2.2⟩⟩⟩
     case measure=>simp[intOf]<;>omega
    obtain rfl:k=qn:=by omega
    have e1:bc.take k=bc:=by rw[<-bi.o,AD]
    rw[e1] at hg;obtain⟨g1,g2,U,rfl,g3⟩:=hg.o;have hd:=Y.o.keep (A6 wr.heap.size wr).drew;have aN:=aK.o.keep (A6 wr.heap.size wr).drew;have dB:=g1.len;have m4:=oK C.o.2 g1 0;have bB:=Z (oL hd.run.pg aN.bw (by have:=ah.o;omega) C.o.1 C.o.2 aN.q aN.qn 0 (by decide));generalize fX W 0 M=E at*;have bt:same<E.2.length:=A9 au.o.sl (g2.trans m4.pre).length_le;have m5:=sg C.o.1 C.o.2 m4.st (o:=15) (by decide) (by decide) bt m4.lt;have dJ:=m4.st.len;have cK:∀x∈[same,E.1],x<E.2.length:=by simpa using And.intro bt m4.lt
    have dw:=Z (λ wn b9 An (hr:Run w12 wn B A An gb mb nv b9 W E.2)=>si (hr.pg.below (fQ (A6 _ _) (.cells #[.int .i64 (same:Nat),.int .i64 (E.1:Nat)] 3))) (Ag (I.o.oth.step hr).bw (by simp)) (by have:=ah.o;omega) C.o.1 C.o.2 ((I.o.oth.step hr).q.alloc _) (I.o.oth.step hr).qn 15 (by decide) (by decide) [same,E.1] 2 rfl rfl cK (cap:=2) (sk wn same E.1));generalize fR W 15 [same,E.1] E.2=r5 at*;have bz:=g2.trans (m4.pre.trans m5.pre);have dK:=m5.st.len;have bq:=g3.pre g1.gok (m4.pre.trans m5.pre);have dj:=Z (Fb (c:=c+101) C.o.1 C.o.2 m5.st bz bz cb.o cf.o au.o.rl au.o.rv au.o.sl au.o.sv bq m5.lt (λ ae=>by
     rw[m5.val ae,iw m5.pre bt];show b2n (vAt W ae E.2 same=vAt W ae E.2 E.1)=_;rw[m4.val ae,Nat.zero_mod]))
    have bF:Hid ((ac++U++[r1.1,r5.1]).length<=26):=Z (by
     have:=bq.len;have:=bG.o;simp only[Av,AQ,List.length_nil];omega)
    have di:Hid ((fE (ac++U)).length+2<=1000000):=Z (by
     have:=bF.o;simp only[Av,AQ,List.length_nil] at this;rw[fK,Av];omega)
    have dk:Hid (∀t∈ac++U++[r1.1,r5.1],t<r5.2.length):=Z λ t ht=>by
     simp only[Ar,List.mem_cons,List.not_mem_nil,or_false] at ht;rcases ht with(ht|ht)|rfl|rfl
     ·exact A9 (cb.o t ht) m5.st.pre.length_le
     ·exact bq.lt t ht
     ·exact A9 au.o.rl bz.length_le
     exact m5.lt
    have dl:Hid (r5.2.length+1+3*26<=999):=Z (by have:=ah.o;omega);have HD:=Z hd;have dp:=Z aN;have eQ:Hid (Run w12 wr B A A' gb mb nv bT W M):=Z Y.o.run;have x9:=aK.o.c1;clear g1 g2 g3 m4 m5 cK bt dJ dK dB bz bq hd aN
    go_wp2_with fail
    go_region_held3(λ b=>b.cell? ⟨b1,0,none⟩=some (.pointer (some ⟨w9.heap.size,0,none⟩)))
     (first|with_reducible exact dp.o.c1|with_reducible exact(I.o.oth.step bl.o).c1|with_reducible exact(I.o.oth.step ar.o.run).c1|with_reducible exact(I.o.oth.step cm.o.run).c1|with_reducible exact(I.o.oth.step aj.o.run).c1|with_reducible exact(I.o.oth.step cl.o.run).c1|with_reducible exact(I.o.oth.step ai.o.run).c1|fail)
     (first
       |(go_at_call 30
         apply Calls.mono bB.o;rintro e wn ⟨b9,An,rfl,hr⟩;have ai:=Z (HD.o.step hr);have cl:=Z (ai.o.keep (fQ (A6 wn.heap.size wn) (.cells #[.int .i64 (same:Nat),.int .i64 (E.1:Nat)] 3)));have dx:=Z (dw.o _ _ _ ai.o.run);clear hr)
       |(go_at_call 32
         apply Calls.mono dx.o;rintro e wq ⟨fl,Aq,rfl,hr⟩;have aj:=Z (cl.o.step hr);have cm:=Z (aj.o.keep (fQ (A6 wq.heap.size wq) (.cells #[.int .i64 (r1.1:Nat),.int .i64 (r5.1:Nat)] 3)));clear hr)
       |(have _q:=aj.o
         fail_if_success have _p:=ar.o
         refine uz Tryz.elemI [(r1.1:Int),(r5.1:Int)] rfl _ _ rfl rfl aj.o.own rfl rfl rfl di.o aj.o.run.mt.size ?_;clear _q;intro v9 fm j1 j2 j3;rw[<-Fh] at j1;have ar:=Z (cm.o.app j1 j2 (j3.elim .inl λ e=>.inr (by rw[e];simp)));obtain⟨vf,kf,rfl,cz,cE⟩:=ar.o.form (d:=0);obtain⟨nf,bp⟩:∃nf,(fE (ac++U++[r1.1,r5.1])).length=nf:=⟨_,rfl⟩
         rw[bp];rw[fK] at bp;have bs:=I.o.oth.step ar.o.run;have cZ:=Z (yf ar.o.run.pg bs.bw C.o.1 C.o.2 bs.q bs.qn (ac++U++[r1.1,r5.1]) nf bp (by have:=dl.o;have:=bF.o;omega) dk.o (tc:=kf) cz cE);clear j1 j2 j3 cz cE bs bp)
       |(go_at_call 31
         apply Calls.mono cZ.o;rintro e wz ⟨dM,Az,rfl,hr⟩;have bl:=Z (ar.o.run.trans hr);have zq:=((I.o.oth.step bl.o).q.at_ 1 _ rfl).1;have zc:=(I.o.oth.step bl.o).c1;clear hr))
    go_wp2_with fail
    go_ret2
    have bn:=dj.o;have cJ:=bl.o;have dF:=bF.o;rw[B8] at bn cJ dF;refine .inr ⟨by rw[dz.o];exact co.o,dM,_,_,_,rfl,cJ.lift cd.o,bn.1.mono (by omega),bn.2.2.1,λ ae dN h=> ?_⟩;rw[cS.o.2,cS.o.1,ch.o.1,ch.o.2,bC.o.1,bC.o.2.1,bC.o.2.2.1,bC.o.2.2.2];exact bn.2.2.2 ae dN h
end
