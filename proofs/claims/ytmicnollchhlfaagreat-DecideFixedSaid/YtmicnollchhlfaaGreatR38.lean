/- The solver's memory: blocks with tags; what stores and appends leave of it. -/
import Derived.Test.YtmicnollchhlfaaGreatR37
set_option linter.all false
namespace Go.Proofs.YtmicnollchhlfaaGreat
open Go.RowKit Go.Shelf
def CT(w:World)(r:List Int×Bool)(e:Ending)(w':World):=∃hd:Hd,e= .returned (.tuple #[.slice hd.1 hd.2.1 hd.2.2,.bool r.2])/\Below w.heap.size w w'/\(Lay.int .i64).Own 3 w' w.heap.size (.slice hd.1 hd.2.1 hd.2.2) r.1
theorem Mf{s:List Int}{k}(hk:k<s.length)(h1:1<=k):gS (s.drop (k-1))=((s.getD (k-1) 0).natAbs==(s.getD k 0).natAbs||gS (s.drop k)):=by have a:s.drop (k-1)=s.getD (k-1) 0::s.drop k:=by{have h:=List.drop_eq_getElem_cons (l:=s) (i:=k-1) (by omega);rw[h,A2,A5 (by omega),show k-1+1=k by omega];rfl};have c:s.drop k=s.getD k 0::s.drop (k+1):=by{have h:=List.drop_eq_getElem_cons (l:=s) (i:=k) hk;rw[h,A2,A5 hk];rfl};rw[a,c];rfl
theorem Mg{s:List Int}{k}(hk:s.length<=k)(h1:1<=k):gS (s.drop (k-1))=false:=by have a:(s.drop (k-1)).length<=1:=by{rw[Aw];omega};generalize s.drop (k-1)=q at*;match q,a with|[],_=>rfl|[_],_=>rfl|_::_::_,h=>simp at h
theorem Mh{j A s g a t}(c1:CAt j A (g,a,t) s)(l:∀x∈s,x≠0/\ -1000000000<=x/\x<=1000000000)(hL:s.length<=4):s.length=a/\(a:Int)<=4/\a<=4/\(¬((0:Int)<(a:Int))\/∃c d x,g=some ⟨c,d,none⟩/\j.cell? ⟨c,d,none⟩=some (.int .i64 x)/\(x==0)=false/\(0:Int)<a/\0<a):=by have r:s.length=a:=c1.len.symm;refine⟨r,by omega,by omega,?_⟩;by_cases h0:a=0;{exact .inl (by omega)};obtain⟨c,d,f,hpb,h⟩:=c1.at_.int (i:=0) (by omega);have f:g=some ⟨c,d,none⟩:=f;rw[Nat.add_zero] at h;have n:=(l (s.getD 0 0) (eF _ _ (by omega))).1;exact .inr ⟨c,d,_,f,h,by rw[beq_eq_false_iff_ne];exact n,by omega,by omega⟩
set_option maxRecDepth 100000 in
set_option maxHeartbeats 4000000 in
theorem Mj w l{m cap a}(hm:l.length=m)(hm4:m<=4)(hc:m<=cap)(E:(Lay.int .i64).At 0 w a l)(ah:a=none->cap=0)(V:∀x∈l,x≠0/\ -1000000000<=x/\x<=1000000000):
  Calls Tryz.prog 86 #[.slice a m cap] w (CT w (dG l)):=by
 have HS:=Z (Me 3 w l hm (by omega) (by omega) hc E ah λx P=>(V x P).2);have P:∀x∈eO 3 l,x≠0/\ -1000000000<=x/\x<=1000000000:=λx h=>V x ((lx _ _ _).1 h)
 have hl:=lw 3 l;unfold dG;generalize eO 3 l=s at*;have T:=Z P;have HL:=Z (show s.length<=4 by omega);clear E ah V P hl hc;generalize hr:(if gS s=true then(([]:List Int),true) else(s,false))=r;have HR:=Z hr;clear hr;go_enter Tryz.func86,Tryz.ntmps86
 go_wp2_with fail
 refine HS.o.mono ?_;rintro e g hN;obtain⟨⟨F,d,z⟩,c,b1,c1,p1⟩:=hN.old;obtain⟨ar,K,_,A⟩:=hN;obtain rfl:(F,d,z)=ar:=by
  rw[c] at K;injection K with K;obtain⟨H,U,e3⟩:=Value.slice.inj K;exact Prod.ext H (Prod.ext U e3)
 have A:(Lay.int .i64).Own 3 g w.heap.size (.slice F d z) s:=A;obtain rfl:e= .returned (.slice F d z):=c;have PX:Hid (d<=z):=Z p1;have B1:Hid (Below w.heap.size w g):=Z b1;have J:Hid (CAt g (λk=>w.heap.size<=k/\k<g.heap.size) (F,d,z) s):=Z c1;obtain⟨am,hxi,hxn,av⟩:=Mh c1 T.o HL.o;have D:=Z am;clear am b1 c1 p1;have HF:Hid (∃G,G=F/\CAt g (λk=>w.heap.size<=k/\k<g.heap.size) (G,d,z) s/\(Lay.int .i64).Own 3 g w.heap.size (.slice G d z) s):=Z ⟨F,rfl,J.o,A⟩;clear J A;rcases av with hd|⟨Q,R,x,rfl,hp0,d0,hxp,hxq⟩
 all_goals
  go_wp2_with fail
  go_loopw [5] (λi wr=>∃j:Nat,j<=4/\i= .int .i64 ((j:Int)+1)/\Hid (SW g wr)/\Hid (gS (s.drop j)=gS s)) (λi _=>5-(intOf i).toNat)
  case atStart=>exact⟨0,by omega,rfl,Z ⟨rfl,rfl,rfl,rfl⟩,Z rfl⟩
  case round=>
   obtain⟨j,hj,rfl,f,Y⟩:=hrel;obtain⟨G,an,c1,A⟩:=HF.o;have ad:=Z an;have J:=Z c1;have O1:=Z A;clear an c1 A;have hji:(j:Int)<=4:=by omega
   by_cases hlk:j+1<d
   ·have t:=Mf (s:=s) (k:=j+1) (by rw[D.o];exact hlk) (by omega);rw[Nat.add_sub_cancel,Y.o] at t;have E:=f.o.at_ J.o.at_;obtain⟨aa,ab,n,hpb1,L⟩:=E.int (i:=j) (by rw[D.o];omega);obtain⟨pb2,po2,ai,hpb2,O⟩:=E.int (i:=j+1) (by rw[D.o];omega);rw[n] at ai;injection ai with H;injection H with H U;subst H U;have n:G=some ⟨aa,ab,none⟩:=n;have n:=ad.o.symm.trans n;have ae:=(T.o (s.getD j 0) (eF _ _ (by rw[D.o];omega))).2;have af:=(T.o (s.getD (j+1) 0) (eF _ _ (by rw[D.o];omega))).2;have ac:Hid (∀(W:World) v,(v=s.getD j 0\/v=s.getD (j+1) 0)->Calls Tryz.prog 113 #[.int .i64 v] W λe w'=>e= .returned (.int .u64 (v.natAbs:Nat))/\W=w'):=Z λW v hv=>by
     rcases hv with rfl|rfl
     ·exact qJ W _ ae
     exact qJ W _ af
    generalize s.getD j 0=vx at*;generalize s.getD (j+1) 0=vy at*;generalize hnA:Int.natAbs=nA at*;clear hnA;have L:wr.cell? ⟨aa,ab+j,none⟩=some (.int .i64 vx):=L;have O:wr.cell? ⟨aa,ab+(j+1),none⟩=some (.int .i64 vy):=O
    first
     |(exfalso;omega)
     |(injection n with n;injection n with q1 q2;subst q1 q2)
    all_goals
     have hjx:(j:Int)+1<d:=by omega
     have hjx0:(j:Int)<d:=by omega
     have hjx1:j<d:=by omega
     have hjx6:IntKind.i64.wrap (j:Int)=j:=by rw[IntKind.wrap_i64];omega
     have hjx2:(0:Int)<=(j:Int)+1:=by omega
     have hjx3:(0:Int)<=(j:Int):=by omega
     have al:∀W,SW wr W->(nA vx==nA vy)=false->Hid (SW g W)/\Hid (gS (s.drop (j+1))=gS s):=λW sw c=>⟨Z ⟨sw.1.trans f.o.1,sw.2.1.trans f.o.2.1,sw.2.2.1.trans f.o.2.2.1,sw.2.2.2.trans f.o.2.2.2⟩,Z (by rw[t,c];rfl)⟩
     have aj:∀W,SW wr W->(nA vx==nA vy)=true->CT w r (.returned (.tuple #[.slice none 0 0,.bool true])) W:=λW sw c=>by
      rw[c,Bool.true_or] at t;rw[<-HR.o,t];exact⟨(none,0,0),rfl,B1.o.trans ((f.o.bel _).trans (sw.bel _)),Lay.Own.nil _ _⟩
     have aq:=Z al;have ao:=Z aj;clear al aj f Y t E ae af;cases c:(nA vx==nA vy) with
     |true=>
      rw[beq_iff_eq] at c;have au:(((nA vy:Nat):Int)==((nA vx:Nat):Int))=true:=by rw[c];simp
      have S:=Z c;clear c
      go_wp2_with fail
      go_region_held3(λw'=>w'.cell? ⟨Q,R+j,none⟩=some (.int .i64 vx)/\w'.cell? ⟨Q,R+(j+1),none⟩=some (.int .i64 vy))
       (first
         |exact⟨L,O⟩
         |go_keep)
       (first
         |(go_at_call 113
           refine(ac.o _ _ ?_).mono ?_
           ·first|exact .inl rfl|exact .inr rfl
           rintro e w5 ⟨rfl,rfl⟩)
         |fail)
      go_wp2_with fail
      go_ret2
      exact ao.o _ ⟨rfl,rfl,rfl,rfl⟩ (by rw[S.o];simp)
     |false=>
      have au:(((nA vy:Nat):Int)==((nA vx:Nat):Int))=false:=by
       rw[beq_eq_false_iff_ne] at c⊢;omega
      have S:=Z c;clear c
      go_wp2_with fail
      go_region_held3(λw'=>w'.cell? ⟨Q,R+j,none⟩=some (.int .i64 vx)/\w'.cell? ⟨Q,R+(j+1),none⟩=some (.int .i64 vy))
       (first
         |exact⟨L,O⟩
         |go_keep)
       (first
         |(go_at_call 113
           refine(ac.o _ _ ?_).mono ?_
           ·first|exact .inl rfl|exact .inr rfl
           rintro e w5 ⟨rfl,rfl⟩)
         |fail)
      go_wp2_with fail
      go_roundw
      case rel=>exact⟨j+1,by omega,by go_num,aq.o _ ⟨rfl,rfl,rfl,rfl⟩ S.o⟩
      case measure=>simp[intOf];omega
   have hle:¬((j:Int)+1<d):=by omega
   have t:=Mg (s:=s) (k:=j+1) (by rw[D.o];omega) (by omega);rw[Nat.add_sub_cancel,Y.o] at t
   go_wp2_with fail
   go_ret2
   rw[<-HR.o,t];exact⟨(G,d,z),by rw[ad.o];exact rfl,B1.o.trans (f.o.bel _),f.o.own O1.o⟩
structure St where
 cl:List (List Int)
 wat:List (List Int)
 val:List Int
 lvl:List Int
 rsn:List Int
 trail:List Int
 done:Nat
structure Cn where
 hp:Value
 ph:Value
 sn:Value
 lv:Hd
 pr:Value
 bm:Value
structure Ly where
 vb:Nat
 cpv:Nat
 lb:Nat
 cpl:Nat
 rb:Nat
 cpr:Nat
 wb:Nat
 cpw:Nat
 cv:Value
 ch:List Hd
 hw:List Hd
 tv:Value
def nh:Hd:=(none,0,0)
structure OT {α:Type} (L:Lay α) (e:TypeId) (w:World) (B:Nat) (tg:Nat->Nat) (T:Nat) (v:Value) (xs:List α):Prop where
 own:L.Own e w B v xs
 tag:∀i,v.ownBlock=some i->tg i=T
structure Mv (w w':World) (tg tg':Nat->Nat) (X:Nat):Prop where
 size:w.heap.size<=w'.heap.size
 heap:∀i,tg i≠0->tg i≠X->w'.heap[i]? =w.heap[i]?
 ext:∀i,tg i≠0->tg' i=tg i
theorem OT.go{α L e w w' B tg tg' T X v}{xs:List α}(h:OT L e w B tg T v xs)(hm:Mv w w' tg tg' X)(hT:T≠0)(hX:T≠X):OT L e w' B tg' T v xs:=⟨dA h.own λk hk=>hm.heap k (by rw[h.tag k hk];exact hT) (by rw[h.tag k hk];exact hX),λi hi=>by rw[hm.ext i (by rw[h.tag i hi];exact hT)];exact h.tag i hi⟩
theorem cN.same{w w' g vs}(h:cN w g vs)(hz:w.heap.size<=w'.heap.size)(he:w'.heap[g]? =w.heap[g]?):cN w' g vs:=⟨A8 h.lt hz,λi v e=>⟨(Ah (a:=⟨g,i,none⟩) he).trans (h.at_ i v e).1,(World.frozen?_of_block (a:=⟨g,i,none⟩) he).trans (h.at_ i v e).2⟩⟩
def stV(k:Cn)(N:Nat)(s:St)(y:Ly):=[k.hp,y.cv,.slice (some ⟨y.wb,0,none⟩) (2*N) y.cpw,.slice (some ⟨y.vb,0,none⟩) N y.cpv,k.ph,.slice (some ⟨y.lb,0,none⟩) N y.cpl,.slice (some ⟨y.rb,0,none⟩) N y.cpr,k.sn,y.tv,.int .i64 s.done,hdV k.lv,k.pr,k.bm]
structure SM (w:World) (B sb:Nat) (k:Cn) (N:Nat) (s:St) (y:Ly) (tg:Nat->Nat):Prop where
 lo:∀i,tg i≠0->B<=i/\i<w.heap.size
 st:cN w sb (stV k N s y)
 tst:tg sb=1
 oc:OT Lay.sl 23 w B tg 2 y.cv y.ch
 chl:y.ch.length=s.cl.length
 ca:∀i,i<s.cl.length->OT (Lay.int .i64) 3 w B tg (12+2*i) (hdV (y.ch.getD i nh)) (s.cl.getD i [])
 ow:OT Lay.sl 23 w B tg 3 (.slice (some ⟨y.wb,0,none⟩) (2*N) y.cpw) y.hw
 hwl:y.hw.length=2*N
 wl:s.wat.length=2*N
 wa:∀j,j<2*N->OT (Lay.int .i64) 3 w B tg (13+2*j) (hdV (y.hw.getD j nh)) (s.wat.getD j [])
 ov:OT (Lay.int .i8) 142 w B tg 4 (.slice (some ⟨y.vb,0,none⟩) N y.cpv) s.val
 vl:s.val.length=N
 ol:OT (Lay.int .i64) 3 w B tg 6 (.slice (some ⟨y.lb,0,none⟩) N y.cpl) s.lvl
 ll:s.lvl.length=N
 orr:OT (Lay.int .i64) 3 w B tg 7 (.slice (some ⟨y.rb,0,none⟩) N y.cpr) s.rsn
 rl:s.rsn.length=N
 ot:OT (Lay.int .i64) 3 w B tg 9 y.tv s.trail
section
variable {w w':World} {B sb:Nat} {k:Cn} {N:Nat} {s:St} {y:Ly} {tg tg':Nat->Nat}
theorem SM.keep(h:SM w B sb k N s y tg)(c:w.heap.size<=w'.heap.size)(d:∀i,tg i≠0->w'.heap[i]? =w.heap[i]?):SM w' B sb k N s y tg:=by have m:Mv w w' tg tg 0:=⟨c,λi f _=>d i f,λ _ _=>rfl⟩;exact⟨λi a=>⟨(h.lo i a).1,A8 (h.lo i a).2 c⟩,h.st.same c (d _ (by rw[h.tst];decide)),h.tst,h.oc.go m (by decide) (by decide),h.chl,λi a=>(h.ca i a).go m (by omega) (by omega),h.ow.go m (by decide) (by decide),h.hwl,h.wl,λj g=>(h.wa j g).go m (by omega) (by omega),h.ov.go m (by decide) (by decide),h.vl,h.ol.go m (by decide) (by decide),h.ll,h.orr.go m (by decide) (by decide),h.rl,h.ot.go m (by decide) (by decide)⟩
def SM.keepB(h:SM w B sb k N s y tg){b:Nat}(hb:Below b w w')(hl:∀i,tg i≠0->i<b):=h.keep hb.size λi hi=>hb.block i (hl i hi)
def SM.below(h:SM w B sb k N s y tg)(hb:Below w.heap.size w w'):=h.keepB hb λi hi=>(h.lo i hi).2
theorem SM.drew(h:SM w B sb k N s y tg):SM w.drew B sb k N s y tg:=h.keep (A1 _) λ _ _=>rfl
def SM.alloc(h:SM w B sb k N s y tg)(o:Obj):=h.below ((A4 _ _).alloc (A1 _) o)
theorem Mv.put{X g j u}(c:tg g=X):Mv w (w.setCell ⟨g,j,none⟩ u) tg tg X:=by refine⟨by simp,λi _ a=>Aa _ _ _ i λe=>a ?_,λ _ _=>rfl⟩;have e:i=g:=e;rw[e,c]
theorem SM.los(h:SM w B sb k N s y tg) a u:∀i,tg i≠0->B<=i/\i<(w.setCell a u).heap.size:=λi hi=>by have:=h.lo i hi;simpa using this
theorem SM.setVal(h:SM w B sb k N s y tg) v x:SM (w.setCell ⟨y.vb,v,none⟩ (.int .i8 x)) B sb k N {s with val:=s.val.set v x} y tg:=by have a:tg y.vb=4:=h.ov.tag _ rfl;have m:Mv w (w.setCell ⟨y.vb,v,none⟩ (.int .i8 x)) tg tg 4:=Mv.put a;exact⟨h.los _ _,h.st.same m.size (m.heap _ (by rw[h.tst];decide) (by rw[h.tst];decide)),h.tst,h.oc.go m (by decide) (by decide),h.chl,λi c=>(h.ca i c).go m (by omega) (by omega),h.ow.go m (by decide) (by decide),h.hwl,h.wl,λj d=>(h.wa j d).go m (by omega) (by omega),⟨(Lay.Own.put1 rfl h.ov.own h.vl rfl v).1,h.ov.tag⟩,by simp[h.vl],h.ol.go m (by decide) (by decide),h.ll,h.orr.go m (by decide) (by decide),h.rl,h.ot.go m (by decide) (by decide)⟩
theorem SM.setLvl(h:SM w B sb k N s y tg) v x:SM (w.setCell ⟨y.lb,v,none⟩ (.int .i64 x)) B sb k N {s with lvl:=s.lvl.set v x} y tg:=by have a:tg y.lb=6:=h.ol.tag _ rfl;have m:Mv w (w.setCell ⟨y.lb,v,none⟩ (.int .i64 x)) tg tg 6:=Mv.put a;exact⟨h.los _ _,h.st.same m.size (m.heap _ (by rw[h.tst];decide) (by rw[h.tst];decide)),h.tst,h.oc.go m (by decide) (by decide),h.chl,λi c=>(h.ca i c).go m (by omega) (by omega),h.ow.go m (by decide) (by decide),h.hwl,h.wl,λj d=>(h.wa j d).go m (by omega) (by omega),h.ov.go m (by decide) (by decide),h.vl,⟨(Lay.Own.put1 rfl h.ol.own h.ll rfl v).1,h.ol.tag⟩,by simp[h.ll],h.orr.go m (by decide) (by decide),h.rl,h.ot.go m (by decide) (by decide)⟩
theorem SM.setRsn(h:SM w B sb k N s y tg) v x:SM (w.setCell ⟨y.rb,v,none⟩ (.int .i64 x)) B sb k N {s with rsn:=s.rsn.set v x} y tg:=by have a:tg y.rb=7:=h.orr.tag _ rfl;have m:Mv w (w.setCell ⟨y.rb,v,none⟩ (.int .i64 x)) tg tg 7:=Mv.put a;exact⟨h.los _ _,h.st.same m.size (m.heap _ (by rw[h.tst];decide) (by rw[h.tst];decide)),h.tst,h.oc.go m (by decide) (by decide),h.chl,λi c=>(h.ca i c).go m (by omega) (by omega),h.ow.go m (by decide) (by decide),h.hwl,h.wl,λj d=>(h.wa j d).go m (by omega) (by omega),h.ov.go m (by decide) (by decide),h.vl,h.ol.go m (by decide) (by decide),h.ll,⟨(Lay.Own.put1 rfl h.orr.own h.rl rfl v).1,h.orr.tag⟩,by simp[h.rl],h.ot.go m (by decide) (by decide)⟩
theorem SM.setDone(h:SM w B sb k N s y tg)(d:Nat):SM (w.setCell ⟨sb,9,none⟩ (.int .i64 d)) B sb k N {s with done:=d} y tg:=by have m:Mv w (w.setCell ⟨sb,9,none⟩ (.int .i64 d)) tg tg 1:=Mv.put h.tst;exact⟨h.los _ _,h.st.set (k:=9) (by simp[stV]) _,h.tst,h.oc.go m (by decide) (by decide),h.chl,λi a=>(h.ca i a).go m (by omega) (by omega),h.ow.go m (by decide) (by decide),h.hwl,h.wl,λj c=>(h.wa j c).go m (by omega) (by omega),h.ov.go m (by decide) (by decide),h.vl,h.ol.go m (by decide) (by decide),h.ll,h.orr.go m (by decide) (by decide),h.rl,h.ot.go m (by decide) (by decide)⟩
theorem SM.setCl(h:SM w B sb k N s y tg){i g j n c}(r:i<s.cl.length)(l:y.ch.getD i nh=(some ⟨g,0,none⟩,n,c))(D:(s.cl.getD i []).length=n) x:SM (w.setCell ⟨g,j,none⟩ (.int .i64 x)) B sb k N {s with cl:=s.cl.set i ((s.cl.getD i []).set j x)} y tg:=by have d:=h.ca i r;rw[l] at d;have t:tg g=12+2*i:=d.tag _ rfl;have m:Mv w (w.setCell ⟨g,j,none⟩ (.int .i64 x)) tg tg (12+2*i):=Mv.put t;refine⟨h.los _ _,h.st.same m.size (m.heap _ (by rw[h.tst];decide) (by rw[h.tst];omega)),h.tst,h.oc.go m (by decide) (by omega),by simp[h.chl],λa z=> ?_,h.ow.go m (by decide) (by omega),h.hwl,h.wl,λj A=>(h.wa j A).go m (by omega) (by omega),h.ov.go m (by decide) (by omega),h.vl,h.ol.go m (by decide) (by omega),h.ll,h.orr.go m (by decide) (by omega),h.rl,h.ot.go m (by decide) (by omega)⟩;by_cases e:a=i;{subst e;have f:(s.cl.set a ((s.cl.getD a []).set j x)).getD a []=(s.cl.getD a []).set j x:=by{simp[List.getD_eq_getElem?_getD,r]};show OT _ _ _ _ _ _ _ ((s.cl.set a ((s.cl.getD a []).set j x)).getD a []);rw[f,l];exact⟨(Lay.Own.put1 rfl d.own D rfl j).1,d.tag⟩};have f:(s.cl.set i ((s.cl.getD i []).set j x)).getD a []=s.cl.getD a []:=by{simp[List.getD_eq_getElem?_getD,List.getElem?_set_ne (Ne.symm e)]};show OT _ _ _ _ _ _ _ ((s.cl.set i ((s.cl.getD i []).set j x)).getD a []);rw[f];exact(h.ca a (by simpa using z)).go m (by omega) (by omega)
theorem SM.setWl(h:SM w B sb k N s y tg){i g j n c}(d:i<2*N)(r:y.hw.getD i nh=(some ⟨g,0,none⟩,n,c))(A:(s.wat.getD i []).length=n) x:SM (w.setCell ⟨g,j,none⟩ (.int .i64 x)) B sb k N {s with wat:=s.wat.set i ((s.wat.getD i []).set j x)} y tg:=by have f:=h.wa i d;rw[r] at f;have t:tg g=13+2*i:=f.tag _ rfl;have m:Mv w (w.setCell ⟨g,j,none⟩ (.int .i64 x)) tg tg (13+2*i):=Mv.put t;refine⟨h.los _ _,h.st.same m.size (m.heap _ (by rw[h.tst];decide) (by rw[h.tst];omega)),h.tst,h.oc.go m (by decide) (by omega),h.chl,λi d=>(h.ca i d).go m (by omega) (by omega),h.ow.go m (by decide) (by omega),h.hwl,by simp[h.wl],λa z=> ?_,h.ov.go m (by decide) (by omega),h.vl,h.ol.go m (by decide) (by omega),h.ll,h.orr.go m (by decide) (by omega),h.rl,h.ot.go m (by decide) (by omega)⟩;have D:=h.wl;by_cases e:a=i;{subst e;have l:(s.wat.set a ((s.wat.getD a []).set j x)).getD a []=(s.wat.getD a []).set j x:=by{simp[List.getD_eq_getElem?_getD,D,d]};show OT _ _ _ _ _ _ _ ((s.wat.set a ((s.wat.getD a []).set j x)).getD a []);rw[l,r];exact⟨(Lay.Own.put1 rfl f.own A rfl j).1,f.tag⟩};have l:(s.wat.set i ((s.wat.getD i []).set j x)).getD a []=s.wat.getD a []:=by{simp[List.getD_eq_getElem?_getD,List.getElem?_set_ne (Ne.symm e)]};show OT _ _ _ _ _ _ _ ((s.wat.set i ((s.wat.getD i []).set j x)).getD a []);rw[l];exact(h.wa a z).go m (by omega) (by omega)
theorem SM.setHd(h:SM w B sb k N s y tg){i}(c:i<2*N) hd xs(n:OT (Lay.int .i64) 3 w B tg (13+2*i) (hdV hd) xs):SM (w.setCell ⟨y.wb,i,none⟩ (hdV hd)) B sb k N {s with wat:=s.wat.set i xs} {y with hw:=y.hw.set i hd} tg:=by have g:tg y.wb=3:=h.ow.tag _ rfl;have m:Mv w (w.setCell ⟨y.wb,i,none⟩ (hdV hd)) tg tg 3:=Mv.put g;refine⟨h.los _ _,h.st.same m.size (m.heap _ (by rw[h.tst];decide) (by rw[h.tst];omega)),h.tst,h.oc.go m (by decide) (by omega),h.chl,λi c=>(h.ca i c).go m (by omega) (by omega),⟨(Lay.Own.put1 (L:=Lay.sl) (x:=hd) rfl h.ow.own h.hwl rfl i).1,h.ow.tag⟩,by simp[h.hwl],by simp[h.wl],λa l=> ?_,h.ov.go m (by decide) (by omega),h.vl,h.ol.go m (by decide) (by omega),h.ll,h.orr.go m (by decide) (by omega),h.rl,h.ot.go m (by decide) (by omega)⟩;have r:=h.wl;have j:=h.hwl;by_cases e:a=i;{subst e;have d:(s.wat.set a xs).getD a []=xs:=by{simp[List.getD_eq_getElem?_getD,r,c]};have f:(y.hw.set a hd).getD a nh=hd:=by{simp[List.getD_eq_getElem?_getD,j,c]};show OT _ _ _ _ _ _ (hdV ((y.hw.set a hd).getD a nh)) ((s.wat.set a xs).getD a []);rw[d,f];exact n.go m (by omega) (by omega)};have d:(s.wat.set i xs).getD a []=s.wat.getD a []:=by{simp[List.getD_eq_getElem?_getD,List.getElem?_set_ne (Ne.symm e)]};have f:(y.hw.set i hd).getD a nh=y.hw.getD a nh:=by{simp[List.getD_eq_getElem?_getD,List.getElem?_set_ne (Ne.symm e)]};show OT _ _ _ _ _ _ (hdV ((y.hw.set i hd).getD a nh)) ((s.wat.set i xs).getD a []);rw[d,f];exact(h.wa a l).go m (by omega) (by omega)
theorem SM.retag(h:SM w B sb k N s y tg)(a:∀i,tg i≠0->tg' i=tg i)(f:∀i,tg' i≠0->B<=i/\i<w.heap.size):SM w B sb k N s y tg':=by have m:Mv w w tg tg' 0:=⟨A1 _,λ _ _ _=>rfl,a⟩;exact⟨f,h.st,by rw[a _ (by rw[h.tst];decide)];exact h.tst,h.oc.go m (by decide) (by decide),h.chl,λi c=>(h.ca i c).go m (by omega) (by omega),h.ow.go m (by decide) (by decide),h.hwl,h.wl,λj d=>(h.wa j d).go m (by omega) (by omega),h.ov.go m (by decide) (by decide),h.vl,h.ol.go m (by decide) (by decide),h.ll,h.orr.go m (by decide) (by decide),h.rl,h.ot.go m (by decide) (by decide)⟩
theorem OT.grow{α L e T v d}{xs zs:List α}(h:OT L e w B tg T v xs)(hT:T≠0)(c:∀i,tg i≠0->B<=i/\i<w.heap.size)(g:L.Own e w' B d zs)(f:w.grownBy w' v.ownBlock) (t:d.ownBlock=v.ownBlock\/d.ownBlock=some w.heap.size):∃tg',Mv w w' tg tg' T/\OT L e w' B tg' T d zs/\∀i,tg' i≠0->B<=i/\i<w'.heap.size:=by have l:∀i,tg i≠0->tg i≠T->w'.heap[i]? =w.heap[i]? :=λi n r=>f.block i (c i n).2 λe=>r (h.tag i e.symm);by_cases e:d.ownBlock=v.ownBlock;{exact⟨tg,⟨f.size,l,λ _ _=>rfl⟩,⟨g,λi a=>h.tag i (by rw[<-e];exact a)⟩,λi a=>⟨(c i a).1,A8 (c i a).2 f.size⟩⟩};have j:d.ownBlock=some w.heap.size:=t.resolve_left e;refine⟨λi=>if i=w.heap.size then T else tg i,⟨f.size,l,λi a=>if_neg (by have:=(c i a).2;omega)⟩,⟨g,λi a=> ?_⟩,λi a=> ?_⟩;{rw[j] at a;injection a with a;exact if_pos a.symm};by_cases e3:i=w.heap.size;{rw[e3];exact g.lt _ j};have:tg i≠0:=by{simpa[e3] using a};exact⟨(c i this).1,A8 (c i this).2 f.size⟩
theorem SM.pushTrail(h:SM w B sb k N s y tg){c a}(z:(Lay.int .i64).Own 3 w' B c (s.trail++[a]))(l:w.grownBy w' y.tv.ownBlock)(g:c.ownBlock=y.tv.ownBlock\/c.ownBlock=some w.heap.size):∃tg',SM (w'.setCell ⟨sb,8,none⟩ c) B sb k N {s with trail:=s.trail++[a]} {y with tv:=c} tg'/\Mv w w' tg tg' 9:=by obtain⟨tg',m,t,r⟩:=h.ot.grow (by decide) h.lo z l g;have f:tg' sb=1:=by{rw[m.ext _ (by rw[h.tst];decide)];exact h.tst};have m2:Mv w' (w'.setCell ⟨sb,8,none⟩ c) tg' tg' 1:=Mv.put f;exact⟨tg',⟨λi d=>by simpa using r i d,(h.st.same m.size (m.heap _ (by rw[h.tst];decide) (by rw[h.tst];decide))).set (k:=8) (by simp[stV]) _,f,(h.oc.go m (by decide) (by decide)).go m2 (by decide) (by decide),h.chl,λi d=>((h.ca i d).go m (by omega) (by omega)).go m2 (by omega) (by omega),(h.ow.go m (by decide) (by decide)).go m2 (by decide) (by decide),h.hwl,h.wl,λj n=>((h.wa j n).go m (by omega) (by omega)).go m2 (by omega) (by omega),(h.ov.go m (by decide) (by decide)).go m2 (by decide) (by decide),h.vl,(h.ol.go m (by decide) (by decide)).go m2 (by decide) (by decide),h.ll,(h.orr.go m (by decide) (by decide)).go m2 (by decide) (by decide),h.rl,t.go m2 (by decide) (by decide)⟩,m⟩
theorem SM.pushCl(h:SM w B sb k N s y tg){a hd c}(hc:OT (Lay.int .i64) 3 w B tg (12+2*s.cl.length) (hdV hd) c)(F:Lay.sl.Own 23 w' B a (y.ch++[hd]))(z:w.grownBy w' y.cv.ownBlock)(r:a.ownBlock=y.cv.ownBlock\/a.ownBlock=some w.heap.size):∃tg',SM (w'.setCell ⟨sb,1,none⟩ a) B sb k N {s with cl:=s.cl++[c]} {y with cv:=a,ch:=y.ch++[hd]} tg'/\Mv w w' tg tg' 2:=by obtain⟨tg',m,E,D⟩:=h.oc.grow (by decide) h.lo F z r;have n:tg' sb=1:=by{rw[m.ext _ (by rw[h.tst];decide)];exact h.tst};have m2:Mv w' (w'.setCell ⟨sb,1,none⟩ a) tg' tg' 1:=Mv.put n;refine⟨tg',⟨λi g=>by simpa using D i g,(h.st.same m.size (m.heap _ (by rw[h.tst];decide) (by rw[h.tst];decide))).set (k:=1) (by simp[stV]) _,n,E.go m2 (by decide) (by decide),by simp[h.chl],λi g=> ?_,(h.ow.go m (by decide) (by decide)).go m2 (by decide) (by decide),h.hwl,h.wl,λj A=>((h.wa j A).go m (by omega) (by omega)).go m2 (by omega) (by omega),(h.ov.go m (by decide) (by decide)).go m2 (by decide) (by decide),h.vl,(h.ol.go m (by decide) (by decide)).go m2 (by decide) (by decide),h.ll,(h.orr.go m (by decide) (by decide)).go m2 (by decide) (by decide),h.rl,(h.ot.go m (by decide) (by decide)).go m2 (by decide) (by decide)⟩,m⟩;have t:=h.chl;have hi2:i<s.cl.length+1:=by{simpa using g};by_cases e:i=s.cl.length;{subst e;have d:(s.cl++[c]).getD s.cl.length []=c:=by{simp[List.getD_eq_getElem?_getD]};have f:(y.ch++[hd]).getD s.cl.length nh=hd:=by{simp[List.getD_eq_getElem?_getD,<-t]};show OT _ _ _ _ _ _ (hdV ((y.ch++[hd]).getD s.cl.length nh)) ((s.cl++[c]).getD s.cl.length []);rw[d,f];exact(hc.go m (by omega) (by omega)).go m2 (by omega) (by omega)};have l:i<s.cl.length:=by{omega};have d:(s.cl++[c]).getD i []=s.cl.getD i []:=by{simp[List.getD_eq_getElem?_getD,List.getElem?_append_left l]};have f:(y.ch++[hd]).getD i nh=y.ch.getD i nh:=by{simp[List.getD_eq_getElem?_getD,List.getElem?_append_left (show i<y.ch.length by omega)]};show OT _ _ _ _ _ _ (hdV ((y.ch++[hd]).getD i nh)) ((s.cl++[c]).getD i []);rw[d,f];exact((h.ca i l).go m (by omega) (by omega)).go m2 (by omega) (by omega)
theorem SM.pushWl(h:SM w B sb k N s y tg){j}(D:j<2*N){hd x}(G:(Lay.int .i64).Own 3 w' B (hdV hd) (s.wat.getD j []++[x]))(t:w.grownBy w' (hdV (y.hw.getD j nh)).ownBlock)(r:(hdV hd).ownBlock=(hdV (y.hw.getD j nh)).ownBlock\/(hdV hd).ownBlock=some w.heap.size):∃tg',SM (w'.setCell ⟨y.wb,j,none⟩ (hdV hd)) B sb k N {s with wat:=s.wat.set j (s.wat.getD j []++[x])} {y with hw:=y.hw.set j hd} tg'/\Mv w w' tg tg' (13+2*j):=by obtain⟨tg',m,F,E⟩:=(h.wa j D).grow (by omega) h.lo G t r;have n:tg' sb=1:=by{rw[m.ext _ (by rw[h.tst];decide)];exact h.tst};have l:=h.ow.go m (by decide) (by omega);have z:tg' y.wb=3:=l.tag _ rfl;have m2:Mv w' (w'.setCell ⟨y.wb,j,none⟩ (hdV hd)) tg' tg' 3:=Mv.put z;refine⟨tg',⟨λi f=>by simpa using E i f,(h.st.same m.size (m.heap _ (by rw[h.tst];decide) (by rw[h.tst];omega))).same m2.size (m2.heap _ (by rw[n];decide) (by rw[n];decide)),n,(h.oc.go m (by decide) (by omega)).go m2 (by decide) (by decide),h.chl,λi f=>((h.ca i f).go m (by omega) (by omega)).go m2 (by omega) (by omega),⟨(Lay.Own.put1 (L:=Lay.sl) (x:=hd) rfl l.own h.hwl rfl j).1,l.tag⟩,by simp[h.hwl],by simp[h.wl],λa g=> ?_,(h.ov.go m (by decide) (by omega)).go m2 (by decide) (by decide),h.vl,(h.ol.go m (by decide) (by omega)).go m2 (by decide) (by decide),h.ll,(h.orr.go m (by decide) (by omega)).go m2 (by decide) (by decide),h.rl,(h.ot.go m (by decide) (by omega)).go m2 (by decide) (by decide)⟩,m⟩;have H:=h.wl;have A:=h.hwl;by_cases e:a=j;{subst e;have c:(s.wat.set a (s.wat.getD a []++[x])).getD a []=s.wat.getD a []++[x]:=by{simp[List.getD_eq_getElem?_getD,H,g]};have d:(y.hw.set a hd).getD a nh=hd:=by{simp[List.getD_eq_getElem?_getD,A,g]};show OT _ _ _ _ _ _ (hdV ((y.hw.set a hd).getD a nh)) ((s.wat.set a (s.wat.getD a []++[x])).getD a []);rw[c,d];exact F.go m2 (by omega) (by omega)};have c:(s.wat.set j (s.wat.getD j []++[x])).getD a []=s.wat.getD a []:=by{simp[List.getD_eq_getElem?_getD,List.getElem?_set_ne (Ne.symm e)]};have d:(y.hw.set j hd).getD a nh=y.hw.getD a nh:=by{simp[List.getD_eq_getElem?_getD,List.getElem?_set_ne (Ne.symm e)]};show OT _ _ _ _ _ _ (hdV ((y.hw.set j hd).getD a nh)) ((s.wat.set j (s.wat.getD j []++[x])).getD a []);rw[c,d];exact((h.wa a g).go m (by omega) (by omega)).go m2 (by omega) (by omega)
end
