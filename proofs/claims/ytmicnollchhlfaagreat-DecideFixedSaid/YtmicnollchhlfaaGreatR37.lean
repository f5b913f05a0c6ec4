/- Walks: lit: sorted, any clause. -/
import Derived.Test.YtmicnollchhlfaaGreatR36
set_option linter.all false
namespace Go.Proofs.YtmicnollchhlfaaGreat
open Go.RowKit Go.Shelf
def qM:Value->Nat| .slice _ n _=>n|_=>0
theorem qN k a b(h:a=[]\/b=[]):mrg k a b=a++b:=by rcases h with rfl|rfl;{cases k<;>rfl};cases k<;>cases a<;>rfl
theorem xg:∀n n' a b,a.length+b.length<=n->a.length+b.length<=n'->mrg n a b=mrg n' a b|n,n',[],b,_,_=>by rw[qN n [] b (.inl rfl),qN n' [] b (.inl rfl)]|n,n',x::a,[],_,_=>by rw[qN n _ [] (.inr rfl),qN n' _ [] (.inr rfl)]|0,n',x::a,y::b,h,_=>by simp at h|n+1,0,x::a,y::b,_,h=>by simp at h|n+1,n'+1,x::a,y::b,h,h'=>by simp only[Af] at h h';have h1:=xg n n' a (y::b) (by simp;omega) (by simp;omega);have h2:=xg n n' (x::a) b (by simp;omega) (by simp;omega);simp only[mrg,h1,h2]
theorem Mc x y a b:mrg ((x::a).length+(y::b).length) (x::a) (y::b)=if eI x y then x::mrg (a.length+(y::b).length) a (y::b) else if eI y x then y::mrg ((x::a).length+b.length) (x::a) b else mrg (a.length+(y::b).length) a (y::b):=by rw[show(x::a).length+(y::b).length=(a.length+(y::b).length)+1 by simp;omega];have e:a.length+(y::b).length=(x::a).length+b.length:=by{simp;omega};show(if eI x y=true then _ else if eI y x=true then y::mrg (a.length+(y::b).length) (x::a) b else _)=_;rw[e]
def MgI(W:World)(G:Nat)(tot:List Int)(ra rb rv:Value)(wr:World):=∃a b out aa ba ac bc,ra= .slice aa a.length ac/\rb= .slice ba b.length bc/\(aa=none->ac=0)/\(ba=none->bc=0)/\a.length<=ac/\b.length<=bc/\(Lay.int .i64).At 0 wr aa a/\(Lay.int .i64).At 0 wr ba b/\(∀ad,aa=some ad->ad.block<G)/\(∀ad,ba=some ad->ad.block<G)/\(Lay.int .i64).Own 3 wr G rv out/\out++mrg (a.length+b.length) a b=tot/\(∀x∈a,-1000000000<=x/\x<=1000000000)/\(∀x∈b,-1000000000<=x/\x<=1000000000)/\out.length+(a.length+b.length)<=1000/\Below W.heap.size W wr/\G<=wr.heap.size
def SW(w W:World):=W.heap=w.heap/\W.os=w.os/\W.tape=w.tape/\W.output=w.output
theorem SW.bel{w W}(h:SW w W) k:Below k w W:=⟨h.2.1,h.2.2.1,h.2.2.2,by rw[h.1];exact A1 _,λi _=>by rw[h.1]⟩
def SW.at_{w W:World}(h:SW w W){a:Option Addr}{xs:List Int}(hat:(Lay.int .i64).At 0 w a xs):=hat.below (h.bel _)
def SW.own{w W:World}(h:SW w W){G:Nat}{v:Value}{xs:List Int}(ho:(Lay.int .i64).Own 3 w G v xs):=dA ho λk _=>by rw[h.1]
theorem SW.grown{w V w4 r}(s:SW w V)(q:V.grownBy w4 r):w.grownBy w4 r:=⟨q.os.trans s.2.1,q.tape.trans s.2.2.1,q.output.trans s.2.2.2,by rw[<-s.1];exact q.size,λi hi hn=>by rw[<-s.1] at hi⊢;exact q.block i hi hn⟩
theorem MgI.sw{c G g d f rv w W}(h:MgI c G g d f rv w)(s:SW w W):MgI c G g d f rv W:=by obtain⟨a,b,J,j,l,k,n,D,E,F,H,c1,r,z,A,L,N,K,t,O,P,le,bel,B⟩:=h;exact⟨a,b,J,j,l,k,n,D,E,F,H,c1,r,s.at_ z,s.at_ A,L,N,s.own K,t,O,P,le,bel.trans (s.bel _),by rw[s.1];exact B⟩
theorem CR{ac n A B}(h:ac=1):Value.slice A n 0= .slice (if ac=1 then A else B) n (ac-1):=by subst h;rfl
theorem CS{ac n A B}(h:¬ac=1):Value.slice B n (ac-1)= .slice (if ac=1 then A else B) n (ac-1):=by rw[if_neg h]
set_option maxRecDepth 100000 in
set_option maxHeartbeats 8000000 in
theorem Me:∀n w l {m cap} {a},l.length=m->m<=n+1->m<=400->m<=cap->(Lay.int .i64).At 0 w a l->(a=none->cap=0)->(∀x∈l,-1000000000<=x/\x<=1000000000)->
  Calls Tryz.prog 114 #[.slice a m cap,.func (.func 115) #[] #[]] w (nX w (eO n l)):=by
 intro n
 induction n with
 |zero=>
  intro w l m cap a hm hn h4 hc af ay hb;exact CQ w l hm (by omega) af ay _
 |succ n ih=>
  intro w l m cap a hm hn h4 hc af ay hb;by_cases h2:m<2
  ·have e:eO (n+1) l=l:=if_pos (by omega);rw[e];exact CQ w l hm h2 af ay _
  have e:eO (n+1) l=mrg l.length (eO n (l.take (m/2))) (eO n (l.drop (m/2))):=by rw[<-hm];exact if_neg (by omega)
  rw[e];clear e;obtain⟨pb,po,rfl,hpb,_⟩:=af.int (i:=0) (by omega);have aI:=Z λ(f:World) (h:(Lay.int .i64).At 0 f (some ⟨pb,po,none⟩) l)=>ih f (l.take (m/2)) (m:=m/2) (cap:=m/2) (a:=some ⟨pb,po,none⟩) (by rw[Ae];omega) (by omega) (by omega) (A1 _) (h.take _) (λe=>by cases e) (λx hx=>hb x (List.mem_of_mem_take hx))
  have aJ:=Z λ(f:World) (h:(Lay.int .i64).At 0 f (some ⟨pb,po,none⟩) l)=>ih f (l.drop (m/2)) (m:=m-m/2) (cap:=cap-m/2) (a:=some ⟨pb,po+m/2,none⟩) (by rw[Aw];omega) (by omega) (by omega) (by omega) (by simpa[Lay.int] using h.drop (m/2)) (λe=>by cases e) (λx hx=>hb x (List.mem_of_mem_drop hx))
  have l1:=lw n (l.take (m/2));have l2:=lw n (l.drop (m/2));rw[Ae] at l1;rw[Aw] at l2;have H:∀x∈eO n (l.take (m/2)),-1000000000<=x/\x<=1000000000:=λx hx=>hb x (List.mem_of_mem_take ((lx _ _ _).1 hx))
  have K:∀x∈eO n (l.drop (m/2)),-1000000000<=x/\x<=1000000000:=λx hx=>hb x (List.mem_of_mem_drop ((lx _ _ _).1 hx))
  have a6:=Z l1;have aK:=Z l2;have aY:=Z H;have am:=Z K;have aX:=Z af;have HI:Hid (∀(W:World) (t:Bool) (x:Value),x=(bif t then .slice (some ⟨pb,po,none⟩) (m/2) (m/2) else .slice (some ⟨pb,po+m/2,none⟩) (m-m/2) (cap-m/2))->Below w.heap.size w W->Calls Tryz.prog 114 #[x,.func (.func 115) #[] #[]] W (CP W (bif t then eO n (l.take (m/2)) else eO n (l.drop (m/2))))):=Z λW t x hx hB=>by
   subst hx;cases t
   ·exact(aJ.o W (af.below hB)).mono λ _ _ h=>h.old
   exact(aI.o W (af.below hB)).mono λ _ _ h=>h.old
  have hmi:(m:Int)<=400:=by omega
  have hmi2:decide ((m:Int)<2)=false:=decide_eq_false (by omega);have hhm:m/2<=m:=by omega
  have hmc:(m:Int)<=cap:=by omega
  have hh1:(m:Int)/2<=m:=by omega
  have hh2:(0:Int)<=(m:Int)/2:=by omega
  have hh3:(m:Int)/2<=cap:=by omega
  have hh4:m/2<=cap:=by omega
  have aL:=Z hm;rw[hm];clear ih af ay hb l1 l2 H K hn hm;generalize eO n (l.take (m/2))=O at*;generalize eO n (l.drop (m/2))=P at*;go_enter Tryz.func114,Tryz.ntmps114
  go_wp2_with fail
  have ar:Hid (Below w.heap.size w w.drew):=Z ⟨rfl,rfl,rfl,A1 _,λ _ _=>rfl⟩;clear aI aJ
  go_region_held3(λf=>Below w.heap.size w f)
   (first
     |exact ar.o
     |exact BF.o
     |exact B1.o
     |exact B2.o
     |go_keep)
   (first
     |(go_at_call 114
       refine(HI.o _ false _ ?_ ?_).mono ?_
       ·exact rfl
       ·exact B1.o
       rintro e r ⟨⟨ya,j,yc⟩,he,K,U,p2⟩;obtain rfl:e= .returned (.slice ya j yc):=he;have PY:j<=yc:=p2;have BF:Hid (Below w.heap.size w r):=Z (B1.o.trans (K.mono B1.o.size));have CA:Hid (CAt r (λk=>w.heap.size<=k/\k<r.heap.size) (xa,g,xc) O):=Z (C1.o.frame K.size (λk hk=>K.block k hk.2) λk hk=>⟨hk.1,A8 hk.2 K.size⟩);have CB:Hid (CAt r (λk=>w.heap.size<=k/\k<r.heap.size) (ya,j,yc) P):=Z (U.less λk hk=>⟨A9 B1.o.size hk.1,hk.2⟩);clear K U)
     |(go_at_call 114
       refine(HI.o _ true _ ?_ ?_).mono ?_
       ·exact rfl
       ·exact B2.o
       rintro e r ⟨⟨xa,g,xc⟩,he,K,U,p2⟩;obtain rfl:e= .returned (.slice xa g xc):=he;have PX:g<=xc:=p2;have BF:Hid (Below w.heap.size w r):=Z (B2.o.trans (K.mono B2.o.size));have CB:Hid (CAt r (λk=>w.heap.size<=k/\k<r.heap.size) (ya,j,yc) P):=Z (C2.o.frame K.size (λk hk=>K.block k hk.2) λk hk=>⟨hk.1,A8 hk.2 K.size⟩);have CA:Hid (CAt r (λk=>w.heap.size<=k/\k<r.heap.size) (xa,g,xc) O):=Z (U.less λk hk=>⟨A9 B2.o.size hk.1,hk.2⟩);clear K U)
     |(go_at_call 114
       refine(HI.o _ true _ ?_ ?_).mono ?_
       ·exact rfl
       ·exact ar.o
       rintro e w1 ⟨⟨xa,g,xc⟩,he,H,c1,p1⟩;obtain rfl:e= .returned (.slice xa g xc):=he;have PX:g<=xc:=p1;have B1:Hid (Below w.heap.size w w1):=Z ⟨H.os,H.tape,H.output,H.size,H.block⟩;have C1:Hid (CAt w1 (λk=>w.heap.size<=k/\k<w1.heap.size) (xa,g,xc) O):=Z c1;clear H c1)
     |(go_at_call 114
       refine(HI.o _ false _ ?_ ?_).mono ?_
       ·exact rfl
       ·exact ar.o
       rintro e w1 ⟨⟨ya,j,yc⟩,he,H,c1,p1⟩;obtain rfl:e= .returned (.slice ya j yc):=he;have PY:j<=yc:=p1;have B2:Hid (Below w.heap.size w w1):=Z ⟨H.os,H.tape,H.output,H.size,H.block⟩;have C2:Hid (CAt w1 (λk=>w.heap.size<=k/\k<w1.heap.size) (ya,j,yc) P):=Z c1;clear H c1)
     |fail)
  have aR:O.length=g:=CA.o.len.symm;have aT:P.length=j:=CB.o.len.symm;have aS:g<=400/\g+j<=m:=by have:=a6.o;have:=aK.o;have:=aL.o;omega
  obtain⟨aS,hxym⟩:=aS;have hym:j<=400:=by have:=aK.o;have:=aL.o;omega
  have hxi:(g:Int)<=400:=by omega
  have hyi:(j:Int)<=400:=by omega
  have hmk0:∀w:World,(Instr.makeSlice 23 (.int .i64 0) (.int .i64 ((g:Int)+(j:Int)))).run Tryz.prog w= .ok (.slice (some ⟨w.heap.size,0,none⟩) 0 (g+j)) (w.alloc (.cells ((Lay.int .i64).flat (List.replicate (g+j) 0)).toArray 3)):=λw=>by
   have:=Mb Tryz.elemI 0 rfl (g+j) (by omega) w;rwa[Int.natCast_add] at this
  clear HI ar aX;have aN:MgI w r.heap.size (mrg m O P) (.slice xa g xc) (.slice ya j yc) (.slice (some ⟨r.heap.size,0,none⟩) 0 (g+j)) (r.alloc (.cells ((Lay.int .i64).flat (List.replicate (g+j) 0)).toArray 3)):=by
   have aB:Below r.heap.size r (r.alloc (.cells ((Lay.int .i64).flat (List.replicate (g+j) 0)).toArray 3)):=cU (A4 _ _) _;refine⟨O,P,[],xa,ya,xc,yc,by rw[aR],by rw[aT],CA.o.non,CB.o.non,by rw[aR];exact PX,by rw[aT];exact PY,CA.o.at_.below aB,CB.o.at_.below aB,λD e=>(CA.o.blk D e).2,λD e=>(CB.o.blk D e).2,Lay.Own.made0 r 0 (g+j) _ (A1 _) (by omega),?_,aY.o,am.o,?_,BF.o.trans (aB.mono BF.o.size),by simp⟩
   ·rw[List.nil_append,xg _ m O P (A1 _) (by omega)]
   simp;omega
  have a7:=Z aN;clear aN
  go_wp2_with fail
  generalize r.alloc (.cells ((Lay.int .i64).flat (List.replicate (g+j) 0)).toArray 3)=w3 at*;have be:w.heap.size<=r.heap.size:=BF.o.size;generalize r.heap.size=G at*
  go_loopw [6,7,8] (λra rb rv wr=>Hid (MgI w G (mrg m O P) ra rb rv wr)) (λra rb _ _=>qM ra+qM rb)
  case atStart=>exact a7
  case round=>
   have hw:=hrel;clear hrel;obtain⟨a,b,ae,aa,ba,Q,T,rfl,rfl,n1,n2,c1,U,g1,g2,t1,t2,S,R,x1,x2,le,bel,gl⟩:=hw.o;generalize wr=wo at*;by_cases hab:a=[]\/b=[]
   ·have aQ:=qN (a.length+b.length) a b hab;rw[aQ] at R;have al:a.length<=1000:=by omega
    have ah:b.length<=1000:=by omega
    have hlo:ae.length+a.length+b.length<=1000:=by omega
    have hgw:=be;have a4:Hid (∀J c v5 Y,(Lay.int .i64).Own 3 c G J (ae++a)->wo.grownBy c u8.ownBlock->(Lay.int .i64).Own 3 Y G v5 (ae++a++b)->c.grownBy Y J.ownBlock->∃hd:Hd,v5= .slice hd.1 hd.2.1 hd.2.2/\nX w (mrg m O P) (.returned v5) Y):=Z λJ c v5 Y N q4 o5 q5=>by
     have aO:Below w.heap.size w c:=bel.grown q4 (by omega) λk hk=>by have:=(S.lt k hk).1;omega
     have bg:Below w.heap.size w Y:=aO.grown q5 (by have:=aO.size;omega) λk hk=>by have:=(N.lt k hk).1;omega
     obtain⟨hd,rfl,hcat⟩:=js o5;refine⟨hd,rfl,hd,rfl,bg,?_⟩;rw[<-R,<-AS];exact qL o5 (by omega)
    have a0:Hid (∀c,wo.grownBy c u8.ownBlock->(Lay.int .i64).At 0 c ba b):=Z λc q4=>At.frame g2 q4.size λD e=>q4.block _ (by have:=t2 D e;omega) λe2=>by have:=(S.lt _ e2.symm).1;have:=t2 D e;omega
    have au:=Z S;have a5:=Z g1;have a8:=Z n1;have a9:=Z n2;have aP:=gl;have dd:decide (0<a.length)=false\/(decide (0<a.length)=true/\decide (0<b.length)=false):=by
     rcases hab with rfl|rfl
     ·exact .inl rfl
     by_cases h:0<a.length
     ·exact .inr ⟨by simpa using h,rfl⟩
     exact .inl (by simpa using h)
    clear hw g1 g2 n1 n2 S R x1 x2 le bel t1 t2 aQ hab;generalize hna:a.length=na at*;generalize hnb:b.length=nb at*;have aM:=Z hna;have bd:=Z hnb;clear hna hnb;rcases dd with d1|⟨d1,d2⟩
    all_goals
     go_wp2_with(at_builtin;suffices hzz:id (wpList _ _ _ _ _ _) from hzz)
     show wpList _ _ _ _ _ _;refine gW (d:=0) Tryz.elemI rfl _ _ rfl rfl au.o rfl a8.o aM.o a5.o (by omega) aP ?_;intro J c N q4 _;have O4:=Z N;have Q4:=Z q4;have bi:G<=c.heap.size:=A9 aP q4.size;clear N q4
     go_wp2_with(at_builtin;suffices hzz:id (wpList _ _ _ _ _ _) from hzz)
     show wpList _ _ _ _ _ _;refine gW (d:=0) Tryz.elemI rfl _ _ rfl rfl O4.o rfl a9.o bd.o (a0.o _ Q4.o) (by rw[Aq,aM.o];omega) bi ?_;intro v5 Y o5 q5 _;obtain⟨hd,rfl,hp⟩:=a4.o _ _ _ _ O4.o Q4.o o5 q5;have HP:=Z hp;clear o5 q5 hp
     go_wp2_with fail
     go_ret
     exact HP.o
   obtain⟨x,a,rfl⟩:∃x a',a=x::a':=by
    cases a with
    |nil=>exact absurd (.inl rfl) hab
    |cons x a=>exact⟨x,a,rfl⟩
   obtain⟨y,b,rfl⟩:∃y b',b=y::b':=by
    cases b with
    |nil=>exact absurd (.inr rfl) hab
    |cons y b=>exact⟨y,b,rfl⟩
   rw[Mc] at R;obtain⟨A,E,rfl,habl,ai⟩:=g1.int (i:=0) (by simp);obtain⟨B,F,rfl,hbbl,aj⟩:=g2.int (i:=0) (by simp);rw[Nat.add_zero] at ai aj;have ai:wo.cell? ⟨A,E,none⟩=some (.int .i64 x):=ai;have aj:wo.cell? ⟨B,F,none⟩=some (.int .i64 y):=aj;have aD:=x1 x (by simp);have aE:=x2 y (by simp);have al:(x::a).length=a.length+1:=rfl;have ah:(y::b).length=b.length+1:=rfl;have an:(Lay.int .i64).At 0 wo (some ⟨A,E+1,none⟩) a:=by have:=g1.drop 1;simpa[Lay.int] using this
   have ax:(Lay.int .i64).At 0 wo (some ⟨B,F+1,none⟩) b:=by have:=g2.drop 1;simpa[Lay.int] using this
   have an:(Lay.int .i64).At 0 wo (if Q=1 then some ⟨A,E,none⟩ else some ⟨A,E+1,none⟩) a:=by
    split
    ·have:a=[]:=List.length_eq_zero_iff.1 (by simp at c1;omega);subst this;simpa using g1.take 0
    exact an
   have ax:(Lay.int .i64).At 0 wo (if T=1 then some ⟨B,F,none⟩ else some ⟨B,F+1,none⟩) b:=by
    split
    ·have:b=[]:=List.length_eq_zero_iff.1 (by simp at U;omega);subst this;simpa using g2.take 0
    exact ax
   have az:∀D,(if Q=1 then some ⟨A,E,none⟩ else some ⟨A,E+1,none⟩:Option Addr)=some D->D.block<G:=λD e=>by
    split at e<;>(injection e with e;subst e;exact t1 ⟨A,E,none⟩ rfl)
   have aG:∀D,(if T=1 then some ⟨B,F,none⟩ else some ⟨B,F+1,none⟩:Option Addr)=some D->D.block<G:=λD e=>by
    split at e<;>(injection e with e;subst e;exact t2 ⟨B,F,none⟩ rfl)
   have aF:(if Q=1 then some ⟨A,E,none⟩ else some ⟨A,E+1,none⟩:Option Addr)=none->Q-1=0:=λe=>by split at e<;>cases e
   have aU:(if T=1 then some ⟨B,F,none⟩ else some ⟨B,F+1,none⟩:Option Addr)=none->T-1=0:=λe=>by split at e<;>cases e
   have bf:A<G:=t1 _ rfl;have bh:B<G:=t2 _ rfl;have av:Hid (∀W:World,Calls Tryz.prog 115 #[.int .i64 x,.int .i64 y] W λe f=>e= .returned (.bool (eI x y))/\W=f):=Z λW=>CK W x y aD aE
   have aw:Hid (∀W:World,Calls Tryz.prog 115 #[.int .i64 y,.int .i64 x] W λe f=>e= .returned (.bool (eI y x))/\W=f):=Z λW=>CK W y x aE aD
   have aH:∀z∈a,-1000000000<=z/\z<=1000000000:=λz hz=>x1 z (Ac _ hz)
   have aV:∀z∈b,-1000000000<=z/\z<=1000000000:=λz hz=>x2 z (Ac _ hz)
   rw[al] at c1;rw[ah] at U;rw[al,ah] at le;have HA:Hid (eI x y=true->∀V J c,(Lay.int .i64).Own 3 c G J (ae++[x])->V.grownBy c u8.ownBlock->SW (wo.alloc (.cells #[.int .i64 x] 3)) V->MgI w G (mrg m O P) (.slice (if Q=1 then some ⟨A,E,none⟩ else some ⟨A,E+1,none⟩) a.length (Q-1)) (.slice (some ⟨B,F,none⟩) (b.length+1) T) J c):=Z λhl V J c N q0 sv=>by
    have q4:=sv.grown q0;rw[if_pos hl] at R;have hk:∀k,k<G->c.heap[k]? =wo.heap[k]? :=λk hk=>(q4.block k (by simp;omega) λe=>by have:=(S.lt k e.symm).1;omega).trans (fL wo _ (by omega))
    have aq:wo.heap.size<=c.heap.size:=by have:=q4.size;simp at this;omega
    exact⟨a,y::b,ae++[x],_,_,_,_,rfl,rfl,aF,(λe=>by cases e),by omega,by rw[ah];exact U,At.frame an aq λD e=>hk _ (az _ e),At.frame g2 aq λD e=>by injection e with e;subst e;exact hk B bh,az,t2,N,by rw[AS];exact R,aH,x2,by rw[ah];simp;omega,((bel.alloc (by have:=bel.size;omega) _).grown q4 (by have:=bel.size;simp;omega) λk hk=>by have:=(S.lt k hk).1;omega),by omega⟩
   have HB:Hid (eI x y=false->eI y x=true->∀V J c,(Lay.int .i64).Own 3 c G J (ae++[y])->V.grownBy c u8.ownBlock->SW (wo.alloc (.cells #[.int .i64 y] 3)) V->MgI w G (mrg m O P) (.slice (some ⟨A,E,none⟩) (a.length+1) Q) (.slice (if T=1 then some ⟨B,F,none⟩ else some ⟨B,F+1,none⟩) b.length (T-1)) J c):=Z λhl aC V J c N q0 sv=>by
    have q4:=sv.grown q0;rw[if_neg (by rw[hl];decide),if_pos aC] at R;have hk:∀k,k<G->c.heap[k]? =wo.heap[k]? :=λk hk=>(q4.block k (by simp;omega) λe=>by have:=(S.lt k e.symm).1;omega).trans (fL wo _ (by omega))
    have aq:wo.heap.size<=c.heap.size:=by have:=q4.size;simp at this;omega
    exact⟨x::a,b,ae++[y],_,_,_,_,rfl,rfl,(λe=>by cases e),aU,by rw[al];exact c1,by omega,At.frame g1 aq λD e=>by injection e with e;subst e;exact hk A bf,At.frame ax aq λD e=>hk _ (aG _ e),t1,aG,N,by rw[AS];exact R,x1,aV,by rw[al];simp;omega,((bel.alloc (by have:=bel.size;omega) _).grown q4 (by have:=bel.size;simp;omega) λk hk=>by have:=(S.lt k hk).1;omega),by omega⟩
   have HC:Hid (eI x y=false->eI y x=false->∀W,SW wo W->MgI w G (mrg m O P) (.slice (if Q=1 then some ⟨A,E,none⟩ else some ⟨A,E+1,none⟩) a.length (Q-1)) (.slice (some ⟨B,F,none⟩) (b.length+1) T) u8 W):=Z λhl aC W sw=>MgI.sw (w:=wo) (s:=sw)<|by
    rw[if_neg (by rw[hl];decide),if_neg (by rw[aC];decide)] at R;exact⟨a,y::b,ae,_,_,_,_,rfl,rfl,aF,(λe=>by cases e),by omega,by rw[ah];exact U,an,g2,az,t2,S,R,aH,x2,by rw[ah];omega,bel,gl⟩
   have au:=Z S;have hol:ae.length+(a.length+1+(b.length+1))<=1000:=le;clear hw S R x1 x2 aH aV le bel g1 g2 an ax hab aD aE t1 t2 az aG aF aU;clear al ah;have hac:(a.length:Int)+1<=Q:=by omega
   have hbc:(b.length:Int)+1<=T:=by omega
   have hac2:a.length+1<=Q:=by omega
   have hbc2:b.length+1<=T:=by omega
   have hz0a:(0:Int)<=a.length:=by omega
   have hal:(a.length:Int)<=1000:=by omega
   have hbl:(b.length:Int)<=1000:=by omega
   have hal2:(a.length:Int)+1<=1000:=by omega
   have hbl2:(b.length:Int)+1<=1000:=by omega
   have hal3:(1:Int)<=(a.length:Int)+1:=by omega
   have hbl3:(1:Int)<=(b.length:Int)+1:=by omega
   have hz0b:(0:Int)<=b.length:=by omega
   cases e1:eI x y with
   |true=>
    have aW:=Z (HA.o e1);rw[e1] at av;clear HA HB HC
    go_wp2_with fail
    go_region_held3(λf=>f.cell? ⟨A,E,none⟩=some (.int .i64 x)/\f.cell? ⟨B,F,none⟩=some (.int .i64 y))
     (first
       |exact⟨ai,aj⟩
       |go_keep)
     (first
       |(go_at_call 115;refine(av.o _).mono ?_;rintro e Y ⟨rfl,rfl⟩)
       |fail)
    go_wp2_with fail
    go_region_law
     (first
       |((
          refine iK (d:=0) (qs:=[x]) Tryz.elemI rfl _ _ rfl rfl (Lay.Own.alloc (SW.own (w:=wo) ⟨rfl,rfl,rfl,rfl⟩ au.o) _) rfl (λh=>by cases h) rfl (fV (L:=Lay.int .i64) _ x 3) (by simp;omega) (by simp;omega) ?_;intro J c N q4 _;have R4:=Z (aW.o _ J c N q4 ⟨rfl,rfl,rfl,rfl⟩);clear N q4))
       |fail "A")
    go_wp2_with fail
    all_goals
     go_roundw
     case rel=>first|exact⟨_,_,_,R4,CR (by assumption),rfl,rfl⟩|exact⟨_,_,_,R4,CS (by assumption),rfl,rfl⟩
     case measure=>simp[qM]
   |false=>
    have am:=Z (HB.o e1);have aA:=Z (HC.o e1);rw[e1] at av;clear HA HB HC
    go_wp2_with fail
    go_region_held3(λf=>f.cell? ⟨A,E,none⟩=some (.int .i64 x)/\f.cell? ⟨B,F,none⟩=some (.int .i64 y))
     (first
       |exact⟨ai,aj⟩
       |go_keep)
     (first
       |(go_at_call 115;refine(av.o _).mono ?_;rintro e Y ⟨rfl,rfl⟩)
       |fail)
    cases e2:eI y x with
    |true=>
     have aZ:=Z (am.o e2);rw[e2] at aw;clear am aA
     go_wp2_with fail
     go_region_held3(λf=>f.cell? ⟨A,E,none⟩=some (.int .i64 x)/\f.cell? ⟨B,F,none⟩=some (.int .i64 y))
      (first
        |exact⟨ai,aj⟩
        |go_keep)
      (first
        |(go_at_call 115;refine(aw.o _).mono ?_;rintro e Y ⟨rfl,rfl⟩)
        |fail)
     go_wp2_with fail
     go_region_law
      (first
        |(refine iK (d:=0) (qs:=[y]) Tryz.elemI rfl _ _ rfl rfl (Lay.Own.alloc (SW.own (w:=wo) ⟨rfl,rfl,rfl,rfl⟩ au.o) _) rfl (λh=>by cases h) rfl (fV (L:=Lay.int .i64) _ y 3) (by simp;omega) (by simp;omega) ?_
          intro J c N q4 _;have R4:=Z (aZ.o _ J c N q4 ⟨rfl,rfl,rfl,rfl⟩);clear N q4)
        |fail)
     go_wp2_with fail
     all_goals
      go_roundw
      case rel=>first|exact⟨_,_,_,R4,rfl,CR (by assumption),rfl⟩|exact⟨_,_,_,R4,rfl,CS (by assumption),rfl⟩
      case measure=>simp[qM]
    |false=>
     have a3:=Z (aA.o e2);rw[e2] at aw;clear am aA
     go_wp2_with fail
     go_region_held3(λf=>f.cell? ⟨A,E,none⟩=some (.int .i64 x)/\f.cell? ⟨B,F,none⟩=some (.int .i64 y))
      (first
        |exact⟨ai,aj⟩
        |go_keep)
      (first
        |(go_at_call 115;refine(aw.o _).mono ?_;rintro e Y ⟨rfl,rfl⟩)
        |fail)
     go_wp2_with fail
     all_goals
      go_roundw
      case rel=>exact Z (a3.o _ ⟨rfl,rfl,rfl,rfl⟩)
      case measure=>simp[qM]
