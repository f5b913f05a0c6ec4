/- Plain: products and quotients of words of literals. -/
import Derived.Test.YtmicnollchhlfaaGreatR1
set_option linter.all false
namespace Go.Proofs.YtmicnollchhlfaaGreat
def sz(b:Bl):=b.n+b.c.length
theorem wg b k(h:∀g,(k g).length<=6):sz (eD b k).2<=sz b+7:=by unfold eD sz;grind
theorem sF b x y:sz (dk b x y).2<=sz b+7:=by have:=wg b (gM x y) λg=>by{simp[gM]};unfold dk;grind
theorem qd b x y:sz (orF b x y).2<=sz b+7:=sF b (-x) (-y)
theorem jM b x y:sz (cR b x y).2<=sz b+7:=by have:=wg b (ik x y) λg=>by{simp[ik]};unfold cR;grind
theorem wh b c x y:sz (dI b c x y).2<=sz b+7:=by have:=wg b (im c x y) λg=>by{simp[im]};unfold dI;grind
theorem lf:∀x y c b,sz (eh x y c b).2<=sz b+21*x.length|[],_,_,b=>by simp[eh]|_::_,[],_,b=>by simp only[eh];omega|p::x,q::y,c,b=>by simp only[eh,Af];have h1:=jM b p q;have h2:=jM (cR b p q).2 (cR b p q).1 c;have h3:=wh (cR (cR b p q).2 (cR b p q).1 c).2 (cR b p q).1 c p;have h4:=lf x y (dI (cR (cR b p q).2 (cR b p q).1 c).2 (cR b p q).1 c p).1 (dI (cR (cR b p q).2 (cR b p q).1 c).2 (cR b p q).1 c p).2;omega
theorem nL:∀x y c b,sz (neF x y c b).2<=sz b+14*x.length|[],_,_,b=>by simp[neF]|_::_,[],_,b=>by simp only[neF];omega|p::x,q::y,c,b=>by simp only[neF,Af];have h1:=jM b p q;have h2:=qd (cR b p q).2 c (cR b p q).1;have h4:=nL x y (orF (cR b p q).2 c (cR b p q).1).1 (orF (cR b p q).2 c (cR b p q).1).2;omega
theorem mi:∀x y c b,sz (ltF x y c b).2<=sz b+14*x.length|[],_,_,b=>by simp[ltF]|_::_,[],_,b=>by simp only[ltF];omega|p::x,q::y,c,b=>by simp only[ltF,Af];have h1:=jM b p q;have h2:=wh (cR b p q).2 (cR b p q).1 q c;have h4:=mi x y (dI (cR b p q).2 (cR b p q).1 q c).1 (dI (cR b p q).2 (cR b p q).1 q c).2;omega
theorem sG:∀x,(eZ x).length=x.length|[]=>rfl|[_]=>rfl|_::b::x=>by simp only[eZ,Af,sG (b::x)]
theorem lg x y s b:sz (db x y s b).2<=sz b+14*x.length:=by unfold db;cases s;{exact mi x y (-1) b};have:=mi (eZ x) (eZ y) (-1) b;rw[sG] at this;grind
theorem qe c:∀x y b,sz (dt c x y b).2<=sz b+7*x.length|[],_,b=>by simp[dt]|_::_,[],b=>by simp only[dt];omega|p::x,q::y,b=>by simp only[dt,Af];have h1:=wh b c p q;have h4:=qe c x y (dI b c p q).2;omega
theorem nM:∀x d b,sz (fq x d b).2<=sz b+7*x.length|[],_,b=>by simp[fq]|p::x,d,b=>by simp only[fq,Af];have h1:=qd b d p;have h4:=nM x (orF b d p).1 (orF b d p).2;omega
theorem BJ:∀x y p q d b,x.length=y.length->neF (x++[p]) (y++[q]) d b=orF (cR (neF x y d b).2 p q).2 (neF x y d b).1 (cR (neF x y d b).2 p q).1|[],[],p,q,d,b,_=>rfl|_::x,_::y,p,q,d,b,h=>by simp only[List.cons_append,neF];exact BJ x y p q _ _ (by simp_all)
theorem wk:∀x y p q d b,x.length=y.length->ltF (x++[p]) (y++[q]) d b=dI (cR (ltF x y d b).2 p q).2 (cR (ltF x y d b).2 p q).1 q (ltF x y d b).1|[],[],p,q,d,b,_=>rfl|_::x,_::y,p,q,d,b,h=>by simp only[List.cons_append,ltF];exact wk x y p q _ _ (by simp_all)
theorem BK c:∀x y p q b,x.length=y.length->dt c (x++[p]) (y++[q]) b=((dt c x y b).1++[(dI (dt c x y b).2 c p q).1],(dI (dt c x y b).2 c p q).2)|[],[],p,q,b,_=>rfl|_::x,_::y,p,q,b,h=>by simp only[List.cons_append,dt];rw[BK c x y p q _ (by simp_all)]
theorem qf c:∀x y b,x.length=y.length->(dt c x y b).1.length=x.length|[],[],b,_=>rfl|_::x,_::y,b,h=>by simp only[dt,Af];rw[qf c x y _ (by simp_all)]
theorem BL:∀x p d b,fq (x++[p]) d b=orF (fq x d b).2 (fq x d b).1 p|[],p,d,b=>rfl|_::x,p,d,b=>by simp only[List.cons_append,fq];exact BL x p _ _
def dy:List Int->List Int->Int->Bl->(List Int×Int)×Bl|p::x,q::y,c,b=>let h:=cR b p q;let s:=cR h.2 h.1 c;let k:=dI s.2 h.1 c p;let r:=dy x y k.1 k.2;((s.1::r.1.1,r.1.2),r.2)|_,_,c,b=>(([],c),b)
theorem sH:∀x y c b,eh x y c b=((dy x y c b).1.1,(dy x y c b).2)|[],_,_,b=>by rfl|_::_,[],_,b=>by rfl|p::x,q::y,c,b=>by simp only[eh,dy];rw[sH x y]
theorem BN:∀x y p q c b,x.length=y.length->dy (x++[p]) (y++[q]) c b=(((dy x y c b).1.1++[(cR (cR (dy x y c b).2 p q).2 (cR (dy x y c b).2 p q).1 (dy x y c b).1.2).1],(dI (cR (cR (dy x y c b).2 p q).2 (cR (dy x y c b).2 p q).1 (dy x y c b).1.2).2 (cR (dy x y c b).2 p q).1 (dy x y c b).1.2 p).1),(dI (cR (cR (dy x y c b).2 p q).2 (cR (dy x y c b).2 p q).1 (dy x y c b).1.2).2 (cR (dy x y c b).2 p q).1 (dy x y c b).1.2 p).2)|[],[],p,q,c,b,_=>rfl|_::x,_::y,p,q,c,b,h=>by simp only[List.cons_append,dy];rw[BN x y p q _ _ (by simp_all)]
theorem wn:∀x y c b,x.length=y.length->(dy x y c b).1.1.length=x.length|[],[],c,b,_=>rfl|_::x,_::y,c,b,h=>by simp only[dy,Af];rw[wn x y _ _ (by simp_all)]
theorem BO:∀x y c b,Wf b->okW b.n x->okW b.n y->okL b.n c->Wf (dy x y c b).2/\Gr b (dy x y c b).2/\okL (dy x y c b).2.n (dy x y c b).1.2|[],_,c,b,w,_,_,hc=>⟨by simpa[dy] using w,by simpa[dy] using Gr.refl b,by simpa[dy] using hc⟩|_::_,[],c,b,w,_,_,hc=>⟨by simpa[dy] using w,by simpa[dy] using Gr.refl b,by simpa[dy] using hc⟩|p::x,q::y,c,b,w,hx,hy,hc=>by have hp:=hx p (by simp);have hq:=hy q (by simp);have h1:=iH w hp hq;have h2:=iH h1.wf h1.lit (h1.ap hc);have h3:=sf h2.wf (h2.ap h1.lit) (h2.ap (h1.ap hc)) (h2.ap (h1.ap hp));have g:=(h1.gr.trans h2.gr).trans h3.gr;have h4:=BO x y _ _ h3.wf (λl hl=>(hx l (Ac _ hl)).mono g.n) (λl hl=>(hy l (Ac _ hl)).mono g.n) h3.lit;exact⟨h4.1,g.trans h4.2.1,h4.2.2⟩
open Go
structure Has (A:List Int) (b:Bl) (z:Int) (g:(Int->Bool)->Bool):Prop where
 lit:okL b.n z
 val:∀m,Sat m b->tv m z=g (tv m)
 det:∀p,dE p b->(∀a∈A,pv p a≠none)->pv p z≠none
structure cS (A:List Int) (b:Bl) (z:List Int) (g:(Int->Bool)->List Bool):Prop where
 lit:okW b.n z
 val:∀m,Sat m b->z.map (tv m)=g (tv m)
 det:∀p,dE p b->(∀a∈A,pv p a≠none)->∀l∈z,pv p l≠none
theorem Has.gr{A b b' z g}(h:Has A b z g)(k:Gr b b'):Has A b' z g:=⟨h.lit.mono k.n,λm hm=>h.val m (k.sat hm),λp hp=>h.det p (k.closed hp)⟩
theorem cS.gr{A b b' z g}(h:cS A b z g)(k:Gr b b'):cS A b' z g:=⟨h.lit.mono k.n,λm hm=>h.val m (k.sat hm),λp hp=>h.det p (k.closed hp)⟩
structure StG (A:List Int) (b:Bl) (r:Int×Bl) (g:(Int->Bool)->Bool):Prop where
 wf:Wf r.2
 gr:Gr b r.2
 has:Has A r.2 r.1 g
structure StW (A:List Int) (b:Bl) (r:List Int×Bl) (g:(Int->Bool)->List Bool):Prop where
 wf:Wf r.2
 gr:Gr b r.2
 has:cS A r.2 r.1 g
theorem gk.st{A b r f args}(h:gk b r f args){g}(hv:∀m,Sat m b->f (tv m)=g (tv m))(hd:∀p,dE p b->(∀a∈A,pv p a≠none)->∀x∈args,pv p x≠none):StG A b r g:=⟨h.wf,h.gr,h.lit,λm hm=>(h.val m hm).trans (hv m (h.gr.sat hm)),λp hp ha=>h.det p hp (hd p (h.gr.closed hp) ha)⟩
theorem lS.st{A b r f args}(h:lS b r f args){g}(hv:∀m,Sat m b->f (tv m)=g (tv m))(hd:∀p,dE p b->(∀a∈A,pv p a≠none)->∀x∈args,pv p x≠none):StW A b r g:=⟨h.wf,h.gr,h.lit,λm hm=>(h.val m hm).trans (hv m (h.gr.sat hm)),λp hp ha=>h.det p hp (hd p (h.gr.closed hp) ha)⟩
section
variable {A:List Int} {b:Bl} {x y:List Int} {X Y:(Int->Bool)->List Bool} {p q c:Int} {P Q C:(Int->Bool)->Bool}
theorem BP(w:Wf b)(hp:Has A b p P)(hq:Has A b q Q):StG A b (dk b p q) (λt=>P t&&Q t):=(pK w hp.lit hq.lit).st (λm hm=>by simp only[hp.val m hm,hq.val m hm]) λpp h1 h2 z hz=>by simp at hz;rcases hz with rfl|rfl;{exact hp.det pp h1 h2};exact hq.det pp h1 h2
theorem BQ(w:Wf b)(hp:Has A b p P)(hq:Has A b q Q):StG A b (orF b p q) (λt=>P t||Q t):=(pL w hp.lit hq.lit).st (λm hm=>by simp only[hp.val m hm,hq.val m hm]) λpp h1 h2 z hz=>by simp at hz;rcases hz with rfl|rfl;{exact hp.det pp h1 h2};exact hq.det pp h1 h2
theorem J4(w:Wf b)(hp:Has A b p P)(hq:Has A b q Q):StG A b (cR b p q) (λt=>P t !=Q t):=(iH w hp.lit hq.lit).st (λm hm=>by simp only[hp.val m hm,hq.val m hm]) λpp h1 h2 z hz=>by simp at hz;rcases hz with rfl|rfl;{exact hp.det pp h1 h2};exact hq.det pp h1 h2
theorem Has.neg(hp:Has A b p P):Has A b (-p) (λt=> !P t):=⟨hp.lit.neg,λm hm=>by rw[dH m hp.lit.1,hp.val m hm],λpp h1 h2=>jJ hp.lit.1 (hp.det pp h1 h2)⟩
theorem Has.one(w:Wf b):Has A b 1 (λ _=>true):=⟨eu w.pos,λm hm=>by rw[jk];exact hm.one w,λpp h1 _=>by rw[lQ (h1.one w)];simp⟩
theorem Has.mone(w:Wf b):Has A b (-1) (λ _=>false):=(Has.one w).neg
theorem cS.nil:cS A b [] (λ _=>[]):=⟨λl hl=>by simp at hl,λ _ _=>rfl,λ _ _ _ l hl=>by simp at hl⟩
theorem cS.cons(hp:Has A b p P)(hx:cS A b x X):cS A b (p::x) (λt=>P t::X t):=⟨λl hl=>by rcases List.mem_cons.1 hl with rfl|hl;{exact hp.lit};·exact hx.lit l hl,λm hm=>by rw[List.map_cons,hp.val m hm,hx.val m hm],λpp h1 h2 l hl=>by rcases List.mem_cons.1 hl with rfl|hl;{exact hp.det pp h1 h2};exact hx.det pp h1 h2 l hl⟩
theorem BS(w:Wf b)(hx:cS A b x X)(hy:cS A b y Y)(hc:Has A b c C):StW A b (eh x y c b) (λt=>jK (X t) (Y t) (C t)):=(vq x y c b w hx.lit hy.lit hc.lit).st (λm hm=>by simp only[hx.val m hm,hy.val m hm,hc.val m hm]) λpp h1 h2 z hz=>by rcases List.mem_cons.1 hz with rfl|hz;{exact hc.det pp h1 h2};rcases A6.1 hz with hz|hz;{exact hx.det pp h1 h2 z hz};exact hy.det pp h1 h2 z hz
theorem wq(w:Wf b)(hx:cS A b x X)(hy:cS A b y Y):StW A b (ej x y b) (λt=>jK (X t) ((Y t).map not) true):=(zP w hx.lit hy.lit).st (λm hm=>by simp only[hx.val m hm,hy.val m hm]) λpp h1 h2 z hz=>by rcases A6.1 hz with hz|hz;{exact hx.det pp h1 h2 z hz};exact hy.det pp h1 h2 z hz
theorem BT(w:Wf b)(hx:cS A b x X)(hy:cS A b y Y):StG A b (eqF x y b) (λt=> !neB (X t) (Y t) false):=(zQ w hx.lit hy.lit).st (λm hm=>by simp only[hx.val m hm,hy.val m hm]) λpp h1 h2 z hz=>by rcases A6.1 hz with hz|hz;{exact hx.det pp h1 h2 z hz};exact hy.det pp h1 h2 z hz
theorem qg s(w:Wf b)(hx:cS A b x X)(hy:cS A b y Y):StG A b (db x y s b) (λt=>lU (X t) (Y t) s):=(si s w hx.lit hy.lit).st (λm hm=>by simp only[hx.val m hm,hy.val m hm]) λpp h1 h2 z hz=>by rcases A6.1 hz with hz|hz;{exact hx.det pp h1 h2 z hz};exact hy.det pp h1 h2 z hz
theorem wt(w:Wf b)(hc:Has A b c C)(hx:cS A b x X)(hy:cS A b y Y):StW A b (dt c x y b) (λt=>kC (C t) (X t) (Y t)):=(vt c x y b w hc.lit hx.lit hy.lit).st (λm hm=>by simp only[hx.val m hm,hy.val m hm,hc.val m hm]) λpp h1 h2 z hz=>by rcases List.mem_cons.1 hz with rfl|hz;{exact hc.det pp h1 h2};rcases A6.1 hz with hz|hz;{exact hx.det pp h1 h2 z hz};exact hy.det pp h1 h2 z hz
theorem J5(w:Wf b)(hx:cS A b x X):StG A b (ey x b) (λt=>(X t).any id):=(sj w hx.lit).st (λm hm=>by simp only[hx.val m hm]) λpp h1 h2 z hz=>hx.det pp h1 h2 z hz
end
section
variable {A:List Int} {b:Bl} {x y:List Int} {X Y:(Int->Bool)->List Bool}
theorem cS.take(h:cS A b x X) k:cS A b (x.take k) (λt=>(X t).take k):=⟨λl hl=>h.lit l (List.mem_of_mem_take hl),λm hm=>by rw[List.map_take,h.val m hm],λp h1 h2 l hl=>h.det p h1 h2 l (List.mem_of_mem_take hl)⟩
theorem cS.app(h:cS A b x X)(k:cS A b y Y):cS A b (x++y) (λt=>X t++Y t):=⟨λl hl=>(A6.1 hl).elim (h.lit l) (k.lit l),λm hm=>by rw[List.map_append,h.val m hm,k.val m hm],λp h1 h2 l hl=>(A6.1 hl).elim (h.det p h1 h2 l) (k.det p h1 h2 l)⟩
theorem cS.zeros(w:Wf b) k:cS A b (List.replicate k (-1)) (λ _=>List.replicate k false):=by induction k with|zero=>exact cS.nil|succ k ih=>exact cS.cons (Has.mone w) ih
theorem cS.get(h:cS A b x X){k}(hk:k<x.length):Has A b (x.getD k 0) (λt=>(X t).getD k false):=by have hm:x.getD k 0∈x:=by{simp_all};refine⟨h.lit _ hm,λm f=> ?_,λp a d=>h.det p a d _ hm⟩;rw[<-h.val m f,A2,A2,AI,A5 hk];rfl
end
def fA(n:Int):List Int->Bl->List Int×Bl|[],b=>([],b)|p::x,b=>let h:=dk b p n;let r:=fA n x h.2;(h.1::r.1,r.2)
theorem wu{A n N}:∀x b X,Wf b->cS A b x X->Has A b n N->StW A b (fA n x b) (λt=>(X t).map λp=>p&&N t)|[],b,X,w,hx,hn=>by refine⟨w,Gr.refl b,λl hl=>by simp[fA] at hl,λm hm=> ?_,λ _ _ _ l hl=>by simp[fA] at hl⟩;have:=hx.val m hm;rw[<-this];rfl|p::x,b,X,w,hx,hn=>by have hp:Has A b p (λt=>(X t).getD 0 false):=cS.get hx (k:=0) (by simp);have hx2:cS A b x (λt=>(X t).tail):=⟨λl hl=>hx.lit l (Ac _ hl),λm hm=>by rw[<-hx.val m hm];rfl,λq h1 h2 l hl=>hx.det q h1 h2 l (Ac _ hl)⟩;have h1:=BP w hp hn;have h2:=wu x (dk b p n).2 _ h1.wf (hx2.gr h1.gr) (hn.gr h1.gr);have h3:=cS.cons (h1.has.gr h2.gr) h2.has;refine⟨h2.wf,h1.gr.trans h2.gr,h3.lit,λm hm=>(h3.val m hm).trans ?_,h3.det⟩;have hv:=hx.val m (h1.gr.sat (h2.gr.sat hm));grind
def gu(x:List Int)(n:Int)(i:Nat)(b:Bl):=let r:=fA n (x.take (x.length-i)) b;(List.replicate i (-1)++r.1,r.2)
def sI(x:List Bool)(n:Bool)(i:Nat):=List.replicate i false++(x.take (x.length-i)).map λp=>p&&n
theorem J6{A b x X n N} i(w:Wf b)(f:cS A b x X)(h:Has A b n N):StW A b (gu x n i b) (λt=>sI (X t) (N t) i):=by have a:=wu (x.take (x.length-i)) b _ w (f.take (x.length-i)) h;have d:=(cS.zeros (A:=A) a.wf i).app a.has;refine⟨a.wf,a.gr,d.lit,λm hm=>(d.val m hm).trans ?_,d.det⟩;have g:(X (tv m)).length=x.length:=by{rw[<-f.val m (a.gr.sat hm),An]};unfold sI;rw[g]
def dU(x:List Int):List Int->Nat->Bl->List (List Int)×Bl|[],_,b=>([],b)|n::y,i,b=>let r:=gu x n i b;let s:=dU x y (i+1) r.2;(r.1::s.1,s.2)
def nN(x:List Bool):List Bool->Nat->List (List Bool)|[],_=>[]|n::y,i=>sI x n i::nN x y (i+1)
def fB(A:List Int)(b:Bl)(l:List (List Int))(L:(Int->Bool)->List (List Bool)):=(∀z∈l,okW b.n z)/\(∀m,Sat m b->l.map (λz=>z.map (tv m))=L (tv m))/\∀p,dE p b->(∀a∈A,pv p a≠none)->∀z∈l,∀k∈z,pv p k≠none
theorem fB.gr{A b b' l L}(h:fB A b l L)(k:Gr b b'):fB A b' l L:=⟨λz hz=>(h.1 z hz).mono k.n,λm hm=>h.2.1 m (k.sat hm),λp hp=>h.2.2 p (k.closed hp)⟩
theorem ww{A x X}:∀y i b Y,Wf b->cS A b x X->cS A b y Y->Wf (dU x y i b).2/\Gr b (dU x y i b).2/\fB A (dU x y i b).2 (dU x y i b).1 (λt=>nN (X t) (Y t) i)|[],i,b,Y,w,hx,hy=>by refine⟨w,Gr.refl b,λz hz=>by simp[dU] at hz,λm hm=> ?_,λ _ _ _ z hz=>by simp[dU] at hz⟩;have:=hy.val m hm;show[]=nN (X (tv m)) (Y (tv m)) i;rw[<-this];rfl|n::y,i,b,Y,w,hx,hy=>by have hn:Has A b n (λt=>(Y t).getD 0 false):=cS.get hy (k:=0) (by simp);have hy2:cS A b y (λt=>(Y t).tail):=⟨λl hl=>hy.lit l (Ac _ hl),λm hm=>by rw[<-hy.val m hm];rfl,λq h1 h2 l hl=>hy.det q h1 h2 l (Ac _ hl)⟩;have h1:=J6 i w hx hn;have h2:=ww y (i+1) (gu x n i b).2 _ h1.wf (hx.gr h1.gr) (hy2.gr h1.gr);have h3:=h1.has.gr h2.2.1;refine⟨h2.1,h1.gr.trans h2.2.1,λz hz=> ?_,λm hm=> ?_,λp hp ha z hz=> ?_⟩;{rcases List.mem_cons.1 hz with rfl|hz;{exact h3.lit};exact h2.2.2.1 z hz};{have hv:=hy.val m (h1.gr.sat (h2.2.1.sat hm));show List.map (tv m) _::List.map _ _=_;rw[h3.val m hm,h2.2.2.2.1 m hm];show sI (X (tv m)) ((Y (tv m)).getD 0 false) i::nN (X (tv m)) (Y (tv m)).tail (i+1)=nN (X (tv m)) (Y (tv m)) i;rw[<-hv];rfl};rcases List.mem_cons.1 hz with rfl|hz;{exact h3.det p hp ha};exact h2.2.2.2.2 p hp ha z hz
