/- Walk: ask of the code's graph. -/
import Derived.Test.YtmicnollchhlfaaGreatR10
import Derived.Test.YtmicnollchhlfaaGreatR8
import Derived.Deep.CutBlock
import Derived.Laws.CopyOwn
import Derived.Lib.AppendZerosOnto
import Derived.Deep.RegionHeld3
import Derived.StillTailTactics
set_option linter.all false
noncomputable section
namespace Go.Proofs.YtmicnollchhlfaaGreat
namespace Cr
open Go Go.RowKit
noncomputable abbrev PR:=Tryz.prog
abbrev GG:=0
theorem Io{G B w0 call}(d:∀B w0,gA Tryz.prog G B w0 call):gA Tryz.prog G B w0 (λg args H=>bif Nat.beq g 24 then rY call 45 46 args H else .bad):=by intro g args H v H' h μ args' w f j a;change(bif Nat.beq g 24 then rY call 45 46 args H else .bad)=_ at h;cases hb:Nat.beq g 24 with|false=>rw[hb] at h;cases h|true=>rw[hb,cond_true] at h;have:=Ab hb;subst this;exact Ro (c:=Tryz.f24.body.getD .skip) Tryz.func24 (by kernel_rfl) (by kernel_rfl) (Im d h f j) a
def sp0:er:=λ _=>none
theorem zW{G B w0}:kT Tryz.prog G B w0 sp0:=λ _ _ h=>by cases h
def zX:=gz Tryz.prog sp0 (ev Tryz.prog sp0 GG (dK Tryz.prog) (yJ GG (dK Tryz.prog)) 1000000)
def spX:er:=λg=>bif Nat.beq g 24 then some (rY zX 45 46) else none
theorem vz:Tryz.prog.follows .mixedOrders=true:=by kernel_rfl
theorem Ip B w0:gA Tryz.prog GG B w0 zX:=oV (uE (fJ _) zW (Fa (fJ _) vz) 1000000) zW
theorem vA{B w0}:kT Tryz.prog GG B w0 spX:=by intro g h a;unfold spX at a;cases hb:Nat.beq g 24 with|false=>rw[hb] at a;cases a|true=>rw[hb] at a;simp only[cond_true,A3] at a;have:=Ab hb;subst this;subst a;exact Io Ip
theorem ft B w0:kT PR GG B w0 spX:=vA
def cZ:=ev PR spX GG (dK PR) (yJ GG (dK PR)) 1000000
theorem da B w0:Snd PR GG B w0 cZ:=uE (fJ _) vA (Fa (fJ _) vz) 1000000
def H0:AH:=⟨.nil,0⟩
def mu0:Mu:=⟨λ _=>none,λ _=>0⟩
theorem vC i:H0.get i=none:=by show Tr.get Tr.nil i=none;exact Tr.get_nil i
theorem H0_hr w:HR GG w.heap.size w H0 mu0 w:=by refine⟨?_,?_,?_,?_,?_,(by show(0:Nat)<_;decide),A4 _ _,A1 _⟩;{intro i x a;rw[vC] at a;cases a};{intro i j x y a;rw[vC] at a;cases a};{intro i x a;rw[vC] at a;cases a};{intro i p d;cases d};intro g c;cases c
end Cr
open Go.RowKit
theorem iU{α:Type} d(xs:List α) i(h:i<xs.length):xs.getD i d∈xs:=by rw[A2,A5 h];exact Aj h
theorem Iq{α:Type} d(ps:List α) q(h:q<ps.length):ps.take (q+1)=ps.take q++[ps.getD q d]:=by rw[List.take_succ_eq_append_getElem h,A2,A5 h];rfl
theorem Lay.Own.lower{α}{L:Lay α}{e w b b' v xs}(h:L.Own e w b v xs)(hb:b'<=b):L.Own e w b' v xs:=⟨h.1,h.2.imp id λ⟨g,cap,cur,e,hg,r⟩=>⟨g,cap,cur,e,A9 hb hg,r⟩⟩
section
variable {α:Type} {L:Lay α} {w:World} {P:Program} {t e:TypeId} {z:Value} {bytes:Nat}
end
abbrev Hdr:=Option Addr×Nat×Nat
theorem Ir{α:Type} d(xs a:List α) i(h:i<xs.length):(xs++a).getD i d=xs.getD i d:=by rw[A2,A2,AD h]
theorem Is{α:Type} d x(xs:List α) i(h:i=xs.length):(xs++[x]).getD i d=x:=by subst h;rw[A2,Ar (A1 _)];simp
abbrev NdH:=Nat×Nat×(Option Addr×Nat×Nat)
def Lay.nd:Lay NdH:=⟨3,λp=>[.int .u8 (p.1:Int),.int .u64 (p.2.1:Int),.slice p.2.2.1 p.2.2.2.1 p.2.2.2.2],λ _=>rfl,λx u hu=>by simp at hu;rcases hu with rfl|rfl|rfl<;>rfl,by decide⟩
theorem Tryz.elemN:fU Tryz.prog Lay.nd 58 95 (.agg #[.int .u8 0,.int .u64 0,.slice none 0 0]) 40:=⟨Tryz.underlying58,by kernel_rfl,rfl,by decide⟩
theorem gmT:GmT Tryz.prog 89 152 3 ((Tryz.prog.underlying 152).getD .bool) 6:=⟨by kernel_rfl,by kernel_rfl,by kernel_rfl,by decide,by kernel_rfl,λw=>by kernel_rfl⟩
@[irreducible] def RM : Int := 1048576
theorem zY:RM=1048576:=by unfold RM;rfl
theorem It:(1000000:Int)<RM:=by rw[zY];decide
def cT(l:List Nat):=l.map λ(n:Nat)=>(n:Int)
structure ip (w:World) (A:Nat->Prop) (h:Option Addr×Nat×Nat) (args:List Nat):Prop where
 len:h.2.1=args.length
 at_:(Lay.int .i64).At 0 w h.1 (cT args)
 blk:∀a,h.1=some a->A a.block
 non:h.1=none->h.2.2=0
structure iV (w:World) (A:Nat->Prop) (xs:List NdH) (L:List Nd):Prop where
 len:xs.length=L.length
 at_:∀i,i<L.length->(xs.getD i default).1=(L.getD i default).op/\(xs.getD i default).2.1=(L.getD i default).num/\ip w A (xs.getD i default).2.2 (L.getD i default).args
def eL(gb:Nat)(mb:Option Nat)(nv:Value)(k:Nat):=k=gb\/mb=some k\/nv.ownBlock=some k
structure PG (w:World) (B:Nat) (A:Nat->Prop) (gb mb:Nat) (nv:Value) (W:Nat) (L:List Nd):Prop where
 blk:w.heap[gb]? =some (.cells #[.int .i64 W,.int .i64 RM,nv,.map (some mb)] 91 (0,0))
 map:gD w mb L
 nds:∃xs,Lay.nd.Own 95 w B nv xs/\iV w A xs L
 ok:GOk W L
 lo:∀k,eL gb (some mb) nv k->B<=k/\k<w.heap.size
 ne:gb≠mb/\nv.ownBlock≠some gb/\nv.ownBlock≠some mb
 ar:∀k,A k->B<=k/\k<w.heap.size/\¬eL gb (some mb) nv k
structure Mut (S:Nat->Prop) (w w':World):Prop where
 os:w'.os=w.os
 tape:w'.tape=w.tape
 output:w'.output=w.output
 size:w.heap.size<=w'.heap.size
 block:∀k,k<w.heap.size->¬S k->w'.heap[k]? =w.heap[k]?
theorem Mut.of_below{S w w'}(h:Below w.heap.size w w'):Mut S w w':=⟨h.os,h.tape,h.output,h.size,λk hk _=>h.block k hk⟩
theorem Mut.trans{S a b c}(h:Mut S a b)(k:Mut S b c):Mut S a c:=⟨k.os.trans h.os,k.tape.trans h.tape,k.output.trans h.output,A9 h.size k.size,λi hi hs=>(k.block i (A8 hi h.size) hs).trans (h.block i hi hs)⟩
theorem At.frame{α}{L:Lay α}{d w w' a xs}(h:L.At d w a xs)(hs:w.heap.size<=w'.heap.size)(hk:∀ad,a=some ad->w'.heap[ad.block]? =w.heap[ad.block]?):L.At d w' a xs:=λi hi=>by obtain⟨b,o,e,h0,h1⟩:=h i hi;exact⟨b,o,e,A8 h0 hs,λj hj=>(Ah (a:=⟨b,o+i*L.sz+j,none⟩) (hk ⟨b,o,none⟩ e)).trans (h1 j hj)⟩
theorem ip.frame{w w' A h args}(hh:ip w A h args)(hs:w.heap.size<=w'.heap.size)(hk:∀k,A k->w'.heap[k]? =w.heap[k]?):ip w' A h args:=⟨hh.len,At.frame hh.at_ hs λad e=>hk _ (hh.blk ad e),hh.blk,hh.non⟩
theorem ip.mono{w A A' h args}(hh:ip w A h args)(hk:∀k,A k->A' k):ip w A' h args:=⟨hh.len,hh.at_,λa e=>hk _ (hh.blk a e),hh.non⟩
theorem iV.frame{w w' A xs L}(h:iV w A xs L)(hs:w.heap.size<=w'.heap.size)(hk:∀k,A k->w'.heap[k]? =w.heap[k]?):iV w' A xs L:=⟨h.len,λi hi=>⟨(h.at_ i hi).1,(h.at_ i hi).2.1,(h.at_ i hi).2.2.frame hs hk⟩⟩
theorem iV.snoc{w A A' xs L}(h:iV w A xs L)(f:∀k,A k->A' k){n hd}(g:ip w A' hd n.args):iV w A' (xs++[(n.op,n.num,hd)]) (L++[n]):=by refine⟨by simp[h.len],λi j=> ?_⟩;simp only[Aq,List.length_singleton] at j;by_cases e:i<L.length;{have a:(xs++[(n.op,n.num,hd)]).getD i default=xs.getD i default:=by{rw[A2,A2,AD (by rw[h.len];exact e)]};have c:(L++[n]).getD i default=L.getD i default:=by{rw[A2,A2,AD e]};rw[a,c];exact⟨(h.at_ i e).1,(h.at_ i e).2.1,(h.at_ i e).2.2.mono f⟩};have d:i=L.length:=by{omega};subst d;have a:(xs++[(n.op,n.num,hd)]).getD L.length default=(n.op,n.num,hd):=by{rw[A2,Ar (by rw[h.len];exact A1 _),h.len];simp};have c:(L++[n]).getD L.length default=n:=by{rw[A2,Ar (A1 _)];simp};rw[a,c];exact⟨rfl,rfl,g⟩
theorem vD{w w' B nv xs}(h:Lay.nd.Own 95 w B nv xs)(hk:∀k,nv.ownBlock=some k->w'.heap[k]? =w.heap[k]?):Lay.nd.Own 95 w' B nv xs:=by obtain⟨a,h|⟨g,c,d,rfl,f,j,l,hm,n,r⟩⟩:=h;{exact⟨a,.inl h⟩};exact⟨a,.inr ⟨g,c,d,rfl,f,(hk g rfl).trans j,l,hm,n,r⟩⟩
theorem gD.frame{w w' mb L}(h:gD w mb L)(hk:w'.heap[mb]? =w.heap[mb]?):gD w' mb L:=by obtain⟨es,a,c,d⟩:=h.ents;exact⟨⟨es,a,hk.trans c,d⟩⟩
section
variable {w w':World} {B:Nat} {A:Nat->Prop} {gb mb:Nat} {nv:Value} {W:Nat} {L:List Nd}
theorem PG.frame(h:PG w B A gb mb nv W L)(hs:w.heap.size<=w'.heap.size)(hk:∀k,eL gb (some mb) nv k\/A k->w'.heap[k]? =w.heap[k]?):PG w' B A gb mb nv W L:=by obtain⟨f,c,d⟩:=h.nds;exact⟨(hk gb (.inl (.inl rfl))).trans h.blk,h.map.frame (hk mb (.inl (.inr (.inl rfl)))),⟨f,vD c λk e=>hk k (.inl (.inr (.inr e))),d.frame hs λk a=>hk k (.inr a)⟩,h.ok,λk m=>⟨(h.lo k m).1,A8 (h.lo k m).2 hs⟩,h.ne,λk a=>⟨(h.ar k a).1,A8 (h.ar k a).2.1 hs,(h.ar k a).2.2⟩⟩
def PG.below(h:PG w B A gb mb nv W L)(hb:Below w.heap.size w w'):=h.frame hb.size λk hk=>hb.block k (by rcases hk with m|a;exact(h.lo k m).2;exact(h.ar k a).2.1)
theorem PG.slice(h:PG w B A gb mb nv W L):∃a cap,nv= .slice a L.length cap/\L.length<=cap/\cap<=maxLen:=by obtain⟨xs,f,c⟩:=h.nds;obtain⟨a,cap,rfl,_,g,j⟩:=f.at_ (d:=default);exact⟨a,cap,by rw[c.len],by rw[<-c.len];exact g,j⟩
theorem Iu{xs}(F:Lay.nd.Own 95 w B nv xs)(k:iV w A xs L){i}(N:i<L.length):∃b cap c hc,nv= .slice (some ⟨b,0,none⟩) L.length cap/\b<w.heap.size/\nv.ownBlock=some b/\w.cell? ⟨b,i*3,none⟩=some (.int .u8 ((L.getD i default).op:Int))/\w.cell? ⟨b,i*3+1,none⟩=some (.int .u64 ((L.getD i default).num:Int))/\w.cell? ⟨b,i*3+2,none⟩=some (.slice c (L.getD i default).args.length hc)/\(Lay.int .i64).At 0 w c (cT (L.getD i default).args)/\(c=none->hc=0)/\∀a,c=some a->A a.block:=by obtain⟨D,E,d⟩:=k.at_ i N;have Q:=k.len;obtain⟨_,h|⟨g,cap,r,rfl,K,h,R,hm,S,T⟩⟩:=F;{omega};have G:=World.ownsRow.cells (w:=w) (base:=B) (e:=95) (size:=Lay.nd.sz) (n:=xs.length) (xs:=Lay.nd.flat xs) ⟨Lay.nd.flat_length xs,.inr ⟨g,cap,r,rfl,K,h,R,hm,S,T⟩⟩ (g:=g) rfl;have hc:∀j,j<3->w.cell? ⟨g,i*3+j,none⟩=(Lay.nd.f (xs.getD i default))[j]? :=λj O=>by{have H:=Lay.nd.flat_at default xs i j (by omega) O;have h5:(Lay.nd.f (xs.getD i default)).length=3:=rfl;have J:(Lay.nd.flat xs)[i*3+j]? =some ((Lay.nd.f (xs.getD i default))[j]'(by omega)):=by{rw[<-A5 (by omega)];exact H};have l:=G _ _ J;rw[jl,Ap] at l;rw[l,A5 (by omega)]};refine⟨g,cap,(xs.getD i default).2.2.1,(xs.getD i default).2.2.2.2,by rw[Q],(Al.1 h).1,rfl,?_,?_,?_,d.at_,d.non,d.blk⟩;{have:=hc 0 (by decide);rw[Nat.add_zero] at this;rw[this,<-D];rfl};{rw[hc 1 (by decide),<-E];rfl};rw[hc 2 (by decide),<-d.len];rfl
end
def zZ(w:World)(nv nv':Value):=nv'.ownBlock=nv.ownBlock\/∃k,nv'.ownBlock=some k/\w.heap.size<=k
def jn(w:World)(B:Nat)(A A':Nat->Prop)(gb mb:Nat)(nv:Value)(W:Nat)(L:List Nd)(n:Nd)(e:Ending)(w':World):=∃nv',e= .returned (.tuple #[.int .i64 (dO n L:Nat),.int .i64 0])/\PG w' B (λk=>A k\/A' k) gb mb nv' W (dW n L)/\Mut (eL gb (some mb) nv) w w'/\zZ w nv nv'
theorem Iv n(h:n.args.length<=3):splice [.int .u8 (n.op:Int),.int .u64 (n.num:Int),.int .i64 0,.int .i64 0,.int .i64 0] 2 (n.args.map λ(x:Nat)=>Value.int .i64 (x:Int))=jF n:=by obtain⟨o,u,l⟩:=n;rcases l with _|⟨a,_|⟨b,_|⟨c,_|⟨d,l⟩⟩⟩⟩;{rfl};{rfl};{rfl};{rfl};simp at h
theorem Iw{w a l}(h:(Lay.int .i64).At 0 w a (cT l))(k:0<l.length):∃f,a=some f/\∀j v,(l.map λ(x:Nat)=>Value.int .i64 (x:Int))[j]? =some v->w.cell? (f.add j)=some v:=by obtain⟨b,o,e,_,_⟩:=h.int (i:=0) (by simpa[cT] using k);refine⟨⟨b,o,none⟩,e,λj v n=> ?_⟩;obtain⟨d,rfl⟩:=List.getElem?_eq_some_iff.1 n;simp only[An] at d;obtain⟨b',o',c,_,g⟩:=h.int (i:=j) (by simpa[cT] using d);rw[e] at c;injection c with c;injection c with e1 e2;subst e1 e2;rw[jl,g];simp[cT,List.getD_eq_getElem?_getD,List.getElem?_eq_getElem d]
theorem Ix{W ops o a K Q E}(r:o.guard=none) s x (G:o.op= .call {callee:=.builtin .append,args:=#[s,x],argTypes:=#[58,58]}){base v ps} q{f c} (hs:a.eval s=v)(H:Lay.nd.Own 95 W base v ps)(O:a.eval x= .slice (some f) 1 c)(F:∀j u,(Lay.nd.flat [q])[j]? =some u->W.cell? (f.add j)=some u) (hl:ps.length<=1000)(n:base<=W.heap.size) (h:∀d w',Lay.nd.Own 95 w' base d (ps++[q])->W.grownBy w' v.ownBlock->(d.ownBlock=v.ownBlock\/d.ownBlock=some W.heap.size)->K (a.put o.dst d) w'):if Region.wanted o (yielded ops a.tmps)=true then Oper.wp Tryz.prog o a W K Q else E:=by have N:Region.wanted o (yielded ops a.tmps)=true:=by{simp[Region.wanted,r]};rw[if_pos N];obtain⟨U,D,R,S,T⟩:=info_parts Tryz.elemN.info;obtain⟨d,w',J,g,k,_,l⟩:=run_append_own_at (P:=Tryz.prog) W base 58 o.type 95 U _ 3 40 Tryz.elemN.und D R S T rfl (by decide) v ps.length (Lay.nd.flat ps) H f 1 c (Lay.nd.flat [q]) (Lay.nd.flat_length [q]) F (Lay.nd.flat_one [q]) (by unfold maxLen;omega) (by omega) n;refine Lib.wp_append_run W s x 58 58 G v _ hs O d w' J (h d w' ?_ k l);unfold Lay.Own;rw[Lay.flat_append,Aq];exact g
theorem PG.more{w B}{A A':Nat->Prop}{gb mb nv W L}(h:PG w B A gb mb nv W L)(g:∀k,A' k->B<=k/\k<w.heap.size/\¬eL gb (some mb) nv k):PG w B (λk=>A k\/A' k) gb mb nv W L:=by obtain⟨j,f,c⟩:=h.nds;exact⟨h.blk,h.map,⟨j,f,c.len,λi d=>⟨(c.at_ i d).1,(c.at_ i d).2.1,(c.at_ i d).2.2.mono λk a=>.inl a⟩⟩,h.ok,h.lo,h.ne,λk a=>a.elim (h.ar k) (g k)⟩
theorem PG.add{w w4 d f B A A' gb mb nv c W L n hd es E xs}(h:PG w B A gb mb nv W L)(hn:fZ W L.length n) (F:∀k,A' k->B<=k/\k<w.heap.size/\¬eL gb (some mb) nv k)(hh:ip w A' hd n.args)(ad:n∉L) (j:Below w.heap.size w w4)(ae:iV w A xs L)(Q:Lay.nd.Own 95 d B c (xs++[(n.op,n.num,hd)]))(l:w4.grownBy d nv.ownBlock)(G:c.ownBlock=nv.ownBlock\/c.ownBlock=some w4.heap.size) (V:w.heap[mb]? =some (.map es E))(Y:(es.toList.map λe=>(e.key,e.val))=fR L 0) (r:f.heap=(d.setCell ⟨gb,2,none⟩ c).heap.setIfInBounds mb (pD n L es E))(J:f.os=d.os/\f.tape=d.tape/\f.output=d.output):PG f B (λk=>A k\/A' k) gb mb c W (L++[n])/\Mut (eL gb (some mb) nv) w f/\zZ w nv c:=by have N:=h.lo gb (.inl rfl);have O:=h.lo mb (.inr (.inl rfl));have hz4:=j.size;have hz5:=l.size;have hz7:f.heap.size=d.heap.size:=by{rw[r];simp};obtain⟨H,R,S⟩:=h.ne;have T:w4.heap[gb]? =w.heap[gb]? :=j.block gb N.2;have U:d.heap[gb]? =w.heap[gb]? :=(l.block gb (by omega) (λe=>R e.symm)).trans T;have m5:d.heap[mb]? =w.heap[mb]? :=(l.block mb (by omega) (λe=>S e.symm)).trans (j.block mb O.2);have old:∀k,k<w.heap.size->¬eL gb (some mb) nv k->f.heap[k]? =w.heap[k]? :=λk hk hm=>by{have aa:k≠gb:=λe=>hm (.inl e);have ab:k≠mb:=λe=>hm (.inr (.inl (by rw[e])));rw[r,AK (λe=>ab e.symm),Aa _ _ _ _ aa];exact(l.block k (by omega) (λe=>hm (.inr (.inr e.symm)))).trans (j.block k hk)};have K:c.ownBlock≠some gb/\c.ownBlock≠some mb:=by{rcases G with e|e;{rw[e];exact⟨R,S⟩};rw[e];exact⟨λe=>by injection e with e;omega,λe=>by injection e with e;omega⟩};have af:∀k,c.ownBlock=some k->B<=k/\k<d.heap.size:=λk e=>World.ownsRow.lt Q k e;refine⟨⟨?_,?_,⟨xs++[(n.op,n.num,hd)],?_,?_⟩,?_,?_,⟨H,K⟩,?_⟩,⟨?_,?_,?_,by omega,old⟩,?_⟩;{rw[r,AK (λe=>H e.symm)];have:=U.trans h.blk;simp[World.setCell,Array.getElem?_modify,this]};{have ac:(d.setCell ⟨gb,2,none⟩ c).heap[mb]? =some (.map es E):=by{rw[Aa _ _ _ _ (λe=>H e.symm)];exact m5.trans V};have:=gD.put ac Y n;exact this.frame (by rw[r])};{refine vD Q λk e=> ?_;rw[r,AK (λg=>K.2 (by rw[e,g])),Aa _ _ _ _ (λg=>K.1 (by rw[e,g]))]};{refine iV.snoc (A:=A) ?_ (λk a=>.inl a) ?_;{exact ae.frame (by omega) λk a=>old k (h.ar k a).2.1 (h.ar k a).2.2};exact(hh.frame (by omega) λk a=>old k (F k a).2.1 (F k a).2.2).mono λk a=>.inr a};{have:=h.ok.ask hn;unfold dW at this;rwa[if_neg ad] at this};{rintro k (rfl|e|e);{exact⟨N.1,by omega⟩};{injection e with e;subst e;exact⟨O.1,by omega⟩};have:=af k e;exact⟨this.1,by omega⟩};{have key:∀k,B<=k/\k<w.heap.size/\¬eL gb (some mb) nv k->B<=k/\k<f.heap.size/\¬eL gb (some mb) c k:=λk ⟨a1,a2,D⟩=>by{refine⟨a1,by omega,?_⟩;rintro(e|e|e);{exact D (.inl e)};{exact D (.inr (.inl e))};rcases G with g|g;{exact D (.inr (.inr (g.symm.trans e)))};rw[g] at e;injection e with e;omega};rintro k (a|a);{exact key k (h.ar k a)};exact key k (F k a)};{rw[J.1,l.os,j.os]};{rw[J.2.1,l.tape,j.tape]};{rw[J.2.2,l.output,j.output]};rcases G with e|e;{exact .inl e};exact .inr ⟨_,e,by omega⟩
def Iy(w:World)(mb:Nat)(ob:Obj):={w with heap:=w.heap.setIfInBounds mb ob}
theorem pO{B w w'}(h:Below B w w') m:Below B w (w'.drewN m):=⟨h.os,h.tape,h.output,h.size,h.block⟩
theorem jn.add{w w4 a d B A A' gb mb nv c W L n hd es g xs}(h:Hid (PG w B A gb mb nv W L))(H:Hid (fZ W L.length n)) (E:Hid (∀k,A' k->B<=k/\k<w.heap.size/\¬eL gb (some mb) nv k))(G:Hid (ip w A' hd n.args))(f:Hid (n∉L)) (D:Below w.heap.size w w4)(N:Hid (iV w A xs L))(J:Hid (Lay.nd.Own 95 a B c (xs++[(n.op,n.num,hd)])))(F:Hid (w4.grownBy a nv.ownBlock))(K:Hid (c.ownBlock=nv.ownBlock\/c.ownBlock=some w4.heap.size)) (l:Hid (w.heap[mb]? =some (.map es g)))(r:Hid ((es.toList.map λe=>(e.key,e.val))=fR L 0)) (j:d.heap=(a.setCell ⟨gb,2,none⟩ c).heap.setIfInBounds mb (pD n L es g))(O:d.os=a.os/\d.tape=a.tape/\d.output=a.output):jn w B A A' gb mb nv W L n (.returned (.tuple #[.int .i64 (L.length:Int),.int .i64 0])) d:=by obtain⟨Q,R,S⟩:=PG.add h.o H.o E.o G.o f.o D N.o J.o F.o K.o l.o r.o j O;exact⟨c,by rw[xu f.o],by rw[dW,if_neg f.o];exact Q,R,S⟩
theorem AZ(L:List Nd) x(h:x∈L):∃i,i<L.length/\L.getD i default=x:=by obtain⟨i,a,e⟩:=List.getElem_of_mem h;exact⟨i,a,by rw[A2,A5 a];exact e⟩
set_option maxRecDepth 100000 in
set_option maxHeartbeats 4000000 in
theorem vE{w B A A' gb mb nv W L}(h:PG w B A gb mb nv W L) n(N:fZ W L.length n){a len cap}(hd:ip w A' (a,len,cap) n.args)
  (aj:∀k,A' k->B<=k/\k<w.heap.size/\¬eL gb (some mb) nv k)(hB:B<=w.heap.size)(hL:L.length<=999):
  Calls Tryz.prog 34 #[.pointer (some ⟨gb,0,none⟩),.agg #[.int .u8 n.op,.int .u64 n.num,.slice a len cap]] w (jn w B A A' gb mb nv W L n):=by
 have R:=(h.lo gb (.inl rfl)).2;have aA:=(h.lo mb (.inr (.inl rfl))).2;obtain⟨r,D,rfl,hcl,hcm⟩:=h.slice;have c0:w.cell? ⟨gb,3,none⟩=some (.map (some mb)):=by simp[World.cell?,h.blk]
 have c1:w.cell? ⟨gb,1,none⟩=some (.int .i64 RM):=by simp[World.cell?,h.blk]
 have c2:w.cell? ⟨gb,2,none⟩=some (.slice r L.length D):=by simp[World.cell?,h.blk]
 have hLi:(L.length:Int)<=999:=by omega
 have hRM:=It;have hrm:¬RM<=(L.length:Int):=by omega
 have aY:n.args.length<=3:=by rw[N.2.2.2.2.1];have:=N.1;unfold arN;(repeat' split)<;>omega
 have HK:=Z (Iv n aY);have aE:Hid (∀m∈L,m.args.length=arN m.op):=Z λx hx=>by
  obtain⟨i,hi,rfl⟩:=AZ L x hx;exact(h.ok i hi).2.2.2.2.1
 have ad:=Z hd.at_;have aZ:len=n.args.length:=hd.len;have f:=Z h;have ar:ip w A' (a,n.args.length,cap) n.args:=by rw[<-aZ];exact hd
 clear hd;go_enter Tryz.func34,Tryz.ntmps34
 go_wp2_with fail
 have O:Below w.heap.size w ((w.alloc (Obj.cells #[Value.int IntKind.u8 n.op,Value.int IntKind.u64 n.num,Value.slice a n.args.length cap] 95)).alloc (Obj.cells #[Value.int IntKind.u8 n.op,Value.int IntKind.u64 n.num,Value.int IntKind.i64 0,Value.int IntKind.i64 0,Value.int IntKind.i64 0] 152)):=
  ((A4 _ _).alloc (A1 _) _).alloc (by simp) _
 have ao:((w.alloc (Obj.cells #[Value.int IntKind.u8 n.op,Value.int IntKind.u64 n.num,Value.slice a n.args.length cap] 95)).alloc (Obj.cells #[Value.int IntKind.u8 n.op,Value.int IntKind.u64 n.num,Value.int IntKind.i64 0,Value.int IntKind.i64 0,Value.int IntKind.i64 0] 152)).heap[w.heap.size+1]? =some (.cells ([Value.int .u8 n.op,.int .u64 n.num,.int .i64 0,.int .i64 0,.int .i64 0]:List Value).toArray 152 (0,0)):=by
  have:=heap_alloc_new (w.alloc (Obj.cells #[Value.int IntKind.u8 n.op,Value.int IntKind.u64 n.num,Value.slice a n.args.length cap] 95)) (Obj.cells #[Value.int IntKind.u8 n.op,Value.int IntKind.u64 n.num,Value.int IntKind.i64 0,Value.int IntKind.i64 0,Value.int IntKind.i64 0] 152);simpa using this
 have al:((w.alloc (Obj.cells #[Value.int IntKind.u8 n.op,Value.int IntKind.u64 n.num,Value.slice a n.args.length cap] 95)).alloc (Obj.cells #[Value.int IntKind.u8 n.op,Value.int IntKind.u64 n.num,Value.int IntKind.i64 0,Value.int IntKind.i64 0,Value.int IntKind.i64 0] 152)).cell? ⟨w.heap.size,0,none⟩=some (.int .u8 (n.op:Int)):=by
  have:=(((A4 (w.heap.size+1) (w.alloc (Obj.cells #[Value.int IntKind.u8 n.op,Value.int IntKind.u64 n.num,Value.slice a n.args.length cap] 95))).alloc (by simp) (Obj.cells #[Value.int IntKind.u8 n.op,Value.int IntKind.u64 n.num,Value.int IntKind.i64 0,Value.int IntKind.i64 0,Value.int IntKind.i64 0] 152)).cell (p:=⟨w.heap.size,0,none⟩) (by show w.heap.size<_;omega))
  rw[this,AC];rfl
 have am:((w.alloc (Obj.cells #[Value.int IntKind.u8 n.op,Value.int IntKind.u64 n.num,Value.slice a n.args.length cap] 95)).alloc (Obj.cells #[Value.int IntKind.u8 n.op,Value.int IntKind.u64 n.num,Value.int IntKind.i64 0,Value.int IntKind.i64 0,Value.int IntKind.i64 0] 152)).cell? ⟨w.heap.size,1,none⟩=some (.int .u64 (n.num:Int)):=by
  have:=(((A4 (w.heap.size+1) (w.alloc (Obj.cells #[Value.int IntKind.u8 n.op,Value.int IntKind.u64 n.num,Value.slice a n.args.length cap] 95))).alloc (by simp) (Obj.cells #[Value.int IntKind.u8 n.op,Value.int IntKind.u64 n.num,Value.int IntKind.i64 0,Value.int IntKind.i64 0,Value.int IntKind.i64 0] 152)).cell (p:=⟨w.heap.size,1,none⟩) (by show w.heap.size<_;omega))
  rw[this,AC];rfl
 have an:((w.alloc (Obj.cells #[Value.int IntKind.u8 n.op,Value.int IntKind.u64 n.num,Value.slice a n.args.length cap] 95)).alloc (Obj.cells #[Value.int IntKind.u8 n.op,Value.int IntKind.u64 n.num,Value.int IntKind.i64 0,Value.int IntKind.i64 0,Value.int IntKind.i64 0] 152)).cell? ⟨w.heap.size,2,none⟩=some (.slice a n.args.length cap):=by
  have:=(((A4 (w.heap.size+1) (w.alloc (Obj.cells #[Value.int IntKind.u8 n.op,Value.int IntKind.u64 n.num,Value.slice a n.args.length cap] 95))).alloc (by simp) (Obj.cells #[Value.int IntKind.u8 n.op,Value.int IntKind.u64 n.num,Value.int IntKind.i64 0,Value.int IntKind.i64 0,Value.int IntKind.i64 0] 152)).cell (p:=⟨w.heap.size,2,none⟩) (by show w.heap.size<_;omega))
  rw[this,AC];rfl
 generalize((w.alloc (Obj.cells #[Value.int IntKind.u8 n.op,Value.int IntKind.u64 n.num,Value.slice a n.args.length cap] 95)).alloc (Obj.cells #[Value.int IntKind.u8 n.op,Value.int IntKind.u64 n.num,Value.int IntKind.i64 0,Value.int IntKind.i64 0,Value.int IntKind.i64 0] 152))=w2 at*
 go_region_law(refine step_copy_splice rfl (.tmp 16) (.tmp 18) 23 23 rfl 3 Tryz.underlying23 (by kernel_rfl) (some ⟨w.heap.size+1,2,none⟩) a 3 3 n.args.length cap rfl rfl (w.heap.size+1) 2 _ 152 (by first|exact ao) (n.args.map λ(x:Nat)=>Value.int .i64 (x:Int)) (by rw[An];exact(Nat.min_eq_left (by omega)).symm) (λhp=>⟨rfl,Iw (ad.o.below (by first|exact O|exact O.drew)) (by simpa using hp)⟩) (by simp;omega) (by intro v hv;obtain⟨x,_,rfl⟩:=Az.1 hv;rfl) (w.heap.size+1) w2 (by first|exact A4 _ _|exact(A4 _ _).drew) (by omega) ?_;intro c ax K)
 have H:Below w.heap.size w c:=O.trans (K.mono (by omega));have l:c.heap[w.heap.size+1]? =some (.cells (jF n).toArray 152 (0,0)):=by rw[<-HK.o];exact ax.o
 have k0:c.cell? ⟨w.heap.size+1,0,none⟩=some (.int .u8 (n.op:Int)):=by simp[World.cell?,l,jF]
 have k1:c.cell? ⟨w.heap.size+1,1,none⟩=some (.int .u64 (n.num:Int)):=by simp[World.cell?,l,jF]
 have k2:c.cell? ⟨w.heap.size+1,2,none⟩=some (.int .i64 ((n.args.getD 0 0:Nat):Int)):=by simp[World.cell?,l,jF]
 have k3:c.cell? ⟨w.heap.size+1,3,none⟩=some (.int .i64 ((n.args.getD 1 0:Nat):Int)):=by simp[World.cell?,l,jF]
 have k4:c.cell? ⟨w.heap.size+1,4,none⟩=some (.int .i64 ((n.args.getD 2 0:Nat):Int)):=by simp[World.cell?,l,jF]
 have c4:c.cell? ⟨gb,3,none⟩=some (.map (some mb)):=(H.cell (p:=⟨gb,3,none⟩) R).trans c0;have aS:c.cell? ⟨gb,1,none⟩=some (.int .i64 RM):=(H.cell (p:=⟨gb,1,none⟩) R).trans c1;have c42:c.cell? ⟨gb,2,none⟩=some (.slice r L.length D):=(H.cell (p:=⟨gb,2,none⟩) R).trans c2;have a4:c.cell? ⟨w.heap.size,0,none⟩=some (.int .u8 (n.op:Int)):=(K.cell (p:=⟨w.heap.size,0,none⟩) (by show w.heap.size<_;omega)).trans al;have a5:c.cell? ⟨w.heap.size,1,none⟩=some (.int .u64 (n.num:Int)):=(K.cell (p:=⟨w.heap.size,1,none⟩) (by show w.heap.size<_;omega)).trans am;have a6:c.cell? ⟨w.heap.size,2,none⟩=some (.slice a n.args.length cap):=(K.cell (p:=⟨w.heap.size,2,none⟩) (by show w.heap.size<_;omega)).trans an;have U:∀m,(Instr.lookup 89 (.map (some mb)) (.agg #[.int .u8 (n.op:Int),.int .u64 (n.num:Int),.int .i64 ((n.args.getD 0 0:Nat):Int),.int .i64 ((n.args.getD 1 0:Nat):Int),.int .i64 ((n.args.getD 2 0:Nat):Int)]) true).run Tryz.prog (c.drewN m)= .ok (.tuple #[.int .i64 (if n∈L then(dO n L:Int) else 0),.bool (decide (n∈L))]) (c.drewN m):=λm=>by
  have aX:gD (c.drewN m) mb L:=f.o.map.frame (H.block mb aA);exact aX.lookup gmT N.2.2.2.2.1 (λx hx=>by
   obtain⟨i,hi,rfl⟩:=AZ L x hx;exact(f.o.ok i hi).2.2.2.2.1)
 have G:=Z H;have HKC:=Z l;have a0:w.heap.size+1<c.heap.size:=by have:=(Al.1 l).1;exact this
 clear H K ax l O ao an al am c0 c1 c2 HK ad;have aL:=Z ar;have ah:=Z N;have ac:=Z aj;clear ar N aj h;by_cases hm:n∈L
 ·rw[if_pos hm,decide_eq_true hm] at U;have HM:=Z hm;clear hm;generalize n.args.getD 0 0=g0 at*;generalize n.args.getD 1 0=g1 at*;generalize n.args.getD 2 0=g2 at*
  go_wp2_with fail
  go_quiet(fail)
  go_wp2_with fail
  go_ret2
  exact⟨_,rfl,(by rw[dW,if_pos HM.o];exact(f.o.more ac.o).below (pO G.o _)),Mut.of_below (pO G.o _),.inl rfl⟩
 rw[if_neg hm,decide_eq_false hm] at U;have HM:=Z hm;clear hm;generalize hg0:n.args.getD 0 0=g0 at*;generalize hg1:n.args.getD 1 0=g1 at*;generalize hg2:n.args.getD 2 0=g2 at*;have aH:=Z hg0;have aI:=Z hg1;have aJ:=Z hg2;clear hg0 hg1 hg2
 go_wp2_with fail
 go_quiet(fail)
 go_wp2_with fail
 go_quiet(fail)
 go_wp2_with fail
 obtain⟨es,ai,au,aw⟩:=f.o.map.ents;have ae:=Z au;have af:=Z aw;have aF:Hid (n.args.length=arN n.op):=Z ah.o.2.2.2.2.1;clear au aw;obtain⟨xs,aC,ab⟩:=f.o.nds;have aR:=Z ab;have hxl:xs.length<=999:=by rw[ab.len];exact hL
 have aP:Hid (Lay.nd.Own 95 c B (.slice r L.length D) xs):=Z (vD aC λk e=>G.o.block k (f.o.lo k (.inr (.inr e))).2);have T:=Z f.o.ne;have aK:Hid (c.heap[gb]? =some (.cells #[.int .i64 W,.int .i64 RM,.slice r L.length D,.map (some mb)] 91 (0,0))):=Z ((G.o.block gb R).trans f.o.blk);have ay:gb<c.heap.size:=by omega
 have hsz4:w.heap.size<c.heap.size:=by omega
 have aU:∀m ob,((c.drewN m).alloc ob).cell? ⟨gb,2,none⟩=some (.slice r L.length D):=λm ob=>(Ah (a:=⟨gb,2,none⟩) (Ax (c.drewN m) ob gb ay)).trans c42
 clear aC ab
 go_region_law(refine Ix rfl (.tmp 50) (.tmp 52) rfl (n.op,n.num,a,n.args.length,cap) rfl (by first|exact(show Lay.nd.Own 95 _ B _ _ from aP.o).alloc _) rfl (by first|exact zT _ _ 95) (by omega) (by first|(simp;done)|(simp;omega)|omega) ?_;intro v' g aa Y aD;obtain⟨E,F,aq,_,_,_⟩:=aa.at_ (d:=default);generalize hl9:(xs++[(n.op,n.num,(a,n.args.length,cap))]).length=l9 at aq;subst aq;have aO:=Z aa;have S:=Z Y;have aQ:=Z aD;clear hl9;have Q:g.heap[gb]? =some (.cells #[.int .i64 W,.int .i64 RM,.slice r L.length D,.map (some mb)] 91 (0,0)):=(Y.block gb (by first|(simp;done)|(simp;omega)|omega) (λe=>T.o.2.1 e.symm)).trans ((Ax _ _ gb (by exact ay)).trans aK.o);have aT:g.cell? ⟨gb,2,none⟩=some (.slice r L.length D):=(by simp[World.cell?,Q]);have aV:g.frozen? ⟨gb,2,none⟩=false:=(by simp[World.frozen?,Q]);have aG:=Z Q;clear aa Y aD Q)
 all_goals
  have aB:∀k,(Value.slice r L.length D).ownBlock=some k->k<w.heap.size:=λk e=>(f.o.lo k (.inr (.inr e))).2
  have aW:gb≠w.heap.size+1:=by omega
  have J:∀j,(g.setCell ⟨gb,2,none⟩ (.slice E l9 F)).cell? ⟨w.heap.size+1,j,none⟩=c.cell? ⟨w.heap.size+1,j,none⟩:=λj=>Ah (a:=⟨w.heap.size+1,j,none⟩) ((Aa _ _ _ _ (λe=>aW e.symm)).trans ((S.o.block (w.heap.size+1) (by first|(simp;done)|(simp;omega)|omega) (λe=>by have:=aB _ e.symm;omega)).trans (Ax _ _ _ (by exact a0))))
  have az:(g.setCell ⟨gb,2,none⟩ (.slice E l9 F)).heap[mb]? =some (.map es ai):=(Aa _ _ _ _ (λe=>T.o.1 e.symm)).trans ((S.o.block mb (by first|(simp;done)|(simp;omega)|omega) (λe=>T.o.2.2 e.symm)).trans ((Ax _ _ _ (by show mb<c.heap.size;omega)).trans ((G.o.block mb aA).trans ae.o)));have q0:=(J 0).trans k0;have q1:=(J 1).trans k1;have q2:=(J 2).trans k2;have q3:=(J 3).trans k3;have q4:=(J 4).trans k4;have q5:(g.setCell ⟨gb,2,none⟩ (.slice E l9 F)).cell? ⟨gb,3,none⟩=some (.map (some mb)):=by
   have:=aG.o;simp[World.cell?,World.setCell,Array.getElem?_modify,this]
  have aN:=Z az;have aM:Hid (fK n= .agg #[.int .u8 (n.op:Int),.int .u64 (n.num:Int),.int .i64 (g0:Int),.int .i64 (g1:Int),.int .i64 (g2:Int)]):=Z (by rw[<-aH.o,<-aI.o,<-aJ.o];rfl);have V:∀w',Hid (w'.heap=(g.setCell ⟨gb,2,none⟩ (.slice E l9 F)).heap)->(Instr.mapUpdate 89 (.map (some mb)) (.agg #[.int .u8 (n.op:Int),.int .u64 (n.num:Int),.int .i64 (g0:Int),.int .i64 (g1:Int),.int .i64 (g2:Int)]) (.int .i64 (L.length:Int))).run Tryz.prog w'= .ok () (Iy w' mb (pD n L es ai)):=λw' a3=>by
   have:=gD.update (w:=w') gmT (by rw[a3.o];exact aN.o) af.o aF.o aE.o HM.o;rw[aM.o] at this;exact this
  have hUp1:=V (g.setCell ⟨gb,2,none⟩ (.slice E l9 F)).drew (Z rfl);have hUp2:=V (g.setCell ⟨gb,2,none⟩ (.slice E l9 F)) (Z rfl);clear V;clear aB J az k0 k1 k2 k3 k4 c4 aS c42 aU aT aV U a4 a5 a6;generalize hw6:g.setCell ⟨gb,2,none⟩ (.slice E l9 F)=w6 at*;have HW:=Z hw6;clear hw6
  go_wp2_with fail
  go_still_tail 6,(by kernel_rfl)
  go_wp2_with fail
  all_goals
   go_wp2_with fail
   go_ret2
   exact jn.add f ah ac aL HM ((pO G.o _).alloc (by show w.heap.size<=c.heap.size;omega) _) aR aO S aQ ae af (by rw[HW.o];rfl) (by rw[<-HW.o];exact⟨rfl,rfl,rfl⟩)
