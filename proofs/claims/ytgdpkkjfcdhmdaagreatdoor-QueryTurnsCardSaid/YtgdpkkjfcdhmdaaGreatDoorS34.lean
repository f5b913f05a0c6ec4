/- Walks: the rules of simp, each as it is called. -/
import Derived.Test.YtgdpkkjfcdhmdaaGreatDoorS0
import Derived.Test.YtgdpkkjfcdhmdaaGreatDoorS33
import Derived.Test.YtgdpkkjfcdhmdaaGreatDoorS14
import Derived.Test.YtgdpkkjfcdhmdaaGreatDoorS22
import Derived.KernelRfl
import Derived.StillTailTactics
namespace Go.Proofs.YtgdpkkjfcdhmdaaGreatDoor
open Go.RowKit
def ruleFn:Rule->Nat
 | .twice=>131
 | .neutral _=>171
 | .fixed .. =>174
 | .equal _=>173
 | .both=>136
 | .full _=>175
 | .beyond=>137
def ruleCaps:Rule->List Value
 | .neutral v=>[.int .u64 (.ofNat v)]
 | .fixed i v z=>[.int .i64 (.ofNat i),.int .u64 (.ofNat v),.int .u64 (.ofNat z)]
 | .equal v=>[.int .u64 (.ofNat v)]
 | .full k=>[.int .u8 (.ofNat k)]
 |_=>[]
inductive CapsAt (w:World):List Value->List Value->Prop
 |nil:CapsAt w [] []
 |cons {p:Addr} {x:Value} {cs xs:List Value}:p.block<w.heap.size->w.cell? p=some x->CapsAt w cs xs->CapsAt w (.pointer (some p)::cs) (x::xs)
theorem CapsAt.mono{w w':World}{cs xs:List Value}(h:CapsAt w cs xs)(hb:Below w.heap.size w w'):CapsAt w' cs xs:=by
 induction h with
 |nil=>exact .nil
 |cons hl hc _ ih=>exact .cons (Nat.lt_of_lt_of_le hl hb.size) ((hb.cell hl).trans hc) ih
def RuleAt(w:World)(f:Value)(r:Rule):Prop:=∃cs,f= .func (.func (ruleFn r)) #[] ⟨cs⟩/\CapsAt w cs (ruleCaps r)
theorem RuleAt.below{w w':World}{f:Value}{r:Rule}(h:RuleAt w f r)(hb:Below w.heap.size w w'):RuleAt w' f r:=h.imp λ _ ⟨a,b⟩=>⟨a,b.mono hb⟩
def RulesAt(w:World)(v:Value)(rs:List Rule):Prop:=∃b o cap,v= .slice (some ⟨b,o,none⟩) rs.length cap/\b<w.heap.size/\∀i r,rs[i]? =some r->∃f,w.cell? ⟨b,o+i,none⟩=some f/\RuleAt w f r
namespace Cr
noncomputable def cellB(H:AH)(i k:Nat)(x:Value):Bool:=match H.get i with
 |some (.cells _ n zl zs t)=>Nat.blt k n&&(scalar x&&veq 6 (cellv zl zs t k) x)
 |_=>false
theorem cell_at{G B:Nat}{w0 w:World}{H:AH}{μ:Mu}(hr:HR G B w0 H μ w){i n zl:Nat}{zs:List Value}{t:Tr Value}{rw:Bool}(h:H.get i=some (.cells rw n zl zs t)){b o:Nat}(hm:μ i=some (b,o)){k:Nat}(hk:k<n):
  b<w.heap.size/\∃v',w.cell? ⟨b,o+k,none⟩=some v'/\VR μ (cellv zl zs t k) v':=by
 obtain⟨cur,e,fz,h1,_,h2⟩:=hr.blk i _ h b o hm;obtain⟨v',h3,h4⟩:=h2 k hk;exact⟨(Array.getElem?_eq_some_iff.1 h1).1,v',by simp[World.cell?,h1,h3],h4⟩
theorem cellB_ok{G B:Nat}{w0 w:World}{H:AH}{μ:Mu}(hr:HR G B w0 H μ w){i k:Nat}{x:Value}(h:cellB H i k x=true){b o:Nat}(hm:μ i=some (b,o)):b<w.heap.size/\w.cell? ⟨b,o+k,none⟩=some x:=by
 unfold cellB at h
 split at h
 ·rename_i hg;simp only[Bool.and_eq_true] at h;obtain⟨h1,h2,h3⟩:=h;obtain⟨a1,v',a2,a3⟩:=cell_at hr hg hm (Nat.le_of_ble_eq_true h1);rw[veq_eq 6 _ _ h3] at a3;rw[scalar_inv h2 a3] at a2;exact⟨a1,a2⟩
 ·cases h
noncomputable def capsB(H:AH):List Value->List Value->Bool
 |c::cs,x::xs=>(match c with
  | .pointer (some ⟨j,0,none⟩)=>cellB H j 0 x
  |_=>false)&&capsB H cs xs
 |[],[]=>true
 |_,_=>false
theorem capsB_ok{G B:Nat}{w0 w:World}{H:AH}{μ:Mu}(hr:HR G B w0 H μ w):∀{cs xs cs':List Value},capsB H cs xs=true->LR μ cs cs'->CapsAt w cs' xs
 |[],[],cs',_,hl=>by
  obtain rfl:=hl.nil_inv;exact .nil
 |[],_::_,_,h,_=>by cases h
 |_::_,[],_,h,_=>by cases h
 |c::cs,x::xs,cs',h,hl=>by
  unfold capsB at h;rw[Bool.and_eq_true] at h;obtain⟨h1,h2⟩:=h;obtain⟨c',r,rfl,k1,k2⟩:=hl.cons_inv;have ih:=capsB_ok hr h2 k2
  split at h1
  ·rename_i j;cases k1 with
   |ptr i b o off hm=>
    obtain⟨a1,a2⟩:=cellB_ok hr h1 hm;exact .cons a1 a2 ih
  ·cases h1
noncomputable def ruleB(H:AH)(f:Value)(r:Rule):Bool:=match f with
 | .func (.func g) ⟨[]⟩ ⟨cs⟩=>Nat.beq g (ruleFn r)&&capsB H cs (ruleCaps r)
 |_=>false
theorem ruleB_ok{G B:Nat}{w0 w:World}{H:AH}{μ:Mu}(hr:HR G B w0 H μ w){f f':Value}{r:Rule}(h:ruleB H f r=true)(hv:VR μ f f'):RuleAt w f' r:=by
 unfold ruleB at h
 split at h
 ·rename_i g cs;rw[Bool.and_eq_true] at h;obtain⟨h1,h2⟩:=h;have h1:=Nat.eq_of_beq_eq_true h1;subst h1;cases hv with
  |func fn f c f' c' hy hl hc k1 k2=>
   obtain rfl:f'=[]:=by simpa using hl.symm
   exact⟨c',rfl,capsB_ok hr h2 ⟨hc,k2⟩⟩
 ·cases h
noncomputable def restB(H:AH)(i:Nat):Nat->List Rule->Bool
 |_,[]=>true
 |k,r::rs=>(match H.get i with
  |some (.cells _ n zl zs t)=>Nat.blt k n&&ruleB H (cellv zl zs t k) r
  |_=>false)&&restB H i (k+1) rs
theorem restB_ok{G B:Nat}{w0 w:World}{H:AH}{μ:Mu}(hr:HR G B w0 H μ w){i b o:Nat}(hm:μ i=some (b,o)):∀{rs:List Rule} {k:Nat},restB H i k rs=true->∀j r,rs[j]? =some r->b<w.heap.size/\∃f,w.cell? ⟨b,o+(k+j),none⟩=some f/\RuleAt w f r
 |[],k,_,j,r,hj=>by simp at hj
 |s::rs,k,h,j,r,hj=>by
  unfold restB at h;rw[Bool.and_eq_true] at h;obtain⟨h1,h2⟩:=h;cases j with
  |zero=>
   obtain rfl:s=r:=by simpa using hj
   split at h1
   ·rename_i hg;rw[Bool.and_eq_true] at h1;obtain⟨a1,v',a2,a3⟩:=cell_at hr hg hm (Nat.le_of_ble_eq_true h1.1);exact⟨a1,v',a2,ruleB_ok hr h1.2 a3⟩
   ·cases h1
  |succ j=>
   have:=restB_ok hr hm h2 j r (by simpa using hj);rwa[show k+1+j=k+(j+1) by omega] at this
noncomputable def rulesB(o:Nat):Bool:=match callX 104 [.int .u8 (.ofNat o)] ⟨.nil,4⟩ with
 | .ok (.slice (some ⟨i,0,none⟩) n _) H=>Nat.beq n (rulesN o).length&&(Nat.blt 0 n&&restB H i 0 (rulesN o))
 |_=>false
set_option maxRecDepth 1000000 in
theorem rules_all:(List.range 19).all (λ k=>rulesB (Nat.add k 2))=true:=by kernel_rfl
theorem rules104(o:Nat)(h1:2<=o)(h2:o<=20)(w:World):Calls Tryz.prog 104 #[.int .u8 o] w λ e w'=>∃v,e= .returned v/\RulesAt w' v (rulesN o)/\Below w.heap.size w w':=by
 have h:=List.all_eq_true.1 rules_all (o-2) (List.mem_range.2 (by omega));have e:Nat.add (o-2) 2=o:=by show o-2+2=o;omega
 simp only[e] at h;unfold rulesB at h
 split at h
 ·rename_i i n c H hrun;simp only[Bool.and_eq_true] at h;obtain⟨h3,h4,h5⟩:=h;have h3:=Nat.eq_of_beq_eq_true h3;refine(calls_of_call callX_ok hrun (LR.scalars (μ:=muG) rfl) hr_none).mono ?_;rintro e w' ⟨v',μ',rfl,hv,nx⟩;refine⟨v',rfl,?_,nx.hr.below⟩;have hn:0<n:=Nat.le_of_ble_eq_true h4;cases hv with
  |sl i b o' off n' c' c'' hm hc=>
   have hk:(rulesN o)[0]? =some ((rulesN o)[0]'(by omega)):=List.getElem?_eq_getElem (by omega);refine⟨b,o',c'',by rw[<-h3];rfl,(restB_ok nx.hr hm h5 0 _ hk).1,λ j r hj=> ?_⟩;obtain⟨_,f,k1,k2⟩:=restB_ok nx.hr hm h5 j r hj;exact⟨f,by rwa[Nat.zero_add] at k1,k2⟩
 ·cases h
end Cr
end Go.Proofs.YtgdpkkjfcdhmdaaGreatDoor
namespace Go.Proofs.YtgdpkkjfcdhmdaaGreatDoor
open Go.RowKit
structure XAt (w:World) (xb gb o:Nat) (xs ns:List Nat) (bs:List Bool):Prop where
 low:xb<w.heap.size
 c0:w.cell? ⟨xb,0,none⟩=some (.pointer (some ⟨gb,0,none⟩))
 c1:w.cell? ⟨xb,1,none⟩=some (.int .u8 (o:Nat))
 a:∃b cap,b<w.heap.size/\w.cell? ⟨xb,2,none⟩=some (.slice (some ⟨b,0,none⟩) xs.length cap)/\∀i,i<xs.length->w.cell? ⟨b,i,none⟩=some (.int .i64 (xs.getD i 0:Nat))
 n:∃b cap,b<w.heap.size/\w.cell? ⟨xb,3,none⟩=some (.slice (some ⟨b,0,none⟩) ns.length cap)/\∀i,i<ns.length->w.cell? ⟨b,i,none⟩=some (.int .u64 (ns.getD i 0:Nat))
 b:∃b cap,b<w.heap.size/\w.cell? ⟨xb,4,none⟩=some (.slice (some ⟨b,0,none⟩) bs.length cap)/\∀i,i<bs.length->w.cell? ⟨b,i,none⟩=some (.bool (bs.getD i false))
theorem XAt.below{w w':World}{xb gb o:Nat}{xs ns:List Nat}{bs:List Bool}(h:XAt w xb gb o xs ns bs)(hb:Below w.heap.size w w'):XAt w' xb gb o xs ns bs:=by
 obtain⟨h1,h2,h3,⟨b1,d1,a1,a2,a3⟩,⟨b2,d2,e1,e2,e3⟩,⟨b3,d3,f1,f2,f3⟩⟩:=h;have hc:∀(b i:Nat),b<w.heap.size->w'.cell? ⟨b,i,none⟩=w.cell? ⟨b,i,none⟩:=λ b i hl=>hb.cell (p:=⟨b,i,none⟩) hl
 exact⟨Nat.lt_of_lt_of_le h1 hb.size,(hc _ _ h1).trans h2,(hc _ _ h1).trans h3,⟨b1,d1,Nat.lt_of_lt_of_le a1 hb.size,(hc _ _ h1).trans a2,λ i hi=>(hc _ _ a1).trans (a3 i hi)⟩,⟨b2,d2,Nat.lt_of_lt_of_le e1 hb.size,(hc _ _ h1).trans e2,λ i hi=>(hc _ _ e1).trans (e3 i hi)⟩,⟨b3,d3,Nat.lt_of_lt_of_le f1 hb.size,(hc _ _ h1).trans f2,λ i hi=>(hc _ _ f1).trans (f3 i hi)⟩⟩
section
variable {w:World} {xb gb o:Nat} {xs ns:List Nat} {bs:List Bool}
set_option maxHeartbeats 1000000 in
theorem number172(h:XAt w xb gb o xs ns bs)(i:Nat)(hi1:i<ns.length)(hi2:i<bs.length)(v:Nat):Calls Tryz.prog 172 #[.pointer (some ⟨xb,0,none⟩),.int .i64 i,.int .u64 v] w λ e w'=>e= .returned (.bool (bs.getD i false&&ns.getD i 0==v))/\w=w':=by
 obtain⟨nb,nc,n1,n2,n3⟩:=h.n;obtain⟨bb,bc,b1,b2,b3⟩:=h.b;have c1:=n3 i hi1;have c2:=b3 i hi2;have l1:(i:Int)<ns.length:=by omega
 have l2:(i:Int)<bs.length:=by omega
 clear n3 b3 h hi1 hi2;generalize ns.getD i 0=x at*;generalize bs.getD i false=y at*;have HE:Hid ((((x:Nat):Int)==((v:Nat):Int))=(x==v)):=Z (by
  by_cases e:x=v
  ·subst e;simp
  ·rw[beq_eq_false_iff_ne.2 e,beq_eq_false_iff_ne.2 (by omega)])
 cases y with
 |false=>
  go_enter Tryz.func172,Tryz.ntmps172
  go_wp2_with fail
  go_ret
  exact⟨rfl,rfl⟩
 |true=>
  rw[Bool.true_and,<-HE.o];go_enter Tryz.func172,Tryz.ntmps172
  go_wp2_with fail
  go_ret
  exact⟨rfl,rfl⟩
theorem width72{W:Nat}{L:List Nd}(h:RV w gb W L):Calls Tryz.prog 72 #[.pointer (some ⟨gb,0,none⟩)] w λ e w'=>e= .returned (.int .i64 (W:Nat))/\w=w':=by
 have c0:=h.c0;clear h;go_enter Tryz.func72,Tryz.ntmps72
 go_wp2_with fail
 go_ret
 exact⟨rfl,rfl⟩
theorem ones176{W:Nat}{L:List Nd}(hg:RV w gb W L)(h1:1<=W)(h2:W<=64)(h:XAt w xb gb o xs ns bs):Calls Tryz.prog 176 #[.pointer (some ⟨xb,0,none⟩)] w λ e w'=>e= .returned (.int .u64 ((2^W-1:Nat):Int))/\w=w':=by
 have c0:=h.c0;have HWD:=Z (width72 hg);have HT:=trim68 W 18446744073709551615 w h1 h2 (by decide);have e:18446744073709551615%2^W=2^W-1:=by
  have hp:=pow_le h2;have h0:=Nat.two_pow_pos W;have:=pow_dvd h2;obtain⟨k,hk⟩:=this;have hk0:0<k:=by
   rcases Nat.eq_zero_or_pos k with rfl|h
   ·simp at hk
   ·exact h
  have:18446744073709551615=(2^W-1)+2^W*(k-1):=by
   rw[Nat.mul_sub,<-hk];omega
  rw[this,Nat.add_mul_mod_self_left,Nat.mod_eq_of_lt (by omega)]
 rw[e] at HT;have HT:=Z HT;clear h hg h1 h2 e;go_enter Tryz.func176,Tryz.ntmps176
 go_wp2_with(first|(go_at_call 72;refine HWD.o.mono ?_;rintro e w' ⟨rfl,rfl⟩)|(go_at_call 74;refine HT.o.mono ?_;rintro e W' ⟨rfl,rfl⟩))
 go_ret
 exact⟨rfl,rfl⟩
end
def AnsR(x:Ans)(v:Value):Prop:=match x with
 | .no=>∃t u:Int,v= .agg #[.int .u8 0,.int .i64 t,.int .u64 u]
 | .same s=>∃u:Int,v= .agg #[.int .u8 1,.int .i64 (s:Nat),.int .u64 u]
 | .known n=>∃t:Int,v= .agg #[.int .u8 2,.int .i64 t,.int .u64 (n:Nat)]
 | .not s=>∃u:Int,v= .agg #[.int .u8 3,.int .i64 (s:Nat),.int .u64 u]
def AnsP(w:World)(x:Ans)(e:Ending)(w':World):Prop:=∃v,e= .returned v/\AnsR x v/\Below w.heap.size w w'
structure XOk (L:List Nd) (xs ns:List Nat) (bs:List Bool):Prop where
 ln:ns.length=xs.length
 lb:bs.length=xs.length
 b:∀i,i<xs.length->bs.getD i false=isC L (xs.getD i 0)
 n:∀i,i<xs.length->isC L (xs.getD i 0)=true->ns.getD i 0=numC L (xs.getD i 0)
theorem XOk.num{L:List Nd}{xs ns:List Nat}{bs:List Bool}(h:XOk L xs ns bs){i:Nat}(hi:i<xs.length)(v:Nat):(bs.getD i false&&ns.getD i 0==v)=numIs L (xs.getD i 0) v:=by
 rw[h.b i hi];unfold numIs;cases hc:isC L (xs.getD i 0) with
 |false=>rfl
 |true=>rw[h.n i hi hc]
theorem bel3{w:World}(ob:Obj)(n:Nat)(v0 v1 v2:Value):Below w.heap.size w (((((w.alloc ob).drewN n).setCell ⟨w.heap.size,0,none⟩ v0).setCell ⟨w.heap.size,1,none⟩ v1).setCell ⟨w.heap.size,2,none⟩ v2):=by
 have h:Below w.heap.size w ((w.alloc ob).drewN n):=below_drewN ((Below.refl _ _).alloc (Nat.le_refl _) _) n;exact((h.setCell (p:=⟨w.heap.size,0,none⟩) (Nat.le_refl _) v0).setCell (p:=⟨w.heap.size,1,none⟩) (Nat.le_refl _) v1).setCell (p:=⟨w.heap.size,2,none⟩) (Nat.le_refl _) v2
theorem bel3'{w w1:World}(h:Below w.heap.size w w1)(v0 v1 v2:Value):Below w.heap.size w (((w1.setCell ⟨w.heap.size,0,none⟩ v0).setCell ⟨w.heap.size,1,none⟩ v1).setCell ⟨w.heap.size,2,none⟩ v2):=
 ((h.setCell (p:=⟨w.heap.size,0,none⟩) (Nat.le_refl _) v0).setCell (p:=⟨w.heap.size,1,none⟩) (Nat.le_refl _) v1).setCell (p:=⟨w.heap.size,2,none⟩) (Nat.le_refl _) v2
theorem below_rec{B:Nat}{w w1:World}(h:Below B w w1)(n:Nat):Below B w {w1 with drawn:=n}:=⟨h.os,h.tape,h.output,h.size,h.block⟩
abbrev A3(w:World):World:=w.alloc (.cells #[.int .u8 0,.int .i64 0,.int .u64 0] 224)
section
variable {w:World} {xb gb o W a b:Nat} {ns:List Nat} {bs:List Bool} {L:List Nd}
theorem rule_pre{W1:World}(e:W1=A3 w)(h:XAt w xb gb o [a,b] ns bs):Hid (Below w.heap.size w W1)/\XAt W1 xb gb o [a,b] ns bs/\W1.cell? ⟨xb,0,none⟩=some (.pointer (some ⟨gb,0,none⟩))/\∃d cap,d<W1.heap.size/\W1.cell? ⟨xb,2,none⟩=some (.slice (some ⟨d,0,none⟩) 2 cap)/\W1.cell? ⟨d,0,none⟩=some (.int .i64 (a:Nat))/\W1.cell? ⟨d,1,none⟩=some (.int .i64 (b:Nat)):=by
 subst e;have hb:Below w.heap.size w (A3 w):=(Below.refl w.heap.size w).alloc (Nat.le_refl _) _;have h:=h.below hb;obtain⟨d,cap,a1,a2,a3⟩:=h.a;exact⟨Z hb,h,h.c0,d,cap,a1,a2,a3 0 (by simp),a3 1 (by simp)⟩
theorem num_pre(h:XAt w xb gb o [a,b] ns bs)(hx:XOk L [a,b] ns bs)(i v:Nat)(hi:i<2):Calls Tryz.prog 172 #[.pointer (some ⟨xb,0,none⟩),.int .i64 i,.int .u64 v] (A3 w) λ e w''=>e= .returned (.bool (numIs L (if i=0 then a else b) v))/\A3 w=w'':=by
 have:=number172 (h.below ((Below.refl w.heap.size w).alloc (Nat.le_refl _) (.cells #[.int .u8 0,.int .i64 0,.int .u64 0] 224))) i (by rw[hx.ln];exact hi) (by rw[hx.lb];exact hi) v;rw[hx.num (show i<2 from hi)] at this;have ei:[a,b].getD i 0=if i=0 then a else b:=by
  have:i=0\/i=1:=by omega
  rcases this with rfl|rfl<;>rfl
 rw[ei] at this;exact this
theorem rule_neutral(h:XAt w xb gb o [a,b] ns bs)(hx:XOk L [a,b] ns bs)(v:Nat){p:Addr}(hp:w.cell? p=some (.int .u64 (v:Nat)))(hpl:p.block<w.heap.size):Calls Tryz.prog 171 #[.pointer (some ⟨xb,0,none⟩),.pointer (some p)] w (AnsP w (ruleA W L o a b (.neutral v))):=by
 simp only[ruleA];have HN:=Z (num_pre h hx 1 v (by decide));rw[if_neg (by decide)] at HN;obtain⟨HB,HXA,HX0,ab,ac,a1,a2,c0,c1⟩:=rule_pre rfl h;have hxl:=h.low;have hp':=(HB.o.cell hpl).trans hp;clear HXA h hp hx;generalize numIs L b v=q at*;cases q
 all_goals
  simp only[Bool.false_eq_true,if_false,if_true];go_enter Tryz.func171,Tryz.ntmps171
  go_wp2_with(go_at_call 172;refine HN.o.mono ?_;rintro e w' ⟨rfl,rfl⟩)
  (try simp only[Exit.inBlock,Exit.then])
  refine bodyPost_ret (by simp[results,Tryz.results171,go_sem,Result.andThen];try rfl) rfl ?_;exact⟨_,rfl,by first|exact⟨_,rfl⟩|exact⟨_,_,rfl⟩,(Below.refl _ _).alloc (Nat.le_refl _) _⟩
theorem rule_fixed(h:XAt w xb gb o [a,b] ns bs)(hx:XOk L [a,b] ns bs)(i v z:Nat)(hi:i<2){p:Addr}(hp:w.cell? p=some (.int .i64 (i:Nat)))(hpl:p.block<w.heap.size){p2:Addr}(hp2:w.cell? p2=some (.int .u64 (v:Nat)))(hp2l:p2.block<w.heap.size){p3:Addr}(hp3:w.cell? p3=some (.int .u64 (z:Nat)))(hp3l:p3.block<w.heap.size):Calls Tryz.prog 174 #[.pointer (some ⟨xb,0,none⟩),.pointer (some p),.pointer (some p2),.pointer (some p3)] w (AnsP w (ruleA W L o a b (.fixed i v z))):=by
 simp only[ruleA];have HN:=Z (num_pre h hx i v hi);obtain⟨HB,HXA,HX0,ab,ac,a1,a2,c0,c1⟩:=rule_pre rfl h;have hxl:=h.low;have hp':=(HB.o.cell hpl).trans hp;have hp2':=(HB.o.cell hp2l).trans hp2;have hp3':=(HB.o.cell hp3l).trans hp3;clear HXA h hp hp2 hp3 hx hi;generalize numIs L (if i=0 then a else b) v=q at*;cases q
 all_goals
  simp only[Bool.false_eq_true,if_false,if_true];go_enter Tryz.func174,Tryz.ntmps174
  go_wp2_with(go_at_call 172;refine HN.o.mono ?_;rintro e w' ⟨rfl,rfl⟩)
  (try simp only[Exit.inBlock,Exit.then])
  refine bodyPost_ret (by simp[results,Tryz.results174,go_sem,Result.andThen];try rfl) rfl ?_;exact⟨_,rfl,by first|exact⟨_,rfl⟩|exact⟨_,_,rfl⟩,(Below.refl _ _).alloc (Nat.le_refl _) _⟩
theorem rule_equal(h:XAt w xb gb o [a,b] ns bs)(v:Nat){p:Addr}(hp:w.cell? p=some (.int .u64 (v:Nat)))(hpl:p.block<w.heap.size):Calls Tryz.prog 173 #[.pointer (some ⟨xb,0,none⟩),.pointer (some p)] w (AnsP w (ruleA W L o a b (.equal v))):=by
 simp only[ruleA];obtain⟨HB,HXA,HX0,ab,ac,a1,a2,c0,c1⟩:=rule_pre rfl h;have hxl:=h.low;have hp':=(HB.o.cell hpl).trans hp;clear HXA h hp;have hd:(((a:Nat):Int)==((b:Nat):Int))=decide (a=b):=by rw[Bool.eq_iff_iff,beq_iff_eq,decide_eq_true_eq];omega
 by_cases e:a=b
 all_goals
  first|rw[if_pos e]|rw[if_neg e]
  first|replace hd:=hd.trans (decide_eq_true e)|replace hd:=hd.trans (decide_eq_false e)
  clear e;go_enter Tryz.func173,Tryz.ntmps173
  go_wp2_with fail
  go_quiet(fail)
  go_wp2_with fail
  (try simp only[Exit.inBlock,Exit.then])
  refine bodyPost_ret (by simp[results,Tryz.results173,go_sem,Result.andThen];try rfl) rfl ?_;exact⟨_,rfl,by first|exact⟨_,rfl⟩|exact⟨_,_,rfl⟩,by first|exact(Below.refl _ _).alloc (Nat.le_refl _) _|exact bel3 _ _ _ _ _⟩
theorem rule_both(h:XAt w xb gb o [a,b] ns bs):Calls Tryz.prog 136 #[.pointer (some ⟨xb,0,none⟩)] w (AnsP w (ruleA W L o a b .both)):=by
 simp only[ruleA];obtain⟨HB,HXA,HX0,ab,ac,a1,a2,c0,c1⟩:=rule_pre rfl h;have hxl:=h.low;clear HXA h;have hd:(((a:Nat):Int)==((b:Nat):Int))=decide (a=b):=by rw[Bool.eq_iff_iff,beq_iff_eq,decide_eq_true_eq];omega
 by_cases e:a=b
 all_goals
  first|rw[if_pos e]|rw[if_neg e]
  first|replace hd:=hd.trans (decide_eq_true e)|replace hd:=hd.trans (decide_eq_false e)
  clear e;go_enter Tryz.func136,Tryz.ntmps136
  go_wp2_with fail
  go_quiet(fail)
  go_wp2_with fail
  (try simp only[Exit.inBlock,Exit.then])
  refine bodyPost_ret (by simp[results,Tryz.results136,go_sem,Result.andThen];try rfl) rfl ?_;exact⟨_,rfl,by first|exact⟨_,rfl⟩|exact⟨_,_,rfl⟩,by first|exact(Below.refl _ _).alloc (Nat.le_refl _) _|exact bel3 _ _ _ _ _⟩
set_option maxRecDepth 10000 in
theorem rule_full(hg:RV w gb W L)(hW1:1<=W)(hW2:W<=64)(h:XAt w xb gb o [a,b] ns bs)(hx:XOk L [a,b] ns bs)(k:Nat)(hk:k=1\/k=2\/k=3){p:Addr}(hp:w.cell? p=some (.int .u8 (k:Nat)))(hpl:p.block<w.heap.size):Calls Tryz.prog 175 #[.pointer (some ⟨xb,0,none⟩),.pointer (some p)] w (AnsP w (ruleA W L o a b (.full k))):=by
 simp only[ruleA];have HN:=Z (num_pre h hx 1 (2^W-1) (by decide));rw[if_neg (by decide)] at HN;have HO:Hid (∀w',Below w.heap.size w w'->Calls Tryz.prog 176 #[.pointer (some ⟨xb,0,none⟩)] w' λ e w''=>e= .returned (.int .u64 ((2^W-1:Nat):Int))/\w'=w''):=Z λ w' hb=>ones176 (hg.below hb) hW1 hW2 (h.below hb)
 have HO1:=Z (HO.o _ (show Below w.heap.size w (A3 w) from(Below.refl w.heap.size w).alloc (Nat.le_refl _) _));obtain⟨HB,HXA,HX0,ab,ac,a1,a2,c0,c1⟩:=rule_pre rfl h;have hxl:=h.low;have hp':=(HB.o.cell hpl).trans hp;clear HXA h hp hx hg hW1 hW2;generalize numIs L b (2^W-1)=q at*;generalize 2^W-1=m at*;cases q with
 |false=>
  simp only[Bool.false_eq_true,if_false];clear hk;go_enter Tryz.func175,Tryz.ntmps175
  go_wp2_with(first|(go_at_call 176;refine HO1.o.mono ?_;rintro e w' ⟨rfl,rfl⟩)|(go_at_call 172;refine HN.o.mono ?_;rintro e w' ⟨rfl,rfl⟩))
  (try simp only[Exit.inBlock,Exit.then])
  refine bodyPost_ret (by simp[results,Tryz.results175,go_sem,Result.andThen];try rfl) rfl ?_;exact⟨_,rfl,by first|exact⟨_,rfl⟩|exact⟨_,_,rfl⟩,(Below.refl _ _).alloc (Nat.le_refl _) _⟩
 |true=>
  rw[if_pos rfl];have HA:Hid (∀(u:Int),AnsR (if k=1 then .same a else if k=2 then .known m else .not a) (.agg #[.int .u8 (k:Nat),.int .i64 (a:Nat),.int .u64 (m:Nat)])):=Z λ u=>by
   rcases hk with rfl|rfl|rfl<;>exact⟨_,rfl⟩
  clear hk;generalize(if k=1 then Ans.same a else if k=2 then .known m else .not a)=an at*;go_enter Tryz.func175,Tryz.ntmps175
  go_wp2_with(first|(go_at_call 176;refine HO1.o.mono ?_;rintro e w' ⟨rfl,rfl⟩)|(go_at_call 172;refine HN.o.mono ?_;rintro e w' ⟨rfl,rfl⟩))
  have hk0:(A3 w).cell? ⟨w.heap.size,0,none⟩=some (.int .u8 0):=World.cell?_alloc_new w _ _ 0;have hk1:(A3 w).cell? ⟨w.heap.size,1,none⟩=some (.int .i64 0):=World.cell?_alloc_new w _ _ 1;have hk2:(A3 w).cell? ⟨w.heap.size,2,none⟩=some (.int .u64 0):=World.cell?_alloc_new w _ _ 2;have hf:∀j,(A3 w).frozen? ⟨w.heap.size,j,none⟩=false:=λ j=>by simp[go_sem]
  have hf0:=hf 0;have hf1:=hf 1;have hf2:=hf 2;clear hf;generalize A3 w=w1 at*;refine wp_region_still_tail 9 (by kernel_rfl) (by kernel_rfl) ?_;simp only[List.take_succ_cons,List.take_zero,List.drop_succ_cons,List.drop_zero]
  repeat still_step
  still_call ((HO.o _ (below_rec HB.o _)).mono λ e w'' h=>⟨h.1,h.2.symm⟩)
  repeat still_step
  try refine wpStill_nil ?_
  go_wp2_with fail
  (try simp only[Exit.inBlock,Exit.then])
  refine bodyPost_ret (by simp[results,Tryz.results175,go_sem,Result.andThen,hk0,hk1,hk2];try rfl) rfl ?_;exact⟨_,rfl,HA.o 0,(bel3' HB.o _ _ _).drew⟩
theorem rule_beyond(hg:RV w gb W L)(hW2:W<=64)(h:XAt w xb gb o [a,b] ns bs)(hx:XOk L [a,b] ns bs):Calls Tryz.prog 137 #[.pointer (some ⟨xb,0,none⟩)] w (AnsP w (ruleA W L o a b .beyond)):=by
 simp only[ruleA];have hb0:=hx.b 1 (by simp);have hn0:=hx.n 1 (by simp);have hln:=hx.ln;have hlb:=hx.lb;obtain⟨HB,HXA,HX0,ab,ac,a1,a2,c0,c1⟩:=rule_pre rfl h;have hxl:=h.low;have HWQ:Hid (∀m,Calls Tryz.prog 72 #[.pointer (some ⟨gb,0,none⟩)] (World.drewN (A3 w) m) λ e w''=>e= .returned (.int .i64 (W:Nat))/\∃k,w''=World.drewN (A3 w) k):=Z λ m=>(width72 (hg.below (below_drewN HB.o m))).mono λ _ _ h=>⟨h.1,m,h.2.symm⟩
 obtain⟨nb,nc,n1,n2,n3⟩:=HXA.n;obtain⟨bb,bc,b1,b2,b3⟩:=HXA.b;have d0:=b3 1 (by rw[hlb];show 1<2;decide);have d1:=n3 1 (by rw[hln];show 1<2;decide);simp only[List.getD_cons_zero,List.getD_cons_succ] at hb0 hn0;rw[hb0] at d0;rw[hln] at n2;rw[hlb] at b2;simp only[List.length_cons,List.length_nil,Nat.zero_add,Nat.reduceAdd] at n2 b2;clear HXA h hx hg n3 b3 hb0 hln hlb;have hwr:IntKind.u64.wrap ((W:Nat):Int)=(W:Nat):=wrap_u W (by omega);cases hc:isC L b with
 |false=>
  rw[hc] at d0;clear hc hn0;simp only[Bool.false_and,Bool.false_eq_true,if_false];go_enter Tryz.func137,Tryz.ntmps137
  go_wp2_with fail
  go_quiet((go_at_call 72;exact HWQ.o _))
  go_wp2_with fail
  (try simp only[Exit.inBlock,Exit.then])
  refine bodyPost_ret (by simp[results,Tryz.results137,go_sem,Result.andThen];try rfl) rfl ?_;exact⟨_,rfl,by first|exact⟨_,rfl⟩|exact⟨_,_,rfl⟩,by first|exact(Below.refl _ _).alloc (Nat.le_refl _) _|exact bel3 _ _ _ _ _⟩
 |true=>
  rw[hc] at d0;rw[hn0 hc] at d1;clear hc hn0;simp only[Bool.true_and];generalize numC L b=x at*;have hd:decide (((W:Nat):Int)<=((x:Nat):Int))=decide (W<=x):=by simp
  cases hq:decide (W<=x)
  all_goals
   rw[hq] at hd;simp only[Bool.false_eq_true,if_false,if_true];go_enter Tryz.func137,Tryz.ntmps137
   go_wp2_with fail
   go_quiet((go_at_call 72;exact HWQ.o _))
   go_wp2_with fail
   (try simp only[Exit.inBlock,Exit.then])
   refine bodyPost_ret (by simp[results,Tryz.results137,go_sem,Result.andThen];try rfl) rfl ?_;exact⟨_,rfl,by first|exact⟨_,rfl⟩|exact⟨_,_,rfl⟩,by first|exact(Below.refl _ _).alloc (Nat.le_refl _) _|exact bel3 _ _ _ _ _⟩
end
end Go.Proofs.YtgdpkkjfcdhmdaaGreatDoor
