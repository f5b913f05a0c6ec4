/- A machine for closed runs (part 44): a run in pieces, each from a frame and a memory that are spelled out to such ones; what is not spelled out is forgotten. -/
import Derived.Test.YtgdpkkjfcdhmdaaGreatDoorS0
import Derived.Test.YtgdpkkjfcdhmdaaGreatDoorS2
namespace Go.Proofs.YtgdpkkjfcdhmdaaGreatDoor
namespace Cr
open Go Go.RowKit
def Wk(P:Program)(G:Nat)(ctx:Ctx)(c:Code)(F:F8)(H:AH)(e:Ex)(F':F8)(H':AH):Prop:=
 ∀(B:Nat) (w0:World) (μ:Mu) (a:Act) (w:World) (b:Frame) (cs:List Frame),Pre G B w0 ctx μ F [] H a w b cs->∀(it:Item) (k:List Item),Starts c it->
  ∃a' w' μ',Pre G B w0 ctx μ' F' [] H' a' w' b cs/\Ext μ μ'/\Arr P (lone (b.atR a (it::k)) cs w) b k cs e a' w'
section
variable {P:Program} {G:Nat} {ctx:Ctx} {c x y:Code} {F F1 F2:F8} {H H1 H2:AH} {e:Ex}
theorem Wk.seq(h1:Wk P G ctx x F H .norm F1 H1)(h2:Wk P G ctx y F1 H1 e F2 H2):Wk P G ctx (.seq x y) F H e F2 H2:=by
 intro B w0 μ a w b cs pre it k hst;cases hst
 obtain⟨a1,w1,μ1,q1,q2,q3⟩:=h1 B w0 μ a w b cs pre (.code x) (.code y::k) (.code x);obtain⟨a2,w2,μ2,r1,r2,r3⟩:=h2 B w0 μ1 a1 w1 b cs q1 (.code y) k (.code y);exact⟨a2,w2,μ2,r1,q2.trans r2,Arr.of_steps (.head stepR_seq q3) r3⟩
theorem Wk.blockExit{id:Nat}(h:Wk P G ctx c F H (.exit id) F1 H1):Wk P G ctx (.block id c) F H .norm F1 H1:=by
 intro B w0 μ a w b cs pre it k hst;cases hst
 obtain⟨a1,w1,μ1,q1,q2,k₁,t1,t2⟩:=h B w0 μ a w b cs pre (.code c) (.inBlock id::k) (.code c);refine⟨a1,w1,μ1,q1,q2,(Steps.head stepR_block t2).trans (.one (stepR_exit ?_))⟩;rw[t1];simp[exitTo]
theorem Wk.loop(h1:Wk P G ctx c F H .norm F1 H1)(h2:Wk P G ctx (.loop c) F1 H1 e F2 H2):Wk P G ctx (.loop c) F H e F2 H2:=by
 intro B w0 μ a w b cs pre it k hst;have s0:step P (lone (b.atR a (it::k)) cs w)= .next (lone (b.atR a (.code c:: .inLoop c::k)) cs w):=by
  cases hst with
  |code=>exact stepR_loop
  |inLoop=>exact stepR_inLoop
 obtain⟨a1,w1,μ1,q1,q2,q3⟩:=h1 B w0 μ a w b cs pre (.code c) (.inLoop c::k) (.code c);obtain⟨a2,w2,μ2,r1,r2,r3⟩:=h2 B w0 μ1 a1 w1 b cs q1 (.inLoop c) k (.inLoop c);exact⟨a2,w2,μ2,r1,q2.trans r2,Arr.of_steps (.head s0 q3) r3⟩
theorem Wk.loopOut(he:¬ExNorm e)(h1:Wk P G ctx c F H e F1 H1):Wk P G ctx (.loop c) F H e F1 H1:=by
 intro B w0 μ a w b cs pre it k hst;have s0:step P (lone (b.atR a (it::k)) cs w)= .next (lone (b.atR a (.code c:: .inLoop c::k)) cs w):=by
  cases hst with
  |code=>exact stepR_loop
  |inLoop=>exact stepR_inLoop
 obtain⟨a1,w1,μ1,q1,q2,q3⟩:=h1 B w0 μ a w b cs pre (.code c) (.inLoop c::k) (.code c);exact⟨a1,w1,μ1,q1,q2,Arr.of_steps (.one s0) (Arr.pass (x:=.inLoop c) rfl he q3)⟩
theorem Wk.ran{self:Self}(hs:∀B w0,Snd P G B w0 self)(h:self ctx c F [] H= .out e F1 [] H1):Wk P G ctx c F H e F1 H1:=by
 intro B w0 μ a w b cs pre it k hst;obtain⟨a',w',μ',q1,nx,q3⟩:=hs B w0 ctx c F [] H e F1 [] H1 h μ a w b cs pre it k hst;exact⟨a',w',μ',q1,nx.ext,q3⟩
end
theorem initF_get{D:Nat}:∀(l:List Value) (i:Nat) (F:F8) (t:Nat),i+l.length<=8^D->t<8^D->
  F8.get (pth D t) (List.rec (motive:=λ _=>Nat->F8->F8) (λ _ F=>F) (λ v _ ih i F=>forceV v λ v=>F8.put (pth D i) F v λ F=>forceN (Nat.succ i) λ i=>ih i F) l i F)=if i<=t/\t<i+l.length then l.getD (t-i) undef else F8.get (pth D t) F
 |[],i,F,t,_,_=>by
  rw[if_neg (by simp only[List.length_nil];omega)]
 |v::l,i,F,t,hi,ht=>by
  simp only[List.length_cons] at hi;show F8.get (pth D t) (forceV v _)=_;rw[forceV_eq,F8.put_eq,forceN_eq];have:=initF_get l (i+1) (F8.set (pth D i) F v) t (by omega) ht;refine this.trans ?_;rw[F8.get_set D t i F v ht (by omega)];by_cases e:t=i
  ·subst e;rw[if_neg (by omega),if_pos rfl,if_pos (by simp only[List.length_cons];omega)];simp
  ·rw[if_neg e];by_cases h:i<=t/\t<i+(v::l).length
   ·rw[if_pos h,if_pos (by simp only[List.length_cons] at h;omega)];obtain⟨d,rfl⟩:∃d,t=i+1+d:=⟨t-(i+1),by omega⟩
    rw[show i+1+d-(i+1)=d by omega,show i+1+d-i=d+1 by omega];simp
   ·rw[if_neg h,if_neg (by simp only[List.length_cons] at h;omega)]
noncomputable def slots(D:Nat)(F:F8):Nat->Nat->List Value:=λ n=>Nat.rec (motive:=λ _=>Nat->List Value) (λ _=>[]) (λ _ ih i=>F8.get (pth D i) F::ih (Nat.succ i)) n
theorem slots_get(D:Nat)(F:F8):∀(n i t:Nat),t<n->(slots D F n i)[t]? =some (F8.get (pth D (i+t)) F)
 |0,_,_,h=>by omega
 |n+1,i,0,_=>rfl
 |n+1,i,t+1,h=>by
  show(slots D F n (i+1))[t]? =_;rw[slots_get D F n (i+1) t (by omega),show i+1+t=i+(t+1) by omega]
theorem FR.lit{D N:Nat}{μ:Mu}{F:F8}{tm:Array Value}(h:FR D N μ F tm){l:List Value}(hl:l.length=N)(e:slots D F N 0=l):FR D N μ (initF D l) tm:=by
 have hfit:=h.fits;refine⟨h.size,h.fits,λ t ht=> ?_⟩;have hg:=initF_get l 0 .nil t (by omega) ht;unfold initF;rw[hg];by_cases hlt:t<N
 ·rw[if_pos (by omega)];have:=slots_get D F N 0 t hlt;rw[e,Nat.zero_add] at this;rw[List.getD_eq_getElem?_getD,Nat.sub_zero,this];exact h.at_ t ht
 ·rw[if_neg (by omega),F8.get_nil];have:tm.getD t undef=undef:=by
   rw[Array.getD_eq_getD_getElem?,Array.getElem?_eq_none (by have:=h.size;omega)];rfl
  rw[this];exact VR.undef μ
theorem Wk.lit{P:Program}{G:Nat}{ctx:Ctx}{c:Code}{F F1:F8}{H H1:AH}{e:Ex}(h:Wk P G ctx c F H e F1 H1){l:List Value}(hl:l.length=ctx.N)(hf:slots ctx.D F1 ctx.N 0=l){m:List (Nat×Lb)}{n:Nat}(hm:has H1 m n=true):Wk P G ctx c F H e (initF ctx.D l) (litH m n):=by
 intro B w0 μ a w b cs pre it k hst;obtain⟨a',w',μ',q1,q2,q3⟩:=h B w0 μ a w b cs pre it k hst;exact⟨a',w',μ',⟨q1.fr.lit hl hf,q1.df,q1.hr.lit hm,q1.fn,q1.ro,q1.calm⟩,q2,q3⟩
def exEq:Ex->Ex->Bool
 | .norm,.norm=>true
 | .ret,.ret=>true
 | .exit i,.exit j=>Nat.beq i j
 |_,_=>false
theorem exEq_eq:∀{a b:Ex},exEq a b=true->a=b
 | .norm,.norm,_=>rfl
 | .ret,.ret,_=>rfl
 | .exit i,.exit j,h=>by rw[Nat.eq_of_beq_eq_true h]
noncomputable def outs(D N:Nat)(e:Ex)(l:List Value)(m:List (Nat×Lb))(n:Nat):Out->Bool
 | .out e' F [] H=>exEq e' e&&(Nat.beq l.length N&&(listEq (veq 6) (slots D F N 0) l&&has H m n))
 |_=>false
noncomputable def piece(self:Self)(ctx:Ctx)(c:Code)(l:List Value)(H:AH)(e:Ex)(l':List Value)(m:List (Nat×Lb))(n:Nat):Bool:=forceF (initF ctx.D l) λ F=>forceH H λ H=>outs ctx.D ctx.N e l' m n (self ctx c F [] H)
theorem Wk.piece{P:Program}{G:Nat}{self:Self}(hs:∀B w0,Snd P G B w0 self){ctx:Ctx}{c:Code}{l l':List Value}{H:AH}{e:Ex}{m:List (Nat×Lb)}{n:Nat}(h:Cr.piece self ctx c l H e l' m n=true):Wk P G ctx c (initF ctx.D l) H e (initF ctx.D l') (litH m n):=by
 unfold Cr.piece at h;rw[forceF_eq,forceH_eq] at h;cases ho:self ctx c (initF ctx.D l) [] H with
 |bad=>rw[ho] at h;cases h
 |out e' F1 Ds H1=>
  rw[ho] at h;cases Ds with
  |cons d Ds=>cases h
  |nil=>
   change(exEq e' e&&(Nat.beq l'.length ctx.N&&(listEq (veq 6) (slots ctx.D F1 ctx.N 0) l'&&has H1 m n)))=true at h
   simp only[Bool.and_eq_true] at h;obtain⟨h1,h2,h3,h4⟩:=h;obtain rfl:=exEq_eq h1;exact(Wk.ran hs ho).lit (Nat.eq_of_beq_eq_true h2) (listEq_eq (veq_eq 6) h3) h4
noncomputable def rounds(self:Self)(ctx:Ctx)(c:Code)(k:Nat):F8->AH->Out:=Nat.rec (motive:=λ _=>F8->AH->Out) (λ F H=>.out .norm F [] H) (λ _ ih F H=>match self ctx c F [] H with
 | .out .norm F [] H=>ih F H
 |_=>.bad) k
theorem rounds_loop{P:Program}{G:Nat}{self:Self}(hs:∀B w0,Snd P G B w0 self){ctx:Ctx}{c:Code}{F2:F8}{H2:AH}{e:Ex}:∀(k:Nat) {F F1:F8} {H H1:AH},rounds self ctx c k F H= .out .norm F1 [] H1->Wk P G ctx (.loop c) F1 H1 e F2 H2->Wk P G ctx (.loop c) F H e F2 H2
 |0,F,F1,H,H1,h,hw=>by
  injection h with _ h1 _ h2;rw[h1,h2];exact hw
 |k+1,F,F1,H,H1,h,hw=>by
  change(match self ctx c F [] H with
   | .out .norm F [] H=>rounds self ctx c k F H
   |_=>.bad)=_ at h
  split at h
  ·rename_i F3 H3 ho;exact(Wk.ran hs ho).loop (rounds_loop hs k h hw)
  ·cases h
theorem Wk.weaken{P:Program}{G:Nat}{ctx:Ctx}{c:Code}{F F1 F2:F8}{H H1 H2:AH}{e:Ex}(h:Wk P G ctx c F1 H1 e F2 H2)(hh:∀(B:Nat) (w0:World) (μ:Mu) (tm:Array Value) (w:World),FR ctx.D ctx.N μ F tm->HR G B w0 H μ w->FR ctx.D ctx.N μ F1 tm/\HR G B w0 H1 μ w):Wk P G ctx c F H e F2 H2:=by
 intro B w0 μ a w b cs pre it k hst;have:=hh B w0 μ a.tmps w pre.fr pre.hr;exact h B w0 μ a w b cs ⟨this.1,pre.df,this.2,pre.fn,pre.ro,pre.calm⟩ it k hst
noncomputable def pieceN(self:Self)(ctx:Ctx)(c:Code)(k:Nat)(l:List Value)(H:AH)(l':List Value)(m:List (Nat×Lb))(n:Nat):Bool:=forceF (initF ctx.D l) λ F=>forceH H λ H=>outs ctx.D ctx.N .norm l' m n (rounds self ctx c k F H)
theorem Wk.pieceN{P:Program}{G:Nat}{self:Self}(hs:∀B w0,Snd P G B w0 self){ctx:Ctx}{c:Code}{k:Nat}{l l':List Value}{H:AH}{m:List (Nat×Lb)}{n:Nat}(h:Cr.pieceN self ctx c k l H l' m n=true){e:Ex}{F2:F8}{H2:AH}(hw:Wk P G ctx (.loop c) (initF ctx.D l') (litH m n) e F2 H2):Wk P G ctx (.loop c) (initF ctx.D l) H e F2 H2:=by
 unfold Cr.pieceN at h;rw[forceF_eq,forceH_eq] at h;cases ho:rounds self ctx c k (initF ctx.D l) H with
 |bad=>rw[ho] at h;cases h
 |out e' F1 Ds H1=>
  rw[ho] at h;cases Ds with
  |cons d Ds=>cases h
  |nil=>
   change(exEq e' .norm&&(Nat.beq l'.length ctx.N&&(listEq (veq 6) (slots ctx.D F1 ctx.N 0) l'&&has H1 m n)))=true at h
   simp only[Bool.and_eq_true] at h;obtain⟨h1,h2,h3,h4⟩:=h;obtain rfl:=exEq_eq h1;refine rounds_loop hs k ho (hw.weaken λ B w0 μ tm w hF hH=>⟨hF.lit (Nat.eq_of_beq_eq_true h2) (listEq_eq (veq_eq 6) h3),hH.lit h4⟩)
noncomputable def chain(self:Self)(ctx:Ctx)(k:Nat):Code->F8->AH->Out:=Nat.rec (motive:=λ _=>Code->F8->AH->Out) (λ _ F H=>.out .norm F [] H) (λ _ ih c F H=>match c with
 | .seq x y=>match self ctx x F [] H with
   | .out .norm F [] H=>ih y F H
   |_=>.bad
 |_=>.bad) k
def restC:Nat->Code->Code
 |0,c=>c
 |k+1,.seq _ y=>restC k y
 |_,c=>c
theorem chain_seq{P:Program}{G:Nat}{self:Self}(hs:∀B w0,Snd P G B w0 self){ctx:Ctx}{F2:F8}{H2:AH}{e:Ex}:∀(k:Nat) {c:Code} {F F1:F8} {H H1:AH},chain self ctx k c F H= .out .norm F1 [] H1->Wk P G ctx (restC k c) F1 H1 e F2 H2->Wk P G ctx c F H e F2 H2
 |0,c,F,F1,H,H1,h,hw=>by
  injection h with _ h1 _ h2;rw[h1,h2];exact hw
 |k+1,c,F,F1,H,H1,h,hw=>by
  cases c with
  |seq x y=>
   change(match self ctx x F [] H with
    | .out .norm F [] H=>chain self ctx k y F H
    |_=>.bad)=_ at h
   split at h
   ·rename_i F3 H3 ho;exact(Wk.ran hs ho).seq (chain_seq hs k h hw)
   ·cases h
  |_=>cases h
noncomputable def pieceC(self:Self)(ctx:Ctx)(c:Code)(k:Nat)(l:List Value)(H:AH)(l':List Value)(m:List (Nat×Lb))(n:Nat):Bool:=forceF (initF ctx.D l) λ F=>forceH H λ H=>outs ctx.D ctx.N .norm l' m n (chain self ctx k c F H)
theorem Wk.pieceC{P:Program}{G:Nat}{self:Self}(hs:∀B w0,Snd P G B w0 self){ctx:Ctx}{c:Code}(k:Nat){l l':List Value}{H:AH}{m:List (Nat×Lb)}{n:Nat}(h:Cr.pieceC self ctx c k l H l' m n=true){e:Ex}{F2:F8}{H2:AH}(hw:Wk P G ctx (restC k c) (initF ctx.D l') (litH m n) e F2 H2):Wk P G ctx c (initF ctx.D l) H e F2 H2:=by
 unfold Cr.pieceC at h;rw[forceF_eq,forceH_eq] at h;cases ho:chain self ctx k c (initF ctx.D l) H with
 |bad=>rw[ho] at h;cases h
 |out e' F1 Ds H1=>
  rw[ho] at h;cases Ds with
  |cons d Ds=>cases h
  |nil=>
   change(exEq e' .norm&&(Nat.beq l'.length ctx.N&&(listEq (veq 6) (slots ctx.D F1 ctx.N 0) l'&&has H1 m n)))=true at h
   simp only[Bool.and_eq_true] at h;obtain⟨h1,h2,h3,h4⟩:=h;obtain rfl:=exEq_eq h1;refine chain_seq hs k ho (hw.weaken λ B w0 μ tm w hF hH=>⟨hF.lit (Nat.eq_of_beq_eq_true h2) (listEq_eq (veq_eq 6) h3),hH.lit h4⟩)
theorem Wk.calls{P:Program}{G:Nat}{g D N:Nat}{fn:Func}{c:Code}(hf:P.funcs[g]? =some fn)(hb:fn.body=some c)(eN:fn.ntmps=N)(eD:dep N=D){args:List Value}(hok:(okFn fn&&Nat.ble args.length N)=true){H H':AH}{e:Ex}{F':F8}
  (hw:Wk P G ⟨g,D,N,none⟩ c (initF D args) H e F' H')(he:e= .norm\/e= .ret){v:Value}{H2:AH}(hv:resV P D N F' H' fn.results.toList= .ok v H2)
  {B:Nat}{w0:World}{μ:Mu}{w:World}{args':List Value}(hargs:LR μ args args')(hr:HR G B w0 H μ w):
  Calls P g ⟨args'⟩ w λ e w'=>∃v' μ',e= .returned v'/\VR μ' v v'/\Ext μ μ'/\HR G B w0 H2 μ' w':=by
 intro cs;subst eN eD;simp only[Bool.and_eq_true] at hok;obtain⟨hok,hlen⟩:=hok;have hlen':args.length<=fn.ntmps:=Nat.le_of_ble_eq_true hlen;have hN:fn.ntmps<=4096:=by
  simp only[okFn,Bool.and_eq_true] at hok;exact Nat.le_of_ble_eq_true hok.1
 have hF:=initF_ok hargs hN hlen'
 let b:Frame:={(default:Frame) with fn:=g,kind:=.normal,roundOf:=none}
 let a0:Act:={tmps:=(⟨args'⟩:Array Value)++Array.replicate (fn.ntmps-args'.length) undef,defers:=[]}
 have henter:Frame.enter P g ⟨args'⟩ .normal=b.atR a0 [.code c]:=by
  simp[Frame.enter,Frame.atR,hf,hb,b,a0]
 obtain⟨a',w',μ',pre',hx,arr⟩:=hw B w0 μ a0 w b cs ⟨hF,.nil,hr,rfl,trivial,.inl rfl⟩ (.code c) [] (.code c);rw[<-henter] at arr;have hlv:leave P (λ _ _ _=>Rs.bad) fn (dep fn.ntmps) F' [] H'= .ok v H2:=hv;have go:∀todo,Steps P (lone (Frame.enter P g ⟨args'⟩ .normal) cs w) (lone {b.atR a' todo with mode:=.returning} cs w')->
   ∃v' w2 μ2 fr',Steps P (lone (Frame.enter P g ⟨args'⟩ .normal) cs w) (lone fr' cs w2)/\fr'.fn=g/\fr'.kind= .normal/\fr'.mode= .returning/\fr'.defers=[]/\(∃fn,P.funcs[g]? =some fn/\(results fn fr'.tmps).run P w2= .ok v' w2)/\VR μ2 v v'/\Ext μ μ2/\HR G B w0 H2 μ2 w2:=by
  intro todo hst;obtain⟨v',w2,μ2,fr',s1,s2,s3,s4,s5,s6,s7,s8⟩:=leave_ok (P:=P) (G:=G) (B:=B) (w0:=w0) (callB:=λ _ _ _=>Rs.bad) (λ _ _ _ _ _ h=>by cases h) [] H' H2 v hlv μ' w' {b.atR a' todo with mode:=.returning} cs pre'.hr pre'.fr pre'.df rfl hf;exact⟨v',w2,μ2,fr',hst.trans s1,s2,s3,s4,s5,s6,s7,hx.trans s8.ext,s8.hr⟩
 have fin2:∃v' w2 μ2 fr',Steps P (lone (Frame.enter P g ⟨args'⟩ .normal) cs w) (lone fr' cs w2)/\fr'.fn=g/\fr'.kind= .normal/\fr'.mode= .returning/\fr'.defers=[]/\(∃fn,P.funcs[g]? =some fn/\(results fn fr'.tmps).run P w2= .ok v' w2)/\VR μ2 v v'/\Ext μ μ2/\HR G B w0 H2 μ2 w2:=by
  rcases he with rfl|rfl
  ·exact go [] (Steps.trans arr (.one (stepR_end rfl)))
  ·obtain⟨k₁,st⟩:=arr;exact go _ (Steps.trans st (.one (stepR_ret rfl)))
 obtain⟨v',w2,μ2,fr',s1,s2,s3,s4,s5,s6,s7,s8,s9⟩:=fin2;exact⟨.returned v',w2,fr',⟨v',μ2,rfl,s7,s8,s9⟩,s1,s2,Ends.leaving s2 s3 s4 s5 s6⟩
end Cr
end Go.Proofs.YtgdpkkjfcdhmdaaGreatDoor
