/- The machine over this program: its contracts, its first memory, and what a run that answers 'true' says. -/
import Derived.Test.YtgdpkkjfcdhmdaaGreatDoorS0
import Derived.Test.YtgdpkkjfcdhmdaaGreatDoorS4
namespace Go.Proofs.YtgdpkkjfcdhmdaaGreatDoor
namespace Cr
open Go Go.RowKit
theorem vars_ok{G B:Nat}{w0:World}{call:Nat->List Value->AH->Rs}(hcall:CallOk Tryz.prog G B w0 call):CallOk Tryz.prog G B w0 (λ g args H=>bif Nat.beq g 24 then spVars call 60 61 args H else .bad):=by
 intro g args H v H' h μ args' w hl hr cs;change(bif Nat.beq g 24 then spVars call 60 61 args H else .bad)=_ at h
 cases hb:Nat.beq g 24 with
 |false=>rw[hb] at h;cases h
 |true=>
  rw[hb,cond_true] at h;have:=Nat.eq_of_beq_eq_true hb;subst this;exact ends_of_calls (c:=Tryz.f24.body.getD .skip) Tryz.func24 (by kernel_rfl) (by kernel_rfl) (vars_calls hcall h hl hr) cs
noncomputable def sp0:Spec:=λ _=>none
theorem sp0_ok{G B:Nat}{w0:World}:SpOk Tryz.prog G B w0 sp0:=λ _ _ h=>by cases h
noncomputable def callA:Nat->List Value->AH->Rs:=callF Tryz.prog sp0 (ev Tryz.prog sp0 4 (comp Tryz.prog) (drwE 4 (comp Tryz.prog)) 1000000)
noncomputable def spB:Spec:=λ g=>bif Nat.beq g 24 then some (spVars callA 60 61) else none
noncomputable def callX:Nat->List Value->AH->Rs:=callF Tryz.prog spB (ev Tryz.prog spB 4 (comp Tryz.prog) (drwE 4 (comp Tryz.prog)) 1000000)
theorem mixed:Tryz.prog.follows .mixedOrders=true:=by kernel_rfl
theorem callA_ok{B:Nat}{w0:World}:CallOk Tryz.prog 4 B w0 callA:=callF_ok (ev_ok (comp_ok _) sp0_ok (drwE_ok (comp_ok _) mixed) 1000000) sp0_ok
theorem spB_ok{B:Nat}{w0:World}:SpOk Tryz.prog 4 B w0 spB:=by
 intro g h hg;unfold spB at hg;cases hb:Nat.beq g 24 with
 |false=>rw[hb] at hg;cases hg
 |true=>
  rw[hb] at hg;simp only[cond_true,Option.some.injEq] at hg;have:=Nat.eq_of_beq_eq_true hb;subst this;subst hg;exact vars_ok callA_ok
theorem callX_ok{B:Nat}{w0:World}:CallOk Tryz.prog 4 B w0 callX:=callF_ok (ev_ok (comp_ok _) spB_ok (drwE_ok (comp_ok _) mixed) 1000000) spB_ok
noncomputable def first4(n0:Nat)(z0:List Value)(n2:Nat)(z2:List Value)(n3:Nat)(z3:List Value)(es:List (Value×Value)):AH:=
 ⟨((((Tr.nil.put 0 (some (.cells false n0 n0 z0 .nil))).put 1 (some (.cells false 1 1 [.map (some 4)] .nil))).put 2 (some (.cells false n2 n2 z2 .nil))).put 3 (some (.cells false n3 n3 z3 .nil))).put 4 (some (.map false es)),5⟩
theorem first4_get(n0:Nat)(z0:List Value)(n2:Nat)(z2:List Value)(n3:Nat)(z3:List Value)(es:List (Value×Value))(i:Nat):
  (first4 n0 z0 n2 z2 n3 z3 es).get i=if i=4 then some (.map false es) else if i=3 then some (.cells false n3 n3 z3 .nil) else if i=2 then some (.cells false n2 n2 z2 .nil) else if i=1 then some (.cells false 1 1 [.map (some 4)] .nil) else if i=0 then some (.cells false n0 n0 z0 .nil) else none:=by
 show(Tr.put (Tr.put (Tr.put (Tr.put (Tr.put Tr.nil 0 _) 1 _) 2 _) 3 _) 4 _).get i=_;rw[Tr.get_put _ _ _ _ (by decide),Tr.get_put _ _ _ _ (by decide),Tr.get_put _ _ _ _ (by decide),Tr.get_put _ _ _ _ (by decide),Tr.get_put _ _ _ _ (by decide),Tr.get_nil]
def first4Mu(b:Nat):Mu:=⟨λ i=>if i=4 then some (b,0) else if i<4 then some (i,0) else none,λ _=>0⟩
theorem cells_ok{B T:Nat}{μ:Mu}{w:World}{g n:Nat}{zs:List Value}{cs:Array Value}{e:TypeId}{f:Nat×Nat}(h:w.heap[g]? =some (.cells cs e f))(h':∀k,k<n->cs[k]? =zs[k]?)(hn:zs.length=n)(hz:zs.all scalar=true):BR B μ w g 0 T (.cells false n n zs .nil):=by
 refine⟨cs,e,f,h,λ e=>(by cases e),λ k hk=> ?_⟩;have hkl:k<zs.length:=by omega
 refine⟨zs[k],by rw[Nat.zero_add,h' k hk,List.getElem?_eq_getElem hkl],?_⟩;have e:cellv n zs .nil k=zs[k]:=by
  show nth zs (Nat.mod k n)=_;rw[nth_eq];have:Nat.mod k n=k:=Nat.mod_eq_of_lt hk;rw[this,List.getD_eq_getElem?_getD,List.getElem?_eq_getElem hkl];rfl
 rw[e];exact VR.scalar (List.all_eq_true.1 hz _ (List.getElem_mem hkl))
theorem first4_ok{w:World}{b n0 n2 n3:Nat}{z0 z2 z3:List Value}{es:List (Value×Value)}{cs0 cs1 cs2 cs3:Array Value}{e0 e1 e2 e3:TypeId}{f0 f1 f2 f3:Nat×Nat}{ents:Array MapEntry}{clock:Nat}
  (h0:w.heap[0]? =some (.cells cs0 e0 f0))(h0':∀k,k<n0->cs0[k]? =z0[k]?)(hn0:z0.length=n0)(hz0:z0.all scalar=true)
  (h1:w.heap[1]? =some (.cells cs1 e1 f1))(h1':cs1[0]? =some (.map (some b)))
  (h2:w.heap[2]? =some (.cells cs2 e2 f2))(h2':∀k,k<n2->cs2[k]? =z2[k]?)(hn2:z2.length=n2)(hz2:z2.all scalar=true)
  (h3:w.heap[3]? =some (.cells cs3 e3 f3))(h3':∀k,k<n3->cs3[k]? =z3[k]?)(hn3:z3.length=n3)(hz3:z3.all scalar=true)
  (hb:w.heap[b]? =some (.map ents clock))(hp:List.Perm es (ents.toList.map λ e=>(e.key,e.val)))(hk:(es.map (·.1)).all scalar=true)(hv:(es.map (·.2)).all scalar=true)
  (hi:∃kd,∀e∈es,∃n,e.1= .int kd n)(hd:es.Pairwise (λ x y=>x.1≠y.1)):HR 4 w.heap.size w (first4 n0 z0 n2 z2 n3 z3 es) (first4Mu b) w:=by
 have hbg:¬b<4:=λ h=>by
  have:b=0\/b=1\/b=2\/b=3:=by omega
  rcases this with rfl|rfl|rfl|rfl
  ·rw[h0] at hb;cases hb
  ·rw[h1] at hb;cases hb
  ·rw[h2] at hb;cases hb
  ·rw[h3] at hb;cases hb
 have key:∀{l:List Value},l.all scalar=true->∀{l':List Value},List.Perm l l'->LR (first4Mu b) l' l':=λ hl _ hp'=>LR.scalars (List.all_eq_true.2 λ x hx=>List.all_eq_true.1 hl x (hp'.mem_iff.2 hx))
 have cases2:∀{i:Nat} {p:Nat×Nat},first4Mu b i=some p->(i=4/\p=(b,0))\/(i<4/\p=(i,0)):=by
  intro i p h;simp only[first4Mu] at h
  split at h
  ·injection h with h;exact .inl ⟨by assumption,h.symm⟩
  ·split at h
   ·injection h with h;exact .inr ⟨by assumption,h.symm⟩
   ·cases h
 refine⟨?_,?_,?_,?_,?_,(by show(5:Nat)<_;decide),Below.refl _ _,Nat.le_refl _⟩
 ·intro i x hx c o hm;rw[first4_get] at hx;rcases cases2 hm with⟨rfl,e⟩|⟨hi4,e⟩
  ·injection e with e1 e2;subst e1 e2;rw[if_pos rfl] at hx;injection hx with hx;subst hx;refine⟨rfl,_,ents,clock,⟨hp,hi,hd⟩,hb,(λ e=>(by cases e)),?_,?_⟩
   ·have:=key hk (hp.map (·.1));rw[List.map_map] at this⊢;exact this
   ·have:=key hv (hp.map (·.2));rw[List.map_map] at this⊢;exact this
  ·injection e with e1 e2;subst e1 e2;have:c=0\/c=1\/c=2\/c=3:=by omega
   rcases this with rfl|rfl|rfl|rfl
   ·rw[if_neg (by decide),if_neg (by decide),if_neg (by decide),if_neg (by decide),if_pos rfl] at hx;injection hx with hx;subst hx;exact cells_ok h0 h0' hn0 hz0
   ·rw[if_neg (by decide),if_neg (by decide),if_neg (by decide),if_pos rfl] at hx;injection hx with hx;subst hx;refine⟨cs1,e1,f1,h1,λ e=>(by cases e),λ k hk=> ?_⟩;obtain rfl:k=0:=by omega
    exact⟨_,h1',VR.map 4 b rfl⟩
   ·rw[if_neg (by decide),if_neg (by decide),if_pos rfl] at hx;injection hx with hx;subst hx;exact cells_ok h2 h2' hn2 hz2
   ·rw[if_neg (by decide),if_pos rfl] at hx;injection hx with hx;subst hx;exact cells_ok h3 h3' hn3 hz3
 ·intro i j x y _ _ hne c o c' o' hm hm';rcases cases2 hm with⟨rfl,e⟩|⟨h,e⟩<;>rcases cases2 hm' with⟨rfl,e'⟩|⟨h',e'⟩<;>injection e with e1 e2<;>injection e' with e1' e2'<;>omega
 ·intro i x hx;rw[first4_get] at hx;show i<5
  split at hx
  ·omega
  ·split at hx
   ·omega
   ·split at hx
    ·omega
    ·split at hx
     ·omega
     ·split at hx
      ·omega
      ·cases hx
 ·intro i p hp;show i<5;rcases cases2 hp with⟨rfl,e⟩|⟨h,e⟩<;>omega
 ·intro g hg;show(if g=4 then some (b,0) else if g<4 then some (g,0) else none)=_;rw[if_neg (by omega),if_pos hg]
def fnv(n:Nat):Value:=.func (.func n) #[] #[]
def bv(b:Bool):Value:=.bool b
def iv(n:Nat):Value:=.int .i64 (.ofNat n)
def shps:List Value:=[bv true,bv true,bv false,iv 0,bv true,bv true,bv true,iv 0,bv true,bv true,bv false,iv 1,bv false,bv true,bv true,iv 1,bv true,bv false,bv false,iv 2,bv false,bv true,bv false,iv 2,bv true,bv true,bv false,iv 3,bv false,bv false,bv false,iv 4,bv false,bv true,bv false,iv 4,bv false,bv false,bv false,iv 0]
def stp0:List (Value×Value):=[(.int .u8 (.ofNat 0),fnv 211),(.int .u8 (.ofNat 1),fnv 212),(.int .u8 (.ofNat 2),fnv 213),(.int .u8 (.ofNat 3),fnv 214),(.int .u8 (.ofNat 4),fnv 215),(.int .u8 (.ofNat 5),fnv 216),(.int .u8 (.ofNat 6),fnv 217),(.int .u8 (.ofNat 7),fnv 218),(.int .u8 (.ofNat 8),fnv 219),(.int .u8 (.ofNat 9),fnv 220)]
def dbr:List Value:=[0,1,28,2,29,14,24,3,30,22,20,15,25,17,4,8,31,27,13,23,21,19,16,7,26,12,18,6,11,5,10,9].map λ(n:Nat)=>.int .u8 (.ofNat n)
def cmps:List Value:=[fnv 209,fnv 210]
structure Laid (w:World):Prop where
 compare:∃cs e f,w.heap[0]? =some (.cells cs e f)/\∀k,k<2->cs[k]? =cmps[k]?
 steps:∃b cs e f ents clock,w.heap[1]? =some (.cells cs e f)/\cs[0]? =some (.map (some b))/\w.heap[b]? =some (.map ents clock)/\List.Perm stp0 (ents.toList.map λ x=>(x.key,x.val))
 shapes:∃cs e f,w.heap[3]? =some (.cells cs e f)/\∀k,k<40->cs[k]? =shps[k]?
 bits:∃cs e f,w.heap[2]? =some (.cells cs e f)/\∀k,k<32->cs[k]? =dbr[k]?
theorem Laid.pos{w:World}(h:Laid w):3<w.heap.size:=by
 obtain⟨cs,e,f,h,_⟩:=h.shapes;exact(Array.getElem?_eq_some_iff.1 h).1
theorem Laid.below{w w':World}(h:Laid w)(hb:Below w.heap.size w w'):Laid w':=by
 have h1:=h.pos;obtain⟨⟨c0,e0,f0,p1,p2⟩,⟨b,cs,e,f,ents,clock,a1,a2,a3,a4⟩,⟨cs',e',f',b1,b2⟩,⟨c3,e3,f3,q1,q2⟩⟩:=h;exact⟨⟨c0,e0,f0,(hb.block 0 (by omega)).trans p1,p2⟩,⟨b,cs,e,f,ents,clock,(hb.block 1 (by omega)).trans a1,a2,(hb.block b (Array.getElem?_eq_some_iff.1 a3).1).trans a3,a4⟩,⟨cs',e',f',(hb.block 3 (by omega)).trans b1,b2⟩,⟨c3,e3,f3,(hb.block 2 (by omega)).trans q1,q2⟩⟩
noncomputable def H0:AH:=first4 2 cmps 32 dbr 40 shps stp0
theorem Laid.hr{w:World}(h:Laid w):∃μ,HR 4 w.heap.size w H0 μ w:=by
 obtain⟨⟨c0,e0,f0,p1,p2⟩,⟨b,cs,e,f,ents,clock,a1,a2,a3,a4⟩,⟨cs',e',f',b1,b2⟩,⟨c3,e3,f3,q1,q2⟩⟩:=h;refine⟨first4Mu b,first4_ok p1 p2 rfl (by decide) a1 a2 q1 q2 rfl (by decide) b1 b2 rfl (by decide) a3 a4 (by decide) (by decide) ⟨.u8,?_⟩ ?_⟩
 ·intro x hx;simp only[stp0,List.mem_cons,List.not_mem_nil,or_false] at hx;rcases hx with rfl|rfl|rfl|rfl|rfl|rfl|rfl|rfl|rfl|rfl<;>exact⟨_,rfl⟩
 ·have hk:(stp0.map (·.1))=(List.range 10).map λ n=>.int .u8 (.ofNat n):=rfl
  have:(stp0.map (·.1)).Pairwise (·≠·):=by
   rw[hk,List.pairwise_map];refine List.Pairwise.imp (R:=(·≠·)) ?_ (by decide);intro a b h e;injection e with _ e;injection e with e;exact h e
  rw[List.pairwise_map] at this;exact this
end Cr
end Go.Proofs.YtgdpkkjfcdhmdaaGreatDoor
