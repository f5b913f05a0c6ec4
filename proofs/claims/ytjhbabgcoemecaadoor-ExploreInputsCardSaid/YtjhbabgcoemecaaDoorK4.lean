/- A machine for closed runs (part 34): the fast layer is sound. (and what follows on it). -/
import Derived.Test.YtjhbabgcoemecaaDoorK3
import Derived.Test.YtjhbabgcoemecaaDoorK2
import Derived.Maps.RangeWalk
import Derived.Lib.Hide
import Derived.WalkKit
import Derived.ProofKit
import Derived.Laws.AppendOwn
namespace Go.Proofs.YtjhbabgcoemecaaDoor
namespace Cr
open Go Go.RowKit

/-- the slow layer with a fixed evaluator for calls -/
noncomputable def evD (P : Program) (sp : Spec) (G : Nat) (cmp : Cmp) (selfc : Self) (n : Nat) : Self :=
  Nat.rec (motive := fun _ => Self) (fun _ _ _ _ _ => .bad) (fun _ ih => evC P sp G cmp (drwE G cmp) selfc ih) n
theorem evD_ok {P : Program} {G B : Nat} {w0 : World} {sp : Spec} {cmp : Cmp} (hcmp : CmpOk P cmp) (hsp : SpOk P G B w0 sp) (hdrw : DrwOk P G B w0 (drwE G cmp)) {selfc : Self} (hs : Snd P G B w0 selfc) : ∀ n, Snd P G B w0 (evD P sp G cmp selfc n)
  | 0 => fun ctx c F Ds H e F' Ds' H' h => by cases h
  | n + 1 => evC_ok hcmp hsp hdrw hs (evD_ok hcmp hsp hdrw hs n)

def oBnd (o : Out) (K : F8 → List ADef → AH → Out) : Out :=
  match o with
  | .out .norm F Ds H => K F Ds H
  | r => r
theorem stp_bnd (run : COp → List Value → List ADef → AH → ORs) (q : COper × List COper) (K1 K : F8 → List ADef → AH → Out) (F : F8) (Ds : List ADef) (H : AH) :
    stp run q (fun F Ds H => oBnd (K1 F Ds H) K) F Ds H = oBnd (stp run q K1 F Ds H) K := by
  unfold stp
  cases wantG q.1.gd F with
  | false => rfl
  | true =>
    simp only
    cases run q.1.c (getL F q.1.xs) Ds H with
    | bad => rfl
    | ok v Ds H =>
      simp only
      cases rechk (setD q.1.dst F v) H q.2 <;> rfl
theorem stps_bnd (run : COp → List Value → List ADef → AH → ORs) (K : F8 → List ADef → AH → Out) : ∀ (l : List (COper × List COper)) (F : F8) (Ds : List ADef) (H : AH),
    stps run l K F Ds H = oBnd (stps run l (fun F Ds H => .out .norm F Ds H) F Ds H) K
  | [], F, Ds, H => rfl
  | q :: l, F, Ds, H => by
    show stp run q (stps run l K) F Ds H = oBnd (stp run q (stps run l fun F Ds H => .out .norm F Ds H) F Ds H) K
    rw [← stp_bnd]
    congr 1
    funext F Ds H
    exact stps_bnd run K l F Ds H
/-- a region, as a list of steps -/
theorem evC_region {P : Program} {sp : Spec} {G : Nat} {cmp : Cmp} {selfc self : Self} {ctx : Ctx} {id : Nat} {ops : Array Oper} {draw : Bool} {l : List (COper × List COper)} (h : cReg cmp G ctx.D ctx.N ops draw = some l) (F : F8) (Ds : List ADef) (H : AH) :
    evC P sp G cmp (drwE G cmp) selfc self ctx (.region id ops draw) F Ds H = stps (runOp P sp selfc ctx.ro) l (fun F Ds H => .out .norm F Ds H) F Ds H := by
  cases draw with
  | true =>
    change (cDrawn cmp G ctx.D ctx.N ops).map (fun l => l.map RS.q) = some l at h
    show Option.rec (motive := fun _ => Out) .bad (fun plan => evPlan (runOp P sp selfc ctx.ro) plan F Ds H) (cDrawn cmp G ctx.D ctx.N ops) = _
    cases hc : cDrawn cmp G ctx.D ctx.N ops with
    | none => rw [hc] at h; cases h
    | some plan =>
      rw [hc] at h
      simp only [Option.map_some, Option.some.injEq] at h
      subst h
      exact evPlan_stps _ plan F Ds H
  | false =>
    change (cOps cmp G ctx.D ctx.N ops ops.toList).map (fun l => l.map fun o => (o, [])) = some l at h
    show Option.rec (motive := fun _ => Out) .bad (fun l => runOps (runOp P sp selfc ctx.ro) l F Ds H) (cOps cmp G ctx.D ctx.N ops ops.toList) = _
    cases hc : cOps cmp G ctx.D ctx.N ops ops.toList with
    | none => rw [hc] at h; cases h
    | some r =>
      rw [hc] at h
      simp only [Option.map_some, Option.some.injEq] at h
      subst h
      exact runOps_stps _ r F Ds H

section
variable {F : Type} {tf : F → F8}
/-- what a piece of code yields is bound to what comes behind it -/
theorem Rf.bind {x : XO F} {y : Out} (h : Rf tf x y) {X : F → List ADef → AH → XO F} {K : F8 → List ADef → AH → Out} (hK : ∀ f Ds H, Rf tf (X f Ds H) (K (tf f) Ds H)) :
    Rf tf (XO.rec (motive := fun _ => XO F) .bad (fun e f Ds H => Ex.rec (motive := fun _ => XO F) (X f Ds H) (.out .ret f Ds H) (fun i => .out (.exit i) f Ds H) e) x) (oBnd y K) := by
  cases x with
  | bad => trivial
  | out e f Ds H =>
    have h' : y = .out e (tf f) Ds H := h
    subst h'
    cases e with
    | norm => exact hK f Ds H
    | ret => exact rfl
    | exit i => exact rfl
theorem xev_rf {P : Program} {sp : Spec} {G : Nat} {cmp : Cmp} {selfc : Self} {cv : CV} (hcv : CvR cv (callV P sp selfc)) (g D N : Nat) :
    ∀ (n : Nat) (x : XC tf) (c : Code), cG cmp G D N x c = x.den → ∀ (f : F) (Ds : List ADef) (H : AH), Rf tf (xev cv n x f Ds H) (evD P sp G cmp selfc (n + 1) ⟨g, D, N, none⟩ c (tf f) Ds H)
  | 0, _, _, _, _, _, _ => trivial
  | n + 1, x, c, h, f, Ds, H => by
    have ih := xev_rf (G := G) (cmp := cmp) hcv g D N n
    show Rf tf (xevC x cv (xev cv n) f Ds H) (evC P sp G cmp (drwE G cmp) selfc (evD P sp G cmp selfc (n + 1)) ⟨g, D, N, none⟩ c (tf f) Ds H)
    cases x with
    | bad => trivial
    | skip =>
      cases c <;> simp only [cG, XC.den] at h <;> first | exact rfl | cases h
    | ret =>
      cases c <;> simp only [cG, XC.den] at h <;> first | exact rfl | cases h
    | exit i =>
      cases c <;> simp only [cG, XC.den] at h <;> first | cases h; done | skip
      injection h with h
      subst h
      exact rfl
    | reg l =>
      cases c <;> simp only [cG, XC.den] at h <;> first | cases h; done | skip
      injection h with h
      rw [evC_region h]
      exact runs_rf (k := oN) (K := fun F Ds H => .out .norm F Ds H) hcv (fun _ _ _ => (rfl : _ = _)) l f Ds H
    | rg l b =>
      cases c <;> simp only [cG, XC.den] at h <;> first | cases h; done | skip
      rename_i c1 c2
      cases c1 <;> simp only at h <;> first | cases h; done | skip
      rename_i id ops draw
      injection h with h1 h2
      injection h1 with h1
      have e : evC P sp G cmp (drwE G cmp) selfc (evD P sp G cmp selfc (n + 1)) ⟨g, D, N, none⟩ (.seq (.region id ops draw) c2) (tf f) Ds H =
          stps (runOp P sp selfc none) (l.map Ins.den) (fun F Ds H => evD P sp G cmp selfc (n + 1) ⟨g, D, N, none⟩ c2 F Ds H) (tf f) Ds H := by
        rw [stps_bnd, ← evC_region (P := P) (sp := sp) (selfc := selfc) (self := evD P sp G cmp selfc n) (ctx := ⟨g, D, N, none⟩) (id := id) h1 (tf f) Ds H]
        show (match evC P sp G cmp (drwE G cmp) selfc (evD P sp G cmp selfc n) ⟨g, D, N, none⟩ (.region id ops draw) (tf f) Ds H with
          | .out .norm F Ds H => evD P sp G cmp selfc (n + 1) ⟨g, D, N, none⟩ c2 F Ds H
          | r => r) = _
        rfl
      rw [e]
      exact runs_rf hcv (fun f Ds H => ih b c2 h2 f Ds H) l f Ds H
    | seq a b =>
      cases c <;> simp only [cG, XC.den] at h <;> first | cases h; done | skip
      rename_i c1 c2
      injection h with h1 h2
      exact Rf.bind (ih a c1 h1 f Ds H) (fun f Ds H => ih b c2 h2 f Ds H)
    | cond y a b =>
      cases c <;> simp only [cG, XC.den] at h <;> first | cases h; done | skip
      rename_i z c1 c2
      injection h with h1 h2 h3
      show Rf tf (VB.rec (motive := fun _ => List ADef → AH → XO F) (fun _ _ => .bad) (xev cv n b f) (xev cv n a f) (asB (y.get f)) Ds H) (match cOpd G D N z with
        | none => Out.bad
        | some y => match y.get (tf f) with
          | .bool true => evD P sp G cmp selfc (n + 1) ⟨g, D, N, none⟩ c1 (tf f) Ds H
          | .bool false => evD P sp G cmp selfc (n + 1) ⟨g, D, N, none⟩ c2 (tf f) Ds H
          | _ => .bad)
      rw [h1]
      simp only
      rw [y.ok]
      cases hb : asB (y.get f) with
      | no => trivial
      | t => rw [asB_t hb]; exact ih a c1 h2 f Ds H
      | f => rw [asB_f hb]; exact ih b c2 h3 f Ds H
    | block id b =>
      cases c <;> simp only [cG, XC.den] at h <;> first | cases h; done | skip
      rename_i id' c1
      injection h with h1 h2
      subst h1
      have hb := ih b c1 h2 f Ds H
      show Rf tf (XO.rec (motive := fun _ => XO F) .bad (fun e f Ds H => Ex.rec (motive := fun _ => XO F) (.out .norm f Ds H) (.out .ret f Ds H) (fun i => Bool.rec (motive := fun _ => XO F) (.out (.exit i) f Ds H) (.out .norm f Ds H) (Nat.beq i id')) e) (xev cv n b f Ds H))
        (match evD P sp G cmp selfc (n + 1) ⟨g, D, N, none⟩ c1 (tf f) Ds H with
          | .out (.exit j) F Ds H => bif Nat.beq j id' then Out.out .norm F Ds H else .out (.exit j) F Ds H
          | r => r)
      revert hb
      generalize xev cv n b f Ds H = o
      generalize evD P sp G cmp selfc (n + 1) ⟨g, D, N, none⟩ c1 (tf f) Ds H = o'
      intro hb
      cases o with
      | bad => trivial
      | out e f1 Ds1 H1 =>
        have hb' : o' = .out e (tf f1) Ds1 H1 := hb
        subst hb'
        cases e with
        | norm => exact rfl
        | ret => exact rfl
        | exit i =>
          simp only
          cases Nat.beq i id' <;> exact rfl
    | loop b =>
      cases c <;> simp only [cG, XC.den] at h <;> first | cases h; done | skip
      rename_i c1
      injection h with h1
      exact Rf.bind (ih b c1 h1 f Ds H) (fun f Ds H => ih (.loop b) (.loop c1) (by simp only [cG, XC.den, h1]) f Ds H)
    | scope b =>
      cases c <;> simp only [cG, XC.den] at h <;> first | cases h; done | skip
      rename_i c1
      injection h with h1
      exact ih b c1 h1 f Ds H
end
end Cr
end Go.Proofs.YtjhbabgcoemecaaDoor
namespace Go.Proofs.YtjhbabgcoemecaaDoor
namespace Cr
open Go Go.RowKit

/-- a call whose first frame is given -/
theorem callG_ok {P : Program} {G B : Nat} {w0 : World} {self : Self} (hs : Snd P G B w0 self) {g : Nat} {fn : Func} {c : Code} (hf : P.funcs[g]? = some fn) (hb : fn.body = some c) (hok : okFn fn = true)
    {args' : List Value} {H H1 H' : AH} {v : Value} {μ : Mu} {w : World} {F0 F' : F8} {e : Ex} (hF : FR (dep fn.ntmps) fn.ntmps μ F0 ((⟨args'⟩ : Array Value) ++ Array.replicate (fn.ntmps - args'.length) undef))
    (ho : self ⟨g, dep fn.ntmps, fn.ntmps, none⟩ c F0 [] H = .out e F' [] H1) (he : e = .norm ∨ e = .ret) (h : resV P (dep fn.ntmps) fn.ntmps F' H1 fn.results.toList = .ok v H') (hr : HR G B w0 H μ w) {kind : CallKind} {cs : List Frame} (hk : Calm kind cs) :
    (callFunc g ⟨args'⟩).run P w = .ok (.enter g ⟨args'⟩) w ∧ Ends P G B w0 g args' kind cs v H μ H' w := by
  refine ⟨callFunc_enter hf hb hok _ _, ?_⟩
  let b : Frame := { (default : Frame) with fn := g, kind := kind, roundOf := none }
  let a0 : Act := { tmps := (⟨args'⟩ : Array Value) ++ Array.replicate (fn.ntmps - args'.length) undef, defers := [] }
  have henter : Frame.enter P g ⟨args'⟩ kind = b.atR a0 [.code c] := by
    simp [Frame.enter, Frame.atR, hf, hb, b, a0]
  have pre : Pre G B w0 ⟨g, dep fn.ntmps, fn.ntmps, none⟩ μ F0 [] H a0 w b cs := ⟨hF, .nil, hr, rfl, trivial, hk⟩
  obtain ⟨a', w', μ', pre', nx, arr⟩ := hs _ _ _ _ _ _ _ _ _ ho μ a0 w b cs pre (.code c) [] (.code c)
  rw [← henter] at arr
  have hB : DefOk P G B w0 (fun _ _ _ => .bad) := fun _ _ _ _ _ h => by cases h
  have fin : ∀ todo, Steps P (lone (Frame.enter P g ⟨args'⟩ kind) cs w) (lone { b.atR a' todo with mode := .returning } cs w') → Ends P G B w0 g args' kind cs v H μ H' w := by
    intro todo hst
    obtain ⟨v', w2, μ2, fr', s1, s2, s3, s4, s5, s6, s7, s8⟩ := leave_ok hB [] H1 H' v h μ' w' { b.atR a' todo with mode := .returning } cs pre'.hr pre'.fr pre'.df rfl hf
    exact ⟨v', w2, μ2, fr', hst.trans s1, s2, s3, s4, s5, s6, s7, nx.trans s8⟩
  rcases he with rfl | rfl
  · exact fin [] (Steps.trans arr (.one (stepR_end rfl)))
  · obtain ⟨k₁, st⟩ := arr
    exact fin _ (Steps.trans st (.one (stepR_ret rfl)))

section
variable {F : Type} {tf : F → F8}
/-- the parameters -/
noncomputable def inX (ss : List (Slot tf)) : List Value → F → XK F → AH → XO F :=
  List.rec (motive := fun _ => List Value → F → XK F → AH → XO F)
    (fun args f k H => List.rec (motive := fun _ => XO F) (k f [] H) (fun _ _ _ => .bad) args)
    (fun s _ ih args f k H => List.rec (motive := fun _ => XO F) .bad (fun v vs _ => s.puf f v (fun f _ H => ih vs f k H) [] H) args) ss
noncomputable def iniGo (D : Nat) (l : List Value) (i : Nat) (F : F8) : F8 :=
  List.rec (motive := fun _ => Nat → F8 → F8) (fun _ F => F) (fun v _ ih i F => forceV v fun v => F8.put (pth D i) F v fun F => forceN (Nat.succ i) fun i => ih i F) l i F
theorem inX_ok {D : Nat} {k : XK F} {H : AH} : ∀ (ss : List (Slot tf)) (args : List Value) (i : Nat) (f : F), ss.map Slot.p = (List.range' i ss.length).map (pth D) →
    inX ss args f k H = .bad ∨ ∃ f', args.length = ss.length ∧ inX ss args f k H = k f' [] H ∧ tf f' = iniGo D args i (tf f)
  | [], [], i, f, _ => .inr ⟨f, rfl, rfl, rfl⟩
  | [], _ :: _, _, _, _ => .inl rfl
  | _ :: _, [], _, _, _ => .inl rfl
  | s :: ss, v :: vs, i, f, h => by
    simp only [List.map_cons, List.length_cons, List.range'_succ, List.cons.injEq] at h
    obtain ⟨f1, h1, h2⟩ := s.ok f v (fun f _ H => inX ss vs f k H) [] H
    have e : inX (s :: ss) (v :: vs) f k H = inX ss vs f1 k H := by
      show s.puf f v (fun f _ H => inX ss vs f k H) [] H = _
      rw [s.eq, h2]
    rcases inX_ok ss vs (i + 1) f1 h.2 with hb | ⟨f', l1, l2, l3⟩
    · exact .inl (e.trans hb)
    · refine .inr ⟨f', by simp [l1], e.trans l2, l3.trans ?_⟩
      show iniGo D vs (i + 1) (tf f1) = (forceV v fun v => F8.put (pth D i) (tf f) v fun F => forceN (Nat.succ i) fun i => iniGo D vs i F)
      rw [forceV_eq, F8.put_eq, forceN_eq, h1, h.1]

/-- the results -/
structure RR (P : Program) (D N : Nat) (tf : F → F8) where
  den : ResultVar
  get : F → AH → Option Value
  ok : ∀ f H v, get f H = some v → res1 P D N (tf f) H den = some v
noncomputable def rrT {P : Program} {D N : Nat} (x : RO tf) (t : Nat) (hx : x.o = .t (pth D t)) (ht : Nat.blt t N = true) : RR P D N tf :=
  ⟨.tmp t, fun f _ => some (x.get f), fun f H v h => by
    simp only [Option.some.injEq] at h
    subst h
    show (bif Nat.blt t N then some (F8.get (pth D t) (tf f)) else none) = _
    rw [ht, cond_true, ← x.ok, hx]; rfl⟩
noncomputable def rrS {P : Program} {D N : Nat} (r : ResultVar) : RR P D N tf := ⟨r, fun f H => res1 P D N (tf f) H r, fun _ _ _ h => h⟩
noncomputable def fVR (v : Value) : (Value → Rs) → Rs :=
  Value.rec (motive_1 := fun _ => (Value → Rs) → Rs) (motive_2 := fun _ => Unit) (motive_3 := fun _ => Unit)
    (fun b g => g (.bool b)) (fun d n g => g (.int d n)) (fun d n g => g (.float d n)) (fun d n m g => g (.complex d n m)) (fun s g => g (.string s)) (fun a g => g (.pointer a)) (fun a n c g => g (.slice a n c))
    (fun r g => g (.map r)) (fun r g => g (.chan r)) (fun h a b _ _ g => g (.func h a b)) (fun g => g .nilFunc) (fun t v _ g => g (.iface t v)) (fun g => g .nilIface) (fun c _ g => g (.agg c)) (fun c _ g => g (.tuple c))
    (fun _ _ => ()) () (fun _ _ _ _ => ()) v
theorem fVR_eq (v : Value) (g : Value → Rs) : fVR v g = g v := by cases v <;> rfl
noncomputable def rsL {P : Program} {D N : Nat} (f : F) (H : AH) (rs : List (RR P D N tf)) : (List Value → Rs) → Rs :=
  List.rec (motive := fun _ => (List Value → Rs) → Rs) (fun k => k []) (fun r _ ih k => Option.rec (motive := fun _ => Rs) .bad (fun v => fVd v fun v => ih fun vs => k (v :: vs)) (r.get f H)) rs
theorem rsL_ok {P : Program} {D N : Nat} (f : F) (H : AH) : ∀ (rs : List (RR P D N tf)) (k : List Value → Rs), rsL f H rs k = .bad ∨ ∃ vs, resL P D N (tf f) H (rs.map RR.den) = some vs ∧ rsL f H rs k = k vs
  | [], k => .inr ⟨[], rfl, rfl⟩
  | r :: rs, k => by
    cases hr : r.get f H with
    | none =>
      left
      show Option.rec (motive := fun _ => Rs) .bad (fun v => fVd v fun v => rsL f H rs fun vs => k (v :: vs)) (r.get f H) = _
      rw [hr]
    | some v =>
      have e : rsL f H (r :: rs) k = rsL f H rs fun vs => k (v :: vs) := by
        show Option.rec (motive := fun _ => Rs) .bad (fun v => fVd v fun v => rsL f H rs fun vs => k (v :: vs)) (r.get f H) = _
        rw [hr]
        exact fVd_eq v _
      rcases rsL_ok f H rs (fun vs => k (v :: vs)) with h | ⟨vs, h1, h2⟩
      · exact .inl (e.trans h)
      · refine .inr ⟨v :: vs, ?_, e.trans h2⟩
        show (match res1 P D N (tf f) H r.den with
          | none => none
          | some v => match resL P D N (tf f) H (rs.map RR.den) with
            | none => none
            | some vs => some (v :: vs)) = _
        rw [r.ok f H v hr]
        simp only
        rw [h1]
noncomputable def outL (H : AH) (vs : List Value) : Rs :=
  List.rec (motive := fun _ => Rs) (.ok (.tuple ⟨[]⟩) H) (fun v r _ => List.rec (motive := fun _ => Rs) (.ok v H) (fun u l _ => .ok (.tuple ⟨v :: u :: l⟩) H) r) vs
theorem outL_eq {P : Program} {D N : Nat} {F' : F8} {H : AH} {rs : List ResultVar} {vs : List Value} (h : resL P D N F' H rs = some vs) : resV P D N F' H rs = outL H vs := by
  unfold resV
  rw [h]
  match vs with
  | [] => rfl
  | [_] => rfl
  | _ :: _ :: _ => rfl
end

/-- a function's fast text, and why it is the function's -/
structure XFn (P : Program) (G : Nat) (cmp : Cmp) where
  F : Type
  tf : F → F8
  g : Nat
  fn : Func
  c : Code
  D : Nat
  N : Nat
  ss : List (Slot tf)
  f0 : F
  code : XC tf
  rs : List (RR P D N tf)
  hD : D = dep fn.ntmps
  hN : N = fn.ntmps
  hf : P.funcs[g]? = some fn
  hc : fn.body = some c
  hok : okFn fn = true
  hss : ss.map Slot.p = (List.range' 0 ss.length).map (pth D)
  hn : ss.length ≤ N
  h0 : ∀ t, t < 8 ^ D → F8.get (pth D t) (tf f0) = undef
  hcode : cG cmp G D N code c = code.den
  hrs : rs.map RR.den = fn.results.toList
noncomputable def XFn.fin {P : Program} {G : Nat} {cmp : Cmp} (X : XFn P G cmp) (f : X.F) (Ds : List ADef) (H : AH) : Rs := List.rec (motive := fun _ => Rs) (rsL f H X.rs (outL H)) (fun _ _ _ => .bad) Ds
noncomputable def XFn.call {P : Program} {G : Nat} {cmp : Cmp} (X : XFn P G cmp) (cv : CV) (args : List Value) (H : AH) : Rs :=
  XO.rec (motive := fun _ => Rs) .bad (fun e f Ds H => Ex.rec (motive := fun _ => Rs) (X.fin f Ds H) (X.fin f Ds H) (fun _ => .bad) e) (inX X.ss args X.f0 (xev cv 1000000 X.code) H)
theorem XFn.call_ok {P : Program} {G B : Nat} {w0 : World} {cmp : Cmp} (X : XFn P G cmp) (hcmp : CmpOk P cmp) (hdrw : DrwOk P G B w0 (drwE G cmp)) {sp : Spec} (hsp : SpOk P G B w0 sp) {self : Self} (hself : Snd P G B w0 self) {cv : CV} (hcv : CvR cv (callV P sp self))
    {args : List Value} {H H' : AH} {v : Value} (h : X.call cv args H = .ok v H') {μ : Mu} {args' : List Value} {w : World} (hargs : LR μ args args') (hr : HR G B w0 H μ w) {cs : List Frame} :
    (callFunc X.g ⟨args'⟩).run P w = .ok (.enter X.g ⟨args'⟩) w ∧ Ends P G B w0 X.g args' .normal cs v H μ H' w := by
  have hN' : X.N ≤ 4096 := by
    have := X.hok
    simp only [okFn, Bool.and_eq_true] at this
    rw [X.hN]
    exact Nat.le_of_ble_eq_true this.1
  have eN := X.hN
  have eD := X.hD
  have hfit : X.N ≤ 8 ^ X.D := by rw [eD, eN]; rw [eN] at hN'; exact dep_fits hN'
  unfold XFn.call at h
  rcases inX_ok (D := X.D) (k := xev cv 1000000 X.code) (H := H) X.ss args 0 X.f0 X.hss with hb | ⟨f1, l1, l2, l3⟩
  · rw [hb] at h; cases h
  · rw [l2] at h
    have rf := xev_rf (G := G) (cmp := cmp) hcv X.g (X.D) X.N 1000000 X.code X.c X.hcode f1 [] H
    revert h rf
    generalize xev cv 1000000 X.code f1 [] H = o
    intro h rf
    cases o with
    | bad => cases h
    | out e f Ds H1 =>
      have rf' : evD P sp G cmp self (1000000 + 1) ⟨X.g, X.D, X.N, none⟩ X.c (X.tf f1) [] H = .out e (X.tf f) Ds H1 := rf
      have hD : ∀ h' : X.fin f Ds H1 = .ok v H', Ds = [] ∧ resV P (X.D) X.N (X.tf f) H1 X.fn.results.toList = .ok v H' := by
        intro h'
        cases Ds with
        | cons _ _ => cases h'
        | nil =>
          refine ⟨rfl, ?_⟩
          have h2 : rsL f H1 X.rs (outL H1) = .ok v H' := h'
          rcases rsL_ok f H1 X.rs (outL H1) with hb | ⟨vs, k1, k2⟩
          · rw [hb] at h2; cases h2
          · rw [X.hrs] at k1
            rw [outL_eq k1, ← k2]; exact h2
      have hex : (e = .norm ∨ e = .ret) ∧ X.fin f Ds H1 = .ok v H' := by
        cases e with
        | norm => exact ⟨.inl rfl, h⟩
        | ret => exact ⟨.inr rfl, h⟩
        | exit i => cases h
      obtain ⟨rfl, hres⟩ := hD hex.2
      have hlen := hargs.len
      have hn := X.hn
      have hz : FR (X.D) X.N μ (X.tf X.f0) (Array.replicate X.N undef) := ⟨by simp, hfit, fun t ht => by
        rw [X.h0 t ht]
        have : (Array.replicate X.N undef).getD t undef = undef := by
          simp only [Array.getD_eq_getD_getElem?, Array.getElem?_replicate]
          split <;> rfl
        rw [this]
        exact VR.undef μ⟩
      have h1 := initF_go args args' 0 (X.tf X.f0) _ hargs hz (by omega)
      have e1 : (args'.zipIdx 0).foldl (fun (t : Array Value) x => t.setIfInBounds x.2 x.1) (Array.replicate X.N undef) = (⟨args'⟩ : Array Value) ++ Array.replicate (X.N - args'.length) undef := by
        apply Array.toList_inj.1
        rw [foldl_init args' 0 _ (by simp; omega)]
        simp
      rw [e1] at h1
      have hF : FR (X.D) X.N μ (X.tf f1) ((⟨args'⟩ : Array Value) ++ Array.replicate (X.N - args'.length) undef) := by
        rw [l3]; exact h1
      rw [eD, eN] at hF rf' hres
      exact callG_ok (evD_ok hcmp hsp hdrw hself _) X.hf X.hc X.hok hF rf' hex.1 hres hr (.inl rfl)

/-! ### the calls -/
noncomputable def apL (first args cap : List Value) : List Value := List.rec (motive := fun _ => List Value) (List.rec (motive := fun _ => List Value) args (fun _ _ _ => args ++ cap) cap) (fun _ _ _ => first ++ (args ++ cap)) first
theorem apL_eq (first args cap : List Value) : apL first args cap = first ++ (args ++ cap) := by
  cases first with
  | cons _ _ => rfl
  | nil =>
    cases cap with
    | nil => simp [apL]
    | cons _ _ => rfl
noncomputable def cfX (P : Program) (sp : Spec) (self : Self) (g : Nat) (args : List Value) (H : AH) : Rs := Option.rec (motive := fun _ => Rs) (callW P self (call0 P self) g args H) (fun h => h args H) (sp g)
theorem cfX_eq (P : Program) (sp : Spec) (self : Self) (g : Nat) (args : List Value) (H : AH) : cfX P sp self g args H = callF P sp self g args H := by
  unfold cfX callF
  cases sp g <;> rfl
noncomputable def cvX (P : Program) (sp : Spec) (self : Self) (f : Value) (args : List Value) (H : AH) : Rs :=
  Value.rec (motive_1 := fun _ => Program → Spec → Self → List Value → AH → Rs) (motive_2 := fun _ => Unit) (motive_3 := fun _ => Unit)
    (fun _ _ _ _ _ _ => .bad) (fun _ _ _ _ _ _ _ => .bad) (fun _ _ _ _ _ _ _ => .bad) (fun _ _ _ _ _ _ _ _ => .bad) (fun _ _ _ _ _ _ => .bad) (fun _ _ _ _ _ _ => .bad) (fun _ _ _ _ _ _ _ _ => .bad)
    (fun _ _ _ _ _ _ => .bad) (fun _ _ _ _ _ _ => .bad)
    (fun h a b _ _ => Fn.rec (motive := fun _ => Program → Spec → Self → List Value → AH → Rs) (fun g P sp self args H => cfX P sp self g (apL a.toList args b.toList) H) (fun _ _ _ _ _ _ => .bad) (fun _ _ _ _ _ _ _ => .bad) (fun _ _ _ _ _ _ _ _ _ => .bad) (fun l _ _ self args H => yieldF self l args H) h)
    (fun _ _ _ _ _ => .bad) (fun _ _ _ _ _ _ _ _ => .bad) (fun _ _ _ _ _ => .bad) (fun _ _ _ _ _ _ _ => .bad) (fun _ _ _ _ _ _ _ => .bad)
    (fun _ _ => ()) () (fun _ _ _ _ => ()) f P sp self args H
theorem cvX_ok (P : Program) (sp : Spec) (self : Self) : CvR (cvX P sp self) (callV P sp self) := by
  intro f args H v H' h
  cases f with
  | func k a b =>
    obtain ⟨a⟩ := a
    obtain ⟨b⟩ := b
    cases k with
    | func g =>
      have h' : cfX P sp self g (apL a args b) H = .ok v H' := h
      rw [apL_eq, cfX_eq] at h'
      exact h'
    | yield l => exact h
    | _ => cases h
  | _ => cases h
/-- tables by number -/
inductive Tb (α : Type 1) where
  | nil
  | n (v : Option α) (l r : Tb α)
noncomputable def Tb.get {α : Type 1} (t : Tb α) : Nat → Option α :=
  Tb.rec (motive := fun _ => Nat → Option α) (fun _ => none)
    (fun v _ _ il ir k => Nat.rec (motive := fun _ => Option α) v (fun m _ => Bool.rec (motive := fun _ => Option α) (ir (Nat.div m 2)) (il (Nat.div m 2)) (Nat.beq (Nat.land m 1) 0)) k) t
/-- the fast functions as contracts, n calls deep; base: contracts proved otherwise -/
noncomputable def xsp (P : Program) (G : Nat) (cmp : Cmp) (tab : Tb (XFn P G cmp)) (base : Spec) (n : Nat) : Spec :=
  Nat.rec (motive := fun _ => Spec) base (fun _ ih g => Option.rec (motive := fun _ => Option (List Value → AH → Rs)) (base g)
    (fun X => Bool.rec (motive := fun _ => Option (List Value → AH → Rs)) (base g) (some (X.call (cvX P ih (ev P ih G cmp (drwE G cmp) 1000000)))) (Nat.beq X.g g)) (tab.get g)) n
theorem xsp_ok {P : Program} {G B : Nat} {w0 : World} {cmp : Cmp} (hcmp : CmpOk P cmp) (hdrw : DrwOk P G B w0 (drwE G cmp)) (tab : Tb (XFn P G cmp)) {base : Spec} (hbase : SpOk P G B w0 base) : ∀ n, SpOk P G B w0 (xsp P G cmp tab base n)
  | 0 => hbase
  | n + 1 => by
    have ih := xsp_ok hcmp hdrw tab hbase n
    intro g h hg
    change Option.rec (motive := fun _ => Option (List Value → AH → Rs)) (base g)
      (fun X => Bool.rec (motive := fun _ => Option (List Value → AH → Rs)) (base g) (some (X.call (cvX P (xsp P G cmp tab base n) (ev P (xsp P G cmp tab base n) G cmp (drwE G cmp) 1000000)))) (Nat.beq X.g g)) (tab.get g) = some h at hg
    cases ht : tab.get g with
    | none => rw [ht] at hg; exact hbase g h hg
    | some X =>
      rw [ht] at hg
      simp only at hg
      cases hb : Nat.beq X.g g with
      | false => rw [hb] at hg; exact hbase g h hg
      | true =>
        rw [hb] at hg
        simp only [Option.some.injEq] at hg
        have hgX := Nat.eq_of_beq_eq_true hb
        subst hgX
        subst hg
        intro g' args H v H' hcall μ args' w hl hr cs
        change (bif Nat.beq g' X.g then X.call (cvX P (xsp P G cmp tab base n) (ev P (xsp P G cmp tab base n) G cmp (drwE G cmp) 1000000)) args H else Rs.bad) = .ok v H' at hcall
        cases hb' : Nat.beq g' X.g with
        | false => rw [hb'] at hcall; cases hcall
        | true =>
          rw [hb', cond_true] at hcall
          have := Nat.eq_of_beq_eq_true hb'
          subst this
          exact X.call_ok hcmp hdrw ih (ev_ok hcmp ih hdrw 1000000) (cvX_ok P _ _) hcall hl hr
end Cr
end Go.Proofs.YtjhbabgcoemecaaDoor
namespace Go.Proofs.YtjhbabgcoemecaaDoor
namespace Cr
open Go Go.RowKit

def z1 : X1 := ⟨undef, undef, undef, undef, undef, undef, undef, undef⟩
def z2 : X2 := ⟨z1, z1, z1, z1, z1, z1, z1, z1⟩
def z3 : X3 := ⟨z2, z2, z2, z2, z2, z2, z2, z2⟩
theorem pick_same (x : Oct) (p : List Oct) (t : F8) : F8.get (x :: p) (.n t t t t t t t t) = F8.get p t := by cases x <;> rfl
theorem z1_get (x : Oct) : F8.get [x] (tf1 z1) = undef := pick_same x [] (.leaf undef)
theorem z2_get (x y : Oct) : F8.get [x, y] (tf2 z2) = undef := (pick_same x [y] (tf1 z1)).trans (z1_get y)
theorem z1_ok : ∀ t, t < 8 ^ 1 → F8.get (pth 1 t) (tf1 z1) = undef := fun _ _ => z1_get _
theorem z2_ok : ∀ t, t < 8 ^ 2 → F8.get (pth 2 t) (tf2 z2) = undef := fun _ _ => z2_get _ _
theorem z3_ok : ∀ t, t < 8 ^ 3 → F8.get (pth 3 t) (tf3 z3) = undef := fun _ _ => (pick_same _ _ (tf2 z2)).trans (z2_get _ _)

section
variable {F : Type} {tf : F → F8}
/-- a load, rechecked -/
noncomputable def rcLd (x d : RO tf) (p : List Oct) (hd : d.o = .t p) : RC tf where
  den := ⟨none, .r (r1 rLd), [x.o], some p⟩
  chk := fun f H => fLd (x.get f) H false (fun v => veq 6 v (d.get f))
  ok := by
    intro f H h
    have e : getL (tf f) [x.o] = [x.get f] := by rw [← x.ok]; rfl
    have ed : F8.get p (tf f) = d.get f := by rw [← d.ok, hd]; rfl
    rcases fLd_ok (x.get f) H false (fun v => veq 6 v (d.get f)) with hb | ⟨v, hv, hk⟩
    · rw [hb] at h; cases h
    · rw [hk] at h
      show (match r1 rLd (getL (tf f) [x.o]) H with
        | some u => veq 6 u (F8.get p (tf f))
        | none => false) = true
      rw [e]
      show (match rLd (x.get f) H with
        | some u => veq 6 u (F8.get p (tf f))
        | none => false) = true
      rw [hv, ed]
      exact h
end
noncomputable def bIxa (len size : Nat) : B2 where
  slow := pIxa len size
  fast := fun x y bad k => VP.rec (motive := fun _ => _) bad (fun i o => VI.rec (motive := fun _ => _) bad (fun _ m => Bool.rec (motive := fun _ => _) bad (forceN (Nat.add o (Nat.mul m size)) fun o => k (.pointer (some ⟨i, o, none⟩))) (Nat.ble (Nat.succ m) len)) (fun _ _ => bad) (asI y)) (asP x)
  ok := by
    intro R x y bad k
    cases h : asP x with
    | no => exact .inl rfl
    | p i o =>
      rw [asP_p h]
      simp only
      cases hy : asI y with
      | no => exact .inl rfl
      | m d a => exact .inl rfl
      | p d a =>
        rw [asI_p hy]
        simp only
        cases hb : Nat.ble (Nat.succ a) len with
        | false => exact .inl rfl
        | true =>
          refine .inr ⟨_, ?_, forceN_eq _ _⟩
          have hb' : Nat.blt a len = true := hb
          simp [pIxa, hb']
end Cr
end Go.Proofs.YtjhbabgcoemecaaDoor
namespace Go.Proofs.YtjhbabgcoemecaaDoor
namespace Cr
open Go Go.RowKit

/-- the numbers of the variables among the nodes -/
def varNums : List (Value × Value) → Option (List Value)
  | [] => some []
  | e :: es => match e.2 with
    | .agg ⟨[.int .u8 (.ofNat op), .int .u64 (.ofNat num), .slice _ _ _]⟩ => match varNums es with
      | none => none
      | some r => bif Nat.beq op 1 then (bif Nat.ble num 9223372036854775807 then some (.int .i64 (.ofNat num) :: r) else none) else some r
    | _ => none
noncomputable def spVars (call : Nat → List Value → AH → Rs) (occ srt : Nat) (args : List Value) (H : AH) : Rs :=
  match args with
  | [x, y] => match call occ [x, y] H with
    | .ok (.tuple ⟨[.map (some r), .int .i64 (.ofNat 0)]⟩) H1 => match H1.get r with
      | some (.map true es) => match varNums es with
        | some [n] => forceN H1.next fun i => bif Nat.blt i 900000000000 then
            forceH (H1.push (.cells true 1 1 [n] .nil)) fun H2 => match call srt [.slice (some ⟨i, 0, none⟩) 1 36893488147419103233] H2 with
            | .ok _ H3 => .ok (.tuple ⟨[.slice (some ⟨i, 0, none⟩) 1 36893488147419103233, .int .i64 (.ofNat 0)]⟩) H3
            | .bad => .bad
          else .bad
        | _ => .bad
      | _ => .bad
    | _ => .bad
  | _ => .bad
end Cr
end Go.Proofs.YtjhbabgcoemecaaDoor
namespace Go.Proofs.YtjhbabgcoemecaaDoor
namespace Cr
open Go Go.RowKit

/-- the step of a loop over a map, whatever entry the tape picks -/
theorem next_any {P : Program} {G B : Nat} {w0 : World} {H : AH} {μ : Mu} {w : World} (hr : HR G B w0 H μ w) {i m since last b : Nat} {seen : List Nat} {es : List (Value × Value)} (hgi : H.get i = some (.dfr (.iter m since seen last))) (hgm : H.get m = some (.map true es))
    (hs : since = es.length) (hl : since ≤ last) {o' : Nat} (hm : μ i = some (b, o')) (ty : TypeId) :
    o' = 0 ∧ (((∀ j, j < es.length → j ∈ seen) ∧ (Instr.next (.pointer (some ⟨b, 0, none⟩)) false ty).run P w = .ok (.tuple ⟨[.bool false]⟩) w) ∨
    ∃ j e k' v' w', es[j]? = some e ∧ j ∉ seen ∧ VR μ e.1 k' ∧ VR μ e.2 v' ∧ (Instr.next (.pointer (some ⟨b, 0, none⟩)) false ty).run P w = .ok (.tuple ⟨[.bool true, k', v']⟩) w' ∧
      Nx G B w0 H μ (H.set i (some (.dfr (.iter m since (seen ++ [j]) es.length)))) μ w') := by
  obtain ⟨ho0, hBb, ob, hob, m', hm', rfl⟩ := hr.blk i _ hgi b o' hm
  subst ho0
  refine ⟨rfl, ?_⟩
  obtain ⟨_, es2, ents, clock, qm, q1, q2, q3, q4⟩ := hr.blk m _ hgm m' 0 hm'
  have qm' : es = es2 := Eq.symm qm
  subst qm'
  obtain ⟨hB, hbn⟩ := q2 rfl
  obtain ⟨hcl, hsz⟩ := hbn.size q3
  have hborn : ∀ x ∈ ents.toList, x.born < since := by
    intro x hx
    obtain ⟨j, hj, rfl⟩ := List.getElem_of_mem hx
    have := hbn.born j _ (Array.getElem?_eq_getElem (by simpa using hj))
    simp only [Array.getElem_toList]
    have hj' : j < ents.size := by simpa using hj
    omega
  have hlt : b < w.heap.size := (Array.getElem?_eq_some_iff.1 hob).1
  rcases run_next_at (P := P) w ty b m' since last ⟨seen⟩ ents clock hob q1 hborn hl with ⟨h0, hrun⟩ | ⟨e, he, w1, hw1, hrun⟩
  · left
    refine ⟨fun j hj => ?_, hrun⟩
    have hem : leftOf ents ⟨seen⟩ = #[] := Array.eq_empty_of_size_eq_zero h0
    have hj' : j < ents.size := by omega
    have := hbn.born j _ (Array.getElem?_eq_getElem hj')
    unfold leftOf at hem
    rw [Array.filter_eq_empty_iff] at hem
    have h2 := hem ents[j] (Array.getElem_mem hj')
    rw [this] at h2
    simpa using h2
  · right
    have he' : e ∈ ents.toList ∧ e.born ∉ seen := by
      unfold leftOf at he
      simpa using he
    obtain ⟨j, hj, rfl⟩ := List.getElem_of_mem he'.1
    have hj' : j < ents.size := by simpa using hj
    have hje : j < es.length := by omega
    obtain ⟨e', g1, g2, g3, g4⟩ := entry_at hbn q3 q4 (List.getElem?_eq_getElem hje)
    rw [Array.getElem?_eq_getElem hj'] at g1
    injection g1 with g1
    subst g1
    have hns := he'.2
    simp only [Array.getElem_toList] at hrun hns
    rw [g2] at hrun hns
    refine ⟨j, es[j], _, _, _, List.getElem?_eq_getElem hje, hns, g3, g4, hrun, ?_⟩
    have hob1 : w1.heap = w.heap := by rcases hw1 with rfl | rfl <;> rfl
    have hr1 : HR G B w0 H μ w1 := by
      rcases hw1 with rfl | rfl
      · exact hr
      · exact hr.drew
    have e2 : (Array.push ⟨seen⟩ j : Array Nat) = ⟨seen ++ [j]⟩ := by simp
    rw [e2, hcl]
    refine hr1.putObj (y := .dfr (.iter m since (seen ++ [j]) es.length)) (.mapIter (some m') since ⟨seen ++ [j]⟩ es.length) hgi hm hBb ⟨rfl, hBb, _, ?_, m', hm', rfl⟩
    rw [hob1]
    simp [hlt]

/-- code from a state, whatever the tape says -/
def Okc (P : Program) (G B : Nat) (w0 : World) (ctx : Ctx) (c : Code) (F : F8) (H : AH) (Q : Ex → F8 → AH → Prop) : Prop :=
  ∀ (μ : Mu) (a : Act) (w : World) (b : Frame) (cs : List Frame), Pre G B w0 ctx μ F [] H a w b cs → ∀ (it : Item) (k : List Item), Starts c it →
    ∃ e F' H' a' w' μ', Q e F' H' ∧ Pre G B w0 ctx μ' F' [] H' a' w' b cs ∧ Nx G B w0 H μ H' μ' w' ∧ Arr P (lone (b.atR a (it :: k)) cs w) b k cs e a' w'

section
variable {P : Program} {G B : Nat} {w0 : World} {ctx : Ctx} {F : F8} {H : AH} {Q : Ex → F8 → AH → Prop}
theorem Okc.mono {c : Code} {Q' : Ex → F8 → AH → Prop} (h : Okc P G B w0 ctx c F H Q) (hq : ∀ e F H, Q e F H → Q' e F H) : Okc P G B w0 ctx c F H Q' :=
  fun μ a w b cs pre it k hst => let ⟨e, F', H', a', w', μ', q1, q2⟩ := h μ a w b cs pre it k hst; ⟨e, F', H', a', w', μ', hq _ _ _ q1, q2⟩
theorem Okc.run {self : Self} (hs : Snd P G B w0 self) {c : Code} {e : Ex} {F' : F8} {H' : AH} (h : self ctx c F [] H = .out e F' [] H') (hq : Q e F' H') : Okc P G B w0 ctx c F H Q :=
  fun μ a w b cs pre it k hst => let ⟨a', w', μ', q1, q2, q3⟩ := hs _ _ _ _ _ _ _ _ _ h μ a w b cs pre it k hst; ⟨e, F', H', a', w', μ', hq, q1, q2, q3⟩
def onNorm (R : F8 → AH → Prop) (Q : Ex → F8 → AH → Prop) : Ex → F8 → AH → Prop
  | .norm, F, H => R F H
  | e, F, H => Q e F H
theorem Okc.seq {x y : Code} (h : Okc P G B w0 ctx x F H (onNorm (fun F H => Okc P G B w0 ctx y F H Q) Q)) : Okc P G B w0 ctx (.seq x y) F H Q := by
  intro μ a w b cs pre it k hst
  cases hst
  obtain ⟨e, F1, H1, a1, w1, μ1, q0, q1, q2, q3⟩ := h μ a w b cs pre (.code x) (.code y :: k) (.code x)
  cases e with
  | norm =>
    obtain ⟨e, F2, H2, a2, w2, μ2, r0, r1, r2, r3⟩ := q0 μ1 a1 w1 b cs q1 (.code y) k (.code y)
    exact ⟨e, F2, H2, a2, w2, μ2, r0, r1, q2.trans r2, Arr.of_steps (.head stepR_seq q3) r3⟩
  | ret => exact ⟨.ret, F1, H1, a1, w1, μ1, q0, q1, q2, Arr.of_steps (.one stepR_seq) (Arr.pass (x := .code y) rfl (fun h => h) q3)⟩
  | exit i => exact ⟨.exit i, F1, H1, a1, w1, μ1, q0, q1, q2, Arr.of_steps (.one stepR_seq) (Arr.pass (x := .code y) rfl (fun h => h) q3)⟩
theorem Okc.loop {c : Code} (h : Okc P G B w0 ctx c F H (onNorm (fun F H => Okc P G B w0 ctx (.loop c) F H Q) Q)) : Okc P G B w0 ctx (.loop c) F H Q := by
  intro μ a w b cs pre it k hst
  have s0 : step P (lone (b.atR a (it :: k)) cs w) = .next (lone (b.atR a (.code c :: .inLoop c :: k)) cs w) := by
    cases hst with
    | code => exact stepR_loop
    | inLoop => exact stepR_inLoop
  obtain ⟨e, F1, H1, a1, w1, μ1, q0, q1, q2, q3⟩ := h μ a w b cs pre (.code c) (.inLoop c :: k) (.code c)
  cases e with
  | norm =>
    obtain ⟨e, F2, H2, a2, w2, μ2, r0, r1, r2, r3⟩ := q0 μ1 a1 w1 b cs q1 (.inLoop c) k (.inLoop c)
    exact ⟨e, F2, H2, a2, w2, μ2, r0, r1, q2.trans r2, Arr.of_steps (.head s0 q3) r3⟩
  | ret => exact ⟨.ret, F1, H1, a1, w1, μ1, q0, q1, q2, Arr.of_steps (.one s0) (Arr.pass (x := .inLoop c) rfl (fun h => h) q3)⟩
  | exit i => exact ⟨.exit i, F1, H1, a1, w1, μ1, q0, q1, q2, Arr.of_steps (.one s0) (Arr.pass (x := .inLoop c) rfl (fun h => h) q3)⟩
def onExit (id : Nat) (Q : Ex → F8 → AH → Prop) : Ex → F8 → AH → Prop
  | .exit j, F, H => if j = id then Q .norm F H else Q (.exit j) F H
  | e, F, H => Q e F H
theorem Okc.block {id : Nat} {c : Code} (h : Okc P G B w0 ctx c F H (onExit id Q)) : Okc P G B w0 ctx (.block id c) F H Q := by
  intro μ a w b cs pre it k hst
  cases hst
  obtain ⟨e, F1, H1, a1, w1, μ1, q0, q1, q2, q3⟩ := h μ a w b cs pre (.code c) (.inBlock id :: k) (.code c)
  cases e with
  | norm => exact ⟨.norm, F1, H1, a1, w1, μ1, q0, q1, q2, (Steps.head stepR_block q3).trans (.one stepR_inBlock)⟩
  | ret => exact ⟨.ret, F1, H1, a1, w1, μ1, q0, q1, q2, Arr.of_steps (.one stepR_block) q3⟩
  | exit j =>
    obtain ⟨k₁, t1, t2⟩ := q3
    by_cases hj : j = id
    · subst hj
      refine ⟨.norm, F1, H1, a1, w1, μ1, (if_pos rfl).mp q0, q1, q2, (Steps.head stepR_block t2).trans (.one (stepR_exit ?_))⟩
      rw [t1]; simp [exitTo]
    · refine ⟨.exit j, F1, H1, a1, w1, μ1, (if_neg hj).mp q0, q1, q2, k₁, ?_, .head stepR_block t2⟩
      rw [t1]
      have : id ≠ j := fun e => hj e.symm
      simp [exitTo, this]
theorem Okc.scope {c : Code} (h : Okc P G B w0 ctx c F H Q) : Okc P G B w0 ctx (.scope c) F H Q := by
  intro μ a w b cs pre it k hst
  cases hst
  obtain ⟨e, F1, H1, a1, w1, μ1, q0, q1, q2, q3⟩ := h μ a w b cs pre (.code c) (.inScope c :: k) (.code c)
  have s0 : step P (lone (b.atR a (.code (.scope c) :: k)) cs w) = .next (lone (b.atR a (.code c :: .inScope c :: k)) cs w) := step_lone_go (by simp [stepG, stepG.exec, Frame.atR])
  refine ⟨e, F1, H1, a1, w1, μ1, q0, q1, q2, Arr.of_steps (.one s0) ?_⟩
  cases e with
  | norm =>
    have s1 : step P (lone (b.atR a1 (.inScope c :: k)) cs w1) = .next (lone (b.atR a1 k) cs w1) := step_lone_go (by simp [stepG, stepG.exec, Frame.atR])
    exact Steps.trans q3 (.one s1)
  | ret => exact Arr.passScope (fun h => h) q3
  | exit i => exact Arr.passScope (fun h => h) q3
theorem Okc.cond {x : Operand} {y : Opd} {c1 c2 : Code} {t : Bool} (hx : cOpd G ctx.D ctx.N x = some y) (ht : y.get F = .bool t) (h : Okc P G B w0 ctx (if t then c1 else c2) F H Q) : Okc P G B w0 ctx (.cond x c1 c2) F H Q := by
  intro μ a w b cs pre it k hst
  cases hst
  have hv := cOpd_ok pre.fr pre.hr.glob hx
  rw [ht] at hv
  generalize hae : a.eval x = u' at hv
  cases hv
  have hc := stepR_cond (P := P) (b := b) (a := a) (k := k) (cs := cs) (w := w) (x := c1) (y := c2) hae
  cases t with
  | true =>
    obtain ⟨e, F1, H1, a1, w1, μ1, q0, q1, q2, q3⟩ := h μ a w b cs pre (.code c1) k (.code c1)
    exact ⟨e, F1, H1, a1, w1, μ1, q0, q1, q2, Arr.of_steps (.one hc) q3⟩
  | false =>
    obtain ⟨e, F1, H1, a1, w1, μ1, q0, q1, q2, q3⟩ := h μ a w b cs pre (.code c2) k (.code c2)
    exact ⟨e, F1, H1, a1, w1, μ1, q0, q1, q2, Arr.of_steps (.one hc) q3⟩
/-- a region that begins with the step of a loop over a map -/
theorem Okc.next {sp : Spec} {self : Self} {cmp : Cmp} (hcmp : CmpOk P cmp) (hcall : CallOk P G B w0 (callF P sp self)) (hyield : YieldOk P G B w0 (yieldF self)) {id : Nat} {ops : Array Oper} {o : Oper} {l : List Oper} {r : List COper} (hops : ops.toList = o :: l)
    {x : Operand} {y : Opd} {dst : Option Nat} {d : Option (List Oct)} (ho : o.op = .next x false) (hg : o.guard = none) (hdst : o.dst = dst) (hx : cOpd G ctx.D ctx.N x = some y) (hd : cDst ctx.D ctx.N dst = some d) (hc : cOps cmp G ctx.D ctx.N ops l = some r)
    {i m since last : Nat} {seen : List Nat} {es : List (Value × Value)} (hy : y.get F = .pointer (some ⟨i, 0, none⟩)) (hgi : H.get i = some (.dfr (.iter m since seen last))) (hgm : H.get m = some (.map true es)) (hs : since = es.length) (hl : since ≤ last)
    (h0 : (∀ j, j < es.length → j ∈ seen) → ∃ F' H', runOps (runOp P sp self ctx.ro) r (setD d F (.tuple ⟨[.bool false]⟩)) [] H = .out .norm F' [] H' ∧ Q .norm F' H')
    (h1 : ∀ j e, es[j]? = some e → j ∉ seen → ∃ F' H', runOps (runOp P sp self ctx.ro) r (setD d F (.tuple ⟨[.bool true, e.1, e.2]⟩)) [] (H.set i (some (.dfr (.iter m since (seen ++ [j]) es.length)))) = .out .norm F' [] H' ∧ Q .norm F' H') :
    Okc P G B w0 ctx (.region id ops false) F H Q := by
  intro μ a w b cs pre it k hst
  cases hst
  have hops0 : ops[0]? = some o := by rw [← Array.getElem?_toList, hops]; rfl
  have hrest : ∀ j, l[j]? = ops[1 + j]? := fun j => by
    rw [← Array.getElem?_toList, hops, Nat.add_comm]; rfl
  have hrange : List.range ops.size = 0 :: List.range' 1 l.length := by
    have : ops.size = l.length + 1 := by
      have := congrArg List.length hops
      simpa using this
    rw [this, List.range_eq_range', List.range'_succ]
  have hv := cOpd_ok pre.fr pre.hr.glob hx
  rw [hy] at hv
  have hw : Region.wanted o (yielded ops a.tmps) = true := by simp [Region.wanted, hg]
  have nd : ∀ c, o.op ≠ .defer c := by rw [ho]; intro c e; cases e
  generalize hae : a.eval x = u' at hv
  cases hv with
  | ptr _ b' o' _ hm =>
    have he : execOp a.eval o = Vof (Instr.next (.pointer (some ⟨b', o' + 0, none⟩)) false o.type) := by
      rw [← hae]
      unfold execOp; rw [ho]; rfl
    have fin : ∀ {v v' : Value} {w1 : World} {H1 : AH}, VR μ v v' → Nx G B w0 H μ H1 μ w1 → (execOp a.eval o).run P w = .ok (.value v') w1 → (∃ F' H', runOps (runOp P sp self ctx.ro) r (setD d F v) [] H1 = .out .norm F' [] H' ∧ Q .norm F' H') →
        ∃ e F' H' a' w' μ', Q e F' H' ∧ Pre G B w0 ctx μ' F' [] H' a' w' b cs ∧ Nx G B w0 H μ H' μ' w' ∧ Arr P (lone (b.atR a (.code (.region id ops false) :: k)) cs w) b k cs e a' w' := by
      intro v v' w1 H1 hv nx hrun hh
      obtain ⟨F', H', hrn, hq⟩ := hh
      have st := op_value (P := P) (b := b) (k := k) (cs := cs) (rest := List.range' 1 l.length) hops0 hw (w' := w1) (v := v') (by rw [Oper.semAt_eq _ _ _ nd]; exact hrun)
      have pre1 : Pre G B w0 ctx μ (setD d F v) [] H1 (a.put o.dst v') w1 b cs := by
        have hfr := setD_ok (dst := dst) pre.fr hd hv a.defers
        rw [← hdst] at hfr
        refine ⟨hfr, ?_, nx.hr, pre.fn, pre.ro, pre.calm⟩
        have := put_defers a a.defers o.dst v'
        have e : (({ a with defers := a.defers } : Act).put o.dst v') = a.put o.dst v' := rfl
        rw [e] at this
        rw [this]
        exact pre.df
      obtain ⟨_, a2, w2, μ2, r1, r2, r3⟩ := runOps_ok hcmp hcall hyield l r 1 hc hrest (setD d F v) [] H1 .norm F' [] H' hrn μ _ w1 b cs pre1 k
      refine ⟨.norm, F', H', a2, w2, μ2, hq, r1, nx.trans r2, ?_⟩
      show Steps P _ _
      refine Steps.head stepR_region ?_
      rw [hrange]
      exact Steps.head st r3
    obtain ⟨ho0, hh⟩ := next_any (P := P) pre.hr hgi hgm hs hl hm o.type
    subst ho0
    rcases hh with ⟨hall, hrun⟩ | ⟨j, e, k', v', w1, g1, g2, g3, g4, hrun, nx⟩
    · exact fin (VR.plain rfl) (Nx.refl pre.hr) (by rw [he]; exact run_Vof hrun) (h0 hall)
    · exact fin (VR.tuple_of (LR.cons (.bool true) (LR.cons g3 (LR.cons g4 (LR.nil μ))))) nx (by rw [he]; exact run_Vof hrun) (h1 j e g1 g2)
end

/-- a call whose body is shown by the rules -/
theorem call_of_okc {P : Program} {G B : Nat} {w0 : World} {g : Nat} {fn : Func} {c : Code} (hf : P.funcs[g]? = some fn) (hb : fn.body = some c) (hok : okFn fn = true) {args : List Value} {H H' : AH} {v : Value} (hn : args.length ≤ fn.ntmps)
    (h : Okc P G B w0 ⟨g, dep fn.ntmps, fn.ntmps, none⟩ c (initF (dep fn.ntmps) args) H (fun e F H1 => (e = .norm ∨ e = .ret) ∧ resV P (dep fn.ntmps) fn.ntmps F H1 fn.results.toList = .ok v H'))
    {μ : Mu} {args' : List Value} {w : World} (hargs : LR μ args args') (hr : HR G B w0 H μ w) {cs : List Frame} :
    (callFunc g ⟨args'⟩).run P w = .ok (.enter g ⟨args'⟩) w ∧ Ends P G B w0 g args' .normal cs v H μ H' w := by
  refine ⟨callFunc_enter hf hb hok _ _, ?_⟩
  have hN : fn.ntmps ≤ 4096 := by
    simp only [okFn, Bool.and_eq_true] at hok
    exact Nat.le_of_ble_eq_true hok.1
  let b : Frame := { (default : Frame) with fn := g, kind := .normal, roundOf := none }
  let a0 : Act := { tmps := (⟨args'⟩ : Array Value) ++ Array.replicate (fn.ntmps - args'.length) undef, defers := [] }
  have henter : Frame.enter P g ⟨args'⟩ .normal = b.atR a0 [.code c] := by
    simp [Frame.enter, Frame.atR, hf, hb, b, a0]
  have pre : Pre G B w0 ⟨g, dep fn.ntmps, fn.ntmps, none⟩ μ (initF (dep fn.ntmps) args) [] H a0 w b cs := ⟨initF_ok hargs hN hn, .nil, hr, rfl, trivial, .inl rfl⟩
  obtain ⟨e, F', H1, a', w', μ', ⟨he, hres⟩, pre', nx, arr⟩ := h μ a0 w b cs pre (.code c) [] (.code c)
  rw [← henter] at arr
  have hB : DefOk P G B w0 (fun _ _ _ => .bad) := fun _ _ _ _ _ h => by cases h
  have fin : ∀ todo, Steps P (lone (Frame.enter P g ⟨args'⟩ .normal) cs w) (lone { b.atR a' todo with mode := .returning } cs w') → Ends P G B w0 g args' .normal cs v H μ H' w := by
    intro todo hst
    obtain ⟨v', w2, μ2, fr', s1, s2, s3, s4, s5, s6, s7, s8⟩ := leave_ok hB [] H1 H' v hres μ' w' { b.atR a' todo with mode := .returning } cs pre'.hr pre'.fr pre'.df rfl hf
    exact ⟨v', w2, μ2, fr', hst.trans s1, s2, s3, s4, s5, s6, s7, nx.trans s8⟩
  rcases he with rfl | rfl
  · exact fin [] (Steps.trans arr (.one (stepR_end rfl)))
  · obtain ⟨k₁, st⟩ := arr
    exact fin _ (Steps.trans st (.one (stepR_ret rfl)))
end Cr
end Go.Proofs.YtjhbabgcoemecaaDoor
namespace Go.Proofs.YtjhbabgcoemecaaDoor
namespace Cr
open Go Go.RowKit

theorem calls_of {P : Program} {G B : Nat} {w0 : World} {sp : Spec} (hsp : SpOk P G B w0 sp) {g : Nat} {h : List Value → AH → Rs} (hg : sp g = some h) {args : List Value} {H H' : AH} {v : Value} (hrun : h args H = .ok v H')
    {μ : Mu} {w : World} {args' : List Value} (hargs : LR μ args args') (hr : HR G B w0 H μ w) :
    Calls P g ⟨args'⟩ w fun e w' => ∃ v' μ', e = .returned v' ∧ VR μ' v v' ∧ Nx G B w0 H μ H' μ' w' := by
  intro cs
  obtain ⟨_, v', w', μ', fr, h1, h2, h3, h4, h5, h6, h7, h8⟩ := hsp g h hg g args H v H' (by show (bif Nat.beq g g then h args H else Rs.bad) = _; rw [Nat.beq_refl]; exact hrun) μ args' w hargs hr cs
  exact ⟨.returned v', w', fr, ⟨v', μ', rfl, h7, h8⟩, h1, h2, Ends.leaving h2 h3 h4 h5 h6⟩
/-- a run without arguments that answers 'true' -/
theorem calls_true {P : Program} {G : Nat} {w : World} {sp : Spec} (hsp : SpOk P G w.heap.size w sp) {g : Nat} {h : List Value → AH → Rs} (hg : sp g = some h) {H H' : AH} (hrun : h [] H = .ok (.bool true) H')
    {μ : Mu} (hr : HR G w.heap.size w H μ w) : Calls P g #[] w fun e w' => e = .returned (.bool true) ∧ Below w.heap.size w w' := by
  refine (calls_of hsp hg hrun (LR.nil μ) hr).mono ?_
  rintro e w' ⟨v', μ', rfl, hv, nx⟩
  cases hv
  exact ⟨rfl, nx.hr.below⟩

/-- memories that read alike -/
structure Alike (H K : AH) : Prop where
  get : ∀ i, H.get i = K.get i
  next : H.next = K.next
theorem HR.alike {G B : Nat} {w0 : World} {H K : AH} {μ : Mu} {w : World} (h : HR G B w0 H μ w) (e : Alike H K) : HR G B w0 K μ w :=
  ⟨fun i x hi => h.blk i x ((e.get i).trans hi), fun i j x y hi hj => h.apart i j x y ((e.get i).trans hi) ((e.get j).trans hj), fun i x hi => e.next ▸ h.low i x ((e.get i).trans hi), fun i p hp => e.next ▸ h.mu i p hp, h.glob, e.next ▸ h.small, h.below, h.base⟩
theorem Nx.alike {G B : Nat} {w0 : World} {H H' K : AH} {μ μ' : Mu} {w' : World} (h : Nx G B w0 H μ H' μ' w') (e : Alike H' K) : Nx G B w0 H μ K μ' w' :=
  ⟨h.hr.alike e, h.ext, fun i hi hu => let ⟨a, b⟩ := h.unb i hi hu; ⟨a, (e.get i).symm.trans b⟩, e.next ▸ h.next⟩
/-! ### the first memory -/
/-- block 0 holds the number of a map, block 1 is an array, block 2 the map -/
noncomputable def first (n : Nat) (zs : List Value) (es : List (Value × Value)) : AH :=
  ⟨((Tr.nil.put 0 (some (.cells false 1 1 [.map (some 2)] .nil))).put 1 (some (.cells false n n zs .nil))).put 2 (some (.map false es)), 3⟩
theorem first_get (n : Nat) (zs : List Value) (es : List (Value × Value)) (i : Nat) :
    (first n zs es).get i = if i = 2 then some (.map false es) else if i = 1 then some (.cells false n n zs .nil) else if i = 0 then some (.cells false 1 1 [.map (some 2)] .nil) else none := by
  show (Tr.put (Tr.put (Tr.put Tr.nil 0 _) 1 _) 2 _).get i = _
  rw [Tr.get_put _ _ _ _ (by decide), Tr.get_put _ _ _ _ (by decide), Tr.get_put _ _ _ _ (by decide), Tr.get_nil]
def firstMu (b : Nat) : Mu := ⟨fun i => if i = 2 then some (b, 0) else if i = 1 then some (1, 0) else if i = 0 then some (0, 0) else none, fun _ => 0⟩
theorem first_ok {w : World} {b n : Nat} {zs : List Value} {es : List (Value × Value)} {cs0 cs1 : Array Value} {e0 e1 : TypeId} {f0 f1 : Nat × Nat} {ents : Array MapEntry} {clock : Nat}
    (h0 : w.heap[0]? = some (.cells cs0 e0 f0)) (h0' : cs0[0]? = some (.map (some b))) (h1 : w.heap[1]? = some (.cells cs1 e1 f1)) (h1' : ∀ k, k < n → cs1[k]? = zs[k]?) (hn : zs.length = n) (hz : zs.all scalar = true)
    (hb : w.heap[b]? = some (.map ents clock)) (hp : List.Perm es (ents.toList.map fun e => (e.key, e.val))) (hk : (es.map (·.1)).all scalar = true) (hv : (es.map (·.2)).all scalar = true)
    (hi : ∃ kd, ∀ e ∈ es, ∃ n, e.1 = .int kd n) (hd : es.Pairwise (fun x y => x.1 ≠ y.1)) : HR 2 w.heap.size w (first n zs es) (firstMu b) w := by
  have hb0 : b ≠ 0 := fun e => by subst e; rw [h0] at hb; cases hb
  have hb1 : b ≠ 1 := fun e => by subst e; rw [h1] at hb; cases hb
  have key : ∀ {l : List Value}, l.all scalar = true → ∀ {l' : List Value}, List.Perm l l' → LR (firstMu b) l' l' := fun hl _ hp' => LR.scalars (List.all_eq_true.2 fun x hx => List.all_eq_true.1 hl x (hp'.mem_iff.2 hx))
  have cases3 : ∀ {i : Nat} {p : Nat × Nat}, firstMu b i = some p → (i = 2 ∧ p = (b, 0)) ∨ (i = 1 ∧ p = (1, 0)) ∨ (i = 0 ∧ p = (0, 0)) := by
    intro i p h
    simp only [firstMu] at h
    split at h
    · injection h with h; exact .inl ⟨by assumption, h.symm⟩
    · split at h
      · injection h with h; exact .inr (.inl ⟨by assumption, h.symm⟩)
      · split at h
        · injection h with h; exact .inr (.inr ⟨by assumption, h.symm⟩)
        · cases h
  refine ⟨?_, ?_, ?_, ?_, ?_, (by show (3 : Nat) < _; decide), Below.refl _ _, Nat.le_refl _⟩
  · intro i x hx c o hm
    rw [first_get] at hx
    rcases cases3 hm with ⟨rfl, e⟩ | ⟨rfl, e⟩ | ⟨rfl, e⟩
    · injection e with e1 e2
      subst e1 e2
      rw [if_pos rfl] at hx
      injection hx with hx
      subst hx
      refine ⟨rfl, _, ents, clock, ⟨hp, hi, hd⟩, hb, (fun e => (by cases e)), ?_, ?_⟩
      · have := key hk (hp.map (·.1))
        rw [List.map_map] at this ⊢
        exact this
      · have := key hv (hp.map (·.2))
        rw [List.map_map] at this ⊢
        exact this
    · injection e with e1 e2
      subst e1 e2
      rw [if_neg (by decide), if_pos rfl] at hx
      injection hx with hx
      subst hx
      refine ⟨cs1, e1, f1, h1, fun e => (by cases e), fun k hk => ?_⟩
      have hkl : k < zs.length := by omega
      refine ⟨zs[k], by rw [Nat.zero_add, h1' k hk, List.getElem?_eq_getElem hkl], ?_⟩
      have e : cellv n zs .nil k = zs[k] := by
        show nth zs (Nat.mod k n) = _
        rw [nth_eq]
        have : Nat.mod k n = k := Nat.mod_eq_of_lt hk
        rw [this, List.getD_eq_getElem?_getD, List.getElem?_eq_getElem hkl]; rfl
      rw [e]
      exact VR.scalar (List.all_eq_true.1 hz _ (List.getElem_mem hkl))
    · injection e with e1 e2
      subst e1 e2
      rw [if_neg (by decide), if_neg (by decide), if_pos rfl] at hx
      injection hx with hx
      subst hx
      refine ⟨cs0, e0, f0, h0, fun e => (by cases e), fun k hk => ?_⟩
      obtain rfl : k = 0 := by omega
      exact ⟨_, h0', VR.map 2 b rfl⟩
  · intro i j x y _ _ hne c o c' o' hm hm'
    rcases cases3 hm with ⟨rfl, e⟩ | ⟨rfl, e⟩ | ⟨rfl, e⟩ <;> rcases cases3 hm' with ⟨rfl, e'⟩ | ⟨rfl, e'⟩ | ⟨rfl, e'⟩ <;> injection e with e1 e2 <;> injection e' with e1' e2' <;> omega
  · intro i x hx
    rw [first_get] at hx
    show i < 3
    split at hx
    · omega
    · split at hx
      · omega
      · split at hx
        · omega
        · cases hx
  · intro i p hp
    show i < 3
    rcases cases3 hp with ⟨rfl, e⟩ | ⟨rfl, e⟩ | ⟨rfl, e⟩ <;> decide
  · intro g hg
    have : g = 0 ∨ g = 1 := by omega
    rcases this with rfl | rfl <;> rfl
end Cr
end Go.Proofs.YtjhbabgcoemecaaDoor
namespace Go.Proofs.YtjhbabgcoemecaaDoor
namespace Cr
open Go Go.RowKit
open Go.ChangeMaps (setBlock)

theorem calls_of_call {P : Program} {G B : Nat} {w0 : World} {call : Nat → List Value → AH → Rs} (hcall : CallOk P G B w0 call) {g : Nat} {args : List Value} {H H' : AH} {v : Value} (hrun : call g args H = .ok v H')
    {μ : Mu} {w : World} {args' : List Value} (hargs : LR μ args args') (hr : HR G B w0 H μ w) :
    Calls P g ⟨args'⟩ w fun e w' => ∃ v' μ', e = .returned v' ∧ VR μ' v v' ∧ Nx G B w0 H μ H' μ' w' := by
  intro cs
  obtain ⟨_, v', w', μ', fr, h1, h2, h3, h4, h5, h6, h7, h8⟩ := hcall g args H v H' hrun μ args' w hargs hr cs
  exact ⟨.returned v', w', fr, ⟨v', μ', rfl, h7, h8⟩, h1, h2, Ends.leaving h2 h3 h4 h5 h6⟩
/-- and back -/
theorem ends_of_calls {P : Program} {G B : Nat} {w0 : World} {g : Nat} {H H' : AH} {v : Value} {μ : Mu} {w : World} {args' : List Value} {fn : Func} {c : Code} (hf : P.funcs[g]? = some fn) (hb : fn.body = some c) (hok : okFn fn = true)
    (h : Calls P g ⟨args'⟩ w fun e w' => ∃ v' μ', e = .returned v' ∧ VR μ' v v' ∧ Nx G B w0 H μ H' μ' w') (cs : List Frame) :
    (callFunc g ⟨args'⟩).run P w = .ok (.enter g ⟨args'⟩) w ∧ Ends P G B w0 g args' .normal cs v H μ H' w := by
  refine ⟨callFunc_enter hf hb hok _ _, ?_⟩
  obtain ⟨e, w', fr, ⟨v', μ', rfl, h1, h2⟩, h3, h4, h5⟩ := h cs
  obtain ⟨l1, l2, l3, fn', l4, l5⟩ := h5
  exact ⟨v', w', μ', fr, h3, h4, l3, l1, l2, ⟨fn', by rw [← h4]; exact l4, l5⟩, h1, h2⟩

/-- worlds that have grown beside the machine: what it knows is as it was -/
theorem HR.beside {G B : Nat} {w0 : World} {H : AH} {μ : Mu} {w w' : World} (h : HR G B w0 H μ w) (hb : Below w.heap.size w w') : HR G B w0 H μ w' :=
  ⟨fun i x hi b o hm => (h.blk i x hi b o hm).heap (hb.block b (h.blk i x hi b o hm).lt), h.apart, h.low, h.mu, h.glob, h.small, h.below.trans (hb.mono h.base), Nat.le_trans h.base hb.size⟩
/-- a block that was born beside the machine gets a number -/
theorem HR.born {G B : Nat} {w0 : World} {H : AH} {μ : Mu} {w : World} (h : HR G B w0 H μ w) (hs : H.next < 999999999999) {w' : World} (hb : Below w.heap.size w w') {x : Blk} {c T : Nat} (hc : w.heap.size ≤ c)
    (hx : BR B (μ.bind H.next (c, 0) T) w' c 0 T x) : Nx G B w0 H μ (H.push x) (μ.bind H.next (c, 0) T) w' := by
  have hf := h.fresh
  have hext := Mu.ext_bind (p := (c, 0)) (T := T) hf
  have hget := AH.get_push (H := H) (x := x) (by omega)
  have h' := h.beside hb
  refine ⟨⟨?_, ?_, ?_, ?_, fun g hg => hext.loc _ _ (h.glob g hg), by show Nat.succ H.next < _; omega, h'.below, h'.base⟩, hext, ?_, Nat.le_succ _⟩
  · intro i y hi b o hm
    rw [hget] at hi
    by_cases e : i = H.next
    · subst e
      rw [if_pos rfl] at hi
      injection hi with hi
      subst hi
      rw [Mu.bind_same] at hm
      injection hm with hm
      injection hm with e1 e2
      subst e1 e2
      rw [Mu.tot_same]
      exact hx
    · rw [if_neg e] at hi
      rw [Mu.bind_ne e] at hm
      rw [Mu.tot_ne e]
      exact (h'.blk i y hi b o hm).ext hext
  · intro i j y z hi hj hne b o b' o' hm hm'
    rw [hget] at hi hj
    by_cases e : i = H.next
    · subst e
      have e' : j ≠ H.next := fun e => hne e.symm
      rw [if_neg e'] at hj
      rw [Mu.bind_same] at hm
      rw [Mu.bind_ne e'] at hm'
      injection hm with hm
      injection hm with e1 e2
      have := (h.blk j z hj b' o' hm').lt
      omega
    · rw [if_neg e] at hi
      rw [Mu.bind_ne e] at hm
      by_cases e' : j = H.next
      · subst e'
        rw [Mu.bind_same] at hm'
        injection hm' with hm'
        injection hm' with e1 e2
        have := (h.blk i y hi b o hm).lt
        omega
      · rw [if_neg e'] at hj
        rw [Mu.bind_ne e'] at hm'
        exact h.apart i j y z hi hj hne b o b' o' hm hm'
  · intro i y hi
    rw [hget] at hi
    show i < Nat.succ H.next
    by_cases e : i = H.next
    · omega
    · rw [if_neg e] at hi; have := h.low i y hi; omega
  · intro i p hp
    show i < Nat.succ H.next
    by_cases e : i = H.next
    · omega
    · rw [Mu.bind_ne e] at hp; have := h.mu i p hp; omega
  · intro i hi hu
    have e : i ≠ H.next := by omega
    exact ⟨by rw [Mu.bind_ne e]; exact hu, by rw [hget, if_neg e]⟩

/-! ### loops over maps, for the walk -/
section
variable {P : Program} {w : World} {ops : Array Oper} {rest : List Oper} {o : Oper} {a : Act} {Q : Exit → Act → World → Prop}
theorem wpList_range_at (hg : o.guard = none) (m : Operand) (t : TypeId) (hop : o.op = Op.range t m) {kt et : TypeId} (ht : P.underlying t = some (.map kt et)) {b clock : Nat} {es : Array MapEntry}
    (hm : a.eval m = .map (some b)) (hb : w.heap[b]? = some (.map es clock))
    (hK : ∀ w', Hid (w' = w.alloc (.mapIter (some b) clock #[] clock)) → wpList P ops Q rest (a.put o.dst (.pointer (some ⟨w.heap.size, 0, none⟩))) w') : wpList P ops Q (o :: rest) a w := by
  refine wpList_plain hg fun K' hK' => ?_
  have hget : (getObj b).run P w = .ok (.map es clock) w := by simp [getObj, Sem.run, hb]
  have hrun : (Instr.range t (.map (some b))).run P w = .ok (.pointer (some ⟨w.heap.size, 0, none⟩)) (w.alloc (.mapIter (some b) clock #[] clock)) := by
    simp [Instr.range, run_underlying ht, hget]
  unfold Oper.wp
  simp [execOp, hop, hm, hrun, Result.andThen]
  exact hK' _ _ (hK _ (Lib.hid rfl))
theorem wpList_next_at (hg : o.guard = none) (it : Operand) (hop : o.op = Op.next it false) {r bm since c0 clock : Nat} {seen : Array Nat} {es : Array MapEntry}
    (hit : a.eval it = .pointer (some ⟨r, 0, none⟩)) (hr : w.heap[r]? = some (.mapIter (some bm) since seen c0)) (hb : w.heap[bm]? = some (.map es clock)) (hold : ∀ x ∈ es.toList, x.born < since) (hsc : since ≤ c0)
    (hDone : Hid ((leftOf es seen).size = 0) → wpList P ops Q rest (a.put o.dst (.tuple #[.bool false])) w)
    (hMore : ∀ e ∈ (leftOf es seen).toList, ∀ w1 w2, (w1 = w ∨ w1 = w.drew) → Hid (w2 = setBlock w1 r (.mapIter (some bm) since (seen.push e.born) clock)) → wpList P ops Q rest (a.put o.dst (.tuple #[.bool true, e.key, e.val])) w2) :
    wpList P ops Q (o :: rest) a w := by
  refine wpList_plain hg fun K' hK' => ?_
  unfold Oper.wp
  rcases run_next_at (P := P) w o.type r bm since c0 seen es clock hr hb hold hsc with ⟨h0, hrun⟩ | ⟨e, he, w1, hw1, hrun⟩
  · simp [execOp, hop, hit, hrun, Result.andThen]
    exact hK' _ _ (hDone (Lib.hid h0))
  · simp [execOp, hop, hit, hrun, Result.andThen]
    exact hK' _ _ (hMore e he w1 _ hw1 (Lib.hid rfl))
theorem wpList_entry_at (hg : o.guard = none) (it : Operand) (hop : o.op = Op.entry it) {r : Nat} {k v : Value} (hit : a.eval it = .pointer (some ⟨r, 0, none⟩)) (hrun : (Instr.entry (.pointer (some ⟨r, 0, none⟩))).run P w = .ok (.tuple #[k, v]) w)
    (hK : wpList P ops Q rest (a.put o.dst (.tuple #[k, v])) w) : wpList P ops Q (o :: rest) a w := by
  refine wpList_plain hg fun K' hK' => ?_
  unfold Oper.wp
  simp [execOp, hop, hit, hrun, Result.andThen]
  exact hK' _ _ hK
end
end Cr
end Go.Proofs.YtjhbabgcoemecaaDoor
