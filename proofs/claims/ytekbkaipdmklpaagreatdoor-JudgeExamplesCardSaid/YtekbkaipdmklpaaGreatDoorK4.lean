/- A machine for closed runs (part 39): from a run to a contract. (and what follows on it). -/
import Derived.Test.YtekbkaipdmklpaaGreatDoorK3
import Derived.Test.YtekbkaipdmklpaaGreatDoorK2
import Derived.Maps.RangeWalk
import Derived.Lib.Hide
import Derived.WalkKit
import Derived.ProofKit
import Derived.Laws.AppendOwn
import Derived.Maps.RangeRun
import Derived.Lib.Bytealg
namespace Go.Proofs.YtekbkaipdmklpaaGreatDoor
namespace Cr
open Go Go.RowKit

theorem calls_of {P : Program} {G B : Nat} {w0 : W0} {sp : Spec} (hsp : SpOk P G B w0 sp) {g : Nat} {h : List Value → AH → Rs} (hg : sp g = some h) {args : List Value} {H H' : AH} {v : Value} (hrun : h args H = .ok v H')
    {μ : Mu} {w : World} {args' : List Value} (hargs : LR μ args args') (hr : HR G B w0 H μ w) :
    Calls P g ⟨args'⟩ w fun e w' => ∃ v' μ', e = .returned v' ∧ VR μ' v v' ∧ Nx G B w0 H μ H' μ' w' := by
  intro cs
  obtain ⟨_, v', w', μ', fr, h1, h2, h3, h4, h5, h6, h7, h8⟩ := hsp g h hg g args H v H' (by show (bif Nat.beq g g then h args H else Rs.bad) = _; rw [Nat.beq_refl]; exact hrun) μ args' w hargs hr cs
  exact ⟨.returned v', w', fr, ⟨v', μ', rfl, h7, h8⟩, h1, h2, Ends.leaving h2 h3 h4 h5 h6⟩
/-- a run without arguments that answers 'true' -/
theorem calls_true {P : Program} {G : Nat} {w : World} {sp : Spec} (hsp : SpOk P G w.heap.size w sp) {g : Nat} {h : List Value → AH → Rs} (hg : sp g = some h) {H H' : AH} (hrun : h [] H = .ok (.bool true) H')
    {μ : Mu} (hr : HR G w.heap.size w H μ w) : Calls P g #[] w fun e w' => e = .returned (.bool true) ∧ Below w.heap.size w w' := by
  refine (calls_of hsp hg hrun (LR.nil μ) hr).mono ?_
  rintro e w' ⟨v', μ', rfl, hv, nx⟩
  cases hv
  exact ⟨rfl, nx.hr.below⟩

/-- memories that read alike -/
structure Alike (H K : AH) : Prop where
  get : ∀ i, H.get i = K.get i
  next : H.next = K.next
theorem HR.alike {G B : Nat} {w0 : W0} {H K : AH} {μ : Mu} {w : World} (h : HR G B w0 H μ w) (e : Alike H K) : HR G B w0 K μ w :=
  ⟨fun i x hi => h.blk i x ((e.get i).trans hi), fun i j x y hi hj => h.apart i j x y ((e.get i).trans hi) ((e.get j).trans hj), fun i x hi => e.next ▸ h.low i x ((e.get i).trans hi), fun i p hp => e.next ▸ h.mu i p hp, h.glob, e.next ▸ h.small, h.below, h.base⟩
theorem Nx.alike {G B : Nat} {w0 : W0} {H H' K : AH} {μ μ' : Mu} {w' : World} (h : Nx G B w0 H μ H' μ' w') (e : Alike H' K) : Nx G B w0 H μ K μ' w' :=
  ⟨h.hr.alike e, h.ext, fun i hi hu => let ⟨a, b⟩ := h.unb i hi hu; ⟨a, fun hk => (e.get i).symm.trans (b hk)⟩, e.next ▸ h.next⟩
/-! ### the first memory -/
/-- block 0 holds the number of a map, block 1 is an array, block 2 the map -/
noncomputable def first (n : Nat) (zs : List Value) (es : List (Value × Value)) : AH :=
  ⟨((Tr.nil.put 0 (some (.cells false 1 1 [.map (some 2)] .nil))).put 1 (some (.cells false n n zs .nil))).put 2 (some (.map false es)), 3⟩
theorem first_get (n : Nat) (zs : List Value) (es : List (Value × Value)) (i : Nat) :
    (first n zs es).get i = if i = 2 then some (.map false es) else if i = 1 then some (.cells false n n zs .nil) else if i = 0 then some (.cells false 1 1 [.map (some 2)] .nil) else none := by
  show (Tr.put (Tr.put (Tr.put Tr.nil 0 _) 1 _) 2 _).get i = _
  rw [Tr.get_put _ _ _ _ (by decide), Tr.get_put _ _ _ _ (by decide), Tr.get_put _ _ _ _ (by decide), Tr.get_nil]
def firstMu (b : Nat) : Mu := ⟨fun i => if i = 2 then some (b, 0) else if i = 1 then some (1, 0) else if i = 0 then some (0, 0) else none, fun _ => 0, fun _ => .deferred none⟩
theorem first_ok {w : World} {b n : Nat} {zs : List Value} {es : List (Value × Value)} {cs0 cs1 : Array Value} {e0 e1 : TypeId} {f0 f1 : Nat × Nat} {ents : Array MapEntry} {clock : Nat}
    (h0 : w.heap[0]? = some (.cells cs0 e0 f0)) (h0' : cs0[0]? = some (.map (some b))) (h1 : w.heap[1]? = some (.cells cs1 e1 f1)) (h1' : ∀ k, k < n → cs1[k]? = zs[k]?) (hn : zs.length = n) (hz : zs.all scalar = true)
    (hb : w.heap[b]? = some (.map ents clock)) (hp : List.Perm es (ents.toList.map fun e => (e.key, e.val))) (hk : (es.map (·.1)).all scalar = true) (hv : (es.map (·.2)).all scalar = true)
    (hi : ∃ kd, ∀ e ∈ es, ∃ n, e.1 = .int kd n) (hd : es.Pairwise (fun x y => x.1 ≠ y.1)) : HR 2 w.heap.size w (first n zs es) (firstMu b) w := by
  have hb0 : b ≠ 0 := fun e => by subst e; rw [h0] at hb; cases hb
  have hb1 : b ≠ 1 := fun e => by subst e; rw [h1] at hb; cases hb
  have key : ∀ {l : List Value}, l.all scalar = true → ∀ {l' : List Value}, List.Perm l l' → LR (firstMu b) l' l' := fun hl _ hp' => LR.scalars (List.all_eq_true.2 fun x hx => List.all_eq_true.1 hl x (hp'.mem_iff.2 hx))
  have cases3 : ∀ {i : Nat} {p : Nat × Nat}, firstMu b i = some p → (i = 2 ∧ p = (b, 0)) ∨ (i = 1 ∧ p = (1, 0)) ∨ (i = 0 ∧ p = (0, 0)) := by
    intro i p h
    simp only [firstMu] at h
    split at h
    · injection h with h; exact .inl ⟨by assumption, h.symm⟩
    · split at h
      · injection h with h; exact .inr (.inl ⟨by assumption, h.symm⟩)
      · split at h
        · injection h with h; exact .inr (.inr ⟨by assumption, h.symm⟩)
        · cases h
  refine ⟨?_, ?_, ?_, ?_, ?_, (by show (3 : Nat) < _; decide), Below.refl _ _, Nat.le_refl _⟩
  · intro i x hx c o hm
    rw [first_get] at hx
    rcases cases3 hm with ⟨rfl, e⟩ | ⟨rfl, e⟩ | ⟨rfl, e⟩
    · injection e with e1 e2
      subst e1 e2
      rw [if_pos rfl] at hx
      injection hx with hx
      subst hx
      refine ⟨rfl, _, ents, clock, ⟨hp, hi, hd⟩, hb, (fun e => (by cases e)), ?_, ?_⟩
      · have := key hk (hp.map (·.1))
        rw [List.map_map] at this ⊢
        exact this
      · have := key hv (hp.map (·.2))
        rw [List.map_map] at this ⊢
        exact this
    · injection e with e1 e2
      subst e1 e2
      rw [if_neg (by decide), if_pos rfl] at hx
      injection hx with hx
      subst hx
      refine ⟨cs1, e1, f1, h1, fun e => (by cases e), fun k hk => ?_⟩
      have hkl : k < zs.length := by omega
      refine ⟨zs[k], by rw [Nat.zero_add, h1' k hk, List.getElem?_eq_getElem hkl], ?_⟩
      have e : cellv n zs .nil k = zs[k] := by
        show nth zs (Nat.mod k n) = _
        rw [nth_eq]
        have : Nat.mod k n = k := Nat.mod_eq_of_lt hk
        rw [this, List.getD_eq_getElem?_getD, List.getElem?_eq_getElem hkl]; rfl
      rw [e]
      exact VR.scalar (List.all_eq_true.1 hz _ (List.getElem_mem hkl))
    · injection e with e1 e2
      subst e1 e2
      rw [if_neg (by decide), if_neg (by decide), if_pos rfl] at hx
      injection hx with hx
      subst hx
      refine ⟨cs0, e0, f0, h0, fun e => (by cases e), fun k hk => ?_⟩
      obtain rfl : k = 0 := by omega
      exact ⟨_, h0', VR.map 2 b rfl⟩
  · intro i j x y _ _ hne c o c' o' hm hm' _
    rcases cases3 hm with ⟨rfl, e⟩ | ⟨rfl, e⟩ | ⟨rfl, e⟩ <;> rcases cases3 hm' with ⟨rfl, e'⟩ | ⟨rfl, e'⟩ | ⟨rfl, e'⟩ <;> injection e with e1 e2 <;> injection e' with e1' e2' <;> omega
  · intro i x hx
    rw [first_get] at hx
    show i < 3
    split at hx
    · omega
    · split at hx
      · omega
      · split at hx
        · omega
        · cases hx
  · intro i p hp
    show i < 3
    rcases cases3 hp with ⟨rfl, e⟩ | ⟨rfl, e⟩ | ⟨rfl, e⟩ <;> decide
  · intro g hg
    have : g = 0 ∨ g = 1 := by omega
    rcases this with rfl | rfl <;> rfl
end Cr
end Go.Proofs.YtekbkaipdmklpaaGreatDoor
namespace Go.Proofs.YtekbkaipdmklpaaGreatDoor
namespace Cr
open Go Go.RowKit
open Go.ChangeMaps (setBlock)

theorem calls_of_call {P : Program} {G B : Nat} {w0 : W0} {call : Nat → List Value → AH → Rs} (hcall : CallOk P G B w0 call) {g : Nat} {args : List Value} {H H' : AH} {v : Value} (hrun : call g args H = .ok v H')
    {μ : Mu} {w : World} {args' : List Value} (hargs : LR μ args args') (hr : HR G B w0 H μ w) :
    Calls P g ⟨args'⟩ w fun e w' => ∃ v' μ', e = .returned v' ∧ VR μ' v v' ∧ Nx G B w0 H μ H' μ' w' := by
  intro cs
  obtain ⟨_, v', w', μ', fr, h1, h2, h3, h4, h5, h6, h7, h8⟩ := hcall g args H v H' hrun μ args' w hargs hr cs
  exact ⟨.returned v', w', fr, ⟨v', μ', rfl, h7, h8⟩, h1, h2, Ends.leaving h2 h3 h4 h5 h6⟩
/-- and back -/
theorem ends_of_calls {P : Program} {G B : Nat} {w0 : W0} {g : Nat} {H H' : AH} {v : Value} {μ : Mu} {w : World} {args' : List Value} {fn : Func} {c : Code} (hf : P.funcs[g]? = some fn) (hb : fn.body = some c) (hok : okFn fn = true)
    (h : Calls P g ⟨args'⟩ w fun e w' => ∃ v' μ', e = .returned v' ∧ VR μ' v v' ∧ Nx G B w0 H μ H' μ' w') (cs : List Frame) :
    (callFunc g ⟨args'⟩).run P w = .ok (.enter g ⟨args'⟩) w ∧ Ends P G B w0 g args' .normal cs v H μ H' w := by
  refine ⟨callFunc_enter hf hb hok _ _, ?_⟩
  obtain ⟨e, w', fr, ⟨v', μ', rfl, h1, h2⟩, h3, h4, h5⟩ := h cs
  obtain ⟨l1, l2, l3, fn', l4, l5⟩ := h5
  exact ⟨v', w', μ', fr, h3, h4, l3, l1, l2, ⟨fn', by rw [← h4]; exact l4, l5⟩, h1, h2⟩

/-- worlds that have grown beside the machine: what it knows is as it was -/
theorem HR.beside {G B : Nat} {w0 : W0} {H : AH} {μ : Mu} {w w' : World} (h : HR G B w0 H μ w) (hb : Below w.heap.size w w') : HR G B w0 H μ w' :=
  ⟨fun i x hi b o hm => (h.blk i x hi b o hm).heap (hb.block b (h.blk i x hi b o hm).lt), h.apart, h.low, h.mu, h.glob, h.small, h.below.trans (hb.mono h.base), Nat.le_trans h.base hb.size⟩
/-- a block that was born beside the machine gets a number -/
theorem HR.born {G B : Nat} {w0 : W0} {H : AH} {μ : Mu} {w : World} (h : HR G B w0 H μ w) (hs : H.next < 999999999999) {w' : World} (hb : Below w.heap.size w w') {x : Blk} {c T : Nat} (hc : w.heap.size ≤ c)
    (hx : BR B (μ.bind H.next (c, 0) T) w' c 0 T x) : Nx G B w0 H μ (H.push x) (μ.bind H.next (c, 0) T) w' := by
  have hf := h.fresh
  have hext := Mu.ext_bind (p := (c, 0)) (T := T) hf
  have hget := AH.get_push (H := H) (x := x) (by omega)
  have h' := h.beside hb
  refine ⟨⟨?_, ?_, ?_, ?_, fun g hg => hext.loc _ _ (h.glob g hg), by show Nat.succ H.next < _; omega, h'.below, h'.base⟩, hext, ?_, Nat.le_succ _⟩
  · intro i y hi b o hm
    rw [hget] at hi
    by_cases e : i = H.next
    · subst e
      rw [if_pos rfl] at hi
      injection hi with hi
      subst hi
      rw [Mu.bind_same] at hm
      injection hm with hm
      injection hm with e1 e2
      subst e1 e2
      rw [Mu.tot_same]
      exact hx
    · rw [if_neg e] at hi
      rw [Mu.bind_ne e] at hm
      rw [Mu.tot_ne e]
      exact (h'.blk i y hi b o hm).ext hext
  · intro i j y z hi hj hne b o b' o' hm hm' hab
    rw [hget] at hi hj
    by_cases e : i = H.next
    · subst e
      have e' : j ≠ H.next := fun e => hne e.symm
      rw [if_neg e'] at hj
      rw [Mu.bind_same] at hm
      rw [Mu.bind_ne e'] at hm'
      injection hm with hm
      injection hm with e1 e2
      have := (h.blk j z hj b' o' hm').lt
      omega
    · rw [if_neg e] at hi
      rw [Mu.bind_ne e] at hm
      by_cases e' : j = H.next
      · subst e'
        rw [Mu.bind_same] at hm'
        injection hm' with hm'
        injection hm' with e1 e2
        have := (h.blk i y hi b o hm).lt
        omega
      · rw [if_neg e'] at hj
        rw [Mu.bind_ne e'] at hm'
        exact h.apart i j y z hi hj hne b o b' o' hm hm' hab
  · intro i y hi
    rw [hget] at hi
    show i < Nat.succ H.next
    by_cases e : i = H.next
    · omega
    · rw [if_neg e] at hi; have := h.low i y hi; omega
  · intro i p hp
    show i < Nat.succ H.next
    by_cases e : i = H.next
    · omega
    · rw [Mu.bind_ne e] at hp; have := h.mu i p hp; omega
  · intro i hi hu
    have e : i ≠ H.next := by omega
    exact ⟨by rw [Mu.bind_ne e]; exact hu, fun _ => by rw [hget, if_neg e]⟩

/-! ### loops over maps, for the walk -/
section
variable {P : Program} {w : World} {ops : Array Oper} {rest : List Oper} {o : Oper} {a : Act} {Q : Exit → Act → World → Prop}
theorem wpList_range_at (hg : o.guard = none) (m : Operand) (t : TypeId) (hop : o.op = Op.range t m) {kt et : TypeId} (ht : P.underlying t = some (.map kt et)) {b clock : Nat} {es : Array MapEntry}
    (hm : a.eval m = .map (some b)) (hb : w.heap[b]? = some (.map es clock))
    (hK : ∀ w', Hid (w' = w.alloc (.mapIter (some b) clock #[] clock)) → wpList P ops Q rest (a.put o.dst (.pointer (some ⟨w.heap.size, 0, none⟩))) w') : wpList P ops Q (o :: rest) a w := by
  refine wpList_plain hg fun K' hK' => ?_
  have hget : (getObj b).run P w = .ok (.map es clock) w := by simp [getObj, Sem.run, hb]
  have hrun : (Instr.range t (.map (some b))).run P w = .ok (.pointer (some ⟨w.heap.size, 0, none⟩)) (w.alloc (.mapIter (some b) clock #[] clock)) := by
    simp [Instr.range, run_underlying ht, hget]
  unfold Oper.wp
  simp [execOp, hop, hm, hrun, Result.andThen]
  exact hK' _ _ (hK _ (Lib.hid rfl))
theorem wpList_next_at (hg : o.guard = none) (it : Operand) (hop : o.op = Op.next it false) {r bm since c0 clock : Nat} {seen : Array Nat} {es : Array MapEntry}
    (hit : a.eval it = .pointer (some ⟨r, 0, none⟩)) (hr : w.heap[r]? = some (.mapIter (some bm) since seen c0)) (hb : w.heap[bm]? = some (.map es clock)) (hold : ∀ x ∈ es.toList, x.born < since) (hsc : since ≤ c0)
    (hDone : Hid ((leftOf es seen).size = 0) → wpList P ops Q rest (a.put o.dst (.tuple #[.bool false])) w)
    (hMore : ∀ e ∈ (leftOf es seen).toList, ∀ w1 w2, (w1 = w ∨ w1 = w.drew) → Hid (w2 = setBlock w1 r (.mapIter (some bm) since (seen.push e.born) clock)) → wpList P ops Q rest (a.put o.dst (.tuple #[.bool true, e.key, e.val])) w2) :
    wpList P ops Q (o :: rest) a w := by
  refine wpList_plain hg fun K' hK' => ?_
  unfold Oper.wp
  rcases run_next_at (P := P) w o.type r bm since c0 seen es clock hr hb hold hsc with ⟨h0, hrun⟩ | ⟨e, he, w1, hw1, hrun⟩
  · simp [execOp, hop, hit, hrun, Result.andThen]
    exact hK' _ _ (hDone (Lib.hid h0))
  · simp [execOp, hop, hit, hrun, Result.andThen]
    exact hK' _ _ (hMore e he w1 _ hw1 (Lib.hid rfl))
theorem wpList_entry_at (hg : o.guard = none) (it : Operand) (hop : o.op = Op.entry it) {r : Nat} {k v : Value} (hit : a.eval it = .pointer (some ⟨r, 0, none⟩)) (hrun : (Instr.entry (.pointer (some ⟨r, 0, none⟩))).run P w = .ok (.tuple #[k, v]) w)
    (hK : wpList P ops Q rest (a.put o.dst (.tuple #[k, v])) w) : wpList P ops Q (o :: rest) a w := by
  refine wpList_plain hg fun K' hK' => ?_
  unfold Oper.wp
  simp [execOp, hop, hit, hrun, Result.andThen]
  exact hK' _ _ hK
end
end Cr
end Go.Proofs.YtekbkaipdmklpaaGreatDoor
namespace Go.Proofs.YtekbkaipdmklpaaGreatDoor
namespace Cr
open Go Go.RowKit

/-- a block that is spelled out -/
inductive Lb where
  | c (rw : Bool) (n : Nat) (vs : List Value)
  | m (rw : Bool) (es : List (Value × Value))
  | it (m since : Nat) (seen : List Nat) (last : Nat)
  | pm (es : List (Value × Value))
  | op (k : Nat)
def Lb.blk : Lb → Blk
  | .c rw n vs => .cells rw n n vs .nil
  | .m rw es => .map rw es
  | .it mb since seen last => .dfr (.iter mb since seen last)
  | .pm es => .dfr (.pmap es)
  | .op k => .dfr (.opq k)
def natsEq : List Nat → List Nat → Bool
  | [], [] => true
  | a :: l, b :: r => Nat.beq a b && natsEq l r
  | _, _ => false
theorem natsEq_eq : ∀ {l r : List Nat}, natsEq l r = true → l = r
  | [], [], _ => rfl
  | [], _ :: _, h => by cases h
  | _ :: _, [], h => by cases h
  | a :: l, b :: r, h => by
    simp only [natsEq, Bool.and_eq_true] at h
    rw [Nat.eq_of_beq_eq_true h.1, natsEq_eq h.2]
def beq' : Bool → Bool → Bool
  | true, true => true
  | false, false => true
  | _, _ => false
theorem beq'_eq : ∀ {a b : Bool}, beq' a b = true → a = b
  | true, true, _ => rfl
  | false, false, _ => rfl
/-- the block lies there, or one that may be written besides -/
noncomputable def lbEq : Blk → Lb → Bool
  | .cells rw n zl zs t, .c rw' m vs => (rw || Bool.not rw') && (Nat.beq n m && (Nat.beq vs.length m && listEq (veq 6) (cellsL zl zs t n 0) vs))
  | .map rw es, .m rw' es' => beq' rw rw' && (listEq (veq 6) (es.map (·.1)) (es'.map (·.1)) && listEq (veq 6) (es.map (·.2)) (es'.map (·.2)))
  | .dfr (.iter m n l k), .it m' n' l' k' => Nat.beq m m' && (Nat.beq n n' && (natsEq l l' && Nat.beq k k'))
  | .dfr (.pmap es), .pm es' => listEq (veq 6) (es.map (·.1)) (es'.map (·.1)) && listEq (veq 6) (es.map (·.2)) (es'.map (·.2))
  | .dfr (.opq k), .op k' => Nat.beq k k'
  | _, _ => false
theorem cells_same {zl n : Nat} {zs vs : List Value} {t : Tr Value} (h2 : cellsL zl zs t n 0 = vs) {k : Nat} (hk : k < n) : cellv n vs .nil k = cellv zl zs t k := by
  have h3 := cellsL_get zl zs t n 0 k hk
  rw [h2, Nat.zero_add] at h3
  have e : Nat.mod k n = k := Nat.mod_eq_of_lt hk
  show nth vs (Nat.mod k n) = _
  rw [nth_eq, e, List.getD_eq_getElem?_getD, h3]; rfl
theorem pairs_eq : ∀ {a b : List (Value × Value)}, a.map (·.1) = b.map (·.1) → a.map (·.2) = b.map (·.2) → a = b
  | [], [], _, _ => rfl
  | [], _ :: _, h, _ => by cases h
  | _ :: _, [], h, _ => by cases h
  | (x, y) :: a, (x', y') :: b, h, k => by
    simp only [List.map_cons, List.cons.injEq] at h k
    obtain ⟨rfl, h⟩ := h
    obtain ⟨rfl, k⟩ := k
    rw [pairs_eq h k]
theorem BR.lit {B : Nat} {μ : Mu} {w : World} {b o T : Nat} {x : Blk} {s : Lb} (h : BR B μ w b o T x) (e : lbEq x s = true) : BR B μ w b o T s.blk := by
  cases x with
  | cells rw n zl zs t =>
    cases s with
    | m rw' es => cases e
    | it m since seen last => cases e
    | pm es => cases e
    | op k => cases e
    | c rw' m vs =>
      have e' : ((rw || Bool.not rw') && (Nat.beq n m && (Nat.beq vs.length m && listEq (veq 6) (cellsL zl zs t n 0) vs))) = true := e
      simp only [Bool.and_eq_true] at e'
      obtain ⟨e0, e1, _, e3⟩ := e'
      have e1 := Nat.eq_of_beq_eq_true e1
      have e3 := listEq_eq (veq_eq 6) e3
      subst e1
      obtain ⟨cur, el, fz, h1, h2, h3⟩ := h
      refine ⟨cur, el, fz, h1, fun e => h2 (by subst e; simpa using e0), fun k hk => ?_⟩
      rw [cells_same e3 hk]
      exact h3 k hk
  | map rw es =>
    cases s with
    | c rw' m vs => cases e
    | it m since seen last => cases e
    | pm es => cases e
    | op k => cases e
    | m rw' es' =>
      have e' : (beq' rw rw' && (listEq (veq 6) (es.map (·.1)) (es'.map (·.1)) && listEq (veq 6) (es.map (·.2)) (es'.map (·.2)))) = true := e
      simp only [Bool.and_eq_true] at e'
      obtain rfl := beq'_eq e'.1
      obtain rfl := pairs_eq (listEq_eq (veq_eq 6) e'.2.1) (listEq_eq (veq_eq 6) e'.2.2)
      exact h
  | loop fn D N F ps asg bd dr st => cases s <;> cases e
  | dfr d =>
    cases d with
    | iter m n l k =>
      cases s with
      | it m' n' l' k' =>
        have e' : (Nat.beq m m' && (Nat.beq n n' && (natsEq l l' && Nat.beq k k'))) = true := e
        simp only [Bool.and_eq_true] at e'
        obtain ⟨e1, e2, e3, e4⟩ := e'
        obtain rfl := Nat.eq_of_beq_eq_true e1
        obtain rfl := Nat.eq_of_beq_eq_true e2
        obtain rfl := natsEq_eq e3
        obtain rfl := Nat.eq_of_beq_eq_true e4
        exact h
      | _ => cases e
    | pmap es =>
      cases s with
      | pm es' =>
        have e' : (listEq (veq 6) (es.map (·.1)) (es'.map (·.1)) && listEq (veq 6) (es.map (·.2)) (es'.map (·.2))) = true := e
        simp only [Bool.and_eq_true] at e'
        obtain rfl := pairs_eq (listEq_eq (veq_eq 6) e'.1) (listEq_eq (veq_eq 6) e'.2)
        exact h
      | _ => cases e
    | opq k =>
      cases s with
      | op k' =>
        obtain rfl := Nat.eq_of_beq_eq_true (show Nat.beq k k' = true from e)
        exact h
      | _ => cases e
    | _ => cases s <;> cases e

noncomputable def litT : List (Nat × Lb) → Tr Blk
  | [] => .nil
  | p :: l => (litT l).put p.1 (some p.2.blk)
theorem litT_get : ∀ {l : List (Nat × Lb)} {i : Nat} {x : Blk}, (∀ p ∈ l, p.1 < 1000000000000) → (litT l).get i = some x → ∃ s, (i, s) ∈ l ∧ x = s.blk
  | [], i, x, _, h => by cases h
  | p :: l, i, x, hl, h => by
    change ((litT l).put p.1 _).get i = _ at h
    rw [Tr.get_put _ _ _ _ (by have := hl p (List.mem_cons_self ..); omega)] at h
    by_cases e : i = p.1
    · rw [if_pos e] at h
      injection h with h
      exact ⟨p.2, by rw [e]; exact List.mem_cons_self .., h.symm⟩
    · rw [if_neg e] at h
      obtain ⟨s, h1, h2⟩ := litT_get (fun q hq => hl q (List.mem_cons_of_mem _ hq)) h
      exact ⟨s, List.mem_cons_of_mem _ h1, h2⟩
/-- a memory that is spelled out -/
noncomputable def litH (l : List (Nat × Lb)) (next : Nat) : AH := ⟨litT l, next⟩
/-- what is spelled out lies there -/
noncomputable def has (H : AH) (l : List (Nat × Lb)) (next : Nat) : Bool := Nat.ble H.next next && (Nat.blt next 900000000000 && l.all fun p => match H.get p.1 with
  | some x => lbEq x p.2
  | none => false)
/-- less may be known of the memory -/
theorem HR.lit {G B : Nat} {w0 : W0} {H : AH} {μ : Mu} {w : World} (h : HR G B w0 H μ w) {l : List (Nat × Lb)} {next : Nat} (e : has H l next = true) : HR G B w0 (litH l next) μ w := by
  unfold has at e
  simp only [Bool.and_eq_true, List.all_eq_true] at e
  obtain ⟨e1, e2, e3⟩ := e
  have e1 : H.next ≤ next := by simpa using e1
  have e2 : next < 900000000000 := by simpa [Nat.blt_eq] using e2
  have e3 : ∀ p ∈ l, ∃ x, H.get p.1 = some x ∧ lbEq x p.2 = true := fun p hp => by
    have := e3 p hp
    split at this
    · rename_i x hx; exact ⟨x, hx, this⟩
    · cases this
  have hlt : ∀ p ∈ l, p.1 < 1000000000000 := fun p hp => by
    obtain ⟨x, hx, _⟩ := e3 p hp
    have := h.low _ _ hx; omega
  have see : ∀ i x, (litH l next).get i = some x → ∃ s y, x = s.blk ∧ H.get i = some y ∧ lbEq y s = true := fun i x hx => by
    obtain ⟨s, h1, h2⟩ := litT_get hlt hx
    obtain ⟨y, h3, h4⟩ := e3 _ h1
    exact ⟨s, y, h2, h3, h4⟩
  refine ⟨fun i x hx b o hm => ?_, fun i j x y hx hy hne b o b' o' hm hm' hab => ?_, fun i x hx => ?_, fun i p hp => ?_, h.glob, by show next < _; omega, h.below, h.base⟩
  · obtain ⟨s, y, rfl, h3, h4⟩ := see i x hx
    exact (h.blk i y h3 b o hm).lit h4
  · obtain ⟨_, x', _, h3, _⟩ := see i x hx
    obtain ⟨_, y', _, h3', _⟩ := see j y hy
    exact h.apart i j x' y' h3 h3' hne b o b' o' hm hm' hab
  · obtain ⟨_, x', _, h3, _⟩ := see i x hx
    have := h.low i x' h3
    show i < next
    omega
  · have := h.mu i p hp
    show i < next
    omega
/-- a call on a memory that is spelled out: what it answers, and what is spelled out of the memory behind it -/
noncomputable def litRun (call : Nat → List Value → AH → Rs) (f : Nat) (args : List Value) (H : AH) (v : Value) (l' : List (Nat × Lb)) (next' : Nat) : Bool := forceH H fun H => Rs.rec (motive := fun _ => Bool) false (fun u H' => veq 6 u v && has H' l' next') (call f args H)
theorem lit_calls {P : Program} {G B : Nat} {w0 : W0} {call : Nat → List Value → AH → Rs} (hcall : CallOk P G B w0 call) {f : Nat} {args : List Value} {H : AH} {v : Value} {l' : List (Nat × Lb)} {next' : Nat} (hrun : litRun call f args H v l' next' = true)
    {μ : Mu} {w : World} {args' : List Value} (hargs : LR μ args args') (hr : HR G B w0 H μ w) :
    Calls P f ⟨args'⟩ w fun e w' => ∃ v' μ', e = .returned v' ∧ VR μ' v v' ∧ Ext μ μ' ∧ HR G B w0 (litH l' next') μ' w' := by
  unfold litRun at hrun
  rw [forceH_eq] at hrun
  cases hc : call f args H with
  | bad => rw [hc] at hrun; cases hrun
  | ok u H' =>
    rw [hc] at hrun
    change (veq 6 u v && has H' l' next') = true at hrun
    rw [Bool.and_eq_true] at hrun
    obtain rfl := veq_eq 6 _ _ hrun.1
    refine (calls_of_call hcall hc hargs hr).mono ?_
    rintro e w' ⟨v', μ', rfl, hv, nx⟩
    exact ⟨v', μ', rfl, hv, nx.ext, nx.hr.lit hrun.2⟩
/-- nothing of it may be written -/
def Lb.still : Lb → Bool
  | .c rw _ _ => Bool.not rw
  | .m rw _ => Bool.not rw
  | .it .. => false
  | .pm _ => false
  | .op _ => false
theorem BR.still {B B' : Nat} {μ : Mu} {w : World} {b o T : Nat} {s : Lb} (h : BR B μ w b o T s.blk) (hs : s.still = true) : BR B' μ w b o T s.blk := by
  cases s with
  | c rw n vs =>
    cases rw with
    | true => cases hs
    | false => exact let ⟨cur, el, fz, h1, _, h3⟩ := h; ⟨cur, el, fz, h1, fun e => (by cases e), h3⟩
  | m rw es =>
    cases rw with
    | true => cases hs
    | false => exact let ⟨h0, es2, ents, clock, hm, h1, _, h3, h4⟩ := h; ⟨h0, es2, ents, clock, hm, h1, fun e => (by cases e), h3, h4⟩
  | it m since seen last => cases hs
  | pm es => cases hs
  | op k => cases hs
/-- for a call that only reads: all that lay there stays -/
theorem HR.still {G B : Nat} {w0 : W0} {μ : Mu} {w : World} {l : List (Nat × Lb)} {next : Nat} (h : HR G B w0 (litH l next) μ w) (hs : (l.all fun p => Nat.blt p.1 900000000000 && p.2.still) = true) : HR G w.heap.size w (litH l next) μ w := by
  simp only [List.all_eq_true, Bool.and_eq_true] at hs
  refine ⟨fun i x hx b o hm => ?_, fun i j x y hx hy hne b o b' o' hm hm' hab => h.apart i j x y hx hy hne b o b' o' hm hm' (hab.imp (Nat.le_trans h.base) (Nat.le_trans h.base)), h.low, h.mu, h.glob, h.small, Below.refl _ _, Nat.le_refl _⟩
  obtain ⟨s, h1, rfl⟩ := litT_get (fun p hp => by have := (hs p hp).1; rw [Nat.blt_eq] at this; omega) hx
  exact (h.blk i _ hx b o hm).still (hs _ h1).2
end Cr
end Go.Proofs.YtekbkaipdmklpaaGreatDoor
namespace Go.Proofs.YtekbkaipdmklpaaGreatDoor
namespace Cr
open Go Go.RowKit

/-- a block that a call has made -/
noncomputable def pbEq : Blk → Nat → List Value → Bool
  | .cells true n zl zs t, m, vs => Nat.beq n m && (Nat.beq vs.length m && listEq (veq 6) (cellsL zl zs t n 0) vs)
  | _, _, _ => false
theorem BR.post {B B' : Nat} {μ : Mu} {w : World} {b o T : Nat} {x : Blk} {n : Nat} {vs : List Value} (h : BR B μ w b o T x) (e : pbEq x n vs = true) (hB : B' ≤ B) : BR B' μ w b o T (.cells true n n vs .nil) ∧ B ≤ b := by
  cases x with
  | cells rw m zl zs t =>
    cases rw with
    | false => cases e
    | true =>
      have e' : (Nat.beq m n && (Nat.beq vs.length n && listEq (veq 6) (cellsL zl zs t m 0) vs)) = true := e
      simp only [Bool.and_eq_true] at e'
      obtain ⟨e1, e2, e3⟩ := e'
      have e1 := Nat.eq_of_beq_eq_true e1
      have e2 := Nat.eq_of_beq_eq_true e2
      have e3 := listEq_eq (veq_eq 6) e3
      subst e1
      obtain ⟨cur, el, fz, h1, h2, h3⟩ := h
      obtain ⟨f1, f2, f3⟩ := h2 rfl
      refine ⟨⟨cur, el, fz, h1, fun _ => ⟨f1, Nat.le_trans hB f2, f3⟩, fun k hk => ?_⟩, f2⟩
      rw [cells_same e3 hk]
      exact h3 k hk
  | map rw es => cases e
  | loop fn D N F ps asg bd dr st => cases e
  | dfr d => cases e

/-- the numbers of the variables among the nodes -/
def varNums : List (Value × Value) → Option (List Value)
  | [] => some []
  | e :: es => match e.2 with
    | .agg ⟨[.int .u8 (.ofNat op), .int .u64 (.ofNat num), .slice _ _ _]⟩ => match varNums es with
      | none => none
      | some r => bif Nat.beq op 1 then (bif Nat.ble num 9223372036854775807 then some (.int .i64 (.ofNat num) :: r) else none) else some r
    | _ => none
/-- all orders of a list -/
def inserts (x : Value) : List Value → List (List Value)
  | [] => [[x]]
  | y :: l => (x :: y :: l) :: (inserts x l).map (y :: ·)
def perms : List Value → List (List Value)
  | [] => [[]]
  | x :: l => (perms l).flatMap (inserts x)
theorem mem_inserts {x : Value} : ∀ (s t : List Value), s ++ x :: t ∈ inserts x (s ++ t)
  | [], [] => by simp [inserts]
  | [], y :: t => by simp [inserts]
  | y :: s, t => by
    show y :: (s ++ x :: t) ∈ (x :: y :: (s ++ t)) :: (inserts x (s ++ t)).map (y :: ·)
    exact List.mem_cons_of_mem _ (List.mem_map.2 ⟨_, mem_inserts s t, rfl⟩)
theorem mem_perms : ∀ {l p : List Value}, p.Perm l → p ∈ perms l
  | [], p, h => by
    obtain rfl := h.eq_nil
    simp [perms]
  | x :: l, p, h => by
    have hx : x ∈ p := h.mem_iff.2 (List.mem_cons_self ..)
    obtain ⟨s, t, rfl⟩ := List.append_of_mem hx
    have h2 : (s ++ t).Perm l := List.Perm.cons_inv ((List.perm_middle.symm).trans h)
    exact List.mem_flatMap.2 ⟨s ++ t, mem_perms h2, mem_inserts s t⟩
/-- the numbers in their order -/
def ins1 (n : Nat) : List Nat → List Nat
  | [] => [n]
  | m :: l => bif Nat.ble n m then n :: m :: l else m :: ins1 n l
def sortN : List Nat → List Nat
  | [] => []
  | n :: l => ins1 n (sortN l)
def valNum : Value → Nat
  | .int _ (.ofNat n) => n
  | _ => 0
def outOf (vs : List Value) : List Value := (sortN (vs.map valNum)).map fun n => .int .i64 (.ofNat n)
noncomputable def minH (i n : Nat) (vs : List Value) : AH := ⟨Tr.nil.put i (some (.cells true n n vs .nil)), Nat.succ i⟩
/-- the sort, run on a memory that holds these cells alone -/
noncomputable def sortOk (call : Nat → List Value → AH → Rs) (srt i n c : Nat) (out : List Value) (p : List Value) : Bool :=
  forceH (minH i n p) fun H2 => match call srt [.slice (some ⟨i, 0, none⟩) n c] H2 with
    | .ok _ H3 => (match H3.get i with
      | some x => pbEq x n out
      | none => false)
    | .bad => false
/-- what is done with the variables: they are sorted, in whatever order they come -/
noncomputable def spFin (call : Nat → List Value → AH → Rs) (srt : Nat) (H1 : AH) (vs : List Value) : Rs :=
  match vs with
  | [] => match call srt [.slice none 0 0] H1 with
    | .ok _ H3 => .ok (.tuple ⟨[.slice none 0 0, .int .i64 (.ofNat 0)]⟩) H3
    | .bad => .bad
  | v :: l => forceN H1.next fun i => forceN (Nat.succ l.length) fun n => forceN (Nat.add 36893488147419103232 n) fun c =>
      bif Nat.blt i 900000000000 && (Nat.blt n 1000 && (perms (v :: l)).all (sortOk call srt i n c (outOf (v :: l)))) then
        forceH (H1.push (.cells true n n (outOf (v :: l)) .nil)) fun H' => .ok (.tuple ⟨[.slice (some ⟨i, 0, none⟩) n c, .int .i64 (.ofNat 0)]⟩) H'
      else .bad
noncomputable def spVars (call : Nat → List Value → AH → Rs) (occ srt : Nat) (args : List Value) (H : AH) : Rs :=
  match args with
  | [x, y] => match call occ [x, y] H with
    | .ok (.tuple ⟨[.map (some r), .int .i64 (.ofNat 0)]⟩) H1 => match H1.get r with
      | some (.map true es) => match varNums es with
        | some vs => spFin call srt H1 vs
        | _ => .bad
      | _ => .bad
    | _ => .bad
  | _ => .bad

theorem spFin_nil {call : Nat → List Value → AH → Rs} {srt : Nat} {H1 H' : AH} {v : Value} (h : spFin call srt H1 [] = .ok v H') : ∃ v3, call srt [.slice none 0 0] H1 = .ok v3 H' ∧ v = .tuple ⟨[.slice none 0 0, .int .i64 (.ofNat 0)]⟩ := by
  simp only [spFin] at h
  split at h
  · rename_i v3 H3 hs
    simp only [Rs.ok.injEq] at h
    exact ⟨v3, by rw [hs, h.2], h.1.symm⟩
  · cases h
theorem spFin_cons {call : Nat → List Value → AH → Rs} {srt : Nat} {H1 H' : AH} {u v : Value} {l : List Value} (h : spFin call srt H1 (u :: l) = .ok v H') :
    ∃ n c, n = l.length + 1 ∧ c = 36893488147419103232 + n ∧ H1.next < 900000000000 ∧ n < 1000 ∧ (∀ p, p.Perm (u :: l) → ∃ v3 H3 x, call srt [.slice (some ⟨H1.next, 0, none⟩) n c] (minH H1.next n p) = .ok v3 H3 ∧ H3.get H1.next = some x ∧ pbEq x n (outOf (u :: l)) = true) ∧
      v = .tuple ⟨[.slice (some ⟨H1.next, 0, none⟩) n c, .int .i64 (.ofNat 0)]⟩ ∧ H' = H1.push (.cells true n n (outOf (u :: l)) .nil) := by
  simp only [spFin] at h
  rw [forceN_eq, forceN_eq, forceN_eq] at h
  refine ⟨l.length + 1, _, rfl, rfl, ?_⟩
  change (bif Nat.blt H1.next 900000000000 && (Nat.blt (l.length + 1) 1000 && (perms (u :: l)).all (sortOk call srt H1.next (l.length + 1) (36893488147419103232 + (l.length + 1)) (outOf (u :: l)))) then
        forceH (H1.push (.cells true (l.length + 1) (l.length + 1) (outOf (u :: l)) .nil)) fun H' => Rs.ok (.tuple ⟨[.slice (some ⟨H1.next, 0, none⟩) (l.length + 1) (36893488147419103232 + (l.length + 1)), .int .i64 (.ofNat 0)]⟩) H'
      else .bad) = _ at h
  cases hc : (Nat.blt H1.next 900000000000 && (Nat.blt (l.length + 1) 1000 && (perms (u :: l)).all (sortOk call srt H1.next (l.length + 1) (36893488147419103232 + (l.length + 1)) (outOf (u :: l))))) with
  | false => rw [hc] at h; cases h
  | true =>
    rw [hc, cond_true, forceH_eq, Rs.ok.injEq] at h
    simp only [Bool.and_eq_true, List.all_eq_true] at hc
    obtain ⟨c1, c2, c3⟩ := hc
    refine ⟨by simpa [Nat.blt_eq] using c1, by simpa [Nat.blt_eq] using c2, fun p hp => ?_, h.1.symm, h.2.symm⟩
    have := c3 p (mem_perms hp)
    unfold sortOk at this
    rw [forceH_eq] at this
    split at this
    · rename_i v3 H3 hs
      split at this
      · rename_i x hx
        exact ⟨v3, H3, x, hs, hx, this⟩
      · cases this
    · cases this
theorem spFin_len {call : Nat → List Value → AH → Rs} {srt : Nat} {H1 H' : AH} {vs : List Value} {v : Value} (h : spFin call srt H1 vs = .ok v H') : vs.length < 1000 := by
  cases vs with
  | nil => simp
  | cons u l =>
    obtain ⟨n, c, rfl, _, _, h, _⟩ := spFin_cons h
    simpa using h

/-- a memory of these cells alone, beside what the machine knows -/
theorem minH_hr {G B : Nat} {w0 : W0} {w1 wr : World} {H1 : AH} {μ1 : Mu} (hr1 : HR G B w0 H1 μ1 w1) (hs : H1.next < 900000000000) (hb : Below w1.heap.size w1 wr) {g cap n : Nat} (hg : w1.heap.size ≤ g) {cur : Array Value} {e : TypeId}
    (hh : wr.heap[g]? = some (.cells cur e (0, 0))) (hT : cap ≤ cur.size) {vs : List Value} (hn : vs.length = n) (hz : vs.all scalar = true) (hv : ∀ k, k < n → cur[k]? = vs[k]?) :
    HR G w1.heap.size w1 (minH H1.next n vs) (μ1.bind H1.next (g, 0) cap) wr := by
  have hget : ∀ i x, (minH H1.next n vs).get i = some x → i = H1.next ∧ x = .cells true n n vs .nil := fun i x hx => by
    change (Tr.nil.put H1.next _).get i = _ at hx
    rw [Tr.get_put _ _ _ _ (by omega)] at hx
    by_cases e : i = H1.next
    · rw [if_pos e] at hx
      injection hx with hx
      exact ⟨e, hx.symm⟩
    · rw [if_neg e] at hx; cases hx
  refine ⟨?_, ?_, ?_, ?_, ?_, by show Nat.succ H1.next < _; omega, hb, hb.size⟩
  · intro i x hx b o hm
    obtain ⟨rfl, rfl⟩ := hget i x hx
    rw [Mu.bind_same] at hm
    injection hm with hm
    injection hm with e1 e2
    subst e1 e2
    rw [Mu.tot_same]
    refine ⟨cur, e, (0, 0), hh, fun _ => ⟨rfl, hg, by omega⟩, fun k hk => ?_⟩
    have hkl : k < vs.length := by omega
    refine ⟨vs[k], by rw [Nat.zero_add, hv k hk, List.getElem?_eq_getElem hkl], ?_⟩
    have e : cellv n vs .nil k = vs[k] := by
      show nth vs (Nat.mod k n) = _
      rw [nth_eq]
      have : Nat.mod k n = k := Nat.mod_eq_of_lt hk
      rw [this, List.getD_eq_getElem?_getD, List.getElem?_eq_getElem hkl]; rfl
    rw [e]
    exact VR.scalar (List.all_eq_true.1 hz _ (List.getElem_mem hkl))
  · intro i j x y hx hy hne
    exact absurd ((hget i x hx).1.trans (hget j y hy).1.symm) hne
  · intro i x hx
    show i < Nat.succ H1.next
    have := (hget i x hx).1
    omega
  · intro i p hp
    show i < Nat.succ H1.next
    by_cases e : i = H1.next
    · omega
    · rw [Mu.bind_ne e] at hp; have := hr1.mu i p hp; omega
  · intro k hk
    have h := hr1.glob k hk
    have := hr1.mu k _ h
    rw [Mu.bind_ne (by omega)]
    exact h
theorem cells_int {n : Nat} {vs : List Value} (hn : vs.length = n) (hi : ∀ v ∈ vs, ∃ k x, v = .int k x) {k : Nat} (hk : k < n) : ∃ d x, cellv n vs .nil k = .int d x := by
  have hkl : k < vs.length := by omega
  have e : cellv n vs .nil k = vs[k] := by
    show nth vs (Nat.mod k n) = _
    rw [nth_eq]
    have : Nat.mod k n = k := Nat.mod_eq_of_lt hk
    rw [this, List.getD_eq_getElem?_getD, List.getElem?_eq_getElem hkl]; rfl
  rw [e]
  exact hi _ (List.getElem_mem hkl)
/-- cells that hold integers do not depend on where blocks lie -/
theorem BR.ints {B B' : Nat} {μ μ' : Mu} {w : World} {b o T n : Nat} {vs : List Value} (h : BR B' μ' w b o T (.cells true n n vs .nil)) (hn : vs.length = n) (hi : ∀ v ∈ vs, ∃ k x, v = .int k x) (hB : B ≤ B') : BR B μ w b o T (.cells true n n vs .nil) := by
  obtain ⟨cur, el, fz, h1, h2, h3⟩ := h
  refine ⟨cur, el, fz, h1, fun e => ⟨(h2 e).1, Nat.le_trans hB (h2 e).2.1, (h2 e).2.2⟩, fun k hk => ?_⟩
  obtain ⟨v', hv, hr⟩ := h3 k hk
  obtain ⟨d, x, e⟩ := cells_int hn hi hk
  rw [e] at hr ⊢
  cases hr
  exact ⟨_, hv, VR.int d x⟩
theorem ins1_len (n : Nat) : ∀ l : List Nat, (ins1 n l).length = l.length + 1
  | [] => rfl
  | m :: l => by
    unfold ins1
    cases Nat.ble n m with
    | true => rfl
    | false => simp [ins1_len n l]
theorem sortN_len : ∀ l : List Nat, (sortN l).length = l.length
  | [] => rfl
  | n :: l => by simp [sortN, ins1_len, sortN_len l]
theorem outOf_len (vs : List Value) : (outOf vs).length = vs.length := by simp [outOf, sortN_len]
theorem outOf_int (vs : List Value) : ∀ v ∈ outOf vs, ∃ k x, v = .int k x := fun v hv => by
  obtain ⟨n, _, rfl⟩ := List.mem_map.1 hv
  exact ⟨_, _, rfl⟩
theorem lb_cap {n : Nat} (h : n < 1000) : lb (36893488147419103232 + n) = n := by rw [lb_eq]; omega
theorem es_cap {n : Nat} (h : n < 1000) : es (36893488147419103232 + n) = 1 := by rw [es_eq]; omega
end Cr
end Go.Proofs.YtekbkaipdmklpaaGreatDoor
namespace Go.Proofs.YtekbkaipdmklpaaGreatDoor
namespace Cr
open Go Go.RowKit

/-- what is known of the places from one memory to another -/
structure Ext2 (H : AH) (μ : Mu) (H' : AH) (μ' : Mu) : Prop where
  ext : Ext μ μ'
  old : ∀ i, i < H.next → μ i = none → μ' i = none
  next : H.next ≤ H'.next
theorem Ext2.refl (H : AH) (μ : Mu) : Ext2 H μ H μ := ⟨Ext.refl μ, fun _ _ h => h, Nat.le_refl _⟩
theorem Ext2.trans {H H1 H2 : AH} {μ μ1 μ2 : Mu} (h : Ext2 H μ H1 μ1) (k : Ext2 H1 μ1 H2 μ2) : Ext2 H μ H2 μ2 := ⟨h.ext.trans k.ext, fun i hi hu => k.old i (Nat.lt_of_lt_of_le hi h.next) (h.old i hi hu), Nat.le_trans h.next k.next⟩
theorem Nx.ext2 {G B : Nat} {w0 : W0} {H H' : AH} {μ μ' : Mu} {w' : World} (h : Nx G B w0 H μ H' μ' w') : Ext2 H μ H' μ' := ⟨h.ext, fun i hi hu => (h.unb i hi hu).1, h.next⟩
theorem has_next {H : AH} {m : List (Nat × Lb)} {n : Nat} (h : has H m n = true) : H.next ≤ n := by
  unfold has at h
  rw [Bool.and_eq_true] at h
  simpa using h.1
theorem Ext2.lit {H H1 : AH} {μ μ1 : Mu} (h : Ext2 H μ H1 μ1) {m : List (Nat × Lb)} {n : Nat} (e : has H1 m n = true) : Ext2 H μ (litH m n) μ1 := ⟨h.ext, h.old, Nat.le_trans h.next (has_next e)⟩
theorem Ext2.start {H H1 H2 : AH} {μ μ1 : Mu} (h : Ext2 H1 μ H2 μ1) (e : H.next ≤ H1.next) : Ext2 H μ H2 μ1 := ⟨h.ext, fun i hi => h.old i (Nat.lt_of_lt_of_le hi e), Nat.le_trans e h.next⟩
/-- a piece of code, from a frame and a memory to a frame and a memory -/
def Wk (P : Program) (G : Nat) (ctx : Ctx) (c : Code) (F : F8) (H : AH) (e : Ex) (F' : F8) (H' : AH) : Prop :=
  ∀ (B : Nat) (w0 : W0) (μ : Mu) (a : Act) (w : World) (b : Frame) (cs : List Frame), Pre G B w0 ctx μ F [] H a w b cs → ∀ (it : Item) (k : List Item), Starts c it →
    ∃ a' w' μ', Pre G B w0 ctx μ' F' [] H' a' w' b cs ∧ Ext2 H μ H' μ' ∧ Arr P (lone (b.atR a (it :: k)) cs w) b k cs e a' w'

section
variable {P : Program} {G : Nat} {ctx : Ctx} {c x y : Code} {F F1 F2 : F8} {H H1 H2 : AH} {e : Ex}
theorem Wk.seq (h1 : Wk P G ctx x F H .norm F1 H1) (h2 : Wk P G ctx y F1 H1 e F2 H2) : Wk P G ctx (.seq x y) F H e F2 H2 := by
  intro B w0 μ a w b cs pre it k hst
  cases hst
  obtain ⟨a1, w1, μ1, q1, q2, q3⟩ := h1 B w0 μ a w b cs pre (.code x) (.code y :: k) (.code x)
  obtain ⟨a2, w2, μ2, r1, r2, r3⟩ := h2 B w0 μ1 a1 w1 b cs q1 (.code y) k (.code y)
  exact ⟨a2, w2, μ2, r1, q2.trans r2, Arr.of_steps (.head stepR_seq q3) r3⟩
theorem Wk.seqOut (he : ¬ ExNorm e) (h1 : Wk P G ctx x F H e F1 H1) : Wk P G ctx (.seq x y) F H e F1 H1 := by
  intro B w0 μ a w b cs pre it k hst
  cases hst
  obtain ⟨a1, w1, μ1, q1, q2, q3⟩ := h1 B w0 μ a w b cs pre (.code x) (.code y :: k) (.code x)
  exact ⟨a1, w1, μ1, q1, q2, Arr.of_steps (.one stepR_seq) (Arr.pass (x := .code y) rfl he q3)⟩
theorem Wk.cond {o : Operand} {r : Opd} {t : Bool} (hx : cOpd G ctx.D ctx.N o = some r) (hv : r.get F = .bool t) (h : Wk P G ctx (bif t then x else y) F H e F1 H1) : Wk P G ctx (.cond o x y) F H e F1 H1 := by
  intro B w0 μ a w b cs pre it k hst
  cases hst
  have hu := cOpd_ok pre.fr pre.hr.glob hx
  rw [hv] at hu
  generalize hae : a.eval o = u' at hu
  cases hu
  have hc := stepR_cond (P := P) (b := b) (a := a) (k := k) (cs := cs) (w := w) (x := x) (y := y) hae
  cases t with
  | true =>
    obtain ⟨a', w', μ', q1, q2, q3⟩ := h B w0 μ a w b cs pre (.code x) k (.code x)
    exact ⟨a', w', μ', q1, q2, Arr.of_steps (.one hc) q3⟩
  | false =>
    obtain ⟨a', w', μ', q1, q2, q3⟩ := h B w0 μ a w b cs pre (.code y) k (.code y)
    exact ⟨a', w', μ', q1, q2, Arr.of_steps (.one hc) q3⟩
theorem Wk.block {id : Nat} (h : Wk P G ctx c F H .norm F1 H1) : Wk P G ctx (.block id c) F H .norm F1 H1 := by
  intro B w0 μ a w b cs pre it k hst
  cases hst
  obtain ⟨a1, w1, μ1, q1, q2, q3⟩ := h B w0 μ a w b cs pre (.code c) (.inBlock id :: k) (.code c)
  exact ⟨a1, w1, μ1, q1, q2, (Steps.head stepR_block q3).trans (.one stepR_inBlock)⟩
theorem Wk.blockExit {id : Nat} (h : Wk P G ctx c F H (.exit id) F1 H1) : Wk P G ctx (.block id c) F H .norm F1 H1 := by
  intro B w0 μ a w b cs pre it k hst
  cases hst
  obtain ⟨a1, w1, μ1, q1, q2, k₁, t1, t2⟩ := h B w0 μ a w b cs pre (.code c) (.inBlock id :: k) (.code c)
  refine ⟨a1, w1, μ1, q1, q2, (Steps.head stepR_block t2).trans (.one (stepR_exit ?_))⟩
  rw [t1]; simp [exitTo]
theorem Wk.scope (h : Wk P G ctx c F H .norm F1 H1) : Wk P G ctx (.scope c) F H .norm F1 H1 := by
  intro B w0 μ a w b cs pre it k hst
  cases hst
  obtain ⟨a1, w1, μ1, q1, q2, q3⟩ := h B w0 μ a w b cs pre (.code c) (.inScope c :: k) (.code c)
  have s0 : step P (lone (b.atR a (.code (.scope c) :: k)) cs w) = .next (lone (b.atR a (.code c :: .inScope c :: k)) cs w) := step_lone_go (by simp [stepG, stepG.exec, Frame.atR])
  have s1 : step P (lone (b.atR a1 (.inScope c :: k)) cs w1) = .next (lone (b.atR a1 k) cs w1) := step_lone_go (by simp [stepG, stepG.exec, Frame.atR])
  exact ⟨a1, w1, μ1, q1, q2, (Steps.head s0 q3).trans (.one s1)⟩
theorem Wk.loop (h1 : Wk P G ctx c F H .norm F1 H1) (h2 : Wk P G ctx (.loop c) F1 H1 e F2 H2) : Wk P G ctx (.loop c) F H e F2 H2 := by
  intro B w0 μ a w b cs pre it k hst
  have s0 : step P (lone (b.atR a (it :: k)) cs w) = .next (lone (b.atR a (.code c :: .inLoop c :: k)) cs w) := by
    cases hst with
    | code => exact stepR_loop
    | inLoop => exact stepR_inLoop
  obtain ⟨a1, w1, μ1, q1, q2, q3⟩ := h1 B w0 μ a w b cs pre (.code c) (.inLoop c :: k) (.code c)
  obtain ⟨a2, w2, μ2, r1, r2, r3⟩ := h2 B w0 μ1 a1 w1 b cs q1 (.inLoop c) k (.inLoop c)
  exact ⟨a2, w2, μ2, r1, q2.trans r2, Arr.of_steps (.head s0 q3) r3⟩
theorem Wk.loopOut (he : ¬ ExNorm e) (h1 : Wk P G ctx c F H e F1 H1) : Wk P G ctx (.loop c) F H e F1 H1 := by
  intro B w0 μ a w b cs pre it k hst
  have s0 : step P (lone (b.atR a (it :: k)) cs w) = .next (lone (b.atR a (.code c :: .inLoop c :: k)) cs w) := by
    cases hst with
    | code => exact stepR_loop
    | inLoop => exact stepR_inLoop
  obtain ⟨a1, w1, μ1, q1, q2, q3⟩ := h1 B w0 μ a w b cs pre (.code c) (.inLoop c :: k) (.code c)
  exact ⟨a1, w1, μ1, q1, q2, Arr.of_steps (.one s0) (Arr.pass (x := .inLoop c) rfl he q3)⟩
/-- as the machine runs it -/
theorem Wk.ran {self : Self} (hs : ∀ B w0, Snd P G B w0 self) (h : self ctx c F [] H = .out e F1 [] H1) : Wk P G ctx c F H e F1 H1 := by
  intro B w0 μ a w b cs pre it k hst
  obtain ⟨a', w', μ', q1, nx, q3⟩ := hs B w0 ctx c F [] H e F1 [] H1 h μ a w b cs pre it k hst
  exact ⟨a', w', μ', q1, nx.ext2, q3⟩
end

/-! ### frames that are spelled out -/
theorem initF_get {D : Nat} : ∀ (l : List Value) (i : Nat) (F : F8) (t : Nat), i + l.length ≤ 8 ^ D → t < 8 ^ D → 
    F8.get (pth D t) (List.rec (motive := fun _ => Nat → F8 → F8) (fun _ F => F) (fun v _ ih i F => forceV v fun v => F8.put (pth D i) F v fun F => forceN (Nat.succ i) fun i => ih i F) l i F) = if i ≤ t ∧ t < i + l.length then l.getD (t - i) undef else F8.get (pth D t) F
  | [], i, F, t, _, _ => by
    rw [if_neg (by simp only [List.length_nil]; omega)]
  | v :: l, i, F, t, hi, ht => by
    simp only [List.length_cons] at hi
    show F8.get (pth D t) (forceV v _) = _
    rw [forceV_eq, F8.put_eq, forceN_eq]
    have := initF_get l (i + 1) (F8.set (pth D i) F v) t (by omega) ht
    refine this.trans ?_
    rw [F8.get_set D t i F v ht (by omega)]
    by_cases e : t = i
    · subst e
      rw [if_neg (by omega), if_pos rfl, if_pos (by simp only [List.length_cons]; omega)]
      simp
    · rw [if_neg e]
      by_cases h : i ≤ t ∧ t < i + (v :: l).length
      · rw [if_pos h, if_pos (by simp only [List.length_cons] at h; omega)]
        obtain ⟨d, rfl⟩ : ∃ d, t = i + 1 + d := ⟨t - (i + 1), by omega⟩
        rw [show i + 1 + d - (i + 1) = d by omega, show i + 1 + d - i = d + 1 by omega]
        simp
      · rw [if_neg h, if_neg (by simp only [List.length_cons] at h; omega)]
noncomputable def slots (D : Nat) (F : F8) : Nat → Nat → List Value := fun n => Nat.rec (motive := fun _ => Nat → List Value) (fun _ => []) (fun _ ih i => F8.get (pth D i) F :: ih (Nat.succ i)) n
theorem slots_get (D : Nat) (F : F8) : ∀ (n i t : Nat), t < n → (slots D F n i)[t]? = some (F8.get (pth D (i + t)) F)
  | 0, _, _, h => by omega
  | n + 1, i, 0, _ => rfl
  | n + 1, i, t + 1, h => by
    show (slots D F n (i + 1))[t]? = _
    rw [slots_get D F n (i + 1) t (by omega), show i + 1 + t = i + (t + 1) by omega]
theorem FR.lit {D N : Nat} {μ : Mu} {F : F8} {tm : Array Value} (h : FR D N μ F tm) {l : List Value} (hl : l.length = N) (e : slots D F N 0 = l) : FR D N μ (initF D l) tm := by
  have hfit := h.fits
  refine ⟨h.size, h.fits, fun t ht => ?_⟩
  have hg := initF_get l 0 .nil t (by omega) ht
  unfold initF
  rw [hg]
  by_cases hlt : t < N
  · rw [if_pos (by omega)]
    have := slots_get D F N 0 t hlt
    rw [e, Nat.zero_add] at this
    rw [List.getD_eq_getElem?_getD, Nat.sub_zero, this]
    exact h.at_ t ht
  · rw [if_neg (by omega), F8.get_nil]
    have : tm.getD t undef = undef := by
      rw [Array.getD_eq_getD_getElem?, Array.getElem?_eq_none (by have := h.size; omega)]; rfl
    rw [this]
    exact VR.undef μ
theorem Wk.lit {P : Program} {G : Nat} {ctx : Ctx} {c : Code} {F F1 : F8} {H H1 : AH} {e : Ex} (h : Wk P G ctx c F H e F1 H1) {l : List Value} (hl : l.length = ctx.N) (hf : slots ctx.D F1 ctx.N 0 = l) {m : List (Nat × Lb)} {n : Nat} (hm : has H1 m n = true) : Wk P G ctx c F H e (initF ctx.D l) (litH m n) := by
  intro B w0 μ a w b cs pre it k hst
  obtain ⟨a', w', μ', q1, q2, q3⟩ := h B w0 μ a w b cs pre it k hst
  exact ⟨a', w', μ', ⟨q1.fr.lit hl hf, q1.df, q1.hr.lit hm, q1.fn, q1.ro, q1.calm⟩, q2.lit hm, q3⟩
def exEq : Ex → Ex → Bool
  | .norm, .norm => true
  | .ret, .ret => true
  | .exit i, .exit j => Nat.beq i j
  | _, _ => false
theorem exEq_eq : ∀ {a b : Ex}, exEq a b = true → a = b
  | .norm, .norm, _ => rfl
  | .ret, .ret, _ => rfl
  | .exit i, .exit j, h => by rw [Nat.eq_of_beq_eq_true h]
/-- a run ends so -/
noncomputable def outs (D N : Nat) (e : Ex) (l : List Value) (m : List (Nat × Lb)) (n : Nat) : Out → Bool
  | .out e' F [] H => exEq e' e && (Nat.beq l.length N && (listEq (veq 6) (slots D F N 0) l && has H m n))
  | _ => false
/-- a piece, run by the machine from what is spelled out to what is spelled out -/
noncomputable def piece (self : Self) (ctx : Ctx) (c : Code) (l : List Value) (H : AH) (e : Ex) (l' : List Value) (m : List (Nat × Lb)) (n : Nat) : Bool := forceF (initF ctx.D l) fun F => forceH H fun H => outs ctx.D ctx.N e l' m n (self ctx c F [] H)
theorem Wk.piece {P : Program} {G : Nat} {self : Self} (hs : ∀ B w0, Snd P G B w0 self) {ctx : Ctx} {c : Code} {l l' : List Value} {H : AH} {e : Ex} {m : List (Nat × Lb)} {n : Nat} (h : Cr.piece self ctx c l H e l' m n = true) : Wk P G ctx c (initF ctx.D l) H e (initF ctx.D l') (litH m n) := by
  unfold Cr.piece at h
  rw [forceF_eq, forceH_eq] at h
  cases ho : self ctx c (initF ctx.D l) [] H with
  | bad => rw [ho] at h; cases h
  | out e' F1 Ds H1 =>
    rw [ho] at h
    cases Ds with
    | cons d Ds => cases h
    | nil =>
      change (exEq e' e && (Nat.beq l'.length ctx.N && (listEq (veq 6) (slots ctx.D F1 ctx.N 0) l' && has H1 m n))) = true at h
      simp only [Bool.and_eq_true] at h
      obtain ⟨h1, h2, h3, h4⟩ := h
      obtain rfl := exEq_eq h1
      exact (Wk.ran hs ho).lit (Nat.eq_of_beq_eq_true h2) (listEq_eq (veq_eq 6) h3) h4
/-- some rounds of a loop, run by the machine -/
noncomputable def rounds (self : Self) (ctx : Ctx) (c : Code) (k : Nat) : F8 → AH → Out := Nat.rec (motive := fun _ => F8 → AH → Out) (fun F H => .out .norm F [] H) (fun _ ih F H => match self ctx c F [] H with
  | .out .norm F [] H => ih F H
  | _ => .bad) k
theorem rounds_loop {P : Program} {G : Nat} {self : Self} (hs : ∀ B w0, Snd P G B w0 self) {ctx : Ctx} {c : Code} {F2 : F8} {H2 : AH} {e : Ex} : ∀ (k : Nat) {F F1 : F8} {H H1 : AH}, rounds self ctx c k F H = .out .norm F1 [] H1 → Wk P G ctx (.loop c) F1 H1 e F2 H2 → Wk P G ctx (.loop c) F H e F2 H2
  | 0, F, F1, H, H1, h, hw => by
    injection h with _ h1 _ h2
    rw [h1, h2]; exact hw
  | k + 1, F, F1, H, H1, h, hw => by
    change (match self ctx c F [] H with
      | .out .norm F [] H => rounds self ctx c k F H
      | _ => .bad) = _ at h
    split at h
    · rename_i F3 H3 ho
      exact (Wk.ran hs ho).loop (rounds_loop hs k h hw)
    · cases h
theorem Wk.weaken {P : Program} {G : Nat} {ctx : Ctx} {c : Code} {F F1 F2 : F8} {H H1 H2 : AH} {e : Ex} (h : Wk P G ctx c F1 H1 e F2 H2) (hn : H.next ≤ H1.next) (hh : ∀ (B : Nat) (w0 : W0) (μ : Mu) (tm : Array Value) (w : World), FR ctx.D ctx.N μ F tm → HR G B w0 H μ w → FR ctx.D ctx.N μ F1 tm ∧ HR G B w0 H1 μ w) : Wk P G ctx c F H e F2 H2 := by
  intro B w0 μ a w b cs pre it k hst
  have := hh B w0 μ a.tmps w pre.fr pre.hr
  obtain ⟨a', w', μ', q1, q2, q3⟩ := h B w0 μ a w b cs ⟨this.1, pre.df, this.2, pre.fn, pre.ro, pre.calm⟩ it k hst
  exact ⟨a', w', μ', q1, q2.start hn, q3⟩
noncomputable def pieceN (self : Self) (ctx : Ctx) (c : Code) (k : Nat) (l : List Value) (H : AH) (l' : List Value) (m : List (Nat × Lb)) (n : Nat) : Bool := forceF (initF ctx.D l) fun F => forceH H fun H => outs ctx.D ctx.N .norm l' m n (rounds self ctx c k F H)
theorem Wk.pieceN {P : Program} {G : Nat} {self : Self} (hs : ∀ B w0, Snd P G B w0 self) {ctx : Ctx} {c : Code} {k : Nat} {l l' : List Value} {H : AH} {m : List (Nat × Lb)} {n : Nat} (h : Cr.pieceN self ctx c k l H l' m n = true) {e : Ex} {F2 : F8} {H2 : AH} (hw : Wk P G ctx (.loop c) (initF ctx.D l') (litH m n) e F2 H2) : Wk P G ctx (.loop c) (initF ctx.D l) H e F2 H2 := by
  unfold Cr.pieceN at h
  rw [forceF_eq, forceH_eq] at h
  cases ho : rounds self ctx c k (initF ctx.D l) H with
  | bad => rw [ho] at h; cases h
  | out e' F1 Ds H1 =>
    rw [ho] at h
    cases Ds with
    | cons d Ds => cases h
    | nil =>
      change (exEq e' .norm && (Nat.beq l'.length ctx.N && (listEq (veq 6) (slots ctx.D F1 ctx.N 0) l' && has H1 m n))) = true at h
      simp only [Bool.and_eq_true] at h
      obtain ⟨h1, h2, h3, h4⟩ := h
      obtain rfl := exEq_eq h1
      refine rounds_loop hs k ho (hw.weaken (has_next h4) fun B w0 μ tm w hF hH => ⟨hF.lit (Nat.eq_of_beq_eq_true h2) (listEq_eq (veq_eq 6) h3), hH.lit h4⟩)
/-- the first steps of a sequence, run by the machine; and what is left of it -/
noncomputable def chain (self : Self) (ctx : Ctx) (k : Nat) : Code → F8 → AH → Out := Nat.rec (motive := fun _ => Code → F8 → AH → Out) (fun _ F H => .out .norm F [] H) (fun _ ih c F H => match c with
  | .seq x y => match self ctx x F [] H with
    | .out .norm F [] H => ih y F H
    | _ => .bad
  | _ => .bad) k
def restC : Nat → Code → Code
  | 0, c => c
  | k + 1, .seq _ y => restC k y
  | _, c => c
theorem chain_seq {P : Program} {G : Nat} {self : Self} (hs : ∀ B w0, Snd P G B w0 self) {ctx : Ctx} {F2 : F8} {H2 : AH} {e : Ex} : ∀ (k : Nat) {c : Code} {F F1 : F8} {H H1 : AH}, chain self ctx k c F H = .out .norm F1 [] H1 → Wk P G ctx (restC k c) F1 H1 e F2 H2 → Wk P G ctx c F H e F2 H2
  | 0, c, F, F1, H, H1, h, hw => by
    injection h with _ h1 _ h2
    rw [h1, h2]; exact hw
  | k + 1, c, F, F1, H, H1, h, hw => by
    cases c with
    | seq x y =>
      change (match self ctx x F [] H with
        | .out .norm F [] H => chain self ctx k y F H
        | _ => .bad) = _ at h
      split at h
      · rename_i F3 H3 ho
        exact (Wk.ran hs ho).seq (chain_seq hs k h hw)
      · cases h
    | _ => cases h
noncomputable def pieceC (self : Self) (ctx : Ctx) (c : Code) (k : Nat) (l : List Value) (H : AH) (l' : List Value) (m : List (Nat × Lb)) (n : Nat) : Bool := forceF (initF ctx.D l) fun F => forceH H fun H => outs ctx.D ctx.N .norm l' m n (chain self ctx k c F H)
theorem Wk.pieceC {P : Program} {G : Nat} {self : Self} (hs : ∀ B w0, Snd P G B w0 self) {ctx : Ctx} {c : Code} (k : Nat) {l l' : List Value} {H : AH} {m : List (Nat × Lb)} {n : Nat} (h : Cr.pieceC self ctx c k l H l' m n = true) {e : Ex} {F2 : F8} {H2 : AH} (hw : Wk P G ctx (restC k c) (initF ctx.D l') (litH m n) e F2 H2) : Wk P G ctx c (initF ctx.D l) H e F2 H2 := by
  unfold Cr.pieceC at h
  rw [forceF_eq, forceH_eq] at h
  cases ho : chain self ctx k c (initF ctx.D l) H with
  | bad => rw [ho] at h; cases h
  | out e' F1 Ds H1 =>
    rw [ho] at h
    cases Ds with
    | cons d Ds => cases h
    | nil =>
      change (exEq e' .norm && (Nat.beq l'.length ctx.N && (listEq (veq 6) (slots ctx.D F1 ctx.N 0) l' && has H1 m n))) = true at h
      simp only [Bool.and_eq_true] at h
      obtain ⟨h1, h2, h3, h4⟩ := h
      obtain rfl := exEq_eq h1
      refine chain_seq hs k ho (hw.weaken (has_next h4) fun B w0 μ tm w hF hH => ⟨hF.lit (Nat.eq_of_beq_eq_true h2) (listEq_eq (veq_eq 6) h3), hH.lit h4⟩)
end Cr
end Go.Proofs.YtekbkaipdmklpaaGreatDoor
namespace Go.Proofs.YtekbkaipdmklpaaGreatDoor
namespace Cr
open Go Go.RowKit

/-! ### pieces by their code's form -/
noncomputable def lft : Code → Code
  | .seq a _ => a
  | c => c
noncomputable def rgt : Code → Code
  | .seq _ b => b
  | c => c
noncomputable def inn : Code → Code
  | .block _ b => b
  | .loop b => b
  | .scope b => b
  | c => c
noncomputable def thn : Code → Code
  | .cond _ a _ => a
  | c => c
noncomputable def els : Code → Code
  | .cond _ _ b => b
  | c => c
section
variable {P : Program} {G : Nat} {ctx : Ctx} {c x y : Code} {F F1 F2 : F8} {H H1 H2 : AH} {e : Ex}
theorem Wk.seqC (hc : c = .seq x y) (h1 : Wk P G ctx x F H .norm F1 H1) (h2 : Wk P G ctx y F1 H1 e F2 H2) : Wk P G ctx c F H e F2 H2 := by subst hc; exact h1.seq h2
theorem Wk.seqO (hc : c = .seq x y) (he : ¬ ExNorm e) (h1 : Wk P G ctx x F H e F1 H1) : Wk P G ctx c F H e F1 H1 := by subst hc; exact h1.seqOut he
theorem Wk.blockC {id : Nat} (hc : c = .block id x) (h : Wk P G ctx x F H .norm F1 H1) : Wk P G ctx c F H .norm F1 H1 := by subst hc; exact h.block
theorem Wk.blockE {id : Nat} (hc : c = .block id x) (h : Wk P G ctx x F H (.exit id) F1 H1) : Wk P G ctx c F H .norm F1 H1 := by subst hc; exact h.blockExit
theorem Wk.blockP {id : Nat} (hc : c = .block id x) (he : match e with | .norm => False | .ret => True | .exit j => id ≠ j) (h : Wk P G ctx x F H e F1 H1) : Wk P G ctx c F H e F1 H1 := by
  subst hc
  intro B w0 μ a w b cs pre it k hst
  cases hst
  obtain ⟨a1, w1, μ1, q1, q2, q3⟩ := h B w0 μ a w b cs pre (.code x) (.inBlock id :: k) (.code x)
  cases e with
  | norm => cases he
  | ret => exact ⟨a1, w1, μ1, q1, q2, Arr.of_steps (.one stepR_block) q3⟩
  | exit j =>
    obtain ⟨k₁, t1, t2⟩ := q3
    refine ⟨a1, w1, μ1, q1, q2, k₁, ?_, .head stepR_block t2⟩
    rw [t1]
    have he' : id ≠ j := he
    simp [exitTo, he']
theorem Wk.scopeC (hc : c = .scope x) (h : Wk P G ctx x F H .norm F1 H1) : Wk P G ctx c F H .norm F1 H1 := by subst hc; exact h.scope
theorem Wk.scopeP (hc : c = .scope x) (he : ¬ ExNorm e) (h : Wk P G ctx x F H e F1 H1) : Wk P G ctx c F H e F1 H1 := by
  subst hc
  intro B w0 μ a w b cs pre it k hst
  cases hst
  obtain ⟨a1, w1, μ1, q1, q2, q3⟩ := h B w0 μ a w b cs pre (.code x) (.inScope x :: k) (.code x)
  have s0 : step P (lone (b.atR a (.code (.scope x) :: k)) cs w) = .next (lone (b.atR a (.code x :: .inScope x :: k)) cs w) := step_lone_go (by simp [stepG, stepG.exec, Frame.atR])
  exact ⟨a1, w1, μ1, q1, q2, Arr.of_steps (.one s0) (Arr.passScope he q3)⟩
theorem Wk.loopC (hc : c = .loop x) (h1 : Wk P G ctx x F H .norm F1 H1) (h2 : Wk P G ctx c F1 H1 e F2 H2) : Wk P G ctx c F H e F2 H2 := by subst hc; exact h1.loop h2
theorem Wk.loopO (hc : c = .loop x) (he : ¬ ExNorm e) (h1 : Wk P G ctx x F H e F1 H1) : Wk P G ctx c F H e F1 H1 := by subst hc; exact h1.loopOut he
noncomputable def condB (G : Nat) (ctx : Ctx) (F : F8) (t : Bool) : Code → Bool
  | .cond o _ _ => match cOpd G ctx.D ctx.N o with
    | some r => veq 6 (r.get F) (.bool t)
    | none => false
  | _ => false
theorem Wk.condC (t : Bool) (hc : condB G ctx F t c = true) (h : Wk P G ctx (bif t then thn c else els c) F H e F1 H1) : Wk P G ctx c F H e F1 H1 := by
  cases c with
  | cond o a b =>
    change (match cOpd G ctx.D ctx.N o with
      | some r => veq 6 (r.get F) (.bool t)
      | none => false) = true at hc
    split at hc
    · rename_i r hr
      exact Wk.cond hr (veq_eq 6 _ _ hc) h
    · cases hc
  | _ => cases hc
theorem Wk.rounds {self : Self} (hs : ∀ B w0, Snd P G B w0 self) {k : Nat} {l l' : List Value} {m : List (Nat × Lb)} {n : Nat} (hc : c = .loop x) (h : Cr.pieceN self ctx x k l H l' m n = true) (hw : Wk P G ctx c (initF ctx.D l') (litH m n) e F2 H2) : Wk P G ctx c (initF ctx.D l) H e F2 H2 := by
  subst hc; exact Wk.pieceN hs h hw
end

/-! ### calls -/
/-- what a call comes to; only what is told of the memory behind it is known of it -/
def EndW (P : Program) (G B : Nat) (w0 : W0) (g : Nat) (args' : List Value) (cs : List Frame) (v : Value) (H : AH) (μ : Mu) (H' : AH) (w : World) : Prop :=
  ∃ v' w' μ' fr, Steps P (lone (Frame.enter P g ⟨args'⟩ .normal) cs w) (lone fr cs w') ∧ fr.fn = g ∧ fr.kind = .normal ∧ fr.mode = .returning ∧ fr.defers = [] ∧
    (∃ fn, P.funcs[g]? = some fn ∧ (results fn fr.tmps).run P w' = .ok v' w') ∧ VR μ' v v' ∧ Ext2 H μ H' μ' ∧ HR G B w0 H' μ' w'
def CW (P : Program) (G : Nat) (g : Nat) (args : List Value) (H : AH) (v : Value) (H' : AH) : Prop :=
  ∀ (B : Nat) (w0 : W0) (μ : Mu) (w : World) (args' : List Value), LR μ args args' → HR G B w0 H μ w → ∀ cs : List Frame,
    (callFunc g ⟨args'⟩).run P w = .ok (.enter g ⟨args'⟩) w ∧ EndW P G B w0 g args' cs v H μ H' w
theorem Wk.cw {P : Program} {G : Nat} {g D N : Nat} {fn : Func} {c : Code} (hf : P.funcs[g]? = some fn) (hb : fn.body = some c) (eN : fn.ntmps = N) (eD : dep N = D) {args : List Value} (hok : (okFn fn && Nat.ble args.length N) = true) {H H' : AH} {e : Ex} {F' : F8}
    (hw : Wk P G ⟨g, D, N, none⟩ c (initF D args) H e F' H') (he : e = .norm ∨ e = .ret) {v : Value} {H2 : AH} (hv : resV P D N F' H' fn.results.toList = .ok v H2) : CW P G g args H v H2 := by
  intro B w0 μ w args' hargs hr cs
  subst eN eD
  simp only [Bool.and_eq_true] at hok
  obtain ⟨hok, hlen⟩ := hok
  have hlen' : args.length ≤ fn.ntmps := Nat.le_of_ble_eq_true hlen
  have hN : fn.ntmps ≤ 4096 := by
    simp only [okFn, Bool.and_eq_true] at hok
    exact Nat.le_of_ble_eq_true hok.1
  refine ⟨callFunc_enter hf hb hok _ _, ?_⟩
  have hF := initF_ok hargs hN hlen'
  let b : Frame := { (default : Frame) with fn := g, kind := .normal, roundOf := none }
  let a0 : Act := { tmps := (⟨args'⟩ : Array Value) ++ Array.replicate (fn.ntmps - args'.length) undef, defers := [] }
  have henter : Frame.enter P g ⟨args'⟩ .normal = b.atR a0 [.code c] := by
    simp [Frame.enter, Frame.atR, hf, hb, b, a0]
  obtain ⟨a', w', μ', pre', hx, arr⟩ := hw B w0 μ a0 w b cs ⟨hF, .nil, hr, rfl, trivial, .inl rfl⟩ (.code c) [] (.code c)
  rw [← henter] at arr
  have hlv : leave P (fun _ _ _ => Rs.bad) fn (dep fn.ntmps) F' [] H' = .ok v H2 := hv
  have go : ∀ todo, Steps P (lone (Frame.enter P g ⟨args'⟩ .normal) cs w) (lone { b.atR a' todo with mode := .returning } cs w') → EndW P G B w0 g args' cs v H μ H2 w := by
    intro todo hst
    obtain ⟨v', w2, μ2, fr', s1, s2, s3, s4, s5, s6, s7, s8⟩ := leave_ok (P := P) (G := G) (B := B) (w0 := w0) (callB := fun _ _ _ => Rs.bad) (fun _ _ _ _ _ h => by cases h) [] H' H2 v hlv μ' w' { b.atR a' todo with mode := .returning } cs pre'.hr pre'.fr pre'.df rfl hf
    exact ⟨v', w2, μ2, fr', hst.trans s1, s2, s3, s4, s5, s6, s7, hx.trans s8.ext2, s8.hr⟩
  rcases he with rfl | rfl
  · exact go [] (Steps.trans arr (.one (stepR_end rfl)))
  · obtain ⟨k₁, st⟩ := arr
    exact go _ (Steps.trans st (.one (stepR_ret rfl)))
theorem CW.calls {P : Program} {G : Nat} {g : Nat} {args : List Value} {H H' : AH} {v : Value} (h : CW P G g args H v H') {B : Nat} {w0 : W0} {μ : Mu} {w : World} {args' : List Value} (hargs : LR μ args args') (hr : HR G B w0 H μ w) :
    Calls P g ⟨args'⟩ w fun e w' => ∃ v' μ', e = .returned v' ∧ VR μ' v v' ∧ Ext μ μ' ∧ HR G B w0 H' μ' w' := by
  intro cs
  obtain ⟨_, v', w', μ', fr, s1, s2, s3, s4, s5, s6, s7, s8, s9⟩ := h B w0 μ w args' hargs hr cs
  exact ⟨.returned v', w', fr, ⟨v', μ', rfl, s7, s8.ext, s9⟩, s1, s2, Ends.leaving s2 s3 s4 s5 s6⟩

/-- the first operations of a region -/
theorem runOps_part {P : Program} {sp : Spec} {self : Self} {G B : Nat} {w0 : W0} {cmp : Cmp} (hcmp : CmpOk P cmp) (hcall : CallOk P G B w0 (callF P sp self)) (hyield : YieldOk P G B w0 (yieldF self)) {ops : Array Oper} {ctx : Ctx} :
    ∀ (j : Nat) (l : List Oper) (r : List COper) (i : Nat), cOps cmp G ctx.D ctx.N ops l = some r → (∀ j, l[j]? = ops[i + j]?) → j ≤ l.length → ∀ (F : F8) (Ds : List ADef) (H : AH) (e : Ex) (F' : F8) (Ds' : List ADef) (H' : AH),
      runOps (runOp P sp self ctx.ro) (r.take j) F Ds H = .out e F' Ds' H' → ∀ (μ : Mu) (a : Act) (w : World) (b : Frame) (cs : List Frame), Pre G B w0 ctx μ F Ds H a w b cs → ∀ k : List Item,
        e = .norm ∧ ∃ a' w' μ', Pre G B w0 ctx μ' F' Ds' H' a' w' b cs ∧ Ext2 H μ H' μ' ∧ Steps P (lone (b.atR a (.inRegion ops (List.range' i l.length) :: k)) cs w) (lone (b.atR a' (.inRegion ops (List.range' (i + j) (l.length - j)) :: k)) cs w')
  | 0, l, r, i, hc, _, _, F, Ds, H, e, F', Ds', H', hs, μ, a, w, b, cs, pre, k => by
    injection hs with e1 e2 e3 e4
    subst e1 e2 e3 e4
    exact ⟨rfl, a, w, μ, pre, Ext2.refl H μ, .refl P _⟩
  | j + 1, [], r, i, hc, _, hj, F, Ds, H, e, F', Ds', H', hs, μ, a, w, b, cs, pre, k => by simp at hj
  | j + 1, o :: l, r, i, hc, hl, hj, F, Ds, H, e, F', Ds', H', hs, μ, a, w, b, cs, pre, k => by
    obtain ⟨c, r', rfl, hc1, hc2⟩ := cOps_len hc o l rfl
    have ho : ops[i]? = some o := by have := hl 0; simpa using this.symm
    have hl' : ∀ j, l[j]? = ops[i + 1 + j]? := fun j => by
      have := hl (j + 1)
      rw [show i + 1 + j = i + (j + 1) by omega]
      simpa using this
    have hj' : j ≤ l.length := by simpa using hj
    rw [List.take_succ_cons, runOps_cons] at hs
    have hrange : List.range' i (o :: l).length = i :: List.range' (i + 1) l.length := by simp [List.range'_succ]
    have hrange2 : List.range' (i + (j + 1)) ((o :: l).length - (j + 1)) = List.range' (i + 1 + j) (l.length - j) := by
      rw [List.length_cons, show l.length + 1 - (j + 1) = l.length - j by omega, show i + (j + 1) = i + 1 + j by omega]
    rw [hrange, hrange2]
    cases hw : wantG c.gd F with
    | false =>
      rw [hw] at hs
      simp only at hs
      obtain ⟨a', pre', s1⟩ := oper_skip (P := P) hc1 hw pre ho (List.range' (i + 1) l.length) k
      obtain ⟨he, a'', w'', μ'', p2, n2, s2⟩ := runOps_part hcmp hcall hyield j l r' (i + 1) hc2 hl' hj' _ _ _ _ _ _ _ hs μ a' w b cs pre' k
      exact ⟨he, a'', w'', μ'', p2, n2, s1.trans s2⟩
    | true =>
      rw [hw] at hs
      simp only at hs
      cases hrun : runOp P sp self ctx.ro c.c (getL F c.xs) Ds H with
      | bad => rw [hrun] at hs; cases hs
      | ok v Ds1 H1 =>
        rw [hrun] at hs
        simp only at hs
        obtain ⟨a', w', μ', pre', n1, s1⟩ := oper_ok hcmp hcall hyield hc1 hw hrun pre ho (List.range' (i + 1) l.length) k
        obtain ⟨he, a'', w'', μ'', p2, n2, s2⟩ := runOps_part hcmp hcall hyield j l r' (i + 1) hc2 hl' hj' _ _ _ _ _ _ _ hs μ' a' w' b cs pre' k
        exact ⟨he, a'', w'', μ'', p2, n1.ext2.trans n2, s1.trans s2⟩
theorem cOps_get {cmp : Cmp} {G D N : Nat} {ops : Array Oper} : ∀ {l : List Oper} {r : List COper}, cOps cmp G D N ops l = some r → ∀ {j : Nat} {c : COper}, r[j]? = some c → ∃ o, l[j]? = some o ∧ cOper cmp G D N ops o = some c
  | [], r, h, j, c, hj => by
    simp only [cOps, Option.some.injEq] at h
    subst h; cases hj
  | o :: l, r, h, j, c, hj => by
    obtain ⟨c', r', rfl, hc1, hc2⟩ := cOps_len h o l rfl
    cases j with
    | zero =>
      injection hj with hj
      subst hj
      exact ⟨o, rfl, hc1⟩
    | succ j => exact cOps_get hc2 (j := j) hj
theorem cOps_drop {cmp : Cmp} {G D N : Nat} {ops : Array Oper} : ∀ (j : Nat) {l : List Oper} {r : List COper}, cOps cmp G D N ops l = some r → cOps cmp G D N ops (l.drop j) = some (r.drop j)
  | 0, l, r, h => h
  | j + 1, [], r, h => by
    simp only [cOps, Option.some.injEq] at h
    subst h; rfl
  | j + 1, o :: l, r, h => by
    obtain ⟨c', r', rfl, hc1, hc2⟩ := cOps_len h o l rfl
    exact cOps_drop j hc2
theorem cOps_length {cmp : Cmp} {G D N : Nat} {ops : Array Oper} : ∀ {l : List Oper} {r : List COper}, cOps cmp G D N ops l = some r → r.length = l.length
  | [], r, h => by
    simp only [cOps, Option.some.injEq] at h
    subst h; rfl
  | o :: l, r, h => by
    obtain ⟨c', r', rfl, hc1, hc2⟩ := cOps_len h o l rfl
    simp [cOps_length hc2]

/-- the code of a region, and the call at a place in it -/
noncomputable def regOps (cmp : Cmp) (G : Nat) (ctx : Ctx) : Code → Option (List COper)
  | .region _ ops false => cOps cmp G ctx.D ctx.N ops ops.toList
  | _ => none
theorem outs_inv {D N : Nat} {e : Ex} {l : List Value} {m : List (Nat × Lb)} {n : Nat} {o : Out} (h : outs D N e l m n o = true) : ∃ F H, o = .out e F [] H ∧ l.length = N ∧ slots D F N 0 = l ∧ has H m n = true := by
  cases o with
  | bad => cases h
  | out e' F1 Ds H1 =>
    cases Ds with
    | cons d Ds => cases h
    | nil =>
      change (exEq e' e && (Nat.beq l.length N && (listEq (veq 6) (slots D F1 N 0) l && has H1 m n))) = true at h
      simp only [Bool.and_eq_true] at h
      obtain ⟨h1, h2, h3, h4⟩ := h
      obtain rfl := exEq_eq h1
      exact ⟨F1, H1, rfl, Nat.eq_of_beq_eq_true h2, listEq_eq (veq_eq 6) h3, h4⟩
end Cr
end Go.Proofs.YtekbkaipdmklpaaGreatDoor
namespace Go.Proofs.YtekbkaipdmklpaaGreatDoor
namespace Cr
open Go Go.RowKit
open Go.ChangeMaps (setBlock)

/-- a piece of code that comes to one of some ends -/
def WkQ (P : Program) (G : Nat) (ctx : Ctx) (c : Code) (F : F8) (H : AH) (Q : Ex → F8 → AH → Prop) : Prop :=
  ∀ (B : Nat) (w0 : W0) (μ : Mu) (a : Act) (w : World) (b : Frame) (cs : List Frame), Pre G B w0 ctx μ F [] H a w b cs → ∀ (it : Item) (k : List Item), Starts c it →
    ∃ e F' H' a' w' μ', Q e F' H' ∧ Pre G B w0 ctx μ' F' [] H' a' w' b cs ∧ Ext2 H μ H' μ' ∧ Arr P (lone (b.atR a (it :: k)) cs w) b k cs e a' w'
section
variable {P : Program} {G : Nat} {ctx : Ctx} {c x y : Code} {F F1 F2 : F8} {H H1 H2 : AH} {e : Ex} {Q Q1 : Ex → F8 → AH → Prop}
theorem Wk.q (h : Wk P G ctx c F H e F1 H1) (hq : Q e F1 H1) : WkQ P G ctx c F H Q := by
  intro B w0 μ a w b cs pre it k hst
  obtain ⟨a', w', μ', q1, q2, q3⟩ := h B w0 μ a w b cs pre it k hst
  exact ⟨e, F1, H1, a', w', μ', hq, q1, q2, q3⟩
theorem WkQ.mono (h : WkQ P G ctx c F H Q1) (hq : ∀ e F H, Q1 e F H → Q e F H) : WkQ P G ctx c F H Q := by
  intro B w0 μ a w b cs pre it k hst
  obtain ⟨e, F', H', a', w', μ', q0, q⟩ := h B w0 μ a w b cs pre it k hst
  exact ⟨e, F', H', a', w', μ', hq _ _ _ q0, q⟩
theorem WkQ.seq (hc : c = .seq x y) (h : WkQ P G ctx x F H fun e F1 H1 => e = .norm ∧ WkQ P G ctx y F1 H1 Q) : WkQ P G ctx c F H Q := by
  subst hc
  intro B w0 μ a w b cs pre it k hst
  cases hst
  obtain ⟨e, F1, H1, a1, w1, μ1, ⟨rfl, h2⟩, q1, q2, q3⟩ := h B w0 μ a w b cs pre (.code x) (.code y :: k) (.code x)
  obtain ⟨e, F2, H2, a2, w2, μ2, r0, r1, r2, r3⟩ := h2 B w0 μ1 a1 w1 b cs q1 (.code y) k (.code y)
  exact ⟨e, F2, H2, a2, w2, μ2, r0, r1, q2.trans r2, Arr.of_steps (.head stepR_seq q3) r3⟩
theorem WkQ.block {id : Nat} (hc : c = .block id x) (h : WkQ P G ctx x F H fun e F1 H1 => (e = .norm ∨ e = .exit id) ∧ Q .norm F1 H1) : WkQ P G ctx c F H Q := by
  subst hc
  intro B w0 μ a w b cs pre it k hst
  cases hst
  obtain ⟨e, F1, H1, a1, w1, μ1, ⟨he, h2⟩, q1, q2, q3⟩ := h B w0 μ a w b cs pre (.code x) (.inBlock id :: k) (.code x)
  rcases he with rfl | rfl
  · exact ⟨.norm, F1, H1, a1, w1, μ1, h2, q1, q2, (Steps.head stepR_block q3).trans (.one stepR_inBlock)⟩
  · obtain ⟨k₁, t1, t2⟩ := q3
    refine ⟨.norm, F1, H1, a1, w1, μ1, h2, q1, q2, (Steps.head stepR_block t2).trans (.one (stepR_exit ?_))⟩
    rw [t1]; simp [exitTo]
theorem WkQ.loop (hc : c = .loop x) (h : WkQ P G ctx x F H fun e F1 H1 => match e with
    | .norm => WkQ P G ctx c F1 H1 Q
    | e => Q e F1 H1) : WkQ P G ctx c F H Q := by
  intro B w0 μ a w b cs pre it k hst
  have s0 : step P (lone (b.atR a (it :: k)) cs w) = .next (lone (b.atR a (.code x :: .inLoop x :: k)) cs w) := by
    subst hc
    cases hst with
    | code => exact stepR_loop
    | inLoop => exact stepR_inLoop
  obtain ⟨e, F1, H1, a1, w1, μ1, h2, q1, q2, q3⟩ := h B w0 μ a w b cs pre (.code x) (.inLoop x :: k) (.code x)
  cases e with
  | norm =>
    have hs2 : Starts c (.inLoop x) := by subst hc; exact .inLoop x
    obtain ⟨e, F2, H2, a2, w2, μ2, r0, r1, r2, r3⟩ := h2 B w0 μ1 a1 w1 b cs q1 (.inLoop x) k hs2
    exact ⟨e, F2, H2, a2, w2, μ2, r0, r1, q2.trans r2, Arr.of_steps (.head s0 q3) r3⟩
  | ret => exact ⟨_, F1, H1, a1, w1, μ1, h2, q1, q2, Arr.of_steps (.one s0) (Arr.pass (x := .inLoop x) rfl (fun h => h) q3)⟩
  | exit i => exact ⟨_, F1, H1, a1, w1, μ1, h2, q1, q2, Arr.of_steps (.one s0) (Arr.pass (x := .inLoop x) rfl (fun h => h) q3)⟩
theorem WkQ.condC (t : Bool) (hc : condB G ctx F t c = true) (h : WkQ P G ctx (bif t then thn c else els c) F H Q) : WkQ P G ctx c F H Q := by
  cases c with
  | cond o a b =>
    change (match cOpd G ctx.D ctx.N o with
      | some r => veq 6 (r.get F) (.bool t)
      | none => false) = true at hc
    split at hc
    · rename_i r hr
      intro B w0 μ ac w fr cs pre it k hst
      cases hst
      have hu := cOpd_ok pre.fr pre.hr.glob hr
      rw [veq_eq 6 _ _ hc] at hu
      generalize hae : ac.eval o = u' at hu
      cases hu
      have hcd := stepR_cond (P := P) (b := fr) (a := ac) (k := k) (cs := cs) (w := w) (x := a) (y := b) hae
      cases t with
      | true =>
        obtain ⟨e, F', H', a', w', μ', q0, q1, q2, q3⟩ := h B w0 μ ac w fr cs pre (.code a) k (.code a)
        exact ⟨e, F', H', a', w', μ', q0, q1, q2, Arr.of_steps (.one hcd) q3⟩
      | false =>
        obtain ⟨e, F', H', a', w', μ', q0, q1, q2, q3⟩ := h B w0 μ ac w fr cs pre (.code b) k (.code b)
        exact ⟨e, F', H', a', w', μ', q0, q1, q2, Arr.of_steps (.one hcd) q3⟩
    · cases hc
  | _ => cases hc
theorem WkQ.weaken (h : WkQ P G ctx c F1 H1 Q) (hn : H.next ≤ H1.next) (hh : ∀ (B : Nat) (w0 : W0) (μ : Mu) (tm : Array Value) (w : World), FR ctx.D ctx.N μ F tm → HR G B w0 H μ w → FR ctx.D ctx.N μ F1 tm ∧ HR G B w0 H1 μ w) : WkQ P G ctx c F H Q := by
  intro B w0 μ a w b cs pre it k hst
  have := hh B w0 μ a.tmps w pre.fr pre.hr
  obtain ⟨e, F', H', a', w', μ', q0, q1, q2, q3⟩ := h B w0 μ a w b cs ⟨this.1, pre.df, this.2, pre.fn, pre.ro, pre.calm⟩ it k hst
  exact ⟨e, F', H', a', w', μ', q0, q1, q2.start hn, q3⟩
end
theorem chain_seqQ {P : Program} {G : Nat} {self : Self} (hs : ∀ B w0, Snd P G B w0 self) {ctx : Ctx} {Q : Ex → F8 → AH → Prop} : ∀ (k : Nat) {c : Code} {F F1 : F8} {H H1 : AH}, chain self ctx k c F H = .out .norm F1 [] H1 → WkQ P G ctx (restC k c) F1 H1 Q → WkQ P G ctx c F H Q
  | 0, c, F, F1, H, H1, h, hw => by
    injection h with _ h1 _ h2
    rw [h1, h2]; exact hw
  | k + 1, c, F, F1, H, H1, h, hw => by
    cases c with
    | seq x y =>
      change (match self ctx x F [] H with
        | .out .norm F [] H => chain self ctx k y F H
        | _ => .bad) = _ at h
      split at h
      · rename_i F3 H3 ho
        exact WkQ.seq rfl ((Wk.ran hs ho).q ⟨rfl, chain_seqQ hs k h hw⟩)
      · cases h
    | _ => cases h
/-- the first steps of a sequence -/
theorem WkQ.pieceC {P : Program} {G : Nat} {self : Self} (hs : ∀ B w0, Snd P G B w0 self) {ctx : Ctx} {c : Code} (k : Nat) {l l' : List Value} {H : AH} {m : List (Nat × Lb)} {n : Nat} {Q : Ex → F8 → AH → Prop} (h : Cr.pieceC self ctx c k l H l' m n = true) (hw : WkQ P G ctx (restC k c) (initF ctx.D l') (litH m n) Q) : WkQ P G ctx c (initF ctx.D l) H Q := by
  unfold Cr.pieceC at h
  rw [forceF_eq, forceH_eq] at h
  obtain ⟨F1, H1, ho, h2, h3, h4⟩ := outs_inv h
  exact chain_seqQ hs k ho (hw.weaken (has_next h4) fun B w0 μ tm w hF hH => ⟨hF.lit h2 h3, hH.lit h4⟩)

/-! ### the next entry of a map -/
def leftN (n : Nat) (seen : List Nat) : List Nat := (List.range n).filter fun p => !(seen.any (Nat.beq p))
theorem mem_leftN {n : Nat} {seen : List Nat} {p : Nat} : p ∈ leftN n seen ↔ p < n ∧ p ∉ seen := by
  unfold leftN
  rw [List.mem_filter, List.mem_range]
  refine and_congr Iff.rfl ?_
  rw [Bool.not_eq_true', ← Bool.not_eq_true, List.any_eq_true]
  constructor
  · intro h hm; exact h ⟨p, hm, Nat.beq_refl p⟩
  · rintro h ⟨q, hq, e⟩; exact h (by rw [Nat.eq_of_beq_eq_true e]; exact hq)
structure Alt where
  l : List Value
  m : List (Nat × Lb)
  n : Nat
/-- the ends, one for each entry that is left (one alone if there is none) -/
noncomputable def altsOk (one : Option Nat → Alt → Bool) : List Nat → List Alt → Bool
  | [], [x] => one none x
  | [], _ => false
  | ps, xs => Nat.beq ps.length xs.length && (ps.zip xs).all fun p => one (some p.1) p.2
/-- a region that begins with 'next' -/
noncomputable def nextB (P : Program) (sp : Spec) (self : Self) (G : Nat) (ctx : Ctx) (c : Code) (l : List Value) (H : AH) (xs : List Alt) : Bool :=
  (match c with
    | .region _ ops false => match ops[0]? with
      | some o => (match o.op with
        | .next _ false => true
        | _ => false)
      | none => false
    | _ => false) && (match regOps (comp P) G ctx c with
    | some (o :: r) => forceF (initF ctx.D l) fun F => forceH H fun H => wantG o.gd F && (match getL F o.xs with
      | [.pointer (some ⟨i, 0, none⟩)] => match H.get i with
        | some (.dfr (.iter m since seen last)) => match H.get m with
          | some (.map true es) => Nat.beq since es.length && (Nat.ble since last && altsOk (fun p x => match p with
              | none => outs ctx.D ctx.N .norm x.l x.m x.n (runOps (runOp P sp self ctx.ro) r (setD o.dst F (.tuple ⟨[.bool false]⟩)) [] H)
              | some p => match es[p]? with
                | some e => outs ctx.D ctx.N .norm x.l x.m x.n (runOps (runOp P sp self ctx.ro) r (setD o.dst F (.tuple ⟨[.bool true, e.1, e.2]⟩)) [] (H.set i (some (.dfr (.iter m since (seen ++ [p]) es.length)))))
                | none => false) (leftN es.length seen) xs)
          | _ => false
        | _ => false
      | _ => false)
    | _ => false)
theorem altsOk_none {one : Option Nat → Alt → Bool} {xs : List Alt} (h : altsOk one [] xs = true) : ∃ x, xs = [x] ∧ one none x = true := by
  match xs, h with
  | [], h => cases h
  | [x], h => exact ⟨x, rfl, h⟩
  | _ :: _ :: _, h => cases h
theorem altsOk_some {one : Option Nat → Alt → Bool} {ps : List Nat} {xs : List Alt} (h : altsOk one ps xs = true) {p : Nat} (hp : p ∈ ps) : ∃ x ∈ xs, one (some p) x = true := by
  match ps, h with
  | [], _ => cases hp
  | q :: ps, h =>
    change (Nat.beq (q :: ps).length xs.length && ((q :: ps).zip xs).all fun p => one (some p.1) p.2) = true at h
    rw [Bool.and_eq_true, List.all_eq_true] at h
    obtain ⟨h1, h2⟩ := h
    have h1 := Nat.eq_of_beq_eq_true h1
    obtain ⟨j, hj, rfl⟩ := List.getElem_of_mem hp
    have hj2 : j < xs.length := by omega
    have := h2 ((q :: ps)[j], xs[j]) (List.mem_iff_getElem.2 ⟨j, by rw [List.length_zip]; omega, by simp⟩)
    exact ⟨xs[j], List.getElem_mem hj2, this⟩
theorem WkQ.next {P : Program} {G : Nat} {sp : Spec} {self : Self} (hsp : ∀ B w0, SpOk P G B w0 sp) (hs : ∀ B w0, Snd P G B w0 self) {ctx : Ctx} {c : Code} {l : List Value} {H : AH} {xs : List Alt} (h : nextB P sp self G ctx c l H xs = true)
    {Q : Ex → F8 → AH → Prop} (hq : ∀ x ∈ xs, Q .norm (initF ctx.D x.l) (litH x.m x.n)) : WkQ P G ctx c (initF ctx.D l) H Q := by
  intro B w0 μ a w b cs pre it k hst
  cases c with
  | region id ops draw =>
    cases draw with
    | true => cases h
    | false =>
      cases hst
      unfold nextB at h
      rw [Bool.and_eq_true] at h
      obtain ⟨hop, h⟩ := h
      change (match cOps (comp P) G ctx.D ctx.N ops ops.toList with
        | some (o :: r) => _
        | _ => false) = true at h
      cases hc : cOps (comp P) G ctx.D ctx.N ops ops.toList with
      | none => rw [hc] at h; cases h
      | some rr =>
        rw [hc] at h
        cases rr with
        | nil => cases h
        | cons o r =>
          simp only [forceF_eq, forceH_eq] at h
          obtain ⟨op, hop0, hco⟩ := cOps_get hc (j := 0) (c := o) rfl
          have ho : ops[0]? = some op := by simpa using hop0
          obtain ⟨ys, k1, k2, k3, k4⟩ := cOper_inv hco
          simp only [ho] at hop
          split at hop
          · rename_i x hopx
            have hys : ys = [x] := by
              have : comp P op = some (.m (m1 sNxt), [x]) := by unfold comp; rw [hopx]; rfl
              rw [this] at k1
              injection k1 with k1
              exact (congrArg Prod.snd k1).symm
            subst hys
            rw [Bool.and_eq_true] at h
            obtain ⟨hwant, h⟩ := h
            have hvs := cOpds_ok pre.fr pre.hr.glob k2
            have hwant' : Region.wanted op (yielded ops a.tmps) = true := by rw [wanted_ok pre.fr k3]; exact hwant
            have nd : ∀ c, op.op ≠ .defer c := fun c e => by rw [hopx] at e; cases e
            have he : execOp a.eval op = Vof (Instr.next (a.eval x) false op.type) := by unfold execOp; rw [hopx]; rfl
            generalize hgl : getL (initF ctx.D l) o.xs = vs at hvs h
            split at h
            · rename_i i
              obtain ⟨u, hu1, hu⟩ := hvs.one
              simp only [List.map_cons, List.map_nil] at hvs
              have hu' : VR μ (.pointer (some ⟨i, 0, none⟩)) (a.eval x) := by
                have := hvs.at_ 0 (by simp) (by simp)
                simpa using this
              clear hu hu1
              generalize a.eval x = ax at he hu'
              cases hu' with
              | ptr _ bi oi _ hm =>
                split at h
                · rename_i m since seen last hgi
                  obtain ⟨ho0, hBb, ob, hob, m', hm', rfl⟩ := pre.hr.blk i _ hgi bi oi hm
                  subst ho0
                  split at h
                  · rename_i es hgm
                    simp only [Bool.and_eq_true] at h
                    obtain ⟨hs1, hs2, hal⟩ := h
                    have hs1 := Nat.eq_of_beq_eq_true hs1
                    have hs2 := Nat.le_of_ble_eq_true hs2
                    obtain ⟨_, es2, ents, clock, qm, q1, q2, q3, q4⟩ := pre.hr.blk m _ hgm m' 0 hm'
                    obtain rfl : es = es2 := Eq.symm qm
                    obtain ⟨hB, hbn⟩ := q2 rfl
                    obtain ⟨hcl, hsz⟩ := hbn.size q3
                    have hold : ∀ x ∈ ents.toList, x.born < since := fun y hy => by
                      obtain ⟨j, hj, rfl⟩ := List.getElem_of_mem hy
                      have := hbn.born j _ (by rw [Array.getElem?_eq_getElem (by simpa using hj)])
                      simp only [Array.getElem_toList] at this ⊢
                      simp at hj
                      omega
                    have hlt : bi < w.heap.size := (Array.getElem?_eq_some_iff.1 hob).1
                    have hlen : ops.toList.length = ops.size := by simp
                    have hpos : 0 < ops.size := (Array.getElem?_eq_some_iff.1 ho).1
                    have hr0 : List.range ops.size = 0 :: List.range' 1 (ops.size - 1) := by
                      obtain ⟨n, hn⟩ : ∃ n, ops.size = n + 1 := ⟨ops.size - 1, by omega⟩
                      rw [hn, List.range_eq_range', List.range'_succ]; rfl
                    have hc2 : cOps (comp P) G ctx.D ctx.N ops (ops.toList.drop 1) = some r := cOps_drop 1 hc
                    -- behind the operation
                    have fin : ∀ (v v' : Value) (H2 : AH) (μ2 : Mu) (w2 : World) (y : Alt), VR μ2 v v' → Ext2 H μ H2 μ2 → HR G B w0 H2 μ2 w2 → (execOp a.eval op).run P w = .ok (.value v') w2 →
                        outs ctx.D ctx.N .norm y.l y.m y.n (runOps (runOp P sp self ctx.ro) r (setD o.dst (initF ctx.D l) v) [] H2) = true → y ∈ xs →
                        ∃ e F' H' a' w' μ', Q e F' H' ∧ Pre G B w0 ctx μ' F' [] H' a' w' b cs ∧ Ext2 H μ H' μ' ∧ Arr P (lone (b.atR a (.code (.region id ops false) :: k)) cs w) b k cs e a' w' := by
                      intro v v' H2 μ2 w2 y hv hx hr2 hrun hy hmem
                      obtain ⟨F2, H3, hrun2, hl2, hf2, hm2⟩ := outs_inv hy
                      have hstep := op_value (P := P) (b := b) (cs := cs) (k := k) (rest := List.range' 1 (ops.size - 1)) ho hwant' (by rw [Oper.semAt_eq _ _ _ nd]; exact hrun)
                      have e0 : (({ a with defers := a.defers } : Act).put op.dst v') = a.put op.dst v' := rfl
                      have p2 : Pre G B w0 ctx μ2 (setD o.dst (initF ctx.D l) v) [] H2 (a.put op.dst v') w2 b cs := pre.ext hx.ext (by rw [← e0]; exact setD_ok (pre.fr.ext hx.ext) k4 hv a.defers) (by rw [← e0, put_defers]; exact pre.df.ext hx.ext) hr2
                      have hcall := callF_ok (hs B w0) (hsp B w0)
                      have hyield := yieldF_ok (hs B w0)
                      obtain ⟨_, a3, w3, μ3, p3, n3, s3⟩ := runOps_ok (comp_ok P) hcall hyield (ops.toList.drop 1) r 1 hc2 (fun i => by rw [List.getElem?_drop]; simp) _ _ _ _ _ _ _ hrun2 μ2 _ w2 b cs p2 k
                      rw [List.length_drop, hlen] at s3
                      refine ⟨.norm, _, _, a3, w3, μ3, hq y hmem, ⟨p3.fr.lit hl2 hf2, p3.df, p3.hr.lit hm2, p3.fn, p3.ro, p3.calm⟩, (hx.trans n3.ext2).lit hm2, .head stepR_region ?_⟩
                      rw [hr0]
                      exact .head hstep s3
                    have hob' : w.heap[bi]? = some (.mapIter (some m') since ⟨seen⟩ last) := hob
                    rcases run_next_at (P := P) w op.type bi m' since last ⟨seen⟩ ents clock hob' q1 hold hs2 with ⟨h0, hrun⟩ | ⟨e, hel, w1, hw1, hrun⟩
                    · have hleft : leftN es.length seen = [] := by
                        apply List.eq_nil_iff_forall_not_mem.2
                        intro p hp
                        obtain ⟨hp1, hp2⟩ := mem_leftN.1 hp
                        have hpe : p < ents.size := by omega
                        have hb := hbn.born p _ (Array.getElem?_eq_getElem hpe)
                        have hmem : ents[p] ∈ leftOf ents ⟨seen⟩ := by
                          unfold leftOf
                          rw [Array.mem_filter]
                          refine ⟨Array.getElem_mem hpe, ?_⟩
                          rw [hb]
                          simpa using hp2
                        have := Array.size_pos_of_mem hmem
                        omega
                      rw [hleft] at hal
                      obtain ⟨y, hy1, hy2⟩ := altsOk_none hal
                      exact fin _ (.tuple ⟨[.bool false]⟩) H μ w y (VR.plain rfl) (Ext2.refl H μ) pre.hr (by rw [he]; exact run_Vof hrun) hy2 (by rw [hy1]; simp)
                    · have hmem : e ∈ leftOf ents ⟨seen⟩ := by simpa using hel
                      unfold leftOf at hmem
                      rw [Array.mem_filter] at hmem
                      obtain ⟨hm1, hm2⟩ := hmem
                      obtain ⟨p, hp, rfl⟩ := Array.getElem_of_mem hm1
                      have hb := hbn.born p _ (Array.getElem?_eq_getElem hp)
                      rw [hb] at hm2 hrun
                      have hpl : p ∈ leftN es.length seen := mem_leftN.2 ⟨by omega, by simpa using hm2⟩
                      obtain ⟨y, hy1, hy2⟩ := altsOk_some hal hpl
                      have hpes : p < es.length := by omega
                      simp only [List.getElem?_eq_getElem hpes] at hy2
                      obtain ⟨e', x1, x2, x3, x4⟩ := entry_at hbn q3 q4 (List.getElem?_eq_getElem hpes)
                      rw [Array.getElem?_eq_getElem hp] at x1
                      injection x1 with x1
                      subst x1
                      have hrw : HR G B w0 H μ w1 ∧ w1.heap = w.heap := by
                        rcases hw1 with rfl | rfl
                        · exact ⟨pre.hr, rfl⟩
                        · exact ⟨pre.hr.drew, rfl⟩
                      have hobj : w1.heap[bi]? = some (.mapIter (some m') since ⟨seen⟩ last) := by rw [hrw.2]; exact hob'
                      have hnx := hrw.1.putObj (y := .dfr (.iter m since (seen ++ [p]) es.length)) (.mapIter (some m') since ⟨seen ++ [p]⟩ clock) hgi hm hBb ⟨rfl, hBb, .mapIter (some m') since ⟨seen ++ [p]⟩ clock, by simp [hrw.2, hlt], m', hm', by rw [hcl]⟩
                      refine fin _ (.tuple ⟨[.bool true, (ents[p]).key, (ents[p]).val]⟩) _ μ _ y (VR.tuple_of (LR.cons (.bool true) (LR.cons x3 (LR.cons x4 (LR.nil μ))))) (show Ext2 H μ (H.set i (some (.dfr (.iter m since (seen ++ [p]) es.length)))) μ from ⟨Ext.refl μ, fun _ _ h => h, Nat.le_refl _⟩) hnx.hr ?_ hy2 hy1
                      rw [he]
                      refine run_Vof ?_
                      have hpush : (⟨seen⟩ : Array Nat).push p = ⟨seen ++ [p]⟩ := by apply Array.toList_inj.1; simp
                      rw [hrun, hpush]
                      rfl
                  · cases h
                · cases h
            · cases h
          · cases hop
  | _ => cases h
/-- a function that comes to one of some ends, all with the same answer -/
theorem WkQ.cw {P : Program} {G : Nat} {g D N : Nat} {fn : Func} {c : Code} (hf : P.funcs[g]? = some fn) (hb : fn.body = some c) (eN : fn.ntmps = N) (eD : dep N = D) {args : List Value} (hok : (okFn fn && Nat.ble args.length N) = true) {H : AH} {v : Value} {m : List (Nat × Lb)} {n : Nat}
    (hw : WkQ P G ⟨g, D, N, none⟩ c (initF D args) H fun e F' H' => (e = .norm ∨ e = .ret) ∧ ∃ H2, resV P D N F' H' fn.results.toList = .ok v H2 ∧ has H2 m n = true) : CW P G g args H v (litH m n) := by
  intro B w0 μ w args' hargs hr cs
  subst eN eD
  simp only [Bool.and_eq_true] at hok
  obtain ⟨hok, hlen⟩ := hok
  have hlen' : args.length ≤ fn.ntmps := Nat.le_of_ble_eq_true hlen
  have hN : fn.ntmps ≤ 4096 := by
    simp only [okFn, Bool.and_eq_true] at hok
    exact Nat.le_of_ble_eq_true hok.1
  refine ⟨callFunc_enter hf hb hok _ _, ?_⟩
  have hF := initF_ok hargs hN hlen'
  let b : Frame := { (default : Frame) with fn := g, kind := .normal, roundOf := none }
  let a0 : Act := { tmps := (⟨args'⟩ : Array Value) ++ Array.replicate (fn.ntmps - args'.length) undef, defers := [] }
  have henter : Frame.enter P g ⟨args'⟩ .normal = b.atR a0 [.code c] := by
    simp [Frame.enter, Frame.atR, hf, hb, b, a0]
  obtain ⟨e, F', H', a', w', μ', ⟨he, H2, hv, hm⟩, pre', hx, arr⟩ := hw B w0 μ a0 w b cs ⟨hF, .nil, hr, rfl, trivial, .inl rfl⟩ (.code c) [] (.code c)
  rw [← henter] at arr
  have hlv : leave P (fun _ _ _ => Rs.bad) fn (dep fn.ntmps) F' [] H' = .ok v H2 := hv
  have go : ∀ todo, Steps P (lone (Frame.enter P g ⟨args'⟩ .normal) cs w) (lone { b.atR a' todo with mode := .returning } cs w') → EndW P G B w0 g args' cs v H μ (litH m n) w := by
    intro todo hst
    obtain ⟨v', w2, μ2, fr', s1, s2, s3, s4, s5, s6, s7, s8⟩ := leave_ok (P := P) (G := G) (B := B) (w0 := w0) (callB := fun _ _ _ => Rs.bad) (fun _ _ _ _ _ h => by cases h) [] H' H2 v hlv μ' w' { b.atR a' todo with mode := .returning } cs pre'.hr pre'.fr pre'.df rfl hf
    exact ⟨v', w2, μ2, fr', hst.trans s1, s2, s3, s4, s5, s6, s7, (hx.trans s8.ext2).lit hm, s8.hr.lit hm⟩
  rcases he with rfl | rfl
  · exact go [] (Steps.trans arr (.one (stepR_end rfl)))
  · obtain ⟨k₁, st⟩ := arr
    exact go _ (Steps.trans st (.one (stepR_ret rfl)))
end Cr
end Go.Proofs.YtekbkaipdmklpaaGreatDoor
namespace Go.Proofs.YtekbkaipdmklpaaGreatDoor
namespace Cr
open Go Go.RowKit

theorem Wk.condT {P : Program} {G : Nat} {ctx : Ctx} {c : Code} {F F1 : F8} {H H1 : AH} {e : Ex} (hc : condB G ctx F true c = true) (h : Wk P G ctx (thn c) F H e F1 H1) : Wk P G ctx c F H e F1 H1 := Wk.condC true hc h
theorem Wk.condF {P : Program} {G : Nat} {ctx : Ctx} {c : Code} {F F1 : F8} {H H1 : AH} {e : Ex} (hc : condB G ctx F false c = true) (h : Wk P G ctx (els c) F H e F1 H1) : Wk P G ctx c F H e F1 H1 := Wk.condC false hc h
noncomputable def resHas (P : Program) (D N : Nat) (l : List Value) (H : AH) (rs : List ResultVar) (v : Value) (m : List (Nat × Lb)) (n : Nat) : Bool :=
  forceF (initF D l) fun F => forceH H fun H => match resV P D N F H rs with
    | .ok v' H2 => veq 6 v' v && has H2 m n
    | .bad => false
theorem resHas_eq {P : Program} {D N : Nat} {l : List Value} {H : AH} {rs : List ResultVar} {v : Value} {m : List (Nat × Lb)} {n : Nat} (h : resHas P D N l H rs v m n = true) : ∃ H2, resV P D N (initF D l) H rs = .ok v H2 ∧ has H2 m n = true := by
  unfold resHas at h
  rw [forceF_eq, forceH_eq] at h
  split at h
  · rename_i v' H2 he
    rw [Bool.and_eq_true] at h
    exact ⟨H2, by rw [he, veq_eq 6 _ _ h.1], h.2⟩
  · cases h

/-- from within a region to its end -/
def WkI (P : Program) (G : Nat) (ctx : Ctx) (c : Code) (i : Nat) (F : F8) (H : AH) (F' : F8) (H' : AH) : Prop :=
  ∀ id ops, c = .region id ops false → ∀ (B : Nat) (w0 : W0) (μ : Mu) (a : Act) (w : World) (b : Frame) (cs : List Frame), Pre G B w0 ctx μ F [] H a w b cs → ∀ k : List Item,
    ∃ a' w' μ', Pre G B w0 ctx μ' F' [] H' a' w' b cs ∧ Ext2 H μ H' μ' ∧ Steps P (lone (b.atR a (.inRegion ops (List.range' i (ops.toList.length - i)) :: k)) cs w) (lone (b.atR a' k) cs w')
def isReg : Code → Bool
  | .region _ _ false => true
  | _ => false
theorem Wk.ofI {P : Program} {G : Nat} {ctx : Ctx} {c : Code} {F F1 : F8} {H H1 : AH} (hc : isReg c = true) (h : WkI P G ctx c 0 F H F1 H1) : Wk P G ctx c F H .norm F1 H1 := by
  cases c with
  | region id ops draw =>
    cases draw with
    | true => cases hc
    | false =>
      intro B w0 μ a w b cs pre it k hst
      cases hst
      obtain ⟨a', w', μ', q1, q2, q3⟩ := h id ops rfl B w0 μ a w b cs pre k
      refine ⟨a', w', μ', q1, q2, .head stepR_region ?_⟩
      have hr0 : List.range ops.size = List.range' 0 (ops.toList.length - 0) := by simp [List.range_eq_range']
      rw [hr0]
      exact q3
  | _ => cases hc
/-- up to the call at place i + j -/
noncomputable def callPreI (P : Program) (sp : Spec) (self : Self) (cmp : Cmp) (G : Nat) (ctx : Ctx) (c : Code) (i j : Nat) (l : List Value) (H : AH) (l1 : List Value) (m1 : List (Nat × Lb)) (n1 : Nat) (g : Nat) (args : List Value) : Bool :=
  match regOps cmp G ctx c with
  | none => false
  | some r => Nat.ble (i + j) r.length && ((forceF (initF ctx.D l) fun F => forceH H fun H => outs ctx.D ctx.N .norm l1 m1 n1 (runOps (runOp P sp self ctx.ro) ((r.drop i).take j) F [] H)) && (match r[i + j]? with
    | some o => (match o.c with
      | .call => (forceF (initF ctx.D l1) fun F => wantG o.gd F && (match getL F o.xs with
        | .func (.func g') ⟨fs⟩ ⟨cp⟩ :: as => Nat.beq g' g && listEq (veq 6) (fs ++ (as ++ cp)) args
        | _ => false))
      | _ => false)
    | none => false))
/-- the call's result is taken -/
noncomputable def callMid (cmp : Cmp) (G : Nat) (ctx : Ctx) (c : Code) (j : Nat) (l1 : List Value) (v : Value) (H : AH) (l2 : List Value) (m2 : List (Nat × Lb)) (n2 : Nat) : Bool :=
  match regOps cmp G ctx c with
  | none => false
  | some r => (match r[j]? with
    | some o => (forceF (setD o.dst (initF ctx.D l1) v) fun F => forceH H fun H => outs ctx.D ctx.N .norm l2 m2 n2 (.out .norm F [] H))
    | none => false)
/-- the rest -/
noncomputable def restI (P : Program) (sp : Spec) (self : Self) (cmp : Cmp) (G : Nat) (ctx : Ctx) (c : Code) (i : Nat) (l : List Value) (H : AH) (l' : List Value) (m' : List (Nat × Lb)) (n' : Nat) : Bool :=
  match regOps cmp G ctx c with
  | none => false
  | some r => Nat.ble i r.length && (forceF (initF ctx.D l) fun F => forceH H fun H => outs ctx.D ctx.N .norm l' m' n' (runOps (runOp P sp self ctx.ro) (r.drop i) F [] H))
theorem WkI.fin {P : Program} {G : Nat} {sp : Spec} {self : Self} {cmp : Cmp} (hcmp : CmpOk P cmp) (hsp : ∀ B w0, SpOk P G B w0 sp) (hs : ∀ B w0, Snd P G B w0 self) {ctx : Ctx} {c : Code} {i : Nat} {l l' : List Value} {H : AH} {m' : List (Nat × Lb)} {n' : Nat}
    (h : restI P sp self cmp G ctx c i l H l' m' n' = true) : WkI P G ctx c i (initF ctx.D l) H (initF ctx.D l') (litH m' n') := by
  rintro id ops rfl B w0 μ a w b cs pre k
  unfold restI at h
  change (match cOps cmp G ctx.D ctx.N ops ops.toList with
    | none => false
    | some r => _) = true at h
  cases hc : cOps cmp G ctx.D ctx.N ops ops.toList with
  | none => rw [hc] at h; cases h
  | some r =>
    rw [hc] at h
    simp only [Bool.and_eq_true, forceF_eq, forceH_eq] at h
    obtain ⟨_, h⟩ := h
    obtain ⟨F1, H1, hrun, hl1, hf1, hm1⟩ := outs_inv h
    have hcall := callF_ok (hs B w0) (hsp B w0)
    have hyield := yieldF_ok (hs B w0)
    obtain ⟨_, a3, w3, μ3, p3, n3, s3⟩ := runOps_ok hcmp hcall hyield (ops.toList.drop i) (r.drop i) i (cOps_drop i hc) (fun j => by rw [List.getElem?_drop]; simp) _ _ _ _ _ _ _ hrun μ a w b cs pre k
    rw [List.length_drop] at s3
    exact ⟨a3, w3, μ3, ⟨p3.fr.lit hl1 hf1, p3.df, p3.hr.lit hm1, p3.fn, p3.ro, p3.calm⟩, n3.ext2.lit hm1, s3⟩
theorem WkI.call {P : Program} {G : Nat} {sp : Spec} {self : Self} {cmp : Cmp} (hcmp : CmpOk P cmp) (hsp : ∀ B w0, SpOk P G B w0 sp) (hs : ∀ B w0, Snd P G B w0 self) {ctx : Ctx} {c : Code} (i j : Nat) {l l1 l2 : List Value} {H : AH} {m1 m2 : List (Nat × Lb)} {n1 n2 g : Nat} {args : List Value} {v : Value} {H2 : AH} {F' : F8} {H' : AH}
    (h1 : callPreI P sp self cmp G ctx c i j l H l1 m1 n1 g args = true) (hw : CW P G g args (litH m1 n1) v H2) (h2 : callMid cmp G ctx c (i + j) l1 v H2 l2 m2 n2 = true) (hn : WkI P G ctx c (i + j + 1) (initF ctx.D l2) (litH m2 n2) F' H') : WkI P G ctx c i (initF ctx.D l) H F' H' := by
  rintro id ops rfl B w0 μ a w b cs pre k
  unfold callPreI at h1
  unfold callMid at h2
  change (match cOps cmp G ctx.D ctx.N ops ops.toList with
    | none => false
    | some r => _) = true at h1
  change (match cOps cmp G ctx.D ctx.N ops ops.toList with
    | none => false
    | some r => _) = true at h2
  cases hc : cOps cmp G ctx.D ctx.N ops ops.toList with
  | none => rw [hc] at h1; cases h1
  | some r =>
    rw [hc] at h1 h2
    simp only at h2
    simp only [Bool.and_eq_true] at h1
    obtain ⟨hij, h1, h3⟩ := h1
    have hij := Nat.le_of_ble_eq_true hij
    rw [forceF_eq, forceH_eq] at h1
    obtain ⟨F1, H1, hrun, hl1, hf1, hm1⟩ := outs_inv h1
    cases hj : r[i + j]? with
    | none => rw [hj] at h3; cases h3
    | some o =>
      rw [hj] at h3 h2
      simp only at h3 h2
      obtain ⟨op, hop, hco⟩ := cOps_get hc hj
      obtain ⟨xs, k1, k2, k3, k4⟩ := cOper_inv hco
      cases hoc : o.c with
      | call =>
        rw [hoc] at h3
        simp only at h3
        rw [forceF_eq, Bool.and_eq_true] at h3
        obtain ⟨hwant, h3⟩ := h3
        rw [forceF_eq, forceH_eq] at h2
        obtain ⟨F2, H3, hrun2, hl2, hf2, hm2⟩ := outs_inv h2
        simp only [Out.out.injEq, true_and] at hrun2
        obtain ⟨rfl, rfl⟩ := hrun2
        have hjl : i + j < ops.toList.length := by
          have := cOps_length hc
          rw [← this]
          exact (List.getElem?_eq_some_iff.1 hj).1
        have hcall := callF_ok (hs B w0) (hsp B w0)
        have hyield := yieldF_ok (hs B w0)
        obtain ⟨_, a1, w1, μ1, p1, x1, s1⟩ := runOps_part hcmp hcall hyield j (ops.toList.drop i) (r.drop i) i (cOps_drop i hc) (fun j => by rw [List.getElem?_drop]; simp) (by rw [List.length_drop]; omega) _ _ _ _ _ _ _ hrun μ a w b cs pre k
        rw [List.length_drop] at s1
        -- the call
        have p1' : Pre G B w0 ctx μ1 (initF ctx.D l1) [] (litH m1 n1) a1 w1 b cs := ⟨p1.fr.lit hl1 hf1, p1.df, p1.hr.lit hm1, p1.fn, p1.ro, p1.calm⟩
        have hvs := cOpds_ok p1'.fr p1'.hr.glob k2
        have hwant' : Region.wanted op (yielded ops a1.tmps) = true := by rw [wanted_ok p1'.fr k3]; exact hwant
        have ho : ops[i + j]? = some op := by simpa using hop
        have hcs := hcmp _ _ _ k1
        rw [hoc] at hcs
        obtain ⟨f, args0, ts, hopc, rfl⟩ := hcs
        have nd : ∀ c, op.op ≠ .defer c := fun c e => by rw [hopc] at e; cases e
        generalize hgl : getL (initF ctx.D l1) o.xs = vs at hvs h3
        cases vs with
        | nil => cases h3
        | cons fv as =>
          obtain ⟨f', as', heq, hf, has⟩ := hvs.cons_inv
          simp only [List.map_cons, List.cons.injEq] at heq
          obtain ⟨rfl, rfl⟩ := heq
          have hargs : args0.map a1.eval = ⟨args0.toList.map a1.eval⟩ := by apply Array.toList_inj.1; simp
          generalize hfe : a1.eval f = f' at hf
          cases hf with
          | func fn fs cp fs' cp' hy hll1 hll2 g1 g2 =>
            cases fn with
            | func g' =>
              simp only [Bool.and_eq_true] at h3
              obtain ⟨e1, e2⟩ := h3
              have e1 := Nat.eq_of_beq_eq_true e1
              subst e1
              obtain rfl := listEq_eq (veq_eq 6) e2
              have hexec : execOp a1.eval op = invoke (.fn (.func g') ⟨cp'⟩) (⟨fs'⟩ ++ args0.map a1.eval) := by
                unfold execOp
                rw [hopc]
                simp only [resolve, hfe, Deferred.ofValue]
                rfl
              have hlr : LR μ1 (fs ++ (as ++ cp)) (fs' ++ (args0.toList.map a1.eval ++ cp')) := (⟨hll1, g1⟩ : LR μ1 fs fs').append (has.append ⟨hll2, g2⟩)
              have hri : List.range' (i + j) (ops.toList.length - i - j) = (i + j) :: List.range' (i + j + 1) (ops.toList.length - (i + j + 1)) := by
                rw [show ops.toList.length - i - j = (ops.toList.length - (i + j + 1)) + 1 by omega, List.range'_succ]
              rw [hri] at s1
              obtain ⟨t1, v', w', μ', fr, t2, t3, t4, t5, t6, t7, t8, t9, t10⟩ := hw B w0 μ1 w1 _ hlr p1'.hr (b.atR a1 (.inRegion ops ((i + j) :: List.range' (i + j + 1) (ops.toList.length - (i + j + 1))) :: k) :: cs)
              have hstep := op_enter (P := P) (b := b) (cs := cs) (k := k) (rest := List.range' (i + j + 1) (ops.toList.length - (i + j + 1))) (w := w1) (w' := w1) (f := g') (args := ⟨fs' ++ (args0.toList.map a1.eval ++ cp')⟩) ho hwant' (by
                rw [Oper.semAt_eq _ _ _ nd, hexec]
                have e : ((⟨fs'⟩ : Array Value) ++ args0.map a1.eval) ++ (⟨cp'⟩ : Array Value) = ⟨fs' ++ (args0.toList.map a1.eval ++ cp')⟩ := by rw [hargs]; simp
                simp only [invoke]
                rw [e]; exact t1)
              have hleave := step_leave_returned (c := b.atR a1 (.inRegion ops ((i + j) :: List.range' (i + j + 1) (ops.toList.length - (i + j + 1))) :: k)) (cs := cs) (Ends.leaving t3 t4 t5 t6 t7)
              have hfin : (b.atR a1 (.inRegion ops ((i + j) :: List.range' (i + j + 1) (ops.toList.length - (i + j + 1))) :: k)).finish v' = b.atR (a1.put op.dst v') (.inRegion ops (List.range' (i + j + 1) (ops.toList.length - (i + j + 1))) :: k) := by rw [Frame.finish_atR, ho]; rfl
              rw [hfin] at hleave
              have e0 : (({ a1 with defers := a1.defers } : Act).put op.dst v') = a1.put op.dst v' := rfl
              have p2 : Pre G B w0 ctx μ' (setD o.dst (initF ctx.D l1) v) [] H2 (a1.put op.dst v') w' b cs := p1'.ext t9.ext (by rw [← e0]; exact setD_ok (p1'.fr.ext t9.ext) k4 t8 a1.defers) (by rw [← e0, put_defers]; exact p1'.df.ext t9.ext) t10
              have p2' : Pre G B w0 ctx μ' (initF ctx.D l2) [] (litH m2 n2) (a1.put op.dst v') w' b cs := ⟨p2.fr.lit hl2 hf2, p2.df, p2.hr.lit hm2, p2.fn, p2.ro, p2.calm⟩
              obtain ⟨a3, w3, μ3, p3, n3, s3⟩ := hn id ops rfl B w0 μ' _ w' b cs p2' k
              exact ⟨a3, w3, μ3, p3, (((x1.lit hm1).trans t9).lit hm2).trans n3, (s1.trans ((Steps.head hstep t2).trans (.one hleave))).trans s3⟩
            | yield l => cases hy
            | _ => cases h3
          | _ => cases h3
      | _ => rw [hoc] at h3; cases h3
end Cr
end Go.Proofs.YtekbkaipdmklpaaGreatDoor
namespace Go.Proofs.YtekbkaipdmklpaaGreatDoor
namespace Cr
open Go Go.RowKit

theorem CW.lit {P : Program} {G : Nat} {call : Nat → List Value → AH → Rs} (hcall : ∀ B w0, CallOk P G B w0 call) {f : Nat} {args : List Value} {H : AH} {v : Value} {l' : List (Nat × Lb)} {next' : Nat} (hrun : litRun call f args H v l' next' = true) :
    CW P G f args H v (litH l' next') := by
  intro B w0 μ w args' hargs hr cs
  unfold litRun at hrun
  rw [forceH_eq] at hrun
  cases hc : call f args H with
  | bad => rw [hc] at hrun; cases hrun
  | ok u H' =>
    rw [hc] at hrun
    change (veq 6 u v && has H' l' next') = true at hrun
    rw [Bool.and_eq_true] at hrun
    obtain rfl := veq_eq 6 _ _ hrun.1
    obtain ⟨h1, v', w', μ', fr, s1, s2, s3, s4, s5, s6, s7, nx⟩ := hcall B w0 f args H u H' hc μ args' w hargs hr cs
    exact ⟨h1, v', w', μ', fr, s1, s2, s3, s4, s5, s6, s7, (nx.ext2).lit hrun.2, nx.hr.lit hrun.2⟩
/-- a call that leaves what the machine knows as it was, and answers with something without places -/
theorem CW.still {P : Program} {G f : Nat} {fn : Func} {c : Code} (hf : P.funcs[f]? = some fn) (hb : fn.body = some c) (hok : okFn fn = true) {args : List Value} {v : Value} (hs : ∀ (μ : Mu) (l : List Value), LR μ args l → l = args) (hv : ∀ μ : Mu, VR μ v v)
    (h : ∀ w : World, Calls P f ⟨args⟩ w fun e w' => e = .returned v ∧ Below w.heap.size w w') (H : AH) : CW P G f args H v H := by
  intro B w0 μ w args' hargs hr cs
  have ha := hs μ args' hargs
  subst ha
  refine ⟨callFunc_enter hf hb hok _ _, ?_⟩
  obtain ⟨e, w', fr, ⟨rfl, hbl⟩, h3, h4, h5⟩ := h w cs
  obtain ⟨l1, l2, l3, fn', l4, l5⟩ := h5
  exact ⟨v, w', μ, fr, h3, h4, l3, l1, l2, ⟨fn', by rw [← h4]; exact l4, l5⟩, hv μ, Ext2.refl H μ, hr.beside hbl⟩
end Cr
end Go.Proofs.YtekbkaipdmklpaaGreatDoor
namespace Go.Proofs.YtekbkaipdmklpaaGreatDoor
namespace Cr
open Go Go.RowKit

/-! ### the weak form: what numbers without a place are kept for may be forgotten -/
section
variable {P : Program} {G B : Nat} {w0 w1 : W0} {H H' : AH} {μ μ' : Mu} {w w' : World}
theorem Pre.of {ctx : Ctx} {F : F8} {Ds : List ADef} {a : Act} {b : Frame} {cs : List Frame} (h : Pre G B w0 ctx μ F Ds H a w b cs) (e : w1.w = w0.w) : Pre G B w1 ctx μ F Ds H a w b cs := ⟨h.fr, h.df, h.hr.of e, h.fn, h.ro, h.calm⟩
theorem Snd.weak {self : Self} (h : Snd P G B w0.w self) : Snd P G B w0 self := by
  intro ctx c F Ds H e F' Ds' H' hs μ a w b cs pre it k hst
  obtain ⟨a', w', μ', p, nx, arr⟩ := h ctx c F Ds H e F' Ds' H' hs μ a w b cs (pre.of rfl) it k hst
  exact ⟨a', w', μ', p.of rfl, nx.weak, arr⟩
theorem CallOk.weak {call : Nat → List Value → AH → Rs} (h : CallOk P G B w0.w call) : CallOk P G B w0 call := by
  intro g args H v H' hc μ args' w hl hr cs
  obtain ⟨h1, v', w', μ', fr, s1, s2, s3, s4, s5, s6, s7, nx⟩ := h g args H v H' hc μ args' w hl (hr.of rfl) cs
  exact ⟨h1, v', w', μ', fr, s1, s2, s3, s4, s5, s6, s7, nx.weak⟩
theorem SpOk.weak {sp : Spec} (h : SpOk P G B w0.w sp) : SpOk P G B w0 sp := fun g f hg => (h g f hg).weak
end

/-- a call that was run before: what lay there, what it answered, and what lay there behind it -/
structure Memo where
  g : Nat
  args : List Value
  m : List (Nat × Lb)
  n : Nat
  v : Value
  m1 : List (Nat × Lb)
  n1 : Nat
def isOp (k : Nat) : Blk → Bool
  | .loop .. => true
  | .dfr .live => true
  | .dfr (.opq k') => Nat.beq k k'
  | _ => false
noncomputable def oneM (k : Nat) (x : Blk) (s : Lb) : Bool := Lb.rec (motive := fun _ => Bool) (fun rw n vs => lbEq x (.c rw n vs)) (fun rw es => lbEq x (.m rw es)) (fun m a b c => lbEq x (.it m a b c)) (fun es => lbEq x (.pm es)) (fun k' => Nat.beq k' k && isOp k x) s
noncomputable def hasM (H : AH) (l : List (Nat × Lb)) (next : Nat) : Bool := Nat.blt next 900000000000 && l.all fun p => match H.get p.1 with
  | some x => oneM p.1 x p.2
  | none => false
noncomputable def okOps (H : AH) (l : List (Nat × Lb)) : Bool := l.all fun p => Nat.blt p.1 900000000000 && Lb.rec (motive := fun _ => Bool) (fun _ _ _ => true) (fun _ _ => true) (fun _ _ _ _ => true) (fun _ => true) (fun k => Nat.beq k p.1 && (match H.get p.1 with
  | some x => isOp k x
  | none => false)) p.2
/-- the memory behind it: what is not told of is gone, but for loops that wait -/
noncomputable def backB (H : AH) (i : Nat) (s : Lb) : Option Blk := Lb.rec (motive := fun _ => Option Blk) (fun rw n vs => some (Lb.blk (.c rw n vs))) (fun rw es => some (Lb.blk (.m rw es))) (fun m a b c => some (Lb.blk (.it m a b c))) (fun es => some (Lb.blk (.pm es))) (fun _ => H.get i) s
noncomputable def backT (H : AH) : List (Nat × Lb) → Tr Blk
  | [] => .nil
  | p :: l => (backT H l).put p.1 (backB H p.1 p.2)
noncomputable def memoSp (sp : Spec) (call : Nat → List Value → AH → Rs) : List Memo → Spec
  | [] => sp
  | e :: L => fun g => bif Nat.beq e.g g then some (fun args H => bif Nat.beq H.next e.n && (listEq (veq 6) args e.args && (hasM H e.m e.n && okOps H e.m1)) then forceV e.v fun v => forceH ⟨backT H e.m1, e.n1⟩ fun H' => .ok v H' else (match memoSp sp call L g with
      | some h => h args H
      | none => call g args H)) else memoSp sp call L g

theorem backT_get {H : AH} : ∀ {l : List (Nat × Lb)} {i : Nat} {x : Blk}, (∀ p ∈ l, p.1 < 1000000000000) → (backT H l).get i = some x →
    ∃ s, (litT l).get i = some s.blk ∧ (i, s) ∈ l ∧ ((x = s.blk ∧ ∀ k, s ≠ .op k) ∨ ∃ k, s = .op k ∧ H.get i = some x)
  | [], i, x, _, h => by cases h
  | p :: l, i, x, hl, h => by
    change ((backT H l).put p.1 _).get i = _ at h
    rw [Tr.get_put _ _ _ _ (by have := hl p (List.mem_cons_self ..); omega)] at h
    have hg : (litT (p :: l)).get i = if i = p.1 then some p.2.blk else (litT l).get i := by
      show ((litT l).put p.1 _).get i = _
      rw [Tr.get_put _ _ _ _ (by have := hl p (List.mem_cons_self ..); omega)]
    by_cases e : i = p.1
    · rw [if_pos e] at h
      refine ⟨p.2, by rw [hg, if_pos e], by rw [e]; exact List.mem_cons_self .., ?_⟩
      obtain ⟨j, s⟩ := p
      cases s with
      | op k => exact .inr ⟨k, rfl, by rw [e]; exact h⟩
      | c rw n vs => injection h with h; exact .inl ⟨h.symm, fun k hk => by cases hk⟩
      | m rw es => injection h with h; exact .inl ⟨h.symm, fun k hk => by cases hk⟩
      | it m a b c => injection h with h; exact .inl ⟨h.symm, fun k hk => by cases hk⟩
      | pm es => injection h with h; exact .inl ⟨h.symm, fun k hk => by cases hk⟩
    · rw [if_neg e] at h
      obtain ⟨s, h1, h2, h3⟩ := backT_get (fun q hq => hl q (List.mem_cons_of_mem _ hq)) h
      exact ⟨s, by rw [hg, if_neg e]; exact h1, List.mem_cons_of_mem _ h2, h3⟩
/-- blocks that are told of do not ask for what is hidden -/
theorem BR.reobj {B : Nat} {μ μ' : Mu} {w : World} {b o T : Nat} {s : Lb} (h : BR B μ w b o T s.blk) (hs : ∀ k, s ≠ .op k) (e : Ext0 μ μ') : BR B μ' w b o T s.blk := by
  cases s with
  | op k => exact absurd rfl (hs k)
  | c rw n vs =>
    obtain ⟨cur, el, fz, h1, h2, h3⟩ := h
    exact ⟨cur, el, fz, h1, h2, fun k hk => let ⟨v', a, b⟩ := h3 k hk; ⟨v', a, VR.ext0 e b⟩⟩
  | m rw es =>
    obtain ⟨h0, es2, ents, clock, hm, h1, h2, h3, h4⟩ := h
    exact ⟨h0, es2, ents, clock, hm, h1, h2, LR.ext0 e h3, LR.ext0 e h4⟩
  | it m a b c => exact let ⟨h0, hB, ob, h1, m', h2, h3⟩ := h; ⟨h0, hB, ob, h1, m', e.loc _ _ h2, h3⟩
  | pm es => exact let ⟨h0, hB, ob, h1, es2, ents, clock, h2, h3, h4, h5⟩ := h; ⟨h0, hB, ob, h1, es2, ents, clock, h2, h3, LR.ext0 e h4, LR.ext0 e h5⟩
/-- the objects that wait -/
noncomputable def theta (H : AH) (μ : Mu) (w : World) (l : Nat) : Obj := match H.get l with
  | some (.dfr (.opq _)) => μ.obj l
  | _ => match μ l with
    | some (b, _) => (w.heap[b]?).getD (.deferred none)
    | none => .deferred none
theorem op_here {B : Nat} {H : AH} {μ : Mu} {w : World} {i b o T : Nat} {x : Blk} (h : BR B μ w b o T x) (hx : isOp i x = true) (hg : H.get i = some x) (hm : μ i = some (b, o)) :
    o = 0 ∧ B ≤ b ∧ w.heap[b]? = some (theta H μ w i) := by
  unfold theta
  rw [hg]
  cases x with
  | cells rw n zl zs t => cases hx
  | map rw es => cases hx
  | loop fn D N F ps asg bd dr st =>
    obtain ⟨h0, hB, r, h1, _⟩ := h
    refine ⟨h0, hB, ?_⟩
    simp only [hm, h1, Option.getD_some]
  | dfr d =>
    cases d with
    | live =>
      obtain ⟨h0, hB, ob, h1, h2⟩ := h
      refine ⟨h0, hB, ?_⟩
      simp only [hm, h1, Option.getD_some]
    | opq k =>
      obtain rfl := Nat.eq_of_beq_eq_true (show Nat.beq i k = true from hx)
      obtain ⟨h0, hB, ob, h1, h2⟩ := h
      exact ⟨h0, hB, by rw [h1]; exact congrArg some h2⟩
    | _ => cases hx
theorem oneM_norm {k : Nat} {x : Blk} {s : Lb} (h : oneM k x s = true) (hs : ∀ k, s ≠ .op k) : lbEq x s = true := by
  cases s with
  | op k => exact absurd rfl (hs k)
  | _ => exact h
theorem memo_ok {P : Program} {G B : Nat} {w0 : W0} (hw : ¬ w0.k) {e : Memo} (he : CW P G e.g e.args (litH e.m e.n) e.v (litH e.m1 e.n1)) {H : AH} (hn : H.next = e.n) (h : hasM H e.m e.n = true) (ho : okOps H e.m1 = true) {μ : Mu} {w : World} {args' : List Value} (hl : LR μ e.args args') (hr : HR G B w0 H μ w) (cs : List Frame) :
    (callFunc e.g ⟨args'⟩).run P w = .ok (.enter e.g ⟨args'⟩) w ∧ Ends P G B w0 e.g args' .normal cs e.v H μ ⟨backT H e.m1, e.n1⟩ w := by
  unfold hasM at h
  simp only [Bool.and_eq_true, List.all_eq_true] at h
  obtain ⟨e2, e3⟩ := h
  have e2 : e.n < 900000000000 := by simpa [Nat.blt_eq] using e2
  have e3 : ∀ p ∈ e.m, ∃ x, H.get p.1 = some x ∧ oneM p.1 x p.2 = true := fun p hp => by
    have := e3 p hp
    split at this
    · rename_i x hx; exact ⟨x, hx, this⟩
    · cases this
  have hlt : ∀ p ∈ e.m, p.1 < 1000000000000 := fun p hp => by
    obtain ⟨x, hx, _⟩ := e3 p hp
    have := hr.low _ _ hx; omega
  let μ2 : Mu := ⟨μ.loc, μ.tot, theta H μ w⟩
  have e02 : Ext0 μ μ2 := ⟨fun _ _ h => h, fun _ _ _ => rfl⟩
  have hr2 : HR G B w0.w (litH e.m e.n) μ2 w := by
    refine ⟨fun i x hx b o hm => ?_, fun i j x y hx hy hne b o b' o' hm hm' hab => ?_, fun i x hx => ?_, fun i p hp => ?_, hr.glob, by show e.n < _; omega, hr.below, hr.base⟩
    · obtain ⟨s, h1, rfl⟩ := litT_get hlt hx
      obtain ⟨y, h3, h4⟩ := e3 _ h1
      have hb := hr.blk i y h3 b o hm
      by_cases hs : ∀ k, s ≠ .op k
      · exact (hb.lit (oneM_norm h4 hs)).reobj hs e02
      · obtain ⟨k, hk⟩ : ∃ k, s = .op k := Classical.byContradiction fun hh => hs fun k hk => hh ⟨k, hk⟩
        subst hk
        have h4' : (Nat.beq k i && isOp i y) = true := h4
        rw [Bool.and_eq_true] at h4'
        obtain rfl := Nat.eq_of_beq_eq_true h4'.1
        obtain ⟨g1, g2, g3⟩ := op_here hb h4'.2 h3 hm
        exact ⟨g1, g2, _, g3, rfl⟩
    · obtain ⟨s, h1, _⟩ := litT_get hlt hx
      obtain ⟨y1, h3, _⟩ := e3 _ h1
      obtain ⟨s', h1', _⟩ := litT_get hlt hy
      obtain ⟨y2, h3', _⟩ := e3 _ h1'
      exact hr.apart i j y1 y2 h3 h3' hne b o b' o' hm hm' hab
    · obtain ⟨s, h1, _⟩ := litT_get hlt hx
      obtain ⟨y1, h3, _⟩ := e3 _ h1
      have := hr.low i y1 h3
      show i < e.n
      omega
    · have := hr.mu i p hp
      show i < e.n
      omega
  obtain ⟨t1, v', w', μ1, fr, s1, s2, s3, s4, s5, s6, s7, s8, s9⟩ := he B w0.w μ2 w args' (LR.ext0 e02 hl) hr2 cs
  let μ3 : Mu := ⟨μ1.loc, μ1.tot, μ.obj⟩
  have e13 : Ext0 μ1 μ3 := ⟨fun _ _ h => h, fun _ _ _ => rfl⟩
  have hext : Ext μ μ3 := ⟨fun i p hp => s8.ext.loc i p hp, fun i p hp => s8.ext.tot i p hp, rfl⟩
  have hobj : μ1.obj = theta H μ w := s8.ext.obj
  have hold : ∀ i, i < H.next → μ i = none → μ3 i = none := fun i hi hu => s8.old i (by show i < e.n; omega) hu
  have hnx : H.next ≤ e.n1 := by have := s8.next; change e.n ≤ e.n1 at this; omega
  unfold okOps at ho
  simp only [List.all_eq_true, Bool.and_eq_true] at ho
  have hlt1 : ∀ p ∈ e.m1, p.1 < 1000000000000 := fun p hp => by
    have := (ho p hp).1
    rw [Nat.blt_eq] at this
    omega
  have look : ∀ i x, (⟨backT H e.m1, e.n1⟩ : AH).get i = some x → ∃ s, (litH e.m1 e.n1).get i = some s.blk ∧ (i, s) ∈ e.m1 ∧ ((x = s.blk ∧ ∀ k, s ≠ .op k) ∨ ∃ k, s = .op k ∧ H.get i = some x) := fun i x hx => backT_get hlt1 hx
  have hr3 : HR G B w0 ⟨backT H e.m1, e.n1⟩ μ3 w' := by
    refine ⟨fun i x hx b o hm => ?_, fun i j x y hx hy hne b o b' o' hm hm' hab => ?_, fun i x hx => ?_, s9.mu, s9.glob, s9.small, s9.below, s9.base⟩
    · obtain ⟨s, h1, h2, h3⟩ := look i x hx
      have hb := s9.blk i _ h1 b o hm
      rcases h3 with ⟨rfl, hs⟩ | ⟨k, rfl, hg⟩
      · exact hb.reobj hs e13
      · have hop : Nat.beq k i = true ∧ isOp k x = true := by
          have := (ho _ h2).2
          change (Nat.beq k i && (match H.get i with
            | some x => isOp k x
            | none => false)) = true at this
          rw [hg, Bool.and_eq_true] at this
          exact this
        obtain rfl := Nat.eq_of_beq_eq_true hop.1
        cases hmu : μ k with
        | none =>
          have := hold k (hr.low _ _ hg) hmu
          rw [show μ3 k = μ1 k from rfl] at this
          rw [show μ3 k = μ1 k from rfl] at hm
          rw [this] at hm; cases hm
        | some p =>
          have hp := hext.loc k p hmu
          rw [hm] at hp
          injection hp with hp
          subst hp
          have hb0 := hr.blk k x hg b o hmu
          obtain ⟨g1, g2, g3⟩ := op_here hb0 hop.2 hg hmu
          obtain ⟨_, _, ob, q1, q2⟩ := hb
          have q2 : ob = μ1.obj k := q2
          have hsame : w'.heap[b]? = w.heap[b]? := by rw [q1, g3, q2, hobj]
          have ht : μ3.tot k = μ.tot k := hext.tot k _ hmu
          rw [ht]
          exact (hb0.heap hsame).ext hext
    · obtain ⟨s, h1, _⟩ := look i x hx
      obtain ⟨s', h1', _⟩ := look j y hy
      exact s9.apart i j _ _ h1 h1' hne b o b' o' hm hm' hab
    · obtain ⟨s, h1, _⟩ := look i x hx
      exact s9.low i _ h1
  exact ⟨t1, v', w', μ3, fr, s1, s2, s3, s4, s5, s6, VR.ext0 e13 s7, hr3, hext, fun i hi hu => ⟨hold i hi hu, fun hk => absurd hk hw⟩, hnx⟩
theorem memoSp_ok {P : Program} {G B : Nat} {w0 : W0} (hw : ¬ w0.k) {sp : Spec} {call : Nat → List Value → AH → Rs} (hsp : SpOk P G B w0 sp) (hcall : CallOk P G B w0 call) : ∀ (L : List Memo), (∀ e ∈ L, CW P G e.g e.args (litH e.m e.n) e.v (litH e.m1 e.n1)) → SpOk P G B w0 (memoSp sp call L)
  | [], _ => hsp
  | e :: L, hL => by
    have ih := memoSp_ok hw hsp hcall L fun x hx => hL x (List.mem_cons_of_mem _ hx)
    intro g h hg
    change (bif Nat.beq e.g g then some _ else memoSp sp call L g) = some h at hg
    cases hb : Nat.beq e.g g with
    | false => rw [hb, cond_false] at hg; exact ih g h hg
    | true =>
      rw [hb, cond_true] at hg
      injection hg with hg
      have hgg := Nat.eq_of_beq_eq_true hb
      intro g' args H v H' hh μ args' w hl hr cs
      change (bif Nat.beq g' g then h args H else .bad) = _ at hh
      cases hb' : Nat.beq g' g with
      | false => rw [hb'] at hh; cases hh
      | true =>
        rw [hb', cond_true, ← hg] at hh
        have hgg' := Nat.eq_of_beq_eq_true hb'
        subst hgg'
        simp only at hh
        cases hc : (Nat.beq H.next e.n && (listEq (veq 6) args e.args && (hasM H e.m e.n && okOps H e.m1))) with
        | true =>
          rw [hc, cond_true, forceV_eq, forceH_eq] at hh
          injection hh with h1 h2
          subst h1 h2
          simp only [Bool.and_eq_true] at hc
          obtain ⟨c1, c2, c3, c4⟩ := hc
          obtain rfl := listEq_eq (veq_eq 6) c2
          subst hgg
          exact memo_ok hw (hL e (List.mem_cons_self ..)) (Nat.eq_of_beq_eq_true c1) c3 c4 hl hr cs
        | false =>
          rw [hc, cond_false] at hh
          cases hm : memoSp sp call L g' with
          | none =>
            rw [hm] at hh
            exact hcall g' args H v H' hh μ args' w hl hr cs
          | some f =>
            rw [hm] at hh
            exact ih g' f hm g' args H v H' (by show (bif Nat.beq g' g' then f args H else .bad) = _; rw [Nat.beq_refl]; exact hh) μ args' w hl hr cs
/-! ### a run in which only some functions are gone through, and some calls were run before -/
def memN : Nat → List Nat → Bool
  | _, [] => false
  | g, x :: l => Nat.beq g x || memN g l
noncomputable def openSp (O : List Nat) (sp : Spec) (call : Nat → List Value → AH → Rs) : Spec := fun g => bif memN g O then none else (match sp g with
  | some h => some h
  | none => some (call g))
theorem openSp_ok {P : Program} {G B : Nat} {w0 : W0} {sp : Spec} {call : Nat → List Value → AH → Rs} (hsp : SpOk P G B w0 sp) (hcall : CallOk P G B w0 call) (O : List Nat) : SpOk P G B w0 (openSp O sp call) := by
  intro g h hg
  change (bif memN g O then none else (match sp g with
    | some h => some h
    | none => some (call g))) = some h at hg
  cases hm : memN g O with
  | true => rw [hm, cond_true] at hg; cases hg
  | false =>
    rw [hm, cond_false] at hg
    cases hs : sp g with
    | some f =>
      rw [hs] at hg
      injection hg with hg
      subst hg
      exact hsp g _ hs
    | none =>
      rw [hs] at hg
      injection hg with hg
      subst hg
      intro g' args H v H' hh
      change (bif Nat.beq g' g then call g args H else .bad) = _ at hh
      cases hb : Nat.beq g' g with
      | false => rw [hb] at hh; cases hh
      | true =>
        rw [hb, cond_true] at hh
        have := Nat.eq_of_beq_eq_true hb
        subst this
        exact hcall g' args H v H' hh
def AllW (P : Program) (G : Nat) : List Memo → Prop
  | [] => True
  | e :: L => CW P G e.g e.args (litH e.m e.n) e.v (litH e.m1 e.n1) ∧ AllW P G L
theorem AllW.at {P : Program} {G : Nat} : ∀ {L : List Memo}, AllW P G L → ∀ e ∈ L, CW P G e.g e.args (litH e.m e.n) e.v (litH e.m1 e.n1)
  | _ :: _, h, _, .head _ => h.1
  | _ :: _, h, e, .tail _ he => AllW.at h.2 e he
noncomputable def spM (P : Program) (sp : Spec) (self0 : Self) (O : List Nat) (L : List Memo) : Spec := memoSp (openSp O sp (callF P sp self0)) (callF P sp self0) L
noncomputable def selfM (P : Program) (G : Nat) (sp : Spec) (self0 : Self) (O : List Nat) (L : List Memo) : Self := ev P (spM P sp self0 O L) G (comp P) (drwN P G sp self0 (comp P)) 1000000
noncomputable def callM (P : Program) (G : Nat) (sp : Spec) (self0 : Self) (O : List Nat) (L : List Memo) : Nat → List Value → AH → Rs := callF P (spM P sp self0 O L) (selfM P G sp self0 O L)
section
variable {P : Program} {G : Nat} {sp : Spec} {self0 : Self} {O : List Nat} {L : List Memo} (hm : P.follows .mixedOrders = true) (hsp : ∀ B w0, SpOk P G B w0 sp) (hs0 : ∀ B w0, Snd P G B w0 self0) (hL : AllW P G L)
include hsp hs0 hL
theorem spM_ok {B : Nat} {w0 : W0} (hw : ¬ w0.k) : SpOk P G B w0 (spM P sp self0 O L) :=
  have hc := callF_ok (hs0 B w0) (hsp B w0)
  memoSp_ok hw (openSp_ok (hsp B w0) hc O) hc L hL.at
include hm
theorem selfM_ok {B : Nat} {w0 : W0} (hw : ¬ w0.k) : Snd P G B w0 (selfM P G sp self0 O L) := ev_ok (comp_ok P) (spM_ok hsp hs0 hL hw) (drwN_ok (comp_ok P) hm (callF_ok (hs0 B w0.w) (hsp B w0.w)) (yieldF_ok (hs0 B w0.w))) 1000000
theorem callM_ok {B : Nat} {w0 : W0} (hw : ¬ w0.k) : CallOk P G B w0 (callM P G sp self0 O L) := callF_ok (selfM_ok hm hsp hs0 hL hw) (spM_ok hsp hs0 hL hw)
theorem CW.memo {f : Nat} {args : List Value} {H : AH} {v : Value} {l' : List (Nat × Lb)} {next' : Nat} (hrun : litRun (callM P G sp self0 O L) f args H v l' next' = true) : CW P G f args H v (litH l' next') := by
  intro B w0 μ w args' hargs hr cs
  unfold litRun at hrun
  rw [forceH_eq] at hrun
  cases hc : callM P G sp self0 O L f args H with
  | bad => rw [hc] at hrun; cases hrun
  | ok u H' =>
    rw [hc] at hrun
    change (veq 6 u v && has H' l' next') = true at hrun
    rw [Bool.and_eq_true] at hrun
    obtain rfl := veq_eq 6 _ _ hrun.1
    obtain ⟨h1, v', w', μ', fr, s1, s2, s3, s4, s5, s6, s7, nx⟩ := callM_ok (w0 := ⟨w0.w, False⟩) hm hsp hs0 hL (fun h => h) f args H u H' hc μ args' w hargs (hr.of rfl) cs
    exact ⟨h1, v', w', μ', fr, s1, s2, s3, s4, s5, s6, s7, nx.ext2.lit hrun.2, (nx.hr.lit hrun.2).of (w1 := w0) rfl⟩
theorem Wk.memo {ctx : Ctx} {c : Code} {l l' : List Value} {H : AH} {e : Ex} {m : List (Nat × Lb)} {n : Nat} (h : Cr.piece (selfM P G sp self0 O L) ctx c l H e l' m n = true) : Wk P G ctx c (initF ctx.D l) H e (initF ctx.D l') (litH m n) := by
  unfold Cr.piece at h
  rw [forceF_eq, forceH_eq] at h
  obtain ⟨F1, H1, ho, h2, h3, h4⟩ := outs_inv h
  refine Wk.lit (F1 := F1) (H1 := H1) ?_ h2 h3 h4
  intro B w0 μ a w b cs pre it k hst
  obtain ⟨a', w', μ', q1, nx, q3⟩ := selfM_ok (B := B) (w0 := ⟨w0.w, False⟩) hm hsp hs0 hL (fun h => h) ctx c _ [] H e F1 [] H1 ho μ a w b cs (pre.of rfl) it k hst
  exact ⟨a', w', μ', q1.of rfl, nx.ext2, q3⟩
end
end Cr
end Go.Proofs.YtekbkaipdmklpaaGreatDoor
namespace Go.Proofs.YtekbkaipdmklpaaGreatDoor
namespace Cr
open Go Go.RowKit

def idxL : List UInt8 → Nat → Nat → Option Nat
  | [], _, _ => none
  | b :: l, c, i => bif Nat.beq b.toNat c then some i else idxL l c (Nat.succ i)
theorem idxL_ok (c : UInt8) : ∀ (l : List UInt8) (i : Nat), match idxL l c.toNat i with
    | some j => i ≤ j ∧ Lib.indexByte l c = ((j - i : Nat) : Int)
    | none => Lib.indexByte l c = -1
  | [], i => rfl
  | b :: l, i => by
    unfold idxL Lib.indexByte
    cases hb : Nat.beq b.toNat c.toNat with
    | true =>
      have e : b = c := UInt8.toNat_inj.1 (Nat.eq_of_beq_eq_true hb)
      subst e
      simp
    | false =>
      have e : (b == c) = false := by
        rw [beq_eq_false_iff_ne]
        intro h
        subst h
        exact Nat.ne_of_beq_eq_false hb rfl
      have ih := idxL_ok c l (Nat.succ i)
      rw [e]
      simp only [cond_false, Bool.false_eq_true, if_false]
      cases h : idxL l c.toNat (Nat.succ i) with
      | none =>
        rw [h] at ih
        simp only at ih ⊢
        rw [ih]; rfl
      | some j =>
        rw [h] at ih
        simp only at ih ⊢
        obtain ⟨h1, h2⟩ := ih
        refine ⟨by omega, ?_⟩
        rw [h2]
        have : ((((j - Nat.succ i : Nat) : Int)) == -1) = false := by
          rw [beq_eq_false_iff_ne]; omega
        rw [this]
        simp only [Bool.false_eq_true, if_false]
        omega
noncomputable def spIdx (args : List Value) (H : AH) : Rs :=
  match args with
  | [.string s, .int .u8 (.ofNat c)] => bif Nat.blt c 256 then
      match idxL s.data.toList c 0 with
      | some i => forceN i fun i => .ok (.int .i64 (.ofNat i)) H
      | none => .ok (.int .i64 (.negSucc 0)) H
    else .bad
  | _ => .bad
theorem idx_calls {P : Program} {G B : Nat} {w0 : W0} {f : Nat} (hC : ∀ (s : ByteArray) (c : Int) (w : World), Calls P f #[.string s, .int .u8 c] w fun e w' => e = .returned (.int .i64 (Lib.indexByte s.data.toList c.toNat.toUInt8)) ∧ w' = w)
    {args : List Value} {H H' : AH} {v : Value} (hrun : spIdx args H = .ok v H') {μ : Mu} {w : World} {args' : List Value} (hargs : LR μ args args') (hr : HR G B w0 H μ w) :
    Calls P f ⟨args'⟩ w fun e w' => ∃ v' μ', e = .returned v' ∧ VR μ' v v' ∧ Nx G B w0 H μ H' μ' w' := by
  unfold spIdx at hrun
  split at hrun
  · rename_i s c
    obtain ⟨x, r1, rfl, hx, h1⟩ := hargs.cons_inv
    obtain ⟨y, r2, rfl, hy, h2⟩ := h1.cons_inv
    obtain rfl := h2.nil_inv
    cases hx
    cases hy
    cases hb : Nat.blt c 256 with
    | false => rw [hb] at hrun; cases hrun
    | true =>
      rw [hb, cond_true] at hrun
      have hc : c < 256 := by simpa [Nat.blt_eq] using hb
      have e0 : c.toUInt8.toNat = c := by simp; omega
      have hi := idxL_ok c.toUInt8 s.data.toList 0
      rw [e0] at hi
      refine (hC s (Int.ofNat c) w).mono ?_
      rintro e w' ⟨rfl, rfl⟩
      refine ⟨_, μ, rfl, ?_, ?_⟩
      · have e1 : (Int.ofNat c).toNat.toUInt8 = c.toUInt8 := rfl
        rw [e1]
        split at hrun
        · rename_i i hq
          rw [hq] at hi
          rw [forceN_eq, Rs.ok.injEq] at hrun
          obtain ⟨rfl, rfl⟩ := hrun
          simp only at hi
          rw [hi.2]
          exact .int _ _
        · rename_i hq
          rw [hq] at hi
          rw [Rs.ok.injEq] at hrun
          obtain ⟨rfl, rfl⟩ := hrun
          simp only at hi
          rw [hi]
          exact .int _ _
      · split at hrun
        · rw [forceN_eq, Rs.ok.injEq] at hrun
          obtain ⟨_, rfl⟩ := hrun
          exact Nx.refl hr
        · rw [Rs.ok.injEq] at hrun
          obtain ⟨_, rfl⟩ := hrun
          exact Nx.refl hr
  · cases hrun
end Cr
end Go.Proofs.YtekbkaipdmklpaaGreatDoor
