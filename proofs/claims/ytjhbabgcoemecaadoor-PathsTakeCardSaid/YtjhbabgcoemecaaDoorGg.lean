/- Two graphs side by side: what a step of one leaves of the other. -/
import Derived.Test.YtjhbabgcoemecaaDoorGf
namespace Go.Proofs.YtjhbabgcoemecaaDoor
open Go.RowKit

/-- a graph of the code and one of the reference, that share no block -/
structure Bo (w : World) (B : Nat) (AP : Nat → Prop) (g mb : Nat) (nv : Value) (LP : List Nd) (AR : Nat → Prop) (r : Nat) (rv : Value) (LR : List Nd) (W : Nat) : Prop where
  pg : PG w B AP g mb nv W LP
  rg : RG w B AR r rv W LR
  apart : ∀ k, (MutB g (some mb) nv k ∨ AP k) → (MutB r none rv k ∨ AR k) → False
section
variable {w w' : World} {B : Nat} {AP : Nat → Prop} {g mb : Nat} {nv : Value} {LP : List Nd} {AR : Nat → Prop} {r : Nat} {rv : Value} {LR : List Nd} {W : Nat} {A' : Nat → Prop} {n : Nd} {e : Ending}
theorem Bo.below (h : Bo w B AP g mb nv LP AR r rv LR W) (hb : Below w.heap.size w w') : Bo w' B AP g mb nv LP AR r rv LR W := ⟨h.pg.below hb, h.rg.below hb, h.apart⟩
theorem mut_new {k : Nat} {nv' : Value} {mo : Option Nat} (hn : NewB w nv nv') (hm : MutB g mo nv' k) : MutB g mo nv k ∨ w.heap.size ≤ k := by
  rcases hm with e | e | e
  · exact .inl (.inl e)
  · exact .inl (.inr (.inl e))
  · rcases hn with e' | ⟨k', e', hk'⟩
    · exact .inl (.inr (.inr (e'.symm.trans e)))
    · rw [e'] at e; injection e with e; exact .inr (by omega)
theorem Bo.stepP (h : Bo w B AP g mb nv LP AR r rv LR W) (hB : B ≤ w.heap.size) (hA : ∀ k, A' k → w.heap.size ≤ k) (hs : AskPost w B AP A' g mb nv W LP n e w') :
    ∃ nv', e = .returned (.tuple #[.int .i64 (ndAt n LP : Nat), .int .i64 0]) ∧ Bo w' B (fun k => AP k ∨ A' k) g mb nv' (askL n LP) AR r rv LR W ∧ Below B w w' ∧ Mut (MutB g (some mb) nv) w w' := by
  obtain ⟨nv', he, hp, hm, hn⟩ := hs
  have lowR : ∀ k, MutB r none rv k ∨ AR k → k < w.heap.size := fun k hk => hk.elim (fun m => (h.rg.lo k m).2) fun a => (h.rg.ar k a).2.1
  refine ⟨nv', he, ⟨hp, h.rg.frame hm.size fun k hk => hm.block k (lowR k hk) fun m => h.apart k (.inl m) hk, fun k hk hr => ?_⟩, hm.below (fun k m => (h.pg.lo k m).1) hB, hm⟩
  have hlt := lowR k hr
  rcases hk with m | a | a
  · rcases mut_new hn m with m | m
    · exact h.apart k (.inl m) hr
    · omega
  · exact h.apart k (.inr a) hr
  · have := hA k a; omega
theorem Bo.stepR (h : Bo w B AP g mb nv LP AR r rv LR W) (hB : B ≤ w.heap.size) (hA : ∀ k, A' k → w.heap.size ≤ k) (hs : RAskPost w B AR A' r rv W LR n e w') :
    ∃ rv', e = .returned (.tuple #[.int .i64 (ndAt n LR : Nat), .int .i64 0]) ∧ Bo w' B AP g mb nv LP (fun k => AR k ∨ A' k) r rv' (askL n LR) W ∧ Below B w w' := by
  obtain ⟨nv', he, hp, hm, hn⟩ := hs
  have lowP : ∀ k, MutB g (some mb) nv k ∨ AP k → k < w.heap.size := fun k hk => hk.elim (fun m => (h.pg.lo k m).2) fun a => (h.pg.ar k a).2.1
  refine ⟨nv', he, ⟨h.pg.frame hm.size fun k hk => hm.block k (lowP k hk) fun m => h.apart k hk (.inl m), hp, fun k hk hr => ?_⟩, hm.below (fun k m => (h.rg.lo k m).1) hB⟩
  have hlt := lowP k hk
  rcases hr with m | a | a
  · rcases mut_new hn m with m | m
    · exact h.apart k hk (.inl m)
    · omega
  · exact h.apart k hk (.inr a)
  · have := hA k a; omega
end
/-- an application in the code's graph, the other beside it -/
def AppP (wr : World) (B : Nat) (g mb : Nat) (AR : Nat → Prop) (r : Nat) (rv : Value) (L : List Nd) (W : Nat) (n : Nd) (a : Option Addr) (e : Ending) (w3 : World) : Prop :=
  ∃ AP' nv', e = .returned (.tuple #[.int .i64 (ndAt n L : Nat), .int .i64 0]) ∧ Bo w3 B AP' g mb nv' (askL n L) AR r rv L W ∧ Below B wr w3 ∧ (Lay.int .i64).At 0 w3 a (intsN n.args)
theorem app_P {wr wX : World} {B : Nat} {AP : Nat → Prop} {g mb : Nat} {nv : Value} {L : List Nd} {AR : Nat → Prop} {r : Nat} {rv : Value} {W : Nat} (HB : Bo wr B AP g mb nv L AR r rv L W) (hsz : B ≤ wr.heap.size) (hL : L.length ≤ 60) (o : Nat) (ho : 2 ≤ o) (ho2 : o ≤ 20) (args : List Nat) (hl : args.length = arN o) (ha : ∀ a ∈ args, a < L.length)
    {a : Option Addr} {cap len : Nat} (hlen : args.length = len) (hbX : Below wr.heap.size wr wX) (hat : (Lay.int .i64).At 0 wX a (intsN args)) (hblk : ∀ ad, a = some ad → wr.heap.size ≤ ad.block) (hnn : a = none → cap = 0) :
    Calls Tryd.prog 54 #[.pointer (some ⟨g, 0, none⟩), .int .u8 o, .slice a len cap] wX (AppP wr B g mb AR r rv L W ⟨o, 0, args⟩ a) := by
  have hzX := hbX.size
  refine (app54 (HB.below hbX).pg (by omega) hL o ho ho2 args hl ha hlen hat hnn).mono fun e w3 ⟨A', hA', hs⟩ => ?_
  obtain ⟨nv', he, hb3, hl3, hm3⟩ := (HB.below hbX).stepP (by omega) hA' hs
  refine ⟨_, nv', he, hb3, (hbX.mono hsz).trans hl3, fun i hi => ?_⟩
  obtain ⟨b, o', e', h0, h1⟩ := hat i hi
  have hb := hblk _ e'
  refine ⟨b, o', e', Nat.lt_of_lt_of_le h0 hm3.size, fun j hj => (World.cell?_of_block (a := ⟨b, o' + i * (Lay.int .i64).sz + j, none⟩) (hm3.block b h0 fun m => ?_)).trans (h1 j hj)⟩
  have := (HB.pg.lo b m).2
  have hb' : wr.heap.size ≤ b := hb
  omega
def AppR (w3 : World) (B : Nat) (AP : Nat → Prop) (g mb : Nat) (nv : Value) (LP : List Nd) (r : Nat) (L : List Nd) (W : Nat) (n : Nd) (e : Ending) (w4 : World) : Prop :=
  ∃ AR' rv', e = .returned (.tuple #[.int .i64 (ndAt n L : Nat), .int .i64 0]) ∧ Bo w4 B AP g mb nv LP AR' r rv' (askL n L) W ∧ Below B w3 w4
theorem app_R {w3 : World} {B : Nat} {AP : Nat → Prop} {g mb : Nat} {nv : Value} {LP L : List Nd} {AR : Nat → Prop} {r : Nat} {rv : Value} {W : Nat} (HB : Bo w3 B AP g mb nv LP AR r rv L W) (hsz : B ≤ w3.heap.size) (hL : L.length ≤ 60) (o : Nat) (ho : 2 ≤ o) (ho2 : o ≤ 20) (args : List Nat) (hl : args.length = arN o) (ha : ∀ a ∈ args, a < L.length)
    {a : Option Addr} {cap len : Nat} (hlen : args.length = len) (hat : (Lay.int .i64).At 0 w3 a (intsN args)) :
    Calls Tryd.prog 55 #[.pointer (some ⟨r, 0, none⟩), .int .u8 o, .slice a len cap] w3 (AppR w3 B AP g mb nv LP r L W ⟨o, 0, args⟩) := by
  refine (app55 HB.rg hsz hL o ho ho2 args hl ha hlen hat).mono fun e w4 ⟨A', hA', hs⟩ => ?_
  obtain ⟨rv', he, hb4, hl4⟩ := HB.stepR hsz hA' hs
  exact ⟨_, rv', he, hb4, hl4⟩
/-- a raw node: kind, operator, number, arguments -/
abbrev RawN := Nat × Nat × Nat × Nat × Nat
def Lay.raw : Lay RawN := ⟨5, fun p => [.int .u8 (p.1 : Int), .int .u8 (p.2.1 : Int), .int .u64 (p.2.2.1 : Int), .int .u16 (p.2.2.2.1 : Int), .int .u16 (p.2.2.2.2 : Int)], fun _ => rfl, fun x u hu => by simp at hu; rcases hu with rfl | rfl | rfl | rfl | rfl <;> rfl, by decide⟩
/-- the node that a raw one asks for -/
def rawNd (W : Nat) (L : List Nd) (q : RawN) : Nd :=
  if q.1 % 3 = 0 ∨ L.length = 0 then ⟨0, q.2.2.1 % 2 ^ W, []⟩
  else if q.1 % 3 = 1 then ⟨1, q.2.2.2.1 % 12, []⟩
  else if 2 + q.2.1 % 19 = 2 ∨ 2 + q.2.1 % 19 = 3 then ⟨2 + q.2.1 % 19, 0, [q.2.2.2.1 % L.length]⟩
  else ⟨2 + q.2.1 % 19, 0, [q.2.2.2.1 % L.length, q.2.2.2.2 % L.length]⟩
def bldL (W : Nat) (qs : List RawN) : List Nd := qs.foldl (fun L q => askL (rawNd W L q) L) []
theorem bldL_snoc (W : Nat) (qs : List RawN) (q : RawN) : bldL W (qs ++ [q]) = askL (rawNd W (bldL W qs) q) (bldL W qs) := by simp [bldL]
theorem bldL_len (W : Nat) (qs : List RawN) : (bldL W qs).length ≤ qs.length := by
  rw [← List.reverse_reverse qs]
  induction qs.reverse with
  | nil => simp [bldL]
  | cons q qs ih =>
    rw [List.reverse_cons, bldL_snoc]
    have := askL_len (rawNd W (bldL W qs.reverse) q) (bldL W qs.reverse)
    simp only [List.length_append, List.length_singleton] at ih ⊢
    omega
theorem raw_cells {w : World} {a : Option Addr} {qs : List RawN} (h : Lay.raw.At default w a qs) {i : Nat} (hi : i < qs.length) : ∃ b o, a = some ⟨b, o, none⟩ ∧ b < w.heap.size ∧ w.cell? ⟨b, o + i * 5, none⟩ = some (.int .u8 ((qs.getD i default).1 : Int)) ∧ w.cell? ⟨b, o + i * 5 + 1, none⟩ = some (.int .u8 ((qs.getD i default).2.1 : Int)) ∧
    w.cell? ⟨b, o + i * 5 + 2, none⟩ = some (.int .u64 ((qs.getD i default).2.2.1 : Int)) ∧ w.cell? ⟨b, o + i * 5 + 3, none⟩ = some (.int .u16 ((qs.getD i default).2.2.2.1 : Int)) ∧ w.cell? ⟨b, o + i * 5 + 4, none⟩ = some (.int .u16 ((qs.getD i default).2.2.2.2 : Int)) := by
  obtain ⟨b, o, e, hb, hc⟩ := h i hi
  exact ⟨b, o, e, hb, hc 0 (by decide), hc 1 (by decide), hc 2 (by decide), hc 3 (by decide), hc 4 (by decide)⟩
/-- a list more in a slice of numbers, in a region that draws -/
theorem step_int {W : World} {ops : Array Oper} {o : Oper} {a : Act} {K : Act → World → Prop} {Q : Exit → Act → World → Prop} {E : Prop} (hgd : o.guard = none) (s x : Operand)
    (ho : o.op = .call { callee := .builtin .append, args := #[s, x], argTypes := #[28, 28] }) {base : Nat} {v : Value} {ps : List Int} (q : Int) {ad : Addr} {c : Nat}
    (hs : a.eval s = v) (hown : (Lay.int .i64).Own 3 W base v ps) (hx : a.eval x = .slice (some ad) 1 c) (hnews : ∀ j u, ((Lay.int .i64).flat [q])[j]? = some u → W.cell? (ad.add j) = some u)
    (hl : ps.length ≤ 1000) (hbase : base ≤ W.heap.size)
    (h : ∀ v' w', (Lay.int .i64).Own 3 w' base v' (ps ++ [q]) → W.grownBy w' v.ownBlock → (v'.ownBlock = v.ownBlock ∨ v'.ownBlock = some W.heap.size) → K (a.put o.dst v') w') :
    if Region.wanted o (yielded ops a.tmps) = true then Oper.wp Tryd.prog o a W K Q else E := by
  have hw : Region.wanted o (yielded ops a.tmps) = true := by simp [Region.wanted, hgd]
  rw [if_pos hw]
  obtain ⟨i0, hi, hz0, hz1, hz2⟩ := info_parts Tryd.elemI.info
  obtain ⟨v', w', hr, h1, h2, _, h4⟩ := run_append_own_at (P := Tryd.prog) W base 28 o.type 3 i0 _ 1 8 Tryd.elemI.und hi hz0 hz1 hz2 rfl (by decide) v ps.length ((Lay.int .i64).flat ps) hown ad 1 c ((Lay.int .i64).flat [q]) ((Lay.int .i64).flat_length [q]) hnews ((Lay.int .i64).flat_one [q]) (by unfold maxLen; omega) (by omega) hbase
  refine Lib.wp_append_run W s x 28 28 ho v _ hs hx v' w' hr (h v' w' ?_ h2 h4)
  unfold Lay.Own
  rw [Lay.flat_append, List.length_append]
  exact h1
end Go.Proofs.YtjhbabgcoemecaaDoor
