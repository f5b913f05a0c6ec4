/- Laid data, flattened: what the cells hold, said by the datum that they read as. -/
import Derived.Test.YtekbkaipdmklpaaGreatDoorD1
import Derived.WalkKit
import Derived.ProofKit
import Derived.OpenShut
import Derived.Deep.Slices
import Derived.LaidMore
namespace Go.Proofs.YtekbkaipdmklpaaGreatDoor
open Go.ChangeShapes Go.WideShapes Go.ChangeAt Go.RowKit
set_option maxRecDepth 100000

/-- the cells that a datum stands for -/
def flS {H : Type} (dec : H → Value) : DataW H → List Value
  | .lit (.bool b) => [.bool b]
  | .lit (.int k n) => [.int k n]
  | .lit (.string s) => [.string ⟨⟨s⟩⟩]
  | .held h => [dec h]
  | _ => []
def partsD {H : Type} : DataW H → List (DataW H)
  | .agg l => l
  | .slice l _ => l
  | _ => []
def flA {H : Type} (f : DataW H → List Value) (d : DataW H) : List Value := (partsD d).flatMap f
def okU {H : Type} (ok : H → Bool) : DataW H → Bool
  | .held h => ok h
  | .lit _ => true
  | _ => false
def okA {H : Type} (f : DataW H → Bool) (d : DataW H) : Bool := (partsD d).all f
def FlatAt {H : Type} (enc : TypeId × Value → H) (w : World) (held : Bool) (fl : DataW H → List Value) (ok : DataW H → Bool) (t : TypeId) : Prop :=
  ∀ fuel cs x, DataW.trod enc Tryz.prog w 0 (fun _ => true) held fuel t cs = some x → cs.length = Tryz.prog.cellsOf t → ok x.1 = true → cs = fl x.1
theorem chunks (sz : Nat) : ∀ (l : List Value) (ys : List (List Value)), l.length = ys.length * sz → (∀ i y, ys[i]? = some y → (l.drop (i * sz)).take sz = y) → l = ys.flatten
  | l, [], h, _ => by simpa using h
  | l, y :: ys, h, hc => by
    have h0 := hc 0 y rfl
    simp only [Nat.zero_mul, List.drop_zero] at h0
    have h1 := chunks sz (l.drop sz) ys (by rw [List.length_drop, h, List.length_cons, Nat.add_mul]; omega) fun i z hz => by
      have := hc (i + 1) z hz
      rw [List.drop_drop]
      rw [Nat.add_mul, Nat.one_mul, Nat.add_comm] at this
      exact this
    rw [List.flatten_cons, ← h1, ← h0, List.take_append_drop]
section
variable {H : Type} {enc : TypeId × Value → H} {w : World} {held : Bool} {dec : H → Value} {okh : H → Bool} {t e : TypeId}
theorem flat_bool (ht : Tryz.prog.underlying t = some .bool) : FlatAt enc w held (flS dec) (okU okh) t := fun fuel cs x h _ _ => by
  obtain ⟨b, rfl, rfl⟩ := DataW.trod_bool ht h
  rfl
theorem flat_int {k : IntKind} (ht : Tryz.prog.underlying t = some (.int k)) : FlatAt enc w held (flS dec) (okU okh) t := fun fuel cs x h _ _ => by
  obtain ⟨b, rfl, rfl, _⟩ := DataW.trod_int ht h
  rfl
theorem flat_string (ht : Tryz.prog.underlying t = some .string) : FlatAt enc w held (flS dec) (okU okh) t := fun fuel cs x h _ _ => by
  obtain ⟨s, rfl, rfl, _⟩ := DataW.trod_string ht h
  obtain ⟨⟨l⟩⟩ := s
  rfl
theorem flat_array {fl : DataW H → List Value} {ok : DataW H → Bool} {n : Nat} (ht : Tryz.prog.underlying t = some (.array n e)) (hc : Tryz.prog.cellsOf t = n * Tryz.prog.cellsOf e) (he : FlatAt enc w held fl ok e) : FlatAt enc w held (flA fl) (okA ok) t := fun fuel cs x h hl hok => by
  obtain ⟨xs, m, _, rfl, _, hxl, hel⟩ := DataW.trod_array ht h
  simp only [okA, partsD, flA] at hok ⊢
  rw [List.flatMap_def]
  refine chunks (Tryz.prog.cellsOf e) cs _ (by rw [hl, hc]; simp [hxl]) fun i y hy => ?_
  simp only [List.getElem?_map, Option.map_map, Option.map_eq_some_iff] at hy
  obtain ⟨x, hx, rfl⟩ := hy
  have hi : i < n := by rw [← hxl]; exact (List.getElem?_eq_some_iff.1 hx).1
  refine he m _ x (by rw [hel i hi, hx]) ?_ (List.all_eq_true.1 hok _ (List.mem_map_of_mem (List.mem_of_getElem? hx)))
  have : (i + 1) * Tryz.prog.cellsOf e ≤ n * Tryz.prog.cellsOf e := Nat.mul_le_mul_right _ hi
  rw [List.length_take, List.length_drop, hl, hc]
  rw [Nat.add_mul] at this
  omega
theorem flat_struct {fl : DataW H → List Value} {ok : DataW H → Bool} {fs : Array Field} (ht : Tryz.prog.underlying t = some (.struct fs)) (hc : Tryz.prog.cellsOf t = fs.size)
    (he : ∀ (i : Nat) (f : Field), fs[i]? = some f → f.offset = i ∧ Tryz.prog.cellsOf f.type = 1 ∧ FlatAt enc w held fl ok f.type) : FlatAt enc w held (flA fl) (okA ok) t := fun fuel cs x h hl hok => by
  obtain ⟨xs, m, _, rfl, _, hxl, hel⟩ := DataW.trod_struct ht h
  simp only [okA, partsD, flA] at hok ⊢
  rw [List.flatMap_def]
  refine chunks 1 cs _ (by rw [hl, hc]; simp [hxl]) fun i y hy => ?_
  simp only [List.getElem?_map, Option.map_map, Option.map_eq_some_iff] at hy
  obtain ⟨x, hx, rfl⟩ := hy
  have hi : i < fs.size := by rw [← hxl]; exact (List.getElem?_eq_some_iff.1 hx).1
  obtain ⟨h1, h2, h3⟩ := he i fs[i] (Array.getElem?_eq_getElem hi)
  have := hel i fs[i] (Array.getElem?_eq_getElem hi)
  rw [h1, h2, hx] at this
  rw [Nat.mul_one]
  refine h3 m _ x this ?_ (List.all_eq_true.1 hok _ (List.mem_map_of_mem (List.mem_of_getElem? hx)))
  rw [List.length_take, List.length_drop, hl, hc, h2]
  omega
end
noncomputable def fnOf (s : List UInt8) : List Nat := (List.range Tryz.prog.funcs.size).filter fun f => (Tryz.prog.funcs[f]?).any (·.name.toUTF8.data.toList == s)
noncomputable def decF (s : List UInt8) : Value := .func (.func ((fnOf s).headD 0)) #[] #[]
noncomputable def okF : List UInt8 → Bool
  | b :: r => (fnOf (b :: r)).length == 1
  | _ => false
theorem flat_func {w : World} {t : TypeId} {ps rs : Array TypeId} {va : Bool} (ht : Tryz.prog.underlying t = some (.func ps rs va)) (hc : Tryz.prog.cellsOf t = 1) :
    FlatAt (funcToken Tryz.prog) w true (flS decF) (okU okF) t := fun fuel cs x h hl hok => by
  rw [hc] at hl
  obtain ⟨v, rfl⟩ := List.length_eq_one_iff.1 hl
  obtain ⟨d, q⟩ := x
  simp only at hok ⊢
  match d, hok, h with
  | .held (b :: r), hok, h =>
    have hok : ((fnOf (b :: r)).length == 1) = true := hok
    have hone : fnOf (b :: r) = [(fnOf (b :: r)).headD 0] := by
      have := beq_iff_eq.1 hok
      match hf : fnOf (b :: r), this with
      | [a], _ => rfl
    rw [func_of_trod ht hone h]
    rfl
  | .lit l, _, h =>
    exfalso
    cases fuel with
    | zero => simp [DataW.trod] at h
    | succ n => cases v <;> simp [DataW.trod, ht] at h
/-- a slice without spare cells -/
theorem flat_slice {H : Type} {enc : TypeId × Value → H} {w : World} {held : Bool} {fl : DataW H → List Value} {ok : DataW H → Bool} {t e : TypeId} (ht : Tryz.prog.underlying t = some (.slice e)) (he : FlatAt enc w held fl ok e) (hz : 0 < Tryz.prog.cellsOf e)
    {fuel : Nat} {cs : List Value} {ds : List (DataW H)} {p : List MemPlace} (h : DataW.trod enc Tryz.prog w 0 (fun _ => true) held fuel t cs = some (.slice ds [], p)) (hds : 0 < ds.length) (hok : ds.all ok = true) :
    ∃ b o, cs = [.slice (some ⟨b, o, none⟩) ds.length ds.length] ∧ Cr.CellsAt w b o (ds.flatMap fl) := by
  rcases Deep.open_slice ht h with ⟨_, hx⟩ | ⟨a, len, cap, m, n, D, Pl, rfl, _, hle, _, hm, hx, hel⟩
  · cases hx
  · have hm : m = cap := hm
    have h1 := congrArg Prod.fst hx
    simp only [DataW.slice.injEq] at h1
    obtain ⟨h1, h2⟩ := h1
    have h3 := congrArg List.length h2
    simp only [List.length_nil, List.length_map, List.length_range] at h3
    have hlen : ds.length = len := by rw [h1]; simp
    have hcl : cap = len := by omega
    subst hcl
    subst hm
    have hcell : ∀ i, i < m → ∃ cs', cs'.length = Tryz.prog.cellsOf e ∧ cs' = fl (D i) ∧ ∀ j, j < Tryz.prog.cellsOf e → w.cell? ((a.add (i * Tryz.prog.cellsOf e)).add j) = cs'[j]? := fun i hi => by
      obtain ⟨cs', g1, g2⟩ := hel i hi
      obtain ⟨_, g3, g4⟩ := World.cells?_some g1
      refine ⟨cs', g3, he n cs' _ g2 g3 (List.all_eq_true.1 hok _ ?_), g4⟩
      rw [h1]
      exact List.mem_map_of_mem (List.mem_range.2 hi)
    obtain ⟨c0, k0, _, k2⟩ := hcell 0 (by omega)
    have k3 := k2 0 hz
    rw [Nat.zero_mul] at k3
    have k3 : w.cell? a = c0[0]? := by simpa [Addr.add] using k3
    rw [List.getElem?_eq_getElem (by omega)] at k3
    have hsp := World.cell?_spot k3
    obtain ⟨b, o, sp⟩ := a
    obtain rfl : sp = none := hsp
    have hblk : ∃ cs e f, w.heap[b]? = some (.cells cs e f) := by
      unfold World.cell? at k3
      split at k3
      · exact ⟨_, _, _, by assumption⟩
      · cases k3
    obtain ⟨cc, te, f, hblk⟩ := hblk
    refine ⟨b, o, by rw [hlen], cc, te, f, hblk, fun k hk => ?_⟩
    have hfl : (ds.flatMap fl) = ((List.range m).map fun i => fl (D i)).flatten := by
      rw [h1, List.flatMap_def, List.map_map]; rfl
    have hpt : ∀ (r : Nat) (q : List Nat), (∀ i, i ∈ q → i < m) → (∀ i, (q[i]?).all (· == r + i) = true) → ∀ k, k < ((q.map fun i => fl (D i)).flatten).length → cc[o + r * Tryz.prog.cellsOf e + k]? = ((q.map fun i => fl (D i)).flatten)[k]? := by
      intro r q
      induction q generalizing r with
      | nil => intro _ _ k hk; simp at hk
      | cons i q ih =>
        intro hq hqi k hk
        obtain ⟨cs', e1, e2, e3⟩ := hcell i (hq i (List.mem_cons_self ..))
        have hir : i = r := by simpa using hqi 0
        subst hir
        rw [List.map_cons, List.flatten_cons, ← e2] at hk ⊢
        by_cases hkz : k < Tryz.prog.cellsOf e
        · rw [List.getElem?_append_left (by omega), ← e3 k hkz, add_at, add_at]
          unfold World.cell?
          rw [hblk]
          rfl
        · rw [List.getElem?_append_right (by omega), e1]
          rw [List.length_append] at hk
          have := ih (i + 1) (fun j hj => hq j (List.mem_cons_of_mem _ hj)) (fun j => by have := hqi (j + 1); simpa [Nat.add_assoc, Nat.add_comm, Nat.add_left_comm] using this) (k - Tryz.prog.cellsOf e) (by omega)
          rw [← this]
          congr 1
          rw [Nat.add_mul]
          omega
    have := hpt 0 (List.range m) (fun i hi => List.mem_range.1 hi) (fun i => by
      by_cases hi : i < m
      · rw [List.getElem?_range hi]; simp
      · rw [List.getElem?_eq_none (by simpa using hi)]; rfl) k (by rw [← hfl]; exact hk)
    rw [Nat.zero_mul, Nat.add_zero, ← hfl] at this
    exact this
/-- a variable's cells -/
theorem cells_var {w : World} {n : String} {g : Nat} {cs : Array Value} {l : List Value} (hg : Tryz.prog.globalNamed n = some g) (hv : w.var? Tryz.prog n = some cs) (hl : cs.toList = l) : Cr.CellsAt w g 0 l := by
  simp only [World.var?, hg, Option.bind_some] at hv
  split at hv
  · rename_i c e f he
    obtain rfl := Option.some.inj hv
    exact ⟨c, e, f, he, fun k hk => by rw [← hl, Nat.zero_add, Array.getElem?_toList]⟩
  · cases hv
end Go.Proofs.YtekbkaipdmklpaaGreatDoor
