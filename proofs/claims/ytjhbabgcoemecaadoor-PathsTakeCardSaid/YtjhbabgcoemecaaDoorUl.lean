/- Arguments opened: raw nodes, paths, values. -/
import Derived.Test.YtjhbabgcoemecaaDoorOk
import Derived.Test.YtjhbabgcoemecaaDoorUc
import Derived.Test.YtjhbabgcoemecaaDoorGg
namespace Go.Proofs.YtjhbabgcoemecaaDoor
open Go.ChangeShapes Go.WideShapes Go.ChangeAt Go.RowKit Go.Deep
set_option maxRecDepth 100000

theorem two_len {α : Type} : ∀ {l : List α}, l.length = 2 → ∃ a b, l = [a, b]
  | [a, b], _ => ⟨a, b, rfl⟩
theorem five_len {α : Type} : ∀ {l : List α}, l.length = 5 → ∃ a b c d e, l = [a, b, c, d, e]
  | [a, b, c, d, e], _ => ⟨a, b, c, d, e, rfl⟩
theorem seven_len {α : Type} : ∀ {l : List α}, l.length = 7 → ∃ a b c d e f g, l = [a, b, c, d, e, f, g]
  | [a, b, c, d, e, f, g], _ => ⟨a, b, c, d, e, f, g, rfl⟩
theorem field_in {fs : List Field} {ks : List (String × TypeId × Nat)} (h : fs.map (fun f => (f.name, f.type, f.offset)) = ks) {j : Nat} {k : String × TypeId × Nat} (hk : ks[j]? = some k) : ∃ f, fs[j]? = some f ∧ f.offset = k.2.2 ∧ f.type = k.2.1 := by
  subst h
  rw [List.getElem?_map] at hk
  cases e : fs[j]? with
  | none => rw [e] at hk; cases hk
  | some f => rw [e] at hk; simp at hk; exact ⟨f, rfl, by rw [← hk], by rw [← hk]⟩
theorem nat_vals : ∀ (xs : List Int), (∀ v ∈ xs, (Lit.int .u64 v).wf = true) → ∃ vals : List Nat, intsN vals = xs ∧ ∀ v ∈ vals, v < 18446744073709551616
  | [], _ => ⟨[], rfl, fun v hv => by simp at hv⟩
  | x :: xs, h => by
    obtain ⟨vals, e, hb⟩ := nat_vals xs fun v hv => h v (by simp [hv])
    obtain ⟨g0, g1⟩ := bounds_u64 (h x (by simp))
    obtain ⟨n, rfl⟩ := Int.eq_ofNat_of_zero_le g0
    refine ⟨n :: vals, by rw [← e]; rfl, fun v hv => ?_⟩
    rcases List.mem_cons.1 hv with rfl | hv
    · omega
    · exact hb v hv

theorem struct115 : Tryd.prog.underlying 115 = some (.struct (Tryd.prog.fieldsOf 115)) := by kernel_rfl
theorem fl115 : ((Tryd.prog.fieldsOf 115).toList.map fun f => (f.name, f.type, f.offset)) = [("Kind", 5, 0), ("Op", 5, 1), ("Num", 33, 2), ("A", 113, 3), ("B", 113, 4)] := by kernel_rfl
theorem struct125 : Tryd.prog.underlying 125 = some (.struct (Tryd.prog.fieldsOf 125)) := by kernel_rfl
theorem fl125 : ((Tryd.prog.fieldsOf 125).toList.map fun f => (f.name, f.type, f.offset)) = [("N", 3, 0), ("Term", 3, 1)] := by kernel_rfl
theorem struct43 : Tryd.prog.underlying 43 = some (.struct (Tryd.prog.fieldsOf 43)) := by kernel_rfl
theorem fl43 : ((Tryd.prog.fieldsOf 43).toList.map fun f => (f.name, f.type, f.offset)) = [("Conds", 28, 0), ("Status", 5, 1), ("Steps", 3, 2), ("Outs", 40, 3), ("Rels", 40, 4), ("Branches", 41, 5), ("Reads", 28, 6)] := by kernel_rfl
theorem cells5 : Tryd.prog.cellsOf 5 = 1 := by kernel_rfl
theorem cells28 : Tryd.prog.cellsOf 28 = 1 := by kernel_rfl
theorem cells40 : Tryd.prog.cellsOf 40 = 1 := by kernel_rfl
theorem cells41 : Tryd.prog.cellsOf 41 = 1 := by kernel_rfl
theorem cells113 : Tryd.prog.cellsOf 113 = 1 := by kernel_rfl
theorem cells115 : Tryd.prog.cellsOf 115 = 5 := by kernel_rfl
theorem cells125 : Tryd.prog.cellsOf 125 = 2 := by kernel_rfl
theorem cells43 : Tryd.prog.cellsOf 43 = 7 := by kernel_rfl
theorem readable64 : Tryd.prog.readableRec 64 = true := by kernel_rfl
theorem row64 : 64 < Tryd.prog.types.size := of_decide_eq_true (by kernel_rfl)
theorem readable36 : Tryd.prog.readableRec 36 = true := by kernel_rfl
theorem row36 : 36 < Tryd.prog.types.size := of_decide_eq_true (by kernel_rfl)

section
variable {H : Type} {enc : TypeId × Value → H} {W : World} {base : Nat}
/-- a slice of elements, each of which is opened -/
theorem open_elems {α : Type} (L : Lay α) (d : α) {G : α → Prop} {t e : TypeId} {fuel : Nat} {cs : List Value} {x : DataW H × List MemPlace} (ht : Tryd.prog.underlying t = some (.slice e)) (hC : Tryd.prog.cellsOf e = L.sz)
    (hE : ∀ (fuel : Nat) (cs : List Value) (x : DataW H × List MemPlace), cs.length = L.sz → DataW.trod enc Tryd.prog W 0 (fun _ => true) true fuel e cs = some x → ∃ y, cs = L.f y ∧ G y)
    (h : DataW.trod enc Tryd.prog W 0 (fun _ => true) true fuel t cs = some x) :
    ∃ a len cap xs, cs = [.slice a len cap] ∧ xs.length = len ∧ L.At d W a xs ∧ (a = none → cap = 0) ∧ len ≤ cap ∧ cap ≤ maxLen ∧ ∀ y ∈ xs, G y := by
  rcases open_slice ht h with ⟨rfl, _⟩ | ⟨a, len, cap, m, n, D, Pl, rfl, _, hl, hm, hmm, _, hi⟩
  · exact ⟨none, 0, 0, [], rfl, rfl, Lay.At.nil, fun _ => rfl, by omega, by decide, fun v hv => by simp at hv⟩
  · simp only [if_true] at hmm
    rw [hmm, hC] at hi
    have hex : ∀ i, i < len → ∃ y : α, (∀ k, k < L.sz → W.cell? ((a.add (i * L.sz)).add k) = (L.f y)[k]?) ∧ G y := fun i hlt => by
      obtain ⟨cs', hc, ht'⟩ := hi i (by omega)
      obtain ⟨_, hcl, hat⟩ := World.cells?_some hc
      obtain ⟨y, rfl, hg⟩ := hE _ _ _ hcl ht'
      exact ⟨y, hat, hg⟩
    obtain ⟨xs, hxl, hxs⟩ := list_of d len hex
    refine ⟨some a, len, cap, xs, rfl, hxl, fun i hlt => ?_, fun h => (by cases h), hl, hm, fun v hv => ?_⟩
    · rw [hxl] at hlt
      have hp := L.pos
      obtain ⟨u, hu⟩ : ∃ u, (L.f (xs.getD 0 d))[0]? = some u := ⟨_, List.getElem?_eq_getElem (by rw [L.len]; exact hp)⟩
      have hsp := spot_none (show W.cell? a = some u by have := (hxs 0 (by omega)).1 0 hp; rw [hu] at this; simpa [Addr.add] using this)
      obtain ⟨b, o, sp⟩ := a
      simp only at hsp
      subst hsp
      have hr := (hxs i hlt).1
      obtain ⟨u2, hu2⟩ : ∃ u, (L.f (xs.getD i d))[0]? = some u := ⟨_, List.getElem?_eq_getElem (by rw [L.len]; exact hp)⟩
      have hr0 := hr 0 hp
      rw [add_at, add_at, hu2] at hr0
      refine ⟨b, o, rfl, World.block_lt_of_cell? W _ hr0, fun j hj => ?_⟩
      have := hr j hj
      rwa [add_at, add_at] at this
    · obtain ⟨i, hlt, rfl⟩ := mem_getD d xs v hv
      exact (hxs i (by omega)).2
theorem get_field {e : TypeId} {cs : List Value} {ys : List (DataW H × List MemPlace)} {n : Nat} {ks : List (String × TypeId × Nat)} (hl : ys.length = (Tryd.prog.fieldsOf e).size)
    (hf : ∀ (i : Nat) (f : Field), (Tryd.prog.fieldsOf e)[i]? = some f → DataW.trod enc Tryd.prog W 0 (fun _ => true) true n f.type ((cs.drop f.offset).take (Tryd.prog.cellsOf f.type)) = ys[i]?)
    (hfl : ((Tryd.prog.fieldsOf e).toList.map fun f => (f.name, f.type, f.offset)) = ks) (i : Nat) {k : String × TypeId × Nat} (hk : ks[i]? = some k) : ∃ y, DataW.trod enc Tryd.prog W 0 (fun _ => true) true n k.2.1 ((cs.drop k.2.2).take (Tryd.prog.cellsOf k.2.1)) = some y := by
  obtain ⟨f, e0, o0, t0⟩ := field_in hfl hk
  rw [Array.getElem?_toList] at e0
  have g := hf i f e0
  rw [o0, t0] at g
  have hi : i < ys.length := by rw [hl]; exact (Array.getElem?_eq_some_iff.1 e0).1
  rw [List.getElem?_eq_getElem hi] at g
  exact ⟨_, g⟩

def RawOk (q : RawN) : Prop := q.2.1 < 256 ∧ q.2.2.1 < 18446744073709551616 ∧ q.2.2.2.1 < 65536 ∧ q.2.2.2.2 < 65536
theorem raw_of {fuel : Nat} {cs : List Value} {x : DataW H × List MemPlace} (hl : cs.length = 5) (h : DataW.trod enc Tryd.prog W 0 (fun _ => true) true fuel 115 cs = some x) : ∃ y : RawN, cs = Lay.raw.f y ∧ RawOk y := by
  obtain ⟨c0, c1, c2, c3, c4, rfl⟩ := five_len hl
  obtain ⟨ys, n, _, _, _, hyl, hf⟩ := DataW.trod_struct struct115 h
  obtain ⟨y0, g0⟩ := get_field hyl hf fl115 0 rfl
  obtain ⟨y1, g1⟩ := get_field hyl hf fl115 1 rfl
  obtain ⟨y2, g2⟩ := get_field hyl hf fl115 2 rfl
  obtain ⟨y3, g3⟩ := get_field hyl hf fl115 3 rfl
  obtain ⟨y4, g4⟩ := get_field hyl hf fl115 4 rfl
  simp only [cells5, cells33, cells113, List.drop_zero, List.take_succ_cons, List.take_zero, List.drop_succ_cons] at g0 g1 g2 g3 g4
  obtain ⟨x0, e0, _, w0⟩ := DataW.trod_int Tryd.underlying5 g0
  obtain ⟨x1, e1, _, w1⟩ := DataW.trod_int Tryd.underlying5 g1
  obtain ⟨x2, e2, _, w2⟩ := DataW.trod_int Tryd.underlying33 g2
  obtain ⟨x3, e3, _, w3⟩ := DataW.trod_int Tryd.underlying113 g3
  obtain ⟨x4, e4, _, w4⟩ := DataW.trod_int Tryd.underlying113 g4
  simp only [List.cons.injEq, and_true] at e0 e1 e2 e3 e4
  subst e0 e1 e2 e3 e4
  have b0 := bounds_u8 w0
  have b1 := bounds_u8 w1
  have b2 := bounds_u64 w2
  have b3 := bounds_u16 w3
  have b4 := bounds_u16 w4
  obtain ⟨n0, rfl⟩ := Int.eq_ofNat_of_zero_le b0.1
  obtain ⟨n1, rfl⟩ := Int.eq_ofNat_of_zero_le b1.1
  obtain ⟨n2, rfl⟩ := Int.eq_ofNat_of_zero_le b2.1
  obtain ⟨n3, rfl⟩ := Int.eq_ofNat_of_zero_le b3.1
  obtain ⟨n4, rfl⟩ := Int.eq_ofNat_of_zero_le b4.1
  exact ⟨(n0, n1, n2, n3, n4), rfl, by show n1 < 256; omega, by show n2 < 18446744073709551616; omega, by show n3 < 65536; omega, by show n4 < 65536; omega⟩
theorem sev_of {fuel : Nat} {cs : List Value} {x : DataW H × List MemPlace} (hl : cs.length = 2) (h : DataW.trod enc Tryd.prog W 0 (fun _ => true) true fuel 125 cs = some x) : ∃ y : Int × Int, cs = Lay.sev.f y ∧ True := by
  obtain ⟨c0, c1, rfl⟩ := two_len hl
  obtain ⟨ys, n, _, _, _, hyl, hf⟩ := DataW.trod_struct struct125 h
  obtain ⟨y0, g0⟩ := get_field hyl hf fl125 0 rfl
  obtain ⟨y1, g1⟩ := get_field hyl hf fl125 1 rfl
  simp only [cells3, List.drop_zero, List.take_succ_cons, List.take_zero, List.drop_succ_cons] at g0 g1
  obtain ⟨x0, e0, _⟩ := DataW.trod_int Tryd.underlying3 g0
  obtain ⟨x1, e1, _⟩ := DataW.trod_int Tryd.underlying3 g1
  simp only [List.cons.injEq, and_true] at e0 e1
  subst e0 e1
  exact ⟨(x0, x1), rfl, trivial⟩
theorem bool_of {fuel : Nat} {cs : List Value} {x : DataW H × List MemPlace} (_ : cs.length = 1) (h : DataW.trod enc Tryd.prog W 0 (fun _ => true) true fuel 4 cs = some x) : ∃ y : Bool, cs = Lay.bool.f y ∧ True := by
  obtain ⟨b, rfl, _⟩ := DataW.trod_bool Tryd.underlying4 h
  exact ⟨b, rfl, trivial⟩
theorem path_of {fuel : Nat} {cs : List Value} {x : DataW H × List MemPlace} (hl : cs.length = 7) (h : DataW.trod enc Tryd.prog W 0 (fun _ => true) true fuel 43 cs = some x) : ∃ y : PathN, cs = Lay.path.f y ∧ y.Ok W := by
  obtain ⟨c0, c1, c2, c3, c4, c5, c6, rfl⟩ := seven_len hl
  obtain ⟨ys, n, _, _, _, hyl, hf⟩ := DataW.trod_struct struct43 h
  obtain ⟨y0, g0⟩ := get_field hyl hf fl43 0 rfl
  obtain ⟨y1, g1⟩ := get_field hyl hf fl43 1 rfl
  obtain ⟨y2, g2⟩ := get_field hyl hf fl43 2 rfl
  obtain ⟨y3, g3⟩ := get_field hyl hf fl43 3 rfl
  obtain ⟨y4, g4⟩ := get_field hyl hf fl43 4 rfl
  obtain ⟨y5, g5⟩ := get_field hyl hf fl43 5 rfl
  obtain ⟨y6, g6⟩ := get_field hyl hf fl43 6 rfl
  simp only [cells28, cells5, cells3, cells40, cells41, List.drop_zero, List.take_succ_cons, List.take_zero, List.drop_succ_cons] at g0 g1 g2 g3 g4 g5 g6
  obtain ⟨a0, l0, k0, xs0, e0, h0, t0, _⟩ := nums_of Tryd.underlying28 Tryd.underlying3 cells3 g0
  obtain ⟨x1, e1, _⟩ := DataW.trod_int Tryd.underlying5 g1
  obtain ⟨x2, e2, _⟩ := DataW.trod_int Tryd.underlying3 g2
  obtain ⟨a3, l3, k3, xs3, e3, h3, t3, _⟩ := open_elems Lay.sev (0, 0) (G := fun _ => True) Tryd.underlying40 cells125 (fun _ _ _ hl h => sev_of hl h) g3
  obtain ⟨a4, l4, k4, xs4, e4, h4, t4, _⟩ := open_elems Lay.sev (0, 0) (G := fun _ => True) Tryd.underlying40 cells125 (fun _ _ _ hl h => sev_of hl h) g4
  obtain ⟨a5, l5, k5, xs5, e5, h5, t5, z5, _⟩ := open_elems Lay.bool false (G := fun _ => True) Tryd.underlying41 cells4 (fun _ _ _ hl h => bool_of hl h) g5
  obtain ⟨a6, l6, k6, xs6, e6, h6, t6, z6, _⟩ := nums_of Tryd.underlying28 Tryd.underlying3 cells3 g6
  simp only [List.cons.injEq, and_true] at e0 e1 e2 e3 e4 e5 e6
  subst e0 e1 e2 e3 e4 e5 e6 h0 h3 h4 h5 h6
  exact ⟨⟨a0, k0, xs0, x1, x2, a3, k3, xs3, a4, k4, xs4, a5, k5, xs5, a6, k6, xs6⟩, rfl, t0, t3, t4, t5, t6, z5, z6⟩

theorem open_raws {v : Value} {d : DataW H} {p : List MemPlace} (hv : Value.okWide Tryd.prog W .any base 64 v) (h : DataW.Trod enc Tryd.prog W 0 (fun _ => true) true 64 v d p) :
    ∃ a len cap xs, v = .slice a len cap ∧ xs.length = len ∧ Lay.raw.At default W a xs ∧ (a = none → cap = 0) ∧ len ≤ cap ∧ cap ≤ maxLen ∧ ∀ q ∈ xs, RawOk q := by
  obtain ⟨a0, len, cap, rfl⟩ := okWide_slice Tryd.underlying64 hv
  obtain ⟨fuel, hf⟩ := h
  obtain ⟨a, len', cap', xs, hcs, h1, h2, h3, h4, h5, h6⟩ := open_elems Lay.raw default (G := RawOk) Tryd.underlying64 cells115 (fun _ _ _ hl h => raw_of hl h) hf
  simp only [Value.cells, List.cons.injEq, Value.slice.injEq, and_true] at hcs
  obtain ⟨rfl, rfl, rfl⟩ := hcs
  exact ⟨_, _, _, xs, rfl, h1, h2, h3, h4, h5, h6⟩
theorem open_paths {v : Value} {d : DataW H} {p : List MemPlace} (hv : Value.okWide Tryd.prog W .any base 36 v) (h : DataW.Trod enc Tryd.prog W 0 (fun _ => true) true 36 v d p) :
    ∃ a len cap xs, v = .slice a len cap ∧ xs.length = len ∧ Lay.path.At default W a xs ∧ (a = none → cap = 0) ∧ len ≤ cap ∧ cap ≤ maxLen ∧ ∀ q ∈ xs, q.Ok W := by
  obtain ⟨a0, len, cap, rfl⟩ := okWide_slice Tryd.underlying36 hv
  obtain ⟨fuel, hf⟩ := h
  obtain ⟨a, len', cap', xs, hcs, h1, h2, h3, h4, h5, h6⟩ := open_elems Lay.path default (G := fun q => q.Ok W) Tryd.underlying36 cells43 (fun _ _ _ hl h => path_of hl h) hf
  simp only [Value.cells, List.cons.injEq, Value.slice.injEq, and_true] at hcs
  obtain ⟨rfl, rfl, rfl⟩ := hcs
  exact ⟨_, _, _, xs, rfl, h1, h2, h3, h4, h5, h6⟩
end
end Go.Proofs.YtjhbabgcoemecaaDoor
