/- A machine for closed runs (part 31): the slots of frames (written by slots.py). (and what follows on it). -/
import Derived.Test.YtjhbabgcoemecaaDoorK2
import Derived.Maps.RangeWalk
import Derived.Lib.Hide
import Derived.WalkKit
import Derived.ProofKit
import Derived.Laws.AppendOwn
namespace Go.Proofs.YtjhbabgcoemecaaDoor
namespace Cr
open Go Go.RowKit

abbrev V1 := Value → XK X1 → List ADef → AH → XO X1
noncomputable def p1_0 (F : X1) : V1 := N8.rec (motive := fun _ => V1) (fun _ b0 c0 d0 e0 f0 g0 h0 v k Ds H => k ⟨v, b0, c0, d0, e0, f0, g0, h0⟩ Ds H) F
noncomputable def s1_0 : Slot tf1 := ⟨[.o0], p1_0, fun F v => fV1 v (p1_0 F), fun _ _ _ _ _ => ⟨_, rfl, rfl⟩, fun _ v _ _ _ => fV1_eq v _ _ _ _⟩
def r1_0 : RO tf1 := ⟨.t [.o0], fun F => F.a, fun _ => rfl⟩
noncomputable def p1_1 (F : X1) : V1 := N8.rec (motive := fun _ => V1) (fun a0 _ c0 d0 e0 f0 g0 h0 v k Ds H => k ⟨a0, v, c0, d0, e0, f0, g0, h0⟩ Ds H) F
noncomputable def s1_1 : Slot tf1 := ⟨[.o1], p1_1, fun F v => fV1 v (p1_1 F), fun _ _ _ _ _ => ⟨_, rfl, rfl⟩, fun _ v _ _ _ => fV1_eq v _ _ _ _⟩
def r1_1 : RO tf1 := ⟨.t [.o1], fun F => F.b, fun _ => rfl⟩
noncomputable def p1_2 (F : X1) : V1 := N8.rec (motive := fun _ => V1) (fun a0 b0 _ d0 e0 f0 g0 h0 v k Ds H => k ⟨a0, b0, v, d0, e0, f0, g0, h0⟩ Ds H) F
noncomputable def s1_2 : Slot tf1 := ⟨[.o2], p1_2, fun F v => fV1 v (p1_2 F), fun _ _ _ _ _ => ⟨_, rfl, rfl⟩, fun _ v _ _ _ => fV1_eq v _ _ _ _⟩
def r1_2 : RO tf1 := ⟨.t [.o2], fun F => F.c, fun _ => rfl⟩
noncomputable def p1_3 (F : X1) : V1 := N8.rec (motive := fun _ => V1) (fun a0 b0 c0 _ e0 f0 g0 h0 v k Ds H => k ⟨a0, b0, c0, v, e0, f0, g0, h0⟩ Ds H) F
noncomputable def s1_3 : Slot tf1 := ⟨[.o3], p1_3, fun F v => fV1 v (p1_3 F), fun _ _ _ _ _ => ⟨_, rfl, rfl⟩, fun _ v _ _ _ => fV1_eq v _ _ _ _⟩
def r1_3 : RO tf1 := ⟨.t [.o3], fun F => F.d, fun _ => rfl⟩
noncomputable def p1_4 (F : X1) : V1 := N8.rec (motive := fun _ => V1) (fun a0 b0 c0 d0 _ f0 g0 h0 v k Ds H => k ⟨a0, b0, c0, d0, v, f0, g0, h0⟩ Ds H) F
noncomputable def s1_4 : Slot tf1 := ⟨[.o4], p1_4, fun F v => fV1 v (p1_4 F), fun _ _ _ _ _ => ⟨_, rfl, rfl⟩, fun _ v _ _ _ => fV1_eq v _ _ _ _⟩
def r1_4 : RO tf1 := ⟨.t [.o4], fun F => F.e, fun _ => rfl⟩
noncomputable def p1_5 (F : X1) : V1 := N8.rec (motive := fun _ => V1) (fun a0 b0 c0 d0 e0 _ g0 h0 v k Ds H => k ⟨a0, b0, c0, d0, e0, v, g0, h0⟩ Ds H) F
noncomputable def s1_5 : Slot tf1 := ⟨[.o5], p1_5, fun F v => fV1 v (p1_5 F), fun _ _ _ _ _ => ⟨_, rfl, rfl⟩, fun _ v _ _ _ => fV1_eq v _ _ _ _⟩
def r1_5 : RO tf1 := ⟨.t [.o5], fun F => F.f, fun _ => rfl⟩
noncomputable def p1_6 (F : X1) : V1 := N8.rec (motive := fun _ => V1) (fun a0 b0 c0 d0 e0 f0 _ h0 v k Ds H => k ⟨a0, b0, c0, d0, e0, f0, v, h0⟩ Ds H) F
noncomputable def s1_6 : Slot tf1 := ⟨[.o6], p1_6, fun F v => fV1 v (p1_6 F), fun _ _ _ _ _ => ⟨_, rfl, rfl⟩, fun _ v _ _ _ => fV1_eq v _ _ _ _⟩
def r1_6 : RO tf1 := ⟨.t [.o6], fun F => F.g, fun _ => rfl⟩
noncomputable def p1_7 (F : X1) : V1 := N8.rec (motive := fun _ => V1) (fun a0 b0 c0 d0 e0 f0 g0 _ v k Ds H => k ⟨a0, b0, c0, d0, e0, f0, g0, v⟩ Ds H) F
noncomputable def s1_7 : Slot tf1 := ⟨[.o7], p1_7, fun F v => fV1 v (p1_7 F), fun _ _ _ _ _ => ⟨_, rfl, rfl⟩, fun _ v _ _ _ => fV1_eq v _ _ _ _⟩
def r1_7 : RO tf1 := ⟨.t [.o7], fun F => F.h, fun _ => rfl⟩
abbrev V2 := Value → XK X2 → List ADef → AH → XO X2
noncomputable def p2_0 (F : X2) : V2 := N8.rec (motive := fun _ => V2) (fun a0 b0 c0 d0 e0 f0 g0 h0 => N8.rec (motive := fun _ => V2) (fun _ b1 c1 d1 e1 f1 g1 h1 v k Ds H => k ⟨⟨v, b1, c1, d1, e1, f1, g1, h1⟩, b0, c0, d0, e0, f0, g0, h0⟩ Ds H) a0) F
noncomputable def s2_0 : Slot tf2 := ⟨[.o0, .o0], p2_0, fun F v => fV2 v (p2_0 F), fun _ _ _ _ _ => ⟨_, rfl, rfl⟩, fun _ v _ _ _ => fV2_eq v _ _ _ _⟩
def r2_0 : RO tf2 := ⟨.t [.o0, .o0], fun F => F.a.a, fun _ => rfl⟩
noncomputable def p2_1 (F : X2) : V2 := N8.rec (motive := fun _ => V2) (fun a0 b0 c0 d0 e0 f0 g0 h0 => N8.rec (motive := fun _ => V2) (fun _ b1 c1 d1 e1 f1 g1 h1 v k Ds H => k ⟨a0, ⟨v, b1, c1, d1, e1, f1, g1, h1⟩, c0, d0, e0, f0, g0, h0⟩ Ds H) b0) F
noncomputable def s2_1 : Slot tf2 := ⟨[.o1, .o0], p2_1, fun F v => fV2 v (p2_1 F), fun _ _ _ _ _ => ⟨_, rfl, rfl⟩, fun _ v _ _ _ => fV2_eq v _ _ _ _⟩
def r2_1 : RO tf2 := ⟨.t [.o1, .o0], fun F => F.b.a, fun _ => rfl⟩
noncomputable def p2_2 (F : X2) : V2 := N8.rec (motive := fun _ => V2) (fun a0 b0 c0 d0 e0 f0 g0 h0 => N8.rec (motive := fun _ => V2) (fun _ b1 c1 d1 e1 f1 g1 h1 v k Ds H => k ⟨a0, b0, ⟨v, b1, c1, d1, e1, f1, g1, h1⟩, d0, e0, f0, g0, h0⟩ Ds H) c0) F
noncomputable def s2_2 : Slot tf2 := ⟨[.o2, .o0], p2_2, fun F v => fV2 v (p2_2 F), fun _ _ _ _ _ => ⟨_, rfl, rfl⟩, fun _ v _ _ _ => fV2_eq v _ _ _ _⟩
def r2_2 : RO tf2 := ⟨.t [.o2, .o0], fun F => F.c.a, fun _ => rfl⟩
noncomputable def p2_3 (F : X2) : V2 := N8.rec (motive := fun _ => V2) (fun a0 b0 c0 d0 e0 f0 g0 h0 => N8.rec (motive := fun _ => V2) (fun _ b1 c1 d1 e1 f1 g1 h1 v k Ds H => k ⟨a0, b0, c0, ⟨v, b1, c1, d1, e1, f1, g1, h1⟩, e0, f0, g0, h0⟩ Ds H) d0) F
noncomputable def s2_3 : Slot tf2 := ⟨[.o3, .o0], p2_3, fun F v => fV2 v (p2_3 F), fun _ _ _ _ _ => ⟨_, rfl, rfl⟩, fun _ v _ _ _ => fV2_eq v _ _ _ _⟩
def r2_3 : RO tf2 := ⟨.t [.o3, .o0], fun F => F.d.a, fun _ => rfl⟩
noncomputable def p2_4 (F : X2) : V2 := N8.rec (motive := fun _ => V2) (fun a0 b0 c0 d0 e0 f0 g0 h0 => N8.rec (motive := fun _ => V2) (fun _ b1 c1 d1 e1 f1 g1 h1 v k Ds H => k ⟨a0, b0, c0, d0, ⟨v, b1, c1, d1, e1, f1, g1, h1⟩, f0, g0, h0⟩ Ds H) e0) F
noncomputable def s2_4 : Slot tf2 := ⟨[.o4, .o0], p2_4, fun F v => fV2 v (p2_4 F), fun _ _ _ _ _ => ⟨_, rfl, rfl⟩, fun _ v _ _ _ => fV2_eq v _ _ _ _⟩
def r2_4 : RO tf2 := ⟨.t [.o4, .o0], fun F => F.e.a, fun _ => rfl⟩
noncomputable def p2_5 (F : X2) : V2 := N8.rec (motive := fun _ => V2) (fun a0 b0 c0 d0 e0 f0 g0 h0 => N8.rec (motive := fun _ => V2) (fun _ b1 c1 d1 e1 f1 g1 h1 v k Ds H => k ⟨a0, b0, c0, d0, e0, ⟨v, b1, c1, d1, e1, f1, g1, h1⟩, g0, h0⟩ Ds H) f0) F
noncomputable def s2_5 : Slot tf2 := ⟨[.o5, .o0], p2_5, fun F v => fV2 v (p2_5 F), fun _ _ _ _ _ => ⟨_, rfl, rfl⟩, fun _ v _ _ _ => fV2_eq v _ _ _ _⟩
def r2_5 : RO tf2 := ⟨.t [.o5, .o0], fun F => F.f.a, fun _ => rfl⟩
noncomputable def p2_6 (F : X2) : V2 := N8.rec (motive := fun _ => V2) (fun a0 b0 c0 d0 e0 f0 g0 h0 => N8.rec (motive := fun _ => V2) (fun _ b1 c1 d1 e1 f1 g1 h1 v k Ds H => k ⟨a0, b0, c0, d0, e0, f0, ⟨v, b1, c1, d1, e1, f1, g1, h1⟩, h0⟩ Ds H) g0) F
noncomputable def s2_6 : Slot tf2 := ⟨[.o6, .o0], p2_6, fun F v => fV2 v (p2_6 F), fun _ _ _ _ _ => ⟨_, rfl, rfl⟩, fun _ v _ _ _ => fV2_eq v _ _ _ _⟩
def r2_6 : RO tf2 := ⟨.t [.o6, .o0], fun F => F.g.a, fun _ => rfl⟩
noncomputable def p2_7 (F : X2) : V2 := N8.rec (motive := fun _ => V2) (fun a0 b0 c0 d0 e0 f0 g0 h0 => N8.rec (motive := fun _ => V2) (fun _ b1 c1 d1 e1 f1 g1 h1 v k Ds H => k ⟨a0, b0, c0, d0, e0, f0, g0, ⟨v, b1, c1, d1, e1, f1, g1, h1⟩⟩ Ds H) h0) F
noncomputable def s2_7 : Slot tf2 := ⟨[.o7, .o0], p2_7, fun F v => fV2 v (p2_7 F), fun _ _ _ _ _ => ⟨_, rfl, rfl⟩, fun _ v _ _ _ => fV2_eq v _ _ _ _⟩
def r2_7 : RO tf2 := ⟨.t [.o7, .o0], fun F => F.h.a, fun _ => rfl⟩
noncomputable def p2_8 (F : X2) : V2 := N8.rec (motive := fun _ => V2) (fun a0 b0 c0 d0 e0 f0 g0 h0 => N8.rec (motive := fun _ => V2) (fun a1 _ c1 d1 e1 f1 g1 h1 v k Ds H => k ⟨⟨a1, v, c1, d1, e1, f1, g1, h1⟩, b0, c0, d0, e0, f0, g0, h0⟩ Ds H) a0) F
noncomputable def s2_8 : Slot tf2 := ⟨[.o0, .o1], p2_8, fun F v => fV2 v (p2_8 F), fun _ _ _ _ _ => ⟨_, rfl, rfl⟩, fun _ v _ _ _ => fV2_eq v _ _ _ _⟩
def r2_8 : RO tf2 := ⟨.t [.o0, .o1], fun F => F.a.b, fun _ => rfl⟩
noncomputable def p2_9 (F : X2) : V2 := N8.rec (motive := fun _ => V2) (fun a0 b0 c0 d0 e0 f0 g0 h0 => N8.rec (motive := fun _ => V2) (fun a1 _ c1 d1 e1 f1 g1 h1 v k Ds H => k ⟨a0, ⟨a1, v, c1, d1, e1, f1, g1, h1⟩, c0, d0, e0, f0, g0, h0⟩ Ds H) b0) F
noncomputable def s2_9 : Slot tf2 := ⟨[.o1, .o1], p2_9, fun F v => fV2 v (p2_9 F), fun _ _ _ _ _ => ⟨_, rfl, rfl⟩, fun _ v _ _ _ => fV2_eq v _ _ _ _⟩
def r2_9 : RO tf2 := ⟨.t [.o1, .o1], fun F => F.b.b, fun _ => rfl⟩
noncomputable def p2_10 (F : X2) : V2 := N8.rec (motive := fun _ => V2) (fun a0 b0 c0 d0 e0 f0 g0 h0 => N8.rec (motive := fun _ => V2) (fun a1 _ c1 d1 e1 f1 g1 h1 v k Ds H => k ⟨a0, b0, ⟨a1, v, c1, d1, e1, f1, g1, h1⟩, d0, e0, f0, g0, h0⟩ Ds H) c0) F
noncomputable def s2_10 : Slot tf2 := ⟨[.o2, .o1], p2_10, fun F v => fV2 v (p2_10 F), fun _ _ _ _ _ => ⟨_, rfl, rfl⟩, fun _ v _ _ _ => fV2_eq v _ _ _ _⟩
def r2_10 : RO tf2 := ⟨.t [.o2, .o1], fun F => F.c.b, fun _ => rfl⟩
noncomputable def p2_11 (F : X2) : V2 := N8.rec (motive := fun _ => V2) (fun a0 b0 c0 d0 e0 f0 g0 h0 => N8.rec (motive := fun _ => V2) (fun a1 _ c1 d1 e1 f1 g1 h1 v k Ds H => k ⟨a0, b0, c0, ⟨a1, v, c1, d1, e1, f1, g1, h1⟩, e0, f0, g0, h0⟩ Ds H) d0) F
noncomputable def s2_11 : Slot tf2 := ⟨[.o3, .o1], p2_11, fun F v => fV2 v (p2_11 F), fun _ _ _ _ _ => ⟨_, rfl, rfl⟩, fun _ v _ _ _ => fV2_eq v _ _ _ _⟩
def r2_11 : RO tf2 := ⟨.t [.o3, .o1], fun F => F.d.b, fun _ => rfl⟩
noncomputable def p2_12 (F : X2) : V2 := N8.rec (motive := fun _ => V2) (fun a0 b0 c0 d0 e0 f0 g0 h0 => N8.rec (motive := fun _ => V2) (fun a1 _ c1 d1 e1 f1 g1 h1 v k Ds H => k ⟨a0, b0, c0, d0, ⟨a1, v, c1, d1, e1, f1, g1, h1⟩, f0, g0, h0⟩ Ds H) e0) F
noncomputable def s2_12 : Slot tf2 := ⟨[.o4, .o1], p2_12, fun F v => fV2 v (p2_12 F), fun _ _ _ _ _ => ⟨_, rfl, rfl⟩, fun _ v _ _ _ => fV2_eq v _ _ _ _⟩
def r2_12 : RO tf2 := ⟨.t [.o4, .o1], fun F => F.e.b, fun _ => rfl⟩
noncomputable def p2_13 (F : X2) : V2 := N8.rec (motive := fun _ => V2) (fun a0 b0 c0 d0 e0 f0 g0 h0 => N8.rec (motive := fun _ => V2) (fun a1 _ c1 d1 e1 f1 g1 h1 v k Ds H => k ⟨a0, b0, c0, d0, e0, ⟨a1, v, c1, d1, e1, f1, g1, h1⟩, g0, h0⟩ Ds H) f0) F
noncomputable def s2_13 : Slot tf2 := ⟨[.o5, .o1], p2_13, fun F v => fV2 v (p2_13 F), fun _ _ _ _ _ => ⟨_, rfl, rfl⟩, fun _ v _ _ _ => fV2_eq v _ _ _ _⟩
def r2_13 : RO tf2 := ⟨.t [.o5, .o1], fun F => F.f.b, fun _ => rfl⟩
noncomputable def p2_14 (F : X2) : V2 := N8.rec (motive := fun _ => V2) (fun a0 b0 c0 d0 e0 f0 g0 h0 => N8.rec (motive := fun _ => V2) (fun a1 _ c1 d1 e1 f1 g1 h1 v k Ds H => k ⟨a0, b0, c0, d0, e0, f0, ⟨a1, v, c1, d1, e1, f1, g1, h1⟩, h0⟩ Ds H) g0) F
noncomputable def s2_14 : Slot tf2 := ⟨[.o6, .o1], p2_14, fun F v => fV2 v (p2_14 F), fun _ _ _ _ _ => ⟨_, rfl, rfl⟩, fun _ v _ _ _ => fV2_eq v _ _ _ _⟩
def r2_14 : RO tf2 := ⟨.t [.o6, .o1], fun F => F.g.b, fun _ => rfl⟩
noncomputable def p2_15 (F : X2) : V2 := N8.rec (motive := fun _ => V2) (fun a0 b0 c0 d0 e0 f0 g0 h0 => N8.rec (motive := fun _ => V2) (fun a1 _ c1 d1 e1 f1 g1 h1 v k Ds H => k ⟨a0, b0, c0, d0, e0, f0, g0, ⟨a1, v, c1, d1, e1, f1, g1, h1⟩⟩ Ds H) h0) F
noncomputable def s2_15 : Slot tf2 := ⟨[.o7, .o1], p2_15, fun F v => fV2 v (p2_15 F), fun _ _ _ _ _ => ⟨_, rfl, rfl⟩, fun _ v _ _ _ => fV2_eq v _ _ _ _⟩
def r2_15 : RO tf2 := ⟨.t [.o7, .o1], fun F => F.h.b, fun _ => rfl⟩
noncomputable def p2_16 (F : X2) : V2 := N8.rec (motive := fun _ => V2) (fun a0 b0 c0 d0 e0 f0 g0 h0 => N8.rec (motive := fun _ => V2) (fun a1 b1 _ d1 e1 f1 g1 h1 v k Ds H => k ⟨⟨a1, b1, v, d1, e1, f1, g1, h1⟩, b0, c0, d0, e0, f0, g0, h0⟩ Ds H) a0) F
noncomputable def s2_16 : Slot tf2 := ⟨[.o0, .o2], p2_16, fun F v => fV2 v (p2_16 F), fun _ _ _ _ _ => ⟨_, rfl, rfl⟩, fun _ v _ _ _ => fV2_eq v _ _ _ _⟩
def r2_16 : RO tf2 := ⟨.t [.o0, .o2], fun F => F.a.c, fun _ => rfl⟩
noncomputable def p2_17 (F : X2) : V2 := N8.rec (motive := fun _ => V2) (fun a0 b0 c0 d0 e0 f0 g0 h0 => N8.rec (motive := fun _ => V2) (fun a1 b1 _ d1 e1 f1 g1 h1 v k Ds H => k ⟨a0, ⟨a1, b1, v, d1, e1, f1, g1, h1⟩, c0, d0, e0, f0, g0, h0⟩ Ds H) b0) F
noncomputable def s2_17 : Slot tf2 := ⟨[.o1, .o2], p2_17, fun F v => fV2 v (p2_17 F), fun _ _ _ _ _ => ⟨_, rfl, rfl⟩, fun _ v _ _ _ => fV2_eq v _ _ _ _⟩
def r2_17 : RO tf2 := ⟨.t [.o1, .o2], fun F => F.b.c, fun _ => rfl⟩
noncomputable def p2_18 (F : X2) : V2 := N8.rec (motive := fun _ => V2) (fun a0 b0 c0 d0 e0 f0 g0 h0 => N8.rec (motive := fun _ => V2) (fun a1 b1 _ d1 e1 f1 g1 h1 v k Ds H => k ⟨a0, b0, ⟨a1, b1, v, d1, e1, f1, g1, h1⟩, d0, e0, f0, g0, h0⟩ Ds H) c0) F
noncomputable def s2_18 : Slot tf2 := ⟨[.o2, .o2], p2_18, fun F v => fV2 v (p2_18 F), fun _ _ _ _ _ => ⟨_, rfl, rfl⟩, fun _ v _ _ _ => fV2_eq v _ _ _ _⟩
def r2_18 : RO tf2 := ⟨.t [.o2, .o2], fun F => F.c.c, fun _ => rfl⟩
noncomputable def p2_19 (F : X2) : V2 := N8.rec (motive := fun _ => V2) (fun a0 b0 c0 d0 e0 f0 g0 h0 => N8.rec (motive := fun _ => V2) (fun a1 b1 _ d1 e1 f1 g1 h1 v k Ds H => k ⟨a0, b0, c0, ⟨a1, b1, v, d1, e1, f1, g1, h1⟩, e0, f0, g0, h0⟩ Ds H) d0) F
noncomputable def s2_19 : Slot tf2 := ⟨[.o3, .o2], p2_19, fun F v => fV2 v (p2_19 F), fun _ _ _ _ _ => ⟨_, rfl, rfl⟩, fun _ v _ _ _ => fV2_eq v _ _ _ _⟩
def r2_19 : RO tf2 := ⟨.t [.o3, .o2], fun F => F.d.c, fun _ => rfl⟩
noncomputable def p2_20 (F : X2) : V2 := N8.rec (motive := fun _ => V2) (fun a0 b0 c0 d0 e0 f0 g0 h0 => N8.rec (motive := fun _ => V2) (fun a1 b1 _ d1 e1 f1 g1 h1 v k Ds H => k ⟨a0, b0, c0, d0, ⟨a1, b1, v, d1, e1, f1, g1, h1⟩, f0, g0, h0⟩ Ds H) e0) F
noncomputable def s2_20 : Slot tf2 := ⟨[.o4, .o2], p2_20, fun F v => fV2 v (p2_20 F), fun _ _ _ _ _ => ⟨_, rfl, rfl⟩, fun _ v _ _ _ => fV2_eq v _ _ _ _⟩
def r2_20 : RO tf2 := ⟨.t [.o4, .o2], fun F => F.e.c, fun _ => rfl⟩
noncomputable def p2_21 (F : X2) : V2 := N8.rec (motive := fun _ => V2) (fun a0 b0 c0 d0 e0 f0 g0 h0 => N8.rec (motive := fun _ => V2) (fun a1 b1 _ d1 e1 f1 g1 h1 v k Ds H => k ⟨a0, b0, c0, d0, e0, ⟨a1, b1, v, d1, e1, f1, g1, h1⟩, g0, h0⟩ Ds H) f0) F
noncomputable def s2_21 : Slot tf2 := ⟨[.o5, .o2], p2_21, fun F v => fV2 v (p2_21 F), fun _ _ _ _ _ => ⟨_, rfl, rfl⟩, fun _ v _ _ _ => fV2_eq v _ _ _ _⟩
def r2_21 : RO tf2 := ⟨.t [.o5, .o2], fun F => F.f.c, fun _ => rfl⟩
noncomputable def p2_22 (F : X2) : V2 := N8.rec (motive := fun _ => V2) (fun a0 b0 c0 d0 e0 f0 g0 h0 => N8.rec (motive := fun _ => V2) (fun a1 b1 _ d1 e1 f1 g1 h1 v k Ds H => k ⟨a0, b0, c0, d0, e0, f0, ⟨a1, b1, v, d1, e1, f1, g1, h1⟩, h0⟩ Ds H) g0) F
noncomputable def s2_22 : Slot tf2 := ⟨[.o6, .o2], p2_22, fun F v => fV2 v (p2_22 F), fun _ _ _ _ _ => ⟨_, rfl, rfl⟩, fun _ v _ _ _ => fV2_eq v _ _ _ _⟩
def r2_22 : RO tf2 := ⟨.t [.o6, .o2], fun F => F.g.c, fun _ => rfl⟩
noncomputable def p2_23 (F : X2) : V2 := N8.rec (motive := fun _ => V2) (fun a0 b0 c0 d0 e0 f0 g0 h0 => N8.rec (motive := fun _ => V2) (fun a1 b1 _ d1 e1 f1 g1 h1 v k Ds H => k ⟨a0, b0, c0, d0, e0, f0, g0, ⟨a1, b1, v, d1, e1, f1, g1, h1⟩⟩ Ds H) h0) F
noncomputable def s2_23 : Slot tf2 := ⟨[.o7, .o2], p2_23, fun F v => fV2 v (p2_23 F), fun _ _ _ _ _ => ⟨_, rfl, rfl⟩, fun _ v _ _ _ => fV2_eq v _ _ _ _⟩
def r2_23 : RO tf2 := ⟨.t [.o7, .o2], fun F => F.h.c, fun _ => rfl⟩
noncomputable def p2_24 (F : X2) : V2 := N8.rec (motive := fun _ => V2) (fun a0 b0 c0 d0 e0 f0 g0 h0 => N8.rec (motive := fun _ => V2) (fun a1 b1 c1 _ e1 f1 g1 h1 v k Ds H => k ⟨⟨a1, b1, c1, v, e1, f1, g1, h1⟩, b0, c0, d0, e0, f0, g0, h0⟩ Ds H) a0) F
noncomputable def s2_24 : Slot tf2 := ⟨[.o0, .o3], p2_24, fun F v => fV2 v (p2_24 F), fun _ _ _ _ _ => ⟨_, rfl, rfl⟩, fun _ v _ _ _ => fV2_eq v _ _ _ _⟩
def r2_24 : RO tf2 := ⟨.t [.o0, .o3], fun F => F.a.d, fun _ => rfl⟩
noncomputable def p2_25 (F : X2) : V2 := N8.rec (motive := fun _ => V2) (fun a0 b0 c0 d0 e0 f0 g0 h0 => N8.rec (motive := fun _ => V2) (fun a1 b1 c1 _ e1 f1 g1 h1 v k Ds H => k ⟨a0, ⟨a1, b1, c1, v, e1, f1, g1, h1⟩, c0, d0, e0, f0, g0, h0⟩ Ds H) b0) F
noncomputable def s2_25 : Slot tf2 := ⟨[.o1, .o3], p2_25, fun F v => fV2 v (p2_25 F), fun _ _ _ _ _ => ⟨_, rfl, rfl⟩, fun _ v _ _ _ => fV2_eq v _ _ _ _⟩
def r2_25 : RO tf2 := ⟨.t [.o1, .o3], fun F => F.b.d, fun _ => rfl⟩
noncomputable def p2_26 (F : X2) : V2 := N8.rec (motive := fun _ => V2) (fun a0 b0 c0 d0 e0 f0 g0 h0 => N8.rec (motive := fun _ => V2) (fun a1 b1 c1 _ e1 f1 g1 h1 v k Ds H => k ⟨a0, b0, ⟨a1, b1, c1, v, e1, f1, g1, h1⟩, d0, e0, f0, g0, h0⟩ Ds H) c0) F
noncomputable def s2_26 : Slot tf2 := ⟨[.o2, .o3], p2_26, fun F v => fV2 v (p2_26 F), fun _ _ _ _ _ => ⟨_, rfl, rfl⟩, fun _ v _ _ _ => fV2_eq v _ _ _ _⟩
def r2_26 : RO tf2 := ⟨.t [.o2, .o3], fun F => F.c.d, fun _ => rfl⟩
noncomputable def p2_27 (F : X2) : V2 := N8.rec (motive := fun _ => V2) (fun a0 b0 c0 d0 e0 f0 g0 h0 => N8.rec (motive := fun _ => V2) (fun a1 b1 c1 _ e1 f1 g1 h1 v k Ds H => k ⟨a0, b0, c0, ⟨a1, b1, c1, v, e1, f1, g1, h1⟩, e0, f0, g0, h0⟩ Ds H) d0) F
noncomputable def s2_27 : Slot tf2 := ⟨[.o3, .o3], p2_27, fun F v => fV2 v (p2_27 F), fun _ _ _ _ _ => ⟨_, rfl, rfl⟩, fun _ v _ _ _ => fV2_eq v _ _ _ _⟩
def r2_27 : RO tf2 := ⟨.t [.o3, .o3], fun F => F.d.d, fun _ => rfl⟩
noncomputable def p2_28 (F : X2) : V2 := N8.rec (motive := fun _ => V2) (fun a0 b0 c0 d0 e0 f0 g0 h0 => N8.rec (motive := fun _ => V2) (fun a1 b1 c1 _ e1 f1 g1 h1 v k Ds H => k ⟨a0, b0, c0, d0, ⟨a1, b1, c1, v, e1, f1, g1, h1⟩, f0, g0, h0⟩ Ds H) e0) F
noncomputable def s2_28 : Slot tf2 := ⟨[.o4, .o3], p2_28, fun F v => fV2 v (p2_28 F), fun _ _ _ _ _ => ⟨_, rfl, rfl⟩, fun _ v _ _ _ => fV2_eq v _ _ _ _⟩
def r2_28 : RO tf2 := ⟨.t [.o4, .o3], fun F => F.e.d, fun _ => rfl⟩
noncomputable def p2_29 (F : X2) : V2 := N8.rec (motive := fun _ => V2) (fun a0 b0 c0 d0 e0 f0 g0 h0 => N8.rec (motive := fun _ => V2) (fun a1 b1 c1 _ e1 f1 g1 h1 v k Ds H => k ⟨a0, b0, c0, d0, e0, ⟨a1, b1, c1, v, e1, f1, g1, h1⟩, g0, h0⟩ Ds H) f0) F
noncomputable def s2_29 : Slot tf2 := ⟨[.o5, .o3], p2_29, fun F v => fV2 v (p2_29 F), fun _ _ _ _ _ => ⟨_, rfl, rfl⟩, fun _ v _ _ _ => fV2_eq v _ _ _ _⟩
def r2_29 : RO tf2 := ⟨.t [.o5, .o3], fun F => F.f.d, fun _ => rfl⟩
noncomputable def p2_30 (F : X2) : V2 := N8.rec (motive := fun _ => V2) (fun a0 b0 c0 d0 e0 f0 g0 h0 => N8.rec (motive := fun _ => V2) (fun a1 b1 c1 _ e1 f1 g1 h1 v k Ds H => k ⟨a0, b0, c0, d0, e0, f0, ⟨a1, b1, c1, v, e1, f1, g1, h1⟩, h0⟩ Ds H) g0) F
noncomputable def s2_30 : Slot tf2 := ⟨[.o6, .o3], p2_30, fun F v => fV2 v (p2_30 F), fun _ _ _ _ _ => ⟨_, rfl, rfl⟩, fun _ v _ _ _ => fV2_eq v _ _ _ _⟩
def r2_30 : RO tf2 := ⟨.t [.o6, .o3], fun F => F.g.d, fun _ => rfl⟩
noncomputable def p2_31 (F : X2) : V2 := N8.rec (motive := fun _ => V2) (fun a0 b0 c0 d0 e0 f0 g0 h0 => N8.rec (motive := fun _ => V2) (fun a1 b1 c1 _ e1 f1 g1 h1 v k Ds H => k ⟨a0, b0, c0, d0, e0, f0, g0, ⟨a1, b1, c1, v, e1, f1, g1, h1⟩⟩ Ds H) h0) F
noncomputable def s2_31 : Slot tf2 := ⟨[.o7, .o3], p2_31, fun F v => fV2 v (p2_31 F), fun _ _ _ _ _ => ⟨_, rfl, rfl⟩, fun _ v _ _ _ => fV2_eq v _ _ _ _⟩
def r2_31 : RO tf2 := ⟨.t [.o7, .o3], fun F => F.h.d, fun _ => rfl⟩
noncomputable def p2_32 (F : X2) : V2 := N8.rec (motive := fun _ => V2) (fun a0 b0 c0 d0 e0 f0 g0 h0 => N8.rec (motive := fun _ => V2) (fun a1 b1 c1 d1 _ f1 g1 h1 v k Ds H => k ⟨⟨a1, b1, c1, d1, v, f1, g1, h1⟩, b0, c0, d0, e0, f0, g0, h0⟩ Ds H) a0) F
noncomputable def s2_32 : Slot tf2 := ⟨[.o0, .o4], p2_32, fun F v => fV2 v (p2_32 F), fun _ _ _ _ _ => ⟨_, rfl, rfl⟩, fun _ v _ _ _ => fV2_eq v _ _ _ _⟩
def r2_32 : RO tf2 := ⟨.t [.o0, .o4], fun F => F.a.e, fun _ => rfl⟩
noncomputable def p2_33 (F : X2) : V2 := N8.rec (motive := fun _ => V2) (fun a0 b0 c0 d0 e0 f0 g0 h0 => N8.rec (motive := fun _ => V2) (fun a1 b1 c1 d1 _ f1 g1 h1 v k Ds H => k ⟨a0, ⟨a1, b1, c1, d1, v, f1, g1, h1⟩, c0, d0, e0, f0, g0, h0⟩ Ds H) b0) F
noncomputable def s2_33 : Slot tf2 := ⟨[.o1, .o4], p2_33, fun F v => fV2 v (p2_33 F), fun _ _ _ _ _ => ⟨_, rfl, rfl⟩, fun _ v _ _ _ => fV2_eq v _ _ _ _⟩
def r2_33 : RO tf2 := ⟨.t [.o1, .o4], fun F => F.b.e, fun _ => rfl⟩
noncomputable def p2_34 (F : X2) : V2 := N8.rec (motive := fun _ => V2) (fun a0 b0 c0 d0 e0 f0 g0 h0 => N8.rec (motive := fun _ => V2) (fun a1 b1 c1 d1 _ f1 g1 h1 v k Ds H => k ⟨a0, b0, ⟨a1, b1, c1, d1, v, f1, g1, h1⟩, d0, e0, f0, g0, h0⟩ Ds H) c0) F
noncomputable def s2_34 : Slot tf2 := ⟨[.o2, .o4], p2_34, fun F v => fV2 v (p2_34 F), fun _ _ _ _ _ => ⟨_, rfl, rfl⟩, fun _ v _ _ _ => fV2_eq v _ _ _ _⟩
def r2_34 : RO tf2 := ⟨.t [.o2, .o4], fun F => F.c.e, fun _ => rfl⟩
noncomputable def p2_35 (F : X2) : V2 := N8.rec (motive := fun _ => V2) (fun a0 b0 c0 d0 e0 f0 g0 h0 => N8.rec (motive := fun _ => V2) (fun a1 b1 c1 d1 _ f1 g1 h1 v k Ds H => k ⟨a0, b0, c0, ⟨a1, b1, c1, d1, v, f1, g1, h1⟩, e0, f0, g0, h0⟩ Ds H) d0) F
noncomputable def s2_35 : Slot tf2 := ⟨[.o3, .o4], p2_35, fun F v => fV2 v (p2_35 F), fun _ _ _ _ _ => ⟨_, rfl, rfl⟩, fun _ v _ _ _ => fV2_eq v _ _ _ _⟩
def r2_35 : RO tf2 := ⟨.t [.o3, .o4], fun F => F.d.e, fun _ => rfl⟩
noncomputable def p2_36 (F : X2) : V2 := N8.rec (motive := fun _ => V2) (fun a0 b0 c0 d0 e0 f0 g0 h0 => N8.rec (motive := fun _ => V2) (fun a1 b1 c1 d1 _ f1 g1 h1 v k Ds H => k ⟨a0, b0, c0, d0, ⟨a1, b1, c1, d1, v, f1, g1, h1⟩, f0, g0, h0⟩ Ds H) e0) F
noncomputable def s2_36 : Slot tf2 := ⟨[.o4, .o4], p2_36, fun F v => fV2 v (p2_36 F), fun _ _ _ _ _ => ⟨_, rfl, rfl⟩, fun _ v _ _ _ => fV2_eq v _ _ _ _⟩
def r2_36 : RO tf2 := ⟨.t [.o4, .o4], fun F => F.e.e, fun _ => rfl⟩
noncomputable def p2_37 (F : X2) : V2 := N8.rec (motive := fun _ => V2) (fun a0 b0 c0 d0 e0 f0 g0 h0 => N8.rec (motive := fun _ => V2) (fun a1 b1 c1 d1 _ f1 g1 h1 v k Ds H => k ⟨a0, b0, c0, d0, e0, ⟨a1, b1, c1, d1, v, f1, g1, h1⟩, g0, h0⟩ Ds H) f0) F
noncomputable def s2_37 : Slot tf2 := ⟨[.o5, .o4], p2_37, fun F v => fV2 v (p2_37 F), fun _ _ _ _ _ => ⟨_, rfl, rfl⟩, fun _ v _ _ _ => fV2_eq v _ _ _ _⟩
def r2_37 : RO tf2 := ⟨.t [.o5, .o4], fun F => F.f.e, fun _ => rfl⟩
noncomputable def p2_38 (F : X2) : V2 := N8.rec (motive := fun _ => V2) (fun a0 b0 c0 d0 e0 f0 g0 h0 => N8.rec (motive := fun _ => V2) (fun a1 b1 c1 d1 _ f1 g1 h1 v k Ds H => k ⟨a0, b0, c0, d0, e0, f0, ⟨a1, b1, c1, d1, v, f1, g1, h1⟩, h0⟩ Ds H) g0) F
noncomputable def s2_38 : Slot tf2 := ⟨[.o6, .o4], p2_38, fun F v => fV2 v (p2_38 F), fun _ _ _ _ _ => ⟨_, rfl, rfl⟩, fun _ v _ _ _ => fV2_eq v _ _ _ _⟩
def r2_38 : RO tf2 := ⟨.t [.o6, .o4], fun F => F.g.e, fun _ => rfl⟩
noncomputable def p2_39 (F : X2) : V2 := N8.rec (motive := fun _ => V2) (fun a0 b0 c0 d0 e0 f0 g0 h0 => N8.rec (motive := fun _ => V2) (fun a1 b1 c1 d1 _ f1 g1 h1 v k Ds H => k ⟨a0, b0, c0, d0, e0, f0, g0, ⟨a1, b1, c1, d1, v, f1, g1, h1⟩⟩ Ds H) h0) F
noncomputable def s2_39 : Slot tf2 := ⟨[.o7, .o4], p2_39, fun F v => fV2 v (p2_39 F), fun _ _ _ _ _ => ⟨_, rfl, rfl⟩, fun _ v _ _ _ => fV2_eq v _ _ _ _⟩
def r2_39 : RO tf2 := ⟨.t [.o7, .o4], fun F => F.h.e, fun _ => rfl⟩
noncomputable def p2_40 (F : X2) : V2 := N8.rec (motive := fun _ => V2) (fun a0 b0 c0 d0 e0 f0 g0 h0 => N8.rec (motive := fun _ => V2) (fun a1 b1 c1 d1 e1 _ g1 h1 v k Ds H => k ⟨⟨a1, b1, c1, d1, e1, v, g1, h1⟩, b0, c0, d0, e0, f0, g0, h0⟩ Ds H) a0) F
noncomputable def s2_40 : Slot tf2 := ⟨[.o0, .o5], p2_40, fun F v => fV2 v (p2_40 F), fun _ _ _ _ _ => ⟨_, rfl, rfl⟩, fun _ v _ _ _ => fV2_eq v _ _ _ _⟩
def r2_40 : RO tf2 := ⟨.t [.o0, .o5], fun F => F.a.f, fun _ => rfl⟩
noncomputable def p2_41 (F : X2) : V2 := N8.rec (motive := fun _ => V2) (fun a0 b0 c0 d0 e0 f0 g0 h0 => N8.rec (motive := fun _ => V2) (fun a1 b1 c1 d1 e1 _ g1 h1 v k Ds H => k ⟨a0, ⟨a1, b1, c1, d1, e1, v, g1, h1⟩, c0, d0, e0, f0, g0, h0⟩ Ds H) b0) F
noncomputable def s2_41 : Slot tf2 := ⟨[.o1, .o5], p2_41, fun F v => fV2 v (p2_41 F), fun _ _ _ _ _ => ⟨_, rfl, rfl⟩, fun _ v _ _ _ => fV2_eq v _ _ _ _⟩
def r2_41 : RO tf2 := ⟨.t [.o1, .o5], fun F => F.b.f, fun _ => rfl⟩
noncomputable def p2_42 (F : X2) : V2 := N8.rec (motive := fun _ => V2) (fun a0 b0 c0 d0 e0 f0 g0 h0 => N8.rec (motive := fun _ => V2) (fun a1 b1 c1 d1 e1 _ g1 h1 v k Ds H => k ⟨a0, b0, ⟨a1, b1, c1, d1, e1, v, g1, h1⟩, d0, e0, f0, g0, h0⟩ Ds H) c0) F
noncomputable def s2_42 : Slot tf2 := ⟨[.o2, .o5], p2_42, fun F v => fV2 v (p2_42 F), fun _ _ _ _ _ => ⟨_, rfl, rfl⟩, fun _ v _ _ _ => fV2_eq v _ _ _ _⟩
def r2_42 : RO tf2 := ⟨.t [.o2, .o5], fun F => F.c.f, fun _ => rfl⟩
noncomputable def p2_43 (F : X2) : V2 := N8.rec (motive := fun _ => V2) (fun a0 b0 c0 d0 e0 f0 g0 h0 => N8.rec (motive := fun _ => V2) (fun a1 b1 c1 d1 e1 _ g1 h1 v k Ds H => k ⟨a0, b0, c0, ⟨a1, b1, c1, d1, e1, v, g1, h1⟩, e0, f0, g0, h0⟩ Ds H) d0) F
noncomputable def s2_43 : Slot tf2 := ⟨[.o3, .o5], p2_43, fun F v => fV2 v (p2_43 F), fun _ _ _ _ _ => ⟨_, rfl, rfl⟩, fun _ v _ _ _ => fV2_eq v _ _ _ _⟩
def r2_43 : RO tf2 := ⟨.t [.o3, .o5], fun F => F.d.f, fun _ => rfl⟩
noncomputable def p2_44 (F : X2) : V2 := N8.rec (motive := fun _ => V2) (fun a0 b0 c0 d0 e0 f0 g0 h0 => N8.rec (motive := fun _ => V2) (fun a1 b1 c1 d1 e1 _ g1 h1 v k Ds H => k ⟨a0, b0, c0, d0, ⟨a1, b1, c1, d1, e1, v, g1, h1⟩, f0, g0, h0⟩ Ds H) e0) F
noncomputable def s2_44 : Slot tf2 := ⟨[.o4, .o5], p2_44, fun F v => fV2 v (p2_44 F), fun _ _ _ _ _ => ⟨_, rfl, rfl⟩, fun _ v _ _ _ => fV2_eq v _ _ _ _⟩
def r2_44 : RO tf2 := ⟨.t [.o4, .o5], fun F => F.e.f, fun _ => rfl⟩
noncomputable def p2_45 (F : X2) : V2 := N8.rec (motive := fun _ => V2) (fun a0 b0 c0 d0 e0 f0 g0 h0 => N8.rec (motive := fun _ => V2) (fun a1 b1 c1 d1 e1 _ g1 h1 v k Ds H => k ⟨a0, b0, c0, d0, e0, ⟨a1, b1, c1, d1, e1, v, g1, h1⟩, g0, h0⟩ Ds H) f0) F
noncomputable def s2_45 : Slot tf2 := ⟨[.o5, .o5], p2_45, fun F v => fV2 v (p2_45 F), fun _ _ _ _ _ => ⟨_, rfl, rfl⟩, fun _ v _ _ _ => fV2_eq v _ _ _ _⟩
def r2_45 : RO tf2 := ⟨.t [.o5, .o5], fun F => F.f.f, fun _ => rfl⟩
noncomputable def p2_46 (F : X2) : V2 := N8.rec (motive := fun _ => V2) (fun a0 b0 c0 d0 e0 f0 g0 h0 => N8.rec (motive := fun _ => V2) (fun a1 b1 c1 d1 e1 _ g1 h1 v k Ds H => k ⟨a0, b0, c0, d0, e0, f0, ⟨a1, b1, c1, d1, e1, v, g1, h1⟩, h0⟩ Ds H) g0) F
noncomputable def s2_46 : Slot tf2 := ⟨[.o6, .o5], p2_46, fun F v => fV2 v (p2_46 F), fun _ _ _ _ _ => ⟨_, rfl, rfl⟩, fun _ v _ _ _ => fV2_eq v _ _ _ _⟩
def r2_46 : RO tf2 := ⟨.t [.o6, .o5], fun F => F.g.f, fun _ => rfl⟩
noncomputable def p2_47 (F : X2) : V2 := N8.rec (motive := fun _ => V2) (fun a0 b0 c0 d0 e0 f0 g0 h0 => N8.rec (motive := fun _ => V2) (fun a1 b1 c1 d1 e1 _ g1 h1 v k Ds H => k ⟨a0, b0, c0, d0, e0, f0, g0, ⟨a1, b1, c1, d1, e1, v, g1, h1⟩⟩ Ds H) h0) F
noncomputable def s2_47 : Slot tf2 := ⟨[.o7, .o5], p2_47, fun F v => fV2 v (p2_47 F), fun _ _ _ _ _ => ⟨_, rfl, rfl⟩, fun _ v _ _ _ => fV2_eq v _ _ _ _⟩
def r2_47 : RO tf2 := ⟨.t [.o7, .o5], fun F => F.h.f, fun _ => rfl⟩
noncomputable def p2_48 (F : X2) : V2 := N8.rec (motive := fun _ => V2) (fun a0 b0 c0 d0 e0 f0 g0 h0 => N8.rec (motive := fun _ => V2) (fun a1 b1 c1 d1 e1 f1 _ h1 v k Ds H => k ⟨⟨a1, b1, c1, d1, e1, f1, v, h1⟩, b0, c0, d0, e0, f0, g0, h0⟩ Ds H) a0) F
noncomputable def s2_48 : Slot tf2 := ⟨[.o0, .o6], p2_48, fun F v => fV2 v (p2_48 F), fun _ _ _ _ _ => ⟨_, rfl, rfl⟩, fun _ v _ _ _ => fV2_eq v _ _ _ _⟩
def r2_48 : RO tf2 := ⟨.t [.o0, .o6], fun F => F.a.g, fun _ => rfl⟩
noncomputable def p2_49 (F : X2) : V2 := N8.rec (motive := fun _ => V2) (fun a0 b0 c0 d0 e0 f0 g0 h0 => N8.rec (motive := fun _ => V2) (fun a1 b1 c1 d1 e1 f1 _ h1 v k Ds H => k ⟨a0, ⟨a1, b1, c1, d1, e1, f1, v, h1⟩, c0, d0, e0, f0, g0, h0⟩ Ds H) b0) F
noncomputable def s2_49 : Slot tf2 := ⟨[.o1, .o6], p2_49, fun F v => fV2 v (p2_49 F), fun _ _ _ _ _ => ⟨_, rfl, rfl⟩, fun _ v _ _ _ => fV2_eq v _ _ _ _⟩
def r2_49 : RO tf2 := ⟨.t [.o1, .o6], fun F => F.b.g, fun _ => rfl⟩
noncomputable def p2_50 (F : X2) : V2 := N8.rec (motive := fun _ => V2) (fun a0 b0 c0 d0 e0 f0 g0 h0 => N8.rec (motive := fun _ => V2) (fun a1 b1 c1 d1 e1 f1 _ h1 v k Ds H => k ⟨a0, b0, ⟨a1, b1, c1, d1, e1, f1, v, h1⟩, d0, e0, f0, g0, h0⟩ Ds H) c0) F
noncomputable def s2_50 : Slot tf2 := ⟨[.o2, .o6], p2_50, fun F v => fV2 v (p2_50 F), fun _ _ _ _ _ => ⟨_, rfl, rfl⟩, fun _ v _ _ _ => fV2_eq v _ _ _ _⟩
def r2_50 : RO tf2 := ⟨.t [.o2, .o6], fun F => F.c.g, fun _ => rfl⟩
noncomputable def p2_51 (F : X2) : V2 := N8.rec (motive := fun _ => V2) (fun a0 b0 c0 d0 e0 f0 g0 h0 => N8.rec (motive := fun _ => V2) (fun a1 b1 c1 d1 e1 f1 _ h1 v k Ds H => k ⟨a0, b0, c0, ⟨a1, b1, c1, d1, e1, f1, v, h1⟩, e0, f0, g0, h0⟩ Ds H) d0) F
noncomputable def s2_51 : Slot tf2 := ⟨[.o3, .o6], p2_51, fun F v => fV2 v (p2_51 F), fun _ _ _ _ _ => ⟨_, rfl, rfl⟩, fun _ v _ _ _ => fV2_eq v _ _ _ _⟩
def r2_51 : RO tf2 := ⟨.t [.o3, .o6], fun F => F.d.g, fun _ => rfl⟩
noncomputable def p2_52 (F : X2) : V2 := N8.rec (motive := fun _ => V2) (fun a0 b0 c0 d0 e0 f0 g0 h0 => N8.rec (motive := fun _ => V2) (fun a1 b1 c1 d1 e1 f1 _ h1 v k Ds H => k ⟨a0, b0, c0, d0, ⟨a1, b1, c1, d1, e1, f1, v, h1⟩, f0, g0, h0⟩ Ds H) e0) F
noncomputable def s2_52 : Slot tf2 := ⟨[.o4, .o6], p2_52, fun F v => fV2 v (p2_52 F), fun _ _ _ _ _ => ⟨_, rfl, rfl⟩, fun _ v _ _ _ => fV2_eq v _ _ _ _⟩
def r2_52 : RO tf2 := ⟨.t [.o4, .o6], fun F => F.e.g, fun _ => rfl⟩
noncomputable def p2_53 (F : X2) : V2 := N8.rec (motive := fun _ => V2) (fun a0 b0 c0 d0 e0 f0 g0 h0 => N8.rec (motive := fun _ => V2) (fun a1 b1 c1 d1 e1 f1 _ h1 v k Ds H => k ⟨a0, b0, c0, d0, e0, ⟨a1, b1, c1, d1, e1, f1, v, h1⟩, g0, h0⟩ Ds H) f0) F
noncomputable def s2_53 : Slot tf2 := ⟨[.o5, .o6], p2_53, fun F v => fV2 v (p2_53 F), fun _ _ _ _ _ => ⟨_, rfl, rfl⟩, fun _ v _ _ _ => fV2_eq v _ _ _ _⟩
def r2_53 : RO tf2 := ⟨.t [.o5, .o6], fun F => F.f.g, fun _ => rfl⟩
noncomputable def p2_54 (F : X2) : V2 := N8.rec (motive := fun _ => V2) (fun a0 b0 c0 d0 e0 f0 g0 h0 => N8.rec (motive := fun _ => V2) (fun a1 b1 c1 d1 e1 f1 _ h1 v k Ds H => k ⟨a0, b0, c0, d0, e0, f0, ⟨a1, b1, c1, d1, e1, f1, v, h1⟩, h0⟩ Ds H) g0) F
noncomputable def s2_54 : Slot tf2 := ⟨[.o6, .o6], p2_54, fun F v => fV2 v (p2_54 F), fun _ _ _ _ _ => ⟨_, rfl, rfl⟩, fun _ v _ _ _ => fV2_eq v _ _ _ _⟩
def r2_54 : RO tf2 := ⟨.t [.o6, .o6], fun F => F.g.g, fun _ => rfl⟩
noncomputable def p2_55 (F : X2) : V2 := N8.rec (motive := fun _ => V2) (fun a0 b0 c0 d0 e0 f0 g0 h0 => N8.rec (motive := fun _ => V2) (fun a1 b1 c1 d1 e1 f1 _ h1 v k Ds H => k ⟨a0, b0, c0, d0, e0, f0, g0, ⟨a1, b1, c1, d1, e1, f1, v, h1⟩⟩ Ds H) h0) F
noncomputable def s2_55 : Slot tf2 := ⟨[.o7, .o6], p2_55, fun F v => fV2 v (p2_55 F), fun _ _ _ _ _ => ⟨_, rfl, rfl⟩, fun _ v _ _ _ => fV2_eq v _ _ _ _⟩
def r2_55 : RO tf2 := ⟨.t [.o7, .o6], fun F => F.h.g, fun _ => rfl⟩
noncomputable def p2_56 (F : X2) : V2 := N8.rec (motive := fun _ => V2) (fun a0 b0 c0 d0 e0 f0 g0 h0 => N8.rec (motive := fun _ => V2) (fun a1 b1 c1 d1 e1 f1 g1 _ v k Ds H => k ⟨⟨a1, b1, c1, d1, e1, f1, g1, v⟩, b0, c0, d0, e0, f0, g0, h0⟩ Ds H) a0) F
noncomputable def s2_56 : Slot tf2 := ⟨[.o0, .o7], p2_56, fun F v => fV2 v (p2_56 F), fun _ _ _ _ _ => ⟨_, rfl, rfl⟩, fun _ v _ _ _ => fV2_eq v _ _ _ _⟩
def r2_56 : RO tf2 := ⟨.t [.o0, .o7], fun F => F.a.h, fun _ => rfl⟩
noncomputable def p2_57 (F : X2) : V2 := N8.rec (motive := fun _ => V2) (fun a0 b0 c0 d0 e0 f0 g0 h0 => N8.rec (motive := fun _ => V2) (fun a1 b1 c1 d1 e1 f1 g1 _ v k Ds H => k ⟨a0, ⟨a1, b1, c1, d1, e1, f1, g1, v⟩, c0, d0, e0, f0, g0, h0⟩ Ds H) b0) F
noncomputable def s2_57 : Slot tf2 := ⟨[.o1, .o7], p2_57, fun F v => fV2 v (p2_57 F), fun _ _ _ _ _ => ⟨_, rfl, rfl⟩, fun _ v _ _ _ => fV2_eq v _ _ _ _⟩
def r2_57 : RO tf2 := ⟨.t [.o1, .o7], fun F => F.b.h, fun _ => rfl⟩
noncomputable def p2_58 (F : X2) : V2 := N8.rec (motive := fun _ => V2) (fun a0 b0 c0 d0 e0 f0 g0 h0 => N8.rec (motive := fun _ => V2) (fun a1 b1 c1 d1 e1 f1 g1 _ v k Ds H => k ⟨a0, b0, ⟨a1, b1, c1, d1, e1, f1, g1, v⟩, d0, e0, f0, g0, h0⟩ Ds H) c0) F
noncomputable def s2_58 : Slot tf2 := ⟨[.o2, .o7], p2_58, fun F v => fV2 v (p2_58 F), fun _ _ _ _ _ => ⟨_, rfl, rfl⟩, fun _ v _ _ _ => fV2_eq v _ _ _ _⟩
def r2_58 : RO tf2 := ⟨.t [.o2, .o7], fun F => F.c.h, fun _ => rfl⟩
noncomputable def p2_59 (F : X2) : V2 := N8.rec (motive := fun _ => V2) (fun a0 b0 c0 d0 e0 f0 g0 h0 => N8.rec (motive := fun _ => V2) (fun a1 b1 c1 d1 e1 f1 g1 _ v k Ds H => k ⟨a0, b0, c0, ⟨a1, b1, c1, d1, e1, f1, g1, v⟩, e0, f0, g0, h0⟩ Ds H) d0) F
noncomputable def s2_59 : Slot tf2 := ⟨[.o3, .o7], p2_59, fun F v => fV2 v (p2_59 F), fun _ _ _ _ _ => ⟨_, rfl, rfl⟩, fun _ v _ _ _ => fV2_eq v _ _ _ _⟩
def r2_59 : RO tf2 := ⟨.t [.o3, .o7], fun F => F.d.h, fun _ => rfl⟩
noncomputable def p2_60 (F : X2) : V2 := N8.rec (motive := fun _ => V2) (fun a0 b0 c0 d0 e0 f0 g0 h0 => N8.rec (motive := fun _ => V2) (fun a1 b1 c1 d1 e1 f1 g1 _ v k Ds H => k ⟨a0, b0, c0, d0, ⟨a1, b1, c1, d1, e1, f1, g1, v⟩, f0, g0, h0⟩ Ds H) e0) F
noncomputable def s2_60 : Slot tf2 := ⟨[.o4, .o7], p2_60, fun F v => fV2 v (p2_60 F), fun _ _ _ _ _ => ⟨_, rfl, rfl⟩, fun _ v _ _ _ => fV2_eq v _ _ _ _⟩
def r2_60 : RO tf2 := ⟨.t [.o4, .o7], fun F => F.e.h, fun _ => rfl⟩
noncomputable def p2_61 (F : X2) : V2 := N8.rec (motive := fun _ => V2) (fun a0 b0 c0 d0 e0 f0 g0 h0 => N8.rec (motive := fun _ => V2) (fun a1 b1 c1 d1 e1 f1 g1 _ v k Ds H => k ⟨a0, b0, c0, d0, e0, ⟨a1, b1, c1, d1, e1, f1, g1, v⟩, g0, h0⟩ Ds H) f0) F
noncomputable def s2_61 : Slot tf2 := ⟨[.o5, .o7], p2_61, fun F v => fV2 v (p2_61 F), fun _ _ _ _ _ => ⟨_, rfl, rfl⟩, fun _ v _ _ _ => fV2_eq v _ _ _ _⟩
def r2_61 : RO tf2 := ⟨.t [.o5, .o7], fun F => F.f.h, fun _ => rfl⟩
noncomputable def p2_62 (F : X2) : V2 := N8.rec (motive := fun _ => V2) (fun a0 b0 c0 d0 e0 f0 g0 h0 => N8.rec (motive := fun _ => V2) (fun a1 b1 c1 d1 e1 f1 g1 _ v k Ds H => k ⟨a0, b0, c0, d0, e0, f0, ⟨a1, b1, c1, d1, e1, f1, g1, v⟩, h0⟩ Ds H) g0) F
noncomputable def s2_62 : Slot tf2 := ⟨[.o6, .o7], p2_62, fun F v => fV2 v (p2_62 F), fun _ _ _ _ _ => ⟨_, rfl, rfl⟩, fun _ v _ _ _ => fV2_eq v _ _ _ _⟩
def r2_62 : RO tf2 := ⟨.t [.o6, .o7], fun F => F.g.h, fun _ => rfl⟩
end Cr
end Go.Proofs.YtjhbabgcoemecaaDoor
namespace Go.Proofs.YtjhbabgcoemecaaDoor
namespace Cr
open Go Go.RowKit

/-! ### what a value is -/
inductive VI where
  | no
  | p (k : IntKind) (n : Nat)
  | m (k : IntKind) (n : Nat)
noncomputable def asI (v : Value) : VI :=
  Value.rec (motive_1 := fun _ => VI) (motive_2 := fun _ => Unit) (motive_3 := fun _ => Unit)
    (fun _ => .no) (fun k n => Int.rec (motive := fun _ => VI) (fun a => .p k a) (fun a => .m k a) n) (fun _ _ => .no) (fun _ _ _ => .no) (fun _ => .no) (fun _ => .no) (fun _ _ _ => .no)
    (fun _ => .no) (fun _ => .no) (fun _ _ _ _ _ => .no) .no (fun _ _ _ => .no) .no (fun _ _ => .no) (fun _ _ => .no) (fun _ _ => ()) () (fun _ _ _ _ => ()) v
theorem asI_p {v : Value} {k : IntKind} {n : Nat} (h : asI v = .p k n) : v = .int k (.ofNat n) := by
  cases v with
  | int j a =>
    cases a with
    | ofNat a =>
      have h' : VI.p j a = .p k n := h
      cases h'; rfl
    | negSucc a =>
      have h' : VI.m j a = .p k n := h
      cases h'
  | _ => exact absurd (show VI.no = .p k n from h) (fun e => by cases e)
inductive VP where
  | no
  | p (i o : Nat)
noncomputable def asA (a : Option Addr) : VP := Option.rec (motive := fun _ => VP) .no (fun a => Addr.rec (motive := fun _ => VP) (fun i o s => Option.rec (motive := fun _ => VP) (.p i o) (fun _ => .no) s) a) a
noncomputable def asP (v : Value) : VP :=
  Value.rec (motive_1 := fun _ => VP) (motive_2 := fun _ => Unit) (motive_3 := fun _ => Unit)
    (fun _ => .no) (fun _ _ => .no) (fun _ _ => .no) (fun _ _ _ => .no) (fun _ => .no) asA (fun _ _ _ => .no)
    (fun _ => .no) (fun _ => .no) (fun _ _ _ _ _ => .no) .no (fun _ _ _ => .no) .no (fun _ _ => .no) (fun _ _ => .no) (fun _ _ => ()) () (fun _ _ _ _ => ()) v
theorem asA_p {a : Option Addr} {i o : Nat} (h : asA a = .p i o) : a = some ⟨i, o, none⟩ := by
  cases a with
  | none => exact absurd (show VP.no = .p i o from h) (fun e => by cases e)
  | some a =>
    obtain ⟨j, p, s⟩ := a
    cases s with
    | none =>
      have h' : VP.p j p = .p i o := h
      cases h'; rfl
    | some s => exact absurd (show VP.no = .p i o from h) (fun e => by cases e)
theorem asP_p {v : Value} {i o : Nat} (h : asP v = .p i o) : v = .pointer (some ⟨i, o, none⟩) := by
  cases v with
  | pointer a =>
    have h' : asA a = .p i o := h
    rw [asA_p h']
  | _ => exact absurd (show VP.no = .p i o from h) (fun e => by cases e)
inductive VS where
  | no
  | z (n c : Nat)
  | s (i o n c : Nat)
noncomputable def asS (v : Value) : VS :=
  Value.rec (motive_1 := fun _ => VS) (motive_2 := fun _ => Unit) (motive_3 := fun _ => Unit)
    (fun _ => .no) (fun _ _ => .no) (fun _ _ => .no) (fun _ _ _ => .no) (fun _ => .no) (fun _ => .no)
    (fun a n c => Option.rec (motive := fun _ => VS) (.z n c) (fun a => Addr.rec (motive := fun _ => VS) (fun i o s => Option.rec (motive := fun _ => VS) (.s i o n c) (fun _ => .no) s) a) a)
    (fun _ => .no) (fun _ => .no) (fun _ _ _ _ _ => .no) .no (fun _ _ _ => .no) .no (fun _ _ => .no) (fun _ _ => .no) (fun _ _ => ()) () (fun _ _ _ _ => ()) v
theorem asS_s {v : Value} {i o n c : Nat} (h : asS v = .s i o n c) : v = .slice (some ⟨i, o, none⟩) n c := by
  cases v with
  | slice a m d =>
    cases a with
    | none => exact absurd (show VS.z m d = .s i o n c from h) (fun e => by cases e)
    | some a =>
      obtain ⟨j, p, s⟩ := a
      cases s with
      | none =>
        have h' : VS.s j p m d = .s i o n c := h
        cases h'; rfl
      | some s => exact absurd (show VS.no = .s i o n c from h) (fun e => by cases e)
  | _ => exact absurd (show VS.no = .s i o n c from h) (fun e => by cases e)
theorem asS_z {v : Value} {n c : Nat} (h : asS v = .z n c) : v = .slice none n c := by
  cases v with
  | slice a m d =>
    cases a with
    | none =>
      have h' : VS.z m d = .z n c := h
      cases h'; rfl
    | some a =>
      obtain ⟨j, p, s⟩ := a
      cases s with
      | none => exact absurd (show VS.s j p m d = .z n c from h) (fun e => by cases e)
      | some s => exact absurd (show VS.no = .z n c from h) (fun e => by cases e)
  | _ => exact absurd (show VS.no = .z n c from h) (fun e => by cases e)

/-! ### kinds of integers -/
noncomputable def kn (k : IntKind) : Nat := IntKind.rec (motive := fun _ => Nat) 0 1 2 3 4 5 6 7 k
noncomputable def mx (k : IntKind) : Nat := IntKind.rec (motive := fun _ => Nat) 127 32767 2147483647 9223372036854775807 255 65535 4294967295 18446744073709551615 k
theorem kn_inj {k j : IntKind} (h : Nat.beq (kn k) (kn j) = true) : k = j := by
  cases k <;> cases j <;> first | rfl | (exact absurd h (by decide))
theorem wrap_fits {k : IntKind} {n : Nat} (h : n ≤ mx k) : k.wrap (Int.ofNat n) = Int.ofNat n := by
  cases k <;> simp only [mx] at h <;> simp [IntKind.wrap, IntKind.bits, IntKind.signed] <;> omega

/-- an operation done as the slow layer does it -/
noncomputable def slw2 {R : Type} (g : Value → Value → Option Value) (x y : Value) (bad : R) (k : Value → R) : R := Option.rec (motive := fun _ => R) bad (fun v => forceV v k) (g x y)
theorem slw2_ok {R : Type} (g : Value → Value → Option Value) (x y : Value) (bad : R) (k : Value → R) : slw2 g x y bad k = bad ∨ ∃ v, g x y = some v ∧ slw2 g x y bad k = k v := by
  unfold slw2
  cases h : g x y with
  | none => exact .inl rfl
  | some v => exact .inr ⟨v, rfl, forceV_eq v k⟩
noncomputable def slw1 {R : Type} (g : Value → Option Value) (x : Value) (bad : R) (k : Value → R) : R := Option.rec (motive := fun _ => R) bad (fun v => forceV v k) (g x)
theorem slw1_ok {R : Type} (g : Value → Option Value) (x : Value) (bad : R) (k : Value → R) : slw1 g x bad k = bad ∨ ∃ v, g x = some v ∧ slw1 g x bad k = k v := by
  unfold slw1
  cases h : g x with
  | none => exact .inl rfl
  | some v => exact .inr ⟨v, rfl, forceV_eq v k⟩
noncomputable def b1 (g : Value → Option Value) : B1 := ⟨g, slw1 g, slw1_ok g⟩
noncomputable def b2 (g : Value → Value → Option Value) : B2 := ⟨g, slw2 g, slw2_ok g⟩

/-- two integers of a kind, not negative; anything else: els -/
noncomputable def fI2 {R : Type} (x y : Value) (els : R) (g : IntKind → Nat → Nat → R) : R :=
  VI.rec (motive := fun _ => R) els (fun k a => VI.rec (motive := fun _ => R) els (fun j b => Bool.rec (motive := fun _ => R) els (g k a b) (Nat.beq (kn k) (kn j))) (fun _ _ => els) (asI y)) (fun _ _ => els) (asI x)
theorem fI2_ok {R : Type} (x y : Value) (els : R) (g : IntKind → Nat → Nat → R) : fI2 x y els g = els ∨ ∃ k a b, x = .int k (.ofNat a) ∧ y = .int k (.ofNat b) ∧ fI2 x y els g = g k a b := by
  unfold fI2
  cases hx : asI x with
  | no => exact .inl rfl
  | m k a => exact .inl rfl
  | p k a =>
    cases hy : asI y with
    | no => exact .inl rfl
    | m j b => exact .inl rfl
    | p j b =>
      simp only
      cases hk : Nat.beq (kn k) (kn j) with
      | false => exact .inl rfl
      | true =>
        have := kn_inj hk
        subst this
        exact .inr ⟨k, a, b, asI_p hx, asI_p hy, rfl⟩
theorem orElse_ok {R : Type} {bad r : R} {g : Value → Value → Option Value} {x y : Value} {k : Value → R} (h : r = slw2 g x y bad k) : r = bad ∨ ∃ v, g x y = some v ∧ r = k v := by
  rw [h]; exact slw2_ok g x y bad k
theorem bin_add {k : IntKind} {a b : Nat} (h : Nat.ble (Nat.add a b) (mx k) = true) : pBin .add (.int k (.ofNat a)) (.int k (.ofNat b)) = some (.int k (.ofNat (Nat.add a b))) := by
  have h' : a + b ≤ mx k := Nat.le_of_ble_eq_true h
  have := wrap_fits h'
  simp only [pBin, binOp, Op.intArith, pure, pur]
  simp only [ne_eq, not_true_eq_false, if_false, Option.some.injEq]
  exact congrArg (Value.int k) this
noncomputable def bAdd : B2 where
  slow := pBin .add
  fast := fun x y bad k => fI2 x y (slw2 (pBin .add) x y bad k) fun d a b => Bool.rec (motive := fun _ => _) (slw2 (pBin .add) x y bad k) (forceN (Nat.add a b) fun s => k (.int d (.ofNat s))) (Nat.ble (Nat.add a b) (mx d))
  ok := by
    intro R x y bad k
    rcases fI2_ok x y (slw2 (pBin .add) x y bad k) (fun d a b => Bool.rec (motive := fun _ => _) (slw2 (pBin .add) x y bad k) (forceN (Nat.add a b) fun s => k (.int d (.ofNat s))) (Nat.ble (Nat.add a b) (mx d))) with h | ⟨d, a, b, rfl, rfl, h⟩
    · exact orElse_ok h
    · cases hb : Nat.ble (Nat.add a b) (mx d) with
      | false => rw [hb] at h; exact orElse_ok h
      | true =>
        rw [hb] at h
        exact .inr ⟨_, bin_add hb, h.trans (forceN_eq _ _)⟩
theorem bin_sub {k : IntKind} {a b : Nat} (h : Nat.ble b a = true) (h2 : Nat.ble a (mx k) = true) : pBin .sub (.int k (.ofNat a)) (.int k (.ofNat b)) = some (.int k (.ofNat (Nat.sub a b))) := by
  have h' : b ≤ a := Nat.le_of_ble_eq_true h
  have h2' : a ≤ mx k := Nat.le_of_ble_eq_true h2
  have hs : a - b ≤ mx k := Nat.le_trans (Nat.sub_le a b) h2'
  have := wrap_fits hs
  have e : (Int.ofNat a - Int.ofNat b) = Int.ofNat (a - b) := by
    show (a : Int) - (b : Int) = ((a - b : Nat) : Int)
    omega
  simp only [pBin, binOp, Op.intArith, pure, pur]
  simp only [ne_eq, not_true_eq_false, if_false, Option.some.injEq]
  rw [e]
  exact congrArg (Value.int k) this
noncomputable def bSub : B2 where
  slow := pBin .sub
  fast := fun x y bad k => fI2 x y (slw2 (pBin .sub) x y bad k) fun d a b => Bool.rec (motive := fun _ => _) (slw2 (pBin .sub) x y bad k) (Bool.rec (motive := fun _ => _) (slw2 (pBin .sub) x y bad k) (forceN (Nat.sub a b) fun s => k (.int d (.ofNat s))) (Nat.ble a (mx d))) (Nat.ble b a)
  ok := by
    intro R x y bad k
    rcases fI2_ok x y (slw2 (pBin .sub) x y bad k) (fun d a b => Bool.rec (motive := fun _ => _) (slw2 (pBin .sub) x y bad k) (Bool.rec (motive := fun _ => _) (slw2 (pBin .sub) x y bad k) (forceN (Nat.sub a b) fun s => k (.int d (.ofNat s))) (Nat.ble a (mx d))) (Nat.ble b a)) with h | ⟨d, a, b, rfl, rfl, h⟩
    · exact orElse_ok h
    · cases hb : Nat.ble b a with
      | false => rw [hb] at h; exact orElse_ok h
      | true =>
        rw [hb] at h
        simp only at h
        cases hc : Nat.ble a (mx d) with
        | false => rw [hc] at h; exact orElse_ok h
        | true =>
          rw [hc] at h
          exact .inr ⟨_, bin_sub hb hc, h.trans (forceN_eq _ _)⟩
/-- comparisons -/
noncomputable def fC {R : Type} (op : BinOp) (c : Nat → Nat → Bool) (x y : Value) (bad : R) (k : Value → R) : R :=
  fI2 x y (slw2 (pBin op) x y bad k) fun _ a b => Bool.rec (motive := fun _ => R) (k (.bool false)) (k (.bool true)) (c a b)
theorem fC_ok {op : BinOp} {c : Nat → Nat → Bool} (hc : ∀ d a b, pBin op (.int d (.ofNat a)) (.int d (.ofNat b)) = some (.bool (c a b))) {R : Type} (x y : Value) (bad : R) (k : Value → R) : fC op c x y bad k = bad ∨ ∃ v, pBin op x y = some v ∧ fC op c x y bad k = k v := by
  unfold fC
  rcases fI2_ok x y (slw2 (pBin op) x y bad k) (fun _ a b => Bool.rec (motive := fun _ => R) (k (.bool false)) (k (.bool true)) (c a b)) with h | ⟨d, a, b, rfl, rfl, h⟩
  · exact orElse_ok h
  · refine .inr ⟨_, hc d a b, h.trans ?_⟩
    cases c a b <;> rfl
noncomputable def cLt (a b : Nat) : Bool := Nat.ble (Nat.succ a) b
noncomputable def cGt (a b : Nat) : Bool := Nat.ble (Nat.succ b) a
noncomputable def cGe (a b : Nat) : Bool := Nat.ble b a
noncomputable def cEq (a b : Nat) : Bool := Nat.beq a b
noncomputable def cNe (a b : Nat) : Bool := Bool.rec (motive := fun _ => Bool) true false (Nat.beq a b)
theorem bin_cmp {op : BinOp} {d : IntKind} {a b : Nat} {r : Bool} (h : pur (Op.intCmp op (.ofNat a) (.ofNat b)) = some (.bool r)) (ho : op = .lss ∨ op = .leq ∨ op = .gtr ∨ op = .geq ∨ op = .eql ∨ op = .neq) : pBin op (.int d (.ofNat a)) (.int d (.ofNat b)) = some (.bool r) := by
  rcases ho with rfl | rfl | rfl | rfl | rfl | rfl <;>
  · simp only [pBin, binOp]
    simp only [ne_eq, not_true_eq_false, if_false]
    exact h
theorem ble_dec (a b : Nat) : Nat.ble a b = decide (a ≤ b) := by
  cases h : Nat.ble a b with
  | true => simp [Nat.le_of_ble_eq_true h]
  | false =>
    have : ¬ a ≤ b := fun e => by rw [Nat.ble_eq_true_of_le e] at h; cases h
    simp [this]
noncomputable def bLt : B2 := ⟨pBin .lss, fC .lss cLt, fC_ok fun d a b => bin_cmp (by
  show some (Value.bool (decide ((a : Int) < (b : Int)))) = _
  rw [cLt, ble_dec]; congr 2; simp [Nat.succ_le_iff]) (by simp)⟩
noncomputable def bGt : B2 := ⟨pBin .gtr, fC .gtr cGt, fC_ok fun d a b => bin_cmp (by
  show some (Value.bool (decide ((a : Int) > (b : Int)))) = _
  rw [cGt, ble_dec]; congr 2; simp [Nat.succ_le_iff]) (by simp)⟩
noncomputable def bGe : B2 := ⟨pBin .geq, fC .geq cGe, fC_ok fun d a b => bin_cmp (by
  show some (Value.bool (decide ((a : Int) ≥ (b : Int)))) = _
  rw [cGe, ble_dec]; congr 2; simp) (by simp)⟩
noncomputable def bEq : B2 := ⟨pBin .eql, fC .eql cEq, fC_ok fun d a b => bin_cmp (by
  show some (Value.bool ((a : Int) == (b : Int))) = _
  rw [cEq]; congr 2
  cases h : Nat.beq a b with
  | true => rw [Nat.eq_of_beq_eq_true h]; simp
  | false =>
    have : a ≠ b := Nat.ne_of_beq_eq_false h
    simp; omega) (by simp)⟩
noncomputable def bNe : B2 := ⟨pBin .neq, fC .neq cNe, fC_ok fun d a b => bin_cmp (by
  show some (Value.bool ((a : Int) != (b : Int))) = _
  rw [cNe]; congr 2
  cases h : Nat.beq a b with
  | true => rw [Nat.eq_of_beq_eq_true h]; simp
  | false =>
    have : a ≠ b := Nat.ne_of_beq_eq_false h
    simp; omega) (by simp)⟩

/-! ### places -/
noncomputable def bFa (off : Nat) : B1 where
  slow := pFa off
  fast := fun x bad k => VP.rec (motive := fun _ => _) bad (fun i o => forceN (Nat.add o off) fun o => k (.pointer (some ⟨i, o, none⟩))) (asP x)
  ok := by
    intro R x bad k
    cases h : asP x with
    | no => exact .inl rfl
    | p i o => rw [asP_p h]; exact .inr ⟨_, rfl, forceN_eq _ _⟩
noncomputable def bIxs (size : Nat) : B2 where
  slow := pIxs size
  fast := fun x y bad k => VS.rec (motive := fun _ => _) bad (fun _ _ => bad) (fun i o n _ => VI.rec (motive := fun _ => _) bad (fun _ m => Bool.rec (motive := fun _ => _) bad (forceN (Nat.add o (Nat.mul m size)) fun o => k (.pointer (some ⟨i, o, none⟩))) (Nat.ble (Nat.succ m) n)) (fun _ _ => bad) (asI y)) (asS x)
  ok := by
    intro R x y bad k
    cases h : asS x with
    | no => exact .inl rfl
    | z n c => exact .inl rfl
    | s i o n c =>
      rw [asS_s h]
      simp only
      cases hy : asI y with
      | no => exact .inl rfl
      | m d a => exact .inl rfl
      | p d a =>
        rw [asI_p hy]
        simp only
        cases hb : Nat.ble (Nat.succ a) n with
        | false => exact .inl rfl
        | true =>
          refine .inr ⟨_, ?_, forceN_eq _ _⟩
          have hb' : Nat.blt a n = true := hb
          simp [pIxs, hb']
noncomputable def bLen : B1 where
  slow := pLen
  fast := fun x bad k => VS.rec (motive := fun _ => _) (slw1 pLen x bad k) (fun n _ => k (.int .i64 (.ofNat n))) (fun _ _ n _ => k (.int .i64 (.ofNat n))) (asS x)
  ok := by
    intro R x bad k
    cases h : asS x with
    | no => exact slw1_ok _ _ _ _
    | z n c => rw [asS_z h]; exact .inr ⟨_, rfl, rfl⟩
    | s i o n c => rw [asS_s h]; exact .inr ⟨_, rfl, rfl⟩
noncomputable def bNil : B1 where
  slow := pNil
  fast := fun x bad k => VP.rec (motive := fun _ => _) bad (fun i o => k (.pointer (some ⟨i, o, none⟩))) (asP x)
  ok := by
    intro R x bad k
    cases h : asP x with
    | no => exact .inl rfl
    | p i o => rw [asP_p h]; exact .inr ⟨_, rfl, rfl⟩
/-- integers that fit are converted as they are -/
noncomputable def bCv (d : IntKind) : B1 where
  slow := pConv d
  fast := fun x bad k => VI.rec (motive := fun _ => _) (slw1 (pConv d) x bad k) (fun _ n => Bool.rec (motive := fun _ => _) (slw1 (pConv d) x bad k) (k (.int d (.ofNat n))) (Nat.ble n (mx d))) (fun _ _ => slw1 (pConv d) x bad k) (asI x)
  ok := by
    intro R x bad k
    cases h : asI x with
    | no => exact slw1_ok _ _ _ _
    | m _ _ => exact slw1_ok _ _ _ _
    | p j n =>
      simp only
      cases hb : Nat.ble n (mx d) with
      | false => exact slw1_ok _ _ _ _
      | true =>
        rw [asI_p h]
        refine .inr ⟨_, ?_, rfl⟩
        show some (Value.int d (d.wrap (Int.ofNat n))) = _
        rw [wrap_fits (Nat.le_of_ble_eq_true hb)]

/-! ### memory -/
noncomputable def fLd {R : Type} (x : Value) (H : AH) (bad : R) (k : Value → R) : R :=
  VP.rec (motive := fun _ => R) bad (fun i off => Option.rec (motive := fun _ => R) bad (fun b => Blk.rec (motive := fun _ => R) (fun _ n zl zs t => Bool.rec (motive := fun _ => R) bad (k (cellv zl zs t off)) (Nat.ble (Nat.succ off) n)) (fun _ _ => bad) (fun _ _ _ _ _ _ _ _ _ => bad) (fun _ => bad) b) (Tr.get H.t i)) (asP x)
theorem fLd_ok {R : Type} (x : Value) (H : AH) (bad : R) (k : Value → R) : fLd x H bad k = bad ∨ ∃ v, rLd x H = some v ∧ fLd x H bad k = k v := by
  unfold fLd
  cases h : asP x with
  | no => exact .inl rfl
  | p i off =>
    rw [asP_p h]
    simp only
    cases hg : Tr.get H.t i with
    | none => exact .inl rfl
    | some b =>
      cases b with
      | cells rw n zl zs t =>
        simp only
        cases hb : Nat.ble (Nat.succ off) n with
        | false => exact .inl rfl
        | true =>
          refine .inr ⟨_, ?_, rfl⟩
          have hg' : H.get i = some (.cells rw n zl zs t) := hg
          have hb' : Nat.blt off n = true := hb
          simp [rLd, sLd, hg', hb']
      | map _ _ => exact .inl rfl
      | loop _ _ _ _ _ _ _ _ _ => exact .inl rfl
      | dfr _ => exact .inl rfl
noncomputable def bLd : BR1 := ⟨rLd, fLd, fLd_ok⟩
/-- the memory with another block at a place -/
noncomputable def putB {R : Type} (H : AH) (i : Nat) (b : Blk) (k : AH → R) : R := AH.rec (motive := fun _ => R) (fun t n => Tr.putK 64 t i (some b) fun t => k ⟨t, n⟩) H
theorem putB_eq {R : Type} (H : AH) (i : Nat) (b : Blk) (k : AH → R) : putB H i b k = k (H.set i (some b)) := by
  obtain ⟨t, n⟩ := H
  show (Tr.putK 64 t i (some b) fun t => k ⟨t, n⟩) = _
  rw [Tr.putK_eq]; rfl
noncomputable def fSt {R : Type} (x v : Value) (H : AH) (bad : R) (k : Value → AH → R) : R :=
  VP.rec (motive := fun _ => R) bad (fun i off => Option.rec (motive := fun _ => R) bad (fun b => Blk.rec (motive := fun _ => R)
    (fun rw n zl zs t => Bool.rec (motive := fun _ => R) bad (Bool.rec (motive := fun _ => R) bad (forceV v fun v => Tr.putK 64 t off (some v) fun t => putB H i (.cells true n zl zs t) (k undef)) (Nat.blt off n && (Nat.blt n 9223372036854775807 && one v))) rw)
    (fun _ _ => bad) (fun _ _ _ _ _ _ _ _ _ => bad) (fun _ => bad) b) (Tr.get H.t i)) (asP x)
theorem fSt_ok {R : Type} (x v : Value) (H : AH) (bad : R) (k : Value → AH → R) : fSt x v H bad k = bad ∨ ∃ u H', sSt x v H = .ok u H' ∧ fSt x v H bad k = k u H' := by
  unfold fSt
  cases h : asP x with
  | no => exact .inl rfl
  | p i off =>
    rw [asP_p h]
    simp only
    cases hg : Tr.get H.t i with
    | none => exact .inl rfl
    | some b =>
      cases b with
      | cells rw n zl zs t =>
        simp only
        cases rw with
        | false => exact .inl rfl
        | true =>
          simp only
          cases hb : (Nat.blt off n && (Nat.blt n 9223372036854775807 && one v)) with
          | false => exact .inl rfl
          | true =>
            refine .inr ⟨undef, H.set i (some (.cells true n zl zs (t.put off (some v)))), ?_, ?_⟩
            · have hg' : H.get i = some (.cells true n zl zs t) := hg
              simp only [sSt, hg', hb, cond_true]
            · simp only
              rw [forceV_eq, Tr.putK_eq, putB_eq]
      | map _ _ => exact .inl rfl
      | loop _ _ _ _ _ _ _ _ _ => exact .inl rfl
      | dfr _ => exact .inl rfl
noncomputable def bSt : BM2 := ⟨sSt, fSt, fSt_ok⟩
end Cr
end Go.Proofs.YtjhbabgcoemecaaDoor
namespace Go.Proofs.YtjhbabgcoemecaaDoor
namespace Cr
open Go Go.RowKit

inductive VB where
  | no
  | f
  | t
noncomputable def asB (v : Value) : VB :=
  Value.rec (motive_1 := fun _ => VB) (motive_2 := fun _ => Unit) (motive_3 := fun _ => Unit)
    (fun b => Bool.rec (motive := fun _ => VB) .f .t b) (fun _ _ => .no) (fun _ _ => .no) (fun _ _ _ => .no) (fun _ => .no) (fun _ => .no) (fun _ _ _ => .no)
    (fun _ => .no) (fun _ => .no) (fun _ _ _ _ _ => .no) .no (fun _ _ _ => .no) .no (fun _ _ => .no) (fun _ _ => .no) (fun _ _ => ()) () (fun _ _ _ _ => ()) v
theorem asB_t {v : Value} (h : asB v = .t) : v = .bool true := by
  cases v with
  | bool b =>
    cases b with
    | true => rfl
    | false => exact absurd (show VB.f = .t from h) (fun e => by cases e)
  | _ => exact absurd (show VB.no = .t from h) (fun e => by cases e)
theorem asB_f {v : Value} (h : asB v = .f) : v = .bool false := by
  cases v with
  | bool b =>
    cases b with
    | false => rfl
    | true => exact absurd (show VB.t = .f from h) (fun e => by cases e)
  | _ => exact absurd (show VB.no = .f from h) (fun e => by cases e)

section ins
variable {F : Type} {tf : F → F8}
/-- an operation with a guard: g the guard's value, p its path, w what it must be -/
noncomputable def iGd (g : RO tf) (p : List Oct) (w : Bool) (i : Ins tf) (d : Option (Slot tf)) (hp : g.o = .t p) (hg : i.den.1.gd = none) (hd : i.den.1.dst = dP d) : Ins tf where
  den := (⟨some (p, w), i.den.1.c, i.den.1.xs, i.den.1.dst⟩, i.den.2)
  run := fun cv k f Ds H => VB.rec (motive := fun _ => XO F) (dPut d f undef k Ds H) (Bool.rec (motive := fun _ => XO F) (i.run cv k f Ds H) (dPut d f undef k Ds H) w) (Bool.rec (motive := fun _ => XO F) (dPut d f undef k Ds H) (i.run cv k f Ds H) w) (asB (g.get f))
  ok := by
    intro P sp self cv hcv k K hk f Ds H
    have hgv : g.get f = F8.get p (tf f) := by rw [← g.ok, hp]; rfl
    have hun : Rf tf (dPut d f undef k Ds H) (K (setD i.den.1.dst (tf f) undef) Ds H) := by rw [hd]; exact dPut_rf d hk f undef Ds H
    have hru : Rf tf (i.run cv k f Ds H) (stp (runOp P sp self none) i.den K (tf f) Ds H) := i.ok P sp self cv hcv k K hk f Ds H
    have hst : stp (runOp P sp self none) i.den K (tf f) Ds H = (match runOp P sp self none i.den.1.c (getL (tf f) i.den.1.xs) Ds H with
        | .bad => .bad
        | .ok v Ds H => bif rechk (setD i.den.1.dst (tf f) v) H i.den.2 then K (setD i.den.1.dst (tf f) v) Ds H else .bad) := by
      unfold stp
      rw [hg]; rfl
    rw [hst] at hru
    have want : ∀ b, F8.get p (tf f) = .bool b → wantG (some (p, w)) (tf f) = (bif w then b else Bool.not b) := fun b e => by
      show (match F8.get p (tf f) with
        | .bool b => bif w then b else Bool.not b
        | _ => false) = _
      rw [e]
    cases hb : asB (g.get f) with
    | no =>
      have hw : wantG (some (p, w)) (tf f) = false := by
        rw [hgv] at hb
        show (match F8.get p (tf f) with
          | .bool b => bif w then b else Bool.not b
          | _ => false) = false
        generalize F8.get p (tf f) = u at hb ⊢
        cases u with
        | bool b => cases b <;> exact absurd hb (fun e => by cases e)
        | _ => rfl
      show Rf tf (dPut d f undef k Ds H) _
      unfold stp
      rw [hw]
      exact hun
    | t =>
      have e := asB_t hb
      rw [hgv] at e
      have hw := want true e
      cases w with
      | true =>
        show Rf tf (i.run cv k f Ds H) _
        unfold stp
        rw [hw]
        exact hru
      | false =>
        show Rf tf (dPut d f undef k Ds H) _
        unfold stp
        rw [hw]
        exact hun
    | f =>
      have e := asB_f hb
      rw [hgv] at e
      have hw := want false e
      cases w with
      | true =>
        show Rf tf (dPut d f undef k Ds H) _
        unfold stp
        rw [hw]
        exact hun
      | false =>
        show Rf tf (i.run cv k f Ds H) _
        unfold stp
        rw [hw]
        exact hru
/-- rechecks behind an operation -/
structure RC (tf : F → F8) where
  den : COper
  chk : F → AH → Bool
  ok : ∀ f H, chk f H = true → rchk1 (tf f) H den = true
noncomputable def chks (f : F) (H : AH) (l : List (RC tf)) : Bool := List.rec (motive := fun _ => Bool) true (fun c _ ih => bif c.chk f H then ih else false) l
theorem chks_ok (f : F) (H : AH) : ∀ l : List (RC tf), chks f H l = true → rechk (tf f) H (l.map RC.den) = true
  | [], _ => rfl
  | c :: l, h => by
    have h' : (bif c.chk f H then chks f H l else false) = true := h
    cases hc : c.chk f H with
    | false => rw [hc] at h'; cases h'
    | true =>
      rw [hc] at h'
      show (bif rchk1 (tf f) H c.den then rechk (tf f) H (l.map RC.den) else false) = true
      rw [c.ok f H hc]
      exact chks_ok f H l h'
noncomputable def iRc (i : Ins tf) (l : List (RC tf)) (h2 : i.den.2 = []) : Ins tf where
  den := (i.den.1, l.map RC.den)
  run := fun cv k f Ds H => i.run cv (fun f Ds H => bif chks f H l then k f Ds H else .bad) f Ds H
  ok := by
    intro P sp self cv hcv k K hk f Ds H
    have := i.ok P sp self cv hcv (fun f Ds H => bif chks f H l then k f Ds H else .bad) (fun F' Ds H => bif rechk F' H (l.map RC.den) then K F' Ds H else .bad) (fun f Ds H => by
      cases hc : chks f H l with
      | false => trivial
      | true =>
        show Rf tf (k f Ds H) _
        rw [chks_ok f H l hc]
        exact hk f Ds H) f Ds H
    have e : stp (runOp P sp self none) i.den (fun F' Ds H => bif rechk F' H (l.map RC.den) then K F' Ds H else .bad) (tf f) Ds H =
        stp (runOp P sp self none) (i.den.1, l.map RC.den) K (tf f) Ds H ∨ wantG i.den.1.gd (tf f) = false := by
      cases hw : wantG i.den.1.gd (tf f) with
      | false => exact .inr rfl
      | true =>
        left
        unfold stp
        rw [hw, h2]
        simp only
        cases runOp P sp self none i.den.1.c (getL (tf f) i.den.1.xs) Ds H with
        | bad => rfl
        | ok v Ds H => rfl
    rcases e with e | hw
    · rw [e] at this; exact this
    · -- not wanted: nothing was done, so the recheck is stricter
      have : Rf tf (i.run cv (fun f Ds H => bif chks f H l then k f Ds H else .bad) f Ds H) (stp (runOp P sp self none) i.den (fun F' Ds H => bif rechk F' H (l.map RC.den) then K F' Ds H else .bad) (tf f) Ds H) := this
      unfold stp at this ⊢
      rw [hw] at this ⊢
      simp only at this ⊢
      cases hc : rechk (setD i.den.1.dst (tf f) undef) H (l.map RC.den) with
      | true => rw [hc] at this; exact this
      | false =>
        rw [hc] at this
        revert this
        generalize i.run cv (fun f Ds H => bif chks f H l then k f Ds H else .bad) f Ds H = o
        intro this
        cases o with
        | bad => trivial
        | out _ _ _ _ => cases this

noncomputable def runs (cv : CV) (l : List (Ins tf)) (k : XK F) : XK F := List.rec (motive := fun _ => XK F) k (fun i _ ih => i.run cv ih) l
theorem runs_rf {P : Program} {sp : Spec} {self : Self} {cv : CV} (hcv : CvR cv (callV P sp self)) {k : XK F} {K : F8 → List ADef → AH → Out} (hk : ∀ f Ds H, Rf tf (k f Ds H) (K (tf f) Ds H)) :
    ∀ (l : List (Ins tf)) (f : F) (Ds : List ADef) (H : AH), Rf tf (runs cv l k f Ds H) (stps (runOp P sp self none) (l.map Ins.den) K (tf f) Ds H)
  | [], f, Ds, H => hk f Ds H
  | i :: l, f, Ds, H => i.ok P sp self cv hcv (runs cv l k) (stps (runOp P sp self none) (l.map Ins.den) K) (runs_rf hcv hk l) f Ds H

/-! ### code -/
inductive XC (tf : F → F8) where
  | bad
  | skip
  | ret
  | exit (i : Nat)
  | reg (l : List (Ins tf))
  | rg (l : List (Ins tf)) (b : XC tf)
  | seq (a b : XC tf)
  | cond (x : RO tf) (a b : XC tf)
  | block (id : Nat) (b : XC tf)
  | loop (b : XC tf)
  | scope (b : XC tf)
abbrev XS (tf : F → F8) := XC tf → XK F
noncomputable def oN : XK F := fun f Ds H => .out .norm f Ds H
noncomputable def eSeq (self : XS tf) (a b : XC tf) : XK F := fun f Ds H =>
  XO.rec (motive := fun _ => XO F) .bad (fun e f Ds H => Ex.rec (motive := fun _ => XO F) (self b f Ds H) (.out .ret f Ds H) (fun i => .out (.exit i) f Ds H) e) (self a f Ds H)
noncomputable def eCond (self : XS tf) (x : RO tf) (a b : XC tf) : XK F := fun f => VB.rec (motive := fun _ => List ADef → AH → XO F) (fun _ _ => .bad) (self b f) (self a f) (asB (x.get f))
noncomputable def eBlock (self : XS tf) (id : Nat) (b : XC tf) : XK F := fun f Ds H =>
  XO.rec (motive := fun _ => XO F) .bad (fun e f Ds H => Ex.rec (motive := fun _ => XO F) (.out .norm f Ds H) (.out .ret f Ds H) (fun i => Bool.rec (motive := fun _ => XO F) (.out (.exit i) f Ds H) (.out .norm f Ds H) (Nat.beq i id)) e) (self b f Ds H)
noncomputable def eLoop (self : XS tf) (b : XC tf) : XK F := fun f Ds H =>
  XO.rec (motive := fun _ => XO F) .bad (fun e f Ds H => Ex.rec (motive := fun _ => XO F) (self (.loop b) f Ds H) (.out .ret f Ds H) (fun i => .out (.exit i) f Ds H) e) (self b f Ds H)
noncomputable def xevC (x : XC tf) : CV → XS tf → XK F :=
  XC.rec (motive := fun _ => CV → XS tf → XK F) (fun _ _ _ _ _ => .bad) (fun _ _ f Ds H => .out .norm f Ds H) (fun _ _ f Ds H => .out .ret f Ds H) (fun i _ _ f Ds H => .out (.exit i) f Ds H)
    (fun l cv _ => runs cv l oN) (fun l b _ cv self => runs cv l (self b)) (fun a b _ _ _ self => eSeq self a b) (fun x a b _ _ _ self => eCond self x a b) (fun id b _ _ self => eBlock self id b) (fun b _ _ self => eLoop self b) (fun b _ _ self => self b) x
noncomputable def xev (cv : CV) (n : Nat) : XS tf := Nat.rec (motive := fun _ => XS tf) (fun _ _ _ _ => .bad) (fun _ ih x => xevC x cv ih) n

/-! ### what fast code stands for -/
inductive DC where
  | bad
  | skip
  | ret
  | exit (i : Nat)
  | reg (o : Option (List (COper × List COper)))
  | seq (a b : DC)
  | cond (o : Option Opd) (a b : DC)
  | block (id : Nat) (b : DC)
  | loop (b : DC)
  | scope (b : DC)
def XC.den : XC tf → DC
  | .bad => .bad
  | .skip => .skip
  | .ret => .ret
  | .exit i => .exit i
  | .reg l => .reg (some (l.map Ins.den))
  | .rg l b => .seq (.reg (some (l.map Ins.den))) b.den
  | .seq a b => .seq a.den b.den
  | .cond x a b => .cond (some x.o) a.den b.den
  | .block id b => .block id b.den
  | .loop b => .loop b.den
  | .scope b => .scope b.den
noncomputable def cReg (cmp : Cmp) (G D N : Nat) (ops : Array Oper) (draw : Bool) : Option (List (COper × List COper)) :=
  bif draw then (cDrawn cmp G D N ops).map (fun l => l.map RS.q) else (cOps cmp G D N ops ops.toList).map (fun l => l.map fun o => (o, []))
noncomputable def cG (cmp : Cmp) (G D N : Nat) : XC tf → Code → DC
  | .bad, _ => .bad
  | .skip, c => match c with
    | .skip => .skip
    | .label _ => .skip
    | _ => .bad
  | .ret, c => match c with
    | .ret => .ret
    | _ => .bad
  | .exit _, c => match c with
    | .exit i => .exit i
    | _ => .bad
  | .reg _, c => match c with
    | .region _ ops draw => .reg (cReg cmp G D N ops draw)
    | _ => .bad
  | .rg _ b, c => match c with
    | .seq (.region _ ops draw) d => .seq (.reg (cReg cmp G D N ops draw)) (cG cmp G D N b d)
    | _ => .bad
  | .seq a b, c => match c with
    | .seq a' b' => .seq (cG cmp G D N a a') (cG cmp G D N b b')
    | _ => .bad
  | .cond _ a b, c => match c with
    | .cond x a' b' => .cond (cOpd G D N x) (cG cmp G D N a a') (cG cmp G D N b b')
    | _ => .bad
  | .block _ b, c => match c with
    | .block id d => .block id (cG cmp G D N b d)
    | _ => .bad
  | .loop b, c => match c with
    | .loop d => .loop (cG cmp G D N b d)
    | _ => .bad
  | .scope b, c => match c with
    | .scope d => .scope (cG cmp G D N b d)
    | _ => .bad
end ins
end Cr
end Go.Proofs.YtjhbabgcoemecaaDoor
namespace Go.Proofs.YtjhbabgcoemecaaDoor
namespace Cr
open Go Go.RowKit

/-- the slow layer with a fixed evaluator for calls -/
noncomputable def evD (P : Program) (sp : Spec) (G : Nat) (cmp : Cmp) (selfc : Self) (n : Nat) : Self :=
  Nat.rec (motive := fun _ => Self) (fun _ _ _ _ _ => .bad) (fun _ ih => evC P sp G cmp (drwE G cmp) selfc ih) n
theorem evD_ok {P : Program} {G B : Nat} {w0 : World} {sp : Spec} {cmp : Cmp} (hcmp : CmpOk P cmp) (hsp : SpOk P G B w0 sp) (hdrw : DrwOk P G B w0 (drwE G cmp)) {selfc : Self} (hs : Snd P G B w0 selfc) : ∀ n, Snd P G B w0 (evD P sp G cmp selfc n)
  | 0 => fun ctx c F Ds H e F' Ds' H' h => by cases h
  | n + 1 => evC_ok hcmp hsp hdrw hs (evD_ok hcmp hsp hdrw hs n)

def oBnd (o : Out) (K : F8 → List ADef → AH → Out) : Out :=
  match o with
  | .out .norm F Ds H => K F Ds H
  | r => r
theorem stp_bnd (run : COp → List Value → List ADef → AH → ORs) (q : COper × List COper) (K1 K : F8 → List ADef → AH → Out) (F : F8) (Ds : List ADef) (H : AH) :
    stp run q (fun F Ds H => oBnd (K1 F Ds H) K) F Ds H = oBnd (stp run q K1 F Ds H) K := by
  unfold stp
  cases wantG q.1.gd F with
  | false => rfl
  | true =>
    simp only
    cases run q.1.c (getL F q.1.xs) Ds H with
    | bad => rfl
    | ok v Ds H =>
      simp only
      cases rechk (setD q.1.dst F v) H q.2 <;> rfl
theorem stps_bnd (run : COp → List Value → List ADef → AH → ORs) (K : F8 → List ADef → AH → Out) : ∀ (l : List (COper × List COper)) (F : F8) (Ds : List ADef) (H : AH),
    stps run l K F Ds H = oBnd (stps run l (fun F Ds H => .out .norm F Ds H) F Ds H) K
  | [], F, Ds, H => rfl
  | q :: l, F, Ds, H => by
    show stp run q (stps run l K) F Ds H = oBnd (stp run q (stps run l fun F Ds H => .out .norm F Ds H) F Ds H) K
    rw [← stp_bnd]
    congr 1
    funext F Ds H
    exact stps_bnd run K l F Ds H
/-- a region, as a list of steps -/
theorem evC_region {P : Program} {sp : Spec} {G : Nat} {cmp : Cmp} {selfc self : Self} {ctx : Ctx} {id : Nat} {ops : Array Oper} {draw : Bool} {l : List (COper × List COper)} (h : cReg cmp G ctx.D ctx.N ops draw = some l) (F : F8) (Ds : List ADef) (H : AH) :
    evC P sp G cmp (drwE G cmp) selfc self ctx (.region id ops draw) F Ds H = stps (runOp P sp selfc ctx.ro) l (fun F Ds H => .out .norm F Ds H) F Ds H := by
  cases draw with
  | true =>
    change (cDrawn cmp G ctx.D ctx.N ops).map (fun l => l.map RS.q) = some l at h
    show Option.rec (motive := fun _ => Out) .bad (fun plan => evPlan (runOp P sp selfc ctx.ro) plan F Ds H) (cDrawn cmp G ctx.D ctx.N ops) = _
    cases hc : cDrawn cmp G ctx.D ctx.N ops with
    | none => rw [hc] at h; cases h
    | some plan =>
      rw [hc] at h
      simp only [Option.map_some, Option.some.injEq] at h
      subst h
      exact evPlan_stps _ plan F Ds H
  | false =>
    change (cOps cmp G ctx.D ctx.N ops ops.toList).map (fun l => l.map fun o => (o, [])) = some l at h
    show Option.rec (motive := fun _ => Out) .bad (fun l => runOps (runOp P sp selfc ctx.ro) l F Ds H) (cOps cmp G ctx.D ctx.N ops ops.toList) = _
    cases hc : cOps cmp G ctx.D ctx.N ops ops.toList with
    | none => rw [hc] at h; cases h
    | some r =>
      rw [hc] at h
      simp only [Option.map_some, Option.some.injEq] at h
      subst h
      exact runOps_stps _ r F Ds H

section
variable {F : Type} {tf : F → F8}
/-- what a piece of code yields is bound to what comes behind it -/
theorem Rf.bind {x : XO F} {y : Out} (h : Rf tf x y) {X : F → List ADef → AH → XO F} {K : F8 → List ADef → AH → Out} (hK : ∀ f Ds H, Rf tf (X f Ds H) (K (tf f) Ds H)) :
    Rf tf (XO.rec (motive := fun _ => XO F) .bad (fun e f Ds H => Ex.rec (motive := fun _ => XO F) (X f Ds H) (.out .ret f Ds H) (fun i => .out (.exit i) f Ds H) e) x) (oBnd y K) := by
  cases x with
  | bad => trivial
  | out e f Ds H =>
    have h' : y = .out e (tf f) Ds H := h
    subst h'
    cases e with
    | norm => exact hK f Ds H
    | ret => exact rfl
    | exit i => exact rfl
theorem xev_rf {P : Program} {sp : Spec} {G : Nat} {cmp : Cmp} {selfc : Self} {cv : CV} (hcv : CvR cv (callV P sp selfc)) (g D N : Nat) :
    ∀ (n : Nat) (x : XC tf) (c : Code), cG cmp G D N x c = x.den → ∀ (f : F) (Ds : List ADef) (H : AH), Rf tf (xev cv n x f Ds H) (evD P sp G cmp selfc (n + 1) ⟨g, D, N, none⟩ c (tf f) Ds H)
  | 0, _, _, _, _, _, _ => trivial
  | n + 1, x, c, h, f, Ds, H => by
    have ih := xev_rf (G := G) (cmp := cmp) hcv g D N n
    show Rf tf (xevC x cv (xev cv n) f Ds H) (evC P sp G cmp (drwE G cmp) selfc (evD P sp G cmp selfc (n + 1)) ⟨g, D, N, none⟩ c (tf f) Ds H)
    cases x with
    | bad => trivial
    | skip =>
      cases c <;> simp only [cG, XC.den] at h <;> first | exact rfl | cases h
    | ret =>
      cases c <;> simp only [cG, XC.den] at h <;> first | exact rfl | cases h
    | exit i =>
      cases c <;> simp only [cG, XC.den] at h <;> first | cases h; done | skip
      injection h with h
      subst h
      exact rfl
    | reg l =>
      cases c <;> simp only [cG, XC.den] at h <;> first | cases h; done | skip
      injection h with h
      rw [evC_region h]
      exact runs_rf (k := oN) (K := fun F Ds H => .out .norm F Ds H) hcv (fun _ _ _ => (rfl : _ = _)) l f Ds H
    | rg l b =>
      cases c <;> simp only [cG, XC.den] at h <;> first | cases h; done | skip
      rename_i c1 c2
      cases c1 <;> simp only at h <;> first | cases h; done | skip
      rename_i id ops draw
      injection h with h1 h2
      injection h1 with h1
      have e : evC P sp G cmp (drwE G cmp) selfc (evD P sp G cmp selfc (n + 1)) ⟨g, D, N, none⟩ (.seq (.region id ops draw) c2) (tf f) Ds H =
          stps (runOp P sp selfc none) (l.map Ins.den) (fun F Ds H => evD P sp G cmp selfc (n + 1) ⟨g, D, N, none⟩ c2 F Ds H) (tf f) Ds H := by
        rw [stps_bnd, ← evC_region (P := P) (sp := sp) (selfc := selfc) (self := evD P sp G cmp selfc n) (ctx := ⟨g, D, N, none⟩) (id := id) h1 (tf f) Ds H]
        show (match evC P sp G cmp (drwE G cmp) selfc (evD P sp G cmp selfc n) ⟨g, D, N, none⟩ (.region id ops draw) (tf f) Ds H with
          | .out .norm F Ds H => evD P sp G cmp selfc (n + 1) ⟨g, D, N, none⟩ c2 F Ds H
          | r => r) = _
        rfl
      rw [e]
      exact runs_rf hcv (fun f Ds H => ih b c2 h2 f Ds H) l f Ds H
    | seq a b =>
      cases c <;> simp only [cG, XC.den] at h <;> first | cases h; done | skip
      rename_i c1 c2
      injection h with h1 h2
      exact Rf.bind (ih a c1 h1 f Ds H) (fun f Ds H => ih b c2 h2 f Ds H)
    | cond y a b =>
      cases c <;> simp only [cG, XC.den] at h <;> first | cases h; done | skip
      rename_i z c1 c2
      injection h with h1 h2 h3
      show Rf tf (VB.rec (motive := fun _ => List ADef → AH → XO F) (fun _ _ => .bad) (xev cv n b f) (xev cv n a f) (asB (y.get f)) Ds H) (match cOpd G D N z with
        | none => Out.bad
        | some y => match y.get (tf f) with
          | .bool true => evD P sp G cmp selfc (n + 1) ⟨g, D, N, none⟩ c1 (tf f) Ds H
          | .bool false => evD P sp G cmp selfc (n + 1) ⟨g, D, N, none⟩ c2 (tf f) Ds H
          | _ => .bad)
      rw [h1]
      simp only
      rw [y.ok]
      cases hb : asB (y.get f) with
      | no => trivial
      | t => rw [asB_t hb]; exact ih a c1 h2 f Ds H
      | f => rw [asB_f hb]; exact ih b c2 h3 f Ds H
    | block id b =>
      cases c <;> simp only [cG, XC.den] at h <;> first | cases h; done | skip
      rename_i id' c1
      injection h with h1 h2
      subst h1
      have hb := ih b c1 h2 f Ds H
      show Rf tf (XO.rec (motive := fun _ => XO F) .bad (fun e f Ds H => Ex.rec (motive := fun _ => XO F) (.out .norm f Ds H) (.out .ret f Ds H) (fun i => Bool.rec (motive := fun _ => XO F) (.out (.exit i) f Ds H) (.out .norm f Ds H) (Nat.beq i id')) e) (xev cv n b f Ds H))
        (match evD P sp G cmp selfc (n + 1) ⟨g, D, N, none⟩ c1 (tf f) Ds H with
          | .out (.exit j) F Ds H => bif Nat.beq j id' then Out.out .norm F Ds H else .out (.exit j) F Ds H
          | r => r)
      revert hb
      generalize xev cv n b f Ds H = o
      generalize evD P sp G cmp selfc (n + 1) ⟨g, D, N, none⟩ c1 (tf f) Ds H = o'
      intro hb
      cases o with
      | bad => trivial
      | out e f1 Ds1 H1 =>
        have hb' : o' = .out e (tf f1) Ds1 H1 := hb
        subst hb'
        cases e with
        | norm => exact rfl
        | ret => exact rfl
        | exit i =>
          simp only
          cases Nat.beq i id' <;> exact rfl
    | loop b =>
      cases c <;> simp only [cG, XC.den] at h <;> first | cases h; done | skip
      rename_i c1
      injection h with h1
      exact Rf.bind (ih b c1 h1 f Ds H) (fun f Ds H => ih (.loop b) (.loop c1) (by simp only [cG, XC.den, h1]) f Ds H)
    | scope b =>
      cases c <;> simp only [cG, XC.den] at h <;> first | cases h; done | skip
      rename_i c1
      injection h with h1
      exact ih b c1 h1 f Ds H
end
end Cr
end Go.Proofs.YtjhbabgcoemecaaDoor
namespace Go.Proofs.YtjhbabgcoemecaaDoor
namespace Cr
open Go Go.RowKit

/-- a call whose first frame is given -/
theorem callG_ok {P : Program} {G B : Nat} {w0 : World} {self : Self} (hs : Snd P G B w0 self) {g : Nat} {fn : Func} {c : Code} (hf : P.funcs[g]? = some fn) (hb : fn.body = some c) (hok : okFn fn = true)
    {args' : List Value} {H H1 H' : AH} {v : Value} {μ : Mu} {w : World} {F0 F' : F8} {e : Ex} (hF : FR (dep fn.ntmps) fn.ntmps μ F0 ((⟨args'⟩ : Array Value) ++ Array.replicate (fn.ntmps - args'.length) undef))
    (ho : self ⟨g, dep fn.ntmps, fn.ntmps, none⟩ c F0 [] H = .out e F' [] H1) (he : e = .norm ∨ e = .ret) (h : resV P (dep fn.ntmps) fn.ntmps F' H1 fn.results.toList = .ok v H') (hr : HR G B w0 H μ w) {kind : CallKind} {cs : List Frame} (hk : Calm kind cs) :
    (callFunc g ⟨args'⟩).run P w = .ok (.enter g ⟨args'⟩) w ∧ Ends P G B w0 g args' kind cs v H μ H' w := by
  refine ⟨callFunc_enter hf hb hok _ _, ?_⟩
  let b : Frame := { (default : Frame) with fn := g, kind := kind, roundOf := none }
  let a0 : Act := { tmps := (⟨args'⟩ : Array Value) ++ Array.replicate (fn.ntmps - args'.length) undef, defers := [] }
  have henter : Frame.enter P g ⟨args'⟩ kind = b.atR a0 [.code c] := by
    simp [Frame.enter, Frame.atR, hf, hb, b, a0]
  have pre : Pre G B w0 ⟨g, dep fn.ntmps, fn.ntmps, none⟩ μ F0 [] H a0 w b cs := ⟨hF, .nil, hr, rfl, trivial, hk⟩
  obtain ⟨a', w', μ', pre', nx, arr⟩ := hs _ _ _ _ _ _ _ _ _ ho μ a0 w b cs pre (.code c) [] (.code c)
  rw [← henter] at arr
  have hB : DefOk P G B w0 (fun _ _ _ => .bad) := fun _ _ _ _ _ h => by cases h
  have fin : ∀ todo, Steps P (lone (Frame.enter P g ⟨args'⟩ kind) cs w) (lone { b.atR a' todo with mode := .returning } cs w') → Ends P G B w0 g args' kind cs v H μ H' w := by
    intro todo hst
    obtain ⟨v', w2, μ2, fr', s1, s2, s3, s4, s5, s6, s7, s8⟩ := leave_ok hB [] H1 H' v h μ' w' { b.atR a' todo with mode := .returning } cs pre'.hr pre'.fr pre'.df rfl hf
    exact ⟨v', w2, μ2, fr', hst.trans s1, s2, s3, s4, s5, s6, s7, nx.trans s8⟩
  rcases he with rfl | rfl
  · exact fin [] (Steps.trans arr (.one (stepR_end rfl)))
  · obtain ⟨k₁, st⟩ := arr
    exact fin _ (Steps.trans st (.one (stepR_ret rfl)))

section
variable {F : Type} {tf : F → F8}
/-- the parameters -/
noncomputable def inX (ss : List (Slot tf)) : List Value → F → XK F → AH → XO F :=
  List.rec (motive := fun _ => List Value → F → XK F → AH → XO F)
    (fun args f k H => List.rec (motive := fun _ => XO F) (k f [] H) (fun _ _ _ => .bad) args)
    (fun s _ ih args f k H => List.rec (motive := fun _ => XO F) .bad (fun v vs _ => s.puf f v (fun f _ H => ih vs f k H) [] H) args) ss
noncomputable def iniGo (D : Nat) (l : List Value) (i : Nat) (F : F8) : F8 :=
  List.rec (motive := fun _ => Nat → F8 → F8) (fun _ F => F) (fun v _ ih i F => forceV v fun v => F8.put (pth D i) F v fun F => forceN (Nat.succ i) fun i => ih i F) l i F
theorem inX_ok {D : Nat} {k : XK F} {H : AH} : ∀ (ss : List (Slot tf)) (args : List Value) (i : Nat) (f : F), ss.map Slot.p = (List.range' i ss.length).map (pth D) →
    inX ss args f k H = .bad ∨ ∃ f', args.length = ss.length ∧ inX ss args f k H = k f' [] H ∧ tf f' = iniGo D args i (tf f)
  | [], [], i, f, _ => .inr ⟨f, rfl, rfl, rfl⟩
  | [], _ :: _, _, _, _ => .inl rfl
  | _ :: _, [], _, _, _ => .inl rfl
  | s :: ss, v :: vs, i, f, h => by
    simp only [List.map_cons, List.length_cons, List.range'_succ, List.cons.injEq] at h
    obtain ⟨f1, h1, h2⟩ := s.ok f v (fun f _ H => inX ss vs f k H) [] H
    have e : inX (s :: ss) (v :: vs) f k H = inX ss vs f1 k H := by
      show s.puf f v (fun f _ H => inX ss vs f k H) [] H = _
      rw [s.eq, h2]
    rcases inX_ok ss vs (i + 1) f1 h.2 with hb | ⟨f', l1, l2, l3⟩
    · exact .inl (e.trans hb)
    · refine .inr ⟨f', by simp [l1], e.trans l2, l3.trans ?_⟩
      show iniGo D vs (i + 1) (tf f1) = (forceV v fun v => F8.put (pth D i) (tf f) v fun F => forceN (Nat.succ i) fun i => iniGo D vs i F)
      rw [forceV_eq, F8.put_eq, forceN_eq, h1, h.1]

/-- the results -/
structure RR (P : Program) (D N : Nat) (tf : F → F8) where
  den : ResultVar
  get : F → AH → Option Value
  ok : ∀ f H v, get f H = some v → res1 P D N (tf f) H den = some v
noncomputable def rrT {P : Program} {D N : Nat} (x : RO tf) (t : Nat) (hx : x.o = .t (pth D t)) (ht : Nat.blt t N = true) : RR P D N tf :=
  ⟨.tmp t, fun f _ => some (x.get f), fun f H v h => by
    simp only [Option.some.injEq] at h
    subst h
    show (bif Nat.blt t N then some (F8.get (pth D t) (tf f)) else none) = _
    rw [ht, cond_true, ← x.ok, hx]; rfl⟩
noncomputable def rrS {P : Program} {D N : Nat} (r : ResultVar) : RR P D N tf := ⟨r, fun f H => res1 P D N (tf f) H r, fun _ _ _ h => h⟩
noncomputable def rsL {P : Program} {D N : Nat} (f : F) (H : AH) (rs : List (RR P D N tf)) : (List Value → Rs) → Rs :=
  List.rec (motive := fun _ => (List Value → Rs) → Rs) (fun k => k []) (fun r _ ih k => Option.rec (motive := fun _ => Rs) .bad (fun v => fVd v fun v => ih fun vs => k (v :: vs)) (r.get f H)) rs
theorem rsL_ok {P : Program} {D N : Nat} (f : F) (H : AH) : ∀ (rs : List (RR P D N tf)) (k : List Value → Rs), rsL f H rs k = .bad ∨ ∃ vs, resL P D N (tf f) H (rs.map RR.den) = some vs ∧ rsL f H rs k = k vs
  | [], k => .inr ⟨[], rfl, rfl⟩
  | r :: rs, k => by
    cases hr : r.get f H with
    | none =>
      left
      show Option.rec (motive := fun _ => Rs) .bad (fun v => fVd v fun v => rsL f H rs fun vs => k (v :: vs)) (r.get f H) = _
      rw [hr]
    | some v =>
      have e : rsL f H (r :: rs) k = rsL f H rs fun vs => k (v :: vs) := by
        show Option.rec (motive := fun _ => Rs) .bad (fun v => fVd v fun v => rsL f H rs fun vs => k (v :: vs)) (r.get f H) = _
        rw [hr]
        exact fVd_eq v _
      rcases rsL_ok f H rs (fun vs => k (v :: vs)) with h | ⟨vs, h1, h2⟩
      · exact .inl (e.trans h)
      · refine .inr ⟨v :: vs, ?_, e.trans h2⟩
        show (match res1 P D N (tf f) H r.den with
          | none => none
          | some v => match resL P D N (tf f) H (rs.map RR.den) with
            | none => none
            | some vs => some (v :: vs)) = _
        rw [r.ok f H v hr]
        simp only
        rw [h1]
noncomputable def outL (H : AH) (vs : List Value) : Rs :=
  List.rec (motive := fun _ => Rs) (.ok (.tuple ⟨[]⟩) H) (fun v r _ => List.rec (motive := fun _ => Rs) (.ok v H) (fun u l _ => .ok (.tuple ⟨v :: u :: l⟩) H) r) vs
theorem outL_eq {P : Program} {D N : Nat} {F' : F8} {H : AH} {rs : List ResultVar} {vs : List Value} (h : resL P D N F' H rs = some vs) : resV P D N F' H rs = outL H vs := by
  unfold resV
  rw [h]
  match vs with
  | [] => rfl
  | [_] => rfl
  | _ :: _ :: _ => rfl
end

/-- a function's fast text, and why it is the function's -/
structure XFn (P : Program) (G : Nat) (cmp : Cmp) where
  F : Type
  tf : F → F8
  g : Nat
  fn : Func
  c : Code
  D : Nat
  N : Nat
  ss : List (Slot tf)
  f0 : F
  code : XC tf
  rs : List (RR P D N tf)
  hD : D = dep fn.ntmps
  hN : N = fn.ntmps
  hf : P.funcs[g]? = some fn
  hc : fn.body = some c
  hok : okFn fn = true
  hss : ss.map Slot.p = (List.range' 0 ss.length).map (pth D)
  hn : ss.length ≤ N
  h0 : ∀ t, t < 8 ^ D → F8.get (pth D t) (tf f0) = undef
  hcode : cG cmp G D N code c = code.den
  hrs : rs.map RR.den = fn.results.toList
noncomputable def XFn.fin {P : Program} {G : Nat} {cmp : Cmp} (X : XFn P G cmp) (f : X.F) (Ds : List ADef) (H : AH) : Rs := List.rec (motive := fun _ => Rs) (rsL f H X.rs (outL H)) (fun _ _ _ => .bad) Ds
noncomputable def XFn.call {P : Program} {G : Nat} {cmp : Cmp} (X : XFn P G cmp) (cv : CV) (args : List Value) (H : AH) : Rs :=
  XO.rec (motive := fun _ => Rs) .bad (fun e f Ds H => Ex.rec (motive := fun _ => Rs) (X.fin f Ds H) (X.fin f Ds H) (fun _ => .bad) e) (inX X.ss args X.f0 (xev cv 1000000 X.code) H)
theorem XFn.call_ok {P : Program} {G B : Nat} {w0 : World} {cmp : Cmp} (X : XFn P G cmp) (hcmp : CmpOk P cmp) (hdrw : DrwOk P G B w0 (drwE G cmp)) {sp : Spec} (hsp : SpOk P G B w0 sp) {self : Self} (hself : Snd P G B w0 self) {cv : CV} (hcv : CvR cv (callV P sp self))
    {args : List Value} {H H' : AH} {v : Value} (h : X.call cv args H = .ok v H') {μ : Mu} {args' : List Value} {w : World} (hargs : LR μ args args') (hr : HR G B w0 H μ w) {cs : List Frame} :
    (callFunc X.g ⟨args'⟩).run P w = .ok (.enter X.g ⟨args'⟩) w ∧ Ends P G B w0 X.g args' .normal cs v H μ H' w := by
  have hN' : X.N ≤ 4096 := by
    have := X.hok
    simp only [okFn, Bool.and_eq_true] at this
    rw [X.hN]
    exact Nat.le_of_ble_eq_true this.1
  have eN := X.hN
  have eD := X.hD
  have hfit : X.N ≤ 8 ^ X.D := by rw [eD, eN]; rw [eN] at hN'; exact dep_fits hN'
  unfold XFn.call at h
  rcases inX_ok (D := X.D) (k := xev cv 1000000 X.code) (H := H) X.ss args 0 X.f0 X.hss with hb | ⟨f1, l1, l2, l3⟩
  · rw [hb] at h; cases h
  · rw [l2] at h
    have rf := xev_rf (G := G) (cmp := cmp) hcv X.g (X.D) X.N 1000000 X.code X.c X.hcode f1 [] H
    revert h rf
    generalize xev cv 1000000 X.code f1 [] H = o
    intro h rf
    cases o with
    | bad => cases h
    | out e f Ds H1 =>
      have rf' : evD P sp G cmp self (1000000 + 1) ⟨X.g, X.D, X.N, none⟩ X.c (X.tf f1) [] H = .out e (X.tf f) Ds H1 := rf
      have hD : ∀ h' : X.fin f Ds H1 = .ok v H', Ds = [] ∧ resV P (X.D) X.N (X.tf f) H1 X.fn.results.toList = .ok v H' := by
        intro h'
        cases Ds with
        | cons _ _ => cases h'
        | nil =>
          refine ⟨rfl, ?_⟩
          have h2 : rsL f H1 X.rs (outL H1) = .ok v H' := h'
          rcases rsL_ok f H1 X.rs (outL H1) with hb | ⟨vs, k1, k2⟩
          · rw [hb] at h2; cases h2
          · rw [X.hrs] at k1
            rw [outL_eq k1, ← k2]; exact h2
      have hex : (e = .norm ∨ e = .ret) ∧ X.fin f Ds H1 = .ok v H' := by
        cases e with
        | norm => exact ⟨.inl rfl, h⟩
        | ret => exact ⟨.inr rfl, h⟩
        | exit i => cases h
      obtain ⟨rfl, hres⟩ := hD hex.2
      have hlen := hargs.len
      have hn := X.hn
      have hz : FR (X.D) X.N μ (X.tf X.f0) (Array.replicate X.N undef) := ⟨by simp, hfit, fun t ht => by
        rw [X.h0 t ht]
        have : (Array.replicate X.N undef).getD t undef = undef := by
          simp only [Array.getD_eq_getD_getElem?, Array.getElem?_replicate]
          split <;> rfl
        rw [this]
        exact VR.undef μ⟩
      have h1 := initF_go args args' 0 (X.tf X.f0) _ hargs hz (by omega)
      have e1 : (args'.zipIdx 0).foldl (fun (t : Array Value) x => t.setIfInBounds x.2 x.1) (Array.replicate X.N undef) = (⟨args'⟩ : Array Value) ++ Array.replicate (X.N - args'.length) undef := by
        apply Array.toList_inj.1
        rw [foldl_init args' 0 _ (by simp; omega)]
        simp
      rw [e1] at h1
      have hF : FR (X.D) X.N μ (X.tf f1) ((⟨args'⟩ : Array Value) ++ Array.replicate (X.N - args'.length) undef) := by
        rw [l3]; exact h1
      rw [eD, eN] at hF rf' hres
      exact callG_ok (evD_ok hcmp hsp hdrw hself _) X.hf X.hc X.hok hF rf' hex.1 hres hr (.inl rfl)

/-! ### the calls -/
noncomputable def apL (first args cap : List Value) : List Value := List.rec (motive := fun _ => List Value) (List.rec (motive := fun _ => List Value) args (fun _ _ _ => args ++ cap) cap) (fun _ _ _ => first ++ (args ++ cap)) first
theorem apL_eq (first args cap : List Value) : apL first args cap = first ++ (args ++ cap) := by
  cases first with
  | cons _ _ => rfl
  | nil =>
    cases cap with
    | nil => simp [apL]
    | cons _ _ => rfl
noncomputable def cfX (P : Program) (sp : Spec) (self : Self) (g : Nat) (args : List Value) (H : AH) : Rs := Option.rec (motive := fun _ => Rs) (callW P self (call0 P self) g args H) (fun h => h args H) (sp g)
theorem cfX_eq (P : Program) (sp : Spec) (self : Self) (g : Nat) (args : List Value) (H : AH) : cfX P sp self g args H = callF P sp self g args H := by
  unfold cfX callF
  cases sp g <;> rfl
noncomputable def cvX (P : Program) (sp : Spec) (self : Self) (f : Value) (args : List Value) (H : AH) : Rs :=
  Value.rec (motive_1 := fun _ => Program → Spec → Self → List Value → AH → Rs) (motive_2 := fun _ => Unit) (motive_3 := fun _ => Unit)
    (fun _ _ _ _ _ _ => .bad) (fun _ _ _ _ _ _ _ => .bad) (fun _ _ _ _ _ _ _ => .bad) (fun _ _ _ _ _ _ _ _ => .bad) (fun _ _ _ _ _ _ => .bad) (fun _ _ _ _ _ _ => .bad) (fun _ _ _ _ _ _ _ _ => .bad)
    (fun _ _ _ _ _ _ => .bad) (fun _ _ _ _ _ _ => .bad)
    (fun h a b _ _ => Fn.rec (motive := fun _ => Program → Spec → Self → List Value → AH → Rs) (fun g P sp self args H => cfX P sp self g (apL a.toList args b.toList) H) (fun _ _ _ _ _ _ => .bad) (fun _ _ _ _ _ _ _ => .bad) (fun _ _ _ _ _ _ _ _ _ => .bad) (fun l _ _ self args H => yieldF self l args H) h)
    (fun _ _ _ _ _ => .bad) (fun _ _ _ _ _ _ _ _ => .bad) (fun _ _ _ _ _ => .bad) (fun _ _ _ _ _ _ _ => .bad) (fun _ _ _ _ _ _ _ => .bad)
    (fun _ _ => ()) () (fun _ _ _ _ => ()) f P sp self args H
theorem cvX_ok (P : Program) (sp : Spec) (self : Self) : CvR (cvX P sp self) (callV P sp self) := by
  intro f args H v H' h
  cases f with
  | func k a b =>
    obtain ⟨a⟩ := a
    obtain ⟨b⟩ := b
    cases k with
    | func g =>
      have h' : cfX P sp self g (apL a args b) H = .ok v H' := h
      rw [apL_eq, cfX_eq] at h'
      exact h'
    | yield l => exact h
    | _ => cases h
  | _ => cases h
/-- tables by number -/
inductive Tb (α : Type 1) where
  | nil
  | n (v : Option α) (l r : Tb α)
noncomputable def Tb.get {α : Type 1} (t : Tb α) : Nat → Option α :=
  Tb.rec (motive := fun _ => Nat → Option α) (fun _ => none)
    (fun v _ _ il ir k => Nat.rec (motive := fun _ => Option α) v (fun m _ => Bool.rec (motive := fun _ => Option α) (ir (Nat.div m 2)) (il (Nat.div m 2)) (Nat.beq (Nat.land m 1) 0)) k) t
/-- the fast functions as contracts, n calls deep; base: contracts proved otherwise -/
noncomputable def xsp (P : Program) (G : Nat) (cmp : Cmp) (tab : Tb (XFn P G cmp)) (base : Spec) (n : Nat) : Spec :=
  Nat.rec (motive := fun _ => Spec) base (fun _ ih g => Option.rec (motive := fun _ => Option (List Value → AH → Rs)) (base g)
    (fun X => Bool.rec (motive := fun _ => Option (List Value → AH → Rs)) (base g) (some (X.call (cvX P ih (ev P ih G cmp (drwE G cmp) 1000000)))) (Nat.beq X.g g)) (tab.get g)) n
theorem xsp_ok {P : Program} {G B : Nat} {w0 : World} {cmp : Cmp} (hcmp : CmpOk P cmp) (hdrw : DrwOk P G B w0 (drwE G cmp)) (tab : Tb (XFn P G cmp)) {base : Spec} (hbase : SpOk P G B w0 base) : ∀ n, SpOk P G B w0 (xsp P G cmp tab base n)
  | 0 => hbase
  | n + 1 => by
    have ih := xsp_ok hcmp hdrw tab hbase n
    intro g h hg
    change Option.rec (motive := fun _ => Option (List Value → AH → Rs)) (base g)
      (fun X => Bool.rec (motive := fun _ => Option (List Value → AH → Rs)) (base g) (some (X.call (cvX P (xsp P G cmp tab base n) (ev P (xsp P G cmp tab base n) G cmp (drwE G cmp) 1000000)))) (Nat.beq X.g g)) (tab.get g) = some h at hg
    cases ht : tab.get g with
    | none => rw [ht] at hg; exact hbase g h hg
    | some X =>
      rw [ht] at hg
      simp only at hg
      cases hb : Nat.beq X.g g with
      | false => rw [hb] at hg; exact hbase g h hg
      | true =>
        rw [hb] at hg
        simp only [Option.some.injEq] at hg
        have hgX := Nat.eq_of_beq_eq_true hb
        subst hgX
        subst hg
        intro g' args H v H' hcall μ args' w hl hr cs
        change (bif Nat.beq g' X.g then X.call (cvX P (xsp P G cmp tab base n) (ev P (xsp P G cmp tab base n) G cmp (drwE G cmp) 1000000)) args H else Rs.bad) = .ok v H' at hcall
        cases hb' : Nat.beq g' X.g with
        | false => rw [hb'] at hcall; cases hcall
        | true =>
          rw [hb', cond_true] at hcall
          have := Nat.eq_of_beq_eq_true hb'
          subst this
          exact X.call_ok hcmp hdrw ih (ev_ok hcmp ih hdrw 1000000) (cvX_ok P _ _) hcall hl hr
end Cr
end Go.Proofs.YtjhbabgcoemecaaDoor
namespace Go.Proofs.YtjhbabgcoemecaaDoor
namespace Cr
open Go Go.RowKit

def z1 : X1 := ⟨undef, undef, undef, undef, undef, undef, undef, undef⟩
def z2 : X2 := ⟨z1, z1, z1, z1, z1, z1, z1, z1⟩
def z3 : X3 := ⟨z2, z2, z2, z2, z2, z2, z2, z2⟩
theorem pick_same (x : Oct) (p : List Oct) (t : F8) : F8.get (x :: p) (.n t t t t t t t t) = F8.get p t := by cases x <;> rfl
theorem z1_get (x : Oct) : F8.get [x] (tf1 z1) = undef := pick_same x [] (.leaf undef)
theorem z2_get (x y : Oct) : F8.get [x, y] (tf2 z2) = undef := (pick_same x [y] (tf1 z1)).trans (z1_get y)
theorem z1_ok : ∀ t, t < 8 ^ 1 → F8.get (pth 1 t) (tf1 z1) = undef := fun _ _ => z1_get _
theorem z2_ok : ∀ t, t < 8 ^ 2 → F8.get (pth 2 t) (tf2 z2) = undef := fun _ _ => z2_get _ _
section
variable {F : Type} {tf : F → F8}
/-- a load, rechecked -/
noncomputable def rcLd (x d : RO tf) (p : List Oct) (hd : d.o = .t p) : RC tf where
  den := ⟨none, .r (r1 rLd), [x.o], some p⟩
  chk := fun f H => fLd (x.get f) H false (fun v => veq 6 v (d.get f))
  ok := by
    intro f H h
    have e : getL (tf f) [x.o] = [x.get f] := by rw [← x.ok]; rfl
    have ed : F8.get p (tf f) = d.get f := by rw [← d.ok, hd]; rfl
    rcases fLd_ok (x.get f) H false (fun v => veq 6 v (d.get f)) with hb | ⟨v, hv, hk⟩
    · rw [hb] at h; cases h
    · rw [hk] at h
      show (match r1 rLd (getL (tf f) [x.o]) H with
        | some u => veq 6 u (F8.get p (tf f))
        | none => false) = true
      rw [e]
      show (match rLd (x.get f) H with
        | some u => veq 6 u (F8.get p (tf f))
        | none => false) = true
      rw [hv, ed]
      exact h
end
end Cr
end Go.Proofs.YtjhbabgcoemecaaDoor
namespace Go.Proofs.YtjhbabgcoemecaaDoor
namespace Cr
open Go Go.RowKit

/-- the numbers of the variables among the nodes -/
def varNums : List (Value × Value) → Option (List Value)
  | [] => some []
  | e :: es => match e.2 with
    | .agg ⟨[.int .u8 (.ofNat op), .int .u64 (.ofNat num), .slice _ _ _]⟩ => match varNums es with
      | none => none
      | some r => bif Nat.beq op 1 then (bif Nat.ble num 9223372036854775807 then some (.int .i64 (.ofNat num) :: r) else none) else some r
    | _ => none
noncomputable def spVars (call : Nat → List Value → AH → Rs) (occ srt : Nat) (args : List Value) (H : AH) : Rs :=
  match args with
  | [x, y] => match call occ [x, y] H with
    | .ok (.tuple ⟨[.map (some r), .int .i64 (.ofNat 0)]⟩) H1 => match H1.get r with
      | some (.map true es) => match varNums es with
        | some [n] => forceN H1.next fun i => bif Nat.blt i 900000000000 then
            forceH (H1.push (.cells true 1 1 [n] .nil)) fun H2 => match call srt [.slice (some ⟨i, 0, none⟩) 1 36893488147419103233] H2 with
            | .ok _ H3 => .ok (.tuple ⟨[.slice (some ⟨i, 0, none⟩) 1 36893488147419103233, .int .i64 (.ofNat 0)]⟩) H3
            | .bad => .bad
          else .bad
        | _ => .bad
      | _ => .bad
    | _ => .bad
  | _ => .bad
end Cr
end Go.Proofs.YtjhbabgcoemecaaDoor
namespace Go.Proofs.YtjhbabgcoemecaaDoor
namespace Cr
open Go Go.RowKit

theorem calls_of {P : Program} {G B : Nat} {w0 : World} {sp : Spec} (hsp : SpOk P G B w0 sp) {g : Nat} {h : List Value → AH → Rs} (hg : sp g = some h) {args : List Value} {H H' : AH} {v : Value} (hrun : h args H = .ok v H')
    {μ : Mu} {w : World} {args' : List Value} (hargs : LR μ args args') (hr : HR G B w0 H μ w) :
    Calls P g ⟨args'⟩ w fun e w' => ∃ v' μ', e = .returned v' ∧ VR μ' v v' ∧ Nx G B w0 H μ H' μ' w' := by
  intro cs
  obtain ⟨_, v', w', μ', fr, h1, h2, h3, h4, h5, h6, h7, h8⟩ := hsp g h hg g args H v H' (by show (bif Nat.beq g g then h args H else Rs.bad) = _; rw [Nat.beq_refl]; exact hrun) μ args' w hargs hr cs
  exact ⟨.returned v', w', fr, ⟨v', μ', rfl, h7, h8⟩, h1, h2, Ends.leaving h2 h3 h4 h5 h6⟩
/-- a run without arguments that answers 'true' -/
theorem calls_true {P : Program} {G : Nat} {w : World} {sp : Spec} (hsp : SpOk P G w.heap.size w sp) {g : Nat} {h : List Value → AH → Rs} (hg : sp g = some h) {H H' : AH} (hrun : h [] H = .ok (.bool true) H')
    {μ : Mu} (hr : HR G w.heap.size w H μ w) : Calls P g #[] w fun e w' => e = .returned (.bool true) ∧ Below w.heap.size w w' := by
  refine (calls_of hsp hg hrun (LR.nil μ) hr).mono ?_
  rintro e w' ⟨v', μ', rfl, hv, nx⟩
  cases hv
  exact ⟨rfl, nx.hr.below⟩

/-- memories that read alike -/
structure Alike (H K : AH) : Prop where
  get : ∀ i, H.get i = K.get i
  next : H.next = K.next
theorem HR.alike {G B : Nat} {w0 : World} {H K : AH} {μ : Mu} {w : World} (h : HR G B w0 H μ w) (e : Alike H K) : HR G B w0 K μ w :=
  ⟨fun i x hi => h.blk i x ((e.get i).trans hi), fun i j x y hi hj => h.apart i j x y ((e.get i).trans hi) ((e.get j).trans hj), fun i x hi => e.next ▸ h.low i x ((e.get i).trans hi), fun i p hp => e.next ▸ h.mu i p hp, h.glob, e.next ▸ h.small, h.below, h.base⟩
theorem Nx.alike {G B : Nat} {w0 : World} {H H' K : AH} {μ μ' : Mu} {w' : World} (h : Nx G B w0 H μ H' μ' w') (e : Alike H' K) : Nx G B w0 H μ K μ' w' :=
  ⟨h.hr.alike e, h.ext, fun i hi hu => let ⟨a, b⟩ := h.unb i hi hu; ⟨a, (e.get i).symm.trans b⟩, e.next ▸ h.next⟩
/-! ### the first memory -/
/-- block 0 holds the number of a map, block 1 is an array, block 2 the map -/
noncomputable def first (n : Nat) (zs : List Value) (es : List (Value × Value)) : AH :=
  ⟨((Tr.nil.put 0 (some (.cells false 1 1 [.map (some 2)] .nil))).put 1 (some (.cells false n n zs .nil))).put 2 (some (.map false es)), 3⟩
theorem first_get (n : Nat) (zs : List Value) (es : List (Value × Value)) (i : Nat) :
    (first n zs es).get i = if i = 2 then some (.map false es) else if i = 1 then some (.cells false n n zs .nil) else if i = 0 then some (.cells false 1 1 [.map (some 2)] .nil) else none := by
  show (Tr.put (Tr.put (Tr.put Tr.nil 0 _) 1 _) 2 _).get i = _
  rw [Tr.get_put _ _ _ _ (by decide), Tr.get_put _ _ _ _ (by decide), Tr.get_put _ _ _ _ (by decide), Tr.get_nil]
def firstMu (b : Nat) : Mu := ⟨fun i => if i = 2 then some (b, 0) else if i = 1 then some (1, 0) else if i = 0 then some (0, 0) else none, fun _ => 0⟩
theorem first_ok {w : World} {b n : Nat} {zs : List Value} {es : List (Value × Value)} {cs0 cs1 : Array Value} {e0 e1 : TypeId} {f0 f1 : Nat × Nat} {ents : Array MapEntry} {clock : Nat}
    (h0 : w.heap[0]? = some (.cells cs0 e0 f0)) (h0' : cs0[0]? = some (.map (some b))) (h1 : w.heap[1]? = some (.cells cs1 e1 f1)) (h1' : ∀ k, k < n → cs1[k]? = zs[k]?) (hn : zs.length = n) (hz : zs.all scalar = true)
    (hb : w.heap[b]? = some (.map ents clock)) (hp : List.Perm es (ents.toList.map fun e => (e.key, e.val))) (hk : (es.map (·.1)).all scalar = true) (hv : (es.map (·.2)).all scalar = true)
    (hi : ∃ kd, ∀ e ∈ es, ∃ n, e.1 = .int kd n) (hd : es.Pairwise (fun x y => x.1 ≠ y.1)) : HR 2 w.heap.size w (first n zs es) (firstMu b) w := by
  have hb0 : b ≠ 0 := fun e => by subst e; rw [h0] at hb; cases hb
  have hb1 : b ≠ 1 := fun e => by subst e; rw [h1] at hb; cases hb
  have key : ∀ {l : List Value}, l.all scalar = true → ∀ {l' : List Value}, List.Perm l l' → LR (firstMu b) l' l' := fun hl _ hp' => LR.scalars (List.all_eq_true.2 fun x hx => List.all_eq_true.1 hl x (hp'.mem_iff.2 hx))
  have cases3 : ∀ {i : Nat} {p : Nat × Nat}, firstMu b i = some p → (i = 2 ∧ p = (b, 0)) ∨ (i = 1 ∧ p = (1, 0)) ∨ (i = 0 ∧ p = (0, 0)) := by
    intro i p h
    simp only [firstMu] at h
    split at h
    · injection h with h; exact .inl ⟨by assumption, h.symm⟩
    · split at h
      · injection h with h; exact .inr (.inl ⟨by assumption, h.symm⟩)
      · split at h
        · injection h with h; exact .inr (.inr ⟨by assumption, h.symm⟩)
        · cases h
  refine ⟨?_, ?_, ?_, ?_, ?_, (by show (3 : Nat) < _; decide), Below.refl _ _, Nat.le_refl _⟩
  · intro i x hx c o hm
    rw [first_get] at hx
    rcases cases3 hm with ⟨rfl, e⟩ | ⟨rfl, e⟩ | ⟨rfl, e⟩
    · injection e with e1 e2
      subst e1 e2
      rw [if_pos rfl] at hx
      injection hx with hx
      subst hx
      refine ⟨rfl, _, ents, clock, ⟨hp, hi, hd⟩, hb, (fun e => (by cases e)), ?_, ?_⟩
      · have := key hk (hp.map (·.1))
        rw [List.map_map] at this ⊢
        exact this
      · have := key hv (hp.map (·.2))
        rw [List.map_map] at this ⊢
        exact this
    · injection e with e1 e2
      subst e1 e2
      rw [if_neg (by decide), if_pos rfl] at hx
      injection hx with hx
      subst hx
      refine ⟨cs1, e1, f1, h1, fun e => (by cases e), fun k hk => ?_⟩
      have hkl : k < zs.length := by omega
      refine ⟨zs[k], by rw [Nat.zero_add, h1' k hk, List.getElem?_eq_getElem hkl], ?_⟩
      have e : cellv n zs .nil k = zs[k] := by
        show nth zs (Nat.mod k n) = _
        rw [nth_eq]
        have : Nat.mod k n = k := Nat.mod_eq_of_lt hk
        rw [this, List.getD_eq_getElem?_getD, List.getElem?_eq_getElem hkl]; rfl
      rw [e]
      exact VR.scalar (List.all_eq_true.1 hz _ (List.getElem_mem hkl))
    · injection e with e1 e2
      subst e1 e2
      rw [if_neg (by decide), if_neg (by decide), if_pos rfl] at hx
      injection hx with hx
      subst hx
      refine ⟨cs0, e0, f0, h0, fun e => (by cases e), fun k hk => ?_⟩
      obtain rfl : k = 0 := by omega
      exact ⟨_, h0', VR.map 2 b rfl⟩
  · intro i j x y _ _ hne c o c' o' hm hm'
    rcases cases3 hm with ⟨rfl, e⟩ | ⟨rfl, e⟩ | ⟨rfl, e⟩ <;> rcases cases3 hm' with ⟨rfl, e'⟩ | ⟨rfl, e'⟩ | ⟨rfl, e'⟩ <;> injection e with e1 e2 <;> injection e' with e1' e2' <;> omega
  · intro i x hx
    rw [first_get] at hx
    show i < 3
    split at hx
    · omega
    · split at hx
      · omega
      · split at hx
        · omega
        · cases hx
  · intro i p hp
    show i < 3
    rcases cases3 hp with ⟨rfl, e⟩ | ⟨rfl, e⟩ | ⟨rfl, e⟩ <;> decide
  · intro g hg
    have : g = 0 ∨ g = 1 := by omega
    rcases this with rfl | rfl <;> rfl
end Cr
end Go.Proofs.YtjhbabgcoemecaaDoor
namespace Go.Proofs.YtjhbabgcoemecaaDoor
namespace Cr
open Go Go.RowKit
open Go.ChangeMaps (setBlock)

theorem calls_of_call {P : Program} {G B : Nat} {w0 : World} {call : Nat → List Value → AH → Rs} (hcall : CallOk P G B w0 call) {g : Nat} {args : List Value} {H H' : AH} {v : Value} (hrun : call g args H = .ok v H')
    {μ : Mu} {w : World} {args' : List Value} (hargs : LR μ args args') (hr : HR G B w0 H μ w) :
    Calls P g ⟨args'⟩ w fun e w' => ∃ v' μ', e = .returned v' ∧ VR μ' v v' ∧ Nx G B w0 H μ H' μ' w' := by
  intro cs
  obtain ⟨_, v', w', μ', fr, h1, h2, h3, h4, h5, h6, h7, h8⟩ := hcall g args H v H' hrun μ args' w hargs hr cs
  exact ⟨.returned v', w', fr, ⟨v', μ', rfl, h7, h8⟩, h1, h2, Ends.leaving h2 h3 h4 h5 h6⟩
/-- and back -/
theorem ends_of_calls {P : Program} {G B : Nat} {w0 : World} {g : Nat} {H H' : AH} {v : Value} {μ : Mu} {w : World} {args' : List Value} {fn : Func} {c : Code} (hf : P.funcs[g]? = some fn) (hb : fn.body = some c) (hok : okFn fn = true)
    (h : Calls P g ⟨args'⟩ w fun e w' => ∃ v' μ', e = .returned v' ∧ VR μ' v v' ∧ Nx G B w0 H μ H' μ' w') (cs : List Frame) :
    (callFunc g ⟨args'⟩).run P w = .ok (.enter g ⟨args'⟩) w ∧ Ends P G B w0 g args' .normal cs v H μ H' w := by
  refine ⟨callFunc_enter hf hb hok _ _, ?_⟩
  obtain ⟨e, w', fr, ⟨v', μ', rfl, h1, h2⟩, h3, h4, h5⟩ := h cs
  obtain ⟨l1, l2, l3, fn', l4, l5⟩ := h5
  exact ⟨v', w', μ', fr, h3, h4, l3, l1, l2, ⟨fn', by rw [← h4]; exact l4, l5⟩, h1, h2⟩

/-- worlds that have grown beside the machine: what it knows is as it was -/
theorem HR.beside {G B : Nat} {w0 : World} {H : AH} {μ : Mu} {w w' : World} (h : HR G B w0 H μ w) (hb : Below w.heap.size w w') : HR G B w0 H μ w' :=
  ⟨fun i x hi b o hm => (h.blk i x hi b o hm).heap (hb.block b (h.blk i x hi b o hm).lt), h.apart, h.low, h.mu, h.glob, h.small, h.below.trans (hb.mono h.base), Nat.le_trans h.base hb.size⟩
/-- a block that was born beside the machine gets a number -/
theorem HR.born {G B : Nat} {w0 : World} {H : AH} {μ : Mu} {w : World} (h : HR G B w0 H μ w) (hs : H.next < 999999999999) {w' : World} (hb : Below w.heap.size w w') {x : Blk} {c T : Nat} (hc : w.heap.size ≤ c)
    (hx : BR B (μ.bind H.next (c, 0) T) w' c 0 T x) : Nx G B w0 H μ (H.push x) (μ.bind H.next (c, 0) T) w' := by
  have hf := h.fresh
  have hext := Mu.ext_bind (p := (c, 0)) (T := T) hf
  have hget := AH.get_push (H := H) (x := x) (by omega)
  have h' := h.beside hb
  refine ⟨⟨?_, ?_, ?_, ?_, fun g hg => hext.loc _ _ (h.glob g hg), by show Nat.succ H.next < _; omega, h'.below, h'.base⟩, hext, ?_, Nat.le_succ _⟩
  · intro i y hi b o hm
    rw [hget] at hi
    by_cases e : i = H.next
    · subst e
      rw [if_pos rfl] at hi
      injection hi with hi
      subst hi
      rw [Mu.bind_same] at hm
      injection hm with hm
      injection hm with e1 e2
      subst e1 e2
      rw [Mu.tot_same]
      exact hx
    · rw [if_neg e] at hi
      rw [Mu.bind_ne e] at hm
      rw [Mu.tot_ne e]
      exact (h'.blk i y hi b o hm).ext hext
  · intro i j y z hi hj hne b o b' o' hm hm'
    rw [hget] at hi hj
    by_cases e : i = H.next
    · subst e
      have e' : j ≠ H.next := fun e => hne e.symm
      rw [if_neg e'] at hj
      rw [Mu.bind_same] at hm
      rw [Mu.bind_ne e'] at hm'
      injection hm with hm
      injection hm with e1 e2
      have := (h.blk j z hj b' o' hm').lt
      omega
    · rw [if_neg e] at hi
      rw [Mu.bind_ne e] at hm
      by_cases e' : j = H.next
      · subst e'
        rw [Mu.bind_same] at hm'
        injection hm' with hm'
        injection hm' with e1 e2
        have := (h.blk i y hi b o hm).lt
        omega
      · rw [if_neg e'] at hj
        rw [Mu.bind_ne e'] at hm'
        exact h.apart i j y z hi hj hne b o b' o' hm hm'
  · intro i y hi
    rw [hget] at hi
    show i < Nat.succ H.next
    by_cases e : i = H.next
    · omega
    · rw [if_neg e] at hi; have := h.low i y hi; omega
  · intro i p hp
    show i < Nat.succ H.next
    by_cases e : i = H.next
    · omega
    · rw [Mu.bind_ne e] at hp; have := h.mu i p hp; omega
  · intro i hi hu
    have e : i ≠ H.next := by omega
    exact ⟨by rw [Mu.bind_ne e]; exact hu, by rw [hget, if_neg e]⟩

/-! ### loops over maps, for the walk -/
section
variable {P : Program} {w : World} {ops : Array Oper} {rest : List Oper} {o : Oper} {a : Act} {Q : Exit → Act → World → Prop}
theorem wpList_range_at (hg : o.guard = none) (m : Operand) (t : TypeId) (hop : o.op = Op.range t m) {kt et : TypeId} (ht : P.underlying t = some (.map kt et)) {b clock : Nat} {es : Array MapEntry}
    (hm : a.eval m = .map (some b)) (hb : w.heap[b]? = some (.map es clock))
    (hK : ∀ w', Hid (w' = w.alloc (.mapIter (some b) clock #[] clock)) → wpList P ops Q rest (a.put o.dst (.pointer (some ⟨w.heap.size, 0, none⟩))) w') : wpList P ops Q (o :: rest) a w := by
  refine wpList_plain hg fun K' hK' => ?_
  have hget : (getObj b).run P w = .ok (.map es clock) w := by simp [getObj, Sem.run, hb]
  have hrun : (Instr.range t (.map (some b))).run P w = .ok (.pointer (some ⟨w.heap.size, 0, none⟩)) (w.alloc (.mapIter (some b) clock #[] clock)) := by
    simp [Instr.range, run_underlying ht, hget]
  unfold Oper.wp
  simp [execOp, hop, hm, hrun, Result.andThen]
  exact hK' _ _ (hK _ (Lib.hid rfl))
theorem wpList_next_at (hg : o.guard = none) (it : Operand) (hop : o.op = Op.next it false) {r bm since c0 clock : Nat} {seen : Array Nat} {es : Array MapEntry}
    (hit : a.eval it = .pointer (some ⟨r, 0, none⟩)) (hr : w.heap[r]? = some (.mapIter (some bm) since seen c0)) (hb : w.heap[bm]? = some (.map es clock)) (hold : ∀ x ∈ es.toList, x.born < since) (hsc : since ≤ c0)
    (hDone : Hid ((leftOf es seen).size = 0) → wpList P ops Q rest (a.put o.dst (.tuple #[.bool false])) w)
    (hMore : ∀ e ∈ (leftOf es seen).toList, ∀ w1 w2, (w1 = w ∨ w1 = w.drew) → Hid (w2 = setBlock w1 r (.mapIter (some bm) since (seen.push e.born) clock)) → wpList P ops Q rest (a.put o.dst (.tuple #[.bool true, e.key, e.val])) w2) :
    wpList P ops Q (o :: rest) a w := by
  refine wpList_plain hg fun K' hK' => ?_
  unfold Oper.wp
  rcases run_next_at (P := P) w o.type r bm since c0 seen es clock hr hb hold hsc with ⟨h0, hrun⟩ | ⟨e, he, w1, hw1, hrun⟩
  · simp [execOp, hop, hit, hrun, Result.andThen]
    exact hK' _ _ (hDone (Lib.hid h0))
  · simp [execOp, hop, hit, hrun, Result.andThen]
    exact hK' _ _ (hMore e he w1 _ hw1 (Lib.hid rfl))
end
end Cr
end Go.Proofs.YtjhbabgcoemecaaDoor
