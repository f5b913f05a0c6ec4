/- A machine for closed runs (part 31): the slots of frames (written by slots.py). (and what follows on it). -/
import Derived.Test.YtjhbabgcoemecaaGreatDoorK2
import Derived.Maps.RangeWalk
import Derived.Lib.Hide
import Derived.WalkKit
import Derived.ProofKit
import Derived.Laws.AppendOwn
namespace Go.Proofs.YtjhbabgcoemecaaGreatDoor
namespace Cr
open Go Go.RowKit

abbrev V1 := Value → XK X1 → List ADef → AH → XO X1
noncomputable def p1_0 (F : X1) : V1 := N8.rec (motive := fun _ => V1) (fun _ b0 c0 d0 e0 f0 g0 h0 v k Ds H => k ⟨v, b0, c0, d0, e0, f0, g0, h0⟩ Ds H) F
noncomputable def s1_0 : Slot tf1 := ⟨[.o0], p1_0, fun F v => fV1 v (p1_0 F), fun _ _ _ _ _ => ⟨_, rfl, rfl⟩, fun _ v _ _ _ => fV1_eq v _ _ _ _⟩
def r1_0 : RO tf1 := ⟨.t [.o0], fun F => F.a, fun _ => rfl⟩
noncomputable def p1_1 (F : X1) : V1 := N8.rec (motive := fun _ => V1) (fun a0 _ c0 d0 e0 f0 g0 h0 v k Ds H => k ⟨a0, v, c0, d0, e0, f0, g0, h0⟩ Ds H) F
noncomputable def s1_1 : Slot tf1 := ⟨[.o1], p1_1, fun F v => fV1 v (p1_1 F), fun _ _ _ _ _ => ⟨_, rfl, rfl⟩, fun _ v _ _ _ => fV1_eq v _ _ _ _⟩
def r1_1 : RO tf1 := ⟨.t [.o1], fun F => F.b, fun _ => rfl⟩
noncomputable def p1_2 (F : X1) : V1 := N8.rec (motive := fun _ => V1) (fun a0 b0 _ d0 e0 f0 g0 h0 v k Ds H => k ⟨a0, b0, v, d0, e0, f0, g0, h0⟩ Ds H) F
noncomputable def s1_2 : Slot tf1 := ⟨[.o2], p1_2, fun F v => fV1 v (p1_2 F), fun _ _ _ _ _ => ⟨_, rfl, rfl⟩, fun _ v _ _ _ => fV1_eq v _ _ _ _⟩
def r1_2 : RO tf1 := ⟨.t [.o2], fun F => F.c, fun _ => rfl⟩
noncomputable def p1_3 (F : X1) : V1 := N8.rec (motive := fun _ => V1) (fun a0 b0 c0 _ e0 f0 g0 h0 v k Ds H => k ⟨a0, b0, c0, v, e0, f0, g0, h0⟩ Ds H) F
noncomputable def s1_3 : Slot tf1 := ⟨[.o3], p1_3, fun F v => fV1 v (p1_3 F), fun _ _ _ _ _ => ⟨_, rfl, rfl⟩, fun _ v _ _ _ => fV1_eq v _ _ _ _⟩
def r1_3 : RO tf1 := ⟨.t [.o3], fun F => F.d, fun _ => rfl⟩
noncomputable def p1_4 (F : X1) : V1 := N8.rec (motive := fun _ => V1) (fun a0 b0 c0 d0 _ f0 g0 h0 v k Ds H => k ⟨a0, b0, c0, d0, v, f0, g0, h0⟩ Ds H) F
noncomputable def s1_4 : Slot tf1 := ⟨[.o4], p1_4, fun F v => fV1 v (p1_4 F), fun _ _ _ _ _ => ⟨_, rfl, rfl⟩, fun _ v _ _ _ => fV1_eq v _ _ _ _⟩
def r1_4 : RO tf1 := ⟨.t [.o4], fun F => F.e, fun _ => rfl⟩
noncomputable def p1_5 (F : X1) : V1 := N8.rec (motive := fun _ => V1) (fun a0 b0 c0 d0 e0 _ g0 h0 v k Ds H => k ⟨a0, b0, c0, d0, e0, v, g0, h0⟩ Ds H) F
noncomputable def s1_5 : Slot tf1 := ⟨[.o5], p1_5, fun F v => fV1 v (p1_5 F), fun _ _ _ _ _ => ⟨_, rfl, rfl⟩, fun _ v _ _ _ => fV1_eq v _ _ _ _⟩
def r1_5 : RO tf1 := ⟨.t [.o5], fun F => F.f, fun _ => rfl⟩
noncomputable def p1_6 (F : X1) : V1 := N8.rec (motive := fun _ => V1) (fun a0 b0 c0 d0 e0 f0 _ h0 v k Ds H => k ⟨a0, b0, c0, d0, e0, f0, v, h0⟩ Ds H) F
noncomputable def s1_6 : Slot tf1 := ⟨[.o6], p1_6, fun F v => fV1 v (p1_6 F), fun _ _ _ _ _ => ⟨_, rfl, rfl⟩, fun _ v _ _ _ => fV1_eq v _ _ _ _⟩
def r1_6 : RO tf1 := ⟨.t [.o6], fun F => F.g, fun _ => rfl⟩
noncomputable def p1_7 (F : X1) : V1 := N8.rec (motive := fun _ => V1) (fun a0 b0 c0 d0 e0 f0 g0 _ v k Ds H => k ⟨a0, b0, c0, d0, e0, f0, g0, v⟩ Ds H) F
noncomputable def s1_7 : Slot tf1 := ⟨[.o7], p1_7, fun F v => fV1 v (p1_7 F), fun _ _ _ _ _ => ⟨_, rfl, rfl⟩, fun _ v _ _ _ => fV1_eq v _ _ _ _⟩
def r1_7 : RO tf1 := ⟨.t [.o7], fun F => F.h, fun _ => rfl⟩
abbrev V2 := Value → XK X2 → List ADef → AH → XO X2
noncomputable def p2_0 (F : X2) : V2 := N8.rec (motive := fun _ => V2) (fun a0 b0 c0 d0 e0 f0 g0 h0 => N8.rec (motive := fun _ => V2) (fun _ b1 c1 d1 e1 f1 g1 h1 v k Ds H => k ⟨⟨v, b1, c1, d1, e1, f1, g1, h1⟩, b0, c0, d0, e0, f0, g0, h0⟩ Ds H) a0) F
noncomputable def s2_0 : Slot tf2 := ⟨[.o0, .o0], p2_0, fun F v => fV2 v (p2_0 F), fun _ _ _ _ _ => ⟨_, rfl, rfl⟩, fun _ v _ _ _ => fV2_eq v _ _ _ _⟩
def r2_0 : RO tf2 := ⟨.t [.o0, .o0], fun F => F.a.a, fun _ => rfl⟩
noncomputable def p2_1 (F : X2) : V2 := N8.rec (motive := fun _ => V2) (fun a0 b0 c0 d0 e0 f0 g0 h0 => N8.rec (motive := fun _ => V2) (fun _ b1 c1 d1 e1 f1 g1 h1 v k Ds H => k ⟨a0, ⟨v, b1, c1, d1, e1, f1, g1, h1⟩, c0, d0, e0, f0, g0, h0⟩ Ds H) b0) F
noncomputable def s2_1 : Slot tf2 := ⟨[.o1, .o0], p2_1, fun F v => fV2 v (p2_1 F), fun _ _ _ _ _ => ⟨_, rfl, rfl⟩, fun _ v _ _ _ => fV2_eq v _ _ _ _⟩
def r2_1 : RO tf2 := ⟨.t [.o1, .o0], fun F => F.b.a, fun _ => rfl⟩
noncomputable def p2_2 (F : X2) : V2 := N8.rec (motive := fun _ => V2) (fun a0 b0 c0 d0 e0 f0 g0 h0 => N8.rec (motive := fun _ => V2) (fun _ b1 c1 d1 e1 f1 g1 h1 v k Ds H => k ⟨a0, b0, ⟨v, b1, c1, d1, e1, f1, g1, h1⟩, d0, e0, f0, g0, h0⟩ Ds H) c0) F
noncomputable def s2_2 : Slot tf2 := ⟨[.o2, .o0], p2_2, fun F v => fV2 v (p2_2 F), fun _ _ _ _ _ => ⟨_, rfl, rfl⟩, fun _ v _ _ _ => fV2_eq v _ _ _ _⟩
def r2_2 : RO tf2 := ⟨.t [.o2, .o0], fun F => F.c.a, fun _ => rfl⟩
noncomputable def p2_3 (F : X2) : V2 := N8.rec (motive := fun _ => V2) (fun a0 b0 c0 d0 e0 f0 g0 h0 => N8.rec (motive := fun _ => V2) (fun _ b1 c1 d1 e1 f1 g1 h1 v k Ds H => k ⟨a0, b0, c0, ⟨v, b1, c1, d1, e1, f1, g1, h1⟩, e0, f0, g0, h0⟩ Ds H) d0) F
noncomputable def s2_3 : Slot tf2 := ⟨[.o3, .o0], p2_3, fun F v => fV2 v (p2_3 F), fun _ _ _ _ _ => ⟨_, rfl, rfl⟩, fun _ v _ _ _ => fV2_eq v _ _ _ _⟩
def r2_3 : RO tf2 := ⟨.t [.o3, .o0], fun F => F.d.a, fun _ => rfl⟩
noncomputable def p2_4 (F : X2) : V2 := N8.rec (motive := fun _ => V2) (fun a0 b0 c0 d0 e0 f0 g0 h0 => N8.rec (motive := fun _ => V2) (fun _ b1 c1 d1 e1 f1 g1 h1 v k Ds H => k ⟨a0, b0, c0, d0, ⟨v, b1, c1, d1, e1, f1, g1, h1⟩, f0, g0, h0⟩ Ds H) e0) F
noncomputable def s2_4 : Slot tf2 := ⟨[.o4, .o0], p2_4, fun F v => fV2 v (p2_4 F), fun _ _ _ _ _ => ⟨_, rfl, rfl⟩, fun _ v _ _ _ => fV2_eq v _ _ _ _⟩
def r2_4 : RO tf2 := ⟨.t [.o4, .o0], fun F => F.e.a, fun _ => rfl⟩
noncomputable def p2_5 (F : X2) : V2 := N8.rec (motive := fun _ => V2) (fun a0 b0 c0 d0 e0 f0 g0 h0 => N8.rec (motive := fun _ => V2) (fun _ b1 c1 d1 e1 f1 g1 h1 v k Ds H => k ⟨a0, b0, c0, d0, e0, ⟨v, b1, c1, d1, e1, f1, g1, h1⟩, g0, h0⟩ Ds H) f0) F
noncomputable def s2_5 : Slot tf2 := ⟨[.o5, .o0], p2_5, fun F v => fV2 v (p2_5 F), fun _ _ _ _ _ => ⟨_, rfl, rfl⟩, fun _ v _ _ _ => fV2_eq v _ _ _ _⟩
def r2_5 : RO tf2 := ⟨.t [.o5, .o0], fun F => F.f.a, fun _ => rfl⟩
noncomputable def p2_6 (F : X2) : V2 := N8.rec (motive := fun _ => V2) (fun a0 b0 c0 d0 e0 f0 g0 h0 => N8.rec (motive := fun _ => V2) (fun _ b1 c1 d1 e1 f1 g1 h1 v k Ds H => k ⟨a0, b0, c0, d0, e0, f0, ⟨v, b1, c1, d1, e1, f1, g1, h1⟩, h0⟩ Ds H) g0) F
noncomputable def s2_6 : Slot tf2 := ⟨[.o6, .o0], p2_6, fun F v => fV2 v (p2_6 F), fun _ _ _ _ _ => ⟨_, rfl, rfl⟩, fun _ v _ _ _ => fV2_eq v _ _ _ _⟩
def r2_6 : RO tf2 := ⟨.t [.o6, .o0], fun F => F.g.a, fun _ => rfl⟩
noncomputable def p2_7 (F : X2) : V2 := N8.rec (motive := fun _ => V2) (fun a0 b0 c0 d0 e0 f0 g0 h0 => N8.rec (motive := fun _ => V2) (fun _ b1 c1 d1 e1 f1 g1 h1 v k Ds H => k ⟨a0, b0, c0, d0, e0, f0, g0, ⟨v, b1, c1, d1, e1, f1, g1, h1⟩⟩ Ds H) h0) F
noncomputable def s2_7 : Slot tf2 := ⟨[.o7, .o0], p2_7, fun F v => fV2 v (p2_7 F), fun _ _ _ _ _ => ⟨_, rfl, rfl⟩, fun _ v _ _ _ => fV2_eq v _ _ _ _⟩
def r2_7 : RO tf2 := ⟨.t [.o7, .o0], fun F => F.h.a, fun _ => rfl⟩
noncomputable def p2_8 (F : X2) : V2 := N8.rec (motive := fun _ => V2) (fun a0 b0 c0 d0 e0 f0 g0 h0 => N8.rec (motive := fun _ => V2) (fun a1 _ c1 d1 e1 f1 g1 h1 v k Ds H => k ⟨⟨a1, v, c1, d1, e1, f1, g1, h1⟩, b0, c0, d0, e0, f0, g0, h0⟩ Ds H) a0) F
noncomputable def s2_8 : Slot tf2 := ⟨[.o0, .o1], p2_8, fun F v => fV2 v (p2_8 F), fun _ _ _ _ _ => ⟨_, rfl, rfl⟩, fun _ v _ _ _ => fV2_eq v _ _ _ _⟩
def r2_8 : RO tf2 := ⟨.t [.o0, .o1], fun F => F.a.b, fun _ => rfl⟩
noncomputable def p2_9 (F : X2) : V2 := N8.rec (motive := fun _ => V2) (fun a0 b0 c0 d0 e0 f0 g0 h0 => N8.rec (motive := fun _ => V2) (fun a1 _ c1 d1 e1 f1 g1 h1 v k Ds H => k ⟨a0, ⟨a1, v, c1, d1, e1, f1, g1, h1⟩, c0, d0, e0, f0, g0, h0⟩ Ds H) b0) F
noncomputable def s2_9 : Slot tf2 := ⟨[.o1, .o1], p2_9, fun F v => fV2 v (p2_9 F), fun _ _ _ _ _ => ⟨_, rfl, rfl⟩, fun _ v _ _ _ => fV2_eq v _ _ _ _⟩
def r2_9 : RO tf2 := ⟨.t [.o1, .o1], fun F => F.b.b, fun _ => rfl⟩
noncomputable def p2_10 (F : X2) : V2 := N8.rec (motive := fun _ => V2) (fun a0 b0 c0 d0 e0 f0 g0 h0 => N8.rec (motive := fun _ => V2) (fun a1 _ c1 d1 e1 f1 g1 h1 v k Ds H => k ⟨a0, b0, ⟨a1, v, c1, d1, e1, f1, g1, h1⟩, d0, e0, f0, g0, h0⟩ Ds H) c0) F
noncomputable def s2_10 : Slot tf2 := ⟨[.o2, .o1], p2_10, fun F v => fV2 v (p2_10 F), fun _ _ _ _ _ => ⟨_, rfl, rfl⟩, fun _ v _ _ _ => fV2_eq v _ _ _ _⟩
def r2_10 : RO tf2 := ⟨.t [.o2, .o1], fun F => F.c.b, fun _ => rfl⟩
noncomputable def p2_11 (F : X2) : V2 := N8.rec (motive := fun _ => V2) (fun a0 b0 c0 d0 e0 f0 g0 h0 => N8.rec (motive := fun _ => V2) (fun a1 _ c1 d1 e1 f1 g1 h1 v k Ds H => k ⟨a0, b0, c0, ⟨a1, v, c1, d1, e1, f1, g1, h1⟩, e0, f0, g0, h0⟩ Ds H) d0) F
noncomputable def s2_11 : Slot tf2 := ⟨[.o3, .o1], p2_11, fun F v => fV2 v (p2_11 F), fun _ _ _ _ _ => ⟨_, rfl, rfl⟩, fun _ v _ _ _ => fV2_eq v _ _ _ _⟩
def r2_11 : RO tf2 := ⟨.t [.o3, .o1], fun F => F.d.b, fun _ => rfl⟩
noncomputable def p2_12 (F : X2) : V2 := N8.rec (motive := fun _ => V2) (fun a0 b0 c0 d0 e0 f0 g0 h0 => N8.rec (motive := fun _ => V2) (fun a1 _ c1 d1 e1 f1 g1 h1 v k Ds H => k ⟨a0, b0, c0, d0, ⟨a1, v, c1, d1, e1, f1, g1, h1⟩, f0, g0, h0⟩ Ds H) e0) F
noncomputable def s2_12 : Slot tf2 := ⟨[.o4, .o1], p2_12, fun F v => fV2 v (p2_12 F), fun _ _ _ _ _ => ⟨_, rfl, rfl⟩, fun _ v _ _ _ => fV2_eq v _ _ _ _⟩
def r2_12 : RO tf2 := ⟨.t [.o4, .o1], fun F => F.e.b, fun _ => rfl⟩
noncomputable def p2_13 (F : X2) : V2 := N8.rec (motive := fun _ => V2) (fun a0 b0 c0 d0 e0 f0 g0 h0 => N8.rec (motive := fun _ => V2) (fun a1 _ c1 d1 e1 f1 g1 h1 v k Ds H => k ⟨a0, b0, c0, d0, e0, ⟨a1, v, c1, d1, e1, f1, g1, h1⟩, g0, h0⟩ Ds H) f0) F
noncomputable def s2_13 : Slot tf2 := ⟨[.o5, .o1], p2_13, fun F v => fV2 v (p2_13 F), fun _ _ _ _ _ => ⟨_, rfl, rfl⟩, fun _ v _ _ _ => fV2_eq v _ _ _ _⟩
def r2_13 : RO tf2 := ⟨.t [.o5, .o1], fun F => F.f.b, fun _ => rfl⟩
noncomputable def p2_14 (F : X2) : V2 := N8.rec (motive := fun _ => V2) (fun a0 b0 c0 d0 e0 f0 g0 h0 => N8.rec (motive := fun _ => V2) (fun a1 _ c1 d1 e1 f1 g1 h1 v k Ds H => k ⟨a0, b0, c0, d0, e0, f0, ⟨a1, v, c1, d1, e1, f1, g1, h1⟩, h0⟩ Ds H) g0) F
noncomputable def s2_14 : Slot tf2 := ⟨[.o6, .o1], p2_14, fun F v => fV2 v (p2_14 F), fun _ _ _ _ _ => ⟨_, rfl, rfl⟩, fun _ v _ _ _ => fV2_eq v _ _ _ _⟩
def r2_14 : RO tf2 := ⟨.t [.o6, .o1], fun F => F.g.b, fun _ => rfl⟩
noncomputable def p2_15 (F : X2) : V2 := N8.rec (motive := fun _ => V2) (fun a0 b0 c0 d0 e0 f0 g0 h0 => N8.rec (motive := fun _ => V2) (fun a1 _ c1 d1 e1 f1 g1 h1 v k Ds H => k ⟨a0, b0, c0, d0, e0, f0, g0, ⟨a1, v, c1, d1, e1, f1, g1, h1⟩⟩ Ds H) h0) F
noncomputable def s2_15 : Slot tf2 := ⟨[.o7, .o1], p2_15, fun F v => fV2 v (p2_15 F), fun _ _ _ _ _ => ⟨_, rfl, rfl⟩, fun _ v _ _ _ => fV2_eq v _ _ _ _⟩
def r2_15 : RO tf2 := ⟨.t [.o7, .o1], fun F => F.h.b, fun _ => rfl⟩
noncomputable def p2_16 (F : X2) : V2 := N8.rec (motive := fun _ => V2) (fun a0 b0 c0 d0 e0 f0 g0 h0 => N8.rec (motive := fun _ => V2) (fun a1 b1 _ d1 e1 f1 g1 h1 v k Ds H => k ⟨⟨a1, b1, v, d1, e1, f1, g1, h1⟩, b0, c0, d0, e0, f0, g0, h0⟩ Ds H) a0) F
noncomputable def s2_16 : Slot tf2 := ⟨[.o0, .o2], p2_16, fun F v => fV2 v (p2_16 F), fun _ _ _ _ _ => ⟨_, rfl, rfl⟩, fun _ v _ _ _ => fV2_eq v _ _ _ _⟩
def r2_16 : RO tf2 := ⟨.t [.o0, .o2], fun F => F.a.c, fun _ => rfl⟩
noncomputable def p2_17 (F : X2) : V2 := N8.rec (motive := fun _ => V2) (fun a0 b0 c0 d0 e0 f0 g0 h0 => N8.rec (motive := fun _ => V2) (fun a1 b1 _ d1 e1 f1 g1 h1 v k Ds H => k ⟨a0, ⟨a1, b1, v, d1, e1, f1, g1, h1⟩, c0, d0, e0, f0, g0, h0⟩ Ds H) b0) F
noncomputable def s2_17 : Slot tf2 := ⟨[.o1, .o2], p2_17, fun F v => fV2 v (p2_17 F), fun _ _ _ _ _ => ⟨_, rfl, rfl⟩, fun _ v _ _ _ => fV2_eq v _ _ _ _⟩
def r2_17 : RO tf2 := ⟨.t [.o1, .o2], fun F => F.b.c, fun _ => rfl⟩
noncomputable def p2_18 (F : X2) : V2 := N8.rec (motive := fun _ => V2) (fun a0 b0 c0 d0 e0 f0 g0 h0 => N8.rec (motive := fun _ => V2) (fun a1 b1 _ d1 e1 f1 g1 h1 v k Ds H => k ⟨a0, b0, ⟨a1, b1, v, d1, e1, f1, g1, h1⟩, d0, e0, f0, g0, h0⟩ Ds H) c0) F
noncomputable def s2_18 : Slot tf2 := ⟨[.o2, .o2], p2_18, fun F v => fV2 v (p2_18 F), fun _ _ _ _ _ => ⟨_, rfl, rfl⟩, fun _ v _ _ _ => fV2_eq v _ _ _ _⟩
def r2_18 : RO tf2 := ⟨.t [.o2, .o2], fun F => F.c.c, fun _ => rfl⟩
noncomputable def p2_19 (F : X2) : V2 := N8.rec (motive := fun _ => V2) (fun a0 b0 c0 d0 e0 f0 g0 h0 => N8.rec (motive := fun _ => V2) (fun a1 b1 _ d1 e1 f1 g1 h1 v k Ds H => k ⟨a0, b0, c0, ⟨a1, b1, v, d1, e1, f1, g1, h1⟩, e0, f0, g0, h0⟩ Ds H) d0) F
noncomputable def s2_19 : Slot tf2 := ⟨[.o3, .o2], p2_19, fun F v => fV2 v (p2_19 F), fun _ _ _ _ _ => ⟨_, rfl, rfl⟩, fun _ v _ _ _ => fV2_eq v _ _ _ _⟩
def r2_19 : RO tf2 := ⟨.t [.o3, .o2], fun F => F.d.c, fun _ => rfl⟩
noncomputable def p2_20 (F : X2) : V2 := N8.rec (motive := fun _ => V2) (fun a0 b0 c0 d0 e0 f0 g0 h0 => N8.rec (motive := fun _ => V2) (fun a1 b1 _ d1 e1 f1 g1 h1 v k Ds H => k ⟨a0, b0, c0, d0, ⟨a1, b1, v, d1, e1, f1, g1, h1⟩, f0, g0, h0⟩ Ds H) e0) F
noncomputable def s2_20 : Slot tf2 := ⟨[.o4, .o2], p2_20, fun F v => fV2 v (p2_20 F), fun _ _ _ _ _ => ⟨_, rfl, rfl⟩, fun _ v _ _ _ => fV2_eq v _ _ _ _⟩
def r2_20 : RO tf2 := ⟨.t [.o4, .o2], fun F => F.e.c, fun _ => rfl⟩
noncomputable def p2_21 (F : X2) : V2 := N8.rec (motive := fun _ => V2) (fun a0 b0 c0 d0 e0 f0 g0 h0 => N8.rec (motive := fun _ => V2) (fun a1 b1 _ d1 e1 f1 g1 h1 v k Ds H => k ⟨a0, b0, c0, d0, e0, ⟨a1, b1, v, d1, e1, f1, g1, h1⟩, g0, h0⟩ Ds H) f0) F
noncomputable def s2_21 : Slot tf2 := ⟨[.o5, .o2], p2_21, fun F v => fV2 v (p2_21 F), fun _ _ _ _ _ => ⟨_, rfl, rfl⟩, fun _ v _ _ _ => fV2_eq v _ _ _ _⟩
def r2_21 : RO tf2 := ⟨.t [.o5, .o2], fun F => F.f.c, fun _ => rfl⟩
noncomputable def p2_22 (F : X2) : V2 := N8.rec (motive := fun _ => V2) (fun a0 b0 c0 d0 e0 f0 g0 h0 => N8.rec (motive := fun _ => V2) (fun a1 b1 _ d1 e1 f1 g1 h1 v k Ds H => k ⟨a0, b0, c0, d0, e0, f0, ⟨a1, b1, v, d1, e1, f1, g1, h1⟩, h0⟩ Ds H) g0) F
noncomputable def s2_22 : Slot tf2 := ⟨[.o6, .o2], p2_22, fun F v => fV2 v (p2_22 F), fun _ _ _ _ _ => ⟨_, rfl, rfl⟩, fun _ v _ _ _ => fV2_eq v _ _ _ _⟩
def r2_22 : RO tf2 := ⟨.t [.o6, .o2], fun F => F.g.c, fun _ => rfl⟩
noncomputable def p2_23 (F : X2) : V2 := N8.rec (motive := fun _ => V2) (fun a0 b0 c0 d0 e0 f0 g0 h0 => N8.rec (motive := fun _ => V2) (fun a1 b1 _ d1 e1 f1 g1 h1 v k Ds H => k ⟨a0, b0, c0, d0, e0, f0, g0, ⟨a1, b1, v, d1, e1, f1, g1, h1⟩⟩ Ds H) h0) F
noncomputable def s2_23 : Slot tf2 := ⟨[.o7, .o2], p2_23, fun F v => fV2 v (p2_23 F), fun _ _ _ _ _ => ⟨_, rfl, rfl⟩, fun _ v _ _ _ => fV2_eq v _ _ _ _⟩
def r2_23 : RO tf2 := ⟨.t [.o7, .o2], fun F => F.h.c, fun _ => rfl⟩
noncomputable def p2_24 (F : X2) : V2 := N8.rec (motive := fun _ => V2) (fun a0 b0 c0 d0 e0 f0 g0 h0 => N8.rec (motive := fun _ => V2) (fun a1 b1 c1 _ e1 f1 g1 h1 v k Ds H => k ⟨⟨a1, b1, c1, v, e1, f1, g1, h1⟩, b0, c0, d0, e0, f0, g0, h0⟩ Ds H) a0) F
noncomputable def s2_24 : Slot tf2 := ⟨[.o0, .o3], p2_24, fun F v => fV2 v (p2_24 F), fun _ _ _ _ _ => ⟨_, rfl, rfl⟩, fun _ v _ _ _ => fV2_eq v _ _ _ _⟩
def r2_24 : RO tf2 := ⟨.t [.o0, .o3], fun F => F.a.d, fun _ => rfl⟩
noncomputable def p2_25 (F : X2) : V2 := N8.rec (motive := fun _ => V2) (fun a0 b0 c0 d0 e0 f0 g0 h0 => N8.rec (motive := fun _ => V2) (fun a1 b1 c1 _ e1 f1 g1 h1 v k Ds H => k ⟨a0, ⟨a1, b1, c1, v, e1, f1, g1, h1⟩, c0, d0, e0, f0, g0, h0⟩ Ds H) b0) F
noncomputable def s2_25 : Slot tf2 := ⟨[.o1, .o3], p2_25, fun F v => fV2 v (p2_25 F), fun _ _ _ _ _ => ⟨_, rfl, rfl⟩, fun _ v _ _ _ => fV2_eq v _ _ _ _⟩
def r2_25 : RO tf2 := ⟨.t [.o1, .o3], fun F => F.b.d, fun _ => rfl⟩
noncomputable def p2_26 (F : X2) : V2 := N8.rec (motive := fun _ => V2) (fun a0 b0 c0 d0 e0 f0 g0 h0 => N8.rec (motive := fun _ => V2) (fun a1 b1 c1 _ e1 f1 g1 h1 v k Ds H => k ⟨a0, b0, ⟨a1, b1, c1, v, e1, f1, g1, h1⟩, d0, e0, f0, g0, h0⟩ Ds H) c0) F
noncomputable def s2_26 : Slot tf2 := ⟨[.o2, .o3], p2_26, fun F v => fV2 v (p2_26 F), fun _ _ _ _ _ => ⟨_, rfl, rfl⟩, fun _ v _ _ _ => fV2_eq v _ _ _ _⟩
def r2_26 : RO tf2 := ⟨.t [.o2, .o3], fun F => F.c.d, fun _ => rfl⟩
noncomputable def p2_27 (F : X2) : V2 := N8.rec (motive := fun _ => V2) (fun a0 b0 c0 d0 e0 f0 g0 h0 => N8.rec (motive := fun _ => V2) (fun a1 b1 c1 _ e1 f1 g1 h1 v k Ds H => k ⟨a0, b0, c0, ⟨a1, b1, c1, v, e1, f1, g1, h1⟩, e0, f0, g0, h0⟩ Ds H) d0) F
noncomputable def s2_27 : Slot tf2 := ⟨[.o3, .o3], p2_27, fun F v => fV2 v (p2_27 F), fun _ _ _ _ _ => ⟨_, rfl, rfl⟩, fun _ v _ _ _ => fV2_eq v _ _ _ _⟩
def r2_27 : RO tf2 := ⟨.t [.o3, .o3], fun F => F.d.d, fun _ => rfl⟩
noncomputable def p2_28 (F : X2) : V2 := N8.rec (motive := fun _ => V2) (fun a0 b0 c0 d0 e0 f0 g0 h0 => N8.rec (motive := fun _ => V2) (fun a1 b1 c1 _ e1 f1 g1 h1 v k Ds H => k ⟨a0, b0, c0, d0, ⟨a1, b1, c1, v, e1, f1, g1, h1⟩, f0, g0, h0⟩ Ds H) e0) F
noncomputable def s2_28 : Slot tf2 := ⟨[.o4, .o3], p2_28, fun F v => fV2 v (p2_28 F), fun _ _ _ _ _ => ⟨_, rfl, rfl⟩, fun _ v _ _ _ => fV2_eq v _ _ _ _⟩
def r2_28 : RO tf2 := ⟨.t [.o4, .o3], fun F => F.e.d, fun _ => rfl⟩
noncomputable def p2_29 (F : X2) : V2 := N8.rec (motive := fun _ => V2) (fun a0 b0 c0 d0 e0 f0 g0 h0 => N8.rec (motive := fun _ => V2) (fun a1 b1 c1 _ e1 f1 g1 h1 v k Ds H => k ⟨a0, b0, c0, d0, e0, ⟨a1, b1, c1, v, e1, f1, g1, h1⟩, g0, h0⟩ Ds H) f0) F
noncomputable def s2_29 : Slot tf2 := ⟨[.o5, .o3], p2_29, fun F v => fV2 v (p2_29 F), fun _ _ _ _ _ => ⟨_, rfl, rfl⟩, fun _ v _ _ _ => fV2_eq v _ _ _ _⟩
def r2_29 : RO tf2 := ⟨.t [.o5, .o3], fun F => F.f.d, fun _ => rfl⟩
noncomputable def p2_30 (F : X2) : V2 := N8.rec (motive := fun _ => V2) (fun a0 b0 c0 d0 e0 f0 g0 h0 => N8.rec (motive := fun _ => V2) (fun a1 b1 c1 _ e1 f1 g1 h1 v k Ds H => k ⟨a0, b0, c0, d0, e0, f0, ⟨a1, b1, c1, v, e1, f1, g1, h1⟩, h0⟩ Ds H) g0) F
noncomputable def s2_30 : Slot tf2 := ⟨[.o6, .o3], p2_30, fun F v => fV2 v (p2_30 F), fun _ _ _ _ _ => ⟨_, rfl, rfl⟩, fun _ v _ _ _ => fV2_eq v _ _ _ _⟩
def r2_30 : RO tf2 := ⟨.t [.o6, .o3], fun F => F.g.d, fun _ => rfl⟩
noncomputable def p2_31 (F : X2) : V2 := N8.rec (motive := fun _ => V2) (fun a0 b0 c0 d0 e0 f0 g0 h0 => N8.rec (motive := fun _ => V2) (fun a1 b1 c1 _ e1 f1 g1 h1 v k Ds H => k ⟨a0, b0, c0, d0, e0, f0, g0, ⟨a1, b1, c1, v, e1, f1, g1, h1⟩⟩ Ds H) h0) F
noncomputable def s2_31 : Slot tf2 := ⟨[.o7, .o3], p2_31, fun F v => fV2 v (p2_31 F), fun _ _ _ _ _ => ⟨_, rfl, rfl⟩, fun _ v _ _ _ => fV2_eq v _ _ _ _⟩
def r2_31 : RO tf2 := ⟨.t [.o7, .o3], fun F => F.h.d, fun _ => rfl⟩
noncomputable def p2_32 (F : X2) : V2 := N8.rec (motive := fun _ => V2) (fun a0 b0 c0 d0 e0 f0 g0 h0 => N8.rec (motive := fun _ => V2) (fun a1 b1 c1 d1 _ f1 g1 h1 v k Ds H => k ⟨⟨a1, b1, c1, d1, v, f1, g1, h1⟩, b0, c0, d0, e0, f0, g0, h0⟩ Ds H) a0) F
noncomputable def s2_32 : Slot tf2 := ⟨[.o0, .o4], p2_32, fun F v => fV2 v (p2_32 F), fun _ _ _ _ _ => ⟨_, rfl, rfl⟩, fun _ v _ _ _ => fV2_eq v _ _ _ _⟩
def r2_32 : RO tf2 := ⟨.t [.o0, .o4], fun F => F.a.e, fun _ => rfl⟩
noncomputable def p2_33 (F : X2) : V2 := N8.rec (motive := fun _ => V2) (fun a0 b0 c0 d0 e0 f0 g0 h0 => N8.rec (motive := fun _ => V2) (fun a1 b1 c1 d1 _ f1 g1 h1 v k Ds H => k ⟨a0, ⟨a1, b1, c1, d1, v, f1, g1, h1⟩, c0, d0, e0, f0, g0, h0⟩ Ds H) b0) F
noncomputable def s2_33 : Slot tf2 := ⟨[.o1, .o4], p2_33, fun F v => fV2 v (p2_33 F), fun _ _ _ _ _ => ⟨_, rfl, rfl⟩, fun _ v _ _ _ => fV2_eq v _ _ _ _⟩
def r2_33 : RO tf2 := ⟨.t [.o1, .o4], fun F => F.b.e, fun _ => rfl⟩
noncomputable def p2_34 (F : X2) : V2 := N8.rec (motive := fun _ => V2) (fun a0 b0 c0 d0 e0 f0 g0 h0 => N8.rec (motive := fun _ => V2) (fun a1 b1 c1 d1 _ f1 g1 h1 v k Ds H => k ⟨a0, b0, ⟨a1, b1, c1, d1, v, f1, g1, h1⟩, d0, e0, f0, g0, h0⟩ Ds H) c0) F
noncomputable def s2_34 : Slot tf2 := ⟨[.o2, .o4], p2_34, fun F v => fV2 v (p2_34 F), fun _ _ _ _ _ => ⟨_, rfl, rfl⟩, fun _ v _ _ _ => fV2_eq v _ _ _ _⟩
def r2_34 : RO tf2 := ⟨.t [.o2, .o4], fun F => F.c.e, fun _ => rfl⟩
noncomputable def p2_35 (F : X2) : V2 := N8.rec (motive := fun _ => V2) (fun a0 b0 c0 d0 e0 f0 g0 h0 => N8.rec (motive := fun _ => V2) (fun a1 b1 c1 d1 _ f1 g1 h1 v k Ds H => k ⟨a0, b0, c0, ⟨a1, b1, c1, d1, v, f1, g1, h1⟩, e0, f0, g0, h0⟩ Ds H) d0) F
noncomputable def s2_35 : Slot tf2 := ⟨[.o3, .o4], p2_35, fun F v => fV2 v (p2_35 F), fun _ _ _ _ _ => ⟨_, rfl, rfl⟩, fun _ v _ _ _ => fV2_eq v _ _ _ _⟩
def r2_35 : RO tf2 := ⟨.t [.o3, .o4], fun F => F.d.e, fun _ => rfl⟩
noncomputable def p2_36 (F : X2) : V2 := N8.rec (motive := fun _ => V2) (fun a0 b0 c0 d0 e0 f0 g0 h0 => N8.rec (motive := fun _ => V2) (fun a1 b1 c1 d1 _ f1 g1 h1 v k Ds H => k ⟨a0, b0, c0, d0, ⟨a1, b1, c1, d1, v, f1, g1, h1⟩, f0, g0, h0⟩ Ds H) e0) F
noncomputable def s2_36 : Slot tf2 := ⟨[.o4, .o4], p2_36, fun F v => fV2 v (p2_36 F), fun _ _ _ _ _ => ⟨_, rfl, rfl⟩, fun _ v _ _ _ => fV2_eq v _ _ _ _⟩
def r2_36 : RO tf2 := ⟨.t [.o4, .o4], fun F => F.e.e, fun _ => rfl⟩
noncomputable def p2_37 (F : X2) : V2 := N8.rec (motive := fun _ => V2) (fun a0 b0 c0 d0 e0 f0 g0 h0 => N8.rec (motive := fun _ => V2) (fun a1 b1 c1 d1 _ f1 g1 h1 v k Ds H => k ⟨a0, b0, c0, d0, e0, ⟨a1, b1, c1, d1, v, f1, g1, h1⟩, g0, h0⟩ Ds H) f0) F
noncomputable def s2_37 : Slot tf2 := ⟨[.o5, .o4], p2_37, fun F v => fV2 v (p2_37 F), fun _ _ _ _ _ => ⟨_, rfl, rfl⟩, fun _ v _ _ _ => fV2_eq v _ _ _ _⟩
def r2_37 : RO tf2 := ⟨.t [.o5, .o4], fun F => F.f.e, fun _ => rfl⟩
noncomputable def p2_38 (F : X2) : V2 := N8.rec (motive := fun _ => V2) (fun a0 b0 c0 d0 e0 f0 g0 h0 => N8.rec (motive := fun _ => V2) (fun a1 b1 c1 d1 _ f1 g1 h1 v k Ds H => k ⟨a0, b0, c0, d0, e0, f0, ⟨a1, b1, c1, d1, v, f1, g1, h1⟩, h0⟩ Ds H) g0) F
noncomputable def s2_38 : Slot tf2 := ⟨[.o6, .o4], p2_38, fun F v => fV2 v (p2_38 F), fun _ _ _ _ _ => ⟨_, rfl, rfl⟩, fun _ v _ _ _ => fV2_eq v _ _ _ _⟩
def r2_38 : RO tf2 := ⟨.t [.o6, .o4], fun F => F.g.e, fun _ => rfl⟩
noncomputable def p2_39 (F : X2) : V2 := N8.rec (motive := fun _ => V2) (fun a0 b0 c0 d0 e0 f0 g0 h0 => N8.rec (motive := fun _ => V2) (fun a1 b1 c1 d1 _ f1 g1 h1 v k Ds H => k ⟨a0, b0, c0, d0, e0, f0, g0, ⟨a1, b1, c1, d1, v, f1, g1, h1⟩⟩ Ds H) h0) F
noncomputable def s2_39 : Slot tf2 := ⟨[.o7, .o4], p2_39, fun F v => fV2 v (p2_39 F), fun _ _ _ _ _ => ⟨_, rfl, rfl⟩, fun _ v _ _ _ => fV2_eq v _ _ _ _⟩
def r2_39 : RO tf2 := ⟨.t [.o7, .o4], fun F => F.h.e, fun _ => rfl⟩
noncomputable def p2_40 (F : X2) : V2 := N8.rec (motive := fun _ => V2) (fun a0 b0 c0 d0 e0 f0 g0 h0 => N8.rec (motive := fun _ => V2) (fun a1 b1 c1 d1 e1 _ g1 h1 v k Ds H => k ⟨⟨a1, b1, c1, d1, e1, v, g1, h1⟩, b0, c0, d0, e0, f0, g0, h0⟩ Ds H) a0) F
noncomputable def s2_40 : Slot tf2 := ⟨[.o0, .o5], p2_40, fun F v => fV2 v (p2_40 F), fun _ _ _ _ _ => ⟨_, rfl, rfl⟩, fun _ v _ _ _ => fV2_eq v _ _ _ _⟩
def r2_40 : RO tf2 := ⟨.t [.o0, .o5], fun F => F.a.f, fun _ => rfl⟩
noncomputable def p2_41 (F : X2) : V2 := N8.rec (motive := fun _ => V2) (fun a0 b0 c0 d0 e0 f0 g0 h0 => N8.rec (motive := fun _ => V2) (fun a1 b1 c1 d1 e1 _ g1 h1 v k Ds H => k ⟨a0, ⟨a1, b1, c1, d1, e1, v, g1, h1⟩, c0, d0, e0, f0, g0, h0⟩ Ds H) b0) F
noncomputable def s2_41 : Slot tf2 := ⟨[.o1, .o5], p2_41, fun F v => fV2 v (p2_41 F), fun _ _ _ _ _ => ⟨_, rfl, rfl⟩, fun _ v _ _ _ => fV2_eq v _ _ _ _⟩
def r2_41 : RO tf2 := ⟨.t [.o1, .o5], fun F => F.b.f, fun _ => rfl⟩
noncomputable def p2_42 (F : X2) : V2 := N8.rec (motive := fun _ => V2) (fun a0 b0 c0 d0 e0 f0 g0 h0 => N8.rec (motive := fun _ => V2) (fun a1 b1 c1 d1 e1 _ g1 h1 v k Ds H => k ⟨a0, b0, ⟨a1, b1, c1, d1, e1, v, g1, h1⟩, d0, e0, f0, g0, h0⟩ Ds H) c0) F
noncomputable def s2_42 : Slot tf2 := ⟨[.o2, .o5], p2_42, fun F v => fV2 v (p2_42 F), fun _ _ _ _ _ => ⟨_, rfl, rfl⟩, fun _ v _ _ _ => fV2_eq v _ _ _ _⟩
def r2_42 : RO tf2 := ⟨.t [.o2, .o5], fun F => F.c.f, fun _ => rfl⟩
noncomputable def p2_43 (F : X2) : V2 := N8.rec (motive := fun _ => V2) (fun a0 b0 c0 d0 e0 f0 g0 h0 => N8.rec (motive := fun _ => V2) (fun a1 b1 c1 d1 e1 _ g1 h1 v k Ds H => k ⟨a0, b0, c0, ⟨a1, b1, c1, d1, e1, v, g1, h1⟩, e0, f0, g0, h0⟩ Ds H) d0) F
noncomputable def s2_43 : Slot tf2 := ⟨[.o3, .o5], p2_43, fun F v => fV2 v (p2_43 F), fun _ _ _ _ _ => ⟨_, rfl, rfl⟩, fun _ v _ _ _ => fV2_eq v _ _ _ _⟩
def r2_43 : RO tf2 := ⟨.t [.o3, .o5], fun F => F.d.f, fun _ => rfl⟩
noncomputable def p2_44 (F : X2) : V2 := N8.rec (motive := fun _ => V2) (fun a0 b0 c0 d0 e0 f0 g0 h0 => N8.rec (motive := fun _ => V2) (fun a1 b1 c1 d1 e1 _ g1 h1 v k Ds H => k ⟨a0, b0, c0, d0, ⟨a1, b1, c1, d1, e1, v, g1, h1⟩, f0, g0, h0⟩ Ds H) e0) F
noncomputable def s2_44 : Slot tf2 := ⟨[.o4, .o5], p2_44, fun F v => fV2 v (p2_44 F), fun _ _ _ _ _ => ⟨_, rfl, rfl⟩, fun _ v _ _ _ => fV2_eq v _ _ _ _⟩
def r2_44 : RO tf2 := ⟨.t [.o4, .o5], fun F => F.e.f, fun _ => rfl⟩
noncomputable def p2_45 (F : X2) : V2 := N8.rec (motive := fun _ => V2) (fun a0 b0 c0 d0 e0 f0 g0 h0 => N8.rec (motive := fun _ => V2) (fun a1 b1 c1 d1 e1 _ g1 h1 v k Ds H => k ⟨a0, b0, c0, d0, e0, ⟨a1, b1, c1, d1, e1, v, g1, h1⟩, g0, h0⟩ Ds H) f0) F
noncomputable def s2_45 : Slot tf2 := ⟨[.o5, .o5], p2_45, fun F v => fV2 v (p2_45 F), fun _ _ _ _ _ => ⟨_, rfl, rfl⟩, fun _ v _ _ _ => fV2_eq v _ _ _ _⟩
def r2_45 : RO tf2 := ⟨.t [.o5, .o5], fun F => F.f.f, fun _ => rfl⟩
noncomputable def p2_46 (F : X2) : V2 := N8.rec (motive := fun _ => V2) (fun a0 b0 c0 d0 e0 f0 g0 h0 => N8.rec (motive := fun _ => V2) (fun a1 b1 c1 d1 e1 _ g1 h1 v k Ds H => k ⟨a0, b0, c0, d0, e0, f0, ⟨a1, b1, c1, d1, e1, v, g1, h1⟩, h0⟩ Ds H) g0) F
noncomputable def s2_46 : Slot tf2 := ⟨[.o6, .o5], p2_46, fun F v => fV2 v (p2_46 F), fun _ _ _ _ _ => ⟨_, rfl, rfl⟩, fun _ v _ _ _ => fV2_eq v _ _ _ _⟩
def r2_46 : RO tf2 := ⟨.t [.o6, .o5], fun F => F.g.f, fun _ => rfl⟩
noncomputable def p2_47 (F : X2) : V2 := N8.rec (motive := fun _ => V2) (fun a0 b0 c0 d0 e0 f0 g0 h0 => N8.rec (motive := fun _ => V2) (fun a1 b1 c1 d1 e1 _ g1 h1 v k Ds H => k ⟨a0, b0, c0, d0, e0, f0, g0, ⟨a1, b1, c1, d1, e1, v, g1, h1⟩⟩ Ds H) h0) F
noncomputable def s2_47 : Slot tf2 := ⟨[.o7, .o5], p2_47, fun F v => fV2 v (p2_47 F), fun _ _ _ _ _ => ⟨_, rfl, rfl⟩, fun _ v _ _ _ => fV2_eq v _ _ _ _⟩
def r2_47 : RO tf2 := ⟨.t [.o7, .o5], fun F => F.h.f, fun _ => rfl⟩
noncomputable def p2_48 (F : X2) : V2 := N8.rec (motive := fun _ => V2) (fun a0 b0 c0 d0 e0 f0 g0 h0 => N8.rec (motive := fun _ => V2) (fun a1 b1 c1 d1 e1 f1 _ h1 v k Ds H => k ⟨⟨a1, b1, c1, d1, e1, f1, v, h1⟩, b0, c0, d0, e0, f0, g0, h0⟩ Ds H) a0) F
noncomputable def s2_48 : Slot tf2 := ⟨[.o0, .o6], p2_48, fun F v => fV2 v (p2_48 F), fun _ _ _ _ _ => ⟨_, rfl, rfl⟩, fun _ v _ _ _ => fV2_eq v _ _ _ _⟩
def r2_48 : RO tf2 := ⟨.t [.o0, .o6], fun F => F.a.g, fun _ => rfl⟩
noncomputable def p2_49 (F : X2) : V2 := N8.rec (motive := fun _ => V2) (fun a0 b0 c0 d0 e0 f0 g0 h0 => N8.rec (motive := fun _ => V2) (fun a1 b1 c1 d1 e1 f1 _ h1 v k Ds H => k ⟨a0, ⟨a1, b1, c1, d1, e1, f1, v, h1⟩, c0, d0, e0, f0, g0, h0⟩ Ds H) b0) F
noncomputable def s2_49 : Slot tf2 := ⟨[.o1, .o6], p2_49, fun F v => fV2 v (p2_49 F), fun _ _ _ _ _ => ⟨_, rfl, rfl⟩, fun _ v _ _ _ => fV2_eq v _ _ _ _⟩
def r2_49 : RO tf2 := ⟨.t [.o1, .o6], fun F => F.b.g, fun _ => rfl⟩
noncomputable def p2_50 (F : X2) : V2 := N8.rec (motive := fun _ => V2) (fun a0 b0 c0 d0 e0 f0 g0 h0 => N8.rec (motive := fun _ => V2) (fun a1 b1 c1 d1 e1 f1 _ h1 v k Ds H => k ⟨a0, b0, ⟨a1, b1, c1, d1, e1, f1, v, h1⟩, d0, e0, f0, g0, h0⟩ Ds H) c0) F
noncomputable def s2_50 : Slot tf2 := ⟨[.o2, .o6], p2_50, fun F v => fV2 v (p2_50 F), fun _ _ _ _ _ => ⟨_, rfl, rfl⟩, fun _ v _ _ _ => fV2_eq v _ _ _ _⟩
def r2_50 : RO tf2 := ⟨.t [.o2, .o6], fun F => F.c.g, fun _ => rfl⟩
noncomputable def p2_51 (F : X2) : V2 := N8.rec (motive := fun _ => V2) (fun a0 b0 c0 d0 e0 f0 g0 h0 => N8.rec (motive := fun _ => V2) (fun a1 b1 c1 d1 e1 f1 _ h1 v k Ds H => k ⟨a0, b0, c0, ⟨a1, b1, c1, d1, e1, f1, v, h1⟩, e0, f0, g0, h0⟩ Ds H) d0) F
noncomputable def s2_51 : Slot tf2 := ⟨[.o3, .o6], p2_51, fun F v => fV2 v (p2_51 F), fun _ _ _ _ _ => ⟨_, rfl, rfl⟩, fun _ v _ _ _ => fV2_eq v _ _ _ _⟩
def r2_51 : RO tf2 := ⟨.t [.o3, .o6], fun F => F.d.g, fun _ => rfl⟩
noncomputable def p2_52 (F : X2) : V2 := N8.rec (motive := fun _ => V2) (fun a0 b0 c0 d0 e0 f0 g0 h0 => N8.rec (motive := fun _ => V2) (fun a1 b1 c1 d1 e1 f1 _ h1 v k Ds H => k ⟨a0, b0, c0, d0, ⟨a1, b1, c1, d1, e1, f1, v, h1⟩, f0, g0, h0⟩ Ds H) e0) F
noncomputable def s2_52 : Slot tf2 := ⟨[.o4, .o6], p2_52, fun F v => fV2 v (p2_52 F), fun _ _ _ _ _ => ⟨_, rfl, rfl⟩, fun _ v _ _ _ => fV2_eq v _ _ _ _⟩
def r2_52 : RO tf2 := ⟨.t [.o4, .o6], fun F => F.e.g, fun _ => rfl⟩
noncomputable def p2_53 (F : X2) : V2 := N8.rec (motive := fun _ => V2) (fun a0 b0 c0 d0 e0 f0 g0 h0 => N8.rec (motive := fun _ => V2) (fun a1 b1 c1 d1 e1 f1 _ h1 v k Ds H => k ⟨a0, b0, c0, d0, e0, ⟨a1, b1, c1, d1, e1, f1, v, h1⟩, g0, h0⟩ Ds H) f0) F
noncomputable def s2_53 : Slot tf2 := ⟨[.o5, .o6], p2_53, fun F v => fV2 v (p2_53 F), fun _ _ _ _ _ => ⟨_, rfl, rfl⟩, fun _ v _ _ _ => fV2_eq v _ _ _ _⟩
def r2_53 : RO tf2 := ⟨.t [.o5, .o6], fun F => F.f.g, fun _ => rfl⟩
noncomputable def p2_54 (F : X2) : V2 := N8.rec (motive := fun _ => V2) (fun a0 b0 c0 d0 e0 f0 g0 h0 => N8.rec (motive := fun _ => V2) (fun a1 b1 c1 d1 e1 f1 _ h1 v k Ds H => k ⟨a0, b0, c0, d0, e0, f0, ⟨a1, b1, c1, d1, e1, f1, v, h1⟩, h0⟩ Ds H) g0) F
noncomputable def s2_54 : Slot tf2 := ⟨[.o6, .o6], p2_54, fun F v => fV2 v (p2_54 F), fun _ _ _ _ _ => ⟨_, rfl, rfl⟩, fun _ v _ _ _ => fV2_eq v _ _ _ _⟩
def r2_54 : RO tf2 := ⟨.t [.o6, .o6], fun F => F.g.g, fun _ => rfl⟩
noncomputable def p2_55 (F : X2) : V2 := N8.rec (motive := fun _ => V2) (fun a0 b0 c0 d0 e0 f0 g0 h0 => N8.rec (motive := fun _ => V2) (fun a1 b1 c1 d1 e1 f1 _ h1 v k Ds H => k ⟨a0, b0, c0, d0, e0, f0, g0, ⟨a1, b1, c1, d1, e1, f1, v, h1⟩⟩ Ds H) h0) F
noncomputable def s2_55 : Slot tf2 := ⟨[.o7, .o6], p2_55, fun F v => fV2 v (p2_55 F), fun _ _ _ _ _ => ⟨_, rfl, rfl⟩, fun _ v _ _ _ => fV2_eq v _ _ _ _⟩
def r2_55 : RO tf2 := ⟨.t [.o7, .o6], fun F => F.h.g, fun _ => rfl⟩
noncomputable def p2_56 (F : X2) : V2 := N8.rec (motive := fun _ => V2) (fun a0 b0 c0 d0 e0 f0 g0 h0 => N8.rec (motive := fun _ => V2) (fun a1 b1 c1 d1 e1 f1 g1 _ v k Ds H => k ⟨⟨a1, b1, c1, d1, e1, f1, g1, v⟩, b0, c0, d0, e0, f0, g0, h0⟩ Ds H) a0) F
noncomputable def s2_56 : Slot tf2 := ⟨[.o0, .o7], p2_56, fun F v => fV2 v (p2_56 F), fun _ _ _ _ _ => ⟨_, rfl, rfl⟩, fun _ v _ _ _ => fV2_eq v _ _ _ _⟩
def r2_56 : RO tf2 := ⟨.t [.o0, .o7], fun F => F.a.h, fun _ => rfl⟩
noncomputable def p2_57 (F : X2) : V2 := N8.rec (motive := fun _ => V2) (fun a0 b0 c0 d0 e0 f0 g0 h0 => N8.rec (motive := fun _ => V2) (fun a1 b1 c1 d1 e1 f1 g1 _ v k Ds H => k ⟨a0, ⟨a1, b1, c1, d1, e1, f1, g1, v⟩, c0, d0, e0, f0, g0, h0⟩ Ds H) b0) F
noncomputable def s2_57 : Slot tf2 := ⟨[.o1, .o7], p2_57, fun F v => fV2 v (p2_57 F), fun _ _ _ _ _ => ⟨_, rfl, rfl⟩, fun _ v _ _ _ => fV2_eq v _ _ _ _⟩
def r2_57 : RO tf2 := ⟨.t [.o1, .o7], fun F => F.b.h, fun _ => rfl⟩
noncomputable def p2_58 (F : X2) : V2 := N8.rec (motive := fun _ => V2) (fun a0 b0 c0 d0 e0 f0 g0 h0 => N8.rec (motive := fun _ => V2) (fun a1 b1 c1 d1 e1 f1 g1 _ v k Ds H => k ⟨a0, b0, ⟨a1, b1, c1, d1, e1, f1, g1, v⟩, d0, e0, f0, g0, h0⟩ Ds H) c0) F
noncomputable def s2_58 : Slot tf2 := ⟨[.o2, .o7], p2_58, fun F v => fV2 v (p2_58 F), fun _ _ _ _ _ => ⟨_, rfl, rfl⟩, fun _ v _ _ _ => fV2_eq v _ _ _ _⟩
def r2_58 : RO tf2 := ⟨.t [.o2, .o7], fun F => F.c.h, fun _ => rfl⟩
noncomputable def p2_59 (F : X2) : V2 := N8.rec (motive := fun _ => V2) (fun a0 b0 c0 d0 e0 f0 g0 h0 => N8.rec (motive := fun _ => V2) (fun a1 b1 c1 d1 e1 f1 g1 _ v k Ds H => k ⟨a0, b0, c0, ⟨a1, b1, c1, d1, e1, f1, g1, v⟩, e0, f0, g0, h0⟩ Ds H) d0) F
noncomputable def s2_59 : Slot tf2 := ⟨[.o3, .o7], p2_59, fun F v => fV2 v (p2_59 F), fun _ _ _ _ _ => ⟨_, rfl, rfl⟩, fun _ v _ _ _ => fV2_eq v _ _ _ _⟩
def r2_59 : RO tf2 := ⟨.t [.o3, .o7], fun F => F.d.h, fun _ => rfl⟩
noncomputable def p2_60 (F : X2) : V2 := N8.rec (motive := fun _ => V2) (fun a0 b0 c0 d0 e0 f0 g0 h0 => N8.rec (motive := fun _ => V2) (fun a1 b1 c1 d1 e1 f1 g1 _ v k Ds H => k ⟨a0, b0, c0, d0, ⟨a1, b1, c1, d1, e1, f1, g1, v⟩, f0, g0, h0⟩ Ds H) e0) F
noncomputable def s2_60 : Slot tf2 := ⟨[.o4, .o7], p2_60, fun F v => fV2 v (p2_60 F), fun _ _ _ _ _ => ⟨_, rfl, rfl⟩, fun _ v _ _ _ => fV2_eq v _ _ _ _⟩
def r2_60 : RO tf2 := ⟨.t [.o4, .o7], fun F => F.e.h, fun _ => rfl⟩
noncomputable def p2_61 (F : X2) : V2 := N8.rec (motive := fun _ => V2) (fun a0 b0 c0 d0 e0 f0 g0 h0 => N8.rec (motive := fun _ => V2) (fun a1 b1 c1 d1 e1 f1 g1 _ v k Ds H => k ⟨a0, b0, c0, d0, e0, ⟨a1, b1, c1, d1, e1, f1, g1, v⟩, g0, h0⟩ Ds H) f0) F
noncomputable def s2_61 : Slot tf2 := ⟨[.o5, .o7], p2_61, fun F v => fV2 v (p2_61 F), fun _ _ _ _ _ => ⟨_, rfl, rfl⟩, fun _ v _ _ _ => fV2_eq v _ _ _ _⟩
def r2_61 : RO tf2 := ⟨.t [.o5, .o7], fun F => F.f.h, fun _ => rfl⟩
noncomputable def p2_62 (F : X2) : V2 := N8.rec (motive := fun _ => V2) (fun a0 b0 c0 d0 e0 f0 g0 h0 => N8.rec (motive := fun _ => V2) (fun a1 b1 c1 d1 e1 f1 g1 _ v k Ds H => k ⟨a0, b0, c0, d0, e0, f0, ⟨a1, b1, c1, d1, e1, f1, g1, v⟩, h0⟩ Ds H) g0) F
noncomputable def s2_62 : Slot tf2 := ⟨[.o6, .o7], p2_62, fun F v => fV2 v (p2_62 F), fun _ _ _ _ _ => ⟨_, rfl, rfl⟩, fun _ v _ _ _ => fV2_eq v _ _ _ _⟩
def r2_62 : RO tf2 := ⟨.t [.o6, .o7], fun F => F.g.h, fun _ => rfl⟩
noncomputable def p2_63 (F : X2) : V2 := N8.rec (motive := fun _ => V2) (fun a0 b0 c0 d0 e0 f0 g0 h0 => N8.rec (motive := fun _ => V2) (fun a1 b1 c1 d1 e1 f1 g1 _ v k Ds H => k ⟨a0, b0, c0, d0, e0, f0, g0, ⟨a1, b1, c1, d1, e1, f1, g1, v⟩⟩ Ds H) h0) F
noncomputable def s2_63 : Slot tf2 := ⟨[.o7, .o7], p2_63, fun F v => fV2 v (p2_63 F), fun _ _ _ _ _ => ⟨_, rfl, rfl⟩, fun _ v _ _ _ => fV2_eq v _ _ _ _⟩
def r2_63 : RO tf2 := ⟨.t [.o7, .o7], fun F => F.h.h, fun _ => rfl⟩
abbrev V3 := Value → XK X3 → List ADef → AH → XO X3
noncomputable def p3_0 (F : X3) : V3 := N8.rec (motive := fun _ => V3) (fun a0 b0 c0 d0 e0 f0 g0 h0 => N8.rec (motive := fun _ => V3) (fun a1 b1 c1 d1 e1 f1 g1 h1 => N8.rec (motive := fun _ => V3) (fun _ b2 c2 d2 e2 f2 g2 h2 v k Ds H => k ⟨⟨⟨v, b2, c2, d2, e2, f2, g2, h2⟩, b1, c1, d1, e1, f1, g1, h1⟩, b0, c0, d0, e0, f0, g0, h0⟩ Ds H) a1) a0) F
noncomputable def s3_0 : Slot tf3 := ⟨[.o0, .o0, .o0], p3_0, fun F v => fV3 v (p3_0 F), fun _ _ _ _ _ => ⟨_, rfl, rfl⟩, fun _ v _ _ _ => fV3_eq v _ _ _ _⟩
def r3_0 : RO tf3 := ⟨.t [.o0, .o0, .o0], fun F => F.a.a.a, fun _ => rfl⟩
noncomputable def p3_1 (F : X3) : V3 := N8.rec (motive := fun _ => V3) (fun a0 b0 c0 d0 e0 f0 g0 h0 => N8.rec (motive := fun _ => V3) (fun a1 b1 c1 d1 e1 f1 g1 h1 => N8.rec (motive := fun _ => V3) (fun _ b2 c2 d2 e2 f2 g2 h2 v k Ds H => k ⟨a0, ⟨⟨v, b2, c2, d2, e2, f2, g2, h2⟩, b1, c1, d1, e1, f1, g1, h1⟩, c0, d0, e0, f0, g0, h0⟩ Ds H) a1) b0) F
noncomputable def s3_1 : Slot tf3 := ⟨[.o1, .o0, .o0], p3_1, fun F v => fV3 v (p3_1 F), fun _ _ _ _ _ => ⟨_, rfl, rfl⟩, fun _ v _ _ _ => fV3_eq v _ _ _ _⟩
def r3_1 : RO tf3 := ⟨.t [.o1, .o0, .o0], fun F => F.b.a.a, fun _ => rfl⟩
noncomputable def p3_2 (F : X3) : V3 := N8.rec (motive := fun _ => V3) (fun a0 b0 c0 d0 e0 f0 g0 h0 => N8.rec (motive := fun _ => V3) (fun a1 b1 c1 d1 e1 f1 g1 h1 => N8.rec (motive := fun _ => V3) (fun _ b2 c2 d2 e2 f2 g2 h2 v k Ds H => k ⟨a0, b0, ⟨⟨v, b2, c2, d2, e2, f2, g2, h2⟩, b1, c1, d1, e1, f1, g1, h1⟩, d0, e0, f0, g0, h0⟩ Ds H) a1) c0) F
noncomputable def s3_2 : Slot tf3 := ⟨[.o2, .o0, .o0], p3_2, fun F v => fV3 v (p3_2 F), fun _ _ _ _ _ => ⟨_, rfl, rfl⟩, fun _ v _ _ _ => fV3_eq v _ _ _ _⟩
def r3_2 : RO tf3 := ⟨.t [.o2, .o0, .o0], fun F => F.c.a.a, fun _ => rfl⟩
noncomputable def p3_3 (F : X3) : V3 := N8.rec (motive := fun _ => V3) (fun a0 b0 c0 d0 e0 f0 g0 h0 => N8.rec (motive := fun _ => V3) (fun a1 b1 c1 d1 e1 f1 g1 h1 => N8.rec (motive := fun _ => V3) (fun _ b2 c2 d2 e2 f2 g2 h2 v k Ds H => k ⟨a0, b0, c0, ⟨⟨v, b2, c2, d2, e2, f2, g2, h2⟩, b1, c1, d1, e1, f1, g1, h1⟩, e0, f0, g0, h0⟩ Ds H) a1) d0) F
noncomputable def s3_3 : Slot tf3 := ⟨[.o3, .o0, .o0], p3_3, fun F v => fV3 v (p3_3 F), fun _ _ _ _ _ => ⟨_, rfl, rfl⟩, fun _ v _ _ _ => fV3_eq v _ _ _ _⟩
def r3_3 : RO tf3 := ⟨.t [.o3, .o0, .o0], fun F => F.d.a.a, fun _ => rfl⟩
noncomputable def p3_4 (F : X3) : V3 := N8.rec (motive := fun _ => V3) (fun a0 b0 c0 d0 e0 f0 g0 h0 => N8.rec (motive := fun _ => V3) (fun a1 b1 c1 d1 e1 f1 g1 h1 => N8.rec (motive := fun _ => V3) (fun _ b2 c2 d2 e2 f2 g2 h2 v k Ds H => k ⟨a0, b0, c0, d0, ⟨⟨v, b2, c2, d2, e2, f2, g2, h2⟩, b1, c1, d1, e1, f1, g1, h1⟩, f0, g0, h0⟩ Ds H) a1) e0) F
noncomputable def s3_4 : Slot tf3 := ⟨[.o4, .o0, .o0], p3_4, fun F v => fV3 v (p3_4 F), fun _ _ _ _ _ => ⟨_, rfl, rfl⟩, fun _ v _ _ _ => fV3_eq v _ _ _ _⟩
def r3_4 : RO tf3 := ⟨.t [.o4, .o0, .o0], fun F => F.e.a.a, fun _ => rfl⟩
noncomputable def p3_5 (F : X3) : V3 := N8.rec (motive := fun _ => V3) (fun a0 b0 c0 d0 e0 f0 g0 h0 => N8.rec (motive := fun _ => V3) (fun a1 b1 c1 d1 e1 f1 g1 h1 => N8.rec (motive := fun _ => V3) (fun _ b2 c2 d2 e2 f2 g2 h2 v k Ds H => k ⟨a0, b0, c0, d0, e0, ⟨⟨v, b2, c2, d2, e2, f2, g2, h2⟩, b1, c1, d1, e1, f1, g1, h1⟩, g0, h0⟩ Ds H) a1) f0) F
noncomputable def s3_5 : Slot tf3 := ⟨[.o5, .o0, .o0], p3_5, fun F v => fV3 v (p3_5 F), fun _ _ _ _ _ => ⟨_, rfl, rfl⟩, fun _ v _ _ _ => fV3_eq v _ _ _ _⟩
def r3_5 : RO tf3 := ⟨.t [.o5, .o0, .o0], fun F => F.f.a.a, fun _ => rfl⟩
noncomputable def p3_6 (F : X3) : V3 := N8.rec (motive := fun _ => V3) (fun a0 b0 c0 d0 e0 f0 g0 h0 => N8.rec (motive := fun _ => V3) (fun a1 b1 c1 d1 e1 f1 g1 h1 => N8.rec (motive := fun _ => V3) (fun _ b2 c2 d2 e2 f2 g2 h2 v k Ds H => k ⟨a0, b0, c0, d0, e0, f0, ⟨⟨v, b2, c2, d2, e2, f2, g2, h2⟩, b1, c1, d1, e1, f1, g1, h1⟩, h0⟩ Ds H) a1) g0) F
noncomputable def s3_6 : Slot tf3 := ⟨[.o6, .o0, .o0], p3_6, fun F v => fV3 v (p3_6 F), fun _ _ _ _ _ => ⟨_, rfl, rfl⟩, fun _ v _ _ _ => fV3_eq v _ _ _ _⟩
def r3_6 : RO tf3 := ⟨.t [.o6, .o0, .o0], fun F => F.g.a.a, fun _ => rfl⟩
noncomputable def p3_7 (F : X3) : V3 := N8.rec (motive := fun _ => V3) (fun a0 b0 c0 d0 e0 f0 g0 h0 => N8.rec (motive := fun _ => V3) (fun a1 b1 c1 d1 e1 f1 g1 h1 => N8.rec (motive := fun _ => V3) (fun _ b2 c2 d2 e2 f2 g2 h2 v k Ds H => k ⟨a0, b0, c0, d0, e0, f0, g0, ⟨⟨v, b2, c2, d2, e2, f2, g2, h2⟩, b1, c1, d1, e1, f1, g1, h1⟩⟩ Ds H) a1) h0) F
noncomputable def s3_7 : Slot tf3 := ⟨[.o7, .o0, .o0], p3_7, fun F v => fV3 v (p3_7 F), fun _ _ _ _ _ => ⟨_, rfl, rfl⟩, fun _ v _ _ _ => fV3_eq v _ _ _ _⟩
def r3_7 : RO tf3 := ⟨.t [.o7, .o0, .o0], fun F => F.h.a.a, fun _ => rfl⟩
noncomputable def p3_8 (F : X3) : V3 := N8.rec (motive := fun _ => V3) (fun a0 b0 c0 d0 e0 f0 g0 h0 => N8.rec (motive := fun _ => V3) (fun a1 b1 c1 d1 e1 f1 g1 h1 => N8.rec (motive := fun _ => V3) (fun _ b2 c2 d2 e2 f2 g2 h2 v k Ds H => k ⟨⟨a1, ⟨v, b2, c2, d2, e2, f2, g2, h2⟩, c1, d1, e1, f1, g1, h1⟩, b0, c0, d0, e0, f0, g0, h0⟩ Ds H) b1) a0) F
noncomputable def s3_8 : Slot tf3 := ⟨[.o0, .o1, .o0], p3_8, fun F v => fV3 v (p3_8 F), fun _ _ _ _ _ => ⟨_, rfl, rfl⟩, fun _ v _ _ _ => fV3_eq v _ _ _ _⟩
def r3_8 : RO tf3 := ⟨.t [.o0, .o1, .o0], fun F => F.a.b.a, fun _ => rfl⟩
noncomputable def p3_9 (F : X3) : V3 := N8.rec (motive := fun _ => V3) (fun a0 b0 c0 d0 e0 f0 g0 h0 => N8.rec (motive := fun _ => V3) (fun a1 b1 c1 d1 e1 f1 g1 h1 => N8.rec (motive := fun _ => V3) (fun _ b2 c2 d2 e2 f2 g2 h2 v k Ds H => k ⟨a0, ⟨a1, ⟨v, b2, c2, d2, e2, f2, g2, h2⟩, c1, d1, e1, f1, g1, h1⟩, c0, d0, e0, f0, g0, h0⟩ Ds H) b1) b0) F
noncomputable def s3_9 : Slot tf3 := ⟨[.o1, .o1, .o0], p3_9, fun F v => fV3 v (p3_9 F), fun _ _ _ _ _ => ⟨_, rfl, rfl⟩, fun _ v _ _ _ => fV3_eq v _ _ _ _⟩
def r3_9 : RO tf3 := ⟨.t [.o1, .o1, .o0], fun F => F.b.b.a, fun _ => rfl⟩
noncomputable def p3_10 (F : X3) : V3 := N8.rec (motive := fun _ => V3) (fun a0 b0 c0 d0 e0 f0 g0 h0 => N8.rec (motive := fun _ => V3) (fun a1 b1 c1 d1 e1 f1 g1 h1 => N8.rec (motive := fun _ => V3) (fun _ b2 c2 d2 e2 f2 g2 h2 v k Ds H => k ⟨a0, b0, ⟨a1, ⟨v, b2, c2, d2, e2, f2, g2, h2⟩, c1, d1, e1, f1, g1, h1⟩, d0, e0, f0, g0, h0⟩ Ds H) b1) c0) F
noncomputable def s3_10 : Slot tf3 := ⟨[.o2, .o1, .o0], p3_10, fun F v => fV3 v (p3_10 F), fun _ _ _ _ _ => ⟨_, rfl, rfl⟩, fun _ v _ _ _ => fV3_eq v _ _ _ _⟩
def r3_10 : RO tf3 := ⟨.t [.o2, .o1, .o0], fun F => F.c.b.a, fun _ => rfl⟩
noncomputable def p3_11 (F : X3) : V3 := N8.rec (motive := fun _ => V3) (fun a0 b0 c0 d0 e0 f0 g0 h0 => N8.rec (motive := fun _ => V3) (fun a1 b1 c1 d1 e1 f1 g1 h1 => N8.rec (motive := fun _ => V3) (fun _ b2 c2 d2 e2 f2 g2 h2 v k Ds H => k ⟨a0, b0, c0, ⟨a1, ⟨v, b2, c2, d2, e2, f2, g2, h2⟩, c1, d1, e1, f1, g1, h1⟩, e0, f0, g0, h0⟩ Ds H) b1) d0) F
noncomputable def s3_11 : Slot tf3 := ⟨[.o3, .o1, .o0], p3_11, fun F v => fV3 v (p3_11 F), fun _ _ _ _ _ => ⟨_, rfl, rfl⟩, fun _ v _ _ _ => fV3_eq v _ _ _ _⟩
def r3_11 : RO tf3 := ⟨.t [.o3, .o1, .o0], fun F => F.d.b.a, fun _ => rfl⟩
noncomputable def p3_12 (F : X3) : V3 := N8.rec (motive := fun _ => V3) (fun a0 b0 c0 d0 e0 f0 g0 h0 => N8.rec (motive := fun _ => V3) (fun a1 b1 c1 d1 e1 f1 g1 h1 => N8.rec (motive := fun _ => V3) (fun _ b2 c2 d2 e2 f2 g2 h2 v k Ds H => k ⟨a0, b0, c0, d0, ⟨a1, ⟨v, b2, c2, d2, e2, f2, g2, h2⟩, c1, d1, e1, f1, g1, h1⟩, f0, g0, h0⟩ Ds H) b1) e0) F
noncomputable def s3_12 : Slot tf3 := ⟨[.o4, .o1, .o0], p3_12, fun F v => fV3 v (p3_12 F), fun _ _ _ _ _ => ⟨_, rfl, rfl⟩, fun _ v _ _ _ => fV3_eq v _ _ _ _⟩
def r3_12 : RO tf3 := ⟨.t [.o4, .o1, .o0], fun F => F.e.b.a, fun _ => rfl⟩
noncomputable def p3_13 (F : X3) : V3 := N8.rec (motive := fun _ => V3) (fun a0 b0 c0 d0 e0 f0 g0 h0 => N8.rec (motive := fun _ => V3) (fun a1 b1 c1 d1 e1 f1 g1 h1 => N8.rec (motive := fun _ => V3) (fun _ b2 c2 d2 e2 f2 g2 h2 v k Ds H => k ⟨a0, b0, c0, d0, e0, ⟨a1, ⟨v, b2, c2, d2, e2, f2, g2, h2⟩, c1, d1, e1, f1, g1, h1⟩, g0, h0⟩ Ds H) b1) f0) F
noncomputable def s3_13 : Slot tf3 := ⟨[.o5, .o1, .o0], p3_13, fun F v => fV3 v (p3_13 F), fun _ _ _ _ _ => ⟨_, rfl, rfl⟩, fun _ v _ _ _ => fV3_eq v _ _ _ _⟩
def r3_13 : RO tf3 := ⟨.t [.o5, .o1, .o0], fun F => F.f.b.a, fun _ => rfl⟩
noncomputable def p3_14 (F : X3) : V3 := N8.rec (motive := fun _ => V3) (fun a0 b0 c0 d0 e0 f0 g0 h0 => N8.rec (motive := fun _ => V3) (fun a1 b1 c1 d1 e1 f1 g1 h1 => N8.rec (motive := fun _ => V3) (fun _ b2 c2 d2 e2 f2 g2 h2 v k Ds H => k ⟨a0, b0, c0, d0, e0, f0, ⟨a1, ⟨v, b2, c2, d2, e2, f2, g2, h2⟩, c1, d1, e1, f1, g1, h1⟩, h0⟩ Ds H) b1) g0) F
noncomputable def s3_14 : Slot tf3 := ⟨[.o6, .o1, .o0], p3_14, fun F v => fV3 v (p3_14 F), fun _ _ _ _ _ => ⟨_, rfl, rfl⟩, fun _ v _ _ _ => fV3_eq v _ _ _ _⟩
def r3_14 : RO tf3 := ⟨.t [.o6, .o1, .o0], fun F => F.g.b.a, fun _ => rfl⟩
noncomputable def p3_15 (F : X3) : V3 := N8.rec (motive := fun _ => V3) (fun a0 b0 c0 d0 e0 f0 g0 h0 => N8.rec (motive := fun _ => V3) (fun a1 b1 c1 d1 e1 f1 g1 h1 => N8.rec (motive := fun _ => V3) (fun _ b2 c2 d2 e2 f2 g2 h2 v k Ds H => k ⟨a0, b0, c0, d0, e0, f0, g0, ⟨a1, ⟨v, b2, c2, d2, e2, f2, g2, h2⟩, c1, d1, e1, f1, g1, h1⟩⟩ Ds H) b1) h0) F
noncomputable def s3_15 : Slot tf3 := ⟨[.o7, .o1, .o0], p3_15, fun F v => fV3 v (p3_15 F), fun _ _ _ _ _ => ⟨_, rfl, rfl⟩, fun _ v _ _ _ => fV3_eq v _ _ _ _⟩
def r3_15 : RO tf3 := ⟨.t [.o7, .o1, .o0], fun F => F.h.b.a, fun _ => rfl⟩
noncomputable def p3_16 (F : X3) : V3 := N8.rec (motive := fun _ => V3) (fun a0 b0 c0 d0 e0 f0 g0 h0 => N8.rec (motive := fun _ => V3) (fun a1 b1 c1 d1 e1 f1 g1 h1 => N8.rec (motive := fun _ => V3) (fun _ b2 c2 d2 e2 f2 g2 h2 v k Ds H => k ⟨⟨a1, b1, ⟨v, b2, c2, d2, e2, f2, g2, h2⟩, d1, e1, f1, g1, h1⟩, b0, c0, d0, e0, f0, g0, h0⟩ Ds H) c1) a0) F
noncomputable def s3_16 : Slot tf3 := ⟨[.o0, .o2, .o0], p3_16, fun F v => fV3 v (p3_16 F), fun _ _ _ _ _ => ⟨_, rfl, rfl⟩, fun _ v _ _ _ => fV3_eq v _ _ _ _⟩
def r3_16 : RO tf3 := ⟨.t [.o0, .o2, .o0], fun F => F.a.c.a, fun _ => rfl⟩
noncomputable def p3_17 (F : X3) : V3 := N8.rec (motive := fun _ => V3) (fun a0 b0 c0 d0 e0 f0 g0 h0 => N8.rec (motive := fun _ => V3) (fun a1 b1 c1 d1 e1 f1 g1 h1 => N8.rec (motive := fun _ => V3) (fun _ b2 c2 d2 e2 f2 g2 h2 v k Ds H => k ⟨a0, ⟨a1, b1, ⟨v, b2, c2, d2, e2, f2, g2, h2⟩, d1, e1, f1, g1, h1⟩, c0, d0, e0, f0, g0, h0⟩ Ds H) c1) b0) F
noncomputable def s3_17 : Slot tf3 := ⟨[.o1, .o2, .o0], p3_17, fun F v => fV3 v (p3_17 F), fun _ _ _ _ _ => ⟨_, rfl, rfl⟩, fun _ v _ _ _ => fV3_eq v _ _ _ _⟩
def r3_17 : RO tf3 := ⟨.t [.o1, .o2, .o0], fun F => F.b.c.a, fun _ => rfl⟩
noncomputable def p3_18 (F : X3) : V3 := N8.rec (motive := fun _ => V3) (fun a0 b0 c0 d0 e0 f0 g0 h0 => N8.rec (motive := fun _ => V3) (fun a1 b1 c1 d1 e1 f1 g1 h1 => N8.rec (motive := fun _ => V3) (fun _ b2 c2 d2 e2 f2 g2 h2 v k Ds H => k ⟨a0, b0, ⟨a1, b1, ⟨v, b2, c2, d2, e2, f2, g2, h2⟩, d1, e1, f1, g1, h1⟩, d0, e0, f0, g0, h0⟩ Ds H) c1) c0) F
noncomputable def s3_18 : Slot tf3 := ⟨[.o2, .o2, .o0], p3_18, fun F v => fV3 v (p3_18 F), fun _ _ _ _ _ => ⟨_, rfl, rfl⟩, fun _ v _ _ _ => fV3_eq v _ _ _ _⟩
def r3_18 : RO tf3 := ⟨.t [.o2, .o2, .o0], fun F => F.c.c.a, fun _ => rfl⟩
noncomputable def p3_19 (F : X3) : V3 := N8.rec (motive := fun _ => V3) (fun a0 b0 c0 d0 e0 f0 g0 h0 => N8.rec (motive := fun _ => V3) (fun a1 b1 c1 d1 e1 f1 g1 h1 => N8.rec (motive := fun _ => V3) (fun _ b2 c2 d2 e2 f2 g2 h2 v k Ds H => k ⟨a0, b0, c0, ⟨a1, b1, ⟨v, b2, c2, d2, e2, f2, g2, h2⟩, d1, e1, f1, g1, h1⟩, e0, f0, g0, h0⟩ Ds H) c1) d0) F
noncomputable def s3_19 : Slot tf3 := ⟨[.o3, .o2, .o0], p3_19, fun F v => fV3 v (p3_19 F), fun _ _ _ _ _ => ⟨_, rfl, rfl⟩, fun _ v _ _ _ => fV3_eq v _ _ _ _⟩
def r3_19 : RO tf3 := ⟨.t [.o3, .o2, .o0], fun F => F.d.c.a, fun _ => rfl⟩
noncomputable def p3_20 (F : X3) : V3 := N8.rec (motive := fun _ => V3) (fun a0 b0 c0 d0 e0 f0 g0 h0 => N8.rec (motive := fun _ => V3) (fun a1 b1 c1 d1 e1 f1 g1 h1 => N8.rec (motive := fun _ => V3) (fun _ b2 c2 d2 e2 f2 g2 h2 v k Ds H => k ⟨a0, b0, c0, d0, ⟨a1, b1, ⟨v, b2, c2, d2, e2, f2, g2, h2⟩, d1, e1, f1, g1, h1⟩, f0, g0, h0⟩ Ds H) c1) e0) F
noncomputable def s3_20 : Slot tf3 := ⟨[.o4, .o2, .o0], p3_20, fun F v => fV3 v (p3_20 F), fun _ _ _ _ _ => ⟨_, rfl, rfl⟩, fun _ v _ _ _ => fV3_eq v _ _ _ _⟩
def r3_20 : RO tf3 := ⟨.t [.o4, .o2, .o0], fun F => F.e.c.a, fun _ => rfl⟩
noncomputable def p3_21 (F : X3) : V3 := N8.rec (motive := fun _ => V3) (fun a0 b0 c0 d0 e0 f0 g0 h0 => N8.rec (motive := fun _ => V3) (fun a1 b1 c1 d1 e1 f1 g1 h1 => N8.rec (motive := fun _ => V3) (fun _ b2 c2 d2 e2 f2 g2 h2 v k Ds H => k ⟨a0, b0, c0, d0, e0, ⟨a1, b1, ⟨v, b2, c2, d2, e2, f2, g2, h2⟩, d1, e1, f1, g1, h1⟩, g0, h0⟩ Ds H) c1) f0) F
noncomputable def s3_21 : Slot tf3 := ⟨[.o5, .o2, .o0], p3_21, fun F v => fV3 v (p3_21 F), fun _ _ _ _ _ => ⟨_, rfl, rfl⟩, fun _ v _ _ _ => fV3_eq v _ _ _ _⟩
def r3_21 : RO tf3 := ⟨.t [.o5, .o2, .o0], fun F => F.f.c.a, fun _ => rfl⟩
noncomputable def p3_22 (F : X3) : V3 := N8.rec (motive := fun _ => V3) (fun a0 b0 c0 d0 e0 f0 g0 h0 => N8.rec (motive := fun _ => V3) (fun a1 b1 c1 d1 e1 f1 g1 h1 => N8.rec (motive := fun _ => V3) (fun _ b2 c2 d2 e2 f2 g2 h2 v k Ds H => k ⟨a0, b0, c0, d0, e0, f0, ⟨a1, b1, ⟨v, b2, c2, d2, e2, f2, g2, h2⟩, d1, e1, f1, g1, h1⟩, h0⟩ Ds H) c1) g0) F
noncomputable def s3_22 : Slot tf3 := ⟨[.o6, .o2, .o0], p3_22, fun F v => fV3 v (p3_22 F), fun _ _ _ _ _ => ⟨_, rfl, rfl⟩, fun _ v _ _ _ => fV3_eq v _ _ _ _⟩
def r3_22 : RO tf3 := ⟨.t [.o6, .o2, .o0], fun F => F.g.c.a, fun _ => rfl⟩
noncomputable def p3_23 (F : X3) : V3 := N8.rec (motive := fun _ => V3) (fun a0 b0 c0 d0 e0 f0 g0 h0 => N8.rec (motive := fun _ => V3) (fun a1 b1 c1 d1 e1 f1 g1 h1 => N8.rec (motive := fun _ => V3) (fun _ b2 c2 d2 e2 f2 g2 h2 v k Ds H => k ⟨a0, b0, c0, d0, e0, f0, g0, ⟨a1, b1, ⟨v, b2, c2, d2, e2, f2, g2, h2⟩, d1, e1, f1, g1, h1⟩⟩ Ds H) c1) h0) F
noncomputable def s3_23 : Slot tf3 := ⟨[.o7, .o2, .o0], p3_23, fun F v => fV3 v (p3_23 F), fun _ _ _ _ _ => ⟨_, rfl, rfl⟩, fun _ v _ _ _ => fV3_eq v _ _ _ _⟩
def r3_23 : RO tf3 := ⟨.t [.o7, .o2, .o0], fun F => F.h.c.a, fun _ => rfl⟩
noncomputable def p3_24 (F : X3) : V3 := N8.rec (motive := fun _ => V3) (fun a0 b0 c0 d0 e0 f0 g0 h0 => N8.rec (motive := fun _ => V3) (fun a1 b1 c1 d1 e1 f1 g1 h1 => N8.rec (motive := fun _ => V3) (fun _ b2 c2 d2 e2 f2 g2 h2 v k Ds H => k ⟨⟨a1, b1, c1, ⟨v, b2, c2, d2, e2, f2, g2, h2⟩, e1, f1, g1, h1⟩, b0, c0, d0, e0, f0, g0, h0⟩ Ds H) d1) a0) F
noncomputable def s3_24 : Slot tf3 := ⟨[.o0, .o3, .o0], p3_24, fun F v => fV3 v (p3_24 F), fun _ _ _ _ _ => ⟨_, rfl, rfl⟩, fun _ v _ _ _ => fV3_eq v _ _ _ _⟩
def r3_24 : RO tf3 := ⟨.t [.o0, .o3, .o0], fun F => F.a.d.a, fun _ => rfl⟩
noncomputable def p3_25 (F : X3) : V3 := N8.rec (motive := fun _ => V3) (fun a0 b0 c0 d0 e0 f0 g0 h0 => N8.rec (motive := fun _ => V3) (fun a1 b1 c1 d1 e1 f1 g1 h1 => N8.rec (motive := fun _ => V3) (fun _ b2 c2 d2 e2 f2 g2 h2 v k Ds H => k ⟨a0, ⟨a1, b1, c1, ⟨v, b2, c2, d2, e2, f2, g2, h2⟩, e1, f1, g1, h1⟩, c0, d0, e0, f0, g0, h0⟩ Ds H) d1) b0) F
noncomputable def s3_25 : Slot tf3 := ⟨[.o1, .o3, .o0], p3_25, fun F v => fV3 v (p3_25 F), fun _ _ _ _ _ => ⟨_, rfl, rfl⟩, fun _ v _ _ _ => fV3_eq v _ _ _ _⟩
def r3_25 : RO tf3 := ⟨.t [.o1, .o3, .o0], fun F => F.b.d.a, fun _ => rfl⟩
noncomputable def p3_26 (F : X3) : V3 := N8.rec (motive := fun _ => V3) (fun a0 b0 c0 d0 e0 f0 g0 h0 => N8.rec (motive := fun _ => V3) (fun a1 b1 c1 d1 e1 f1 g1 h1 => N8.rec (motive := fun _ => V3) (fun _ b2 c2 d2 e2 f2 g2 h2 v k Ds H => k ⟨a0, b0, ⟨a1, b1, c1, ⟨v, b2, c2, d2, e2, f2, g2, h2⟩, e1, f1, g1, h1⟩, d0, e0, f0, g0, h0⟩ Ds H) d1) c0) F
noncomputable def s3_26 : Slot tf3 := ⟨[.o2, .o3, .o0], p3_26, fun F v => fV3 v (p3_26 F), fun _ _ _ _ _ => ⟨_, rfl, rfl⟩, fun _ v _ _ _ => fV3_eq v _ _ _ _⟩
def r3_26 : RO tf3 := ⟨.t [.o2, .o3, .o0], fun F => F.c.d.a, fun _ => rfl⟩
noncomputable def p3_27 (F : X3) : V3 := N8.rec (motive := fun _ => V3) (fun a0 b0 c0 d0 e0 f0 g0 h0 => N8.rec (motive := fun _ => V3) (fun a1 b1 c1 d1 e1 f1 g1 h1 => N8.rec (motive := fun _ => V3) (fun _ b2 c2 d2 e2 f2 g2 h2 v k Ds H => k ⟨a0, b0, c0, ⟨a1, b1, c1, ⟨v, b2, c2, d2, e2, f2, g2, h2⟩, e1, f1, g1, h1⟩, e0, f0, g0, h0⟩ Ds H) d1) d0) F
noncomputable def s3_27 : Slot tf3 := ⟨[.o3, .o3, .o0], p3_27, fun F v => fV3 v (p3_27 F), fun _ _ _ _ _ => ⟨_, rfl, rfl⟩, fun _ v _ _ _ => fV3_eq v _ _ _ _⟩
def r3_27 : RO tf3 := ⟨.t [.o3, .o3, .o0], fun F => F.d.d.a, fun _ => rfl⟩
noncomputable def p3_28 (F : X3) : V3 := N8.rec (motive := fun _ => V3) (fun a0 b0 c0 d0 e0 f0 g0 h0 => N8.rec (motive := fun _ => V3) (fun a1 b1 c1 d1 e1 f1 g1 h1 => N8.rec (motive := fun _ => V3) (fun _ b2 c2 d2 e2 f2 g2 h2 v k Ds H => k ⟨a0, b0, c0, d0, ⟨a1, b1, c1, ⟨v, b2, c2, d2, e2, f2, g2, h2⟩, e1, f1, g1, h1⟩, f0, g0, h0⟩ Ds H) d1) e0) F
noncomputable def s3_28 : Slot tf3 := ⟨[.o4, .o3, .o0], p3_28, fun F v => fV3 v (p3_28 F), fun _ _ _ _ _ => ⟨_, rfl, rfl⟩, fun _ v _ _ _ => fV3_eq v _ _ _ _⟩
def r3_28 : RO tf3 := ⟨.t [.o4, .o3, .o0], fun F => F.e.d.a, fun _ => rfl⟩
noncomputable def p3_29 (F : X3) : V3 := N8.rec (motive := fun _ => V3) (fun a0 b0 c0 d0 e0 f0 g0 h0 => N8.rec (motive := fun _ => V3) (fun a1 b1 c1 d1 e1 f1 g1 h1 => N8.rec (motive := fun _ => V3) (fun _ b2 c2 d2 e2 f2 g2 h2 v k Ds H => k ⟨a0, b0, c0, d0, e0, ⟨a1, b1, c1, ⟨v, b2, c2, d2, e2, f2, g2, h2⟩, e1, f1, g1, h1⟩, g0, h0⟩ Ds H) d1) f0) F
noncomputable def s3_29 : Slot tf3 := ⟨[.o5, .o3, .o0], p3_29, fun F v => fV3 v (p3_29 F), fun _ _ _ _ _ => ⟨_, rfl, rfl⟩, fun _ v _ _ _ => fV3_eq v _ _ _ _⟩
def r3_29 : RO tf3 := ⟨.t [.o5, .o3, .o0], fun F => F.f.d.a, fun _ => rfl⟩
noncomputable def p3_30 (F : X3) : V3 := N8.rec (motive := fun _ => V3) (fun a0 b0 c0 d0 e0 f0 g0 h0 => N8.rec (motive := fun _ => V3) (fun a1 b1 c1 d1 e1 f1 g1 h1 => N8.rec (motive := fun _ => V3) (fun _ b2 c2 d2 e2 f2 g2 h2 v k Ds H => k ⟨a0, b0, c0, d0, e0, f0, ⟨a1, b1, c1, ⟨v, b2, c2, d2, e2, f2, g2, h2⟩, e1, f1, g1, h1⟩, h0⟩ Ds H) d1) g0) F
noncomputable def s3_30 : Slot tf3 := ⟨[.o6, .o3, .o0], p3_30, fun F v => fV3 v (p3_30 F), fun _ _ _ _ _ => ⟨_, rfl, rfl⟩, fun _ v _ _ _ => fV3_eq v _ _ _ _⟩
def r3_30 : RO tf3 := ⟨.t [.o6, .o3, .o0], fun F => F.g.d.a, fun _ => rfl⟩
noncomputable def p3_31 (F : X3) : V3 := N8.rec (motive := fun _ => V3) (fun a0 b0 c0 d0 e0 f0 g0 h0 => N8.rec (motive := fun _ => V3) (fun a1 b1 c1 d1 e1 f1 g1 h1 => N8.rec (motive := fun _ => V3) (fun _ b2 c2 d2 e2 f2 g2 h2 v k Ds H => k ⟨a0, b0, c0, d0, e0, f0, g0, ⟨a1, b1, c1, ⟨v, b2, c2, d2, e2, f2, g2, h2⟩, e1, f1, g1, h1⟩⟩ Ds H) d1) h0) F
noncomputable def s3_31 : Slot tf3 := ⟨[.o7, .o3, .o0], p3_31, fun F v => fV3 v (p3_31 F), fun _ _ _ _ _ => ⟨_, rfl, rfl⟩, fun _ v _ _ _ => fV3_eq v _ _ _ _⟩
def r3_31 : RO tf3 := ⟨.t [.o7, .o3, .o0], fun F => F.h.d.a, fun _ => rfl⟩
noncomputable def p3_32 (F : X3) : V3 := N8.rec (motive := fun _ => V3) (fun a0 b0 c0 d0 e0 f0 g0 h0 => N8.rec (motive := fun _ => V3) (fun a1 b1 c1 d1 e1 f1 g1 h1 => N8.rec (motive := fun _ => V3) (fun _ b2 c2 d2 e2 f2 g2 h2 v k Ds H => k ⟨⟨a1, b1, c1, d1, ⟨v, b2, c2, d2, e2, f2, g2, h2⟩, f1, g1, h1⟩, b0, c0, d0, e0, f0, g0, h0⟩ Ds H) e1) a0) F
noncomputable def s3_32 : Slot tf3 := ⟨[.o0, .o4, .o0], p3_32, fun F v => fV3 v (p3_32 F), fun _ _ _ _ _ => ⟨_, rfl, rfl⟩, fun _ v _ _ _ => fV3_eq v _ _ _ _⟩
def r3_32 : RO tf3 := ⟨.t [.o0, .o4, .o0], fun F => F.a.e.a, fun _ => rfl⟩
noncomputable def p3_33 (F : X3) : V3 := N8.rec (motive := fun _ => V3) (fun a0 b0 c0 d0 e0 f0 g0 h0 => N8.rec (motive := fun _ => V3) (fun a1 b1 c1 d1 e1 f1 g1 h1 => N8.rec (motive := fun _ => V3) (fun _ b2 c2 d2 e2 f2 g2 h2 v k Ds H => k ⟨a0, ⟨a1, b1, c1, d1, ⟨v, b2, c2, d2, e2, f2, g2, h2⟩, f1, g1, h1⟩, c0, d0, e0, f0, g0, h0⟩ Ds H) e1) b0) F
noncomputable def s3_33 : Slot tf3 := ⟨[.o1, .o4, .o0], p3_33, fun F v => fV3 v (p3_33 F), fun _ _ _ _ _ => ⟨_, rfl, rfl⟩, fun _ v _ _ _ => fV3_eq v _ _ _ _⟩
def r3_33 : RO tf3 := ⟨.t [.o1, .o4, .o0], fun F => F.b.e.a, fun _ => rfl⟩
noncomputable def p3_34 (F : X3) : V3 := N8.rec (motive := fun _ => V3) (fun a0 b0 c0 d0 e0 f0 g0 h0 => N8.rec (motive := fun _ => V3) (fun a1 b1 c1 d1 e1 f1 g1 h1 => N8.rec (motive := fun _ => V3) (fun _ b2 c2 d2 e2 f2 g2 h2 v k Ds H => k ⟨a0, b0, ⟨a1, b1, c1, d1, ⟨v, b2, c2, d2, e2, f2, g2, h2⟩, f1, g1, h1⟩, d0, e0, f0, g0, h0⟩ Ds H) e1) c0) F
noncomputable def s3_34 : Slot tf3 := ⟨[.o2, .o4, .o0], p3_34, fun F v => fV3 v (p3_34 F), fun _ _ _ _ _ => ⟨_, rfl, rfl⟩, fun _ v _ _ _ => fV3_eq v _ _ _ _⟩
def r3_34 : RO tf3 := ⟨.t [.o2, .o4, .o0], fun F => F.c.e.a, fun _ => rfl⟩
noncomputable def p3_35 (F : X3) : V3 := N8.rec (motive := fun _ => V3) (fun a0 b0 c0 d0 e0 f0 g0 h0 => N8.rec (motive := fun _ => V3) (fun a1 b1 c1 d1 e1 f1 g1 h1 => N8.rec (motive := fun _ => V3) (fun _ b2 c2 d2 e2 f2 g2 h2 v k Ds H => k ⟨a0, b0, c0, ⟨a1, b1, c1, d1, ⟨v, b2, c2, d2, e2, f2, g2, h2⟩, f1, g1, h1⟩, e0, f0, g0, h0⟩ Ds H) e1) d0) F
noncomputable def s3_35 : Slot tf3 := ⟨[.o3, .o4, .o0], p3_35, fun F v => fV3 v (p3_35 F), fun _ _ _ _ _ => ⟨_, rfl, rfl⟩, fun _ v _ _ _ => fV3_eq v _ _ _ _⟩
def r3_35 : RO tf3 := ⟨.t [.o3, .o4, .o0], fun F => F.d.e.a, fun _ => rfl⟩
noncomputable def p3_36 (F : X3) : V3 := N8.rec (motive := fun _ => V3) (fun a0 b0 c0 d0 e0 f0 g0 h0 => N8.rec (motive := fun _ => V3) (fun a1 b1 c1 d1 e1 f1 g1 h1 => N8.rec (motive := fun _ => V3) (fun _ b2 c2 d2 e2 f2 g2 h2 v k Ds H => k ⟨a0, b0, c0, d0, ⟨a1, b1, c1, d1, ⟨v, b2, c2, d2, e2, f2, g2, h2⟩, f1, g1, h1⟩, f0, g0, h0⟩ Ds H) e1) e0) F
noncomputable def s3_36 : Slot tf3 := ⟨[.o4, .o4, .o0], p3_36, fun F v => fV3 v (p3_36 F), fun _ _ _ _ _ => ⟨_, rfl, rfl⟩, fun _ v _ _ _ => fV3_eq v _ _ _ _⟩
def r3_36 : RO tf3 := ⟨.t [.o4, .o4, .o0], fun F => F.e.e.a, fun _ => rfl⟩
noncomputable def p3_37 (F : X3) : V3 := N8.rec (motive := fun _ => V3) (fun a0 b0 c0 d0 e0 f0 g0 h0 => N8.rec (motive := fun _ => V3) (fun a1 b1 c1 d1 e1 f1 g1 h1 => N8.rec (motive := fun _ => V3) (fun _ b2 c2 d2 e2 f2 g2 h2 v k Ds H => k ⟨a0, b0, c0, d0, e0, ⟨a1, b1, c1, d1, ⟨v, b2, c2, d2, e2, f2, g2, h2⟩, f1, g1, h1⟩, g0, h0⟩ Ds H) e1) f0) F
noncomputable def s3_37 : Slot tf3 := ⟨[.o5, .o4, .o0], p3_37, fun F v => fV3 v (p3_37 F), fun _ _ _ _ _ => ⟨_, rfl, rfl⟩, fun _ v _ _ _ => fV3_eq v _ _ _ _⟩
def r3_37 : RO tf3 := ⟨.t [.o5, .o4, .o0], fun F => F.f.e.a, fun _ => rfl⟩
noncomputable def p3_38 (F : X3) : V3 := N8.rec (motive := fun _ => V3) (fun a0 b0 c0 d0 e0 f0 g0 h0 => N8.rec (motive := fun _ => V3) (fun a1 b1 c1 d1 e1 f1 g1 h1 => N8.rec (motive := fun _ => V3) (fun _ b2 c2 d2 e2 f2 g2 h2 v k Ds H => k ⟨a0, b0, c0, d0, e0, f0, ⟨a1, b1, c1, d1, ⟨v, b2, c2, d2, e2, f2, g2, h2⟩, f1, g1, h1⟩, h0⟩ Ds H) e1) g0) F
noncomputable def s3_38 : Slot tf3 := ⟨[.o6, .o4, .o0], p3_38, fun F v => fV3 v (p3_38 F), fun _ _ _ _ _ => ⟨_, rfl, rfl⟩, fun _ v _ _ _ => fV3_eq v _ _ _ _⟩
def r3_38 : RO tf3 := ⟨.t [.o6, .o4, .o0], fun F => F.g.e.a, fun _ => rfl⟩
noncomputable def p3_39 (F : X3) : V3 := N8.rec (motive := fun _ => V3) (fun a0 b0 c0 d0 e0 f0 g0 h0 => N8.rec (motive := fun _ => V3) (fun a1 b1 c1 d1 e1 f1 g1 h1 => N8.rec (motive := fun _ => V3) (fun _ b2 c2 d2 e2 f2 g2 h2 v k Ds H => k ⟨a0, b0, c0, d0, e0, f0, g0, ⟨a1, b1, c1, d1, ⟨v, b2, c2, d2, e2, f2, g2, h2⟩, f1, g1, h1⟩⟩ Ds H) e1) h0) F
noncomputable def s3_39 : Slot tf3 := ⟨[.o7, .o4, .o0], p3_39, fun F v => fV3 v (p3_39 F), fun _ _ _ _ _ => ⟨_, rfl, rfl⟩, fun _ v _ _ _ => fV3_eq v _ _ _ _⟩
def r3_39 : RO tf3 := ⟨.t [.o7, .o4, .o0], fun F => F.h.e.a, fun _ => rfl⟩
noncomputable def p3_40 (F : X3) : V3 := N8.rec (motive := fun _ => V3) (fun a0 b0 c0 d0 e0 f0 g0 h0 => N8.rec (motive := fun _ => V3) (fun a1 b1 c1 d1 e1 f1 g1 h1 => N8.rec (motive := fun _ => V3) (fun _ b2 c2 d2 e2 f2 g2 h2 v k Ds H => k ⟨⟨a1, b1, c1, d1, e1, ⟨v, b2, c2, d2, e2, f2, g2, h2⟩, g1, h1⟩, b0, c0, d0, e0, f0, g0, h0⟩ Ds H) f1) a0) F
noncomputable def s3_40 : Slot tf3 := ⟨[.o0, .o5, .o0], p3_40, fun F v => fV3 v (p3_40 F), fun _ _ _ _ _ => ⟨_, rfl, rfl⟩, fun _ v _ _ _ => fV3_eq v _ _ _ _⟩
def r3_40 : RO tf3 := ⟨.t [.o0, .o5, .o0], fun F => F.a.f.a, fun _ => rfl⟩
noncomputable def p3_41 (F : X3) : V3 := N8.rec (motive := fun _ => V3) (fun a0 b0 c0 d0 e0 f0 g0 h0 => N8.rec (motive := fun _ => V3) (fun a1 b1 c1 d1 e1 f1 g1 h1 => N8.rec (motive := fun _ => V3) (fun _ b2 c2 d2 e2 f2 g2 h2 v k Ds H => k ⟨a0, ⟨a1, b1, c1, d1, e1, ⟨v, b2, c2, d2, e2, f2, g2, h2⟩, g1, h1⟩, c0, d0, e0, f0, g0, h0⟩ Ds H) f1) b0) F
noncomputable def s3_41 : Slot tf3 := ⟨[.o1, .o5, .o0], p3_41, fun F v => fV3 v (p3_41 F), fun _ _ _ _ _ => ⟨_, rfl, rfl⟩, fun _ v _ _ _ => fV3_eq v _ _ _ _⟩
def r3_41 : RO tf3 := ⟨.t [.o1, .o5, .o0], fun F => F.b.f.a, fun _ => rfl⟩
noncomputable def p3_42 (F : X3) : V3 := N8.rec (motive := fun _ => V3) (fun a0 b0 c0 d0 e0 f0 g0 h0 => N8.rec (motive := fun _ => V3) (fun a1 b1 c1 d1 e1 f1 g1 h1 => N8.rec (motive := fun _ => V3) (fun _ b2 c2 d2 e2 f2 g2 h2 v k Ds H => k ⟨a0, b0, ⟨a1, b1, c1, d1, e1, ⟨v, b2, c2, d2, e2, f2, g2, h2⟩, g1, h1⟩, d0, e0, f0, g0, h0⟩ Ds H) f1) c0) F
noncomputable def s3_42 : Slot tf3 := ⟨[.o2, .o5, .o0], p3_42, fun F v => fV3 v (p3_42 F), fun _ _ _ _ _ => ⟨_, rfl, rfl⟩, fun _ v _ _ _ => fV3_eq v _ _ _ _⟩
def r3_42 : RO tf3 := ⟨.t [.o2, .o5, .o0], fun F => F.c.f.a, fun _ => rfl⟩
noncomputable def p3_43 (F : X3) : V3 := N8.rec (motive := fun _ => V3) (fun a0 b0 c0 d0 e0 f0 g0 h0 => N8.rec (motive := fun _ => V3) (fun a1 b1 c1 d1 e1 f1 g1 h1 => N8.rec (motive := fun _ => V3) (fun _ b2 c2 d2 e2 f2 g2 h2 v k Ds H => k ⟨a0, b0, c0, ⟨a1, b1, c1, d1, e1, ⟨v, b2, c2, d2, e2, f2, g2, h2⟩, g1, h1⟩, e0, f0, g0, h0⟩ Ds H) f1) d0) F
noncomputable def s3_43 : Slot tf3 := ⟨[.o3, .o5, .o0], p3_43, fun F v => fV3 v (p3_43 F), fun _ _ _ _ _ => ⟨_, rfl, rfl⟩, fun _ v _ _ _ => fV3_eq v _ _ _ _⟩
def r3_43 : RO tf3 := ⟨.t [.o3, .o5, .o0], fun F => F.d.f.a, fun _ => rfl⟩
noncomputable def p3_44 (F : X3) : V3 := N8.rec (motive := fun _ => V3) (fun a0 b0 c0 d0 e0 f0 g0 h0 => N8.rec (motive := fun _ => V3) (fun a1 b1 c1 d1 e1 f1 g1 h1 => N8.rec (motive := fun _ => V3) (fun _ b2 c2 d2 e2 f2 g2 h2 v k Ds H => k ⟨a0, b0, c0, d0, ⟨a1, b1, c1, d1, e1, ⟨v, b2, c2, d2, e2, f2, g2, h2⟩, g1, h1⟩, f0, g0, h0⟩ Ds H) f1) e0) F
noncomputable def s3_44 : Slot tf3 := ⟨[.o4, .o5, .o0], p3_44, fun F v => fV3 v (p3_44 F), fun _ _ _ _ _ => ⟨_, rfl, rfl⟩, fun _ v _ _ _ => fV3_eq v _ _ _ _⟩
def r3_44 : RO tf3 := ⟨.t [.o4, .o5, .o0], fun F => F.e.f.a, fun _ => rfl⟩
noncomputable def p3_45 (F : X3) : V3 := N8.rec (motive := fun _ => V3) (fun a0 b0 c0 d0 e0 f0 g0 h0 => N8.rec (motive := fun _ => V3) (fun a1 b1 c1 d1 e1 f1 g1 h1 => N8.rec (motive := fun _ => V3) (fun _ b2 c2 d2 e2 f2 g2 h2 v k Ds H => k ⟨a0, b0, c0, d0, e0, ⟨a1, b1, c1, d1, e1, ⟨v, b2, c2, d2, e2, f2, g2, h2⟩, g1, h1⟩, g0, h0⟩ Ds H) f1) f0) F
noncomputable def s3_45 : Slot tf3 := ⟨[.o5, .o5, .o0], p3_45, fun F v => fV3 v (p3_45 F), fun _ _ _ _ _ => ⟨_, rfl, rfl⟩, fun _ v _ _ _ => fV3_eq v _ _ _ _⟩
def r3_45 : RO tf3 := ⟨.t [.o5, .o5, .o0], fun F => F.f.f.a, fun _ => rfl⟩
noncomputable def p3_46 (F : X3) : V3 := N8.rec (motive := fun _ => V3) (fun a0 b0 c0 d0 e0 f0 g0 h0 => N8.rec (motive := fun _ => V3) (fun a1 b1 c1 d1 e1 f1 g1 h1 => N8.rec (motive := fun _ => V3) (fun _ b2 c2 d2 e2 f2 g2 h2 v k Ds H => k ⟨a0, b0, c0, d0, e0, f0, ⟨a1, b1, c1, d1, e1, ⟨v, b2, c2, d2, e2, f2, g2, h2⟩, g1, h1⟩, h0⟩ Ds H) f1) g0) F
noncomputable def s3_46 : Slot tf3 := ⟨[.o6, .o5, .o0], p3_46, fun F v => fV3 v (p3_46 F), fun _ _ _ _ _ => ⟨_, rfl, rfl⟩, fun _ v _ _ _ => fV3_eq v _ _ _ _⟩
def r3_46 : RO tf3 := ⟨.t [.o6, .o5, .o0], fun F => F.g.f.a, fun _ => rfl⟩
noncomputable def p3_47 (F : X3) : V3 := N8.rec (motive := fun _ => V3) (fun a0 b0 c0 d0 e0 f0 g0 h0 => N8.rec (motive := fun _ => V3) (fun a1 b1 c1 d1 e1 f1 g1 h1 => N8.rec (motive := fun _ => V3) (fun _ b2 c2 d2 e2 f2 g2 h2 v k Ds H => k ⟨a0, b0, c0, d0, e0, f0, g0, ⟨a1, b1, c1, d1, e1, ⟨v, b2, c2, d2, e2, f2, g2, h2⟩, g1, h1⟩⟩ Ds H) f1) h0) F
noncomputable def s3_47 : Slot tf3 := ⟨[.o7, .o5, .o0], p3_47, fun F v => fV3 v (p3_47 F), fun _ _ _ _ _ => ⟨_, rfl, rfl⟩, fun _ v _ _ _ => fV3_eq v _ _ _ _⟩
def r3_47 : RO tf3 := ⟨.t [.o7, .o5, .o0], fun F => F.h.f.a, fun _ => rfl⟩
noncomputable def p3_48 (F : X3) : V3 := N8.rec (motive := fun _ => V3) (fun a0 b0 c0 d0 e0 f0 g0 h0 => N8.rec (motive := fun _ => V3) (fun a1 b1 c1 d1 e1 f1 g1 h1 => N8.rec (motive := fun _ => V3) (fun _ b2 c2 d2 e2 f2 g2 h2 v k Ds H => k ⟨⟨a1, b1, c1, d1, e1, f1, ⟨v, b2, c2, d2, e2, f2, g2, h2⟩, h1⟩, b0, c0, d0, e0, f0, g0, h0⟩ Ds H) g1) a0) F
noncomputable def s3_48 : Slot tf3 := ⟨[.o0, .o6, .o0], p3_48, fun F v => fV3 v (p3_48 F), fun _ _ _ _ _ => ⟨_, rfl, rfl⟩, fun _ v _ _ _ => fV3_eq v _ _ _ _⟩
def r3_48 : RO tf3 := ⟨.t [.o0, .o6, .o0], fun F => F.a.g.a, fun _ => rfl⟩
noncomputable def p3_49 (F : X3) : V3 := N8.rec (motive := fun _ => V3) (fun a0 b0 c0 d0 e0 f0 g0 h0 => N8.rec (motive := fun _ => V3) (fun a1 b1 c1 d1 e1 f1 g1 h1 => N8.rec (motive := fun _ => V3) (fun _ b2 c2 d2 e2 f2 g2 h2 v k Ds H => k ⟨a0, ⟨a1, b1, c1, d1, e1, f1, ⟨v, b2, c2, d2, e2, f2, g2, h2⟩, h1⟩, c0, d0, e0, f0, g0, h0⟩ Ds H) g1) b0) F
noncomputable def s3_49 : Slot tf3 := ⟨[.o1, .o6, .o0], p3_49, fun F v => fV3 v (p3_49 F), fun _ _ _ _ _ => ⟨_, rfl, rfl⟩, fun _ v _ _ _ => fV3_eq v _ _ _ _⟩
def r3_49 : RO tf3 := ⟨.t [.o1, .o6, .o0], fun F => F.b.g.a, fun _ => rfl⟩
noncomputable def p3_50 (F : X3) : V3 := N8.rec (motive := fun _ => V3) (fun a0 b0 c0 d0 e0 f0 g0 h0 => N8.rec (motive := fun _ => V3) (fun a1 b1 c1 d1 e1 f1 g1 h1 => N8.rec (motive := fun _ => V3) (fun _ b2 c2 d2 e2 f2 g2 h2 v k Ds H => k ⟨a0, b0, ⟨a1, b1, c1, d1, e1, f1, ⟨v, b2, c2, d2, e2, f2, g2, h2⟩, h1⟩, d0, e0, f0, g0, h0⟩ Ds H) g1) c0) F
noncomputable def s3_50 : Slot tf3 := ⟨[.o2, .o6, .o0], p3_50, fun F v => fV3 v (p3_50 F), fun _ _ _ _ _ => ⟨_, rfl, rfl⟩, fun _ v _ _ _ => fV3_eq v _ _ _ _⟩
def r3_50 : RO tf3 := ⟨.t [.o2, .o6, .o0], fun F => F.c.g.a, fun _ => rfl⟩
noncomputable def p3_51 (F : X3) : V3 := N8.rec (motive := fun _ => V3) (fun a0 b0 c0 d0 e0 f0 g0 h0 => N8.rec (motive := fun _ => V3) (fun a1 b1 c1 d1 e1 f1 g1 h1 => N8.rec (motive := fun _ => V3) (fun _ b2 c2 d2 e2 f2 g2 h2 v k Ds H => k ⟨a0, b0, c0, ⟨a1, b1, c1, d1, e1, f1, ⟨v, b2, c2, d2, e2, f2, g2, h2⟩, h1⟩, e0, f0, g0, h0⟩ Ds H) g1) d0) F
noncomputable def s3_51 : Slot tf3 := ⟨[.o3, .o6, .o0], p3_51, fun F v => fV3 v (p3_51 F), fun _ _ _ _ _ => ⟨_, rfl, rfl⟩, fun _ v _ _ _ => fV3_eq v _ _ _ _⟩
def r3_51 : RO tf3 := ⟨.t [.o3, .o6, .o0], fun F => F.d.g.a, fun _ => rfl⟩
noncomputable def p3_52 (F : X3) : V3 := N8.rec (motive := fun _ => V3) (fun a0 b0 c0 d0 e0 f0 g0 h0 => N8.rec (motive := fun _ => V3) (fun a1 b1 c1 d1 e1 f1 g1 h1 => N8.rec (motive := fun _ => V3) (fun _ b2 c2 d2 e2 f2 g2 h2 v k Ds H => k ⟨a0, b0, c0, d0, ⟨a1, b1, c1, d1, e1, f1, ⟨v, b2, c2, d2, e2, f2, g2, h2⟩, h1⟩, f0, g0, h0⟩ Ds H) g1) e0) F
noncomputable def s3_52 : Slot tf3 := ⟨[.o4, .o6, .o0], p3_52, fun F v => fV3 v (p3_52 F), fun _ _ _ _ _ => ⟨_, rfl, rfl⟩, fun _ v _ _ _ => fV3_eq v _ _ _ _⟩
def r3_52 : RO tf3 := ⟨.t [.o4, .o6, .o0], fun F => F.e.g.a, fun _ => rfl⟩
noncomputable def p3_53 (F : X3) : V3 := N8.rec (motive := fun _ => V3) (fun a0 b0 c0 d0 e0 f0 g0 h0 => N8.rec (motive := fun _ => V3) (fun a1 b1 c1 d1 e1 f1 g1 h1 => N8.rec (motive := fun _ => V3) (fun _ b2 c2 d2 e2 f2 g2 h2 v k Ds H => k ⟨a0, b0, c0, d0, e0, ⟨a1, b1, c1, d1, e1, f1, ⟨v, b2, c2, d2, e2, f2, g2, h2⟩, h1⟩, g0, h0⟩ Ds H) g1) f0) F
noncomputable def s3_53 : Slot tf3 := ⟨[.o5, .o6, .o0], p3_53, fun F v => fV3 v (p3_53 F), fun _ _ _ _ _ => ⟨_, rfl, rfl⟩, fun _ v _ _ _ => fV3_eq v _ _ _ _⟩
def r3_53 : RO tf3 := ⟨.t [.o5, .o6, .o0], fun F => F.f.g.a, fun _ => rfl⟩
noncomputable def p3_54 (F : X3) : V3 := N8.rec (motive := fun _ => V3) (fun a0 b0 c0 d0 e0 f0 g0 h0 => N8.rec (motive := fun _ => V3) (fun a1 b1 c1 d1 e1 f1 g1 h1 => N8.rec (motive := fun _ => V3) (fun _ b2 c2 d2 e2 f2 g2 h2 v k Ds H => k ⟨a0, b0, c0, d0, e0, f0, ⟨a1, b1, c1, d1, e1, f1, ⟨v, b2, c2, d2, e2, f2, g2, h2⟩, h1⟩, h0⟩ Ds H) g1) g0) F
noncomputable def s3_54 : Slot tf3 := ⟨[.o6, .o6, .o0], p3_54, fun F v => fV3 v (p3_54 F), fun _ _ _ _ _ => ⟨_, rfl, rfl⟩, fun _ v _ _ _ => fV3_eq v _ _ _ _⟩
def r3_54 : RO tf3 := ⟨.t [.o6, .o6, .o0], fun F => F.g.g.a, fun _ => rfl⟩
noncomputable def p3_55 (F : X3) : V3 := N8.rec (motive := fun _ => V3) (fun a0 b0 c0 d0 e0 f0 g0 h0 => N8.rec (motive := fun _ => V3) (fun a1 b1 c1 d1 e1 f1 g1 h1 => N8.rec (motive := fun _ => V3) (fun _ b2 c2 d2 e2 f2 g2 h2 v k Ds H => k ⟨a0, b0, c0, d0, e0, f0, g0, ⟨a1, b1, c1, d1, e1, f1, ⟨v, b2, c2, d2, e2, f2, g2, h2⟩, h1⟩⟩ Ds H) g1) h0) F
noncomputable def s3_55 : Slot tf3 := ⟨[.o7, .o6, .o0], p3_55, fun F v => fV3 v (p3_55 F), fun _ _ _ _ _ => ⟨_, rfl, rfl⟩, fun _ v _ _ _ => fV3_eq v _ _ _ _⟩
def r3_55 : RO tf3 := ⟨.t [.o7, .o6, .o0], fun F => F.h.g.a, fun _ => rfl⟩
noncomputable def p3_56 (F : X3) : V3 := N8.rec (motive := fun _ => V3) (fun a0 b0 c0 d0 e0 f0 g0 h0 => N8.rec (motive := fun _ => V3) (fun a1 b1 c1 d1 e1 f1 g1 h1 => N8.rec (motive := fun _ => V3) (fun _ b2 c2 d2 e2 f2 g2 h2 v k Ds H => k ⟨⟨a1, b1, c1, d1, e1, f1, g1, ⟨v, b2, c2, d2, e2, f2, g2, h2⟩⟩, b0, c0, d0, e0, f0, g0, h0⟩ Ds H) h1) a0) F
noncomputable def s3_56 : Slot tf3 := ⟨[.o0, .o7, .o0], p3_56, fun F v => fV3 v (p3_56 F), fun _ _ _ _ _ => ⟨_, rfl, rfl⟩, fun _ v _ _ _ => fV3_eq v _ _ _ _⟩
def r3_56 : RO tf3 := ⟨.t [.o0, .o7, .o0], fun F => F.a.h.a, fun _ => rfl⟩
noncomputable def p3_57 (F : X3) : V3 := N8.rec (motive := fun _ => V3) (fun a0 b0 c0 d0 e0 f0 g0 h0 => N8.rec (motive := fun _ => V3) (fun a1 b1 c1 d1 e1 f1 g1 h1 => N8.rec (motive := fun _ => V3) (fun _ b2 c2 d2 e2 f2 g2 h2 v k Ds H => k ⟨a0, ⟨a1, b1, c1, d1, e1, f1, g1, ⟨v, b2, c2, d2, e2, f2, g2, h2⟩⟩, c0, d0, e0, f0, g0, h0⟩ Ds H) h1) b0) F
noncomputable def s3_57 : Slot tf3 := ⟨[.o1, .o7, .o0], p3_57, fun F v => fV3 v (p3_57 F), fun _ _ _ _ _ => ⟨_, rfl, rfl⟩, fun _ v _ _ _ => fV3_eq v _ _ _ _⟩
def r3_57 : RO tf3 := ⟨.t [.o1, .o7, .o0], fun F => F.b.h.a, fun _ => rfl⟩
noncomputable def p3_58 (F : X3) : V3 := N8.rec (motive := fun _ => V3) (fun a0 b0 c0 d0 e0 f0 g0 h0 => N8.rec (motive := fun _ => V3) (fun a1 b1 c1 d1 e1 f1 g1 h1 => N8.rec (motive := fun _ => V3) (fun _ b2 c2 d2 e2 f2 g2 h2 v k Ds H => k ⟨a0, b0, ⟨a1, b1, c1, d1, e1, f1, g1, ⟨v, b2, c2, d2, e2, f2, g2, h2⟩⟩, d0, e0, f0, g0, h0⟩ Ds H) h1) c0) F
noncomputable def s3_58 : Slot tf3 := ⟨[.o2, .o7, .o0], p3_58, fun F v => fV3 v (p3_58 F), fun _ _ _ _ _ => ⟨_, rfl, rfl⟩, fun _ v _ _ _ => fV3_eq v _ _ _ _⟩
def r3_58 : RO tf3 := ⟨.t [.o2, .o7, .o0], fun F => F.c.h.a, fun _ => rfl⟩
noncomputable def p3_59 (F : X3) : V3 := N8.rec (motive := fun _ => V3) (fun a0 b0 c0 d0 e0 f0 g0 h0 => N8.rec (motive := fun _ => V3) (fun a1 b1 c1 d1 e1 f1 g1 h1 => N8.rec (motive := fun _ => V3) (fun _ b2 c2 d2 e2 f2 g2 h2 v k Ds H => k ⟨a0, b0, c0, ⟨a1, b1, c1, d1, e1, f1, g1, ⟨v, b2, c2, d2, e2, f2, g2, h2⟩⟩, e0, f0, g0, h0⟩ Ds H) h1) d0) F
noncomputable def s3_59 : Slot tf3 := ⟨[.o3, .o7, .o0], p3_59, fun F v => fV3 v (p3_59 F), fun _ _ _ _ _ => ⟨_, rfl, rfl⟩, fun _ v _ _ _ => fV3_eq v _ _ _ _⟩
def r3_59 : RO tf3 := ⟨.t [.o3, .o7, .o0], fun F => F.d.h.a, fun _ => rfl⟩
noncomputable def p3_60 (F : X3) : V3 := N8.rec (motive := fun _ => V3) (fun a0 b0 c0 d0 e0 f0 g0 h0 => N8.rec (motive := fun _ => V3) (fun a1 b1 c1 d1 e1 f1 g1 h1 => N8.rec (motive := fun _ => V3) (fun _ b2 c2 d2 e2 f2 g2 h2 v k Ds H => k ⟨a0, b0, c0, d0, ⟨a1, b1, c1, d1, e1, f1, g1, ⟨v, b2, c2, d2, e2, f2, g2, h2⟩⟩, f0, g0, h0⟩ Ds H) h1) e0) F
noncomputable def s3_60 : Slot tf3 := ⟨[.o4, .o7, .o0], p3_60, fun F v => fV3 v (p3_60 F), fun _ _ _ _ _ => ⟨_, rfl, rfl⟩, fun _ v _ _ _ => fV3_eq v _ _ _ _⟩
def r3_60 : RO tf3 := ⟨.t [.o4, .o7, .o0], fun F => F.e.h.a, fun _ => rfl⟩
noncomputable def p3_61 (F : X3) : V3 := N8.rec (motive := fun _ => V3) (fun a0 b0 c0 d0 e0 f0 g0 h0 => N8.rec (motive := fun _ => V3) (fun a1 b1 c1 d1 e1 f1 g1 h1 => N8.rec (motive := fun _ => V3) (fun _ b2 c2 d2 e2 f2 g2 h2 v k Ds H => k ⟨a0, b0, c0, d0, e0, ⟨a1, b1, c1, d1, e1, f1, g1, ⟨v, b2, c2, d2, e2, f2, g2, h2⟩⟩, g0, h0⟩ Ds H) h1) f0) F
noncomputable def s3_61 : Slot tf3 := ⟨[.o5, .o7, .o0], p3_61, fun F v => fV3 v (p3_61 F), fun _ _ _ _ _ => ⟨_, rfl, rfl⟩, fun _ v _ _ _ => fV3_eq v _ _ _ _⟩
def r3_61 : RO tf3 := ⟨.t [.o5, .o7, .o0], fun F => F.f.h.a, fun _ => rfl⟩
noncomputable def p3_62 (F : X3) : V3 := N8.rec (motive := fun _ => V3) (fun a0 b0 c0 d0 e0 f0 g0 h0 => N8.rec (motive := fun _ => V3) (fun a1 b1 c1 d1 e1 f1 g1 h1 => N8.rec (motive := fun _ => V3) (fun _ b2 c2 d2 e2 f2 g2 h2 v k Ds H => k ⟨a0, b0, c0, d0, e0, f0, ⟨a1, b1, c1, d1, e1, f1, g1, ⟨v, b2, c2, d2, e2, f2, g2, h2⟩⟩, h0⟩ Ds H) h1) g0) F
noncomputable def s3_62 : Slot tf3 := ⟨[.o6, .o7, .o0], p3_62, fun F v => fV3 v (p3_62 F), fun _ _ _ _ _ => ⟨_, rfl, rfl⟩, fun _ v _ _ _ => fV3_eq v _ _ _ _⟩
def r3_62 : RO tf3 := ⟨.t [.o6, .o7, .o0], fun F => F.g.h.a, fun _ => rfl⟩
noncomputable def p3_63 (F : X3) : V3 := N8.rec (motive := fun _ => V3) (fun a0 b0 c0 d0 e0 f0 g0 h0 => N8.rec (motive := fun _ => V3) (fun a1 b1 c1 d1 e1 f1 g1 h1 => N8.rec (motive := fun _ => V3) (fun _ b2 c2 d2 e2 f2 g2 h2 v k Ds H => k ⟨a0, b0, c0, d0, e0, f0, g0, ⟨a1, b1, c1, d1, e1, f1, g1, ⟨v, b2, c2, d2, e2, f2, g2, h2⟩⟩⟩ Ds H) h1) h0) F
noncomputable def s3_63 : Slot tf3 := ⟨[.o7, .o7, .o0], p3_63, fun F v => fV3 v (p3_63 F), fun _ _ _ _ _ => ⟨_, rfl, rfl⟩, fun _ v _ _ _ => fV3_eq v _ _ _ _⟩
def r3_63 : RO tf3 := ⟨.t [.o7, .o7, .o0], fun F => F.h.h.a, fun _ => rfl⟩
noncomputable def p3_64 (F : X3) : V3 := N8.rec (motive := fun _ => V3) (fun a0 b0 c0 d0 e0 f0 g0 h0 => N8.rec (motive := fun _ => V3) (fun a1 b1 c1 d1 e1 f1 g1 h1 => N8.rec (motive := fun _ => V3) (fun a2 _ c2 d2 e2 f2 g2 h2 v k Ds H => k ⟨⟨⟨a2, v, c2, d2, e2, f2, g2, h2⟩, b1, c1, d1, e1, f1, g1, h1⟩, b0, c0, d0, e0, f0, g0, h0⟩ Ds H) a1) a0) F
noncomputable def s3_64 : Slot tf3 := ⟨[.o0, .o0, .o1], p3_64, fun F v => fV3 v (p3_64 F), fun _ _ _ _ _ => ⟨_, rfl, rfl⟩, fun _ v _ _ _ => fV3_eq v _ _ _ _⟩
def r3_64 : RO tf3 := ⟨.t [.o0, .o0, .o1], fun F => F.a.a.b, fun _ => rfl⟩
noncomputable def p3_65 (F : X3) : V3 := N8.rec (motive := fun _ => V3) (fun a0 b0 c0 d0 e0 f0 g0 h0 => N8.rec (motive := fun _ => V3) (fun a1 b1 c1 d1 e1 f1 g1 h1 => N8.rec (motive := fun _ => V3) (fun a2 _ c2 d2 e2 f2 g2 h2 v k Ds H => k ⟨a0, ⟨⟨a2, v, c2, d2, e2, f2, g2, h2⟩, b1, c1, d1, e1, f1, g1, h1⟩, c0, d0, e0, f0, g0, h0⟩ Ds H) a1) b0) F
noncomputable def s3_65 : Slot tf3 := ⟨[.o1, .o0, .o1], p3_65, fun F v => fV3 v (p3_65 F), fun _ _ _ _ _ => ⟨_, rfl, rfl⟩, fun _ v _ _ _ => fV3_eq v _ _ _ _⟩
def r3_65 : RO tf3 := ⟨.t [.o1, .o0, .o1], fun F => F.b.a.b, fun _ => rfl⟩
noncomputable def p3_66 (F : X3) : V3 := N8.rec (motive := fun _ => V3) (fun a0 b0 c0 d0 e0 f0 g0 h0 => N8.rec (motive := fun _ => V3) (fun a1 b1 c1 d1 e1 f1 g1 h1 => N8.rec (motive := fun _ => V3) (fun a2 _ c2 d2 e2 f2 g2 h2 v k Ds H => k ⟨a0, b0, ⟨⟨a2, v, c2, d2, e2, f2, g2, h2⟩, b1, c1, d1, e1, f1, g1, h1⟩, d0, e0, f0, g0, h0⟩ Ds H) a1) c0) F
noncomputable def s3_66 : Slot tf3 := ⟨[.o2, .o0, .o1], p3_66, fun F v => fV3 v (p3_66 F), fun _ _ _ _ _ => ⟨_, rfl, rfl⟩, fun _ v _ _ _ => fV3_eq v _ _ _ _⟩
def r3_66 : RO tf3 := ⟨.t [.o2, .o0, .o1], fun F => F.c.a.b, fun _ => rfl⟩
noncomputable def p3_67 (F : X3) : V3 := N8.rec (motive := fun _ => V3) (fun a0 b0 c0 d0 e0 f0 g0 h0 => N8.rec (motive := fun _ => V3) (fun a1 b1 c1 d1 e1 f1 g1 h1 => N8.rec (motive := fun _ => V3) (fun a2 _ c2 d2 e2 f2 g2 h2 v k Ds H => k ⟨a0, b0, c0, ⟨⟨a2, v, c2, d2, e2, f2, g2, h2⟩, b1, c1, d1, e1, f1, g1, h1⟩, e0, f0, g0, h0⟩ Ds H) a1) d0) F
noncomputable def s3_67 : Slot tf3 := ⟨[.o3, .o0, .o1], p3_67, fun F v => fV3 v (p3_67 F), fun _ _ _ _ _ => ⟨_, rfl, rfl⟩, fun _ v _ _ _ => fV3_eq v _ _ _ _⟩
def r3_67 : RO tf3 := ⟨.t [.o3, .o0, .o1], fun F => F.d.a.b, fun _ => rfl⟩
noncomputable def p3_68 (F : X3) : V3 := N8.rec (motive := fun _ => V3) (fun a0 b0 c0 d0 e0 f0 g0 h0 => N8.rec (motive := fun _ => V3) (fun a1 b1 c1 d1 e1 f1 g1 h1 => N8.rec (motive := fun _ => V3) (fun a2 _ c2 d2 e2 f2 g2 h2 v k Ds H => k ⟨a0, b0, c0, d0, ⟨⟨a2, v, c2, d2, e2, f2, g2, h2⟩, b1, c1, d1, e1, f1, g1, h1⟩, f0, g0, h0⟩ Ds H) a1) e0) F
noncomputable def s3_68 : Slot tf3 := ⟨[.o4, .o0, .o1], p3_68, fun F v => fV3 v (p3_68 F), fun _ _ _ _ _ => ⟨_, rfl, rfl⟩, fun _ v _ _ _ => fV3_eq v _ _ _ _⟩
def r3_68 : RO tf3 := ⟨.t [.o4, .o0, .o1], fun F => F.e.a.b, fun _ => rfl⟩
noncomputable def p3_69 (F : X3) : V3 := N8.rec (motive := fun _ => V3) (fun a0 b0 c0 d0 e0 f0 g0 h0 => N8.rec (motive := fun _ => V3) (fun a1 b1 c1 d1 e1 f1 g1 h1 => N8.rec (motive := fun _ => V3) (fun a2 _ c2 d2 e2 f2 g2 h2 v k Ds H => k ⟨a0, b0, c0, d0, e0, ⟨⟨a2, v, c2, d2, e2, f2, g2, h2⟩, b1, c1, d1, e1, f1, g1, h1⟩, g0, h0⟩ Ds H) a1) f0) F
noncomputable def s3_69 : Slot tf3 := ⟨[.o5, .o0, .o1], p3_69, fun F v => fV3 v (p3_69 F), fun _ _ _ _ _ => ⟨_, rfl, rfl⟩, fun _ v _ _ _ => fV3_eq v _ _ _ _⟩
def r3_69 : RO tf3 := ⟨.t [.o5, .o0, .o1], fun F => F.f.a.b, fun _ => rfl⟩
noncomputable def p3_70 (F : X3) : V3 := N8.rec (motive := fun _ => V3) (fun a0 b0 c0 d0 e0 f0 g0 h0 => N8.rec (motive := fun _ => V3) (fun a1 b1 c1 d1 e1 f1 g1 h1 => N8.rec (motive := fun _ => V3) (fun a2 _ c2 d2 e2 f2 g2 h2 v k Ds H => k ⟨a0, b0, c0, d0, e0, f0, ⟨⟨a2, v, c2, d2, e2, f2, g2, h2⟩, b1, c1, d1, e1, f1, g1, h1⟩, h0⟩ Ds H) a1) g0) F
noncomputable def s3_70 : Slot tf3 := ⟨[.o6, .o0, .o1], p3_70, fun F v => fV3 v (p3_70 F), fun _ _ _ _ _ => ⟨_, rfl, rfl⟩, fun _ v _ _ _ => fV3_eq v _ _ _ _⟩
def r3_70 : RO tf3 := ⟨.t [.o6, .o0, .o1], fun F => F.g.a.b, fun _ => rfl⟩
noncomputable def p3_71 (F : X3) : V3 := N8.rec (motive := fun _ => V3) (fun a0 b0 c0 d0 e0 f0 g0 h0 => N8.rec (motive := fun _ => V3) (fun a1 b1 c1 d1 e1 f1 g1 h1 => N8.rec (motive := fun _ => V3) (fun a2 _ c2 d2 e2 f2 g2 h2 v k Ds H => k ⟨a0, b0, c0, d0, e0, f0, g0, ⟨⟨a2, v, c2, d2, e2, f2, g2, h2⟩, b1, c1, d1, e1, f1, g1, h1⟩⟩ Ds H) a1) h0) F
noncomputable def s3_71 : Slot tf3 := ⟨[.o7, .o0, .o1], p3_71, fun F v => fV3 v (p3_71 F), fun _ _ _ _ _ => ⟨_, rfl, rfl⟩, fun _ v _ _ _ => fV3_eq v _ _ _ _⟩
def r3_71 : RO tf3 := ⟨.t [.o7, .o0, .o1], fun F => F.h.a.b, fun _ => rfl⟩
noncomputable def p3_72 (F : X3) : V3 := N8.rec (motive := fun _ => V3) (fun a0 b0 c0 d0 e0 f0 g0 h0 => N8.rec (motive := fun _ => V3) (fun a1 b1 c1 d1 e1 f1 g1 h1 => N8.rec (motive := fun _ => V3) (fun a2 _ c2 d2 e2 f2 g2 h2 v k Ds H => k ⟨⟨a1, ⟨a2, v, c2, d2, e2, f2, g2, h2⟩, c1, d1, e1, f1, g1, h1⟩, b0, c0, d0, e0, f0, g0, h0⟩ Ds H) b1) a0) F
noncomputable def s3_72 : Slot tf3 := ⟨[.o0, .o1, .o1], p3_72, fun F v => fV3 v (p3_72 F), fun _ _ _ _ _ => ⟨_, rfl, rfl⟩, fun _ v _ _ _ => fV3_eq v _ _ _ _⟩
def r3_72 : RO tf3 := ⟨.t [.o0, .o1, .o1], fun F => F.a.b.b, fun _ => rfl⟩
noncomputable def p3_73 (F : X3) : V3 := N8.rec (motive := fun _ => V3) (fun a0 b0 c0 d0 e0 f0 g0 h0 => N8.rec (motive := fun _ => V3) (fun a1 b1 c1 d1 e1 f1 g1 h1 => N8.rec (motive := fun _ => V3) (fun a2 _ c2 d2 e2 f2 g2 h2 v k Ds H => k ⟨a0, ⟨a1, ⟨a2, v, c2, d2, e2, f2, g2, h2⟩, c1, d1, e1, f1, g1, h1⟩, c0, d0, e0, f0, g0, h0⟩ Ds H) b1) b0) F
noncomputable def s3_73 : Slot tf3 := ⟨[.o1, .o1, .o1], p3_73, fun F v => fV3 v (p3_73 F), fun _ _ _ _ _ => ⟨_, rfl, rfl⟩, fun _ v _ _ _ => fV3_eq v _ _ _ _⟩
def r3_73 : RO tf3 := ⟨.t [.o1, .o1, .o1], fun F => F.b.b.b, fun _ => rfl⟩
noncomputable def p3_74 (F : X3) : V3 := N8.rec (motive := fun _ => V3) (fun a0 b0 c0 d0 e0 f0 g0 h0 => N8.rec (motive := fun _ => V3) (fun a1 b1 c1 d1 e1 f1 g1 h1 => N8.rec (motive := fun _ => V3) (fun a2 _ c2 d2 e2 f2 g2 h2 v k Ds H => k ⟨a0, b0, ⟨a1, ⟨a2, v, c2, d2, e2, f2, g2, h2⟩, c1, d1, e1, f1, g1, h1⟩, d0, e0, f0, g0, h0⟩ Ds H) b1) c0) F
noncomputable def s3_74 : Slot tf3 := ⟨[.o2, .o1, .o1], p3_74, fun F v => fV3 v (p3_74 F), fun _ _ _ _ _ => ⟨_, rfl, rfl⟩, fun _ v _ _ _ => fV3_eq v _ _ _ _⟩
def r3_74 : RO tf3 := ⟨.t [.o2, .o1, .o1], fun F => F.c.b.b, fun _ => rfl⟩
noncomputable def p3_75 (F : X3) : V3 := N8.rec (motive := fun _ => V3) (fun a0 b0 c0 d0 e0 f0 g0 h0 => N8.rec (motive := fun _ => V3) (fun a1 b1 c1 d1 e1 f1 g1 h1 => N8.rec (motive := fun _ => V3) (fun a2 _ c2 d2 e2 f2 g2 h2 v k Ds H => k ⟨a0, b0, c0, ⟨a1, ⟨a2, v, c2, d2, e2, f2, g2, h2⟩, c1, d1, e1, f1, g1, h1⟩, e0, f0, g0, h0⟩ Ds H) b1) d0) F
noncomputable def s3_75 : Slot tf3 := ⟨[.o3, .o1, .o1], p3_75, fun F v => fV3 v (p3_75 F), fun _ _ _ _ _ => ⟨_, rfl, rfl⟩, fun _ v _ _ _ => fV3_eq v _ _ _ _⟩
def r3_75 : RO tf3 := ⟨.t [.o3, .o1, .o1], fun F => F.d.b.b, fun _ => rfl⟩
noncomputable def p3_76 (F : X3) : V3 := N8.rec (motive := fun _ => V3) (fun a0 b0 c0 d0 e0 f0 g0 h0 => N8.rec (motive := fun _ => V3) (fun a1 b1 c1 d1 e1 f1 g1 h1 => N8.rec (motive := fun _ => V3) (fun a2 _ c2 d2 e2 f2 g2 h2 v k Ds H => k ⟨a0, b0, c0, d0, ⟨a1, ⟨a2, v, c2, d2, e2, f2, g2, h2⟩, c1, d1, e1, f1, g1, h1⟩, f0, g0, h0⟩ Ds H) b1) e0) F
noncomputable def s3_76 : Slot tf3 := ⟨[.o4, .o1, .o1], p3_76, fun F v => fV3 v (p3_76 F), fun _ _ _ _ _ => ⟨_, rfl, rfl⟩, fun _ v _ _ _ => fV3_eq v _ _ _ _⟩
def r3_76 : RO tf3 := ⟨.t [.o4, .o1, .o1], fun F => F.e.b.b, fun _ => rfl⟩
noncomputable def p3_77 (F : X3) : V3 := N8.rec (motive := fun _ => V3) (fun a0 b0 c0 d0 e0 f0 g0 h0 => N8.rec (motive := fun _ => V3) (fun a1 b1 c1 d1 e1 f1 g1 h1 => N8.rec (motive := fun _ => V3) (fun a2 _ c2 d2 e2 f2 g2 h2 v k Ds H => k ⟨a0, b0, c0, d0, e0, ⟨a1, ⟨a2, v, c2, d2, e2, f2, g2, h2⟩, c1, d1, e1, f1, g1, h1⟩, g0, h0⟩ Ds H) b1) f0) F
noncomputable def s3_77 : Slot tf3 := ⟨[.o5, .o1, .o1], p3_77, fun F v => fV3 v (p3_77 F), fun _ _ _ _ _ => ⟨_, rfl, rfl⟩, fun _ v _ _ _ => fV3_eq v _ _ _ _⟩
def r3_77 : RO tf3 := ⟨.t [.o5, .o1, .o1], fun F => F.f.b.b, fun _ => rfl⟩
noncomputable def p3_78 (F : X3) : V3 := N8.rec (motive := fun _ => V3) (fun a0 b0 c0 d0 e0 f0 g0 h0 => N8.rec (motive := fun _ => V3) (fun a1 b1 c1 d1 e1 f1 g1 h1 => N8.rec (motive := fun _ => V3) (fun a2 _ c2 d2 e2 f2 g2 h2 v k Ds H => k ⟨a0, b0, c0, d0, e0, f0, ⟨a1, ⟨a2, v, c2, d2, e2, f2, g2, h2⟩, c1, d1, e1, f1, g1, h1⟩, h0⟩ Ds H) b1) g0) F
noncomputable def s3_78 : Slot tf3 := ⟨[.o6, .o1, .o1], p3_78, fun F v => fV3 v (p3_78 F), fun _ _ _ _ _ => ⟨_, rfl, rfl⟩, fun _ v _ _ _ => fV3_eq v _ _ _ _⟩
def r3_78 : RO tf3 := ⟨.t [.o6, .o1, .o1], fun F => F.g.b.b, fun _ => rfl⟩
noncomputable def p3_79 (F : X3) : V3 := N8.rec (motive := fun _ => V3) (fun a0 b0 c0 d0 e0 f0 g0 h0 => N8.rec (motive := fun _ => V3) (fun a1 b1 c1 d1 e1 f1 g1 h1 => N8.rec (motive := fun _ => V3) (fun a2 _ c2 d2 e2 f2 g2 h2 v k Ds H => k ⟨a0, b0, c0, d0, e0, f0, g0, ⟨a1, ⟨a2, v, c2, d2, e2, f2, g2, h2⟩, c1, d1, e1, f1, g1, h1⟩⟩ Ds H) b1) h0) F
noncomputable def s3_79 : Slot tf3 := ⟨[.o7, .o1, .o1], p3_79, fun F v => fV3 v (p3_79 F), fun _ _ _ _ _ => ⟨_, rfl, rfl⟩, fun _ v _ _ _ => fV3_eq v _ _ _ _⟩
def r3_79 : RO tf3 := ⟨.t [.o7, .o1, .o1], fun F => F.h.b.b, fun _ => rfl⟩
noncomputable def p3_80 (F : X3) : V3 := N8.rec (motive := fun _ => V3) (fun a0 b0 c0 d0 e0 f0 g0 h0 => N8.rec (motive := fun _ => V3) (fun a1 b1 c1 d1 e1 f1 g1 h1 => N8.rec (motive := fun _ => V3) (fun a2 _ c2 d2 e2 f2 g2 h2 v k Ds H => k ⟨⟨a1, b1, ⟨a2, v, c2, d2, e2, f2, g2, h2⟩, d1, e1, f1, g1, h1⟩, b0, c0, d0, e0, f0, g0, h0⟩ Ds H) c1) a0) F
noncomputable def s3_80 : Slot tf3 := ⟨[.o0, .o2, .o1], p3_80, fun F v => fV3 v (p3_80 F), fun _ _ _ _ _ => ⟨_, rfl, rfl⟩, fun _ v _ _ _ => fV3_eq v _ _ _ _⟩
def r3_80 : RO tf3 := ⟨.t [.o0, .o2, .o1], fun F => F.a.c.b, fun _ => rfl⟩
noncomputable def p3_81 (F : X3) : V3 := N8.rec (motive := fun _ => V3) (fun a0 b0 c0 d0 e0 f0 g0 h0 => N8.rec (motive := fun _ => V3) (fun a1 b1 c1 d1 e1 f1 g1 h1 => N8.rec (motive := fun _ => V3) (fun a2 _ c2 d2 e2 f2 g2 h2 v k Ds H => k ⟨a0, ⟨a1, b1, ⟨a2, v, c2, d2, e2, f2, g2, h2⟩, d1, e1, f1, g1, h1⟩, c0, d0, e0, f0, g0, h0⟩ Ds H) c1) b0) F
noncomputable def s3_81 : Slot tf3 := ⟨[.o1, .o2, .o1], p3_81, fun F v => fV3 v (p3_81 F), fun _ _ _ _ _ => ⟨_, rfl, rfl⟩, fun _ v _ _ _ => fV3_eq v _ _ _ _⟩
def r3_81 : RO tf3 := ⟨.t [.o1, .o2, .o1], fun F => F.b.c.b, fun _ => rfl⟩
noncomputable def p3_82 (F : X3) : V3 := N8.rec (motive := fun _ => V3) (fun a0 b0 c0 d0 e0 f0 g0 h0 => N8.rec (motive := fun _ => V3) (fun a1 b1 c1 d1 e1 f1 g1 h1 => N8.rec (motive := fun _ => V3) (fun a2 _ c2 d2 e2 f2 g2 h2 v k Ds H => k ⟨a0, b0, ⟨a1, b1, ⟨a2, v, c2, d2, e2, f2, g2, h2⟩, d1, e1, f1, g1, h1⟩, d0, e0, f0, g0, h0⟩ Ds H) c1) c0) F
noncomputable def s3_82 : Slot tf3 := ⟨[.o2, .o2, .o1], p3_82, fun F v => fV3 v (p3_82 F), fun _ _ _ _ _ => ⟨_, rfl, rfl⟩, fun _ v _ _ _ => fV3_eq v _ _ _ _⟩
def r3_82 : RO tf3 := ⟨.t [.o2, .o2, .o1], fun F => F.c.c.b, fun _ => rfl⟩
noncomputable def p3_83 (F : X3) : V3 := N8.rec (motive := fun _ => V3) (fun a0 b0 c0 d0 e0 f0 g0 h0 => N8.rec (motive := fun _ => V3) (fun a1 b1 c1 d1 e1 f1 g1 h1 => N8.rec (motive := fun _ => V3) (fun a2 _ c2 d2 e2 f2 g2 h2 v k Ds H => k ⟨a0, b0, c0, ⟨a1, b1, ⟨a2, v, c2, d2, e2, f2, g2, h2⟩, d1, e1, f1, g1, h1⟩, e0, f0, g0, h0⟩ Ds H) c1) d0) F
noncomputable def s3_83 : Slot tf3 := ⟨[.o3, .o2, .o1], p3_83, fun F v => fV3 v (p3_83 F), fun _ _ _ _ _ => ⟨_, rfl, rfl⟩, fun _ v _ _ _ => fV3_eq v _ _ _ _⟩
def r3_83 : RO tf3 := ⟨.t [.o3, .o2, .o1], fun F => F.d.c.b, fun _ => rfl⟩
noncomputable def p3_84 (F : X3) : V3 := N8.rec (motive := fun _ => V3) (fun a0 b0 c0 d0 e0 f0 g0 h0 => N8.rec (motive := fun _ => V3) (fun a1 b1 c1 d1 e1 f1 g1 h1 => N8.rec (motive := fun _ => V3) (fun a2 _ c2 d2 e2 f2 g2 h2 v k Ds H => k ⟨a0, b0, c0, d0, ⟨a1, b1, ⟨a2, v, c2, d2, e2, f2, g2, h2⟩, d1, e1, f1, g1, h1⟩, f0, g0, h0⟩ Ds H) c1) e0) F
noncomputable def s3_84 : Slot tf3 := ⟨[.o4, .o2, .o1], p3_84, fun F v => fV3 v (p3_84 F), fun _ _ _ _ _ => ⟨_, rfl, rfl⟩, fun _ v _ _ _ => fV3_eq v _ _ _ _⟩
def r3_84 : RO tf3 := ⟨.t [.o4, .o2, .o1], fun F => F.e.c.b, fun _ => rfl⟩
noncomputable def p3_85 (F : X3) : V3 := N8.rec (motive := fun _ => V3) (fun a0 b0 c0 d0 e0 f0 g0 h0 => N8.rec (motive := fun _ => V3) (fun a1 b1 c1 d1 e1 f1 g1 h1 => N8.rec (motive := fun _ => V3) (fun a2 _ c2 d2 e2 f2 g2 h2 v k Ds H => k ⟨a0, b0, c0, d0, e0, ⟨a1, b1, ⟨a2, v, c2, d2, e2, f2, g2, h2⟩, d1, e1, f1, g1, h1⟩, g0, h0⟩ Ds H) c1) f0) F
noncomputable def s3_85 : Slot tf3 := ⟨[.o5, .o2, .o1], p3_85, fun F v => fV3 v (p3_85 F), fun _ _ _ _ _ => ⟨_, rfl, rfl⟩, fun _ v _ _ _ => fV3_eq v _ _ _ _⟩
def r3_85 : RO tf3 := ⟨.t [.o5, .o2, .o1], fun F => F.f.c.b, fun _ => rfl⟩
noncomputable def p3_86 (F : X3) : V3 := N8.rec (motive := fun _ => V3) (fun a0 b0 c0 d0 e0 f0 g0 h0 => N8.rec (motive := fun _ => V3) (fun a1 b1 c1 d1 e1 f1 g1 h1 => N8.rec (motive := fun _ => V3) (fun a2 _ c2 d2 e2 f2 g2 h2 v k Ds H => k ⟨a0, b0, c0, d0, e0, f0, ⟨a1, b1, ⟨a2, v, c2, d2, e2, f2, g2, h2⟩, d1, e1, f1, g1, h1⟩, h0⟩ Ds H) c1) g0) F
noncomputable def s3_86 : Slot tf3 := ⟨[.o6, .o2, .o1], p3_86, fun F v => fV3 v (p3_86 F), fun _ _ _ _ _ => ⟨_, rfl, rfl⟩, fun _ v _ _ _ => fV3_eq v _ _ _ _⟩
def r3_86 : RO tf3 := ⟨.t [.o6, .o2, .o1], fun F => F.g.c.b, fun _ => rfl⟩
noncomputable def p3_87 (F : X3) : V3 := N8.rec (motive := fun _ => V3) (fun a0 b0 c0 d0 e0 f0 g0 h0 => N8.rec (motive := fun _ => V3) (fun a1 b1 c1 d1 e1 f1 g1 h1 => N8.rec (motive := fun _ => V3) (fun a2 _ c2 d2 e2 f2 g2 h2 v k Ds H => k ⟨a0, b0, c0, d0, e0, f0, g0, ⟨a1, b1, ⟨a2, v, c2, d2, e2, f2, g2, h2⟩, d1, e1, f1, g1, h1⟩⟩ Ds H) c1) h0) F
noncomputable def s3_87 : Slot tf3 := ⟨[.o7, .o2, .o1], p3_87, fun F v => fV3 v (p3_87 F), fun _ _ _ _ _ => ⟨_, rfl, rfl⟩, fun _ v _ _ _ => fV3_eq v _ _ _ _⟩
def r3_87 : RO tf3 := ⟨.t [.o7, .o2, .o1], fun F => F.h.c.b, fun _ => rfl⟩
noncomputable def p3_88 (F : X3) : V3 := N8.rec (motive := fun _ => V3) (fun a0 b0 c0 d0 e0 f0 g0 h0 => N8.rec (motive := fun _ => V3) (fun a1 b1 c1 d1 e1 f1 g1 h1 => N8.rec (motive := fun _ => V3) (fun a2 _ c2 d2 e2 f2 g2 h2 v k Ds H => k ⟨⟨a1, b1, c1, ⟨a2, v, c2, d2, e2, f2, g2, h2⟩, e1, f1, g1, h1⟩, b0, c0, d0, e0, f0, g0, h0⟩ Ds H) d1) a0) F
noncomputable def s3_88 : Slot tf3 := ⟨[.o0, .o3, .o1], p3_88, fun F v => fV3 v (p3_88 F), fun _ _ _ _ _ => ⟨_, rfl, rfl⟩, fun _ v _ _ _ => fV3_eq v _ _ _ _⟩
def r3_88 : RO tf3 := ⟨.t [.o0, .o3, .o1], fun F => F.a.d.b, fun _ => rfl⟩
noncomputable def p3_89 (F : X3) : V3 := N8.rec (motive := fun _ => V3) (fun a0 b0 c0 d0 e0 f0 g0 h0 => N8.rec (motive := fun _ => V3) (fun a1 b1 c1 d1 e1 f1 g1 h1 => N8.rec (motive := fun _ => V3) (fun a2 _ c2 d2 e2 f2 g2 h2 v k Ds H => k ⟨a0, ⟨a1, b1, c1, ⟨a2, v, c2, d2, e2, f2, g2, h2⟩, e1, f1, g1, h1⟩, c0, d0, e0, f0, g0, h0⟩ Ds H) d1) b0) F
noncomputable def s3_89 : Slot tf3 := ⟨[.o1, .o3, .o1], p3_89, fun F v => fV3 v (p3_89 F), fun _ _ _ _ _ => ⟨_, rfl, rfl⟩, fun _ v _ _ _ => fV3_eq v _ _ _ _⟩
def r3_89 : RO tf3 := ⟨.t [.o1, .o3, .o1], fun F => F.b.d.b, fun _ => rfl⟩
noncomputable def p3_90 (F : X3) : V3 := N8.rec (motive := fun _ => V3) (fun a0 b0 c0 d0 e0 f0 g0 h0 => N8.rec (motive := fun _ => V3) (fun a1 b1 c1 d1 e1 f1 g1 h1 => N8.rec (motive := fun _ => V3) (fun a2 _ c2 d2 e2 f2 g2 h2 v k Ds H => k ⟨a0, b0, ⟨a1, b1, c1, ⟨a2, v, c2, d2, e2, f2, g2, h2⟩, e1, f1, g1, h1⟩, d0, e0, f0, g0, h0⟩ Ds H) d1) c0) F
noncomputable def s3_90 : Slot tf3 := ⟨[.o2, .o3, .o1], p3_90, fun F v => fV3 v (p3_90 F), fun _ _ _ _ _ => ⟨_, rfl, rfl⟩, fun _ v _ _ _ => fV3_eq v _ _ _ _⟩
def r3_90 : RO tf3 := ⟨.t [.o2, .o3, .o1], fun F => F.c.d.b, fun _ => rfl⟩
noncomputable def p3_91 (F : X3) : V3 := N8.rec (motive := fun _ => V3) (fun a0 b0 c0 d0 e0 f0 g0 h0 => N8.rec (motive := fun _ => V3) (fun a1 b1 c1 d1 e1 f1 g1 h1 => N8.rec (motive := fun _ => V3) (fun a2 _ c2 d2 e2 f2 g2 h2 v k Ds H => k ⟨a0, b0, c0, ⟨a1, b1, c1, ⟨a2, v, c2, d2, e2, f2, g2, h2⟩, e1, f1, g1, h1⟩, e0, f0, g0, h0⟩ Ds H) d1) d0) F
noncomputable def s3_91 : Slot tf3 := ⟨[.o3, .o3, .o1], p3_91, fun F v => fV3 v (p3_91 F), fun _ _ _ _ _ => ⟨_, rfl, rfl⟩, fun _ v _ _ _ => fV3_eq v _ _ _ _⟩
def r3_91 : RO tf3 := ⟨.t [.o3, .o3, .o1], fun F => F.d.d.b, fun _ => rfl⟩
noncomputable def p3_92 (F : X3) : V3 := N8.rec (motive := fun _ => V3) (fun a0 b0 c0 d0 e0 f0 g0 h0 => N8.rec (motive := fun _ => V3) (fun a1 b1 c1 d1 e1 f1 g1 h1 => N8.rec (motive := fun _ => V3) (fun a2 _ c2 d2 e2 f2 g2 h2 v k Ds H => k ⟨a0, b0, c0, d0, ⟨a1, b1, c1, ⟨a2, v, c2, d2, e2, f2, g2, h2⟩, e1, f1, g1, h1⟩, f0, g0, h0⟩ Ds H) d1) e0) F
noncomputable def s3_92 : Slot tf3 := ⟨[.o4, .o3, .o1], p3_92, fun F v => fV3 v (p3_92 F), fun _ _ _ _ _ => ⟨_, rfl, rfl⟩, fun _ v _ _ _ => fV3_eq v _ _ _ _⟩
def r3_92 : RO tf3 := ⟨.t [.o4, .o3, .o1], fun F => F.e.d.b, fun _ => rfl⟩
noncomputable def p3_93 (F : X3) : V3 := N8.rec (motive := fun _ => V3) (fun a0 b0 c0 d0 e0 f0 g0 h0 => N8.rec (motive := fun _ => V3) (fun a1 b1 c1 d1 e1 f1 g1 h1 => N8.rec (motive := fun _ => V3) (fun a2 _ c2 d2 e2 f2 g2 h2 v k Ds H => k ⟨a0, b0, c0, d0, e0, ⟨a1, b1, c1, ⟨a2, v, c2, d2, e2, f2, g2, h2⟩, e1, f1, g1, h1⟩, g0, h0⟩ Ds H) d1) f0) F
noncomputable def s3_93 : Slot tf3 := ⟨[.o5, .o3, .o1], p3_93, fun F v => fV3 v (p3_93 F), fun _ _ _ _ _ => ⟨_, rfl, rfl⟩, fun _ v _ _ _ => fV3_eq v _ _ _ _⟩
def r3_93 : RO tf3 := ⟨.t [.o5, .o3, .o1], fun F => F.f.d.b, fun _ => rfl⟩
noncomputable def p3_94 (F : X3) : V3 := N8.rec (motive := fun _ => V3) (fun a0 b0 c0 d0 e0 f0 g0 h0 => N8.rec (motive := fun _ => V3) (fun a1 b1 c1 d1 e1 f1 g1 h1 => N8.rec (motive := fun _ => V3) (fun a2 _ c2 d2 e2 f2 g2 h2 v k Ds H => k ⟨a0, b0, c0, d0, e0, f0, ⟨a1, b1, c1, ⟨a2, v, c2, d2, e2, f2, g2, h2⟩, e1, f1, g1, h1⟩, h0⟩ Ds H) d1) g0) F
noncomputable def s3_94 : Slot tf3 := ⟨[.o6, .o3, .o1], p3_94, fun F v => fV3 v (p3_94 F), fun _ _ _ _ _ => ⟨_, rfl, rfl⟩, fun _ v _ _ _ => fV3_eq v _ _ _ _⟩
def r3_94 : RO tf3 := ⟨.t [.o6, .o3, .o1], fun F => F.g.d.b, fun _ => rfl⟩
noncomputable def p3_95 (F : X3) : V3 := N8.rec (motive := fun _ => V3) (fun a0 b0 c0 d0 e0 f0 g0 h0 => N8.rec (motive := fun _ => V3) (fun a1 b1 c1 d1 e1 f1 g1 h1 => N8.rec (motive := fun _ => V3) (fun a2 _ c2 d2 e2 f2 g2 h2 v k Ds H => k ⟨a0, b0, c0, d0, e0, f0, g0, ⟨a1, b1, c1, ⟨a2, v, c2, d2, e2, f2, g2, h2⟩, e1, f1, g1, h1⟩⟩ Ds H) d1) h0) F
noncomputable def s3_95 : Slot tf3 := ⟨[.o7, .o3, .o1], p3_95, fun F v => fV3 v (p3_95 F), fun _ _ _ _ _ => ⟨_, rfl, rfl⟩, fun _ v _ _ _ => fV3_eq v _ _ _ _⟩
def r3_95 : RO tf3 := ⟨.t [.o7, .o3, .o1], fun F => F.h.d.b, fun _ => rfl⟩
noncomputable def p3_96 (F : X3) : V3 := N8.rec (motive := fun _ => V3) (fun a0 b0 c0 d0 e0 f0 g0 h0 => N8.rec (motive := fun _ => V3) (fun a1 b1 c1 d1 e1 f1 g1 h1 => N8.rec (motive := fun _ => V3) (fun a2 _ c2 d2 e2 f2 g2 h2 v k Ds H => k ⟨⟨a1, b1, c1, d1, ⟨a2, v, c2, d2, e2, f2, g2, h2⟩, f1, g1, h1⟩, b0, c0, d0, e0, f0, g0, h0⟩ Ds H) e1) a0) F
noncomputable def s3_96 : Slot tf3 := ⟨[.o0, .o4, .o1], p3_96, fun F v => fV3 v (p3_96 F), fun _ _ _ _ _ => ⟨_, rfl, rfl⟩, fun _ v _ _ _ => fV3_eq v _ _ _ _⟩
def r3_96 : RO tf3 := ⟨.t [.o0, .o4, .o1], fun F => F.a.e.b, fun _ => rfl⟩
noncomputable def p3_97 (F : X3) : V3 := N8.rec (motive := fun _ => V3) (fun a0 b0 c0 d0 e0 f0 g0 h0 => N8.rec (motive := fun _ => V3) (fun a1 b1 c1 d1 e1 f1 g1 h1 => N8.rec (motive := fun _ => V3) (fun a2 _ c2 d2 e2 f2 g2 h2 v k Ds H => k ⟨a0, ⟨a1, b1, c1, d1, ⟨a2, v, c2, d2, e2, f2, g2, h2⟩, f1, g1, h1⟩, c0, d0, e0, f0, g0, h0⟩ Ds H) e1) b0) F
noncomputable def s3_97 : Slot tf3 := ⟨[.o1, .o4, .o1], p3_97, fun F v => fV3 v (p3_97 F), fun _ _ _ _ _ => ⟨_, rfl, rfl⟩, fun _ v _ _ _ => fV3_eq v _ _ _ _⟩
def r3_97 : RO tf3 := ⟨.t [.o1, .o4, .o1], fun F => F.b.e.b, fun _ => rfl⟩
noncomputable def p3_98 (F : X3) : V3 := N8.rec (motive := fun _ => V3) (fun a0 b0 c0 d0 e0 f0 g0 h0 => N8.rec (motive := fun _ => V3) (fun a1 b1 c1 d1 e1 f1 g1 h1 => N8.rec (motive := fun _ => V3) (fun a2 _ c2 d2 e2 f2 g2 h2 v k Ds H => k ⟨a0, b0, ⟨a1, b1, c1, d1, ⟨a2, v, c2, d2, e2, f2, g2, h2⟩, f1, g1, h1⟩, d0, e0, f0, g0, h0⟩ Ds H) e1) c0) F
noncomputable def s3_98 : Slot tf3 := ⟨[.o2, .o4, .o1], p3_98, fun F v => fV3 v (p3_98 F), fun _ _ _ _ _ => ⟨_, rfl, rfl⟩, fun _ v _ _ _ => fV3_eq v _ _ _ _⟩
def r3_98 : RO tf3 := ⟨.t [.o2, .o4, .o1], fun F => F.c.e.b, fun _ => rfl⟩
noncomputable def p3_99 (F : X3) : V3 := N8.rec (motive := fun _ => V3) (fun a0 b0 c0 d0 e0 f0 g0 h0 => N8.rec (motive := fun _ => V3) (fun a1 b1 c1 d1 e1 f1 g1 h1 => N8.rec (motive := fun _ => V3) (fun a2 _ c2 d2 e2 f2 g2 h2 v k Ds H => k ⟨a0, b0, c0, ⟨a1, b1, c1, d1, ⟨a2, v, c2, d2, e2, f2, g2, h2⟩, f1, g1, h1⟩, e0, f0, g0, h0⟩ Ds H) e1) d0) F
noncomputable def s3_99 : Slot tf3 := ⟨[.o3, .o4, .o1], p3_99, fun F v => fV3 v (p3_99 F), fun _ _ _ _ _ => ⟨_, rfl, rfl⟩, fun _ v _ _ _ => fV3_eq v _ _ _ _⟩
def r3_99 : RO tf3 := ⟨.t [.o3, .o4, .o1], fun F => F.d.e.b, fun _ => rfl⟩
noncomputable def p3_100 (F : X3) : V3 := N8.rec (motive := fun _ => V3) (fun a0 b0 c0 d0 e0 f0 g0 h0 => N8.rec (motive := fun _ => V3) (fun a1 b1 c1 d1 e1 f1 g1 h1 => N8.rec (motive := fun _ => V3) (fun a2 _ c2 d2 e2 f2 g2 h2 v k Ds H => k ⟨a0, b0, c0, d0, ⟨a1, b1, c1, d1, ⟨a2, v, c2, d2, e2, f2, g2, h2⟩, f1, g1, h1⟩, f0, g0, h0⟩ Ds H) e1) e0) F
noncomputable def s3_100 : Slot tf3 := ⟨[.o4, .o4, .o1], p3_100, fun F v => fV3 v (p3_100 F), fun _ _ _ _ _ => ⟨_, rfl, rfl⟩, fun _ v _ _ _ => fV3_eq v _ _ _ _⟩
def r3_100 : RO tf3 := ⟨.t [.o4, .o4, .o1], fun F => F.e.e.b, fun _ => rfl⟩
noncomputable def p3_101 (F : X3) : V3 := N8.rec (motive := fun _ => V3) (fun a0 b0 c0 d0 e0 f0 g0 h0 => N8.rec (motive := fun _ => V3) (fun a1 b1 c1 d1 e1 f1 g1 h1 => N8.rec (motive := fun _ => V3) (fun a2 _ c2 d2 e2 f2 g2 h2 v k Ds H => k ⟨a0, b0, c0, d0, e0, ⟨a1, b1, c1, d1, ⟨a2, v, c2, d2, e2, f2, g2, h2⟩, f1, g1, h1⟩, g0, h0⟩ Ds H) e1) f0) F
noncomputable def s3_101 : Slot tf3 := ⟨[.o5, .o4, .o1], p3_101, fun F v => fV3 v (p3_101 F), fun _ _ _ _ _ => ⟨_, rfl, rfl⟩, fun _ v _ _ _ => fV3_eq v _ _ _ _⟩
def r3_101 : RO tf3 := ⟨.t [.o5, .o4, .o1], fun F => F.f.e.b, fun _ => rfl⟩
noncomputable def p3_102 (F : X3) : V3 := N8.rec (motive := fun _ => V3) (fun a0 b0 c0 d0 e0 f0 g0 h0 => N8.rec (motive := fun _ => V3) (fun a1 b1 c1 d1 e1 f1 g1 h1 => N8.rec (motive := fun _ => V3) (fun a2 _ c2 d2 e2 f2 g2 h2 v k Ds H => k ⟨a0, b0, c0, d0, e0, f0, ⟨a1, b1, c1, d1, ⟨a2, v, c2, d2, e2, f2, g2, h2⟩, f1, g1, h1⟩, h0⟩ Ds H) e1) g0) F
noncomputable def s3_102 : Slot tf3 := ⟨[.o6, .o4, .o1], p3_102, fun F v => fV3 v (p3_102 F), fun _ _ _ _ _ => ⟨_, rfl, rfl⟩, fun _ v _ _ _ => fV3_eq v _ _ _ _⟩
def r3_102 : RO tf3 := ⟨.t [.o6, .o4, .o1], fun F => F.g.e.b, fun _ => rfl⟩
noncomputable def p3_103 (F : X3) : V3 := N8.rec (motive := fun _ => V3) (fun a0 b0 c0 d0 e0 f0 g0 h0 => N8.rec (motive := fun _ => V3) (fun a1 b1 c1 d1 e1 f1 g1 h1 => N8.rec (motive := fun _ => V3) (fun a2 _ c2 d2 e2 f2 g2 h2 v k Ds H => k ⟨a0, b0, c0, d0, e0, f0, g0, ⟨a1, b1, c1, d1, ⟨a2, v, c2, d2, e2, f2, g2, h2⟩, f1, g1, h1⟩⟩ Ds H) e1) h0) F
noncomputable def s3_103 : Slot tf3 := ⟨[.o7, .o4, .o1], p3_103, fun F v => fV3 v (p3_103 F), fun _ _ _ _ _ => ⟨_, rfl, rfl⟩, fun _ v _ _ _ => fV3_eq v _ _ _ _⟩
def r3_103 : RO tf3 := ⟨.t [.o7, .o4, .o1], fun F => F.h.e.b, fun _ => rfl⟩
noncomputable def p3_104 (F : X3) : V3 := N8.rec (motive := fun _ => V3) (fun a0 b0 c0 d0 e0 f0 g0 h0 => N8.rec (motive := fun _ => V3) (fun a1 b1 c1 d1 e1 f1 g1 h1 => N8.rec (motive := fun _ => V3) (fun a2 _ c2 d2 e2 f2 g2 h2 v k Ds H => k ⟨⟨a1, b1, c1, d1, e1, ⟨a2, v, c2, d2, e2, f2, g2, h2⟩, g1, h1⟩, b0, c0, d0, e0, f0, g0, h0⟩ Ds H) f1) a0) F
noncomputable def s3_104 : Slot tf3 := ⟨[.o0, .o5, .o1], p3_104, fun F v => fV3 v (p3_104 F), fun _ _ _ _ _ => ⟨_, rfl, rfl⟩, fun _ v _ _ _ => fV3_eq v _ _ _ _⟩
def r3_104 : RO tf3 := ⟨.t [.o0, .o5, .o1], fun F => F.a.f.b, fun _ => rfl⟩
noncomputable def p3_105 (F : X3) : V3 := N8.rec (motive := fun _ => V3) (fun a0 b0 c0 d0 e0 f0 g0 h0 => N8.rec (motive := fun _ => V3) (fun a1 b1 c1 d1 e1 f1 g1 h1 => N8.rec (motive := fun _ => V3) (fun a2 _ c2 d2 e2 f2 g2 h2 v k Ds H => k ⟨a0, ⟨a1, b1, c1, d1, e1, ⟨a2, v, c2, d2, e2, f2, g2, h2⟩, g1, h1⟩, c0, d0, e0, f0, g0, h0⟩ Ds H) f1) b0) F
noncomputable def s3_105 : Slot tf3 := ⟨[.o1, .o5, .o1], p3_105, fun F v => fV3 v (p3_105 F), fun _ _ _ _ _ => ⟨_, rfl, rfl⟩, fun _ v _ _ _ => fV3_eq v _ _ _ _⟩
def r3_105 : RO tf3 := ⟨.t [.o1, .o5, .o1], fun F => F.b.f.b, fun _ => rfl⟩
noncomputable def p3_106 (F : X3) : V3 := N8.rec (motive := fun _ => V3) (fun a0 b0 c0 d0 e0 f0 g0 h0 => N8.rec (motive := fun _ => V3) (fun a1 b1 c1 d1 e1 f1 g1 h1 => N8.rec (motive := fun _ => V3) (fun a2 _ c2 d2 e2 f2 g2 h2 v k Ds H => k ⟨a0, b0, ⟨a1, b1, c1, d1, e1, ⟨a2, v, c2, d2, e2, f2, g2, h2⟩, g1, h1⟩, d0, e0, f0, g0, h0⟩ Ds H) f1) c0) F
noncomputable def s3_106 : Slot tf3 := ⟨[.o2, .o5, .o1], p3_106, fun F v => fV3 v (p3_106 F), fun _ _ _ _ _ => ⟨_, rfl, rfl⟩, fun _ v _ _ _ => fV3_eq v _ _ _ _⟩
def r3_106 : RO tf3 := ⟨.t [.o2, .o5, .o1], fun F => F.c.f.b, fun _ => rfl⟩
noncomputable def p3_107 (F : X3) : V3 := N8.rec (motive := fun _ => V3) (fun a0 b0 c0 d0 e0 f0 g0 h0 => N8.rec (motive := fun _ => V3) (fun a1 b1 c1 d1 e1 f1 g1 h1 => N8.rec (motive := fun _ => V3) (fun a2 _ c2 d2 e2 f2 g2 h2 v k Ds H => k ⟨a0, b0, c0, ⟨a1, b1, c1, d1, e1, ⟨a2, v, c2, d2, e2, f2, g2, h2⟩, g1, h1⟩, e0, f0, g0, h0⟩ Ds H) f1) d0) F
noncomputable def s3_107 : Slot tf3 := ⟨[.o3, .o5, .o1], p3_107, fun F v => fV3 v (p3_107 F), fun _ _ _ _ _ => ⟨_, rfl, rfl⟩, fun _ v _ _ _ => fV3_eq v _ _ _ _⟩
def r3_107 : RO tf3 := ⟨.t [.o3, .o5, .o1], fun F => F.d.f.b, fun _ => rfl⟩
noncomputable def p3_108 (F : X3) : V3 := N8.rec (motive := fun _ => V3) (fun a0 b0 c0 d0 e0 f0 g0 h0 => N8.rec (motive := fun _ => V3) (fun a1 b1 c1 d1 e1 f1 g1 h1 => N8.rec (motive := fun _ => V3) (fun a2 _ c2 d2 e2 f2 g2 h2 v k Ds H => k ⟨a0, b0, c0, d0, ⟨a1, b1, c1, d1, e1, ⟨a2, v, c2, d2, e2, f2, g2, h2⟩, g1, h1⟩, f0, g0, h0⟩ Ds H) f1) e0) F
noncomputable def s3_108 : Slot tf3 := ⟨[.o4, .o5, .o1], p3_108, fun F v => fV3 v (p3_108 F), fun _ _ _ _ _ => ⟨_, rfl, rfl⟩, fun _ v _ _ _ => fV3_eq v _ _ _ _⟩
def r3_108 : RO tf3 := ⟨.t [.o4, .o5, .o1], fun F => F.e.f.b, fun _ => rfl⟩
noncomputable def p3_109 (F : X3) : V3 := N8.rec (motive := fun _ => V3) (fun a0 b0 c0 d0 e0 f0 g0 h0 => N8.rec (motive := fun _ => V3) (fun a1 b1 c1 d1 e1 f1 g1 h1 => N8.rec (motive := fun _ => V3) (fun a2 _ c2 d2 e2 f2 g2 h2 v k Ds H => k ⟨a0, b0, c0, d0, e0, ⟨a1, b1, c1, d1, e1, ⟨a2, v, c2, d2, e2, f2, g2, h2⟩, g1, h1⟩, g0, h0⟩ Ds H) f1) f0) F
noncomputable def s3_109 : Slot tf3 := ⟨[.o5, .o5, .o1], p3_109, fun F v => fV3 v (p3_109 F), fun _ _ _ _ _ => ⟨_, rfl, rfl⟩, fun _ v _ _ _ => fV3_eq v _ _ _ _⟩
def r3_109 : RO tf3 := ⟨.t [.o5, .o5, .o1], fun F => F.f.f.b, fun _ => rfl⟩
noncomputable def p3_110 (F : X3) : V3 := N8.rec (motive := fun _ => V3) (fun a0 b0 c0 d0 e0 f0 g0 h0 => N8.rec (motive := fun _ => V3) (fun a1 b1 c1 d1 e1 f1 g1 h1 => N8.rec (motive := fun _ => V3) (fun a2 _ c2 d2 e2 f2 g2 h2 v k Ds H => k ⟨a0, b0, c0, d0, e0, f0, ⟨a1, b1, c1, d1, e1, ⟨a2, v, c2, d2, e2, f2, g2, h2⟩, g1, h1⟩, h0⟩ Ds H) f1) g0) F
noncomputable def s3_110 : Slot tf3 := ⟨[.o6, .o5, .o1], p3_110, fun F v => fV3 v (p3_110 F), fun _ _ _ _ _ => ⟨_, rfl, rfl⟩, fun _ v _ _ _ => fV3_eq v _ _ _ _⟩
def r3_110 : RO tf3 := ⟨.t [.o6, .o5, .o1], fun F => F.g.f.b, fun _ => rfl⟩
noncomputable def p3_111 (F : X3) : V3 := N8.rec (motive := fun _ => V3) (fun a0 b0 c0 d0 e0 f0 g0 h0 => N8.rec (motive := fun _ => V3) (fun a1 b1 c1 d1 e1 f1 g1 h1 => N8.rec (motive := fun _ => V3) (fun a2 _ c2 d2 e2 f2 g2 h2 v k Ds H => k ⟨a0, b0, c0, d0, e0, f0, g0, ⟨a1, b1, c1, d1, e1, ⟨a2, v, c2, d2, e2, f2, g2, h2⟩, g1, h1⟩⟩ Ds H) f1) h0) F
noncomputable def s3_111 : Slot tf3 := ⟨[.o7, .o5, .o1], p3_111, fun F v => fV3 v (p3_111 F), fun _ _ _ _ _ => ⟨_, rfl, rfl⟩, fun _ v _ _ _ => fV3_eq v _ _ _ _⟩
def r3_111 : RO tf3 := ⟨.t [.o7, .o5, .o1], fun F => F.h.f.b, fun _ => rfl⟩
noncomputable def p3_112 (F : X3) : V3 := N8.rec (motive := fun _ => V3) (fun a0 b0 c0 d0 e0 f0 g0 h0 => N8.rec (motive := fun _ => V3) (fun a1 b1 c1 d1 e1 f1 g1 h1 => N8.rec (motive := fun _ => V3) (fun a2 _ c2 d2 e2 f2 g2 h2 v k Ds H => k ⟨⟨a1, b1, c1, d1, e1, f1, ⟨a2, v, c2, d2, e2, f2, g2, h2⟩, h1⟩, b0, c0, d0, e0, f0, g0, h0⟩ Ds H) g1) a0) F
noncomputable def s3_112 : Slot tf3 := ⟨[.o0, .o6, .o1], p3_112, fun F v => fV3 v (p3_112 F), fun _ _ _ _ _ => ⟨_, rfl, rfl⟩, fun _ v _ _ _ => fV3_eq v _ _ _ _⟩
def r3_112 : RO tf3 := ⟨.t [.o0, .o6, .o1], fun F => F.a.g.b, fun _ => rfl⟩
noncomputable def p3_113 (F : X3) : V3 := N8.rec (motive := fun _ => V3) (fun a0 b0 c0 d0 e0 f0 g0 h0 => N8.rec (motive := fun _ => V3) (fun a1 b1 c1 d1 e1 f1 g1 h1 => N8.rec (motive := fun _ => V3) (fun a2 _ c2 d2 e2 f2 g2 h2 v k Ds H => k ⟨a0, ⟨a1, b1, c1, d1, e1, f1, ⟨a2, v, c2, d2, e2, f2, g2, h2⟩, h1⟩, c0, d0, e0, f0, g0, h0⟩ Ds H) g1) b0) F
noncomputable def s3_113 : Slot tf3 := ⟨[.o1, .o6, .o1], p3_113, fun F v => fV3 v (p3_113 F), fun _ _ _ _ _ => ⟨_, rfl, rfl⟩, fun _ v _ _ _ => fV3_eq v _ _ _ _⟩
def r3_113 : RO tf3 := ⟨.t [.o1, .o6, .o1], fun F => F.b.g.b, fun _ => rfl⟩
noncomputable def p3_114 (F : X3) : V3 := N8.rec (motive := fun _ => V3) (fun a0 b0 c0 d0 e0 f0 g0 h0 => N8.rec (motive := fun _ => V3) (fun a1 b1 c1 d1 e1 f1 g1 h1 => N8.rec (motive := fun _ => V3) (fun a2 _ c2 d2 e2 f2 g2 h2 v k Ds H => k ⟨a0, b0, ⟨a1, b1, c1, d1, e1, f1, ⟨a2, v, c2, d2, e2, f2, g2, h2⟩, h1⟩, d0, e0, f0, g0, h0⟩ Ds H) g1) c0) F
noncomputable def s3_114 : Slot tf3 := ⟨[.o2, .o6, .o1], p3_114, fun F v => fV3 v (p3_114 F), fun _ _ _ _ _ => ⟨_, rfl, rfl⟩, fun _ v _ _ _ => fV3_eq v _ _ _ _⟩
def r3_114 : RO tf3 := ⟨.t [.o2, .o6, .o1], fun F => F.c.g.b, fun _ => rfl⟩
noncomputable def p3_115 (F : X3) : V3 := N8.rec (motive := fun _ => V3) (fun a0 b0 c0 d0 e0 f0 g0 h0 => N8.rec (motive := fun _ => V3) (fun a1 b1 c1 d1 e1 f1 g1 h1 => N8.rec (motive := fun _ => V3) (fun a2 _ c2 d2 e2 f2 g2 h2 v k Ds H => k ⟨a0, b0, c0, ⟨a1, b1, c1, d1, e1, f1, ⟨a2, v, c2, d2, e2, f2, g2, h2⟩, h1⟩, e0, f0, g0, h0⟩ Ds H) g1) d0) F
noncomputable def s3_115 : Slot tf3 := ⟨[.o3, .o6, .o1], p3_115, fun F v => fV3 v (p3_115 F), fun _ _ _ _ _ => ⟨_, rfl, rfl⟩, fun _ v _ _ _ => fV3_eq v _ _ _ _⟩
def r3_115 : RO tf3 := ⟨.t [.o3, .o6, .o1], fun F => F.d.g.b, fun _ => rfl⟩
noncomputable def p3_116 (F : X3) : V3 := N8.rec (motive := fun _ => V3) (fun a0 b0 c0 d0 e0 f0 g0 h0 => N8.rec (motive := fun _ => V3) (fun a1 b1 c1 d1 e1 f1 g1 h1 => N8.rec (motive := fun _ => V3) (fun a2 _ c2 d2 e2 f2 g2 h2 v k Ds H => k ⟨a0, b0, c0, d0, ⟨a1, b1, c1, d1, e1, f1, ⟨a2, v, c2, d2, e2, f2, g2, h2⟩, h1⟩, f0, g0, h0⟩ Ds H) g1) e0) F
noncomputable def s3_116 : Slot tf3 := ⟨[.o4, .o6, .o1], p3_116, fun F v => fV3 v (p3_116 F), fun _ _ _ _ _ => ⟨_, rfl, rfl⟩, fun _ v _ _ _ => fV3_eq v _ _ _ _⟩
def r3_116 : RO tf3 := ⟨.t [.o4, .o6, .o1], fun F => F.e.g.b, fun _ => rfl⟩
noncomputable def p3_117 (F : X3) : V3 := N8.rec (motive := fun _ => V3) (fun a0 b0 c0 d0 e0 f0 g0 h0 => N8.rec (motive := fun _ => V3) (fun a1 b1 c1 d1 e1 f1 g1 h1 => N8.rec (motive := fun _ => V3) (fun a2 _ c2 d2 e2 f2 g2 h2 v k Ds H => k ⟨a0, b0, c0, d0, e0, ⟨a1, b1, c1, d1, e1, f1, ⟨a2, v, c2, d2, e2, f2, g2, h2⟩, h1⟩, g0, h0⟩ Ds H) g1) f0) F
noncomputable def s3_117 : Slot tf3 := ⟨[.o5, .o6, .o1], p3_117, fun F v => fV3 v (p3_117 F), fun _ _ _ _ _ => ⟨_, rfl, rfl⟩, fun _ v _ _ _ => fV3_eq v _ _ _ _⟩
def r3_117 : RO tf3 := ⟨.t [.o5, .o6, .o1], fun F => F.f.g.b, fun _ => rfl⟩
noncomputable def p3_118 (F : X3) : V3 := N8.rec (motive := fun _ => V3) (fun a0 b0 c0 d0 e0 f0 g0 h0 => N8.rec (motive := fun _ => V3) (fun a1 b1 c1 d1 e1 f1 g1 h1 => N8.rec (motive := fun _ => V3) (fun a2 _ c2 d2 e2 f2 g2 h2 v k Ds H => k ⟨a0, b0, c0, d0, e0, f0, ⟨a1, b1, c1, d1, e1, f1, ⟨a2, v, c2, d2, e2, f2, g2, h2⟩, h1⟩, h0⟩ Ds H) g1) g0) F
noncomputable def s3_118 : Slot tf3 := ⟨[.o6, .o6, .o1], p3_118, fun F v => fV3 v (p3_118 F), fun _ _ _ _ _ => ⟨_, rfl, rfl⟩, fun _ v _ _ _ => fV3_eq v _ _ _ _⟩
def r3_118 : RO tf3 := ⟨.t [.o6, .o6, .o1], fun F => F.g.g.b, fun _ => rfl⟩
noncomputable def p3_119 (F : X3) : V3 := N8.rec (motive := fun _ => V3) (fun a0 b0 c0 d0 e0 f0 g0 h0 => N8.rec (motive := fun _ => V3) (fun a1 b1 c1 d1 e1 f1 g1 h1 => N8.rec (motive := fun _ => V3) (fun a2 _ c2 d2 e2 f2 g2 h2 v k Ds H => k ⟨a0, b0, c0, d0, e0, f0, g0, ⟨a1, b1, c1, d1, e1, f1, ⟨a2, v, c2, d2, e2, f2, g2, h2⟩, h1⟩⟩ Ds H) g1) h0) F
noncomputable def s3_119 : Slot tf3 := ⟨[.o7, .o6, .o1], p3_119, fun F v => fV3 v (p3_119 F), fun _ _ _ _ _ => ⟨_, rfl, rfl⟩, fun _ v _ _ _ => fV3_eq v _ _ _ _⟩
def r3_119 : RO tf3 := ⟨.t [.o7, .o6, .o1], fun F => F.h.g.b, fun _ => rfl⟩
noncomputable def p3_120 (F : X3) : V3 := N8.rec (motive := fun _ => V3) (fun a0 b0 c0 d0 e0 f0 g0 h0 => N8.rec (motive := fun _ => V3) (fun a1 b1 c1 d1 e1 f1 g1 h1 => N8.rec (motive := fun _ => V3) (fun a2 _ c2 d2 e2 f2 g2 h2 v k Ds H => k ⟨⟨a1, b1, c1, d1, e1, f1, g1, ⟨a2, v, c2, d2, e2, f2, g2, h2⟩⟩, b0, c0, d0, e0, f0, g0, h0⟩ Ds H) h1) a0) F
noncomputable def s3_120 : Slot tf3 := ⟨[.o0, .o7, .o1], p3_120, fun F v => fV3 v (p3_120 F), fun _ _ _ _ _ => ⟨_, rfl, rfl⟩, fun _ v _ _ _ => fV3_eq v _ _ _ _⟩
def r3_120 : RO tf3 := ⟨.t [.o0, .o7, .o1], fun F => F.a.h.b, fun _ => rfl⟩
noncomputable def p3_121 (F : X3) : V3 := N8.rec (motive := fun _ => V3) (fun a0 b0 c0 d0 e0 f0 g0 h0 => N8.rec (motive := fun _ => V3) (fun a1 b1 c1 d1 e1 f1 g1 h1 => N8.rec (motive := fun _ => V3) (fun a2 _ c2 d2 e2 f2 g2 h2 v k Ds H => k ⟨a0, ⟨a1, b1, c1, d1, e1, f1, g1, ⟨a2, v, c2, d2, e2, f2, g2, h2⟩⟩, c0, d0, e0, f0, g0, h0⟩ Ds H) h1) b0) F
noncomputable def s3_121 : Slot tf3 := ⟨[.o1, .o7, .o1], p3_121, fun F v => fV3 v (p3_121 F), fun _ _ _ _ _ => ⟨_, rfl, rfl⟩, fun _ v _ _ _ => fV3_eq v _ _ _ _⟩
def r3_121 : RO tf3 := ⟨.t [.o1, .o7, .o1], fun F => F.b.h.b, fun _ => rfl⟩
noncomputable def p3_122 (F : X3) : V3 := N8.rec (motive := fun _ => V3) (fun a0 b0 c0 d0 e0 f0 g0 h0 => N8.rec (motive := fun _ => V3) (fun a1 b1 c1 d1 e1 f1 g1 h1 => N8.rec (motive := fun _ => V3) (fun a2 _ c2 d2 e2 f2 g2 h2 v k Ds H => k ⟨a0, b0, ⟨a1, b1, c1, d1, e1, f1, g1, ⟨a2, v, c2, d2, e2, f2, g2, h2⟩⟩, d0, e0, f0, g0, h0⟩ Ds H) h1) c0) F
noncomputable def s3_122 : Slot tf3 := ⟨[.o2, .o7, .o1], p3_122, fun F v => fV3 v (p3_122 F), fun _ _ _ _ _ => ⟨_, rfl, rfl⟩, fun _ v _ _ _ => fV3_eq v _ _ _ _⟩
def r3_122 : RO tf3 := ⟨.t [.o2, .o7, .o1], fun F => F.c.h.b, fun _ => rfl⟩
noncomputable def p3_123 (F : X3) : V3 := N8.rec (motive := fun _ => V3) (fun a0 b0 c0 d0 e0 f0 g0 h0 => N8.rec (motive := fun _ => V3) (fun a1 b1 c1 d1 e1 f1 g1 h1 => N8.rec (motive := fun _ => V3) (fun a2 _ c2 d2 e2 f2 g2 h2 v k Ds H => k ⟨a0, b0, c0, ⟨a1, b1, c1, d1, e1, f1, g1, ⟨a2, v, c2, d2, e2, f2, g2, h2⟩⟩, e0, f0, g0, h0⟩ Ds H) h1) d0) F
noncomputable def s3_123 : Slot tf3 := ⟨[.o3, .o7, .o1], p3_123, fun F v => fV3 v (p3_123 F), fun _ _ _ _ _ => ⟨_, rfl, rfl⟩, fun _ v _ _ _ => fV3_eq v _ _ _ _⟩
def r3_123 : RO tf3 := ⟨.t [.o3, .o7, .o1], fun F => F.d.h.b, fun _ => rfl⟩
noncomputable def p3_124 (F : X3) : V3 := N8.rec (motive := fun _ => V3) (fun a0 b0 c0 d0 e0 f0 g0 h0 => N8.rec (motive := fun _ => V3) (fun a1 b1 c1 d1 e1 f1 g1 h1 => N8.rec (motive := fun _ => V3) (fun a2 _ c2 d2 e2 f2 g2 h2 v k Ds H => k ⟨a0, b0, c0, d0, ⟨a1, b1, c1, d1, e1, f1, g1, ⟨a2, v, c2, d2, e2, f2, g2, h2⟩⟩, f0, g0, h0⟩ Ds H) h1) e0) F
noncomputable def s3_124 : Slot tf3 := ⟨[.o4, .o7, .o1], p3_124, fun F v => fV3 v (p3_124 F), fun _ _ _ _ _ => ⟨_, rfl, rfl⟩, fun _ v _ _ _ => fV3_eq v _ _ _ _⟩
def r3_124 : RO tf3 := ⟨.t [.o4, .o7, .o1], fun F => F.e.h.b, fun _ => rfl⟩
noncomputable def p3_125 (F : X3) : V3 := N8.rec (motive := fun _ => V3) (fun a0 b0 c0 d0 e0 f0 g0 h0 => N8.rec (motive := fun _ => V3) (fun a1 b1 c1 d1 e1 f1 g1 h1 => N8.rec (motive := fun _ => V3) (fun a2 _ c2 d2 e2 f2 g2 h2 v k Ds H => k ⟨a0, b0, c0, d0, e0, ⟨a1, b1, c1, d1, e1, f1, g1, ⟨a2, v, c2, d2, e2, f2, g2, h2⟩⟩, g0, h0⟩ Ds H) h1) f0) F
noncomputable def s3_125 : Slot tf3 := ⟨[.o5, .o7, .o1], p3_125, fun F v => fV3 v (p3_125 F), fun _ _ _ _ _ => ⟨_, rfl, rfl⟩, fun _ v _ _ _ => fV3_eq v _ _ _ _⟩
def r3_125 : RO tf3 := ⟨.t [.o5, .o7, .o1], fun F => F.f.h.b, fun _ => rfl⟩
noncomputable def p3_126 (F : X3) : V3 := N8.rec (motive := fun _ => V3) (fun a0 b0 c0 d0 e0 f0 g0 h0 => N8.rec (motive := fun _ => V3) (fun a1 b1 c1 d1 e1 f1 g1 h1 => N8.rec (motive := fun _ => V3) (fun a2 _ c2 d2 e2 f2 g2 h2 v k Ds H => k ⟨a0, b0, c0, d0, e0, f0, ⟨a1, b1, c1, d1, e1, f1, g1, ⟨a2, v, c2, d2, e2, f2, g2, h2⟩⟩, h0⟩ Ds H) h1) g0) F
noncomputable def s3_126 : Slot tf3 := ⟨[.o6, .o7, .o1], p3_126, fun F v => fV3 v (p3_126 F), fun _ _ _ _ _ => ⟨_, rfl, rfl⟩, fun _ v _ _ _ => fV3_eq v _ _ _ _⟩
def r3_126 : RO tf3 := ⟨.t [.o6, .o7, .o1], fun F => F.g.h.b, fun _ => rfl⟩
noncomputable def p3_127 (F : X3) : V3 := N8.rec (motive := fun _ => V3) (fun a0 b0 c0 d0 e0 f0 g0 h0 => N8.rec (motive := fun _ => V3) (fun a1 b1 c1 d1 e1 f1 g1 h1 => N8.rec (motive := fun _ => V3) (fun a2 _ c2 d2 e2 f2 g2 h2 v k Ds H => k ⟨a0, b0, c0, d0, e0, f0, g0, ⟨a1, b1, c1, d1, e1, f1, g1, ⟨a2, v, c2, d2, e2, f2, g2, h2⟩⟩⟩ Ds H) h1) h0) F
noncomputable def s3_127 : Slot tf3 := ⟨[.o7, .o7, .o1], p3_127, fun F v => fV3 v (p3_127 F), fun _ _ _ _ _ => ⟨_, rfl, rfl⟩, fun _ v _ _ _ => fV3_eq v _ _ _ _⟩
def r3_127 : RO tf3 := ⟨.t [.o7, .o7, .o1], fun F => F.h.h.b, fun _ => rfl⟩
noncomputable def p3_128 (F : X3) : V3 := N8.rec (motive := fun _ => V3) (fun a0 b0 c0 d0 e0 f0 g0 h0 => N8.rec (motive := fun _ => V3) (fun a1 b1 c1 d1 e1 f1 g1 h1 => N8.rec (motive := fun _ => V3) (fun a2 b2 _ d2 e2 f2 g2 h2 v k Ds H => k ⟨⟨⟨a2, b2, v, d2, e2, f2, g2, h2⟩, b1, c1, d1, e1, f1, g1, h1⟩, b0, c0, d0, e0, f0, g0, h0⟩ Ds H) a1) a0) F
noncomputable def s3_128 : Slot tf3 := ⟨[.o0, .o0, .o2], p3_128, fun F v => fV3 v (p3_128 F), fun _ _ _ _ _ => ⟨_, rfl, rfl⟩, fun _ v _ _ _ => fV3_eq v _ _ _ _⟩
def r3_128 : RO tf3 := ⟨.t [.o0, .o0, .o2], fun F => F.a.a.c, fun _ => rfl⟩
noncomputable def p3_129 (F : X3) : V3 := N8.rec (motive := fun _ => V3) (fun a0 b0 c0 d0 e0 f0 g0 h0 => N8.rec (motive := fun _ => V3) (fun a1 b1 c1 d1 e1 f1 g1 h1 => N8.rec (motive := fun _ => V3) (fun a2 b2 _ d2 e2 f2 g2 h2 v k Ds H => k ⟨a0, ⟨⟨a2, b2, v, d2, e2, f2, g2, h2⟩, b1, c1, d1, e1, f1, g1, h1⟩, c0, d0, e0, f0, g0, h0⟩ Ds H) a1) b0) F
noncomputable def s3_129 : Slot tf3 := ⟨[.o1, .o0, .o2], p3_129, fun F v => fV3 v (p3_129 F), fun _ _ _ _ _ => ⟨_, rfl, rfl⟩, fun _ v _ _ _ => fV3_eq v _ _ _ _⟩
def r3_129 : RO tf3 := ⟨.t [.o1, .o0, .o2], fun F => F.b.a.c, fun _ => rfl⟩
noncomputable def p3_130 (F : X3) : V3 := N8.rec (motive := fun _ => V3) (fun a0 b0 c0 d0 e0 f0 g0 h0 => N8.rec (motive := fun _ => V3) (fun a1 b1 c1 d1 e1 f1 g1 h1 => N8.rec (motive := fun _ => V3) (fun a2 b2 _ d2 e2 f2 g2 h2 v k Ds H => k ⟨a0, b0, ⟨⟨a2, b2, v, d2, e2, f2, g2, h2⟩, b1, c1, d1, e1, f1, g1, h1⟩, d0, e0, f0, g0, h0⟩ Ds H) a1) c0) F
noncomputable def s3_130 : Slot tf3 := ⟨[.o2, .o0, .o2], p3_130, fun F v => fV3 v (p3_130 F), fun _ _ _ _ _ => ⟨_, rfl, rfl⟩, fun _ v _ _ _ => fV3_eq v _ _ _ _⟩
def r3_130 : RO tf3 := ⟨.t [.o2, .o0, .o2], fun F => F.c.a.c, fun _ => rfl⟩
noncomputable def p3_131 (F : X3) : V3 := N8.rec (motive := fun _ => V3) (fun a0 b0 c0 d0 e0 f0 g0 h0 => N8.rec (motive := fun _ => V3) (fun a1 b1 c1 d1 e1 f1 g1 h1 => N8.rec (motive := fun _ => V3) (fun a2 b2 _ d2 e2 f2 g2 h2 v k Ds H => k ⟨a0, b0, c0, ⟨⟨a2, b2, v, d2, e2, f2, g2, h2⟩, b1, c1, d1, e1, f1, g1, h1⟩, e0, f0, g0, h0⟩ Ds H) a1) d0) F
noncomputable def s3_131 : Slot tf3 := ⟨[.o3, .o0, .o2], p3_131, fun F v => fV3 v (p3_131 F), fun _ _ _ _ _ => ⟨_, rfl, rfl⟩, fun _ v _ _ _ => fV3_eq v _ _ _ _⟩
def r3_131 : RO tf3 := ⟨.t [.o3, .o0, .o2], fun F => F.d.a.c, fun _ => rfl⟩
noncomputable def p3_132 (F : X3) : V3 := N8.rec (motive := fun _ => V3) (fun a0 b0 c0 d0 e0 f0 g0 h0 => N8.rec (motive := fun _ => V3) (fun a1 b1 c1 d1 e1 f1 g1 h1 => N8.rec (motive := fun _ => V3) (fun a2 b2 _ d2 e2 f2 g2 h2 v k Ds H => k ⟨a0, b0, c0, d0, ⟨⟨a2, b2, v, d2, e2, f2, g2, h2⟩, b1, c1, d1, e1, f1, g1, h1⟩, f0, g0, h0⟩ Ds H) a1) e0) F
noncomputable def s3_132 : Slot tf3 := ⟨[.o4, .o0, .o2], p3_132, fun F v => fV3 v (p3_132 F), fun _ _ _ _ _ => ⟨_, rfl, rfl⟩, fun _ v _ _ _ => fV3_eq v _ _ _ _⟩
def r3_132 : RO tf3 := ⟨.t [.o4, .o0, .o2], fun F => F.e.a.c, fun _ => rfl⟩
noncomputable def p3_133 (F : X3) : V3 := N8.rec (motive := fun _ => V3) (fun a0 b0 c0 d0 e0 f0 g0 h0 => N8.rec (motive := fun _ => V3) (fun a1 b1 c1 d1 e1 f1 g1 h1 => N8.rec (motive := fun _ => V3) (fun a2 b2 _ d2 e2 f2 g2 h2 v k Ds H => k ⟨a0, b0, c0, d0, e0, ⟨⟨a2, b2, v, d2, e2, f2, g2, h2⟩, b1, c1, d1, e1, f1, g1, h1⟩, g0, h0⟩ Ds H) a1) f0) F
noncomputable def s3_133 : Slot tf3 := ⟨[.o5, .o0, .o2], p3_133, fun F v => fV3 v (p3_133 F), fun _ _ _ _ _ => ⟨_, rfl, rfl⟩, fun _ v _ _ _ => fV3_eq v _ _ _ _⟩
def r3_133 : RO tf3 := ⟨.t [.o5, .o0, .o2], fun F => F.f.a.c, fun _ => rfl⟩
noncomputable def p3_134 (F : X3) : V3 := N8.rec (motive := fun _ => V3) (fun a0 b0 c0 d0 e0 f0 g0 h0 => N8.rec (motive := fun _ => V3) (fun a1 b1 c1 d1 e1 f1 g1 h1 => N8.rec (motive := fun _ => V3) (fun a2 b2 _ d2 e2 f2 g2 h2 v k Ds H => k ⟨a0, b0, c0, d0, e0, f0, ⟨⟨a2, b2, v, d2, e2, f2, g2, h2⟩, b1, c1, d1, e1, f1, g1, h1⟩, h0⟩ Ds H) a1) g0) F
noncomputable def s3_134 : Slot tf3 := ⟨[.o6, .o0, .o2], p3_134, fun F v => fV3 v (p3_134 F), fun _ _ _ _ _ => ⟨_, rfl, rfl⟩, fun _ v _ _ _ => fV3_eq v _ _ _ _⟩
def r3_134 : RO tf3 := ⟨.t [.o6, .o0, .o2], fun F => F.g.a.c, fun _ => rfl⟩
noncomputable def p3_135 (F : X3) : V3 := N8.rec (motive := fun _ => V3) (fun a0 b0 c0 d0 e0 f0 g0 h0 => N8.rec (motive := fun _ => V3) (fun a1 b1 c1 d1 e1 f1 g1 h1 => N8.rec (motive := fun _ => V3) (fun a2 b2 _ d2 e2 f2 g2 h2 v k Ds H => k ⟨a0, b0, c0, d0, e0, f0, g0, ⟨⟨a2, b2, v, d2, e2, f2, g2, h2⟩, b1, c1, d1, e1, f1, g1, h1⟩⟩ Ds H) a1) h0) F
noncomputable def s3_135 : Slot tf3 := ⟨[.o7, .o0, .o2], p3_135, fun F v => fV3 v (p3_135 F), fun _ _ _ _ _ => ⟨_, rfl, rfl⟩, fun _ v _ _ _ => fV3_eq v _ _ _ _⟩
def r3_135 : RO tf3 := ⟨.t [.o7, .o0, .o2], fun F => F.h.a.c, fun _ => rfl⟩
noncomputable def p3_136 (F : X3) : V3 := N8.rec (motive := fun _ => V3) (fun a0 b0 c0 d0 e0 f0 g0 h0 => N8.rec (motive := fun _ => V3) (fun a1 b1 c1 d1 e1 f1 g1 h1 => N8.rec (motive := fun _ => V3) (fun a2 b2 _ d2 e2 f2 g2 h2 v k Ds H => k ⟨⟨a1, ⟨a2, b2, v, d2, e2, f2, g2, h2⟩, c1, d1, e1, f1, g1, h1⟩, b0, c0, d0, e0, f0, g0, h0⟩ Ds H) b1) a0) F
noncomputable def s3_136 : Slot tf3 := ⟨[.o0, .o1, .o2], p3_136, fun F v => fV3 v (p3_136 F), fun _ _ _ _ _ => ⟨_, rfl, rfl⟩, fun _ v _ _ _ => fV3_eq v _ _ _ _⟩
def r3_136 : RO tf3 := ⟨.t [.o0, .o1, .o2], fun F => F.a.b.c, fun _ => rfl⟩
noncomputable def p3_137 (F : X3) : V3 := N8.rec (motive := fun _ => V3) (fun a0 b0 c0 d0 e0 f0 g0 h0 => N8.rec (motive := fun _ => V3) (fun a1 b1 c1 d1 e1 f1 g1 h1 => N8.rec (motive := fun _ => V3) (fun a2 b2 _ d2 e2 f2 g2 h2 v k Ds H => k ⟨a0, ⟨a1, ⟨a2, b2, v, d2, e2, f2, g2, h2⟩, c1, d1, e1, f1, g1, h1⟩, c0, d0, e0, f0, g0, h0⟩ Ds H) b1) b0) F
noncomputable def s3_137 : Slot tf3 := ⟨[.o1, .o1, .o2], p3_137, fun F v => fV3 v (p3_137 F), fun _ _ _ _ _ => ⟨_, rfl, rfl⟩, fun _ v _ _ _ => fV3_eq v _ _ _ _⟩
def r3_137 : RO tf3 := ⟨.t [.o1, .o1, .o2], fun F => F.b.b.c, fun _ => rfl⟩
noncomputable def p3_138 (F : X3) : V3 := N8.rec (motive := fun _ => V3) (fun a0 b0 c0 d0 e0 f0 g0 h0 => N8.rec (motive := fun _ => V3) (fun a1 b1 c1 d1 e1 f1 g1 h1 => N8.rec (motive := fun _ => V3) (fun a2 b2 _ d2 e2 f2 g2 h2 v k Ds H => k ⟨a0, b0, ⟨a1, ⟨a2, b2, v, d2, e2, f2, g2, h2⟩, c1, d1, e1, f1, g1, h1⟩, d0, e0, f0, g0, h0⟩ Ds H) b1) c0) F
noncomputable def s3_138 : Slot tf3 := ⟨[.o2, .o1, .o2], p3_138, fun F v => fV3 v (p3_138 F), fun _ _ _ _ _ => ⟨_, rfl, rfl⟩, fun _ v _ _ _ => fV3_eq v _ _ _ _⟩
def r3_138 : RO tf3 := ⟨.t [.o2, .o1, .o2], fun F => F.c.b.c, fun _ => rfl⟩
noncomputable def p3_139 (F : X3) : V3 := N8.rec (motive := fun _ => V3) (fun a0 b0 c0 d0 e0 f0 g0 h0 => N8.rec (motive := fun _ => V3) (fun a1 b1 c1 d1 e1 f1 g1 h1 => N8.rec (motive := fun _ => V3) (fun a2 b2 _ d2 e2 f2 g2 h2 v k Ds H => k ⟨a0, b0, c0, ⟨a1, ⟨a2, b2, v, d2, e2, f2, g2, h2⟩, c1, d1, e1, f1, g1, h1⟩, e0, f0, g0, h0⟩ Ds H) b1) d0) F
noncomputable def s3_139 : Slot tf3 := ⟨[.o3, .o1, .o2], p3_139, fun F v => fV3 v (p3_139 F), fun _ _ _ _ _ => ⟨_, rfl, rfl⟩, fun _ v _ _ _ => fV3_eq v _ _ _ _⟩
def r3_139 : RO tf3 := ⟨.t [.o3, .o1, .o2], fun F => F.d.b.c, fun _ => rfl⟩
noncomputable def p3_140 (F : X3) : V3 := N8.rec (motive := fun _ => V3) (fun a0 b0 c0 d0 e0 f0 g0 h0 => N8.rec (motive := fun _ => V3) (fun a1 b1 c1 d1 e1 f1 g1 h1 => N8.rec (motive := fun _ => V3) (fun a2 b2 _ d2 e2 f2 g2 h2 v k Ds H => k ⟨a0, b0, c0, d0, ⟨a1, ⟨a2, b2, v, d2, e2, f2, g2, h2⟩, c1, d1, e1, f1, g1, h1⟩, f0, g0, h0⟩ Ds H) b1) e0) F
noncomputable def s3_140 : Slot tf3 := ⟨[.o4, .o1, .o2], p3_140, fun F v => fV3 v (p3_140 F), fun _ _ _ _ _ => ⟨_, rfl, rfl⟩, fun _ v _ _ _ => fV3_eq v _ _ _ _⟩
def r3_140 : RO tf3 := ⟨.t [.o4, .o1, .o2], fun F => F.e.b.c, fun _ => rfl⟩
noncomputable def p3_141 (F : X3) : V3 := N8.rec (motive := fun _ => V3) (fun a0 b0 c0 d0 e0 f0 g0 h0 => N8.rec (motive := fun _ => V3) (fun a1 b1 c1 d1 e1 f1 g1 h1 => N8.rec (motive := fun _ => V3) (fun a2 b2 _ d2 e2 f2 g2 h2 v k Ds H => k ⟨a0, b0, c0, d0, e0, ⟨a1, ⟨a2, b2, v, d2, e2, f2, g2, h2⟩, c1, d1, e1, f1, g1, h1⟩, g0, h0⟩ Ds H) b1) f0) F
noncomputable def s3_141 : Slot tf3 := ⟨[.o5, .o1, .o2], p3_141, fun F v => fV3 v (p3_141 F), fun _ _ _ _ _ => ⟨_, rfl, rfl⟩, fun _ v _ _ _ => fV3_eq v _ _ _ _⟩
def r3_141 : RO tf3 := ⟨.t [.o5, .o1, .o2], fun F => F.f.b.c, fun _ => rfl⟩
noncomputable def p3_142 (F : X3) : V3 := N8.rec (motive := fun _ => V3) (fun a0 b0 c0 d0 e0 f0 g0 h0 => N8.rec (motive := fun _ => V3) (fun a1 b1 c1 d1 e1 f1 g1 h1 => N8.rec (motive := fun _ => V3) (fun a2 b2 _ d2 e2 f2 g2 h2 v k Ds H => k ⟨a0, b0, c0, d0, e0, f0, ⟨a1, ⟨a2, b2, v, d2, e2, f2, g2, h2⟩, c1, d1, e1, f1, g1, h1⟩, h0⟩ Ds H) b1) g0) F
noncomputable def s3_142 : Slot tf3 := ⟨[.o6, .o1, .o2], p3_142, fun F v => fV3 v (p3_142 F), fun _ _ _ _ _ => ⟨_, rfl, rfl⟩, fun _ v _ _ _ => fV3_eq v _ _ _ _⟩
def r3_142 : RO tf3 := ⟨.t [.o6, .o1, .o2], fun F => F.g.b.c, fun _ => rfl⟩
noncomputable def p3_143 (F : X3) : V3 := N8.rec (motive := fun _ => V3) (fun a0 b0 c0 d0 e0 f0 g0 h0 => N8.rec (motive := fun _ => V3) (fun a1 b1 c1 d1 e1 f1 g1 h1 => N8.rec (motive := fun _ => V3) (fun a2 b2 _ d2 e2 f2 g2 h2 v k Ds H => k ⟨a0, b0, c0, d0, e0, f0, g0, ⟨a1, ⟨a2, b2, v, d2, e2, f2, g2, h2⟩, c1, d1, e1, f1, g1, h1⟩⟩ Ds H) b1) h0) F
noncomputable def s3_143 : Slot tf3 := ⟨[.o7, .o1, .o2], p3_143, fun F v => fV3 v (p3_143 F), fun _ _ _ _ _ => ⟨_, rfl, rfl⟩, fun _ v _ _ _ => fV3_eq v _ _ _ _⟩
def r3_143 : RO tf3 := ⟨.t [.o7, .o1, .o2], fun F => F.h.b.c, fun _ => rfl⟩
noncomputable def p3_144 (F : X3) : V3 := N8.rec (motive := fun _ => V3) (fun a0 b0 c0 d0 e0 f0 g0 h0 => N8.rec (motive := fun _ => V3) (fun a1 b1 c1 d1 e1 f1 g1 h1 => N8.rec (motive := fun _ => V3) (fun a2 b2 _ d2 e2 f2 g2 h2 v k Ds H => k ⟨⟨a1, b1, ⟨a2, b2, v, d2, e2, f2, g2, h2⟩, d1, e1, f1, g1, h1⟩, b0, c0, d0, e0, f0, g0, h0⟩ Ds H) c1) a0) F
noncomputable def s3_144 : Slot tf3 := ⟨[.o0, .o2, .o2], p3_144, fun F v => fV3 v (p3_144 F), fun _ _ _ _ _ => ⟨_, rfl, rfl⟩, fun _ v _ _ _ => fV3_eq v _ _ _ _⟩
def r3_144 : RO tf3 := ⟨.t [.o0, .o2, .o2], fun F => F.a.c.c, fun _ => rfl⟩
noncomputable def p3_145 (F : X3) : V3 := N8.rec (motive := fun _ => V3) (fun a0 b0 c0 d0 e0 f0 g0 h0 => N8.rec (motive := fun _ => V3) (fun a1 b1 c1 d1 e1 f1 g1 h1 => N8.rec (motive := fun _ => V3) (fun a2 b2 _ d2 e2 f2 g2 h2 v k Ds H => k ⟨a0, ⟨a1, b1, ⟨a2, b2, v, d2, e2, f2, g2, h2⟩, d1, e1, f1, g1, h1⟩, c0, d0, e0, f0, g0, h0⟩ Ds H) c1) b0) F
noncomputable def s3_145 : Slot tf3 := ⟨[.o1, .o2, .o2], p3_145, fun F v => fV3 v (p3_145 F), fun _ _ _ _ _ => ⟨_, rfl, rfl⟩, fun _ v _ _ _ => fV3_eq v _ _ _ _⟩
def r3_145 : RO tf3 := ⟨.t [.o1, .o2, .o2], fun F => F.b.c.c, fun _ => rfl⟩
noncomputable def p3_146 (F : X3) : V3 := N8.rec (motive := fun _ => V3) (fun a0 b0 c0 d0 e0 f0 g0 h0 => N8.rec (motive := fun _ => V3) (fun a1 b1 c1 d1 e1 f1 g1 h1 => N8.rec (motive := fun _ => V3) (fun a2 b2 _ d2 e2 f2 g2 h2 v k Ds H => k ⟨a0, b0, ⟨a1, b1, ⟨a2, b2, v, d2, e2, f2, g2, h2⟩, d1, e1, f1, g1, h1⟩, d0, e0, f0, g0, h0⟩ Ds H) c1) c0) F
noncomputable def s3_146 : Slot tf3 := ⟨[.o2, .o2, .o2], p3_146, fun F v => fV3 v (p3_146 F), fun _ _ _ _ _ => ⟨_, rfl, rfl⟩, fun _ v _ _ _ => fV3_eq v _ _ _ _⟩
def r3_146 : RO tf3 := ⟨.t [.o2, .o2, .o2], fun F => F.c.c.c, fun _ => rfl⟩
noncomputable def p3_147 (F : X3) : V3 := N8.rec (motive := fun _ => V3) (fun a0 b0 c0 d0 e0 f0 g0 h0 => N8.rec (motive := fun _ => V3) (fun a1 b1 c1 d1 e1 f1 g1 h1 => N8.rec (motive := fun _ => V3) (fun a2 b2 _ d2 e2 f2 g2 h2 v k Ds H => k ⟨a0, b0, c0, ⟨a1, b1, ⟨a2, b2, v, d2, e2, f2, g2, h2⟩, d1, e1, f1, g1, h1⟩, e0, f0, g0, h0⟩ Ds H) c1) d0) F
noncomputable def s3_147 : Slot tf3 := ⟨[.o3, .o2, .o2], p3_147, fun F v => fV3 v (p3_147 F), fun _ _ _ _ _ => ⟨_, rfl, rfl⟩, fun _ v _ _ _ => fV3_eq v _ _ _ _⟩
def r3_147 : RO tf3 := ⟨.t [.o3, .o2, .o2], fun F => F.d.c.c, fun _ => rfl⟩
noncomputable def p3_148 (F : X3) : V3 := N8.rec (motive := fun _ => V3) (fun a0 b0 c0 d0 e0 f0 g0 h0 => N8.rec (motive := fun _ => V3) (fun a1 b1 c1 d1 e1 f1 g1 h1 => N8.rec (motive := fun _ => V3) (fun a2 b2 _ d2 e2 f2 g2 h2 v k Ds H => k ⟨a0, b0, c0, d0, ⟨a1, b1, ⟨a2, b2, v, d2, e2, f2, g2, h2⟩, d1, e1, f1, g1, h1⟩, f0, g0, h0⟩ Ds H) c1) e0) F
noncomputable def s3_148 : Slot tf3 := ⟨[.o4, .o2, .o2], p3_148, fun F v => fV3 v (p3_148 F), fun _ _ _ _ _ => ⟨_, rfl, rfl⟩, fun _ v _ _ _ => fV3_eq v _ _ _ _⟩
def r3_148 : RO tf3 := ⟨.t [.o4, .o2, .o2], fun F => F.e.c.c, fun _ => rfl⟩
noncomputable def p3_149 (F : X3) : V3 := N8.rec (motive := fun _ => V3) (fun a0 b0 c0 d0 e0 f0 g0 h0 => N8.rec (motive := fun _ => V3) (fun a1 b1 c1 d1 e1 f1 g1 h1 => N8.rec (motive := fun _ => V3) (fun a2 b2 _ d2 e2 f2 g2 h2 v k Ds H => k ⟨a0, b0, c0, d0, e0, ⟨a1, b1, ⟨a2, b2, v, d2, e2, f2, g2, h2⟩, d1, e1, f1, g1, h1⟩, g0, h0⟩ Ds H) c1) f0) F
noncomputable def s3_149 : Slot tf3 := ⟨[.o5, .o2, .o2], p3_149, fun F v => fV3 v (p3_149 F), fun _ _ _ _ _ => ⟨_, rfl, rfl⟩, fun _ v _ _ _ => fV3_eq v _ _ _ _⟩
def r3_149 : RO tf3 := ⟨.t [.o5, .o2, .o2], fun F => F.f.c.c, fun _ => rfl⟩
noncomputable def p3_150 (F : X3) : V3 := N8.rec (motive := fun _ => V3) (fun a0 b0 c0 d0 e0 f0 g0 h0 => N8.rec (motive := fun _ => V3) (fun a1 b1 c1 d1 e1 f1 g1 h1 => N8.rec (motive := fun _ => V3) (fun a2 b2 _ d2 e2 f2 g2 h2 v k Ds H => k ⟨a0, b0, c0, d0, e0, f0, ⟨a1, b1, ⟨a2, b2, v, d2, e2, f2, g2, h2⟩, d1, e1, f1, g1, h1⟩, h0⟩ Ds H) c1) g0) F
noncomputable def s3_150 : Slot tf3 := ⟨[.o6, .o2, .o2], p3_150, fun F v => fV3 v (p3_150 F), fun _ _ _ _ _ => ⟨_, rfl, rfl⟩, fun _ v _ _ _ => fV3_eq v _ _ _ _⟩
def r3_150 : RO tf3 := ⟨.t [.o6, .o2, .o2], fun F => F.g.c.c, fun _ => rfl⟩
noncomputable def p3_151 (F : X3) : V3 := N8.rec (motive := fun _ => V3) (fun a0 b0 c0 d0 e0 f0 g0 h0 => N8.rec (motive := fun _ => V3) (fun a1 b1 c1 d1 e1 f1 g1 h1 => N8.rec (motive := fun _ => V3) (fun a2 b2 _ d2 e2 f2 g2 h2 v k Ds H => k ⟨a0, b0, c0, d0, e0, f0, g0, ⟨a1, b1, ⟨a2, b2, v, d2, e2, f2, g2, h2⟩, d1, e1, f1, g1, h1⟩⟩ Ds H) c1) h0) F
noncomputable def s3_151 : Slot tf3 := ⟨[.o7, .o2, .o2], p3_151, fun F v => fV3 v (p3_151 F), fun _ _ _ _ _ => ⟨_, rfl, rfl⟩, fun _ v _ _ _ => fV3_eq v _ _ _ _⟩
def r3_151 : RO tf3 := ⟨.t [.o7, .o2, .o2], fun F => F.h.c.c, fun _ => rfl⟩
noncomputable def p3_152 (F : X3) : V3 := N8.rec (motive := fun _ => V3) (fun a0 b0 c0 d0 e0 f0 g0 h0 => N8.rec (motive := fun _ => V3) (fun a1 b1 c1 d1 e1 f1 g1 h1 => N8.rec (motive := fun _ => V3) (fun a2 b2 _ d2 e2 f2 g2 h2 v k Ds H => k ⟨⟨a1, b1, c1, ⟨a2, b2, v, d2, e2, f2, g2, h2⟩, e1, f1, g1, h1⟩, b0, c0, d0, e0, f0, g0, h0⟩ Ds H) d1) a0) F
noncomputable def s3_152 : Slot tf3 := ⟨[.o0, .o3, .o2], p3_152, fun F v => fV3 v (p3_152 F), fun _ _ _ _ _ => ⟨_, rfl, rfl⟩, fun _ v _ _ _ => fV3_eq v _ _ _ _⟩
def r3_152 : RO tf3 := ⟨.t [.o0, .o3, .o2], fun F => F.a.d.c, fun _ => rfl⟩
noncomputable def p3_153 (F : X3) : V3 := N8.rec (motive := fun _ => V3) (fun a0 b0 c0 d0 e0 f0 g0 h0 => N8.rec (motive := fun _ => V3) (fun a1 b1 c1 d1 e1 f1 g1 h1 => N8.rec (motive := fun _ => V3) (fun a2 b2 _ d2 e2 f2 g2 h2 v k Ds H => k ⟨a0, ⟨a1, b1, c1, ⟨a2, b2, v, d2, e2, f2, g2, h2⟩, e1, f1, g1, h1⟩, c0, d0, e0, f0, g0, h0⟩ Ds H) d1) b0) F
noncomputable def s3_153 : Slot tf3 := ⟨[.o1, .o3, .o2], p3_153, fun F v => fV3 v (p3_153 F), fun _ _ _ _ _ => ⟨_, rfl, rfl⟩, fun _ v _ _ _ => fV3_eq v _ _ _ _⟩
def r3_153 : RO tf3 := ⟨.t [.o1, .o3, .o2], fun F => F.b.d.c, fun _ => rfl⟩
noncomputable def p3_154 (F : X3) : V3 := N8.rec (motive := fun _ => V3) (fun a0 b0 c0 d0 e0 f0 g0 h0 => N8.rec (motive := fun _ => V3) (fun a1 b1 c1 d1 e1 f1 g1 h1 => N8.rec (motive := fun _ => V3) (fun a2 b2 _ d2 e2 f2 g2 h2 v k Ds H => k ⟨a0, b0, ⟨a1, b1, c1, ⟨a2, b2, v, d2, e2, f2, g2, h2⟩, e1, f1, g1, h1⟩, d0, e0, f0, g0, h0⟩ Ds H) d1) c0) F
noncomputable def s3_154 : Slot tf3 := ⟨[.o2, .o3, .o2], p3_154, fun F v => fV3 v (p3_154 F), fun _ _ _ _ _ => ⟨_, rfl, rfl⟩, fun _ v _ _ _ => fV3_eq v _ _ _ _⟩
def r3_154 : RO tf3 := ⟨.t [.o2, .o3, .o2], fun F => F.c.d.c, fun _ => rfl⟩
noncomputable def p3_155 (F : X3) : V3 := N8.rec (motive := fun _ => V3) (fun a0 b0 c0 d0 e0 f0 g0 h0 => N8.rec (motive := fun _ => V3) (fun a1 b1 c1 d1 e1 f1 g1 h1 => N8.rec (motive := fun _ => V3) (fun a2 b2 _ d2 e2 f2 g2 h2 v k Ds H => k ⟨a0, b0, c0, ⟨a1, b1, c1, ⟨a2, b2, v, d2, e2, f2, g2, h2⟩, e1, f1, g1, h1⟩, e0, f0, g0, h0⟩ Ds H) d1) d0) F
noncomputable def s3_155 : Slot tf3 := ⟨[.o3, .o3, .o2], p3_155, fun F v => fV3 v (p3_155 F), fun _ _ _ _ _ => ⟨_, rfl, rfl⟩, fun _ v _ _ _ => fV3_eq v _ _ _ _⟩
def r3_155 : RO tf3 := ⟨.t [.o3, .o3, .o2], fun F => F.d.d.c, fun _ => rfl⟩
noncomputable def p3_156 (F : X3) : V3 := N8.rec (motive := fun _ => V3) (fun a0 b0 c0 d0 e0 f0 g0 h0 => N8.rec (motive := fun _ => V3) (fun a1 b1 c1 d1 e1 f1 g1 h1 => N8.rec (motive := fun _ => V3) (fun a2 b2 _ d2 e2 f2 g2 h2 v k Ds H => k ⟨a0, b0, c0, d0, ⟨a1, b1, c1, ⟨a2, b2, v, d2, e2, f2, g2, h2⟩, e1, f1, g1, h1⟩, f0, g0, h0⟩ Ds H) d1) e0) F
noncomputable def s3_156 : Slot tf3 := ⟨[.o4, .o3, .o2], p3_156, fun F v => fV3 v (p3_156 F), fun _ _ _ _ _ => ⟨_, rfl, rfl⟩, fun _ v _ _ _ => fV3_eq v _ _ _ _⟩
def r3_156 : RO tf3 := ⟨.t [.o4, .o3, .o2], fun F => F.e.d.c, fun _ => rfl⟩
noncomputable def p3_157 (F : X3) : V3 := N8.rec (motive := fun _ => V3) (fun a0 b0 c0 d0 e0 f0 g0 h0 => N8.rec (motive := fun _ => V3) (fun a1 b1 c1 d1 e1 f1 g1 h1 => N8.rec (motive := fun _ => V3) (fun a2 b2 _ d2 e2 f2 g2 h2 v k Ds H => k ⟨a0, b0, c0, d0, e0, ⟨a1, b1, c1, ⟨a2, b2, v, d2, e2, f2, g2, h2⟩, e1, f1, g1, h1⟩, g0, h0⟩ Ds H) d1) f0) F
noncomputable def s3_157 : Slot tf3 := ⟨[.o5, .o3, .o2], p3_157, fun F v => fV3 v (p3_157 F), fun _ _ _ _ _ => ⟨_, rfl, rfl⟩, fun _ v _ _ _ => fV3_eq v _ _ _ _⟩
def r3_157 : RO tf3 := ⟨.t [.o5, .o3, .o2], fun F => F.f.d.c, fun _ => rfl⟩
noncomputable def p3_158 (F : X3) : V3 := N8.rec (motive := fun _ => V3) (fun a0 b0 c0 d0 e0 f0 g0 h0 => N8.rec (motive := fun _ => V3) (fun a1 b1 c1 d1 e1 f1 g1 h1 => N8.rec (motive := fun _ => V3) (fun a2 b2 _ d2 e2 f2 g2 h2 v k Ds H => k ⟨a0, b0, c0, d0, e0, f0, ⟨a1, b1, c1, ⟨a2, b2, v, d2, e2, f2, g2, h2⟩, e1, f1, g1, h1⟩, h0⟩ Ds H) d1) g0) F
noncomputable def s3_158 : Slot tf3 := ⟨[.o6, .o3, .o2], p3_158, fun F v => fV3 v (p3_158 F), fun _ _ _ _ _ => ⟨_, rfl, rfl⟩, fun _ v _ _ _ => fV3_eq v _ _ _ _⟩
def r3_158 : RO tf3 := ⟨.t [.o6, .o3, .o2], fun F => F.g.d.c, fun _ => rfl⟩
noncomputable def p3_159 (F : X3) : V3 := N8.rec (motive := fun _ => V3) (fun a0 b0 c0 d0 e0 f0 g0 h0 => N8.rec (motive := fun _ => V3) (fun a1 b1 c1 d1 e1 f1 g1 h1 => N8.rec (motive := fun _ => V3) (fun a2 b2 _ d2 e2 f2 g2 h2 v k Ds H => k ⟨a0, b0, c0, d0, e0, f0, g0, ⟨a1, b1, c1, ⟨a2, b2, v, d2, e2, f2, g2, h2⟩, e1, f1, g1, h1⟩⟩ Ds H) d1) h0) F
noncomputable def s3_159 : Slot tf3 := ⟨[.o7, .o3, .o2], p3_159, fun F v => fV3 v (p3_159 F), fun _ _ _ _ _ => ⟨_, rfl, rfl⟩, fun _ v _ _ _ => fV3_eq v _ _ _ _⟩
def r3_159 : RO tf3 := ⟨.t [.o7, .o3, .o2], fun F => F.h.d.c, fun _ => rfl⟩
noncomputable def p3_160 (F : X3) : V3 := N8.rec (motive := fun _ => V3) (fun a0 b0 c0 d0 e0 f0 g0 h0 => N8.rec (motive := fun _ => V3) (fun a1 b1 c1 d1 e1 f1 g1 h1 => N8.rec (motive := fun _ => V3) (fun a2 b2 _ d2 e2 f2 g2 h2 v k Ds H => k ⟨⟨a1, b1, c1, d1, ⟨a2, b2, v, d2, e2, f2, g2, h2⟩, f1, g1, h1⟩, b0, c0, d0, e0, f0, g0, h0⟩ Ds H) e1) a0) F
noncomputable def s3_160 : Slot tf3 := ⟨[.o0, .o4, .o2], p3_160, fun F v => fV3 v (p3_160 F), fun _ _ _ _ _ => ⟨_, rfl, rfl⟩, fun _ v _ _ _ => fV3_eq v _ _ _ _⟩
def r3_160 : RO tf3 := ⟨.t [.o0, .o4, .o2], fun F => F.a.e.c, fun _ => rfl⟩
noncomputable def p3_161 (F : X3) : V3 := N8.rec (motive := fun _ => V3) (fun a0 b0 c0 d0 e0 f0 g0 h0 => N8.rec (motive := fun _ => V3) (fun a1 b1 c1 d1 e1 f1 g1 h1 => N8.rec (motive := fun _ => V3) (fun a2 b2 _ d2 e2 f2 g2 h2 v k Ds H => k ⟨a0, ⟨a1, b1, c1, d1, ⟨a2, b2, v, d2, e2, f2, g2, h2⟩, f1, g1, h1⟩, c0, d0, e0, f0, g0, h0⟩ Ds H) e1) b0) F
noncomputable def s3_161 : Slot tf3 := ⟨[.o1, .o4, .o2], p3_161, fun F v => fV3 v (p3_161 F), fun _ _ _ _ _ => ⟨_, rfl, rfl⟩, fun _ v _ _ _ => fV3_eq v _ _ _ _⟩
def r3_161 : RO tf3 := ⟨.t [.o1, .o4, .o2], fun F => F.b.e.c, fun _ => rfl⟩
noncomputable def p3_162 (F : X3) : V3 := N8.rec (motive := fun _ => V3) (fun a0 b0 c0 d0 e0 f0 g0 h0 => N8.rec (motive := fun _ => V3) (fun a1 b1 c1 d1 e1 f1 g1 h1 => N8.rec (motive := fun _ => V3) (fun a2 b2 _ d2 e2 f2 g2 h2 v k Ds H => k ⟨a0, b0, ⟨a1, b1, c1, d1, ⟨a2, b2, v, d2, e2, f2, g2, h2⟩, f1, g1, h1⟩, d0, e0, f0, g0, h0⟩ Ds H) e1) c0) F
noncomputable def s3_162 : Slot tf3 := ⟨[.o2, .o4, .o2], p3_162, fun F v => fV3 v (p3_162 F), fun _ _ _ _ _ => ⟨_, rfl, rfl⟩, fun _ v _ _ _ => fV3_eq v _ _ _ _⟩
def r3_162 : RO tf3 := ⟨.t [.o2, .o4, .o2], fun F => F.c.e.c, fun _ => rfl⟩
noncomputable def p3_163 (F : X3) : V3 := N8.rec (motive := fun _ => V3) (fun a0 b0 c0 d0 e0 f0 g0 h0 => N8.rec (motive := fun _ => V3) (fun a1 b1 c1 d1 e1 f1 g1 h1 => N8.rec (motive := fun _ => V3) (fun a2 b2 _ d2 e2 f2 g2 h2 v k Ds H => k ⟨a0, b0, c0, ⟨a1, b1, c1, d1, ⟨a2, b2, v, d2, e2, f2, g2, h2⟩, f1, g1, h1⟩, e0, f0, g0, h0⟩ Ds H) e1) d0) F
noncomputable def s3_163 : Slot tf3 := ⟨[.o3, .o4, .o2], p3_163, fun F v => fV3 v (p3_163 F), fun _ _ _ _ _ => ⟨_, rfl, rfl⟩, fun _ v _ _ _ => fV3_eq v _ _ _ _⟩
def r3_163 : RO tf3 := ⟨.t [.o3, .o4, .o2], fun F => F.d.e.c, fun _ => rfl⟩
noncomputable def p3_164 (F : X3) : V3 := N8.rec (motive := fun _ => V3) (fun a0 b0 c0 d0 e0 f0 g0 h0 => N8.rec (motive := fun _ => V3) (fun a1 b1 c1 d1 e1 f1 g1 h1 => N8.rec (motive := fun _ => V3) (fun a2 b2 _ d2 e2 f2 g2 h2 v k Ds H => k ⟨a0, b0, c0, d0, ⟨a1, b1, c1, d1, ⟨a2, b2, v, d2, e2, f2, g2, h2⟩, f1, g1, h1⟩, f0, g0, h0⟩ Ds H) e1) e0) F
noncomputable def s3_164 : Slot tf3 := ⟨[.o4, .o4, .o2], p3_164, fun F v => fV3 v (p3_164 F), fun _ _ _ _ _ => ⟨_, rfl, rfl⟩, fun _ v _ _ _ => fV3_eq v _ _ _ _⟩
def r3_164 : RO tf3 := ⟨.t [.o4, .o4, .o2], fun F => F.e.e.c, fun _ => rfl⟩
noncomputable def p3_165 (F : X3) : V3 := N8.rec (motive := fun _ => V3) (fun a0 b0 c0 d0 e0 f0 g0 h0 => N8.rec (motive := fun _ => V3) (fun a1 b1 c1 d1 e1 f1 g1 h1 => N8.rec (motive := fun _ => V3) (fun a2 b2 _ d2 e2 f2 g2 h2 v k Ds H => k ⟨a0, b0, c0, d0, e0, ⟨a1, b1, c1, d1, ⟨a2, b2, v, d2, e2, f2, g2, h2⟩, f1, g1, h1⟩, g0, h0⟩ Ds H) e1) f0) F
noncomputable def s3_165 : Slot tf3 := ⟨[.o5, .o4, .o2], p3_165, fun F v => fV3 v (p3_165 F), fun _ _ _ _ _ => ⟨_, rfl, rfl⟩, fun _ v _ _ _ => fV3_eq v _ _ _ _⟩
def r3_165 : RO tf3 := ⟨.t [.o5, .o4, .o2], fun F => F.f.e.c, fun _ => rfl⟩
noncomputable def p3_166 (F : X3) : V3 := N8.rec (motive := fun _ => V3) (fun a0 b0 c0 d0 e0 f0 g0 h0 => N8.rec (motive := fun _ => V3) (fun a1 b1 c1 d1 e1 f1 g1 h1 => N8.rec (motive := fun _ => V3) (fun a2 b2 _ d2 e2 f2 g2 h2 v k Ds H => k ⟨a0, b0, c0, d0, e0, f0, ⟨a1, b1, c1, d1, ⟨a2, b2, v, d2, e2, f2, g2, h2⟩, f1, g1, h1⟩, h0⟩ Ds H) e1) g0) F
noncomputable def s3_166 : Slot tf3 := ⟨[.o6, .o4, .o2], p3_166, fun F v => fV3 v (p3_166 F), fun _ _ _ _ _ => ⟨_, rfl, rfl⟩, fun _ v _ _ _ => fV3_eq v _ _ _ _⟩
def r3_166 : RO tf3 := ⟨.t [.o6, .o4, .o2], fun F => F.g.e.c, fun _ => rfl⟩
noncomputable def p3_167 (F : X3) : V3 := N8.rec (motive := fun _ => V3) (fun a0 b0 c0 d0 e0 f0 g0 h0 => N8.rec (motive := fun _ => V3) (fun a1 b1 c1 d1 e1 f1 g1 h1 => N8.rec (motive := fun _ => V3) (fun a2 b2 _ d2 e2 f2 g2 h2 v k Ds H => k ⟨a0, b0, c0, d0, e0, f0, g0, ⟨a1, b1, c1, d1, ⟨a2, b2, v, d2, e2, f2, g2, h2⟩, f1, g1, h1⟩⟩ Ds H) e1) h0) F
noncomputable def s3_167 : Slot tf3 := ⟨[.o7, .o4, .o2], p3_167, fun F v => fV3 v (p3_167 F), fun _ _ _ _ _ => ⟨_, rfl, rfl⟩, fun _ v _ _ _ => fV3_eq v _ _ _ _⟩
def r3_167 : RO tf3 := ⟨.t [.o7, .o4, .o2], fun F => F.h.e.c, fun _ => rfl⟩
noncomputable def p3_168 (F : X3) : V3 := N8.rec (motive := fun _ => V3) (fun a0 b0 c0 d0 e0 f0 g0 h0 => N8.rec (motive := fun _ => V3) (fun a1 b1 c1 d1 e1 f1 g1 h1 => N8.rec (motive := fun _ => V3) (fun a2 b2 _ d2 e2 f2 g2 h2 v k Ds H => k ⟨⟨a1, b1, c1, d1, e1, ⟨a2, b2, v, d2, e2, f2, g2, h2⟩, g1, h1⟩, b0, c0, d0, e0, f0, g0, h0⟩ Ds H) f1) a0) F
noncomputable def s3_168 : Slot tf3 := ⟨[.o0, .o5, .o2], p3_168, fun F v => fV3 v (p3_168 F), fun _ _ _ _ _ => ⟨_, rfl, rfl⟩, fun _ v _ _ _ => fV3_eq v _ _ _ _⟩
def r3_168 : RO tf3 := ⟨.t [.o0, .o5, .o2], fun F => F.a.f.c, fun _ => rfl⟩
noncomputable def p3_169 (F : X3) : V3 := N8.rec (motive := fun _ => V3) (fun a0 b0 c0 d0 e0 f0 g0 h0 => N8.rec (motive := fun _ => V3) (fun a1 b1 c1 d1 e1 f1 g1 h1 => N8.rec (motive := fun _ => V3) (fun a2 b2 _ d2 e2 f2 g2 h2 v k Ds H => k ⟨a0, ⟨a1, b1, c1, d1, e1, ⟨a2, b2, v, d2, e2, f2, g2, h2⟩, g1, h1⟩, c0, d0, e0, f0, g0, h0⟩ Ds H) f1) b0) F
noncomputable def s3_169 : Slot tf3 := ⟨[.o1, .o5, .o2], p3_169, fun F v => fV3 v (p3_169 F), fun _ _ _ _ _ => ⟨_, rfl, rfl⟩, fun _ v _ _ _ => fV3_eq v _ _ _ _⟩
def r3_169 : RO tf3 := ⟨.t [.o1, .o5, .o2], fun F => F.b.f.c, fun _ => rfl⟩
noncomputable def p3_170 (F : X3) : V3 := N8.rec (motive := fun _ => V3) (fun a0 b0 c0 d0 e0 f0 g0 h0 => N8.rec (motive := fun _ => V3) (fun a1 b1 c1 d1 e1 f1 g1 h1 => N8.rec (motive := fun _ => V3) (fun a2 b2 _ d2 e2 f2 g2 h2 v k Ds H => k ⟨a0, b0, ⟨a1, b1, c1, d1, e1, ⟨a2, b2, v, d2, e2, f2, g2, h2⟩, g1, h1⟩, d0, e0, f0, g0, h0⟩ Ds H) f1) c0) F
noncomputable def s3_170 : Slot tf3 := ⟨[.o2, .o5, .o2], p3_170, fun F v => fV3 v (p3_170 F), fun _ _ _ _ _ => ⟨_, rfl, rfl⟩, fun _ v _ _ _ => fV3_eq v _ _ _ _⟩
def r3_170 : RO tf3 := ⟨.t [.o2, .o5, .o2], fun F => F.c.f.c, fun _ => rfl⟩
noncomputable def p3_171 (F : X3) : V3 := N8.rec (motive := fun _ => V3) (fun a0 b0 c0 d0 e0 f0 g0 h0 => N8.rec (motive := fun _ => V3) (fun a1 b1 c1 d1 e1 f1 g1 h1 => N8.rec (motive := fun _ => V3) (fun a2 b2 _ d2 e2 f2 g2 h2 v k Ds H => k ⟨a0, b0, c0, ⟨a1, b1, c1, d1, e1, ⟨a2, b2, v, d2, e2, f2, g2, h2⟩, g1, h1⟩, e0, f0, g0, h0⟩ Ds H) f1) d0) F
noncomputable def s3_171 : Slot tf3 := ⟨[.o3, .o5, .o2], p3_171, fun F v => fV3 v (p3_171 F), fun _ _ _ _ _ => ⟨_, rfl, rfl⟩, fun _ v _ _ _ => fV3_eq v _ _ _ _⟩
def r3_171 : RO tf3 := ⟨.t [.o3, .o5, .o2], fun F => F.d.f.c, fun _ => rfl⟩
noncomputable def p3_172 (F : X3) : V3 := N8.rec (motive := fun _ => V3) (fun a0 b0 c0 d0 e0 f0 g0 h0 => N8.rec (motive := fun _ => V3) (fun a1 b1 c1 d1 e1 f1 g1 h1 => N8.rec (motive := fun _ => V3) (fun a2 b2 _ d2 e2 f2 g2 h2 v k Ds H => k ⟨a0, b0, c0, d0, ⟨a1, b1, c1, d1, e1, ⟨a2, b2, v, d2, e2, f2, g2, h2⟩, g1, h1⟩, f0, g0, h0⟩ Ds H) f1) e0) F
noncomputable def s3_172 : Slot tf3 := ⟨[.o4, .o5, .o2], p3_172, fun F v => fV3 v (p3_172 F), fun _ _ _ _ _ => ⟨_, rfl, rfl⟩, fun _ v _ _ _ => fV3_eq v _ _ _ _⟩
def r3_172 : RO tf3 := ⟨.t [.o4, .o5, .o2], fun F => F.e.f.c, fun _ => rfl⟩
noncomputable def p3_173 (F : X3) : V3 := N8.rec (motive := fun _ => V3) (fun a0 b0 c0 d0 e0 f0 g0 h0 => N8.rec (motive := fun _ => V3) (fun a1 b1 c1 d1 e1 f1 g1 h1 => N8.rec (motive := fun _ => V3) (fun a2 b2 _ d2 e2 f2 g2 h2 v k Ds H => k ⟨a0, b0, c0, d0, e0, ⟨a1, b1, c1, d1, e1, ⟨a2, b2, v, d2, e2, f2, g2, h2⟩, g1, h1⟩, g0, h0⟩ Ds H) f1) f0) F
noncomputable def s3_173 : Slot tf3 := ⟨[.o5, .o5, .o2], p3_173, fun F v => fV3 v (p3_173 F), fun _ _ _ _ _ => ⟨_, rfl, rfl⟩, fun _ v _ _ _ => fV3_eq v _ _ _ _⟩
def r3_173 : RO tf3 := ⟨.t [.o5, .o5, .o2], fun F => F.f.f.c, fun _ => rfl⟩
noncomputable def p3_174 (F : X3) : V3 := N8.rec (motive := fun _ => V3) (fun a0 b0 c0 d0 e0 f0 g0 h0 => N8.rec (motive := fun _ => V3) (fun a1 b1 c1 d1 e1 f1 g1 h1 => N8.rec (motive := fun _ => V3) (fun a2 b2 _ d2 e2 f2 g2 h2 v k Ds H => k ⟨a0, b0, c0, d0, e0, f0, ⟨a1, b1, c1, d1, e1, ⟨a2, b2, v, d2, e2, f2, g2, h2⟩, g1, h1⟩, h0⟩ Ds H) f1) g0) F
noncomputable def s3_174 : Slot tf3 := ⟨[.o6, .o5, .o2], p3_174, fun F v => fV3 v (p3_174 F), fun _ _ _ _ _ => ⟨_, rfl, rfl⟩, fun _ v _ _ _ => fV3_eq v _ _ _ _⟩
def r3_174 : RO tf3 := ⟨.t [.o6, .o5, .o2], fun F => F.g.f.c, fun _ => rfl⟩
noncomputable def p3_175 (F : X3) : V3 := N8.rec (motive := fun _ => V3) (fun a0 b0 c0 d0 e0 f0 g0 h0 => N8.rec (motive := fun _ => V3) (fun a1 b1 c1 d1 e1 f1 g1 h1 => N8.rec (motive := fun _ => V3) (fun a2 b2 _ d2 e2 f2 g2 h2 v k Ds H => k ⟨a0, b0, c0, d0, e0, f0, g0, ⟨a1, b1, c1, d1, e1, ⟨a2, b2, v, d2, e2, f2, g2, h2⟩, g1, h1⟩⟩ Ds H) f1) h0) F
noncomputable def s3_175 : Slot tf3 := ⟨[.o7, .o5, .o2], p3_175, fun F v => fV3 v (p3_175 F), fun _ _ _ _ _ => ⟨_, rfl, rfl⟩, fun _ v _ _ _ => fV3_eq v _ _ _ _⟩
def r3_175 : RO tf3 := ⟨.t [.o7, .o5, .o2], fun F => F.h.f.c, fun _ => rfl⟩
noncomputable def p3_176 (F : X3) : V3 := N8.rec (motive := fun _ => V3) (fun a0 b0 c0 d0 e0 f0 g0 h0 => N8.rec (motive := fun _ => V3) (fun a1 b1 c1 d1 e1 f1 g1 h1 => N8.rec (motive := fun _ => V3) (fun a2 b2 _ d2 e2 f2 g2 h2 v k Ds H => k ⟨⟨a1, b1, c1, d1, e1, f1, ⟨a2, b2, v, d2, e2, f2, g2, h2⟩, h1⟩, b0, c0, d0, e0, f0, g0, h0⟩ Ds H) g1) a0) F
noncomputable def s3_176 : Slot tf3 := ⟨[.o0, .o6, .o2], p3_176, fun F v => fV3 v (p3_176 F), fun _ _ _ _ _ => ⟨_, rfl, rfl⟩, fun _ v _ _ _ => fV3_eq v _ _ _ _⟩
def r3_176 : RO tf3 := ⟨.t [.o0, .o6, .o2], fun F => F.a.g.c, fun _ => rfl⟩
noncomputable def p3_177 (F : X3) : V3 := N8.rec (motive := fun _ => V3) (fun a0 b0 c0 d0 e0 f0 g0 h0 => N8.rec (motive := fun _ => V3) (fun a1 b1 c1 d1 e1 f1 g1 h1 => N8.rec (motive := fun _ => V3) (fun a2 b2 _ d2 e2 f2 g2 h2 v k Ds H => k ⟨a0, ⟨a1, b1, c1, d1, e1, f1, ⟨a2, b2, v, d2, e2, f2, g2, h2⟩, h1⟩, c0, d0, e0, f0, g0, h0⟩ Ds H) g1) b0) F
noncomputable def s3_177 : Slot tf3 := ⟨[.o1, .o6, .o2], p3_177, fun F v => fV3 v (p3_177 F), fun _ _ _ _ _ => ⟨_, rfl, rfl⟩, fun _ v _ _ _ => fV3_eq v _ _ _ _⟩
def r3_177 : RO tf3 := ⟨.t [.o1, .o6, .o2], fun F => F.b.g.c, fun _ => rfl⟩
noncomputable def p3_178 (F : X3) : V3 := N8.rec (motive := fun _ => V3) (fun a0 b0 c0 d0 e0 f0 g0 h0 => N8.rec (motive := fun _ => V3) (fun a1 b1 c1 d1 e1 f1 g1 h1 => N8.rec (motive := fun _ => V3) (fun a2 b2 _ d2 e2 f2 g2 h2 v k Ds H => k ⟨a0, b0, ⟨a1, b1, c1, d1, e1, f1, ⟨a2, b2, v, d2, e2, f2, g2, h2⟩, h1⟩, d0, e0, f0, g0, h0⟩ Ds H) g1) c0) F
noncomputable def s3_178 : Slot tf3 := ⟨[.o2, .o6, .o2], p3_178, fun F v => fV3 v (p3_178 F), fun _ _ _ _ _ => ⟨_, rfl, rfl⟩, fun _ v _ _ _ => fV3_eq v _ _ _ _⟩
def r3_178 : RO tf3 := ⟨.t [.o2, .o6, .o2], fun F => F.c.g.c, fun _ => rfl⟩
noncomputable def p3_179 (F : X3) : V3 := N8.rec (motive := fun _ => V3) (fun a0 b0 c0 d0 e0 f0 g0 h0 => N8.rec (motive := fun _ => V3) (fun a1 b1 c1 d1 e1 f1 g1 h1 => N8.rec (motive := fun _ => V3) (fun a2 b2 _ d2 e2 f2 g2 h2 v k Ds H => k ⟨a0, b0, c0, ⟨a1, b1, c1, d1, e1, f1, ⟨a2, b2, v, d2, e2, f2, g2, h2⟩, h1⟩, e0, f0, g0, h0⟩ Ds H) g1) d0) F
noncomputable def s3_179 : Slot tf3 := ⟨[.o3, .o6, .o2], p3_179, fun F v => fV3 v (p3_179 F), fun _ _ _ _ _ => ⟨_, rfl, rfl⟩, fun _ v _ _ _ => fV3_eq v _ _ _ _⟩
def r3_179 : RO tf3 := ⟨.t [.o3, .o6, .o2], fun F => F.d.g.c, fun _ => rfl⟩
noncomputable def p3_180 (F : X3) : V3 := N8.rec (motive := fun _ => V3) (fun a0 b0 c0 d0 e0 f0 g0 h0 => N8.rec (motive := fun _ => V3) (fun a1 b1 c1 d1 e1 f1 g1 h1 => N8.rec (motive := fun _ => V3) (fun a2 b2 _ d2 e2 f2 g2 h2 v k Ds H => k ⟨a0, b0, c0, d0, ⟨a1, b1, c1, d1, e1, f1, ⟨a2, b2, v, d2, e2, f2, g2, h2⟩, h1⟩, f0, g0, h0⟩ Ds H) g1) e0) F
noncomputable def s3_180 : Slot tf3 := ⟨[.o4, .o6, .o2], p3_180, fun F v => fV3 v (p3_180 F), fun _ _ _ _ _ => ⟨_, rfl, rfl⟩, fun _ v _ _ _ => fV3_eq v _ _ _ _⟩
def r3_180 : RO tf3 := ⟨.t [.o4, .o6, .o2], fun F => F.e.g.c, fun _ => rfl⟩
noncomputable def p3_181 (F : X3) : V3 := N8.rec (motive := fun _ => V3) (fun a0 b0 c0 d0 e0 f0 g0 h0 => N8.rec (motive := fun _ => V3) (fun a1 b1 c1 d1 e1 f1 g1 h1 => N8.rec (motive := fun _ => V3) (fun a2 b2 _ d2 e2 f2 g2 h2 v k Ds H => k ⟨a0, b0, c0, d0, e0, ⟨a1, b1, c1, d1, e1, f1, ⟨a2, b2, v, d2, e2, f2, g2, h2⟩, h1⟩, g0, h0⟩ Ds H) g1) f0) F
noncomputable def s3_181 : Slot tf3 := ⟨[.o5, .o6, .o2], p3_181, fun F v => fV3 v (p3_181 F), fun _ _ _ _ _ => ⟨_, rfl, rfl⟩, fun _ v _ _ _ => fV3_eq v _ _ _ _⟩
def r3_181 : RO tf3 := ⟨.t [.o5, .o6, .o2], fun F => F.f.g.c, fun _ => rfl⟩
noncomputable def p3_182 (F : X3) : V3 := N8.rec (motive := fun _ => V3) (fun a0 b0 c0 d0 e0 f0 g0 h0 => N8.rec (motive := fun _ => V3) (fun a1 b1 c1 d1 e1 f1 g1 h1 => N8.rec (motive := fun _ => V3) (fun a2 b2 _ d2 e2 f2 g2 h2 v k Ds H => k ⟨a0, b0, c0, d0, e0, f0, ⟨a1, b1, c1, d1, e1, f1, ⟨a2, b2, v, d2, e2, f2, g2, h2⟩, h1⟩, h0⟩ Ds H) g1) g0) F
noncomputable def s3_182 : Slot tf3 := ⟨[.o6, .o6, .o2], p3_182, fun F v => fV3 v (p3_182 F), fun _ _ _ _ _ => ⟨_, rfl, rfl⟩, fun _ v _ _ _ => fV3_eq v _ _ _ _⟩
def r3_182 : RO tf3 := ⟨.t [.o6, .o6, .o2], fun F => F.g.g.c, fun _ => rfl⟩
noncomputable def p3_183 (F : X3) : V3 := N8.rec (motive := fun _ => V3) (fun a0 b0 c0 d0 e0 f0 g0 h0 => N8.rec (motive := fun _ => V3) (fun a1 b1 c1 d1 e1 f1 g1 h1 => N8.rec (motive := fun _ => V3) (fun a2 b2 _ d2 e2 f2 g2 h2 v k Ds H => k ⟨a0, b0, c0, d0, e0, f0, g0, ⟨a1, b1, c1, d1, e1, f1, ⟨a2, b2, v, d2, e2, f2, g2, h2⟩, h1⟩⟩ Ds H) g1) h0) F
noncomputable def s3_183 : Slot tf3 := ⟨[.o7, .o6, .o2], p3_183, fun F v => fV3 v (p3_183 F), fun _ _ _ _ _ => ⟨_, rfl, rfl⟩, fun _ v _ _ _ => fV3_eq v _ _ _ _⟩
def r3_183 : RO tf3 := ⟨.t [.o7, .o6, .o2], fun F => F.h.g.c, fun _ => rfl⟩
noncomputable def p3_184 (F : X3) : V3 := N8.rec (motive := fun _ => V3) (fun a0 b0 c0 d0 e0 f0 g0 h0 => N8.rec (motive := fun _ => V3) (fun a1 b1 c1 d1 e1 f1 g1 h1 => N8.rec (motive := fun _ => V3) (fun a2 b2 _ d2 e2 f2 g2 h2 v k Ds H => k ⟨⟨a1, b1, c1, d1, e1, f1, g1, ⟨a2, b2, v, d2, e2, f2, g2, h2⟩⟩, b0, c0, d0, e0, f0, g0, h0⟩ Ds H) h1) a0) F
noncomputable def s3_184 : Slot tf3 := ⟨[.o0, .o7, .o2], p3_184, fun F v => fV3 v (p3_184 F), fun _ _ _ _ _ => ⟨_, rfl, rfl⟩, fun _ v _ _ _ => fV3_eq v _ _ _ _⟩
def r3_184 : RO tf3 := ⟨.t [.o0, .o7, .o2], fun F => F.a.h.c, fun _ => rfl⟩
noncomputable def p3_185 (F : X3) : V3 := N8.rec (motive := fun _ => V3) (fun a0 b0 c0 d0 e0 f0 g0 h0 => N8.rec (motive := fun _ => V3) (fun a1 b1 c1 d1 e1 f1 g1 h1 => N8.rec (motive := fun _ => V3) (fun a2 b2 _ d2 e2 f2 g2 h2 v k Ds H => k ⟨a0, ⟨a1, b1, c1, d1, e1, f1, g1, ⟨a2, b2, v, d2, e2, f2, g2, h2⟩⟩, c0, d0, e0, f0, g0, h0⟩ Ds H) h1) b0) F
noncomputable def s3_185 : Slot tf3 := ⟨[.o1, .o7, .o2], p3_185, fun F v => fV3 v (p3_185 F), fun _ _ _ _ _ => ⟨_, rfl, rfl⟩, fun _ v _ _ _ => fV3_eq v _ _ _ _⟩
def r3_185 : RO tf3 := ⟨.t [.o1, .o7, .o2], fun F => F.b.h.c, fun _ => rfl⟩
noncomputable def p3_186 (F : X3) : V3 := N8.rec (motive := fun _ => V3) (fun a0 b0 c0 d0 e0 f0 g0 h0 => N8.rec (motive := fun _ => V3) (fun a1 b1 c1 d1 e1 f1 g1 h1 => N8.rec (motive := fun _ => V3) (fun a2 b2 _ d2 e2 f2 g2 h2 v k Ds H => k ⟨a0, b0, ⟨a1, b1, c1, d1, e1, f1, g1, ⟨a2, b2, v, d2, e2, f2, g2, h2⟩⟩, d0, e0, f0, g0, h0⟩ Ds H) h1) c0) F
noncomputable def s3_186 : Slot tf3 := ⟨[.o2, .o7, .o2], p3_186, fun F v => fV3 v (p3_186 F), fun _ _ _ _ _ => ⟨_, rfl, rfl⟩, fun _ v _ _ _ => fV3_eq v _ _ _ _⟩
def r3_186 : RO tf3 := ⟨.t [.o2, .o7, .o2], fun F => F.c.h.c, fun _ => rfl⟩
noncomputable def p3_187 (F : X3) : V3 := N8.rec (motive := fun _ => V3) (fun a0 b0 c0 d0 e0 f0 g0 h0 => N8.rec (motive := fun _ => V3) (fun a1 b1 c1 d1 e1 f1 g1 h1 => N8.rec (motive := fun _ => V3) (fun a2 b2 _ d2 e2 f2 g2 h2 v k Ds H => k ⟨a0, b0, c0, ⟨a1, b1, c1, d1, e1, f1, g1, ⟨a2, b2, v, d2, e2, f2, g2, h2⟩⟩, e0, f0, g0, h0⟩ Ds H) h1) d0) F
noncomputable def s3_187 : Slot tf3 := ⟨[.o3, .o7, .o2], p3_187, fun F v => fV3 v (p3_187 F), fun _ _ _ _ _ => ⟨_, rfl, rfl⟩, fun _ v _ _ _ => fV3_eq v _ _ _ _⟩
def r3_187 : RO tf3 := ⟨.t [.o3, .o7, .o2], fun F => F.d.h.c, fun _ => rfl⟩
noncomputable def p3_188 (F : X3) : V3 := N8.rec (motive := fun _ => V3) (fun a0 b0 c0 d0 e0 f0 g0 h0 => N8.rec (motive := fun _ => V3) (fun a1 b1 c1 d1 e1 f1 g1 h1 => N8.rec (motive := fun _ => V3) (fun a2 b2 _ d2 e2 f2 g2 h2 v k Ds H => k ⟨a0, b0, c0, d0, ⟨a1, b1, c1, d1, e1, f1, g1, ⟨a2, b2, v, d2, e2, f2, g2, h2⟩⟩, f0, g0, h0⟩ Ds H) h1) e0) F
noncomputable def s3_188 : Slot tf3 := ⟨[.o4, .o7, .o2], p3_188, fun F v => fV3 v (p3_188 F), fun _ _ _ _ _ => ⟨_, rfl, rfl⟩, fun _ v _ _ _ => fV3_eq v _ _ _ _⟩
def r3_188 : RO tf3 := ⟨.t [.o4, .o7, .o2], fun F => F.e.h.c, fun _ => rfl⟩
noncomputable def p3_189 (F : X3) : V3 := N8.rec (motive := fun _ => V3) (fun a0 b0 c0 d0 e0 f0 g0 h0 => N8.rec (motive := fun _ => V3) (fun a1 b1 c1 d1 e1 f1 g1 h1 => N8.rec (motive := fun _ => V3) (fun a2 b2 _ d2 e2 f2 g2 h2 v k Ds H => k ⟨a0, b0, c0, d0, e0, ⟨a1, b1, c1, d1, e1, f1, g1, ⟨a2, b2, v, d2, e2, f2, g2, h2⟩⟩, g0, h0⟩ Ds H) h1) f0) F
noncomputable def s3_189 : Slot tf3 := ⟨[.o5, .o7, .o2], p3_189, fun F v => fV3 v (p3_189 F), fun _ _ _ _ _ => ⟨_, rfl, rfl⟩, fun _ v _ _ _ => fV3_eq v _ _ _ _⟩
def r3_189 : RO tf3 := ⟨.t [.o5, .o7, .o2], fun F => F.f.h.c, fun _ => rfl⟩
noncomputable def p3_190 (F : X3) : V3 := N8.rec (motive := fun _ => V3) (fun a0 b0 c0 d0 e0 f0 g0 h0 => N8.rec (motive := fun _ => V3) (fun a1 b1 c1 d1 e1 f1 g1 h1 => N8.rec (motive := fun _ => V3) (fun a2 b2 _ d2 e2 f2 g2 h2 v k Ds H => k ⟨a0, b0, c0, d0, e0, f0, ⟨a1, b1, c1, d1, e1, f1, g1, ⟨a2, b2, v, d2, e2, f2, g2, h2⟩⟩, h0⟩ Ds H) h1) g0) F
noncomputable def s3_190 : Slot tf3 := ⟨[.o6, .o7, .o2], p3_190, fun F v => fV3 v (p3_190 F), fun _ _ _ _ _ => ⟨_, rfl, rfl⟩, fun _ v _ _ _ => fV3_eq v _ _ _ _⟩
def r3_190 : RO tf3 := ⟨.t [.o6, .o7, .o2], fun F => F.g.h.c, fun _ => rfl⟩
noncomputable def p3_191 (F : X3) : V3 := N8.rec (motive := fun _ => V3) (fun a0 b0 c0 d0 e0 f0 g0 h0 => N8.rec (motive := fun _ => V3) (fun a1 b1 c1 d1 e1 f1 g1 h1 => N8.rec (motive := fun _ => V3) (fun a2 b2 _ d2 e2 f2 g2 h2 v k Ds H => k ⟨a0, b0, c0, d0, e0, f0, g0, ⟨a1, b1, c1, d1, e1, f1, g1, ⟨a2, b2, v, d2, e2, f2, g2, h2⟩⟩⟩ Ds H) h1) h0) F
noncomputable def s3_191 : Slot tf3 := ⟨[.o7, .o7, .o2], p3_191, fun F v => fV3 v (p3_191 F), fun _ _ _ _ _ => ⟨_, rfl, rfl⟩, fun _ v _ _ _ => fV3_eq v _ _ _ _⟩
def r3_191 : RO tf3 := ⟨.t [.o7, .o7, .o2], fun F => F.h.h.c, fun _ => rfl⟩
noncomputable def p3_192 (F : X3) : V3 := N8.rec (motive := fun _ => V3) (fun a0 b0 c0 d0 e0 f0 g0 h0 => N8.rec (motive := fun _ => V3) (fun a1 b1 c1 d1 e1 f1 g1 h1 => N8.rec (motive := fun _ => V3) (fun a2 b2 c2 _ e2 f2 g2 h2 v k Ds H => k ⟨⟨⟨a2, b2, c2, v, e2, f2, g2, h2⟩, b1, c1, d1, e1, f1, g1, h1⟩, b0, c0, d0, e0, f0, g0, h0⟩ Ds H) a1) a0) F
noncomputable def s3_192 : Slot tf3 := ⟨[.o0, .o0, .o3], p3_192, fun F v => fV3 v (p3_192 F), fun _ _ _ _ _ => ⟨_, rfl, rfl⟩, fun _ v _ _ _ => fV3_eq v _ _ _ _⟩
def r3_192 : RO tf3 := ⟨.t [.o0, .o0, .o3], fun F => F.a.a.d, fun _ => rfl⟩
noncomputable def p3_193 (F : X3) : V3 := N8.rec (motive := fun _ => V3) (fun a0 b0 c0 d0 e0 f0 g0 h0 => N8.rec (motive := fun _ => V3) (fun a1 b1 c1 d1 e1 f1 g1 h1 => N8.rec (motive := fun _ => V3) (fun a2 b2 c2 _ e2 f2 g2 h2 v k Ds H => k ⟨a0, ⟨⟨a2, b2, c2, v, e2, f2, g2, h2⟩, b1, c1, d1, e1, f1, g1, h1⟩, c0, d0, e0, f0, g0, h0⟩ Ds H) a1) b0) F
noncomputable def s3_193 : Slot tf3 := ⟨[.o1, .o0, .o3], p3_193, fun F v => fV3 v (p3_193 F), fun _ _ _ _ _ => ⟨_, rfl, rfl⟩, fun _ v _ _ _ => fV3_eq v _ _ _ _⟩
def r3_193 : RO tf3 := ⟨.t [.o1, .o0, .o3], fun F => F.b.a.d, fun _ => rfl⟩
noncomputable def p3_194 (F : X3) : V3 := N8.rec (motive := fun _ => V3) (fun a0 b0 c0 d0 e0 f0 g0 h0 => N8.rec (motive := fun _ => V3) (fun a1 b1 c1 d1 e1 f1 g1 h1 => N8.rec (motive := fun _ => V3) (fun a2 b2 c2 _ e2 f2 g2 h2 v k Ds H => k ⟨a0, b0, ⟨⟨a2, b2, c2, v, e2, f2, g2, h2⟩, b1, c1, d1, e1, f1, g1, h1⟩, d0, e0, f0, g0, h0⟩ Ds H) a1) c0) F
noncomputable def s3_194 : Slot tf3 := ⟨[.o2, .o0, .o3], p3_194, fun F v => fV3 v (p3_194 F), fun _ _ _ _ _ => ⟨_, rfl, rfl⟩, fun _ v _ _ _ => fV3_eq v _ _ _ _⟩
def r3_194 : RO tf3 := ⟨.t [.o2, .o0, .o3], fun F => F.c.a.d, fun _ => rfl⟩
noncomputable def p3_195 (F : X3) : V3 := N8.rec (motive := fun _ => V3) (fun a0 b0 c0 d0 e0 f0 g0 h0 => N8.rec (motive := fun _ => V3) (fun a1 b1 c1 d1 e1 f1 g1 h1 => N8.rec (motive := fun _ => V3) (fun a2 b2 c2 _ e2 f2 g2 h2 v k Ds H => k ⟨a0, b0, c0, ⟨⟨a2, b2, c2, v, e2, f2, g2, h2⟩, b1, c1, d1, e1, f1, g1, h1⟩, e0, f0, g0, h0⟩ Ds H) a1) d0) F
noncomputable def s3_195 : Slot tf3 := ⟨[.o3, .o0, .o3], p3_195, fun F v => fV3 v (p3_195 F), fun _ _ _ _ _ => ⟨_, rfl, rfl⟩, fun _ v _ _ _ => fV3_eq v _ _ _ _⟩
def r3_195 : RO tf3 := ⟨.t [.o3, .o0, .o3], fun F => F.d.a.d, fun _ => rfl⟩
noncomputable def p3_196 (F : X3) : V3 := N8.rec (motive := fun _ => V3) (fun a0 b0 c0 d0 e0 f0 g0 h0 => N8.rec (motive := fun _ => V3) (fun a1 b1 c1 d1 e1 f1 g1 h1 => N8.rec (motive := fun _ => V3) (fun a2 b2 c2 _ e2 f2 g2 h2 v k Ds H => k ⟨a0, b0, c0, d0, ⟨⟨a2, b2, c2, v, e2, f2, g2, h2⟩, b1, c1, d1, e1, f1, g1, h1⟩, f0, g0, h0⟩ Ds H) a1) e0) F
noncomputable def s3_196 : Slot tf3 := ⟨[.o4, .o0, .o3], p3_196, fun F v => fV3 v (p3_196 F), fun _ _ _ _ _ => ⟨_, rfl, rfl⟩, fun _ v _ _ _ => fV3_eq v _ _ _ _⟩
def r3_196 : RO tf3 := ⟨.t [.o4, .o0, .o3], fun F => F.e.a.d, fun _ => rfl⟩
noncomputable def p3_197 (F : X3) : V3 := N8.rec (motive := fun _ => V3) (fun a0 b0 c0 d0 e0 f0 g0 h0 => N8.rec (motive := fun _ => V3) (fun a1 b1 c1 d1 e1 f1 g1 h1 => N8.rec (motive := fun _ => V3) (fun a2 b2 c2 _ e2 f2 g2 h2 v k Ds H => k ⟨a0, b0, c0, d0, e0, ⟨⟨a2, b2, c2, v, e2, f2, g2, h2⟩, b1, c1, d1, e1, f1, g1, h1⟩, g0, h0⟩ Ds H) a1) f0) F
noncomputable def s3_197 : Slot tf3 := ⟨[.o5, .o0, .o3], p3_197, fun F v => fV3 v (p3_197 F), fun _ _ _ _ _ => ⟨_, rfl, rfl⟩, fun _ v _ _ _ => fV3_eq v _ _ _ _⟩
def r3_197 : RO tf3 := ⟨.t [.o5, .o0, .o3], fun F => F.f.a.d, fun _ => rfl⟩
noncomputable def p3_198 (F : X3) : V3 := N8.rec (motive := fun _ => V3) (fun a0 b0 c0 d0 e0 f0 g0 h0 => N8.rec (motive := fun _ => V3) (fun a1 b1 c1 d1 e1 f1 g1 h1 => N8.rec (motive := fun _ => V3) (fun a2 b2 c2 _ e2 f2 g2 h2 v k Ds H => k ⟨a0, b0, c0, d0, e0, f0, ⟨⟨a2, b2, c2, v, e2, f2, g2, h2⟩, b1, c1, d1, e1, f1, g1, h1⟩, h0⟩ Ds H) a1) g0) F
noncomputable def s3_198 : Slot tf3 := ⟨[.o6, .o0, .o3], p3_198, fun F v => fV3 v (p3_198 F), fun _ _ _ _ _ => ⟨_, rfl, rfl⟩, fun _ v _ _ _ => fV3_eq v _ _ _ _⟩
def r3_198 : RO tf3 := ⟨.t [.o6, .o0, .o3], fun F => F.g.a.d, fun _ => rfl⟩
noncomputable def p3_199 (F : X3) : V3 := N8.rec (motive := fun _ => V3) (fun a0 b0 c0 d0 e0 f0 g0 h0 => N8.rec (motive := fun _ => V3) (fun a1 b1 c1 d1 e1 f1 g1 h1 => N8.rec (motive := fun _ => V3) (fun a2 b2 c2 _ e2 f2 g2 h2 v k Ds H => k ⟨a0, b0, c0, d0, e0, f0, g0, ⟨⟨a2, b2, c2, v, e2, f2, g2, h2⟩, b1, c1, d1, e1, f1, g1, h1⟩⟩ Ds H) a1) h0) F
noncomputable def s3_199 : Slot tf3 := ⟨[.o7, .o0, .o3], p3_199, fun F v => fV3 v (p3_199 F), fun _ _ _ _ _ => ⟨_, rfl, rfl⟩, fun _ v _ _ _ => fV3_eq v _ _ _ _⟩
def r3_199 : RO tf3 := ⟨.t [.o7, .o0, .o3], fun F => F.h.a.d, fun _ => rfl⟩
noncomputable def p3_200 (F : X3) : V3 := N8.rec (motive := fun _ => V3) (fun a0 b0 c0 d0 e0 f0 g0 h0 => N8.rec (motive := fun _ => V3) (fun a1 b1 c1 d1 e1 f1 g1 h1 => N8.rec (motive := fun _ => V3) (fun a2 b2 c2 _ e2 f2 g2 h2 v k Ds H => k ⟨⟨a1, ⟨a2, b2, c2, v, e2, f2, g2, h2⟩, c1, d1, e1, f1, g1, h1⟩, b0, c0, d0, e0, f0, g0, h0⟩ Ds H) b1) a0) F
noncomputable def s3_200 : Slot tf3 := ⟨[.o0, .o1, .o3], p3_200, fun F v => fV3 v (p3_200 F), fun _ _ _ _ _ => ⟨_, rfl, rfl⟩, fun _ v _ _ _ => fV3_eq v _ _ _ _⟩
def r3_200 : RO tf3 := ⟨.t [.o0, .o1, .o3], fun F => F.a.b.d, fun _ => rfl⟩
noncomputable def p3_201 (F : X3) : V3 := N8.rec (motive := fun _ => V3) (fun a0 b0 c0 d0 e0 f0 g0 h0 => N8.rec (motive := fun _ => V3) (fun a1 b1 c1 d1 e1 f1 g1 h1 => N8.rec (motive := fun _ => V3) (fun a2 b2 c2 _ e2 f2 g2 h2 v k Ds H => k ⟨a0, ⟨a1, ⟨a2, b2, c2, v, e2, f2, g2, h2⟩, c1, d1, e1, f1, g1, h1⟩, c0, d0, e0, f0, g0, h0⟩ Ds H) b1) b0) F
noncomputable def s3_201 : Slot tf3 := ⟨[.o1, .o1, .o3], p3_201, fun F v => fV3 v (p3_201 F), fun _ _ _ _ _ => ⟨_, rfl, rfl⟩, fun _ v _ _ _ => fV3_eq v _ _ _ _⟩
def r3_201 : RO tf3 := ⟨.t [.o1, .o1, .o3], fun F => F.b.b.d, fun _ => rfl⟩
noncomputable def p3_202 (F : X3) : V3 := N8.rec (motive := fun _ => V3) (fun a0 b0 c0 d0 e0 f0 g0 h0 => N8.rec (motive := fun _ => V3) (fun a1 b1 c1 d1 e1 f1 g1 h1 => N8.rec (motive := fun _ => V3) (fun a2 b2 c2 _ e2 f2 g2 h2 v k Ds H => k ⟨a0, b0, ⟨a1, ⟨a2, b2, c2, v, e2, f2, g2, h2⟩, c1, d1, e1, f1, g1, h1⟩, d0, e0, f0, g0, h0⟩ Ds H) b1) c0) F
noncomputable def s3_202 : Slot tf3 := ⟨[.o2, .o1, .o3], p3_202, fun F v => fV3 v (p3_202 F), fun _ _ _ _ _ => ⟨_, rfl, rfl⟩, fun _ v _ _ _ => fV3_eq v _ _ _ _⟩
def r3_202 : RO tf3 := ⟨.t [.o2, .o1, .o3], fun F => F.c.b.d, fun _ => rfl⟩
noncomputable def p3_203 (F : X3) : V3 := N8.rec (motive := fun _ => V3) (fun a0 b0 c0 d0 e0 f0 g0 h0 => N8.rec (motive := fun _ => V3) (fun a1 b1 c1 d1 e1 f1 g1 h1 => N8.rec (motive := fun _ => V3) (fun a2 b2 c2 _ e2 f2 g2 h2 v k Ds H => k ⟨a0, b0, c0, ⟨a1, ⟨a2, b2, c2, v, e2, f2, g2, h2⟩, c1, d1, e1, f1, g1, h1⟩, e0, f0, g0, h0⟩ Ds H) b1) d0) F
noncomputable def s3_203 : Slot tf3 := ⟨[.o3, .o1, .o3], p3_203, fun F v => fV3 v (p3_203 F), fun _ _ _ _ _ => ⟨_, rfl, rfl⟩, fun _ v _ _ _ => fV3_eq v _ _ _ _⟩
def r3_203 : RO tf3 := ⟨.t [.o3, .o1, .o3], fun F => F.d.b.d, fun _ => rfl⟩
noncomputable def p3_204 (F : X3) : V3 := N8.rec (motive := fun _ => V3) (fun a0 b0 c0 d0 e0 f0 g0 h0 => N8.rec (motive := fun _ => V3) (fun a1 b1 c1 d1 e1 f1 g1 h1 => N8.rec (motive := fun _ => V3) (fun a2 b2 c2 _ e2 f2 g2 h2 v k Ds H => k ⟨a0, b0, c0, d0, ⟨a1, ⟨a2, b2, c2, v, e2, f2, g2, h2⟩, c1, d1, e1, f1, g1, h1⟩, f0, g0, h0⟩ Ds H) b1) e0) F
noncomputable def s3_204 : Slot tf3 := ⟨[.o4, .o1, .o3], p3_204, fun F v => fV3 v (p3_204 F), fun _ _ _ _ _ => ⟨_, rfl, rfl⟩, fun _ v _ _ _ => fV3_eq v _ _ _ _⟩
def r3_204 : RO tf3 := ⟨.t [.o4, .o1, .o3], fun F => F.e.b.d, fun _ => rfl⟩
noncomputable def p3_205 (F : X3) : V3 := N8.rec (motive := fun _ => V3) (fun a0 b0 c0 d0 e0 f0 g0 h0 => N8.rec (motive := fun _ => V3) (fun a1 b1 c1 d1 e1 f1 g1 h1 => N8.rec (motive := fun _ => V3) (fun a2 b2 c2 _ e2 f2 g2 h2 v k Ds H => k ⟨a0, b0, c0, d0, e0, ⟨a1, ⟨a2, b2, c2, v, e2, f2, g2, h2⟩, c1, d1, e1, f1, g1, h1⟩, g0, h0⟩ Ds H) b1) f0) F
noncomputable def s3_205 : Slot tf3 := ⟨[.o5, .o1, .o3], p3_205, fun F v => fV3 v (p3_205 F), fun _ _ _ _ _ => ⟨_, rfl, rfl⟩, fun _ v _ _ _ => fV3_eq v _ _ _ _⟩
def r3_205 : RO tf3 := ⟨.t [.o5, .o1, .o3], fun F => F.f.b.d, fun _ => rfl⟩
noncomputable def p3_206 (F : X3) : V3 := N8.rec (motive := fun _ => V3) (fun a0 b0 c0 d0 e0 f0 g0 h0 => N8.rec (motive := fun _ => V3) (fun a1 b1 c1 d1 e1 f1 g1 h1 => N8.rec (motive := fun _ => V3) (fun a2 b2 c2 _ e2 f2 g2 h2 v k Ds H => k ⟨a0, b0, c0, d0, e0, f0, ⟨a1, ⟨a2, b2, c2, v, e2, f2, g2, h2⟩, c1, d1, e1, f1, g1, h1⟩, h0⟩ Ds H) b1) g0) F
noncomputable def s3_206 : Slot tf3 := ⟨[.o6, .o1, .o3], p3_206, fun F v => fV3 v (p3_206 F), fun _ _ _ _ _ => ⟨_, rfl, rfl⟩, fun _ v _ _ _ => fV3_eq v _ _ _ _⟩
def r3_206 : RO tf3 := ⟨.t [.o6, .o1, .o3], fun F => F.g.b.d, fun _ => rfl⟩
noncomputable def p3_207 (F : X3) : V3 := N8.rec (motive := fun _ => V3) (fun a0 b0 c0 d0 e0 f0 g0 h0 => N8.rec (motive := fun _ => V3) (fun a1 b1 c1 d1 e1 f1 g1 h1 => N8.rec (motive := fun _ => V3) (fun a2 b2 c2 _ e2 f2 g2 h2 v k Ds H => k ⟨a0, b0, c0, d0, e0, f0, g0, ⟨a1, ⟨a2, b2, c2, v, e2, f2, g2, h2⟩, c1, d1, e1, f1, g1, h1⟩⟩ Ds H) b1) h0) F
noncomputable def s3_207 : Slot tf3 := ⟨[.o7, .o1, .o3], p3_207, fun F v => fV3 v (p3_207 F), fun _ _ _ _ _ => ⟨_, rfl, rfl⟩, fun _ v _ _ _ => fV3_eq v _ _ _ _⟩
def r3_207 : RO tf3 := ⟨.t [.o7, .o1, .o3], fun F => F.h.b.d, fun _ => rfl⟩
noncomputable def p3_208 (F : X3) : V3 := N8.rec (motive := fun _ => V3) (fun a0 b0 c0 d0 e0 f0 g0 h0 => N8.rec (motive := fun _ => V3) (fun a1 b1 c1 d1 e1 f1 g1 h1 => N8.rec (motive := fun _ => V3) (fun a2 b2 c2 _ e2 f2 g2 h2 v k Ds H => k ⟨⟨a1, b1, ⟨a2, b2, c2, v, e2, f2, g2, h2⟩, d1, e1, f1, g1, h1⟩, b0, c0, d0, e0, f0, g0, h0⟩ Ds H) c1) a0) F
noncomputable def s3_208 : Slot tf3 := ⟨[.o0, .o2, .o3], p3_208, fun F v => fV3 v (p3_208 F), fun _ _ _ _ _ => ⟨_, rfl, rfl⟩, fun _ v _ _ _ => fV3_eq v _ _ _ _⟩
def r3_208 : RO tf3 := ⟨.t [.o0, .o2, .o3], fun F => F.a.c.d, fun _ => rfl⟩
noncomputable def p3_209 (F : X3) : V3 := N8.rec (motive := fun _ => V3) (fun a0 b0 c0 d0 e0 f0 g0 h0 => N8.rec (motive := fun _ => V3) (fun a1 b1 c1 d1 e1 f1 g1 h1 => N8.rec (motive := fun _ => V3) (fun a2 b2 c2 _ e2 f2 g2 h2 v k Ds H => k ⟨a0, ⟨a1, b1, ⟨a2, b2, c2, v, e2, f2, g2, h2⟩, d1, e1, f1, g1, h1⟩, c0, d0, e0, f0, g0, h0⟩ Ds H) c1) b0) F
noncomputable def s3_209 : Slot tf3 := ⟨[.o1, .o2, .o3], p3_209, fun F v => fV3 v (p3_209 F), fun _ _ _ _ _ => ⟨_, rfl, rfl⟩, fun _ v _ _ _ => fV3_eq v _ _ _ _⟩
def r3_209 : RO tf3 := ⟨.t [.o1, .o2, .o3], fun F => F.b.c.d, fun _ => rfl⟩
noncomputable def p3_210 (F : X3) : V3 := N8.rec (motive := fun _ => V3) (fun a0 b0 c0 d0 e0 f0 g0 h0 => N8.rec (motive := fun _ => V3) (fun a1 b1 c1 d1 e1 f1 g1 h1 => N8.rec (motive := fun _ => V3) (fun a2 b2 c2 _ e2 f2 g2 h2 v k Ds H => k ⟨a0, b0, ⟨a1, b1, ⟨a2, b2, c2, v, e2, f2, g2, h2⟩, d1, e1, f1, g1, h1⟩, d0, e0, f0, g0, h0⟩ Ds H) c1) c0) F
noncomputable def s3_210 : Slot tf3 := ⟨[.o2, .o2, .o3], p3_210, fun F v => fV3 v (p3_210 F), fun _ _ _ _ _ => ⟨_, rfl, rfl⟩, fun _ v _ _ _ => fV3_eq v _ _ _ _⟩
def r3_210 : RO tf3 := ⟨.t [.o2, .o2, .o3], fun F => F.c.c.d, fun _ => rfl⟩
noncomputable def p3_211 (F : X3) : V3 := N8.rec (motive := fun _ => V3) (fun a0 b0 c0 d0 e0 f0 g0 h0 => N8.rec (motive := fun _ => V3) (fun a1 b1 c1 d1 e1 f1 g1 h1 => N8.rec (motive := fun _ => V3) (fun a2 b2 c2 _ e2 f2 g2 h2 v k Ds H => k ⟨a0, b0, c0, ⟨a1, b1, ⟨a2, b2, c2, v, e2, f2, g2, h2⟩, d1, e1, f1, g1, h1⟩, e0, f0, g0, h0⟩ Ds H) c1) d0) F
noncomputable def s3_211 : Slot tf3 := ⟨[.o3, .o2, .o3], p3_211, fun F v => fV3 v (p3_211 F), fun _ _ _ _ _ => ⟨_, rfl, rfl⟩, fun _ v _ _ _ => fV3_eq v _ _ _ _⟩
def r3_211 : RO tf3 := ⟨.t [.o3, .o2, .o3], fun F => F.d.c.d, fun _ => rfl⟩
noncomputable def p3_212 (F : X3) : V3 := N8.rec (motive := fun _ => V3) (fun a0 b0 c0 d0 e0 f0 g0 h0 => N8.rec (motive := fun _ => V3) (fun a1 b1 c1 d1 e1 f1 g1 h1 => N8.rec (motive := fun _ => V3) (fun a2 b2 c2 _ e2 f2 g2 h2 v k Ds H => k ⟨a0, b0, c0, d0, ⟨a1, b1, ⟨a2, b2, c2, v, e2, f2, g2, h2⟩, d1, e1, f1, g1, h1⟩, f0, g0, h0⟩ Ds H) c1) e0) F
noncomputable def s3_212 : Slot tf3 := ⟨[.o4, .o2, .o3], p3_212, fun F v => fV3 v (p3_212 F), fun _ _ _ _ _ => ⟨_, rfl, rfl⟩, fun _ v _ _ _ => fV3_eq v _ _ _ _⟩
def r3_212 : RO tf3 := ⟨.t [.o4, .o2, .o3], fun F => F.e.c.d, fun _ => rfl⟩
noncomputable def p3_213 (F : X3) : V3 := N8.rec (motive := fun _ => V3) (fun a0 b0 c0 d0 e0 f0 g0 h0 => N8.rec (motive := fun _ => V3) (fun a1 b1 c1 d1 e1 f1 g1 h1 => N8.rec (motive := fun _ => V3) (fun a2 b2 c2 _ e2 f2 g2 h2 v k Ds H => k ⟨a0, b0, c0, d0, e0, ⟨a1, b1, ⟨a2, b2, c2, v, e2, f2, g2, h2⟩, d1, e1, f1, g1, h1⟩, g0, h0⟩ Ds H) c1) f0) F
noncomputable def s3_213 : Slot tf3 := ⟨[.o5, .o2, .o3], p3_213, fun F v => fV3 v (p3_213 F), fun _ _ _ _ _ => ⟨_, rfl, rfl⟩, fun _ v _ _ _ => fV3_eq v _ _ _ _⟩
def r3_213 : RO tf3 := ⟨.t [.o5, .o2, .o3], fun F => F.f.c.d, fun _ => rfl⟩
noncomputable def p3_214 (F : X3) : V3 := N8.rec (motive := fun _ => V3) (fun a0 b0 c0 d0 e0 f0 g0 h0 => N8.rec (motive := fun _ => V3) (fun a1 b1 c1 d1 e1 f1 g1 h1 => N8.rec (motive := fun _ => V3) (fun a2 b2 c2 _ e2 f2 g2 h2 v k Ds H => k ⟨a0, b0, c0, d0, e0, f0, ⟨a1, b1, ⟨a2, b2, c2, v, e2, f2, g2, h2⟩, d1, e1, f1, g1, h1⟩, h0⟩ Ds H) c1) g0) F
noncomputable def s3_214 : Slot tf3 := ⟨[.o6, .o2, .o3], p3_214, fun F v => fV3 v (p3_214 F), fun _ _ _ _ _ => ⟨_, rfl, rfl⟩, fun _ v _ _ _ => fV3_eq v _ _ _ _⟩
def r3_214 : RO tf3 := ⟨.t [.o6, .o2, .o3], fun F => F.g.c.d, fun _ => rfl⟩
noncomputable def p3_215 (F : X3) : V3 := N8.rec (motive := fun _ => V3) (fun a0 b0 c0 d0 e0 f0 g0 h0 => N8.rec (motive := fun _ => V3) (fun a1 b1 c1 d1 e1 f1 g1 h1 => N8.rec (motive := fun _ => V3) (fun a2 b2 c2 _ e2 f2 g2 h2 v k Ds H => k ⟨a0, b0, c0, d0, e0, f0, g0, ⟨a1, b1, ⟨a2, b2, c2, v, e2, f2, g2, h2⟩, d1, e1, f1, g1, h1⟩⟩ Ds H) c1) h0) F
noncomputable def s3_215 : Slot tf3 := ⟨[.o7, .o2, .o3], p3_215, fun F v => fV3 v (p3_215 F), fun _ _ _ _ _ => ⟨_, rfl, rfl⟩, fun _ v _ _ _ => fV3_eq v _ _ _ _⟩
def r3_215 : RO tf3 := ⟨.t [.o7, .o2, .o3], fun F => F.h.c.d, fun _ => rfl⟩
noncomputable def p3_216 (F : X3) : V3 := N8.rec (motive := fun _ => V3) (fun a0 b0 c0 d0 e0 f0 g0 h0 => N8.rec (motive := fun _ => V3) (fun a1 b1 c1 d1 e1 f1 g1 h1 => N8.rec (motive := fun _ => V3) (fun a2 b2 c2 _ e2 f2 g2 h2 v k Ds H => k ⟨⟨a1, b1, c1, ⟨a2, b2, c2, v, e2, f2, g2, h2⟩, e1, f1, g1, h1⟩, b0, c0, d0, e0, f0, g0, h0⟩ Ds H) d1) a0) F
noncomputable def s3_216 : Slot tf3 := ⟨[.o0, .o3, .o3], p3_216, fun F v => fV3 v (p3_216 F), fun _ _ _ _ _ => ⟨_, rfl, rfl⟩, fun _ v _ _ _ => fV3_eq v _ _ _ _⟩
def r3_216 : RO tf3 := ⟨.t [.o0, .o3, .o3], fun F => F.a.d.d, fun _ => rfl⟩
noncomputable def p3_217 (F : X3) : V3 := N8.rec (motive := fun _ => V3) (fun a0 b0 c0 d0 e0 f0 g0 h0 => N8.rec (motive := fun _ => V3) (fun a1 b1 c1 d1 e1 f1 g1 h1 => N8.rec (motive := fun _ => V3) (fun a2 b2 c2 _ e2 f2 g2 h2 v k Ds H => k ⟨a0, ⟨a1, b1, c1, ⟨a2, b2, c2, v, e2, f2, g2, h2⟩, e1, f1, g1, h1⟩, c0, d0, e0, f0, g0, h0⟩ Ds H) d1) b0) F
noncomputable def s3_217 : Slot tf3 := ⟨[.o1, .o3, .o3], p3_217, fun F v => fV3 v (p3_217 F), fun _ _ _ _ _ => ⟨_, rfl, rfl⟩, fun _ v _ _ _ => fV3_eq v _ _ _ _⟩
def r3_217 : RO tf3 := ⟨.t [.o1, .o3, .o3], fun F => F.b.d.d, fun _ => rfl⟩
noncomputable def p3_218 (F : X3) : V3 := N8.rec (motive := fun _ => V3) (fun a0 b0 c0 d0 e0 f0 g0 h0 => N8.rec (motive := fun _ => V3) (fun a1 b1 c1 d1 e1 f1 g1 h1 => N8.rec (motive := fun _ => V3) (fun a2 b2 c2 _ e2 f2 g2 h2 v k Ds H => k ⟨a0, b0, ⟨a1, b1, c1, ⟨a2, b2, c2, v, e2, f2, g2, h2⟩, e1, f1, g1, h1⟩, d0, e0, f0, g0, h0⟩ Ds H) d1) c0) F
noncomputable def s3_218 : Slot tf3 := ⟨[.o2, .o3, .o3], p3_218, fun F v => fV3 v (p3_218 F), fun _ _ _ _ _ => ⟨_, rfl, rfl⟩, fun _ v _ _ _ => fV3_eq v _ _ _ _⟩
def r3_218 : RO tf3 := ⟨.t [.o2, .o3, .o3], fun F => F.c.d.d, fun _ => rfl⟩
noncomputable def p3_219 (F : X3) : V3 := N8.rec (motive := fun _ => V3) (fun a0 b0 c0 d0 e0 f0 g0 h0 => N8.rec (motive := fun _ => V3) (fun a1 b1 c1 d1 e1 f1 g1 h1 => N8.rec (motive := fun _ => V3) (fun a2 b2 c2 _ e2 f2 g2 h2 v k Ds H => k ⟨a0, b0, c0, ⟨a1, b1, c1, ⟨a2, b2, c2, v, e2, f2, g2, h2⟩, e1, f1, g1, h1⟩, e0, f0, g0, h0⟩ Ds H) d1) d0) F
noncomputable def s3_219 : Slot tf3 := ⟨[.o3, .o3, .o3], p3_219, fun F v => fV3 v (p3_219 F), fun _ _ _ _ _ => ⟨_, rfl, rfl⟩, fun _ v _ _ _ => fV3_eq v _ _ _ _⟩
def r3_219 : RO tf3 := ⟨.t [.o3, .o3, .o3], fun F => F.d.d.d, fun _ => rfl⟩
noncomputable def p3_220 (F : X3) : V3 := N8.rec (motive := fun _ => V3) (fun a0 b0 c0 d0 e0 f0 g0 h0 => N8.rec (motive := fun _ => V3) (fun a1 b1 c1 d1 e1 f1 g1 h1 => N8.rec (motive := fun _ => V3) (fun a2 b2 c2 _ e2 f2 g2 h2 v k Ds H => k ⟨a0, b0, c0, d0, ⟨a1, b1, c1, ⟨a2, b2, c2, v, e2, f2, g2, h2⟩, e1, f1, g1, h1⟩, f0, g0, h0⟩ Ds H) d1) e0) F
noncomputable def s3_220 : Slot tf3 := ⟨[.o4, .o3, .o3], p3_220, fun F v => fV3 v (p3_220 F), fun _ _ _ _ _ => ⟨_, rfl, rfl⟩, fun _ v _ _ _ => fV3_eq v _ _ _ _⟩
def r3_220 : RO tf3 := ⟨.t [.o4, .o3, .o3], fun F => F.e.d.d, fun _ => rfl⟩
noncomputable def p3_221 (F : X3) : V3 := N8.rec (motive := fun _ => V3) (fun a0 b0 c0 d0 e0 f0 g0 h0 => N8.rec (motive := fun _ => V3) (fun a1 b1 c1 d1 e1 f1 g1 h1 => N8.rec (motive := fun _ => V3) (fun a2 b2 c2 _ e2 f2 g2 h2 v k Ds H => k ⟨a0, b0, c0, d0, e0, ⟨a1, b1, c1, ⟨a2, b2, c2, v, e2, f2, g2, h2⟩, e1, f1, g1, h1⟩, g0, h0⟩ Ds H) d1) f0) F
noncomputable def s3_221 : Slot tf3 := ⟨[.o5, .o3, .o3], p3_221, fun F v => fV3 v (p3_221 F), fun _ _ _ _ _ => ⟨_, rfl, rfl⟩, fun _ v _ _ _ => fV3_eq v _ _ _ _⟩
def r3_221 : RO tf3 := ⟨.t [.o5, .o3, .o3], fun F => F.f.d.d, fun _ => rfl⟩
noncomputable def p3_222 (F : X3) : V3 := N8.rec (motive := fun _ => V3) (fun a0 b0 c0 d0 e0 f0 g0 h0 => N8.rec (motive := fun _ => V3) (fun a1 b1 c1 d1 e1 f1 g1 h1 => N8.rec (motive := fun _ => V3) (fun a2 b2 c2 _ e2 f2 g2 h2 v k Ds H => k ⟨a0, b0, c0, d0, e0, f0, ⟨a1, b1, c1, ⟨a2, b2, c2, v, e2, f2, g2, h2⟩, e1, f1, g1, h1⟩, h0⟩ Ds H) d1) g0) F
noncomputable def s3_222 : Slot tf3 := ⟨[.o6, .o3, .o3], p3_222, fun F v => fV3 v (p3_222 F), fun _ _ _ _ _ => ⟨_, rfl, rfl⟩, fun _ v _ _ _ => fV3_eq v _ _ _ _⟩
def r3_222 : RO tf3 := ⟨.t [.o6, .o3, .o3], fun F => F.g.d.d, fun _ => rfl⟩
noncomputable def p3_223 (F : X3) : V3 := N8.rec (motive := fun _ => V3) (fun a0 b0 c0 d0 e0 f0 g0 h0 => N8.rec (motive := fun _ => V3) (fun a1 b1 c1 d1 e1 f1 g1 h1 => N8.rec (motive := fun _ => V3) (fun a2 b2 c2 _ e2 f2 g2 h2 v k Ds H => k ⟨a0, b0, c0, d0, e0, f0, g0, ⟨a1, b1, c1, ⟨a2, b2, c2, v, e2, f2, g2, h2⟩, e1, f1, g1, h1⟩⟩ Ds H) d1) h0) F
noncomputable def s3_223 : Slot tf3 := ⟨[.o7, .o3, .o3], p3_223, fun F v => fV3 v (p3_223 F), fun _ _ _ _ _ => ⟨_, rfl, rfl⟩, fun _ v _ _ _ => fV3_eq v _ _ _ _⟩
def r3_223 : RO tf3 := ⟨.t [.o7, .o3, .o3], fun F => F.h.d.d, fun _ => rfl⟩
noncomputable def p3_224 (F : X3) : V3 := N8.rec (motive := fun _ => V3) (fun a0 b0 c0 d0 e0 f0 g0 h0 => N8.rec (motive := fun _ => V3) (fun a1 b1 c1 d1 e1 f1 g1 h1 => N8.rec (motive := fun _ => V3) (fun a2 b2 c2 _ e2 f2 g2 h2 v k Ds H => k ⟨⟨a1, b1, c1, d1, ⟨a2, b2, c2, v, e2, f2, g2, h2⟩, f1, g1, h1⟩, b0, c0, d0, e0, f0, g0, h0⟩ Ds H) e1) a0) F
noncomputable def s3_224 : Slot tf3 := ⟨[.o0, .o4, .o3], p3_224, fun F v => fV3 v (p3_224 F), fun _ _ _ _ _ => ⟨_, rfl, rfl⟩, fun _ v _ _ _ => fV3_eq v _ _ _ _⟩
def r3_224 : RO tf3 := ⟨.t [.o0, .o4, .o3], fun F => F.a.e.d, fun _ => rfl⟩
noncomputable def p3_225 (F : X3) : V3 := N8.rec (motive := fun _ => V3) (fun a0 b0 c0 d0 e0 f0 g0 h0 => N8.rec (motive := fun _ => V3) (fun a1 b1 c1 d1 e1 f1 g1 h1 => N8.rec (motive := fun _ => V3) (fun a2 b2 c2 _ e2 f2 g2 h2 v k Ds H => k ⟨a0, ⟨a1, b1, c1, d1, ⟨a2, b2, c2, v, e2, f2, g2, h2⟩, f1, g1, h1⟩, c0, d0, e0, f0, g0, h0⟩ Ds H) e1) b0) F
noncomputable def s3_225 : Slot tf3 := ⟨[.o1, .o4, .o3], p3_225, fun F v => fV3 v (p3_225 F), fun _ _ _ _ _ => ⟨_, rfl, rfl⟩, fun _ v _ _ _ => fV3_eq v _ _ _ _⟩
def r3_225 : RO tf3 := ⟨.t [.o1, .o4, .o3], fun F => F.b.e.d, fun _ => rfl⟩
noncomputable def p3_226 (F : X3) : V3 := N8.rec (motive := fun _ => V3) (fun a0 b0 c0 d0 e0 f0 g0 h0 => N8.rec (motive := fun _ => V3) (fun a1 b1 c1 d1 e1 f1 g1 h1 => N8.rec (motive := fun _ => V3) (fun a2 b2 c2 _ e2 f2 g2 h2 v k Ds H => k ⟨a0, b0, ⟨a1, b1, c1, d1, ⟨a2, b2, c2, v, e2, f2, g2, h2⟩, f1, g1, h1⟩, d0, e0, f0, g0, h0⟩ Ds H) e1) c0) F
noncomputable def s3_226 : Slot tf3 := ⟨[.o2, .o4, .o3], p3_226, fun F v => fV3 v (p3_226 F), fun _ _ _ _ _ => ⟨_, rfl, rfl⟩, fun _ v _ _ _ => fV3_eq v _ _ _ _⟩
def r3_226 : RO tf3 := ⟨.t [.o2, .o4, .o3], fun F => F.c.e.d, fun _ => rfl⟩
noncomputable def p3_227 (F : X3) : V3 := N8.rec (motive := fun _ => V3) (fun a0 b0 c0 d0 e0 f0 g0 h0 => N8.rec (motive := fun _ => V3) (fun a1 b1 c1 d1 e1 f1 g1 h1 => N8.rec (motive := fun _ => V3) (fun a2 b2 c2 _ e2 f2 g2 h2 v k Ds H => k ⟨a0, b0, c0, ⟨a1, b1, c1, d1, ⟨a2, b2, c2, v, e2, f2, g2, h2⟩, f1, g1, h1⟩, e0, f0, g0, h0⟩ Ds H) e1) d0) F
noncomputable def s3_227 : Slot tf3 := ⟨[.o3, .o4, .o3], p3_227, fun F v => fV3 v (p3_227 F), fun _ _ _ _ _ => ⟨_, rfl, rfl⟩, fun _ v _ _ _ => fV3_eq v _ _ _ _⟩
def r3_227 : RO tf3 := ⟨.t [.o3, .o4, .o3], fun F => F.d.e.d, fun _ => rfl⟩
noncomputable def p3_228 (F : X3) : V3 := N8.rec (motive := fun _ => V3) (fun a0 b0 c0 d0 e0 f0 g0 h0 => N8.rec (motive := fun _ => V3) (fun a1 b1 c1 d1 e1 f1 g1 h1 => N8.rec (motive := fun _ => V3) (fun a2 b2 c2 _ e2 f2 g2 h2 v k Ds H => k ⟨a0, b0, c0, d0, ⟨a1, b1, c1, d1, ⟨a2, b2, c2, v, e2, f2, g2, h2⟩, f1, g1, h1⟩, f0, g0, h0⟩ Ds H) e1) e0) F
noncomputable def s3_228 : Slot tf3 := ⟨[.o4, .o4, .o3], p3_228, fun F v => fV3 v (p3_228 F), fun _ _ _ _ _ => ⟨_, rfl, rfl⟩, fun _ v _ _ _ => fV3_eq v _ _ _ _⟩
def r3_228 : RO tf3 := ⟨.t [.o4, .o4, .o3], fun F => F.e.e.d, fun _ => rfl⟩
noncomputable def p3_229 (F : X3) : V3 := N8.rec (motive := fun _ => V3) (fun a0 b0 c0 d0 e0 f0 g0 h0 => N8.rec (motive := fun _ => V3) (fun a1 b1 c1 d1 e1 f1 g1 h1 => N8.rec (motive := fun _ => V3) (fun a2 b2 c2 _ e2 f2 g2 h2 v k Ds H => k ⟨a0, b0, c0, d0, e0, ⟨a1, b1, c1, d1, ⟨a2, b2, c2, v, e2, f2, g2, h2⟩, f1, g1, h1⟩, g0, h0⟩ Ds H) e1) f0) F
noncomputable def s3_229 : Slot tf3 := ⟨[.o5, .o4, .o3], p3_229, fun F v => fV3 v (p3_229 F), fun _ _ _ _ _ => ⟨_, rfl, rfl⟩, fun _ v _ _ _ => fV3_eq v _ _ _ _⟩
def r3_229 : RO tf3 := ⟨.t [.o5, .o4, .o3], fun F => F.f.e.d, fun _ => rfl⟩
noncomputable def p3_230 (F : X3) : V3 := N8.rec (motive := fun _ => V3) (fun a0 b0 c0 d0 e0 f0 g0 h0 => N8.rec (motive := fun _ => V3) (fun a1 b1 c1 d1 e1 f1 g1 h1 => N8.rec (motive := fun _ => V3) (fun a2 b2 c2 _ e2 f2 g2 h2 v k Ds H => k ⟨a0, b0, c0, d0, e0, f0, ⟨a1, b1, c1, d1, ⟨a2, b2, c2, v, e2, f2, g2, h2⟩, f1, g1, h1⟩, h0⟩ Ds H) e1) g0) F
noncomputable def s3_230 : Slot tf3 := ⟨[.o6, .o4, .o3], p3_230, fun F v => fV3 v (p3_230 F), fun _ _ _ _ _ => ⟨_, rfl, rfl⟩, fun _ v _ _ _ => fV3_eq v _ _ _ _⟩
def r3_230 : RO tf3 := ⟨.t [.o6, .o4, .o3], fun F => F.g.e.d, fun _ => rfl⟩
noncomputable def p3_231 (F : X3) : V3 := N8.rec (motive := fun _ => V3) (fun a0 b0 c0 d0 e0 f0 g0 h0 => N8.rec (motive := fun _ => V3) (fun a1 b1 c1 d1 e1 f1 g1 h1 => N8.rec (motive := fun _ => V3) (fun a2 b2 c2 _ e2 f2 g2 h2 v k Ds H => k ⟨a0, b0, c0, d0, e0, f0, g0, ⟨a1, b1, c1, d1, ⟨a2, b2, c2, v, e2, f2, g2, h2⟩, f1, g1, h1⟩⟩ Ds H) e1) h0) F
noncomputable def s3_231 : Slot tf3 := ⟨[.o7, .o4, .o3], p3_231, fun F v => fV3 v (p3_231 F), fun _ _ _ _ _ => ⟨_, rfl, rfl⟩, fun _ v _ _ _ => fV3_eq v _ _ _ _⟩
def r3_231 : RO tf3 := ⟨.t [.o7, .o4, .o3], fun F => F.h.e.d, fun _ => rfl⟩
noncomputable def p3_232 (F : X3) : V3 := N8.rec (motive := fun _ => V3) (fun a0 b0 c0 d0 e0 f0 g0 h0 => N8.rec (motive := fun _ => V3) (fun a1 b1 c1 d1 e1 f1 g1 h1 => N8.rec (motive := fun _ => V3) (fun a2 b2 c2 _ e2 f2 g2 h2 v k Ds H => k ⟨⟨a1, b1, c1, d1, e1, ⟨a2, b2, c2, v, e2, f2, g2, h2⟩, g1, h1⟩, b0, c0, d0, e0, f0, g0, h0⟩ Ds H) f1) a0) F
noncomputable def s3_232 : Slot tf3 := ⟨[.o0, .o5, .o3], p3_232, fun F v => fV3 v (p3_232 F), fun _ _ _ _ _ => ⟨_, rfl, rfl⟩, fun _ v _ _ _ => fV3_eq v _ _ _ _⟩
def r3_232 : RO tf3 := ⟨.t [.o0, .o5, .o3], fun F => F.a.f.d, fun _ => rfl⟩
noncomputable def p3_233 (F : X3) : V3 := N8.rec (motive := fun _ => V3) (fun a0 b0 c0 d0 e0 f0 g0 h0 => N8.rec (motive := fun _ => V3) (fun a1 b1 c1 d1 e1 f1 g1 h1 => N8.rec (motive := fun _ => V3) (fun a2 b2 c2 _ e2 f2 g2 h2 v k Ds H => k ⟨a0, ⟨a1, b1, c1, d1, e1, ⟨a2, b2, c2, v, e2, f2, g2, h2⟩, g1, h1⟩, c0, d0, e0, f0, g0, h0⟩ Ds H) f1) b0) F
noncomputable def s3_233 : Slot tf3 := ⟨[.o1, .o5, .o3], p3_233, fun F v => fV3 v (p3_233 F), fun _ _ _ _ _ => ⟨_, rfl, rfl⟩, fun _ v _ _ _ => fV3_eq v _ _ _ _⟩
def r3_233 : RO tf3 := ⟨.t [.o1, .o5, .o3], fun F => F.b.f.d, fun _ => rfl⟩
noncomputable def p3_234 (F : X3) : V3 := N8.rec (motive := fun _ => V3) (fun a0 b0 c0 d0 e0 f0 g0 h0 => N8.rec (motive := fun _ => V3) (fun a1 b1 c1 d1 e1 f1 g1 h1 => N8.rec (motive := fun _ => V3) (fun a2 b2 c2 _ e2 f2 g2 h2 v k Ds H => k ⟨a0, b0, ⟨a1, b1, c1, d1, e1, ⟨a2, b2, c2, v, e2, f2, g2, h2⟩, g1, h1⟩, d0, e0, f0, g0, h0⟩ Ds H) f1) c0) F
noncomputable def s3_234 : Slot tf3 := ⟨[.o2, .o5, .o3], p3_234, fun F v => fV3 v (p3_234 F), fun _ _ _ _ _ => ⟨_, rfl, rfl⟩, fun _ v _ _ _ => fV3_eq v _ _ _ _⟩
def r3_234 : RO tf3 := ⟨.t [.o2, .o5, .o3], fun F => F.c.f.d, fun _ => rfl⟩
noncomputable def p3_235 (F : X3) : V3 := N8.rec (motive := fun _ => V3) (fun a0 b0 c0 d0 e0 f0 g0 h0 => N8.rec (motive := fun _ => V3) (fun a1 b1 c1 d1 e1 f1 g1 h1 => N8.rec (motive := fun _ => V3) (fun a2 b2 c2 _ e2 f2 g2 h2 v k Ds H => k ⟨a0, b0, c0, ⟨a1, b1, c1, d1, e1, ⟨a2, b2, c2, v, e2, f2, g2, h2⟩, g1, h1⟩, e0, f0, g0, h0⟩ Ds H) f1) d0) F
noncomputable def s3_235 : Slot tf3 := ⟨[.o3, .o5, .o3], p3_235, fun F v => fV3 v (p3_235 F), fun _ _ _ _ _ => ⟨_, rfl, rfl⟩, fun _ v _ _ _ => fV3_eq v _ _ _ _⟩
def r3_235 : RO tf3 := ⟨.t [.o3, .o5, .o3], fun F => F.d.f.d, fun _ => rfl⟩
noncomputable def p3_236 (F : X3) : V3 := N8.rec (motive := fun _ => V3) (fun a0 b0 c0 d0 e0 f0 g0 h0 => N8.rec (motive := fun _ => V3) (fun a1 b1 c1 d1 e1 f1 g1 h1 => N8.rec (motive := fun _ => V3) (fun a2 b2 c2 _ e2 f2 g2 h2 v k Ds H => k ⟨a0, b0, c0, d0, ⟨a1, b1, c1, d1, e1, ⟨a2, b2, c2, v, e2, f2, g2, h2⟩, g1, h1⟩, f0, g0, h0⟩ Ds H) f1) e0) F
noncomputable def s3_236 : Slot tf3 := ⟨[.o4, .o5, .o3], p3_236, fun F v => fV3 v (p3_236 F), fun _ _ _ _ _ => ⟨_, rfl, rfl⟩, fun _ v _ _ _ => fV3_eq v _ _ _ _⟩
def r3_236 : RO tf3 := ⟨.t [.o4, .o5, .o3], fun F => F.e.f.d, fun _ => rfl⟩
noncomputable def p3_237 (F : X3) : V3 := N8.rec (motive := fun _ => V3) (fun a0 b0 c0 d0 e0 f0 g0 h0 => N8.rec (motive := fun _ => V3) (fun a1 b1 c1 d1 e1 f1 g1 h1 => N8.rec (motive := fun _ => V3) (fun a2 b2 c2 _ e2 f2 g2 h2 v k Ds H => k ⟨a0, b0, c0, d0, e0, ⟨a1, b1, c1, d1, e1, ⟨a2, b2, c2, v, e2, f2, g2, h2⟩, g1, h1⟩, g0, h0⟩ Ds H) f1) f0) F
noncomputable def s3_237 : Slot tf3 := ⟨[.o5, .o5, .o3], p3_237, fun F v => fV3 v (p3_237 F), fun _ _ _ _ _ => ⟨_, rfl, rfl⟩, fun _ v _ _ _ => fV3_eq v _ _ _ _⟩
def r3_237 : RO tf3 := ⟨.t [.o5, .o5, .o3], fun F => F.f.f.d, fun _ => rfl⟩
noncomputable def p3_238 (F : X3) : V3 := N8.rec (motive := fun _ => V3) (fun a0 b0 c0 d0 e0 f0 g0 h0 => N8.rec (motive := fun _ => V3) (fun a1 b1 c1 d1 e1 f1 g1 h1 => N8.rec (motive := fun _ => V3) (fun a2 b2 c2 _ e2 f2 g2 h2 v k Ds H => k ⟨a0, b0, c0, d0, e0, f0, ⟨a1, b1, c1, d1, e1, ⟨a2, b2, c2, v, e2, f2, g2, h2⟩, g1, h1⟩, h0⟩ Ds H) f1) g0) F
noncomputable def s3_238 : Slot tf3 := ⟨[.o6, .o5, .o3], p3_238, fun F v => fV3 v (p3_238 F), fun _ _ _ _ _ => ⟨_, rfl, rfl⟩, fun _ v _ _ _ => fV3_eq v _ _ _ _⟩
def r3_238 : RO tf3 := ⟨.t [.o6, .o5, .o3], fun F => F.g.f.d, fun _ => rfl⟩
noncomputable def p3_239 (F : X3) : V3 := N8.rec (motive := fun _ => V3) (fun a0 b0 c0 d0 e0 f0 g0 h0 => N8.rec (motive := fun _ => V3) (fun a1 b1 c1 d1 e1 f1 g1 h1 => N8.rec (motive := fun _ => V3) (fun a2 b2 c2 _ e2 f2 g2 h2 v k Ds H => k ⟨a0, b0, c0, d0, e0, f0, g0, ⟨a1, b1, c1, d1, e1, ⟨a2, b2, c2, v, e2, f2, g2, h2⟩, g1, h1⟩⟩ Ds H) f1) h0) F
noncomputable def s3_239 : Slot tf3 := ⟨[.o7, .o5, .o3], p3_239, fun F v => fV3 v (p3_239 F), fun _ _ _ _ _ => ⟨_, rfl, rfl⟩, fun _ v _ _ _ => fV3_eq v _ _ _ _⟩
def r3_239 : RO tf3 := ⟨.t [.o7, .o5, .o3], fun F => F.h.f.d, fun _ => rfl⟩
noncomputable def p3_240 (F : X3) : V3 := N8.rec (motive := fun _ => V3) (fun a0 b0 c0 d0 e0 f0 g0 h0 => N8.rec (motive := fun _ => V3) (fun a1 b1 c1 d1 e1 f1 g1 h1 => N8.rec (motive := fun _ => V3) (fun a2 b2 c2 _ e2 f2 g2 h2 v k Ds H => k ⟨⟨a1, b1, c1, d1, e1, f1, ⟨a2, b2, c2, v, e2, f2, g2, h2⟩, h1⟩, b0, c0, d0, e0, f0, g0, h0⟩ Ds H) g1) a0) F
noncomputable def s3_240 : Slot tf3 := ⟨[.o0, .o6, .o3], p3_240, fun F v => fV3 v (p3_240 F), fun _ _ _ _ _ => ⟨_, rfl, rfl⟩, fun _ v _ _ _ => fV3_eq v _ _ _ _⟩
def r3_240 : RO tf3 := ⟨.t [.o0, .o6, .o3], fun F => F.a.g.d, fun _ => rfl⟩
noncomputable def p3_241 (F : X3) : V3 := N8.rec (motive := fun _ => V3) (fun a0 b0 c0 d0 e0 f0 g0 h0 => N8.rec (motive := fun _ => V3) (fun a1 b1 c1 d1 e1 f1 g1 h1 => N8.rec (motive := fun _ => V3) (fun a2 b2 c2 _ e2 f2 g2 h2 v k Ds H => k ⟨a0, ⟨a1, b1, c1, d1, e1, f1, ⟨a2, b2, c2, v, e2, f2, g2, h2⟩, h1⟩, c0, d0, e0, f0, g0, h0⟩ Ds H) g1) b0) F
noncomputable def s3_241 : Slot tf3 := ⟨[.o1, .o6, .o3], p3_241, fun F v => fV3 v (p3_241 F), fun _ _ _ _ _ => ⟨_, rfl, rfl⟩, fun _ v _ _ _ => fV3_eq v _ _ _ _⟩
def r3_241 : RO tf3 := ⟨.t [.o1, .o6, .o3], fun F => F.b.g.d, fun _ => rfl⟩
noncomputable def p3_242 (F : X3) : V3 := N8.rec (motive := fun _ => V3) (fun a0 b0 c0 d0 e0 f0 g0 h0 => N8.rec (motive := fun _ => V3) (fun a1 b1 c1 d1 e1 f1 g1 h1 => N8.rec (motive := fun _ => V3) (fun a2 b2 c2 _ e2 f2 g2 h2 v k Ds H => k ⟨a0, b0, ⟨a1, b1, c1, d1, e1, f1, ⟨a2, b2, c2, v, e2, f2, g2, h2⟩, h1⟩, d0, e0, f0, g0, h0⟩ Ds H) g1) c0) F
noncomputable def s3_242 : Slot tf3 := ⟨[.o2, .o6, .o3], p3_242, fun F v => fV3 v (p3_242 F), fun _ _ _ _ _ => ⟨_, rfl, rfl⟩, fun _ v _ _ _ => fV3_eq v _ _ _ _⟩
def r3_242 : RO tf3 := ⟨.t [.o2, .o6, .o3], fun F => F.c.g.d, fun _ => rfl⟩
noncomputable def p3_243 (F : X3) : V3 := N8.rec (motive := fun _ => V3) (fun a0 b0 c0 d0 e0 f0 g0 h0 => N8.rec (motive := fun _ => V3) (fun a1 b1 c1 d1 e1 f1 g1 h1 => N8.rec (motive := fun _ => V3) (fun a2 b2 c2 _ e2 f2 g2 h2 v k Ds H => k ⟨a0, b0, c0, ⟨a1, b1, c1, d1, e1, f1, ⟨a2, b2, c2, v, e2, f2, g2, h2⟩, h1⟩, e0, f0, g0, h0⟩ Ds H) g1) d0) F
noncomputable def s3_243 : Slot tf3 := ⟨[.o3, .o6, .o3], p3_243, fun F v => fV3 v (p3_243 F), fun _ _ _ _ _ => ⟨_, rfl, rfl⟩, fun _ v _ _ _ => fV3_eq v _ _ _ _⟩
def r3_243 : RO tf3 := ⟨.t [.o3, .o6, .o3], fun F => F.d.g.d, fun _ => rfl⟩
noncomputable def p3_244 (F : X3) : V3 := N8.rec (motive := fun _ => V3) (fun a0 b0 c0 d0 e0 f0 g0 h0 => N8.rec (motive := fun _ => V3) (fun a1 b1 c1 d1 e1 f1 g1 h1 => N8.rec (motive := fun _ => V3) (fun a2 b2 c2 _ e2 f2 g2 h2 v k Ds H => k ⟨a0, b0, c0, d0, ⟨a1, b1, c1, d1, e1, f1, ⟨a2, b2, c2, v, e2, f2, g2, h2⟩, h1⟩, f0, g0, h0⟩ Ds H) g1) e0) F
noncomputable def s3_244 : Slot tf3 := ⟨[.o4, .o6, .o3], p3_244, fun F v => fV3 v (p3_244 F), fun _ _ _ _ _ => ⟨_, rfl, rfl⟩, fun _ v _ _ _ => fV3_eq v _ _ _ _⟩
def r3_244 : RO tf3 := ⟨.t [.o4, .o6, .o3], fun F => F.e.g.d, fun _ => rfl⟩
noncomputable def p3_245 (F : X3) : V3 := N8.rec (motive := fun _ => V3) (fun a0 b0 c0 d0 e0 f0 g0 h0 => N8.rec (motive := fun _ => V3) (fun a1 b1 c1 d1 e1 f1 g1 h1 => N8.rec (motive := fun _ => V3) (fun a2 b2 c2 _ e2 f2 g2 h2 v k Ds H => k ⟨a0, b0, c0, d0, e0, ⟨a1, b1, c1, d1, e1, f1, ⟨a2, b2, c2, v, e2, f2, g2, h2⟩, h1⟩, g0, h0⟩ Ds H) g1) f0) F
noncomputable def s3_245 : Slot tf3 := ⟨[.o5, .o6, .o3], p3_245, fun F v => fV3 v (p3_245 F), fun _ _ _ _ _ => ⟨_, rfl, rfl⟩, fun _ v _ _ _ => fV3_eq v _ _ _ _⟩
def r3_245 : RO tf3 := ⟨.t [.o5, .o6, .o3], fun F => F.f.g.d, fun _ => rfl⟩
noncomputable def p3_246 (F : X3) : V3 := N8.rec (motive := fun _ => V3) (fun a0 b0 c0 d0 e0 f0 g0 h0 => N8.rec (motive := fun _ => V3) (fun a1 b1 c1 d1 e1 f1 g1 h1 => N8.rec (motive := fun _ => V3) (fun a2 b2 c2 _ e2 f2 g2 h2 v k Ds H => k ⟨a0, b0, c0, d0, e0, f0, ⟨a1, b1, c1, d1, e1, f1, ⟨a2, b2, c2, v, e2, f2, g2, h2⟩, h1⟩, h0⟩ Ds H) g1) g0) F
noncomputable def s3_246 : Slot tf3 := ⟨[.o6, .o6, .o3], p3_246, fun F v => fV3 v (p3_246 F), fun _ _ _ _ _ => ⟨_, rfl, rfl⟩, fun _ v _ _ _ => fV3_eq v _ _ _ _⟩
def r3_246 : RO tf3 := ⟨.t [.o6, .o6, .o3], fun F => F.g.g.d, fun _ => rfl⟩
noncomputable def p3_247 (F : X3) : V3 := N8.rec (motive := fun _ => V3) (fun a0 b0 c0 d0 e0 f0 g0 h0 => N8.rec (motive := fun _ => V3) (fun a1 b1 c1 d1 e1 f1 g1 h1 => N8.rec (motive := fun _ => V3) (fun a2 b2 c2 _ e2 f2 g2 h2 v k Ds H => k ⟨a0, b0, c0, d0, e0, f0, g0, ⟨a1, b1, c1, d1, e1, f1, ⟨a2, b2, c2, v, e2, f2, g2, h2⟩, h1⟩⟩ Ds H) g1) h0) F
noncomputable def s3_247 : Slot tf3 := ⟨[.o7, .o6, .o3], p3_247, fun F v => fV3 v (p3_247 F), fun _ _ _ _ _ => ⟨_, rfl, rfl⟩, fun _ v _ _ _ => fV3_eq v _ _ _ _⟩
def r3_247 : RO tf3 := ⟨.t [.o7, .o6, .o3], fun F => F.h.g.d, fun _ => rfl⟩
noncomputable def p3_248 (F : X3) : V3 := N8.rec (motive := fun _ => V3) (fun a0 b0 c0 d0 e0 f0 g0 h0 => N8.rec (motive := fun _ => V3) (fun a1 b1 c1 d1 e1 f1 g1 h1 => N8.rec (motive := fun _ => V3) (fun a2 b2 c2 _ e2 f2 g2 h2 v k Ds H => k ⟨⟨a1, b1, c1, d1, e1, f1, g1, ⟨a2, b2, c2, v, e2, f2, g2, h2⟩⟩, b0, c0, d0, e0, f0, g0, h0⟩ Ds H) h1) a0) F
noncomputable def s3_248 : Slot tf3 := ⟨[.o0, .o7, .o3], p3_248, fun F v => fV3 v (p3_248 F), fun _ _ _ _ _ => ⟨_, rfl, rfl⟩, fun _ v _ _ _ => fV3_eq v _ _ _ _⟩
def r3_248 : RO tf3 := ⟨.t [.o0, .o7, .o3], fun F => F.a.h.d, fun _ => rfl⟩
noncomputable def p3_249 (F : X3) : V3 := N8.rec (motive := fun _ => V3) (fun a0 b0 c0 d0 e0 f0 g0 h0 => N8.rec (motive := fun _ => V3) (fun a1 b1 c1 d1 e1 f1 g1 h1 => N8.rec (motive := fun _ => V3) (fun a2 b2 c2 _ e2 f2 g2 h2 v k Ds H => k ⟨a0, ⟨a1, b1, c1, d1, e1, f1, g1, ⟨a2, b2, c2, v, e2, f2, g2, h2⟩⟩, c0, d0, e0, f0, g0, h0⟩ Ds H) h1) b0) F
noncomputable def s3_249 : Slot tf3 := ⟨[.o1, .o7, .o3], p3_249, fun F v => fV3 v (p3_249 F), fun _ _ _ _ _ => ⟨_, rfl, rfl⟩, fun _ v _ _ _ => fV3_eq v _ _ _ _⟩
def r3_249 : RO tf3 := ⟨.t [.o1, .o7, .o3], fun F => F.b.h.d, fun _ => rfl⟩
noncomputable def p3_250 (F : X3) : V3 := N8.rec (motive := fun _ => V3) (fun a0 b0 c0 d0 e0 f0 g0 h0 => N8.rec (motive := fun _ => V3) (fun a1 b1 c1 d1 e1 f1 g1 h1 => N8.rec (motive := fun _ => V3) (fun a2 b2 c2 _ e2 f2 g2 h2 v k Ds H => k ⟨a0, b0, ⟨a1, b1, c1, d1, e1, f1, g1, ⟨a2, b2, c2, v, e2, f2, g2, h2⟩⟩, d0, e0, f0, g0, h0⟩ Ds H) h1) c0) F
noncomputable def s3_250 : Slot tf3 := ⟨[.o2, .o7, .o3], p3_250, fun F v => fV3 v (p3_250 F), fun _ _ _ _ _ => ⟨_, rfl, rfl⟩, fun _ v _ _ _ => fV3_eq v _ _ _ _⟩
def r3_250 : RO tf3 := ⟨.t [.o2, .o7, .o3], fun F => F.c.h.d, fun _ => rfl⟩
noncomputable def p3_251 (F : X3) : V3 := N8.rec (motive := fun _ => V3) (fun a0 b0 c0 d0 e0 f0 g0 h0 => N8.rec (motive := fun _ => V3) (fun a1 b1 c1 d1 e1 f1 g1 h1 => N8.rec (motive := fun _ => V3) (fun a2 b2 c2 _ e2 f2 g2 h2 v k Ds H => k ⟨a0, b0, c0, ⟨a1, b1, c1, d1, e1, f1, g1, ⟨a2, b2, c2, v, e2, f2, g2, h2⟩⟩, e0, f0, g0, h0⟩ Ds H) h1) d0) F
noncomputable def s3_251 : Slot tf3 := ⟨[.o3, .o7, .o3], p3_251, fun F v => fV3 v (p3_251 F), fun _ _ _ _ _ => ⟨_, rfl, rfl⟩, fun _ v _ _ _ => fV3_eq v _ _ _ _⟩
def r3_251 : RO tf3 := ⟨.t [.o3, .o7, .o3], fun F => F.d.h.d, fun _ => rfl⟩
noncomputable def p3_252 (F : X3) : V3 := N8.rec (motive := fun _ => V3) (fun a0 b0 c0 d0 e0 f0 g0 h0 => N8.rec (motive := fun _ => V3) (fun a1 b1 c1 d1 e1 f1 g1 h1 => N8.rec (motive := fun _ => V3) (fun a2 b2 c2 _ e2 f2 g2 h2 v k Ds H => k ⟨a0, b0, c0, d0, ⟨a1, b1, c1, d1, e1, f1, g1, ⟨a2, b2, c2, v, e2, f2, g2, h2⟩⟩, f0, g0, h0⟩ Ds H) h1) e0) F
noncomputable def s3_252 : Slot tf3 := ⟨[.o4, .o7, .o3], p3_252, fun F v => fV3 v (p3_252 F), fun _ _ _ _ _ => ⟨_, rfl, rfl⟩, fun _ v _ _ _ => fV3_eq v _ _ _ _⟩
def r3_252 : RO tf3 := ⟨.t [.o4, .o7, .o3], fun F => F.e.h.d, fun _ => rfl⟩
noncomputable def p3_253 (F : X3) : V3 := N8.rec (motive := fun _ => V3) (fun a0 b0 c0 d0 e0 f0 g0 h0 => N8.rec (motive := fun _ => V3) (fun a1 b1 c1 d1 e1 f1 g1 h1 => N8.rec (motive := fun _ => V3) (fun a2 b2 c2 _ e2 f2 g2 h2 v k Ds H => k ⟨a0, b0, c0, d0, e0, ⟨a1, b1, c1, d1, e1, f1, g1, ⟨a2, b2, c2, v, e2, f2, g2, h2⟩⟩, g0, h0⟩ Ds H) h1) f0) F
noncomputable def s3_253 : Slot tf3 := ⟨[.o5, .o7, .o3], p3_253, fun F v => fV3 v (p3_253 F), fun _ _ _ _ _ => ⟨_, rfl, rfl⟩, fun _ v _ _ _ => fV3_eq v _ _ _ _⟩
def r3_253 : RO tf3 := ⟨.t [.o5, .o7, .o3], fun F => F.f.h.d, fun _ => rfl⟩
noncomputable def p3_254 (F : X3) : V3 := N8.rec (motive := fun _ => V3) (fun a0 b0 c0 d0 e0 f0 g0 h0 => N8.rec (motive := fun _ => V3) (fun a1 b1 c1 d1 e1 f1 g1 h1 => N8.rec (motive := fun _ => V3) (fun a2 b2 c2 _ e2 f2 g2 h2 v k Ds H => k ⟨a0, b0, c0, d0, e0, f0, ⟨a1, b1, c1, d1, e1, f1, g1, ⟨a2, b2, c2, v, e2, f2, g2, h2⟩⟩, h0⟩ Ds H) h1) g0) F
noncomputable def s3_254 : Slot tf3 := ⟨[.o6, .o7, .o3], p3_254, fun F v => fV3 v (p3_254 F), fun _ _ _ _ _ => ⟨_, rfl, rfl⟩, fun _ v _ _ _ => fV3_eq v _ _ _ _⟩
def r3_254 : RO tf3 := ⟨.t [.o6, .o7, .o3], fun F => F.g.h.d, fun _ => rfl⟩
noncomputable def p3_255 (F : X3) : V3 := N8.rec (motive := fun _ => V3) (fun a0 b0 c0 d0 e0 f0 g0 h0 => N8.rec (motive := fun _ => V3) (fun a1 b1 c1 d1 e1 f1 g1 h1 => N8.rec (motive := fun _ => V3) (fun a2 b2 c2 _ e2 f2 g2 h2 v k Ds H => k ⟨a0, b0, c0, d0, e0, f0, g0, ⟨a1, b1, c1, d1, e1, f1, g1, ⟨a2, b2, c2, v, e2, f2, g2, h2⟩⟩⟩ Ds H) h1) h0) F
noncomputable def s3_255 : Slot tf3 := ⟨[.o7, .o7, .o3], p3_255, fun F v => fV3 v (p3_255 F), fun _ _ _ _ _ => ⟨_, rfl, rfl⟩, fun _ v _ _ _ => fV3_eq v _ _ _ _⟩
def r3_255 : RO tf3 := ⟨.t [.o7, .o7, .o3], fun F => F.h.h.d, fun _ => rfl⟩
end Cr
end Go.Proofs.YtjhbabgcoemecaaGreatDoor
namespace Go.Proofs.YtjhbabgcoemecaaGreatDoor
namespace Cr
open Go Go.RowKit

/-! ### what a value is -/
inductive VI where
  | no
  | p (k : IntKind) (n : Nat)
  | m (k : IntKind) (n : Nat)
noncomputable def asI (v : Value) : VI :=
  Value.rec (motive_1 := fun _ => VI) (motive_2 := fun _ => Unit) (motive_3 := fun _ => Unit)
    (fun _ => .no) (fun k n => Int.rec (motive := fun _ => VI) (fun a => .p k a) (fun a => .m k a) n) (fun _ _ => .no) (fun _ _ _ => .no) (fun _ => .no) (fun _ => .no) (fun _ _ _ => .no)
    (fun _ => .no) (fun _ => .no) (fun _ _ _ _ _ => .no) .no (fun _ _ _ => .no) .no (fun _ _ => .no) (fun _ _ => .no) (fun _ _ => ()) () (fun _ _ _ _ => ()) v
theorem asI_p {v : Value} {k : IntKind} {n : Nat} (h : asI v = .p k n) : v = .int k (.ofNat n) := by
  cases v with
  | int j a =>
    cases a with
    | ofNat a =>
      have h' : VI.p j a = .p k n := h
      cases h'; rfl
    | negSucc a =>
      have h' : VI.m j a = .p k n := h
      cases h'
  | _ => exact absurd (show VI.no = .p k n from h) (fun e => by cases e)
inductive VP where
  | no
  | p (i o : Nat)
noncomputable def asA (a : Option Addr) : VP := Option.rec (motive := fun _ => VP) .no (fun a => Addr.rec (motive := fun _ => VP) (fun i o s => Option.rec (motive := fun _ => VP) (.p i o) (fun _ => .no) s) a) a
noncomputable def asP (v : Value) : VP :=
  Value.rec (motive_1 := fun _ => VP) (motive_2 := fun _ => Unit) (motive_3 := fun _ => Unit)
    (fun _ => .no) (fun _ _ => .no) (fun _ _ => .no) (fun _ _ _ => .no) (fun _ => .no) asA (fun _ _ _ => .no)
    (fun _ => .no) (fun _ => .no) (fun _ _ _ _ _ => .no) .no (fun _ _ _ => .no) .no (fun _ _ => .no) (fun _ _ => .no) (fun _ _ => ()) () (fun _ _ _ _ => ()) v
theorem asA_p {a : Option Addr} {i o : Nat} (h : asA a = .p i o) : a = some ⟨i, o, none⟩ := by
  cases a with
  | none => exact absurd (show VP.no = .p i o from h) (fun e => by cases e)
  | some a =>
    obtain ⟨j, p, s⟩ := a
    cases s with
    | none =>
      have h' : VP.p j p = .p i o := h
      cases h'; rfl
    | some s => exact absurd (show VP.no = .p i o from h) (fun e => by cases e)
theorem asP_p {v : Value} {i o : Nat} (h : asP v = .p i o) : v = .pointer (some ⟨i, o, none⟩) := by
  cases v with
  | pointer a =>
    have h' : asA a = .p i o := h
    rw [asA_p h']
  | _ => exact absurd (show VP.no = .p i o from h) (fun e => by cases e)
inductive VS where
  | no
  | z (n c : Nat)
  | s (i o n c : Nat)
noncomputable def asS (v : Value) : VS :=
  Value.rec (motive_1 := fun _ => VS) (motive_2 := fun _ => Unit) (motive_3 := fun _ => Unit)
    (fun _ => .no) (fun _ _ => .no) (fun _ _ => .no) (fun _ _ _ => .no) (fun _ => .no) (fun _ => .no)
    (fun a n c => Option.rec (motive := fun _ => VS) (.z n c) (fun a => Addr.rec (motive := fun _ => VS) (fun i o s => Option.rec (motive := fun _ => VS) (.s i o n c) (fun _ => .no) s) a) a)
    (fun _ => .no) (fun _ => .no) (fun _ _ _ _ _ => .no) .no (fun _ _ _ => .no) .no (fun _ _ => .no) (fun _ _ => .no) (fun _ _ => ()) () (fun _ _ _ _ => ()) v
theorem asS_s {v : Value} {i o n c : Nat} (h : asS v = .s i o n c) : v = .slice (some ⟨i, o, none⟩) n c := by
  cases v with
  | slice a m d =>
    cases a with
    | none => exact absurd (show VS.z m d = .s i o n c from h) (fun e => by cases e)
    | some a =>
      obtain ⟨j, p, s⟩ := a
      cases s with
      | none =>
        have h' : VS.s j p m d = .s i o n c := h
        cases h'; rfl
      | some s => exact absurd (show VS.no = .s i o n c from h) (fun e => by cases e)
  | _ => exact absurd (show VS.no = .s i o n c from h) (fun e => by cases e)
theorem asS_z {v : Value} {n c : Nat} (h : asS v = .z n c) : v = .slice none n c := by
  cases v with
  | slice a m d =>
    cases a with
    | none =>
      have h' : VS.z m d = .z n c := h
      cases h'; rfl
    | some a =>
      obtain ⟨j, p, s⟩ := a
      cases s with
      | none => exact absurd (show VS.s j p m d = .z n c from h) (fun e => by cases e)
      | some s => exact absurd (show VS.no = .z n c from h) (fun e => by cases e)
  | _ => exact absurd (show VS.no = .z n c from h) (fun e => by cases e)

/-! ### kinds of integers -/
noncomputable def kn (k : IntKind) : Nat := IntKind.rec (motive := fun _ => Nat) 0 1 2 3 4 5 6 7 k
noncomputable def mx (k : IntKind) : Nat := IntKind.rec (motive := fun _ => Nat) 127 32767 2147483647 9223372036854775807 255 65535 4294967295 18446744073709551615 k
theorem kn_inj {k j : IntKind} (h : Nat.beq (kn k) (kn j) = true) : k = j := by
  cases k <;> cases j <;> first | rfl | (exact absurd h (by decide))
theorem wrap_fits {k : IntKind} {n : Nat} (h : n ≤ mx k) : k.wrap (Int.ofNat n) = Int.ofNat n := by
  cases k <;> simp only [mx] at h <;> simp [IntKind.wrap, IntKind.bits, IntKind.signed] <;> omega

/-- an operation done as the slow layer does it -/
noncomputable def slw2 {R : Type} (g : Value → Value → Option Value) (x y : Value) (bad : R) (k : Value → R) : R := Option.rec (motive := fun _ => R) bad (fun v => forceV v k) (g x y)
theorem slw2_ok {R : Type} (g : Value → Value → Option Value) (x y : Value) (bad : R) (k : Value → R) : slw2 g x y bad k = bad ∨ ∃ v, g x y = some v ∧ slw2 g x y bad k = k v := by
  unfold slw2
  cases h : g x y with
  | none => exact .inl rfl
  | some v => exact .inr ⟨v, rfl, forceV_eq v k⟩
noncomputable def slw1 {R : Type} (g : Value → Option Value) (x : Value) (bad : R) (k : Value → R) : R := Option.rec (motive := fun _ => R) bad (fun v => forceV v k) (g x)
theorem slw1_ok {R : Type} (g : Value → Option Value) (x : Value) (bad : R) (k : Value → R) : slw1 g x bad k = bad ∨ ∃ v, g x = some v ∧ slw1 g x bad k = k v := by
  unfold slw1
  cases h : g x with
  | none => exact .inl rfl
  | some v => exact .inr ⟨v, rfl, forceV_eq v k⟩
noncomputable def b1 (g : Value → Option Value) : B1 := ⟨g, slw1 g, slw1_ok g⟩
noncomputable def b2 (g : Value → Value → Option Value) : B2 := ⟨g, slw2 g, slw2_ok g⟩

/-- two integers of a kind, not negative; anything else: els -/
noncomputable def fI2 {R : Type} (x y : Value) (els : R) (g : IntKind → Nat → Nat → R) : R :=
  VI.rec (motive := fun _ => R) els (fun k a => VI.rec (motive := fun _ => R) els (fun j b => Bool.rec (motive := fun _ => R) els (g k a b) (Nat.beq (kn k) (kn j))) (fun _ _ => els) (asI y)) (fun _ _ => els) (asI x)
theorem fI2_ok {R : Type} (x y : Value) (els : R) (g : IntKind → Nat → Nat → R) : fI2 x y els g = els ∨ ∃ k a b, x = .int k (.ofNat a) ∧ y = .int k (.ofNat b) ∧ fI2 x y els g = g k a b := by
  unfold fI2
  cases hx : asI x with
  | no => exact .inl rfl
  | m k a => exact .inl rfl
  | p k a =>
    cases hy : asI y with
    | no => exact .inl rfl
    | m j b => exact .inl rfl
    | p j b =>
      simp only
      cases hk : Nat.beq (kn k) (kn j) with
      | false => exact .inl rfl
      | true =>
        have := kn_inj hk
        subst this
        exact .inr ⟨k, a, b, asI_p hx, asI_p hy, rfl⟩
theorem orElse_ok {R : Type} {bad r : R} {g : Value → Value → Option Value} {x y : Value} {k : Value → R} (h : r = slw2 g x y bad k) : r = bad ∨ ∃ v, g x y = some v ∧ r = k v := by
  rw [h]; exact slw2_ok g x y bad k
theorem bin_add {k : IntKind} {a b : Nat} (h : Nat.ble (Nat.add a b) (mx k) = true) : pBin .add (.int k (.ofNat a)) (.int k (.ofNat b)) = some (.int k (.ofNat (Nat.add a b))) := by
  have h' : a + b ≤ mx k := Nat.le_of_ble_eq_true h
  have := wrap_fits h'
  simp only [pBin, binOp, Op.intArith, pure, pur]
  simp only [ne_eq, not_true_eq_false, if_false, Option.some.injEq]
  exact congrArg (Value.int k) this
noncomputable def bAdd : B2 where
  slow := pBin .add
  fast := fun x y bad k => fI2 x y (slw2 (pBin .add) x y bad k) fun d a b => Bool.rec (motive := fun _ => _) (slw2 (pBin .add) x y bad k) (forceN (Nat.add a b) fun s => k (.int d (.ofNat s))) (Nat.ble (Nat.add a b) (mx d))
  ok := by
    intro R x y bad k
    rcases fI2_ok x y (slw2 (pBin .add) x y bad k) (fun d a b => Bool.rec (motive := fun _ => _) (slw2 (pBin .add) x y bad k) (forceN (Nat.add a b) fun s => k (.int d (.ofNat s))) (Nat.ble (Nat.add a b) (mx d))) with h | ⟨d, a, b, rfl, rfl, h⟩
    · exact orElse_ok h
    · cases hb : Nat.ble (Nat.add a b) (mx d) with
      | false => rw [hb] at h; exact orElse_ok h
      | true =>
        rw [hb] at h
        exact .inr ⟨_, bin_add hb, h.trans (forceN_eq _ _)⟩
theorem bin_sub {k : IntKind} {a b : Nat} (h : Nat.ble b a = true) (h2 : Nat.ble a (mx k) = true) : pBin .sub (.int k (.ofNat a)) (.int k (.ofNat b)) = some (.int k (.ofNat (Nat.sub a b))) := by
  have h' : b ≤ a := Nat.le_of_ble_eq_true h
  have h2' : a ≤ mx k := Nat.le_of_ble_eq_true h2
  have hs : a - b ≤ mx k := Nat.le_trans (Nat.sub_le a b) h2'
  have := wrap_fits hs
  have e : (Int.ofNat a - Int.ofNat b) = Int.ofNat (a - b) := by
    show (a : Int) - (b : Int) = ((a - b : Nat) : Int)
    omega
  simp only [pBin, binOp, Op.intArith, pure, pur]
  simp only [ne_eq, not_true_eq_false, if_false, Option.some.injEq]
  rw [e]
  exact congrArg (Value.int k) this
noncomputable def bSub : B2 where
  slow := pBin .sub
  fast := fun x y bad k => fI2 x y (slw2 (pBin .sub) x y bad k) fun d a b => Bool.rec (motive := fun _ => _) (slw2 (pBin .sub) x y bad k) (Bool.rec (motive := fun _ => _) (slw2 (pBin .sub) x y bad k) (forceN (Nat.sub a b) fun s => k (.int d (.ofNat s))) (Nat.ble a (mx d))) (Nat.ble b a)
  ok := by
    intro R x y bad k
    rcases fI2_ok x y (slw2 (pBin .sub) x y bad k) (fun d a b => Bool.rec (motive := fun _ => _) (slw2 (pBin .sub) x y bad k) (Bool.rec (motive := fun _ => _) (slw2 (pBin .sub) x y bad k) (forceN (Nat.sub a b) fun s => k (.int d (.ofNat s))) (Nat.ble a (mx d))) (Nat.ble b a)) with h | ⟨d, a, b, rfl, rfl, h⟩
    · exact orElse_ok h
    · cases hb : Nat.ble b a with
      | false => rw [hb] at h; exact orElse_ok h
      | true =>
        rw [hb] at h
        simp only at h
        cases hc : Nat.ble a (mx d) with
        | false => rw [hc] at h; exact orElse_ok h
        | true =>
          rw [hc] at h
          exact .inr ⟨_, bin_sub hb hc, h.trans (forceN_eq _ _)⟩
/-- comparisons -/
noncomputable def fC {R : Type} (op : BinOp) (c : Nat → Nat → Bool) (x y : Value) (bad : R) (k : Value → R) : R :=
  fI2 x y (slw2 (pBin op) x y bad k) fun _ a b => Bool.rec (motive := fun _ => R) (k (.bool false)) (k (.bool true)) (c a b)
theorem fC_ok {op : BinOp} {c : Nat → Nat → Bool} (hc : ∀ d a b, pBin op (.int d (.ofNat a)) (.int d (.ofNat b)) = some (.bool (c a b))) {R : Type} (x y : Value) (bad : R) (k : Value → R) : fC op c x y bad k = bad ∨ ∃ v, pBin op x y = some v ∧ fC op c x y bad k = k v := by
  unfold fC
  rcases fI2_ok x y (slw2 (pBin op) x y bad k) (fun _ a b => Bool.rec (motive := fun _ => R) (k (.bool false)) (k (.bool true)) (c a b)) with h | ⟨d, a, b, rfl, rfl, h⟩
  · exact orElse_ok h
  · refine .inr ⟨_, hc d a b, h.trans ?_⟩
    cases c a b <;> rfl
noncomputable def cLt (a b : Nat) : Bool := Nat.ble (Nat.succ a) b
noncomputable def cLe (a b : Nat) : Bool := Nat.ble a b
noncomputable def cGt (a b : Nat) : Bool := Nat.ble (Nat.succ b) a
noncomputable def cGe (a b : Nat) : Bool := Nat.ble b a
noncomputable def cEq (a b : Nat) : Bool := Nat.beq a b
noncomputable def cNe (a b : Nat) : Bool := Bool.rec (motive := fun _ => Bool) true false (Nat.beq a b)
theorem bin_cmp {op : BinOp} {d : IntKind} {a b : Nat} {r : Bool} (h : pur (Op.intCmp op (.ofNat a) (.ofNat b)) = some (.bool r)) (ho : op = .lss ∨ op = .leq ∨ op = .gtr ∨ op = .geq ∨ op = .eql ∨ op = .neq) : pBin op (.int d (.ofNat a)) (.int d (.ofNat b)) = some (.bool r) := by
  rcases ho with rfl | rfl | rfl | rfl | rfl | rfl <;>
  · simp only [pBin, binOp]
    simp only [ne_eq, not_true_eq_false, if_false]
    exact h
theorem ble_dec (a b : Nat) : Nat.ble a b = decide (a ≤ b) := by
  cases h : Nat.ble a b with
  | true => simp [Nat.le_of_ble_eq_true h]
  | false =>
    have : ¬ a ≤ b := fun e => by rw [Nat.ble_eq_true_of_le e] at h; cases h
    simp [this]
noncomputable def bLt : B2 := ⟨pBin .lss, fC .lss cLt, fC_ok fun d a b => bin_cmp (by
  show some (Value.bool (decide ((a : Int) < (b : Int)))) = _
  rw [cLt, ble_dec]; congr 2; simp [Nat.succ_le_iff]) (by simp)⟩
noncomputable def bLe : B2 := ⟨pBin .leq, fC .leq cLe, fC_ok fun d a b => bin_cmp (by
  show some (Value.bool (decide ((a : Int) ≤ (b : Int)))) = _
  rw [cLe, ble_dec]; congr 2; simp) (by simp)⟩
noncomputable def bGt : B2 := ⟨pBin .gtr, fC .gtr cGt, fC_ok fun d a b => bin_cmp (by
  show some (Value.bool (decide ((a : Int) > (b : Int)))) = _
  rw [cGt, ble_dec]; congr 2; simp [Nat.succ_le_iff]) (by simp)⟩
noncomputable def bGe : B2 := ⟨pBin .geq, fC .geq cGe, fC_ok fun d a b => bin_cmp (by
  show some (Value.bool (decide ((a : Int) ≥ (b : Int)))) = _
  rw [cGe, ble_dec]; congr 2; simp) (by simp)⟩
noncomputable def bEq : B2 := ⟨pBin .eql, fC .eql cEq, fC_ok fun d a b => bin_cmp (by
  show some (Value.bool ((a : Int) == (b : Int))) = _
  rw [cEq]; congr 2
  cases h : Nat.beq a b with
  | true => rw [Nat.eq_of_beq_eq_true h]; simp
  | false =>
    have : a ≠ b := Nat.ne_of_beq_eq_false h
    simp; omega) (by simp)⟩
noncomputable def bNe : B2 := ⟨pBin .neq, fC .neq cNe, fC_ok fun d a b => bin_cmp (by
  show some (Value.bool ((a : Int) != (b : Int))) = _
  rw [cNe]; congr 2
  cases h : Nat.beq a b with
  | true => rw [Nat.eq_of_beq_eq_true h]; simp
  | false =>
    have : a ≠ b := Nat.ne_of_beq_eq_false h
    simp; omega) (by simp)⟩

/-! ### places -/
noncomputable def bFa (off : Nat) : B1 where
  slow := pFa off
  fast := fun x bad k => VP.rec (motive := fun _ => _) bad (fun i o => forceN (Nat.add o off) fun o => k (.pointer (some ⟨i, o, none⟩))) (asP x)
  ok := by
    intro R x bad k
    cases h : asP x with
    | no => exact .inl rfl
    | p i o => rw [asP_p h]; exact .inr ⟨_, rfl, forceN_eq _ _⟩
noncomputable def bIxs (size : Nat) : B2 where
  slow := pIxs size
  fast := fun x y bad k => VS.rec (motive := fun _ => _) bad (fun _ _ => bad) (fun i o n _ => VI.rec (motive := fun _ => _) bad (fun _ m => Bool.rec (motive := fun _ => _) bad (forceN (Nat.add o (Nat.mul m size)) fun o => k (.pointer (some ⟨i, o, none⟩))) (Nat.ble (Nat.succ m) n)) (fun _ _ => bad) (asI y)) (asS x)
  ok := by
    intro R x y bad k
    cases h : asS x with
    | no => exact .inl rfl
    | z n c => exact .inl rfl
    | s i o n c =>
      rw [asS_s h]
      simp only
      cases hy : asI y with
      | no => exact .inl rfl
      | m d a => exact .inl rfl
      | p d a =>
        rw [asI_p hy]
        simp only
        cases hb : Nat.ble (Nat.succ a) n with
        | false => exact .inl rfl
        | true =>
          refine .inr ⟨_, ?_, forceN_eq _ _⟩
          have hb' : Nat.blt a n = true := hb
          simp [pIxs, hb']
noncomputable def bLen : B1 where
  slow := pLen
  fast := fun x bad k => VS.rec (motive := fun _ => _) (slw1 pLen x bad k) (fun n _ => k (.int .i64 (.ofNat n))) (fun _ _ n _ => k (.int .i64 (.ofNat n))) (asS x)
  ok := by
    intro R x bad k
    cases h : asS x with
    | no => exact slw1_ok _ _ _ _
    | z n c => rw [asS_z h]; exact .inr ⟨_, rfl, rfl⟩
    | s i o n c => rw [asS_s h]; exact .inr ⟨_, rfl, rfl⟩
noncomputable def bNil : B1 where
  slow := pNil
  fast := fun x bad k => VP.rec (motive := fun _ => _) bad (fun i o => k (.pointer (some ⟨i, o, none⟩))) (asP x)
  ok := by
    intro R x bad k
    cases h : asP x with
    | no => exact .inl rfl
    | p i o => rw [asP_p h]; exact .inr ⟨_, rfl, rfl⟩
/-- integers that fit are converted as they are -/
noncomputable def bCv (d : IntKind) : B1 where
  slow := pConv d
  fast := fun x bad k => VI.rec (motive := fun _ => _) (slw1 (pConv d) x bad k) (fun _ n => Bool.rec (motive := fun _ => _) (slw1 (pConv d) x bad k) (k (.int d (.ofNat n))) (Nat.ble n (mx d))) (fun _ _ => slw1 (pConv d) x bad k) (asI x)
  ok := by
    intro R x bad k
    cases h : asI x with
    | no => exact slw1_ok _ _ _ _
    | m _ _ => exact slw1_ok _ _ _ _
    | p j n =>
      simp only
      cases hb : Nat.ble n (mx d) with
      | false => exact slw1_ok _ _ _ _
      | true =>
        rw [asI_p h]
        refine .inr ⟨_, ?_, rfl⟩
        show some (Value.int d (d.wrap (Int.ofNat n))) = _
        rw [wrap_fits (Nat.le_of_ble_eq_true hb)]

/-! ### memory -/
noncomputable def fLd {R : Type} (x : Value) (H : AH) (bad : R) (k : Value → R) : R :=
  VP.rec (motive := fun _ => R) bad (fun i off => Option.rec (motive := fun _ => R) bad (fun b => Blk.rec (motive := fun _ => R) (fun _ n zl zs t => Bool.rec (motive := fun _ => R) bad (k (cellv zl zs t off)) (Nat.ble (Nat.succ off) n)) (fun _ _ => bad) (fun _ _ _ _ _ _ _ _ _ => bad) (fun _ => bad) b) (Tr.get H.t i)) (asP x)
theorem fLd_ok {R : Type} (x : Value) (H : AH) (bad : R) (k : Value → R) : fLd x H bad k = bad ∨ ∃ v, rLd x H = some v ∧ fLd x H bad k = k v := by
  unfold fLd
  cases h : asP x with
  | no => exact .inl rfl
  | p i off =>
    rw [asP_p h]
    simp only
    cases hg : Tr.get H.t i with
    | none => exact .inl rfl
    | some b =>
      cases b with
      | cells rw n zl zs t =>
        simp only
        cases hb : Nat.ble (Nat.succ off) n with
        | false => exact .inl rfl
        | true =>
          refine .inr ⟨_, ?_, rfl⟩
          have hg' : H.get i = some (.cells rw n zl zs t) := hg
          have hb' : Nat.blt off n = true := hb
          simp [rLd, sLd, hg', hb']
      | map _ _ => exact .inl rfl
      | loop _ _ _ _ _ _ _ _ _ => exact .inl rfl
      | dfr _ => exact .inl rfl
noncomputable def bLd : BR1 := ⟨rLd, fLd, fLd_ok⟩
/-- the memory with another block at a place -/
noncomputable def putB {R : Type} (H : AH) (i : Nat) (b : Blk) (k : AH → R) : R := AH.rec (motive := fun _ => R) (fun t n => Tr.putK 64 t i (some b) fun t => k ⟨t, n⟩) H
theorem putB_eq {R : Type} (H : AH) (i : Nat) (b : Blk) (k : AH → R) : putB H i b k = k (H.set i (some b)) := by
  obtain ⟨t, n⟩ := H
  show (Tr.putK 64 t i (some b) fun t => k ⟨t, n⟩) = _
  rw [Tr.putK_eq]; rfl
noncomputable def fSt {R : Type} (x v : Value) (H : AH) (bad : R) (k : Value → AH → R) : R :=
  VP.rec (motive := fun _ => R) bad (fun i off => Option.rec (motive := fun _ => R) bad (fun b => Blk.rec (motive := fun _ => R)
    (fun rw n zl zs t => Bool.rec (motive := fun _ => R) bad (Bool.rec (motive := fun _ => R) bad (forceV v fun v => Tr.putK 64 t off (some v) fun t => putB H i (.cells true n zl zs t) (k undef)) (Nat.blt off n && (Nat.blt n 9223372036854775807 && one v))) rw)
    (fun _ _ => bad) (fun _ _ _ _ _ _ _ _ _ => bad) (fun _ => bad) b) (Tr.get H.t i)) (asP x)
theorem fSt_ok {R : Type} (x v : Value) (H : AH) (bad : R) (k : Value → AH → R) : fSt x v H bad k = bad ∨ ∃ u H', sSt x v H = .ok u H' ∧ fSt x v H bad k = k u H' := by
  unfold fSt
  cases h : asP x with
  | no => exact .inl rfl
  | p i off =>
    rw [asP_p h]
    simp only
    cases hg : Tr.get H.t i with
    | none => exact .inl rfl
    | some b =>
      cases b with
      | cells rw n zl zs t =>
        simp only
        cases rw with
        | false => exact .inl rfl
        | true =>
          simp only
          cases hb : (Nat.blt off n && (Nat.blt n 9223372036854775807 && one v)) with
          | false => exact .inl rfl
          | true =>
            refine .inr ⟨undef, H.set i (some (.cells true n zl zs (t.put off (some v)))), ?_, ?_⟩
            · have hg' : H.get i = some (.cells true n zl zs t) := hg
              simp only [sSt, hg', hb, cond_true]
            · simp only
              rw [forceV_eq, Tr.putK_eq, putB_eq]
      | map _ _ => exact .inl rfl
      | loop _ _ _ _ _ _ _ _ _ => exact .inl rfl
      | dfr _ => exact .inl rfl
noncomputable def bSt : BM2 := ⟨sSt, fSt, fSt_ok⟩
end Cr
end Go.Proofs.YtjhbabgcoemecaaGreatDoor
namespace Go.Proofs.YtjhbabgcoemecaaGreatDoor
namespace Cr
open Go Go.RowKit

inductive VB where
  | no
  | f
  | t
noncomputable def asB (v : Value) : VB :=
  Value.rec (motive_1 := fun _ => VB) (motive_2 := fun _ => Unit) (motive_3 := fun _ => Unit)
    (fun b => Bool.rec (motive := fun _ => VB) .f .t b) (fun _ _ => .no) (fun _ _ => .no) (fun _ _ _ => .no) (fun _ => .no) (fun _ => .no) (fun _ _ _ => .no)
    (fun _ => .no) (fun _ => .no) (fun _ _ _ _ _ => .no) .no (fun _ _ _ => .no) .no (fun _ _ => .no) (fun _ _ => .no) (fun _ _ => ()) () (fun _ _ _ _ => ()) v
theorem asB_t {v : Value} (h : asB v = .t) : v = .bool true := by
  cases v with
  | bool b =>
    cases b with
    | true => rfl
    | false => exact absurd (show VB.f = .t from h) (fun e => by cases e)
  | _ => exact absurd (show VB.no = .t from h) (fun e => by cases e)
theorem asB_f {v : Value} (h : asB v = .f) : v = .bool false := by
  cases v with
  | bool b =>
    cases b with
    | false => rfl
    | true => exact absurd (show VB.t = .f from h) (fun e => by cases e)
  | _ => exact absurd (show VB.no = .f from h) (fun e => by cases e)

section ins
variable {F : Type} {tf : F → F8}
/-- an operation with a guard: g the guard's value, p its path, w what it must be -/
noncomputable def iGd (g : RO tf) (p : List Oct) (w : Bool) (i : Ins tf) (d : Option (Slot tf)) (hp : g.o = .t p) (hg : i.den.1.gd = none) (hd : i.den.1.dst = dP d) : Ins tf where
  den := (⟨some (p, w), i.den.1.c, i.den.1.xs, i.den.1.dst⟩, i.den.2)
  run := fun cv k f Ds H => VB.rec (motive := fun _ => XO F) (dPut d f undef k Ds H) (Bool.rec (motive := fun _ => XO F) (i.run cv k f Ds H) (dPut d f undef k Ds H) w) (Bool.rec (motive := fun _ => XO F) (dPut d f undef k Ds H) (i.run cv k f Ds H) w) (asB (g.get f))
  ok := by
    intro P sp self cv hcv k K hk f Ds H
    have hgv : g.get f = F8.get p (tf f) := by rw [← g.ok, hp]; rfl
    have hun : Rf tf (dPut d f undef k Ds H) (K (setD i.den.1.dst (tf f) undef) Ds H) := by rw [hd]; exact dPut_rf d hk f undef Ds H
    have hru : Rf tf (i.run cv k f Ds H) (stp (runOp P sp self none) i.den K (tf f) Ds H) := i.ok P sp self cv hcv k K hk f Ds H
    have hst : stp (runOp P sp self none) i.den K (tf f) Ds H = (match runOp P sp self none i.den.1.c (getL (tf f) i.den.1.xs) Ds H with
        | .bad => .bad
        | .ok v Ds H => bif rechk (setD i.den.1.dst (tf f) v) H i.den.2 then K (setD i.den.1.dst (tf f) v) Ds H else .bad) := by
      unfold stp
      rw [hg]; rfl
    rw [hst] at hru
    have want : ∀ b, F8.get p (tf f) = .bool b → wantG (some (p, w)) (tf f) = (bif w then b else Bool.not b) := fun b e => by
      show (match F8.get p (tf f) with
        | .bool b => bif w then b else Bool.not b
        | _ => false) = _
      rw [e]
    cases hb : asB (g.get f) with
    | no =>
      have hw : wantG (some (p, w)) (tf f) = false := by
        rw [hgv] at hb
        show (match F8.get p (tf f) with
          | .bool b => bif w then b else Bool.not b
          | _ => false) = false
        generalize F8.get p (tf f) = u at hb ⊢
        cases u with
        | bool b => cases b <;> exact absurd hb (fun e => by cases e)
        | _ => rfl
      show Rf tf (dPut d f undef k Ds H) _
      unfold stp
      rw [hw]
      exact hun
    | t =>
      have e := asB_t hb
      rw [hgv] at e
      have hw := want true e
      cases w with
      | true =>
        show Rf tf (i.run cv k f Ds H) _
        unfold stp
        rw [hw]
        exact hru
      | false =>
        show Rf tf (dPut d f undef k Ds H) _
        unfold stp
        rw [hw]
        exact hun
    | f =>
      have e := asB_f hb
      rw [hgv] at e
      have hw := want false e
      cases w with
      | true =>
        show Rf tf (dPut d f undef k Ds H) _
        unfold stp
        rw [hw]
        exact hun
      | false =>
        show Rf tf (i.run cv k f Ds H) _
        unfold stp
        rw [hw]
        exact hru
/-- rechecks behind an operation -/
structure RC (tf : F → F8) where
  den : COper
  chk : F → AH → Bool
  ok : ∀ f H, chk f H = true → rchk1 (tf f) H den = true
noncomputable def chks (f : F) (H : AH) (l : List (RC tf)) : Bool := List.rec (motive := fun _ => Bool) true (fun c _ ih => bif c.chk f H then ih else false) l
theorem chks_ok (f : F) (H : AH) : ∀ l : List (RC tf), chks f H l = true → rechk (tf f) H (l.map RC.den) = true
  | [], _ => rfl
  | c :: l, h => by
    have h' : (bif c.chk f H then chks f H l else false) = true := h
    cases hc : c.chk f H with
    | false => rw [hc] at h'; cases h'
    | true =>
      rw [hc] at h'
      show (bif rchk1 (tf f) H c.den then rechk (tf f) H (l.map RC.den) else false) = true
      rw [c.ok f H hc]
      exact chks_ok f H l h'
/-- a recheck as the slow layer does it -/
noncomputable def rcS (den : COper) : RC tf := ⟨den, fun f H => rchk1 (tf f) H den, fun _ _ h => h⟩
noncomputable def iRc (i : Ins tf) (l : List (RC tf)) (h2 : i.den.2 = []) : Ins tf where
  den := (i.den.1, l.map RC.den)
  run := fun cv k f Ds H => i.run cv (fun f Ds H => bif chks f H l then k f Ds H else .bad) f Ds H
  ok := by
    intro P sp self cv hcv k K hk f Ds H
    have := i.ok P sp self cv hcv (fun f Ds H => bif chks f H l then k f Ds H else .bad) (fun F' Ds H => bif rechk F' H (l.map RC.den) then K F' Ds H else .bad) (fun f Ds H => by
      cases hc : chks f H l with
      | false => trivial
      | true =>
        show Rf tf (k f Ds H) _
        rw [chks_ok f H l hc]
        exact hk f Ds H) f Ds H
    have e : stp (runOp P sp self none) i.den (fun F' Ds H => bif rechk F' H (l.map RC.den) then K F' Ds H else .bad) (tf f) Ds H =
        stp (runOp P sp self none) (i.den.1, l.map RC.den) K (tf f) Ds H ∨ wantG i.den.1.gd (tf f) = false := by
      cases hw : wantG i.den.1.gd (tf f) with
      | false => exact .inr rfl
      | true =>
        left
        unfold stp
        rw [hw, h2]
        simp only
        cases runOp P sp self none i.den.1.c (getL (tf f) i.den.1.xs) Ds H with
        | bad => rfl
        | ok v Ds H => rfl
    rcases e with e | hw
    · rw [e] at this; exact this
    · -- not wanted: nothing was done, so the recheck is stricter
      have : Rf tf (i.run cv (fun f Ds H => bif chks f H l then k f Ds H else .bad) f Ds H) (stp (runOp P sp self none) i.den (fun F' Ds H => bif rechk F' H (l.map RC.den) then K F' Ds H else .bad) (tf f) Ds H) := this
      unfold stp at this ⊢
      rw [hw] at this ⊢
      simp only at this ⊢
      cases hc : rechk (setD i.den.1.dst (tf f) undef) H (l.map RC.den) with
      | true => rw [hc] at this; exact this
      | false =>
        rw [hc] at this
        revert this
        generalize i.run cv (fun f Ds H => bif chks f H l then k f Ds H else .bad) f Ds H = o
        intro this
        cases o with
        | bad => trivial
        | out _ _ _ _ => cases this

noncomputable def runs (cv : CV) (l : List (Ins tf)) (k : XK F) : XK F := List.rec (motive := fun _ => XK F) k (fun i _ ih => i.run cv ih) l
theorem runs_rf {P : Program} {sp : Spec} {self : Self} {cv : CV} (hcv : CvR cv (callV P sp self)) {k : XK F} {K : F8 → List ADef → AH → Out} (hk : ∀ f Ds H, Rf tf (k f Ds H) (K (tf f) Ds H)) :
    ∀ (l : List (Ins tf)) (f : F) (Ds : List ADef) (H : AH), Rf tf (runs cv l k f Ds H) (stps (runOp P sp self none) (l.map Ins.den) K (tf f) Ds H)
  | [], f, Ds, H => hk f Ds H
  | i :: l, f, Ds, H => i.ok P sp self cv hcv (runs cv l k) (stps (runOp P sp self none) (l.map Ins.den) K) (runs_rf hcv hk l) f Ds H

/-! ### code -/
inductive XC (tf : F → F8) where
  | bad
  | skip
  | ret
  | exit (i : Nat)
  | reg (l : List (Ins tf))
  | rg (l : List (Ins tf)) (b : XC tf)
  | seq (a b : XC tf)
  | cond (x : RO tf) (a b : XC tf)
  | block (id : Nat) (b : XC tf)
  | loop (b : XC tf)
  | scope (b : XC tf)
abbrev XS (tf : F → F8) := XC tf → XK F
noncomputable def oN : XK F := fun f Ds H => .out .norm f Ds H
noncomputable def eSeq (self : XS tf) (a b : XC tf) : XK F := fun f Ds H =>
  XO.rec (motive := fun _ => XO F) .bad (fun e f Ds H => Ex.rec (motive := fun _ => XO F) (self b f Ds H) (.out .ret f Ds H) (fun i => .out (.exit i) f Ds H) e) (self a f Ds H)
noncomputable def eCond (self : XS tf) (x : RO tf) (a b : XC tf) : XK F := fun f => VB.rec (motive := fun _ => List ADef → AH → XO F) (fun _ _ => .bad) (self b f) (self a f) (asB (x.get f))
noncomputable def eBlock (self : XS tf) (id : Nat) (b : XC tf) : XK F := fun f Ds H =>
  XO.rec (motive := fun _ => XO F) .bad (fun e f Ds H => Ex.rec (motive := fun _ => XO F) (.out .norm f Ds H) (.out .ret f Ds H) (fun i => Bool.rec (motive := fun _ => XO F) (.out (.exit i) f Ds H) (.out .norm f Ds H) (Nat.beq i id)) e) (self b f Ds H)
noncomputable def eLoop (self : XS tf) (b : XC tf) : XK F := fun f Ds H =>
  XO.rec (motive := fun _ => XO F) .bad (fun e f Ds H => Ex.rec (motive := fun _ => XO F) (self (.loop b) f Ds H) (.out .ret f Ds H) (fun i => .out (.exit i) f Ds H) e) (self b f Ds H)
noncomputable def xevC (x : XC tf) : CV → XS tf → XK F :=
  XC.rec (motive := fun _ => CV → XS tf → XK F) (fun _ _ _ _ _ => .bad) (fun _ _ f Ds H => .out .norm f Ds H) (fun _ _ f Ds H => .out .ret f Ds H) (fun i _ _ f Ds H => .out (.exit i) f Ds H)
    (fun l cv _ => runs cv l oN) (fun l b _ cv self => runs cv l (self b)) (fun a b _ _ _ self => eSeq self a b) (fun x a b _ _ _ self => eCond self x a b) (fun id b _ _ self => eBlock self id b) (fun b _ _ self => eLoop self b) (fun b _ _ self => self b) x
noncomputable def xev (cv : CV) (n : Nat) : XS tf := Nat.rec (motive := fun _ => XS tf) (fun _ _ _ _ => .bad) (fun _ ih x => xevC x cv ih) n

/-! ### what fast code stands for -/
inductive DC where
  | bad
  | skip
  | ret
  | exit (i : Nat)
  | reg (o : Option (List (COper × List COper)))
  | seq (a b : DC)
  | cond (o : Option Opd) (a b : DC)
  | block (id : Nat) (b : DC)
  | loop (b : DC)
  | scope (b : DC)
def XC.den : XC tf → DC
  | .bad => .bad
  | .skip => .skip
  | .ret => .ret
  | .exit i => .exit i
  | .reg l => .reg (some (l.map Ins.den))
  | .rg l b => .seq (.reg (some (l.map Ins.den))) b.den
  | .seq a b => .seq a.den b.den
  | .cond x a b => .cond (some x.o) a.den b.den
  | .block id b => .block id b.den
  | .loop b => .loop b.den
  | .scope b => .scope b.den
noncomputable def cReg (cmp : Cmp) (G D N : Nat) (ops : Array Oper) (draw : Bool) : Option (List (COper × List COper)) :=
  bif draw then (cDrawn cmp G D N ops).map (fun l => l.map RS.q) else (cOps cmp G D N ops ops.toList).map (fun l => l.map fun o => (o, []))
noncomputable def cG (cmp : Cmp) (G D N : Nat) : XC tf → Code → DC
  | .bad, _ => .bad
  | .skip, c => match c with
    | .skip => .skip
    | .label _ => .skip
    | _ => .bad
  | .ret, c => match c with
    | .ret => .ret
    | _ => .bad
  | .exit _, c => match c with
    | .exit i => .exit i
    | _ => .bad
  | .reg _, c => match c with
    | .region _ ops draw => .reg (cReg cmp G D N ops draw)
    | _ => .bad
  | .rg _ b, c => match c with
    | .seq (.region _ ops draw) d => .seq (.reg (cReg cmp G D N ops draw)) (cG cmp G D N b d)
    | _ => .bad
  | .seq a b, c => match c with
    | .seq a' b' => .seq (cG cmp G D N a a') (cG cmp G D N b b')
    | _ => .bad
  | .cond _ a b, c => match c with
    | .cond x a' b' => .cond (cOpd G D N x) (cG cmp G D N a a') (cG cmp G D N b b')
    | _ => .bad
  | .block _ b, c => match c with
    | .block id d => .block id (cG cmp G D N b d)
    | _ => .bad
  | .loop b, c => match c with
    | .loop d => .loop (cG cmp G D N b d)
    | _ => .bad
  | .scope b, c => match c with
    | .scope d => .scope (cG cmp G D N b d)
    | _ => .bad
end ins
end Cr
end Go.Proofs.YtjhbabgcoemecaaGreatDoor
namespace Go.Proofs.YtjhbabgcoemecaaGreatDoor
namespace Cr
open Go Go.RowKit

/-- the slow layer with a fixed evaluator for calls -/
noncomputable def evD (P : Program) (sp : Spec) (G : Nat) (cmp : Cmp) (selfc : Self) (n : Nat) : Self :=
  Nat.rec (motive := fun _ => Self) (fun _ _ _ _ _ => .bad) (fun _ ih => evC P sp G cmp (drwE G cmp) selfc ih) n
theorem evD_ok {P : Program} {G B : Nat} {w0 : World} {sp : Spec} {cmp : Cmp} (hcmp : CmpOk P cmp) (hsp : SpOk P G B w0 sp) (hdrw : DrwOk P G B w0 (drwE G cmp)) {selfc : Self} (hs : Snd P G B w0 selfc) : ∀ n, Snd P G B w0 (evD P sp G cmp selfc n)
  | 0 => fun ctx c F Ds H e F' Ds' H' h => by cases h
  | n + 1 => evC_ok hcmp hsp hdrw hs (evD_ok hcmp hsp hdrw hs n)

def oBnd (o : Out) (K : F8 → List ADef → AH → Out) : Out :=
  match o with
  | .out .norm F Ds H => K F Ds H
  | r => r
theorem stp_bnd (run : COp → List Value → List ADef → AH → ORs) (q : COper × List COper) (K1 K : F8 → List ADef → AH → Out) (F : F8) (Ds : List ADef) (H : AH) :
    stp run q (fun F Ds H => oBnd (K1 F Ds H) K) F Ds H = oBnd (stp run q K1 F Ds H) K := by
  unfold stp
  cases wantG q.1.gd F with
  | false => rfl
  | true =>
    simp only
    cases run q.1.c (getL F q.1.xs) Ds H with
    | bad => rfl
    | ok v Ds H =>
      simp only
      cases rechk (setD q.1.dst F v) H q.2 <;> rfl
theorem stps_bnd (run : COp → List Value → List ADef → AH → ORs) (K : F8 → List ADef → AH → Out) : ∀ (l : List (COper × List COper)) (F : F8) (Ds : List ADef) (H : AH),
    stps run l K F Ds H = oBnd (stps run l (fun F Ds H => .out .norm F Ds H) F Ds H) K
  | [], F, Ds, H => rfl
  | q :: l, F, Ds, H => by
    show stp run q (stps run l K) F Ds H = oBnd (stp run q (stps run l fun F Ds H => .out .norm F Ds H) F Ds H) K
    rw [← stp_bnd]
    congr 1
    funext F Ds H
    exact stps_bnd run K l F Ds H
/-- a region, as a list of steps -/
theorem evC_region {P : Program} {sp : Spec} {G : Nat} {cmp : Cmp} {selfc self : Self} {ctx : Ctx} {id : Nat} {ops : Array Oper} {draw : Bool} {l : List (COper × List COper)} (h : cReg cmp G ctx.D ctx.N ops draw = some l) (F : F8) (Ds : List ADef) (H : AH) :
    evC P sp G cmp (drwE G cmp) selfc self ctx (.region id ops draw) F Ds H = stps (runOp P sp selfc ctx.ro) l (fun F Ds H => .out .norm F Ds H) F Ds H := by
  cases draw with
  | true =>
    change (cDrawn cmp G ctx.D ctx.N ops).map (fun l => l.map RS.q) = some l at h
    show Option.rec (motive := fun _ => Out) .bad (fun plan => evPlan (runOp P sp selfc ctx.ro) plan F Ds H) (cDrawn cmp G ctx.D ctx.N ops) = _
    cases hc : cDrawn cmp G ctx.D ctx.N ops with
    | none => rw [hc] at h; cases h
    | some plan =>
      rw [hc] at h
      simp only [Option.map_some, Option.some.injEq] at h
      subst h
      exact evPlan_stps _ plan F Ds H
  | false =>
    change (cOps cmp G ctx.D ctx.N ops ops.toList).map (fun l => l.map fun o => (o, [])) = some l at h
    show Option.rec (motive := fun _ => Out) .bad (fun l => runOps (runOp P sp selfc ctx.ro) l F Ds H) (cOps cmp G ctx.D ctx.N ops ops.toList) = _
    cases hc : cOps cmp G ctx.D ctx.N ops ops.toList with
    | none => rw [hc] at h; cases h
    | some r =>
      rw [hc] at h
      simp only [Option.map_some, Option.some.injEq] at h
      subst h
      exact runOps_stps _ r F Ds H

section
variable {F : Type} {tf : F → F8}
/-- what a piece of code yields is bound to what comes behind it -/
theorem Rf.bind {x : XO F} {y : Out} (h : Rf tf x y) {X : F → List ADef → AH → XO F} {K : F8 → List ADef → AH → Out} (hK : ∀ f Ds H, Rf tf (X f Ds H) (K (tf f) Ds H)) :
    Rf tf (XO.rec (motive := fun _ => XO F) .bad (fun e f Ds H => Ex.rec (motive := fun _ => XO F) (X f Ds H) (.out .ret f Ds H) (fun i => .out (.exit i) f Ds H) e) x) (oBnd y K) := by
  cases x with
  | bad => trivial
  | out e f Ds H =>
    have h' : y = .out e (tf f) Ds H := h
    subst h'
    cases e with
    | norm => exact hK f Ds H
    | ret => exact rfl
    | exit i => exact rfl
theorem xev_rf {P : Program} {sp : Spec} {G : Nat} {cmp : Cmp} {selfc : Self} {cv : CV} (hcv : CvR cv (callV P sp selfc)) (g D N : Nat) :
    ∀ (n : Nat) (x : XC tf) (c : Code), cG cmp G D N x c = x.den → ∀ (f : F) (Ds : List ADef) (H : AH), Rf tf (xev cv n x f Ds H) (evD P sp G cmp selfc (n + 1) ⟨g, D, N, none⟩ c (tf f) Ds H)
  | 0, _, _, _, _, _, _ => trivial
  | n + 1, x, c, h, f, Ds, H => by
    have ih := xev_rf (G := G) (cmp := cmp) hcv g D N n
    show Rf tf (xevC x cv (xev cv n) f Ds H) (evC P sp G cmp (drwE G cmp) selfc (evD P sp G cmp selfc (n + 1)) ⟨g, D, N, none⟩ c (tf f) Ds H)
    cases x with
    | bad => trivial
    | skip =>
      cases c <;> simp only [cG, XC.den] at h <;> first | exact rfl | cases h
    | ret =>
      cases c <;> simp only [cG, XC.den] at h <;> first | exact rfl | cases h
    | exit i =>
      cases c <;> simp only [cG, XC.den] at h <;> first | cases h; done | skip
      injection h with h
      subst h
      exact rfl
    | reg l =>
      cases c <;> simp only [cG, XC.den] at h <;> first | cases h; done | skip
      injection h with h
      rw [evC_region h]
      exact runs_rf (k := oN) (K := fun F Ds H => .out .norm F Ds H) hcv (fun _ _ _ => (rfl : _ = _)) l f Ds H
    | rg l b =>
      cases c <;> simp only [cG, XC.den] at h <;> first | cases h; done | skip
      rename_i c1 c2
      cases c1 <;> simp only at h <;> first | cases h; done | skip
      rename_i id ops draw
      injection h with h1 h2
      injection h1 with h1
      have e : evC P sp G cmp (drwE G cmp) selfc (evD P sp G cmp selfc (n + 1)) ⟨g, D, N, none⟩ (.seq (.region id ops draw) c2) (tf f) Ds H =
          stps (runOp P sp selfc none) (l.map Ins.den) (fun F Ds H => evD P sp G cmp selfc (n + 1) ⟨g, D, N, none⟩ c2 F Ds H) (tf f) Ds H := by
        rw [stps_bnd, ← evC_region (P := P) (sp := sp) (selfc := selfc) (self := evD P sp G cmp selfc n) (ctx := ⟨g, D, N, none⟩) (id := id) h1 (tf f) Ds H]
        show (match evC P sp G cmp (drwE G cmp) selfc (evD P sp G cmp selfc n) ⟨g, D, N, none⟩ (.region id ops draw) (tf f) Ds H with
          | .out .norm F Ds H => evD P sp G cmp selfc (n + 1) ⟨g, D, N, none⟩ c2 F Ds H
          | r => r) = _
        rfl
      rw [e]
      exact runs_rf hcv (fun f Ds H => ih b c2 h2 f Ds H) l f Ds H
    | seq a b =>
      cases c <;> simp only [cG, XC.den] at h <;> first | cases h; done | skip
      rename_i c1 c2
      injection h with h1 h2
      exact Rf.bind (ih a c1 h1 f Ds H) (fun f Ds H => ih b c2 h2 f Ds H)
    | cond y a b =>
      cases c <;> simp only [cG, XC.den] at h <;> first | cases h; done | skip
      rename_i z c1 c2
      injection h with h1 h2 h3
      show Rf tf (VB.rec (motive := fun _ => List ADef → AH → XO F) (fun _ _ => .bad) (xev cv n b f) (xev cv n a f) (asB (y.get f)) Ds H) (match cOpd G D N z with
        | none => Out.bad
        | some y => match y.get (tf f) with
          | .bool true => evD P sp G cmp selfc (n + 1) ⟨g, D, N, none⟩ c1 (tf f) Ds H
          | .bool false => evD P sp G cmp selfc (n + 1) ⟨g, D, N, none⟩ c2 (tf f) Ds H
          | _ => .bad)
      rw [h1]
      simp only
      rw [y.ok]
      cases hb : asB (y.get f) with
      | no => trivial
      | t => rw [asB_t hb]; exact ih a c1 h2 f Ds H
      | f => rw [asB_f hb]; exact ih b c2 h3 f Ds H
    | block id b =>
      cases c <;> simp only [cG, XC.den] at h <;> first | cases h; done | skip
      rename_i id' c1
      injection h with h1 h2
      subst h1
      have hb := ih b c1 h2 f Ds H
      show Rf tf (XO.rec (motive := fun _ => XO F) .bad (fun e f Ds H => Ex.rec (motive := fun _ => XO F) (.out .norm f Ds H) (.out .ret f Ds H) (fun i => Bool.rec (motive := fun _ => XO F) (.out (.exit i) f Ds H) (.out .norm f Ds H) (Nat.beq i id')) e) (xev cv n b f Ds H))
        (match evD P sp G cmp selfc (n + 1) ⟨g, D, N, none⟩ c1 (tf f) Ds H with
          | .out (.exit j) F Ds H => bif Nat.beq j id' then Out.out .norm F Ds H else .out (.exit j) F Ds H
          | r => r)
      revert hb
      generalize xev cv n b f Ds H = o
      generalize evD P sp G cmp selfc (n + 1) ⟨g, D, N, none⟩ c1 (tf f) Ds H = o'
      intro hb
      cases o with
      | bad => trivial
      | out e f1 Ds1 H1 =>
        have hb' : o' = .out e (tf f1) Ds1 H1 := hb
        subst hb'
        cases e with
        | norm => exact rfl
        | ret => exact rfl
        | exit i =>
          simp only
          cases Nat.beq i id' <;> exact rfl
    | loop b =>
      cases c <;> simp only [cG, XC.den] at h <;> first | cases h; done | skip
      rename_i c1
      injection h with h1
      exact Rf.bind (ih b c1 h1 f Ds H) (fun f Ds H => ih (.loop b) (.loop c1) (by simp only [cG, XC.den, h1]) f Ds H)
    | scope b =>
      cases c <;> simp only [cG, XC.den] at h <;> first | cases h; done | skip
      rename_i c1
      injection h with h1
      exact ih b c1 h1 f Ds H
end
end Cr
end Go.Proofs.YtjhbabgcoemecaaGreatDoor
namespace Go.Proofs.YtjhbabgcoemecaaGreatDoor
namespace Cr
open Go Go.RowKit

/-- a call whose first frame is given -/
theorem callG_ok {P : Program} {G B : Nat} {w0 : World} {self : Self} (hs : Snd P G B w0 self) {g : Nat} {fn : Func} {c : Code} (hf : P.funcs[g]? = some fn) (hb : fn.body = some c) (hok : okFn fn = true)
    {args' : List Value} {H H1 H' : AH} {v : Value} {μ : Mu} {w : World} {F0 F' : F8} {e : Ex} (hF : FR (dep fn.ntmps) fn.ntmps μ F0 ((⟨args'⟩ : Array Value) ++ Array.replicate (fn.ntmps - args'.length) undef))
    (ho : self ⟨g, dep fn.ntmps, fn.ntmps, none⟩ c F0 [] H = .out e F' [] H1) (he : e = .norm ∨ e = .ret) (h : resV P (dep fn.ntmps) fn.ntmps F' H1 fn.results.toList = .ok v H') (hr : HR G B w0 H μ w) {kind : CallKind} {cs : List Frame} (hk : Calm kind cs) :
    (callFunc g ⟨args'⟩).run P w = .ok (.enter g ⟨args'⟩) w ∧ Ends P G B w0 g args' kind cs v H μ H' w := by
  refine ⟨callFunc_enter hf hb hok _ _, ?_⟩
  let b : Frame := { (default : Frame) with fn := g, kind := kind, roundOf := none }
  let a0 : Act := { tmps := (⟨args'⟩ : Array Value) ++ Array.replicate (fn.ntmps - args'.length) undef, defers := [] }
  have henter : Frame.enter P g ⟨args'⟩ kind = b.atR a0 [.code c] := by
    simp [Frame.enter, Frame.atR, hf, hb, b, a0]
  have pre : Pre G B w0 ⟨g, dep fn.ntmps, fn.ntmps, none⟩ μ F0 [] H a0 w b cs := ⟨hF, .nil, hr, rfl, trivial, hk⟩
  obtain ⟨a', w', μ', pre', nx, arr⟩ := hs _ _ _ _ _ _ _ _ _ ho μ a0 w b cs pre (.code c) [] (.code c)
  rw [← henter] at arr
  have hB : DefOk P G B w0 (fun _ _ _ => .bad) := fun _ _ _ _ _ h => by cases h
  have fin : ∀ todo, Steps P (lone (Frame.enter P g ⟨args'⟩ kind) cs w) (lone { b.atR a' todo with mode := .returning } cs w') → Ends P G B w0 g args' kind cs v H μ H' w := by
    intro todo hst
    obtain ⟨v', w2, μ2, fr', s1, s2, s3, s4, s5, s6, s7, s8⟩ := leave_ok hB [] H1 H' v h μ' w' { b.atR a' todo with mode := .returning } cs pre'.hr pre'.fr pre'.df rfl hf
    exact ⟨v', w2, μ2, fr', hst.trans s1, s2, s3, s4, s5, s6, s7, nx.trans s8⟩
  rcases he with rfl | rfl
  · exact fin [] (Steps.trans arr (.one (stepR_end rfl)))
  · obtain ⟨k₁, st⟩ := arr
    exact fin _ (Steps.trans st (.one (stepR_ret rfl)))

section
variable {F : Type} {tf : F → F8}
/-- the parameters -/
noncomputable def inX (ss : List (Slot tf)) : List Value → F → XK F → AH → XO F :=
  List.rec (motive := fun _ => List Value → F → XK F → AH → XO F)
    (fun args f k H => List.rec (motive := fun _ => XO F) (k f [] H) (fun _ _ _ => .bad) args)
    (fun s _ ih args f k H => List.rec (motive := fun _ => XO F) .bad (fun v vs _ => s.puf f v (fun f _ H => ih vs f k H) [] H) args) ss
noncomputable def iniGo (D : Nat) (l : List Value) (i : Nat) (F : F8) : F8 :=
  List.rec (motive := fun _ => Nat → F8 → F8) (fun _ F => F) (fun v _ ih i F => forceV v fun v => F8.put (pth D i) F v fun F => forceN (Nat.succ i) fun i => ih i F) l i F
theorem inX_ok {D : Nat} {k : XK F} {H : AH} : ∀ (ss : List (Slot tf)) (args : List Value) (i : Nat) (f : F), ss.map Slot.p = (List.range' i ss.length).map (pth D) →
    inX ss args f k H = .bad ∨ ∃ f', args.length = ss.length ∧ inX ss args f k H = k f' [] H ∧ tf f' = iniGo D args i (tf f)
  | [], [], i, f, _ => .inr ⟨f, rfl, rfl, rfl⟩
  | [], _ :: _, _, _, _ => .inl rfl
  | _ :: _, [], _, _, _ => .inl rfl
  | s :: ss, v :: vs, i, f, h => by
    simp only [List.map_cons, List.length_cons, List.range'_succ, List.cons.injEq] at h
    obtain ⟨f1, h1, h2⟩ := s.ok f v (fun f _ H => inX ss vs f k H) [] H
    have e : inX (s :: ss) (v :: vs) f k H = inX ss vs f1 k H := by
      show s.puf f v (fun f _ H => inX ss vs f k H) [] H = _
      rw [s.eq, h2]
    rcases inX_ok ss vs (i + 1) f1 h.2 with hb | ⟨f', l1, l2, l3⟩
    · exact .inl (e.trans hb)
    · refine .inr ⟨f', by simp [l1], e.trans l2, l3.trans ?_⟩
      show iniGo D vs (i + 1) (tf f1) = (forceV v fun v => F8.put (pth D i) (tf f) v fun F => forceN (Nat.succ i) fun i => iniGo D vs i F)
      rw [forceV_eq, F8.put_eq, forceN_eq, h1, h.1]

/-- the results -/
structure RR (P : Program) (D N : Nat) (tf : F → F8) where
  den : ResultVar
  get : F → AH → Option Value
  ok : ∀ f H v, get f H = some v → res1 P D N (tf f) H den = some v
noncomputable def rrT {P : Program} {D N : Nat} (x : RO tf) (t : Nat) (hx : x.o = .t (pth D t)) (ht : Nat.blt t N = true) : RR P D N tf :=
  ⟨.tmp t, fun f _ => some (x.get f), fun f H v h => by
    simp only [Option.some.injEq] at h
    subst h
    show (bif Nat.blt t N then some (F8.get (pth D t) (tf f)) else none) = _
    rw [ht, cond_true, ← x.ok, hx]; rfl⟩
noncomputable def rrS {P : Program} {D N : Nat} (r : ResultVar) : RR P D N tf := ⟨r, fun f H => res1 P D N (tf f) H r, fun _ _ _ h => h⟩
noncomputable def fVR (v : Value) : (Value → Rs) → Rs :=
  Value.rec (motive_1 := fun _ => (Value → Rs) → Rs) (motive_2 := fun _ => Unit) (motive_3 := fun _ => Unit)
    (fun b g => g (.bool b)) (fun d n g => g (.int d n)) (fun d n g => g (.float d n)) (fun d n m g => g (.complex d n m)) (fun s g => g (.string s)) (fun a g => g (.pointer a)) (fun a n c g => g (.slice a n c))
    (fun r g => g (.map r)) (fun r g => g (.chan r)) (fun h a b _ _ g => g (.func h a b)) (fun g => g .nilFunc) (fun t v _ g => g (.iface t v)) (fun g => g .nilIface) (fun c _ g => g (.agg c)) (fun c _ g => g (.tuple c))
    (fun _ _ => ()) () (fun _ _ _ _ => ()) v
theorem fVR_eq (v : Value) (g : Value → Rs) : fVR v g = g v := by cases v <;> rfl
noncomputable def rsL {P : Program} {D N : Nat} (f : F) (H : AH) (rs : List (RR P D N tf)) : (List Value → Rs) → Rs :=
  List.rec (motive := fun _ => (List Value → Rs) → Rs) (fun k => k []) (fun r _ ih k => Option.rec (motive := fun _ => Rs) .bad (fun v => fVd v fun v => ih fun vs => k (v :: vs)) (r.get f H)) rs
theorem rsL_ok {P : Program} {D N : Nat} (f : F) (H : AH) : ∀ (rs : List (RR P D N tf)) (k : List Value → Rs), rsL f H rs k = .bad ∨ ∃ vs, resL P D N (tf f) H (rs.map RR.den) = some vs ∧ rsL f H rs k = k vs
  | [], k => .inr ⟨[], rfl, rfl⟩
  | r :: rs, k => by
    cases hr : r.get f H with
    | none =>
      left
      show Option.rec (motive := fun _ => Rs) .bad (fun v => fVd v fun v => rsL f H rs fun vs => k (v :: vs)) (r.get f H) = _
      rw [hr]
    | some v =>
      have e : rsL f H (r :: rs) k = rsL f H rs fun vs => k (v :: vs) := by
        show Option.rec (motive := fun _ => Rs) .bad (fun v => fVd v fun v => rsL f H rs fun vs => k (v :: vs)) (r.get f H) = _
        rw [hr]
        exact fVd_eq v _
      rcases rsL_ok f H rs (fun vs => k (v :: vs)) with h | ⟨vs, h1, h2⟩
      · exact .inl (e.trans h)
      · refine .inr ⟨v :: vs, ?_, e.trans h2⟩
        show (match res1 P D N (tf f) H r.den with
          | none => none
          | some v => match resL P D N (tf f) H (rs.map RR.den) with
            | none => none
            | some vs => some (v :: vs)) = _
        rw [r.ok f H v hr]
        simp only
        rw [h1]
noncomputable def outL (H : AH) (vs : List Value) : Rs :=
  List.rec (motive := fun _ => Rs) (.ok (.tuple ⟨[]⟩) H) (fun v r _ => List.rec (motive := fun _ => Rs) (.ok v H) (fun u l _ => .ok (.tuple ⟨v :: u :: l⟩) H) r) vs
theorem outL_eq {P : Program} {D N : Nat} {F' : F8} {H : AH} {rs : List ResultVar} {vs : List Value} (h : resL P D N F' H rs = some vs) : resV P D N F' H rs = outL H vs := by
  unfold resV
  rw [h]
  match vs with
  | [] => rfl
  | [_] => rfl
  | _ :: _ :: _ => rfl
end

/-- a function's fast text, and why it is the function's -/
structure XFn (P : Program) (G : Nat) (cmp : Cmp) where
  F : Type
  tf : F → F8
  g : Nat
  fn : Func
  c : Code
  D : Nat
  N : Nat
  ss : List (Slot tf)
  f0 : F
  code : XC tf
  rs : List (RR P D N tf)
  hD : D = dep fn.ntmps
  hN : N = fn.ntmps
  hf : P.funcs[g]? = some fn
  hc : fn.body = some c
  hok : okFn fn = true
  hss : ss.map Slot.p = (List.range' 0 ss.length).map (pth D)
  hn : ss.length ≤ N
  h0 : ∀ t, t < 8 ^ D → F8.get (pth D t) (tf f0) = undef
  hcode : cG cmp G D N code c = code.den
  hrs : rs.map RR.den = fn.results.toList
noncomputable def XFn.fin {P : Program} {G : Nat} {cmp : Cmp} (X : XFn P G cmp) (f : X.F) (Ds : List ADef) (H : AH) : Rs := List.rec (motive := fun _ => Rs) (rsL f H X.rs (outL H)) (fun _ _ _ => .bad) Ds
noncomputable def XFn.call {P : Program} {G : Nat} {cmp : Cmp} (X : XFn P G cmp) (cv : CV) (args : List Value) (H : AH) : Rs :=
  XO.rec (motive := fun _ => Rs) .bad (fun e f Ds H => Ex.rec (motive := fun _ => Rs) (X.fin f Ds H) (X.fin f Ds H) (fun _ => .bad) e) (inX X.ss args X.f0 (xev cv 1000000 X.code) H)
theorem XFn.call_ok {P : Program} {G B : Nat} {w0 : World} {cmp : Cmp} (X : XFn P G cmp) (hcmp : CmpOk P cmp) (hdrw : DrwOk P G B w0 (drwE G cmp)) {sp : Spec} (hsp : SpOk P G B w0 sp) {self : Self} (hself : Snd P G B w0 self) {cv : CV} (hcv : CvR cv (callV P sp self))
    {args : List Value} {H H' : AH} {v : Value} (h : X.call cv args H = .ok v H') {μ : Mu} {args' : List Value} {w : World} (hargs : LR μ args args') (hr : HR G B w0 H μ w) {cs : List Frame} :
    (callFunc X.g ⟨args'⟩).run P w = .ok (.enter X.g ⟨args'⟩) w ∧ Ends P G B w0 X.g args' .normal cs v H μ H' w := by
  have hN' : X.N ≤ 4096 := by
    have := X.hok
    simp only [okFn, Bool.and_eq_true] at this
    rw [X.hN]
    exact Nat.le_of_ble_eq_true this.1
  have eN := X.hN
  have eD := X.hD
  have hfit : X.N ≤ 8 ^ X.D := by rw [eD, eN]; rw [eN] at hN'; exact dep_fits hN'
  unfold XFn.call at h
  rcases inX_ok (D := X.D) (k := xev cv 1000000 X.code) (H := H) X.ss args 0 X.f0 X.hss with hb | ⟨f1, l1, l2, l3⟩
  · rw [hb] at h; cases h
  · rw [l2] at h
    have rf := xev_rf (G := G) (cmp := cmp) hcv X.g (X.D) X.N 1000000 X.code X.c X.hcode f1 [] H
    revert h rf
    generalize xev cv 1000000 X.code f1 [] H = o
    intro h rf
    cases o with
    | bad => cases h
    | out e f Ds H1 =>
      have rf' : evD P sp G cmp self (1000000 + 1) ⟨X.g, X.D, X.N, none⟩ X.c (X.tf f1) [] H = .out e (X.tf f) Ds H1 := rf
      have hD : ∀ h' : X.fin f Ds H1 = .ok v H', Ds = [] ∧ resV P (X.D) X.N (X.tf f) H1 X.fn.results.toList = .ok v H' := by
        intro h'
        cases Ds with
        | cons _ _ => cases h'
        | nil =>
          refine ⟨rfl, ?_⟩
          have h2 : rsL f H1 X.rs (outL H1) = .ok v H' := h'
          rcases rsL_ok f H1 X.rs (outL H1) with hb | ⟨vs, k1, k2⟩
          · rw [hb] at h2; cases h2
          · rw [X.hrs] at k1
            rw [outL_eq k1, ← k2]; exact h2
      have hex : (e = .norm ∨ e = .ret) ∧ X.fin f Ds H1 = .ok v H' := by
        cases e with
        | norm => exact ⟨.inl rfl, h⟩
        | ret => exact ⟨.inr rfl, h⟩
        | exit i => cases h
      obtain ⟨rfl, hres⟩ := hD hex.2
      have hlen := hargs.len
      have hn := X.hn
      have hz : FR (X.D) X.N μ (X.tf X.f0) (Array.replicate X.N undef) := ⟨by simp, hfit, fun t ht => by
        rw [X.h0 t ht]
        have : (Array.replicate X.N undef).getD t undef = undef := by
          simp only [Array.getD_eq_getD_getElem?, Array.getElem?_replicate]
          split <;> rfl
        rw [this]
        exact VR.undef μ⟩
      have h1 := initF_go args args' 0 (X.tf X.f0) _ hargs hz (by omega)
      have e1 : (args'.zipIdx 0).foldl (fun (t : Array Value) x => t.setIfInBounds x.2 x.1) (Array.replicate X.N undef) = (⟨args'⟩ : Array Value) ++ Array.replicate (X.N - args'.length) undef := by
        apply Array.toList_inj.1
        rw [foldl_init args' 0 _ (by simp; omega)]
        simp
      rw [e1] at h1
      have hF : FR (X.D) X.N μ (X.tf f1) ((⟨args'⟩ : Array Value) ++ Array.replicate (X.N - args'.length) undef) := by
        rw [l3]; exact h1
      rw [eD, eN] at hF rf' hres
      exact callG_ok (evD_ok hcmp hsp hdrw hself _) X.hf X.hc X.hok hF rf' hex.1 hres hr (.inl rfl)

/-! ### the calls -/
noncomputable def apL (first args cap : List Value) : List Value := List.rec (motive := fun _ => List Value) (List.rec (motive := fun _ => List Value) args (fun _ _ _ => args ++ cap) cap) (fun _ _ _ => first ++ (args ++ cap)) first
theorem apL_eq (first args cap : List Value) : apL first args cap = first ++ (args ++ cap) := by
  cases first with
  | cons _ _ => rfl
  | nil =>
    cases cap with
    | nil => simp [apL]
    | cons _ _ => rfl
noncomputable def cfX (P : Program) (sp : Spec) (self : Self) (g : Nat) (args : List Value) (H : AH) : Rs := Option.rec (motive := fun _ => Rs) (callW P self (call0 P self) g args H) (fun h => h args H) (sp g)
theorem cfX_eq (P : Program) (sp : Spec) (self : Self) (g : Nat) (args : List Value) (H : AH) : cfX P sp self g args H = callF P sp self g args H := by
  unfold cfX callF
  cases sp g <;> rfl
noncomputable def cvX (P : Program) (sp : Spec) (self : Self) (f : Value) (args : List Value) (H : AH) : Rs :=
  Value.rec (motive_1 := fun _ => Program → Spec → Self → List Value → AH → Rs) (motive_2 := fun _ => Unit) (motive_3 := fun _ => Unit)
    (fun _ _ _ _ _ _ => .bad) (fun _ _ _ _ _ _ _ => .bad) (fun _ _ _ _ _ _ _ => .bad) (fun _ _ _ _ _ _ _ _ => .bad) (fun _ _ _ _ _ _ => .bad) (fun _ _ _ _ _ _ => .bad) (fun _ _ _ _ _ _ _ _ => .bad)
    (fun _ _ _ _ _ _ => .bad) (fun _ _ _ _ _ _ => .bad)
    (fun h a b _ _ => Fn.rec (motive := fun _ => Program → Spec → Self → List Value → AH → Rs) (fun g P sp self args H => cfX P sp self g (apL a.toList args b.toList) H) (fun _ _ _ _ _ _ => .bad) (fun _ _ _ _ _ _ _ => .bad) (fun _ _ _ _ _ _ _ _ _ => .bad) (fun l _ _ self args H => yieldF self l args H) h)
    (fun _ _ _ _ _ => .bad) (fun _ _ _ _ _ _ _ _ => .bad) (fun _ _ _ _ _ => .bad) (fun _ _ _ _ _ _ _ => .bad) (fun _ _ _ _ _ _ _ => .bad)
    (fun _ _ => ()) () (fun _ _ _ _ => ()) f P sp self args H
theorem cvX_ok (P : Program) (sp : Spec) (self : Self) : CvR (cvX P sp self) (callV P sp self) := by
  intro f args H v H' h
  cases f with
  | func k a b =>
    obtain ⟨a⟩ := a
    obtain ⟨b⟩ := b
    cases k with
    | func g =>
      have h' : cfX P sp self g (apL a args b) H = .ok v H' := h
      rw [apL_eq, cfX_eq] at h'
      exact h'
    | yield l => exact h
    | _ => cases h
  | _ => cases h
/-- tables by number -/
inductive Tb (α : Type 1) where
  | nil
  | n (v : Option α) (l r : Tb α)
noncomputable def Tb.get {α : Type 1} (t : Tb α) : Nat → Option α :=
  Tb.rec (motive := fun _ => Nat → Option α) (fun _ => none)
    (fun v _ _ il ir k => Nat.rec (motive := fun _ => Option α) v (fun m _ => Bool.rec (motive := fun _ => Option α) (ir (Nat.div m 2)) (il (Nat.div m 2)) (Nat.beq (Nat.land m 1) 0)) k) t
/-- the fast functions as contracts, n calls deep; base: contracts proved otherwise -/
noncomputable def xsp (P : Program) (G : Nat) (cmp : Cmp) (tab : Tb (XFn P G cmp)) (base : Spec) (n : Nat) : Spec :=
  Nat.rec (motive := fun _ => Spec) base (fun _ ih g => Option.rec (motive := fun _ => Option (List Value → AH → Rs)) (base g)
    (fun X => Bool.rec (motive := fun _ => Option (List Value → AH → Rs)) (base g) (some (X.call (cvX P ih (ev P ih G cmp (drwE G cmp) 1000000)))) (Nat.beq X.g g)) (tab.get g)) n
theorem xsp_ok {P : Program} {G B : Nat} {w0 : World} {cmp : Cmp} (hcmp : CmpOk P cmp) (hdrw : DrwOk P G B w0 (drwE G cmp)) (tab : Tb (XFn P G cmp)) {base : Spec} (hbase : SpOk P G B w0 base) : ∀ n, SpOk P G B w0 (xsp P G cmp tab base n)
  | 0 => hbase
  | n + 1 => by
    have ih := xsp_ok hcmp hdrw tab hbase n
    intro g h hg
    change Option.rec (motive := fun _ => Option (List Value → AH → Rs)) (base g)
      (fun X => Bool.rec (motive := fun _ => Option (List Value → AH → Rs)) (base g) (some (X.call (cvX P (xsp P G cmp tab base n) (ev P (xsp P G cmp tab base n) G cmp (drwE G cmp) 1000000)))) (Nat.beq X.g g)) (tab.get g) = some h at hg
    cases ht : tab.get g with
    | none => rw [ht] at hg; exact hbase g h hg
    | some X =>
      rw [ht] at hg
      simp only at hg
      cases hb : Nat.beq X.g g with
      | false => rw [hb] at hg; exact hbase g h hg
      | true =>
        rw [hb] at hg
        simp only [Option.some.injEq] at hg
        have hgX := Nat.eq_of_beq_eq_true hb
        subst hgX
        subst hg
        intro g' args H v H' hcall μ args' w hl hr cs
        change (bif Nat.beq g' X.g then X.call (cvX P (xsp P G cmp tab base n) (ev P (xsp P G cmp tab base n) G cmp (drwE G cmp) 1000000)) args H else Rs.bad) = .ok v H' at hcall
        cases hb' : Nat.beq g' X.g with
        | false => rw [hb'] at hcall; cases hcall
        | true =>
          rw [hb', cond_true] at hcall
          have := Nat.eq_of_beq_eq_true hb'
          subst this
          exact X.call_ok hcmp hdrw ih (ev_ok hcmp ih hdrw 1000000) (cvX_ok P _ _) hcall hl hr
end Cr
end Go.Proofs.YtjhbabgcoemecaaGreatDoor
namespace Go.Proofs.YtjhbabgcoemecaaGreatDoor
namespace Cr
open Go Go.RowKit

def z1 : X1 := ⟨undef, undef, undef, undef, undef, undef, undef, undef⟩
def z2 : X2 := ⟨z1, z1, z1, z1, z1, z1, z1, z1⟩
def z3 : X3 := ⟨z2, z2, z2, z2, z2, z2, z2, z2⟩
theorem pick_same (x : Oct) (p : List Oct) (t : F8) : F8.get (x :: p) (.n t t t t t t t t) = F8.get p t := by cases x <;> rfl
theorem z1_get (x : Oct) : F8.get [x] (tf1 z1) = undef := pick_same x [] (.leaf undef)
theorem z2_get (x y : Oct) : F8.get [x, y] (tf2 z2) = undef := (pick_same x [y] (tf1 z1)).trans (z1_get y)
theorem z1_ok : ∀ t, t < 8 ^ 1 → F8.get (pth 1 t) (tf1 z1) = undef := fun _ _ => z1_get _
theorem z2_ok : ∀ t, t < 8 ^ 2 → F8.get (pth 2 t) (tf2 z2) = undef := fun _ _ => z2_get _ _
theorem z3_ok : ∀ t, t < 8 ^ 3 → F8.get (pth 3 t) (tf3 z3) = undef := fun _ _ => (pick_same _ _ (tf2 z2)).trans (z2_get _ _)

section
variable {F : Type} {tf : F → F8}
/-- a load, rechecked -/
noncomputable def rcLd (x d : RO tf) (p : List Oct) (hd : d.o = .t p) : RC tf where
  den := ⟨none, .r (r1 rLd), [x.o], some p⟩
  chk := fun f H => fLd (x.get f) H false (fun v => veq 6 v (d.get f))
  ok := by
    intro f H h
    have e : getL (tf f) [x.o] = [x.get f] := by rw [← x.ok]; rfl
    have ed : F8.get p (tf f) = d.get f := by rw [← d.ok, hd]; rfl
    rcases fLd_ok (x.get f) H false (fun v => veq 6 v (d.get f)) with hb | ⟨v, hv, hk⟩
    · rw [hb] at h; cases h
    · rw [hk] at h
      show (match r1 rLd (getL (tf f) [x.o]) H with
        | some u => veq 6 u (F8.get p (tf f))
        | none => false) = true
      rw [e]
      show (match rLd (x.get f) H with
        | some u => veq 6 u (F8.get p (tf f))
        | none => false) = true
      rw [hv, ed]
      exact h
end
noncomputable def bIxa (len size : Nat) : B2 where
  slow := pIxa len size
  fast := fun x y bad k => VP.rec (motive := fun _ => _) bad (fun i o => VI.rec (motive := fun _ => _) bad (fun _ m => Bool.rec (motive := fun _ => _) bad (forceN (Nat.add o (Nat.mul m size)) fun o => k (.pointer (some ⟨i, o, none⟩))) (Nat.ble (Nat.succ m) len)) (fun _ _ => bad) (asI y)) (asP x)
  ok := by
    intro R x y bad k
    cases h : asP x with
    | no => exact .inl rfl
    | p i o =>
      rw [asP_p h]
      simp only
      cases hy : asI y with
      | no => exact .inl rfl
      | m d a => exact .inl rfl
      | p d a =>
        rw [asI_p hy]
        simp only
        cases hb : Nat.ble (Nat.succ a) len with
        | false => exact .inl rfl
        | true =>
          refine .inr ⟨_, ?_, forceN_eq _ _⟩
          have hb' : Nat.blt a len = true := hb
          simp [pIxa, hb']
end Cr
end Go.Proofs.YtjhbabgcoemecaaGreatDoor
namespace Go.Proofs.YtjhbabgcoemecaaGreatDoor
namespace Cr
open Go Go.RowKit

/-- the numbers of the variables among the nodes -/
def varNums : List (Value × Value) → Option (List Value)
  | [] => some []
  | e :: es => match e.2 with
    | .agg ⟨[.int .u8 (.ofNat op), .int .u64 (.ofNat num), .slice _ _ _]⟩ => match varNums es with
      | none => none
      | some r => bif Nat.beq op 1 then (bif Nat.ble num 9223372036854775807 then some (.int .i64 (.ofNat num) :: r) else none) else some r
    | _ => none
/-- what is done with the variables: they are sorted -/
noncomputable def spFin (call : Nat → List Value → AH → Rs) (srt : Nat) (H1 : AH) (vs : List Value) : Rs :=
  match vs with
  | [] => match call srt [.slice none 0 0] H1 with
    | .ok _ H3 => .ok (.tuple ⟨[.slice none 0 0, .int .i64 (.ofNat 0)]⟩) H3
    | .bad => .bad
  | [n] => forceN H1.next fun i => bif Nat.blt i 900000000000 then
      forceH (H1.push (.cells true 1 1 [n] .nil)) fun H2 => match call srt [.slice (some ⟨i, 0, none⟩) 1 36893488147419103233] H2 with
      | .ok _ H3 => .ok (.tuple ⟨[.slice (some ⟨i, 0, none⟩) 1 36893488147419103233, .int .i64 (.ofNat 0)]⟩) H3
      | .bad => .bad
    else .bad
  | _ => .bad
noncomputable def spVars (call : Nat → List Value → AH → Rs) (occ srt : Nat) (args : List Value) (H : AH) : Rs :=
  match args with
  | [x, y] => match call occ [x, y] H with
    | .ok (.tuple ⟨[.map (some r), .int .i64 (.ofNat 0)]⟩) H1 => match H1.get r with
      | some (.map true es) => match varNums es with
        | some vs => spFin call srt H1 vs
        | _ => .bad
      | _ => .bad
    | _ => .bad
  | _ => .bad
end Cr
end Go.Proofs.YtjhbabgcoemecaaGreatDoor
namespace Go.Proofs.YtjhbabgcoemecaaGreatDoor
namespace Cr
open Go Go.RowKit

theorem calls_of {P : Program} {G B : Nat} {w0 : World} {sp : Spec} (hsp : SpOk P G B w0 sp) {g : Nat} {h : List Value → AH → Rs} (hg : sp g = some h) {args : List Value} {H H' : AH} {v : Value} (hrun : h args H = .ok v H')
    {μ : Mu} {w : World} {args' : List Value} (hargs : LR μ args args') (hr : HR G B w0 H μ w) :
    Calls P g ⟨args'⟩ w fun e w' => ∃ v' μ', e = .returned v' ∧ VR μ' v v' ∧ Nx G B w0 H μ H' μ' w' := by
  intro cs
  obtain ⟨_, v', w', μ', fr, h1, h2, h3, h4, h5, h6, h7, h8⟩ := hsp g h hg g args H v H' (by show (bif Nat.beq g g then h args H else Rs.bad) = _; rw [Nat.beq_refl]; exact hrun) μ args' w hargs hr cs
  exact ⟨.returned v', w', fr, ⟨v', μ', rfl, h7, h8⟩, h1, h2, Ends.leaving h2 h3 h4 h5 h6⟩
/-- a run without arguments that answers 'true' -/
theorem calls_true {P : Program} {G : Nat} {w : World} {sp : Spec} (hsp : SpOk P G w.heap.size w sp) {g : Nat} {h : List Value → AH → Rs} (hg : sp g = some h) {H H' : AH} (hrun : h [] H = .ok (.bool true) H')
    {μ : Mu} (hr : HR G w.heap.size w H μ w) : Calls P g #[] w fun e w' => e = .returned (.bool true) ∧ Below w.heap.size w w' := by
  refine (calls_of hsp hg hrun (LR.nil μ) hr).mono ?_
  rintro e w' ⟨v', μ', rfl, hv, nx⟩
  cases hv
  exact ⟨rfl, nx.hr.below⟩

/-- memories that read alike -/
structure Alike (H K : AH) : Prop where
  get : ∀ i, H.get i = K.get i
  next : H.next = K.next
theorem HR.alike {G B : Nat} {w0 : World} {H K : AH} {μ : Mu} {w : World} (h : HR G B w0 H μ w) (e : Alike H K) : HR G B w0 K μ w :=
  ⟨fun i x hi => h.blk i x ((e.get i).trans hi), fun i j x y hi hj => h.apart i j x y ((e.get i).trans hi) ((e.get j).trans hj), fun i x hi => e.next ▸ h.low i x ((e.get i).trans hi), fun i p hp => e.next ▸ h.mu i p hp, h.glob, e.next ▸ h.small, h.below, h.base⟩
theorem Nx.alike {G B : Nat} {w0 : World} {H H' K : AH} {μ μ' : Mu} {w' : World} (h : Nx G B w0 H μ H' μ' w') (e : Alike H' K) : Nx G B w0 H μ K μ' w' :=
  ⟨h.hr.alike e, h.ext, fun i hi hu => let ⟨a, b⟩ := h.unb i hi hu; ⟨a, (e.get i).symm.trans b⟩, e.next ▸ h.next⟩
/-! ### the first memory -/
/-- block 0 holds the number of a map, block 1 is an array, block 2 the map -/
noncomputable def first (n : Nat) (zs : List Value) (es : List (Value × Value)) : AH :=
  ⟨((Tr.nil.put 0 (some (.cells false 1 1 [.map (some 2)] .nil))).put 1 (some (.cells false n n zs .nil))).put 2 (some (.map false es)), 3⟩
theorem first_get (n : Nat) (zs : List Value) (es : List (Value × Value)) (i : Nat) :
    (first n zs es).get i = if i = 2 then some (.map false es) else if i = 1 then some (.cells false n n zs .nil) else if i = 0 then some (.cells false 1 1 [.map (some 2)] .nil) else none := by
  show (Tr.put (Tr.put (Tr.put Tr.nil 0 _) 1 _) 2 _).get i = _
  rw [Tr.get_put _ _ _ _ (by decide), Tr.get_put _ _ _ _ (by decide), Tr.get_put _ _ _ _ (by decide), Tr.get_nil]
def firstMu (b : Nat) : Mu := ⟨fun i => if i = 2 then some (b, 0) else if i = 1 then some (1, 0) else if i = 0 then some (0, 0) else none, fun _ => 0⟩
theorem first_ok {w : World} {b n : Nat} {zs : List Value} {es : List (Value × Value)} {cs0 cs1 : Array Value} {e0 e1 : TypeId} {f0 f1 : Nat × Nat} {ents : Array MapEntry} {clock : Nat}
    (h0 : w.heap[0]? = some (.cells cs0 e0 f0)) (h0' : cs0[0]? = some (.map (some b))) (h1 : w.heap[1]? = some (.cells cs1 e1 f1)) (h1' : ∀ k, k < n → cs1[k]? = zs[k]?) (hn : zs.length = n) (hz : zs.all scalar = true)
    (hb : w.heap[b]? = some (.map ents clock)) (hp : List.Perm es (ents.toList.map fun e => (e.key, e.val))) (hk : (es.map (·.1)).all scalar = true) (hv : (es.map (·.2)).all scalar = true)
    (hi : ∃ kd, ∀ e ∈ es, ∃ n, e.1 = .int kd n) (hd : es.Pairwise (fun x y => x.1 ≠ y.1)) : HR 2 w.heap.size w (first n zs es) (firstMu b) w := by
  have hb0 : b ≠ 0 := fun e => by subst e; rw [h0] at hb; cases hb
  have hb1 : b ≠ 1 := fun e => by subst e; rw [h1] at hb; cases hb
  have key : ∀ {l : List Value}, l.all scalar = true → ∀ {l' : List Value}, List.Perm l l' → LR (firstMu b) l' l' := fun hl _ hp' => LR.scalars (List.all_eq_true.2 fun x hx => List.all_eq_true.1 hl x (hp'.mem_iff.2 hx))
  have cases3 : ∀ {i : Nat} {p : Nat × Nat}, firstMu b i = some p → (i = 2 ∧ p = (b, 0)) ∨ (i = 1 ∧ p = (1, 0)) ∨ (i = 0 ∧ p = (0, 0)) := by
    intro i p h
    simp only [firstMu] at h
    split at h
    · injection h with h; exact .inl ⟨by assumption, h.symm⟩
    · split at h
      · injection h with h; exact .inr (.inl ⟨by assumption, h.symm⟩)
      · split at h
        · injection h with h; exact .inr (.inr ⟨by assumption, h.symm⟩)
        · cases h
  refine ⟨?_, ?_, ?_, ?_, ?_, (by show (3 : Nat) < _; decide), Below.refl _ _, Nat.le_refl _⟩
  · intro i x hx c o hm
    rw [first_get] at hx
    rcases cases3 hm with ⟨rfl, e⟩ | ⟨rfl, e⟩ | ⟨rfl, e⟩
    · injection e with e1 e2
      subst e1 e2
      rw [if_pos rfl] at hx
      injection hx with hx
      subst hx
      refine ⟨rfl, _, ents, clock, ⟨hp, hi, hd⟩, hb, (fun e => (by cases e)), ?_, ?_⟩
      · have := key hk (hp.map (·.1))
        rw [List.map_map] at this ⊢
        exact this
      · have := key hv (hp.map (·.2))
        rw [List.map_map] at this ⊢
        exact this
    · injection e with e1 e2
      subst e1 e2
      rw [if_neg (by decide), if_pos rfl] at hx
      injection hx with hx
      subst hx
      refine ⟨cs1, e1, f1, h1, fun e => (by cases e), fun k hk => ?_⟩
      have hkl : k < zs.length := by omega
      refine ⟨zs[k], by rw [Nat.zero_add, h1' k hk, List.getElem?_eq_getElem hkl], ?_⟩
      have e : cellv n zs .nil k = zs[k] := by
        show nth zs (Nat.mod k n) = _
        rw [nth_eq]
        have : Nat.mod k n = k := Nat.mod_eq_of_lt hk
        rw [this, List.getD_eq_getElem?_getD, List.getElem?_eq_getElem hkl]; rfl
      rw [e]
      exact VR.scalar (List.all_eq_true.1 hz _ (List.getElem_mem hkl))
    · injection e with e1 e2
      subst e1 e2
      rw [if_neg (by decide), if_neg (by decide), if_pos rfl] at hx
      injection hx with hx
      subst hx
      refine ⟨cs0, e0, f0, h0, fun e => (by cases e), fun k hk => ?_⟩
      obtain rfl : k = 0 := by omega
      exact ⟨_, h0', VR.map 2 b rfl⟩
  · intro i j x y _ _ hne c o c' o' hm hm'
    rcases cases3 hm with ⟨rfl, e⟩ | ⟨rfl, e⟩ | ⟨rfl, e⟩ <;> rcases cases3 hm' with ⟨rfl, e'⟩ | ⟨rfl, e'⟩ | ⟨rfl, e'⟩ <;> injection e with e1 e2 <;> injection e' with e1' e2' <;> omega
  · intro i x hx
    rw [first_get] at hx
    show i < 3
    split at hx
    · omega
    · split at hx
      · omega
      · split at hx
        · omega
        · cases hx
  · intro i p hp
    show i < 3
    rcases cases3 hp with ⟨rfl, e⟩ | ⟨rfl, e⟩ | ⟨rfl, e⟩ <;> decide
  · intro g hg
    have : g = 0 ∨ g = 1 := by omega
    rcases this with rfl | rfl <;> rfl
end Cr
end Go.Proofs.YtjhbabgcoemecaaGreatDoor
namespace Go.Proofs.YtjhbabgcoemecaaGreatDoor
namespace Cr
open Go Go.RowKit
open Go.ChangeMaps (setBlock)

theorem calls_of_call {P : Program} {G B : Nat} {w0 : World} {call : Nat → List Value → AH → Rs} (hcall : CallOk P G B w0 call) {g : Nat} {args : List Value} {H H' : AH} {v : Value} (hrun : call g args H = .ok v H')
    {μ : Mu} {w : World} {args' : List Value} (hargs : LR μ args args') (hr : HR G B w0 H μ w) :
    Calls P g ⟨args'⟩ w fun e w' => ∃ v' μ', e = .returned v' ∧ VR μ' v v' ∧ Nx G B w0 H μ H' μ' w' := by
  intro cs
  obtain ⟨_, v', w', μ', fr, h1, h2, h3, h4, h5, h6, h7, h8⟩ := hcall g args H v H' hrun μ args' w hargs hr cs
  exact ⟨.returned v', w', fr, ⟨v', μ', rfl, h7, h8⟩, h1, h2, Ends.leaving h2 h3 h4 h5 h6⟩
/-- and back -/
theorem ends_of_calls {P : Program} {G B : Nat} {w0 : World} {g : Nat} {H H' : AH} {v : Value} {μ : Mu} {w : World} {args' : List Value} {fn : Func} {c : Code} (hf : P.funcs[g]? = some fn) (hb : fn.body = some c) (hok : okFn fn = true)
    (h : Calls P g ⟨args'⟩ w fun e w' => ∃ v' μ', e = .returned v' ∧ VR μ' v v' ∧ Nx G B w0 H μ H' μ' w') (cs : List Frame) :
    (callFunc g ⟨args'⟩).run P w = .ok (.enter g ⟨args'⟩) w ∧ Ends P G B w0 g args' .normal cs v H μ H' w := by
  refine ⟨callFunc_enter hf hb hok _ _, ?_⟩
  obtain ⟨e, w', fr, ⟨v', μ', rfl, h1, h2⟩, h3, h4, h5⟩ := h cs
  obtain ⟨l1, l2, l3, fn', l4, l5⟩ := h5
  exact ⟨v', w', μ', fr, h3, h4, l3, l1, l2, ⟨fn', by rw [← h4]; exact l4, l5⟩, h1, h2⟩

/-- worlds that have grown beside the machine: what it knows is as it was -/
theorem HR.beside {G B : Nat} {w0 : World} {H : AH} {μ : Mu} {w w' : World} (h : HR G B w0 H μ w) (hb : Below w.heap.size w w') : HR G B w0 H μ w' :=
  ⟨fun i x hi b o hm => (h.blk i x hi b o hm).heap (hb.block b (h.blk i x hi b o hm).lt), h.apart, h.low, h.mu, h.glob, h.small, h.below.trans (hb.mono h.base), Nat.le_trans h.base hb.size⟩
/-- a block that was born beside the machine gets a number -/
theorem HR.born {G B : Nat} {w0 : World} {H : AH} {μ : Mu} {w : World} (h : HR G B w0 H μ w) (hs : H.next < 999999999999) {w' : World} (hb : Below w.heap.size w w') {x : Blk} {c T : Nat} (hc : w.heap.size ≤ c)
    (hx : BR B (μ.bind H.next (c, 0) T) w' c 0 T x) : Nx G B w0 H μ (H.push x) (μ.bind H.next (c, 0) T) w' := by
  have hf := h.fresh
  have hext := Mu.ext_bind (p := (c, 0)) (T := T) hf
  have hget := AH.get_push (H := H) (x := x) (by omega)
  have h' := h.beside hb
  refine ⟨⟨?_, ?_, ?_, ?_, fun g hg => hext.loc _ _ (h.glob g hg), by show Nat.succ H.next < _; omega, h'.below, h'.base⟩, hext, ?_, Nat.le_succ _⟩
  · intro i y hi b o hm
    rw [hget] at hi
    by_cases e : i = H.next
    · subst e
      rw [if_pos rfl] at hi
      injection hi with hi
      subst hi
      rw [Mu.bind_same] at hm
      injection hm with hm
      injection hm with e1 e2
      subst e1 e2
      rw [Mu.tot_same]
      exact hx
    · rw [if_neg e] at hi
      rw [Mu.bind_ne e] at hm
      rw [Mu.tot_ne e]
      exact (h'.blk i y hi b o hm).ext hext
  · intro i j y z hi hj hne b o b' o' hm hm'
    rw [hget] at hi hj
    by_cases e : i = H.next
    · subst e
      have e' : j ≠ H.next := fun e => hne e.symm
      rw [if_neg e'] at hj
      rw [Mu.bind_same] at hm
      rw [Mu.bind_ne e'] at hm'
      injection hm with hm
      injection hm with e1 e2
      have := (h.blk j z hj b' o' hm').lt
      omega
    · rw [if_neg e] at hi
      rw [Mu.bind_ne e] at hm
      by_cases e' : j = H.next
      · subst e'
        rw [Mu.bind_same] at hm'
        injection hm' with hm'
        injection hm' with e1 e2
        have := (h.blk i y hi b o hm).lt
        omega
      · rw [if_neg e'] at hj
        rw [Mu.bind_ne e'] at hm'
        exact h.apart i j y z hi hj hne b o b' o' hm hm'
  · intro i y hi
    rw [hget] at hi
    show i < Nat.succ H.next
    by_cases e : i = H.next
    · omega
    · rw [if_neg e] at hi; have := h.low i y hi; omega
  · intro i p hp
    show i < Nat.succ H.next
    by_cases e : i = H.next
    · omega
    · rw [Mu.bind_ne e] at hp; have := h.mu i p hp; omega
  · intro i hi hu
    have e : i ≠ H.next := by omega
    exact ⟨by rw [Mu.bind_ne e]; exact hu, by rw [hget, if_neg e]⟩

/-! ### loops over maps, for the walk -/
section
variable {P : Program} {w : World} {ops : Array Oper} {rest : List Oper} {o : Oper} {a : Act} {Q : Exit → Act → World → Prop}
theorem wpList_range_at (hg : o.guard = none) (m : Operand) (t : TypeId) (hop : o.op = Op.range t m) {kt et : TypeId} (ht : P.underlying t = some (.map kt et)) {b clock : Nat} {es : Array MapEntry}
    (hm : a.eval m = .map (some b)) (hb : w.heap[b]? = some (.map es clock))
    (hK : ∀ w', Hid (w' = w.alloc (.mapIter (some b) clock #[] clock)) → wpList P ops Q rest (a.put o.dst (.pointer (some ⟨w.heap.size, 0, none⟩))) w') : wpList P ops Q (o :: rest) a w := by
  refine wpList_plain hg fun K' hK' => ?_
  have hget : (getObj b).run P w = .ok (.map es clock) w := by simp [getObj, Sem.run, hb]
  have hrun : (Instr.range t (.map (some b))).run P w = .ok (.pointer (some ⟨w.heap.size, 0, none⟩)) (w.alloc (.mapIter (some b) clock #[] clock)) := by
    simp [Instr.range, run_underlying ht, hget]
  unfold Oper.wp
  simp [execOp, hop, hm, hrun, Result.andThen]
  exact hK' _ _ (hK _ (Lib.hid rfl))
theorem wpList_next_at (hg : o.guard = none) (it : Operand) (hop : o.op = Op.next it false) {r bm since c0 clock : Nat} {seen : Array Nat} {es : Array MapEntry}
    (hit : a.eval it = .pointer (some ⟨r, 0, none⟩)) (hr : w.heap[r]? = some (.mapIter (some bm) since seen c0)) (hb : w.heap[bm]? = some (.map es clock)) (hold : ∀ x ∈ es.toList, x.born < since) (hsc : since ≤ c0)
    (hDone : Hid ((leftOf es seen).size = 0) → wpList P ops Q rest (a.put o.dst (.tuple #[.bool false])) w)
    (hMore : ∀ e ∈ (leftOf es seen).toList, ∀ w1 w2, (w1 = w ∨ w1 = w.drew) → Hid (w2 = setBlock w1 r (.mapIter (some bm) since (seen.push e.born) clock)) → wpList P ops Q rest (a.put o.dst (.tuple #[.bool true, e.key, e.val])) w2) :
    wpList P ops Q (o :: rest) a w := by
  refine wpList_plain hg fun K' hK' => ?_
  unfold Oper.wp
  rcases run_next_at (P := P) w o.type r bm since c0 seen es clock hr hb hold hsc with ⟨h0, hrun⟩ | ⟨e, he, w1, hw1, hrun⟩
  · simp [execOp, hop, hit, hrun, Result.andThen]
    exact hK' _ _ (hDone (Lib.hid h0))
  · simp [execOp, hop, hit, hrun, Result.andThen]
    exact hK' _ _ (hMore e he w1 _ hw1 (Lib.hid rfl))
theorem wpList_entry_at (hg : o.guard = none) (it : Operand) (hop : o.op = Op.entry it) {r : Nat} {k v : Value} (hit : a.eval it = .pointer (some ⟨r, 0, none⟩)) (hrun : (Instr.entry (.pointer (some ⟨r, 0, none⟩))).run P w = .ok (.tuple #[k, v]) w)
    (hK : wpList P ops Q rest (a.put o.dst (.tuple #[k, v])) w) : wpList P ops Q (o :: rest) a w := by
  refine wpList_plain hg fun K' hK' => ?_
  unfold Oper.wp
  simp [execOp, hop, hit, hrun, Result.andThen]
  exact hK' _ _ hK
end
end Cr
end Go.Proofs.YtjhbabgcoemecaaGreatDoor
