/- A machine for closed runs: for the compiled functions. -/
import Derived.Test.YtjhbabgcoemecaaGreatDoorProg
import Derived.Test.YtjhbabgcoemecaaGreatDoorK3
namespace Go.Proofs.YtjhbabgcoemecaaGreatDoor
namespace Cr
open Go Go.RowKit
noncomputable def tdOf (t : TypeId) : TypeDesc := (Tryz.prog.underlying t).getD .bool
end Cr
end Go.Proofs.YtjhbabgcoemecaaGreatDoor
