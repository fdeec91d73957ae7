/-
  Calls within a closed run (triforium/triforiumlaw29.awake), run: printed by a program of mine (Cutter).
-/
import Derived.KernelRfl
import Derived.Test.YtjgppeeplkidpaaGreatBw29St
namespace Go.Proofs.YtjgppeeplkidpaaGreat.Bw29
open Go Go.AM
theorem t27 : knownRun (E.with (orcK [])) 1000000 k27 r27 s27 = some (k27.v, k27.H) := by kernel_rfl
theorem t28 : knownRun (E.with (orcK [])) 1000000 k28 r28 s28 = some (k28.v, k28.H) := by kernel_rfl
theorem t29 : knownRun (E.with (orcK [])) 1000000 k29 r29 s29 = some (k29.v, k29.H) := by kernel_rfl
theorem t30 : knownRun (E.with (orcK [])) 1000000 k30 r30 s30 = some (k30.v, k30.H) := by kernel_rfl
theorem t31 : knownRun (E.with (orcK [])) 1000000 k31 r31 s31 = some (k31.v, k31.H) := by kernel_rfl
end Go.Proofs.YtjgppeeplkidpaaGreat.Bw29
