/-
  Calls within a closed run (triforium/triforiumlaw29.awake), run: printed by a program of mine (Cutter).
-/
import Derived.KernelRfl
import Derived.Test.YtjgppeeplkidpaaGreatBw29St
namespace Go.Proofs.YtjgppeeplkidpaaGreat.Bw29
open Go Go.AM
theorem t32 : knownRun (E.with (orcK [k0, k1, k2, k3, k4, k5, k6, k7, k8, k9, k10, k11, k12, k13, k14, k15, k16, k17, k18, k19, k20, k21, k22, k23, k24, k25, k26, k27, k28, k29, k30, k31])) 1000000 k32 r32 s32 = some (k32.v, k32.H) := by kernel_rfl
end Go.Proofs.YtjgppeeplkidpaaGreat.Bw29
