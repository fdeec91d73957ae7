/-
  Calls within a closed run (triforium/triforiumlaw41.awake), run: printed by a program of mine (Cutter).
-/
import Derived.KernelRfl
import Derived.Test.YtjgppeeplkidpaaGreatBw41St
namespace Go.Proofs.YtjgppeeplkidpaaGreat.Bw41
open Go Go.AM
theorem t0 : knownRun (E.with (orcK [])) 1000000 k0 r0 s0 = some (k0.v, k0.H) := by kernel_rfl
end Go.Proofs.YtjgppeeplkidpaaGreat.Bw41
