/-
  Calls within a closed run (triforium/triforiumlaw41.awake), run: printed by a program of mine (Cutter).
-/
import Derived.KernelRfl
import Derived.Test.YtjgppeeplkidpaaGreatBw41St
namespace Go.Proofs.YtjgppeeplkidpaaGreat.Bw41
open Go Go.AM
theorem t10 : knownRun (E.with (orcK [])) 1000000 k10 r10 s10 = some (k10.v, k10.H) := by kernel_rfl
end Go.Proofs.YtjgppeeplkidpaaGreat.Bw41
