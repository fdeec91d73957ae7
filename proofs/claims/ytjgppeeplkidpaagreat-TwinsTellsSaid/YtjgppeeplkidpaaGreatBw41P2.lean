/-
  Calls within a closed run (triforium/triforiumlaw41.awake), run: printed by a program of mine (Cutter).
-/
import Derived.KernelRfl
import Derived.Test.YtjgppeeplkidpaaGreatBw41St
namespace Go.Proofs.YtjgppeeplkidpaaGreat.Bw41
open Go Go.AM
theorem t2 : knownRun (E.with (orcK [])) 1000000 k2 r2 s2 = some (k2.v, k2.H) := by kernel_rfl
end Go.Proofs.YtjgppeeplkidpaaGreat.Bw41
