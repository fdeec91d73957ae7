/-
  Calls within a closed run (triforium/triforiumlaw29.awake), run: printed by a program of mine (Cutter).
-/
import Derived.KernelRfl
import Derived.Test.YtjgppeeplkidpaaGreatBw29St
namespace Go.Proofs.YtjgppeeplkidpaaGreat.Bw29
open Go Go.AM
theorem t33 : knownRun (E.with (orcK [])) 1000000 k33 r33 s33 = some (k33.v, k33.H) := by kernel_rfl
end Go.Proofs.YtjgppeeplkidpaaGreat.Bw29
