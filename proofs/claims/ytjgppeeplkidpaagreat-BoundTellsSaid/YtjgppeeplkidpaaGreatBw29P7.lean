/-
  Calls within a closed run (triforium/triforiumlaw29.awake), run: printed by a program of mine (Cutter).
-/
import Derived.KernelRfl
import Derived.Test.YtjgppeeplkidpaaGreatBw29St
namespace Go.Proofs.YtjgppeeplkidpaaGreat.Bw29
open Go Go.AM
theorem t35 : knownRun (E.with (orcK [])) 1000000 k35 r35 s35 = some (k35.v, k35.H) := by kernel_rfl
end Go.Proofs.YtjgppeeplkidpaaGreat.Bw29
