/-
  Calls within a closed run (triforium/triforiumlaw24.awake), run: printed by a program of mine (Cutter).
-/
import Derived.KernelRfl
import Derived.Test.YtfaplhodeekjnaaGreatBw24St
namespace Go.Proofs.YtfaplhodeekjnaaGreat.Bw24
open Go Go.AM
theorem t5 : knownRun (E.with (orcK [])) 1000000 k5 r5 s5 = some (k5.v, k5.H) := by kernel_rfl
end Go.Proofs.YtfaplhodeekjnaaGreat.Bw24
