/-
  Calls within a closed run (triforium/triforiumlaw24.awake), run: printed by a program of mine (Cutter).
-/
import Derived.KernelRfl
import Derived.Test.YtfaplhodeekjnaaGreatBw24St
namespace Go.Proofs.YtfaplhodeekjnaaGreat.Bw24
open Go Go.AM
theorem t3 : knownRun (E.with (orcK [])) 1000000 k3 r3 s3 = some (k3.v, k3.H) := by kernel_rfl
theorem t4 : knownRun (E.with (orcK [])) 1000000 k4 r4 s4 = some (k4.v, k4.H) := by kernel_rfl
end Go.Proofs.YtfaplhodeekjnaaGreat.Bw24
