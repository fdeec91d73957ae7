/-
  Calls within a closed run (triforium/triforiumlaw24.awake), run: printed by a program of mine (Cutter).
-/
import Derived.KernelRfl
import Derived.Test.YtfaplhodeekjnaaGreatBw24St
namespace Go.Proofs.YtfaplhodeekjnaaGreat.Bw24
open Go Go.AM
theorem t8 : knownRun (E.with (orcK [])) 1000000 k8 r8 s8 = some (k8.v, k8.H) := by kernel_rfl
end Go.Proofs.YtfaplhodeekjnaaGreat.Bw24
