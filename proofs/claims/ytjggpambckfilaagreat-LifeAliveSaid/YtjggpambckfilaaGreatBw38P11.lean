/-
  Calls within a closed run (triforium/triforiumlaw38.awake), run: printed by a program of mine (Cutter).
-/
import Derived.KernelRfl
import Derived.Test.YtjggpambckfilaaGreatBw38St
namespace Go.Proofs.YtjggpambckfilaaGreat.Bw38
open Go Go.AM
theorem t11 : knownRun (E.with (orcK [])) 1000000 k11 r11 s11 = some (k11.v, k11.H) := by kernel_rfl
end Go.Proofs.YtjggpambckfilaaGreat.Bw38
