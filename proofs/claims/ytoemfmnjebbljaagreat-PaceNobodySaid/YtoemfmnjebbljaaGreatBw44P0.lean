/-
  Calls within a closed run (triforium/triforiumlaw44.awake), run: printed by a program of mine (Cutter).
-/
import Derived.KernelRfl
import Derived.Test.YtoemfmnjebbljaaGreatBw44St
namespace Go.Proofs.YtoemfmnjebbljaaGreat.Bw44
open Go Go.AM
theorem t0 : knownRun (E.with (orcK [])) 1000000 k0 r0 s0 = some (k0.v, k0.H) := by kernel_rfl
theorem t1 : knownRun (E.with (orcK [])) 1000000 k1 r1 s1 = some (k1.v, k1.H) := by kernel_rfl
theorem t2 : knownRun (E.with (orcK [])) 1000000 k2 r2 s2 = some (k2.v, k2.H) := by kernel_rfl
end Go.Proofs.YtoemfmnjebbljaaGreat.Bw44
