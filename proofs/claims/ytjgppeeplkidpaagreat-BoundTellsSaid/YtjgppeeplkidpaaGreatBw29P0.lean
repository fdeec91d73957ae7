/-
  Calls within a closed run (triforium/triforiumlaw29.awake), run: printed by a program of mine (Cutter).
-/
import Derived.KernelRfl
import Derived.Test.YtjgppeeplkidpaaGreatBw29St
namespace Go.Proofs.YtjgppeeplkidpaaGreat.Bw29
open Go Go.AM
theorem t0 : knownRun (E.with (orcK [])) 1000000 k0 r0 s0 = some (k0.v, k0.H) := by kernel_rfl
theorem t1 : knownRun (E.with (orcK [])) 1000000 k1 r1 s1 = some (k1.v, k1.H) := by kernel_rfl
theorem t2 : knownRun (E.with (orcK [])) 1000000 k2 r2 s2 = some (k2.v, k2.H) := by kernel_rfl
theorem t3 : knownRun (E.with (orcK [])) 1000000 k3 r3 s3 = some (k3.v, k3.H) := by kernel_rfl
theorem t4 : knownRun (E.with (orcK [])) 1000000 k4 r4 s4 = some (k4.v, k4.H) := by kernel_rfl
theorem t5 : knownRun (E.with (orcK [])) 1000000 k5 r5 s5 = some (k5.v, k5.H) := by kernel_rfl
theorem t6 : knownRun (E.with (orcK [])) 1000000 k6 r6 s6 = some (k6.v, k6.H) := by kernel_rfl
theorem t7 : knownRun (E.with (orcK [])) 1000000 k7 r7 s7 = some (k7.v, k7.H) := by kernel_rfl
theorem t8 : knownRun (E.with (orcK [])) 1000000 k8 r8 s8 = some (k8.v, k8.H) := by kernel_rfl
end Go.Proofs.YtjgppeeplkidpaaGreat.Bw29
