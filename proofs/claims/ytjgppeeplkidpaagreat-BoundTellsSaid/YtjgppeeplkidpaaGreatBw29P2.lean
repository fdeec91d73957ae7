/-
  Calls within a closed run (triforium/triforiumlaw29.awake), run: printed by a program of mine (Cutter).
-/
import Derived.KernelRfl
import Derived.Test.YtjgppeeplkidpaaGreatBw29St
namespace Go.Proofs.YtjgppeeplkidpaaGreat.Bw29
open Go Go.AM
theorem t18 : knownRun (E.with (orcK [])) 1000000 k18 r18 s18 = some (k18.v, k18.H) := by kernel_rfl
theorem t19 : knownRun (E.with (orcK [])) 1000000 k19 r19 s19 = some (k19.v, k19.H) := by kernel_rfl
theorem t20 : knownRun (E.with (orcK [])) 1000000 k20 r20 s20 = some (k20.v, k20.H) := by kernel_rfl
theorem t21 : knownRun (E.with (orcK [])) 1000000 k21 r21 s21 = some (k21.v, k21.H) := by kernel_rfl
theorem t22 : knownRun (E.with (orcK [])) 1000000 k22 r22 s22 = some (k22.v, k22.H) := by kernel_rfl
theorem t23 : knownRun (E.with (orcK [])) 1000000 k23 r23 s23 = some (k23.v, k23.H) := by kernel_rfl
theorem t24 : knownRun (E.with (orcK [])) 1000000 k24 r24 s24 = some (k24.v, k24.H) := by kernel_rfl
theorem t25 : knownRun (E.with (orcK [])) 1000000 k25 r25 s25 = some (k25.v, k25.H) := by kernel_rfl
theorem t26 : knownRun (E.with (orcK [])) 1000000 k26 r26 s26 = some (k26.v, k26.H) := by kernel_rfl
end Go.Proofs.YtjgppeeplkidpaaGreat.Bw29
