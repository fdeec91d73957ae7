/-
  Calls within a closed run (triforium/triforiumlaw29.awake), run: printed by a program of mine (Cutter).
-/
import Derived.KernelRfl
import Derived.Test.YtjgppeeplkidpaaGreatBw29St
namespace Go.Proofs.YtjgppeeplkidpaaGreat.Bw29
open Go Go.AM
theorem t9 : knownRun (E.with (orcK [])) 1000000 k9 r9 s9 = some (k9.v, k9.H) := by kernel_rfl
theorem t10 : knownRun (E.with (orcK [])) 1000000 k10 r10 s10 = some (k10.v, k10.H) := by kernel_rfl
theorem t11 : knownRun (E.with (orcK [])) 1000000 k11 r11 s11 = some (k11.v, k11.H) := by kernel_rfl
theorem t12 : knownRun (E.with (orcK [])) 1000000 k12 r12 s12 = some (k12.v, k12.H) := by kernel_rfl
theorem t13 : knownRun (E.with (orcK [])) 1000000 k13 r13 s13 = some (k13.v, k13.H) := by kernel_rfl
theorem t14 : knownRun (E.with (orcK [])) 1000000 k14 r14 s14 = some (k14.v, k14.H) := by kernel_rfl
theorem t15 : knownRun (E.with (orcK [])) 1000000 k15 r15 s15 = some (k15.v, k15.H) := by kernel_rfl
theorem t16 : knownRun (E.with (orcK [])) 1000000 k16 r16 s16 = some (k16.v, k16.H) := by kernel_rfl
theorem t17 : knownRun (E.with (orcK [])) 1000000 k17 r17 s17 = some (k17.v, k17.H) := by kernel_rfl
end Go.Proofs.YtjgppeeplkidpaaGreat.Bw29
