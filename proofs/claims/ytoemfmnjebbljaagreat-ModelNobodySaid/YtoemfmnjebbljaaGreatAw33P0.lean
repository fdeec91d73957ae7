/-
  Parts of a closed run (triforium/triforiumlaw33.awake), printed by a program of mine (Chunker).
-/
import Derived.KernelRfl
import Derived.Test.YtoemfmnjebbljaaGreatAw33St
namespace Go.Proofs.YtoemfmnjebbljaaGreat.Aw33
open Go Go.AM
set_option maxRecDepth 100000
theorem part1 : chunkN E 1000000 ((L.drop 0).take 10) [0, 1, 3, 4, 5, 6, 7] [2, 13, 53, 54, 56, 62, 78, 94, 99, 107, 197, 201, 202, 204, 213] [56, 94, 197, 201, 204] fr0 Heap.empty = some (fr1, H1) := by kernel_rfl
end Go.Proofs.YtoemfmnjebbljaaGreat.Aw33
