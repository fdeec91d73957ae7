/-
  Walks over letters of the functions that the law reaches.
-/
import Derived.Test.YtbkhcbddbefepaaGreatB9
namespace Go.AM
attribute [local instance] fnMaps
open Go Go.Proofs
set_option maxRecDepth 100000
set_option maxHeartbeats 1000000
set_option linter.unusedSimpArgs false
theorem Ar.over {H : Heap} {a rw g : Nat} {ws ws' : List Nat} (h : Ar H a rw g ws) (hl : ws'.length = ws.length) (hu : ∀ w ∈ ws', w < 2 ^ 64) : Ar (H.putRow rw g 1 (ws'.map wV)) a rw g ws' where
  box := by rw [putRow_get, nbeq_ne h.ne, hl]; exact h.box
  row := by rw [putRow_get, nbeq_eq rfl]; rfl
  grp := by rw [putRow_grps, nbeq_eq rfl]; rfl
  la := h.la
  lw := h.lw
  lg := h.lg
  ne := h.ne
  u64 := hu
  len := by rw [hl]; exact h.len
end Go.AM
