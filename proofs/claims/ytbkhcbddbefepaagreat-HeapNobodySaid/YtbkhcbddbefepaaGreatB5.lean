/-
  Walks over letters of the functions that the law reaches.
-/
import Derived.Test.YtbkhcbddbefepaaGreatB4
namespace Go.AM
attribute [local instance] fnMaps
open Go Go.Proofs
set_option maxRecDepth 100000
set_option maxHeartbeats 1000000
set_option linter.unusedSimpArgs false
structure Bp (H : Heap) (b : Nat) (x : Span) (u : Int) : Prop where
  box : H.objs.get b = some (.row [.bool true, .int .i64 x.at', .int .i64 x.size, .int .i64 u] none true)
  lb : b < H.next
  may : May x
  u0 : 0 ≤ u
  u1 : u ≤ x.size
theorem Bp.same {H H' : Heap} {b : Nat} {x : Span} {u : Int} (h : Bp H b x u) (s : Ko H H') : Bp H' b x u := ⟨s.keeps h.lb h.box, Nat.lt_of_lt_of_le h.lb s.nxt, h.may, h.u0, h.u1⟩
end Go.AM
