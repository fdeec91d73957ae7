/-
  Walks over letters of the functions that the law reaches; written small by a program of mine.
-/
import Derived.Test.YtjgppeeplkidpaaGreatGC17
set_option linter.unusedVariables false
set_option linter.unusedSectionVars false
namespace Go.AM
attribute [local instance] fnMaps
open Go Go.Proofs
set_option maxRecDepth 100000
set_option maxHeartbeats 4000000
set_option linter.unusedSimpArgs false
structure MH(H0 H:Heap)(m rt ra:Nat)(x1 x2 y1 y2:Value)(To At:List Int)(bad:Bool):Prop where
 row:H.objs.get m=some (.row [x1,x2,y1,y2,.slice (some ⟨rt,0,none⟩) To.length To.length,.slice (some ⟨ra,0,none⟩) At.length At.length,.bool bad] none true)
 to:H.objs.get rt=some (.row (To.map db) none true)
 ae:H.objs.get ra=some (.row (At.map db) none true)
 ko:Ko H0 H
 eq:H.lo=H0.lo
 lo:H0.next≤m∧H0.next≤rt∧H0.next≤ra
 lt:m<H.next∧rt<H.next∧ra<H.next
 ne:m≠rt∧m≠ra∧rt≠ra
section
variable{H0:Heap}{m rt ra:Nat}{x1 x2 y1 y2:Value}{a b:Gr}
end
end Go.AM
