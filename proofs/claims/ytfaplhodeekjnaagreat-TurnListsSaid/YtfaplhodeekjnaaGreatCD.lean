/-
  Walks over letters of the functions that the law reaches.
-/
import Derived.Test.YtfaplhodeekjnaaGreatCC
import Derived.Test.YtfaplhodeekjnaaGreatB10
namespace Go.AM
attribute [local instance] fnMaps
open Go Go.Proofs
set_option maxRecDepth 100000
set_option maxHeartbeats 1000000
set_option linter.unusedSimpArgs false
structure Slot where
  used : Bool
  gen : Int
  word : Nat
  deriving DecidableEq
def slotC (s : Slot) : List Value := [.bool s.used, .int .i64 s.gen, .int .u64 s.word]
def RSlot : Heap → List Value → Slot → Prop := fun _ part x => part = slotC x
theorem RSlot.mono : Mono RSlot := fun _ _ _ _ _ h => h
end Go.AM
namespace Go.AM
attribute [local instance] fnMaps
open Go Go.Proofs
set_option maxRecDepth 100000
set_option maxHeartbeats 1000000
set_option linter.unusedSimpArgs false
end Go.AM
namespace Go.AM
attribute [local instance] fnMaps
open Go Go.Proofs
set_option maxRecDepth 100000
set_option maxHeartbeats 1000000
set_option linter.unusedSimpArgs false
structure St where
  cfg : Cfg
  second : Bool
  words : List Nat
  top : Int
  table : List Span
  free : List Span
  slots : List Slot
structure StS (H : Heap) (s : St) (w t f zl : Value) : Prop where
  w : SLr RW 1 H w s.words
  t : SLr RSpan 2 H t s.table
  f : SLr RSpan 2 H f s.free
  sl : SLr RSlot 3 H zl s.slots
theorem StS.mono {H H' : Heap} {s : St} {w t f zl : Value} (h : StS H s w t f zl) (k : Same H H') : StS H' s w t f zl := ⟨h.w.mono RW.mono k, h.t.mono RSpan.mono k, h.f.mono RSpan.mono k, h.sl.mono RSlot.mono k⟩
def topOk (s : St) : Prop := (s.cfg.from' s.second).at' ≤ s.top ∧ s.top ≤ (s.cfg.from' s.second).at' + (s.cfg.from' s.second).size
instance (s : St) : Decidable (topOk s) := by unfold topOk; infer_instance
end Go.AM
