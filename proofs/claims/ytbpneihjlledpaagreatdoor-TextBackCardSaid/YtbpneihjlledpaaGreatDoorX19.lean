/-
  Walks over letters of the functions that the law reaches.
-/
import Derived.Test.YtbpneihjlledpaaGreatDoorX18
set_option linter.unusedVariables false
set_option linter.unusedSectionVars false
namespace Go.AM
variable [Orc13]
attribute [local instance] fnMaps
open Go Go.Proofs
set_option maxRecDepth 100000
set_option maxHeartbeats 4000000
set_option linter.unusedSimpArgs false
structure TAns where
  e : Int
  h : Int
  vk : Int
  vx : Int
  w : Nat
  b : Bool
  k : Int
  f : Int
  r : Int
structure AnsOk (a : TAns) : Prop where
  e : i64 a.e
  h : i64 a.h
  vk : i64 a.vk
  vx : i64 a.vx
  w : a.w < 2 ^ 64
  k : i64 a.k
  f : i64 a.f
  r : i64 a.r
end Go.AM
