/-
  Walks over letters of the functions that the law reaches.
-/
import Derived.Test.YtcickfcjdmolcaaT7
namespace Go.AM
attribute [local instance] fnMaps
open Go Go.Proofs

/-- the two ways to look at a graph agree -/
theorem all_append' (p : Val → Bool) (l m : List Val) : (l ++ m).all p = (l.all p && m.all p) := List.all_append
theorem valsOf_all (p : Val → Bool) (l : List Node) : (valsOf l).all p = l.all fun d => d.fields.all p := by
  induction l with
  | nil => rfl
  | cons d l ih =>
    have : valsOf (d :: l) = d.fields ++ valsOf l := rfl
    rw [this, List.all_append, ih, List.all_cons]
theorem nodeOk_eq (n : Nat) (d : Node) : nodeOk n d = (nodeShape d && d.fields.all (snd n)) := by
  simp only [nodeOk, nodeShape]
  split
  · rfl
  split
  · rfl
  split
  · rfl
  split
  · rfl
  rfl
theorem all_and (p q : Node → Bool) (l : List Node) : (l.all fun d => p d && q d) = (l.all p && l.all q) := by
  induction l with
  | nil => rfl
  | cons d l ih =>
    simp only [List.all_cons, ih]
    cases p d <;> cases q d <;> cases l.all p <;> cases l.all q <;> rfl
theorem right_eq (g : Graph) : gright g = right g := by
  have e : g.nodes.all (nodeOk g.nodes.length) = (g.nodes.all nodeShape && g.nodes.all fun d => d.fields.all (snd g.nodes.length)) := by
    rw [← all_and]
    congr 1
    funext d
    exact nodeOk_eq _ d
  simp only [gright, right, e, List.all_append, valsOf_all]
  cases g.nodes.all nodeShape <;> cases (g.nodes.all fun d => d.fields.all (snd g.nodes.length)) <;> rfl
end Go.AM
