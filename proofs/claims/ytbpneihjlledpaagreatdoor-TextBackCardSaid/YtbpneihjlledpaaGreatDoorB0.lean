/-
  Walks over letters of the functions that the law reaches.
-/
import Derived.Test.YtbpneihjlledpaaGreatDoorAMc
import Derived.Test.YtbpneihjlledpaaGreatDoorTy
set_option linter.unusedSimpArgs false
set_option linter.unusedVariables false
set_option linter.unusedSectionVars false
namespace Go.AM
variable [Orc13]
attribute [local instance] fnMaps
open Go Go.Proofs
set_option linter.defProp false
def sgg := And.intro sh sh2
def sww := And.intro sx <| And.intro sl <| And.intro sb <| And.intro st <| And.intro @nbeq_ne <| And.intro @dle <| And.intro @relo_eq <| And.intro @wrap_i64 Bool.false_eq_true
theorem koW {P : Prop} (h : P := by with_reducible repeat' first | assumption | apply Ko.refl | apply Ko.newRow | apply Ko.relo | apply Ko.setRow | omega | (simp only [newRow_next, setRow_next, relo_next]; omega) | (refine Ko.trans ?_ (by assumption))) : P := h
theorem loW {P : Prop} (h : P := by first | omega | (simp (disch := omega) only [newRow_next, setRow_next, relo_next, newRow_lo, setRow_lo, relo_lo, *]; first | done | omega)) : P := h
theorem nextW {P : Prop} (h : P := by first | trivial | omega | (simp (maxSteps := 1000000) (disch := omega) only [↓sgg, sww, simprocAttr, sa, *, Int.natCast_add, Int.natCast_one, Int.natCast_zero]; done) | (simp (maxSteps := 1000000) (disch := omega) only [↓sgg, sww, simprocAttr, sa, *, Option.some.injEq, Value.int.injEq, true_and, and_true, Int.natCast_add, Int.natCast_one, Int.natCast_zero]; omega) | exact koW) : P := h
theorem sameW {H H' : Heap} (k : Ko H H' := by exact koW) (l : H'.lo = H.lo := by first | assumption | omega | simp (maxSteps := 1000000) (disch := omega) only [↓sgg, sww, simprocAttr, sa, *]) : Same H H' := k.same l
abbrev Fx : Ix := (false, [], [])
abbrev Tx : Ix := (true, [], [])
end Go.AM
