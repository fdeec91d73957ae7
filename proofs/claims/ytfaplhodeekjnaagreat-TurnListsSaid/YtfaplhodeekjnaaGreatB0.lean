/-
  Walks over letters of the functions that the law reaches.
-/
import Derived.Test.YtfaplhodeekjnaaGreatAMc
import Derived.Test.YtfaplhodeekjnaaGreatTy
set_option linter.unusedSimpArgs false
namespace Go.AM
attribute [local instance] fnMaps
open Go Go.Proofs
theorem koW {P : Prop} (h : P := by with_reducible repeat' first | assumption | apply Ko.refl | apply Ko.newRow | apply Ko.relo | apply Ko.setRow | omega | (simp only [newRow_next, setRow_next, relo_next]; omega) | (refine Ko.trans ?_ (by assumption))) : P := h
theorem loW {P : Prop} (h : P := by first | omega | (simp (disch := omega) only [newRow_next, setRow_next, relo_next, newRow_lo, setRow_lo, relo_lo, *]; first | done | omega)) : P := h
theorem nextW {P : Prop} (h : P := by first | trivial | omega | (simp (config := { maxSteps := 1000000 }) (disch := omega) only [↓sh, ↓sh2, ↓reduceIte, sx, sl, sb, st, nbeq_ne, dle, relo_eq, wrap_i64, Nat.reduceBEq, Nat.reduceLT, Nat.reduceLeDiff, Nat.reduceAdd, Nat.reduceMul, Nat.reduceEqDiff, Int.reduceEq, Int.reduceLT, Int.reduceLE, Int.reduceNeg, Int.reduceToNat, Bool.false_eq_true, eq_self, sa, *, Int.natCast_add, Int.natCast_one, Int.natCast_zero]; done) | (simp (config := { maxSteps := 1000000 }) (disch := omega) only [↓sh, ↓sh2, ↓reduceIte, sx, sl, sb, st, nbeq_ne, dle, relo_eq, wrap_i64, Nat.reduceBEq, Nat.reduceLT, Nat.reduceLeDiff, Nat.reduceAdd, Nat.reduceMul, Nat.reduceEqDiff, Int.reduceEq, Int.reduceLT, Int.reduceLE, Int.reduceNeg, Int.reduceToNat, Bool.false_eq_true, eq_self, sa, *, Option.some.injEq, Value.int.injEq, true_and, and_true, Int.natCast_add, Int.natCast_one, Int.natCast_zero]; omega) | exact koW) : P := h
theorem sameW {H H' : Heap} (k : Ko H H' := by exact koW) (l : H'.lo = H.lo := by first | assumption | simp (config := { maxSteps := 1000000 }) (disch := omega) only [↓sh, ↓sh2, ↓reduceIte, sx, sl, sb, st, nbeq_ne, dle, relo_eq, wrap_i64, Nat.reduceBEq, Nat.reduceLT, Nat.reduceLeDiff, Nat.reduceAdd, Nat.reduceMul, Nat.reduceEqDiff, Int.reduceEq, Int.reduceLT, Int.reduceLE, Int.reduceNeg, Int.reduceToNat, Bool.false_eq_true, eq_self, sa, *]) : Same H H' := k.same l
abbrev Fx : Ix := (false, [], [])
abbrev Tx : Ix := (true, [], [])
end Go.AM
