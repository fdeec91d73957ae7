/-
  Walks over letters of the functions that the law reaches.
-/
import Derived.Test.YtieagjcojildgaaGreatW0
namespace Go.AM
attribute [local instance] fnMaps
open Go Go.Proofs
set_option maxRecDepth 100000
set_option maxHeartbeats 1000000
set_option linter.unusedSimpArgs false
theorem fn11 : E.fn.get 11 = some Tryz.f11 := by kernel_rfl
theorem fn18 : E.fn.get 18 = some Tryz.f18 := by kernel_rfl
theorem fn29 : E.fn.get 29 = some Tryz.f29 := by kernel_rfl
theorem fn44 : E.fn.get 44 = some Tryz.f44 := by kernel_rfl
theorem fn70 : E.fn.get 70 = some Tryz.f70 := by kernel_rfl

/-- a function of Go's own that has no body -/
theorem callA_native {E : Env} {g : FuncId} {fn : Func} {args : List Value} {H : Heap} {v : Value} {K : Value → Heap → Prop} (ho : E.orc (.func (.func g) #[] #[]) args H = none) (h1 : E.fn.get g = some fn) (h2 : fn.body = none) (h : nativeV fn.name fn.origin args = some v) (hk : K v H) : CallA E (.func (.func g) #[] #[]) args H K := by
  refine ⟨0, v, H, ?_, hk⟩
  unfold callWith
  rw [ho]
  simp only [callBody, target, Option.bind_some, h1, h2]
  simp only [List.append_nil, List.nil_append, h, Option.bind_some]
theorem ixbs_ok (H : Heap) (s : ByteArray) : CallA E (fnv 70) [.string s, .int .u8 112] H fun v H' => v = .int .i64 (idxOf 112 s.data.toList 0) ∧ H' = H :=
  callA_native (by kernel_rfl) fn70 rfl (by
    have : nativeV "internal/bytealg.IndexByteString" "" [.string s, .int .u8 112] = some (.int .i64 (idxOf 112 s.data.toList 0)) := by
      unfold nativeV
      simp only [forceInt_eq]
      rfl
    exact this) ⟨rfl, rfl⟩
theorem ixb_ok (H : Heap) (s : ByteArray) : CallA E (fnv 44) [.string s, .int .u8 112] H fun v H' => v = .int .i64 (idxOf 112 s.data.toList 0) ∧ H' = H := by
  refine callA_fn (by kernel_rfl) fn44 rfl rfl ?_
  simp only [Tryz.f44]
  simp (config := { maxSteps := 1000000 }) (disch := omega) only [↓sh, ↓reduceIte, sx, nbeq_ne, dle, relo_eq, wrap_i64, cond_true, cond_false, Option.bind_some, Option.bind_none, Option.map_some, Nat.add_zero, Nat.zero_add, List.getElem?_cons_zero, List.getElem?_cons_succ, List.getElem?_nil, List.getElem?_toArray, List.length_cons, List.length_nil, List.drop_zero, List.drop_succ_cons, List.drop_nil, List.take_zero, List.take_succ_cons, List.take_nil, List.append_nil, List.nil_append, List.cons_append, List.all_cons, List.all_nil, true_and, and_true, Bool.not_true, Bool.not_false, Bool.true_and, Bool.and_true, Bool.false_and, Bool.and_false, Bool.true_or, Bool.or_true, Bool.false_or, Bool.or_false, decide_true, decide_false, beq_self_eq_true, if_true, if_false, Nat.reduceBEq, Nat.reduceLT, Nat.reduceLeDiff, Nat.reduceAdd, Nat.reduceMul, Nat.reduceEqDiff, Int.reduceEq, Int.reduceLT, Int.reduceLE, eq_self, Int.reduceNeg, Option.isSome_some]
  refine (ixbs_ok _ s).mono ?_
  rintro v H2 ⟨rfl, rfl⟩
  simp (config := { maxSteps := 1000000 }) (disch := omega) only [↓sh, ↓reduceIte, sx, nbeq_ne, dle, relo_eq, wrap_i64, cond_true, cond_false, Option.bind_some, Option.bind_none, Option.map_some, Nat.add_zero, Nat.zero_add, List.getElem?_cons_zero, List.getElem?_cons_succ, List.getElem?_nil, List.getElem?_toArray, List.length_cons, List.length_nil, List.drop_zero, List.drop_succ_cons, List.drop_nil, List.take_zero, List.take_succ_cons, List.take_nil, List.append_nil, List.nil_append, List.cons_append, List.all_cons, List.all_nil, true_and, and_true, Bool.not_true, Bool.not_false, Bool.true_and, Bool.and_true, Bool.false_and, Bool.and_false, Bool.true_or, Bool.or_true, Bool.false_or, Bool.or_false, decide_true, decide_false, beq_self_eq_true, if_true, if_false, Nat.reduceBEq, Nat.reduceLT, Nat.reduceLeDiff, Nat.reduceAdd, Nat.reduceMul, Nat.reduceEqDiff, Int.reduceEq, Int.reduceLT, Int.reduceLE, eq_self, Int.reduceNeg, Option.isSome_some]
def hasP (s : ByteArray) : Bool := eqBytes ⟨#[112]⟩ s || decide (0 ≤ idxOf 112 s.data.toList 0)
theorem size1 : (⟨#[112]⟩ : ByteArray).size = 1 := rfl
theorem ix0 : ((⟨#[112]⟩ : ByteArray).data.toList[0]?) = some 112 := rfl
theorem b112 : ((112 : UInt8).toNat : Int) = 112 := rfl
theorem nat1 : ((1 : Nat) : Int) = 1 := rfl
theorem at01 : at? 0 1 = some 0 := rfl
theorem slix_ok (H : Heap) (s : ByteArray) : CallA E (fnv 29) [.string s, .string ⟨#[112]⟩] H fun v H' => v = .int .i64 (if eqBytes ⟨#[112]⟩ s then 0 else idxOf 112 s.data.toList 0) ∧ H' = H := by
  refine callA_fn (by kernel_rfl) fn29 rfl rfl ?_
  simp only [Tryz.f29]
  cases he : eqBytes ⟨#[112]⟩ s with
  | true =>
    simp (config := { maxSteps := 1000000 }) (disch := omega) only [↓sh, ↓reduceIte, sx, nbeq_ne, dle, relo_eq, wrap_i64, cond_true, cond_false, Option.bind_some, Option.bind_none, Option.map_some, Nat.add_zero, Nat.zero_add, List.getElem?_cons_zero, List.getElem?_cons_succ, List.getElem?_nil, List.getElem?_toArray, List.length_cons, List.length_nil, List.drop_zero, List.drop_succ_cons, List.drop_nil, List.take_zero, List.take_succ_cons, List.take_nil, List.append_nil, List.nil_append, List.cons_append, List.all_cons, List.all_nil, true_and, and_true, Bool.not_true, Bool.not_false, Bool.true_and, Bool.and_true, Bool.false_and, Bool.and_false, Bool.true_or, Bool.or_true, Bool.false_or, Bool.or_false, decide_true, decide_false, beq_self_eq_true, if_true, if_false, Nat.reduceBEq, Nat.reduceLT, Nat.reduceLeDiff, Nat.reduceAdd, Nat.reduceMul, Nat.reduceEqDiff, Int.reduceEq, Int.reduceLT, Int.reduceLE, eq_self, Int.reduceNeg, Option.isSome_some, len_9, size1, nat1, bin_seq, he, ix_str, ix0, at01, b112]
  | false =>
    simp (config := { maxSteps := 1000000 }) (disch := omega) only [↓sh, ↓reduceIte, sx, nbeq_ne, dle, relo_eq, wrap_i64, cond_true, cond_false, Option.bind_some, Option.bind_none, Option.map_some, Nat.add_zero, Nat.zero_add, List.getElem?_cons_zero, List.getElem?_cons_succ, List.getElem?_nil, List.getElem?_toArray, List.length_cons, List.length_nil, List.drop_zero, List.drop_succ_cons, List.drop_nil, List.take_zero, List.take_succ_cons, List.take_nil, List.append_nil, List.nil_append, List.cons_append, List.all_cons, List.all_nil, true_and, and_true, Bool.not_true, Bool.not_false, Bool.true_and, Bool.and_true, Bool.false_and, Bool.and_false, Bool.true_or, Bool.or_true, Bool.false_or, Bool.or_false, decide_true, decide_false, beq_self_eq_true, if_true, if_false, Nat.reduceBEq, Nat.reduceLT, Nat.reduceLeDiff, Nat.reduceAdd, Nat.reduceMul, Nat.reduceEqDiff, Int.reduceEq, Int.reduceLT, Int.reduceLE, eq_self, Int.reduceNeg, Option.isSome_some, len_9, size1, nat1, bin_seq, he, ix_str, ix0, at01, b112]
    refine (ixb_ok _ s).mono ?_
    rintro v H2 ⟨rfl, rfl⟩
    simp (config := { maxSteps := 1000000 }) (disch := omega) only [↓sh, ↓reduceIte, sx, nbeq_ne, dle, relo_eq, wrap_i64, cond_true, cond_false, Option.bind_some, Option.bind_none, Option.map_some, Nat.add_zero, Nat.zero_add, List.getElem?_cons_zero, List.getElem?_cons_succ, List.getElem?_nil, List.getElem?_toArray, List.length_cons, List.length_nil, List.drop_zero, List.drop_succ_cons, List.drop_nil, List.take_zero, List.take_succ_cons, List.take_nil, List.append_nil, List.nil_append, List.cons_append, List.all_cons, List.all_nil, true_and, and_true, Bool.not_true, Bool.not_false, Bool.true_and, Bool.and_true, Bool.false_and, Bool.and_false, Bool.true_or, Bool.or_true, Bool.false_or, Bool.or_false, decide_true, decide_false, beq_self_eq_true, if_true, if_false, Nat.reduceBEq, Nat.reduceLT, Nat.reduceLeDiff, Nat.reduceAdd, Nat.reduceMul, Nat.reduceEqDiff, Int.reduceEq, Int.reduceLT, Int.reduceLE, eq_self, Int.reduceNeg, Option.isSome_some, Bool.false_eq_true]
theorem contains_ok (H : Heap) (s : ByteArray) : CallA E (fnv 11) [.string s, .string ⟨#[112]⟩] H fun v H' => v = .bool (hasP s) ∧ H' = H := by
  refine callA_fn (by kernel_rfl) fn11 rfl rfl ?_
  simp only [Tryz.f11]
  have hi : CallA E (fnv 18) [.string s, .string ⟨#[112]⟩] H fun v H' => v = .int .i64 (if eqBytes ⟨#[112]⟩ s then 0 else idxOf 112 s.data.toList 0) ∧ H' = H := by
    refine callA_fn (by kernel_rfl) fn18 rfl rfl ?_
    simp only [Tryz.f18]
    simp (config := { maxSteps := 1000000 }) (disch := omega) only [↓sh, ↓reduceIte, sx, nbeq_ne, dle, relo_eq, wrap_i64, cond_true, cond_false, Option.bind_some, Option.bind_none, Option.map_some, Nat.add_zero, Nat.zero_add, List.getElem?_cons_zero, List.getElem?_cons_succ, List.getElem?_nil, List.getElem?_toArray, List.length_cons, List.length_nil, List.drop_zero, List.drop_succ_cons, List.drop_nil, List.take_zero, List.take_succ_cons, List.take_nil, List.append_nil, List.nil_append, List.cons_append, List.all_cons, List.all_nil, true_and, and_true, Bool.not_true, Bool.not_false, Bool.true_and, Bool.and_true, Bool.false_and, Bool.and_false, Bool.true_or, Bool.or_true, Bool.false_or, Bool.or_false, decide_true, decide_false, beq_self_eq_true, if_true, if_false, Nat.reduceBEq, Nat.reduceLT, Nat.reduceLeDiff, Nat.reduceAdd, Nat.reduceMul, Nat.reduceEqDiff, Int.reduceEq, Int.reduceLT, Int.reduceLE, eq_self, Int.reduceNeg, Option.isSome_some]
    refine (slix_ok _ s).mono ?_
    rintro v H2 ⟨rfl, rfl⟩
    simp (config := { maxSteps := 1000000 }) (disch := omega) only [↓sh, ↓reduceIte, sx, nbeq_ne, dle, relo_eq, wrap_i64, cond_true, cond_false, Option.bind_some, Option.bind_none, Option.map_some, Nat.add_zero, Nat.zero_add, List.getElem?_cons_zero, List.getElem?_cons_succ, List.getElem?_nil, List.getElem?_toArray, List.length_cons, List.length_nil, List.drop_zero, List.drop_succ_cons, List.drop_nil, List.take_zero, List.take_succ_cons, List.take_nil, List.append_nil, List.nil_append, List.cons_append, List.all_cons, List.all_nil, true_and, and_true, Bool.not_true, Bool.not_false, Bool.true_and, Bool.and_true, Bool.false_and, Bool.and_false, Bool.true_or, Bool.or_true, Bool.false_or, Bool.or_false, decide_true, decide_false, beq_self_eq_true, if_true, if_false, Nat.reduceBEq, Nat.reduceLT, Nat.reduceLeDiff, Nat.reduceAdd, Nat.reduceMul, Nat.reduceEqDiff, Int.reduceEq, Int.reduceLT, Int.reduceLE, eq_self, Int.reduceNeg, Option.isSome_some]
  simp (config := { maxSteps := 1000000 }) (disch := omega) only [↓sh, ↓reduceIte, sx, nbeq_ne, dle, relo_eq, wrap_i64, cond_true, cond_false, Option.bind_some, Option.bind_none, Option.map_some, Nat.add_zero, Nat.zero_add, List.getElem?_cons_zero, List.getElem?_cons_succ, List.getElem?_nil, List.getElem?_toArray, List.length_cons, List.length_nil, List.drop_zero, List.drop_succ_cons, List.drop_nil, List.take_zero, List.take_succ_cons, List.take_nil, List.append_nil, List.nil_append, List.cons_append, List.all_cons, List.all_nil, true_and, and_true, Bool.not_true, Bool.not_false, Bool.true_and, Bool.and_true, Bool.false_and, Bool.and_false, Bool.true_or, Bool.or_true, Bool.false_or, Bool.or_false, decide_true, decide_false, beq_self_eq_true, if_true, if_false, Nat.reduceBEq, Nat.reduceLT, Nat.reduceLeDiff, Nat.reduceAdd, Nat.reduceMul, Nat.reduceEqDiff, Int.reduceEq, Int.reduceLT, Int.reduceLE, eq_self, Int.reduceNeg, Option.isSome_some]
  refine hi.mono ?_
  rintro v H2 ⟨rfl, rfl⟩
  simp (config := { maxSteps := 1000000 }) (disch := omega) only [↓sh, ↓reduceIte, sx, nbeq_ne, dle, relo_eq, wrap_i64, cond_true, cond_false, Option.bind_some, Option.bind_none, Option.map_some, Nat.add_zero, Nat.zero_add, List.getElem?_cons_zero, List.getElem?_cons_succ, List.getElem?_nil, List.getElem?_toArray, List.length_cons, List.length_nil, List.drop_zero, List.drop_succ_cons, List.drop_nil, List.take_zero, List.take_succ_cons, List.take_nil, List.append_nil, List.nil_append, List.cons_append, List.all_cons, List.all_nil, true_and, and_true, Bool.not_true, Bool.not_false, Bool.true_and, Bool.and_true, Bool.false_and, Bool.and_false, Bool.true_or, Bool.or_true, Bool.false_or, Bool.or_false, decide_true, decide_false, beq_self_eq_true, if_true, if_false, Nat.reduceBEq, Nat.reduceLT, Nat.reduceLeDiff, Nat.reduceAdd, Nat.reduceMul, Nat.reduceEqDiff, Int.reduceEq, Int.reduceLT, Int.reduceLE, eq_self, Int.reduceNeg, Option.isSome_some]
  unfold hasP
  cases eqBytes ⟨#[112]⟩ s <;> simp
def takes (d : Int) : Bool := if decide (d = 1) then true else decide (d = 9)
theorem hasP_uses (d : Int) : hasP (usesB d) = takes d := by
  rcases in10 d with rfl | rfl | rfl | rfl | rfl | rfl | rfl | rfl | rfl | rfl | h
  · exact of_decide_eq_true (by kernel_rfl)
  · exact of_decide_eq_true (by kernel_rfl)
  · exact of_decide_eq_true (by kernel_rfl)
  · exact of_decide_eq_true (by kernel_rfl)
  · exact of_decide_eq_true (by kernel_rfl)
  · exact of_decide_eq_true (by kernel_rfl)
  · exact of_decide_eq_true (by kernel_rfl)
  · exact of_decide_eq_true (by kernel_rfl)
  · exact of_decide_eq_true (by kernel_rfl)
  · exact of_decide_eq_true (by kernel_rfl)
  · have h1 : decide (d = 1) = false := by simp; omega
    have h9 : decide (d = 9) = false := by simp; omega
    have h0 : hasP ⟨#[]⟩ = false := of_decide_eq_true (by kernel_rfl)
    rw [(out_name h).2.1, h0]
    simp only [takes, h1, h9]
    rfl
end Go.AM
