/-
  Walks over letters of the functions that the law reaches.
-/
import Derived.Test.YtbpneihjlledpaaGreatDoorX11
set_option linter.unusedVariables false
set_option linter.unusedSectionVars false
namespace Go.AM
variable [Orc13]
attribute [local instance] fnMaps
open Go Go.Proofs
set_option maxRecDepth 100000
set_option maxHeartbeats 4000000
set_option linter.unusedSimpArgs false
deriving instance DecidableEq for TOp
theorem op_cell (o : TOp) : (opL o).all isCell = true := rfl
theorem op_c0 (o : TOp) : (opL o)[0]? = some (.int .i64 o.d) := rfl
theorem op_all (o : TOp) : cut (opL o) 0 11 = some (opL o) := Eq.trans (cut_eq _ _ _) rfl
theorem op_ext (a b : TOp) : a = b ↔ a.d = b.d ∧ a.h = b.h ∧ a.g = b.g ∧ a.i = b.i ∧ (a.vk = b.vk ∧ a.vx = b.vx) ∧ (a.w : Int) = b.w ∧ a.k = b.k ∧ a.f = b.f ∧ a.r = b.r ∧ a.p = b.p := by
  cases a; cases b
  simp only [TOp.mk.injEq, Int.ofNat_inj, and_assoc]
theorem eqI_dec (a b : Int) : eqI a b = decide (a = b) := (eqI_eq a b).trans rfl
theorem eqF_cons {ev : TypeId → Value → Value → Option Bool} {xs ys : List Value} {o : Nat} {t : TypeId} {fs : List (Nat × TypeId)} {a b : Value} {p q : Prop} [Decidable p] [Decidable q] (h1 : partV E t xs o = some a) (h2 : partV E t ys o = some b) (h3 : ev t a b = some (decide p)) (h4 : eqFields E ev xs ys fs = some (decide q)) : eqFields E ev xs ys ((o, t) :: fs) = some (decide (p ∧ q)) := by
  rw [eqFields, h1, h2, Option.bind_some, Option.bind_some, h3, Option.bind_some]
  by_cases h : p
  · rw [decide_eq_true h]
    show eqFields E ev xs ys fs = _
    rw [h4, decide_eq_decide.2 (show q ↔ p ∧ q from ⟨fun x => ⟨h, x⟩, fun x => x.2⟩)]
  · rw [decide_eq_false h, decide_eq_false (fun x => h x.1)]
theorem eqF_last {ev : TypeId → Value → Value → Option Bool} {xs ys : List Value} {o : Nat} {t : TypeId} {a b : Value} {p : Prop} [Decidable p] (h1 : partV E t xs o = some a) (h2 : partV E t ys o = some b) (h3 : ev t a b = some (decide p)) : eqFields E ev xs ys [(o, t)] = some (decide p) := by
  rw [eqFields, h1, h2, Option.bind_some, Option.bind_some, h3, Option.bind_some]
  by_cases h : p
  · rw [decide_eq_true h]; rfl
  · rw [decide_eq_false h]
theorem eqi_op (a b : TOp) (d : Nat) : eqV E (d + 3) 26 (.agg (opL a).toArray) (.agg (opL b).toArray) = some (decide (a = b)) := by
  rw [decide_eq_decide.2 (op_ext a b), eq_26]
  refine eqF_cons (a := .int .i64 a.d) (b := .int .i64 b.d) (by kernel_rfl) (by kernel_rfl) (by rw [eq_3, eqI_dec]) (
    eqF_cons (a := .int .i64 a.h) (b := .int .i64 b.h) (by kernel_rfl) (by kernel_rfl) (by rw [eq_3, eqI_dec]) (
    eqF_cons (a := .int .i64 a.g) (b := .int .i64 b.g) (by kernel_rfl) (by kernel_rfl) (by rw [eq_3, eqI_dec]) (
    eqF_cons (a := .int .i64 a.i) (b := .int .i64 b.i) (by kernel_rfl) (by kernel_rfl) (by rw [eq_3, eqI_dec]) (
    eqF_cons (a := .agg #[.int .i64 a.vk, .int .i64 a.vx]) (b := .agg #[.int .i64 b.vk, .int .i64 b.vx]) (by kernel_rfl) (by kernel_rfl) ((eq_23 _ _ _).trans (eqF_cons (a := .int .i64 a.vk) (b := .int .i64 b.vk) (by kernel_rfl) (by kernel_rfl) (by rw [eq_3, eqI_dec]) (eqF_last (a := .int .i64 a.vx) (b := .int .i64 b.vx) (by kernel_rfl) (by kernel_rfl) (by rw [eq_2, eqI_dec])))) (
    eqF_cons (a := .int .u64 a.w) (b := .int .u64 b.w) (by kernel_rfl) (by kernel_rfl) (by rw [eq_24, eqI_dec]) (
    eqF_cons (a := .int .i64 a.k) (b := .int .i64 b.k) (by kernel_rfl) (by kernel_rfl) (by rw [eq_3, eqI_dec]) (
    eqF_cons (a := .int .i64 a.f) (b := .int .i64 b.f) (by kernel_rfl) (by kernel_rfl) (by rw [eq_3, eqI_dec]) (
    eqF_cons (a := .int .i64 a.r) (b := .int .i64 b.r) (by kernel_rfl) (by kernel_rfl) (by rw [eq_3, eqI_dec]) (
    eqF_last (a := .int .u8 a.p) (b := .int .u8 b.p) (by kernel_rfl) (by kernel_rfl) (by rw [eq_5, eqI_dec]))))))))))
theorem ne_op (x y : Operand) (a b : TOp) : binV E .neq 26 x y (.agg (opL a).toArray) (.agg (opL b).toArray) = some (.bool (!decide (a = b))) := by
  show (eqV E (97 + 3) 26 _ _).bind _ = _
  rw [eqi_op]; rfl
end Go.AM
