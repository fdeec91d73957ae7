/-
  Walks over letters of the functions that the law reaches.
-/
import Derived.Test.YtbkhcbddbefepaaGreatC8
import Derived.Test.YtbkhcbddbefepaaGreatC7
namespace Go.AM
attribute [local instance] fnMaps
open Go Go.Proofs
set_option maxRecDepth 100000
set_option maxHeartbeats 1000000
set_option linter.unusedSimpArgs false
theorem fn146 : E.fn.get 146 = some Tryz.f146 := by kernel_rfl
theorem rows_ok (H : Heap) (hlo : H.lo ≤ H.next) (v : Value) (hv : isCell v = true) (hv2 : cellsV v = [v]) : CallA E (fnv 146) [v] H fun r H' => r = .func (.func 152) #[] #[ptr H.next 0] ∧ H'.objs.get H.next = some (.row [v] none true) ∧ H'.next = H.next + 1 ∧ Same H H' := by
  refine callA_fn (by kernel_rfl) fn146 rfl rfl ?_
  simp only [Tryz.f146]
  repeat' (first | refine boolP_dec (fun _ => ?_) (fun _ => ?_) | apply boolP_not | refine boolP_b (fun _ => ?_) (fun _ => ?_) | simp (config := { maxSteps := 1000000 }) (disch := omega) only [↓sh, ↓sh2, ↓reduceIte, sx, sl, sb, st, nbeq_ne, dle, relo_eq, wrap_i64, Nat.reduceBEq, Nat.reduceLT, Nat.reduceLeDiff, Nat.reduceAdd, Nat.reduceMul, Nat.reduceEqDiff, Int.reduceEq, Int.reduceLT, Int.reduceLE, Int.reduceNeg, Int.reduceToNat, Bool.false_eq_true, eq_self, sa, OP_makeFunc, ev_nilfunc, evs_cons, evs_nil, *])
  exact sameW
def InAll (all x : Span) : Prop := May x ∧ all.at' ≤ x.at' ∧ x.at' + x.size ≤ all.at' + all.size
theorem mergeL_in {all : Span} (ha : May all) : ∀ (l : List Span) (op : Span), (∀ x ∈ l, InAll all x) → (op = ⟨0, 0⟩ ∨ InAll all op) → ∀ r ∈ mergeL op l, InAll all r
  | [], op, _, ho, r, hr => by
    unfold mergeL at hr
    split at hr
    · rw [List.mem_singleton] at hr
      subst hr
      rename_i h
      exact ho.resolve_left fun e => by rw [e] at h; exact absurd h (by decide)
    · cases hr
  | s :: l, op, hl, ho, r, hr => by
    have hs := hl s (List.mem_cons_self ..)
    have hl' : ∀ x ∈ l, InAll all x := fun x hx => hl x (List.mem_cons_of_mem _ hx)
    unfold mergeL at hr
    split at hr
    · rename_i h
      have h2 := ho.resolve_left fun e => by rw [e] at h; exact absurd h.1 (by decide)
      refine mergeL_in ha l _ hl' (.inr ?_) r hr
      unfold InAll May at *
      simp only
      split <;> omega
    · split at hr
      · rename_i h
        have h2 := ho.resolve_left fun e => by rw [e] at h; exact absurd h (by decide)
        rcases List.mem_cons.1 hr with rfl | hr
        · exact h2
        · exact mergeL_in ha l _ hl' (.inr hs) r hr
      · exact mergeL_in ha l _ hl' (.inr hs) r hr
theorem mergeL_len : ∀ (l : List Span) (op : Span), (mergeL op l).length ≤ l.length + 1
  | [], op => by unfold mergeL; split <;> simp
  | s :: l, op => by
    unfold mergeL
    split
    · have := mergeL_len l ⟨op.at', (if op.at' + op.size < s.at' + s.size then s.at' + s.size else op.at' + op.size) - op.at'⟩
      simp only [List.length_cons]; omega
    · have := mergeL_len l s
      split <;> simp only [List.length_cons] <;> omega
def gapsL (all : Span) (p : Int) : List Span → List Span
  | [] => if p < all.at' + all.size then [⟨p, all.at' + all.size - p⟩] else []
  | s :: l => (if p < s.at' then [⟨p, s.at' - p⟩] else []) ++ gapsL all (if p < s.at' + s.size then s.at' + s.size else p) l
def gapsR (all : Span) (l : List Span) : List Span := if May all then gapsL all all.at' (mergeL ⟨0, 0⟩ l) else []
def spanC (s : Span) : List Value := [.int .i64 s.at', .int .i64 s.size]
theorem spanC_cut : ∀ (l : List Span) (i : Nat) (x : Span), l[i]? = some x → cut (l.flatMap spanC) (i * 2) 2 = some (spanC x)
  | [], _, _, h => by simp at h
  | s :: l, 0, x, h => by
    simp only [List.getElem?_cons_zero, Option.some.injEq] at h
    subst h
    rw [cut_eq, if_pos (by simp [spanC])]
    rfl
  | s :: l, i + 1, x, h => by
    have := spanC_cut l i x (by simpa using h)
    rw [cut_eq] at this ⊢
    split at this
    · rename_i hh
      rw [if_pos (by simp [spanC] at hh ⊢; omega), ← this]
      simp only [List.flatMap_cons, spanC, List.cons_append, List.nil_append, Nat.add_mul, List.drop_succ_cons]
    · cases this
theorem elems_span (H : Heap) (l : List Span) : Elems RSpan 2 H (l.flatMap spanC) l := by
  refine ⟨?_, fun i x hx => ⟨spanC x, spanC_cut l i x hx, rfl⟩⟩
  induction l with
  | nil => rfl
  | cons x l ih => simp [spanC, ih]; try omega
theorem OwnF.slrS {b k lo : Nat} {X : Heap} {v : Value} {l : List Span} {f : Option (Nat × Nat)} {gr : Tr (List Nat)} (h : OwnF b 2 X v l.length (l.flatMap spanC) f) (hk : k < b) (hl : l.length ≤ 9223372036854775807) : SLr RSpan 2 ⟨X.objs.del k, gr, X.next, lo⟩ v l := by
  obtain ⟨_, h⟩ := h
  match f, h with
  | none, ⟨h1, h2⟩ =>
    have : l = [] := List.eq_nil_of_length_eq_zero h2
    subst h1 this
    exact SLr.nil
  | some (r, g), ⟨h1, h2, h3, _, _, old, h6, _⟩ =>
    subst h1
    exact SLr.row RSpan.mono h3 ((delO_get _ _ _ (by omega)).trans h6) (elems_span _ l) ⟨Nat.le_refl _, fun x cells g t _ ho => ⟨t, ho⟩⟩ hl
end Go.AM
