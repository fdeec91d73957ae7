/-
  Walks over letters of the functions that the law reaches.
-/
import Derived.Test.YtbkhcbddbefepaaGreatC11
import Derived.Test.YtbkhcbddbefepaaGreatB10
namespace Go.AM
attribute [local instance] fnMaps
open Go Go.Proofs
set_option maxRecDepth 100000
set_option maxHeartbeats 1000000
set_option linter.unusedSimpArgs false
def esK (ks : List Int) : List (Value × Value) := ks.map fun a => (.int .i64 a, .bool true)
def insK (ks : List Int) (k : Int) : List Int := if k ∈ ks then ks else ks ++ [k]
theorem findV_in {k : Int} : ∀ {ks : List Int} (i : Nat), k ∈ ks → ∃ j, findV (.int .i64 k) (esK ks) i = some (some (i + j, .bool true)) ∧ setVal (.bool true) (esK ks) j = esK ks
  | a :: ks, i, h => by
    by_cases e : k = a
    · subst e
      exact ⟨0, by simp [findV, esK, keyEq, sameKind, eqI_eq], rfl⟩
    · have h' : k ∈ ks := (List.mem_cons.1 h).resolve_left e
      obtain ⟨j, h1, h2⟩ := findV_in (i + 1) h'
      refine ⟨j + 1, ?_, ?_⟩
      · have : keyEq (.int .i64 k) (.int .i64 a) = some false := by simp [keyEq, sameKind, eqI_eq, e]
        simp only [esK, List.map_cons, findV, this, Option.bind_some]
        rw [show i + (j + 1) = i + 1 + j by omega]
        exact h1
      · simp only [esK, List.map_cons, setVal]
        exact congrArg _ h2
theorem findV_out {k : Int} : ∀ {ks : List Int} (i : Nat), k ∉ ks → findV (.int .i64 k) (esK ks) i = some none
  | [], _, _ => rfl
  | a :: ks, i, h => by
    have e : k ≠ a := fun e => h (e ▸ List.mem_cons_self ..)
    have : keyEq (.int .i64 k) (.int .i64 a) = some false := by simp [keyEq, sameKind, eqI_eq, e]
    simp only [esK, List.map_cons, findV, this, Option.bind_some]
    exact findV_out (i + 1) fun h' => h (List.mem_cons_of_mem _ h')
def muG (H : Heap) (ob : Option AObj) (r : Nat) (k v : Value) : Option Heap :=
  match ob with
  | some (.map es) => (findV k es 0).bind fun f =>
    match f with
    | some (i, _) => H.setMap r (setVal v es i)
    | none => H.setMap r (es ++ [(k, v)])
  | _ => none
theorem mu_108 (H : Heap) (r : Nat) (k : Int) (v : Value) : mapUpdateV E H 108 (.map (some r)) (.int .i64 k) v = muG H (H.objs.get r) r (.int .i64 k) v := by kernel_rfl
def lkG (ob : Option AObj) (k z : Value) : Option Value :=
  (match ob with
   | some (.map es) => some es
   | some (.mapg es _) => some (es.map Prod.fst)
   | _ => none).bind fun es => (findV k es 0).bind fun f =>
      match f with
      | some (_, v) => some v
      | none => some z
theorem lk_108 (H : Heap) (r : Nat) (k : Int) : lookupV E H 108 (.map (some r)) (.int .i64 k) false = lkG (H.objs.get r) (.int .i64 k) (.bool false) := by kernel_rfl
theorem lkG_ks (ks : List Int) (k : Int) : lkG (some (.map (esK ks))) (.int .i64 k) (.bool false) = some (.bool (decide (k ∈ ks))) := by
  rw [lkG]
  by_cases hk : k ∈ ks
  · obtain ⟨j, h1, h2⟩ := findV_in 0 hk
    simp only [Option.bind_some, h1, hk, decide_true]
  · simp only [Option.bind_some, findV_out 0 hk, hk, decide_false]
theorem muG_ks {H : Heap} {r : Nat} (ks : List Int) (hl : H.lo ≤ r) (k : Int) : muG H (some (.map (esK ks))) r (.int .i64 k) (.bool true) = some (H.setObj r (.map (esK (insK ks k)))) := by
  rw [muG]
  have hb : (!Nat.ble H.lo r) = false := by simpa using hl
  unfold insK
  by_cases hk : k ∈ ks
  · obtain ⟨j, h1, h2⟩ := findV_in 0 hk
    rw [if_pos hk, h1]
    simp only [Option.bind_some, Nat.zero_add, h2, Heap.setMap, hb, cond_false, Tr.force_eq, Heap.setObj]
  · rw [if_neg hk, findV_out 0 hk]
    have e : esK ks ++ [(.int .i64 k, .bool true)] = esK (ks ++ [k]) := by simp [esK]
    simp only [Option.bind_some, Heap.setMap, hb, cond_false, Tr.force_eq, Heap.setObj, e]
theorem rg_108 (H : Heap) (r : Nat) : rangeTO E H 108 (.map (some r)) = (match gOf H (some r) with
    | some p => some (.iterg p.1 p.2 [] p.2)
    | none => (entriesOf H (some r)).bind fun es => some (.iter (some r) es.length .start)) := by kernel_rfl
theorem OP_entry {T : Tr Value} {H : Heap} {K : Tok → Value → Heap → Prop} (x : Operand) : OP .go E T (.entry x) H K = optP .go (ev T x) fun t v => optP t (entryV H v) fun t v => K t v H := by
  rw [OP_det fun _ => rfl]; simp only [exOp, resP_bind, resP_some, optP]
theorem entry_at {H : Heap} {r m n i : Nat} {es : List (Value × Value)} {e : Value × Value} (h : H.objs.get r = some (.iter (some m) n (.told i))) (hm : H.objs.get m = some (.map es)) (hn : es.length = n) (he : es[i]? = some e) : entryV H (ptr r 0) = some (.tuple #[e.1, e.2]) := by
  simp only [entryV, ptr, h, entriesOf, hm, Option.bind_some, hn, he]
  simp
structure Slot where
  used : Bool
  gen : Int
  word : Nat
  deriving DecidableEq
def slotC (s : Slot) : List Value := [.bool s.used, .int .i64 s.gen, .int .u64 s.word]
def RSlot : Heap → List Value → Slot → Prop := fun _ part x => part = slotC x
theorem RSlot.mono : Mono RSlot := fun _ _ _ _ _ h => h
def goodG (g : Int) : Bool := decide (0 ≤ g ∧ g < 1099511627776)
theorem fn60 : E.fn.get 60 = some Tryz.f60 := by kernel_rfl
theorem rgood_ok (H : Heap) (hlo : H.lo ≤ H.next) (u : Bool) (gn w : Int) : CallA E (fnv 60) [.agg #[.bool u, .int .i64 gn, .int .u64 w]] H fun r H' => r = .bool (goodG gn) ∧ Same H H' := by
  refine callA_fn (by kernel_rfl) fn60 rfl rfl ?_
  simp only [Tryz.f60]
  repeat' (first | refine boolP_dec (fun _ => ?_) (fun _ => ?_) | apply boolP_not | refine boolP_b (fun _ => ?_) (fun _ => ?_) | simp (config := { maxSteps := 1000000 }) (disch := omega) only [↓sh, ↓sh2, ↓reduceIte, sx, sl, sb, st, nbeq_ne, dle, relo_eq, wrap_i64, Nat.reduceBEq, Nat.reduceLT, Nat.reduceLeDiff, Nat.reduceAdd, Nat.reduceMul, Nat.reduceEqDiff, Int.reduceEq, Int.reduceLT, Int.reduceLE, Int.reduceNeg, Int.reduceToNat, Bool.false_eq_true, eq_self, sa, *])
  all_goals ((with_reducible show _ ∧ _); exact ⟨bool_of (by simp only [decide_eq_true_eq, Bool.false_eq_true, true_iff, false_iff, goodG]; first | omega | (simp [*] <;> omega)), sameW⟩)
def quietB (h : Hd) : Bool := !h.mark && decide (h.cursor = 0)
theorem fn109 : E.fn.get 109 = some Tryz.f109 := by kernel_rfl
theorem quiet_ok (H : Heap) (hlo : H.lo ≤ H.next) (h : Hd) : CallA E (fnv 109) [hdV h] H fun r H' => r = .bool (quietB h) ∧ Same H H' := by
  refine callA_fn (by kernel_rfl) fn109 rfl rfl ?_
  simp only [Tryz.f109]
  simp only [hdV]
  cases hm : h.mark
  all_goals (repeat' (first | refine boolP_dec (fun _ => ?_) (fun _ => ?_) | apply boolP_not | refine boolP_b (fun _ => ?_) (fun _ => ?_) | simp (config := { maxSteps := 1000000 }) (disch := omega) only [↓sh, ↓sh2, ↓reduceIte, sx, sl, sb, st, nbeq_ne, dle, relo_eq, wrap_i64, Nat.reduceBEq, Nat.reduceLT, Nat.reduceLeDiff, Nat.reduceAdd, Nat.reduceMul, Nat.reduceEqDiff, Int.reduceEq, Int.reduceLT, Int.reduceLE, Int.reduceNeg, Int.reduceToNat, Bool.false_eq_true, eq_self, sa, *]))
  all_goals (first | (with_reducible exact sameW) | ((with_reducible show _ ∧ _); exact ⟨by first | rfl | (simp [quietB, *] <;> omega), sameW⟩))
end Go.AM
