/-
  Walks over letters of the functions that the law reaches.
-/
import Derived.Test.YtbpneihjlledpaaGreatDoorX15
set_option linter.unusedVariables false
set_option linter.unusedSectionVars false
namespace Go.AM
variable [Orc13]
attribute [local instance] fnMaps
open Go Go.Proofs
set_option maxRecDepth 100000
set_option maxHeartbeats 4000000
set_option linter.unusedSimpArgs false
def StrS (H : Heap) (v : Value) (l : List (List UInt8)) : Prop := ∃ r g t, v = .slice (some ⟨r, 0, none⟩) l.length l.length ∧ r < H.next ∧ H.objs.get r = some (.row (l.map sV) g t)
theorem StrS.same {H H' : Heap} {v : Value} {l : List (List UInt8)} (h : StrS H v l) (s : Same H H') : StrS H' v l := by
  obtain ⟨r, g, t, h1, h2, h3⟩ := h
  exact ⟨r, g, t, h1, Nat.lt_of_lt_of_le h2 s.nxt, s.keeps h2 h3⟩
theorem Own.strs {b : Nat} {H : Heap} {v : Value} {l : List (List UInt8)} (h : Own b 1 H v l.length (l.map sV)) (h0 : 0 < l.length) : StrS H v l := by
  obtain ⟨hc, ⟨rfl, h1⟩ | ⟨r, rfl, h1, h2, h3⟩⟩ := h
  · omega
  · rcases h3 with h3 | ⟨g, old, h3, _⟩
    · exact ⟨r, _, _, rfl, h2, h3⟩
    · exact ⟨r, _, _, rfl, h2, h3⟩
theorem splitC_no (c : UInt8) : ∀ (p : List UInt8), c ∉ p → splitC c p = [p]
  | [], _ => rfl
  | x :: p, h => by
    have hx : (x == c) = false := by
      rw [beq_eq_false_iff_ne]; intro e; exact h (by rw [e]; exact List.mem_cons_self ..)
    unfold splitC
    rw [hx, cond_false, splitC_no c p (fun hh => h (List.mem_cons_of_mem _ hh))]
theorem splitC_at (c : UInt8) (q : List UInt8) : ∀ (p : List UInt8), c ∉ p → splitC c (p ++ c :: q) = p :: splitC c q
  | [], _ => by
    show (bif c == c then [] :: splitC c q else _) = _
    rw [beq_self_eq_true, cond_true]
  | x :: p, h => by
    have hx : (x == c) = false := by
      rw [beq_eq_false_iff_ne]; intro e; exact h (by rw [e]; exact List.mem_cons_self ..)
    show splitC c (x :: (p ++ c :: q)) = _
    rw [splitC, hx, cond_false, splitC_at c q p (fun hh => h (List.mem_cons_of_mem _ hh))]
theorem splitC_pos (c : UInt8) (l : List UInt8) : 0 < (splitC c l).length := by
  cases l with
  | nil => exact Nat.one_pos
  | cons x l =>
    unfold splitC
    cases x == c
    · rw [cond_false]; cases splitC c l <;> exact Nat.succ_pos _
    · exact Nat.succ_pos _
theorem drop_at {l : List UInt8} {st i : Nat} (h1 : st ≤ i) (h2 : i < l.length) : l.drop st = (l.drop st).take (i - st) ++ l[i] :: l.drop (i + 1) := by
  have e : (l.drop st).drop (i - st) = l[i] :: l.drop (i + 1) := by
    rw [List.drop_drop, show st + (i - st) = i by omega, List.drop_eq_getElem_cons h2]
  rw [← e, List.take_append_drop]
theorem take_at {l : List UInt8} {st i : Nat} (h1 : st ≤ i) (h2 : i < l.length) : (l.drop st).take (i + 1 - st) = (l.drop st).take (i - st) ++ [l[i]] := by
  rw [show i + 1 - st = (i - st) + 1 by omega, List.take_add_one, List.getElem?_drop, show st + (i - st) = i by omega, List.getElem?_eq_getElem h2]; rfl
theorem grow_t {n : Nat} (h : n ≤ 200000000) : growOk 1 16 n = true := by
  unfold growOk
  rw [Nat.ble_eq_true_of_le (show n * 16 ≤ 10000000000 by omega), Nat.ble_eq_true_of_le (show n ≤ 1000000000 by omega)]
  rfl
theorem fn34 : E.fn.get 34 = some Tryz.f34 := by kernel_rfl
theorem rsplit_ok (H : Heap) (hlo : H.lo ≤ H.next) (l : List UInt8) (hl : l.length ≤ 100000000) (c : UInt8) : CallA E (fnv 34) [.string (B l), .int .u8 c.toNat] H fun v H' => StrS H' v (splitC c l) ∧ Same H H' := by
  refine callA_fn (by kernel_rfl) fn34 rfl rfl ?_
  simp only [Tryz.f34]
  repeat' (first | refine boolP_dec (fun _ => ?_) (fun _ => ?_) | apply boolP_not | refine boolP_b (fun _ => ?_) (fun _ => ?_) | ((with_reducible show Qs _ _ _ _ _); first | refine hQe _ _ _ _ ?_ | refine hQr _ _ _ ?_) | simp (maxSteps := 1000000) (disch := first | omega | (simp only [lenS, *]; omega)) only [↓sgg, sww, simprocAttr, sa, sS, *])
  refine wps_named2 (fun T1 H1 eT eH => ?_)
  have k1 : Ko H H1 := by rw [eH]; exact koW
  have n1 := congrArg Heap.next eH; have l1 := congrArg Heap.lo eH; have g1 := fun r => congrArg (fun h : Heap => h.objs.get r) eH
  try simp (disch := omega) only [sm, sl] at n1 l1 g1
  clear eH
  have u1_0 := congrArg (fun T : Tr Value => T.get 0) eT
  have u1_1 := congrArg (fun T : Tr Value => T.get 1) eT
  have u1_5 := congrArg (fun T : Tr Value => T.get 5) eT
  have u1_6 := congrArg (fun T : Tr Value => T.get 6) eT
  have u1_7 := congrArg (fun T : Tr Value => T.get 7) eT
  simp only [get_set, of_nil, of_1, of_2, of_3, of_4, of_5, Nat.reduceEqDiff, if_true, if_false, reduceIte] at u1_0 u1_1 u1_5 u1_6 u1_7
  clear eT
  refine wp_loopN (by kernel_rfl) (fun nn T X => ∃ (i : Nat) (st : Nat) (v : Value) (acc : List (List UInt8)), nn = l.length + 1 - i ∧ (T.get 5 = some (v) ∧ T.get 6 = some (.int .i64 st) ∧ T.get 7 = some (.int .i64 i)) ∧ (T.get 0 = T1.get 0 ∧ T.get 1 = T1.get 1) ∧ True ∧ True ∧ (Own H.next 1 X v acc.length (acc.map sV) ∧ Same H X ∧ acc.length ≤ i ∧ i ≤ l.length + 1 ∧ (i ≤ l.length → st ≤ i ∧ c ∉ (l.drop st).take (i - st) ∧ acc ++ splitC c (l.drop st) = splitC c l) ∧ (i = l.length + 1 → acc = splitC c l))) ?_ ?_
  · refine ⟨_, 0, 0, _, List.nil, rfl, ?_, ?_, trivial, trivial, Own.nil _ _ _, Ko.same k1 (by omega), Nat.le_refl _, by omega, fun _ => ⟨Nat.le_refl _, by simp, rfl⟩, fun h => by omega⟩ <;> exact nextW
  rintro nn T1' X1 ⟨i, st, vo, acc, rfl, m1, w1, _, _, hO, hS, hai, hil, hA, hZ⟩ Qs hQ hQr hQe
  have loX := hS.lo
  have nxX := hS.nxt
  have kX := hS.ko
  have hpl : ((l.drop st).take (i - st)).length ≤ l.length := by rw [List.length_take, List.length_drop]; omega
  have hmn : min (i - st) (l.length - st) ≤ l.length := by omega
  by_cases hle : i ≤ l.length
  · obtain ⟨hst, hno, hacc⟩ := hA hle
    clear hA hZ
    have b1 : to? (i : Int) l.length = some i := to_nat hle
    have b2 : to? (st : Int) i = some st := to_nat hst
    by_cases hlt : i < l.length
    · have a1 := at_nat hlt
      have hg := List.getElem?_eq_getElem hlt
      have e1 := drop_at hst hlt
      have e2 := take_at hst hlt
      generalize l[i] = x at *
      by_cases hx : x = c
      · subst hx
        rw [e1, splitC_at _ _ _ hno] at hacc
        obtain ⟨p, hp⟩ : ∃ p, (l.drop st).take (i - st) = p := ⟨_, rfl⟩
        rw [hp] at hacc hpl
        obtain ⟨H3, ha3, hO3, hg3, hn3⟩ := append_own (size := 1) (bytes := 16) (k := 1) (new := [sV p]) (hO.same (same_newRow [sV p])) (by simp (disch := omega) only [setRow_get, newRow_get, newRow_next, setRow_next, newRow_lo, setRow_lo, newRow_grps, setRow_grps, newRow_relo, setRow_relo, relo_objs, relo_next, relo_lo, nbeq_ne, sl]; omega) (by simp (disch := omega) only [setRow_get, newRow_get, newRow_next, setRow_next, newRow_lo, setRow_lo, newRow_grps, setRow_grps, newRow_relo, setRow_relo, relo_objs, relo_next, relo_lo, nbeq_ne, sl]; omega) (by omega) rfl rfl (grow_t (by omega))
        have s3 : Same H H3 := hg3.same (hS.newRow _) (Nat.le_refl _)
        have lo3 := s3.lo
        rw [newRow_next] at hO3 ha3 hn3
        have hO4 : Own H.next 1 H3 (.slice (some ⟨X1.next + 1, 0, none⟩) (acc.length + 1) (acc.length + 1)) (acc ++ [p]).length ((acc ++ [p]).map sV) := by
          rw [List.length_append, List.map_append]
          exact hO3
        have hacc2 : (acc ++ [p]) ++ splitC x (l.drop (i + 1)) = splitC x l := by rw [List.append_assoc]; exact hacc
        have hal : (acc ++ [p]).length ≤ i + 1 := by rw [List.length_append, List.length_cons, List.length_nil]; omega
        clear hO3 hO hacc e1 e2 hno
        generalize acc ++ [p] = ac at *
        unfold sV at ha3
        repeat' (first | refine boolP_dec (fun _ => ?_) (fun _ => ?_) | apply boolP_not | refine boolP_b (fun _ => ?_) (fun _ => ?_) | ((with_reducible show Qs _ _ _ _ _); first | refine hQe _ _ _ _ ?_ | refine hQr _ _ _ ?_) | simp (maxSteps := 1000000) (disch := first | omega | (simp only [lenS, *]; omega)) only [↓sgg, sww, simprocAttr, sa, sS, sl_str, ble_dec, repeat_succ, repeat_zero, List.drop_succ_cons, List.drop_zero, List.append_nil, List.length_cons, List.length_nil, *])
        all_goals first | (refine hQ _ _ _ ?_ ⟨i + 1, i + 1, _, ac, rfl, ?_, ?_, trivial, trivial, hO4, s3, hal, by omega, fun _ => ⟨Nat.le_refl _, by simp, hacc2⟩, fun h => by omega⟩ <;> exact nextW) | omega | trace_state
      · have hxn : decide ((x.toNat : Int) = c.toNat) = false := decide_eq_false fun e => hx (UInt8.toNat_inj.1 (by omega))
        have hno2 : c ∉ (l.drop st).take (i + 1 - st) := by
          rw [e2, List.mem_append, List.mem_singleton]
          exact fun h => h.elim hno fun h => hx h.symm
        clear e1 e2 hno hx
        repeat' (first | refine boolP_dec (fun _ => ?_) (fun _ => ?_) | apply boolP_not | refine boolP_b (fun _ => ?_) (fun _ => ?_) | ((with_reducible show Qs _ _ _ _ _); first | refine hQe _ _ _ _ ?_ | refine hQr _ _ _ ?_) | simp (maxSteps := 1000000) (disch := first | omega | (simp only [lenS, *]; omega)) only [↓sgg, sww, simprocAttr, sa, sS, sl_str, *])
        all_goals first | (refine hQ _ _ _ ?_ ⟨i + 1, st, vo, acc, rfl, ?_, ?_, trivial, trivial, hO, hS, by omega, by omega, fun _ => ⟨by omega, hno2, hacc⟩, fun h => by omega⟩ <;> exact nextW) | omega | trace_state
    · have ei : i = l.length := by omega
      subst ei
      have et : (l.drop st).take (l.length - st) = l.drop st := List.take_of_length_le (by rw [List.length_drop]; exact Nat.le_refl _)
      rw [et] at hno hpl
      rw [splitC_no _ _ hno] at hacc
      obtain ⟨p, hp⟩ : ∃ p, l.drop st = p := ⟨_, rfl⟩
      rw [hp] at hacc hpl et
      obtain ⟨H3, ha3, hO3, hg3, hn3⟩ := append_own (size := 1) (bytes := 16) (k := 1) (new := [sV p]) (hO.same (same_newRow [sV p])) (by simp (disch := omega) only [setRow_get, newRow_get, newRow_next, setRow_next, newRow_lo, setRow_lo, newRow_grps, setRow_grps, newRow_relo, setRow_relo, relo_objs, relo_next, relo_lo, nbeq_ne, sl]; omega) (by simp (disch := omega) only [setRow_get, newRow_get, newRow_next, setRow_next, newRow_lo, setRow_lo, newRow_grps, setRow_grps, newRow_relo, setRow_relo, relo_objs, relo_next, relo_lo, nbeq_ne, sl]; omega) (by omega) rfl rfl (grow_t (by omega))
      have s3 : Same H H3 := hg3.same (hS.newRow _) (Nat.le_refl _)
      have lo3 := s3.lo
      rw [newRow_next] at hO3 ha3 hn3
      have hO4 : Own H.next 1 H3 (.slice (some ⟨X1.next + 1, 0, none⟩) (acc.length + 1) (acc.length + 1)) (acc ++ [p]).length ((acc ++ [p]).map sV) := by
        rw [List.length_append, List.map_append]
        exact hO3
      have hal : (acc ++ [p]).length ≤ l.length + 1 := by rw [List.length_append, List.length_cons, List.length_nil]; omega
      clear hO3 hO hno
      generalize acc ++ [p] = ac at *
      unfold sV at ha3
      repeat' (first | refine boolP_dec (fun _ => ?_) (fun _ => ?_) | apply boolP_not | refine boolP_b (fun _ => ?_) (fun _ => ?_) | ((with_reducible show Qs _ _ _ _ _); first | refine hQe _ _ _ _ ?_ | refine hQr _ _ _ ?_) | simp (maxSteps := 1000000) (disch := first | omega | (simp only [lenS, *]; omega)) only [↓sgg, sww, simprocAttr, sa, sS, sl_str, ble_dec, repeat_succ, repeat_zero, List.drop_succ_cons, List.drop_zero, List.append_nil, List.length_cons, List.length_nil, *])
      all_goals first | (refine hQ _ _ _ ?_ ⟨l.length + 1, l.length + 1, _, ac, rfl, ?_, ?_, trivial, trivial, hO4, s3, hal, by omega, fun h => by omega, fun _ => hacc⟩ <;> exact nextW) | omega | trace_state
  · have ei : i = l.length + 1 := by omega
    have hz := hZ ei
    subst ei
    have hpos := splitC_pos c l
    rw [← hz] at hpos
    have hst := hO.strs hpos
    rw [hz] at hst
    clear hA hZ
    repeat' (first | refine boolP_dec (fun _ => ?_) (fun _ => ?_) | apply boolP_not | refine boolP_b (fun _ => ?_) (fun _ => ?_) | ((with_reducible show Qs _ _ _ _ _); first | refine hQe _ _ _ _ ?_ | refine hQr _ _ _ ?_) | simp (maxSteps := 1000000) (disch := first | omega | (simp only [lenS, *]; omega)) only [↓sgg, sww, simprocAttr, sa, sS, sl_str, *])
    all_goals first | exact ⟨hst, hS⟩ | omega | trace_state
end Go.AM
