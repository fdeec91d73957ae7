/-
  Walks over letters of the functions that the law reaches.
-/
import Derived.Test.YtbkhcbddbefepaaGreatC6
import Derived.Test.YtbkhcbddbefepaaGreatC4
namespace Go.AM
attribute [local instance] fnMaps
open Go Go.Proofs
set_option maxRecDepth 100000
set_option maxHeartbeats 1000000
set_option linter.unusedSimpArgs false
def ats (l : List Stp) : List Int := (l.filter (!·.last)).map (·.at')
def intC (n : Int) : Value := .int .i64 n
theorem ats_len {ws : List Nat} {top : Int} : ∀ (n : Nat) (p : Int), 0 ≤ p → (ats (stepsL ws top n p)).length ≤ ws.length - p.toNat
  | 0, p, _ => Nat.zero_le _
  | n + 1, p, h => by
    rw [stepsL]
    split
    · split
      · rename_i h2
        have h3 := (headE_in (stepE_0 h2).1).2.1
        have h4 := sizeH_pos (stepE_0 h2).1
        have := ats_len (ws := ws) (top := top) n (p + sizeH (headAt ws p)) (by omega)
        simp only [ats, List.filter_cons, Bool.not_false, if_true, List.map_cons, List.length_cons] at this ⊢
        omega
      · exact Nat.zero_le _
    · exact Nat.zero_le _
def listR (ws : List Nat) (s : Span) (top : Int) : List Int × Int := if (stopR ws s top).2 = 0 then (ats (stepsL ws top (top - s.at').toNat s.at'), 0) else ([], (stopR ws s top).2)
theorem OwnF.pd {B b z n : Nat} {v : Value} {cs : List Value} {f : Option (Nat × Nat)} {X X' : Heap} (h : OwnF b z X v n cs f) (p : Pd B X X') : OwnF b z X' v n cs f := by
  refine h.keep p.nxt fun r g e => ?_
  subst e
  obtain ⟨_, _, _, h3, _, h5, old, h6, h7⟩ := h
  exact ⟨(p.grp r _ _ _ h3 h6).trans h6.symm, p.grps g h5⟩
theorem OwnF.offL {b z n l : Nat} {v : Value} {cs : List Value} {f : Option (Nat × Nat)} {X X' : Heap} (h : OwnF b z X v n cs f) (p : OffL l X X') (hl : l < b) : OwnF b z X' v n cs f := by
  refine h.keep (by rw [p.next]; exact Nat.le_refl _) fun r g e => ?_
  subst e
  obtain ⟨_, _, h2, h3, _, h5, old, h6, h7⟩ := h
  exact ⟨p.objs r (by omega), p.grps g⟩
theorem elems_int (H : Heap) (l : List Int) : Elems (RInt .i64) 1 H (l.map intC) l := by
  refine ⟨by simp, fun i x hx => ⟨[intC x], ?_, rfl⟩⟩
  have hi := (List.getElem?_eq_some_iff.1 hx).1
  rw [cut_eq, if_pos (by rw [List.length_map]; omega), Nat.mul_one, List.take_one, List.head?_drop, List.getElem?_map, hx]
  rfl
theorem OwnF.slr {b k lo : Nat} {X : Heap} {v : Value} {l : List Int} {f : Option (Nat × Nat)} {gr : Tr (List Nat)} (h : OwnF b 1 X v l.length (l.map intC) f) (hk : k < b) (hl : l.length ≤ 9223372036854775807) : SLr (RInt .i64) 1 ⟨X.objs.del k, gr, X.next, lo⟩ v l := by
  obtain ⟨_, h⟩ := h
  match f, h with
  | none, ⟨h1, h2⟩ =>
    have : l = [] := List.eq_nil_of_length_eq_zero h2
    subst h1 this
    exact SLr.nil
  | some (r, g), ⟨h1, h2, h3, _, _, old, h6, _⟩ =>
    subst h1
    exact SLr.row (fun _ _ _ _ _ h => h) h3 ((delO_get _ _ _ (by omega)).trans h6) (elems_int _ l) ⟨Nat.le_refl _, fun x cells g t _ ho => ⟨t, ho⟩⟩ hl
theorem OwnF.fresh {b z n : Nat} {X : Heap} {v : Value} {cs : List Value} {f : Option (Nat × Nat)} (h : OwnF b z X v n cs f) : Fresh b v := by
  obtain ⟨_, h⟩ := h
  match f, h with
  | none, ⟨h1, _⟩ => subst h1; exact Fresh.nil _ _ _
  | some (r, g), ⟨h1, h2, _⟩ => subst h1; exact Fresh.mk _ _ _ _ h2
theorem fn108 : E.fn.get 108 = some Tryz.f108 := by kernel_rfl
theorem list_ok (H : Heap) (hlo : H.lo ≤ H.next) {a rw g : Nat} {ws : List Nat} (hAr : Ar H a rw g ws) (s : Span) (top : Int) : CallA E (fnv 108) [ptr a 0, spanV s, .int .i64 top] H fun r H' => ∃ v, r = .tuple #[v, .int .i64 (listR ws s top).2] ∧ (SLr (RInt .i64) 1 H' v (listR ws s top).1 ∧ Fresh H.next v) ∧ Same H H' := by
  refine callA_marks (by kernel_rfl) fn108 rfl rfl ?_
  simp only [Tryz.f108, spanV]
  by_cases he : (stopR ws s top).2 = 0
  case neg =>
    have e : listR ws s top = ([], (stopR ws s top).2) := if_neg he
    repeat' (first | refine boolP_dec (fun _ => ?_) (fun _ => ?_) | apply boolP_not | refine boolP_b (fun _ => ?_) (fun _ => ?_) | ((with_reducible show CallA _ _ _ _ _); refine call_ko (H0 := H) koW (stop_ok _ loW (hAr.same koW) s top) ?_; intro H2 k2 l2 n2 g2 q2; try simp (disch := omega) only [sm, sl] at l2 n2 g2 q2) | simp (config := { maxSteps := 1000000 }) (disch := omega) only [↓sh, ↓sh2, ↓reduceIte, sx, sl, sb, st, nbeq_ne, dle, relo_eq, wrap_i64, Nat.reduceBEq, Nat.reduceLT, Nat.reduceLeDiff, Nat.reduceAdd, Nat.reduceMul, Nat.reduceEqDiff, Int.reduceEq, Int.reduceLT, Int.reduceLE, Int.reduceNeg, Int.reduceToNat, Bool.false_eq_true, eq_self, sa, List.nil_append, List.append_nil, *])
    all_goals try contradiction
    refine ⟨_, rfl, ?_⟩
    repeat' (first | refine boolP_dec (fun _ => ?_) (fun _ => ?_) | apply boolP_not | refine boolP_b (fun _ => ?_) (fun _ => ?_) | simp (config := { maxSteps := 1000000 }) (disch := omega) only [↓sh, ↓sh2, ↓reduceIte, sx, sl, sb, st, nbeq_ne, dle, relo_eq, wrap_i64, Nat.reduceBEq, Nat.reduceLT, Nat.reduceLeDiff, Nat.reduceAdd, Nat.reduceMul, Nat.reduceEqDiff, Int.reduceEq, Int.reduceLT, Int.reduceLE, Int.reduceNeg, Int.reduceToNat, Bool.false_eq_true, eq_self, sa, *])
    exact ⟨_, rfl, ⟨SLr.nil, Fresh.nil _ _ _⟩, ko_rec koW rfl rfl⟩
  repeat' (first | refine boolP_dec (fun _ => ?_) (fun _ => ?_) | apply boolP_not | refine boolP_b (fun _ => ?_) (fun _ => ?_) | ((with_reducible show CallA _ _ _ _ _); refine call_ko (H0 := H) koW (stop_ok _ loW (hAr.same koW) s top) ?_; intro H2 k2 l2 n2 g2 q2; try simp (disch := omega) only [sm, sl] at l2 n2 g2 q2) | simp (config := { maxSteps := 1000000 }) (disch := omega) only [↓sh, ↓sh2, ↓reduceIte, sx, sl, sb, st, nbeq_ne, dle, relo_eq, wrap_i64, Nat.reduceBEq, Nat.reduceLT, Nat.reduceLeDiff, Nat.reduceAdd, Nat.reduceMul, Nat.reduceEqDiff, Int.reduceEq, Int.reduceLT, Int.reduceLE, Int.reduceNeg, Int.reduceToNat, Bool.false_eq_true, eq_self, sa, List.nil_append, List.append_nil, *])
  have hmt : May s ∧ s.at' ≤ top ∧ top ≤ s.stop := by
    refine Classical.byContradiction fun hn => ?_
    have : stopR ws s top = (0, 1) := if_neg hn
    rw [this] at he
    cases he
  obtain ⟨hm, ht⟩ := hmt
  unfold May at hm
  unfold Span.stop at ht
  have e : listR ws s top = (ats (stepsL ws top (top - s.at').toNat s.at'), 0) := if_pos he
  have hlen := ats_len (ws := ws) (top := top) (top - s.at').toNat s.at' (by omega)
  have hwl := hAr.len
  generalize hst : stepsL ws top (top - s.at').toNat s.at' = zs at e hlen
  refine (walk_ok _ loW a s top).mono ?_
  rintro r H3 ⟨rfl, b1, b2, b3, n3, s3⟩
  have k3 : Ko H H3 := (show Ko H (H2.newRow [Value.slice none 0 0]) from koW).call s3
  have l3 := s3.lo
  have c0 := s3.objs H2.next (by simp (disch := omega) only [setRow_get, newRow_get, newRow_next, setRow_next, newRow_lo, setRow_lo, newRow_grps, setRow_grps, newRow_relo, setRow_relo, relo_objs, relo_next, relo_lo, nbeq_ne, sl]; omega)
  simp (disch := omega) only [sm, sl] at b1 b2 b3 n3 l3 c0
  clear s3
  have hA3 := hAr.same k3
  refine wps_rangeJ (enc := stpV) (xs := zs) (g := 148) (first := #[]) (cap := #[ptr (H2.next + 1 + 1) 0, ptr (H2.next + 1 + 1 + 1) 0, ptr (H2.next + 1) 0])
    (J := fun rest X => ∃ v f done, X.objs.get H2.next = some (.row [v] none true) ∧ OwnF (H3.next + 2) 1 X v done.length (done.map intC) f ∧ done ++ ats rest = ats zs)
    (R := fun X => False) (ex := [H2.next]) ?_ (by omega) ?_ ?_ (fun _ _ => by kernel_rfl) (fun _ _ _ => by kernel_rfl) ?_ ?_ ?_ ?_ ?_ ?_ ?_ ?_
  · intro x hx; simp only [List.mem_cons, List.not_mem_nil, or_false] at hx; omega
  · simp (config := { maxSteps := 1000000 }) (disch := omega) only [↓sh, ↓sh2, ↓reduceIte, sx, sl, sb, st, nbeq_ne, dle, relo_eq, wrap_i64, Nat.reduceBEq, Nat.reduceLT, Nat.reduceLeDiff, Nat.reduceAdd, Nat.reduceMul, Nat.reduceEqDiff, Int.reduceEq, Int.reduceLT, Int.reduceLE, Int.reduceNeg, Int.reduceToNat, Bool.false_eq_true, eq_self, n3]
  · exact of_decide_eq_true rfl
  · rintro rest X X' ⟨v, f, done, h1, h2, h3⟩ rb pd
    exact ⟨v, f, done, (pd.objs _ (by omega)).trans h1, h2.pd pd, h3⟩
  · rintro rest X X' ⟨v, f, done, h1, h2, h3⟩ of
    exact ⟨v, f, done, (of.objs _ (by omega)).trans h1, h2.offL of (by omega), h3⟩
  · intro X X' h; exact h.elim
  · intro X rb sX
    exact ⟨_, none, [], (sX.objs _ (by omega)).trans c0, OwnF.nil _ _ _, rfl⟩
  · intro y I F H1 sH hn1 hI hB hy h0
    have hx : ∀ x : Nat, x = H2.next ↔ x ∈ [H2.next] := fun x => by simp
    refine walk_iter H3 [H2.next] (by omega) (H2.next + 1 + 1) (H2.next + 1 + 1 + 1) (H2.next + 1) a rw g s top ws b2 b3 b1 hA3 (by omega) (by omega) (by omega) ?_ ?_ ?_ ?_ ?_ ?_ ⟨by omega, by omega⟩ ⟨by omega, by omega⟩ y I F H1 sH hn1 hI hB hy (by rw [hst]; exact h0)
    iterate 5 (rw [← hx]; have := hAr.la; have := hAr.lw; omega)
    intro x hh
    rw [← hx] at hh
    omega
  · rintro v rest X ⟨sv, f, done, h1, h2, h3⟩ rb
    have lX := rb.lo; have nX := rb.nxt
    simp only [stpV]
    repeat' (first | refine boolP_dec (fun _ => ?_) (fun _ => ?_) | apply boolP_not | refine boolP_b (fun _ => ?_) (fun _ => ?_) | simp (config := { maxSteps := 1000000 }) (disch := omega) only [↓sh, ↓sh2, ↓reduceIte, sx, sl, sb, st, nbeq_ne, dle, relo_eq, wrap_i64, Nat.reduceBEq, Nat.reduceLT, Nat.reduceLeDiff, Nat.reduceAdd, Nat.reduceMul, Nat.reduceEqDiff, Int.reduceEq, Int.reduceLT, Int.reduceLE, Int.reduceNeg, Int.reduceToNat, Bool.false_eq_true, eq_self, sa, *])
    refine ⟨sameW, fun X2 of => ?_⟩
    have o1 := of.next; have o2 := of.lo
    have o3 := of.objs X.next (by omega)
    have o4 := of.objs H2.next (by omega)
    have h2 := (h2.same (sameW : Same X _)).offL of (by omega)
    simp (disch := omega) only [sm, sl] at o1 o2 o3 o4
    clear of
    cases hl : v.last with
    | true =>
      repeat' (first | refine boolP_dec (fun _ => ?_) (fun _ => ?_) | apply boolP_not | refine boolP_b (fun _ => ?_) (fun _ => ?_) | simp (config := { maxSteps := 1000000 }) (disch := omega) only [↓sh, ↓sh2, ↓reduceIte, sx, sl, sb, st, nbeq_ne, dle, relo_eq, wrap_i64, Nat.reduceBEq, Nat.reduceLT, Nat.reduceLeDiff, Nat.reduceAdd, Nat.reduceMul, Nat.reduceEqDiff, Int.reduceEq, Int.reduceLT, Int.reduceLE, Int.reduceNeg, Int.reduceToNat, Bool.false_eq_true, eq_self, sa, *])
      rw [n3] at h2
      exact ⟨Yd.refl _ _ X2, .inl ⟨sv, f, done, rfl, h2, by rw [← h3]; simp [ats, hl]⟩⟩
    | false =>
      have h4 : ats (v :: rest) = v.at' :: ats rest := by simp [ats, hl]
      rw [h4] at h3
      have h5 := congrArg List.length h3
      simp only [List.length_append, List.length_cons] at h5
      obtain ⟨H9, f9, hap, ho9, hg9, hn9, _⟩ := append_f (bytes := 8) (k := 1) (new := [intC v.at']) (h2.same (same_newRow [intC v.at'])) (by simp (disch := omega) only [setRow_get, newRow_get, newRow_next, setRow_next, newRow_lo, setRow_lo, newRow_grps, setRow_grps, newRow_relo, setRow_relo, relo_objs, relo_next, relo_lo, nbeq_ne, sl]; omega) (by simp (disch := omega) only [setRow_get, newRow_get, newRow_next, setRow_next, newRow_lo, setRow_lo, newRow_grps, setRow_grps, newRow_relo, setRow_relo, relo_objs, relo_next, relo_lo, nbeq_ne, sl]; omega) (by omega) rfl rfl (by simp [growOk, beq_dec, ble_dec]; omega)
      have y9 : Yd (H3.next + 2) [H2.next] X2 H9 := ((same_newRow [intC v.at']).yd (by omega)).grown hg9 (Nat.le_refl _)
      have d9 := hg9.alone H2.next [sv] true (by simp (disch := omega) only [setRow_get, newRow_get, newRow_next, setRow_next, newRow_lo, setRow_lo, newRow_grps, setRow_grps, newRow_relo, setRow_relo, relo_objs, relo_next, relo_lo, nbeq_ne, sl]; omega) (by simp (disch := omega) only [setRow_get, newRow_get, newRow_next, setRow_next, newRow_lo, setRow_lo, newRow_grps, setRow_grps, newRow_relo, setRow_relo, relo_objs, relo_next, relo_lo, nbeq_ne, sl, o4, h1])
      have l9 := hg9.lo
      simp (disch := omega) only [sm, sl] at hap hn9 l9
      clear hg9
      simp only [intC] at hap
      repeat' (first | refine boolP_dec (fun _ => ?_) (fun _ => ?_) | apply boolP_not | refine boolP_b (fun _ => ?_) (fun _ => ?_) | simp (config := { maxSteps := 1000000 }) (disch := omega) only [↓sh, ↓sh2, ↓reduceIte, sx, sl, sb, st, nbeq_ne, dle, relo_eq, wrap_i64, Nat.reduceBEq, Nat.reduceLT, Nat.reduceLeDiff, Nat.reduceAdd, Nat.reduceMul, Nat.reduceEqDiff, Int.reduceEq, Int.reduceLT, Int.reduceLE, Int.reduceNeg, Int.reduceToNat, Bool.false_eq_true, eq_self, sa, ble_dec, repeat_succ, repeat_zero, List.nil_append, List.cons_append, List.length_cons, List.length_nil, List.drop_succ_cons, List.drop_zero, *])
      rw [n3] at y9
      refine ⟨y9.setRow (by simp) _, .inl ⟨_, f9, done ++ [v.at'], rfl, ?_, by rw [List.append_assoc]; exact h3⟩⟩
      rw [← n3]
      have e9 : (done ++ [v.at']).map intC = done.map intC ++ [intC v.at'] := by simp
      have e8 : (done ++ [v.at']).length = done.length + 1 := by simp
      rw [e9, e8]
      simp only [newRow_next, o1] at ho9
      refine ho9.keep (by simp (disch := omega) only [setRow_get, newRow_get, newRow_next, setRow_next, newRow_lo, setRow_lo, newRow_grps, setRow_grps, newRow_relo, setRow_relo, relo_objs, relo_next, relo_lo, nbeq_ne, sl]; omega) fun r g e => ?_
      subst e
      obtain ⟨_, _, q2, _⟩ := ho9
      exact ⟨by rw [setRow_get, nbeq_ne (by omega)]; rfl, rfl⟩
  · rintro X ⟨sv, f, done, h1, h2, h3⟩ rb
    have lX := rb.lo; have nX := rb.nxt
    have dX := rb.dfr
    rw [n3] at dX
    repeat' (first | refine boolP_dec (fun _ => ?_) (fun _ => ?_) | apply boolP_not | refine boolP_b (fun _ => ?_) (fun _ => ?_) | simp (config := { maxSteps := 1000000 }) (disch := omega) only [↓sh, ↓sh2, ↓reduceIte, sx, sl, sb, st, nbeq_ne, dle, relo_eq, wrap_i64, Nat.reduceBEq, Nat.reduceLT, Nat.reduceLeDiff, Nat.reduceAdd, Nat.reduceMul, Nat.reduceEqDiff, Int.reduceEq, Int.reduceLT, Int.reduceLE, Int.reduceNeg, Int.reduceToNat, Bool.false_eq_true, eq_self, sa, *])
    refine ⟨_, kill1 dX (by omega), sv, rfl, ?_, ?_⟩
    · have h3' : done = ats zs := by rw [← h3]; simp [ats]
      rw [← h3']
      exact ⟨h2.slr (by omega) (by rw [h3']; omega), h2.fresh.le (by have := k3.nxt; omega)⟩
    · exact ko_del (rb.ko k3 (by intro x hx; simp only [List.mem_cons, List.not_mem_nil, or_false] at hx; omega)) (by omega) rfl rfl
  · intro X h; exact h.elim
end Go.AM
