/-
  Walks over letters of the functions that the law reaches.
-/
import Derived.Test.YtfaplhodeekjnaaGreatCB
namespace Go.AM
attribute [local instance] fnMaps
open Go Go.Proofs
set_option maxRecDepth 100000
set_option maxHeartbeats 1000000
set_option linter.unusedSimpArgs false
theorem OwnF.setRow {b z n x : Nat} {v : Value} {cs c : List Value} {f : Option (Nat × Nat)} {X : Heap} (h : OwnF b z X v n cs f) (hx : x < b) : OwnF b z (X.setRow x c) v n cs f := by
  refine h.keep (Nat.le_refl _) fun r g e => ?_
  subst e
  obtain ⟨_, _, h2, _⟩ := h
  exact ⟨by rw [setRow_get, nbeq_ne (by omega)]; rfl, rfl⟩
theorem Ko.grown {b : Nat} {H Y Z : Heap} (k : Ko H Y) (g : Grown b Y Z) (hb : H.next ≤ b) : Ko H Z :=
  ⟨Nat.le_trans k.nxt g.nxt, fun x hx => ((g.below x (by omega)).1).trans (k.objs x hx), fun x hx => ((g.below x (by omega)).2).trans (k.grps x hx)⟩
theorem fn59 : E.fn.get 59 = some Tryz.f59 := by kernel_rfl
theorem gaps_ok (H : Heap) (hlo : H.lo ≤ H.next) (all : Span) (v : Value) (l : List Span) (hv : SLr RSpan 2 H v l) (hr : Rising l) (hw : ∀ x ∈ l, InAll all x) (hl : l.length ≤ 100000) : CallA E (fnv 59) [spanV all, v] H fun r H' => SLr RSpan 2 H' r (gapsR all l) ∧ Same H H' := by
  have hcv : isCell v = true ∧ cellsV v = [v] := by
    obtain ⟨⟨a, c, rfl, _⟩, _⟩ := hv
    exact ⟨rfl, rfl⟩
  refine callA_marks (by kernel_rfl) fn59 rfl rfl ?_
  simp only [Tryz.f59, spanV]
  by_cases hm : May all
  case neg =>
    have e : gapsR all l = [] := if_neg hm
    repeat' (first | refine boolP_dec (fun _ => ?_) (fun _ => ?_) | apply boolP_not | refine boolP_b (fun _ => ?_) (fun _ => ?_) | refine wps_draw (id := 7) [Fx, Fx, Fx, Tx, Fx] (by kernel_rfl) ?_ | refine wps_draw (id := 10) [Fx, Fx, Tx, Fx, Fx] (by kernel_rfl) ?_ | refine wps_draw (id := 11) [Fx, Fx, Tx, Fx] (by kernel_rfl) ?_ | refine wps_draw (id := 12) [Fx, Fx, Fx, Tx, Fx, Fx, Fx, Fx, Fx, Fx] (by kernel_rfl) ?_ | ((with_reducible show CallA _ _ _ _ _); refine call_ko (H0 := H) koW (smay_ok _ loW all) ?_; intro H2 k2 l2 n2 g2 q2; try simp (disch := omega) only [sm, sl] at l2 n2 g2 q2) | simp (config := { maxSteps := 1000000 }) (disch := omega) only [↓sh, ↓sh2, ↓reduceIte, sx, sl, sb, st, nbeq_ne, dle, relo_eq, wrap_i64, Nat.reduceBEq, Nat.reduceLT, Nat.reduceLeDiff, Nat.reduceAdd, Nat.reduceMul, Nat.reduceEqDiff, Int.reduceEq, Int.reduceLT, Int.reduceLE, Int.reduceNeg, Int.reduceToNat, Bool.false_eq_true, eq_self, sa, List.nil_append, List.append_nil, *])
    refine ⟨_, rfl, ?_⟩
    repeat' (first | refine boolP_dec (fun _ => ?_) (fun _ => ?_) | apply boolP_not | refine boolP_b (fun _ => ?_) (fun _ => ?_) | refine wps_draw (id := 7) [Fx, Fx, Fx, Tx, Fx] (by kernel_rfl) ?_ | refine wps_draw (id := 10) [Fx, Fx, Tx, Fx, Fx] (by kernel_rfl) ?_ | refine wps_draw (id := 11) [Fx, Fx, Tx, Fx] (by kernel_rfl) ?_ | refine wps_draw (id := 12) [Fx, Fx, Fx, Tx, Fx, Fx, Fx, Fx, Fx, Fx] (by kernel_rfl) ?_ | simp (config := { maxSteps := 1000000 }) (disch := omega) only [↓sh, ↓sh2, ↓reduceIte, sx, sl, sb, st, nbeq_ne, dle, relo_eq, wrap_i64, Nat.reduceBEq, Nat.reduceLT, Nat.reduceLeDiff, Nat.reduceAdd, Nat.reduceMul, Nat.reduceEqDiff, Int.reduceEq, Int.reduceLT, Int.reduceLE, Int.reduceNeg, Int.reduceToNat, Bool.false_eq_true, eq_self, sa, *])
    exact ⟨SLr.nil, ko_rec koW rfl rfl⟩
  have e : gapsR all l = gapsL all all.at' (mergeL ⟨0, 0⟩ l) := if_pos hm
  have hm' := hm
  unfold May at hm'
  have hrin := mergeL_in hm l ⟨0, 0⟩ hw (.inl rfl)
  have hlen := mergeL_len l ⟨0, 0⟩
  generalize hrs : mergeL ⟨0, 0⟩ l = rs at e hrin hlen
  repeat' (first | refine boolP_dec (fun _ => ?_) (fun _ => ?_) | apply boolP_not | refine boolP_b (fun _ => ?_) (fun _ => ?_) | refine wps_draw (id := 7) [Fx, Fx, Fx, Tx, Fx] (by kernel_rfl) ?_ | refine wps_draw (id := 10) [Fx, Fx, Tx, Fx, Fx] (by kernel_rfl) ?_ | refine wps_draw (id := 11) [Fx, Fx, Tx, Fx] (by kernel_rfl) ?_ | refine wps_draw (id := 12) [Fx, Fx, Fx, Tx, Fx, Fx, Fx, Fx, Fx, Fx] (by kernel_rfl) ?_ | ((with_reducible show CallA _ _ _ _ _); refine call_ko (H0 := H) koW (smay_ok _ loW all) ?_; intro H2 k2 l2 n2 g2 q2; try simp (disch := omega) only [sm, sl] at l2 n2 g2 q2) | simp (config := { maxSteps := 1000000 }) (disch := omega) only [↓sh, ↓sh2, ↓reduceIte, sx, sl, sb, st, nbeq_ne, dle, relo_eq, wrap_i64, Nat.reduceBEq, Nat.reduceLT, Nat.reduceLeDiff, Nat.reduceAdd, Nat.reduceMul, Nat.reduceEqDiff, Int.reduceEq, Int.reduceLT, Int.reduceLE, Int.reduceNeg, Int.reduceToNat, Bool.false_eq_true, eq_self, sa, List.nil_append, List.append_nil, *])
  obtain ⟨Hm, rfl⟩ : ∃ Hm, Hm = H2 := ⟨_, rfl⟩
  refine (rows_ok _ loW v hcv.1 hcv.2).mono ?_
  rintro r H3 ⟨rfl, b1, n3, s3⟩
  have k3 : Ko H H3 := Ko.call koW s3
  have l3 := s3.lo
  have c2 := s3.objs H.next (by simp (disch := omega) only [setRow_get, newRow_get, newRow_next, setRow_next, newRow_lo, setRow_lo, newRow_grps, setRow_grps, newRow_relo, setRow_relo, relo_objs, relo_next, relo_lo, nbeq_ne, sl]; omega)
  have c5 := s3.objs Hm.next (by simp (disch := omega) only [setRow_get, newRow_get, newRow_next, setRow_next, newRow_lo, setRow_lo, newRow_grps, setRow_grps, newRow_relo, setRow_relo, relo_objs, relo_next, relo_lo, nbeq_ne, sl]; omega)
  have c6 := s3.objs (Hm.next + 1) (by simp (disch := omega) only [setRow_get, newRow_get, newRow_next, setRow_next, newRow_lo, setRow_lo, newRow_grps, setRow_grps, newRow_relo, setRow_relo, relo_objs, relo_next, relo_lo, nbeq_ne, sl]; omega)
  simp (disch := omega) only [sm, sl] at b1 n3 l3 c2 c5 c6
  rw [g2 _ (by omega)] at c2
  simp (disch := omega) only [sm, sl] at c2
  clear s3
  have hv3 : SLr RSpan 2 H3 v l := ⟨hv.1.ext RSpan.mono k3.ext, fun a n c ee => (hv.2 a n c ee).elim .inl fun ⟨r, cells, g, t, h1, h2, h3⟩ => .inr ⟨r, cells, g, t, h1, by have := k3.nxt; omega, (k3.objs r h2).trans h3⟩⟩
  refine wps_rangeJ (enc := spanV) (xs := rs) (g := 103) (first := #[]) (cap := #[ptr (Hm.next + 1 + 1) 0])
    (J := fun rest X => ∃ v f done p, X.objs.get Hm.next = some (.row [v] none true) ∧ X.objs.get (Hm.next + 1) = some (.row [.int .i64 p] none true) ∧ OwnF (H3.next + 2) 2 X v done.length (done.flatMap spanC) f ∧ done ++ gapsL all p rest = gapsL all all.at' rs ∧ (∀ x ∈ rest, InAll all x) ∧ done.length + rest.length ≤ rs.length ∧ 0 ≤ p ∧ p ≤ 1099511627776)
    (R := fun X => False) (ex := [Hm.next, Hm.next + 1]) ?_ (by omega) ?_ ?_ (fun _ _ => by kernel_rfl) (fun _ _ _ => by kernel_rfl) ?_ ?_ ?_ ?_ ?_ ?_ ?_ ?_
  · intro x hx; simp only [List.mem_cons, List.not_mem_nil, or_false] at hx; omega
  · simp (config := { maxSteps := 1000000 }) (disch := omega) only [↓sh, ↓sh2, ↓reduceIte, sx, sl, sb, st, nbeq_ne, dle, relo_eq, wrap_i64, Nat.reduceBEq, Nat.reduceLT, Nat.reduceLeDiff, Nat.reduceAdd, Nat.reduceMul, Nat.reduceEqDiff, Int.reduceEq, Int.reduceLT, Int.reduceLE, Int.reduceNeg, Int.reduceToNat, Bool.false_eq_true, eq_self, n3]
  · exact of_decide_eq_true rfl
  · rintro rest X X' ⟨v, f, done, p, h1, h2, h3, h4⟩ rb pd
    exact ⟨v, f, done, p, (pd.objs _ (by omega)).trans h1, (pd.objs _ (by omega)).trans h2, h3.pd pd, h4⟩
  · rintro rest X X' ⟨v, f, done, p, h1, h2, h3, h4⟩ of
    exact ⟨v, f, done, p, (of.objs _ (by omega)).trans h1, (of.objs _ (by omega)).trans h2, h3.offL of (by omega), h4⟩
  · intro X X' h; exact h.elim
  · intro X rb sX
    exact ⟨_, none, [], all.at', (sX.objs _ (by omega)).trans c5, (sX.objs _ (by omega)).trans c6, OwnF.nil _ _ _, rfl, hrin, by simp, by omega, by omega⟩
  · intro y I F H1 sH hn1 hI hB hy h0
    have hx : ∀ x : Nat, x ∈ [Hm.next, Hm.next + 1] → x = Hm.next ∨ x = Hm.next + 1 := fun x h => by simpa using h
    refine rows_iter H3 [Hm.next, Hm.next + 1] (by omega) (Hm.next + 1 + 1) v l b1 (by omega) (fun h => by have := hx _ h; omega) hv3 ?_ hr (fun x h => (hw x h).1) hl (fun x h => by have := hx _ h; omega) y I F H1 sH hn1 hI hB hy (by rw [hrs]; exact h0)
    rintro a n c ee r rfl h
    rcases hv.2 _ n c ee with h1 | ⟨r', _, _, _, h1, h2, _⟩
    · cases h1
    · cases h1
      have := hx _ h
      simp only at this
      omega
  · rintro x rest X ⟨sv, f, done, p, h1, h2, h3, h4, h5, h6, h7, h8⟩ rb
    have lX := rb.lo; have nX := rb.nxt
    have hxin := h5 x (List.mem_cons_self ..)
    obtain ⟨hxm, hx1, hx2⟩ := hxin
    have hxm' := hxm
    unfold May at hxm'
    have a2 := rb.objs H.next (by omega) (by simp; omega)
    simp only [spanV]
    repeat' (first | refine boolP_dec (fun _ => ?_) (fun _ => ?_) | apply boolP_not | refine boolP_b (fun _ => ?_) (fun _ => ?_) | refine wps_draw (id := 7) [Fx, Fx, Fx, Tx, Fx] (by kernel_rfl) ?_ | refine wps_draw (id := 10) [Fx, Fx, Tx, Fx, Fx] (by kernel_rfl) ?_ | refine wps_draw (id := 11) [Fx, Fx, Tx, Fx] (by kernel_rfl) ?_ | refine wps_draw (id := 12) [Fx, Fx, Fx, Tx, Fx, Fx, Fx, Fx, Fx, Fx] (by kernel_rfl) ?_ | simp (config := { maxSteps := 1000000 }) (disch := omega) only [↓sh, ↓sh2, ↓reduceIte, sx, sl, sb, st, nbeq_ne, dle, relo_eq, wrap_i64, Nat.reduceBEq, Nat.reduceLT, Nat.reduceLeDiff, Nat.reduceAdd, Nat.reduceMul, Nat.reduceEqDiff, Int.reduceEq, Int.reduceLT, Int.reduceLE, Int.reduceNeg, Int.reduceToNat, Bool.false_eq_true, eq_self, sa, *])
    refine ⟨sameW, fun X2 of => ?_⟩
    have o1 := of.next; have o2 := of.lo
    have o3 := of.objs X.next (by omega)
    have o4 := of.objs Hm.next (by omega)
    have o5 := of.objs (Hm.next + 1) (by omega)
    have o6 := of.objs H.next (by omega)
    have h3 := (h3.same (sameW : Same X _)).offL of (by omega)
    simp (disch := omega) only [sm, sl] at o1 o2 o3 o4 o5 o6
    clear of
    have hst : all.stop = all.at' + all.size := rfl
    have hst2 : x.stop = x.at' + x.size := rfl
    by_cases hgt : p < x.at'
    · rw [gapsL, if_pos hgt] at h4
      repeat' (first | refine boolP_dec (fun _ => ?_) (fun _ => ?_) | apply boolP_not | refine boolP_b (fun _ => ?_) (fun _ => ?_) | refine wps_draw (id := 7) [Fx, Fx, Fx, Tx, Fx] (by kernel_rfl) ?_ | refine wps_draw (id := 10) [Fx, Fx, Tx, Fx, Fx] (by kernel_rfl) ?_ | refine wps_draw (id := 11) [Fx, Fx, Tx, Fx] (by kernel_rfl) ?_ | refine wps_draw (id := 12) [Fx, Fx, Fx, Tx, Fx, Fx, Fx, Fx, Fx, Fx] (by kernel_rfl) ?_ | ((with_reducible show CallA _ _ _ _ _); refine call_ko (H0 := X2) koW (send_ok _ loW all (by assumption)) ?_; intro H2 k2 l2 n2 g2 q2; try simp (disch := omega) only [sm, sl] at l2 n2 g2 q2) | simp (config := { maxSteps := 1000000 }) (disch := omega) only [↓sh, ↓sh2, ↓reduceIte, sx, sl, sb, st, nbeq_ne, dle, relo_eq, wrap_i64, Nat.reduceBEq, Nat.reduceLT, Nat.reduceLeDiff, Nat.reduceAdd, Nat.reduceMul, Nat.reduceEqDiff, Int.reduceEq, Int.reduceLT, Int.reduceLE, Int.reduceNeg, Int.reduceToNat, Bool.false_eq_true, eq_self, sa, *])
      all_goals try omega
      obtain ⟨Hk, rfl⟩ : ∃ Hk, Hk = H2 := ⟨_, rfl⟩
      have s2 : Same X2 (Hk.relo H.lo) := sameW
      have nh2 := s2.nxt
      have p5 := s2.objs Hm.next (by omega); have p6 := s2.objs (Hm.next + 1) (by omega); have p7 := s2.objs X.next (by omega)
      simp (disch := omega) only [sm, sl] at nh2 p5 p6 p7
      simp only [List.length_cons] at h6
      obtain ⟨H9, f9, hap, ho9, hg9, hn9, _⟩ := append_f (bytes := 16) (k := 1) (new := spanC ⟨p, x.at' - p⟩) ((h3.same s2).same (same_newRow (spanC ⟨p, x.at' - p⟩))) (by simp (disch := omega) only [setRow_get, newRow_get, newRow_next, setRow_next, newRow_lo, setRow_lo, newRow_grps, setRow_grps, newRow_relo, setRow_relo, relo_objs, relo_next, relo_lo, nbeq_ne, sl]; omega) (by simp (disch := omega) only [setRow_get, newRow_get, newRow_next, setRow_next, newRow_lo, setRow_lo, newRow_grps, setRow_grps, newRow_relo, setRow_relo, relo_objs, relo_next, relo_lo, nbeq_ne, sl]; omega) (by omega) rfl rfl (by simp [growOk, beq_dec, ble_dec]; omega)
      have y9 : Yd (H3.next + 2) [Hm.next, Hm.next + 1] X2 H9 := ((s2.yd (by omega)).trans ((same_newRow (spanC ⟨p, x.at' - p⟩)).yd (by simp (disch := omega) only [setRow_get, newRow_get, newRow_next, setRow_next, newRow_lo, setRow_lo, newRow_grps, setRow_grps, newRow_relo, setRow_relo, relo_objs, relo_next, relo_lo, nbeq_ne, sl]; omega))).grown hg9 (Nat.le_refl _)
      have d5 := hg9.alone Hm.next [sv] true (by simp (disch := omega) only [setRow_get, newRow_get, newRow_next, setRow_next, newRow_lo, setRow_lo, newRow_grps, setRow_grps, newRow_relo, setRow_relo, relo_objs, relo_next, relo_lo, nbeq_ne, sl]; omega) (by simp (disch := omega) only [setRow_get, newRow_get, newRow_next, setRow_next, newRow_lo, setRow_lo, newRow_grps, setRow_grps, newRow_relo, setRow_relo, relo_objs, relo_next, relo_lo, nbeq_ne, sl, *])
      have d6 := hg9.alone (Hm.next + 1) [.int .i64 p] true (by simp (disch := omega) only [setRow_get, newRow_get, newRow_next, setRow_next, newRow_lo, setRow_lo, newRow_grps, setRow_grps, newRow_relo, setRow_relo, relo_objs, relo_next, relo_lo, nbeq_ne, sl]; omega) (by simp (disch := omega) only [setRow_get, newRow_get, newRow_next, setRow_next, newRow_lo, setRow_lo, newRow_grps, setRow_grps, newRow_relo, setRow_relo, relo_objs, relo_next, relo_lo, nbeq_ne, sl, *])
      have d7 := hg9.alone X.next [.int .i64 x.at', .int .i64 x.size] true (by simp (disch := omega) only [setRow_get, newRow_get, newRow_next, setRow_next, newRow_lo, setRow_lo, newRow_grps, setRow_grps, newRow_relo, setRow_relo, relo_objs, relo_next, relo_lo, nbeq_ne, sl]; omega) (by simp (disch := omega) only [setRow_get, newRow_get, newRow_next, setRow_next, newRow_lo, setRow_lo, newRow_grps, setRow_grps, newRow_relo, setRow_relo, relo_objs, relo_next, relo_lo, nbeq_ne, sl, *])
      have l9 := hg9.lo
      simp (disch := omega) only [sm, sl] at hap hn9 l9
      clear hg9
      simp only [spanC] at hap
      repeat' (first | refine boolP_dec (fun _ => ?_) (fun _ => ?_) | apply boolP_not | refine boolP_b (fun _ => ?_) (fun _ => ?_) | refine wps_draw (id := 7) [Fx, Fx, Fx, Tx, Fx] (by kernel_rfl) ?_ | refine wps_draw (id := 10) [Fx, Fx, Tx, Fx, Fx] (by kernel_rfl) ?_ | refine wps_draw (id := 11) [Fx, Fx, Tx, Fx] (by kernel_rfl) ?_ | refine wps_draw (id := 12) [Fx, Fx, Fx, Tx, Fx, Fx, Fx, Fx, Fx, Fx] (by kernel_rfl) ?_ | ((with_reducible show CallA _ _ _ _ _); refine call_ko (H0 := _) koW (send_ok _ loW x (by assumption)) ?_; intro H2 k2 l2 n2 g2 q2; try simp (disch := omega) only [sm, sl] at l2 n2 g2 q2) | simp (config := { maxSteps := 1000000 }) (disch := omega) only [↓sh, ↓sh2, ↓reduceIte, sx, sl, sb, st, nbeq_ne, dle, relo_eq, wrap_i64, Nat.reduceBEq, Nat.reduceLT, Nat.reduceLeDiff, Nat.reduceAdd, Nat.reduceMul, Nat.reduceEqDiff, Int.reduceEq, Int.reduceLT, Int.reduceLE, Int.reduceNeg, Int.reduceToNat, Bool.false_eq_true, eq_self, sa, builtin_max, ble_dec, repeat_succ, repeat_zero, List.nil_append, List.cons_append, List.append_nil, List.length_cons, List.length_nil, List.drop_succ_cons, List.drop_zero, *])
      all_goals try omega
      rw [n3] at y9 ho9
      have s9 : Same (H9.setRow Hm.next [Value.slice (some ⟨Hk.next + 1, 0, none⟩) (done.length + 1) (done.length + 1)]) (H2.relo H.lo) := Ko.same (Ko.relo (Ko.trans (by rw [← setRow_relo]; exact Ko.relo (Ko.refl _) _) k2) _) (by simp (config := { maxSteps := 1000000 }) (disch := omega) only [↓sh, ↓sh2, ↓reduceIte, sx, sl, sb, st, nbeq_ne, dle, relo_eq, wrap_i64, Nat.reduceBEq, Nat.reduceLT, Nat.reduceLeDiff, Nat.reduceAdd, Nat.reduceMul, Nat.reduceEqDiff, Int.reduceEq, Int.reduceLT, Int.reduceLE, Int.reduceNeg, Int.reduceToNat, Bool.false_eq_true, eq_self, sa, *])
      have e9 : (done ++ [(⟨p, x.at' - p⟩ : Span)]).flatMap spanC = done.flatMap spanC ++ spanC ⟨p, x.at' - p⟩ := by simp
      have e8 : (done ++ [(⟨p, x.at' - p⟩ : Span)]).length = done.length + 1 := by simp
      simp only [newRow_next, relo_next] at ho9
      refine ⟨(y9.setRow (by simp) _).trans ((s9.yd (by simp (disch := omega) only [setRow_get, newRow_get, newRow_next, setRow_next, newRow_lo, setRow_lo, newRow_grps, setRow_grps, newRow_relo, setRow_relo, relo_objs, relo_next, relo_lo, nbeq_ne, sl]; omega)).trans ((Yd.refl _ _ _).setRow (by simp) _)), .inl ⟨_, f9, done ++ [⟨p, x.at' - p⟩], _, rfl, rfl, ?_, by rw [List.append_assoc]; exact h4, fun z hz => h5 z (List.mem_cons_of_mem _ hz), by rw [e8]; omega, by split <;> omega, by split <;> omega⟩⟩
      rw [e9, e8]
      exact ((ho9.setRow (by omega)).same s9).setRow (by omega)
    · rw [gapsL, if_neg hgt, List.nil_append] at h4
      repeat' (first | refine boolP_dec (fun _ => ?_) (fun _ => ?_) | apply boolP_not | refine boolP_b (fun _ => ?_) (fun _ => ?_) | refine wps_draw (id := 7) [Fx, Fx, Fx, Tx, Fx] (by kernel_rfl) ?_ | refine wps_draw (id := 10) [Fx, Fx, Tx, Fx, Fx] (by kernel_rfl) ?_ | refine wps_draw (id := 11) [Fx, Fx, Tx, Fx] (by kernel_rfl) ?_ | refine wps_draw (id := 12) [Fx, Fx, Fx, Tx, Fx, Fx, Fx, Fx, Fx, Fx] (by kernel_rfl) ?_ | ((with_reducible show CallA _ _ _ _ _); (first | refine call_ko (H0 := X2) koW (send_ok _ loW all (by assumption)) ?_ | refine call_ko (H0 := X2) koW (send_ok _ loW x (by assumption)) ?_); intro H2 k2 l2 n2 g2 q2; try simp (disch := omega) only [sm, sl] at l2 n2 g2 q2) | simp (config := { maxSteps := 1000000 }) (disch := omega) only [↓sh, ↓sh2, ↓reduceIte, sx, sl, sb, st, nbeq_ne, dle, relo_eq, wrap_i64, Nat.reduceBEq, Nat.reduceLT, Nat.reduceLeDiff, Nat.reduceAdd, Nat.reduceMul, Nat.reduceEqDiff, Int.reduceEq, Int.reduceLT, Int.reduceLE, Int.reduceNeg, Int.reduceToNat, Bool.false_eq_true, eq_self, sa, builtin_max, *])
      all_goals try omega
      rw [n3] at h3
      have s9 : Same X2 (H2.relo H.lo) := sameW
      refine ⟨(Yd.trans (s9.yd (by omega)) ((Yd.refl _ _ _).setRow (by simp) _)), .inl ⟨sv, f, done, _, rfl, rfl, (h3.same s9).setRow (by omega), h4, fun z hz => h5 z (List.mem_cons_of_mem _ hz), by simp only [List.length_cons] at h6; omega, by split <;> omega, by split <;> omega⟩⟩
  · rintro X ⟨sv, f, done, p, h1, h2, h3, h4, h5, h6, h7, h8⟩ rb
    have lX := rb.lo; have nX := rb.nxt
    have dX := rb.dfr
    have a2 := rb.objs H.next (by omega) (by simp; omega)
    have hst : all.stop = all.at' + all.size := rfl
    rw [n3] at dX
    by_cases hgt : p < all.at' + all.size
    · have e4 : gapsL all p [] = [⟨p, all.at' + all.size - p⟩] := if_pos hgt
      rw [e4] at h4
      repeat' (first | refine boolP_dec (fun _ => ?_) (fun _ => ?_) | apply boolP_not | refine boolP_b (fun _ => ?_) (fun _ => ?_) | refine wps_draw (id := 7) [Fx, Fx, Fx, Tx, Fx] (by kernel_rfl) ?_ | refine wps_draw (id := 10) [Fx, Fx, Tx, Fx, Fx] (by kernel_rfl) ?_ | refine wps_draw (id := 11) [Fx, Fx, Tx, Fx] (by kernel_rfl) ?_ | refine wps_draw (id := 12) [Fx, Fx, Fx, Tx, Fx, Fx, Fx, Fx, Fx, Fx] (by kernel_rfl) ?_ | ((with_reducible show CallA _ _ _ _ _); refine call_ko (H0 := X) koW (send_ok _ loW all (by assumption)) ?_; intro H2 k2 l2 n2 g2 q2; try simp (disch := omega) only [sm, sl] at l2 n2 g2 q2) | simp (config := { maxSteps := 1000000 }) (disch := omega) only [↓sh, ↓sh2, ↓reduceIte, sx, sl, sb, st, nbeq_ne, dle, relo_eq, wrap_i64, Nat.reduceBEq, Nat.reduceLT, Nat.reduceLeDiff, Nat.reduceAdd, Nat.reduceMul, Nat.reduceEqDiff, Int.reduceEq, Int.reduceLT, Int.reduceLE, Int.reduceNeg, Int.reduceToNat, Bool.false_eq_true, eq_self, sa, *])
      all_goals try omega
      obtain ⟨Hk, rfl⟩ : ∃ Hk, Hk = H2 := ⟨_, rfl⟩
      have s2 : Same X (Hk.relo H.lo) := sameW
      have nh2 := s2.nxt
      have p5 := s2.objs Hm.next (by omega)
      have p6 := s2.objs Hm.next (by omega)
      have p8 := s2.objs (Hm.next + 1 + 1 + 1) (by omega)
      simp (disch := omega) only [sm, sl] at nh2 p5 p8
      simp only [List.length_nil] at h6
      obtain ⟨H9, f9, hap, ho9, hg9, hn9, _⟩ := append_f (bytes := 16) (k := 1) (new := spanC ⟨p, all.at' + all.size - p⟩) ((h3.same s2).same (same_newRow (spanC ⟨p, all.at' + all.size - p⟩))) (by simp (disch := omega) only [setRow_get, newRow_get, newRow_next, setRow_next, newRow_lo, setRow_lo, newRow_grps, setRow_grps, newRow_relo, setRow_relo, relo_objs, relo_next, relo_lo, nbeq_ne, sl]; omega) (by simp (disch := omega) only [setRow_get, newRow_get, newRow_next, setRow_next, newRow_lo, setRow_lo, newRow_grps, setRow_grps, newRow_relo, setRow_relo, relo_objs, relo_next, relo_lo, nbeq_ne, sl]; omega) (by omega) rfl rfl (by simp [growOk, beq_dec, ble_dec]; omega)
      have d5 := hg9.alone Hm.next [sv] true (by simp (disch := omega) only [setRow_get, newRow_get, newRow_next, setRow_next, newRow_lo, setRow_lo, newRow_grps, setRow_grps, newRow_relo, setRow_relo, relo_objs, relo_next, relo_lo, nbeq_ne, sl]; omega) (by simp (disch := omega) only [setRow_get, newRow_get, newRow_next, setRow_next, newRow_lo, setRow_lo, newRow_grps, setRow_grps, newRow_relo, setRow_relo, relo_objs, relo_next, relo_lo, nbeq_ne, sl, p5, h1])
      have d8 := (hg9.below (Hm.next + 1 + 1 + 1) (by omega)).1
      have kX := rb.ko k3 (by intro x hx; simp only [List.mem_cons, List.not_mem_nil, or_false] at hx; omega)
      have k9 : Ko H H9 := ((kX.call s2).newRow (spanC ⟨p, all.at' + all.size - p⟩)).grown hg9 (by have := k3.nxt; omega)
      have l9 := hg9.lo
      simp (disch := omega) only [sm, sl] at hap hn9 l9 d8
      clear hg9
      simp only [spanC] at hap
      repeat' (first | refine boolP_dec (fun _ => ?_) (fun _ => ?_) | apply boolP_not | refine boolP_b (fun _ => ?_) (fun _ => ?_) | refine wps_draw (id := 7) [Fx, Fx, Fx, Tx, Fx] (by kernel_rfl) ?_ | refine wps_draw (id := 10) [Fx, Fx, Tx, Fx, Fx] (by kernel_rfl) ?_ | refine wps_draw (id := 11) [Fx, Fx, Tx, Fx] (by kernel_rfl) ?_ | refine wps_draw (id := 12) [Fx, Fx, Fx, Tx, Fx, Fx, Fx, Fx, Fx, Fx] (by kernel_rfl) ?_ | ((with_reducible show CallA _ _ _ _ _); refine call_ko (H0 := _) koW (send_ok _ loW all (by assumption)) ?_; intro H2 k2 l2 n2 g2 q2; try simp (disch := omega) only [sm, sl] at l2 n2 g2 q2) | simp (config := { maxSteps := 1000000 }) (disch := omega) only [↓sh, ↓sh2, ↓reduceIte, sx, sl, sb, st, nbeq_ne, dle, relo_eq, wrap_i64, Nat.reduceBEq, Nat.reduceLT, Nat.reduceLeDiff, Nat.reduceAdd, Nat.reduceMul, Nat.reduceEqDiff, Int.reduceEq, Int.reduceLT, Int.reduceLE, Int.reduceNeg, Int.reduceToNat, Bool.false_eq_true, eq_self, sa, ble_dec, repeat_succ, repeat_zero, List.nil_append, List.cons_append, List.append_nil, List.length_cons, List.length_nil, List.drop_succ_cons, List.drop_zero, *])
      have e9 : (done ++ [(⟨p, all.at' + all.size - p⟩ : Span)]).flatMap spanC = done.flatMap spanC ++ spanC ⟨p, all.at' + all.size - p⟩ := by simp
      have e8 : (done ++ [(⟨p, all.at' + all.size - p⟩ : Span)]).length = done.length + 1 := by simp
      simp only [newRow_next, relo_next] at ho9
      rw [← e9, ← e8] at ho9
      have ho8 := ho9.setRow (c := [Value.slice (some ⟨Hk.next + 1, 0, none⟩) (done.length + 1) (done.length + 1)]) (x := Hm.next) (by omega)
      have hz := ho8.slrS (k := Hm.next + 1 + 1 + 1) (lo := H.lo) (gr := H9.grps) (by omega) (by rw [e8]; omega)
      rw [e8, h4, setRow_next, hn9] at hz
      refine ⟨_, kill1 ?_ (by omega), hz, ?_⟩
      · rw [setRow_get, nbeq_ne (by omega)]
        exact d8.trans ((s2.objs _ (by omega)).trans dX)
      · exact ko_del (k9.setRow (by omega) _) (by omega) rfl (by rw [setRow_next, hn9])
    · have e4 : gapsL all p [] = [] := if_neg hgt
      rw [e4, List.append_nil] at h4
      repeat' (first | refine boolP_dec (fun _ => ?_) (fun _ => ?_) | apply boolP_not | refine boolP_b (fun _ => ?_) (fun _ => ?_) | refine wps_draw (id := 7) [Fx, Fx, Fx, Tx, Fx] (by kernel_rfl) ?_ | refine wps_draw (id := 10) [Fx, Fx, Tx, Fx, Fx] (by kernel_rfl) ?_ | refine wps_draw (id := 11) [Fx, Fx, Tx, Fx] (by kernel_rfl) ?_ | refine wps_draw (id := 12) [Fx, Fx, Fx, Tx, Fx, Fx, Fx, Fx, Fx, Fx] (by kernel_rfl) ?_ | ((with_reducible show CallA _ _ _ _ _); refine call_ko (H0 := X) koW (send_ok _ loW all (by assumption)) ?_; intro H2 k2 l2 n2 g2 q2; try simp (disch := omega) only [sm, sl] at l2 n2 g2 q2) | simp (config := { maxSteps := 1000000 }) (disch := omega) only [↓sh, ↓sh2, ↓reduceIte, sx, sl, sb, st, nbeq_ne, dle, relo_eq, wrap_i64, Nat.reduceBEq, Nat.reduceLT, Nat.reduceLeDiff, Nat.reduceAdd, Nat.reduceMul, Nat.reduceEqDiff, Int.reduceEq, Int.reduceLT, Int.reduceLE, Int.reduceNeg, Int.reduceToNat, Bool.false_eq_true, eq_self, sa, *])
      all_goals try omega
      have s2 : Same X (H2.relo H.lo) := sameW
      have kX := rb.ko k3 (by intro x hx; simp only [List.mem_cons, List.not_mem_nil, or_false] at hx; omega)
      refine ⟨_, kill1 ((s2.objs _ (by omega)).trans dX) (by omega), ?_, ?_⟩
      · rw [← h4]
        exact (h3.same s2).slrS (by omega) (by simp only [List.length_nil] at h6; omega)
      · exact ko_del (X := H2.relo H.lo) (kX.call s2) (by omega) rfl rfl
  · intro X h; exact h.elim
end Go.AM
namespace Go.AM
attribute [local instance] fnMaps
open Go Go.Proofs
set_option maxRecDepth 100000
set_option maxHeartbeats 1000000
set_option linter.unusedSimpArgs false
theorem span_ext_iff {a b : Span} : a = b ↔ a.at' = b.at' ∧ a.size = b.size := by cases a; cases b; simp
theorem take_next {α : Type} {a b : List α} {i : Nat} (h : a.take i = b.take i) (h1 : i < a.length) (h2 : i < b.length) (e : a[i] = b[i]) : a.take (i + 1) = b.take (i + 1) := by
  rw [List.take_add_one, List.take_add_one, h, List.getElem?_eq_getElem h1, List.getElem?_eq_getElem h2, e]
theorem fn58 : E.fn.get 58 = some Tryz.f58 := by kernel_rfl
theorem spans_eq (H : Heap) (hlo : H.lo ≤ H.next) (va vb : Value) (la lb : List Span) (ha : SL RSpan 2 H va la) (hb : SL RSpan 2 H vb lb) : CallA E (fnv 58) [va, vb] H fun r H' => r = .bool (decide (la = lb)) ∧ Same H H' := by
  obtain ⟨a, ca, rfl, ⟨_, hma⟩, hla⟩ := ha
  obtain ⟨b, cb, rfl, ⟨_, hmb⟩, hlb⟩ := hb
  refine callA_fn (by kernel_rfl) fn58 rfl rfl ?_
  simp only [Tryz.f58]
  repeat' (first | refine boolP_dec (fun _ => ?_) (fun _ => ?_) | apply boolP_not | refine boolP_b (fun _ => ?_) (fun _ => ?_) | refine wps_draw (id := 6) [Fx, Fx, Fx, Fx, Fx, Fx, Fx, Fx, Fx] (by kernel_rfl) ?_ | ((with_reducible show Qs _ _ _ _ _); first | refine hQe _ _ _ _ ?_ | refine hQr _ _ _ ?_) | simp (config := { maxSteps := 1000000 }) (disch := omega) only [↓sh, ↓sh2, ↓reduceIte, sx, sl, sb, st, nbeq_ne, dle, relo_eq, wrap_i64, Nat.reduceBEq, Nat.reduceLT, Nat.reduceLeDiff, Nat.reduceAdd, Nat.reduceMul, Nat.reduceEqDiff, Int.reduceEq, Int.reduceLT, Int.reduceLE, Int.reduceNeg, Int.reduceToNat, Bool.false_eq_true, eq_self, sa, *])
  case refine_2 => exact ⟨bool_of (by simp only [Bool.false_eq_true, false_iff]; rintro rfl; omega), sameW⟩
  refine wps_named2 (fun T1 H1 eT eH => ?_)
  have k1 : Ko H H1 := by rw [eH]; exact koW
  have n1 := congrArg Heap.next eH; have l1 := congrArg Heap.lo eH; have g1 := fun r => congrArg (fun h : Heap => h.objs.get r) eH
  try simp (disch := omega) only [sm, sl] at n1 l1 g1
  clear eH
  have u1_0 := congrArg (fun T : Tr Value => T.get 0) eT
  have u1_1 := congrArg (fun T : Tr Value => T.get 1) eT
  have u1_12 := congrArg (fun T : Tr Value => T.get 12) eT
  have u1_13 := congrArg (fun T : Tr Value => T.get 13) eT
  simp only [get_set, of_nil, of_1, of_2, of_3, of_4, of_5, Nat.reduceEqDiff, if_true, if_false, reduceIte] at u1_0 u1_1 u1_12 u1_13
  clear eT
  refine wp_loopN (by kernel_rfl) (fun nn T X => ∃ i : Nat, nn = la.length - i ∧ (T.get 13 = some (.int .i64 i)) ∧ (T.get 0 = T1.get 0 ∧ T.get 1 = T1.get 1 ∧ T.get 12 = T1.get 12) ∧ Ko H1 X ∧ X.lo = H1.lo ∧ (i ≤ la.length ∧ la.take i = lb.take i)) ?_ ?_
  · refine ⟨_, 0, rfl, ?_, ?_, Ko.refl _, rfl, ⟨Nat.zero_le _, rfl⟩⟩ <;> exact nextW
  rintro nn T1' X1 ⟨i, rfl, m1, w1, kx1, lx1, ⟨hi, he⟩⟩ Qs hQ hQr hQe
  have kX1 := k1.trans kx1; have nx1 := kx1.nxt; have gx1 := kx1.objs
  by_cases hlt : i < la.length
  · obtain ⟨r, o, cells, gg, tt, part, rfl, hr, hrow, hcut, rfl⟩ := hla i la[i] (by simp)
    obtain ⟨r', o', cells', gg', tt', part', rfl, hr', hrow', hcut', rfl⟩ := hlb i lb[i] (by simp)
    have a1 := at_nat hlt
    have a2 : at? (i : Int) lb.length = some i := at_nat (by omega)
    have e1 := kX1.objs r hr
    have e2 := kX1.objs r' hr'
    repeat' (first | refine boolP_dec (fun _ => ?_) (fun _ => ?_) | apply boolP_not | refine boolP_b (fun _ => ?_) (fun _ => ?_) | refine wps_draw (id := 6) [Fx, Fx, Fx, Fx, Fx, Fx, Fx, Fx, Fx] (by kernel_rfl) ?_ | ((with_reducible show Qs _ _ _ _ _); first | refine hQe _ _ _ _ ?_ | refine hQr _ _ _ ?_) | simp (config := { maxSteps := 1000000 }) (disch := omega) only [↓sh, ↓sh2, ↓reduceIte, sx, sl, sb, st, nbeq_ne, dle, relo_eq, wrap_i64, Nat.reduceBEq, Nat.reduceLT, Nat.reduceLeDiff, Nat.reduceAdd, Nat.reduceMul, Nat.reduceEqDiff, Int.reduceEq, Int.reduceLT, Int.reduceLE, Int.reduceNeg, Int.reduceToNat, Bool.false_eq_true, eq_self, sa, *])
    case refine_1 =>
      rename_i hx
      simp only [Bool.and_eq_true, beq_iff_eq] at hx
      have he' : la[i] = lb[i] := by rw [span_ext_iff]; exact hx
      refine hQ _ _ _ ?_ ⟨i + 1, rfl, ?_, ?_, ?_, ?_, ⟨by omega, take_next he hlt (by omega) he'⟩⟩ <;> exact nextW
    case refine_2 =>
      rename_i hx
      refine ⟨bool_of ?_, sameW⟩
      simp only [Bool.false_eq_true, false_iff]
      rintro rfl
      simp at hx
    omega
  have hi' : i = la.length := by omega
  repeat' (first | refine boolP_dec (fun _ => ?_) (fun _ => ?_) | apply boolP_not | refine boolP_b (fun _ => ?_) (fun _ => ?_) | refine wps_draw (id := 6) [Fx, Fx, Fx, Fx, Fx, Fx, Fx, Fx, Fx] (by kernel_rfl) ?_ | ((with_reducible show Qs _ _ _ _ _); first | refine hQe _ _ _ _ ?_ | refine hQr _ _ _ ?_) | simp (config := { maxSteps := 1000000 }) (disch := omega) only [↓sh, ↓sh2, ↓reduceIte, sx, sl, sb, st, nbeq_ne, dle, relo_eq, wrap_i64, Nat.reduceBEq, Nat.reduceLT, Nat.reduceLeDiff, Nat.reduceAdd, Nat.reduceMul, Nat.reduceEqDiff, Int.reduceEq, Int.reduceLT, Int.reduceLE, Int.reduceNeg, Int.reduceToNat, Bool.false_eq_true, eq_self, sa, *])
  · omega
  · refine ⟨bool_of ?_, sameW⟩
    simp only [true_iff]
    rw [hi', List.take_length, List.take_of_length_le (by omega)] at he
    exact he
theorem cut2_get {cells : List Value} {k : Nat} {a b : Value} (h : cut cells k 2 = some [a, b]) : cells[k]? = some a ∧ cells[k + 1]? = some b := by
  rw [cut_eq] at h
  split at h
  · simp only [Option.some.injEq] at h
    have h0 := congrArg (fun l : List Value => l[0]?) h
    have h1 := congrArg (fun l : List Value => l[1]?) h
    simp only [List.getElem?_take, List.getElem?_drop] at h0 h1
    exact ⟨by simpa using h0, by simpa using h1⟩
  · cases h
def ledB (all : Span) : Option Span → List Span → Bool
  | _, [] => true
  | p, x :: l => decide (Within x all) && (match p with | none => true | some y => decide (y.at' + y.size ≤ x.at')) && ledB all (some x) l
def preB (p : Option Span) (x : Span) : Bool := match p with
  | none => true
  | some y => decide (y.at' + y.size ≤ x.at')
theorem ledB_cons (all : Span) (p : Option Span) (x : Span) (l : List Span) : ledB all p (x :: l) = (decide (Within x all) && preB p x && ledB all (some x) l) := by cases p <;> rfl
theorem ledB_all {all : Span} : ∀ {l : List Span} {p : Option Span}, ledB all p l = true → (∀ x ∈ l, InAll all x) ∧ Rising l ∧ ∀ y, p = some y → ∀ x ∈ l, y.at' + y.size ≤ x.at'
  | [], p, _ => ⟨fun x h => (by cases h), fun i j x y _ h => (by simp at h), fun y _ x h => (by cases h)⟩
  | x :: l, p, h => by
    simp only [ledB, Bool.and_eq_true, decide_eq_true_eq] at h
    obtain ⟨⟨h1, h2⟩, h3⟩ := h
    obtain ⟨q1, q2, q3⟩ := ledB_all h3
    have hx : InAll all x := ⟨h1.1, h1.2.2.1, h1.2.2.2⟩
    have hm := h1.1
    unfold May at hm
    refine ⟨fun z hz => ?_, ?_, fun y hy z hz => ?_⟩
    · rcases List.mem_cons.1 hz with rfl | hz
      · exact hx
      · exact q1 z hz
    · intro i j a b hij ha hb
      cases j with
      | zero => omega
      | succ j =>
        have hb' : l[j]? = some b := by simpa using hb
        cases i with
        | zero =>
          simp only [List.getElem?_cons_zero, Option.some.injEq] at ha
          subst ha
          have := q3 x rfl b (List.mem_of_getElem? hb')
          omega
        | succ i => exact q2 i j a b (by omega) (by simpa using ha) hb'
    · subst hy
      simp only [decide_eq_true_eq] at h2
      rcases List.mem_cons.1 hz with rfl | hz
      · exact h2
      · have := q3 x rfl z hz
        omega
def rightB (all : Span) (l free : List Span) : Bool := ledB all none l && decide (gapsR all l = free)
theorem fn41 : E.fn.get 41 = some Tryz.f41 := by kernel_rfl
theorem lright_ok (H : Heap) (hlo : H.lo ≤ H.next) (all : Span) (v w : Value) (l free : List Span) (hv : SLr RSpan 2 H v l) (hw : SLr RSpan 2 H w free) (hl : l.length ≤ 100000) : CallA E (fnv 41) [spanV all, v, w] H fun r H' => r = .bool (rightB all l free) ∧ Same H H' := by
  have hv0 := hv
  obtain ⟨⟨a, ca, rfl, ⟨_, hma⟩, hla⟩, _⟩ := hv
  refine callA_fn (by kernel_rfl) fn41 rfl rfl ?_
  simp only [Tryz.f41]
  simp only [spanV]
  repeat' (first | refine boolP_dec (fun _ => ?_) (fun _ => ?_) | apply boolP_not | refine boolP_b (fun _ => ?_) (fun _ => ?_) | refine wps_draw (id := 4) [Fx, Fx, Fx, Fx, Fx, Fx, Fx, Fx, Fx, Fx, Fx, Fx, Fx, Fx, Fx, Fx, Fx, Fx, Fx, Fx, Fx, Fx, Fx, Fx, Fx, Fx] (by kernel_rfl) ?_ | ((with_reducible show Qs _ _ _ _ _); first | refine hQe _ _ _ _ ?_ | refine hQr _ _ _ ?_) | simp (config := { maxSteps := 1000000 }) (disch := omega) only [↓sh, ↓sh2, ↓reduceIte, sx, sl, sb, st, nbeq_ne, dle, relo_eq, wrap_i64, Nat.reduceBEq, Nat.reduceLT, Nat.reduceLeDiff, Nat.reduceAdd, Nat.reduceMul, Nat.reduceEqDiff, Int.reduceEq, Int.reduceLT, Int.reduceLE, Int.reduceNeg, Int.reduceToNat, Bool.false_eq_true, eq_self, sa, *])
  refine wps_named2 (fun T1 H1 eT eH => ?_)
  have k1 : Ko H H1 := by rw [eH]; exact koW
  have n1 := congrArg Heap.next eH; have l1 := congrArg Heap.lo eH; have g1 := fun r => congrArg (fun h : Heap => h.objs.get r) eH
  try simp (disch := omega) only [sm, sl] at n1 l1 g1
  clear eH
  have u1_1 := congrArg (fun T : Tr Value => T.get 1) eT
  have u1_2 := congrArg (fun T : Tr Value => T.get 2) eT
  have u1_3 := congrArg (fun T : Tr Value => T.get 3) eT
  have u1_9 := congrArg (fun T : Tr Value => T.get 9) eT
  have u1_10 := congrArg (fun T : Tr Value => T.get 10) eT
  have u1_11 := congrArg (fun T : Tr Value => T.get 11) eT
  simp only [get_set, of_nil, of_1, of_2, of_3, of_4, of_5, Nat.reduceEqDiff, if_true, if_false, reduceIte] at u1_1 u1_2 u1_3 u1_9 u1_10 u1_11
  clear eT
  refine wp_loopN (by kernel_rfl) (fun nn T X => ∃ i : Nat, nn = l.length - i ∧ (T.get 11 = some (.int .i64 i)) ∧ (T.get 1 = T1.get 1 ∧ T.get 2 = T1.get 2 ∧ T.get 3 = T1.get 3 ∧ T.get 9 = T1.get 9 ∧ T.get 10 = T1.get 10) ∧ Ko H1 X ∧ X.lo = H1.lo ∧ (i ≤ l.length ∧ ledB all none l = ledB all (if i = 0 then none else l[i - 1]?) (l.drop i) ∧ (∀ x, 0 < i → l[i - 1]? = some x → May x))) ?_ ?_
  · refine ⟨_, 0, rfl, ?_, ?_, Ko.refl _, rfl, ⟨Nat.zero_le _, rfl, fun x h => absurd h (by omega)⟩⟩ <;> exact nextW
  rintro nn T1' X1 ⟨i, rfl, m1, w1, kx1, lx1, ⟨hi, hE, hP⟩⟩ Qs hQ hQr hQe
  have kX1 := k1.trans kx1; have nx1 := kx1.nxt; have gx1 := kx1.objs
  by_cases hlt : i < l.length
  · obtain ⟨r, o, cells, gg, tt, part, rfl, hr, hrow, hcut, rfl⟩ := hla i l[i] (by simp)
    have a1 := at_nat hlt
    have e1 := kX1.objs r hr
    rw [List.drop_eq_getElem_cons hlt, ledB_cons] at hE
    by_cases hwn : Within l[i] all
    · have hmi := hwn.1
      unfold May at hmi
      by_cases h0 : i = 0
      · subst h0
        have hcut0 : cut cells o 2 = some [.int .i64 l[0].at', .int .i64 l[0].size] := by rw [Nat.zero_mul, Nat.add_zero] at hcut; exact hcut
        repeat' (first | refine boolP_dec (fun _ => ?_) (fun _ => ?_) | apply boolP_not | refine boolP_b (fun _ => ?_) (fun _ => ?_) | refine wps_draw (id := 4) [Fx, Fx, Fx, Fx, Fx, Fx, Fx, Fx, Fx, Fx, Fx, Fx, Fx, Fx, Fx, Fx, Fx, Fx, Fx, Fx, Fx, Fx, Fx, Fx, Fx, Fx] (by kernel_rfl) ?_ | ((with_reducible show CallA _ _ _ _ _); refine call_ko (H0 := H1) koW (swithin_ok _ loW l[0] all) ?_; intro H2 k2 l2 n2 g2 q2; try simp (disch := omega) only [sm, sl] at l2 n2 g2 q2) | ((with_reducible show Qs _ _ _ _ _); first | refine hQe _ _ _ _ ?_ | refine hQr _ _ _ ?_) | simp (config := { maxSteps := 1000000 }) (disch := omega) only [↓sh, ↓sh2, ↓reduceIte, sx, sl, sb, st, nbeq_ne, dle, relo_eq, wrap_i64, Nat.reduceBEq, Nat.reduceLT, Nat.reduceLeDiff, Nat.reduceAdd, Nat.reduceMul, Nat.reduceEqDiff, Int.reduceEq, Int.reduceLT, Int.reduceLE, Int.reduceNeg, Int.reduceToNat, Bool.false_eq_true, eq_self, sa, Int.natCast_zero, *])
        all_goals try omega
        have hn : ledB all none l = ledB all (some l[0]) (l.drop 1) := by rw [hE]; simp [hwn, preB]
        refine hQ _ _ _ ?_ ⟨1, rfl, ?_, ?_, ?_, ?_, ⟨by omega, by rw [hn, if_neg (by omega), List.getElem?_eq_getElem (show 1 - 1 < l.length from hlt)], fun x _ hx => by rw [List.getElem?_eq_getElem (show 1 - 1 < l.length from hlt)] at hx; cases hx; exact hwn.1⟩⟩ <;> exact nextW
      · obtain ⟨r', o', cells', gg', tt', part', e, hr', hrow', hcut', rfl⟩ := hla (i - 1) l[i - 1] (by simp)
        cases e
        rw [hrow] at hrow'
        cases hrow'
        have a2 : at? ((i : Int) - 1) l.length = some (i - 1) := by rw [show (i : Int) - 1 = ((i - 1 : Nat) : Int) by omega]; exact at_nat (by omega)
        have a3 : ((i : Int) - 1).toNat = i - 1 := by omega
        obtain ⟨f1, f2⟩ := cut2_get hcut'
        have hmp := hP l[i - 1] (by omega) (by simp)
        unfold May at hmp
        by_cases hov : l[i - 1].at' + l[i - 1].size ≤ l[i].at'
        · repeat' (first | refine boolP_dec (fun _ => ?_) (fun _ => ?_) | apply boolP_not | refine boolP_b (fun _ => ?_) (fun _ => ?_) | refine wps_draw (id := 4) [Fx, Fx, Fx, Fx, Fx, Fx, Fx, Fx, Fx, Fx, Fx, Fx, Fx, Fx, Fx, Fx, Fx, Fx, Fx, Fx, Fx, Fx, Fx, Fx, Fx, Fx] (by kernel_rfl) ?_ | ((with_reducible show CallA _ _ _ _ _); refine call_ko (H0 := H1) koW (swithin_ok _ loW l[i] all) ?_; intro H2 k2 l2 n2 g2 q2; try simp (disch := omega) only [sm, sl] at l2 n2 g2 q2) | ((with_reducible show Qs _ _ _ _ _); first | refine hQe _ _ _ _ ?_ | refine hQr _ _ _ ?_) | simp (config := { maxSteps := 1000000 }) (disch := omega) only [↓sh, ↓sh2, ↓reduceIte, sx, sl, sb, st, nbeq_ne, dle, relo_eq, wrap_i64, Nat.reduceBEq, Nat.reduceLT, Nat.reduceLeDiff, Nat.reduceAdd, Nat.reduceMul, Nat.reduceEqDiff, Int.reduceEq, Int.reduceLT, Int.reduceLE, Int.reduceNeg, Int.reduceToNat, Bool.false_eq_true, eq_self, sa, *])
          all_goals try omega
          have hn : ledB all none l = ledB all (some l[i]) (l.drop (i + 1)) := by
            rw [hE, if_neg h0, List.getElem?_eq_getElem (by omega)]
            simp [hwn, preB, hov]
          refine hQ _ _ _ ?_ ⟨i + 1, rfl, ?_, ?_, ?_, ?_, ⟨by omega, by rw [hn, if_neg (by omega), List.getElem?_eq_getElem (show i + 1 - 1 < l.length from hlt)]; rfl, fun x _ hx => by rw [List.getElem?_eq_getElem (show i + 1 - 1 < l.length from hlt)] at hx; cases hx; exact hwn.1⟩⟩ <;> exact nextW
        · repeat' (first | refine boolP_dec (fun _ => ?_) (fun _ => ?_) | apply boolP_not | refine boolP_b (fun _ => ?_) (fun _ => ?_) | refine wps_draw (id := 4) [Fx, Fx, Fx, Fx, Fx, Fx, Fx, Fx, Fx, Fx, Fx, Fx, Fx, Fx, Fx, Fx, Fx, Fx, Fx, Fx, Fx, Fx, Fx, Fx, Fx, Fx] (by kernel_rfl) ?_ | ((with_reducible show CallA _ _ _ _ _); refine call_ko (H0 := H1) koW (swithin_ok _ loW l[i] all) ?_; intro H2 k2 l2 n2 g2 q2; try simp (disch := omega) only [sm, sl] at l2 n2 g2 q2) | ((with_reducible show Qs _ _ _ _ _); first | refine hQe _ _ _ _ ?_ | refine hQr _ _ _ ?_) | simp (config := { maxSteps := 1000000 }) (disch := omega) only [↓sh, ↓sh2, ↓reduceIte, sx, sl, sb, st, nbeq_ne, dle, relo_eq, wrap_i64, Nat.reduceBEq, Nat.reduceLT, Nat.reduceLeDiff, Nat.reduceAdd, Nat.reduceMul, Nat.reduceEqDiff, Int.reduceEq, Int.reduceLT, Int.reduceLE, Int.reduceNeg, Int.reduceToNat, Bool.false_eq_true, eq_self, sa, *])
          all_goals try omega
          have hn : ledB all none l = false := by
            rw [hE, if_neg h0, List.getElem?_eq_getElem (by omega)]
            simp [preB, hov]
          have hz : rightB all l free = false := by simp [rightB, hn]
          rw [hz]
          exact ⟨rfl, sameW⟩
    · repeat' (first | refine boolP_dec (fun _ => ?_) (fun _ => ?_) | apply boolP_not | refine boolP_b (fun _ => ?_) (fun _ => ?_) | refine wps_draw (id := 4) [Fx, Fx, Fx, Fx, Fx, Fx, Fx, Fx, Fx, Fx, Fx, Fx, Fx, Fx, Fx, Fx, Fx, Fx, Fx, Fx, Fx, Fx, Fx, Fx, Fx, Fx] (by kernel_rfl) ?_ | ((with_reducible show CallA _ _ _ _ _); refine call_ko (H0 := H1) koW (swithin_ok _ loW l[i] all) ?_; intro H2 k2 l2 n2 g2 q2; try simp (disch := omega) only [sm, sl] at l2 n2 g2 q2) | ((with_reducible show Qs _ _ _ _ _); first | refine hQe _ _ _ _ ?_ | refine hQr _ _ _ ?_) | simp (config := { maxSteps := 1000000 }) (disch := omega) only [↓sh, ↓sh2, ↓reduceIte, sx, sl, sb, st, nbeq_ne, dle, relo_eq, wrap_i64, Nat.reduceBEq, Nat.reduceLT, Nat.reduceLeDiff, Nat.reduceAdd, Nat.reduceMul, Nat.reduceEqDiff, Int.reduceEq, Int.reduceLT, Int.reduceLE, Int.reduceNeg, Int.reduceToNat, Bool.false_eq_true, eq_self, sa, *])
      all_goals try omega
      have hn : ledB all none l = false := by rw [hE]; simp [hwn]
      have hz : rightB all l free = false := by simp [rightB, hn]
      rw [hz]
      exact ⟨rfl, sameW⟩
  · repeat' (first | refine boolP_dec (fun _ => ?_) (fun _ => ?_) | apply boolP_not | refine boolP_b (fun _ => ?_) (fun _ => ?_) | refine wps_draw (id := 4) [Fx, Fx, Fx, Fx, Fx, Fx, Fx, Fx, Fx, Fx, Fx, Fx, Fx, Fx, Fx, Fx, Fx, Fx, Fx, Fx, Fx, Fx, Fx, Fx, Fx, Fx] (by kernel_rfl) ?_ | ((with_reducible show Qs _ _ _ _ _); first | refine hQe _ _ _ _ ?_ | refine hQr _ _ _ ?_) | simp (config := { maxSteps := 1000000 }) (disch := omega) only [↓sh, ↓sh2, ↓reduceIte, sx, sl, sb, st, nbeq_ne, dle, relo_eq, wrap_i64, Nat.reduceBEq, Nat.reduceLT, Nat.reduceLeDiff, Nat.reduceAdd, Nat.reduceMul, Nat.reduceEqDiff, Int.reduceEq, Int.reduceLT, Int.reduceLE, Int.reduceNeg, Int.reduceToNat, Bool.false_eq_true, eq_self, sa, *])
    all_goals try omega
    have hn : ledB all none l = true := by rw [hE, List.drop_eq_nil_of_le (by omega)]; cases (if i = 0 then none else l[i - 1]?) <;> rfl
    obtain ⟨q1, q2, _⟩ := ledB_all hn
    have hz : rightB all l free = decide (gapsR all l = free) := by simp [rightB, hn]
    rw [hz]
    refine (gaps_ok X1 (by omega) all _ l (hv0.mono RSpan.mono (Ko.same kX1 (by simp (config := { maxSteps := 1000000 }) (disch := omega) only [↓sh, ↓sh2, ↓reduceIte, sx, sl, sb, st, nbeq_ne, dle, relo_eq, wrap_i64, Nat.reduceBEq, Nat.reduceLT, Nat.reduceLeDiff, Nat.reduceAdd, Nat.reduceMul, Nat.reduceEqDiff, Int.reduceEq, Int.reduceLT, Int.reduceLE, Int.reduceNeg, Int.reduceToNat, Bool.false_eq_true, eq_self, sa, *]))) q2 q1 hl).mono ?_
    rintro r H4 ⟨h4, s4⟩
    refine (spans_eq H4 (by have := s4.lo; have := s4.nxt; omega) r w _ free h4.1 ((hw.mono RSpan.mono (Ko.same kX1 (by simp (config := { maxSteps := 1000000 }) (disch := omega) only [↓sh, ↓sh2, ↓reduceIte, sx, sl, sb, st, nbeq_ne, dle, relo_eq, wrap_i64, Nat.reduceBEq, Nat.reduceLT, Nat.reduceLeDiff, Nat.reduceAdd, Nat.reduceMul, Nat.reduceEqDiff, Int.reduceEq, Int.reduceLT, Int.reduceLE, Int.reduceNeg, Int.reduceToNat, Bool.false_eq_true, eq_self, sa, *]))).mono RSpan.mono s4).1).mono ?_
    rintro r5 H5 ⟨rfl, s5⟩
    exact ⟨rfl, (Ko.same kX1 (by simp (config := { maxSteps := 1000000 }) (disch := omega) only [↓sh, ↓sh2, ↓reduceIte, sx, sl, sb, st, nbeq_ne, dle, relo_eq, wrap_i64, Nat.reduceBEq, Nat.reduceLT, Nat.reduceLeDiff, Nat.reduceAdd, Nat.reduceMul, Nat.reduceEqDiff, Int.reduceEq, Int.reduceLT, Int.reduceLE, Int.reduceNeg, Int.reduceToNat, Bool.false_eq_true, eq_self, sa, *])).trans (s4.trans s5)⟩
end Go.AM
