/-
  Walks over letters of the functions that the law reaches.
-/
import Derived.Test.YtbkhcbddbefepaaGreatC4
import Derived.Test.YtbkhcbddbefepaaGreatC5
namespace Go.AM
attribute [local instance] fnMaps
open Go Go.Proofs
set_option maxRecDepth 100000
set_option maxHeartbeats 1000000
set_option linter.unusedSimpArgs false
def mergeL : Span → List Span → List Span
  | op, [] => if 0 < op.size then [op] else []
  | op, s :: l => if 0 < op.size ∧ s.at' ≤ op.at' + op.size then mergeL ⟨op.at', (if op.at' + op.size < s.at' + s.size then s.at' + s.size else op.at' + op.size) - op.at'⟩ l else if 0 < op.size then op :: mergeL s l else mergeL s l
def OpenOk (op : Span) : Prop := op = ⟨0, 0⟩ ∨ May op
theorem fn152 : E.fn.get 152 = some Tryz.f152 := by kernel_rfl
theorem rows_iter (H : Heap) (ex : List Nat) (hlo : H.lo ≤ H.next) (bV : Nat) (v : Value) (l : List Span) (hV : H.objs.get bV = some (.row [v] none true)) (lV : bV < H.next) (nV : bV ∉ ex) (hv : SLr RSpan 2 H v l) (hvx : ∀ a n c, v = .slice a n c → ∀ r, a = some r → r.block ∉ ex) (hr : Rising l) (hm : ∀ x ∈ l, May x) (hl : l.length ≤ 100000) (hex : ∀ x : Nat, x ∈ ex → x < H.next)
    (y : Value) (I : List Span → Heap → Prop) (F : Heap → Prop) (H1 : Heap) (sH : Same H H1) (hn1 : H1.next = H.next + 2) (hI : ∀ rest X X', I rest X → Pd (H.next + 2) X X' → I rest X') (hB : ∀ rest X, I rest X → RBase H ex X)
    (hy : ∀ v rest X, I (v :: rest) X → CallA E y [spanV v] X fun r X' => (r = .bool true ∧ I rest X' ∧ Yd (H.next + 2) ((H.next + 1) :: ex) X X') ∨ (r = .bool false ∧ F X'))
    (h0 : I (mergeL ⟨0, 0⟩ l) H1) : CallA E (.func (.func 152) #[] #[ptr bV 0]) [y] H1 fun _ X => I [] X ∨ F X := by
  have e1 := (sH.objs bV lV).trans hV
  have hv1 : SLr RSpan 2 H1 v l := hv.mono RSpan.mono sH
  have hcv : isCell v = true := by
    obtain ⟨⟨a, c, rfl, _⟩, _⟩ := hv
    rfl
  have l1 := sH.lo
  refine callA_clo (by kernel_rfl) fn152 rfl rfl ?_
  simp only [Tryz.f152]
  repeat' (first | refine boolP_dec (fun _ => ?_) (fun _ => ?_) | apply boolP_not | refine boolP_b (fun _ => ?_) (fun _ => ?_) | refine wps_draw (id := 7) [Fx, Fx, Fx, Fx, Fx, Fx, Fx, Tx, Fx, Fx, Fx] (by kernel_rfl) ?_ | refine wps_draw (id := 8) [Fx, Tx, Fx, Tx, Fx, Fx, Fx, Fx, Fx, Fx] (by kernel_rfl) ?_ | ((with_reducible show Qs _ _ _ _ _); first | refine hQe _ _ _ _ ?_ | refine hQr _ _ _ ?_) | simp (config := { maxSteps := 1000000 }) (disch := omega) only [↓sh, ↓sh2, ↓reduceIte, sx, sl, sb, st, nbeq_ne, dle, relo_eq, wrap_i64, Nat.reduceBEq, Nat.reduceLT, Nat.reduceLeDiff, Nat.reduceAdd, Nat.reduceMul, Nat.reduceEqDiff, Int.reduceEq, Int.reduceLT, Int.reduceLE, Int.reduceNeg, Int.reduceToNat, Bool.false_eq_true, eq_self, sa, List.nil_append, List.cons_append, *])
  refine (sort_ok _ loW v l (hv1.mono RSpan.mono (same_newRow _)) hr hl).mono ?_
  rintro r H3 ⟨⟨hs, hf⟩, s3⟩
  have k3 : Ko H1 H3 := (show Ko H1 (H1.newRow [Value.int .i64 0, Value.int .i64 0]) from koW).call s3
  have l3 := s3.lo; have n3 := s3.nxt
  have o3 := s3.objs (H.next + 2) (by simp (disch := omega) only [setRow_get, newRow_get, newRow_next, setRow_next, newRow_lo, setRow_lo, newRow_grps, setRow_grps, newRow_relo, setRow_relo, relo_objs, relo_next, relo_lo, nbeq_ne, sl]; omega)
  have z1 : (H.next + 2 == H1.next) = true := by rw [hn1]; exact beq_self_eq_true _
  simp (disch := omega) only [sm, sl] at l3 n3 o3 hf
  rw [z1] at o3
  clear s3
  obtain ⟨⟨ad, ca, rfl, ⟨_, hml⟩, hla⟩, -⟩ := hs
  repeat' (first | refine boolP_dec (fun _ => ?_) (fun _ => ?_) | apply boolP_not | refine boolP_b (fun _ => ?_) (fun _ => ?_) | refine wps_draw (id := 7) [Fx, Fx, Fx, Fx, Fx, Fx, Fx, Tx, Fx, Fx, Fx] (by kernel_rfl) ?_ | refine wps_draw (id := 8) [Fx, Tx, Fx, Tx, Fx, Fx, Fx, Fx, Fx, Fx] (by kernel_rfl) ?_ | ((with_reducible show Qs _ _ _ _ _); first | refine hQe _ _ _ _ ?_ | refine hQr _ _ _ ?_) | simp (config := { maxSteps := 1000000 }) (disch := omega) only [↓sh, ↓sh2, ↓reduceIte, sx, sl, sb, st, nbeq_ne, dle, relo_eq, wrap_i64, Nat.reduceBEq, Nat.reduceLT, Nat.reduceLeDiff, Nat.reduceAdd, Nat.reduceMul, Nat.reduceEqDiff, Int.reduceEq, Int.reduceLT, Int.reduceLE, Int.reduceNeg, Int.reduceToNat, Bool.false_eq_true, eq_self, sa, *])
  have i3 := hI _ _ _ h0 (Same.pd (sameW : Same H1 H3) (by omega))
  refine wp_loopN (by kernel_rfl) (fun nn T X => ∃ (i : Nat) (op : Span), nn = l.length - i ∧ i ≤ l.length ∧ T.get 9 = some (.int .i64 i) ∧ T.get 0 = some y ∧ T.get 3 = some (ptr (H.next + 2) 0) ∧ T.get 7 = some (.slice ad l.length ca) ∧ T.get 8 = some (.int .i64 l.length) ∧
    X.objs.get (H.next + 2) = some (.row [.int .i64 op.at', .int .i64 op.size] none true) ∧ OpenOk op ∧ SL RSpan 2 X (.slice ad l.length ca) l ∧ H.next + 2 < X.next ∧ I (mergeL op (l.drop i)) X) ⟨_, 0, ⟨0, 0⟩, rfl, Nat.zero_le _, by simp (config := { maxSteps := 1000000 }) (disch := omega) only [↓sh, ↓sh2, ↓reduceIte, sx, sl, sb, st, nbeq_ne, dle, relo_eq, wrap_i64, Nat.reduceBEq, Nat.reduceLT, Nat.reduceLeDiff, Nat.reduceAdd, Nat.reduceMul, Nat.reduceEqDiff, Int.reduceEq, Int.reduceLT, Int.reduceLE, Int.reduceNeg, Int.reduceToNat, Bool.false_eq_true, eq_self, sa, Int.natCast_zero, List.nil_append, List.cons_append], by simp (config := { maxSteps := 1000000 }) (disch := omega) only [↓sh, ↓sh2, ↓reduceIte, sx, sl, sb, st, nbeq_ne, dle, relo_eq, wrap_i64, Nat.reduceBEq, Nat.reduceLT, Nat.reduceLeDiff, Nat.reduceAdd, Nat.reduceMul, Nat.reduceEqDiff, Int.reduceEq, Int.reduceLT, Int.reduceLE, Int.reduceNeg, Int.reduceToNat, Bool.false_eq_true, eq_self, sa, List.nil_append, List.cons_append], by simp (config := { maxSteps := 1000000 }) (disch := omega) only [↓sh, ↓sh2, ↓reduceIte, sx, sl, sb, st, nbeq_ne, dle, relo_eq, wrap_i64, Nat.reduceBEq, Nat.reduceLT, Nat.reduceLeDiff, Nat.reduceAdd, Nat.reduceMul, Nat.reduceEqDiff, Int.reduceEq, Int.reduceLT, Int.reduceLE, Int.reduceNeg, Int.reduceToNat, Bool.false_eq_true, eq_self, sa, List.nil_append, List.cons_append], by simp (config := { maxSteps := 1000000 }) (disch := omega) only [↓sh, ↓sh2, ↓reduceIte, sx, sl, sb, st, nbeq_ne, dle, relo_eq, wrap_i64, Nat.reduceBEq, Nat.reduceLT, Nat.reduceLeDiff, Nat.reduceAdd, Nat.reduceMul, Nat.reduceEqDiff, Int.reduceEq, Int.reduceLT, Int.reduceLE, Int.reduceNeg, Int.reduceToNat, Bool.false_eq_true, eq_self, sa, List.nil_append, List.cons_append], by simp (config := { maxSteps := 1000000 }) (disch := omega) only [↓sh, ↓sh2, ↓reduceIte, sx, sl, sb, st, nbeq_ne, dle, relo_eq, wrap_i64, Nat.reduceBEq, Nat.reduceLT, Nat.reduceLeDiff, Nat.reduceAdd, Nat.reduceMul, Nat.reduceEqDiff, Int.reduceEq, Int.reduceLT, Int.reduceLE, Int.reduceNeg, Int.reduceToNat, Bool.false_eq_true, eq_self, sa, List.nil_append, List.cons_append], o3, .inl rfl, ⟨ad, ca, rfl, ⟨by assumption, hml⟩, hla⟩, by omega, i3⟩ ?_
  rintro nn T X ⟨i, op, rfl, hi, t9, t0, t3, t7, t8, fo, hop, hsl, hnx, ii⟩ Qs hQ hQr hQe
  have rb := hB _ _ ii
  have lX := rb.lo; have nX := rb.nxt
  have no : H.next + 2 ∉ (H.next + 1) :: ex := fun hh => by
    rcases List.mem_cons.1 hh with hh | hh
    · omega
    · have := hex _ hh; omega
  have hexl : ∀ x : Nat, x ∈ (H.next + 1) :: ex → x < H.next + 2 := fun x hh => by
    rcases List.mem_cons.1 hh with rfl | hh
    · omega
    · have := hex _ hh; omega
  by_cases hlt : i < l.length
  · obtain ⟨rr, o, cells, gg, tt, part, rfl, hr1, hrow, hcut, rfl⟩ := (by obtain ⟨_, _, e, _, h⟩ := hsl; cases e; exact h i l[i] (by simp) : ∃ r o cells g t part, ad = some ⟨r, o, none⟩ ∧ r < X.next ∧ X.objs.get r = some (.row cells g t) ∧ cut cells (o + i * 2) 2 = some part ∧ RSpan X part l[i])
    have hmx := hm l[i] (by simp)
    have hmx' := hmx
    unfold May at hmx'
    have a1 := at_nat hlt
    rw [List.drop_eq_getElem_cons hlt] at ii
    have hxx : ∀ x : Nat, x ∈ [H.next + 2] → x < H.next + 3 := fun x hx => by rw [List.mem_singleton] at hx; omega
    have hst : op.stop = op.at' + op.size := rfl
    have hst2 : l[i].stop = l[i].at' + l[i].size := rfl
    by_cases hos : 0 < op.size
    · have hmo : May op := hop.resolve_left fun e => by rw [e] at hos; exact absurd hos (by decide)
      have hmo' := hmo
      unfold May at hmo'
      by_cases hle : l[i].at' ≤ op.at' + op.size
      · repeat' (first | refine boolP_dec (fun _ => ?_) (fun _ => ?_) | apply boolP_not | refine boolP_b (fun _ => ?_) (fun _ => ?_) | refine wps_draw (id := 7) [Fx, Fx, Fx, Fx, Fx, Fx, Fx, Tx, Fx, Fx, Fx] (by kernel_rfl) ?_ | refine wps_draw (id := 8) [Fx, Tx, Fx, Tx, Fx, Fx, Fx, Fx, Fx, Fx] (by kernel_rfl) ?_ | ((with_reducible show CallA _ _ _ _ _); (first | refine call_ko (H0 := X) koW (smay_ok _ loW l[i]) ?_ | refine call_ko (H0 := X) koW (send_ok _ loW op (by assumption)) ?_ | refine call_ko (H0 := X) koW (send_ok _ loW l[i] (by assumption)) ?_); intro H2 k2 l2 n2 g2 q2; try simp (disch := omega) only [sm, sl] at l2 n2 g2 q2) | ((with_reducible show Qs _ _ _ _ _); first | refine hQe _ _ _ _ ?_ | refine hQr _ _ _ ?_) | simp (config := { maxSteps := 1000000 }) (disch := omega) only [↓sh, ↓sh2, ↓reduceIte, sx, sl, sb, st, nbeq_ne, dle, relo_eq, wrap_i64, Nat.reduceBEq, Nat.reduceLT, Nat.reduceLeDiff, Nat.reduceAdd, Nat.reduceMul, Nat.reduceEqDiff, Int.reduceEq, Int.reduceLT, Int.reduceLE, Int.reduceNeg, Int.reduceToNat, Bool.false_eq_true, eq_self, sa, builtin_max, *])
        all_goals try omega
        rw [mergeL, if_pos ⟨hos, hle⟩] at ii
        refine hQ _ _ _ ?_ ⟨i + 1, ⟨op.at', (if op.at' + op.size < l[i].at' + l[i].size then l[i].at' + l[i].size else op.at' + op.size) - op.at'⟩, rfl, by omega, ?_, ?_, ?_, ?_, ?_, ?_, .inr (by unfold May; simp only; split <;> omega), ?_, ?_, ?_⟩
        · omega
        iterate 5 exact nextW
        · simp (disch := omega) only [setRow_get, newRow_get, newRow_next, setRow_next, newRow_lo, setRow_lo, newRow_grps, setRow_grps, newRow_relo, setRow_relo, relo_objs, relo_next, relo_lo, nbeq_ne, sl]
        · refine hsl.yd (fun _ _ _ _ h => h) (hf.le (by omega)) hxx (Yd.setRow (Same.yd ?_ (by omega)) (List.mem_singleton.2 rfl) _); exact sameW
        · simp (disch := omega) only [setRow_get, newRow_get, newRow_next, setRow_next, newRow_lo, setRow_lo, newRow_grps, setRow_grps, newRow_relo, setRow_relo, relo_objs, relo_next, relo_lo, nbeq_ne, sl]; omega
        · refine hI _ _ _ ii (Pd.setRow (Same.pd ?_ (by omega)) (by omega) ⟨[.int .i64 op.at', .int .i64 op.size], true, ?_⟩ _); exact sameW; (simp (disch := omega) only [setRow_get, newRow_get, newRow_next, setRow_next, newRow_lo, setRow_lo, newRow_grps, setRow_grps, newRow_relo, setRow_relo, relo_objs, relo_next, relo_lo, nbeq_ne, sl, *])
      · repeat' (first | refine boolP_dec (fun _ => ?_) (fun _ => ?_) | apply boolP_not | refine boolP_b (fun _ => ?_) (fun _ => ?_) | refine wps_draw (id := 7) [Fx, Fx, Fx, Fx, Fx, Fx, Fx, Tx, Fx, Fx, Fx] (by kernel_rfl) ?_ | refine wps_draw (id := 8) [Fx, Tx, Fx, Tx, Fx, Fx, Fx, Fx, Fx, Fx] (by kernel_rfl) ?_ | ((with_reducible show CallA _ _ _ _ _); (first | refine call_ko (H0 := X) koW (smay_ok _ loW l[i]) ?_ | refine call_ko (H0 := X) koW (send_ok _ loW op (by assumption)) ?_); intro H2 k2 l2 n2 g2 q2; try simp (disch := omega) only [sm, sl] at l2 n2 g2 q2) | ((with_reducible show Qs _ _ _ _ _); first | refine hQe _ _ _ _ ?_ | refine hQr _ _ _ ?_) | simp (config := { maxSteps := 1000000 }) (disch := omega) only [↓sh, ↓sh2, ↓reduceIte, sx, sl, sb, st, nbeq_ne, dle, relo_eq, wrap_i64, Nat.reduceBEq, Nat.reduceLT, Nat.reduceLeDiff, Nat.reduceAdd, Nat.reduceMul, Nat.reduceEqDiff, Int.reduceEq, Int.reduceLT, Int.reduceLE, Int.reduceNeg, Int.reduceToNat, Bool.false_eq_true, eq_self, sa, *])
        all_goals try omega
        rw [mergeL, if_neg (by omega), if_pos hos] at ii
        refine meet_yield hI hy ii sameW nX ?_ ?_
        · intro X' h1 h2
          have f1 := h2.alone (H.next + 2) [.int .i64 op.at', .int .i64 op.size] true (by simp (disch := omega) only [setRow_get, newRow_get, newRow_next, setRow_next, newRow_lo, setRow_lo, newRow_grps, setRow_grps, newRow_relo, setRow_relo, relo_objs, relo_next, relo_lo, nbeq_ne, sl]; omega) no (by simp (disch := omega) only [setRow_get, newRow_get, newRow_next, setRow_next, newRow_lo, setRow_lo, newRow_grps, setRow_grps, newRow_relo, setRow_relo, relo_objs, relo_next, relo_lo, nbeq_ne, sl, *])
          have f2 := h2.alone X.next [.int .i64 l[i].at', .int .i64 l[i].size] true (by simp (disch := omega) only [setRow_get, newRow_get, newRow_next, setRow_next, newRow_lo, setRow_lo, newRow_grps, setRow_grps, newRow_relo, setRow_relo, relo_objs, relo_next, relo_lo, nbeq_ne, sl]; omega) (fun hh => by have := hexl _ hh; omega) (by simp (disch := omega) only [setRow_get, newRow_get, newRow_next, setRow_next, newRow_lo, setRow_lo, newRow_grps, setRow_grps, newRow_relo, setRow_relo, relo_objs, relo_next, relo_lo, nbeq_ne, sl, *])
          have hsl2 := (hsl.mono RSpan.mono (sameW : Same X (H2.relo H.lo))).yd (fun _ _ _ _ h => h) (hf.le (by omega)) hexl h2
          have lY := h2.lo; have nY := h2.nxt
          simp (disch := omega) only [sm, sl] at lY nY
          clear h2
          repeat' (first | refine boolP_dec (fun _ => ?_) (fun _ => ?_) | apply boolP_not | refine boolP_b (fun _ => ?_) (fun _ => ?_) | refine wps_draw (id := 7) [Fx, Fx, Fx, Fx, Fx, Fx, Fx, Tx, Fx, Fx, Fx] (by kernel_rfl) ?_ | refine wps_draw (id := 8) [Fx, Tx, Fx, Tx, Fx, Fx, Fx, Fx, Fx, Fx] (by kernel_rfl) ?_ | ((with_reducible show Qs _ _ _ _ _); first | refine hQe _ _ _ _ ?_ | refine hQr _ _ _ ?_) | simp (config := { maxSteps := 1000000 }) (disch := omega) only [↓sh, ↓sh2, ↓reduceIte, sx, sl, sb, st, nbeq_ne, dle, relo_eq, wrap_i64, Nat.reduceBEq, Nat.reduceLT, Nat.reduceLeDiff, Nat.reduceAdd, Nat.reduceMul, Nat.reduceEqDiff, Int.reduceEq, Int.reduceLT, Int.reduceLE, Int.reduceNeg, Int.reduceToNat, Bool.false_eq_true, eq_self, sa, *])
          refine hQ _ _ _ ?_ ⟨i + 1, l[i], rfl, by omega, ?_, ?_, ?_, ?_, ?_, ?_, .inr hmx, ?_, ?_, ?_⟩
          · omega
          iterate 5 exact nextW
          · simp (disch := omega) only [setRow_get, newRow_get, newRow_next, setRow_next, newRow_lo, setRow_lo, newRow_grps, setRow_grps, newRow_relo, setRow_relo, relo_objs, relo_next, relo_lo, nbeq_ne, sl]
          · refine hsl2.yd (fun _ _ _ _ h => h) (hf.le (by omega)) hxx (Yd.setRow (Same.yd ?_ (by omega)) (List.mem_singleton.2 rfl) _); exact sameW
          · simp (disch := omega) only [setRow_get, newRow_get, newRow_next, setRow_next, newRow_lo, setRow_lo, newRow_grps, setRow_grps, newRow_relo, setRow_relo, relo_objs, relo_next, relo_lo, nbeq_ne, sl]; omega
          · refine hI _ _ _ h1 (Pd.setRow (Same.pd ?_ (by omega)) (by omega) ⟨[.int .i64 op.at', .int .i64 op.size], true, ?_⟩ _); exact sameW; (simp (disch := omega) only [setRow_get, newRow_get, newRow_next, setRow_next, newRow_lo, setRow_lo, newRow_grps, setRow_grps, newRow_relo, setRow_relo, relo_objs, relo_next, relo_lo, nbeq_ne, sl, *])
        · intro X' h1
          repeat' (first | refine boolP_dec (fun _ => ?_) (fun _ => ?_) | apply boolP_not | refine boolP_b (fun _ => ?_) (fun _ => ?_) | refine wps_draw (id := 7) [Fx, Fx, Fx, Fx, Fx, Fx, Fx, Tx, Fx, Fx, Fx] (by kernel_rfl) ?_ | refine wps_draw (id := 8) [Fx, Tx, Fx, Tx, Fx, Fx, Fx, Fx, Fx, Fx] (by kernel_rfl) ?_ | ((with_reducible show Qs _ _ _ _ _); first | refine hQe _ _ _ _ ?_ | refine hQr _ _ _ ?_) | simp (config := { maxSteps := 1000000 }) (disch := omega) only [↓sh, ↓sh2, ↓reduceIte, sx, sl, sb, st, nbeq_ne, dle, relo_eq, wrap_i64, Nat.reduceBEq, Nat.reduceLT, Nat.reduceLeDiff, Nat.reduceAdd, Nat.reduceMul, Nat.reduceEqDiff, Int.reduceEq, Int.reduceLT, Int.reduceLE, Int.reduceNeg, Int.reduceToNat, Bool.false_eq_true, eq_self, sa, *])
          exact .inr trivial
    · repeat' (first | refine boolP_dec (fun _ => ?_) (fun _ => ?_) | apply boolP_not | refine boolP_b (fun _ => ?_) (fun _ => ?_) | refine wps_draw (id := 7) [Fx, Fx, Fx, Fx, Fx, Fx, Fx, Tx, Fx, Fx, Fx] (by kernel_rfl) ?_ | refine wps_draw (id := 8) [Fx, Tx, Fx, Tx, Fx, Fx, Fx, Fx, Fx, Fx] (by kernel_rfl) ?_ | ((with_reducible show CallA _ _ _ _ _); refine call_ko (H0 := X) koW (smay_ok _ loW l[i]) ?_; intro H2 k2 l2 n2 g2 q2; try simp (disch := omega) only [sm, sl] at l2 n2 g2 q2) | ((with_reducible show Qs _ _ _ _ _); first | refine hQe _ _ _ _ ?_ | refine hQr _ _ _ ?_) | simp (config := { maxSteps := 1000000 }) (disch := omega) only [↓sh, ↓sh2, ↓reduceIte, sx, sl, sb, st, nbeq_ne, dle, relo_eq, wrap_i64, Nat.reduceBEq, Nat.reduceLT, Nat.reduceLeDiff, Nat.reduceAdd, Nat.reduceMul, Nat.reduceEqDiff, Int.reduceEq, Int.reduceLT, Int.reduceLE, Int.reduceNeg, Int.reduceToNat, Bool.false_eq_true, eq_self, sa, *])
      all_goals try omega
      rw [mergeL, if_neg (by omega), if_neg hos] at ii
      refine hQ _ _ _ ?_ ⟨i + 1, l[i], rfl, by omega, ?_, ?_, ?_, ?_, ?_, ?_, .inr hmx, ?_, ?_, ?_⟩
      · omega
      iterate 5 exact nextW
      · simp (disch := omega) only [setRow_get, newRow_get, newRow_next, setRow_next, newRow_lo, setRow_lo, newRow_grps, setRow_grps, newRow_relo, setRow_relo, relo_objs, relo_next, relo_lo, nbeq_ne, sl]
      · refine hsl.yd (fun _ _ _ _ h => h) (hf.le (by omega)) hxx (Yd.setRow (Same.yd ?_ (by omega)) (List.mem_singleton.2 rfl) _); exact sameW
      · simp (disch := omega) only [setRow_get, newRow_get, newRow_next, setRow_next, newRow_lo, setRow_lo, newRow_grps, setRow_grps, newRow_relo, setRow_relo, relo_objs, relo_next, relo_lo, nbeq_ne, sl]; omega
      · refine hI _ _ _ ii (Pd.setRow (Same.pd ?_ (by omega)) (by omega) ⟨[.int .i64 op.at', .int .i64 op.size], true, ?_⟩ _); exact sameW; (simp (disch := omega) only [setRow_get, newRow_get, newRow_next, setRow_next, newRow_lo, setRow_lo, newRow_grps, setRow_grps, newRow_relo, setRow_relo, relo_objs, relo_next, relo_lo, nbeq_ne, sl, *])
  · repeat' (first | refine boolP_dec (fun _ => ?_) (fun _ => ?_) | apply boolP_not | refine boolP_b (fun _ => ?_) (fun _ => ?_) | refine wps_draw (id := 7) [Fx, Fx, Fx, Fx, Fx, Fx, Fx, Tx, Fx, Fx, Fx] (by kernel_rfl) ?_ | refine wps_draw (id := 8) [Fx, Tx, Fx, Tx, Fx, Fx, Fx, Fx, Fx, Fx] (by kernel_rfl) ?_ | ((with_reducible show Qs _ _ _ _ _); first | refine hQe _ _ _ _ ?_ | refine hQr _ _ _ ?_) | simp (config := { maxSteps := 1000000 }) (disch := omega) only [↓sh, ↓sh2, ↓reduceIte, sx, sl, sb, st, nbeq_ne, dle, relo_eq, wrap_i64, Nat.reduceBEq, Nat.reduceLT, Nat.reduceLeDiff, Nat.reduceAdd, Nat.reduceMul, Nat.reduceEqDiff, Int.reduceEq, Int.reduceLT, Int.reduceLE, Int.reduceNeg, Int.reduceToNat, Bool.false_eq_true, eq_self, sa, *])
    all_goals try omega
    · have e0 : i = l.length := by omega
      rw [e0, List.drop_length, mergeL, if_pos (by omega)] at ii
      refine meet_yield hI hy ii (Same.refl _) nX ?_ ?_
      · intro X' h1 h2
        repeat' (first | refine boolP_dec (fun _ => ?_) (fun _ => ?_) | apply boolP_not | refine boolP_b (fun _ => ?_) (fun _ => ?_) | refine wps_draw (id := 7) [Fx, Fx, Fx, Fx, Fx, Fx, Fx, Tx, Fx, Fx, Fx] (by kernel_rfl) ?_ | refine wps_draw (id := 8) [Fx, Tx, Fx, Tx, Fx, Fx, Fx, Fx, Fx, Fx] (by kernel_rfl) ?_ | ((with_reducible show Qs _ _ _ _ _); first | refine hQe _ _ _ _ ?_ | refine hQr _ _ _ ?_) | simp (config := { maxSteps := 1000000 }) (disch := omega) only [↓sh, ↓sh2, ↓reduceIte, sx, sl, sb, st, nbeq_ne, dle, relo_eq, wrap_i64, Nat.reduceBEq, Nat.reduceLT, Nat.reduceLeDiff, Nat.reduceAdd, Nat.reduceMul, Nat.reduceEqDiff, Int.reduceEq, Int.reduceLT, Int.reduceLE, Int.reduceNeg, Int.reduceToNat, Bool.false_eq_true, eq_self, sa, *])
        exact .inl trivial
      · intro X' h1
        repeat' (first | refine boolP_dec (fun _ => ?_) (fun _ => ?_) | apply boolP_not | refine boolP_b (fun _ => ?_) (fun _ => ?_) | refine wps_draw (id := 7) [Fx, Fx, Fx, Fx, Fx, Fx, Fx, Tx, Fx, Fx, Fx] (by kernel_rfl) ?_ | refine wps_draw (id := 8) [Fx, Tx, Fx, Tx, Fx, Fx, Fx, Fx, Fx, Fx] (by kernel_rfl) ?_ | ((with_reducible show Qs _ _ _ _ _); first | refine hQe _ _ _ _ ?_ | refine hQr _ _ _ ?_) | simp (config := { maxSteps := 1000000 }) (disch := omega) only [↓sh, ↓sh2, ↓reduceIte, sx, sl, sb, st, nbeq_ne, dle, relo_eq, wrap_i64, Nat.reduceBEq, Nat.reduceLT, Nat.reduceLeDiff, Nat.reduceAdd, Nat.reduceMul, Nat.reduceEqDiff, Int.reduceEq, Int.reduceLT, Int.reduceLE, Int.reduceNeg, Int.reduceToNat, Bool.false_eq_true, eq_self, sa, *])
        exact .inr trivial
    · have e0 : i = l.length := by omega
      rw [e0, List.drop_length, mergeL, if_neg (by omega)] at ii
      exact .inl ii
end Go.AM
