/-
  Walks over letters of the functions that the law reaches.
-/
import Derived.Test.YtbkhcbddbefepaaGreatC10
namespace Go.AM
attribute [local instance] fnMaps
open Go Go.Proofs
set_option maxRecDepth 100000
set_option maxHeartbeats 1000000
set_option linter.unusedSimpArgs false
theorem span_ext_iff {a b : Span} : a = b ↔ a.at' = b.at' ∧ a.size = b.size := by cases a; cases b; simp
theorem take_next {α : Type} {a b : List α} {i : Nat} (h : a.take i = b.take i) (h1 : i < a.length) (h2 : i < b.length) (e : a[i] = b[i]) : a.take (i + 1) = b.take (i + 1) := by
  rw [List.take_add_one, List.take_add_one, h, List.getElem?_eq_getElem h1, List.getElem?_eq_getElem h2, e]
theorem fn137 : E.fn.get 137 = some Tryz.f137 := by kernel_rfl
theorem spans_eq (H : Heap) (hlo : H.lo ≤ H.next) (va vb : Value) (la lb : List Span) (ha : SL RSpan 2 H va la) (hb : SL RSpan 2 H vb lb) : CallA E (fnv 137) [va, vb] H fun r H' => r = .bool (decide (la = lb)) ∧ Same H H' := by
  obtain ⟨a, ca, rfl, ⟨_, hma⟩, hla⟩ := ha
  obtain ⟨b, cb, rfl, ⟨_, hmb⟩, hlb⟩ := hb
  refine callA_fn (by kernel_rfl) fn137 rfl rfl ?_
  simp only [Tryz.f137]
  repeat' (first | refine boolP_dec (fun _ => ?_) (fun _ => ?_) | apply boolP_not | refine boolP_b (fun _ => ?_) (fun _ => ?_) | refine wps_draw (id := 6) [Fx, Fx, Fx, Fx, Fx, Fx, Fx, Fx, Fx] (by kernel_rfl) ?_ | ((with_reducible show Qs _ _ _ _ _); first | refine hQe _ _ _ _ ?_ | refine hQr _ _ _ ?_) | simp (config := { maxSteps := 1000000 }) (disch := omega) only [↓sh, ↓sh2, ↓reduceIte, sx, sl, sb, st, nbeq_ne, dle, relo_eq, wrap_i64, Nat.reduceBEq, Nat.reduceLT, Nat.reduceLeDiff, Nat.reduceAdd, Nat.reduceMul, Nat.reduceEqDiff, Int.reduceEq, Int.reduceLT, Int.reduceLE, Int.reduceNeg, Int.reduceToNat, Bool.false_eq_true, eq_self, sa, *])
  case refine_2 => exact ⟨bool_of (by simp only [Bool.false_eq_true, false_iff]; rintro rfl; omega), sameW⟩
  refine wps_named2 (fun T1 H1 eT eH => ?_)
  have k1 : Ko H H1 := by rw [eH]; exact koW
  have n1 := congrArg Heap.next eH; have l1 := congrArg Heap.lo eH; have g1 := fun r => congrArg (fun h : Heap => h.objs.get r) eH
  try simp (disch := omega) only [sm, sl] at n1 l1 g1
  clear eH
  have u1_0 := congrArg (fun T : Tr Value => T.get 0) eT
  have u1_1 := congrArg (fun T : Tr Value => T.get 1) eT
  have u1_12 := congrArg (fun T : Tr Value => T.get 12) eT
  have u1_13 := congrArg (fun T : Tr Value => T.get 13) eT
  simp only [get_set, of_nil, of_1, of_2, of_3, of_4, of_5, Nat.reduceEqDiff, if_true, if_false, reduceIte] at u1_0 u1_1 u1_12 u1_13
  clear eT
  refine wp_loopN (by kernel_rfl) (fun nn T X => ∃ i : Nat, nn = la.length - i ∧ (T.get 13 = some (.int .i64 i)) ∧ (T.get 0 = T1.get 0 ∧ T.get 1 = T1.get 1 ∧ T.get 12 = T1.get 12) ∧ Ko H1 X ∧ X.lo = H1.lo ∧ (i ≤ la.length ∧ la.take i = lb.take i)) ?_ ?_
  · refine ⟨_, 0, rfl, ?_, ?_, Ko.refl _, rfl, ⟨Nat.zero_le _, rfl⟩⟩ <;> exact nextW
  rintro nn T1' X1 ⟨i, rfl, m1, w1, kx1, lx1, ⟨hi, he⟩⟩ Qs hQ hQr hQe
  have kX1 := k1.trans kx1; have nx1 := kx1.nxt; have gx1 := kx1.objs
  by_cases hlt : i < la.length
  · obtain ⟨r, o, cells, gg, tt, part, rfl, hr, hrow, hcut, rfl⟩ := hla i la[i] (by simp)
    obtain ⟨r', o', cells', gg', tt', part', rfl, hr', hrow', hcut', rfl⟩ := hlb i lb[i] (by simp)
    have a1 := at_nat hlt
    have a2 : at? (i : Int) lb.length = some i := at_nat (by omega)
    have e1 := kX1.objs r hr
    have e2 := kX1.objs r' hr'
    repeat' (first | refine boolP_dec (fun _ => ?_) (fun _ => ?_) | apply boolP_not | refine boolP_b (fun _ => ?_) (fun _ => ?_) | refine wps_draw (id := 6) [Fx, Fx, Fx, Fx, Fx, Fx, Fx, Fx, Fx] (by kernel_rfl) ?_ | ((with_reducible show Qs _ _ _ _ _); first | refine hQe _ _ _ _ ?_ | refine hQr _ _ _ ?_) | simp (config := { maxSteps := 1000000 }) (disch := omega) only [↓sh, ↓sh2, ↓reduceIte, sx, sl, sb, st, nbeq_ne, dle, relo_eq, wrap_i64, Nat.reduceBEq, Nat.reduceLT, Nat.reduceLeDiff, Nat.reduceAdd, Nat.reduceMul, Nat.reduceEqDiff, Int.reduceEq, Int.reduceLT, Int.reduceLE, Int.reduceNeg, Int.reduceToNat, Bool.false_eq_true, eq_self, sa, *])
    case refine_1 =>
      rename_i hx
      simp only [Bool.and_eq_true, beq_iff_eq] at hx
      have he' : la[i] = lb[i] := by rw [span_ext_iff]; exact hx
      refine hQ _ _ _ ?_ ⟨i + 1, rfl, ?_, ?_, ?_, ?_, ⟨by omega, take_next he hlt (by omega) he'⟩⟩ <;> exact nextW
    case refine_2 =>
      rename_i hx
      refine ⟨bool_of ?_, sameW⟩
      simp only [Bool.false_eq_true, false_iff]
      rintro rfl
      simp at hx
    omega
  have hi' : i = la.length := by omega
  repeat' (first | refine boolP_dec (fun _ => ?_) (fun _ => ?_) | apply boolP_not | refine boolP_b (fun _ => ?_) (fun _ => ?_) | refine wps_draw (id := 6) [Fx, Fx, Fx, Fx, Fx, Fx, Fx, Fx, Fx] (by kernel_rfl) ?_ | ((with_reducible show Qs _ _ _ _ _); first | refine hQe _ _ _ _ ?_ | refine hQr _ _ _ ?_) | simp (config := { maxSteps := 1000000 }) (disch := omega) only [↓sh, ↓sh2, ↓reduceIte, sx, sl, sb, st, nbeq_ne, dle, relo_eq, wrap_i64, Nat.reduceBEq, Nat.reduceLT, Nat.reduceLeDiff, Nat.reduceAdd, Nat.reduceMul, Nat.reduceEqDiff, Int.reduceEq, Int.reduceLT, Int.reduceLE, Int.reduceNeg, Int.reduceToNat, Bool.false_eq_true, eq_self, sa, *])
  · omega
  · refine ⟨bool_of ?_, sameW⟩
    simp only [true_iff]
    rw [hi', List.take_length, List.take_of_length_le (by omega)] at he
    exact he
theorem cut2_get {cells : List Value} {k : Nat} {a b : Value} (h : cut cells k 2 = some [a, b]) : cells[k]? = some a ∧ cells[k + 1]? = some b := by
  rw [cut_eq] at h
  split at h
  · simp only [Option.some.injEq] at h
    have h0 := congrArg (fun l : List Value => l[0]?) h
    have h1 := congrArg (fun l : List Value => l[1]?) h
    simp only [List.getElem?_take, List.getElem?_drop] at h0 h1
    exact ⟨by simpa using h0, by simpa using h1⟩
  · cases h
def ledB (all : Span) : Option Span → List Span → Bool
  | _, [] => true
  | p, x :: l => decide (Within x all) && (match p with | none => true | some y => decide (y.at' + y.size ≤ x.at')) && ledB all (some x) l
def preB (p : Option Span) (x : Span) : Bool := match p with
  | none => true
  | some y => decide (y.at' + y.size ≤ x.at')
theorem ledB_cons (all : Span) (p : Option Span) (x : Span) (l : List Span) : ledB all p (x :: l) = (decide (Within x all) && preB p x && ledB all (some x) l) := by cases p <;> rfl
theorem ledB_all {all : Span} : ∀ {l : List Span} {p : Option Span}, ledB all p l = true → (∀ x ∈ l, InAll all x) ∧ Rising l ∧ ∀ y, p = some y → ∀ x ∈ l, y.at' + y.size ≤ x.at'
  | [], p, _ => ⟨fun x h => (by cases h), fun i j x y _ h => (by simp at h), fun y _ x h => (by cases h)⟩
  | x :: l, p, h => by
    simp only [ledB, Bool.and_eq_true, decide_eq_true_eq] at h
    obtain ⟨⟨h1, h2⟩, h3⟩ := h
    obtain ⟨q1, q2, q3⟩ := ledB_all h3
    have hx : InAll all x := ⟨h1.1, h1.2.2.1, h1.2.2.2⟩
    have hm := h1.1
    unfold May at hm
    refine ⟨fun z hz => ?_, ?_, fun y hy z hz => ?_⟩
    · rcases List.mem_cons.1 hz with rfl | hz
      · exact hx
      · exact q1 z hz
    · intro i j a b hij ha hb
      cases j with
      | zero => omega
      | succ j =>
        have hb' : l[j]? = some b := by simpa using hb
        cases i with
        | zero =>
          simp only [List.getElem?_cons_zero, Option.some.injEq] at ha
          subst ha
          have := q3 x rfl b (List.mem_of_getElem? hb')
          omega
        | succ i => exact q2 i j a b (by omega) (by simpa using ha) hb'
    · subst hy
      simp only [decide_eq_true_eq] at h2
      rcases List.mem_cons.1 hz with rfl | hz
      · exact h2
      · have := q3 x rfl z hz
        omega
def rightB (all : Span) (l free : List Span) : Bool := ledB all none l && decide (gapsR all l = free)
theorem fn110 : E.fn.get 110 = some Tryz.f110 := by kernel_rfl
theorem lright_ok (H : Heap) (hlo : H.lo ≤ H.next) (all : Span) (v w : Value) (l free : List Span) (hv : SLr RSpan 2 H v l) (hw : SLr RSpan 2 H w free) (hl : l.length ≤ 100000) : CallA E (fnv 110) [spanV all, v, w] H fun r H' => r = .bool (rightB all l free) ∧ Same H H' := by
  have hv0 := hv
  obtain ⟨⟨a, ca, rfl, ⟨_, hma⟩, hla⟩, _⟩ := hv
  refine callA_fn (by kernel_rfl) fn110 rfl rfl ?_
  simp only [Tryz.f110]
  simp only [spanV]
  repeat' (first | refine boolP_dec (fun _ => ?_) (fun _ => ?_) | apply boolP_not | refine boolP_b (fun _ => ?_) (fun _ => ?_) | refine wps_draw (id := 4) [Fx, Fx, Fx, Fx, Fx, Fx, Fx, Fx, Fx, Fx, Fx, Fx, Fx, Fx, Fx, Fx, Fx, Fx, Fx, Fx, Fx, Fx, Fx, Fx, Fx, Fx] (by kernel_rfl) ?_ | ((with_reducible show Qs _ _ _ _ _); first | refine hQe _ _ _ _ ?_ | refine hQr _ _ _ ?_) | simp (config := { maxSteps := 1000000 }) (disch := omega) only [↓sh, ↓sh2, ↓reduceIte, sx, sl, sb, st, nbeq_ne, dle, relo_eq, wrap_i64, Nat.reduceBEq, Nat.reduceLT, Nat.reduceLeDiff, Nat.reduceAdd, Nat.reduceMul, Nat.reduceEqDiff, Int.reduceEq, Int.reduceLT, Int.reduceLE, Int.reduceNeg, Int.reduceToNat, Bool.false_eq_true, eq_self, sa, *])
  refine wps_named2 (fun T1 H1 eT eH => ?_)
  have k1 : Ko H H1 := by rw [eH]; exact koW
  have n1 := congrArg Heap.next eH; have l1 := congrArg Heap.lo eH; have g1 := fun r => congrArg (fun h : Heap => h.objs.get r) eH
  try simp (disch := omega) only [sm, sl] at n1 l1 g1
  clear eH
  have u1_1 := congrArg (fun T : Tr Value => T.get 1) eT
  have u1_2 := congrArg (fun T : Tr Value => T.get 2) eT
  have u1_3 := congrArg (fun T : Tr Value => T.get 3) eT
  have u1_9 := congrArg (fun T : Tr Value => T.get 9) eT
  have u1_10 := congrArg (fun T : Tr Value => T.get 10) eT
  have u1_11 := congrArg (fun T : Tr Value => T.get 11) eT
  simp only [get_set, of_nil, of_1, of_2, of_3, of_4, of_5, Nat.reduceEqDiff, if_true, if_false, reduceIte] at u1_1 u1_2 u1_3 u1_9 u1_10 u1_11
  clear eT
  refine wp_loopN (by kernel_rfl) (fun nn T X => ∃ i : Nat, nn = l.length - i ∧ (T.get 11 = some (.int .i64 i)) ∧ (T.get 1 = T1.get 1 ∧ T.get 2 = T1.get 2 ∧ T.get 3 = T1.get 3 ∧ T.get 9 = T1.get 9 ∧ T.get 10 = T1.get 10) ∧ Ko H1 X ∧ X.lo = H1.lo ∧ (i ≤ l.length ∧ ledB all none l = ledB all (if i = 0 then none else l[i - 1]?) (l.drop i) ∧ (∀ x, 0 < i → l[i - 1]? = some x → May x))) ?_ ?_
  · refine ⟨_, 0, rfl, ?_, ?_, Ko.refl _, rfl, ⟨Nat.zero_le _, rfl, fun x h => absurd h (by omega)⟩⟩ <;> exact nextW
  rintro nn T1' X1 ⟨i, rfl, m1, w1, kx1, lx1, ⟨hi, hE, hP⟩⟩ Qs hQ hQr hQe
  have kX1 := k1.trans kx1; have nx1 := kx1.nxt; have gx1 := kx1.objs
  by_cases hlt : i < l.length
  · obtain ⟨r, o, cells, gg, tt, part, rfl, hr, hrow, hcut, rfl⟩ := hla i l[i] (by simp)
    have a1 := at_nat hlt
    have e1 := kX1.objs r hr
    rw [List.drop_eq_getElem_cons hlt, ledB_cons] at hE
    by_cases hwn : Within l[i] all
    · have hmi := hwn.1
      unfold May at hmi
      by_cases h0 : i = 0
      · subst h0
        have hcut0 : cut cells o 2 = some [.int .i64 l[0].at', .int .i64 l[0].size] := by rw [Nat.zero_mul, Nat.add_zero] at hcut; exact hcut
        repeat' (first | refine boolP_dec (fun _ => ?_) (fun _ => ?_) | apply boolP_not | refine boolP_b (fun _ => ?_) (fun _ => ?_) | refine wps_draw (id := 4) [Fx, Fx, Fx, Fx, Fx, Fx, Fx, Fx, Fx, Fx, Fx, Fx, Fx, Fx, Fx, Fx, Fx, Fx, Fx, Fx, Fx, Fx, Fx, Fx, Fx, Fx] (by kernel_rfl) ?_ | ((with_reducible show CallA _ _ _ _ _); refine call_ko (H0 := H1) koW (swithin_ok _ loW l[0] all) ?_; intro H2 k2 l2 n2 g2 q2; try simp (disch := omega) only [sm, sl] at l2 n2 g2 q2) | ((with_reducible show Qs _ _ _ _ _); first | refine hQe _ _ _ _ ?_ | refine hQr _ _ _ ?_) | simp (config := { maxSteps := 1000000 }) (disch := omega) only [↓sh, ↓sh2, ↓reduceIte, sx, sl, sb, st, nbeq_ne, dle, relo_eq, wrap_i64, Nat.reduceBEq, Nat.reduceLT, Nat.reduceLeDiff, Nat.reduceAdd, Nat.reduceMul, Nat.reduceEqDiff, Int.reduceEq, Int.reduceLT, Int.reduceLE, Int.reduceNeg, Int.reduceToNat, Bool.false_eq_true, eq_self, sa, Int.natCast_zero, *])
        all_goals try omega
        have hn : ledB all none l = ledB all (some l[0]) (l.drop 1) := by rw [hE]; simp [hwn, preB]
        refine hQ _ _ _ ?_ ⟨1, rfl, ?_, ?_, ?_, ?_, ⟨by omega, by rw [hn, if_neg (by omega), List.getElem?_eq_getElem (show 1 - 1 < l.length from hlt)], fun x _ hx => by rw [List.getElem?_eq_getElem (show 1 - 1 < l.length from hlt)] at hx; cases hx; exact hwn.1⟩⟩ <;> exact nextW
      · obtain ⟨r', o', cells', gg', tt', part', e, hr', hrow', hcut', rfl⟩ := hla (i - 1) l[i - 1] (by simp)
        cases e
        rw [hrow] at hrow'
        cases hrow'
        have a2 : at? ((i : Int) - 1) l.length = some (i - 1) := by rw [show (i : Int) - 1 = ((i - 1 : Nat) : Int) by omega]; exact at_nat (by omega)
        have a3 : ((i : Int) - 1).toNat = i - 1 := by omega
        obtain ⟨f1, f2⟩ := cut2_get hcut'
        have hmp := hP l[i - 1] (by omega) (by simp)
        unfold May at hmp
        by_cases hov : l[i - 1].at' + l[i - 1].size ≤ l[i].at'
        · repeat' (first | refine boolP_dec (fun _ => ?_) (fun _ => ?_) | apply boolP_not | refine boolP_b (fun _ => ?_) (fun _ => ?_) | refine wps_draw (id := 4) [Fx, Fx, Fx, Fx, Fx, Fx, Fx, Fx, Fx, Fx, Fx, Fx, Fx, Fx, Fx, Fx, Fx, Fx, Fx, Fx, Fx, Fx, Fx, Fx, Fx, Fx] (by kernel_rfl) ?_ | ((with_reducible show CallA _ _ _ _ _); refine call_ko (H0 := H1) koW (swithin_ok _ loW l[i] all) ?_; intro H2 k2 l2 n2 g2 q2; try simp (disch := omega) only [sm, sl] at l2 n2 g2 q2) | ((with_reducible show Qs _ _ _ _ _); first | refine hQe _ _ _ _ ?_ | refine hQr _ _ _ ?_) | simp (config := { maxSteps := 1000000 }) (disch := omega) only [↓sh, ↓sh2, ↓reduceIte, sx, sl, sb, st, nbeq_ne, dle, relo_eq, wrap_i64, Nat.reduceBEq, Nat.reduceLT, Nat.reduceLeDiff, Nat.reduceAdd, Nat.reduceMul, Nat.reduceEqDiff, Int.reduceEq, Int.reduceLT, Int.reduceLE, Int.reduceNeg, Int.reduceToNat, Bool.false_eq_true, eq_self, sa, *])
          all_goals try omega
          have hn : ledB all none l = ledB all (some l[i]) (l.drop (i + 1)) := by
            rw [hE, if_neg h0, List.getElem?_eq_getElem (by omega)]
            simp [hwn, preB, hov]
          refine hQ _ _ _ ?_ ⟨i + 1, rfl, ?_, ?_, ?_, ?_, ⟨by omega, by rw [hn, if_neg (by omega), List.getElem?_eq_getElem (show i + 1 - 1 < l.length from hlt)]; rfl, fun x _ hx => by rw [List.getElem?_eq_getElem (show i + 1 - 1 < l.length from hlt)] at hx; cases hx; exact hwn.1⟩⟩ <;> exact nextW
        · repeat' (first | refine boolP_dec (fun _ => ?_) (fun _ => ?_) | apply boolP_not | refine boolP_b (fun _ => ?_) (fun _ => ?_) | refine wps_draw (id := 4) [Fx, Fx, Fx, Fx, Fx, Fx, Fx, Fx, Fx, Fx, Fx, Fx, Fx, Fx, Fx, Fx, Fx, Fx, Fx, Fx, Fx, Fx, Fx, Fx, Fx, Fx] (by kernel_rfl) ?_ | ((with_reducible show CallA _ _ _ _ _); refine call_ko (H0 := H1) koW (swithin_ok _ loW l[i] all) ?_; intro H2 k2 l2 n2 g2 q2; try simp (disch := omega) only [sm, sl] at l2 n2 g2 q2) | ((with_reducible show Qs _ _ _ _ _); first | refine hQe _ _ _ _ ?_ | refine hQr _ _ _ ?_) | simp (config := { maxSteps := 1000000 }) (disch := omega) only [↓sh, ↓sh2, ↓reduceIte, sx, sl, sb, st, nbeq_ne, dle, relo_eq, wrap_i64, Nat.reduceBEq, Nat.reduceLT, Nat.reduceLeDiff, Nat.reduceAdd, Nat.reduceMul, Nat.reduceEqDiff, Int.reduceEq, Int.reduceLT, Int.reduceLE, Int.reduceNeg, Int.reduceToNat, Bool.false_eq_true, eq_self, sa, *])
          all_goals try omega
          have hn : ledB all none l = false := by
            rw [hE, if_neg h0, List.getElem?_eq_getElem (by omega)]
            simp [preB, hov]
          have hz : rightB all l free = false := by simp [rightB, hn]
          rw [hz]
          exact ⟨rfl, sameW⟩
    · repeat' (first | refine boolP_dec (fun _ => ?_) (fun _ => ?_) | apply boolP_not | refine boolP_b (fun _ => ?_) (fun _ => ?_) | refine wps_draw (id := 4) [Fx, Fx, Fx, Fx, Fx, Fx, Fx, Fx, Fx, Fx, Fx, Fx, Fx, Fx, Fx, Fx, Fx, Fx, Fx, Fx, Fx, Fx, Fx, Fx, Fx, Fx] (by kernel_rfl) ?_ | ((with_reducible show CallA _ _ _ _ _); refine call_ko (H0 := H1) koW (swithin_ok _ loW l[i] all) ?_; intro H2 k2 l2 n2 g2 q2; try simp (disch := omega) only [sm, sl] at l2 n2 g2 q2) | ((with_reducible show Qs _ _ _ _ _); first | refine hQe _ _ _ _ ?_ | refine hQr _ _ _ ?_) | simp (config := { maxSteps := 1000000 }) (disch := omega) only [↓sh, ↓sh2, ↓reduceIte, sx, sl, sb, st, nbeq_ne, dle, relo_eq, wrap_i64, Nat.reduceBEq, Nat.reduceLT, Nat.reduceLeDiff, Nat.reduceAdd, Nat.reduceMul, Nat.reduceEqDiff, Int.reduceEq, Int.reduceLT, Int.reduceLE, Int.reduceNeg, Int.reduceToNat, Bool.false_eq_true, eq_self, sa, *])
      all_goals try omega
      have hn : ledB all none l = false := by rw [hE]; simp [hwn]
      have hz : rightB all l free = false := by simp [rightB, hn]
      rw [hz]
      exact ⟨rfl, sameW⟩
  · repeat' (first | refine boolP_dec (fun _ => ?_) (fun _ => ?_) | apply boolP_not | refine boolP_b (fun _ => ?_) (fun _ => ?_) | refine wps_draw (id := 4) [Fx, Fx, Fx, Fx, Fx, Fx, Fx, Fx, Fx, Fx, Fx, Fx, Fx, Fx, Fx, Fx, Fx, Fx, Fx, Fx, Fx, Fx, Fx, Fx, Fx, Fx] (by kernel_rfl) ?_ | ((with_reducible show Qs _ _ _ _ _); first | refine hQe _ _ _ _ ?_ | refine hQr _ _ _ ?_) | simp (config := { maxSteps := 1000000 }) (disch := omega) only [↓sh, ↓sh2, ↓reduceIte, sx, sl, sb, st, nbeq_ne, dle, relo_eq, wrap_i64, Nat.reduceBEq, Nat.reduceLT, Nat.reduceLeDiff, Nat.reduceAdd, Nat.reduceMul, Nat.reduceEqDiff, Int.reduceEq, Int.reduceLT, Int.reduceLE, Int.reduceNeg, Int.reduceToNat, Bool.false_eq_true, eq_self, sa, *])
    all_goals try omega
    have hn : ledB all none l = true := by rw [hE, List.drop_eq_nil_of_le (by omega)]; cases (if i = 0 then none else l[i - 1]?) <;> rfl
    obtain ⟨q1, q2, _⟩ := ledB_all hn
    have hz : rightB all l free = decide (gapsR all l = free) := by simp [rightB, hn]
    rw [hz]
    refine (gaps_ok X1 (by omega) all _ l (hv0.mono RSpan.mono (Ko.same kX1 (by simp (config := { maxSteps := 1000000 }) (disch := omega) only [↓sh, ↓sh2, ↓reduceIte, sx, sl, sb, st, nbeq_ne, dle, relo_eq, wrap_i64, Nat.reduceBEq, Nat.reduceLT, Nat.reduceLeDiff, Nat.reduceAdd, Nat.reduceMul, Nat.reduceEqDiff, Int.reduceEq, Int.reduceLT, Int.reduceLE, Int.reduceNeg, Int.reduceToNat, Bool.false_eq_true, eq_self, sa, *]))) q2 q1 hl).mono ?_
    rintro r H4 ⟨h4, s4⟩
    refine (spans_eq H4 (by have := s4.lo; have := s4.nxt; omega) r w _ free h4.1 ((hw.mono RSpan.mono (Ko.same kX1 (by simp (config := { maxSteps := 1000000 }) (disch := omega) only [↓sh, ↓sh2, ↓reduceIte, sx, sl, sb, st, nbeq_ne, dle, relo_eq, wrap_i64, Nat.reduceBEq, Nat.reduceLT, Nat.reduceLeDiff, Nat.reduceAdd, Nat.reduceMul, Nat.reduceEqDiff, Int.reduceEq, Int.reduceLT, Int.reduceLE, Int.reduceNeg, Int.reduceToNat, Bool.false_eq_true, eq_self, sa, *]))).mono RSpan.mono s4).1).mono ?_
    rintro r5 H5 ⟨rfl, s5⟩
    exact ⟨rfl, (Ko.same kX1 (by simp (config := { maxSteps := 1000000 }) (disch := omega) only [↓sh, ↓sh2, ↓reduceIte, sx, sl, sb, st, nbeq_ne, dle, relo_eq, wrap_i64, Nat.reduceBEq, Nat.reduceLT, Nat.reduceLeDiff, Nat.reduceAdd, Nat.reduceMul, Nat.reduceEqDiff, Int.reduceEq, Int.reduceLT, Int.reduceLE, Int.reduceNeg, Int.reduceToNat, Bool.false_eq_true, eq_self, sa, *])).trans (s4.trans s5)⟩
end Go.AM
