/-
  Walks over letters of the functions that the law reaches.
-/
import Derived.Test.YtbpneihjlledpaaGreatDoorX9
set_option linter.unusedVariables false
set_option linter.unusedSectionVars false
namespace Go.AM
variable [Orc13]
attribute [local instance] fnMaps
open Go Go.Proofs
set_option maxRecDepth 100000
set_option maxHeartbeats 4000000
set_option linter.unusedSimpArgs false
def cutT (l : List UInt8) : List UInt8 := if l.head? = some 64 then l.drop 1 else l
theorem cutT_len (l : List UInt8) : (cutT l).length ≤ l.length := by unfold cutT; split <;> simp
theorem cut_told (H : Heap) (l : List UInt8) : CallA E (fnv 83) [.string (B l), .string (B [64])] H fun r H' => r = .tuple #[.string (B (cutT l)), .bool (decide (l.head? = some 64))] ∧ Same H H' := by
  refine callA_told (H' := H) (v := .tuple #[.string (B (cutT l)), .bool (decide (l.head? = some 64))]) ?_ ⟨rfl, .refl _⟩
  rw [orc_cut]
  simp only [tCut, B_list]
  have h1 : Lib.hasPrefix l [64] = decide (l.head? = some 64) := by
    cases l with
    | nil => rfl
    | cons c l =>
      show ((64 : UInt8) == c && List.isPrefixOf [] l) = _
      rw [show List.isPrefixOf [] l = true by cases l <;> rfl, Bool.and_true, List.head?_cons, Bool.eq_iff_iff, beq_iff_eq, decide_eq_true_iff, Option.some.injEq]
      exact eq_comm
  have h2 : Lib.trimPrefix l [64] = cutT l := by
    unfold Lib.trimPrefix cutT
    rw [h1]
    by_cases h : l.head? = some 64
    · rw [decide_eq_true h, if_pos rfl, if_pos h]; rfl
    · rw [decide_eq_false h, if_neg (by simp), if_neg h]
  rw [h1, h2]
  rfl
def valK (l : List UInt8) : Int := if l = [110, 105, 108] then 0 else if numP (cutT l) = true then (if l.head? = some 64 then 2 else 1) else -1
def valX (l : List UInt8) : Int := if l = [110, 105, 108] then 0 else atoiN (cutT l)
theorem valX_in (l : List UInt8) : i64 (valX l) := by
  unfold valX
  split
  · exact ⟨by decide, by decide⟩
  · exact atoiN_in _
theorem valK_in (l : List UInt8) : i64 (valK l) := by
  unfold valK
  repeat' split
  all_goals exact ⟨by decide, by decide⟩
theorem fn53 : E.fn.get 53 = some Tryz.f53 := by kernel_rfl
theorem tval_ok (H : Heap) (hlo : H.lo ≤ H.next) (l : List UInt8) (hl : l.length ≤ 1000000000) : CallA E (fnv 53) [.string (B l)] H fun r H' => r = .agg #[.int .i64 (valK l), .int .i64 (valX l)] ∧ Same H H' := by
  refine callA_fn (by kernel_rfl) fn53 rfl rfl ?_
  simp only [Tryz.f53]
  have hcl : (cutT l).length ≤ 1000000000 := Nat.le_trans (cutT_len l) hl
  by_cases hn : l = [110, 105, 108]
  · have e1 : valK l = 0 := if_pos hn
    have e2 : valX l = 0 := if_pos hn
    have hd : decide (l = [110, 105, 108]) = true := decide_eq_true hn
    clear hn
    repeat' (first | refine boolP_dec (fun _ => ?_) (fun _ => ?_) | apply boolP_not | refine boolP_b (fun _ => ?_) (fun _ => ?_) | ((with_reducible show CallA _ _ _ _ _); (first | refine call_ko (H0 := H) koW (cut_told _ l) ?_ | refine call_ko (H0 := H) koW (number_ok _ loW _ hcl) ?_); intro H2 k2 l2 n2 g2 q2; try simp (disch := omega) only [sm, sl] at l2 n2 g2 q2) | simp (maxSteps := 1000000) (disch := first | omega | (simp only [lenS, *]; omega)) only [↓sgg, sww, simprocAttr, sa, sS, *])
    all_goals first | exact sameW | (first | (with_reducible exact sameW) | ((with_reducible show _ ∧ _); exact ⟨by first | rfl | (simp [*] <;> omega), sameW⟩)) | omega
  · have hd : decide (l = [110, 105, 108]) = false := decide_eq_false hn
    have e2 : valX l = atoiN (cutT l) := if_neg hn
    have e1 : valK l = if numP (cutT l) = true then (if l.head? = some 64 then 2 else 1) else -1 := if_neg hn
    cases hp : numP (cutT l) with
    | true =>
      rw [hp, if_pos rfl] at e1
      cases hh : decide (l.head? = some 64) with
      | true =>
        rw [if_pos (of_decide_eq_true hh)] at e1
        repeat' (first | refine boolP_dec (fun _ => ?_) (fun _ => ?_) | apply boolP_not | refine boolP_b (fun _ => ?_) (fun _ => ?_) | ((with_reducible show CallA _ _ _ _ _); (first | refine call_ko (H0 := H) koW (cut_told _ l) ?_ | refine call_ko (H0 := H) koW (number_ok _ loW _ hcl) ?_); intro H2 k2 l2 n2 g2 q2; try simp (disch := omega) only [sm, sl] at l2 n2 g2 q2) | simp (maxSteps := 1000000) (disch := first | omega | (simp only [lenS, *]; omega)) only [↓sgg, sww, simprocAttr, sa, sS, *])
        all_goals first | exact sameW | (first | (with_reducible exact sameW) | ((with_reducible show _ ∧ _); exact ⟨by first | rfl | (simp [*] <;> omega), sameW⟩)) | omega
      | false =>
        rw [if_neg (of_decide_eq_false hh)] at e1
        have ec : cutT l = l := if_neg (of_decide_eq_false hh)
        rw [ec] at hp e2
        repeat' (first | refine boolP_dec (fun _ => ?_) (fun _ => ?_) | apply boolP_not | refine boolP_b (fun _ => ?_) (fun _ => ?_) | ((with_reducible show CallA _ _ _ _ _); (first | refine call_ko (H0 := H) koW (cut_told _ l) ?_ | refine call_ko (H0 := H) koW (number_ok _ loW l hl) ?_); intro H2 k2 l2 n2 g2 q2; try simp (disch := omega) only [sm, sl] at l2 n2 g2 q2) | simp (maxSteps := 1000000) (disch := first | omega | (simp only [lenS, *]; omega)) only [↓sgg, sww, simprocAttr, sa, sS, *])
        all_goals first | exact sameW | (first | (with_reducible exact sameW) | ((with_reducible show _ ∧ _); exact ⟨by first | rfl | (simp [*] <;> omega), sameW⟩)) | omega
    | false =>
      rw [hp, if_neg (by decide)] at e1
      cases hh : decide (l.head? = some 64) with
      | true =>
        repeat' (first | refine boolP_dec (fun _ => ?_) (fun _ => ?_) | apply boolP_not | refine boolP_b (fun _ => ?_) (fun _ => ?_) | ((with_reducible show CallA _ _ _ _ _); (first | refine call_ko (H0 := H) koW (cut_told _ l) ?_ | refine call_ko (H0 := H) koW (number_ok _ loW _ hcl) ?_); intro H2 k2 l2 n2 g2 q2; try simp (disch := omega) only [sm, sl] at l2 n2 g2 q2) | simp (maxSteps := 1000000) (disch := first | omega | (simp only [lenS, *]; omega)) only [↓sgg, sww, simprocAttr, sa, sS, *])
        all_goals first | exact sameW | (first | (with_reducible exact sameW) | ((with_reducible show _ ∧ _); exact ⟨by first | rfl | (simp [*] <;> omega), sameW⟩)) | omega
      | false =>
        have ec : cutT l = l := if_neg (of_decide_eq_false hh)
        rw [ec] at hp e2
        repeat' (first | refine boolP_dec (fun _ => ?_) (fun _ => ?_) | apply boolP_not | refine boolP_b (fun _ => ?_) (fun _ => ?_) | ((with_reducible show CallA _ _ _ _ _); (first | refine call_ko (H0 := H) koW (cut_told _ l) ?_ | refine call_ko (H0 := H) koW (number_ok _ loW l hl) ?_); intro H2 k2 l2 n2 g2 q2; try simp (disch := omega) only [sm, sl] at l2 n2 g2 q2) | simp (maxSteps := 1000000) (disch := first | omega | (simp only [lenS, *]; omega)) only [↓sgg, sww, simprocAttr, sa, sS, *])
        all_goals first | exact sameW | (first | (with_reducible exact sameW) | ((with_reducible show _ ∧ _); exact ⟨by first | rfl | (simp [*] <;> omega), sameW⟩)) | omega
section
variable {E : Env} {sz : Nat} {T : Tr Value} {H : Heap} {all : List Oper}
theorem wpDraw_gkeep {K : Tok → Tr Value → Heap → Prop} (d : Option Tmp) (o : Op) (ty : TypeId) (p : String) (a : Array Edge) (j : Nat) (w g : Bool) (ap : List Op) (k : TypeId × Tmp × Tmp) (ks : List (TypeId × Tmp × Tmp)) (is : List Info) (rest : List Oper) {p1 : Pf all} {p2 : Pf (⟨d, o, ty, p, a, some (j, w)⟩ :: rest)} :
    wpDraw .go E all p1 sz (⟨d, o, ty, p, a, some (j, w)⟩ :: rest) p2 (⟨g, ap, k :: ks⟩ :: is) T H K =
    optP .go (guardV T ((all[j]?).bind (·.dst)) w) fun _ b => boolP b (fun t => storeApart E T H o ap = true ∧ OP t E T o (bif g then H.relo H.next else H) fun t v H' => keepOk E T H' (k :: ks) = true ∧ putP t sz T d v fun t T' => wpDraw t E all pf sz rest pf is T' (H'.relo H.lo) K)
      (fun t => putP t sz T d undef fun t T' => wpDraw t E all pf sz rest pf is T' H K) := by
  simp only [wpDraw, wantedA_some]
def keep2 (u : Value) : Option Value → Bool
  | some u' => sameV u u'
  | none => false
def keep1 (E : Env) (H' : Heap) (ty : TypeId) : Option Value → Option Value → Bool
  | some a, some u => keep2 u (loadV E H' ty a)
  | _, _ => false
theorem keepOk_nil : keepOk E T H [] = true := Eq.trans rfl rfl
theorem keepOk_cons (ty : TypeId) (t d : Tmp) (l : List (TypeId × Tmp × Tmp)) : keepOk E T H ((ty, t, d) :: l) = (keep1 E H ty (T.get t) (T.get d) && keepOk E T H l) := by
  conv => lhs; unfold keepOk
  congr 1
  unfold keep1
  cases T.get t with
  | none => rfl
  | some a => cases T.get d with
    | none => rfl
    | some u => unfold keep2; cases h : loadV E H ty a <;> simp [h]
theorem keep1_some (ty : TypeId) (a u : Value) : keep1 E H ty (some a) (some u) = keep2 u (loadV E H ty a) := Eq.trans rfl rfl
theorem keep2_some (u u' : Value) : keep2 u (some u') = sameV u u' := Eq.trans rfl rfl
end
theorem same_val (k x : Int) : sameV (.agg #[.int .i64 k, .int .i64 x]) (.agg #[.int .i64 k, .int .i64 x]) = true := by
  show (_ && (_ && _)) = true
  simp [same1, sameKind, eqI_eq, sameL]
def rvalK (l : List UInt8) : Int := if l = [110, 105, 108] then 0 else if l.head? = some 64 then 2 else 1
def rvalX (l : List UInt8) : Int := if l = [110, 105, 108] then 0 else (numR (cutT l)).1
def rvalB (l : List UInt8) : Bool := if l = [110, 105, 108] then true else (numR (cutT l)).2 && decide (mayV (rvalK l) (rvalX l))
theorem head_get {l : List UInt8} {c : UInt8} (h : l.head? = some c) : l[0]? = some c := by rw [← List.head?_eq_getElem?]; exact h
theorem n64 : (64 : UInt8).toNat = 64 := rfl
theorem fn38 : E.fn.get 38 = some Tryz.f38 := by kernel_rfl
theorem rval_ok (H : Heap) (hlo : H.lo ≤ H.next) (l : List UInt8) (hl : l.length ≤ 1000000000) : CallA E (fnv 38) [.string (B l)] H fun r H' => r = .tuple #[.agg #[.int .i64 (rvalK l), .int .i64 (rvalX l)], .bool (rvalB l)] ∧ Same H H' := by
  refine callA_fn (by kernel_rfl) fn38 rfl rfl ?_
  simp only [Tryz.f38]
  have hcl : (cutT l).length ≤ 1000000000 := Nat.le_trans (cutT_len l) hl
  have c64 := n64
  by_cases hn : l = [110, 105, 108]
  · have e1 : rvalK l = 0 := if_pos hn
    have e2 : rvalX l = 0 := if_pos hn
    have e3 : rvalB l = true := if_pos hn
    have hd : decide (l = [110, 105, 108]) = true := decide_eq_true hn
    clear hn
    repeat' (first | refine boolP_dec (fun _ => ?_) (fun _ => ?_) | apply boolP_not | refine boolP_b (fun _ => ?_) (fun _ => ?_) | refine wps_draw (id := 9) [Fx, Fx, Fx, Fx, (false, [], [(23, (4, 29))]), Fx, Fx, Fx] (by kernel_rfl) ?_ | simp (maxSteps := 1000000) (disch := first | omega | (simp only [lenS, *]; omega)) only [↓sgg, sww, simprocAttr, sa, sS, *])
    all_goals first | exact sameW | (first | (with_reducible exact sameW) | ((with_reducible show _ ∧ _); exact ⟨by first | rfl | (simp [*] <;> omega), sameW⟩)) | omega
  · have hd : decide (l = [110, 105, 108]) = false := decide_eq_false hn
    have e2 : rvalX l = (numR (cutT l)).1 := if_neg hn
    have e3 : rvalB l = ((numR (cutT l)).2 && decide (mayV (rvalK l) (rvalX l))) := if_neg hn
    have e1 : rvalK l = if l.head? = some 64 then 2 else 1 := if_neg hn
    clear hn
    by_cases hh : l.head? = some 64
    · rw [if_pos hh] at e1
      obtain ⟨r, rfl⟩ : ∃ r, l = 64 :: r := by
        cases l with
        | nil => cases hh
        | cons x r => simp only [List.head?_cons, Option.some.injEq] at hh; exact ⟨r, by rw [hh]⟩
      have ec : cutT (64 :: r) = r := rfl
      rw [ec] at e2 e3 hcl
      clear hh
      cases hb : (numR r).2 with
      | true =>
        rw [hb, Bool.true_and, e1, e2] at e3
        repeat' (first | refine boolP_dec (fun _ => ?_) (fun _ => ?_) | apply boolP_not | refine boolP_b (fun _ => ?_) (fun _ => ?_) | refine wps_draw (id := 9) [Fx, Fx, Fx, Fx, (false, [], [(23, (4, 29))]), Fx, Fx, Fx] (by kernel_rfl) ?_ | ((with_reducible show CallA _ _ _ _ _); (first | refine call_ko (H0 := H) koW (rnumber_ok _ loW r hcl) ?_ | refine call_ko (H0 := H) koW (rmay_ok _ loW _ _) ?_); intro H2 k2 l2 n2 g2 q2; try simp (disch := omega) only [sm, sl] at l2 n2 g2 q2) | simp (maxSteps := 1000000) (disch := first | omega | (simp only [lenS, *]; omega)) only [↓sgg, sww, simprocAttr, sa, sS, sl_str, tk_all, wpDraw_gkeep, keepOk_nil, keepOk_cons, keep1_some, keep2_some, same_val, *])
        all_goals first | exact sameW | (first | (with_reducible exact sameW) | ((with_reducible show _ ∧ _); exact ⟨by first | rfl | (simp [*] <;> omega), sameW⟩)) | omega | trace_state
      | false =>
        rw [hb, Bool.false_and] at e3
        repeat' (first | refine boolP_dec (fun _ => ?_) (fun _ => ?_) | apply boolP_not | refine boolP_b (fun _ => ?_) (fun _ => ?_) | refine wps_draw (id := 9) [Fx, Fx, Fx, Fx, (false, [], [(23, (4, 29))]), Fx, Fx, Fx] (by kernel_rfl) ?_ | ((with_reducible show CallA _ _ _ _ _); (first | refine call_ko (H0 := H) koW (rnumber_ok _ loW r hcl) ?_ | refine call_ko (H0 := H) koW (rmay_ok _ loW _ _) ?_); intro H2 k2 l2 n2 g2 q2; try simp (disch := omega) only [sm, sl] at l2 n2 g2 q2) | simp (maxSteps := 1000000) (disch := first | omega | (simp only [lenS, *]; omega)) only [↓sgg, sww, simprocAttr, sa, sS, sl_str, tk_all, wpDraw_gkeep, keepOk_nil, keepOk_cons, keep1_some, keep2_some, same_val, *])
        all_goals first | exact sameW | (first | (with_reducible exact sameW) | ((with_reducible show _ ∧ _); exact ⟨by first | rfl | (simp [*] <;> omega), sameW⟩)) | omega | trace_state
    · rw [if_neg hh] at e1
      have ec : cutT l = l := if_neg hh
      rw [ec] at e2 e3
      have hq : l = [] ∨ ∃ c q, l = c :: q ∧ decide ((c.toNat : Int) = 64) = false := by
        cases l with
        | nil => exact .inl rfl
        | cons c q => exact .inr ⟨c, q, rfl, decide_eq_false fun e => hh (by rw [List.head?_cons, UInt8.toNat_inj.1 (show c.toNat = (64 : UInt8).toNat by rw [n64]; omega)])⟩
      clear hh
      have hb0 : (numR l).2 = true ∨ (numR l).2 = false := by cases (numR l).2 <;> simp
      rcases hq with rfl | ⟨c, q, rfl, hc⟩
      all_goals
        rcases hb0 with hb | hb
        · rw [hb, Bool.true_and, e1, e2] at e3
          repeat' (first | refine boolP_dec (fun _ => ?_) (fun _ => ?_) | apply boolP_not | refine boolP_b (fun _ => ?_) (fun _ => ?_) | refine wps_draw (id := 9) [Fx, Fx, Fx, Fx, (false, [], [(23, (4, 29))]), Fx, Fx, Fx] (by kernel_rfl) ?_ | ((with_reducible show CallA _ _ _ _ _); (first | refine call_ko (H0 := H) koW (rnumber_ok _ loW _ hl) ?_ | refine call_ko (H0 := H) koW (rmay_ok _ loW _ _) ?_); intro H2 k2 l2 n2 g2 q2; try simp (disch := omega) only [sm, sl] at l2 n2 g2 q2) | simp (maxSteps := 1000000) (disch := first | omega | (simp only [lenS, *]; omega)) only [↓sgg, sww, simprocAttr, sa, sS, sl_str, tk_all, wpDraw_gkeep, keepOk_nil, keepOk_cons, keep1_some, keep2_some, same_val, *])
          all_goals first | exact sameW | (first | (with_reducible exact sameW) | ((with_reducible show _ ∧ _); exact ⟨by first | rfl | (simp [*] <;> omega), sameW⟩)) | omega | trace_state
        · rw [hb, Bool.false_and] at e3
          repeat' (first | refine boolP_dec (fun _ => ?_) (fun _ => ?_) | apply boolP_not | refine boolP_b (fun _ => ?_) (fun _ => ?_) | refine wps_draw (id := 9) [Fx, Fx, Fx, Fx, (false, [], [(23, (4, 29))]), Fx, Fx, Fx] (by kernel_rfl) ?_ | ((with_reducible show CallA _ _ _ _ _); (first | refine call_ko (H0 := H) koW (rnumber_ok _ loW _ hl) ?_ | refine call_ko (H0 := H) koW (rmay_ok _ loW _ _) ?_); intro H2 k2 l2 n2 g2 q2; try simp (disch := omega) only [sm, sl] at l2 n2 g2 q2) | simp (maxSteps := 1000000) (disch := first | omega | (simp only [lenS, *]; omega)) only [↓sgg, sww, simprocAttr, sa, sS, sl_str, tk_all, wpDraw_gkeep, keepOk_nil, keepOk_cons, keep1_some, keep2_some, same_val, *])
          all_goals first | exact sameW | (first | (with_reducible exact sameW) | ((with_reducible show _ ∧ _); exact ⟨by first | rfl | (simp [*] <;> omega), sameW⟩)) | omega | trace_state
end Go.AM
