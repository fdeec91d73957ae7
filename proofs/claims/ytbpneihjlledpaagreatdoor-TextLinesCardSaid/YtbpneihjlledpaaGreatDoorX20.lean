/-
  Walks over letters of the functions that the law reaches.
-/
import Derived.Test.YtbpneihjlledpaaGreatDoorX19
namespace Go.AM
attribute [local instance] fnMaps
open Go Go.Proofs
set_option maxRecDepth 100000
set_option maxHeartbeats 4000000
set_option linter.unusedSimpArgs false
theorem dec_ne63 (u : Nat) : Lib.decDigits u ≠ [63] := by
  intro h
  have e : ∃ p m, m < 10 ∧ Lib.decDigits u = p ++ [UInt8.ofNat (48 + m)] := by
    by_cases hu : u < 10
    · exact ⟨[], u, hu, dec_small hu⟩
    · exact ⟨_, u % 10, Nat.mod_lt _ (by decide), dec_big hu⟩
  obtain ⟨p, m, hm, e⟩ := e
  rw [h] at e
  have h1 := congrArg List.getLast? e
  rw [List.getLast?_append] at h1
  simp only [List.getLast?_singleton, Option.some_or, Option.some.injEq] at h1
  have h2 := congrArg UInt8.toNat h1
  rw [show (UInt8.ofNat (48 + m)).toNat = 48 + m from Nat.mod_eq_of_lt (by omega)] at h2
  have h3 : (63 : UInt8).toNat = 63 := rfl
  omega
theorem itoa_ne63 (x : Int) : Lib.itoa x ≠ [63] := by
  cases x with
  | ofNat u => show Lib.itoa (u : Int) ≠ _; rw [Lib.itoa_nonneg]; exact dec_ne63 u
  | negSucc u =>
    show Lib.itoa (-((u + 1 : Nat) : Int)) ≠ _
    rw [Lib.itoa_neg _ (by omega)]
    intro h
    injection h with h1 h2
    revert h1; decide
theorem textV_63 (k x : Int) : (textV k x = [63]) ↔ ¬ mayV k x := by
  unfold textV
  by_cases hm : mayV k x
  · rw [if_pos hm]
    refine ⟨fun h => ?_, fun h => absurd hm h⟩
    split at h
    · exact absurd h (by decide)
    split at h
    · exact absurd h (itoa_ne63 x)
    · injection h with h1 h2
      exact absurd h1 (by decide)
  · rw [if_neg hm]; exact ⟨fun _ => hm, fun _ => rfl⟩
theorem anyC_false : ∀ (l : List UInt8) (c : Int), anyC l c = false → ∀ x ∈ l, (x.toNat : Int) ≠ c
  | [], _, _, x, hx => by cases hx
  | y :: l, c, h, x, hx => by
    simp only [anyC] at h
    by_cases hy : (y.toNat : Int) = c
    · simp [hy] at h
    · have h2 : anyC l c = false := by simpa [hy] using h
      rcases List.mem_cons.1 hx with rfl | hx
      · exact hy
      · exact anyC_false l c h2 x hx
theorem anyC_true : ∀ (l : List UInt8) (c : Int), anyC l c = true → ∃ x ∈ l, (x.toNat : Int) = c
  | [], _, h => by cases h
  | y :: l, c, h => by
    simp only [anyC] at h
    by_cases hy : (y.toNat : Int) = c
    · exact ⟨y, List.mem_cons_self .., hy⟩
    · have h2 : anyC l c = true := by simpa [hy] using h
      obtain ⟨x, hx, e⟩ := anyC_true l c h2
      exact ⟨x, List.mem_cons_of_mem _ hx, e⟩
theorem field_ok (o : TOp) (c : Int) : (fieldT o c).2 = true ↔ (c = 118 → mayV o.vk o.vx) := by
  unfold fieldT
  split
  · rename_i h; subst h; exact ⟨fun _ h => absurd h (by decide), fun _ => rfl⟩
  split
  · rename_i h; subst h; exact ⟨fun _ h => absurd h (by decide), fun _ => rfl⟩
  split
  · rename_i h; subst h
    have := textV_63 o.vk o.vx
    simp only [Bool.not_eq_true', decide_eq_false_iff_not, forall_const, this]
    exact ⟨fun h => Classical.byContradiction h, fun h h2 => h2 h⟩
  · rename_i h
    exact ⟨fun _ hc => absurd hc h, fun _ => rfl⟩
theorem line_may (o : TOp) (hp : plainO o = o) : lineOk o (usesL o.d) = true ↔ mayV o.vk o.vx := by
  unfold lineOk
  rw [List.all_eq_true]
  cases hu : usesC o.d 118 with
  | true =>
    obtain ⟨x, hx, e⟩ := anyC_true _ _ hu
    refine ⟨fun h => (field_ok o _).1 (h x hx) e, fun h y hy => (field_ok o _).2 fun _ => h⟩
  | false =>
    have hno := anyC_false _ _ hu
    have hk : o.vk = 0 := by
      have := congrArg TOp.vk hp
      simp only [plainO, P, hu] at this
      exact this.symm
    have hx : o.vx = 0 := by
      have := congrArg TOp.vx hp
      simp only [plainO, P, hu] at this
      exact this.symm
    refine ⟨fun _ => .inl ⟨hk, hx⟩, fun _ y hy => (field_ok o _).2 fun h => absurd h (hno y hy)⟩
theorem line_eq (o : TOp) : lineR o = rlineR o := by
  unfold lineR rlineR
  by_cases h1 : nameL o.d = []
  · rw [if_pos (.inl h1), if_pos (.inl h1)]
  by_cases h2 : plainO o = o
  · rw [if_neg (fun h => h.elim h1 (fun h => h h2))]
    by_cases h3 : mayV o.vk o.vx
    · rw [if_pos ((line_may o h2).2 h3), if_neg (fun h => h.elim h1 (fun h => h.elim (fun h => h h2) (fun h => h h3)))]; rfl
    · rw [if_neg (fun h => h3 ((line_may o h2).1 h)), if_pos (.inr (.inr h3))]
  · rw [if_pos (.inr h2), if_pos (.inr (.inl h2))]
theorem orc_awake (H : Heap) : E.orc (fnv 6) [] H = some (.bool true, H) := by kernel_rfl
theorem awake_ok (H : Heap) : CallA E (fnv 6) [] H fun v H' => v = .bool true ∧ Same H H' := callA_told (orc_awake H) ⟨rfl, Same.refl H⟩
theorem fn3 : E.fn.get 3 = some Tryz.f3 := by kernel_rfl
theorem lines_ok (H : Heap) (hlo : H.lo ≤ H.next) (o : TOp) (ho : OpOk o) (s : List UInt8) (a : TAns) (ha : AnsOk a) : CallA E (fnv 3) [.agg (opL o).toArray, .string (B s), .agg (ansL a).toArray] H fun v H' => v = .bool true ∧ Same H H' := by
  refine callA_fn (by kernel_rfl) fn3 rfl rfl ?_
  simp only [Tryz.f3]
  have q1 := opL_len o
  have q2 := op_cell o
  have q4 := op_all o
  have e1 : (ansL a).length = 9 := rfl
  have e2 : (ansL a).all isCell = true := rfl
  have e3 : cut (ansL a) 0 9 = some (ansL a) := Eq.trans (cut_eq _ _ _) rfl
  by_cases hl : s.length ≤ 300
  · obtain ⟨RL, hRL⟩ : ∃ R, lineR o = R := ⟨_, rfl⟩
    obtain ⟨RP, hRP⟩ : ∃ R, parseR s = R := ⟨_, rfl⟩
    have c1 := fun (X : Heap) (hx : X.lo ≤ X.next) => line_ok X hx o ho
    have c2 := fun (X : Heap) (hx : X.lo ≤ X.next) => rline_ok X hx o ho
    have c3 := fun (X : Heap) (hx : X.lo ≤ X.next) => tparse_ok X hx s (by omega)
    have c4 := fun (X : Heap) (hx : X.lo ≤ X.next) => trparse_ok X hx s (by omega)
    rw [← line_eq, hRL] at c2
    rw [hRL] at c1
    rw [hRP] at c3 c4
    clear hRL hRP
    have p1 := opL_len RP.1
    have p2 := op_cell RP.1
    have p4 := op_all RP.1
    have p5 : (opL RP.1).drop 11 = [] := rfl
    repeat' (first | refine boolP_dec (fun _ => ?_) (fun _ => ?_) | apply boolP_not | refine boolP_b (fun _ => ?_) (fun _ => ?_) | refine wps_draw (id := 7) [Fx, Fx, Fx, Fx, Fx, Fx, Fx, Fx, Fx, Fx, Fx, Fx, Fx, Fx, Fx, Fx, Fx, Fx, Fx, Fx, Fx, Tx, Fx, Fx, Fx, Fx, Fx, Fx, Fx, Fx, Fx] (by kernel_rfl) ?_ | ((with_reducible show CallA _ _ _ _ _); (first | refine call_ko (H0 := H) koW (c1 _ loW) ?_ | refine call_ko (H0 := H) koW (c2 _ loW) ?_ | refine call_ko (H0 := H) koW (c3 _ loW) ?_ | refine call_ko (H0 := H) koW (c4 _ loW) ?_ | refine call_ko (H0 := H) koW (tell_ok _ loW o a ho ha) ?_ | refine call_ko (H0 := H) koW (rtell_ok _ loW o a ho ha) ?_ | refine call_ko (H0 := H) koW (awake_ok _) ?_); intro H2 k2 l2 n2 g2 q2; try simp (disch := omega) only [sm, sl] at l2 n2 g2 q2) | simp (maxSteps := 1000000) (disch := first | omega | (simp only [lenS, *]; omega)) only [↓sgg, sww, simprocAttr, sa, sS, ↓eq_op, *])
    all_goals first | (first | (with_reducible exact sameW) | ((with_reducible show _ ∧ _); exact ⟨by first | rfl | (simp [*] <;> omega), sameW⟩)) | omega | trace_state
  · repeat' (first | refine boolP_dec (fun _ => ?_) (fun _ => ?_) | apply boolP_not | refine boolP_b (fun _ => ?_) (fun _ => ?_) | refine wps_draw (id := 7) [Fx, Fx, Fx, Fx, Fx, Fx, Fx, Fx, Fx, Fx, Fx, Fx, Fx, Fx, Fx, Fx, Fx, Fx, Fx, Fx, Fx, Tx, Fx, Fx, Fx, Fx, Fx, Fx, Fx, Fx, Fx] (by kernel_rfl) ?_ | ((with_reducible show CallA _ _ _ _ _); refine call_ko (H0 := H) koW (awake_ok _) ?_; intro H2 k2 l2 n2 g2 q2; try simp (disch := omega) only [sm, sl] at l2 n2 g2 q2) | simp (maxSteps := 1000000) (disch := first | omega | (simp only [lenS, *]; omega)) only [↓sgg, sww, simprocAttr, sa, sS, *])
    all_goals first | (first | (with_reducible exact sameW) | ((with_reducible show _ ∧ _); exact ⟨by first | rfl | (simp [*] <;> omega), sameW⟩)) | omega | trace_state
end Go.AM
