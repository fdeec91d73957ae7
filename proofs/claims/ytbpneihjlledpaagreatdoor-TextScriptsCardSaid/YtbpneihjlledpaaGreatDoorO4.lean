/-
  Walks over letters of the functions that the law reaches.
-/
import Derived.Test.YtbpneihjlledpaaGreatDoorO3
set_option linter.unusedVariables false
set_option linter.unusedSectionVars false
namespace Go.AM
variable [Orc13]
attribute [local instance] fnMaps
open Go Go.Proofs
set_option maxRecDepth 100000
set_option maxHeartbeats 4000000
set_option linter.unusedSimpArgs false
theorem usesC_pat (d : Int) : (usesC d 107 = true ∧ usesC d 112 = true ∧ usesC d 104 = false ∧ usesC d 103 = false ∧ usesC d 105 = false ∧ usesC d 118 = false ∧ usesC d 119 = false) ∨
  (usesC d 107 = false ∧ usesC d 112 = false ∧ usesC d 104 = true ∧ usesC d 103 = false ∧ usesC d 105 = true ∧ usesC d 118 = false ∧ usesC d 119 = false) ∨
  (usesC d 107 = false ∧ usesC d 112 = false ∧ usesC d 104 = true ∧ usesC d 103 = false ∧ usesC d 105 = true ∧ usesC d 118 = true ∧ usesC d 119 = false) ∨
  (usesC d 107 = false ∧ usesC d 112 = false ∧ usesC d 104 = true ∧ usesC d 103 = false ∧ usesC d 105 = true ∧ usesC d 118 = false ∧ usesC d 119 = true) ∨
  (usesC d 107 = false ∧ usesC d 112 = false ∧ usesC d 104 = true ∧ usesC d 103 = true ∧ usesC d 105 = false ∧ usesC d 118 = false ∧ usesC d 119 = false) ∨
  (usesC d 107 = false ∧ usesC d 112 = false ∧ usesC d 104 = true ∧ usesC d 103 = false ∧ usesC d 105 = false ∧ usesC d 118 = false ∧ usesC d 119 = false) ∨
  (usesC d 107 = false ∧ usesC d 112 = true ∧ usesC d 104 = false ∧ usesC d 103 = false ∧ usesC d 105 = false ∧ usesC d 118 = false ∧ usesC d 119 = false) ∨
  (usesC d 107 = false ∧ usesC d 112 = false ∧ usesC d 104 = false ∧ usesC d 103 = false ∧ usesC d 105 = false ∧ usesC d 118 = false ∧ usesC d 119 = false) := by
  rcases in10 d with rfl | rfl | rfl | rfl | rfl | rfl | rfl | rfl | rfl | rfl | h
  · exact .inl ⟨rfl, rfl, rfl, rfl, rfl, rfl, rfl⟩
  · exact .inr (.inl ⟨rfl, rfl, rfl, rfl, rfl, rfl, rfl⟩)
  · exact .inr (.inr (.inl ⟨rfl, rfl, rfl, rfl, rfl, rfl, rfl⟩))
  · exact .inr (.inl ⟨rfl, rfl, rfl, rfl, rfl, rfl, rfl⟩)
  · exact .inr (.inr (.inr (.inl ⟨rfl, rfl, rfl, rfl, rfl, rfl, rfl⟩)))
  · exact .inr (.inr (.inr (.inr (.inl ⟨rfl, rfl, rfl, rfl, rfl, rfl, rfl⟩))))
  · exact .inr (.inr (.inr (.inr (.inr (.inl ⟨rfl, rfl, rfl, rfl, rfl, rfl, rfl⟩)))))
  · exact .inr (.inr (.inr (.inr (.inr (.inl ⟨rfl, rfl, rfl, rfl, rfl, rfl, rfl⟩)))))
  · exact .inr (.inr (.inr (.inr (.inr (.inr (.inl ⟨rfl, rfl, rfl, rfl, rfl, rfl, rfl⟩))))))
  · exact .inr (.inr (.inr (.inr (.inr (.inl ⟨rfl, rfl, rfl, rfl, rfl, rfl, rfl⟩)))))
  · have hc : ∀ c, usesC d c = false := fun c => by unfold usesC; rw [(out_name h).2.1]; rfl
    exact .inr (.inr (.inr (.inr (.inr (.inr (.inr (⟨hc _, hc _, hc _, hc _, hc _, hc _, hc _⟩)))))))
theorem usesC_kfr (d : Int) : usesC d 102 = usesC d 107 ∧ usesC d 114 = usesC d 107 := by
  rcases in10 d with rfl | rfl | rfl | rfl | rfl | rfl | rfl | rfl | rfl | rfl | h
  · exact ⟨rfl, rfl⟩
  · exact ⟨rfl, rfl⟩
  · exact ⟨rfl, rfl⟩
  · exact ⟨rfl, rfl⟩
  · exact ⟨rfl, rfl⟩
  · exact ⟨rfl, rfl⟩
  · exact ⟨rfl, rfl⟩
  · exact ⟨rfl, rfl⟩
  · exact ⟨rfl, rfl⟩
  · exact ⟨rfl, rfl⟩
  · have hc : ∀ c, usesC d c = false := fun c => by unfold usesC; rw [(out_name h).2.1]; rfl
    exact ⟨by rw [hc, hc], by rw [hc, hc]⟩
def P (d c x : Int) : Int := if usesC d c then x else 0
def plainR (d h g i vk vx w k f r p : Int) : List Value := [.int .i64 d, .int .i64 (P d 104 h), .int .i64 (P d 103 g), .int .i64 (P d 105 i), .int .i64 (P d 118 vk), .int .i64 (P d 118 vx), .int .u64 (P d 119 w), .int .i64 (P d 107 k), .int .i64 (P d 107 f), .int .i64 (P d 107 r), .int .u8 (P d 112 p)]
theorem outR_plainR (d h g i vk vx w k f r p : Int) : outR d h g i vk vx w k f r p (usesB d).data.toList = plainR d h g i vk vx w k f r p := by
  obtain ⟨h1, h2⟩ := usesC_kfr d
  have hq : ∀ c x, Q (usesB d).data.toList c x = P d c x := fun c x => rfl
  have hf : ∀ x, P d 102 x = P d 107 x := fun x => by unfold P; rw [h1]
  have hr : ∀ x, P d 114 x = P d 107 x := fun x => by unfold P; rw [h2]
  simp only [outR, plainR, hq, hf, hr]
theorem rplain_ok (H : Heap) (hlo : H.lo ≤ H.next) (d h g i vk vx w k f r p : Int) (hd : -9223372036854775808 ≤ d ∧ d ≤ 9223372036854775807) : CallA E (fnv 24) [.agg (inO d h g i vk vx w k f r p).toArray] H fun v H' => v = .agg (plainR d h g i vk vx w k f r p).toArray ∧ Same H H' := by
  rcases usesC_pat d with ⟨e107, e112, e104, e103, e105, e118, e119⟩ | ⟨e107, e112, e104, e103, e105, e118, e119⟩ | ⟨e107, e112, e104, e103, e105, e118, e119⟩ | ⟨e107, e112, e104, e103, e105, e118, e119⟩ | ⟨e107, e112, e104, e103, e105, e118, e119⟩ | ⟨e107, e112, e104, e103, e105, e118, e119⟩ | ⟨e107, e112, e104, e103, e105, e118, e119⟩ | ⟨e107, e112, e104, e103, e105, e118, e119⟩
  all_goals
    simp only [plainR, P, e107, e112, e104, e103, e105, e118, e119, Bool.false_eq_true, if_true, if_false]
    refine callA_fn (by kernel_rfl) fn24 rfl rfl ?_
    simp only [Tryz.f24, inO]
    simp (maxSteps := 1000000) (disch := omega) only [↓sgg, sww, simprocAttr, fa_26_0, fa_26_1, fa_26_2, fa_26_3, fa_26_4, fa_26_5, fa_26_6, fa_26_7, fa_26_8, fa_26_9, zero_26, lit_26, agg_26, size_26, agg_3, size_3, agg_24, size_24, agg_5, size_5, agg_23, size_23, lit_23, zero_23, cutAll11, cut45, cutAll2, cutAll3]
    refine (refuses_ok _ (by (try simp (disch := omega) only [setRow_get, newRow_get, newRow_next, setRow_next, newRow_lo, setRow_lo, newRow_grps, setRow_grps, newRow_relo, setRow_relo, relo_objs, relo_next, relo_lo, nbeq_ne, sl]); omega) d 107 hd).mono ?_
    rintro v X0 ⟨rfl, s0⟩
    have n0 := s0.nxt
    have l0 := s0.lo
    (try simp (disch := omega) only [setRow_get, newRow_get, newRow_next, setRow_next, newRow_lo, setRow_lo, newRow_grps, setRow_grps, newRow_relo, setRow_relo, relo_objs, relo_next, relo_lo, nbeq_ne, sl] at n0)
    (try simp (disch := omega) only [setRow_get, newRow_get, newRow_next, setRow_next, newRow_lo, setRow_lo, newRow_grps, setRow_grps, newRow_relo, setRow_relo, relo_objs, relo_next, relo_lo, nbeq_ne, sl] at l0)
    have a0 := s0.objs H.next (by (try simp (disch := omega) only [setRow_get, newRow_get, newRow_next, setRow_next, newRow_lo, setRow_lo, newRow_grps, setRow_grps, newRow_relo, setRow_relo, relo_objs, relo_next, relo_lo, nbeq_ne, sl]); omega)
    have b0 := s0.objs (H.next + 1) (by (try simp (disch := omega) only [setRow_get, newRow_get, newRow_next, setRow_next, newRow_lo, setRow_lo, newRow_grps, setRow_grps, newRow_relo, setRow_relo, relo_objs, relo_next, relo_lo, nbeq_ne, sl]); omega)
    (try simp (disch := omega) only [setRow_get, newRow_get, newRow_next, setRow_next, newRow_lo, setRow_lo, newRow_grps, setRow_grps, newRow_relo, setRow_relo, relo_objs, relo_next, relo_lo, nbeq_ne, sl] at a0)
    (try simp (disch := omega) only [setRow_get, newRow_get, newRow_next, setRow_next, newRow_lo, setRow_lo, newRow_grps, setRow_grps, newRow_relo, setRow_relo, relo_objs, relo_next, relo_lo, nbeq_ne, sl] at b0)
    have t0 : Same H X0 := by
      refine Same.trans ?_ s0
      repeat (first | exact Same.refl _ | refine Same.setRow ?_ (by omega) _ | refine Same.newRow ?_ _)
    clear s0
    simp (maxSteps := 1000000) (disch := omega) only [↓sgg, sww, simprocAttr, fa_26_0, fa_26_1, fa_26_2, fa_26_3, fa_26_4, fa_26_5, fa_26_6, fa_26_7, fa_26_8, fa_26_9, zero_26, lit_26, agg_26, size_26, agg_3, size_3, agg_24, size_24, agg_5, size_5, agg_23, size_23, lit_23, zero_23, cutAll11, cut45, cutAll2, cutAll3, a0, b0, e107]
    refine (refuses_ok _ (by (try simp (disch := omega) only [setRow_get, newRow_get, newRow_next, setRow_next, newRow_lo, setRow_lo, newRow_grps, setRow_grps, newRow_relo, setRow_relo, relo_objs, relo_next, relo_lo, nbeq_ne, sl]); omega) d 112 hd).mono ?_
    rintro v X1 ⟨rfl, s1⟩
    have n1 := s1.nxt
    have l1 := s1.lo
    (try simp (disch := omega) only [setRow_get, newRow_get, newRow_next, setRow_next, newRow_lo, setRow_lo, newRow_grps, setRow_grps, newRow_relo, setRow_relo, relo_objs, relo_next, relo_lo, nbeq_ne, sl] at n1)
    (try simp (disch := omega) only [setRow_get, newRow_get, newRow_next, setRow_next, newRow_lo, setRow_lo, newRow_grps, setRow_grps, newRow_relo, setRow_relo, relo_objs, relo_next, relo_lo, nbeq_ne, sl] at l1)
    have a1 := s1.objs H.next (by (try simp (disch := omega) only [setRow_get, newRow_get, newRow_next, setRow_next, newRow_lo, setRow_lo, newRow_grps, setRow_grps, newRow_relo, setRow_relo, relo_objs, relo_next, relo_lo, nbeq_ne, sl]); omega)
    have b1 := s1.objs (H.next + 1) (by (try simp (disch := omega) only [setRow_get, newRow_get, newRow_next, setRow_next, newRow_lo, setRow_lo, newRow_grps, setRow_grps, newRow_relo, setRow_relo, relo_objs, relo_next, relo_lo, nbeq_ne, sl]); omega)
    (try simp (disch := omega) only [setRow_get, newRow_get, newRow_next, setRow_next, newRow_lo, setRow_lo, newRow_grps, setRow_grps, newRow_relo, setRow_relo, relo_objs, relo_next, relo_lo, nbeq_ne, sl, a0, b0] at a1)
    (try simp (disch := omega) only [setRow_get, newRow_get, newRow_next, setRow_next, newRow_lo, setRow_lo, newRow_grps, setRow_grps, newRow_relo, setRow_relo, relo_objs, relo_next, relo_lo, nbeq_ne, sl, a0, b0] at b1)
    have t1 : Same H X1 := by
      refine Same.trans ?_ s1
      repeat (first | exact Same.refl _ | exact t0 | refine Same.setRow ?_ (by omega) _ | refine Same.newRow ?_ _)
    clear s1
    simp (maxSteps := 1000000) (disch := omega) only [↓sgg, sww, simprocAttr, fa_26_0, fa_26_1, fa_26_2, fa_26_3, fa_26_4, fa_26_5, fa_26_6, fa_26_7, fa_26_8, fa_26_9, zero_26, lit_26, agg_26, size_26, agg_3, size_3, agg_24, size_24, agg_5, size_5, agg_23, size_23, lit_23, zero_23, cutAll11, cut45, cutAll2, cutAll3, a1, b1, e112]
    refine (refuses_ok _ (by (try simp (disch := omega) only [setRow_get, newRow_get, newRow_next, setRow_next, newRow_lo, setRow_lo, newRow_grps, setRow_grps, newRow_relo, setRow_relo, relo_objs, relo_next, relo_lo, nbeq_ne, sl]); omega) d 104 hd).mono ?_
    rintro v X2 ⟨rfl, s2⟩
    have n2 := s2.nxt
    have l2 := s2.lo
    (try simp (disch := omega) only [setRow_get, newRow_get, newRow_next, setRow_next, newRow_lo, setRow_lo, newRow_grps, setRow_grps, newRow_relo, setRow_relo, relo_objs, relo_next, relo_lo, nbeq_ne, sl] at n2)
    (try simp (disch := omega) only [setRow_get, newRow_get, newRow_next, setRow_next, newRow_lo, setRow_lo, newRow_grps, setRow_grps, newRow_relo, setRow_relo, relo_objs, relo_next, relo_lo, nbeq_ne, sl] at l2)
    have a2 := s2.objs H.next (by (try simp (disch := omega) only [setRow_get, newRow_get, newRow_next, setRow_next, newRow_lo, setRow_lo, newRow_grps, setRow_grps, newRow_relo, setRow_relo, relo_objs, relo_next, relo_lo, nbeq_ne, sl]); omega)
    have b2 := s2.objs (H.next + 1) (by (try simp (disch := omega) only [setRow_get, newRow_get, newRow_next, setRow_next, newRow_lo, setRow_lo, newRow_grps, setRow_grps, newRow_relo, setRow_relo, relo_objs, relo_next, relo_lo, nbeq_ne, sl]); omega)
    (try simp (disch := omega) only [setRow_get, newRow_get, newRow_next, setRow_next, newRow_lo, setRow_lo, newRow_grps, setRow_grps, newRow_relo, setRow_relo, relo_objs, relo_next, relo_lo, nbeq_ne, sl, a1, b1] at a2)
    (try simp (disch := omega) only [setRow_get, newRow_get, newRow_next, setRow_next, newRow_lo, setRow_lo, newRow_grps, setRow_grps, newRow_relo, setRow_relo, relo_objs, relo_next, relo_lo, nbeq_ne, sl, a1, b1] at b2)
    have t2 : Same H X2 := by
      refine Same.trans ?_ s2
      repeat (first | exact Same.refl _ | exact t1 | refine Same.setRow ?_ (by omega) _ | refine Same.newRow ?_ _)
    clear s2
    simp (maxSteps := 1000000) (disch := omega) only [↓sgg, sww, simprocAttr, fa_26_0, fa_26_1, fa_26_2, fa_26_3, fa_26_4, fa_26_5, fa_26_6, fa_26_7, fa_26_8, fa_26_9, zero_26, lit_26, agg_26, size_26, agg_3, size_3, agg_24, size_24, agg_5, size_5, agg_23, size_23, lit_23, zero_23, cutAll11, cut45, cutAll2, cutAll3, a2, b2, e104]
    refine (refuses_ok _ (by (try simp (disch := omega) only [setRow_get, newRow_get, newRow_next, setRow_next, newRow_lo, setRow_lo, newRow_grps, setRow_grps, newRow_relo, setRow_relo, relo_objs, relo_next, relo_lo, nbeq_ne, sl]); omega) d 103 hd).mono ?_
    rintro v X3 ⟨rfl, s3⟩
    have n3 := s3.nxt
    have l3 := s3.lo
    (try simp (disch := omega) only [setRow_get, newRow_get, newRow_next, setRow_next, newRow_lo, setRow_lo, newRow_grps, setRow_grps, newRow_relo, setRow_relo, relo_objs, relo_next, relo_lo, nbeq_ne, sl] at n3)
    (try simp (disch := omega) only [setRow_get, newRow_get, newRow_next, setRow_next, newRow_lo, setRow_lo, newRow_grps, setRow_grps, newRow_relo, setRow_relo, relo_objs, relo_next, relo_lo, nbeq_ne, sl] at l3)
    have a3 := s3.objs H.next (by (try simp (disch := omega) only [setRow_get, newRow_get, newRow_next, setRow_next, newRow_lo, setRow_lo, newRow_grps, setRow_grps, newRow_relo, setRow_relo, relo_objs, relo_next, relo_lo, nbeq_ne, sl]); omega)
    have b3 := s3.objs (H.next + 1) (by (try simp (disch := omega) only [setRow_get, newRow_get, newRow_next, setRow_next, newRow_lo, setRow_lo, newRow_grps, setRow_grps, newRow_relo, setRow_relo, relo_objs, relo_next, relo_lo, nbeq_ne, sl]); omega)
    (try simp (disch := omega) only [setRow_get, newRow_get, newRow_next, setRow_next, newRow_lo, setRow_lo, newRow_grps, setRow_grps, newRow_relo, setRow_relo, relo_objs, relo_next, relo_lo, nbeq_ne, sl, a2, b2] at a3)
    (try simp (disch := omega) only [setRow_get, newRow_get, newRow_next, setRow_next, newRow_lo, setRow_lo, newRow_grps, setRow_grps, newRow_relo, setRow_relo, relo_objs, relo_next, relo_lo, nbeq_ne, sl, a2, b2] at b3)
    have t3 : Same H X3 := by
      refine Same.trans ?_ s3
      repeat (first | exact Same.refl _ | exact t2 | refine Same.setRow ?_ (by omega) _ | refine Same.newRow ?_ _)
    clear s3
    simp (maxSteps := 1000000) (disch := omega) only [↓sgg, sww, simprocAttr, fa_26_0, fa_26_1, fa_26_2, fa_26_3, fa_26_4, fa_26_5, fa_26_6, fa_26_7, fa_26_8, fa_26_9, zero_26, lit_26, agg_26, size_26, agg_3, size_3, agg_24, size_24, agg_5, size_5, agg_23, size_23, lit_23, zero_23, cutAll11, cut45, cutAll2, cutAll3, a3, b3, e103]
    refine (refuses_ok _ (by (try simp (disch := omega) only [setRow_get, newRow_get, newRow_next, setRow_next, newRow_lo, setRow_lo, newRow_grps, setRow_grps, newRow_relo, setRow_relo, relo_objs, relo_next, relo_lo, nbeq_ne, sl]); omega) d 105 hd).mono ?_
    rintro v X4 ⟨rfl, s4⟩
    have n4 := s4.nxt
    have l4 := s4.lo
    (try simp (disch := omega) only [setRow_get, newRow_get, newRow_next, setRow_next, newRow_lo, setRow_lo, newRow_grps, setRow_grps, newRow_relo, setRow_relo, relo_objs, relo_next, relo_lo, nbeq_ne, sl] at n4)
    (try simp (disch := omega) only [setRow_get, newRow_get, newRow_next, setRow_next, newRow_lo, setRow_lo, newRow_grps, setRow_grps, newRow_relo, setRow_relo, relo_objs, relo_next, relo_lo, nbeq_ne, sl] at l4)
    have a4 := s4.objs H.next (by (try simp (disch := omega) only [setRow_get, newRow_get, newRow_next, setRow_next, newRow_lo, setRow_lo, newRow_grps, setRow_grps, newRow_relo, setRow_relo, relo_objs, relo_next, relo_lo, nbeq_ne, sl]); omega)
    have b4 := s4.objs (H.next + 1) (by (try simp (disch := omega) only [setRow_get, newRow_get, newRow_next, setRow_next, newRow_lo, setRow_lo, newRow_grps, setRow_grps, newRow_relo, setRow_relo, relo_objs, relo_next, relo_lo, nbeq_ne, sl]); omega)
    (try simp (disch := omega) only [setRow_get, newRow_get, newRow_next, setRow_next, newRow_lo, setRow_lo, newRow_grps, setRow_grps, newRow_relo, setRow_relo, relo_objs, relo_next, relo_lo, nbeq_ne, sl, a3, b3] at a4)
    (try simp (disch := omega) only [setRow_get, newRow_get, newRow_next, setRow_next, newRow_lo, setRow_lo, newRow_grps, setRow_grps, newRow_relo, setRow_relo, relo_objs, relo_next, relo_lo, nbeq_ne, sl, a3, b3] at b4)
    have t4 : Same H X4 := by
      refine Same.trans ?_ s4
      repeat (first | exact Same.refl _ | exact t3 | refine Same.setRow ?_ (by omega) _ | refine Same.newRow ?_ _)
    clear s4
    simp (maxSteps := 1000000) (disch := omega) only [↓sgg, sww, simprocAttr, fa_26_0, fa_26_1, fa_26_2, fa_26_3, fa_26_4, fa_26_5, fa_26_6, fa_26_7, fa_26_8, fa_26_9, zero_26, lit_26, agg_26, size_26, agg_3, size_3, agg_24, size_24, agg_5, size_5, agg_23, size_23, lit_23, zero_23, cutAll11, cut45, cutAll2, cutAll3, a4, b4, e105]
    refine (refuses_ok _ (by (try simp (disch := omega) only [setRow_get, newRow_get, newRow_next, setRow_next, newRow_lo, setRow_lo, newRow_grps, setRow_grps, newRow_relo, setRow_relo, relo_objs, relo_next, relo_lo, nbeq_ne, sl]); omega) d 118 hd).mono ?_
    rintro v X5 ⟨rfl, s5⟩
    have n5 := s5.nxt
    have l5 := s5.lo
    (try simp (disch := omega) only [setRow_get, newRow_get, newRow_next, setRow_next, newRow_lo, setRow_lo, newRow_grps, setRow_grps, newRow_relo, setRow_relo, relo_objs, relo_next, relo_lo, nbeq_ne, sl] at n5)
    (try simp (disch := omega) only [setRow_get, newRow_get, newRow_next, setRow_next, newRow_lo, setRow_lo, newRow_grps, setRow_grps, newRow_relo, setRow_relo, relo_objs, relo_next, relo_lo, nbeq_ne, sl] at l5)
    have a5 := s5.objs H.next (by (try simp (disch := omega) only [setRow_get, newRow_get, newRow_next, setRow_next, newRow_lo, setRow_lo, newRow_grps, setRow_grps, newRow_relo, setRow_relo, relo_objs, relo_next, relo_lo, nbeq_ne, sl]); omega)
    have b5 := s5.objs (H.next + 1) (by (try simp (disch := omega) only [setRow_get, newRow_get, newRow_next, setRow_next, newRow_lo, setRow_lo, newRow_grps, setRow_grps, newRow_relo, setRow_relo, relo_objs, relo_next, relo_lo, nbeq_ne, sl]); omega)
    (try simp (disch := omega) only [setRow_get, newRow_get, newRow_next, setRow_next, newRow_lo, setRow_lo, newRow_grps, setRow_grps, newRow_relo, setRow_relo, relo_objs, relo_next, relo_lo, nbeq_ne, sl, a4, b4] at a5)
    (try simp (disch := omega) only [setRow_get, newRow_get, newRow_next, setRow_next, newRow_lo, setRow_lo, newRow_grps, setRow_grps, newRow_relo, setRow_relo, relo_objs, relo_next, relo_lo, nbeq_ne, sl, a4, b4] at b5)
    have t5 : Same H X5 := by
      refine Same.trans ?_ s5
      repeat (first | exact Same.refl _ | exact t4 | refine Same.setRow ?_ (by omega) _ | refine Same.newRow ?_ _)
    clear s5
    simp (maxSteps := 1000000) (disch := omega) only [↓sgg, sww, simprocAttr, fa_26_0, fa_26_1, fa_26_2, fa_26_3, fa_26_4, fa_26_5, fa_26_6, fa_26_7, fa_26_8, fa_26_9, zero_26, lit_26, agg_26, size_26, agg_3, size_3, agg_24, size_24, agg_5, size_5, agg_23, size_23, lit_23, zero_23, cutAll11, cut45, cutAll2, cutAll3, a5, b5, e118]
    refine (refuses_ok _ (by (try simp (disch := omega) only [setRow_get, newRow_get, newRow_next, setRow_next, newRow_lo, setRow_lo, newRow_grps, setRow_grps, newRow_relo, setRow_relo, relo_objs, relo_next, relo_lo, nbeq_ne, sl]); omega) d 119 hd).mono ?_
    rintro v X6 ⟨rfl, s6⟩
    have n6 := s6.nxt
    have l6 := s6.lo
    (try simp (disch := omega) only [setRow_get, newRow_get, newRow_next, setRow_next, newRow_lo, setRow_lo, newRow_grps, setRow_grps, newRow_relo, setRow_relo, relo_objs, relo_next, relo_lo, nbeq_ne, sl] at n6)
    (try simp (disch := omega) only [setRow_get, newRow_get, newRow_next, setRow_next, newRow_lo, setRow_lo, newRow_grps, setRow_grps, newRow_relo, setRow_relo, relo_objs, relo_next, relo_lo, nbeq_ne, sl] at l6)
    have a6 := s6.objs H.next (by (try simp (disch := omega) only [setRow_get, newRow_get, newRow_next, setRow_next, newRow_lo, setRow_lo, newRow_grps, setRow_grps, newRow_relo, setRow_relo, relo_objs, relo_next, relo_lo, nbeq_ne, sl]); omega)
    have b6 := s6.objs (H.next + 1) (by (try simp (disch := omega) only [setRow_get, newRow_get, newRow_next, setRow_next, newRow_lo, setRow_lo, newRow_grps, setRow_grps, newRow_relo, setRow_relo, relo_objs, relo_next, relo_lo, nbeq_ne, sl]); omega)
    (try simp (disch := omega) only [setRow_get, newRow_get, newRow_next, setRow_next, newRow_lo, setRow_lo, newRow_grps, setRow_grps, newRow_relo, setRow_relo, relo_objs, relo_next, relo_lo, nbeq_ne, sl, a5, b5] at a6)
    (try simp (disch := omega) only [setRow_get, newRow_get, newRow_next, setRow_next, newRow_lo, setRow_lo, newRow_grps, setRow_grps, newRow_relo, setRow_relo, relo_objs, relo_next, relo_lo, nbeq_ne, sl, a5, b5] at b6)
    have t6 : Same H X6 := by
      refine Same.trans ?_ s6
      repeat (first | exact Same.refl _ | exact t5 | refine Same.setRow ?_ (by omega) _ | refine Same.newRow ?_ _)
    clear s6
    simp (maxSteps := 1000000) (disch := omega) only [↓sgg, sww, simprocAttr, fa_26_0, fa_26_1, fa_26_2, fa_26_3, fa_26_4, fa_26_5, fa_26_6, fa_26_7, fa_26_8, fa_26_9, zero_26, lit_26, agg_26, size_26, agg_3, size_3, agg_24, size_24, agg_5, size_5, agg_23, size_23, lit_23, zero_23, cutAll11, cut45, cutAll2, cutAll3, a6, b6, e119]
    (try refine And.intro rfl ?_)
    repeat (first | exact t6 | refine Same.setRow ?_ (by omega) _)
