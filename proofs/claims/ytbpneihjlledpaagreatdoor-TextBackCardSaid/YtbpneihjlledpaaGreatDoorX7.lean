/-
  Walks over letters of the functions that the law reaches.
-/
import Derived.Test.YtbpneihjlledpaaGreatDoorX6
set_option linter.unusedVariables false
set_option linter.unusedSectionVars false
namespace Go.AM
variable [Orc13]
attribute [local instance] fnMaps
open Go Go.Proofs
set_option maxRecDepth 100000
set_option maxHeartbeats 4000000
set_option linter.unusedSimpArgs false
def dk (x : UInt8) (k : Nat) : Int := if AM.hv x < k then (AM.hv x : Int) else -1
theorem dk_hit {x : UInt8} {k : Nat} (h : AM.hv x = k) : dk x (k + 1) = k := by unfold dk; rw [if_pos (by omega), h]
theorem dk_miss {x : UInt8} {k : Nat} (h : AM.hv x ≠ k) : dk x (k + 1) = dk x k := by
  unfold dk
  by_cases h1 : AM.hv x < k
  · rw [if_pos h1, if_pos (by omega)]
  · rw [if_neg h1, if_neg (by omega)]
theorem shl_4 {a : Nat} (h : a < 16 ^ 15) : shiftOp .shl .u64 (a : Int) 4 = some (.int .u64 ((16 * a : Nat) : Int)) := by
  rw [shift_shl _ _ _ (by decide), bits64]
  have e : (a : Int) * 2 ^ (min (4 : Int).toNat 64) = ((16 * a : Nat) : Int) := by
    have : min (4 : Int).toNat 64 = 4 := by decide
    rw [this]; omega
  rw [e, wrap_u64 (by omega) (by omega)]
theorem or_hex {a d : Nat} (h : a < 16 ^ 15) (hd : d < 16) : intOp .or .u64 ((16 * a : Nat) : Int) (d : Int) = some (.int .u64 ((16 * a + d : Nat) : Int)) := by
  rw [or_nat (by omega) (by omega)]
  congr 3
  rw [show 16 * a = 2 ^ 4 * a by omega, ← Nat.two_pow_add_eq_or_of_lt (by omega)]
theorem fn52 : E.fn.get 52 = some Tryz.f52 := by kernel_rfl
theorem wread_ok (H : Heap) (hlo : H.lo ≤ H.next) (l : List UInt8) (hl : l.length ≤ 1000000000) : CallA E (fnv 52) [.string (B l)] H fun r H' => r = .tuple #[.int .u64 (readW l).1, .int .i64 (readW l).2] ∧ Same H H' := by
  refine callA_fn (by kernel_rfl) fn52 rfl rfl ?_
  simp only [Tryz.f52]
  by_cases h16 : l.length = 16
  · repeat' (first | refine boolP_dec (fun _ => ?_) (fun _ => ?_) | apply boolP_not | refine boolP_b (fun _ => ?_) (fun _ => ?_) | refine wps_draw (id := 11) [Fx, Fx, Fx, Fx, Fx, Fx] (by kernel_rfl) ?_ | ((with_reducible show Qs _ _ _ _ _); first | refine hQe _ _ _ _ ?_ | refine hQr _ _ _ ?_) | simp (maxSteps := 1000000) (disch := first | omega | (simp only [lenS, *]; omega)) only [↓sgg, sww, simprocAttr, sa, sS, *])
    all_goals try omega
    refine wps_named2 (fun T1 H1 eT eH => ?_)
    have k1 : Ko H H1 := by rw [eH]; exact koW
    have n1 := congrArg Heap.next eH; have l1 := congrArg Heap.lo eH; have g1 := fun r => congrArg (fun h : Heap => h.objs.get r) eH
    try simp (disch := omega) only [sm, sl] at n1 l1 g1
    clear eH
    have u1_0 := congrArg (fun T : Tr Value => T.get 0) eT
    have u1_4 := congrArg (fun T : Tr Value => T.get 4) eT
    have u1_12 := congrArg (fun T : Tr Value => T.get 12) eT
    have u1_13 := congrArg (fun T : Tr Value => T.get 13) eT
    simp only [get_set, of_nil, of_1, of_2, of_3, of_4, of_5, Nat.reduceEqDiff, if_true, if_false, reduceIte] at u1_0 u1_4 u1_12 u1_13
    clear eT
    refine wp_loopN (by kernel_rfl) (fun nn T X => ∃ i : Nat, nn = 16 - i ∧ (T.get 4 = some (.int .u64 (hexG 0 (l.take i) : Nat)) ∧ T.get 13 = some (.int .i64 i)) ∧ (T.get 0 = T1.get 0 ∧ T.get 12 = T1.get 12) ∧ Ko H1 X ∧ X.lo = H1.lo ∧ (i ≤ 16 ∧ (l.take i).all hok = true)) ?_ ?_
    · refine ⟨_, 0, rfl, ?_, ?_, Ko.refl _, rfl, ⟨Nat.zero_le _, rfl⟩⟩ <;> exact nextW
    rintro nn T1' X1 ⟨i, rfl, m1, w1, kx1, lx1, ⟨hi, ha⟩⟩ Qs hQ hQr hQe
    have kX1 := k1.trans kx1; have nx1 := kx1.nxt; have gx1 := kx1.objs
    by_cases hlt : i < 16
    · have hlt' : i < l.length := by omega
      have hle : (l.take i).length = i := by rw [List.length_take]; omega
      have hv := hexG_lt (l.take i) 0 0 ha (by decide)
      rw [hle, Nat.zero_add] at hv
      have hp : 16 ^ i ≤ 16 ^ 15 := Nat.pow_le_pow_right (by decide) (by omega)
      have hv3 : hexG 0 (l.take i) < 16 ^ 15 := Nat.lt_of_lt_of_le hv hp
      clear hp hv
      have a1 := at_nat hlt
      have hg := List.getElem?_eq_getElem hlt'
      have hsn := take_snoc hlt'
      have hsv := hexG_snoc 0 (l.take i) l[i]
      rw [← hsn] at hsv
      have hal : (l.take (i + 1)).all hok = hok l[i] := by rw [hsn, List.all_append, ha, Bool.true_and, List.all_cons, List.all_nil, Bool.and_true]
      have hdd : l.all hok = true → hok l[i] = true := fun h => List.all_eq_true.1 h _ (List.getElem_mem hlt')
      generalize l[i] = x at hg hsv hal hdd
      generalize hexG 0 (l.take i) = vv at *
      have d0 : dk x 0 = -1 := if_neg (Nat.not_lt_zero _)
      repeat' (first | refine boolP_dec (fun _ => ?_) (fun _ => ?_) | apply boolP_not | refine boolP_b (fun _ => ?_) (fun _ => ?_) | refine wps_draw (id := 11) [Fx, Fx, Fx, Fx, Fx, Fx] (by kernel_rfl) ?_ | ((with_reducible show Qs _ _ _ _ _); first | refine hQe _ _ _ _ ?_ | refine hQr _ _ _ ?_) | simp (maxSteps := 1000000) (disch := first | omega | (simp only [lenS, *]; omega)) only [↓sgg, sww, simprocAttr, sa, sS, *])
      all_goals try omega
      have hQ0 := hQ
      have hQr0 := hQr
      refine wps_named2 (fun T2 H2 eT eH => ?_)
      have k2 : Ko H H2 := by rw [eH]; exact koW
      have j2 : Ko H1 H2 := by rw [eH]; exact koW
      have n2 := congrArg Heap.next eH; have l2 := congrArg Heap.lo eH; have g2 := fun r => congrArg (fun h : Heap => h.objs.get r) eH
      try simp (disch := omega) only [sm, sl] at n2 l2 g2
      clear eH
      have u2_0 := congrArg (fun T : Tr Value => T.get 0) eT
      have u2_4 := congrArg (fun T : Tr Value => T.get 4) eT
      have u2_5 := congrArg (fun T : Tr Value => T.get 5) eT
      have u2_6 := congrArg (fun T : Tr Value => T.get 6) eT
      have u2_12 := congrArg (fun T : Tr Value => T.get 12) eT
      have u2_13 := congrArg (fun T : Tr Value => T.get 13) eT
      have u2_16 := congrArg (fun T : Tr Value => T.get 16) eT
      simp only [get_set, of_nil, of_1, of_2, of_3, of_4, of_5, Nat.reduceEqDiff, if_true, if_false, reduceIte] at u2_0 u2_4 u2_5 u2_6 u2_12 u2_13 u2_16
      clear eT
      refine wp_loopN (by kernel_rfl) (fun nn T X => ∃ k : Nat, nn = 16 - k ∧ (T.get 6 = some (.int .i64 (dk x k)) ∧ T.get 16 = some (.int .i64 k)) ∧ (T.get 0 = T2.get 0 ∧ T.get 4 = T2.get 4 ∧ T.get 5 = T2.get 5 ∧ T.get 12 = T2.get 12 ∧ T.get 13 = T2.get 13) ∧ Ko H2 X ∧ X.lo = H2.lo ∧ (k ≤ 16)) ?_ ?_
      · refine ⟨_, 0, rfl, ?_, ?_, Ko.refl _, rfl, Nat.zero_le _⟩ <;> exact nextW
      rintro nn T2' X2 ⟨k, rfl, m2, w2, kx2, lx2, hk⟩ Qs hQ hQr hQe
      have kX2 := k2.trans kx2; have nx2 := kx2.nxt; have gx2 := kx2.objs
      clear d0
      by_cases hkt : k < 16
      · have b1 := at_nat hkt
        have hp := hex_pick hkt
        have hD := hexD_iff hkt x
        by_cases hh : AM.hv x = k
        · have hd := dk_hit hh
          have hc : decide (((hexD k).toNat : Int) = x.toNat) = true := decide_eq_true (by rw [hD.2 hh])
          clear hD hsv hal hdd
          repeat' (first | refine boolP_dec (fun _ => ?_) (fun _ => ?_) | apply boolP_not | refine boolP_b (fun _ => ?_) (fun _ => ?_) | refine wps_draw (id := 11) [Fx, Fx, Fx, Fx, Fx, Fx] (by kernel_rfl) ?_ | ((with_reducible show Qs _ _ _ _ _); first | refine hQe _ _ _ _ ?_ | refine hQr _ _ _ ?_) | simp (maxSteps := 1000000) (disch := first | omega | (simp only [lenS, *]; omega)) only [↓sgg, sww, simprocAttr, sa, sS, hex16_eq, hex16_len, *])
          all_goals first | (refine hQ _ _ _ ?_ ⟨k + 1, rfl, ?_, ?_, ?_, ?_, by omega⟩ <;> exact nextW) | omega
        · have hd := dk_miss hh
          have hc : decide (((hexD k).toNat : Int) = x.toNat) = false := decide_eq_false fun e => hh (hD.1 (UInt8.toNat_inj.1 (by omega)))
          clear hD hsv hal hdd
          repeat' (first | refine boolP_dec (fun _ => ?_) (fun _ => ?_) | apply boolP_not | refine boolP_b (fun _ => ?_) (fun _ => ?_) | refine wps_draw (id := 11) [Fx, Fx, Fx, Fx, Fx, Fx] (by kernel_rfl) ?_ | ((with_reducible show Qs _ _ _ _ _); first | refine hQe _ _ _ _ ?_ | refine hQr _ _ _ ?_) | simp (maxSteps := 1000000) (disch := first | omega | (simp only [lenS, *]; omega)) only [↓sgg, sww, simprocAttr, sa, sS, hex16_eq, hex16_len, *])
          all_goals first | (refine hQ _ _ _ ?_ ⟨k + 1, rfl, ?_, ?_, ?_, ?_, by omega⟩ <;> exact nextW) | omega
      · have hke : k = 16 := by omega
        subst hke
        have kk : Ko H1 X2 := j2.trans kx2
        by_cases hok1 : AM.hv x < 16
        · have hdk : dk x 16 = (AM.hv x : Int) := if_pos hok1
          have hok2 : hok x = true := decide_eq_true hok1
          rw [hok2] at hal
          have hs4 := shl_4 hv3
          have ho4 := or_hex hv3 hok1
          clear hdd hok2 hsn
          repeat' (first | refine boolP_dec (fun _ => ?_) (fun _ => ?_) | apply boolP_not | refine boolP_b (fun _ => ?_) (fun _ => ?_) | refine wps_draw (id := 11) [Fx, Fx, Fx, Fx, Fx, Fx] (by kernel_rfl) ?_ | ((with_reducible show Qs _ _ _ _ _); first | refine hQe _ _ _ _ ?_ | refine hQr _ _ _ ?_) | simp (maxSteps := 1000000) (disch := first | omega | (simp only [lenS, *]; omega)) only [↓sgg, sww, simprocAttr, sa, sS, *])
          all_goals try omega
          have hQ := hQ0
          have kxx : Ko H1 X2 := kk
          have lxx : X2.lo = H1.lo := by omega
          have e2 : ((hexG 0 (l.take (i + 1)) : Nat) : Int) = ((16 * vv + AM.hv x : Nat) : Int) := by rw [hsv]
          clear hsv
          refine hQ _ _ _ ?_ ⟨i + 1, rfl, ?_, ?_, ?_, ?_, ⟨by omega, hal⟩⟩ <;> exact nextW
        · have hdk : dk x 16 = -1 := if_neg hok1
          have e : readW l = (0, 4) := by
            unfold readW
            refine if_neg fun h => ?_
            exact hok1 (of_decide_eq_true (hdd h.2))
          clear hdd hsv hal
          repeat' (first | refine boolP_dec (fun _ => ?_) (fun _ => ?_) | apply boolP_not | refine boolP_b (fun _ => ?_) (fun _ => ?_) | refine wps_draw (id := 11) [Fx, Fx, Fx, Fx, Fx, Fx] (by kernel_rfl) ?_ | ((with_reducible show Qs _ _ _ _ _); first | refine hQe _ _ _ _ ?_ | refine hQr _ _ _ ?_) | simp (maxSteps := 1000000) (disch := first | omega | (simp only [lenS, *]; omega)) only [↓sgg, sww, simprocAttr, sa, sS, *])
          all_goals try omega
          refine hQr0 _ _ _ ?_
          repeat' (first | refine boolP_dec (fun _ => ?_) (fun _ => ?_) | apply boolP_not | refine boolP_b (fun _ => ?_) (fun _ => ?_) | refine wps_draw (id := 11) [Fx, Fx, Fx, Fx, Fx, Fx] (by kernel_rfl) ?_ | ((with_reducible show Qs _ _ _ _ _); first | refine hQe _ _ _ _ ?_ | refine hQr _ _ _ ?_) | simp (maxSteps := 1000000) (disch := first | omega | (simp only [lenS, *]; omega)) only [↓sgg, sww, simprocAttr, sa, sS, *])
          all_goals first | (first | (with_reducible exact sameW) | ((with_reducible show _ ∧ _); exact ⟨by first | rfl | (simp [*] <;> omega), sameW⟩)) | omega
    · have hie : i = 16 := by omega
      subst hie
      rw [List.take_of_length_le (by omega)] at ha m1
      have e : readW l = (hexG 0 l, 0) := by unfold readW; exact if_pos ⟨h16, ha⟩
      repeat' (first | refine boolP_dec (fun _ => ?_) (fun _ => ?_) | apply boolP_not | refine boolP_b (fun _ => ?_) (fun _ => ?_) | refine wps_draw (id := 11) [Fx, Fx, Fx, Fx, Fx, Fx] (by kernel_rfl) ?_ | ((with_reducible show Qs _ _ _ _ _); first | refine hQe _ _ _ _ ?_ | refine hQr _ _ _ ?_) | simp (maxSteps := 1000000) (disch := first | omega | (simp only [lenS, *]; omega)) only [↓sgg, sww, simprocAttr, sa, sS, *])
      all_goals first | (first | (with_reducible exact sameW) | ((with_reducible show _ ∧ _); exact ⟨by first | rfl | (simp [*] <;> omega), sameW⟩)) | omega
  · have e : readW l = (0, 4) := by unfold readW; exact if_neg fun h => h16 h.1
    repeat' (first | refine boolP_dec (fun _ => ?_) (fun _ => ?_) | apply boolP_not | refine boolP_b (fun _ => ?_) (fun _ => ?_) | refine wps_draw (id := 11) [Fx, Fx, Fx, Fx, Fx, Fx] (by kernel_rfl) ?_ | ((with_reducible show Qs _ _ _ _ _); first | refine hQe _ _ _ _ ?_ | refine hQr _ _ _ ?_) | simp (maxSteps := 1000000) (disch := first | omega | (simp only [lenS, *]; omega)) only [↓sgg, sww, simprocAttr, sa, sS, *])
    all_goals first | (first | (with_reducible exact sameW) | ((with_reducible show _ ∧ _); exact ⟨by first | rfl | (simp [*] <;> omega), sameW⟩)) | omega
end Go.AM
