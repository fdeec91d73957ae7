/-
  Walks over letters of the functions that the law reaches.
-/
import Derived.Test.YtbpneihjlledpaaGreatDoorX5
set_option linter.unusedVariables false
set_option linter.unusedSectionVars false
namespace Go.AM
variable [Orc13]
attribute [local instance] fnMaps
open Go Go.Proofs
set_option maxRecDepth 100000
set_option maxHeartbeats 4000000
set_option linter.unusedSimpArgs false
def hv (c : UInt8) : Nat := if 48 ≤ c.toNat ∧ c.toNat ≤ 57 then c.toNat - 48 else if 97 ≤ c.toNat ∧ c.toNat ≤ 102 then c.toNat - 87 else 16
def hok (c : UInt8) : Bool := decide (hv c < 16)
def hexG : Nat → List UInt8 → Nat
  | a, [] => a
  | a, c :: l => hexG (16 * a + hv c) l
theorem hexG_app : ∀ (a : Nat) (l m : List UInt8), hexG a (l ++ m) = hexG (hexG a l) m
  | _, [], _ => rfl
  | a, c :: l, m => hexG_app (16 * a + hv c) l m
theorem hexG_snoc (a : Nat) (l : List UInt8) (c : UInt8) : hexG a (l ++ [c]) = 16 * hexG a l + hv c := by rw [hexG_app]; rfl
theorem hexG_lt : ∀ (l : List UInt8) (a k : Nat), l.all hok = true → a < 16 ^ k → hexG a l < 16 ^ (k + l.length)
  | [], a, k, _, h => h
  | c :: l, a, k, hd, h => by
    rw [List.all_cons, Bool.and_eq_true] at hd
    have h0 := of_decide_eq_true hd.1
    have h2 := hexG_lt l (16 * a + hv c) (k + 1) hd.2 (by rw [Nat.pow_succ]; omega)
    rw [show k + (c :: l).length = k + 1 + l.length by rw [List.length_cons]; omega]
    exact h2
def readW (l : List UInt8) : Nat × Int := if l.length = 16 ∧ l.all hok = true then (hexG 0 l, 0) else (0, 4)
theorem readW_lt (l : List UInt8) : (readW l).1 < 2 ^ 64 := by
  unfold readW
  split
  · rename_i h
    have := hexG_lt l 0 0 h.2 (by decide)
    rw [h.1, Nat.zero_add] at this
    exact this
  · decide
theorem hv_D : ∀ k : _root_.Fin 16, hv (hexD k.1) = k.1 := by decide
theorem hexD_iff {k : Nat} (h : k < 16) (c : UInt8) : hexD k = c ↔ hv c = k := by
  constructor
  · intro e; rw [← e]; exact hv_D ⟨k, h⟩
  · intro e
    unfold hv at e
    apply UInt8.toNat_inj.1
    unfold hexD
    split at e
    · rw [if_pos (by omega), u8_add k (by omega)]; omega
    · split at e
      · rw [if_neg (by omega)]
        have : ∀ k : _root_.Fin 16, (UInt8.ofNat (87 + k.1)).toNat = 87 + k.1 := by decide
        rw [this ⟨k, h⟩]
        show 87 + k = _
        omega
      · omega
theorem fn37 : E.fn.get 37 = some Tryz.f37 := by kernel_rfl
theorem rread_ok (H : Heap) (hlo : H.lo ≤ H.next) (l : List UInt8) (hl : l.length ≤ 1000000000) : CallA E (fnv 37) [.string (B l)] H fun r H' => r = .tuple #[.int .u64 (readW l).1, .int .i64 (readW l).2] ∧ Same H H' := by
  refine callA_fn (by kernel_rfl) fn37 rfl rfl ?_
  simp only [Tryz.f37]
  by_cases h16 : l.length = 16
  · repeat' (first | refine boolP_dec (fun _ => ?_) (fun _ => ?_) | apply boolP_not | refine boolP_b (fun _ => ?_) (fun _ => ?_) | ((with_reducible show Qs _ _ _ _ _); first | refine hQe _ _ _ _ ?_ | refine hQr _ _ _ ?_) | simp (maxSteps := 1000000) (disch := first | omega | (simp only [lenS, *]; omega)) only [↓sgg, sww, simprocAttr, sa, sS, *])
    all_goals try omega
    refine wps_named2 (fun T1 H1 eT eH => ?_)
    have k1 : Ko H H1 := by rw [eH]; exact koW
    have n1 := congrArg Heap.next eH; have l1 := congrArg Heap.lo eH; have g1 := fun r => congrArg (fun h : Heap => h.objs.get r) eH
    try simp (disch := omega) only [sm, sl] at n1 l1 g1
    clear eH
    have u1_0 := congrArg (fun T : Tr Value => T.get 0) eT
    have u1_4 := congrArg (fun T : Tr Value => T.get 4) eT
    have u1_5 := congrArg (fun T : Tr Value => T.get 5) eT
    simp only [get_set, of_nil, of_1, of_2, of_3, of_4, of_5, Nat.reduceEqDiff, if_true, if_false, reduceIte] at u1_0 u1_4 u1_5
    clear eT
    refine wp_loopN (by kernel_rfl) (fun nn T X => ∃ i : Nat, nn = 16 - i ∧ (T.get 4 = some (.int .u64 (hexG 0 (l.take i) : Nat)) ∧ T.get 5 = some (.int .i64 i)) ∧ (T.get 0 = T1.get 0) ∧ Ko H1 X ∧ X.lo = H1.lo ∧ (i ≤ 16 ∧ (l.take i).all hok = true)) ?_ ?_
    · refine ⟨_, 0, rfl, ?_, ?_, Ko.refl _, rfl, ⟨Nat.zero_le _, rfl⟩⟩ <;> exact nextW
    rintro nn T1' X1 ⟨i, rfl, m1, w1, kx1, lx1, ⟨hi, ha⟩⟩ Qs hQ hQr hQe
    have kX1 := k1.trans kx1; have nx1 := kx1.nxt; have gx1 := kx1.objs
    by_cases hlt : i < 16
    · have hlt' : i < l.length := by omega
      have hle : (l.take i).length = i := by rw [List.length_take]; omega
      have hv := hexG_lt (l.take i) 0 0 ha (by decide)
      rw [hle, Nat.zero_add] at hv
      have hp : 16 ^ i ≤ 16 ^ 15 := Nat.pow_le_pow_right (by decide) (by omega)
      have hv3 : hexG 0 (l.take i) < 16 ^ 15 := Nat.lt_of_lt_of_le hv hp
      clear hp hv
      have a1 := at_nat hlt
      have hg := List.getElem?_eq_getElem hlt'
      have hsn := take_snoc hlt'
      have hsv := hexG_snoc 0 (l.take i) l[i]
      rw [← hsn] at hsv
      have hal : (l.take (i + 1)).all hok = hok l[i] := by rw [hsn, List.all_append, ha, Bool.true_and, List.all_cons, List.all_nil, Bool.and_true]
      have hdd : l.all hok = true → hok l[i] = true := fun h => List.all_eq_true.1 h _ (List.getElem_mem hlt')
      generalize l[i] = x at hg hsv hal hdd
      generalize hexG 0 (l.take i) = vv at *
      have hx := u8_lt x
      by_cases hx1 : 48 ≤ x.toNat ∧ x.toNat ≤ 57
      · have hvx : AM.hv x = x.toNat - 48 := if_pos hx1
        have hok1 : hok x = true := by unfold hok; rw [hvx]; exact decide_eq_true (by omega)
        rw [hok1] at hal
        have e1 : IntKind.u8.wrap ((x.toNat : Int) - 48) = ((x.toNat - 48 : Nat) : Int) := by rw [wrap_u8 (by omega) (by omega)]; omega
        have e2 : ((hexG 0 (l.take (i + 1)) : Nat) : Int) = (vv : Int) * 16 + ((x.toNat - 48 : Nat) : Int) := by rw [hsv, hvx]; omega
        clear hdd hsn hsv hok1 hvx
        repeat' (first | refine boolP_dec (fun _ => ?_) (fun _ => ?_) | apply boolP_not | refine boolP_b (fun _ => ?_) (fun _ => ?_) | ((with_reducible show Qs _ _ _ _ _); first | refine hQe _ _ _ _ ?_ | refine hQr _ _ _ ?_) | simp (maxSteps := 1000000) (disch := first | omega | (simp only [lenS, *]; omega)) only [↓sgg, sww, simprocAttr, sa, sS, *])
        all_goals first | (refine hQ _ _ _ ?_ ⟨i + 1, rfl, ?_, ?_, ?_, ?_, ⟨by omega, hal⟩⟩ <;> exact nextW) | omega
      · by_cases hx2 : 97 ≤ x.toNat ∧ x.toNat ≤ 102
        · have hvx : AM.hv x = x.toNat - 87 := (if_neg hx1).trans (if_pos hx2)
          have hok1 : hok x = true := by unfold hok; rw [hvx]; exact decide_eq_true (by omega)
          rw [hok1] at hal
          have e1 : IntKind.u8.wrap ((x.toNat : Int) - 97) = ((x.toNat - 97 : Nat) : Int) := by rw [wrap_u8 (by omega) (by omega)]; omega
          have e2 : ((hexG 0 (l.take (i + 1)) : Nat) : Int) = (vv : Int) * 16 + ((x.toNat - 97 : Nat) : Int) + 10 := by rw [hsv, hvx]; omega
          clear hdd hsn hsv hok1 hvx
          repeat' (first | refine boolP_dec (fun _ => ?_) (fun _ => ?_) | apply boolP_not | refine boolP_b (fun _ => ?_) (fun _ => ?_) | ((with_reducible show Qs _ _ _ _ _); first | refine hQe _ _ _ _ ?_ | refine hQr _ _ _ ?_) | simp (maxSteps := 1000000) (disch := first | omega | (simp only [lenS, *]; omega)) only [↓sgg, sww, simprocAttr, sa, sS, *])
          all_goals first | (refine hQ _ _ _ ?_ ⟨i + 1, rfl, ?_, ?_, ?_, ?_, ⟨by omega, hal⟩⟩ <;> exact nextW) | omega
        · have hvx : AM.hv x = 16 := (if_neg hx1).trans (if_neg hx2)
          have e : readW l = (0, 4) := by
            unfold readW
            refine if_neg fun h => ?_
            have := of_decide_eq_true (hdd h.2)
            omega
          clear hdd hsn hsv hvx hal
          repeat' (first | refine boolP_dec (fun _ => ?_) (fun _ => ?_) | apply boolP_not | refine boolP_b (fun _ => ?_) (fun _ => ?_) | ((with_reducible show Qs _ _ _ _ _); first | refine hQe _ _ _ _ ?_ | refine hQr _ _ _ ?_) | simp (maxSteps := 1000000) (disch := first | omega | (simp only [lenS, *]; omega)) only [↓sgg, sww, simprocAttr, sa, sS, *])
          all_goals first | (first | (with_reducible exact sameW) | ((with_reducible show _ ∧ _); exact ⟨by first | rfl | (simp [*] <;> omega), sameW⟩)) | omega
    · have hie : i = 16 := by omega
      subst hie
      rw [List.take_of_length_le (by omega)] at ha m1
      have e : readW l = (hexG 0 l, 0) := by unfold readW; exact if_pos ⟨h16, ha⟩
      repeat' (first | refine boolP_dec (fun _ => ?_) (fun _ => ?_) | apply boolP_not | refine boolP_b (fun _ => ?_) (fun _ => ?_) | ((with_reducible show Qs _ _ _ _ _); first | refine hQe _ _ _ _ ?_ | refine hQr _ _ _ ?_) | simp (maxSteps := 1000000) (disch := first | omega | (simp only [lenS, *]; omega)) only [↓sgg, sww, simprocAttr, sa, sS, *])
      all_goals first | (first | (with_reducible exact sameW) | ((with_reducible show _ ∧ _); exact ⟨by first | rfl | (simp [*] <;> omega), sameW⟩)) | omega
  · have e : readW l = (0, 4) := by unfold readW; exact if_neg fun h => h16 h.1
    repeat' (first | refine boolP_dec (fun _ => ?_) (fun _ => ?_) | apply boolP_not | refine boolP_b (fun _ => ?_) (fun _ => ?_) | ((with_reducible show Qs _ _ _ _ _); first | refine hQe _ _ _ _ ?_ | refine hQr _ _ _ ?_) | simp (maxSteps := 1000000) (disch := first | omega | (simp only [lenS, *]; omega)) only [↓sgg, sww, simprocAttr, sa, sS, *])
    all_goals first | (first | (with_reducible exact sameW) | ((with_reducible show _ ∧ _); exact ⟨by first | rfl | (simp [*] <;> omega), sameW⟩)) | omega
end Go.AM
