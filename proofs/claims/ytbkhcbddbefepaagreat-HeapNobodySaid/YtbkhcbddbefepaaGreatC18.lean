/-
  Walks over letters of the functions that the law reaches.
-/
import Derived.Test.YtbkhcbddbefepaaGreatC17
namespace Go.AM
attribute [local instance] fnMaps
open Go Go.Proofs
set_option maxRecDepth 100000
set_option maxHeartbeats 1000000
set_option linter.unusedSimpArgs false
def rgG (ob : Option AObj) (r : Nat) : Option AObj := match ob with
  | some (.map es) => some (.iter (some r) es.length .start)
  | some (.mapg _ c) => some (.iterg r c [] c)
  | _ => none
theorem rgG_map (es : List (Value × Value)) (r : Nat) : rgG (some (.map es)) r = some (.iter (some r) es.length .start) := Eq.trans rfl rfl
theorem rgg_108 (H : Heap) (r : Nat) : rangeTO E H 108 (.map (some r)) = rgG (H.objs.get r) r := by
  rw [rg_108]
  cases h : H.objs.get r with
  | none => simp [rgG, gOf, entriesOf, h]
  | some o => cases o <;> simp [rgG, gOf, entriesOf, h]
def fieldsK (ws : List Nat) (ks : List Int) (p : Int) : Bool := (List.range (headAt ws p).fields.toNat).all fun k => leadsB ks (fieldW ws p k false)
def keyOf : Value × Value → Int
  | (.int _ a, _) => a
  | _ => 0
theorem Ar.fieldW_lt {H : Heap} {a rw g : Nat} {ws : List Nat} (h : Ar H a rw g ws) (p k : Int) (raw : Bool) : fieldW ws p k raw < 2 ^ 64 := by
  unfold fieldW
  split
  · exact h.lt _
  · omega
theorem headAt_fields (ws : List Nat) (p : Int) : 0 ≤ (headAt ws p).fields ∧ (headAt ws p).fields ≤ 65535 := by
  unfold headAt
  split
  · rename_i h
    have h2 := headE_in h
    have := okH_in h2.2.2.1
    rw [h2.2.2.2.2] at this
    omega
  · exact ⟨by decide, by decide⟩
theorem fn82 : E.fn.get 82 = some Tryz.f82 := by kernel_rfl
theorem sfields_ok (H : Heap) (hlo : H.lo ≤ H.next) {lp a rw m : Nat} {s : St} {w t f zl smv : Value} {sml ks : List Int} (hk : Lk H lp s w t f zl a rw m smv sml ks) (hl : lp < H.next) (hb : ∀ x ∈ ks, -9223372036854775808 ≤ x ∧ x ≤ 9223372036854775807) : CallA E (fnv 82) [ptr lp 0] H fun r H' => r = .bool (ks.all (fieldsK s.words ks)) ∧ Same H H' := by
  have hrow := hk.row
  have hA := hk.ar
  have hm := hk.map
  have hlm := hk.lm
  unfold lkC at hrow
  refine callA_fn (by kernel_rfl) fn82 rfl rfl ?_
  simp only [Tryz.f82]
  repeat' (first | refine boolP_dec (fun _ => ?_) (fun _ => ?_) | apply boolP_not | refine boolP_b (fun _ => ?_) (fun _ => ?_) | ((with_reducible show Qs _ _ _ _ _); first | refine hQe _ _ _ _ ?_ | refine hQr _ _ _ ?_) | simp (config := { maxSteps := 1000000 }) (disch := omega) only [↓sh, ↓sh2, ↓reduceIte, sx, sl, sb, st, nbeq_ne, dle, relo_eq, wrap_i64, Nat.reduceBEq, Nat.reduceLT, Nat.reduceLeDiff, Nat.reduceAdd, Nat.reduceMul, Nat.reduceEqDiff, Int.reduceEq, Int.reduceLT, Int.reduceLE, Int.reduceNeg, Int.reduceToNat, Bool.false_eq_true, eq_self, sa, rgg_108, rgG_map, *])
  refine wps_named2 (fun T1 H1 eT eH => ?_)
  have sH : Same H H1 := by rw [eH]; exact same_add _ _
  have n1 : H1.next = H.next + 1 := by rw [eH, add_next]
  have i1 : H1.objs.get H.next = some (.iter (some m) (esK ks).length .start) := by rw [eH, addO_get, nbeq_eq rfl]; rfl
  have t13 : T1.get 13 = some (ptr H.next 0) := by rw [eT]; simp (config := { maxSteps := 1000000 }) (disch := omega) only [↓sh, ↓sh2, ↓reduceIte, sx, sl, sb, st, nbeq_ne, dle, relo_eq, wrap_i64, Nat.reduceBEq, Nat.reduceLT, Nat.reduceLeDiff, Nat.reduceAdd, Nat.reduceMul, Nat.reduceEqDiff, Int.reduceEq, Int.reduceLT, Int.reduceLE, Int.reduceNeg, Int.reduceToNat, Bool.false_eq_true, eq_self]
  have t0 : T1.get 0 = some (ptr lp 0) := by rw [eT]; simp (config := { maxSteps := 1000000 }) (disch := omega) only [↓sh, ↓sh2, ↓reduceIte, sx, sl, sb, st, nbeq_ne, dle, relo_eq, wrap_i64, Nat.reduceBEq, Nat.reduceLT, Nat.reduceLeDiff, Nat.reduceAdd, Nat.reduceMul, Nat.reduceEqDiff, Int.reduceEq, Int.reduceLT, Int.reduceLE, Int.reduceNeg, Int.reduceToNat, Bool.false_eq_true, eq_self]
  have hlm1 := sH.lo
  have m1 := sH.keeps hlm hm
  clear eT eH
  refine wps_map (it := .tmp 13) (r := H.next) (rm := m) (es := esK ks) (by kernel_rfl) 2 (.bool false) (fun e => !fieldsK s.words ks (keyOf e)) (of_decide_eq_true (by kernel_rfl)) rfl ?_ t13 i1 m1 (by omega) ?_ ?_ ?_
  · show (dropAll _ T1).get 13 = _
    rw [dropAll_eq, t13]
    kernel_rfl
  · intro i e he
    unfold Round
    generalize hT0 : dropAll _ T1 = T0
    have f0 : T0.get 0 = some (ptr lp 0) := by rw [← hT0, dropAll_eq, t0]; kernel_rfl
    have f13 : T0.get 13 = some (ptr H.next 0) := by rw [← hT0, dropAll_eq, t13]; kernel_rfl
    clear hT0
    have he0 := he
    unfold esK at he
    rw [List.getElem?_map, Option.map_eq_some_iff] at he
    obtain ⟨p, hp, rfl⟩ := he
    have hpb := hb p (List.mem_of_getElem? hp)
    generalize hHr : ({ objs := (H1.setObj H.next (.iter (some m) (esK ks).length (.told i))).objs, grps := H1.grps, next := H1.next, lo := H1.next } : Heap) = Hr
    have kr : Ko H Hr := by rw [← hHr]; exact ⟨sH.nxt, fun x hx => by show (H1.setObj H.next _).objs.get x = _; rw [setO_get, nbeq_ne (by omega)]; exact sH.objs x hx, sH.grps⟩
    have nr : Hr.next = H1.next := by rw [← hHr]
    have lr : Hr.lo = H1.next := by rw [← hHr]
    have ir : Hr.objs.get H.next = some (.iter (some m) (esK ks).length (.told i)) := by rw [← hHr]; show (H1.setObj H.next _).objs.get H.next = _; rw [setO_get, nbeq_eq rfl]; rfl
    clear hHr
    have hent := entry_at ir ((kr.objs m hlm).trans hm) rfl he0
    have rr := (kr.objs lp hl).trans hrow
    have mr := (kr.objs m hlm).trans hm
    have hAr := hA.same kr
    have lr1 : lp < Hr.next := by omega
    have lr2 : m < Hr.next := by omega
    refine wph_seq (wph_region rfl ?_)
    repeat' (first | refine boolP_dec (fun _ => ?_) (fun _ => ?_) | apply boolP_not | refine boolP_b (fun _ => ?_) (fun _ => ?_) | ((with_reducible show Qs _ _ _ _ _); first | refine hQe _ _ _ _ ?_ | refine hQr _ _ _ ?_) | simp (config := { maxSteps := 1000000 }) (disch := omega) only [↓sh, ↓sh2, ↓reduceIte, sx, sl, sb, st, nbeq_ne, dle, relo_eq, wrap_i64, Nat.reduceBEq, Nat.reduceLT, Nat.reduceLeDiff, Nat.reduceAdd, Nat.reduceMul, Nat.reduceEqDiff, Int.reduceEq, Int.reduceLT, Int.reduceLE, Int.reduceNeg, Int.reduceToNat, Bool.false_eq_true, eq_self, sa, OP_entry, *])
    refine call_ko (H0 := Hr) koW (ohead_ok _ loW hAr p hpb) ?_
    intro H2 k2 l2 n2 g2 q2
    repeat' (first | refine boolP_dec (fun _ => ?_) (fun _ => ?_) | apply boolP_not | refine boolP_b (fun _ => ?_) (fun _ => ?_) | ((with_reducible show Qs _ _ _ _ _); first | refine hQe _ _ _ _ ?_ | refine hQr _ _ _ ?_) | simp (config := { maxSteps := 1000000 }) (disch := omega) only [↓sh, ↓sh2, ↓reduceIte, sx, sl, sb, st, nbeq_ne, dle, relo_eq, wrap_i64, Nat.reduceBEq, Nat.reduceLT, Nat.reduceLeDiff, Nat.reduceAdd, Nat.reduceMul, Nat.reduceEqDiff, Int.reduceEq, Int.reduceLT, Int.reduceLE, Int.reduceNeg, Int.reduceToNat, Bool.false_eq_true, eq_self, sa, hdV, *])
    have hfl := headAt_fields s.words p
    have hL : fieldsK s.words ks p = (List.range (headAt s.words p).fields.toNat).all (fun k => leadsB ks (fieldW s.words p k false)) := rfl
    generalize hnf : (headAt s.words p).fields.toNat = nf at hL
    have hnf' : (headAt s.words p).fields = nf := by omega
    rw [hnf']
    refine wps_named2 (fun T5 H5 eT eH => ?_)
    have k5 : Ko Hr H5 := by rw [eH]; exact koW
    have n5 := k5.nxt
    have l5 : H5.lo = Hr.lo := by rw [eH]; simp (config := { maxSteps := 1000000 }) (disch := omega) only [↓sh, ↓sh2, ↓reduceIte, sx, sl, sb, st, nbeq_ne, dle, relo_eq, wrap_i64, Nat.reduceBEq, Nat.reduceLT, Nat.reduceLeDiff, Nat.reduceAdd, Nat.reduceMul, Nat.reduceEqDiff, Int.reduceEq, Int.reduceLT, Int.reduceLE, Int.reduceNeg, Int.reduceToNat, Bool.false_eq_true, eq_self, sa, *]
    have u28 : T5.get 28 = some (.int .i64 nf) := by rw [eT]; simp (config := { maxSteps := 1000000 }) (disch := omega) only [↓sh, ↓sh2, ↓reduceIte, sx, sl, sb, st, nbeq_ne, dle, relo_eq, wrap_i64, Nat.reduceBEq, Nat.reduceLT, Nat.reduceLeDiff, Nat.reduceAdd, Nat.reduceMul, Nat.reduceEqDiff, Int.reduceEq, Int.reduceLT, Int.reduceLE, Int.reduceNeg, Int.reduceToNat, Bool.false_eq_true, eq_self]
    have u29 : T5.get 29 = some (.int .i64 0) := by rw [eT]; simp (config := { maxSteps := 1000000 }) (disch := omega) only [↓sh, ↓sh2, ↓reduceIte, sx, sl, sb, st, nbeq_ne, dle, relo_eq, wrap_i64, Nat.reduceBEq, Nat.reduceLT, Nat.reduceLeDiff, Nat.reduceAdd, Nat.reduceMul, Nat.reduceEqDiff, Int.reduceEq, Int.reduceLT, Int.reduceLE, Int.reduceNeg, Int.reduceToNat, Bool.false_eq_true, eq_self]
    have u0 : T5.get 0 = some (ptr lp 0) := by rw [eT]; simp (config := { maxSteps := 1000000 }) (disch := omega) only [↓sh, ↓sh2, ↓reduceIte, sx, sl, sb, st, nbeq_ne, dle, relo_eq, wrap_i64, Nat.reduceBEq, Nat.reduceLT, Nat.reduceLeDiff, Nat.reduceAdd, Nat.reduceMul, Nat.reduceEqDiff, Int.reduceEq, Int.reduceLT, Int.reduceLE, Int.reduceNeg, Int.reduceToNat, Bool.false_eq_true, eq_self, f0]
    have u3 : T5.get 3 = some (.int .i64 p) := by rw [eT]; simp (config := { maxSteps := 1000000 }) (disch := omega) only [↓sh, ↓sh2, ↓reduceIte, sx, sl, sb, st, nbeq_ne, dle, relo_eq, wrap_i64, Nat.reduceBEq, Nat.reduceLT, Nat.reduceLeDiff, Nat.reduceAdd, Nat.reduceMul, Nat.reduceEqDiff, Int.reduceEq, Int.reduceLT, Int.reduceLE, Int.reduceNeg, Int.reduceToNat, Bool.false_eq_true, eq_self]
    clear eT eH
    refine wp_loopN (by kernel_rfl) (fun nn T X => ∃ j : Nat, nn = nf - j ∧ j ≤ nf ∧ T.get 29 = some (.int .i64 j) ∧ T.get 28 = some (.int .i64 nf) ∧ T.get 0 = some (ptr lp 0) ∧ T.get 3 = some (.int .i64 p) ∧ Ko Hr X ∧ X.lo = Hr.lo ∧ ∀ k : Nat, k < j → leadsB ks (fieldW s.words p k false) = true) ⟨_, 0, rfl, Nat.zero_le _, u29, u28, u0, u3, k5, l5, fun k hk => absurd hk (by omega)⟩ ?_
    rintro nn T X ⟨j, rfl, hj, v29, v28, v0, v3, kX, lX, hall⟩ Qs hQ hQr hQe
    have nX := kX.nxt
    have rX := (kX.objs lp lr1).trans rr
    have mX := (kX.objs m lr2).trans mr
    have AX := hAr.same kX
    by_cases hlt : j < nf
    · have hwl := hAr.fieldW_lt p j false
      have hlk := fun (H0 : Heap) (h0 : H0.lo ≤ H0.next) (k : Ko Hr H0) => leads_ok H0 h0 ((k.objs lp lr1).trans rr) rfl ((k.objs m lr2).trans mr) (Nat.lt_of_lt_of_le lr1 k.nxt) (Nat.lt_of_lt_of_le lr2 k.nxt) (fieldW s.words p j false) hwl
      cases hb1 : leadsB ks (fieldW s.words p j false) with
      | false =>
        have hz : fieldsK s.words ks p = false := by
          rw [hL, List.all_eq_false]
          exact ⟨j, List.mem_range.2 hlt, by rw [hb1]; simp⟩
        have hz2 : fieldsK s.words ks (keyOf (.int .i64 p, .bool true)) = false := hz
        repeat' (first | refine boolP_dec (fun _ => ?_) (fun _ => ?_) | apply boolP_not | refine boolP_b (fun _ => ?_) (fun _ => ?_) | ((with_reducible show CallA _ _ _ _ _); (first | refine call_ko (H0 := X) koW (ofield_ok _ loW (AX.same koW) p hpb j) ?_ | refine call_ko (H0 := X) koW (hlk _ loW koW) ?_); intro H2 k2 l2 n2 g2 q2; try simp (disch := omega) only [sm, sl] at l2 n2 g2 q2) | ((with_reducible show Qs _ _ _ _ _); first | refine hQe _ _ _ _ ?_ | refine hQr _ _ _ ?_) | simp (config := { maxSteps := 1000000 }) (disch := omega) only [↓sh, ↓sh2, ↓reduceIte, sx, sl, sb, st, nbeq_ne, dle, relo_eq, wrap_i64, Nat.reduceBEq, Nat.reduceLT, Nat.reduceLeDiff, Nat.reduceAdd, Nat.reduceMul, Nat.reduceEqDiff, Int.reduceEq, Int.reduceLT, Int.reduceLE, Int.reduceNeg, Int.reduceToNat, Bool.false_eq_true, eq_self, sa, *])
        all_goals try omega
      | true =>
        repeat' (first | refine boolP_dec (fun _ => ?_) (fun _ => ?_) | apply boolP_not | refine boolP_b (fun _ => ?_) (fun _ => ?_) | ((with_reducible show CallA _ _ _ _ _); (first | refine call_ko (H0 := X) koW (ofield_ok _ loW (AX.same koW) p hpb j) ?_ | refine call_ko (H0 := X) koW (hlk _ loW koW) ?_); intro H2 k2 l2 n2 g2 q2; try simp (disch := omega) only [sm, sl] at l2 n2 g2 q2) | ((with_reducible show Qs _ _ _ _ _); first | refine hQe _ _ _ _ ?_ | refine hQr _ _ _ ?_) | simp (config := { maxSteps := 1000000 }) (disch := omega) only [↓sh, ↓sh2, ↓reduceIte, sx, sl, sb, st, nbeq_ne, dle, relo_eq, wrap_i64, Nat.reduceBEq, Nat.reduceLT, Nat.reduceLeDiff, Nat.reduceAdd, Nat.reduceMul, Nat.reduceEqDiff, Int.reduceEq, Int.reduceLT, Int.reduceLE, Int.reduceNeg, Int.reduceToNat, Bool.false_eq_true, eq_self, sa, *])
        all_goals try omega
        refine hQ _ _ _ ?_ ⟨j + 1, rfl, by omega, ?_, ?_, ?_, ?_, ?_, ?_, fun k hk => ?_⟩
        · omega
        iterate 6 exact nextW
        · by_cases e : k = j
          · rw [e]; exact hb1
          · exact hall k (by omega)
    · have hz : fieldsK s.words ks p = true := by
        rw [hL, List.all_eq_true]
        intro k hk
        exact hall k (by have := List.mem_range.1 hk; omega)
      have hz2 : fieldsK s.words ks (keyOf (.int .i64 p, .bool true)) = true := hz
      repeat' (first | refine boolP_dec (fun _ => ?_) (fun _ => ?_) | apply boolP_not | refine boolP_b (fun _ => ?_) (fun _ => ?_) | ((with_reducible show Qs _ _ _ _ _); first | refine hQe _ _ _ _ ?_ | refine hQr _ _ _ ?_) | simp (config := { maxSteps := 1000000 }) (disch := omega) only [↓sh, ↓sh2, ↓reduceIte, sx, sl, sb, st, nbeq_ne, dle, relo_eq, wrap_i64, Nat.reduceBEq, Nat.reduceLT, Nat.reduceLeDiff, Nat.reduceAdd, Nat.reduceMul, Nat.reduceEqDiff, Int.reduceEq, Int.reduceLT, Int.reduceLE, Int.reduceNeg, Int.reduceToNat, Bool.false_eq_true, eq_self, sa, *])
      all_goals try omega
  · intro hall
    generalize hT0 : dropAll _ T1 = T0
    have hz : ks.all (fieldsK s.words ks) = true := by
      rw [List.all_eq_true]
      intro p hp
      have := hall (.int .i64 p, .bool true) (List.mem_map.2 ⟨p, hp, rfl⟩)
      simpa [keyOf] using this
    have sD : Same H { objs := H1.objs.del H.next, grps := H1.grps, next := H1.next, lo := H1.lo } := same_del sH (Nat.le_refl _) rfl rfl rfl
    generalize ({ objs := H1.objs.del H.next, grps := H1.grps, next := H1.next, lo := H1.lo } : Heap) = HD at sD
    refine wph_seq (wph_region rfl ?_)
    repeat' (first | refine boolP_dec (fun _ => ?_) (fun _ => ?_) | apply boolP_not | refine boolP_b (fun _ => ?_) (fun _ => ?_) | ((with_reducible show Qs _ _ _ _ _); first | refine hQe _ _ _ _ ?_ | refine hQr _ _ _ ?_) | simp (config := { maxSteps := 1000000 }) (disch := omega) only [↓sh, ↓sh2, ↓reduceIte, sx, sl, sb, st, nbeq_ne, dle, relo_eq, wrap_i64, Nat.reduceBEq, Nat.reduceLT, Nat.reduceLeDiff, Nat.reduceAdd, Nat.reduceMul, Nat.reduceEqDiff, Int.reduceEq, Int.reduceLT, Int.reduceLE, Int.reduceNeg, Int.reduceToNat, Bool.false_eq_true, eq_self, sa, *])
    exact fun h => by cases h
  · rintro ⟨e, he, hbad⟩ T' h2 hsame
    have hz : ks.all (fieldsK s.words ks) = false := by
      obtain ⟨p, hp, rfl⟩ := List.mem_map.1 he
      rw [List.all_eq_false]
      refine ⟨p, hp, ?_⟩
      simpa [keyOf] using hbad
    have sD : Same H { objs := H1.objs.del H.next, grps := H1.grps, next := H1.next, lo := H1.lo } := same_del sH (Nat.le_refl _) rfl rfl rfl
    generalize ({ objs := H1.objs.del H.next, grps := H1.grps, next := H1.next, lo := H1.lo } : Heap) = HD at sD
    repeat' (first | refine boolP_dec (fun _ => ?_) (fun _ => ?_) | apply boolP_not | refine boolP_b (fun _ => ?_) (fun _ => ?_) | ((with_reducible show Qs _ _ _ _ _); first | refine hQe _ _ _ _ ?_ | refine hQr _ _ _ ?_) | simp (config := { maxSteps := 1000000 }) (disch := omega) only [↓sh, ↓sh2, ↓reduceIte, sx, sl, sb, st, nbeq_ne, dle, relo_eq, wrap_i64, Nat.reduceBEq, Nat.reduceLT, Nat.reduceLeDiff, Nat.reduceAdd, Nat.reduceMul, Nat.reduceEqDiff, Int.reduceEq, Int.reduceLT, Int.reduceLE, Int.reduceNeg, Int.reduceToNat, Bool.false_eq_true, eq_self, sa, *])
end Go.AM
