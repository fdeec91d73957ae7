/-
  Walks over letters of the functions that the law reaches.
-/
import Derived.Test.YtbkhcbddbefepaaGreatB3
namespace Go.AM
attribute [local instance] fnMaps
open Go Go.Proofs
set_option maxRecDepth 100000
set_option maxHeartbeats 1000000
set_option linter.unusedSimpArgs false
def wV (n : Nat) : Value := .int .u64 n
structure Ar (H : Heap) (a rw g : Nat) (ws : List Nat) : Prop where
  box : H.objs.get a = some (.row [.bool true, .slice (some ⟨rw, 0, none⟩) ws.length ws.length] none true)
  row : H.objs.get rw = some (.row (ws.map wV) (some (g, 1)) true)
  grp : H.grps.get g = some []
  la : a < H.next
  lw : rw < H.next
  lg : g < H.next
  ne : a ≠ rw
  u64 : ∀ w ∈ ws, w < 2 ^ 64
  len : ws.length ≤ 98304
theorem Ar.same {H H' : Heap} {a rw g : Nat} {ws : List Nat} (h : Ar H a rw g ws) (s : Ko H H') : Ar H' a rw g ws :=
  ⟨s.keeps h.la h.box, s.keeps h.lw h.row, by rw [s.grps g h.lg, h.grp], Nat.lt_of_lt_of_le h.la s.nxt, Nat.lt_of_lt_of_le h.lw s.nxt, Nat.lt_of_lt_of_le h.lg s.nxt, h.ne, h.u64, h.len⟩
theorem fn133 : E.fn.get 133 = some Tryz.f133 := by kernel_rfl
theorem adead_ok (H : Heap) (hlo : H.lo ≤ H.next) {a rw g : Nat} {ws : List Nat} (h : Ar H a rw g ws) : CallA E (fnv 133) [ptr a 0] H fun r H' => r = .bool false ∧ Same H H' := by
  have hb := h.box
  refine callA_fn (by kernel_rfl) fn133 rfl rfl ?_
  simp only [Tryz.f133]
  repeat' (first | refine boolP_dec (fun _ => ?_) (fun _ => ?_) | apply boolP_not | refine boolP_b (fun _ => ?_) (fun _ => ?_) | ((with_reducible show Qs _ _ _ _ _); first | refine hQe _ _ _ _ ?_ | refine hQr _ _ _ ?_) | simp (config := { maxSteps := 1000000 }) (disch := omega) only [↓sh, ↓sh2, ↓reduceIte, sx, sl, sb, st, nbeq_ne, dle, relo_eq, wrap_i64, Nat.reduceBEq, Nat.reduceLT, Nat.reduceLeDiff, Nat.reduceAdd, Nat.reduceMul, Nat.reduceEqDiff, Int.reduceEq, Int.reduceLT, Int.reduceLE, Int.reduceNeg, Int.reduceToNat, Bool.false_eq_true, eq_self, sa, eqpn_106, *])
  all_goals (first | (with_reducible exact sameW) | ((with_reducible show _ ∧ _); exact ⟨by first | rfl | (simp [*] <;> omega), sameW⟩))
theorem Ar.at {ws : List Nat} {i : Int} (h0 : 0 ≤ i) (h : i < ws.length) : (ws.map wV)[i.toNat]? = some (.int .u64 (ws.getD i.toNat 0 : Nat)) := by
  rw [List.getElem?_map, List.getElem?_eq_getElem (by omega), List.getD_eq_getElem?_getD, List.getElem?_eq_getElem (by omega)]; rfl
def placeE (n : Nat) (i : Int) : Int := if 0 ≤ i ∧ i < n then 0 else 2
theorem fn143 : E.fn.get 143 = some Tryz.f143 := by kernel_rfl
theorem aat_ok (H : Heap) (hlo : H.lo ≤ H.next) {a rw g : Nat} {ws : List Nat} (h : Ar H a rw g ws) (i : Int) : CallA E (fnv 143) [ptr a 0, .int .i64 i] H fun r H' => r = .int .i64 (placeE ws.length i) ∧ Same H H' := by
  have hb := h.box
  have la := h.la
  have lw := h.lw
  have hl := h.len
  refine callA_fn (by kernel_rfl) fn143 rfl rfl ?_
  simp only [Tryz.f143]
  repeat' (first | refine boolP_dec (fun _ => ?_) (fun _ => ?_) | apply boolP_not | refine boolP_b (fun _ => ?_) (fun _ => ?_) | ((with_reducible show CallA _ _ _ _ _); refine call_ko (H0 := H) koW (adead_ok _ loW (by first | exact h | exact h.same (by assumption))) ?_; intro H2 k2 l2 n2 g2 q2; try simp (disch := omega) only [sm, sl] at l2 n2 g2 q2) | ((with_reducible show Qs _ _ _ _ _); first | refine hQe _ _ _ _ ?_ | refine hQr _ _ _ ?_) | simp (config := { maxSteps := 1000000 }) (disch := omega) only [↓sh, ↓sh2, ↓reduceIte, sx, sl, sb, st, nbeq_ne, dle, relo_eq, wrap_i64, Nat.reduceBEq, Nat.reduceLT, Nat.reduceLeDiff, Nat.reduceAdd, Nat.reduceMul, Nat.reduceEqDiff, Int.reduceEq, Int.reduceLT, Int.reduceLE, Int.reduceNeg, Int.reduceToNat, Bool.false_eq_true, eq_self, sa, *])
  all_goals (first | (with_reducible exact sameW) | ((with_reducible show _ ∧ _); exact ⟨by first | rfl | (simp [placeE, *] <;> omega), sameW⟩))
theorem fn123 : E.fn.get 123 = some Tryz.f123 := by kernel_rfl
theorem alen_ok (H : Heap) (hlo : H.lo ≤ H.next) {a rw g : Nat} {ws : List Nat} (h : Ar H a rw g ws) : CallA E (fnv 123) [ptr a 0] H fun r H' => r = .int .i64 ws.length ∧ Same H H' := by
  have hb := h.box
  have la := h.la
  refine callA_fn (by kernel_rfl) fn123 rfl rfl ?_
  simp only [Tryz.f123]
  repeat' (first | refine boolP_dec (fun _ => ?_) (fun _ => ?_) | apply boolP_not | refine boolP_b (fun _ => ?_) (fun _ => ?_) | ((with_reducible show CallA _ _ _ _ _); refine call_ko (H0 := H) koW (adead_ok _ loW (by first | exact h | exact h.same (by assumption))) ?_; intro H2 k2 l2 n2 g2 q2; try simp (disch := omega) only [sm, sl] at l2 n2 g2 q2) | ((with_reducible show Qs _ _ _ _ _); first | refine hQe _ _ _ _ ?_ | refine hQr _ _ _ ?_) | simp (config := { maxSteps := 1000000 }) (disch := omega) only [↓sh, ↓sh2, ↓reduceIte, sx, sl, sb, st, nbeq_ne, dle, relo_eq, wrap_i64, Nat.reduceBEq, Nat.reduceLT, Nat.reduceLeDiff, Nat.reduceAdd, Nat.reduceMul, Nat.reduceEqDiff, Int.reduceEq, Int.reduceLT, Int.reduceLE, Int.reduceNeg, Int.reduceToNat, Bool.false_eq_true, eq_self, sa, *])
  all_goals (first | (with_reducible exact sameW) | ((with_reducible show _ ∧ _); exact ⟨by first | rfl | (simp [*] <;> omega), sameW⟩))
theorem fn122 : E.fn.get 122 = some Tryz.f122 := by kernel_rfl
theorem aread_ok (H : Heap) (hlo : H.lo ≤ H.next) {a rw g : Nat} {ws : List Nat} (h : Ar H a rw g ws) (i : Int) : CallA E (fnv 122) [ptr a 0, .int .i64 i] H fun r H' => r = .tuple #[.int .u64 (if placeE ws.length i = 0 then ws.getD i.toNat 0 else 0 : Nat), .int .i64 (placeE ws.length i)] ∧ Same H H' := by
  have hb := h.box
  have hr := h.row
  have la := h.la
  have lw := h.lw
  refine callA_fn (by kernel_rfl) fn122 rfl rfl ?_
  simp only [Tryz.f122]
  by_cases hp : 0 ≤ i ∧ i < ws.length
  · have hP : placeE ws.length i = 0 := if_pos hp
    have hc := Ar.at hp.1 hp.2
    repeat' (first | refine boolP_dec (fun _ => ?_) (fun _ => ?_) | apply boolP_not | refine boolP_b (fun _ => ?_) (fun _ => ?_) | ((with_reducible show CallA _ _ _ _ _); refine call_ko (H0 := H) koW (aat_ok _ loW (by first | exact h | exact h.same (by assumption)) i) ?_; intro H2 k2 l2 n2 g2 q2; try simp (disch := omega) only [sm, sl] at l2 n2 g2 q2) | ((with_reducible show Qs _ _ _ _ _); first | refine hQe _ _ _ _ ?_ | refine hQr _ _ _ ?_) | simp (config := { maxSteps := 1000000 }) (disch := omega) only [↓sh, ↓sh2, ↓reduceIte, sx, sl, sb, st, nbeq_ne, dle, relo_eq, wrap_i64, Nat.reduceBEq, Nat.reduceLT, Nat.reduceLeDiff, Nat.reduceAdd, Nat.reduceMul, Nat.reduceEqDiff, Int.reduceEq, Int.reduceLT, Int.reduceLE, Int.reduceNeg, Int.reduceToNat, Bool.false_eq_true, eq_self, sa, *])
    all_goals (first | (with_reducible exact sameW) | ((with_reducible show _ ∧ _); exact ⟨by first | rfl | (simp [*] <;> omega), sameW⟩))
  · have hP : placeE ws.length i = 2 := if_neg hp
    repeat' (first | refine boolP_dec (fun _ => ?_) (fun _ => ?_) | apply boolP_not | refine boolP_b (fun _ => ?_) (fun _ => ?_) | ((with_reducible show CallA _ _ _ _ _); refine call_ko (H0 := H) koW (aat_ok _ loW (by first | exact h | exact h.same (by assumption)) i) ?_; intro H2 k2 l2 n2 g2 q2; try simp (disch := omega) only [sm, sl] at l2 n2 g2 q2) | ((with_reducible show Qs _ _ _ _ _); first | refine hQe _ _ _ _ ?_ | refine hQr _ _ _ ?_) | simp (config := { maxSteps := 1000000 }) (disch := omega) only [↓sh, ↓sh2, ↓reduceIte, sx, sl, sb, st, nbeq_ne, dle, relo_eq, wrap_i64, Nat.reduceBEq, Nat.reduceLT, Nat.reduceLeDiff, Nat.reduceAdd, Nat.reduceMul, Nat.reduceEqDiff, Int.reduceEq, Int.reduceLT, Int.reduceLE, Int.reduceNeg, Int.reduceToNat, Bool.false_eq_true, eq_self, sa, *])
    all_goals (first | (with_reducible exact sameW) | ((with_reducible show _ ∧ _); exact ⟨by first | rfl | (simp [*] <;> omega), sameW⟩))
theorem Ar.put {H : Heap} {a rw g : Nat} {ws : List Nat} (h : Ar H a rw g ws) (c : List Value) : SameBut rw H (H.putRow rw g 1 c) :=
  ⟨rfl, Nat.le_refl _, fun x _ hx => by rw [putRow_get, nbeq_ne hx]; rfl, fun x _ => by
    rw [putRow_grps]
    by_cases e : x = g
    · rw [nbeq_eq e, e, h.grp]; rfl
    · rw [nbeq_ne e]; rfl⟩
end Go.AM
