/-
  Walks over letters of the functions that the law reaches.
-/
import Derived.Test.YtfaplhodeekjnaaGreatBB
namespace Go.AM
attribute [local instance] fnMaps
open Go Go.Proofs
set_option maxRecDepth 100000
set_option maxHeartbeats 1000000
set_option linter.unusedSimpArgs false
def copyTo (H : Heap) (base : Option Addr) (k : Nat) (l : List Value) : Option (Value × Heap) :=
  match base with
  | none => some (.int .i64 k, H)
  | some ⟨r, o, none⟩ => (H.write r o l).bind fun H => some (.int .i64 k, H)
  | _ => none
theorem copyTo_some (H : Heap) (r o k : Nat) (l : List Value) : copyTo H (some ⟨r, o, none⟩) k l = (H.write r o l).bind fun H => some (.int .i64 k, H) := Eq.trans rfl rfl
theorem cp_25 (H : Heap) (base a : Option Addr) (dl dc n c : Nat) : builtinV E H .copy [25, 25] [.slice base dl dc, .slice a n c] = (cellsOf H (Nat.min n dl * 1) (.slice a n c)).bind fun l => copyTo H base (Nat.min n dl) l := by kernel_rfl
def moveW (ws : List Nat) (t f n : Nat) : List Nat := ws.take t ++ (ws.drop f).take n ++ ws.drop (t + n)
theorem moveW_len {ws : List Nat} {t f n : Nat} (h1 : t + n ≤ ws.length) (h2 : f + n ≤ ws.length) : (moveW ws t f n).length = ws.length := by
  simp only [moveW, List.length_append, List.length_take, List.length_drop]; omega
def moveE (len : Nat) (t f n : Int) : Int := if rowE len t n = 0 then rowE len f n else rowE len t n
theorem rowE_in {len : Nat} {i n : Int} (h : rowE len i n = 0) : 0 ≤ n ∧ 0 ≤ i ∧ i ≤ len ∧ n ≤ len - i := by
  unfold rowE at h; split at h
  · omega
  · split at h <;> omega
theorem Ar.over {H : Heap} {a rw g : Nat} {ws ws' : List Nat} (h : Ar H a rw g ws) (hl : ws'.length = ws.length) (hu : ∀ w ∈ ws', w < 2 ^ 64) : Ar (H.putRow rw g 1 (ws'.map wV)) a rw g ws' where
  box := by rw [putRow_get, nbeq_ne h.ne, hl]; exact h.box
  row := by rw [putRow_get, nbeq_eq rfl]; rfl
  grp := by rw [putRow_grps, nbeq_eq rfl]; rfl
  la := h.la
  lw := h.lw
  lg := h.lg
  ne := h.ne
  u64 := hu
  len := by rw [hl]; exact h.len
theorem fn91 : E.fn.get 91 = some Tryz.f91 := by kernel_rfl
theorem amove_ok (H : Heap) (hlo : H.lo ≤ H.next) {a rw g : Nat} {ws : List Nat} (h : Ar H a rw g ws) (how : H.lo ≤ rw) (t f n : Int) (ht : -9223372036854775808 ≤ t ∧ t ≤ 9223372036854775807) (hf : -9223372036854775808 ≤ f ∧ f ≤ 9223372036854775807) (hn : -9223372036854775808 ≤ n ∧ n ≤ 9223372036854775807) (hn0 : n ≠ 0) : CallA E (fnv 91) [ptr a 0, .int .i64 t, .int .i64 f, .int .i64 n] H fun r H' => r = .int .i64 (moveE ws.length t f n) ∧ Ar H' a rw g (if moveE ws.length t f n = 0 then moveW ws t.toNat f.toNat n.toNat else ws) ∧ SameBut rw H H' := by
  have lw := h.lw
  have lg := h.lg
  refine callA_fn (by kernel_rfl) fn91 rfl rfl ?_
  simp only [Tryz.f91]
  by_cases hp : rowE ws.length t n = 0
  · obtain ⟨q1, q2, q3, q4⟩ := rowE_in hp
    by_cases hq : rowE ws.length f n = 0
    · obtain ⟨p1, p2, p3, p4⟩ := rowE_in hq
      have e : moveE ws.length t f n = 0 := by unfold moveE; rw [if_pos hp, hq]
      have hz : ¬n.toNat = 0 := by omega
      have hr := h.row
      have hg := h.grp
      have hm : Nat.min n.toNat n.toNat = n.toNat := Nat.min_self _
      have hcut : cut (ws.map wV) f.toNat n.toNat = some (((ws.drop f.toNat).take n.toNat).map wV) := by
        rw [cut_eq, if_pos (by rw [List.length_map]; omega), List.map_take, List.map_drop]
      have hall : (((ws.drop f.toNat).take n.toNat).map wV).all isCell = true := by
        rw [List.all_eq_true]
        intro x hx
        obtain ⟨y, _, rfl⟩ := List.mem_map.1 hx
        rfl
      have hlen1 : (((ws.drop f.toNat).take n.toNat).map wV).length = n.toNat := by rw [List.length_map, List.length_take, List.length_drop]; omega
      have hlen2 : (ws.map wV).length = ws.length := List.length_map ..
      have hle : t.toNat + n.toNat ≤ ws.length := by omega
      have hov : over (((ws.drop f.toNat).take n.toNat).map wV) t.toNat (ws.map wV) = (moveW ws t.toNat f.toNat n.toNat).map wV := by
        rw [over_drop _ _ _ (by omega), hlen1, moveW]; simp only [List.map_append, List.map_take, List.map_drop]
      repeat' (first | refine boolP_dec (fun _ => ?_) (fun _ => ?_) | apply boolP_not | refine boolP_b (fun _ => ?_) (fun _ => ?_) | ((with_reducible show CallA _ _ _ _ _); (first | refine call_ko (H0 := H) koW (arow_ok _ loW (by first | exact h | exact h.same koW) t n ht hn) ?_ | refine call_ko (H0 := H) koW (arow_ok _ loW (by first | exact h | exact h.same koW) f n hf hn) ?_); intro H2 k2 l2 n2 g2 q2; try simp (disch := omega) only [sm, sl] at l2 n2 g2 q2) | simp (config := { maxSteps := 1000000 }) (disch := omega) only [↓sh, ↓sh2, ↓reduceIte, sx, sl, sb, st, nbeq_ne, dle, relo_eq, wrap_i64, Nat.reduceBEq, Nat.reduceLT, Nat.reduceLeDiff, Nat.reduceAdd, Nat.reduceMul, Nat.reduceEqDiff, Int.reduceEq, Int.reduceLT, Int.reduceLE, Int.reduceNeg, Int.reduceToNat, Bool.false_eq_true, eq_self, sa, cp_25, copyTo_some, *])
      exact ⟨(h.same k2).over (moveW_len (by omega) (by omega)) (fun w hw => by
        simp only [moveW, List.mem_append] at hw
        rcases hw with (hw | hw) | hw
        · exact h.u64 w (List.mem_of_mem_take hw)
        · exact h.u64 w (List.mem_of_mem_drop (List.mem_of_mem_take hw))
        · exact h.u64 w (List.mem_of_mem_drop hw)), but_trans ((k2.same (by simp (config := { maxSteps := 1000000 }) (disch := omega) only [↓sh, ↓sh2, ↓reduceIte, sx, sl, sb, st, nbeq_ne, dle, relo_eq, wrap_i64, Nat.reduceBEq, Nat.reduceLT, Nat.reduceLeDiff, Nat.reduceAdd, Nat.reduceMul, Nat.reduceEqDiff, Int.reduceEq, Int.reduceLT, Int.reduceLE, Int.reduceNeg, Int.reduceToNat, Bool.false_eq_true, eq_self, *])).but _) ((h.same k2).put _)⟩
    · have e : moveE ws.length t f n = rowE ws.length f n := by unfold moveE; rw [if_pos hp]
      repeat' (first | refine boolP_dec (fun _ => ?_) (fun _ => ?_) | apply boolP_not | refine boolP_b (fun _ => ?_) (fun _ => ?_) | ((with_reducible show CallA _ _ _ _ _); (first | refine call_ko (H0 := H) koW (arow_ok _ loW (by first | exact h | exact h.same koW) t n ht hn) ?_ | refine call_ko (H0 := H) koW (arow_ok _ loW (by first | exact h | exact h.same koW) f n hf hn) ?_); intro H2 k2 l2 n2 g2 q2; try simp (disch := omega) only [sm, sl] at l2 n2 g2 q2) | simp (config := { maxSteps := 1000000 }) (disch := omega) only [↓sh, ↓sh2, ↓reduceIte, sx, sl, sb, st, nbeq_ne, dle, relo_eq, wrap_i64, Nat.reduceBEq, Nat.reduceLT, Nat.reduceLeDiff, Nat.reduceAdd, Nat.reduceMul, Nat.reduceEqDiff, Int.reduceEq, Int.reduceLT, Int.reduceLE, Int.reduceNeg, Int.reduceToNat, Bool.false_eq_true, eq_self, sa, *])
      exact ⟨h.same k2, (k2.same (by simp (config := { maxSteps := 1000000 }) (disch := omega) only [↓sh, ↓sh2, ↓reduceIte, sx, sl, sb, st, nbeq_ne, dle, relo_eq, wrap_i64, Nat.reduceBEq, Nat.reduceLT, Nat.reduceLeDiff, Nat.reduceAdd, Nat.reduceMul, Nat.reduceEqDiff, Int.reduceEq, Int.reduceLT, Int.reduceLE, Int.reduceNeg, Int.reduceToNat, Bool.false_eq_true, eq_self, *])).but _⟩
  · have e : moveE ws.length t f n = rowE ws.length t n := if_neg hp
    repeat' (first | refine boolP_dec (fun _ => ?_) (fun _ => ?_) | apply boolP_not | refine boolP_b (fun _ => ?_) (fun _ => ?_) | ((with_reducible show CallA _ _ _ _ _); refine call_ko (H0 := H) koW (arow_ok _ loW (by first | exact h | exact h.same koW) t n ht hn) ?_; intro H2 k2 l2 n2 g2 q2; try simp (disch := omega) only [sm, sl] at l2 n2 g2 q2) | simp (config := { maxSteps := 1000000 }) (disch := omega) only [↓sh, ↓sh2, ↓reduceIte, sx, sl, sb, st, nbeq_ne, dle, relo_eq, wrap_i64, Nat.reduceBEq, Nat.reduceLT, Nat.reduceLeDiff, Nat.reduceAdd, Nat.reduceMul, Nat.reduceEqDiff, Int.reduceEq, Int.reduceLT, Int.reduceLE, Int.reduceNeg, Int.reduceToNat, Bool.false_eq_true, eq_self, sa, *])
    exact ⟨h.same k2, (k2.same (by simp (config := { maxSteps := 1000000 }) (disch := omega) only [↓sh, ↓sh2, ↓reduceIte, sx, sl, sb, st, nbeq_ne, dle, relo_eq, wrap_i64, Nat.reduceBEq, Nat.reduceLT, Nat.reduceLeDiff, Nat.reduceAdd, Nat.reduceMul, Nat.reduceEqDiff, Int.reduceEq, Int.reduceLT, Int.reduceLE, Int.reduceNeg, Int.reduceToNat, Bool.false_eq_true, eq_self, *])).but _⟩
end Go.AM
