/-
  Walks over letters of the functions that the law reaches.
-/
import Derived.Test.YtfaplhodeekjnaaGreatKK
namespace Go.AM
attribute [local instance] fnMaps
open Go Go.Proofs
set_option maxRecDepth 100000
set_option maxHeartbeats 1000000
set_option linter.unusedSimpArgs false
structure Val where
  kind : Int
  x : Int
  deriving DecidableEq
def valV (v : Val) : Value := .agg #[.int .i64 v.kind, .int .i64 v.x]
def Val.Ok (v : Val) : Prop := v.kind = 0 ∧ v.x = 0 ∨ v.kind = 1 ∧ -2305843009213693952 ≤ v.x ∧ v.x ≤ 2305843009213693951 ∨ v.kind = 2 ∧ 0 ≤ v.x ∧ v.x ≤ 1099511627776
instance (v : Val) : Decidable v.Ok := by unfold Val.Ok; infer_instance
def Val.word (v : Val) : Nat := (4 * v.x % 18446744073709551616 + v.kind).toNat
theorem shl_u2 (x : Int) : shiftOp .shl .u64 (IntKind.u64.wrap x) 2 = some (.int .u64 (4 * x % 18446744073709551616)) := by
  rw [shift_shl _ _ _ (by decide)]
  have h : ∀ y : Int, IntKind.u64.wrap y = y % 18446744073709551616 := fun y => rfl
  simp only [h]
  have : (2 : Int) ^ (min (2 : Int).toNat IntKind.u64.bits) = 4 := by decide
  rw [this]
  congr 2
  omega
theorem or_low {y : Int} (k : Nat) (h0 : 0 ≤ y) (h1 : y < 18446744073709551616) (h4 : y % 4 = 0) (hk : k < 4) : intOp .or .u64 y (k : Int) = some (.int .u64 (y + k)) := by
  obtain ⟨n, rfl⟩ := Int.eq_ofNat_of_zero_le h0
  rw [or_nat (by omega) (by omega)]
  congr 2
  have : n = 4 * (n / 4) := by omega
  rw [this, show 4 * (n / 4) = 2 ^ 2 * (n / 4) by omega, ← Nat.two_pow_add_eq_or_of_lt (by omega)]
  push_cast
  rfl
theorem or_1 (x : Int) : intOp .or .u64 (4 * x % 18446744073709551616) 1 = some (.int .u64 (4 * x % 18446744073709551616 + 1)) := or_low 1 (by omega) (by omega) (by omega) (by omega)
theorem or_2 (x : Int) : intOp .or .u64 (4 * x % 18446744073709551616) 2 = some (.int .u64 (4 * x % 18446744073709551616 + 2)) := or_low 2 (by omega) (by omega) (by omega) (by omega)
theorem and_3 {w : Nat} (h : w < 18446744073709551616) : intOp .and .u64 (w : Int) 3 = some (.int .u64 (w % 4 : Int)) := by
  have e : intOp .and .u64 (w : Int) ((3 : Nat) : Int) = _ := and_nat (by omega) (by omega)
  rw [show (w &&& 3 : Nat) = w % 4 from Nat.and_two_pow_sub_one_eq_mod w 2] at e
  exact e
theorem shr_u2 {w : Nat} (h : w < 18446744073709551616) : shiftOp .shr .u64 (w : Int) 2 = some (.int .u64 (w / 4 : Int)) := by
  have e : shiftOp .shr .u64 (w : Int) ((2 : Nat) : Int) = _ := shr_nat (a := w) (n := 2) (by omega) (by omega)
  exact e
theorem shr_i2 (a : Int) : shiftOp .shr .i64 a 2 = some (.int .i64 (a / 4)) := by
  rw [shift_shr _ _ _ (by decide)]
  have : (2 : Int) ^ (min (2 : Int).toNat IntKind.i64.bits) = 4 := by decide
  rw [this, Int.fdiv_eq_ediv_of_nonneg _ (by decide)]
theorem fn95 : E.fn.get 95 = some Tryz.f95 := by kernel_rfl
theorem venc_ok (H : Heap) (hlo : H.lo ≤ H.next) (v : Val) : CallA E (fnv 95) [valV v] H fun r H' => r = .tuple #[.int .u64 ((if v.Ok then v.word else 0 : Nat) : Int), .int .i64 (if v.Ok then 0 else 1)] ∧ Same H H' := by
  refine callA_fn (by kernel_rfl) fn95 rfl rfl ?_
  simp only [Tryz.f95]
  simp only [valV]
  repeat' (first | refine boolP_dec (fun _ => ?_) (fun _ => ?_) | apply boolP_not | refine boolP_b (fun _ => ?_) (fun _ => ?_) | simp (config := { maxSteps := 1000000 }) (disch := omega) only [↓sh, ↓sh2, ↓reduceIte, sx, sl, sb, st, nbeq_ne, dle, relo_eq, wrap_i64, Nat.reduceBEq, Nat.reduceLT, Nat.reduceLeDiff, Nat.reduceAdd, Nat.reduceMul, Nat.reduceEqDiff, Int.reduceEq, Int.reduceLT, Int.reduceLE, Int.reduceNeg, Int.reduceToNat, Bool.false_eq_true, eq_self, sa, shl_u2, or_1, or_2, *])
  all_goals refine ⟨?_, by exact sameW⟩
  all_goals first
    | (have hk : v.Ok := by unfold Val.Ok; omega
       have e : ((v.word : Nat) : Int) = 4 * v.x % 18446744073709551616 + v.kind := by unfold Val.word; omega
       rw [if_pos hk, if_pos hk, e]
       simp [*]; done)
    | (have hk : ¬v.Ok := by unfold Val.Ok; omega
       simp only [if_neg hk]
       rfl)
def Val.none : Val := ⟨0, 0⟩
def decV (w : Nat) : Option Val := if w % 4 = 1 then some ⟨1, IntKind.i64.wrap w / 4⟩ else if w % 4 = 2 ∧ w / 4 ≤ 1099511627776 then some ⟨2, w / 4⟩ else if w = 0 then some .none else none
theorem fn68 : E.fn.get 68 = some Tryz.f68 := by kernel_rfl
theorem vdec_ok (H : Heap) (hlo : H.lo ≤ H.next) (w : Nat) (hw : w < 2 ^ 64) : CallA E (fnv 68) [.int .u64 w] H fun r H' => r = .tuple #[valV ((decV w).getD .none), .int .i64 (if (decV w).isSome then 0 else 3)] ∧ Same H H' := by
  have hw' : w < 18446744073709551616 := by omega
  refine callA_fn (by kernel_rfl) fn68 rfl rfl ?_
  simp only [Tryz.f68]
  repeat' (first | refine boolP_dec (fun _ => ?_) (fun _ => ?_) | apply boolP_not | refine boolP_b (fun _ => ?_) (fun _ => ?_) | simp (config := { maxSteps := 1000000 }) (disch := omega) only [↓sh, ↓sh2, ↓reduceIte, sx, sl, sb, st, nbeq_ne, dle, relo_eq, wrap_i64, Nat.reduceBEq, Nat.reduceLT, Nat.reduceLeDiff, Nat.reduceAdd, Nat.reduceMul, Nat.reduceEqDiff, Int.reduceEq, Int.reduceLT, Int.reduceLE, Int.reduceNeg, Int.reduceToNat, Bool.false_eq_true, eq_self, sa, and_3 hw', shr_u2 hw', shr_i2, *])
  all_goals refine ⟨?_, by exact sameW⟩
  all_goals first
    | (have e : decV w = some ⟨1, IntKind.i64.wrap w / 4⟩ := by unfold decV; rw [if_pos (by omega)]
       simp [e, valV]; done)
    | (have e : decV w = some ⟨2, w / 4⟩ := by unfold decV; rw [if_neg (by omega), if_pos (by omega)]
       simp [e, valV, wrap_i64, *]; done)
    | (have e : decV w = some .none := by unfold decV; rw [if_neg (by omega), if_neg (by omega), if_pos (by omega)]
       simp [e, valV, Val.none]; done)
    | (have e : decV w = none := by unfold decV; rw [if_neg (by omega), if_neg (by omega), if_neg (by omega)]
       simp [e, valV, Val.none]; done)
def refW (w : Nat) : Option Int := if w % 4 = 2 ∧ w / 4 ≤ 1099511627776 then some (w / 4) else none
theorem dec_ref (w : Nat) : refW w = (decV w).bind fun v => if v.kind = 2 then some v.x else none := by
  unfold refW decV
  by_cases h1 : w % 4 = 1
  · rw [if_neg (by omega), if_pos h1]; rfl
  · rw [if_neg h1]
    by_cases h2 : w % 4 = 2 ∧ w / 4 ≤ 1099511627776
    · rw [if_pos h2, if_pos h2]; rfl
    · rw [if_neg h2, if_neg h2]; split <;> rfl
theorem fn50 : E.fn.get 50 = some Tryz.f50 := by kernel_rfl
theorem vref_ok (H : Heap) (hlo : H.lo ≤ H.next) (w : Nat) (hw : w < 2 ^ 64) : CallA E (fnv 50) [.int .u64 w] H fun r H' => r = .tuple #[.int .i64 ((refW w).getD 0), .bool (refW w).isSome] ∧ Same H H' := by
  rw [dec_ref]
  refine callA_fn (by kernel_rfl) fn50 rfl rfl ?_
  simp only [Tryz.f50]
  cases hd : decV w with
  | none =>
    repeat' (first | refine boolP_dec (fun _ => ?_) (fun _ => ?_) | apply boolP_not | refine boolP_b (fun _ => ?_) (fun _ => ?_) | ((with_reducible show CallA _ _ _ _ _); refine call_ko (H0 := H) koW (vdec_ok _ loW _ hw) ?_; intro H2 k2 l2 n2 g2 q2; try simp (disch := omega) only [sm, sl] at l2 n2 g2 q2) | simp (config := { maxSteps := 1000000 }) (disch := omega) only [↓sh, ↓sh2, ↓reduceIte, sx, sl, sb, st, nbeq_ne, dle, relo_eq, wrap_i64, Nat.reduceBEq, Nat.reduceLT, Nat.reduceLeDiff, Nat.reduceAdd, Nat.reduceMul, Nat.reduceEqDiff, Int.reduceEq, Int.reduceLT, Int.reduceLE, Int.reduceNeg, Int.reduceToNat, Bool.false_eq_true, eq_self, sa, valV, Option.getD_none, *])
    all_goals (first | (with_reducible exact sameW) | ((with_reducible show _ ∧ _); exact ⟨by first | rfl | (simp [Val.none, *] <;> omega), sameW⟩))
  | some v =>
    repeat' (first | refine boolP_dec (fun _ => ?_) (fun _ => ?_) | apply boolP_not | refine boolP_b (fun _ => ?_) (fun _ => ?_) | ((with_reducible show CallA _ _ _ _ _); refine call_ko (H0 := H) koW (vdec_ok _ loW _ hw) ?_; intro H2 k2 l2 n2 g2 q2; try simp (disch := omega) only [sm, sl] at l2 n2 g2 q2) | simp (config := { maxSteps := 1000000 }) (disch := omega) only [↓sh, ↓sh2, ↓reduceIte, sx, sl, sb, st, nbeq_ne, dle, relo_eq, wrap_i64, Nat.reduceBEq, Nat.reduceLT, Nat.reduceLeDiff, Nat.reduceAdd, Nat.reduceMul, Nat.reduceEqDiff, Int.reduceEq, Int.reduceLT, Int.reduceLE, Int.reduceNeg, Int.reduceToNat, Bool.false_eq_true, eq_self, sa, valV, Option.getD_some, *])
    all_goals (first | (with_reducible exact sameW) | ((with_reducible show _ ∧ _); exact ⟨by first | rfl | (simp [*] <;> omega), sameW⟩))
end Go.AM
namespace Go.AM
attribute [local instance] fnMaps
open Go Go.Proofs
set_option maxRecDepth 100000
set_option maxHeartbeats 1000000
set_option linter.unusedSimpArgs false
def wV (n : Nat) : Value := .int .u64 n
structure Ar (H : Heap) (a rw g : Nat) (ws : List Nat) : Prop where
  box : H.objs.get a = some (.row [.bool true, .slice (some ⟨rw, 0, none⟩) ws.length ws.length] none true)
  row : H.objs.get rw = some (.row (ws.map wV) (some (g, 1)) true)
  grp : H.grps.get g = some []
  la : a < H.next
  lw : rw < H.next
  lg : g < H.next
  ne : a ≠ rw
  u64 : ∀ w ∈ ws, w < 2 ^ 64
  len : ws.length ≤ 98304
theorem Ar.same {H H' : Heap} {a rw g : Nat} {ws : List Nat} (h : Ar H a rw g ws) (s : Ko H H') : Ar H' a rw g ws :=
  ⟨s.keeps h.la h.box, s.keeps h.lw h.row, by rw [s.grps g h.lg, h.grp], Nat.lt_of_lt_of_le h.la s.nxt, Nat.lt_of_lt_of_le h.lw s.nxt, Nat.lt_of_lt_of_le h.lg s.nxt, h.ne, h.u64, h.len⟩
theorem fn31 : E.fn.get 31 = some Tryz.f31 := by kernel_rfl
theorem adead_ok (H : Heap) (hlo : H.lo ≤ H.next) {a rw g : Nat} {ws : List Nat} (h : Ar H a rw g ws) : CallA E (fnv 31) [ptr a 0] H fun r H' => r = .bool false ∧ Same H H' := by
  have hb := h.box
  refine callA_fn (by kernel_rfl) fn31 rfl rfl ?_
  simp only [Tryz.f31]
  repeat' (first | refine boolP_dec (fun _ => ?_) (fun _ => ?_) | apply boolP_not | refine boolP_b (fun _ => ?_) (fun _ => ?_) | simp (config := { maxSteps := 1000000 }) (disch := omega) only [↓sh, ↓sh2, ↓reduceIte, sx, sl, sb, st, nbeq_ne, dle, relo_eq, wrap_i64, Nat.reduceBEq, Nat.reduceLT, Nat.reduceLeDiff, Nat.reduceAdd, Nat.reduceMul, Nat.reduceEqDiff, Int.reduceEq, Int.reduceLT, Int.reduceLE, Int.reduceNeg, Int.reduceToNat, Bool.false_eq_true, eq_self, sa, eqpn_42, *])
  all_goals (first | (with_reducible exact sameW) | ((with_reducible show _ ∧ _); exact ⟨by first | rfl | (simp [*] <;> omega), sameW⟩))
theorem Ar.at {ws : List Nat} {i : Int} (h0 : 0 ≤ i) (h : i < ws.length) : (ws.map wV)[i.toNat]? = some (.int .u64 (ws.getD i.toNat 0 : Nat)) := by
  rw [List.getElem?_map, List.getElem?_eq_getElem (by omega), List.getD_eq_getElem?_getD, List.getElem?_eq_getElem (by omega)]; rfl
def placeE (n : Nat) (i : Int) : Int := if 0 ≤ i ∧ i < n then 0 else 2
theorem fn57 : E.fn.get 57 = some Tryz.f57 := by kernel_rfl
theorem aat_ok (H : Heap) (hlo : H.lo ≤ H.next) {a rw g : Nat} {ws : List Nat} (h : Ar H a rw g ws) (i : Int) : CallA E (fnv 57) [ptr a 0, .int .i64 i] H fun r H' => r = .int .i64 (placeE ws.length i) ∧ Same H H' := by
  have hb := h.box
  have la := h.la
  have lw := h.lw
  have hl := h.len
  refine callA_fn (by kernel_rfl) fn57 rfl rfl ?_
  simp only [Tryz.f57]
  repeat' (first | refine boolP_dec (fun _ => ?_) (fun _ => ?_) | apply boolP_not | refine boolP_b (fun _ => ?_) (fun _ => ?_) | ((with_reducible show CallA _ _ _ _ _); refine call_ko (H0 := H) koW (adead_ok _ loW (by first | exact h | exact h.same (by assumption))) ?_; intro H2 k2 l2 n2 g2 q2; try simp (disch := omega) only [sm, sl] at l2 n2 g2 q2) | simp (config := { maxSteps := 1000000 }) (disch := omega) only [↓sh, ↓sh2, ↓reduceIte, sx, sl, sb, st, nbeq_ne, dle, relo_eq, wrap_i64, Nat.reduceBEq, Nat.reduceLT, Nat.reduceLeDiff, Nat.reduceAdd, Nat.reduceMul, Nat.reduceEqDiff, Int.reduceEq, Int.reduceLT, Int.reduceLE, Int.reduceNeg, Int.reduceToNat, Bool.false_eq_true, eq_self, sa, *])
  all_goals (first | (with_reducible exact sameW) | ((with_reducible show _ ∧ _); exact ⟨by first | rfl | (simp [placeE, *] <;> omega), sameW⟩))
theorem fn40 : E.fn.get 40 = some Tryz.f40 := by kernel_rfl
theorem alen_ok (H : Heap) (hlo : H.lo ≤ H.next) {a rw g : Nat} {ws : List Nat} (h : Ar H a rw g ws) : CallA E (fnv 40) [ptr a 0] H fun r H' => r = .int .i64 ws.length ∧ Same H H' := by
  have hb := h.box
  have la := h.la
  refine callA_fn (by kernel_rfl) fn40 rfl rfl ?_
  simp only [Tryz.f40]
  repeat' (first | refine boolP_dec (fun _ => ?_) (fun _ => ?_) | apply boolP_not | refine boolP_b (fun _ => ?_) (fun _ => ?_) | ((with_reducible show CallA _ _ _ _ _); refine call_ko (H0 := H) koW (adead_ok _ loW (by first | exact h | exact h.same (by assumption))) ?_; intro H2 k2 l2 n2 g2 q2; try simp (disch := omega) only [sm, sl] at l2 n2 g2 q2) | simp (config := { maxSteps := 1000000 }) (disch := omega) only [↓sh, ↓sh2, ↓reduceIte, sx, sl, sb, st, nbeq_ne, dle, relo_eq, wrap_i64, Nat.reduceBEq, Nat.reduceLT, Nat.reduceLeDiff, Nat.reduceAdd, Nat.reduceMul, Nat.reduceEqDiff, Int.reduceEq, Int.reduceLT, Int.reduceLE, Int.reduceNeg, Int.reduceToNat, Bool.false_eq_true, eq_self, sa, *])
  all_goals (first | (with_reducible exact sameW) | ((with_reducible show _ ∧ _); exact ⟨by first | rfl | (simp [*] <;> omega), sameW⟩))
theorem fn39 : E.fn.get 39 = some Tryz.f39 := by kernel_rfl
theorem aread_ok (H : Heap) (hlo : H.lo ≤ H.next) {a rw g : Nat} {ws : List Nat} (h : Ar H a rw g ws) (i : Int) : CallA E (fnv 39) [ptr a 0, .int .i64 i] H fun r H' => r = .tuple #[.int .u64 (if placeE ws.length i = 0 then ws.getD i.toNat 0 else 0 : Nat), .int .i64 (placeE ws.length i)] ∧ Same H H' := by
  have hb := h.box
  have hr := h.row
  have la := h.la
  have lw := h.lw
  refine callA_fn (by kernel_rfl) fn39 rfl rfl ?_
  simp only [Tryz.f39]
  by_cases hp : 0 ≤ i ∧ i < ws.length
  · have hP : placeE ws.length i = 0 := if_pos hp
    have hc := Ar.at hp.1 hp.2
    repeat' (first | refine boolP_dec (fun _ => ?_) (fun _ => ?_) | apply boolP_not | refine boolP_b (fun _ => ?_) (fun _ => ?_) | ((with_reducible show CallA _ _ _ _ _); refine call_ko (H0 := H) koW (aat_ok _ loW (by first | exact h | exact h.same (by assumption)) i) ?_; intro H2 k2 l2 n2 g2 q2; try simp (disch := omega) only [sm, sl] at l2 n2 g2 q2) | simp (config := { maxSteps := 1000000 }) (disch := omega) only [↓sh, ↓sh2, ↓reduceIte, sx, sl, sb, st, nbeq_ne, dle, relo_eq, wrap_i64, Nat.reduceBEq, Nat.reduceLT, Nat.reduceLeDiff, Nat.reduceAdd, Nat.reduceMul, Nat.reduceEqDiff, Int.reduceEq, Int.reduceLT, Int.reduceLE, Int.reduceNeg, Int.reduceToNat, Bool.false_eq_true, eq_self, sa, *])
    all_goals (first | (with_reducible exact sameW) | ((with_reducible show _ ∧ _); exact ⟨by first | rfl | (simp [*] <;> omega), sameW⟩))
  · have hP : placeE ws.length i = 2 := if_neg hp
    repeat' (first | refine boolP_dec (fun _ => ?_) (fun _ => ?_) | apply boolP_not | refine boolP_b (fun _ => ?_) (fun _ => ?_) | ((with_reducible show CallA _ _ _ _ _); refine call_ko (H0 := H) koW (aat_ok _ loW (by first | exact h | exact h.same (by assumption)) i) ?_; intro H2 k2 l2 n2 g2 q2; try simp (disch := omega) only [sm, sl] at l2 n2 g2 q2) | simp (config := { maxSteps := 1000000 }) (disch := omega) only [↓sh, ↓sh2, ↓reduceIte, sx, sl, sb, st, nbeq_ne, dle, relo_eq, wrap_i64, Nat.reduceBEq, Nat.reduceLT, Nat.reduceLeDiff, Nat.reduceAdd, Nat.reduceMul, Nat.reduceEqDiff, Int.reduceEq, Int.reduceLT, Int.reduceLE, Int.reduceNeg, Int.reduceToNat, Bool.false_eq_true, eq_self, sa, *])
    all_goals (first | (with_reducible exact sameW) | ((with_reducible show _ ∧ _); exact ⟨by first | rfl | (simp [*] <;> omega), sameW⟩))
theorem Ar.wrote {H : Heap} {a rw g : Nat} {ws : List Nat} (h : Ar H a rw g ws) {k w : Nat} (hw : w < 2 ^ 64) : Ar (H.putRow rw g 1 ((ws.set k w).map wV)) a rw g (ws.set k w) where
  box := by rw [putRow_get, nbeq_ne h.ne, List.length_set]; exact h.box
  row := by rw [putRow_get, nbeq_eq rfl]; rfl
  grp := by rw [putRow_grps, nbeq_eq rfl]; rfl
  la := h.la
  lw := h.lw
  lg := h.lg
  ne := h.ne
  u64 := fun x hx => by
    rcases List.mem_or_eq_of_mem_set hx with hx | rfl
    · exact h.u64 x hx
    · exact hw
  len := by rw [List.length_set]; exact h.len
theorem Ar.put {H : Heap} {a rw g : Nat} {ws : List Nat} (h : Ar H a rw g ws) (c : List Value) : SameBut rw H (H.putRow rw g 1 c) :=
  ⟨rfl, Nat.le_refl _, fun x _ hx => by rw [putRow_get, nbeq_ne hx]; rfl, fun x _ => by
    rw [putRow_grps]
    by_cases e : x = g
    · rw [nbeq_eq e, e, h.grp]; rfl
    · rw [nbeq_ne e]; rfl⟩
theorem fn88 : E.fn.get 88 = some Tryz.f88 := by kernel_rfl
theorem awrite_ok (H : Heap) (hlo : H.lo ≤ H.next) {a rw g : Nat} {ws : List Nat} (h : Ar H a rw g ws) (how : H.lo ≤ rw) (i : Int) (w : Nat) (hw : w < 2 ^ 64) : CallA E (fnv 88) [ptr a 0, .int .i64 i, .int .u64 w] H fun r H' => r = .int .i64 (placeE ws.length i) ∧ Ar H' a rw g (if placeE ws.length i = 0 then ws.set i.toNat w else ws) ∧ SameBut rw H H' := by
  have hb := h.box
  have hr := h.row
  have hg := h.grp
  have la := h.la
  have lw := h.lw
  have lg := h.lg
  refine callA_fn (by kernel_rfl) fn88 rfl rfl ?_
  simp only [Tryz.f88]
  by_cases hp : 0 ≤ i ∧ i < ws.length
  · have hP : placeE ws.length i = 0 := if_pos hp
    have hlen : (ws.map wV).length = ws.length := List.length_map ..
    have ho : over [Value.int .u64 w] i.toNat (ws.map wV) = (ws.set i.toNat w).map wV := by rw [over_one _ _ _ (by omega), List.map_set]; rfl
    have hi : i.toNat + 1 ≤ ws.length := by omega
    repeat' (first | refine boolP_dec (fun _ => ?_) (fun _ => ?_) | apply boolP_not | refine boolP_b (fun _ => ?_) (fun _ => ?_) | ((with_reducible show CallA _ _ _ _ _); refine call_ko (H0 := H) koW (aat_ok _ loW (by first | exact h | exact h.same (by assumption)) i) ?_; intro H2 k2 l2 n2 g2 q2; try simp (disch := omega) only [sm, sl] at l2 n2 g2 q2) | simp (config := { maxSteps := 1000000 }) (disch := omega) only [↓sh, ↓sh2, ↓reduceIte, sx, sl, sb, st, nbeq_ne, dle, relo_eq, wrap_i64, Nat.reduceBEq, Nat.reduceLT, Nat.reduceLeDiff, Nat.reduceAdd, Nat.reduceMul, Nat.reduceEqDiff, Int.reduceEq, Int.reduceLT, Int.reduceLE, Int.reduceNeg, Int.reduceToNat, Bool.false_eq_true, eq_self, sa, *])
    exact ⟨(h.same k2).wrote hw, but_trans ((k2.same l2).but _) ((h.same k2).put _)⟩
  · have hP : placeE ws.length i = 2 := if_neg hp
    repeat' (first | refine boolP_dec (fun _ => ?_) (fun _ => ?_) | apply boolP_not | refine boolP_b (fun _ => ?_) (fun _ => ?_) | ((with_reducible show CallA _ _ _ _ _); refine call_ko (H0 := H) koW (aat_ok _ loW (by first | exact h | exact h.same (by assumption)) i) ?_; intro H2 k2 l2 n2 g2 q2; try simp (disch := omega) only [sm, sl] at l2 n2 g2 q2) | simp (config := { maxSteps := 1000000 }) (disch := omega) only [↓sh, ↓sh2, ↓reduceIte, sx, sl, sb, st, nbeq_ne, dle, relo_eq, wrap_i64, Nat.reduceBEq, Nat.reduceLT, Nat.reduceLeDiff, Nat.reduceAdd, Nat.reduceMul, Nat.reduceEqDiff, Int.reduceEq, Int.reduceLT, Int.reduceLE, Int.reduceNeg, Int.reduceToNat, Bool.false_eq_true, eq_self, sa, *])
    exact ⟨h.same k2, (k2.same l2).but _⟩
def rowE (len : Nat) (i n : Int) : Int := if n < 0 then 1 else if 0 ≤ i ∧ i ≤ len ∧ n ≤ len - i then 0 else 2
theorem fn105 : E.fn.get 105 = some Tryz.f105 := by kernel_rfl
theorem arow_ok (H : Heap) (hlo : H.lo ≤ H.next) {a rw g : Nat} {ws : List Nat} (h : Ar H a rw g ws) (i n : Int) (hi : -9223372036854775808 ≤ i ∧ i ≤ 9223372036854775807) (hn : -9223372036854775808 ≤ n ∧ n ≤ 9223372036854775807) : CallA E (fnv 105) [ptr a 0, .int .i64 i, .int .i64 n] H fun r H' => r = .tuple #[if rowE ws.length i n = 0 then .slice (some ⟨rw, if n.toNat = 0 then 0 else i.toNat, none⟩) n.toNat n.toNat else .slice none 0 0, .int .i64 (rowE ws.length i n)] ∧ Same H H' := by
  have hb := h.box
  have hr := h.row
  have la := h.la
  have lw := h.lw
  have hl := h.len
  refine callA_fn (by kernel_rfl) fn105 rfl rfl ?_
  simp only [Tryz.f105]
  repeat' (first | refine boolP_dec (fun _ => ?_) (fun _ => ?_) | apply boolP_not | refine boolP_b (fun _ => ?_) (fun _ => ?_) | ((with_reducible show CallA _ _ _ _ _); refine call_ko (H0 := H) koW (adead_ok _ loW (by first | exact h | exact h.same (by assumption))) ?_; intro H2 k2 l2 n2 g2 q2; try simp (disch := omega) only [sm, sl] at l2 n2 g2 q2) | simp (config := { maxSteps := 1000000 }) (disch := omega) only [↓sh, ↓sh2, ↓reduceIte, sx, sl, sb, st, nbeq_ne, dle, relo_eq, wrap_i64, Nat.reduceBEq, Nat.reduceLT, Nat.reduceLeDiff, Nat.reduceAdd, Nat.reduceMul, Nat.reduceEqDiff, Int.reduceEq, Int.reduceLT, Int.reduceLE, Int.reduceNeg, Int.reduceToNat, Bool.false_eq_true, eq_self, sa, sc_25, *])
  all_goals (with_reducible show _ ∧ _)
  all_goals first
    | (have e : rowE ws.length i n = 1 := if_pos (by omega)
       exact ⟨by rw [e]; rfl, by exact sameW⟩)
    | (have e : rowE ws.length i n = 2 := by unfold rowE; rw [if_neg (by omega), if_neg (by omega)]
       exact ⟨by rw [e]; rfl, by exact sameW⟩)
    | (have e : rowE ws.length i n = 0 := by unfold rowE; rw [if_neg (by omega), if_pos (by omega)]
       have e1 : (i + n).toNat - i.toNat = n.toNat := by omega
       have e2 : ((i + n).toNat = i.toNat) = (n.toNat = 0) := by rw [eq_iff_iff]; omega
       exact ⟨by rw [e, e1, if_pos rfl]; simp only [e2], by exact sameW⟩)
end Go.AM
namespace Go.AM
attribute [local instance] fnMaps
open Go Go.Proofs
set_option maxRecDepth 100000
set_option maxHeartbeats 1000000
set_option linter.unusedSimpArgs false
structure Bp (H : Heap) (b : Nat) (x : Span) (u : Int) : Prop where
  box : H.objs.get b = some (.row [.bool true, .int .i64 x.at', .int .i64 x.size, .int .i64 u] none true)
  lb : b < H.next
  may : May x
  u0 : 0 ≤ u
  u1 : u ≤ x.size
theorem Bp.same {H H' : Heap} {b : Nat} {x : Span} {u : Int} (h : Bp H b x u) (s : Ko H H') : Bp H' b x u := ⟨s.keeps h.lb h.box, Nat.lt_of_lt_of_le h.lb s.nxt, h.may, h.u0, h.u1⟩
theorem fn55 : E.fn.get 55 = some Tryz.f55 := by kernel_rfl
theorem bdead_ok (H : Heap) (hlo : H.lo ≤ H.next) {b : Nat} {x : Span} {u : Int} (h : Bp H b x u) : CallA E (fnv 55) [ptr b 0] H fun r H' => r = .bool false ∧ Same H H' := by
  have hb := h.box
  refine callA_fn (by kernel_rfl) fn55 rfl rfl ?_
  simp only [Tryz.f55]
  repeat' (first | refine boolP_dec (fun _ => ?_) (fun _ => ?_) | apply boolP_not | refine boolP_b (fun _ => ?_) (fun _ => ?_) | simp (config := { maxSteps := 1000000 }) (disch := omega) only [↓sh, ↓sh2, ↓reduceIte, sx, sl, sb, st, nbeq_ne, dle, relo_eq, wrap_i64, Nat.reduceBEq, Nat.reduceLT, Nat.reduceLeDiff, Nat.reduceAdd, Nat.reduceMul, Nat.reduceEqDiff, Int.reduceEq, Int.reduceLT, Int.reduceLE, Int.reduceNeg, Int.reduceToNat, Bool.false_eq_true, eq_self, sa, eqpn_83, *])
  all_goals (first | (with_reducible exact sameW) | ((with_reducible show _ ∧ _); exact ⟨by first | rfl | (simp [*] <;> omega), sameW⟩))
theorem fn34 : E.fn.get 34 = some Tryz.f34 := by kernel_rfl
theorem btop_ok (H : Heap) (hlo : H.lo ≤ H.next) {b : Nat} {x : Span} {u : Int} (h : Bp H b x u) : CallA E (fnv 34) [ptr b 0] H fun r H' => r = .int .i64 (x.at' + u) ∧ Same H H' := by
  have hb := h.box
  have lb := h.lb
  have hm := h.may
  have u0 := h.u0
  have u1 := h.u1
  unfold May at hm
  refine callA_fn (by kernel_rfl) fn34 rfl rfl ?_
  simp only [Tryz.f34]
  repeat' (first | refine boolP_dec (fun _ => ?_) (fun _ => ?_) | apply boolP_not | refine boolP_b (fun _ => ?_) (fun _ => ?_) | refine wps_draw (id := 3) [Fx, Fx, Fx, Fx, Fx, Fx, Fx, Fx, Fx, Fx, Fx] (by kernel_rfl) ?_ | ((with_reducible show CallA _ _ _ _ _); refine call_ko (H0 := H) koW (bdead_ok _ loW (by first | exact h | exact h.same (by assumption))) ?_; intro H2 k2 l2 n2 g2 q2; try simp (disch := omega) only [sm, sl] at l2 n2 g2 q2) | simp (config := { maxSteps := 1000000 }) (disch := omega) only [↓sh, ↓sh2, ↓reduceIte, sx, sl, sb, st, nbeq_ne, dle, relo_eq, wrap_i64, Nat.reduceBEq, Nat.reduceLT, Nat.reduceLeDiff, Nat.reduceAdd, Nat.reduceMul, Nat.reduceEqDiff, Int.reduceEq, Int.reduceLT, Int.reduceLE, Int.reduceNeg, Int.reduceToNat, Bool.false_eq_true, eq_self, sa, *])
  all_goals (first | (with_reducible exact sameW) | ((with_reducible show _ ∧ _); exact ⟨by first | rfl | (simp [*] <;> omega), sameW⟩))
def takeE (x : Span) (u n : Int) : Int := if n < 1 then 7 else if x.size - u < n then 9 else 0
theorem fn90 : E.fn.get 90 = some Tryz.f90 := by kernel_rfl
theorem btake_ok (H : Heap) (hlo : H.lo ≤ H.next) {b : Nat} {x : Span} {u : Int} (h : Bp H b x u) (hob : H.lo ≤ b) (n : Int) : CallA E (fnv 90) [ptr b 0, .int .i64 n] H fun r H' => r = .tuple #[.int .i64 (if takeE x u n = 0 then x.at' + u else 0), .int .i64 (takeE x u n)] ∧ Bp H' b x (if takeE x u n = 0 then u + n else u) ∧ SameBut b H H' := by
  have hb := h.box
  have lb := h.lb
  have hm := h.may
  have u0 := h.u0
  have u1 := h.u1
  have hm' := h.may
  unfold May at hm
  refine callA_fn (by kernel_rfl) fn90 rfl rfl ?_
  simp only [Tryz.f90]
  repeat' (first | refine boolP_dec (fun _ => ?_) (fun _ => ?_) | apply boolP_not | refine boolP_b (fun _ => ?_) (fun _ => ?_) | refine wps_draw (id := 5) [Fx, Fx, Fx, Fx, Fx, Fx, Fx, Fx, Fx, Fx, Fx, Fx, Fx] (by kernel_rfl) ?_ | refine wps_draw (id := 7) [Fx, Fx, Fx, Fx, Fx, Fx, Fx, Fx, Fx, Fx, Fx] (by kernel_rfl) ?_ | ((with_reducible show CallA _ _ _ _ _); refine call_ko (H0 := H) koW (bdead_ok _ loW (by first | exact h | exact h.same (by assumption))) ?_; intro H2 k2 l2 n2 g2 q2; try simp (disch := omega) only [sm, sl] at l2 n2 g2 q2) | simp (config := { maxSteps := 1000000 }) (disch := omega) only [↓sh, ↓sh2, ↓reduceIte, sx, sl, sb, st, nbeq_ne, dle, relo_eq, wrap_i64, Nat.reduceBEq, Nat.reduceLT, Nat.reduceLeDiff, Nat.reduceAdd, Nat.reduceMul, Nat.reduceEqDiff, Int.reduceEq, Int.reduceLT, Int.reduceLE, Int.reduceNeg, Int.reduceToNat, Bool.false_eq_true, eq_self, sa, *])
  all_goals (with_reducible show _ ∧ _)
  all_goals first
    | (have e : takeE x u n = 7 := by unfold takeE; rw [if_pos (by omega)]
       rw [e]
       exact ⟨rfl, h.same k2, (k2.same l2).but _⟩)
    | (have e : takeE x u n = 9 := by unfold takeE; rw [if_neg (by omega), if_pos (by omega)]
       rw [e]
       exact ⟨rfl, h.same k2, (k2.same l2).but _⟩)
    | (have e : takeE x u n = 0 := by unfold takeE; rw [if_neg (by omega), if_neg (by omega)]
       rw [e]
       exact ⟨rfl, ⟨by rw [setRow_get, nbeq_eq rfl]; rfl, Nat.lt_of_lt_of_le h.lb n2, hm', by simp; omega, by simp; omega⟩, ((k2.same l2).but _).setRow _⟩)
end Go.AM
namespace Go.AM
attribute [local instance] fnMaps
open Go Go.Proofs
set_option maxRecDepth 100000
set_option maxHeartbeats 1000000
set_option linter.unusedSimpArgs false
def wAt (ws : List Nat) (i : Int) : Nat := ws.getD i.toNat 0
def headE (ws : List Nat) (i : Int) : Int := if placeE ws.length i = 0 then (if isHd (wAt ws i) then (if ws.length - i < sizeH (decHd (wAt ws i)) then 2 else 0) else 3) else 2
def headAt (ws : List Nat) (i : Int) : Hd := if headE ws i = 0 then decHd (wAt ws i) else zeroHd
theorem Ar.lt {H : Heap} {a rw g : Nat} {ws : List Nat} (h : Ar H a rw g ws) (i : Int) : wAt ws i < 2 ^ 64 := by
  unfold wAt
  rw [List.getD_eq_getElem?_getD]
  cases hc : ws[i.toNat]? with
  | none => simp
  | some w => exact h.u64 w (List.mem_of_getElem? hc)
theorem sizeH_in {h : Hd} : 0 ≤ sizeH h ∧ sizeH h ≤ 8193 := by
  unfold sizeH
  split
  · rename_i hk
    have := okH_in hk
    omega
  · omega
theorem fn42 : E.fn.get 42 = some Tryz.f42 := by kernel_rfl
theorem ohead_ok (H : Heap) (hlo : H.lo ≤ H.next) {a rw g : Nat} {ws : List Nat} (h : Ar H a rw g ws) (i : Int) (hi : -9223372036854775808 ≤ i ∧ i ≤ 9223372036854775807) : CallA E (fnv 42) [ptr a 0, .int .i64 i] H fun r H' => r = .tuple #[hdV (headAt ws i), .int .i64 (headE ws i)] ∧ Same H H' := by
  have hw := h.lt i
  have hl := h.len
  have hs := sizeH_in (h := decHd (wAt ws i))
  refine callA_fn (by kernel_rfl) fn42 rfl rfl ?_
  simp only [Tryz.f42]
  by_cases hp : placeE ws.length i = 0
  · have hq : 0 ≤ i ∧ i < ws.length := by unfold placeE at hp; split at hp <;> omega
    have hg : ws.getD i.toNat 0 = wAt ws i := rfl
    cases hd : isHd (wAt ws i) with
    | false =>
      have e : headE ws i = 3 := by unfold headE; rw [if_pos hp, if_neg (by rw [hd]; simp)]
      have e2 : headAt ws i = zeroHd := by unfold headAt; rw [if_neg (by omega)]
      repeat' (first | refine boolP_dec (fun _ => ?_) (fun _ => ?_) | apply boolP_not | refine boolP_b (fun _ => ?_) (fun _ => ?_) | ((with_reducible show CallA _ _ _ _ _); (first | refine call_ko (H0 := H) koW (aread_ok _ loW (by first | exact h | exact h.same koW) i) ?_ | refine call_ko (H0 := H) koW (hdec_ok _ loW (wAt ws i) hw) ?_); intro H2 k2 l2 n2 g2 q2; try simp (disch := omega) only [sm, sl] at l2 n2 g2 q2) | simp (config := { maxSteps := 1000000 }) (disch := omega) only [↓sh, ↓sh2, ↓reduceIte, sx, sl, sb, st, nbeq_ne, dle, relo_eq, wrap_i64, Nat.reduceBEq, Nat.reduceLT, Nat.reduceLeDiff, Nat.reduceAdd, Nat.reduceMul, Nat.reduceEqDiff, Int.reduceEq, Int.reduceLT, Int.reduceLE, Int.reduceNeg, Int.reduceToNat, Bool.false_eq_true, eq_self, sa, hdV, zeroHd, *])
      exact sameW
    | true =>
      repeat' (first | refine boolP_dec (fun _ => ?_) (fun _ => ?_) | apply boolP_not | refine boolP_b (fun _ => ?_) (fun _ => ?_) | ((with_reducible show CallA _ _ _ _ _); (first | refine call_ko (H0 := H) koW (aread_ok _ loW (by first | exact h | exact h.same koW) i) ?_ | refine call_ko (H0 := H) koW (hdec_ok _ loW (wAt ws i) hw) ?_ | refine call_ko (H0 := H) koW (hsize_ok _ loW (decHd (wAt ws i))) ?_ | refine call_ko (H0 := H) koW (alen_ok _ loW (by first | exact h | exact h.same koW)) ?_); intro H2 k2 l2 n2 g2 q2; try simp (disch := omega) only [sm, sl] at l2 n2 g2 q2) | simp (config := { maxSteps := 1000000 }) (disch := omega) only [↓sh, ↓sh2, ↓reduceIte, sx, sl, sb, st, nbeq_ne, dle, relo_eq, wrap_i64, Nat.reduceBEq, Nat.reduceLT, Nat.reduceLeDiff, Nat.reduceAdd, Nat.reduceMul, Nat.reduceEqDiff, Int.reduceEq, Int.reduceLT, Int.reduceLE, Int.reduceNeg, Int.reduceToNat, Bool.false_eq_true, eq_self, sa, hdV, *])
      all_goals (with_reducible show _ ∧ _)
      all_goals first
        | (have e : headE ws i = 2 := by unfold headE; rw [if_pos hp, if_pos hd, if_pos (by omega)]
           have e2 : headAt ws i = zeroHd := by unfold headAt; rw [if_neg (by omega)]
           exact ⟨by rw [e, e2]; rfl, by exact sameW⟩)
        | (have e : headE ws i = 0 := by unfold headE; rw [if_pos hp, if_pos hd, if_neg (by omega)]
           have e2 : headAt ws i = decHd (wAt ws i) := by unfold headAt; rw [if_pos e]
           exact ⟨by rw [e, e2], by exact sameW⟩)
  · have hp2 : placeE ws.length i = 2 := by unfold placeE at hp ⊢; split at hp <;> simp_all
    have e : headE ws i = 2 := by unfold headE; rw [if_neg hp]
    have e2 : headAt ws i = zeroHd := by unfold headAt; rw [if_neg (by omega)]
    repeat' (first | refine boolP_dec (fun _ => ?_) (fun _ => ?_) | apply boolP_not | refine boolP_b (fun _ => ?_) (fun _ => ?_) | ((with_reducible show CallA _ _ _ _ _); refine call_ko (H0 := H) koW (aread_ok _ loW (by first | exact h | exact h.same koW) i) ?_; intro H2 k2 l2 n2 g2 q2; try simp (disch := omega) only [sm, sl] at l2 n2 g2 q2) | simp (config := { maxSteps := 1000000 }) (disch := omega) only [↓sh, ↓sh2, ↓reduceIte, sx, sl, sb, st, nbeq_ne, dle, relo_eq, wrap_i64, Nat.reduceBEq, Nat.reduceLT, Nat.reduceLeDiff, Nat.reduceAdd, Nat.reduceMul, Nat.reduceEqDiff, Int.reduceEq, Int.reduceLT, Int.reduceLE, Int.reduceNeg, Int.reduceToNat, Bool.false_eq_true, eq_self, sa, hdV, zeroHd, *])
    exact sameW
end Go.AM
namespace Go.AM
attribute [local instance] fnMaps
open Go Go.Proofs
set_option maxRecDepth 100000
set_option maxHeartbeats 1000000
set_option linter.unusedSimpArgs false
def setE (ws : List Nat) (i : Int) (d : Hd) : Int := if headE ws i = 0 then (if okH d = true ∧ sizeH (headAt ws i) = sizeH d then 0 else 1) else headE ws i
theorem headE_place {ws : List Nat} {i : Int} (h : headE ws i = 0) : placeE ws.length i = 0 := by
  unfold headE at h
  split at h
  · assumption
  · omega
theorem wH_u64 {d : Hd} (h : okH d = true) : wH d 5 < 2 ^ 64 := by
  have h5 : okN d 0 = true ∧ okN d 1 = true ∧ okN d 2 = true ∧ okN d 3 = true ∧ okN d 4 = true := by
    have := List.all_eq_true.1 h
    exact ⟨this 0 (by decide), this 1 (by decide), this 2 (by decide), this 3 (by decide), this 4 (by decide)⟩
  have h4 : wH d 4 < 2 ^ 40 := wH_lt (i := 4) (by omega) (fun j hj => by
    match j, hj with
    | 0, _ => exact h5.1
    | 1, _ => exact h5.2.1
    | 2, _ => exact h5.2.2.1
    | 3, _ => exact h5.2.2.2.1)
  have hc := (okH_in h).2.2.2.2.2.2
  have e : wH d 5 = wH d 4 + d.cursor.toNat * 2 ^ 40 := rfl
  rw [e]
  have : d.cursor.toNat ≤ 1048576 := by omega
  have e2 : (2 : Nat) ^ 40 = 1099511627776 := by decide
  have e3 : (2 : Nat) ^ 64 = 18446744073709551616 := by decide
  rw [e2] at h4 ⊢
  rw [e3]
  omega
theorem fn63 : E.fn.get 63 = some Tryz.f63 := by kernel_rfl
theorem osethead_ok (H : Heap) (hlo : H.lo ≤ H.next) {a rw g : Nat} {ws : List Nat} (h : Ar H a rw g ws) (how : H.lo ≤ rw) (i : Int) (hi : -9223372036854775808 ≤ i ∧ i ≤ 9223372036854775807) (d : Hd) : CallA E (fnv 63) [ptr a 0, .int .i64 i, hdV d] H fun r H' => r = .int .i64 (setE ws i d) ∧ Ar H' a rw g (if setE ws i d = 0 then ws.set i.toNat (wH d 5) else ws) ∧ SameBut rw H H' := by
  refine callA_fn (by kernel_rfl) fn63 rfl rfl ?_
  simp only [Tryz.f63]
  simp only [hdV]
  by_cases hp : headE ws i = 0
  · cases hk : okH d with
    | false =>
      have e : setE ws i d = 1 := by unfold setE; rw [if_pos hp, if_neg (by rw [hk]; simp)]
      repeat' (first | refine boolP_dec (fun _ => ?_) (fun _ => ?_) | apply boolP_not | refine boolP_b (fun _ => ?_) (fun _ => ?_) | refine wps_draw (id := 5) [Fx, Fx, Fx, Fx, Tx, Fx, Fx, Fx, Fx] (by kernel_rfl) ?_ | ((with_reducible show CallA _ _ _ _ _); (first | refine call_ko (H0 := H) koW (ohead_ok _ loW (by first | exact h | exact h.same koW) i hi) ?_ | refine call_ko (H0 := H) koW (enc_ok _ loW d) ?_); intro H2 k2 l2 n2 g2 q2; try simp (disch := omega) only [sm, sl] at l2 n2 g2 q2) | simp (config := { maxSteps := 1000000 }) (disch := omega) only [↓sh, ↓sh2, ↓reduceIte, sx, sl, sb, st, nbeq_ne, dle, relo_eq, wrap_i64, Nat.reduceBEq, Nat.reduceLT, Nat.reduceLeDiff, Nat.reduceAdd, Nat.reduceMul, Nat.reduceEqDiff, Int.reduceEq, Int.reduceLT, Int.reduceLE, Int.reduceNeg, Int.reduceToNat, Bool.false_eq_true, eq_self, sa, hdV, *])
      exact ⟨h.same k2, (k2.same (by simp (config := { maxSteps := 1000000 }) (disch := omega) only [↓sh, ↓sh2, ↓reduceIte, sx, sl, sb, st, nbeq_ne, dle, relo_eq, wrap_i64, Nat.reduceBEq, Nat.reduceLT, Nat.reduceLeDiff, Nat.reduceAdd, Nat.reduceMul, Nat.reduceEqDiff, Int.reduceEq, Int.reduceLT, Int.reduceLE, Int.reduceNeg, Int.reduceToNat, Bool.false_eq_true, eq_self, *])).but _⟩
    | true =>
      repeat' (first | refine boolP_dec (fun _ => ?_) (fun _ => ?_) | apply boolP_not | refine boolP_b (fun _ => ?_) (fun _ => ?_) | refine wps_draw (id := 5) [Fx, Fx, Fx, Fx, Tx, Fx, Fx, Fx, Fx] (by kernel_rfl) ?_ | ((with_reducible show CallA _ _ _ _ _); (first | refine call_ko (H0 := H) koW (ohead_ok _ loW (by first | exact h | exact h.same koW) i hi) ?_ | refine call_ko (H0 := H) koW (enc_ok _ loW d) ?_ | refine call_ko (H0 := H) koW (hsize_ok _ loW d) ?_ | refine call_ko (H0 := H) koW (hsize_ok _ loW (headAt ws i)) ?_); intro H2 k2 l2 n2 g2 q2; try simp (disch := omega) only [sm, sl] at l2 n2 g2 q2) | simp (config := { maxSteps := 1000000 }) (disch := omega) only [↓sh, ↓sh2, ↓reduceIte, sx, sl, sb, st, nbeq_ne, dle, relo_eq, wrap_i64, Nat.reduceBEq, Nat.reduceLT, Nat.reduceLeDiff, Nat.reduceAdd, Nat.reduceMul, Nat.reduceEqDiff, Int.reduceEq, Int.reduceLT, Int.reduceLE, Int.reduceNeg, Int.reduceToNat, Bool.false_eq_true, eq_self, sa, hdV, *])
      case refine_2 =>
        have e : setE ws i d = 1 := by unfold setE; rw [if_pos hp, if_neg (by omega)]
        rw [e]
        exact ⟨rfl, h.same k2, (k2.same (by simp (config := { maxSteps := 1000000 }) (disch := omega) only [↓sh, ↓sh2, ↓reduceIte, sx, sl, sb, st, nbeq_ne, dle, relo_eq, wrap_i64, Nat.reduceBEq, Nat.reduceLT, Nat.reduceLeDiff, Nat.reduceAdd, Nat.reduceMul, Nat.reduceEqDiff, Int.reduceEq, Int.reduceLT, Int.reduceLE, Int.reduceNeg, Int.reduceToNat, Bool.false_eq_true, eq_self, *])).but _⟩
      have e : setE ws i d = 0 := by unfold setE; rw [if_pos hp, if_pos ⟨hk, by omega⟩]
      have l3 : H2.lo = H.lo := by simp (config := { maxSteps := 1000000 }) (disch := omega) only [↓sh, ↓sh2, ↓reduceIte, sx, sl, sb, st, nbeq_ne, dle, relo_eq, wrap_i64, Nat.reduceBEq, Nat.reduceLT, Nat.reduceLeDiff, Nat.reduceAdd, Nat.reduceMul, Nat.reduceEqDiff, Int.reduceEq, Int.reduceLT, Int.reduceLE, Int.reduceNeg, Int.reduceToNat, Bool.false_eq_true, eq_self, *]
      refine (awrite_ok _ (by omega) (h.same k2) (by omega) i (wH d 5) (wH_u64 hk)).mono ?_
      rintro r H3 ⟨rfl, hA, hS⟩
      rw [if_pos (headE_place hp)] at hA
      rw [e, headE_place hp]
      exact ⟨rfl, hA, but_trans ((k2.same l3).but _) hS⟩
  · have e : setE ws i d = headE ws i := if_neg hp
    repeat' (first | refine boolP_dec (fun _ => ?_) (fun _ => ?_) | apply boolP_not | refine boolP_b (fun _ => ?_) (fun _ => ?_) | refine wps_draw (id := 5) [Fx, Fx, Fx, Fx, Tx, Fx, Fx, Fx, Fx] (by kernel_rfl) ?_ | ((with_reducible show CallA _ _ _ _ _); refine call_ko (H0 := H) koW (ohead_ok _ loW (by first | exact h | exact h.same koW) i hi) ?_; intro H2 k2 l2 n2 g2 q2; try simp (disch := omega) only [sm, sl] at l2 n2 g2 q2) | simp (config := { maxSteps := 1000000 }) (disch := omega) only [↓sh, ↓sh2, ↓reduceIte, sx, sl, sb, st, nbeq_ne, dle, relo_eq, wrap_i64, Nat.reduceBEq, Nat.reduceLT, Nat.reduceLeDiff, Nat.reduceAdd, Nat.reduceMul, Nat.reduceEqDiff, Int.reduceEq, Int.reduceLT, Int.reduceLE, Int.reduceNeg, Int.reduceToNat, Bool.false_eq_true, eq_self, sa, hdV, *])
    refine ⟨h.same koW, SameBut.setNew (Same.but (Same.newRow (k2.same (by simp (config := { maxSteps := 1000000 }) (disch := omega) only [↓sh, ↓sh2, ↓reduceIte, sx, sl, sb, st, nbeq_ne, dle, relo_eq, wrap_i64, Nat.reduceBEq, Nat.reduceLT, Nat.reduceLeDiff, Nat.reduceAdd, Nat.reduceMul, Nat.reduceEqDiff, Int.reduceEq, Int.reduceLT, Int.reduceLE, Int.reduceNeg, Int.reduceToNat, Bool.false_eq_true, eq_self, *])) _) _) (by omega) _⟩
def fieldE (ws : List Nat) (i k : Int) (raw : Bool) : Int := if headE ws i = 0 then (if 0 ≤ k ∧ k < (if raw then (headAt ws i).raws else (headAt ws i).fields) then 0 else 1) else headE ws i
def fieldK (ws : List Nat) (i k : Int) (raw : Bool) : Int := if fieldE ws i k raw = 0 then i + 1 + (if raw then (headAt ws i).fields else 0) + k else 0
theorem headE_in {ws : List Nat} {i : Int} (h : headE ws i = 0) : 0 ≤ i ∧ i < ws.length ∧ okH (headAt ws i) = true ∧ i + sizeH (headAt ws i) ≤ ws.length ∧ headAt ws i = decHd (wAt ws i) := by
  have hp := headE_place h
  have hq : 0 ≤ i ∧ i < ws.length := by unfold placeE at hp; split at hp <;> omega
  have e2 : headAt ws i = decHd (wAt ws i) := by unfold headAt; rw [if_pos h]
  unfold headE at h
  rw [if_pos hp] at h
  split at h
  · rename_i hd
    split at h
    · omega
    · refine ⟨hq.1, hq.2, ?_, by rw [e2]; omega, e2⟩
      rw [e2]
      unfold isHd at hd
      split at hd
      · assumption
      · cases hd
  · omega
theorem fn97 : E.fn.get 97 = some Tryz.f97 := by kernel_rfl
theorem oplace_ok (H : Heap) (hlo : H.lo ≤ H.next) {a rw g : Nat} {ws : List Nat} (h : Ar H a rw g ws) (i : Int) (hi : -9223372036854775808 ≤ i ∧ i ≤ 9223372036854775807) (k : Int) (raw : Bool) : CallA E (fnv 97) [ptr a 0, .int .i64 i, .int .i64 k, .bool raw] H fun r H' => r = .tuple #[.int .i64 (fieldK ws i k raw), .int .i64 (fieldE ws i k raw)] ∧ Same H H' := by
  have hl := h.len
  refine callA_fn (by kernel_rfl) fn97 rfl rfl ?_
  simp only [Tryz.f97]
  by_cases hp : headE ws i = 0
  · obtain ⟨h1, h2, h3, h4, h5⟩ := headE_in hp
    have h6 := okH_in h3
    rw [h5] at h6
    cases raw
    all_goals (repeat' (first | refine boolP_dec (fun _ => ?_) (fun _ => ?_) | apply boolP_not | refine boolP_b (fun _ => ?_) (fun _ => ?_) | refine wps_draw (id := 4) [Fx, Fx, Fx, Fx, Fx, Fx] (by kernel_rfl) ?_ | refine wps_draw (id := 6) [Fx, Fx, Fx, Fx, Fx, Fx, Fx, Fx] (by kernel_rfl) ?_ | ((with_reducible show CallA _ _ _ _ _); refine call_ko (H0 := H) koW (ohead_ok _ loW (by first | exact h | exact h.same koW) i hi) ?_; intro H2 k2 l2 n2 g2 q2; try simp (disch := omega) only [sm, sl] at l2 n2 g2 q2) | simp (config := { maxSteps := 1000000 }) (disch := omega) only [↓sh, ↓sh2, ↓reduceIte, sx, sl, sb, st, nbeq_ne, dle, relo_eq, wrap_i64, Nat.reduceBEq, Nat.reduceLT, Nat.reduceLeDiff, Nat.reduceAdd, Nat.reduceMul, Nat.reduceEqDiff, Int.reduceEq, Int.reduceLT, Int.reduceLE, Int.reduceNeg, Int.reduceToNat, Bool.false_eq_true, eq_self, sa, hdV, *]))
    all_goals (with_reducible show _ ∧ _)
    all_goals refine ⟨?_, by exact sameW⟩
    all_goals first
      | (have e : fieldE ws i k false = 1 := by unfold fieldE; rw [if_pos hp, if_neg (by simp [h5]; omega)]
         rw [fieldK, e]; rfl)
      | (have e : fieldE ws i k false = 0 := by unfold fieldE; rw [if_pos hp, if_pos (by simp [h5]; omega)]
         rw [fieldK, e]; simp)
      | (have e : fieldE ws i k true = 1 := by unfold fieldE; rw [if_pos hp, if_neg (by simp [h5]; omega)]
         rw [fieldK, e]; rfl)
      | (have e : fieldE ws i k true = 0 := by unfold fieldE; rw [if_pos hp, if_pos (by simp [h5]; omega)]
         rw [fieldK, e]; simp [h5])
  · have e : fieldE ws i k raw = headE ws i := if_neg hp
    have e2 : fieldK ws i k raw = 0 := if_neg (by omega)
    repeat' (first | refine boolP_dec (fun _ => ?_) (fun _ => ?_) | apply boolP_not | refine boolP_b (fun _ => ?_) (fun _ => ?_) | refine wps_draw (id := 4) [Fx, Fx, Fx, Fx, Fx, Fx] (by kernel_rfl) ?_ | refine wps_draw (id := 6) [Fx, Fx, Fx, Fx, Fx, Fx, Fx, Fx] (by kernel_rfl) ?_ | ((with_reducible show CallA _ _ _ _ _); refine call_ko (H0 := H) koW (ohead_ok _ loW (by first | exact h | exact h.same koW) i hi) ?_; intro H2 k2 l2 n2 g2 q2; try simp (disch := omega) only [sm, sl] at l2 n2 g2 q2) | simp (config := { maxSteps := 1000000 }) (disch := omega) only [↓sh, ↓sh2, ↓reduceIte, sx, sl, sb, st, nbeq_ne, dle, relo_eq, wrap_i64, Nat.reduceBEq, Nat.reduceLT, Nat.reduceLeDiff, Nat.reduceAdd, Nat.reduceMul, Nat.reduceEqDiff, Int.reduceEq, Int.reduceLT, Int.reduceLE, Int.reduceNeg, Int.reduceToNat, Bool.false_eq_true, eq_self, sa, hdV, *])
    exact sameW
end Go.AM
namespace Go.AM
attribute [local instance] fnMaps
open Go Go.Proofs
set_option maxRecDepth 100000
set_option maxHeartbeats 1000000
set_option linter.unusedSimpArgs false
def fieldW (ws : List Nat) (i k : Int) (raw : Bool) : Nat := if fieldE ws i k raw = 0 then wAt ws (fieldK ws i k raw) else 0
theorem fieldK_in {ws : List Nat} {i k : Int} {raw : Bool} (h : fieldE ws i k raw = 0) : 0 ≤ fieldK ws i k raw ∧ fieldK ws i k raw < ws.length ∧ headE ws i = 0 ∧ i < fieldK ws i k raw ∧ fieldK ws i k raw < i + sizeH (headAt ws i) := by
  have h0 := h
  unfold fieldE at h
  split at h
  · rename_i hp
    obtain ⟨h1, h2, h3, h4, _⟩ := headE_in hp
    have h6 := okH_in h3
    have hs : sizeH (headAt ws i) = 1 + (headAt ws i).fields + (headAt ws i).raws := by unfold sizeH; rw [if_pos h3]
    unfold fieldK
    rw [if_pos h0]
    cases raw <;> simp at h ⊢ <;> omega
  · omega
theorem fn96 : E.fn.get 96 = some Tryz.f96 := by kernel_rfl
theorem oread_ok (H : Heap) (hlo : H.lo ≤ H.next) {a rw g : Nat} {ws : List Nat} (h : Ar H a rw g ws) (i : Int) (hi : -9223372036854775808 ≤ i ∧ i ≤ 9223372036854775807) (k : Int) (raw : Bool) : CallA E (fnv 96) [ptr a 0, .int .i64 i, .int .i64 k, .bool raw] H fun r H' => r = .tuple #[.int .u64 (fieldW ws i k raw), .int .i64 (fieldE ws i k raw)] ∧ Same H H' := by
  refine callA_fn (by kernel_rfl) fn96 rfl rfl ?_
  simp only [Tryz.f96]
  by_cases hp : fieldE ws i k raw = 0
  · obtain ⟨h1, h2, _⟩ := fieldK_in hp
    have e : placeE ws.length (fieldK ws i k raw) = 0 := if_pos ⟨h1, h2⟩
    have e2 : fieldW ws i k raw = ws.getD (fieldK ws i k raw).toNat 0 := by unfold fieldW; rw [if_pos hp]; rfl
    repeat' (first | refine boolP_dec (fun _ => ?_) (fun _ => ?_) | apply boolP_not | refine boolP_b (fun _ => ?_) (fun _ => ?_) | ((with_reducible show CallA _ _ _ _ _); (first | refine call_ko (H0 := H) koW (oplace_ok _ loW (by first | exact h | exact h.same koW) i hi k raw) ?_ | refine call_ko (H0 := H) koW (aread_ok _ loW (by first | exact h | exact h.same koW) (fieldK ws i k raw)) ?_); intro H2 k2 l2 n2 g2 q2; try simp (disch := omega) only [sm, sl] at l2 n2 g2 q2) | simp (config := { maxSteps := 1000000 }) (disch := omega) only [↓sh, ↓sh2, ↓reduceIte, sx, sl, sb, st, nbeq_ne, dle, relo_eq, wrap_i64, Nat.reduceBEq, Nat.reduceLT, Nat.reduceLeDiff, Nat.reduceAdd, Nat.reduceMul, Nat.reduceEqDiff, Int.reduceEq, Int.reduceLT, Int.reduceLE, Int.reduceNeg, Int.reduceToNat, Bool.false_eq_true, eq_self, sa, *])
    exact sameW
  · have e2 : fieldW ws i k raw = 0 := if_neg hp
    repeat' (first | refine boolP_dec (fun _ => ?_) (fun _ => ?_) | apply boolP_not | refine boolP_b (fun _ => ?_) (fun _ => ?_) | ((with_reducible show CallA _ _ _ _ _); refine call_ko (H0 := H) koW (oplace_ok _ loW (by first | exact h | exact h.same koW) i hi k raw) ?_; intro H2 k2 l2 n2 g2 q2; try simp (disch := omega) only [sm, sl] at l2 n2 g2 q2) | simp (config := { maxSteps := 1000000 }) (disch := omega) only [↓sh, ↓sh2, ↓reduceIte, sx, sl, sb, st, nbeq_ne, dle, relo_eq, wrap_i64, Nat.reduceBEq, Nat.reduceLT, Nat.reduceLeDiff, Nat.reduceAdd, Nat.reduceMul, Nat.reduceEqDiff, Int.reduceEq, Int.reduceLT, Int.reduceLE, Int.reduceNeg, Int.reduceToNat, Bool.false_eq_true, eq_self, sa, Int.natCast_zero, *])
    exact sameW
theorem fn73 : E.fn.get 73 = some Tryz.f73 := by kernel_rfl
theorem ofield_ok (H : Heap) (hlo : H.lo ≤ H.next) {a rw g : Nat} {ws : List Nat} (h : Ar H a rw g ws) (i : Int) (hi : -9223372036854775808 ≤ i ∧ i ≤ 9223372036854775807) (k : Int) : CallA E (fnv 73) [ptr a 0, .int .i64 i, .int .i64 k] H fun r H' => r = .tuple #[.int .u64 (fieldW ws i k false), .int .i64 (fieldE ws i k false)] ∧ Same H H' := by
  refine callA_fn (by kernel_rfl) fn73 rfl rfl ?_
  simp only [Tryz.f73]
  repeat' (first | refine boolP_dec (fun _ => ?_) (fun _ => ?_) | apply boolP_not | refine boolP_b (fun _ => ?_) (fun _ => ?_) | ((with_reducible show CallA _ _ _ _ _); refine call_ko (H0 := H) koW (oread_ok _ loW (by first | exact h | exact h.same koW) i hi k false) ?_; intro H2 k2 l2 n2 g2 q2; try simp (disch := omega) only [sm, sl] at l2 n2 g2 q2) | simp (config := { maxSteps := 1000000 }) (disch := omega) only [↓sh, ↓sh2, ↓reduceIte, sx, sl, sb, st, nbeq_ne, dle, relo_eq, wrap_i64, Nat.reduceBEq, Nat.reduceLT, Nat.reduceLeDiff, Nat.reduceAdd, Nat.reduceMul, Nat.reduceEqDiff, Int.reduceEq, Int.reduceLT, Int.reduceLE, Int.reduceNeg, Int.reduceToNat, Bool.false_eq_true, eq_self, sa, *])
  exact sameW
def setFE (ws : List Nat) (i k : Int) (w : Nat) : Int := if fieldE ws i k false = 0 then (if (decV w).isSome then 0 else 3) else fieldE ws i k false
theorem fn74 : E.fn.get 74 = some Tryz.f74 := by kernel_rfl
theorem osetfield_ok (H : Heap) (hlo : H.lo ≤ H.next) {a rw g : Nat} {ws : List Nat} (h : Ar H a rw g ws) (how : H.lo ≤ rw) (i : Int) (hi : -9223372036854775808 ≤ i ∧ i ≤ 9223372036854775807) (k : Int) (w : Nat) (hw : w < 2 ^ 64) : CallA E (fnv 74) [ptr a 0, .int .i64 i, .int .i64 k, .int .u64 w] H fun r H' => r = .int .i64 (setFE ws i k w) ∧ Ar H' a rw g (if setFE ws i k w = 0 then ws.set (fieldK ws i k false).toNat w else ws) ∧ SameBut rw H H' := by
  refine callA_fn (by kernel_rfl) fn74 rfl rfl ?_
  simp only [Tryz.f74]
  by_cases hp : fieldE ws i k false = 0
  · obtain ⟨h1, h2, _⟩ := fieldK_in hp
    cases hd : (decV w).isSome with
    | false =>
      have e : setFE ws i k w = 3 := by unfold setFE; rw [if_pos hp, hd]; rfl
      repeat' (first | refine boolP_dec (fun _ => ?_) (fun _ => ?_) | apply boolP_not | refine boolP_b (fun _ => ?_) (fun _ => ?_) | ((with_reducible show CallA _ _ _ _ _); (first | refine call_ko (H0 := H) koW (oplace_ok _ loW (by first | exact h | exact h.same koW) i hi k false) ?_ | refine call_ko (H0 := H) koW (vdec_ok _ loW w hw) ?_); intro H2 k2 l2 n2 g2 q2; try simp (disch := omega) only [sm, sl] at l2 n2 g2 q2) | simp (config := { maxSteps := 1000000 }) (disch := omega) only [↓sh, ↓sh2, ↓reduceIte, sx, sl, sb, st, nbeq_ne, dle, relo_eq, wrap_i64, Nat.reduceBEq, Nat.reduceLT, Nat.reduceLeDiff, Nat.reduceAdd, Nat.reduceMul, Nat.reduceEqDiff, Int.reduceEq, Int.reduceLT, Int.reduceLE, Int.reduceNeg, Int.reduceToNat, Bool.false_eq_true, eq_self, sa, valV, *])
      exact ⟨h.same koW, Same.but sameW _⟩
    | true =>
      have e : setFE ws i k w = 0 := by unfold setFE; rw [if_pos hp, hd]; rfl
      have e1 : placeE ws.length (fieldK ws i k false) = 0 := if_pos ⟨h1, h2⟩
      repeat' (first | refine boolP_dec (fun _ => ?_) (fun _ => ?_) | apply boolP_not | refine boolP_b (fun _ => ?_) (fun _ => ?_) | ((with_reducible show CallA _ _ _ _ _); (first | refine call_ko (H0 := H) koW (oplace_ok _ loW (by first | exact h | exact h.same koW) i hi k false) ?_ | refine call_ko (H0 := H) koW (vdec_ok _ loW w hw) ?_); intro H2 k2 l2 n2 g2 q2; try simp (disch := omega) only [sm, sl] at l2 n2 g2 q2) | simp (config := { maxSteps := 1000000 }) (disch := omega) only [↓sh, ↓sh2, ↓reduceIte, sx, sl, sb, st, nbeq_ne, dle, relo_eq, wrap_i64, Nat.reduceBEq, Nat.reduceLT, Nat.reduceLeDiff, Nat.reduceAdd, Nat.reduceMul, Nat.reduceEqDiff, Int.reduceEq, Int.reduceLT, Int.reduceLE, Int.reduceNeg, Int.reduceToNat, Bool.false_eq_true, eq_self, sa, valV, *])
      refine callA_named (fun H9 e9 => ?_)
      have k9 : Ko H H9 := by rw [e9]; exact koW
      have n9 := congrArg Heap.next e9; have l9 := congrArg Heap.lo e9; have g9 := fun r => congrArg (fun h : Heap => h.objs.get r) e9
      simp (disch := omega) only [sm, sl] at n9 l9 g9
      clear e9
      refine (awrite_ok _ (by omega) (h.same k9) (by omega) (fieldK ws i k false) w hw).mono ?_
      rintro r H3 ⟨rfl, hA, hS⟩
      rw [if_pos e1] at hA
      rw [e1]
      exact ⟨rfl, hA, but_trans ((k9.same (by simp (config := { maxSteps := 1000000 }) (disch := omega) only [↓sh, ↓sh2, ↓reduceIte, sx, sl, sb, st, nbeq_ne, dle, relo_eq, wrap_i64, Nat.reduceBEq, Nat.reduceLT, Nat.reduceLeDiff, Nat.reduceAdd, Nat.reduceMul, Nat.reduceEqDiff, Int.reduceEq, Int.reduceLT, Int.reduceLE, Int.reduceNeg, Int.reduceToNat, Bool.false_eq_true, eq_self, *])).but _) hS⟩
  · have e : setFE ws i k w = fieldE ws i k false := if_neg hp
    repeat' (first | refine boolP_dec (fun _ => ?_) (fun _ => ?_) | apply boolP_not | refine boolP_b (fun _ => ?_) (fun _ => ?_) | ((with_reducible show CallA _ _ _ _ _); refine call_ko (H0 := H) koW (oplace_ok _ loW (by first | exact h | exact h.same koW) i hi k false) ?_; intro H2 k2 l2 n2 g2 q2; try simp (disch := omega) only [sm, sl] at l2 n2 g2 q2) | simp (config := { maxSteps := 1000000 }) (disch := omega) only [↓sh, ↓sh2, ↓reduceIte, sx, sl, sb, st, nbeq_ne, dle, relo_eq, wrap_i64, Nat.reduceBEq, Nat.reduceLT, Nat.reduceLeDiff, Nat.reduceAdd, Nat.reduceMul, Nat.reduceEqDiff, Int.reduceEq, Int.reduceLT, Int.reduceLE, Int.reduceNeg, Int.reduceToNat, Bool.false_eq_true, eq_self, sa, *])
    exact ⟨h.same k2, (k2.same (by simp (config := { maxSteps := 1000000 }) (disch := omega) only [↓sh, ↓sh2, ↓reduceIte, sx, sl, sb, st, nbeq_ne, dle, relo_eq, wrap_i64, Nat.reduceBEq, Nat.reduceLT, Nat.reduceLeDiff, Nat.reduceAdd, Nat.reduceMul, Nat.reduceEqDiff, Int.reduceEq, Int.reduceLT, Int.reduceLE, Int.reduceNeg, Int.reduceToNat, Bool.false_eq_true, eq_self, *])).but _⟩
end Go.AM
namespace Go.AM
attribute [local instance] fnMaps
open Go Go.Proofs
set_option maxRecDepth 100000
set_option maxHeartbeats 1000000
set_option linter.unusedSimpArgs false
def SLr {α : Type} (R : Heap → List Value → α → Prop) (z : Nat) (H : Heap) (v : Value) (l : List α) : Prop := SL R z H v l ∧ Rowed H v
def RW : Heap → List Value → Nat → Prop := fun _ part n => part = [wV n]
theorem RW.mono : Mono RW := fun _ _ _ _ _ h => h
theorem elems_words {H : Heap} {cs : List Value} {ws : List Nat} (h : Elems RW 1 H cs ws) : cs = ws.map wV := by
  refine List.ext_getElem? fun i => ?_
  rw [List.getElem?_map]
  by_cases hi : i < ws.length
  · obtain ⟨part, h1, h2⟩ := h.2 i ws[i] (by simp [hi])
    rw [h2, Nat.mul_one] at h1
    rw [cut1 h1, List.getElem?_eq_getElem hi]; rfl
  · have := h.1
    rw [List.getElem?_eq_none (by omega), List.getElem?_eq_none (by omega)]; rfl
theorem app_fresh {z b k r : Nat} {H : Heap} {new : List Value} {t : Bool} (hr : H.objs.get r = some (.row [] none t)) (hk : k ≠ 0) (hg : growOk z b k = true) : appendT z b H (.slice (some ⟨r, 0, none⟩) 0 0) k new = some (.slice (some ⟨H.next, 0, none⟩) k k, H.newApp z new) := by
  have h1 : Nat.ble k 0 = false := Bool.eq_false_iff.2 fun hh => by have := Nat.le_of_ble_eq_true hh; omega
  have h2 : cut ([] : List Value) 0 (0 * z) = some [] := by rw [cut_eq]; simp
  simp only [appendT, Nat.zero_add, h1, cond_false, hg, Bool.not_true, hr, h2, Option.bind_some, List.nil_append]
theorem isnil_25 (d : Nat) (a : Addr) (n c n' c' : Nat) : eqV E (d + 1) 25 (.slice (some a) n c) (.slice none n' c') = some false := by kernel_rfl
theorem fn32 : E.fn.get 32 = some Tryz.f32 := by kernel_rfl
theorem words_clone (H : Heap) (hlo : H.lo ≤ H.next) (v : Value) (ws : List Nat) (hv : SLr RW 1 H v ws) (h0 : ws ≠ []) (hl : ws.length ≤ 100000) : CallA E (fnv 32) [v] H fun r H' => ∃ rw, r = .slice (some ⟨rw, 0, none⟩) ws.length ws.length ∧ H.next ≤ rw ∧ rw < H'.next ∧ H'.objs.get rw = some (.row (ws.map wV) (some (rw, 1)) true) ∧ H'.grps.get rw = some [] ∧ Same H H' := by
  obtain ⟨hs, hr⟩ := hv
  have sN : Same H (H.newRow []) := same_newRow _
  obtain ⟨a, c, cs, rfl, hrd, heR⟩ := (hs.mono RW.mono sN).reading (hr.same sN)
  rw [Nat.mul_one] at hrd
  have hcs := elems_words heR
  subst hcs
  have hne : ws.length ≠ 0 := by cases ws <;> simp_all
  have hrow0 : (H.newRow []).objs.get H.next = some (.row [] none true) := by simp (disch := omega) only [setRow_get, newRow_get, newRow_next, setRow_next, newRow_lo, setRow_lo, newRow_grps, setRow_grps, newRow_relo, setRow_relo, relo_objs, relo_next, relo_lo, nbeq_ne, sl]
  refine callA_fn (by kernel_rfl) fn32 rfl rfl ?_
  simp only [Tryz.f32]
  cases a with
  | none =>
    obtain ⟨a', c', e, _, h⟩ := hs
    simp only [Value.slice.injEq] at e
    obtain ⟨r, o, _, _, _, _, h0, _⟩ := h 0 ws[0] (by simp [List.getElem?_eq_getElem (show 0 < ws.length by omega)])
    rw [h0] at e
    cases e.1
  | some a =>
    have hap := app_fresh (z := 1) (b := 8) (k := ws.length) (new := ws.map wV) hrow0 hne (by simp [growOk, beq_dec, ble_dec]; omega)
    repeat' (first | refine boolP_dec (fun _ => ?_) (fun _ => ?_) | apply boolP_not | refine boolP_b (fun _ => ?_) (fun _ => ?_) | simp (config := { maxSteps := 1000000 }) (disch := omega) only [↓sh, ↓sh2, ↓reduceIte, sx, sl, sb, st, nbeq_ne, dle, relo_eq, wrap_i64, Nat.reduceBEq, Nat.reduceLT, Nat.reduceLeDiff, Nat.reduceAdd, Nat.reduceMul, Nat.reduceEqDiff, Int.reduceEq, Int.reduceLT, Int.reduceLE, Int.reduceNeg, Int.reduceToNat, Bool.false_eq_true, eq_self, sa, isnil_25, ble_dec, repeat_zero, *])
    have g := grown_newApp (b := H.next) (H := H.newRow []) (by simp (disch := omega) only [setRow_get, newRow_get, newRow_next, setRow_next, newRow_lo, setRow_lo, newRow_grps, setRow_grps, newRow_relo, setRow_relo, relo_objs, relo_next, relo_lo, nbeq_ne, sl]; omega) 1 (ws.map wV)
    refine ⟨H.next + 1, rfl, by omega, by rw [newApp_next]; simp (disch := omega) only [setRow_get, newRow_get, newRow_next, setRow_next, newRow_lo, setRow_lo, newRow_grps, setRow_grps, newRow_relo, setRow_relo, relo_objs, relo_next, relo_lo, nbeq_ne, sl]; omega, ?_, ?_, g.same sN (Nat.le_refl _)⟩
    · rw [newApp_get, nbeq_eq (by simp (disch := omega) only [setRow_get, newRow_get, newRow_next, setRow_next, newRow_lo, setRow_lo, newRow_grps, setRow_grps, newRow_relo, setRow_relo, relo_objs, relo_next, relo_lo, nbeq_ne, sl])]
      simp (disch := omega) only [setRow_get, newRow_get, newRow_next, setRow_next, newRow_lo, setRow_lo, newRow_grps, setRow_grps, newRow_relo, setRow_relo, relo_objs, relo_next, relo_lo, nbeq_ne, sl]
    · rw [newApp_grps, nbeq_eq (by simp (disch := omega) only [setRow_get, newRow_get, newRow_next, setRow_next, newRow_lo, setRow_lo, newRow_grps, setRow_grps, newRow_relo, setRow_relo, relo_objs, relo_next, relo_lo, nbeq_ne, sl])]; rfl
theorem fn20 : E.fn.get 20 = some Tryz.f20 := by kernel_rfl
theorem aof_ok (H : Heap) (hlo : H.lo ≤ H.next) (v : Value) (ws : List Nat) (hv : SLr RW 1 H v ws) (h0 : ws ≠ []) (hl : ws.length ≤ 98304) (hu : ∀ w ∈ ws, w < 2 ^ 64) : CallA E (fnv 20) [v] H fun r H' => ∃ a rw, r = .tuple #[ptr a 0, .int .i64 0] ∧ Ar H' a rw rw ws ∧ H.next ≤ a ∧ H.next ≤ rw ∧ Same H H' := by
  have hc := words_clone H hlo v ws hv h0 (by omega)
  obtain ⟨⟨a, c, rfl, _, _⟩, _⟩ := hv
  refine callA_fn (by kernel_rfl) fn20 rfl rfl ?_
  simp only [Tryz.f20]
  repeat' (first | refine boolP_dec (fun _ => ?_) (fun _ => ?_) | apply boolP_not | refine boolP_b (fun _ => ?_) (fun _ => ?_) | simp (config := { maxSteps := 1000000 }) (disch := omega) only [↓sh, ↓sh2, ↓reduceIte, sx, sl, sb, st, nbeq_ne, dle, relo_eq, wrap_i64, Nat.reduceBEq, Nat.reduceLT, Nat.reduceLeDiff, Nat.reduceAdd, Nat.reduceMul, Nat.reduceEqDiff, Int.reduceEq, Int.reduceLT, Int.reduceLE, Int.reduceNeg, Int.reduceToNat, Bool.false_eq_true, eq_self, sa, *])
  all_goals try omega
  refine hc.mono ?_
  rintro r H2 ⟨rw, rfl, h1, h2, h3, h4, s2⟩
  have n2 := s2.nxt
  repeat' (first | refine boolP_dec (fun _ => ?_) (fun _ => ?_) | apply boolP_not | refine boolP_b (fun _ => ?_) (fun _ => ?_) | simp (config := { maxSteps := 1000000 }) (disch := omega) only [↓sh, ↓sh2, ↓reduceIte, sx, sl, sb, st, nbeq_ne, dle, relo_eq, wrap_i64, Nat.reduceBEq, Nat.reduceLT, Nat.reduceLeDiff, Nat.reduceAdd, Nat.reduceMul, Nat.reduceEqDiff, Int.reduceEq, Int.reduceLT, Int.reduceLE, Int.reduceNeg, Int.reduceToNat, Bool.false_eq_true, eq_self, sa, *])
  refine ⟨H2.next, rw, rfl, ⟨?_, ?_, ?_, by simp (disch := omega) only [setRow_get, newRow_get, newRow_next, setRow_next, newRow_lo, setRow_lo, newRow_grps, setRow_grps, newRow_relo, setRow_relo, relo_objs, relo_next, relo_lo, nbeq_ne, sl]; omega, by simp (disch := omega) only [setRow_get, newRow_get, newRow_next, setRow_next, newRow_lo, setRow_lo, newRow_grps, setRow_grps, newRow_relo, setRow_relo, relo_objs, relo_next, relo_lo, nbeq_ne, sl]; omega, by simp (disch := omega) only [setRow_get, newRow_get, newRow_next, setRow_next, newRow_lo, setRow_lo, newRow_grps, setRow_grps, newRow_relo, setRow_relo, relo_objs, relo_next, relo_lo, nbeq_ne, sl]; omega, by omega, hu, hl⟩, n2, h1, s2.newRow _⟩
  · simp (disch := omega) only [setRow_get, newRow_get, newRow_next, setRow_next, newRow_lo, setRow_lo, newRow_grps, setRow_grps, newRow_relo, setRow_relo, relo_objs, relo_next, relo_lo, nbeq_ne, sl]
  · simp (disch := omega) only [setRow_get, newRow_get, newRow_next, setRow_next, newRow_lo, setRow_lo, newRow_grps, setRow_grps, newRow_relo, setRow_relo, relo_objs, relo_next, relo_lo, nbeq_ne, sl]; exact h3
  · simp (disch := omega) only [setRow_get, newRow_get, newRow_next, setRow_next, newRow_lo, setRow_lo, newRow_grps, setRow_grps, newRow_relo, setRow_relo, relo_objs, relo_next, relo_lo, nbeq_ne, sl]; exact h4
theorem words_cut {ws : List Nat} {i : Nat} {x : Nat} (h : ws[i]? = some x) : cut (ws.map wV) (i * 1) 1 = some [wV x] := by
  have hi := (List.getElem?_eq_some_iff.1 h).1
  rw [cut_eq, if_pos (by rw [List.length_map]; omega), Nat.mul_one, List.take_one, List.head?_drop, List.getElem?_map, h]
  rfl
theorem Ar.sl {H : Heap} {a rw g : Nat} {ws : List Nat} (h : Ar H a rw g ws) : SLr RW 1 H (.slice (some ⟨rw, 0, none⟩) ws.length ws.length) ws := by
  have hl := h.len
  refine ⟨SL.ofRow h.lw h.row (Nat.le_refl _) (by omega) fun i x hi => ⟨_, words_cut hi, rfl⟩, ?_⟩
  intro a' l c e
  simp only [Value.slice.injEq] at e
  obtain ⟨rfl, _, _⟩ := e
  exact .inr ⟨rw, _, _, _, rfl, h.lw, h.row⟩
def NewW (b : Nat) (H : Heap) (v : Value) (ws : List Nat) : Prop := ∃ rw, v = .slice (some ⟨rw, 0, none⟩) ws.length ws.length ∧ b ≤ rw ∧ rw < H.next ∧ H.objs.get rw = some (.row (ws.map wV) (some (rw, 1)) true) ∧ H.grps.get rw = some []
theorem fn9 : E.fn.get 9 = some Tryz.f9 := by kernel_rfl
theorem awords_ok (H : Heap) (hlo : H.lo ≤ H.next) {a rw g : Nat} {ws : List Nat} (h : Ar H a rw g ws) (h0 : ws ≠ []) : CallA E (fnv 9) [ptr a 0] H fun r H' => NewW H.next H' r ws ∧ Same H H' := by
  have hb := h.box
  have la := h.la
  have hl := h.len
  refine callA_fn (by kernel_rfl) fn9 rfl rfl ?_
  simp only [Tryz.f9]
  repeat' (first | refine boolP_dec (fun _ => ?_) (fun _ => ?_) | apply boolP_not | refine boolP_b (fun _ => ?_) (fun _ => ?_) | ((with_reducible show CallA _ _ _ _ _); refine call_ko (H0 := H) koW (adead_ok _ loW (by first | exact h | exact h.same koW)) ?_; intro H2 k2 l2 n2 g2 q2; try simp (disch := omega) only [sm, sl] at l2 n2 g2 q2) | simp (config := { maxSteps := 1000000 }) (disch := omega) only [↓sh, ↓sh2, ↓reduceIte, sx, sl, sb, st, nbeq_ne, dle, relo_eq, wrap_i64, Nat.reduceBEq, Nat.reduceLT, Nat.reduceLeDiff, Nat.reduceAdd, Nat.reduceMul, Nat.reduceEqDiff, Int.reduceEq, Int.reduceLT, Int.reduceLE, Int.reduceNeg, Int.reduceToNat, Bool.false_eq_true, eq_self, sa, *])
  refine (words_clone H2 (by omega) _ ws (h.same k2).sl h0 (by omega)).mono ?_
  rintro r H3 ⟨rw', rfl, h1, h2, h3, h4, s3⟩
  repeat' (first | refine boolP_dec (fun _ => ?_) (fun _ => ?_) | apply boolP_not | refine boolP_b (fun _ => ?_) (fun _ => ?_) | simp (config := { maxSteps := 1000000 }) (disch := omega) only [↓sh, ↓sh2, ↓reduceIte, sx, sl, sb, st, nbeq_ne, dle, relo_eq, wrap_i64, Nat.reduceBEq, Nat.reduceLT, Nat.reduceLeDiff, Nat.reduceAdd, Nat.reduceMul, Nat.reduceEqDiff, Int.reduceEq, Int.reduceLT, Int.reduceLE, Int.reduceNeg, Int.reduceToNat, Bool.false_eq_true, eq_self, sa, *])
  exact ⟨⟨rw', rfl, by omega, h2, h3, h4⟩, (k2.same l2).trans s3⟩
end Go.AM
