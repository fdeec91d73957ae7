/-
  Walks over letters of the functions that the law reaches.
-/
import Derived.Test.YtfaplhodeekjnaaGreatB10
import Derived.Test.YtfaplhodeekjnaaGreatBB
import Derived.Test.YtfaplhodeekjnaaGreatTyB
namespace Go.AM
attribute [local instance] fnMaps
open Go Go.Proofs
set_option maxRecDepth 100000
set_option maxHeartbeats 1000000
set_option linter.unusedSimpArgs false
structure Mod (ex : List Nat) (H H' : Heap) : Prop where
  lo : H'.lo = H.lo
  nxt : H.next ≤ H'.next
  objs : ∀ x, x < H.next → x ∉ ex → H'.objs.get x = H.objs.get x
  grps : ∀ x, x < H.next → H'.grps.get x = H.grps.get x
theorem Same.mod {H H' : Heap} (h : Same H H') (ex : List Nat) : Mod ex H H' := ⟨h.lo, h.nxt, fun x hx _ => h.objs x hx, h.grps⟩
theorem SameBut.mod {k : Nat} {ex : List Nat} {H H' : Heap} (h : SameBut k H H') (hk : k ∈ ex) : Mod ex H H' := ⟨h.lo, h.nxt, fun x hx he => h.objs x hx fun e => he (e ▸ hk), h.grps⟩
theorem Mod.trans {ex : List Nat} {H X Y : Heap} (h : Mod ex H X) (h' : Mod ex X Y) : Mod ex H Y :=
  ⟨h'.lo.trans h.lo, Nat.le_trans h.nxt h'.nxt, fun x hx he => (h'.objs x (Nat.lt_of_lt_of_le hx h.nxt) he).trans (h.objs x hx he), fun x hx => (h'.grps x (Nat.lt_of_lt_of_le hx h.nxt)).trans (h.grps x hx)⟩
theorem Mod.setRow {ex : List Nat} {H X : Heap} (h : Mod ex H X) {r : Nat} (hr : r ∈ ex) (c : List Value) : Mod ex H (X.setRow r c) :=
  ⟨h.lo, h.nxt, fun x hx he => by have e : x ≠ r := (fun e => he (by rw [e]; exact hr)); rw [setRow_get, nbeq_ne e]; exact h.objs x hx he, h.grps⟩
theorem Mod.keeps {ex : List Nat} {H X : Heap} (h : Mod ex H X) {r : Nat} (hr : r < H.next) (he : r ∉ ex) {o : AObj} (ho : H.objs.get r = some o) : X.objs.get r = some o := (h.objs r hr he).trans ho
structure Wk where
  words : Int
  objects : Int
  fields : Int
  marked : Int
  steps : Int
def rnC (a b : Nat) (fr to : Span) (top : Int) (lv : Value) (k : Wk) : List Value := [.bool true, ptr a 0, .int .i64 fr.at', .int .i64 fr.size, .int .i64 top, .int .i64 to.at', .int .i64 to.size, ptr b 0, lv, .int .i64 k.words, .int .i64 k.objects, .int .i64 k.fields, .int .i64 k.marked, .int .i64 k.steps]
structure Rs where
  u : Int
  k : Wk
  ws : List Nat
structure Rc where
  p : Nat
  b : Nat
  a : Nat
  rw : Nat
  g : Nat
  fr : Span
  to : Span
  top : Int
  lv : Value
structure Rn (H : Heap) (c : Rc) (s : Rs) : Prop where
  row : H.objs.get c.p = some (.row (rnC c.a c.b c.fr c.to c.top c.lv s.k) none true)
  lp : c.p < H.next
  bp : Bp H c.b c.to s.u
  ar : Ar H c.a c.rw c.g s.ws
  f0 : 0 ≤ c.fr.at'
  f1 : c.fr.at' ≤ c.top
  f2 : c.top ≤ s.ws.length
  t1 : c.to.at' + c.to.size ≤ s.ws.length
theorem Rn.ne {H : Heap} {c : Rc} {s : Rs} (h : Rn H c s) : c.p ≠ c.b ∧ c.p ≠ c.a ∧ c.p ≠ c.rw ∧ c.b ≠ c.a ∧ c.b ≠ c.rw ∧ c.a ≠ c.rw := by
  have h1 := h.row; have h2 := h.bp.box; have h3 := h.ar.box; have h4 := h.ar.row
  refine ⟨fun e => ?_, fun e => ?_, fun e => ?_, fun e => ?_, fun e => ?_, h.ar.ne⟩
  · rw [e, h2] at h1; simp [rnC] at h1
  · rw [e, h3] at h1; simp [rnC] at h1
  · rw [e, h4] at h1; simp at h1
  · rw [e, h3] at h2; simp at h2
  · rw [e, h4] at h2; simp at h2
theorem Rn.ko {H X : Heap} {c : Rc} {s : Rs} (h : Rn H c s) (k : Ko H X) : Rn X c s :=
  ⟨k.keeps h.lp h.row, Nat.lt_of_lt_of_le h.lp k.nxt, h.bp.same k, h.ar.same k, h.f0, h.f1, h.f2, h.t1⟩
def Rc.ex (c : Rc) : List Nat := [c.p, c.b, c.rw]
structure Rc.Lo (c : Rc) (H : Heap) : Prop where
  p : H.lo ≤ c.p
  b : H.lo ≤ c.b
  rw : H.lo ≤ c.rw
theorem Rc.Lo.eq {c : Rc} {H X : Heap} (h : c.Lo H) (e : X.lo = H.lo) : c.Lo X := ⟨by rw [e]; exact h.p, by rw [e]; exact h.b, by rw [e]; exact h.rw⟩
def refWd (x : Int) : Nat := Val.word ⟨2, x⟩
theorem refWd_u64 (x : Int) (h : 0 ≤ x ∧ x ≤ 1099511627776) : refWd x < 2 ^ 64 := by unfold refWd Val.word; simp only; omega
theorem fn92 : E.fn.get 92 = some Tryz.f92 := by kernel_rfl
theorem hforward_ok (H : Heap) (hlo : H.lo ≤ H.next) (x : Int) (hx : 0 ≤ x ∧ x ≤ 1099511627776) : CallA E (fnv 92) [.int .i64 x] H fun r H' => r = .tuple #[.int .u64 (refWd x), .int .i64 0] ∧ Same H H' := by
  have hv : (⟨2, x⟩ : Val).Ok := .inr (.inr ⟨rfl, hx⟩)
  refine callA_fn (by kernel_rfl) fn92 rfl rfl ?_
  simp only [Tryz.f92]
  repeat' (first | refine boolP_dec (fun _ => ?_) (fun _ => ?_) | apply boolP_not | refine boolP_b (fun _ => ?_) (fun _ => ?_) | ((with_reducible show CallA _ _ _ _ _); refine call_ko (H0 := H) koW (venc_ok _ loW ⟨2, x⟩) ?_; intro H2 k2 l2 n2 g2 q2; try simp (disch := omega) only [sm, sl] at l2 n2 g2 q2) | simp (config := { maxSteps := 1000000 }) (disch := omega) only [↓sh, ↓sh2, ↓reduceIte, sx, sl, sb, st, nbeq_ne, dle, relo_eq, wrap_i64, Nat.reduceBEq, Nat.reduceLT, Nat.reduceLeDiff, Nat.reduceAdd, Nat.reduceMul, Nat.reduceEqDiff, Int.reduceEq, Int.reduceLT, Int.reduceLE, Int.reduceNeg, Int.reduceToNat, Bool.false_eq_true, eq_self, sa, valV, refWd, *])
  all_goals (first | (with_reducible exact sameW) | ((with_reducible show _ ∧ _); exact ⟨by first | rfl | (simp [*] <;> omega), sameW⟩))
theorem fn66 : E.fn.get 66 = some Tryz.f66 := by kernel_rfl
theorem hforwarded_ok (H : Heap) (hlo : H.lo ≤ H.next) (w : Nat) (hw : w < 2 ^ 64) : CallA E (fnv 66) [.int .u64 w] H fun r H' => r = .tuple #[.int .i64 ((refW w).getD 0), .bool (refW w).isSome] ∧ Same H H' := by
  refine callA_fn (by kernel_rfl) fn66 rfl rfl ?_
  simp only [Tryz.f66]
  repeat' (first | refine boolP_dec (fun _ => ?_) (fun _ => ?_) | apply boolP_not | refine boolP_b (fun _ => ?_) (fun _ => ?_) | ((with_reducible show CallA _ _ _ _ _); refine call_ko (H0 := H) koW (vref_ok _ loW w hw) ?_; intro H2 k2 l2 n2 g2 q2; try simp (disch := omega) only [sm, sl] at l2 n2 g2 q2) | simp (config := { maxSteps := 1000000 }) (disch := omega) only [↓sh, ↓sh2, ↓reduceIte, sx, sl, sb, st, nbeq_ne, dle, relo_eq, wrap_i64, Nat.reduceBEq, Nat.reduceLT, Nat.reduceLeDiff, Nat.reduceAdd, Nat.reduceMul, Nat.reduceEqDiff, Int.reduceEq, Int.reduceLT, Int.reduceLE, Int.reduceNeg, Int.reduceToNat, Bool.false_eq_true, eq_self, sa, *])
  all_goals (first | (with_reducible exact sameW) | ((with_reducible show _ ∧ _); exact ⟨by first | rfl | (simp [*] <;> omega), sameW⟩))
theorem fn33 : E.fn.get 33 = some Tryz.f33 := by kernel_rfl
theorem cdead_ok (H : Heap) (hlo : H.lo ≤ H.next) {c : Rc} {s : Rs} (h : Rn H c s) : CallA E (fnv 33) [ptr c.p 0] H fun r H' => r = .bool false ∧ Same H H' := by
  have hr := h.row
  unfold rnC at hr
  refine callA_fn (by kernel_rfl) fn33 rfl rfl ?_
  simp only [Tryz.f33]
  repeat' (first | refine boolP_dec (fun _ => ?_) (fun _ => ?_) | apply boolP_not | refine boolP_b (fun _ => ?_) (fun _ => ?_) | simp (config := { maxSteps := 1000000 }) (disch := omega) only [↓sh, ↓sh2, ↓reduceIte, sx, sl, sb, st, nbeq_ne, dle, relo_eq, wrap_i64, Nat.reduceBEq, Nat.reduceLT, Nat.reduceLeDiff, Nat.reduceAdd, Nat.reduceMul, Nat.reduceEqDiff, Int.reduceEq, Int.reduceLT, Int.reduceLE, Int.reduceNeg, Int.reduceToNat, Bool.false_eq_true, eq_self, sa, st2, *])
  all_goals (first | (with_reducible exact sameW) | ((with_reducible show _ ∧ _); exact ⟨by first | rfl | (simp [*] <;> omega), sameW⟩))
def copyW (ws : List Nat) (f t n : Int) : List Nat := (moveW ws t.toNat f.toNat n.toNat).set f.toNat (refWd t)
theorem copyW_len {ws : List Nat} {f t n : Int} (h1 : t.toNat + n.toNat ≤ ws.length) (h2 : f.toNat + n.toNat ≤ ws.length) : (copyW ws f t n).length = ws.length := by
  rw [copyW, List.length_set, moveW_len h1 h2]
theorem Ar.off {ex : List Nat} {H X : Heap} {a rw g : Nat} {ws : List Nat} (h : Ar H a rw g ws) (m : Mod ex H X) (h1 : a ∉ ex) (h2 : rw ∉ ex) : Ar X a rw g ws :=
  ⟨m.keeps h.la h1 h.box, m.keeps h.lw h2 h.row, by rw [m.grps g h.lg, h.grp], Nat.lt_of_lt_of_le h.la m.nxt, Nat.lt_of_lt_of_le h.lw m.nxt, Nat.lt_of_lt_of_le h.lg m.nxt, h.ne, h.u64, h.len⟩
theorem Bp.off {ex : List Nat} {H X : Heap} {b : Nat} {x : Span} {u : Int} (h : Bp H b x u) (m : Mod ex H X) (h1 : b ∉ ex) : Bp X b x u :=
  ⟨m.keeps h.lb h1 h.box, Nat.lt_of_lt_of_le h.lb m.nxt, h.may, h.u0, h.u1⟩
theorem SameBut.mod1 {k : Nat} {H H' : Heap} (h : SameBut k H H') : Mod [k] H H' := h.mod (List.mem_singleton.2 rfl)
theorem not1 {x y : Nat} (h : x ≠ y) : x ∉ [y] := fun e => h (List.mem_singleton.1 e)
theorem fn67 : E.fn.get 67 = some Tryz.f67 := by kernel_rfl
theorem copied_ok (H : Heap) (hlo : H.lo ≤ H.next) {c : Rc} {s : Rs} (h : Rn H c s) (ho : c.Lo H) (at' : Int) (d : Hd) (h0 : 0 ≤ at') (h1 : 1 ≤ sizeH d) (h2 : sizeH d ≤ c.top - at') (h3 : s.u + sizeH d ≤ c.to.size) :
    CallA E (fnv 67) [ptr c.p 0, .int .i64 at', hdV d] H fun r H' => r = .tuple #[.int .u64 (refWd (c.to.at' + s.u)), .int .i64 0] ∧ Rn H' c ⟨s.u + sizeH d, { s.k with words := IntKind.i64.wrap (s.k.words + sizeH d) }, copyW s.ws at' (c.to.at' + s.u) (sizeH d)⟩ ∧ Mod c.ex H H' := by
  obtain ⟨n1, n2, n3, n4, n5, n6⟩ := h.ne
  have hr := h.row
  have lp := h.lp
  have lb := h.bp.lb
  have hm := h.bp.may
  have u0 := h.bp.u0
  have f2 := h.f2
  have t1 := h.t1
  have hlen := h.ar.len
  have hsz := sizeH_in (h := d)
  unfold May at hm
  unfold rnC at hr
  have hp := ho.p
  refine callA_fn (by kernel_rfl) fn67 rfl rfl ?_
  simp only [Tryz.f67]
  simp only [hdV]
  repeat' (first | refine boolP_dec (fun _ => ?_) (fun _ => ?_) | apply boolP_not | refine boolP_b (fun _ => ?_) (fun _ => ?_) | ((with_reducible show CallA _ _ _ _ _); refine call_ko (H0 := H) koW (hsize_ok _ loW d) ?_; intro H2 k2 l2 n2 g2 q2; try simp (disch := omega) only [sm, sl] at l2 n2 g2 q2) | simp (config := { maxSteps := 1000000 }) (disch := omega) only [↓sh, ↓sh2, ↓reduceIte, sx, sl, sb, st, nbeq_ne, dle, relo_eq, wrap_i64, Nat.reduceBEq, Nat.reduceLT, Nat.reduceLeDiff, Nat.reduceAdd, Nat.reduceMul, Nat.reduceEqDiff, Int.reduceEq, Int.reduceLT, Int.reduceLE, Int.reduceNeg, Int.reduceToNat, Bool.false_eq_true, eq_self, sa, st2, *])
  all_goals try omega
  have l2' := l2
  have ht : takeE c.to s.u (sizeH d) = 0 := by unfold takeE; rw [if_neg (by omega), if_neg (by omega)]
  refine (btake_ok _ loW (h.bp.same koW) (by have := ho.b; omega) (sizeH d)).mono ?_
  rintro r H3 ⟨rfl, hb3, m3⟩
  rw [ht, if_pos rfl] at hb3 ⊢
  have hr3 := (m3.keeps (by omega) n1 (k2.keeps lp hr))
  have ha3 := (h.ar.same k2).off m3.mod1 (not1 n4.symm) (not1 n5.symm)
  have lo3 := m3.lo
  have nx3 := m3.nxt
  have w0 : Mod c.ex H H2 := (k2.same l2).mod _
  have w3 := w0.trans (m3.mod (List.mem_cons_of_mem _ (List.mem_cons_self ..)))
  repeat' (first | refine boolP_dec (fun _ => ?_) (fun _ => ?_) | apply boolP_not | refine boolP_b (fun _ => ?_) (fun _ => ?_) | simp (config := { maxSteps := 1000000 }) (disch := omega) only [↓sh, ↓sh2, ↓reduceIte, sx, sl, sb, st, nbeq_ne, dle, relo_eq, wrap_i64, Nat.reduceBEq, Nat.reduceLT, Nat.reduceLeDiff, Nat.reduceAdd, Nat.reduceMul, Nat.reduceEqDiff, Int.reduceEq, Int.reduceLT, Int.reduceLE, Int.reduceNeg, Int.reduceToNat, Bool.false_eq_true, eq_self, sa, st2, *])
  have mv : moveE s.ws.length (c.to.at' + s.u) at' (sizeH d) = 0 := by unfold moveE rowE; rw [if_pos] <;> rw [if_neg (by omega), if_pos (by omega)]
  refine (amove_ok _ loW ha3 (by have := ho.rw; omega) (c.to.at' + s.u) at' (sizeH d) (by omega) (by omega) (by omega) (by omega)).mono ?_
  rintro r H4 ⟨rfl, ha4, m4⟩
  rw [mv, if_pos rfl] at ha4
  have hr4 := m4.keeps (by omega) n3 hr3
  have hb4 := hb3.off m4.mod1 (not1 n5)
  have lo4 := m4.lo
  have nx4 := m4.nxt
  have w4 := w3.trans (m4.mod (List.mem_cons_of_mem _ (List.mem_cons_of_mem _ (List.mem_cons_self ..))))
  repeat' (first | refine boolP_dec (fun _ => ?_) (fun _ => ?_) | apply boolP_not | refine boolP_b (fun _ => ?_) (fun _ => ?_) | ((with_reducible show CallA _ _ _ _ _); refine call_ko (H0 := H4) koW (hforward_ok _ loW (c.to.at' + s.u) (by omega)) ?_; intro H2 k2 l2 n2 g2 q2; try simp (disch := omega) only [sm, sl] at l2 n2 g2 q2) | simp (config := { maxSteps := 1000000 }) (disch := omega) only [↓sh, ↓sh2, ↓reduceIte, sx, sl, sb, st, nbeq_ne, dle, relo_eq, wrap_i64, Nat.reduceBEq, Nat.reduceLT, Nat.reduceLeDiff, Nat.reduceAdd, Nat.reduceMul, Nat.reduceEqDiff, Int.reduceEq, Int.reduceLT, Int.reduceLE, Int.reduceNeg, Int.reduceToNat, Bool.false_eq_true, eq_self, sa, st2, *])
  have pl : placeE (moveW s.ws (c.to.at' + s.u).toNat at'.toNat (sizeH d).toNat).length at' = 0 := by rw [moveW_len (by omega) (by omega)]; unfold placeE; rw [if_pos (by omega)]
  refine (awrite_ok _ loW (ha4.same koW) (by have := ho.rw; omega) at' (refWd (c.to.at' + s.u)) (refWd_u64 _ (by omega))).mono ?_
  rintro r H6 ⟨rfl, ha6, m6⟩
  rw [pl, if_pos rfl] at ha6
  have hr6 := m6.keeps (by omega) n3 (k2.keeps (by omega) hr4)
  have hb6 := (hb4.same k2).off m6.mod1 (not1 n5)
  have w6 := (w4.trans ((k2.same l2).mod _)).trans (m6.mod (List.mem_cons_of_mem _ (List.mem_cons_of_mem _ (List.mem_cons_self ..))))
  have lo6 := m6.lo
  have nx6 := m6.nxt
  repeat' (first | refine boolP_dec (fun _ => ?_) (fun _ => ?_) | apply boolP_not | refine boolP_b (fun _ => ?_) (fun _ => ?_) | simp (config := { maxSteps := 1000000 }) (disch := omega) only [↓sh, ↓sh2, ↓reduceIte, sx, sl, sb, st, nbeq_ne, dle, relo_eq, wrap_i64, Nat.reduceBEq, Nat.reduceLT, Nat.reduceLeDiff, Nat.reduceAdd, Nat.reduceMul, Nat.reduceEqDiff, Int.reduceEq, Int.reduceLT, Int.reduceLE, Int.reduceNeg, Int.reduceToNat, Bool.false_eq_true, eq_self, sa, st2, *])
  have m7 := ((Same.refl H6).mod [c.p]).setRow (List.mem_singleton.2 rfl) (rnC c.a c.b c.fr c.to c.top c.lv { s.k with words := IntKind.i64.wrap (s.k.words + sizeH d) })
  have hlc : (copyW s.ws at' (c.to.at' + s.u) (sizeH d)).length = s.ws.length := copyW_len (by omega) (by omega)
  exact ⟨⟨by rw [setRow_get, nbeq_eq rfl]; rfl, by rw [setRow_next]; omega, hb6.off m7 (not1 h.ne.1.symm), ha6.off m7 (not1 h.ne.2.1.symm) (not1 h.ne.2.2.1.symm), h.f0, h.f1, by rw [hlc]; exact f2, by rw [hlc]; exact t1⟩, w6.setRow (List.mem_cons_self ..) _⟩
end Go.AM
namespace Go.AM
attribute [local instance] fnMaps
open Go Go.Proofs
set_option maxRecDepth 100000
set_option maxHeartbeats 1000000
set_option linter.unusedSimpArgs false
theorem refW_in {w : Nat} {x : Int} (h : refW w = some x) : 0 ≤ x ∧ x ≤ 1099511627776 := by
  unfold refW at h
  split at h
  · cases h; omega
  · cases h
theorem aread_in (H : Heap) (hlo : H.lo ≤ H.next) {a rw g : Nat} {ws : List Nat} (h : Ar H a rw g ws) (i : Int) (hp : placeE ws.length i = 0) : CallA E (fnv 39) [ptr a 0, .int .i64 i] H fun r H' => r = .tuple #[.int .u64 (wAt ws i), .int .i64 0] ∧ Same H H' := by
  have := aread_ok H hlo h i
  rw [if_pos hp, hp] at this
  exact this
theorem fn49 : E.fn.get 49 = some Tryz.f49 := by kernel_rfl
theorem fwd_plain (H : Heap) (hlo : H.lo ≤ H.next) {c : Rc} {s : Rs} (h : Rn H c s) (w : Nat) (hw : w < 2 ^ 64) (hn : refW w = none) : CallA E (fnv 49) [ptr c.p 0, .int .u64 w] H fun r H' => r = .tuple #[.int .u64 w, .bool false, .int .i64 0] ∧ Same H H' := by
  refine callA_fn (by kernel_rfl) fn49 rfl rfl ?_
  simp only [Tryz.f49]
  repeat' (first | refine boolP_dec (fun _ => ?_) (fun _ => ?_) | apply boolP_not | refine boolP_b (fun _ => ?_) (fun _ => ?_) | ((with_reducible show CallA _ _ _ _ _); (first | refine call_ko (H0 := H) koW (cdead_ok _ loW (h.ko koW)) ?_ | refine call_ko (H0 := H) koW (vref_ok _ loW w hw) ?_); intro H2 k2 l2 n2 g2 q2; try simp (disch := omega) only [sm, sl] at l2 n2 g2 q2) | simp (config := { maxSteps := 1000000 }) (disch := omega) only [↓sh, ↓sh2, ↓reduceIte, sx, sl, sb, st, nbeq_ne, dle, relo_eq, wrap_i64, Nat.reduceBEq, Nat.reduceLT, Nat.reduceLeDiff, Nat.reduceAdd, Nat.reduceMul, Nat.reduceEqDiff, Int.reduceEq, Int.reduceLT, Int.reduceLE, Int.reduceNeg, Int.reduceToNat, Bool.false_eq_true, eq_self, sa, st2, Option.isSome_none, Option.getD_none, *])
  all_goals (first | (with_reducible exact sameW) | ((with_reducible show _ ∧ _); exact ⟨by first | rfl | (simp [*] <;> omega), sameW⟩))
theorem fwd_copy (H : Heap) (hlo : H.lo ≤ H.next) {c : Rc} {s : Rs} (h : Rn H c s) (ho : c.Lo H) (w : Nat) (hw : w < 2 ^ 64) {x : Int} (hn : refW w = some x) (h1 : c.fr.at' ≤ x) (hg : refW (wAt s.ws x) = none) (hd : isHd (wAt s.ws x) = true)
    (hz : 1 ≤ sizeH (decHd (wAt s.ws x))) (h2 : sizeH (decHd (wAt s.ws x)) ≤ c.top - x) (h3 : s.u + sizeH (decHd (wAt s.ws x)) ≤ c.to.size) : CallA E (fnv 49) [ptr c.p 0, .int .u64 w] H fun r H' => r = .tuple #[.int .u64 (refWd (c.to.at' + s.u)), .bool true, .int .i64 0] ∧ Rn H' c ⟨s.u + sizeH (decHd (wAt s.ws x)), { s.k with words := IntKind.i64.wrap (s.k.words + sizeH (decHd (wAt s.ws x))) }, copyW s.ws x (c.to.at' + s.u) (sizeH (decHd (wAt s.ws x)))⟩ ∧ Mod c.ex H H' := by
  have hr := h.row
  have lp := h.lp
  have f0 := h.f0
  have f2 := h.f2
  have ha := h.ar
  have hx := refW_in hn
  unfold rnC at hr
  have hp : placeE s.ws.length x = 0 := if_pos (by omega)
  refine callA_fn (by kernel_rfl) fn49 rfl rfl ?_
  simp only [Tryz.f49]
  repeat' (first | refine boolP_dec (fun _ => ?_) (fun _ => ?_) | apply boolP_not | refine boolP_b (fun _ => ?_) (fun _ => ?_) | ((with_reducible show CallA _ _ _ _ _); (first | refine call_ko (H0 := H) koW (cdead_ok _ loW (h.ko koW)) ?_ | refine call_ko (H0 := H) koW (vref_ok _ loW w hw) ?_ | refine call_ko (H0 := H) koW (aread_in _ loW (ha.same koW) x hp) ?_ | refine call_ko (H0 := H) koW (hforwarded_ok _ loW (wAt s.ws x) (ha.lt x)) ?_ | refine call_ko (H0 := H) koW (hdec_ok _ loW (wAt s.ws x) (ha.lt x)) ?_); intro H2 k2 l2 n2 g2 q2; try simp (disch := omega) only [sm, sl] at l2 n2 g2 q2) | simp (config := { maxSteps := 1000000 }) (disch := omega) only [↓sh, ↓sh2, ↓reduceIte, sx, sl, sb, st, nbeq_ne, dle, relo_eq, wrap_i64, Nat.reduceBEq, Nat.reduceLT, Nat.reduceLeDiff, Nat.reduceAdd, Nat.reduceMul, Nat.reduceEqDiff, Int.reduceEq, Int.reduceLT, Int.reduceLE, Int.reduceNeg, Int.reduceToNat, Bool.false_eq_true, eq_self, sa, st2, Option.isSome_some, Option.getD_some, Option.isSome_none, Option.getD_none, hdV, *])
  all_goals try omega
  refine (copied_ok _ loW (h.ko koW) (ho.eq (by simp (disch := omega) only [setRow_get, newRow_get, newRow_next, setRow_next, newRow_lo, setRow_lo, newRow_grps, setRow_grps, newRow_relo, setRow_relo, relo_objs, relo_next, relo_lo, nbeq_ne, sl]; omega)) x (decHd (wAt s.ws x)) (by omega) hz h2 h3).mono ?_
  rintro r H3 ⟨rfl, hR, m3⟩
  have w3 := (Same.mod (sameW : Same H _) c.ex).trans m3
  repeat' (first | refine boolP_dec (fun _ => ?_) (fun _ => ?_) | apply boolP_not | refine boolP_b (fun _ => ?_) (fun _ => ?_) | simp (config := { maxSteps := 1000000 }) (disch := omega) only [↓sh, ↓sh2, ↓reduceIte, sx, sl, sb, st, nbeq_ne, dle, relo_eq, wrap_i64, Nat.reduceBEq, Nat.reduceLT, Nat.reduceLeDiff, Nat.reduceAdd, Nat.reduceMul, Nat.reduceEqDiff, Int.reduceEq, Int.reduceLT, Int.reduceLE, Int.reduceNeg, Int.reduceToNat, Bool.false_eq_true, eq_self, sa, st2, *])
end Go.AM
namespace Go.AM
attribute [local instance] fnMaps
open Go Go.Proofs
set_option maxRecDepth 100000
set_option maxHeartbeats 1000000
set_option linter.unusedSimpArgs false
theorem Rn.setK {H : Heap} {c : Rc} {s : Rs} (h : Rn H c s) (k' : Wk) : Rn (H.setRow c.p (rnC c.a c.b c.fr c.to c.top c.lv k')) c ⟨s.u, k', s.ws⟩ := by
  have m7 := ((Same.refl H).mod [c.p]).setRow (List.mem_singleton.2 rfl) (rnC c.a c.b c.fr c.to c.top c.lv k')
  exact ⟨by rw [setRow_get, nbeq_eq rfl]; rfl, by rw [setRow_next]; exact h.lp, h.bp.off m7 (not1 h.ne.1.symm), h.ar.off m7 (not1 h.ne.2.1.symm) (not1 h.ne.2.2.1.symm), h.f0, h.f1, h.f2, h.t1⟩
theorem refW_wd {x : Int} (h : 0 ≤ x ∧ x ≤ 1099511627776) : refW (refWd x) = some x := by
  have e : ((refWd x : Nat) : Int) = 4 * x + 2 := by unfold refWd Val.word; simp only; omega
  unfold refW
  rw [if_pos (by omega)]
  congr 1
  omega
theorem Rn.setW {H X : Heap} {c : Rc} {s : Rs} {ws : List Nat} (h : Rn H c s) (ha : Ar X c.a c.rw c.g ws) (m : Mod [c.rw] H X) (hl : ws.length = s.ws.length) : Rn X c ⟨s.u, s.k, ws⟩ :=
  ⟨m.keeps h.lp (not1 h.ne.2.2.1) h.row, Nat.lt_of_lt_of_le h.lp m.nxt, h.bp.off m (not1 h.ne.2.2.2.2.1), ha, h.f0, h.f1, by rw [hl]; exact h.f2, by rw [hl]; exact h.t1⟩
def addF (k : Wk) : Wk := { k with fields := IntKind.i64.wrap (k.fields + 1) }
theorem fn54 : E.fn.get 54 = some Tryz.f54 := by kernel_rfl
theorem field_plain (H : Heap) (hlo : H.lo ≤ H.next) {c : Rc} {s : Rs} (h : Rn H c s) (ho : c.Lo H) (at' i : Int) (hat : -9223372036854775808 ≤ at' ∧ at' ≤ 9223372036854775807) (hf : fieldE s.ws at' i false = 0) (hn : refW (fieldW s.ws at' i false) = none) : CallA E (fnv 54) [ptr c.p 0, .int .i64 at', .int .i64 i] H fun r H' => r = .tuple #[.int .i64 0, .bool false, .int .i64 0] ∧ Rn H' c ⟨s.u, addF s.k, s.ws⟩ ∧ Mod c.ex H H' := by
  have hr := h.row
  have lp := h.lp
  have ha := h.ar
  have hp := ho.p
  have hw : fieldW s.ws at' i false < 2 ^ 64 := by
    unfold fieldW
    split
    · exact ha.lt _
    · omega
  unfold rnC at hr
  refine callA_fn (by kernel_rfl) fn54 rfl rfl ?_
  simp only [Tryz.f54]
  repeat' (first | refine boolP_dec (fun _ => ?_) (fun _ => ?_) | apply boolP_not | refine boolP_b (fun _ => ?_) (fun _ => ?_) | ((with_reducible show CallA _ _ _ _ _); (first | refine call_ko (H0 := H) koW (cdead_ok _ loW (h.ko koW)) ?_ | refine call_ko (H0 := H) koW (ofield_ok _ loW (ha.same koW) at' hat i) ?_); intro H2 k2 l2 n2 g2 q2; try simp (disch := omega) only [sm, sl] at l2 n2 g2 q2) | simp (config := { maxSteps := 1000000 }) (disch := omega) only [↓sh, ↓sh2, ↓reduceIte, sx, sl, sb, st, nbeq_ne, dle, relo_eq, wrap_i64, Nat.reduceBEq, Nat.reduceLT, Nat.reduceLeDiff, Nat.reduceAdd, Nat.reduceMul, Nat.reduceEqDiff, Int.reduceEq, Int.reduceLT, Int.reduceLE, Int.reduceNeg, Int.reduceToNat, Bool.false_eq_true, eq_self, sa, st2, *])
  have k20 := k2
  have hs : Rn _ c ⟨s.u, addF s.k, s.ws⟩ := (h.ko k2).setK (addF s.k)
  refine (fwd_plain _ loW hs (fieldW s.ws at' i false) hw hn).mono ?_
  rintro r H3 ⟨rfl, s3⟩
  have h3 := hs.ko ⟨s3.nxt, s3.objs, s3.grps⟩
  have w3 := (((sameW : Same H H2).mod c.ex).setRow (List.mem_cons_self ..) _).trans (s3.mod c.ex)
  repeat' (first | refine boolP_dec (fun _ => ?_) (fun _ => ?_) | apply boolP_not | refine boolP_b (fun _ => ?_) (fun _ => ?_) | simp (config := { maxSteps := 1000000 }) (disch := omega) only [↓sh, ↓sh2, ↓reduceIte, sx, sl, sb, st, nbeq_ne, dle, relo_eq, wrap_i64, Nat.reduceBEq, Nat.reduceLT, Nat.reduceLeDiff, Nat.reduceAdd, Nat.reduceMul, Nat.reduceEqDiff, Int.reduceEq, Int.reduceLT, Int.reduceLE, Int.reduceNeg, Int.reduceToNat, Bool.false_eq_true, eq_self, sa, st2, *])
theorem field_copy (H : Heap) (hlo : H.lo ≤ H.next) {c : Rc} {s : Rs} (h : Rn H c s) (ho : c.Lo H) (at' i : Int) (hat : -9223372036854775808 ≤ at' ∧ at' ≤ 9223372036854775807) (hf : fieldE s.ws at' i false = 0) {x : Int} (hn : refW (fieldW s.ws at' i false) = some x) (h1 : c.fr.at' ≤ x) (hg : refW (wAt s.ws x) = none) (hd : isHd (wAt s.ws x) = true)
    (hz : 1 ≤ sizeH (decHd (wAt s.ws x))) (h2 : sizeH (decHd (wAt s.ws x)) ≤ c.top - x) (h3 : s.u + sizeH (decHd (wAt s.ws x)) ≤ c.to.size) (hne : refWd (c.to.at' + s.u) ≠ fieldW s.ws at' i false) (hse : setFE (copyW s.ws x (c.to.at' + s.u) (sizeH (decHd (wAt s.ws x)))) at' i (refWd (c.to.at' + s.u)) = 0) :
    CallA E (fnv 54) [ptr c.p 0, .int .i64 at', .int .i64 i] H fun r H' => r = .tuple #[.int .i64 (c.to.at' + s.u), .bool true, .int .i64 0] ∧ Rn H' c ⟨s.u + sizeH (decHd (wAt s.ws x)), { addF s.k with words := IntKind.i64.wrap (s.k.words + sizeH (decHd (wAt s.ws x))) }, (copyW s.ws x (c.to.at' + s.u) (sizeH (decHd (wAt s.ws x)))).set (fieldK (copyW s.ws x (c.to.at' + s.u) (sizeH (decHd (wAt s.ws x)))) at' i false).toNat (refWd (c.to.at' + s.u))⟩ ∧ Mod c.ex H H' := by
  have hr := h.row
  have lp := h.lp
  have ha := h.ar
  have hp := ho.p
  have hm := h.bp.may
  have u0 := h.bp.u0
  have u1 := h.bp.u1
  unfold May at hm
  have hw : fieldW s.ws at' i false < 2 ^ 64 := by
    unfold fieldW
    split
    · exact ha.lt _
    · omega
  unfold rnC at hr
  refine callA_fn (by kernel_rfl) fn54 rfl rfl ?_
  simp only [Tryz.f54]
  repeat' (first | refine boolP_dec (fun _ => ?_) (fun _ => ?_) | apply boolP_not | refine boolP_b (fun _ => ?_) (fun _ => ?_) | ((with_reducible show CallA _ _ _ _ _); (first | refine call_ko (H0 := H) koW (cdead_ok _ loW (h.ko koW)) ?_ | refine call_ko (H0 := H) koW (ofield_ok _ loW (ha.same koW) at' hat i) ?_); intro H2 k2 l2 n2 g2 q2; try simp (disch := omega) only [sm, sl] at l2 n2 g2 q2) | simp (config := { maxSteps := 1000000 }) (disch := omega) only [↓sh, ↓sh2, ↓reduceIte, sx, sl, sb, st, nbeq_ne, dle, relo_eq, wrap_i64, Nat.reduceBEq, Nat.reduceLT, Nat.reduceLeDiff, Nat.reduceAdd, Nat.reduceMul, Nat.reduceEqDiff, Int.reduceEq, Int.reduceLT, Int.reduceLE, Int.reduceNeg, Int.reduceToNat, Bool.false_eq_true, eq_self, sa, st2, *])
  have k20 := k2
  have hs : Rn _ c ⟨s.u, addF s.k, s.ws⟩ := (h.ko k2).setK (addF s.k)
  refine (fwd_copy _ loW hs (ho.eq (by simp (disch := omega) only [setRow_get, newRow_get, newRow_next, setRow_next, newRow_lo, setRow_lo, newRow_grps, setRow_grps, newRow_relo, setRow_relo, relo_objs, relo_next, relo_lo, nbeq_ne, sl]; omega)) (fieldW s.ws at' i false) hw hn h1 hg hd hz h2 h3).mono ?_
  rintro r H3 ⟨rfl, h3', m3⟩
  have w3 := (((sameW : Same H H2).mod c.ex).setRow (List.mem_cons_self ..) _).trans m3
  have hr3 := h3'.row
  have lo3 := w3.lo
  have nx3 := w3.nxt
  unfold rnC at hr3
  repeat' (first | refine boolP_dec (fun _ => ?_) (fun _ => ?_) | apply boolP_not | refine boolP_b (fun _ => ?_) (fun _ => ?_) | simp (config := { maxSteps := 1000000 }) (disch := omega) only [↓sh, ↓sh2, ↓reduceIte, sx, sl, sb, st, nbeq_ne, dle, relo_eq, wrap_i64, Nat.reduceBEq, Nat.reduceLT, Nat.reduceLeDiff, Nat.reduceAdd, Nat.reduceMul, Nat.reduceEqDiff, Int.reduceEq, Int.reduceLT, Int.reduceLE, Int.reduceNeg, Int.reduceToNat, Bool.false_eq_true, eq_self, sa, st2, *])
  all_goals try omega
  refine (osetfield_ok _ loW h3'.ar (by have := ho.rw; omega) at' hat i (refWd (c.to.at' + s.u)) (refWd_u64 _ (by omega))).mono ?_
  rintro r H4 ⟨rfl, ha4, m4⟩
  rw [if_pos hse] at ha4
  rw [hse]
  have h4 := h3'.setW ha4 m4.mod1 (List.length_set ..)
  have w4 := w3.trans (m4.mod (List.mem_cons_of_mem _ (List.mem_cons_of_mem _ (List.mem_cons_self ..))))
  have lo4 := w4.lo
  have nx4 := w4.nxt
  have hrf := refW_wd (x := c.to.at' + s.u) (by omega)
  repeat' (first | refine boolP_dec (fun _ => ?_) (fun _ => ?_) | apply boolP_not | refine boolP_b (fun _ => ?_) (fun _ => ?_) | ((with_reducible show CallA _ _ _ _ _); refine call_ko (H0 := H4) koW (vref_ok _ loW (refWd (c.to.at' + s.u)) (refWd_u64 _ (by omega))) ?_; intro H2 k2 l2 n2 g2 q2; try simp (disch := omega) only [sm, sl] at l2 n2 g2 q2) | simp (config := { maxSteps := 1000000 }) (disch := omega) only [↓sh, ↓sh2, ↓reduceIte, sx, sl, sb, st, nbeq_ne, dle, relo_eq, wrap_i64, Nat.reduceBEq, Nat.reduceLT, Nat.reduceLeDiff, Nat.reduceAdd, Nat.reduceMul, Nat.reduceEqDiff, Int.reduceEq, Int.reduceLT, Int.reduceLE, Int.reduceNeg, Int.reduceToNat, Bool.false_eq_true, eq_self, sa, st2, Option.isSome_some, Option.getD_some, *])
  exact ⟨h4.ko k2, w4.trans (Same.mod sameW _)⟩
end Go.AM
namespace Go.AM
attribute [local instance] fnMaps
open Go Go.Proofs
set_option maxRecDepth 100000
set_option maxHeartbeats 1000000
set_option linter.unusedSimpArgs false
def addS (k : Wk) : Wk := { k with steps := IntKind.i64.wrap (k.steps + 1) }
def addO (k : Wk) : Wk := { k with objects := IntKind.i64.wrap (k.objects + 1) }
theorem fn27 : E.fn.get 27 = some Tryz.f27 := by kernel_rfl
theorem cstep_ok (H : Heap) (hlo : H.lo ≤ H.next) {c : Rc} {s : Rs} (h : Rn H c s) (ho : c.Lo H) : CallA E (fnv 27) [ptr c.p 0] H fun r H' => r = .tuple #[] ∧ Rn H' c ⟨s.u, addS s.k, s.ws⟩ ∧ Mod c.ex H H' := by
  have hr := h.row
  have lp := h.lp
  have hp := ho.p
  unfold rnC at hr
  refine callA_fn (by kernel_rfl) fn27 rfl rfl ?_
  simp only [Tryz.f27]
  repeat' (first | refine boolP_dec (fun _ => ?_) (fun _ => ?_) | apply boolP_not | refine boolP_b (fun _ => ?_) (fun _ => ?_) | ((with_reducible show CallA _ _ _ _ _); refine call_ko (H0 := H) koW (cdead_ok _ loW (h.ko koW)) ?_; intro H2 k2 l2 n2 g2 q2; try simp (disch := omega) only [sm, sl] at l2 n2 g2 q2) | simp (config := { maxSteps := 1000000 }) (disch := omega) only [↓sh, ↓sh2, ↓reduceIte, sx, sl, sb, st, nbeq_ne, dle, relo_eq, wrap_i64, Nat.reduceBEq, Nat.reduceLT, Nat.reduceLeDiff, Nat.reduceAdd, Nat.reduceMul, Nat.reduceEqDiff, Int.reduceEq, Int.reduceLT, Int.reduceLE, Int.reduceNeg, Int.reduceToNat, Bool.false_eq_true, eq_self, sa, st2, *])
  exact ⟨(h.ko k2).setK (addS s.k), ((k2.same l2).mod c.ex).setRow (List.mem_cons_self ..) _⟩
theorem fn53 : E.fn.get 53 = some Tryz.f53 := by kernel_rfl
theorem cseen_ok (H : Heap) (hlo : H.lo ≤ H.next) {c : Rc} {s : Rs} (h : Rn H c s) (ho : c.Lo H) : CallA E (fnv 53) [ptr c.p 0] H fun r H' => r = .tuple #[] ∧ Rn H' c ⟨s.u, addO s.k, s.ws⟩ ∧ Mod c.ex H H' := by
  have hr := h.row
  have lp := h.lp
  have hp := ho.p
  unfold rnC at hr
  refine callA_fn (by kernel_rfl) fn53 rfl rfl ?_
  simp only [Tryz.f53]
  repeat' (first | refine boolP_dec (fun _ => ?_) (fun _ => ?_) | apply boolP_not | refine boolP_b (fun _ => ?_) (fun _ => ?_) | ((with_reducible show CallA _ _ _ _ _); refine call_ko (H0 := H) koW (cdead_ok _ loW (h.ko koW)) ?_; intro H2 k2 l2 n2 g2 q2; try simp (disch := omega) only [sm, sl] at l2 n2 g2 q2) | simp (config := { maxSteps := 1000000 }) (disch := omega) only [↓sh, ↓sh2, ↓reduceIte, sx, sl, sb, st, nbeq_ne, dle, relo_eq, wrap_i64, Nat.reduceBEq, Nat.reduceLT, Nat.reduceLeDiff, Nat.reduceAdd, Nat.reduceMul, Nat.reduceEqDiff, Int.reduceEq, Int.reduceLT, Int.reduceLE, Int.reduceNeg, Int.reduceToNat, Bool.false_eq_true, eq_self, sa, st2, *])
  exact ⟨(h.ko k2).setK (addO s.k), ((k2.same l2).mod c.ex).setRow (List.mem_cons_self ..) _⟩
theorem fn25 : E.fn.get 25 = some Tryz.f25 := by kernel_rfl
theorem carena_ok (H : Heap) (hlo : H.lo ≤ H.next) {c : Rc} {s : Rs} (h : Rn H c s) : CallA E (fnv 25) [ptr c.p 0] H fun r H' => r = ptr c.a 0 ∧ Same H H' := by
  have hr := h.row
  have lp := h.lp
  unfold rnC at hr
  refine callA_fn (by kernel_rfl) fn25 rfl rfl ?_
  simp only [Tryz.f25]
  repeat' (first | refine boolP_dec (fun _ => ?_) (fun _ => ?_) | apply boolP_not | refine boolP_b (fun _ => ?_) (fun _ => ?_) | ((with_reducible show CallA _ _ _ _ _); refine call_ko (H0 := H) koW (cdead_ok _ loW (h.ko koW)) ?_; intro H2 k2 l2 n2 g2 q2; try simp (disch := omega) only [sm, sl] at l2 n2 g2 q2) | simp (config := { maxSteps := 1000000 }) (disch := omega) only [↓sh, ↓sh2, ↓reduceIte, sx, sl, sb, st, nbeq_ne, dle, relo_eq, wrap_i64, Nat.reduceBEq, Nat.reduceLT, Nat.reduceLeDiff, Nat.reduceAdd, Nat.reduceMul, Nat.reduceEqDiff, Int.reduceEq, Int.reduceLT, Int.reduceLE, Int.reduceNeg, Int.reduceToNat, Bool.false_eq_true, eq_self, sa, st2, *])
  all_goals (first | (with_reducible exact sameW) | ((with_reducible show _ ∧ _); exact ⟨by first | rfl | (simp [*] <;> omega), sameW⟩))
theorem fn10 : E.fn.get 10 = some Tryz.f10 := by kernel_rfl
theorem ctop_ok (H : Heap) (hlo : H.lo ≤ H.next) {c : Rc} {s : Rs} (h : Rn H c s) : CallA E (fnv 10) [ptr c.p 0] H fun r H' => r = .int .i64 (c.to.at' + s.u) ∧ Same H H' := by
  have hr := h.row
  have lp := h.lp
  have hb := h.bp
  unfold rnC at hr
  refine callA_fn (by kernel_rfl) fn10 rfl rfl ?_
  simp only [Tryz.f10]
  repeat' (first | refine boolP_dec (fun _ => ?_) (fun _ => ?_) | apply boolP_not | refine boolP_b (fun _ => ?_) (fun _ => ?_) | ((with_reducible show CallA _ _ _ _ _); (first | refine call_ko (H0 := H) koW (cdead_ok _ loW (h.ko koW)) ?_ | refine call_ko (H0 := H) koW (btop_ok _ loW (hb.same koW)) ?_); intro H2 k2 l2 n2 g2 q2; try simp (disch := omega) only [sm, sl] at l2 n2 g2 q2) | simp (config := { maxSteps := 1000000 }) (disch := omega) only [↓sh, ↓sh2, ↓reduceIte, sx, sl, sb, st, nbeq_ne, dle, relo_eq, wrap_i64, Nat.reduceBEq, Nat.reduceLT, Nat.reduceLeDiff, Nat.reduceAdd, Nat.reduceMul, Nat.reduceEqDiff, Int.reduceEq, Int.reduceLT, Int.reduceLE, Int.reduceNeg, Int.reduceToNat, Bool.false_eq_true, eq_self, sa, st2, *])
  all_goals (first | (with_reducible exact sameW) | ((with_reducible show _ ∧ _); exact ⟨by first | rfl | (simp [*] <;> omega), sameW⟩))
end Go.AM
namespace Go.AM
attribute [local instance] fnMaps
open Go Go.Proofs
set_option maxRecDepth 100000
set_option maxHeartbeats 1000000
set_option linter.unusedSimpArgs false
def wkrC (p : Nat) (at' : Int) (par : Nat) : List Value := [ptr p 0, .int .i64 at', .int .u64 par, .int .i64 0]
structure Wr (H : Heap) (q p : Nat) (at' : Int) (par : Nat) : Prop where
  row : H.objs.get q = some (.row (wkrC p at' par) none true)
  lq : q < H.next
theorem Wr.ko {H X : Heap} {q p : Nat} {at' : Int} {par : Nat} (h : Wr H q p at' par) (k : Ko H X) : Wr X q p at' par := ⟨k.keeps h.lq h.row, Nat.lt_of_lt_of_le h.lq k.nxt⟩
theorem Wr.off {ex : List Nat} {H X : Heap} {q p : Nat} {at' : Int} {par : Nat} (h : Wr H q p at' par) (m : Mod ex H X) (hq : q ∉ ex) : Wr X q p at' par := ⟨m.keeps h.lq hq h.row, Nat.lt_of_lt_of_le h.lq m.nxt⟩
theorem Same.setSame {H : Heap} {q : Nat} {c : List Value} (h : H.objs.get q = some (.row c none true)) : Same H (H.setRow q c) := by
  refine ⟨rfl, Nat.le_refl _, fun x hx => ?_, fun x hx => rfl⟩
  by_cases e : x = q
  · subst e; rw [setRow_get, nbeq_eq rfl]; exact h.symm
  · rw [setRow_get, nbeq_ne e]; rfl
theorem fn93 : E.fn.get 93 = some Tryz.f93 := by kernel_rfl
theorem wok_ok (H : Heap) (hlo : H.lo ≤ H.next) {q p : Nat} {at' : Int} {par : Nat} (h : Wr H q p at' par) (hq : H.lo ≤ q) : CallA E (fnv 93) [ptr q 0, .int .i64 0] H fun r H' => r = .bool true ∧ Same H H' := by
  have hr := h.row
  have lq := h.lq
  unfold wkrC at hr
  refine callA_fn (by kernel_rfl) fn93 rfl rfl ?_
  simp only [Tryz.f93]
  repeat' (first | refine boolP_dec (fun _ => ?_) (fun _ => ?_) | apply boolP_not | refine boolP_b (fun _ => ?_) (fun _ => ?_) | simp (config := { maxSteps := 1000000 }) (disch := omega) only [↓sh, ↓sh2, ↓reduceIte, sx, sl, sb, st, nbeq_ne, dle, relo_eq, wrap_i64, Nat.reduceBEq, Nat.reduceLT, Nat.reduceLeDiff, Nat.reduceAdd, Nat.reduceMul, Nat.reduceEqDiff, Int.reduceEq, Int.reduceLT, Int.reduceLE, Int.reduceNeg, Int.reduceToNat, Bool.false_eq_true, eq_self, sa, st2, *])
  exact Same.setSame hr
theorem fn69 : E.fn.get 69 = some Tryz.f69 := by kernel_rfl
theorem whead_ok (H : Heap) (hlo : H.lo ≤ H.next) {c : Rc} {s : Rs} (h : Rn H c s) {q : Nat} {at' : Int} {par : Nat} (hw : Wr H q c.p at' par) (hq : H.lo ≤ q) (hat : -9223372036854775808 ≤ at' ∧ at' ≤ 9223372036854775807) (he : headE s.ws at' = 0) : CallA E (fnv 69) [ptr q 0] H fun r H' => r = hdV (headAt s.ws at') ∧ Same H H' := by
  have hr := hw.row
  have lq := hw.lq
  have ha := h.ar
  unfold wkrC at hr
  refine callA_fn (by kernel_rfl) fn69 rfl rfl ?_
  simp only [Tryz.f69]
  repeat' (first | refine boolP_dec (fun _ => ?_) (fun _ => ?_) | apply boolP_not | refine boolP_b (fun _ => ?_) (fun _ => ?_) | refine wps_draw (id := 1) [Fx, Fx, Fx, Fx, Tx, Fx, Fx, Fx, Fx, Fx, Fx, Fx, Fx, Fx, Fx, Fx] (by kernel_rfl) ?_ | ((with_reducible show CallA _ _ _ _ _); (first | refine call_ko (H0 := H) koW (carena_ok _ loW (h.ko koW)) ?_ | refine call_ko (H0 := H) koW (ohead_ok _ loW (ha.same koW) at' hat) ?_ | refine call_ko (H0 := H) koW (wok_ok _ loW (hw.ko koW) loW) ?_); intro H2 k2 l2 n2 g2 q2; try simp (disch := omega) only [sm, sl] at l2 n2 g2 q2) | simp (config := { maxSteps := 1000000 }) (disch := omega) only [↓sh, ↓sh2, ↓reduceIte, sx, sl, sb, st, nbeq_ne, dle, relo_eq, wrap_i64, Nat.reduceBEq, Nat.reduceLT, Nat.reduceLeDiff, Nat.reduceAdd, Nat.reduceMul, Nat.reduceEqDiff, Int.reduceEq, Int.reduceLT, Int.reduceLE, Int.reduceNeg, Int.reduceToNat, Bool.false_eq_true, eq_self, sa, st2, hdV, *])
  all_goals (first | (with_reducible exact sameW) | ((with_reducible show _ ∧ _); exact ⟨by first | rfl | (simp [*] <;> omega), sameW⟩))
theorem fn94 : E.fn.get 94 = some Tryz.f94 := by kernel_rfl
theorem wcursor_ok (H : Heap) (hlo : H.lo ≤ H.next) {c : Rc} {s : Rs} (h : Rn H c s) (ho : c.Lo H) {q : Nat} {at' : Int} {par : Nat} (hw : Wr H q c.p at' par) (hq : H.lo ≤ q) (hqe : q ∉ c.ex) (hat : -9223372036854775808 ≤ at' ∧ at' ≤ 9223372036854775807) (d : Hd) (n : Int) (he : setE s.ws at' { d with cursor := n } = 0) :
    CallA E (fnv 94) [ptr q 0, hdV d, .int .i64 n] H fun r H' => r = .tuple #[] ∧ Rn H' c ⟨s.u, s.k, s.ws.set at'.toNat (wH { d with cursor := n } 5)⟩ ∧ Wr H' q c.p at' par ∧ Mod c.ex H H' := by
  have hr := hw.row
  have lq := hw.lq
  have ha := h.ar
  unfold wkrC at hr
  refine callA_fn (by kernel_rfl) fn94 rfl rfl ?_
  simp only [Tryz.f94]
  simp only [hdV]
  repeat' (first | refine boolP_dec (fun _ => ?_) (fun _ => ?_) | apply boolP_not | refine boolP_b (fun _ => ?_) (fun _ => ?_) | refine wps_draw (id := 2) [Fx, Fx, Fx, Fx, Fx, Tx, Fx, Fx, Fx, Fx, Fx, Fx, Fx] (by kernel_rfl) ?_ | ((with_reducible show CallA _ _ _ _ _); refine call_ko (H0 := H) koW (carena_ok _ loW (h.ko koW)) ?_; intro H2 k2 l2 n2 g2 q2; try simp (disch := omega) only [sm, sl] at l2 n2 g2 q2) | simp (config := { maxSteps := 1000000 }) (disch := omega) only [↓sh, ↓sh2, ↓reduceIte, sx, sl, sb, st, nbeq_ne, dle, relo_eq, wrap_i64, Nat.reduceBEq, Nat.reduceLT, Nat.reduceLeDiff, Nat.reduceAdd, Nat.reduceMul, Nat.reduceEqDiff, Int.reduceEq, Int.reduceLT, Int.reduceLE, Int.reduceNeg, Int.reduceToNat, Bool.false_eq_true, eq_self, sa, st2, *])
  refine (osethead_ok _ loW (ha.same koW) (by have := ho.rw; simp (disch := omega) only [setRow_get, newRow_get, newRow_next, setRow_next, newRow_lo, setRow_lo, newRow_grps, setRow_grps, newRow_relo, setRow_relo, relo_objs, relo_next, relo_lo, nbeq_ne, sl]; omega) at' hat { d with cursor := n }).mono ?_
  rintro r H3 ⟨rfl, ha3, m3⟩
  rw [if_pos he] at ha3
  rw [he]
  have w3 := (Same.mod (sameW : Same H (H2.relo H.lo)) c.ex).trans (m3.mod (List.mem_cons_of_mem _ (List.mem_cons_of_mem _ (List.mem_cons_self ..))))
  have h3 := (h.ko (X := H2.relo H.lo) koW).setW ha3 m3.mod1 (List.length_set ..)
  have hw3 := hw.off w3 hqe
  have lo3 := w3.lo
  have nx3 := w3.nxt
  repeat' (first | refine boolP_dec (fun _ => ?_) (fun _ => ?_) | apply boolP_not | refine boolP_b (fun _ => ?_) (fun _ => ?_) | refine wps_draw (id := 2) [Fx, Fx, Fx, Fx, Fx, Tx, Fx, Fx, Fx, Fx, Fx, Fx, Fx] (by kernel_rfl) ?_ | ((with_reducible show CallA _ _ _ _ _); refine call_ko (H0 := H3) koW (wok_ok _ loW (hw3.ko koW) (by simp (disch := omega) only [setRow_get, newRow_get, newRow_next, setRow_next, newRow_lo, setRow_lo, newRow_grps, setRow_grps, newRow_relo, setRow_relo, relo_objs, relo_next, relo_lo, nbeq_ne, sl]; omega)) ?_; intro H2 k2 l2 n2 g2 q2; try simp (disch := omega) only [sm, sl] at l2 n2 g2 q2) | simp (config := { maxSteps := 1000000 }) (disch := omega) only [↓sh, ↓sh2, ↓reduceIte, sx, sl, sb, st, nbeq_ne, dle, relo_eq, wrap_i64, Nat.reduceBEq, Nat.reduceLT, Nat.reduceLeDiff, Nat.reduceAdd, Nat.reduceMul, Nat.reduceEqDiff, Int.reduceEq, Int.reduceLT, Int.reduceLE, Int.reduceNeg, Int.reduceToNat, Bool.false_eq_true, eq_self, sa, st2, *])
  exact ⟨h3.ko koW, hw3.ko koW, w3.trans (Same.mod sameW _)⟩
end Go.AM
namespace Go.AM
attribute [local instance] fnMaps
open Go Go.Proofs
set_option maxRecDepth 100000
set_option maxHeartbeats 1000000
set_option linter.unusedSimpArgs false
theorem Rn.exlt {H : Heap} {c : Rc} {s : Rs} (h : Rn H c s) : ∀ x ∈ c.ex, x < H.next := by
  intro x hx
  simp only [Rc.ex, List.mem_cons, List.not_mem_nil, or_false] at hx
  rcases hx with rfl | rfl | rfl
  · exact h.lp
  · exact h.bp.lb
  · exact h.ar.lw
theorem Rn.new {H : Heap} {c : Rc} {s : Rs} (h : Rn H c s) {x : Nat} (hx : H.next ≤ x) : x ∉ c.ex := fun e => by have := h.exlt x e; omega
theorem fn70 : E.fn.get 70 = some Tryz.f70 := by kernel_rfl
theorem wfield_plain (H : Heap) (hlo : H.lo ≤ H.next) {c : Rc} {s : Rs} (h : Rn H c s) (ho : c.Lo H) {q : Nat} {at' : Int} {par : Nat} (hw : Wr H q c.p at' par) (hq : H.lo ≤ q) (hqe : q ∉ c.ex) (hat : -9223372036854775808 ≤ at' ∧ at' ≤ 9223372036854775807) (d : Hd) (hk : 0 ≤ d.cursor ∧ d.cursor < 65536)
    (hf : fieldE s.ws at' d.cursor false = 0) (hn : refW (fieldW s.ws at' d.cursor false) = none) (he : setE s.ws at' { d with cursor := d.cursor + 1 } = 0) :
    CallA E (fnv 70) [ptr q 0, hdV d] H fun r H' => r = .tuple #[] ∧ Rn H' c ⟨s.u, addF s.k, s.ws.set at'.toNat (wH { d with cursor := d.cursor + 1 } 5)⟩ ∧ Wr H' q c.p at' par ∧ Mod c.ex H H' := by
  have hr := hw.row
  have lq := hw.lq
  unfold wkrC at hr
  refine callA_fn (by kernel_rfl) fn70 rfl rfl ?_
  simp only [Tryz.f70]
  simp only [hdV]
  repeat' (first | refine boolP_dec (fun _ => ?_) (fun _ => ?_) | apply boolP_not | refine boolP_b (fun _ => ?_) (fun _ => ?_) | refine wps_draw (id := 1) [Fx, Fx, Fx, Fx, Fx, Fx, Fx, Fx, Fx, Fx, Fx, Fx, Fx, Fx, Fx, Fx, Fx, Fx] (by kernel_rfl) ?_ | refine wps_draw (id := 5) [Fx, Fx, Fx, Fx, Fx, Tx, Fx, Fx, Fx, Fx, Fx, Fx, Fx, Fx, Fx, Fx, Fx, Fx, Fx] (by kernel_rfl) ?_ | simp (config := { maxSteps := 1000000 }) (disch := omega) only [↓sh, ↓sh2, ↓reduceIte, sx, sl, sb, st, nbeq_ne, dle, relo_eq, wrap_i64, Nat.reduceBEq, Nat.reduceLT, Nat.reduceLeDiff, Nat.reduceAdd, Nat.reduceMul, Nat.reduceEqDiff, Int.reduceEq, Int.reduceLT, Int.reduceLE, Int.reduceNeg, Int.reduceToNat, Bool.false_eq_true, eq_self, sa, st2, *])
  refine (field_plain _ loW (h.ko koW) (ho.eq (by simp (disch := omega) only [setRow_get, newRow_get, newRow_next, setRow_next, newRow_lo, setRow_lo, newRow_grps, setRow_grps, newRow_relo, setRow_relo, relo_objs, relo_next, relo_lo, nbeq_ne, sl])) at' d.cursor hat hf hn).mono ?_
  rintro r H3 ⟨rfl, h3, m3⟩
  have w3 := (Same.mod (sameW : Same H _) c.ex).trans m3
  have hw3 := hw.off w3 hqe
  have hr3 := hw3.row
  have hb3 := m3.objs H.next (by simp (disch := omega) only [setRow_get, newRow_get, newRow_next, setRow_next, newRow_lo, setRow_lo, newRow_grps, setRow_grps, newRow_relo, setRow_relo, relo_objs, relo_next, relo_lo, nbeq_ne, sl]; omega) (h.new (Nat.le_refl _))
  have lo3 := w3.lo
  have nx3 := w3.nxt
  have nz3 := m3.nxt
  simp (disch := omega) only [sm, sl] at hb3 nz3
  unfold wkrC at hr3
  repeat' (first | refine boolP_dec (fun _ => ?_) (fun _ => ?_) | apply boolP_not | refine boolP_b (fun _ => ?_) (fun _ => ?_) | refine wps_draw (id := 1) [Fx, Fx, Fx, Fx, Fx, Fx, Fx, Fx, Fx, Fx, Fx, Fx, Fx, Fx, Fx, Fx, Fx, Fx] (by kernel_rfl) ?_ | refine wps_draw (id := 5) [Fx, Fx, Fx, Fx, Fx, Tx, Fx, Fx, Fx, Fx, Fx, Fx, Fx, Fx, Fx, Fx, Fx, Fx, Fx] (by kernel_rfl) ?_ | ((with_reducible show CallA _ _ _ _ _); refine call_ko (H0 := H3) koW (wok_ok _ loW (hw3.ko koW) loW) ?_; intro H2 k2 l2 n2 g2 q2; try simp (disch := omega) only [sm, sl] at l2 n2 g2 q2) | simp (config := { maxSteps := 1000000 }) (disch := omega) only [↓sh, ↓sh2, ↓reduceIte, sx, sl, sb, st, nbeq_ne, dle, relo_eq, wrap_i64, Nat.reduceBEq, Nat.reduceLT, Nat.reduceLeDiff, Nat.reduceAdd, Nat.reduceMul, Nat.reduceEqDiff, Int.reduceEq, Int.reduceLT, Int.reduceLE, Int.reduceNeg, Int.reduceToNat, Bool.false_eq_true, eq_self, sa, st2, *])
  refine (wcursor_ok _ loW (h3.ko koW) (ho.eq loW) (hw3.ko koW) loW hqe hat d (d.cursor + 1) he).mono ?_
  rintro r H4 ⟨rfl, h4, hw4, m4⟩
  have w4 := (w3.trans (Same.mod (sameW : Same H3 _) c.ex)).trans m4
  repeat' (first | refine boolP_dec (fun _ => ?_) (fun _ => ?_) | apply boolP_not | refine boolP_b (fun _ => ?_) (fun _ => ?_) | refine wps_draw (id := 1) [Fx, Fx, Fx, Fx, Fx, Fx, Fx, Fx, Fx, Fx, Fx, Fx, Fx, Fx, Fx, Fx, Fx, Fx] (by kernel_rfl) ?_ | refine wps_draw (id := 5) [Fx, Fx, Fx, Fx, Fx, Tx, Fx, Fx, Fx, Fx, Fx, Fx, Fx, Fx, Fx, Fx, Fx, Fx, Fx] (by kernel_rfl) ?_ | simp (config := { maxSteps := 1000000 }) (disch := omega) only [↓sh, ↓sh2, ↓reduceIte, sx, sl, sb, st, nbeq_ne, dle, relo_eq, wrap_i64, Nat.reduceBEq, Nat.reduceLT, Nat.reduceLeDiff, Nat.reduceAdd, Nat.reduceMul, Nat.reduceEqDiff, Int.reduceEq, Int.reduceLT, Int.reduceLE, Int.reduceNeg, Int.reduceToNat, Bool.false_eq_true, eq_self, sa, st2, *])
end Go.AM
namespace Go.AM
attribute [local instance] fnMaps
open Go Go.Proofs
set_option maxRecDepth 100000
set_option maxHeartbeats 1000000
set_option linter.unusedSimpArgs false
theorem Mod.more {ex ex' : List Nat} {H X : Heap} (h : Mod ex H X) (hs : ∀ x ∈ ex, x ∈ ex') : Mod ex' H X := ⟨h.lo, h.nxt, fun x hx he => h.objs x hx fun e => he (hs x e), h.grps⟩
theorem Rn.off {H X : Heap} {c : Rc} {s : Rs} (h : Rn H c s) {q : Nat} (m : Mod [q] H X) (hq : q ∉ c.ex) (ha : c.a ≠ q) : Rn X c s := by
  simp only [Rc.ex, List.mem_cons, List.not_mem_nil, or_false, not_or] at hq
  exact ⟨m.keeps h.lp (not1 fun e => hq.1 e.symm) h.row, Nat.lt_of_lt_of_le h.lp m.nxt, h.bp.off m (not1 fun e => hq.2.1 e.symm), h.ar.off m (not1 ha) (not1 fun e => hq.2.2 e.symm), h.f0, h.f1, h.f2, h.t1⟩
theorem Rn.wne {H : Heap} {c : Rc} {s : Rs} (h : Rn H c s) {q : Nat} {at' : Int} {par : Nat} (hw : Wr H q c.p at' par) : c.a ≠ q := fun e => by
  have h1 := h.ar.box; have h2 := hw.row
  rw [e, h2] at h1
  simp [wkrC] at h1
theorem wfield_copy (H : Heap) (hlo : H.lo ≤ H.next) {c : Rc} {s : Rs} (h : Rn H c s) (ho : c.Lo H) {q : Nat} {at' : Int} {par : Nat} (hw : Wr H q c.p at' par) (hq : H.lo ≤ q) (hqe : q ∉ c.ex) (hat : 0 ≤ at' ∧ at' ≤ 1099511627776) (hpar : par < 2 ^ 64) (d : Hd)
    (hf : fieldE s.ws at' d.cursor false = 0) {x : Int} (hn : refW (fieldW s.ws at' d.cursor false) = some x) (h1 : c.fr.at' ≤ x) (hg : refW (wAt s.ws x) = none) (hd : isHd (wAt s.ws x) = true)
    (hz : 1 ≤ sizeH (decHd (wAt s.ws x))) (h2 : sizeH (decHd (wAt s.ws x)) ≤ c.top - x) (h3 : s.u + sizeH (decHd (wAt s.ws x)) ≤ c.to.size) (hne : refWd (c.to.at' + s.u) ≠ fieldW s.ws at' d.cursor false) {ws1 ws2 ws3 : List Nat} (hw1 : copyW s.ws x (c.to.at' + s.u) (sizeH (decHd (wAt s.ws x))) = ws1) (hse : setFE ws1 at' d.cursor (refWd (c.to.at' + s.u)) = 0)
    (hw2 : ws1.set (fieldK ws1 at' d.cursor false).toNat (refWd (c.to.at' + s.u)) = ws2) (hse2 : setFE ws2 at' d.cursor par = 0) (hw3 : ws2.set (fieldK ws2 at' d.cursor false).toNat par = ws3) :
    CallA E (fnv 70) [ptr q 0, hdV d] H fun r H' => r = .tuple #[] ∧ Rn H' c ⟨s.u + sizeH (decHd (wAt s.ws x)), { addF s.k with words := IntKind.i64.wrap (s.k.words + sizeH (decHd (wAt s.ws x))) }, ws3⟩ ∧ Wr H' q c.p (c.to.at' + s.u) (refWd at') ∧ Mod (q :: c.ex) H H' := by
  subst hw1 hw2 hw3
  have hr := hw.row
  have lq := hw.lq
  unfold wkrC at hr
  refine callA_fn (by kernel_rfl) fn70 rfl rfl ?_
  simp only [Tryz.f70]
  simp only [hdV]
  repeat' (first | refine boolP_dec (fun _ => ?_) (fun _ => ?_) | apply boolP_not | refine boolP_b (fun _ => ?_) (fun _ => ?_) | refine wps_draw (id := 1) [Fx, Fx, Fx, Fx, Fx, Fx, Fx, Fx, Fx, Fx, Fx, Fx, Fx, Fx, Fx, Fx, Fx, Fx] (by kernel_rfl) ?_ | refine wps_draw (id := 5) [Fx, Fx, Fx, Fx, Fx, Tx, Fx, Fx, Fx, Fx, Fx, Fx, Fx, Fx, Fx, Fx, Fx, Fx, Fx] (by kernel_rfl) ?_ | simp (config := { maxSteps := 1000000 }) (disch := omega) only [↓sh, ↓sh2, ↓reduceIte, sx, sl, sb, st, nbeq_ne, dle, relo_eq, wrap_i64, Nat.reduceBEq, Nat.reduceLT, Nat.reduceLeDiff, Nat.reduceAdd, Nat.reduceMul, Nat.reduceEqDiff, Int.reduceEq, Int.reduceLT, Int.reduceLE, Int.reduceNeg, Int.reduceToNat, Bool.false_eq_true, eq_self, sa, st2, *])
  refine (field_copy _ loW (h.ko koW) (ho.eq (by simp (disch := omega) only [setRow_get, newRow_get, newRow_next, setRow_next, newRow_lo, setRow_lo, newRow_grps, setRow_grps, newRow_relo, setRow_relo, relo_objs, relo_next, relo_lo, nbeq_ne, sl])) at' d.cursor (by omega) hf hn h1 hg hd hz h2 h3 hne hse).mono ?_
  rintro r H3 ⟨rfl, h3', m3⟩
  have w3 := (Same.mod (sameW : Same H _) c.ex).trans m3
  have hw3 := hw.off w3 hqe
  have hr3 := hw3.row
  have hb3 := m3.objs H.next (by simp (disch := omega) only [setRow_get, newRow_get, newRow_next, setRow_next, newRow_lo, setRow_lo, newRow_grps, setRow_grps, newRow_relo, setRow_relo, relo_objs, relo_next, relo_lo, nbeq_ne, sl]; omega) (h.new (Nat.le_refl _))
  have lo3 := w3.lo
  have nx3 := w3.nxt
  have nz3 := m3.nxt
  simp (disch := omega) only [sm, sl] at hb3 nz3
  unfold wkrC at hr3
  repeat' (first | refine boolP_dec (fun _ => ?_) (fun _ => ?_) | apply boolP_not | refine boolP_b (fun _ => ?_) (fun _ => ?_) | refine wps_draw (id := 1) [Fx, Fx, Fx, Fx, Fx, Fx, Fx, Fx, Fx, Fx, Fx, Fx, Fx, Fx, Fx, Fx, Fx, Fx] (by kernel_rfl) ?_ | refine wps_draw (id := 5) [Fx, Fx, Fx, Fx, Fx, Tx, Fx, Fx, Fx, Fx, Fx, Fx, Fx, Fx, Fx, Fx, Fx, Fx, Fx] (by kernel_rfl) ?_ | ((with_reducible show CallA _ _ _ _ _); (first | refine call_ko (H0 := H3) koW (wok_ok _ loW (hw3.ko koW) loW) ?_ | refine call_ko (H0 := H3) koW (carena_ok _ loW (h3'.ko koW)) ?_); intro H2 k2 l2 n2 g2 q2; try simp (disch := omega) only [sm, sl] at l2 n2 g2 q2) | simp (config := { maxSteps := 1000000 }) (disch := omega) only [↓sh, ↓sh2, ↓reduceIte, sx, sl, sb, st, nbeq_ne, dle, relo_eq, wrap_i64, Nat.reduceBEq, Nat.reduceLT, Nat.reduceLeDiff, Nat.reduceAdd, Nat.reduceMul, Nat.reduceEqDiff, Int.reduceEq, Int.reduceLT, Int.reduceLE, Int.reduceNeg, Int.reduceToNat, Bool.false_eq_true, eq_self, sa, st2, *])
  refine (osetfield_ok _ loW (h3'.ar.same koW) (by have := ho.rw; simp (disch := omega) only [setRow_get, newRow_get, newRow_next, setRow_next, newRow_lo, setRow_lo, newRow_grps, setRow_grps, newRow_relo, setRow_relo, relo_objs, relo_next, relo_lo, nbeq_ne, sl]; omega) at' (by omega) d.cursor par hpar).mono ?_
  rintro r H4 ⟨rfl, ha4, m4⟩
  rw [if_pos hse2] at ha4
  rw [hse2]
  have h4 := (h3'.ko (X := H2.relo H.lo) koW).setW ha4 m4.mod1 (List.length_set ..)
  have w4 := (w3.trans (Same.mod (sameW : Same H3 (H2.relo H.lo)) c.ex)).trans (m4.mod (List.mem_cons_of_mem _ (List.mem_cons_of_mem _ (List.mem_cons_self ..))))
  have hw4 := hw.off w4 hqe
  have hr4 := hw4.row
  have hb4 := m4.keeps (by simp (disch := omega) only [setRow_get, newRow_get, newRow_next, setRow_next, newRow_lo, setRow_lo, newRow_grps, setRow_grps, newRow_relo, setRow_relo, relo_objs, relo_next, relo_lo, nbeq_ne, sl]; omega) (by have := h.ar.lw; omega) ((k2.objs H.next (by omega)).trans hb3)
  have lo4 := w4.lo
  have nx4 := w4.nxt
  have nz4 := m4.nxt
  simp (disch := omega) only [sm, sl] at nz4
  unfold wkrC at hr4
  have hv : (⟨2, at'⟩ : Val).Ok := .inr (.inr ⟨rfl, hat⟩)
  repeat' (first | refine boolP_dec (fun _ => ?_) (fun _ => ?_) | apply boolP_not | refine boolP_b (fun _ => ?_) (fun _ => ?_) | refine wps_draw (id := 1) [Fx, Fx, Fx, Fx, Fx, Fx, Fx, Fx, Fx, Fx, Fx, Fx, Fx, Fx, Fx, Fx, Fx, Fx] (by kernel_rfl) ?_ | refine wps_draw (id := 5) [Fx, Fx, Fx, Fx, Fx, Tx, Fx, Fx, Fx, Fx, Fx, Fx, Fx, Fx, Fx, Fx, Fx, Fx, Fx] (by kernel_rfl) ?_ | ((with_reducible show CallA _ _ _ _ _); (first | refine call_ko (H0 := H4) koW (wok_ok _ loW (hw4.ko koW) (by first | omega | (simp (disch := omega) only [setRow_get, newRow_get, newRow_next, setRow_next, newRow_lo, setRow_lo, newRow_grps, setRow_grps, newRow_relo, setRow_relo, relo_objs, relo_next, relo_lo, nbeq_ne, sl]; omega))) ?_ | refine call_ko (H0 := H4) koW (venc_ok _ loW ⟨2, at'⟩) ?_); intro H2 k2 l2 n2 g2 q2; try simp (disch := omega) only [sm, sl] at l2 n2 g2 q2) | simp (config := { maxSteps := 1000000 }) (disch := omega) only [↓sh, ↓sh2, ↓reduceIte, sx, sl, sb, st, nbeq_ne, dle, relo_eq, wrap_i64, Nat.reduceBEq, Nat.reduceLT, Nat.reduceLeDiff, Nat.reduceAdd, Nat.reduceMul, Nat.reduceEqDiff, Int.reduceEq, Int.reduceLT, Int.reduceLE, Int.reduceNeg, Int.reduceToNat, Bool.false_eq_true, eq_self, sa, st2, valV, *])
  have h6 := h4.ko k2
  have w6 := (w4.trans (Same.mod (sameW : Same H4 H2) c.ex)).more (ex' := q :: c.ex) fun x hx => List.mem_cons_of_mem _ hx
  have m6 := (Same.refl H2).mod [q]
  have hl : q < H2.next := by omega
  exact ⟨h6.off ((m6.setRow (List.mem_singleton.2 rfl) _).setRow (List.mem_singleton.2 rfl) _) hqe (h6.wne (hw4.ko k2)), ⟨by rw [setRow_get, nbeq_eq rfl]; rfl, by rw [setRow_next, setRow_next]; exact hl⟩, (w6.setRow (List.mem_cons_self ..) _).setRow (List.mem_cons_self ..) _⟩
end Go.AM
namespace Go.AM
attribute [local instance] fnMaps
open Go Go.Proofs
set_option maxRecDepth 100000
set_option maxHeartbeats 1000000
set_option linter.unusedSimpArgs false
theorem fn71 : E.fn.get 71 = some Tryz.f71 := by kernel_rfl
theorem wback_end (H : Heap) (hlo : H.lo ≤ H.next) {c : Rc} {s : Rs} (h : Rn H c s) (ho : c.Lo H) {q : Nat} {at' : Int} {par : Nat} (hw : Wr H q c.p at' par) (hq : H.lo ≤ q) (hqe : q ∉ c.ex) (hat : 0 ≤ at' ∧ at' ≤ 1099511627776) (hpar : par < 2 ^ 64) (d : Hd)
    (he : setE s.ws at' { d with cursor := 0 } = 0) (hn : refW par = none) :
    CallA E (fnv 71) [ptr q 0, hdV d] H fun r H' => r = .bool false ∧ Rn H' c ⟨s.u, addO s.k, s.ws.set at'.toNat (wH { d with cursor := 0 } 5)⟩ ∧ Wr H' q c.p at' par ∧ Mod c.ex H H' := by
  have hr := hw.row
  have lq := hw.lq
  unfold wkrC at hr
  refine callA_fn (by kernel_rfl) fn71 rfl rfl ?_
  simp only [Tryz.f71]
  simp only [hdV]
  repeat' (first | refine boolP_dec (fun _ => ?_) (fun _ => ?_) | apply boolP_not | refine boolP_b (fun _ => ?_) (fun _ => ?_) | refine wps_draw (id := 9) [Fx, Fx, Fx, Fx, Tx, Fx, Fx, Fx, Fx, Fx, Fx, Fx, Fx, Fx] (by kernel_rfl) ?_ | refine wps_draw (id := 10) [Fx, Fx, Fx, Fx, Fx, Fx, Fx, Fx, Fx, Fx, Tx, Fx, Fx, Fx, Fx, Fx, Fx, Fx, Fx] (by kernel_rfl) ?_ | simp (config := { maxSteps := 1000000 }) (disch := omega) only [↓sh, ↓sh2, ↓reduceIte, sx, sl, sb, st, nbeq_ne, dle, relo_eq, wrap_i64, Nat.reduceBEq, Nat.reduceLT, Nat.reduceLeDiff, Nat.reduceAdd, Nat.reduceMul, Nat.reduceEqDiff, Int.reduceEq, Int.reduceLT, Int.reduceLE, Int.reduceNeg, Int.reduceToNat, Bool.false_eq_true, eq_self, sa, st2, *])
  refine (cseen_ok _ loW (h.ko koW) (ho.eq (by simp (disch := omega) only [setRow_get, newRow_get, newRow_next, setRow_next, newRow_lo, setRow_lo, newRow_grps, setRow_grps, newRow_relo, setRow_relo, relo_objs, relo_next, relo_lo, nbeq_ne, sl]))).mono ?_
  rintro r H3 ⟨rfl, h3, m3⟩
  have w3 := (Same.mod (sameW : Same H _) c.ex).trans m3
  have hw3 := hw.off w3 hqe
  have hr3 := hw3.row
  have hb3 := m3.objs H.next (by simp (disch := omega) only [setRow_get, newRow_get, newRow_next, setRow_next, newRow_lo, setRow_lo, newRow_grps, setRow_grps, newRow_relo, setRow_relo, relo_objs, relo_next, relo_lo, nbeq_ne, sl]; omega) (h.new (Nat.le_refl _))
  have lo3 := w3.lo
  have nx3 := w3.nxt
  have nz3 := m3.nxt
  simp (disch := omega) only [sm, sl] at hb3 nz3
  unfold wkrC at hr3
  repeat' (first | refine boolP_dec (fun _ => ?_) (fun _ => ?_) | apply boolP_not | refine boolP_b (fun _ => ?_) (fun _ => ?_) | refine wps_draw (id := 9) [Fx, Fx, Fx, Fx, Tx, Fx, Fx, Fx, Fx, Fx, Fx, Fx, Fx, Fx] (by kernel_rfl) ?_ | refine wps_draw (id := 10) [Fx, Fx, Fx, Fx, Fx, Fx, Fx, Fx, Fx, Fx, Tx, Fx, Fx, Fx, Fx, Fx, Fx, Fx, Fx] (by kernel_rfl) ?_ | simp (config := { maxSteps := 1000000 }) (disch := omega) only [↓sh, ↓sh2, ↓reduceIte, sx, sl, sb, st, nbeq_ne, dle, relo_eq, wrap_i64, Nat.reduceBEq, Nat.reduceLT, Nat.reduceLeDiff, Nat.reduceAdd, Nat.reduceMul, Nat.reduceEqDiff, Int.reduceEq, Int.reduceLT, Int.reduceLE, Int.reduceNeg, Int.reduceToNat, Bool.false_eq_true, eq_self, sa, st2, *])
  refine (wcursor_ok _ loW (h3.ko koW) (ho.eq (by first | assumption | (simp (disch := omega) only [setRow_get, newRow_get, newRow_next, setRow_next, newRow_lo, setRow_lo, newRow_grps, setRow_grps, newRow_relo, setRow_relo, relo_objs, relo_next, relo_lo, nbeq_ne, sl]; omega))) (hw3.ko koW) loW hqe (by omega) d 0 he).mono ?_
  rintro r H4 ⟨rfl, h4, hw4, m4⟩
  have w4 := w3.trans m4
  have hr4 := hw4.row
  have lo4 := w4.lo
  have nx4 := w4.nxt
  unfold wkrC at hr4
  have hv : (⟨2, at'⟩ : Val).Ok := .inr (.inr ⟨rfl, hat⟩)
  repeat' (first | refine boolP_dec (fun _ => ?_) (fun _ => ?_) | apply boolP_not | refine boolP_b (fun _ => ?_) (fun _ => ?_) | refine wps_draw (id := 9) [Fx, Fx, Fx, Fx, Tx, Fx, Fx, Fx, Fx, Fx, Fx, Fx, Fx, Fx] (by kernel_rfl) ?_ | refine wps_draw (id := 10) [Fx, Fx, Fx, Fx, Fx, Fx, Fx, Fx, Fx, Fx, Tx, Fx, Fx, Fx, Fx, Fx, Fx, Fx, Fx] (by kernel_rfl) ?_ | ((with_reducible show CallA _ _ _ _ _); (first | refine call_ko (H0 := H4) koW (wok_ok _ loW (hw4.ko koW) (by first | omega | (simp (disch := omega) only [setRow_get, newRow_get, newRow_next, setRow_next, newRow_lo, setRow_lo, newRow_grps, setRow_grps, newRow_relo, setRow_relo, relo_objs, relo_next, relo_lo, nbeq_ne, sl]; omega))) ?_ | refine call_ko (H0 := H4) koW (venc_ok _ loW ⟨2, at'⟩) ?_ | refine call_ko (H0 := H4) koW (vref_ok _ loW par hpar) ?_); intro H2 k2 l2 n2 g2 q2; try simp (disch := omega) only [sm, sl] at l2 n2 g2 q2) | simp (config := { maxSteps := 1000000 }) (disch := omega) only [↓sh, ↓sh2, ↓reduceIte, sx, sl, sb, st, nbeq_ne, dle, relo_eq, wrap_i64, Nat.reduceBEq, Nat.reduceLT, Nat.reduceLeDiff, Nat.reduceAdd, Nat.reduceMul, Nat.reduceEqDiff, Int.reduceEq, Int.reduceLT, Int.reduceLE, Int.reduceNeg, Int.reduceToNat, Bool.false_eq_true, eq_self, sa, st2, valV, Option.isSome_none, Option.getD_none, *])
  exact ⟨h4.ko koW, hw4.ko koW, w4.trans (Same.mod sameW _)⟩
theorem wback_up (H : Heap) (hlo : H.lo ≤ H.next) {c : Rc} {s : Rs} (h : Rn H c s) (ho : c.Lo H) {q : Nat} {at' : Int} {par : Nat} (hw : Wr H q c.p at' par) (hq : H.lo ≤ q) (hqe : q ∉ c.ex) (hat : 0 ≤ at' ∧ at' ≤ 1099511627776) (hpar : par < 2 ^ 64) (d : Hd)
    (he : setE s.ws at' { d with cursor := 0 } = 0) {up : Int} (hn : refW par = some up) {ws1 ws2 ws3 : List Nat} {ab : Hd} {gr : Nat} (hw1 : s.ws.set at'.toNat (wH { d with cursor := 0 } 5) = ws1) (hhe : headE ws1 up = 0) (hab : headAt ws1 up = ab) (hfe : fieldE ws1 up ab.cursor false = 0) (hgr : fieldW ws1 up ab.cursor false = gr)
    (hk : 0 ≤ ab.cursor ∧ ab.cursor < 65536) (hse : setFE ws1 up ab.cursor (refWd at') = 0) (hw2 : ws1.set (fieldK ws1 up ab.cursor false).toNat (refWd at') = ws2) (hce : setE ws2 up { ab with cursor := ab.cursor + 1 } = 0) (hw3 : ws2.set up.toNat (wH { ab with cursor := ab.cursor + 1 } 5) = ws3) :
    CallA E (fnv 71) [ptr q 0, hdV d] H fun r H' => r = .bool true ∧ Rn H' c ⟨s.u, addO s.k, ws3⟩ ∧ Wr H' q c.p up gr ∧ Mod (q :: c.ex) H H' := by
  have hr := hw.row
  have lq := hw.lq
  have hup := refW_in hn
  unfold wkrC at hr
  refine callA_fn (by kernel_rfl) fn71 rfl rfl ?_
  simp only [Tryz.f71]
  simp only [hdV]
  repeat' (first | refine boolP_dec (fun _ => ?_) (fun _ => ?_) | apply boolP_not | refine boolP_b (fun _ => ?_) (fun _ => ?_) | refine wps_draw (id := 9) [Fx, Fx, Fx, Fx, Tx, Fx, Fx, Fx, Fx, Fx, Fx, Fx, Fx, Fx] (by kernel_rfl) ?_ | refine wps_draw (id := 10) [Fx, Fx, Fx, Fx, Fx, Fx, Fx, Fx, Fx, Fx, Tx, Fx, Fx, Fx, Fx, Fx, Fx, Fx, Fx] (by kernel_rfl) ?_ | simp (config := { maxSteps := 1000000 }) (disch := omega) only [↓sh, ↓sh2, ↓reduceIte, sx, sl, sb, st, nbeq_ne, dle, relo_eq, wrap_i64, Nat.reduceBEq, Nat.reduceLT, Nat.reduceLeDiff, Nat.reduceAdd, Nat.reduceMul, Nat.reduceEqDiff, Int.reduceEq, Int.reduceLT, Int.reduceLE, Int.reduceNeg, Int.reduceToNat, Bool.false_eq_true, eq_self, sa, st2, *])
  refine (cseen_ok _ loW (h.ko koW) (ho.eq (by simp (disch := omega) only [setRow_get, newRow_get, newRow_next, setRow_next, newRow_lo, setRow_lo, newRow_grps, setRow_grps, newRow_relo, setRow_relo, relo_objs, relo_next, relo_lo, nbeq_ne, sl]))).mono ?_
  rintro r H3 ⟨rfl, h3, m3⟩
  have w3 := (Same.mod (sameW : Same H _) c.ex).trans m3
  have hw3' := hw.off w3 hqe
  have hr3 := hw3'.row
  have hb3 := m3.objs H.next (by simp (disch := omega) only [setRow_get, newRow_get, newRow_next, setRow_next, newRow_lo, setRow_lo, newRow_grps, setRow_grps, newRow_relo, setRow_relo, relo_objs, relo_next, relo_lo, nbeq_ne, sl]; omega) (h.new (Nat.le_refl _))
  have lo3 := w3.lo
  have nx3 := w3.nxt
  have nz3 := m3.nxt
  simp (disch := omega) only [sm, sl] at hb3 nz3
  unfold wkrC at hr3
  repeat' (first | refine boolP_dec (fun _ => ?_) (fun _ => ?_) | apply boolP_not | refine boolP_b (fun _ => ?_) (fun _ => ?_) | refine wps_draw (id := 9) [Fx, Fx, Fx, Fx, Tx, Fx, Fx, Fx, Fx, Fx, Fx, Fx, Fx, Fx] (by kernel_rfl) ?_ | refine wps_draw (id := 10) [Fx, Fx, Fx, Fx, Fx, Fx, Fx, Fx, Fx, Fx, Tx, Fx, Fx, Fx, Fx, Fx, Fx, Fx, Fx] (by kernel_rfl) ?_ | simp (config := { maxSteps := 1000000 }) (disch := omega) only [↓sh, ↓sh2, ↓reduceIte, sx, sl, sb, st, nbeq_ne, dle, relo_eq, wrap_i64, Nat.reduceBEq, Nat.reduceLT, Nat.reduceLeDiff, Nat.reduceAdd, Nat.reduceMul, Nat.reduceEqDiff, Int.reduceEq, Int.reduceLT, Int.reduceLE, Int.reduceNeg, Int.reduceToNat, Bool.false_eq_true, eq_self, sa, st2, *])
  refine (wcursor_ok _ loW (h3.ko koW) (ho.eq (by first | assumption | (simp (disch := omega) only [setRow_get, newRow_get, newRow_next, setRow_next, newRow_lo, setRow_lo, newRow_grps, setRow_grps, newRow_relo, setRow_relo, relo_objs, relo_next, relo_lo, nbeq_ne, sl]; omega))) (hw3'.ko koW) loW hqe (by omega) d 0 he).mono ?_
  rintro r H4 ⟨rfl, h4, hw4, m4⟩
  rw [hw1] at h4
  have w4 := w3.trans m4
  have hr4 := hw4.row
  have lo4 := w4.lo
  have nx4 := w4.nxt
  unfold wkrC at hr4
  have hv : (⟨2, at'⟩ : Val).Ok := .inr (.inr ⟨rfl, hat⟩)
  repeat' (first | refine boolP_dec (fun _ => ?_) (fun _ => ?_) | apply boolP_not | refine boolP_b (fun _ => ?_) (fun _ => ?_) | refine wps_draw (id := 9) [Fx, Fx, Fx, Fx, Tx, Fx, Fx, Fx, Fx, Fx, Fx, Fx, Fx, Fx] (by kernel_rfl) ?_ | refine wps_draw (id := 10) [Fx, Fx, Fx, Fx, Fx, Fx, Fx, Fx, Fx, Fx, Tx, Fx, Fx, Fx, Fx, Fx, Fx, Fx, Fx] (by kernel_rfl) ?_ | ((with_reducible show CallA _ _ _ _ _); (first | refine call_ko (H0 := H4) koW (wok_ok _ loW (hw4.ko koW) (by first | omega | (simp (disch := omega) only [setRow_get, newRow_get, newRow_next, setRow_next, newRow_lo, setRow_lo, newRow_grps, setRow_grps, newRow_relo, setRow_relo, relo_objs, relo_next, relo_lo, nbeq_ne, sl]; omega))) ?_ | refine call_ko (H0 := H4) koW (venc_ok _ loW ⟨2, at'⟩) ?_ | refine call_ko (H0 := H4) koW (vref_ok _ loW par hpar) ?_); intro H2 k2 l2 n2 g2 q2; try simp (disch := omega) only [sm, sl] at l2 n2 g2 q2) | simp (config := { maxSteps := 1000000 }) (disch := omega) only [↓sh, ↓sh2, ↓reduceIte, sx, sl, sb, st, nbeq_ne, dle, relo_eq, wrap_i64, Nat.reduceBEq, Nat.reduceLT, Nat.reduceLeDiff, Nat.reduceAdd, Nat.reduceMul, Nat.reduceEqDiff, Int.reduceEq, Int.reduceLT, Int.reduceLE, Int.reduceNeg, Int.reduceToNat, Bool.false_eq_true, eq_self, sa, st2, valV, Option.isSome_some, Option.getD_some, *])
  have e5 := ((Same.refl H2).mod [q]).setRow (List.mem_singleton.2 rfl) (wkrC c.p up par)
  have h5 := (h4.ko koW).off e5 hqe (h4.wne hw4)
  have hl5 : q < H2.next := by omega
  have hw5 : Wr (H2.setRow q (wkrC c.p up par)) q c.p up par := ⟨by rw [setRow_get, nbeq_eq rfl]; rfl, by rw [setRow_next]; exact hl5⟩
  have w5 := ((w4.trans (Same.mod (sameW : Same H4 H2) c.ex)).more (ex' := q :: c.ex) fun x hx => List.mem_cons_of_mem _ hx).setRow (List.mem_cons_self ..) (wkrC c.p up par)
  show CallA E _ _ (H2.setRow q (wkrC c.p up par)) _
  generalize H2.setRow q (wkrC c.p up par) = X at h5 hw5 w5 ⊢
  have lo5 := w5.lo
  have nx5 := w5.nxt
  refine (whead_ok _ loW h5 hw5 loW (by omega) hhe).mono ?_
  rintro r H6 ⟨rfl, s6⟩
  have k6 : Ko X H6 := ⟨s6.nxt, s6.objs, s6.grps⟩
  have lo6 := s6.lo
  have nx6 := s6.nxt
  have h6 := h5.ko k6
  have hw6 := hw5.ko k6
  have w6 := w5.trans (s6.mod _)
  have hr6 := hw6.row
  have lq6 := hw6.lq
  have ha6 := h6.ar
  unfold wkrC at hr6
  rw [hab]
  simp only [hdV]
  clear e5 hr4 hr3 hr h3 h4 hw3' hw4 m3 m4 s6 hb3 w3 w4 w5 h5 hw5
  repeat' (first | refine boolP_dec (fun _ => ?_) (fun _ => ?_) | apply boolP_not | refine boolP_b (fun _ => ?_) (fun _ => ?_) | refine wps_draw (id := 9) [Fx, Fx, Fx, Fx, Tx, Fx, Fx, Fx, Fx, Fx, Fx, Fx, Fx, Fx] (by kernel_rfl) ?_ | refine wps_draw (id := 10) [Fx, Fx, Fx, Fx, Fx, Fx, Fx, Fx, Fx, Fx, Tx, Fx, Fx, Fx, Fx, Fx, Fx, Fx, Fx] (by kernel_rfl) ?_ | simp (config := { maxSteps := 1000000 }) (disch := omega) only [↓sh, ↓sh2, ↓reduceIte, sx, sl, sb, st, nbeq_ne, dle, relo_eq, wrap_i64, Nat.reduceBEq, Nat.reduceLT, Nat.reduceLeDiff, Nat.reduceAdd, Nat.reduceMul, Nat.reduceEqDiff, Int.reduceEq, Int.reduceLT, Int.reduceLE, Int.reduceNeg, Int.reduceToNat, Bool.false_eq_true, eq_self, sa, st2, *])
  refine CallA.mono (carena_ok _ (by simp (disch := omega) only [setRow_get, newRow_get, newRow_next, setRow_next, newRow_lo, setRow_lo, newRow_grps, setRow_grps, newRow_relo, setRow_relo, relo_objs, relo_next, relo_lo, nbeq_ne, sl]; exact Nat.le_refl _) (h6.ko koW)) ?_
  rintro r Y ⟨rfl, sY⟩
  have kY : Ko H6 Y := Ko.call koW sY
  have hrY := kY.keeps lq6 hr6
  have hbY := sY.objs H6.next (by simp (disch := omega) only [setRow_get, newRow_get, newRow_next, setRow_next, newRow_lo, setRow_lo, newRow_grps, setRow_grps, newRow_relo, setRow_relo, relo_objs, relo_next, relo_lo, nbeq_ne, sl]; omega)
  have loY := sY.lo
  have nxY := sY.nxt
  simp (disch := omega) only [sm, sl] at hbY loY nxY
  clear sY
  repeat' (first | refine boolP_dec (fun _ => ?_) (fun _ => ?_) | apply boolP_not | refine boolP_b (fun _ => ?_) (fun _ => ?_) | refine wps_draw (id := 9) [Fx, Fx, Fx, Fx, Tx, Fx, Fx, Fx, Fx, Fx, Fx, Fx, Fx, Fx] (by kernel_rfl) ?_ | refine wps_draw (id := 10) [Fx, Fx, Fx, Fx, Fx, Fx, Fx, Fx, Fx, Fx, Tx, Fx, Fx, Fx, Fx, Fx, Fx, Fx, Fx] (by kernel_rfl) ?_ | ((with_reducible show CallA _ _ _ _ _); (first | refine call_ko (H0 := Y) koW (wok_ok _ loW (hw6.ko koW) (by first | omega | (simp (disch := omega) only [setRow_get, newRow_get, newRow_next, setRow_next, newRow_lo, setRow_lo, newRow_grps, setRow_grps, newRow_relo, setRow_relo, relo_objs, relo_next, relo_lo, nbeq_ne, sl]; omega))) ?_ | refine call_ko (H0 := Y) koW (carena_ok _ loW (h6.ko koW)) ?_ | refine call_ko (H0 := Y) koW (ofield_ok _ loW (ha6.same koW) up (by omega) ab.cursor) ?_); intro H2 k2 l2 n2 g2 q2; try simp (disch := omega) only [sm, sl] at l2 n2 g2 q2) | simp (config := { maxSteps := 1000000 }) (disch := omega) only [↓sh, ↓sh2, ↓reduceIte, sx, sl, sb, st, nbeq_ne, dle, relo_eq, wrap_i64, Nat.reduceBEq, Nat.reduceLT, Nat.reduceLeDiff, Nat.reduceAdd, Nat.reduceMul, Nat.reduceEqDiff, Int.reduceEq, Int.reduceLT, Int.reduceLE, Int.reduceNeg, Int.reduceToNat, Bool.false_eq_true, eq_self, sa, st2, *])
  refine (osetfield_ok _ loW (ha6.same koW) (by have := ho.rw; simp (disch := omega) only [setRow_get, newRow_get, newRow_next, setRow_next, newRow_lo, setRow_lo, newRow_grps, setRow_grps, newRow_relo, setRow_relo, relo_objs, relo_next, relo_lo, nbeq_ne, sl]; omega) up (by omega) ab.cursor (refWd at') (refWd_u64 _ hat)).mono ?_
  rintro r H7 ⟨rfl, ha7, m7⟩
  rw [if_pos hse, hw2] at ha7
  rw [hse]
  have hl2 : ws2.length = ws1.length := by rw [← hw2]; exact List.length_set ..
  have h7 := (h6.ko (X := H2.relo H.lo) koW).setW ha7 m7.mod1 hl2
  have w7 := (w6.trans (Same.mod (sameW : Same H6 (H2.relo H.lo)) _)).trans (m7.mod (List.mem_cons_of_mem _ (List.mem_cons_of_mem _ (List.mem_cons_of_mem _ (List.mem_cons_self ..)))))
  have hw7 := (hw6.ko (X := H2.relo H.lo) koW).off (m7.mod (ex := c.ex) (List.mem_cons_of_mem _ (List.mem_cons_of_mem _ (List.mem_cons_self ..)))) hqe
  have hr7 := hw7.row
  have lo7 := w7.lo
  have nx7 := w7.nxt
  have nz7 := m7.nxt
  simp (disch := omega) only [sm, sl] at nz7
  unfold wkrC at hr7
  have hb7 := m7.keeps (by simp (disch := omega) only [setRow_get, newRow_get, newRow_next, setRow_next, newRow_lo, setRow_lo, newRow_grps, setRow_grps, newRow_relo, setRow_relo, relo_objs, relo_next, relo_lo, nbeq_ne, sl]; omega) (by have := h6.ar.lw; omega) (k2.keeps (by omega) hbY)
  repeat' (first | refine boolP_dec (fun _ => ?_) (fun _ => ?_) | apply boolP_not | refine boolP_b (fun _ => ?_) (fun _ => ?_) | refine wps_draw (id := 9) [Fx, Fx, Fx, Fx, Tx, Fx, Fx, Fx, Fx, Fx, Fx, Fx, Fx, Fx] (by kernel_rfl) ?_ | refine wps_draw (id := 10) [Fx, Fx, Fx, Fx, Fx, Fx, Fx, Fx, Fx, Fx, Tx, Fx, Fx, Fx, Fx, Fx, Fx, Fx, Fx] (by kernel_rfl) ?_ | ((with_reducible show CallA _ _ _ _ _); refine call_ko (H0 := H7) koW (wok_ok _ loW (hw7.ko koW) (by first | omega | (simp (disch := omega) only [setRow_get, newRow_get, newRow_next, setRow_next, newRow_lo, setRow_lo, newRow_grps, setRow_grps, newRow_relo, setRow_relo, relo_objs, relo_next, relo_lo, nbeq_ne, sl]; omega))) ?_; intro H2 k2 l2 n2 g2 q2; try simp (disch := omega) only [sm, sl] at l2 n2 g2 q2) | simp (config := { maxSteps := 1000000 }) (disch := omega) only [↓sh, ↓sh2, ↓reduceIte, sx, sl, sb, st, nbeq_ne, dle, relo_eq, wrap_i64, Nat.reduceBEq, Nat.reduceLT, Nat.reduceLeDiff, Nat.reduceAdd, Nat.reduceMul, Nat.reduceEqDiff, Int.reduceEq, Int.reduceLT, Int.reduceLE, Int.reduceNeg, Int.reduceToNat, Bool.false_eq_true, eq_self, sa, st2, *])
  have e8 := ((Same.refl H2).mod [q]).setRow (List.mem_singleton.2 rfl) (wkrC c.p up gr)
  have h8 := (h7.ko k2).off e8 hqe (h7.wne hw7)
  have hl8 : q < H2.next := by omega
  have hw8 : Wr (H2.setRow q (wkrC c.p up gr)) q c.p up gr := ⟨by rw [setRow_get, nbeq_eq rfl]; rfl, by rw [setRow_next]; exact hl8⟩
  have w8 := (w7.trans (Same.mod (sameW : Same H7 H2) _)).setRow (List.mem_cons_self ..) (wkrC c.p up gr)
  show CallA E _ _ (H2.setRow q (wkrC c.p up gr)) _
  generalize H2.setRow q (wkrC c.p up gr) = Z at h8 hw8 w8 ⊢
  have lo8 := w8.lo
  have nx8 := w8.nxt
  refine CallA.mono (wcursor_ok _ loW h8 (ho.eq lo8) hw8 loW hqe (by omega) ab (ab.cursor + 1) hce) ?_
  rintro r H9 ⟨rfl, h9, hw9, m9⟩
  rw [hw3] at h9
  exact ⟨h9, hw9, w8.trans (m9.more fun x hx => List.mem_cons_of_mem _ hx)⟩
end Go.AM
namespace Go.AM
attribute [local instance] fnMaps
open Go Go.Proofs
set_option maxRecDepth 100000
set_option maxHeartbeats 1000000
set_option linter.unusedSimpArgs false
inductive TRun (c : Rc) : Nat → Rs → Int → Nat → Rs → Prop
  | plain {n : Nat} {s z : Rs} {at' : Int} {par : Nat} {d : Hd} (hat : 0 ≤ at' ∧ at' ≤ 1099511627776) (hh : headE s.ws at' = 0) (hd : headAt s.ws at' = d) (hlt : d.cursor < d.fields) (hk : 0 ≤ d.cursor ∧ d.cursor < 65536)
      (hf : fieldE s.ws at' d.cursor false = 0) (hn : refW (fieldW s.ws at' d.cursor false) = none) (he : setE s.ws at' { d with cursor := d.cursor + 1 } = 0)
      (next : TRun c n ⟨s.u, addF (addS s.k), s.ws.set at'.toNat (wH { d with cursor := d.cursor + 1 } 5)⟩ at' par z) : TRun c (n + 1) s at' par z
  | copy {n : Nat} {s z : Rs} {at' : Int} {par : Nat} {d : Hd} {x : Int} {ws1 ws2 ws3 : List Nat} (hat : 0 ≤ at' ∧ at' ≤ 1099511627776) (hpar : par < 2 ^ 64) (hh : headE s.ws at' = 0) (hd : headAt s.ws at' = d) (hlt : d.cursor < d.fields)
      (hf : fieldE s.ws at' d.cursor false = 0) (hn : refW (fieldW s.ws at' d.cursor false) = some x) (h1 : c.fr.at' ≤ x) (hg : refW (wAt s.ws x) = none) (hdx : isHd (wAt s.ws x) = true)
      (hz : 1 ≤ sizeH (decHd (wAt s.ws x))) (h2 : sizeH (decHd (wAt s.ws x)) ≤ c.top - x) (h3 : s.u + sizeH (decHd (wAt s.ws x)) ≤ c.to.size) (hne : refWd (c.to.at' + s.u) ≠ fieldW s.ws at' d.cursor false)
      (hw1 : copyW s.ws x (c.to.at' + s.u) (sizeH (decHd (wAt s.ws x))) = ws1) (hse : setFE ws1 at' d.cursor (refWd (c.to.at' + s.u)) = 0)
      (hw2 : ws1.set (fieldK ws1 at' d.cursor false).toNat (refWd (c.to.at' + s.u)) = ws2) (hse2 : setFE ws2 at' d.cursor par = 0) (hw3 : ws2.set (fieldK ws2 at' d.cursor false).toNat par = ws3)
      (next : TRun c n ⟨s.u + sizeH (decHd (wAt s.ws x)), { addF (addS s.k) with words := IntKind.i64.wrap (s.k.words + sizeH (decHd (wAt s.ws x))) }, ws3⟩ (c.to.at' + s.u) (refWd at') z) : TRun c (n + 1) s at' par z
  | up {n : Nat} {s z : Rs} {at' up : Int} {par gr : Nat} {d ab : Hd} {ws1 ws2 ws3 : List Nat} (hat : 0 ≤ at' ∧ at' ≤ 1099511627776) (hpar : par < 2 ^ 64) (hh : headE s.ws at' = 0) (hd : headAt s.ws at' = d) (hge : ¬ d.cursor < d.fields)
      (he : setE s.ws at' { d with cursor := 0 } = 0) (hn : refW par = some up) (hw1 : s.ws.set at'.toNat (wH { d with cursor := 0 } 5) = ws1) (hhe : headE ws1 up = 0) (hab : headAt ws1 up = ab) (hfe : fieldE ws1 up ab.cursor false = 0) (hgr : fieldW ws1 up ab.cursor false = gr)
      (hk : 0 ≤ ab.cursor ∧ ab.cursor < 65536) (hse : setFE ws1 up ab.cursor (refWd at') = 0) (hw2 : ws1.set (fieldK ws1 up ab.cursor false).toNat (refWd at') = ws2) (hce : setE ws2 up { ab with cursor := ab.cursor + 1 } = 0) (hw3 : ws2.set up.toNat (wH { ab with cursor := ab.cursor + 1 } 5) = ws3)
      (next : TRun c n ⟨s.u, addO (addS s.k), ws3⟩ up gr z) : TRun c (n + 1) s at' par z
  | fin {s : Rs} {at' : Int} {par : Nat} {d : Hd} (hat : 0 ≤ at' ∧ at' ≤ 1099511627776) (hpar : par < 2 ^ 64) (hh : headE s.ws at' = 0) (hd : headAt s.ws at' = d) (hge : ¬ d.cursor < d.fields)
      (he : setE s.ws at' { d with cursor := 0 } = 0) (hn : refW par = none) : TRun c 1 s at' par ⟨s.u, addO (addS s.k), s.ws.set at'.toNat (wH { d with cursor := 0 } 5)⟩
theorem cellsV_p (r o : Nat) : cellsV (ptr r o) = [ptr r o] := Eq.trans rfl rfl
theorem Mod.drop {q : Nat} {ex : List Nat} {H X Y : Heap} (h : Mod ex H X) (h' : Mod (q :: ex) X Y) (hq : H.next ≤ q) : Mod ex H Y :=
  ⟨h'.lo.trans h.lo, Nat.le_trans h.nxt h'.nxt, fun x hx he => (h'.objs x (Nat.lt_of_lt_of_le hx h.nxt) (fun e => by rcases List.mem_cons.1 e with e | e; omega; exact he e)).trans (h.objs x hx he), fun x hx => (h'.grps x (Nat.lt_of_lt_of_le hx h.nxt)).trans (h.grps x hx)⟩
theorem fn51 : E.fn.get 51 = some Tryz.f51 := by kernel_rfl
theorem down_ok (H : Heap) (hlo : H.lo ≤ H.next) {c : Rc} {s z : Rs} (h : Rn H c s) (ho : c.Lo H) (at' : Int) (N : Nat) (hT : TRun c N s at' 0 z) :
    CallA E (fnv 51) [ptr c.p 0, .int .i64 at'] H fun r H' => r = .int .i64 0 ∧ Rn H' c z ∧ Mod c.ex H H' := by
  refine callA_fn (by kernel_rfl) fn51 rfl rfl ?_
  simp only [Tryz.f51]
  repeat' (first | refine boolP_dec (fun _ => ?_) (fun _ => ?_) | apply boolP_not | refine boolP_b (fun _ => ?_) (fun _ => ?_) | ((with_reducible show Qs _ _ _ _ _); first | refine hQe _ _ _ _ ?_ | refine hQr _ _ _ ?_) | simp (config := { maxSteps := 1000000 }) (disch := omega) only [↓sh, ↓sh2, ↓reduceIte, sx, sl, sb, st, nbeq_ne, dle, relo_eq, wrap_i64, Nat.reduceBEq, Nat.reduceLT, Nat.reduceLeDiff, Nat.reduceAdd, Nat.reduceMul, Nat.reduceEqDiff, Int.reduceEq, Int.reduceLT, Int.reduceLE, Int.reduceNeg, Int.reduceToNat, Bool.false_eq_true, eq_self, sa, st2, cellsV_p, List.length_cons, List.length_nil, List.drop_succ_cons, List.drop_zero, List.cons_append, List.nil_append, *])
  refine wps_named2 (fun T1 H1 eT eH => ?_)
  have k1 : Ko H H1 := by rw [eH]; exact koW
  have n1 := congrArg Heap.next eH; have l1 := congrArg Heap.lo eH; have g1 := fun r => congrArg (fun h : Heap => h.objs.get r) eH
  try simp (disch := omega) only [sm, sl] at n1 l1 g1
  clear eH
  have u1_0 := congrArg (fun T : Tr Value => T.get 0) eT
  have u1_5 := congrArg (fun T : Tr Value => T.get 5) eT
  simp only [get_set, of_nil, of_1, of_2, of_3, of_4, of_5, Nat.reduceEqDiff, if_true, if_false, reduceIte] at u1_0 u1_5
  clear eT
  refine wp_loopN (by kernel_rfl) (fun nn T X => ∃ (m : Nat) (s1 : Rs) (at1 : Int) (par1 : Nat), nn = m ∧ (True) ∧ (T.get 0 = T1.get 0 ∧ T.get 5 = T1.get 5) ∧ True ∧ True ∧ (TRun c m s1 at1 par1 z ∧ Rn X c s1 ∧ Wr X H.next c.p at1 par1 ∧ Mod c.ex H X ∧ H.next < X.next)) ?_ ?_
  · have r1 : Rn H1 c s := h.ko k1
    have wr1 : Wr H1 H.next c.p at' 0 := ⟨by rw [g1, nbeq_eq rfl]; rfl, by omega⟩
    have mm1 : Mod c.ex H H1 := Same.mod (k1.same l1) _
    refine ⟨_, N, s, at', 0, rfl, ?_, ?_, trivial, trivial, hT, r1, wr1, mm1, by omega⟩ <;> exact nextW
  rintro nn T1' X1 ⟨m, s1, at1, par1, rfl, m1, w1, _, _, hT1, hR, hW, hM, hX⟩ Qs hQ hQr hQe
  have hqe : H.next ∉ c.ex := h.new (Nat.le_refl _)
  have lo1 := hM.lo
  have hrW := hW.row
  unfold wkrC at hrW
  repeat' (first | refine boolP_dec (fun _ => ?_) (fun _ => ?_) | apply boolP_not | refine boolP_b (fun _ => ?_) (fun _ => ?_) | ((with_reducible show Qs _ _ _ _ _); first | refine hQe _ _ _ _ ?_ | refine hQr _ _ _ ?_) | simp (config := { maxSteps := 1000000 }) (disch := omega) only [↓sh, ↓sh2, ↓reduceIte, sx, sl, sb, st, nbeq_ne, dle, relo_eq, wrap_i64, Nat.reduceBEq, Nat.reduceLT, Nat.reduceLeDiff, Nat.reduceAdd, Nat.reduceMul, Nat.reduceEqDiff, Int.reduceEq, Int.reduceLT, Int.reduceLE, Int.reduceNeg, Int.reduceToNat, Bool.false_eq_true, eq_self, sa, st2, *])
  refine CallA.mono (cstep_ok _ loW hR (ho.eq lo1)) ?_
  rintro r H3 ⟨rfl, h3, m3⟩
  have w3 := hM.trans m3
  have hw3 := hW.off m3 hqe
  have lo3 := w3.lo
  have nx3 := m3.nxt
  have hr3 := hw3.row
  unfold wkrC at hr3
  repeat' (first | refine boolP_dec (fun _ => ?_) (fun _ => ?_) | apply boolP_not | refine boolP_b (fun _ => ?_) (fun _ => ?_) | ((with_reducible show Qs _ _ _ _ _); first | refine hQe _ _ _ _ ?_ | refine hQr _ _ _ ?_) | simp (config := { maxSteps := 1000000 }) (disch := omega) only [↓sh, ↓sh2, ↓reduceIte, sx, sl, sb, st, nbeq_ne, dle, relo_eq, wrap_i64, Nat.reduceBEq, Nat.reduceLT, Nat.reduceLeDiff, Nat.reduceAdd, Nat.reduceMul, Nat.reduceEqDiff, Int.reduceEq, Int.reduceLT, Int.reduceLE, Int.reduceNeg, Int.reduceToNat, Bool.false_eq_true, eq_self, sa, st2, *])
  cases hT1 with
  | @plain m s2 z at1 par1 d hat hh hd hlt hk hf hn he next =>
    refine CallA.mono (whead_ok _ loW h3 hw3 loW (by omega) hh) ?_
    rintro r H4 ⟨rfl, s4⟩
    have k4 : Ko H3 H4 := ⟨s4.nxt, s4.objs, s4.grps⟩
    have lo4 := s4.lo
    have nx4 := s4.nxt
    have hr4 := k4.keeps hw3.lq hr3
    have w4 := w3.trans (s4.mod _)
    have h4 := h3.ko k4
    have hw4 := hw3.ko k4
    rw [hd]
    simp only [hdV]
    repeat' (first | refine boolP_dec (fun _ => ?_) (fun _ => ?_) | apply boolP_not | refine boolP_b (fun _ => ?_) (fun _ => ?_) | ((with_reducible show Qs _ _ _ _ _); first | refine hQe _ _ _ _ ?_ | refine hQr _ _ _ ?_) | simp (config := { maxSteps := 1000000 }) (disch := omega) only [↓sh, ↓sh2, ↓reduceIte, sx, sl, sb, st, nbeq_ne, dle, relo_eq, wrap_i64, Nat.reduceBEq, Nat.reduceLT, Nat.reduceLeDiff, Nat.reduceAdd, Nat.reduceMul, Nat.reduceEqDiff, Int.reduceEq, Int.reduceLT, Int.reduceLE, Int.reduceNeg, Int.reduceToNat, Bool.false_eq_true, eq_self, sa, st2, *])
    refine CallA.mono (wfield_plain _ (by simp (disch := omega) only [setRow_get, newRow_get, newRow_next, setRow_next, newRow_lo, setRow_lo, newRow_grps, setRow_grps, newRow_relo, setRow_relo, relo_objs, relo_next, relo_lo, nbeq_ne, sl]; omega) (h4.ko koW) (ho.eq (by simp (disch := omega) only [setRow_get, newRow_get, newRow_next, setRow_next, newRow_lo, setRow_lo, newRow_grps, setRow_grps, newRow_relo, setRow_relo, relo_objs, relo_next, relo_lo, nbeq_ne, sl]; omega)) (hw4.ko koW) (by simp (disch := omega) only [setRow_get, newRow_get, newRow_next, setRow_next, newRow_lo, setRow_lo, newRow_grps, setRow_grps, newRow_relo, setRow_relo, relo_objs, relo_next, relo_lo, nbeq_ne, sl]; omega) hqe (by omega) d hk hf hn he) ?_
    rintro r H5 ⟨rfl, h5, hw5, m5⟩
    have w5 := (w4.trans (Same.mod (sameW : Same H4 _) c.ex)).trans m5
    have nx5 := w5.nxt
    have lq5 := hw5.lq
    refine hQ _ _ _ ?_ ⟨m, _, at1, par1, rfl, ?_, ?_, trivial, trivial, next, h5, hw5, w5, lq5⟩ <;> exact nextW
  | @copy m s2 z at1 par1 d x ws1 ws2 ws3 hat hpar hh hd hlt hf hn h1' hg hdx hz h2' h3' hne hw1 hse hw2 hse2 hw3' next =>
    refine CallA.mono (whead_ok _ loW h3 hw3 loW (by omega) hh) ?_
    rintro r H4 ⟨rfl, s4⟩
    have k4 : Ko H3 H4 := ⟨s4.nxt, s4.objs, s4.grps⟩
    have lo4 := s4.lo
    have nx4 := s4.nxt
    have hr4 := k4.keeps hw3.lq hr3
    have w4 := w3.trans (s4.mod _)
    have h4 := h3.ko k4
    have hw4 := hw3.ko k4
    rw [hd]
    simp only [hdV]
    repeat' (first | refine boolP_dec (fun _ => ?_) (fun _ => ?_) | apply boolP_not | refine boolP_b (fun _ => ?_) (fun _ => ?_) | ((with_reducible show Qs _ _ _ _ _); first | refine hQe _ _ _ _ ?_ | refine hQr _ _ _ ?_) | simp (config := { maxSteps := 1000000 }) (disch := omega) only [↓sh, ↓sh2, ↓reduceIte, sx, sl, sb, st, nbeq_ne, dle, relo_eq, wrap_i64, Nat.reduceBEq, Nat.reduceLT, Nat.reduceLeDiff, Nat.reduceAdd, Nat.reduceMul, Nat.reduceEqDiff, Int.reduceEq, Int.reduceLT, Int.reduceLE, Int.reduceNeg, Int.reduceToNat, Bool.false_eq_true, eq_self, sa, st2, *])
    refine CallA.mono (wfield_copy _ (by simp (disch := omega) only [setRow_get, newRow_get, newRow_next, setRow_next, newRow_lo, setRow_lo, newRow_grps, setRow_grps, newRow_relo, setRow_relo, relo_objs, relo_next, relo_lo, nbeq_ne, sl]; omega) (h4.ko koW) (ho.eq (by simp (disch := omega) only [setRow_get, newRow_get, newRow_next, setRow_next, newRow_lo, setRow_lo, newRow_grps, setRow_grps, newRow_relo, setRow_relo, relo_objs, relo_next, relo_lo, nbeq_ne, sl]; omega)) (hw4.ko koW) (by simp (disch := omega) only [setRow_get, newRow_get, newRow_next, setRow_next, newRow_lo, setRow_lo, newRow_grps, setRow_grps, newRow_relo, setRow_relo, relo_objs, relo_next, relo_lo, nbeq_ne, sl]; omega) hqe hat hpar d hf hn h1' hg hdx hz h2' h3' hne hw1 hse hw2 hse2 hw3') ?_
    rintro r H5 ⟨rfl, h5, hw5, m5⟩
    have w5 := (w4.trans (Same.mod (sameW : Same H4 _) c.ex)).drop m5 (Nat.le_refl _)
    have lq5 := hw5.lq
    refine hQ _ _ _ ?_ ⟨m, _, _, _, rfl, ?_, ?_, trivial, trivial, next, h5, hw5, w5, lq5⟩ <;> exact nextW
  | @up m s2 z at1 up par1 gr d ab ws1 ws2 ws3 hat hpar hh hd hge he hn hw1 hhe hab hfe hgr hk hse hw2 hce hw3' next =>
    refine CallA.mono (whead_ok _ loW h3 hw3 loW (by omega) hh) ?_
    rintro r H4 ⟨rfl, s4⟩
    have k4 : Ko H3 H4 := ⟨s4.nxt, s4.objs, s4.grps⟩
    have lo4 := s4.lo
    have nx4 := s4.nxt
    have hr4 := k4.keeps hw3.lq hr3
    have w4 := w3.trans (s4.mod _)
    have h4 := h3.ko k4
    have hw4 := hw3.ko k4
    rw [hd]
    simp only [hdV]
    repeat' (first | refine boolP_dec (fun _ => ?_) (fun _ => ?_) | apply boolP_not | refine boolP_b (fun _ => ?_) (fun _ => ?_) | ((with_reducible show Qs _ _ _ _ _); first | refine hQe _ _ _ _ ?_ | refine hQr _ _ _ ?_) | simp (config := { maxSteps := 1000000 }) (disch := omega) only [↓sh, ↓sh2, ↓reduceIte, sx, sl, sb, st, nbeq_ne, dle, relo_eq, wrap_i64, Nat.reduceBEq, Nat.reduceLT, Nat.reduceLeDiff, Nat.reduceAdd, Nat.reduceMul, Nat.reduceEqDiff, Int.reduceEq, Int.reduceLT, Int.reduceLE, Int.reduceNeg, Int.reduceToNat, Bool.false_eq_true, eq_self, sa, st2, *])
    refine CallA.mono (wback_up _ (by simp (disch := omega) only [setRow_get, newRow_get, newRow_next, setRow_next, newRow_lo, setRow_lo, newRow_grps, setRow_grps, newRow_relo, setRow_relo, relo_objs, relo_next, relo_lo, nbeq_ne, sl]; omega) (h4.ko koW) (ho.eq (by simp (disch := omega) only [setRow_get, newRow_get, newRow_next, setRow_next, newRow_lo, setRow_lo, newRow_grps, setRow_grps, newRow_relo, setRow_relo, relo_objs, relo_next, relo_lo, nbeq_ne, sl]; omega)) (hw4.ko koW) (by simp (disch := omega) only [setRow_get, newRow_get, newRow_next, setRow_next, newRow_lo, setRow_lo, newRow_grps, setRow_grps, newRow_relo, setRow_relo, relo_objs, relo_next, relo_lo, nbeq_ne, sl]; omega) hqe hat hpar d he hn hw1 hhe hab hfe hgr hk hse hw2 hce hw3') ?_
    rintro r H5 ⟨rfl, h5, hw5, m5⟩
    have w5 := (w4.trans (Same.mod (sameW : Same H4 _) c.ex)).drop m5 (Nat.le_refl _)
    have lq5 := hw5.lq
    repeat' (first | refine boolP_dec (fun _ => ?_) (fun _ => ?_) | apply boolP_not | refine boolP_b (fun _ => ?_) (fun _ => ?_) | ((with_reducible show Qs _ _ _ _ _); first | refine hQe _ _ _ _ ?_ | refine hQr _ _ _ ?_) | simp (config := { maxSteps := 1000000 }) (disch := omega) only [↓sh, ↓sh2, ↓reduceIte, sx, sl, sb, st, nbeq_ne, dle, relo_eq, wrap_i64, Nat.reduceBEq, Nat.reduceLT, Nat.reduceLeDiff, Nat.reduceAdd, Nat.reduceMul, Nat.reduceEqDiff, Int.reduceEq, Int.reduceLT, Int.reduceLE, Int.reduceNeg, Int.reduceToNat, Bool.false_eq_true, eq_self, sa, st2, *])
    refine hQ _ _ _ ?_ ⟨m, _, _, _, rfl, ?_, ?_, trivial, trivial, next, h5, hw5, w5, lq5⟩ <;> exact nextW
  | @fin s2 at1 par1 d hat hpar hh hd hge he hn =>
    refine CallA.mono (whead_ok _ loW h3 hw3 loW (by omega) hh) ?_
    rintro r H4 ⟨rfl, s4⟩
    have k4 : Ko H3 H4 := ⟨s4.nxt, s4.objs, s4.grps⟩
    have lo4 := s4.lo
    have nx4 := s4.nxt
    have hr4 := k4.keeps hw3.lq hr3
    have w4 := w3.trans (s4.mod _)
    have h4 := h3.ko k4
    have hw4 := hw3.ko k4
    rw [hd]
    simp only [hdV]
    repeat' (first | refine boolP_dec (fun _ => ?_) (fun _ => ?_) | apply boolP_not | refine boolP_b (fun _ => ?_) (fun _ => ?_) | ((with_reducible show Qs _ _ _ _ _); first | refine hQe _ _ _ _ ?_ | refine hQr _ _ _ ?_) | simp (config := { maxSteps := 1000000 }) (disch := omega) only [↓sh, ↓sh2, ↓reduceIte, sx, sl, sb, st, nbeq_ne, dle, relo_eq, wrap_i64, Nat.reduceBEq, Nat.reduceLT, Nat.reduceLeDiff, Nat.reduceAdd, Nat.reduceMul, Nat.reduceEqDiff, Int.reduceEq, Int.reduceLT, Int.reduceLE, Int.reduceNeg, Int.reduceToNat, Bool.false_eq_true, eq_self, sa, st2, *])
    refine CallA.mono (wback_end _ (by simp (disch := omega) only [setRow_get, newRow_get, newRow_next, setRow_next, newRow_lo, setRow_lo, newRow_grps, setRow_grps, newRow_relo, setRow_relo, relo_objs, relo_next, relo_lo, nbeq_ne, sl]; omega) (h4.ko koW) (ho.eq (by simp (disch := omega) only [setRow_get, newRow_get, newRow_next, setRow_next, newRow_lo, setRow_lo, newRow_grps, setRow_grps, newRow_relo, setRow_relo, relo_objs, relo_next, relo_lo, nbeq_ne, sl]; omega)) (hw4.ko koW) (by simp (disch := omega) only [setRow_get, newRow_get, newRow_next, setRow_next, newRow_lo, setRow_lo, newRow_grps, setRow_grps, newRow_relo, setRow_relo, relo_objs, relo_next, relo_lo, nbeq_ne, sl]; omega) hqe hat hpar d he hn) ?_
    rintro r H5 ⟨rfl, h5, hw5, m5⟩
    have w5 := (w4.trans (Same.mod (sameW : Same H4 _) c.ex)).trans m5
    have hr5 := hw5.row
    unfold wkrC at hr5
    repeat' (first | refine boolP_dec (fun _ => ?_) (fun _ => ?_) | apply boolP_not | refine boolP_b (fun _ => ?_) (fun _ => ?_) | ((with_reducible show Qs _ _ _ _ _); first | refine hQe _ _ _ _ ?_ | refine hQr _ _ _ ?_) | simp (config := { maxSteps := 1000000 }) (disch := omega) only [↓sh, ↓sh2, ↓reduceIte, sx, sl, sb, st, nbeq_ne, dle, relo_eq, wrap_i64, Nat.reduceBEq, Nat.reduceLT, Nat.reduceLeDiff, Nat.reduceAdd, Nat.reduceMul, Nat.reduceEqDiff, Int.reduceEq, Int.reduceLT, Int.reduceLE, Int.reduceNeg, Int.reduceToNat, Bool.false_eq_true, eq_self, sa, st2, *])
end Go.AM
