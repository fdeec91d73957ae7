/-
  Walks over letters of the functions that the law reaches.
-/
import Derived.Test.YtfaplhodeekjnaaGreatHB
import Derived.Test.YtfaplhodeekjnaaGreatCD
import Derived.Test.YtfaplhodeekjnaaGreatPP
namespace Go.AM
attribute [local instance] fnMaps
open Go Go.Proofs
set_option maxRecDepth 100000
set_option maxHeartbeats 1000000
set_option linter.unusedSimpArgs false
theorem SLr.kp {α : Type} {R : Heap → List Value → α → Prop} (hR : Mono R) {z : Nat} {H X : Heap} {v : Value} {l : List α} (h : SLr R z H v l) (k : Ko H X) : SLr R z X v l :=
  ⟨h.1.ext hR k.ext, fun a n c ee => (h.2 a n c ee).elim .inl fun ⟨r, cells, g, t, h1, h2, h3⟩ => .inr ⟨r, cells, g, t, h1, Nat.lt_of_lt_of_le h2 k.nxt, (k.objs r h2).trans h3⟩⟩
def slC (l : List Slot) : List Value := l.flatMap slotC
theorem slC_len : ∀ l : List Slot, (slC l).length = l.length * 3
  | [] => rfl
  | x :: l => by
    have := slC_len l
    simp only [slC, List.flatMap_cons, List.length_append, List.length_cons, slotC, List.length_nil] at this ⊢
    omega
theorem slC_cut : ∀ (l : List Slot) (i : Nat) (x : Slot), l[i]? = some x → cut (slC l) (i * 3) 3 = some (slotC x)
  | y :: l, 0, x, h => by
    simp only [List.getElem?_cons_zero, Option.some.injEq] at h
    subst h
    rw [cut_eq, if_pos (by rw [slC_len, List.length_cons]; omega)]
    rfl
  | y :: l, i + 1, x, h => by
    have hx : l[i]? = some x := h
    have hi := (List.getElem?_eq_some_iff.1 hx).1
    have := slC_cut l i x hx
    have h1 := slC_len l
    rw [cut_eq] at this ⊢
    rw [if_pos (by omega)] at this
    rw [if_pos (by rw [slC_len, List.length_cons]; omega), show (i + 1) * 3 = 3 + i * 3 by omega, ← this]
    show some (((slotC y ++ slC l).drop (3 + i * 3)).take 3) = _
    rw [show (slotC y ++ slC l).drop (3 + i * 3) = (slC l).drop (i * 3) by rw [List.drop_append, List.drop_eq_nil_of_le (show (slotC y).length ≤ 3 + i * 3 by simp [slotC])]; simp [slotC]]
theorem elems_slots {H : Heap} {cs : List Value} : ∀ {l : List Slot}, Elems RSlot 3 H cs l → cs = slC l := by
  intro l h
  obtain ⟨h1, h2⟩ := h
  refine List.ext_getElem? fun j => ?_
  have hl := slC_len l
  by_cases hj : j < l.length * 3
  · have hi : j / 3 < l.length := by omega
    obtain ⟨part, hp, rfl⟩ := h2 (j / 3) l[j / 3] (List.getElem?_eq_getElem hi)
    have hq := slC_cut l (j / 3) l[j / 3] (List.getElem?_eq_getElem hi)
    rw [cut_eq, if_pos (by omega)] at hp hq
    have e := (Option.some.inj hp).trans (Option.some.inj hq).symm
    have e2 := congrArg (fun t : List Value => t[j % 3]?) e
    simp only [List.getElem?_take, List.getElem?_drop, if_pos (show j % 3 < 3 by omega), show j / 3 * 3 + j % 3 = j by omega] at e2
    exact e2
  · rw [List.getElem?_eq_none (by omega), List.getElem?_eq_none (by omega)]
theorem slC_set (w : Nat) : ∀ (l : List Slot) (i : Nat) (x : Slot), l[i]? = some x → (slC l).set (i * 3 + 2) (.int .u64 w) = slC (l.set i { x with word := w })
  | y :: l, 0, x, h => by
    simp only [List.getElem?_cons_zero, Option.some.injEq] at h
    subst h
    rfl
  | y :: l, i + 1, x, h => by
    have := slC_set w l i x h
    show (slotC y ++ slC l).set _ _ = slotC y ++ slC (l.set i _)
    rw [← this, List.set_append_right _ _ (by simp [slotC]; omega)]
    congr 2
    simp [slotC]
    omega
theorem isnil_27 (d : Nat) (a : Addr) (n c n' c' : Nat) : eqV E (d + 1) 27 (.slice (some a) n c) (.slice none n' c') = some false := by kernel_rfl
theorem fn26 : E.fn.get 26 = some Tryz.f26 := by kernel_rfl
theorem slots_own (H : Heap) (hlo : H.lo ≤ H.next) (v : Value) (l : List Slot) (hv : SLr RSlot 3 H v l) (h0 : l ≠ []) (hl : l.length ≤ 100000) : CallA E (fnv 26) [v] H fun r H' => ∃ rw, r = .slice (some ⟨rw, 0, none⟩) l.length l.length ∧ H.next ≤ rw ∧ rw < H'.next ∧ H'.objs.get rw = some (.row (slC l) (some (rw, 3)) true) ∧ H'.grps.get rw = some [] ∧ Same H H' := by
  obtain ⟨hs, hr⟩ := hv
  have sN : Same H (H.newRow []) := same_newRow _
  obtain ⟨a, c, cs, rfl, hrd, heR⟩ := (hs.mono RSlot.mono sN).reading (hr.same sN)
  have hcs := elems_slots heR
  subst hcs
  have hne : l.length ≠ 0 := by cases l <;> simp_all
  have hrow0 : (H.newRow []).objs.get H.next = some (.row [] none true) := by simp (disch := omega) only [setRow_get, newRow_get, newRow_next, setRow_next, newRow_lo, setRow_lo, newRow_grps, setRow_grps, newRow_relo, setRow_relo, relo_objs, relo_next, relo_lo, nbeq_ne, sl]
  refine callA_fn (by kernel_rfl) fn26 rfl rfl ?_
  simp only [Tryz.f26]
  cases a with
  | none =>
    obtain ⟨a', c', e, _, h⟩ := hs
    simp only [Value.slice.injEq] at e
    obtain ⟨r, o, _, _, _, _, h0, _⟩ := h 0 l[0] (by simp [List.getElem?_eq_getElem (show 0 < l.length by omega)])
    rw [h0] at e
    cases e.1
  | some a =>
    have hap := app_fresh (z := 3) (b := 24) (k := l.length) (new := slC l) hrow0 hne (by simp [growOk, beq_dec, ble_dec]; omega)
    repeat' (first | refine boolP_dec (fun _ => ?_) (fun _ => ?_) | apply boolP_not | refine boolP_b (fun _ => ?_) (fun _ => ?_) | simp (config := { maxSteps := 1000000 }) (disch := omega) only [↓sh, ↓sh2, ↓reduceIte, sx, sl, sb, st, nbeq_ne, dle, relo_eq, wrap_i64, Nat.reduceBEq, Nat.reduceLT, Nat.reduceLeDiff, Nat.reduceAdd, Nat.reduceMul, Nat.reduceEqDiff, Int.reduceEq, Int.reduceLT, Int.reduceLE, Int.reduceNeg, Int.reduceToNat, Bool.false_eq_true, eq_self, sa, isnil_27, ble_dec, repeat_zero, *])
    have g := grown_newApp (b := H.next) (H := H.newRow []) (by simp (disch := omega) only [setRow_get, newRow_get, newRow_next, setRow_next, newRow_lo, setRow_lo, newRow_grps, setRow_grps, newRow_relo, setRow_relo, relo_objs, relo_next, relo_lo, nbeq_ne, sl]; omega) 3 (slC l)
    refine ⟨H.next + 1, rfl, by omega, by rw [newApp_next]; simp (disch := omega) only [setRow_get, newRow_get, newRow_next, setRow_next, newRow_lo, setRow_lo, newRow_grps, setRow_grps, newRow_relo, setRow_relo, relo_objs, relo_next, relo_lo, nbeq_ne, sl]; omega, ?_, ?_, g.same sN (Nat.le_refl _)⟩
    · rw [newApp_get, nbeq_eq (by simp (disch := omega) only [setRow_get, newRow_get, newRow_next, setRow_next, newRow_lo, setRow_lo, newRow_grps, setRow_grps, newRow_relo, setRow_relo, relo_objs, relo_next, relo_lo, nbeq_ne, sl])]
      simp (disch := omega) only [setRow_get, newRow_get, newRow_next, setRow_next, newRow_lo, setRow_lo, newRow_grps, setRow_grps, newRow_relo, setRow_relo, relo_objs, relo_next, relo_lo, nbeq_ne, sl]
    · rw [newApp_grps, nbeq_eq (by simp (disch := omega) only [setRow_get, newRow_get, newRow_next, setRow_next, newRow_lo, setRow_lo, newRow_grps, setRow_grps, newRow_relo, setRow_relo, relo_objs, relo_next, relo_lo, nbeq_ne, sl])]; rfl
end Go.AM
namespace Go.AM
attribute [local instance] fnMaps
open Go Go.Proofs
set_option maxRecDepth 100000
set_option maxHeartbeats 1000000
set_option linter.unusedSimpArgs false
def st0V (c : Cfg) (sec : Bool) (w : Value) (top : Int) (zl : Value) : Value := .agg #[.int .i64 c.semi, .int .i64 c.large, .int .i64 c.slots, .int .i64 c.limit, .bool sec, w, .int .i64 top, .slice none 0 0, .slice none 0 0, zl]
theorem fn7 : E.fn.get 7 = some Tryz.f7 := by kernel_rfl
theorem begin0_ok (H : Heap) (hlo : H.lo ≤ H.next) (c : Cfg) (sec : Bool) (w : Value) (ws : List Nat) (hw : SLr RW 1 H w ws) (h0 : ws ≠ []) (hl : ws.length ≤ 98304) (hu : ∀ x ∈ ws, x < 2 ^ 64) (top : Int) (zl : Value) (hzl : isCell zl = true) (hzc : cellsV zl = [zl]) (hm : ¬ May c.big) (hr : rightB c.big [] [] = true)
    (h1 : Within (c.from' sec) ⟨0, ws.length⟩) (h2 : Within (c.from' (!sec)) ⟨0, ws.length⟩) (h3 : ¬ Meets (c.from' sec) (c.from' (!sec))) (h4 : (c.from' sec).at' ≤ top) (h5 : top ≤ (c.from' sec).at' + (c.from' sec).size) :
    CallA E (fnv 7) [st0V c sec w top zl] H fun r H' => (∃ p b a rw l ta tn fv, r = .tuple #[ptr p 0, ptr a 0, ptr l 0] ∧ Rn H' ⟨p, b, a, rw, rw, c.from' sec, c.from' (!sec), top, ptr l 0⟩ ⟨0, ⟨0, 0, 0, 0, 0⟩, ws⟩ ∧ Lz H' ⟨p, b, a, rw, rw, c.from' sec, c.from' (!sec), top, ptr l 0⟩ l (.slice ta 0 tn) fv ∧ H.next ≤ p ∧ H.next ≤ b ∧ H.next ≤ rw) ∧ Same H H' := by
  obtain ⟨⟨wa, wc, rfl, -⟩, -⟩ := id hw
  refine callA_fn (by kernel_rfl) fn7 rfl rfl ?_
  simp only [Tryz.f7]
  simp only [st0V]
  repeat' (first | refine boolP_dec (fun _ => ?_) (fun _ => ?_) | apply boolP_not | refine boolP_b (fun _ => ?_) (fun _ => ?_) | refine wps_draw (id := 2) [Fx, Fx, Fx, Tx, Fx, Fx, Fx, Fx, Fx, Fx, Fx, Fx, Fx, Fx] (by kernel_rfl) ?_ | refine wps_draw (id := 3) [Fx, Fx, Fx, Fx, Fx, Tx, Fx, Fx, Fx, Fx, Fx, Fx, Tx, Fx, Fx, Fx, Fx, Fx, Fx, Fx] (by kernel_rfl) ?_ | simp (config := { maxSteps := 1000000 }) (disch := omega) only [↓sh, ↓sh2, ↓reduceIte, sx, sl, sb, st, nbeq_ne, dle, relo_eq, wrap_i64, Nat.reduceBEq, Nat.reduceLT, Nat.reduceLeDiff, Nat.reduceAdd, Nat.reduceMul, Nat.reduceEqDiff, Int.reduceEq, Int.reduceLT, Int.reduceLE, Int.reduceNeg, Int.reduceToNat, Bool.false_eq_true, eq_self, sa, st2, *])
  refine CallA.mono (aof_ok _ loW _ ws (SLr.kp RW.mono hw koW) h0 hl hu) ?_
  rintro r X ⟨a, rw, rfl, ha, na, nw, s2⟩
  have p2 := s2.objs H.next (by simp (disch := omega) only [setRow_get, newRow_get, newRow_next, setRow_next, newRow_lo, setRow_lo, newRow_grps, setRow_grps, newRow_relo, setRow_relo, relo_objs, relo_next, relo_lo, nbeq_ne, sl]; omega)
  have kX : Ko H X := Ko.call koW s2
  have loX := s2.lo
  have nxX := s2.nxt
  simp (disch := omega) only [sm, sl] at p2 loX nxX na nw
  clear s2
  repeat' (first | refine boolP_dec (fun _ => ?_) (fun _ => ?_) | apply boolP_not | refine boolP_b (fun _ => ?_) (fun _ => ?_) | refine wps_draw (id := 2) [Fx, Fx, Fx, Tx, Fx, Fx, Fx, Fx, Fx, Fx, Fx, Fx, Fx, Fx] (by kernel_rfl) ?_ | refine wps_draw (id := 3) [Fx, Fx, Fx, Fx, Fx, Tx, Fx, Fx, Fx, Fx, Fx, Fx, Tx, Fx, Fx, Fx, Fx, Fx, Fx, Fx] (by kernel_rfl) ?_ | ((with_reducible show CallA _ _ _ _ _); refine call_ko (H0 := X) koW (llarge_ok _ loW c) ?_; intro H2 k2 l2 n2 g2 q2; try simp (disch := omega) only [sm, sl] at l2 n2 g2 q2) | simp (config := { maxSteps := 1000000 }) (disch := omega) only [↓sh, ↓sh2, ↓reduceIte, sx, sl, sb, st, nbeq_ne, dle, relo_eq, wrap_i64, Nat.reduceBEq, Nat.reduceLT, Nat.reduceLeDiff, Nat.reduceAdd, Nat.reduceMul, Nat.reduceEqDiff, Int.reduceEq, Int.reduceLT, Int.reduceLE, Int.reduceNeg, Int.reduceToNat, Bool.false_eq_true, eq_self, sa, st2, *])
  refine CallA.mono (lnew0_ok _ loW (ha.same koW) c.big hm hr) ?_
  rintro r Y ⟨⟨l, ta, tn, fv, rfl, hlz, hll, hln⟩, s3⟩
  have p3 := s3.keeps (by simp (disch := omega) only [setRow_get, newRow_get, newRow_next, setRow_next, newRow_lo, setRow_lo, newRow_grps, setRow_grps, newRow_relo, setRow_relo, relo_objs, relo_next, relo_lo, nbeq_ne, sl]; omega) (k2.keeps (by omega) p2)
  have kY : Ko X Y := Ko.call koW s3
  have loY := s3.lo
  have nxY := s3.nxt
  simp (disch := omega) only [sm, sl] at loY nxY hln
  clear s3
  repeat' (first | refine boolP_dec (fun _ => ?_) (fun _ => ?_) | apply boolP_not | refine boolP_b (fun _ => ?_) (fun _ => ?_) | refine wps_draw (id := 2) [Fx, Fx, Fx, Tx, Fx, Fx, Fx, Fx, Fx, Fx, Fx, Fx, Fx, Fx] (by kernel_rfl) ?_ | refine wps_draw (id := 3) [Fx, Fx, Fx, Fx, Fx, Tx, Fx, Fx, Fx, Fx, Fx, Fx, Tx, Fx, Fx, Fx, Fx, Fx, Fx, Fx] (by kernel_rfl) ?_ | ((with_reducible show CallA _ _ _ _ _); (first | refine call_ko (H0 := Y) koW (lfrom_ok _ loW c sec) ?_ | refine call_ko (H0 := Y) koW (lto_ok _ loW c sec) ?_); intro H2 k2 l2 n2 g2 q2; try simp (disch := omega) only [sm, sl] at l2 n2 g2 q2) | simp (config := { maxSteps := 1000000 }) (disch := omega) only [↓sh, ↓sh2, ↓reduceIte, sx, sl, sb, st, nbeq_ne, dle, relo_eq, wrap_i64, Nat.reduceBEq, Nat.reduceLT, Nat.reduceLeDiff, Nat.reduceAdd, Nat.reduceMul, Nat.reduceEqDiff, Int.reduceEq, Int.reduceLT, Int.reduceLE, Int.reduceNeg, Int.reduceToNat, Bool.false_eq_true, eq_self, sa, st2, *])
  have hzY : Lz Y ⟨0, 0, a, 0, 0, c.from' sec, c.from' sec, 0, ptr l 0⟩ l (.slice ta 0 tn) fv := ⟨rfl, hlz, hll⟩
  refine CallA.mono (cnew_ok _ loW (ha.same koW) (hzY.ko koW) (c.from' sec) (c.from' (!sec)) top h1 h2 h3 h4 h5) ?_
  rintro r Z ⟨⟨p, b, rfl, hR, np, nb⟩, s4⟩
  have kZ : Ko Y Z := Ko.call koW s4
  have loZ := s4.lo
  have nxZ := s4.nxt
  simp (disch := omega) only [sm, sl] at loZ nxZ np nb
  clear s4
  repeat' (first | refine boolP_dec (fun _ => ?_) (fun _ => ?_) | apply boolP_not | refine boolP_b (fun _ => ?_) (fun _ => ?_) | refine wps_draw (id := 2) [Fx, Fx, Fx, Tx, Fx, Fx, Fx, Fx, Fx, Fx, Fx, Fx, Fx, Fx] (by kernel_rfl) ?_ | refine wps_draw (id := 3) [Fx, Fx, Fx, Fx, Fx, Tx, Fx, Fx, Fx, Fx, Fx, Fx, Tx, Fx, Fx, Fx, Fx, Fx, Fx, Fx] (by kernel_rfl) ?_ | simp (config := { maxSteps := 1000000 }) (disch := omega) only [↓sh, ↓sh2, ↓reduceIte, sx, sl, sb, st, nbeq_ne, dle, relo_eq, wrap_i64, Nat.reduceBEq, Nat.reduceLT, Nat.reduceLeDiff, Nat.reduceAdd, Nat.reduceMul, Nat.reduceEqDiff, Int.reduceEq, Int.reduceLT, Int.reduceLE, Int.reduceNeg, Int.reduceToNat, Bool.false_eq_true, eq_self, sa, st2, *])
  exact ⟨⟨p, b, a, rw, l, ta, tn, fv, rfl, hR.ko koW, ⟨rfl, ((hzY.ko kZ).ko koW).row, ((hzY.ko kZ).ko koW).ll⟩, by omega, by omega, by omega⟩, sameW⟩
end Go.AM
namespace Go.AM
attribute [local instance] fnMaps
open Go Go.Proofs
set_option maxRecDepth 100000
set_option maxHeartbeats 1000000
set_option linter.unusedSimpArgs false
inductive SRun (c : Rc) : List Slot → Rs → List Slot → Rs → Prop
  | nil {s : Rs} : SRun c [] s [] s
  | skip {x : Slot} {l l' : List Slot} {s z : Rs} (hx : x.used = false) (next : SRun c l ⟨s.u, addS s.k, s.ws⟩ l' z) : SRun c (x :: l) s (x :: l') z
  | copy {x : Slot} {l l' : List Slot} {s y z : Rs} {p : Int} {N : Nat} (hx : x.used = true) (hn : refW x.word = some p) (h1 : c.fr.at' ≤ p) (hg : refW (wAt s.ws p) = none) (hd : isHd (wAt s.ws p) = true)
      (hz : 1 ≤ sizeH (decHd (wAt s.ws p))) (h2 : sizeH (decHd (wAt s.ws p)) ≤ c.top - p) (h3 : s.u + sizeH (decHd (wAt s.ws p)) ≤ c.to.size)
      (hT : TRun c N ⟨s.u + sizeH (decHd (wAt s.ws p)), { addS s.k with words := IntKind.i64.wrap (s.k.words + sizeH (decHd (wAt s.ws p))) }, copyW s.ws p (c.to.at' + s.u) (sizeH (decHd (wAt s.ws p)))⟩ (c.to.at' + s.u) 0 y)
      (next : SRun c l y l' z) : SRun c (x :: l) s ({ x with word := refWd (c.to.at' + s.u) } :: l') z
theorem Lz.off {ex : List Nat} {H X : Heap} {c : Rc} {l : Nat} {tv fv : Value} (h : Lz H c l tv fv) (m : Mod ex H X) (hl : l ∉ ex) : Lz X c l tv fv := ⟨h.lv, m.keeps h.ll hl h.row, Nat.lt_of_lt_of_le h.ll m.nxt⟩
theorem Lz.new {H : Heap} {c : Rc} {s : Rs} (h : Rn H c s) {l : Nat} {tv fv : Value} (hz : Lz H c l tv fv) : l ∉ c.ex := by
  have h1 := h.row; have h2 := h.bp.box; have h4 := h.ar.row; have h5 := hz.row
  simp only [Rc.ex, List.mem_cons, List.not_mem_nil, or_false, not_or]
  refine ⟨fun e => ?_, fun e => ?_, fun e => ?_⟩
  · rw [← e, h5] at h1; simp [rnC] at h1
  · rw [← e, h5] at h2; simp at h2
  · rw [← e, h5] at h4; simp at h4
theorem take_add {α : Type} {cur m : List α} {i : Nat} {x : α} (h : cur[i]? = some x) : cur.take (i + 1) ++ m = cur.take i ++ x :: m := by
  rw [List.take_add_one, h, Option.toList_some, List.append_assoc]
  rfl
theorem drop_next {α : Type} {a b : List α} {i : Nat} (h : a.drop i = b.drop i) : a.drop (i + 1) = b.drop (i + 1) := by
  have := congrArg (List.drop 1) h
  rwa [List.drop_drop, List.drop_drop] at this
theorem but_put {H : Heap} {r g : Nat} (hg : H.grps.get g = some []) (z : Nat) (c : List Value) : SameBut r H (H.putRow r g z c) :=
  ⟨rfl, Nat.le_refl _, fun x _ hx => by rw [putRow_get, nbeq_ne hx]; rfl, fun x _ => by
    rw [putRow_grps]
    by_cases e : x = g
    · rw [nbeq_eq e, e, hg]; rfl
    · rw [nbeq_ne e]; rfl⟩
theorem fn8 : E.fn.get 8 = some Tryz.f8 := by kernel_rfl
theorem trun_ok (H : Heap) (hlo : H.lo ≤ H.next) {c : Rc} {s z : Rs} (h : Rn H c s) (ho : c.Lo H) {l : Nat} {tv fv : Value} (hz : Lz H c l tv fv) (v : Value) (xs xs' : List Slot) (hv : SLr RSlot 3 H v xs) (hne : xs ≠ []) (hl : xs.length ≤ 100000) (hu : ∀ x ∈ xs, x.word < 2 ^ 64) (hS : SRun c xs s xs' z) :
    CallA E (fnv 8) [ptr c.p 0, v] H fun r H' => (∃ y, r = .tuple #[.slice (some ⟨y, 0, none⟩) xs.length xs.length, .int .i64 0] ∧ H.next ≤ y ∧ y < H'.next ∧ H'.objs.get y = some (.row (slC xs') (some (y, 3)) true)) ∧ Rn H' c z ∧ Mod c.ex H H' := by
  have hle := Lz.new h hz
  refine callA_fn (by kernel_rfl) fn8 rfl rfl ?_
  simp only [Tryz.f8]
  repeat' (first | refine boolP_dec (fun _ => ?_) (fun _ => ?_) | apply boolP_not | refine boolP_b (fun _ => ?_) (fun _ => ?_) | ((with_reducible show CallA _ _ _ _ _); refine call_ko (H0 := H) koW (carena_ok _ loW (h.ko koW)) ?_; intro H2 k2 l2 n2 g2 q2; try simp (disch := omega) only [sm, sl] at l2 n2 g2 q2) | ((with_reducible show Qs _ _ _ _ _); first | refine hQe _ _ _ _ ?_ | refine hQr _ _ _ ?_) | simp (config := { maxSteps := 1000000 }) (disch := omega) only [↓sh, ↓sh2, ↓reduceIte, sx, sl, sb, st, nbeq_ne, dle, relo_eq, wrap_i64, Nat.reduceBEq, Nat.reduceLT, Nat.reduceLeDiff, Nat.reduceAdd, Nat.reduceMul, Nat.reduceEqDiff, Int.reduceEq, Int.reduceLT, Int.reduceLE, Int.reduceNeg, Int.reduceToNat, Bool.false_eq_true, eq_self, sa, st2, *])
  refine CallA.mono (slots_own _ loW v xs (SLr.kp RSlot.mono hv koW) hne hl) ?_
  rintro r HV ⟨y, rfl, ny, ly, hy, gy, s2⟩
  have kV : Ko H HV := Ko.call koW s2
  have loV := s2.lo
  have nxV := s2.nxt
  try simp (disch := omega) only [sm, sl] at loV nxV ny
  clear s2
  have mV : Mod c.ex H HV := (kV.same (by omega)).mod _
  have hye : y ∉ c.ex := h.new (by omega)
  repeat' (first | refine boolP_dec (fun _ => ?_) (fun _ => ?_) | apply boolP_not | refine boolP_b (fun _ => ?_) (fun _ => ?_) | ((with_reducible show Qs _ _ _ _ _); first | refine hQe _ _ _ _ ?_ | refine hQr _ _ _ ?_) | simp (config := { maxSteps := 1000000 }) (disch := omega) only [↓sh, ↓sh2, ↓reduceIte, sx, sl, sb, st, nbeq_ne, dle, relo_eq, wrap_i64, Nat.reduceBEq, Nat.reduceLT, Nat.reduceLeDiff, Nat.reduceAdd, Nat.reduceMul, Nat.reduceEqDiff, Int.reduceEq, Int.reduceLT, Int.reduceLE, Int.reduceNeg, Int.reduceToNat, Bool.false_eq_true, eq_self, sa, st2, *])
  refine wps_named2 (fun T1 H1 eT eH => ?_)
  have k1 : Ko H H1 := by rw [eH]; exact koW
  have j1 : Ko HV H1 := by rw [eH]; exact koW
  have n1 := congrArg Heap.next eH; have l1 := congrArg Heap.lo eH; have g1 := fun r => congrArg (fun h : Heap => h.objs.get r) eH
  try simp (disch := omega) only [sm, sl] at n1 l1 g1
  clear eH
  have u1_0 := congrArg (fun T : Tr Value => T.get 0) eT
  have u1_6 := congrArg (fun T : Tr Value => T.get 6) eT
  have u1_19 := congrArg (fun T : Tr Value => T.get 19) eT
  have u1_20 := congrArg (fun T : Tr Value => T.get 20) eT
  have u1_21 := congrArg (fun T : Tr Value => T.get 21) eT
  simp only [get_set, of_nil, of_1, of_2, of_3, of_4, of_5, Nat.reduceEqDiff, if_true, if_false, reduceIte] at u1_0 u1_6 u1_19 u1_20 u1_21
  clear eT
  refine wp_loopN (by kernel_rfl) (fun nn T X => ∃ (i : Nat) (s1 : Rs) (cur rest : List Slot), nn = xs.length - i ∧ (T.get 21 = some (.int .i64 i)) ∧ (T.get 0 = T1.get 0 ∧ T.get 6 = T1.get 6 ∧ T.get 19 = T1.get 19 ∧ T.get 20 = T1.get 20) ∧ True ∧ True ∧ (i ≤ xs.length ∧ cur.length = xs.length ∧ cur.drop i = xs.drop i ∧ SRun c (xs.drop i) s1 rest z ∧ cur.take i ++ rest = xs' ∧ Rn X c s1 ∧ Lz X c l tv fv ∧ X.objs.get y = some (.row (slC cur) (some (y, 3)) true) ∧ X.grps.get y = some [] ∧ Mod c.ex H X ∧ y < X.next)) ?_ ?_
  · have hR1 : Rn H1 c s := (h.ko kV).ko j1
    have hz1 : Lz H1 c l tv fv := (hz.ko kV).ko j1
    have m1 : Mod c.ex H H1 := mV.trans (Same.mod (j1.same (by omega)) _)
    refine ⟨_, 0, s, xs, xs', rfl, ?_, ?_, trivial, trivial, by omega, rfl, rfl, hS, rfl, hR1, hz1, by first | assumption | (rw [g1]; exact hy), by first | assumption | (rw [j1.grps y ly]; exact gy), m1, by omega⟩ <;> exact nextW
  rintro nn T1' X1 ⟨i, s1, cur, rest, rfl, m1, w1, _, _, hi, hcl, hcd, hS1, hcr, hR, hL, hrow, hgrp, hM, hyX⟩ Qs hQ hQr hQe
  have lo1 := hM.lo
  by_cases hd : xs.length ≤ i
  · have hi2 : i = xs.length := by omega
    subst hi2
    rw [List.drop_length] at hS1
    cases hS1
    rw [List.append_nil, ← hcl, List.take_length] at hcr
    subst hcr
    have hdd : decide ((xs.length : Int) < xs.length) = false := decide_eq_false (by omega)
    repeat' (first | refine boolP_dec (fun _ => ?_) (fun _ => ?_) | apply boolP_not | refine boolP_b (fun _ => ?_) (fun _ => ?_) | ((with_reducible show CallA _ _ _ _ _); refine call_ko (H0 := X1) koW (clarge0_ok _ loW (hR.ko koW) (hL.ko koW)) ?_; intro H2 k2 l2 n2 g2 q2; try simp (disch := omega) only [sm, sl] at l2 n2 g2 q2) | ((with_reducible show Qs _ _ _ _ _); first | refine hQe _ _ _ _ ?_ | refine hQr _ _ _ ?_) | simp (config := { maxSteps := 1000000 }) (disch := omega) only [↓sh, ↓sh2, ↓reduceIte, sx, sl, sb, st, nbeq_ne, dle, relo_eq, wrap_i64, Nat.reduceBEq, Nat.reduceLT, Nat.reduceLeDiff, Nat.reduceAdd, Nat.reduceMul, Nat.reduceEqDiff, Int.reduceEq, Int.reduceLT, Int.reduceLE, Int.reduceNeg, Int.reduceToNat, Bool.false_eq_true, eq_self, sa, st2, *])
    refine wps_named2 (fun T3 H3 eT eH => ?_)
    have j3 : Ko X1 H3 := by rw [eH]; exact koW
    have n3 := congrArg Heap.next eH; have l3 := congrArg Heap.lo eH; have g3 := fun r => congrArg (fun h : Heap => h.objs.get r) eH
    try simp (disch := omega) only [sm, sl] at n3 l3 g3
    clear eH
    have u3_0 := congrArg (fun T : Tr Value => T.get 0) eT
    have u3_6 := congrArg (fun T : Tr Value => T.get 6) eT
    have u3_11 := congrArg (fun T : Tr Value => T.get 11) eT
    have u3_12 := congrArg (fun T : Tr Value => T.get 12) eT
    simp only [get_set, of_nil, of_1, of_2, of_3, of_4, of_5, Nat.reduceEqDiff, if_true, if_false, reduceIte] at u3_0 u3_6 u3_11 u3_12
    clear eT
    refine wp_loopN (by kernel_rfl) (fun nn T X => nn = 0 ∧ (T.get 11 = some (.int .i64 0) ∧ T.get 12 = some (.bool false)) ∧ (T.get 0 = T3.get 0 ∧ T.get 6 = T3.get 6) ∧ True ∧ True ∧ (Ko H3 X ∧ X.lo = H3.lo)) ?_ ?_
    · refine ⟨_, rfl, ?_, ?_, trivial, trivial, Ko.refl _, rfl⟩ <;> exact nextW
    rintro nn T3' X3 ⟨rfl, m3, w3, _, _, kk3, ll3⟩ Qs hQ hQr hQe
    repeat' (first | refine boolP_dec (fun _ => ?_) (fun _ => ?_) | apply boolP_not | refine boolP_b (fun _ => ?_) (fun _ => ?_) | ((with_reducible show Qs _ _ _ _ _); first | refine hQe _ _ _ _ ?_ | refine hQr _ _ _ ?_) | simp (config := { maxSteps := 1000000 }) (disch := omega) only [↓sh, ↓sh2, ↓reduceIte, sx, sl, sb, st, nbeq_ne, dle, relo_eq, wrap_i64, Nat.reduceBEq, Nat.reduceLT, Nat.reduceLeDiff, Nat.reduceAdd, Nat.reduceMul, Nat.reduceEqDiff, Int.reduceEq, Int.reduceLT, Int.reduceLE, Int.reduceNeg, Int.reduceToNat, Bool.false_eq_true, eq_self, sa, st2, *])
    have k13 := j3.trans kk3
    exact ⟨⟨y, rfl, by omega, Nat.lt_of_lt_of_le hyX k13.nxt, k13.keeps hyX hrow⟩, hR.ko k13, hM.trans (Same.mod (k13.same (by omega)) _)⟩
  · have hi' : i < xs.length := by omega
    have hx : xs[i]? = some xs[i] := List.getElem?_eq_getElem hi'
    have hcx : cur[i]? = some xs[i] := by
      have e := congrArg (fun t : List Slot => t[0]?) hcd
      simp only [List.getElem?_drop, Nat.add_zero] at e
      rw [e, hx]
    have hcut := slC_cut cur i _ hcx
    rw [List.drop_eq_getElem_cons hi'] at hS1
    have hw := hu _ (List.getElem_mem hi')
    generalize xs[i] = x at hx hcx hcut hS1 hw
    unfold slotC at hcut
    cases hS1 with
    | @skip _ _ l2 _ _ hx0 next =>
      repeat' (first | refine boolP_dec (fun _ => ?_) (fun _ => ?_) | apply boolP_not | refine boolP_b (fun _ => ?_) (fun _ => ?_) | ((with_reducible show Qs _ _ _ _ _); first | refine hQe _ _ _ _ ?_ | refine hQr _ _ _ ?_) | simp (config := { maxSteps := 1000000 }) (disch := omega) only [↓sh, ↓sh2, ↓reduceIte, sx, sl, sb, st, nbeq_ne, dle, relo_eq, wrap_i64, Nat.reduceBEq, Nat.reduceLT, Nat.reduceLeDiff, Nat.reduceAdd, Nat.reduceMul, Nat.reduceEqDiff, Int.reduceEq, Int.reduceLT, Int.reduceLE, Int.reduceNeg, Int.reduceToNat, Bool.false_eq_true, eq_self, sa, st2, *])
      all_goals try omega
      refine CallA.mono (cstep_ok _ loW (hR.ko koW) (ho.eq (by simp (disch := omega) only [setRow_get, newRow_get, newRow_next, setRow_next, newRow_lo, setRow_lo, newRow_grps, setRow_grps, newRow_relo, setRow_relo, relo_objs, relo_next, relo_lo, nbeq_ne, sl]; omega))) ?_
      rintro r Y ⟨rfl, hY, mY⟩
      have hbY := mY.objs X1.next (by simp (disch := omega) only [setRow_get, newRow_get, newRow_next, setRow_next, newRow_lo, setRow_lo, newRow_grps, setRow_grps, newRow_relo, setRow_relo, relo_objs, relo_next, relo_lo, nbeq_ne, sl]; omega) (hR.new (Nat.le_refl _))
      have hrY := mY.objs y (by simp (disch := omega) only [setRow_get, newRow_get, newRow_next, setRow_next, newRow_lo, setRow_lo, newRow_grps, setRow_grps, newRow_relo, setRow_relo, relo_objs, relo_next, relo_lo, nbeq_ne, sl]; omega) hye
      have hgY := mY.grps y (by simp (disch := omega) only [setRow_get, newRow_get, newRow_next, setRow_next, newRow_lo, setRow_lo, newRow_grps, setRow_grps, newRow_relo, setRow_relo, relo_objs, relo_next, relo_lo, nbeq_ne, sl]; omega)
      have mHY := (hM.trans (Same.mod sameW _)).trans mY
      have hLY := (hL.ko koW).off mY hle
      have loY := mY.lo
      have nxY := mY.nxt
      simp (disch := omega) only [sm, sl] at hbY hrY hgY loY nxY
      rw [hrow] at hrY
      rw [hgrp] at hgY
      repeat' (first | refine boolP_dec (fun _ => ?_) (fun _ => ?_) | apply boolP_not | refine boolP_b (fun _ => ?_) (fun _ => ?_) | ((with_reducible show Qs _ _ _ _ _); first | refine hQe _ _ _ _ ?_ | refine hQr _ _ _ ?_) | simp (config := { maxSteps := 1000000 }) (disch := omega) only [↓sh, ↓sh2, ↓reduceIte, sx, sl, sb, st, nbeq_ne, dle, relo_eq, wrap_i64, Nat.reduceBEq, Nat.reduceLT, Nat.reduceLeDiff, Nat.reduceAdd, Nat.reduceMul, Nat.reduceEqDiff, Int.reduceEq, Int.reduceLT, Int.reduceLE, Int.reduceNeg, Int.reduceToNat, Bool.false_eq_true, eq_self, sa, st2, *])
      have e1 : cur.take (i + 1) ++ l2 = xs' := by rw [take_add hcx]; exact hcr
      have e2 := drop_next hcd
      refine hQ _ _ _ ?_ ⟨i + 1, _, cur, l2, rfl, ?_, ?_, trivial, trivial, by omega, hcl, e2, next, e1, hY, hLY, hrY, hgY, mHY, by omega⟩ <;> exact nextW
    | @copy _ _ l2 _ s2 _ p N hx0 hn h1' hg hd' hz' h2' h3' hT next =>
      repeat' (first | refine boolP_dec (fun _ => ?_) (fun _ => ?_) | apply boolP_not | refine boolP_b (fun _ => ?_) (fun _ => ?_) | ((with_reducible show Qs _ _ _ _ _); first | refine hQe _ _ _ _ ?_ | refine hQr _ _ _ ?_) | simp (config := { maxSteps := 1000000 }) (disch := omega) only [↓sh, ↓sh2, ↓reduceIte, sx, sl, sb, st, nbeq_ne, dle, relo_eq, wrap_i64, Nat.reduceBEq, Nat.reduceLT, Nat.reduceLeDiff, Nat.reduceAdd, Nat.reduceMul, Nat.reduceEqDiff, Int.reduceEq, Int.reduceLT, Int.reduceLE, Int.reduceNeg, Int.reduceToNat, Bool.false_eq_true, eq_self, sa, st2, *])
      all_goals try omega
      refine CallA.mono (cstep_ok _ loW (hR.ko koW) (ho.eq (by simp (disch := omega) only [setRow_get, newRow_get, newRow_next, setRow_next, newRow_lo, setRow_lo, newRow_grps, setRow_grps, newRow_relo, setRow_relo, relo_objs, relo_next, relo_lo, nbeq_ne, sl]; omega))) ?_
      rintro r Y ⟨rfl, hY, mY⟩
      have hbY := mY.objs X1.next (by simp (disch := omega) only [setRow_get, newRow_get, newRow_next, setRow_next, newRow_lo, setRow_lo, newRow_grps, setRow_grps, newRow_relo, setRow_relo, relo_objs, relo_next, relo_lo, nbeq_ne, sl]; omega) (hR.new (Nat.le_refl _))
      have hrY := mY.objs y (by simp (disch := omega) only [setRow_get, newRow_get, newRow_next, setRow_next, newRow_lo, setRow_lo, newRow_grps, setRow_grps, newRow_relo, setRow_relo, relo_objs, relo_next, relo_lo, nbeq_ne, sl]; omega) hye
      have hgY := mY.grps y (by simp (disch := omega) only [setRow_get, newRow_get, newRow_next, setRow_next, newRow_lo, setRow_lo, newRow_grps, setRow_grps, newRow_relo, setRow_relo, relo_objs, relo_next, relo_lo, nbeq_ne, sl]; omega)
      have mHY := (hM.trans (Same.mod sameW _)).trans mY
      have hLY := (hL.ko koW).off mY hle
      have loY := mY.lo
      have nxY := mY.nxt
      simp (disch := omega) only [sm, sl] at hbY hrY hgY loY nxY
      rw [hrow] at hrY
      rw [hgrp] at hgY
      repeat' (first | refine boolP_dec (fun _ => ?_) (fun _ => ?_) | apply boolP_not | refine boolP_b (fun _ => ?_) (fun _ => ?_) | ((with_reducible show Qs _ _ _ _ _); first | refine hQe _ _ _ _ ?_ | refine hQr _ _ _ ?_) | simp (config := { maxSteps := 1000000 }) (disch := omega) only [↓sh, ↓sh2, ↓reduceIte, sx, sl, sb, st, nbeq_ne, dle, relo_eq, wrap_i64, Nat.reduceBEq, Nat.reduceLT, Nat.reduceLeDiff, Nat.reduceAdd, Nat.reduceMul, Nat.reduceEqDiff, Int.reduceEq, Int.reduceLT, Int.reduceLE, Int.reduceNeg, Int.reduceToNat, Bool.false_eq_true, eq_self, sa, st2, *])
      refine CallA.mono (word_copy _ loW (hY.ko koW) (ho.eq (by omega)) x.word hw hn h1' hg hd' hz' h2' h3' hT) ?_
      rintro r Z ⟨rfl, hZ, mZ⟩
      have hrZ := mZ.keeps loW hye hrY
      have hgZ := (mZ.grps y loW).trans hgY
      have mHZ := mHY.trans mZ
      have hLZ := hLY.off mZ hle
      have loZ := mZ.lo
      have nxZ := mZ.nxt
      have hlC := slC_len cur
      have hov : over [Value.int .u64 (refWd (c.to.at' + s1.u))] (i * 3 + 2) (slC cur) = slC (cur.set i { x with word := refWd (c.to.at' + s1.u) }) := by rw [over_one _ _ _ (by omega), slC_set _ _ _ _ hcx]
      have e1 : (cur.set i { x with word := refWd (c.to.at' + s1.u) }).take (i + 1) ++ l2 = xs' := by
        rw [take_add (x := { x with word := refWd (c.to.at' + s1.u) }) (by rw [List.getElem?_set_self (by omega)]), List.take_set_of_le (Nat.le_refl _)]
        exact hcr
      have e2 : (cur.set i { x with word := refWd (c.to.at' + s1.u) }).drop (i + 1) = xs.drop (i + 1) := by rw [List.drop_set_of_lt (Nat.lt_succ_self _)]; exact drop_next hcd
      have e3 : (cur.set i { x with word := refWd (c.to.at' + s1.u) }).length = xs.length := by rw [List.length_set]; exact hcl
      generalize cur.set i { x with word := refWd (c.to.at' + s1.u) } = cu at hov e1 e2 e3
      have bp := but_put (r := y) hgZ 3 (slC cu)
      have haL := h.ar.la
      have hP := hZ.off bp.mod1 hye (by omega)
      have hLP := hLZ.off (bp.mod (ex := [y]) (List.mem_singleton.2 rfl)) (not1 (by have := hz.ll; omega))
      have mP := mHZ.drop (bp.mod (List.mem_cons_self ..)) (show H.next ≤ y by omega)
      repeat' (first | refine boolP_dec (fun _ => ?_) (fun _ => ?_) | apply boolP_not | refine boolP_b (fun _ => ?_) (fun _ => ?_) | ((with_reducible show Qs _ _ _ _ _); first | refine hQe _ _ _ _ ?_ | refine hQr _ _ _ ?_) | simp (config := { maxSteps := 1000000 }) (disch := omega) only [↓sh, ↓sh2, ↓reduceIte, sx, sl, sb, st, nbeq_ne, dle, relo_eq, wrap_i64, Nat.reduceBEq, Nat.reduceLT, Nat.reduceLeDiff, Nat.reduceAdd, Nat.reduceMul, Nat.reduceEqDiff, Int.reduceEq, Int.reduceLT, Int.reduceLE, Int.reduceNeg, Int.reduceToNat, Bool.false_eq_true, eq_self, sa, st2, *])
      refine hQ _ _ _ ?_ ⟨i + 1, _, _, l2, rfl, ?_, ?_, trivial, trivial, by omega, e3, e2, next, e1, hP, hLP, by rw [putRow_get, nbeq_eq rfl]; rfl, by rw [putRow_grps, nbeq_eq rfl]; rfl, mP, by rw [putRow_next]; omega⟩ <;> exact nextW
end Go.AM
namespace Go.AM
attribute [local instance] fnMaps
open Go Go.Proofs
set_option maxRecDepth 100000
set_option maxHeartbeats 1000000
set_option linter.unusedSimpArgs false
def cfg0 (m : Nat) : Cfg := ⟨m, 0, 1, m⟩
theorem cfg0_ok {m : Nat} (h : 2 ≤ m ∧ m ≤ 300) : (cfg0 m).Ok := by unfold Cfg.Ok cfg0; simp only; omega
theorem cfg0_words {m : Nat} (h : 2 ≤ m ∧ m ≤ 300) : (cfg0 m).words = ((2 * m : Nat) : Int) := by rw [Cfg.words, if_pos (cfg0_ok h)]; unfold cfg0; simp only; omega
theorem cfg0_from {m : Nat} (h : 2 ≤ m ∧ m ≤ 300) : (cfg0 m).from' false = ⟨0, m⟩ := by rw [Cfg.from', if_pos (cfg0_ok h)]; rfl
theorem cfg0_to {m : Nat} (h : 2 ≤ m ∧ m ≤ 300) : (cfg0 m).from' true = ⟨m, m⟩ := by rw [Cfg.from', if_pos (cfg0_ok h)]; rfl
theorem cfg0_big {m : Nat} (h : 2 ≤ m ∧ m ≤ 300) : ¬ May (cfg0 m).big := by
  rw [Cfg.big, if_pos (cfg0_ok h)]
  unfold May Cfg.large' cfg0
  simp
theorem cfg0_right {m : Nat} (h : 2 ≤ m ∧ m ≤ 300) : rightB (cfg0 m).big [] [] = true := by
  unfold rightB gapsR
  rw [if_neg (cfg0_big h)]
  rfl
theorem elems_wd (H : Heap) (l : List Nat) : Elems RW 1 H (l.map wV) l := by
  refine ⟨by simp, fun i x hx => ⟨[wV x], ?_, rfl⟩⟩
  exact words_cut hx
theorem elems_sl (H : Heap) (l : List Slot) : Elems RSlot 3 H (slC l) l := ⟨slC_len l, fun i x hx => ⟨_, slC_cut l i x hx, rfl⟩⟩
theorem list_srun {n F K : Nat} (hn : n ≤ 60) (h0 : 0 < n) (hF : F < 5) (hK : K < F) {ws : List Nat} (hB : Built n F K ws) (c : Rc) (hc : ListC n F c) (k : Wk) : ∃ z, SRun c [⟨true, 0, refWd (aP n F 0)⟩] ⟨0, k, ws⟩ [⟨true, 0, refWd (bP n F 0)⟩] z ∧ Done n F K z.ws ∧ z.u = ((n * (F + 1) : Nat) : Int) := by
  have ha := aP_in (F := F) h0
  have hsz := size_le hn hF
  have hob := (hB.all 0 h0).1
  have hto : c.to.at' + 0 = bP n F 0 := by rw [hc.to]; unfold bP; simp
  have hs : sizeH (decHd (wAt ws (aP n F 0))) = (F : Int) + 1 := by rw [hob, hdL_dec F hF 0 (by omega), hdL_size F hF 0 (by omega)]
  obtain ⟨N, z, hT, hD, hu⟩ := list_run hn h0 hF hK c hc hB { addS k with words := IntKind.i64.wrap (k.words + ((F : Int) + 1)) }
  refine ⟨z, ?_, hD, hu⟩
  rw [← hto]
  refine SRun.copy (s := ⟨0, k, ws⟩) (y := z) rfl (refW_wd (by omega)) (by rw [hc.fr]; exact ha.1) (by rw [hob]; exact hdL_ref F hF 0 (by omega)) (by rw [hob]; exact hdL_is F hF 0 (by omega)) (by rw [hs]; omega) (by rw [hs, hc.top]; omega) (by rw [hs, hc.to]; simp only; omega) (N := N) ?_ SRun.nil
  simp only
  rw [hs, hto, Int.zero_add]
  exact hT
theorem awk (H : Heap) : CallA E (fnv 4) [] H fun v H' => v = .bool true ∧ Same H H' := ⟨0, .bool true, H, by kernel_rfl, rfl, Same.refl _⟩
def stL (m w x : Nat) (top : Int) : List Value := [.int .i64 m, .int .i64 0, .int .i64 1, .int .i64 m, .bool false, .slice (some ⟨w, 0, none⟩) (2 * m) (2 * m), .int .i64 top, .slice none 0 0, .slice none 0 0, .slice (some ⟨x, 0, none⟩) 1 1]
theorem over_w (cur : List Nat) (k v : Nat) (h : k < cur.length) : over [Value.int .u64 (v : Int)] k (cur.map wV) = (cur.set k v).map wV := by
  rw [over_one _ _ _ (by rw [List.length_map]; exact h), List.map_set]
  rfl
theorem encL_ok (H : Heap) (hlo : H.lo ≤ H.next) {F : Nat} (hF : F < 5) : CallA E (fnv 6) [.agg #[.int .i64 7, .int .i64 F, .int .i64 0, .bool false, .int .i64 0]] H fun r H' => r = .tuple #[.int .u64 (hwL F 0), .int .i64 0] ∧ Same H H' := by
  have h := enc_ok H hlo (hdL F 0)
  rw [if_pos (hdL_ok F hF 0 (by omega)), if_pos (hdL_ok F hF 0 (by omega))] at h
  exact h
theorem fn3 : E.fn.get 3 = some Tryz.f3 := by kernel_rfl
theorem lists_law (H : Heap) (hlo : H.lo ≤ H.next) (a0 a1 a2 : Int) : CallA E (fnv 3) [.int .i64 a0, .int .i64 a1, .int .i64 a2] H fun r _ => r = .bool true := by
  refine callA_fn (by kernel_rfl) fn3 rfl rfl ?_
  simp only [Tryz.f3]
  by_cases hg : 1 ≤ a0 ∧ a0 ≤ 60 ∧ 1 ≤ a1 ∧ a1 ≤ 4 ∧ 0 ≤ a2 ∧ a2 < a1
  · obtain ⟨n, rfl⟩ := Int.eq_ofNat_of_zero_le (show 0 ≤ a0 by omega)
    obtain ⟨F, rfl⟩ := Int.eq_ofNat_of_zero_le (show 0 ≤ a1 by omega)
    obtain ⟨K, rfl⟩ := Int.eq_ofNat_of_zero_le (show 0 ≤ a2 by omega)
    have hn : n ≤ 60 := by omega
    have h0 : 0 < n := by omega
    have hF : F < 5 := by omega
    have hK : K < F := by omega
    have hmul : (n : Int) * ((F : Int) + 1) = ((n * (F + 1) : Nat) : Int) := by push_cast; rfl
    have hsz := size_le hn hF
    have hsz2 : 2 ≤ n * (F + 1) := Nat.le_trans (show 2 ≤ 1 * (F + 1) by omega) (Nat.mul_le_mul_right _ h0)
    have hm : 2 ≤ n * (F + 1) ∧ n * (F + 1) ≤ 300 := ⟨hsz2, hsz⟩
    generalize hmm : n * (F + 1) = m at hmul hsz hsz2 hm
    repeat' (first | refine boolP_dec (fun _ => ?_) (fun _ => ?_) | apply boolP_not | refine boolP_b (fun _ => ?_) (fun _ => ?_) | ((with_reducible show CallA _ _ _ _ _); refine call_ko (H0 := H) koW (awk _) ?_; intro H2 k2 l2 n2 g2 q2; try simp (disch := omega) only [sm, sl] at l2 n2 g2 q2) | ((with_reducible show Qs _ _ _ _ _); first | refine hQe _ _ _ _ ?_ | refine hQr _ _ _ ?_) | simp (config := { maxSteps := 1000000 }) (disch := omega) only [↓sh, ↓sh2, ↓reduceIte, sx, sl, sb, st, nbeq_ne, dle, relo_eq, wrap_i64, Nat.reduceBEq, Nat.reduceLT, Nat.reduceLeDiff, Nat.reduceAdd, Nat.reduceMul, Nat.reduceEqDiff, Int.reduceEq, Int.reduceLT, Int.reduceLE, Int.reduceNeg, Int.reduceToNat, Bool.false_eq_true, eq_self, sa, st2, *])
    all_goals try omega
    refine CallA.mono (snew_ok _ loW (cfg0 m) (2 * m) (cfg0_ok hm) (cfg0_words hm) (by omega) (cfg0_big hm) rfl) ?_
    rintro r HV ⟨⟨w, x, rfl, hw, hx, hwx, lw, lx, nw, nx⟩, s2⟩
    have kV : Ko H HV := Ko.call koW s2
    have loV := s2.lo
    have nxV := s2.nxt
    clear s2
    simp only [cfg0]
    repeat' (first | refine boolP_dec (fun _ => ?_) (fun _ => ?_) | apply boolP_not | refine boolP_b (fun _ => ?_) (fun _ => ?_) | ((with_reducible show CallA _ _ _ _ _); (first | refine call_ko (H0 := HV) koW (awk _) ?_ | refine call_ko (H0 := HV) koW (encL_ok _ loW hF) ?_); intro H2 k2 l2 n2 g2 q2; try simp (disch := omega) only [sm, sl] at l2 n2 g2 q2) | ((with_reducible show Qs _ _ _ _ _); first | refine hQe _ _ _ _ ?_ | refine hQr _ _ _ ?_) | simp (config := { maxSteps := 1000000 }) (disch := omega) only [↓sh, ↓sh2, ↓reduceIte, sx, sl, sb, st, nbeq_ne, dle, relo_eq, wrap_i64, Nat.reduceBEq, Nat.reduceLT, Nat.reduceLeDiff, Nat.reduceAdd, Nat.reduceMul, Nat.reduceEqDiff, Int.reduceEq, Int.reduceLT, Int.reduceLE, Int.reduceNeg, Int.reduceToNat, Bool.false_eq_true, eq_self, sa, st2, *])
    all_goals try omega
    refine wps_named2 (fun T1 H1 eT eH => ?_)
    have k1 : Ko H H1 := by rw [eH]; exact koW
    have j1 : Ko HV H1 := by rw [eH]; exact koW
    have n1 := congrArg Heap.next eH; have l1 := congrArg Heap.lo eH; have g1 := fun r => congrArg (fun h : Heap => h.objs.get r) eH
    try simp (disch := omega) only [sm, sl] at n1 l1 g1
    clear eH
    have u1_0 := congrArg (fun T : Tr Value => T.get 0) eT
    have u1_1 := congrArg (fun T : Tr Value => T.get 1) eT
    have u1_2 := congrArg (fun T : Tr Value => T.get 2) eT
    have u1_7 := congrArg (fun T : Tr Value => T.get 7) eT
    have u1_8 := congrArg (fun T : Tr Value => T.get 8) eT
    have u1_10 := congrArg (fun T : Tr Value => T.get 10) eT
    have u1_12 := congrArg (fun T : Tr Value => T.get 12) eT
    simp only [get_set, of_nil, of_1, of_2, of_3, of_4, of_5, Nat.reduceEqDiff, if_true, if_false, reduceIte] at u1_0 u1_1 u1_2 u1_7 u1_8 u1_10 u1_12
    clear eT
    refine wp_loopN (by kernel_rfl) (fun nn T X => ∃ (i : Nat) (cur : List Nat), nn = n - i ∧ (T.get 12 = some (.int .i64 i)) ∧ (T.get 0 = T1.get 0 ∧ T.get 1 = T1.get 1 ∧ T.get 2 = T1.get 2 ∧ T.get 7 = T1.get 7 ∧ T.get 8 = T1.get 8 ∧ T.get 10 = T1.get 10) ∧ True ∧ True ∧ (i ≤ n ∧ BuiltTo n F K i cur ∧ Mod [w] H1 X ∧ X.objs.get w = some (.row (cur.map wV) none true) ∧ X.objs.get HV.next = some (.row (stL m w x 0) none true))) ?_ ?_
    · have hb1 : H1.objs.get HV.next = some (.row (stL m w x 0) none true) := by
        rw [g1, g2 _ (by omega)]
        simp (disch := omega) only [setRow_get, newRow_get, newRow_next, setRow_next, newRow_lo, setRow_lo, newRow_grps, setRow_grps, newRow_relo, setRow_relo, relo_objs, relo_next, relo_lo, nbeq_ne, sl, nbeq_eq]
        rfl
      refine ⟨_, 0, _, rfl, ?_, ?_, trivial, trivial, by omega, BuiltTo.new n F K, Same.mod (Same.refl _) _, by first | assumption | (rw [j1.objs w lw, hw, hmm]), hb1⟩ <;> exact nextW
    rintro nn T1' X1 ⟨i, cur, rfl, m1, w1, _, _, hi, hB, hM, hrow, hbox⟩ Qs hQ hQr hQe
    have hlc := hB.len
    rw [hmm] at hlc
    have hlm : (cur.map wV).length = 2 * m := by rw [List.length_map]; exact hlc
    unfold stL at hbox
    have lo1 := hM.lo
    have hwl : H.lo ≤ w := by omega
    have hwv : w ≠ HV.next := by omega
    by_cases hd : n ≤ i
    · have hin : i = n := by omega
      subst hin
      have hBt := hB.built
      have hxX := hM.keeps (by omega) (not1 hwx.symm) (j1.keeps lx hx)
      have ha := aP_in (F := F) h0
      have hA : aP i F 0 = (m : Int) - F - 1 := by rw [aP_eq, hmm]; omega
      rw [hmm] at ha
      have hw1 : 4 * ((m : Int) - F - 1) % 18446744073709551616 + 2 = (refWd (aP i F 0) : Int) := by rw [hA]; exact word_eq (by omega)
      clear hA
      have hdd : decide ((i : Int) < i) = false := decide_eq_false (by omega)
      repeat' (first | refine boolP_dec (fun _ => ?_) (fun _ => ?_) | apply boolP_not | refine boolP_b (fun _ => ?_) (fun _ => ?_) | ((with_reducible show Qs _ _ _ _ _); first | refine hQe _ _ _ _ ?_ | refine hQr _ _ _ ?_) | simp (config := { maxSteps := 1000000 }) (disch := omega) only [↓sh, ↓sh2, ↓reduceIte, sx, sl, sb, st, nbeq_ne, dle, relo_eq, wrap_i64, Nat.reduceBEq, Nat.reduceLT, Nat.reduceLeDiff, Nat.reduceAdd, Nat.reduceMul, Nat.reduceEqDiff, Int.reduceEq, Int.reduceLT, Int.reduceLE, Int.reduceNeg, Int.reduceToNat, Bool.false_eq_true, eq_self, sa, st2, shl_u2, or_2, *])
      all_goals try omega
      refine callA_named (fun P eP => ?_)
      have pw : P.objs.get w = some (.row (cur.map wV) none true) := by rw [eP, setRow_get, nbeq_ne hwx, setRow_get, nbeq_ne hwv]; exact hrow
      have px : P.objs.get x = some (.row (slC [⟨true, 0, refWd (aP i F 0)⟩]) none true) := by rw [eP, setRow_get, nbeq_eq rfl]; rfl
      have pb : P.objs.get HV.next = some (.row (stL m w x m) none true) := by rw [eP, setRow_get, nbeq_ne (show HV.next ≠ x by omega), setRow_get, nbeq_eq rfl]; rfl
      have nX := hM.nxt
      have nP := congrArg Heap.next eP; have lP := congrArg Heap.lo eP
      simp (disch := omega) only [sm, sl] at nP lP
      clear eP
      have hto := cfg0_to hm
      have hSw : SLr RW 1 P (.slice (some ⟨w, 0, none⟩) (2 * m) (2 * m)) cur := by
        have := SLr.row (H := P) RW.mono (show w < P.next by omega) pw (elems_wd P cur) ⟨Nat.le_refl _, fun x cells g t _ ho => ⟨t, ho⟩⟩ (by omega)
        rwa [hlc] at this
      refine CallA.mono (begin0_ok _ loW (cfg0 m) false _ cur hSw (fun e => by rw [e] at hlc; simp at hlc; omega) (by omega) hB.u64 m _ rfl rfl (cfg0_big hm) (cfg0_right hm) (by rw [cfg0_from hm]; unfold Within May Span.stop; simp only; omega) (by rw [Bool.not_false, hto]; unfold Within May Span.stop; simp only; omega) (by rw [Bool.not_false, hto, cfg0_from hm]; unfold Meets May Span.stop; simp only; omega) (by rw [cfg0_from hm]; simp only; omega) (by rw [cfg0_from hm]; simp only; omega)) ?_
      rintro r Y ⟨⟨p, b, a, rw, l, ta, tn, fv, rfl, hR, hL, np, nb, nrw⟩, sY⟩
      have yx := sY.keeps (by omega) px
      have yb := sY.keeps (by omega) pb
      unfold stL at yb
      have loY := sY.lo
      have nxY := sY.nxt
      rw [Bool.not_false, hto, cfg0_from hm] at hR hL
      obtain ⟨z, hS, hD, hu⟩ := list_srun hn h0 hF hK hBt ⟨p, b, a, rw, rw, ⟨0, m⟩, ⟨m, m⟩, m, ptr l 0⟩ ⟨by rw [hmm], by rw [hmm], by rw [hmm]⟩ ⟨0, 0, 0, 0, 0⟩
      have hSx : SLr RSlot 3 Y (.slice (some ⟨x, 0, none⟩) 1 1) [⟨true, 0, refWd (aP i F 0)⟩] := SLr.row RSlot.mono (show x < Y.next by omega) yx (elems_sl Y _) ⟨Nat.le_refl _, fun x cells g t _ ho => ⟨t, ho⟩⟩ (by simp)
      have hwu : refWd (aP i F 0) < 2 ^ 64 := refWd_u64 _ (by omega)
      repeat' (first | refine boolP_dec (fun _ => ?_) (fun _ => ?_) | apply boolP_not | refine boolP_b (fun _ => ?_) (fun _ => ?_) | ((with_reducible show Qs _ _ _ _ _); first | refine hQe _ _ _ _ ?_ | refine hQr _ _ _ ?_) | simp (config := { maxSteps := 1000000 }) (disch := omega) only [↓sh, ↓sh2, ↓reduceIte, sx, sl, sb, st, nbeq_ne, dle, relo_eq, wrap_i64, Nat.reduceBEq, Nat.reduceLT, Nat.reduceLeDiff, Nat.reduceAdd, Nat.reduceMul, Nat.reduceEqDiff, Int.reduceEq, Int.reduceLT, Int.reduceLE, Int.reduceNeg, Int.reduceToNat, Bool.false_eq_true, eq_self, sa, st2, shl_u2, or_2, *])
      all_goals try omega
      refine CallA.mono (trun_ok _ loW hR ⟨by simp only; omega, by simp only; omega, by simp only; omega⟩ hL _ _ _ hSx (by simp) (by simp) (by simpa using hwu) hS) ?_
      rintro r Z ⟨⟨t, rfl, nt, lt, zt⟩, hRz, mZ⟩
      have loZ := mZ.lo
      have nxZ := mZ.nxt
      repeat' (first | refine boolP_dec (fun _ => ?_) (fun _ => ?_) | apply boolP_not | refine boolP_b (fun _ => ?_) (fun _ => ?_) | ((with_reducible show Qs _ _ _ _ _); first | refine hQe _ _ _ _ ?_ | refine hQr _ _ _ ?_) | simp (config := { maxSteps := 1000000 }) (disch := omega) only [↓sh, ↓sh2, ↓reduceIte, sx, sl, sb, st, nbeq_ne, dle, relo_eq, wrap_i64, Nat.reduceBEq, Nat.reduceLT, Nat.reduceLeDiff, Nat.reduceAdd, Nat.reduceMul, Nat.reduceEqDiff, Int.reduceEq, Int.reduceLT, Int.reduceLE, Int.reduceNeg, Int.reduceToNat, Bool.false_eq_true, eq_self, sa, st2, shl_u2, or_2, List.length_cons, List.length_nil, *])
      refine CallA.mono (awords_ok _ loW hRz.ar (fun e => by have := hD.len; rw [e] at this; simp at this; omega)) ?_
      rintro r U ⟨⟨u, rfl, nu, lu, pu, gu⟩, sU⟩
      have uz := sU.keeps lt zt
      simp only [slC, List.flatMap_cons, List.flatMap_nil, List.append_nil, slotC] at uz
      have hRu := hRz.ko (Ko.call (Ko.refl _) sU)
      have loU := sU.lo
      have nxU := sU.nxt
      have hDl := hD.len
      rw [hmm] at hDl hu
      have hw2 : 4 * (m : Int) % 18446744073709551616 + 2 = (refWd (bP i F 0) : Int) := by rw [show bP i F 0 = (m : Int) by unfold bP; rw [hmm]; simp]; exact word_eq (by omega)
      repeat' (first | refine boolP_dec (fun _ => ?_) (fun _ => ?_) | apply boolP_not | refine boolP_b (fun _ => ?_) (fun _ => ?_) | ((with_reducible show CallA _ _ _ _ _); refine call_ko (H0 := U) koW (ctop_ok _ loW (hRu.ko koW)) ?_; intro H2 k2 l2 n2 g2 q2; try simp (disch := omega) only [sm, sl] at l2 n2 g2 q2) | ((with_reducible show Qs _ _ _ _ _); first | refine hQe _ _ _ _ ?_ | refine hQr _ _ _ ?_) | simp (config := { maxSteps := 1000000 }) (disch := omega) only [↓sh, ↓sh2, ↓reduceIte, sx, sl, sb, st, nbeq_ne, dle, relo_eq, wrap_i64, Nat.reduceBEq, Nat.reduceLT, Nat.reduceLeDiff, Nat.reduceAdd, Nat.reduceMul, Nat.reduceEqDiff, Int.reduceEq, Int.reduceLT, Int.reduceLE, Int.reduceNeg, Int.reduceToNat, Bool.false_eq_true, eq_self, sa, st2, shl_u2, or_2, *])
      all_goals try omega
      clear hw1 hw2 yb yx px pw pb hrow hbox uz zt hR hRz hRu hL hS
      refine wps_named2 (fun T5 H5 eT eH => ?_)
      have j5 : Ko U H5 := by rw [eH]; exact koW
      have n5 := congrArg Heap.next eH; have l5 := congrArg Heap.lo eH; have g5 := fun r => congrArg (fun h : Heap => h.objs.get r) eH
      try simp (disch := omega) only [sm, sl] at n5 l5 g5
      clear eH
      have u5_0 := congrArg (fun T : Tr Value => T.get 0) eT
      have u5_1 := congrArg (fun T : Tr Value => T.get 1) eT
      have u5_2 := congrArg (fun T : Tr Value => T.get 2) eT
      have u5_7 := congrArg (fun T : Tr Value => T.get 7) eT
      have u5_10 := congrArg (fun T : Tr Value => T.get 10) eT
      have u5_19 := congrArg (fun T : Tr Value => T.get 19) eT
      have u5_20 := congrArg (fun T : Tr Value => T.get 20) eT
      simp only [get_set, of_nil, of_1, of_2, of_3, of_4, of_5, Nat.reduceEqDiff, if_true, if_false, reduceIte] at u5_0 u5_1 u5_2 u5_7 u5_10 u5_19 u5_20
      clear eT
      refine wp_loopN (by kernel_rfl) (fun nn T X => ∃ (j : Nat), nn = i - j ∧ (T.get 20 = some (.int .i64 j)) ∧ (T.get 0 = T5.get 0 ∧ T.get 1 = T5.get 1 ∧ T.get 2 = T5.get 2 ∧ T.get 7 = T5.get 7 ∧ T.get 10 = T5.get 10 ∧ T.get 19 = T5.get 19) ∧ True ∧ True ∧ (j ≤ i ∧ Ko U X ∧ X.lo = U.lo)) ?_ ?_
      · refine ⟨_, 0, rfl, ?_, ?_, trivial, trivial, by omega, j5, by omega⟩ <;> exact nextW
      rintro nn T5' X5 ⟨j, rfl, m5, w5, _, _, hj, kU, lU⟩ Qs hQ hQr hQe
      have pX := kU.keeps lu pu
      have hlm2 : (z.ws.map wV).length = 2 * m := by rw [List.length_map]; exact hDl
      by_cases hd : i ≤ j
      · repeat' (first | refine boolP_dec (fun _ => ?_) (fun _ => ?_) | apply boolP_not | refine boolP_b (fun _ => ?_) (fun _ => ?_) | ((with_reducible show CallA _ _ _ _ _); refine call_ko (H0 := X5) koW (awk _) ?_; intro H2 k2 l2 n2 g2 q2; try simp (disch := omega) only [sm, sl] at l2 n2 g2 q2) | ((with_reducible show Qs _ _ _ _ _); first | refine hQe _ _ _ _ ?_ | refine hQr _ _ _ ?_) | simp (config := { maxSteps := 1000000 }) (disch := omega) only [↓sh, ↓sh2, ↓reduceIte, sx, sl, sb, st, nbeq_ne, dle, relo_eq, wrap_i64, Nat.reduceBEq, Nat.reduceLT, Nat.reduceLeDiff, Nat.reduceAdd, Nat.reduceMul, Nat.reduceEqDiff, Int.reduceEq, Int.reduceLT, Int.reduceLE, Int.reduceNeg, Int.reduceToNat, Bool.false_eq_true, eq_self, sa, st2, *])
        all_goals try omega
      · have hji : j < i := by omega
        have hq : (j : Int) * ((F : Int) + 1) = ((j * (F + 1) : Nat) : Int) := by push_cast; rfl
        have hb := bP_in (F := F) hji
        have hb2 : bP i F j = (m : Int) + ((j * (F + 1) : Nat) : Int) := by unfold bP; rw [hmm]; omega
        have hs2 := bP_succ i F j
        obtain ⟨w1, w2⟩ := hD.all j hji
        have w3 := w2 K hK
        rw [if_pos rfl] at w3
        have r1 := Ar.at (ws := z.ws) (i := bP i F j) (by omega) (by omega)
        have r2 := Ar.at (ws := z.ws) (i := bP i F j + 1 + K) (by omega) (by omega)
        change _ = some (Value.int .u64 (wAt z.ws (bP i F j) : Nat)) at r1
        change _ = some (Value.int .u64 (wAt z.ws (bP i F j + 1 + K) : Nat)) at r2
        rw [w1, hb2] at r1
        rw [w3, hb2] at r2
        rw [hmm] at hb
        generalize j * (F + 1) = q at hq hb2 r1 r2
        have hqb : 0 ≤ (q : Int) ∧ (m : Int) + q + (F + 1) ≤ 2 * m := by omega
        clear w1 w2 w3
        by_cases hj1 : j + 1 < i
        · have hw1 : 4 * ((m : Int) + q + F + 1) % 18446744073709551616 + 2 = (finV i F j : Int) := by
            unfold finV
            rw [if_pos hj1, show (m : Int) + q + F + 1 = bP i F (j + 1) by omega]
            have := bP_in (F := F) hj1
            exact word_eq (by omega)
          clear hb2 hs2 hb
          generalize finV i F j = fv at hw1 r2
          repeat' (first | refine boolP_dec (fun _ => ?_) (fun _ => ?_) | apply boolP_not | refine boolP_b (fun _ => ?_) (fun _ => ?_) | ((with_reducible show Qs _ _ _ _ _); first | refine hQe _ _ _ _ ?_ | refine hQr _ _ _ ?_) | simp (config := { maxSteps := 1000000 }) (disch := omega) only [↓sh, ↓sh2, ↓reduceIte, sx, sl, sb, st, nbeq_ne, dle, relo_eq, wrap_i64, Nat.reduceBEq, Nat.reduceLT, Nat.reduceLeDiff, Nat.reduceAdd, Nat.reduceMul, Nat.reduceEqDiff, Int.reduceEq, Int.reduceLT, Int.reduceLE, Int.reduceNeg, Int.reduceToNat, Bool.false_eq_true, eq_self, sa, st2, shl_u2, or_2, *])
          all_goals try omega
          refine hQ _ _ _ ?_ ⟨j + 1, rfl, ?_, ?_, trivial, trivial, by omega, kU, lU⟩ <;> exact nextW
        · have hw1 : finV i F j = 0 := by unfold finV; rw [if_neg hj1]
          rw [hw1] at r2
          clear hb2 hs2 hb hw1
          repeat' (first | refine boolP_dec (fun _ => ?_) (fun _ => ?_) | apply boolP_not | refine boolP_b (fun _ => ?_) (fun _ => ?_) | ((with_reducible show Qs _ _ _ _ _); first | refine hQe _ _ _ _ ?_ | refine hQr _ _ _ ?_) | simp (config := { maxSteps := 1000000 }) (disch := omega) only [↓sh, ↓sh2, ↓reduceIte, sx, sl, sb, st, nbeq_ne, dle, relo_eq, wrap_i64, Nat.reduceBEq, Nat.reduceLT, Nat.reduceLeDiff, Nat.reduceAdd, Nat.reduceMul, Nat.reduceEqDiff, Int.reduceEq, Int.reduceLT, Int.reduceLE, Int.reduceNeg, Int.reduceToNat, Bool.false_eq_true, eq_self, sa, st2, *])
          all_goals try omega
          refine hQ _ _ _ ?_ ⟨j + 1, rfl, ?_, ?_, trivial, trivial, by omega, kU, lU⟩ <;> exact nextW
    · have hin : i < n := by omega
      have hq : ((i : Int) + 1) * ((F : Int) + 1) = (((i + 1) * (F + 1) : Nat) : Int) := by push_cast; rfl
      have hA : aP n F i = (m : Int) - (((i + 1) * (F + 1) : Nat) : Int) := by unfold aP; rw [hmm]
      have ha := aP_in (F := F) hin
      have hA2 := aP_eq n F (i + 1)
      have hBn := hB.next (by omega) hF hK hin
      rw [hmm] at ha hA2
      generalize (i + 1) * (F + 1) = q at hq hA hA2
      have o1 := over_w cur ((m : Int) - q).toNat (hwL F 0) (by omega)
      by_cases hn1 : i + 1 < n
      · rw [if_pos hn1, hA] at hBn
        have ha2 := aP_in (F := F) hn1
        rw [hmm] at ha2
        have hw1 : 4 * ((m : Int) - q - F - 1) % 18446744073709551616 + 2 = (refWd (aP n F (i + 1)) : Int) := by rw [show (m : Int) - q - F - 1 = aP n F (i + 1) by omega]; exact word_eq (by omega)
        have hqb : 0 ≤ (m : Int) - q - (F + 1) ∧ (m : Int) - q + (F + 1) ≤ m := by omega
        clear hA hA2
        have o2 := over_w (cur.set ((m : Int) - q).toNat (hwL F 0)) ((m : Int) - q + 1 + K).toNat (refWd (aP n F (i + 1))) (by rw [List.length_set]; omega)
        have hl2 : ((cur.set ((m : Int) - q).toNat (hwL F 0)).map wV).length = 2 * m := by rw [List.length_map, List.length_set]; exact hlc
        repeat' (first | refine boolP_dec (fun _ => ?_) (fun _ => ?_) | apply boolP_not | refine boolP_b (fun _ => ?_) (fun _ => ?_) | ((with_reducible show Qs _ _ _ _ _); first | refine hQe _ _ _ _ ?_ | refine hQr _ _ _ ?_) | simp (config := { maxSteps := 1000000 }) (disch := omega) only [↓sh, ↓sh2, ↓reduceIte, sx, sl, sb, st, nbeq_ne, dle, relo_eq, wrap_i64, Nat.reduceBEq, Nat.reduceLT, Nat.reduceLeDiff, Nat.reduceAdd, Nat.reduceMul, Nat.reduceEqDiff, Int.reduceEq, Int.reduceLT, Int.reduceLE, Int.reduceNeg, Int.reduceToNat, Bool.false_eq_true, eq_self, sa, st2, shl_u2, or_2, *])
        all_goals try omega
        have hb2 : ∀ c1 c2 : List Value, ((X1.setRow w c1).setRow w c2).objs.get HV.next = some (.row (stL m w x 0) none true) := fun c1 c2 => by
          rw [setRow_get, nbeq_ne hwv.symm]
          show (X1.setRow w c1).objs.get _ = _
          rw [setRow_get, nbeq_ne hwv.symm]
          exact hbox
        refine hQ _ _ _ ?_ ⟨i + 1, _, rfl, ?_, ?_, trivial, trivial, by omega, hBn, (hM.setRow (List.mem_singleton.2 rfl) _).setRow (List.mem_singleton.2 rfl) _, by rw [setRow_get, nbeq_eq rfl]; rfl, hb2 _ _⟩ <;> exact nextW
      · rw [if_neg hn1, hA] at hBn
        repeat' (first | refine boolP_dec (fun _ => ?_) (fun _ => ?_) | apply boolP_not | refine boolP_b (fun _ => ?_) (fun _ => ?_) | ((with_reducible show Qs _ _ _ _ _); first | refine hQe _ _ _ _ ?_ | refine hQr _ _ _ ?_) | simp (config := { maxSteps := 1000000 }) (disch := omega) only [↓sh, ↓sh2, ↓reduceIte, sx, sl, sb, st, nbeq_ne, dle, relo_eq, wrap_i64, Nat.reduceBEq, Nat.reduceLT, Nat.reduceLeDiff, Nat.reduceAdd, Nat.reduceMul, Nat.reduceEqDiff, Int.reduceEq, Int.reduceLT, Int.reduceLE, Int.reduceNeg, Int.reduceToNat, Bool.false_eq_true, eq_self, sa, st2, *])
        all_goals try omega
        refine hQ _ _ _ ?_ ⟨i + 1, _, rfl, ?_, ?_, trivial, trivial, by omega, hBn, hM.setRow (List.mem_singleton.2 rfl) _, by rw [setRow_get, nbeq_eq rfl]; rfl, by rw [setRow_get, nbeq_ne hwv.symm]; exact hbox⟩ <;> exact nextW
  · repeat' (first | refine boolP_dec (fun _ => ?_) (fun _ => ?_) | apply boolP_not | refine boolP_b (fun _ => ?_) (fun _ => ?_) | ((with_reducible show CallA _ _ _ _ _); refine call_ko (H0 := H) koW (awk _) ?_; intro H2 k2 l2 n2 g2 q2; try simp (disch := omega) only [sm, sl] at l2 n2 g2 q2) | ((with_reducible show Qs _ _ _ _ _); first | refine hQe _ _ _ _ ?_ | refine hQr _ _ _ ?_) | simp (config := { maxSteps := 1000000 }) (disch := omega) only [↓sh, ↓sh2, ↓reduceIte, sx, sl, sb, st, nbeq_ne, dle, relo_eq, wrap_i64, Nat.reduceBEq, Nat.reduceLT, Nat.reduceLeDiff, Nat.reduceAdd, Nat.reduceMul, Nat.reduceEqDiff, Int.reduceEq, Int.reduceLT, Int.reduceLE, Int.reduceNeg, Int.reduceToNat, Bool.false_eq_true, eq_self, sa, st2, *])
    all_goals try omega
end Go.AM
