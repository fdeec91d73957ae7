/-
  Walks over letters of the functions that the law reaches.
-/
import Derived.Test.YtbkhcbddbefepaaGreatC14
namespace Go.AM
attribute [local instance] fnMaps
open Go Go.Proofs
set_option maxRecDepth 100000
set_option maxHeartbeats 1000000
set_option linter.unusedSimpArgs false
theorem cellsV_pt (r o : Nat) : cellsV (ptr r o) = [ptr r o] := Eq.trans rfl rfl
theorem cellsV_mp (o : Option Nat) : cellsV (.map o) = [.map o] := Eq.trans rfl rfl
theorem isCell_mp (o : Option Nat) : isCell (.map o) = true := Eq.trans rfl rfl
theorem cut1_get {cells : List Value} {k : Nat} {a : Value} (h : cut cells k 1 = some [a]) : cells[k]? = some a := by
  rw [cut_eq] at h
  split at h
  · simp only [Option.some.injEq] at h
    have h0 := congrArg (fun l : List Value => l[0]?) h
    simp only [List.getElem?_take, List.getElem?_drop] at h0
    simpa using h0
  · cases h
structure KoB (k : Nat) (H H' : Heap) : Prop where
  nxt : H.next ≤ H'.next
  objs : ∀ x, x < H.next → x ≠ k → H'.objs.get x = H.objs.get x
  grps : ∀ x, x < H.next → H'.grps.get x = H.grps.get x
theorem Ko.kob {H H' : Heap} (h : Ko H H') (k : Nat) : KoB k H H' := ⟨h.nxt, fun x hx _ => h.objs x hx, h.grps⟩
theorem KoB.ko {k : Nat} {H X Y : Heap} (h : KoB k H X) (h' : Ko X Y) : KoB k H Y := ⟨Nat.le_trans h.nxt h'.nxt, fun x hx hk => (h'.objs x (Nat.lt_of_lt_of_le hx h.nxt)).trans (h.objs x hx hk), fun x hx => (h'.grps x (Nat.lt_of_lt_of_le hx h.nxt)).trans (h.grps x hx)⟩
theorem KoB.setRow {k : Nat} {H X : Heap} (h : KoB k H X) (c : List Value) : KoB k H (X.setRow k c) := ⟨h.nxt, fun x hx hk => by rw [setRow_get, nbeq_ne hk]; exact h.objs x hx hk, h.grps⟩
theorem KoB.but {k : Nat} {H X : Heap} (h : KoB k H X) (hl : X.lo = H.lo) : SameBut k H X := ⟨hl, h.nxt, h.objs, h.grps⟩
theorem KoB.setO {k r : Nat} {H X : Heap} (h : KoB k H X) (hr : H.next ≤ r) (o : AObj) : KoB k H (X.setObj r o) := ⟨by rw [setO_next]; exact h.nxt, fun x hx hk => by rw [setO_get, nbeq_ne (by omega)]; exact h.objs x hx hk, fun x hx => by rw [setO_grps]; exact h.grps x hx⟩
theorem KoB.trans {k : Nat} {H X Y : Heap} (h : KoB k H X) (h' : KoB k X Y) : KoB k H Y := ⟨Nat.le_trans h.nxt h'.nxt, fun x hx hk => (h'.objs x (Nat.lt_of_lt_of_le hx h.nxt) hk).trans (h.objs x hx hk), fun x hx => (h'.grps x (Nat.lt_of_lt_of_le hx h.nxt)).trans (h.grps x hx)⟩
theorem KoB.new {k m : Nat} {H X Y : Heap} (h : KoB k H X) (h' : KoB m X Y) (hm : H.next ≤ m) : KoB k H Y := ⟨Nat.le_trans h.nxt h'.nxt, fun x hx hk => (h'.objs x (Nat.lt_of_lt_of_le hx h.nxt) (by omega)).trans (h.objs x hx hk), fun x hx => (h'.grps x (Nat.lt_of_lt_of_le hx h.nxt)).trans (h.grps x hx)⟩
theorem KoB.setAt {k : Nat} {H X : Heap} (h : KoB k H X) (o : AObj) : KoB k H (X.setObj k o) := ⟨by rw [setO_next]; exact h.nxt, fun x hx hk => by rw [setO_get, nbeq_ne hk]; exact h.objs x hx hk, fun x hx => by rw [setO_grps]; exact h.grps x hx⟩
theorem Ar.kob {H X : Heap} {k a rw g : Nat} {ws : List Nat} (h : Ar H a rw g ws) (s : KoB k H X) (h1 : a ≠ k) (h2 : rw ≠ k) : Ar X a rw g ws :=
  ⟨(s.objs a h.la h1).trans h.box, (s.objs rw h.lw h2).trans h.row, (s.grps g h.lg).trans h.grp, Nat.lt_of_lt_of_le h.la s.nxt, Nat.lt_of_lt_of_le h.lw s.nxt, Nat.lt_of_lt_of_le h.lg s.nxt, h.ne, h.u64, h.len⟩
theorem SLr.fresh {α : Type} {R : Heap → List Value → α → Prop} (hR : ∀ X X' part x, R X part x → R X' part x) {z b : Nat} {H Y : Heap} {v : Value} {l : List α} (h : SLr R z H v l) (hf : Fresh b v) (ho : ∀ r, b ≤ r → r < H.next → Y.objs.get r = H.objs.get r) (hn : H.next ≤ Y.next) : SLr R z Y v l := by
  obtain ⟨⟨a, c, rfl, hc, hl⟩, hr⟩ := h
  refine ⟨⟨a, c, rfl, hc, fun i x hx => ?_⟩, fun a' n c' e => ?_⟩
  · obtain ⟨r, o, cells, g, t, part, rfl, h1, h2, h3, h4⟩ := hl i x hx
    rcases hf _ _ _ rfl with h5 | ⟨r', h5, h6⟩
    · cases h5
    · cases h5
      exact ⟨r, 0, cells, g, t, part, rfl, by omega, (ho r h6 h1).trans h2, h3, hR _ _ _ _ h4⟩
  · rcases hr a' n c' e with h5 | ⟨r, cells, g, t, h5, h6, h7⟩
    · exact .inl h5
    · rcases hf _ _ _ e with h8 | ⟨r', h8, h9⟩
      · exact .inl h8
      · rw [h5] at h8
        cases h8
        exact .inr ⟨r, cells, g, t, h5, by omega, (ho r h9 h6).trans h7⟩
def smallR (s : St) : List Int × Int := listR s.words (s.cfg.from' s.second) s.top
def keysS (s : St) : List Int := (smallR s).1.foldl insK []
structure Lk (H : Heap) (lp : Nat) (s : St) (w t f zl : Value) (a rw m : Nat) (smv : Value) (sml ks : List Int) : Prop where
  row : H.objs.get lp = some (.row (lkC s w t f zl (ptr a 0) smv (.map (some m))) none true)
  ar : Ar H a rw rw s.words
  small : SLr (RInt .i64) 1 H smv sml
  map : H.objs.get m = some (.map (esK ks))
  lm : m < H.next
theorem fn78 : E.fn.get 78 = some Tryz.f78 := by kernel_rfl
theorem swalks_ok (H : Heap) (hlo : H.lo ≤ H.next) {lp : Nat} {s : St} {w t f zl sm mp : Value} (hrow : H.objs.get lp = some (.row (lkC s w t f zl (.pointer none) sm mp) none true)) (hl : lp < H.next) (hlp : H.lo ≤ lp) (csm : isCell sm = true) (cmp : isCell mp = true) (hS : StS H s w t f zl) (hc : s.cfg.Ok) (hw : (s.words.length : Int) = s.cfg.words) (hu : ∀ x ∈ s.words, x < 2 ^ 64) (ht : topOk s) :
    CallA E (fnv 78) [ptr lp 0] H fun r H' => r = .bool (decide ((smallR s).2 = 0)) ∧ SameBut lp H H' ∧ ∃ a rw m smv, Lk H' lp s w t f zl a rw m smv (smallR s).1 (keysS s) ∧ H.next ≤ a ∧ H.next ≤ rw ∧ H.next ≤ m := by
  unfold lkC at hrow
  have hw0 : s.words ≠ [] ∧ s.words.length ≤ 98304 := by
    unfold Cfg.words at hw
    rw [if_pos hc] at hw
    unfold Cfg.Ok at hc
    refine ⟨fun e => ?_, by omega⟩
    rw [e] at hw
    simp at hw
    omega
  refine callA_fn (by kernel_rfl) fn78 rfl rfl ?_
  simp only [Tryz.f78]
  repeat' (first | refine boolP_dec (fun _ => ?_) (fun _ => ?_) | apply boolP_not | refine boolP_b (fun _ => ?_) (fun _ => ?_) | refine wps_draw (id := 2) [Fx, Fx, Fx, Fx, Fx, Fx, Fx, Fx, Fx, Fx, Fx, Fx, Fx, Fx, Tx, Fx, Fx, Fx, Fx, Fx, Fx, Fx, Fx, Fx, Fx, Fx] (by kernel_rfl) ?_ | ((with_reducible show Qs _ _ _ _ _); first | refine hQe _ _ _ _ ?_ | refine hQr _ _ _ ?_) | simp (config := { maxSteps := 1000000 }) (disch := omega) only [↓sh, ↓sh2, ↓reduceIte, sx, sl, sb, st, nbeq_ne, dle, relo_eq, wrap_i64, Nat.reduceBEq, Nat.reduceLT, Nat.reduceLeDiff, Nat.reduceAdd, Nat.reduceMul, Nat.reduceEqDiff, Int.reduceEq, Int.reduceLT, Int.reduceLE, Int.reduceNeg, Int.reduceToNat, Bool.false_eq_true, eq_self, sa, *])
  refine (aof_ok H hlo w s.words hS.w hw0.1 hw0.2 hu).mono ?_
  rintro r H2 ⟨a, rw, rfl, hA, la, lrw, s2⟩
  have e2 := s2.objs lp hl; have l2 := s2.lo; have n2 := s2.nxt
  have lA := hA.la; have lW := hA.lw
  repeat' (first | refine boolP_dec (fun _ => ?_) (fun _ => ?_) | apply boolP_not | refine boolP_b (fun _ => ?_) (fun _ => ?_) | refine wps_draw (id := 2) [Fx, Fx, Fx, Fx, Fx, Fx, Fx, Fx, Fx, Fx, Fx, Fx, Fx, Fx, Tx, Fx, Fx, Fx, Fx, Fx, Fx, Fx, Fx, Fx, Fx, Fx] (by kernel_rfl) ?_ | ((with_reducible show Qs _ _ _ _ _); first | refine hQe _ _ _ _ ?_ | refine hQr _ _ _ ?_) | simp (config := { maxSteps := 1000000 }) (disch := omega) only [↓sh, ↓sh2, ↓reduceIte, sx, sl, sb, st, nbeq_ne, dle, relo_eq, wrap_i64, Nat.reduceBEq, Nat.reduceLT, Nat.reduceLeDiff, Nat.reduceAdd, Nat.reduceMul, Nat.reduceEqDiff, Int.reduceEq, Int.reduceLT, Int.reduceLE, Int.reduceNeg, Int.reduceToNat, Bool.false_eq_true, eq_self, sa, cellsV_pt, *])
  refine callA_named (fun X eX => ?_)
  have bX : KoB lp H X := by rw [eX]; exact KoB.setRow ((s2.ko.relo _).kob lp) _
  have rX : X.objs.get lp = some (.row (lkC s w t f zl (ptr a 0) sm mp) none true) := by rw [eX]; simp (disch := omega) only [setRow_get, newRow_get, newRow_next, setRow_next, newRow_lo, setRow_lo, newRow_grps, setRow_grps, newRow_relo, setRow_relo, relo_objs, relo_next, relo_lo, nbeq_ne, sl, lkC]
  have AX : Ar X a rw rw s.words := by
    rw [eX]
    exact ⟨by simp (disch := omega) only [setRow_get, newRow_get, newRow_next, setRow_next, newRow_lo, setRow_lo, newRow_grps, setRow_grps, newRow_relo, setRow_relo, relo_objs, relo_next, relo_lo, nbeq_ne, sl]; exact hA.box, by simp (disch := omega) only [setRow_get, newRow_get, newRow_next, setRow_next, newRow_lo, setRow_lo, newRow_grps, setRow_grps, newRow_relo, setRow_relo, relo_objs, relo_next, relo_lo, nbeq_ne, sl]; exact hA.row, by simp (disch := omega) only [setRow_get, newRow_get, newRow_next, setRow_next, newRow_lo, setRow_lo, newRow_grps, setRow_grps, newRow_relo, setRow_relo, relo_objs, relo_next, relo_lo, nbeq_ne, sl]; exact hA.grp, hA.la, hA.lw, hA.lg, hA.ne, hA.u64, hA.len⟩
  have nX : X.next = H2.next := by rw [eX]; simp (disch := omega) only [setRow_get, newRow_get, newRow_next, setRow_next, newRow_lo, setRow_lo, newRow_grps, setRow_grps, newRow_relo, setRow_relo, relo_objs, relo_next, relo_lo, nbeq_ne, sl]
  have lX : X.lo = H2.next := by rw [eX]; simp (disch := omega) only [setRow_get, newRow_get, newRow_next, setRow_next, newRow_lo, setRow_lo, newRow_grps, setRow_grps, newRow_relo, setRow_relo, relo_objs, relo_next, relo_lo, nbeq_ne, sl]
  clear eX e2
  unfold lkC at rX
  have hcl : lp < X.next := by omega
  repeat' (first | refine boolP_dec (fun _ => ?_) (fun _ => ?_) | apply boolP_not | refine boolP_b (fun _ => ?_) (fun _ => ?_) | refine wps_draw (id := 2) [Fx, Fx, Fx, Fx, Fx, Fx, Fx, Fx, Fx, Fx, Fx, Fx, Fx, Fx, Tx, Fx, Fx, Fx, Fx, Fx, Fx, Fx, Fx, Fx, Fx, Fx] (by kernel_rfl) ?_ | ((with_reducible show CallA _ _ _ _ _); refine call_ko (H0 := X) koW (lfrom_ok _ loW s.cfg s.second) ?_; intro H2 k2 l2 n2 g2 q2; try simp (disch := omega) only [sm, sl] at l2 n2 g2 q2) | ((with_reducible show Qs _ _ _ _ _); first | refine hQe _ _ _ _ ?_ | refine hQr _ _ _ ?_) | simp (config := { maxSteps := 1000000 }) (disch := omega) only [↓sh, ↓sh2, ↓reduceIte, sx, sl, sb, st, nbeq_ne, dle, relo_eq, wrap_i64, Nat.reduceBEq, Nat.reduceLT, Nat.reduceLeDiff, Nat.reduceAdd, Nat.reduceMul, Nat.reduceEqDiff, Int.reduceEq, Int.reduceLT, Int.reduceLE, Int.reduceNeg, Int.reduceToNat, Bool.false_eq_true, eq_self, sa, *])
  refine (list_ok (H2.relo H.lo) (by simp (disch := omega) only [setRow_get, newRow_get, newRow_next, setRow_next, newRow_lo, setRow_lo, newRow_grps, setRow_grps, newRow_relo, setRow_relo, relo_objs, relo_next, relo_lo, nbeq_ne, sl]; omega) (AX.same (k2.relo _)) (s.cfg.from' s.second) s.top).mono ?_
  rintro r H3 ⟨sv, rfl, ⟨hsv, hfr⟩, s3⟩
  have k3 : Ko X H3 := (k2.relo H.lo).call s3
  have l3 := s3.lo; have n3 := k3.nxt
  have e3 := k3.objs lp hcl
  have A3 := AX.same k3
  have la3 := A3.la; have lw3 := A3.lw; have lg3 := A3.lg
  simp only [relo_lo] at l3
  clear s3
  obtain ⟨⟨sa', sc, rfl, ⟨_, hsm⟩, hsl⟩, hsr⟩ := hsv
  repeat' (first | refine boolP_dec (fun _ => ?_) (fun _ => ?_) | apply boolP_not | refine boolP_b (fun _ => ?_) (fun _ => ?_) | refine wps_draw (id := 2) [Fx, Fx, Fx, Fx, Fx, Fx, Fx, Fx, Fx, Fx, Fx, Fx, Fx, Fx, Tx, Fx, Fx, Fx, Fx, Fx, Fx, Fx, Fx, Fx, Fx, Fx] (by kernel_rfl) ?_ | ((with_reducible show Qs _ _ _ _ _); first | refine hQe _ _ _ _ ?_ | refine hQr _ _ _ ?_) | simp (config := { maxSteps := 1000000 }) (disch := omega) only [↓sh, ↓sh2, ↓reduceIte, sx, sl, sb, st, nbeq_ne, dle, relo_eq, wrap_i64, Nat.reduceBEq, Nat.reduceLT, Nat.reduceLeDiff, Nat.reduceAdd, Nat.reduceMul, Nat.reduceEqDiff, Int.reduceEq, Int.reduceLT, Int.reduceLE, Int.reduceNeg, Int.reduceToNat, Bool.false_eq_true, eq_self, sa, cellsV_pt, cellsV_mp, isCell_mp, List.all_cons, List.all_nil, Bool.and_self, List.length_cons, List.length_nil, addO_get, add_next, add_lo, add_grps, *])
  refine wps_named2 (fun T1 H1 eT eH => ?_)
  generalize hsmall : (listR s.words (s.cfg.from' s.second) s.top).1 = small at *
  have r1 : H1.objs.get lp = some (.row (lkC s w t f zl (ptr a 0) (.slice sa' small.length sc) (.map (some H3.next))) none true) := by rw [eH]; simp (disch := omega) only [setRow_get, newRow_get, newRow_next, setRow_next, newRow_lo, setRow_lo, newRow_grps, setRow_grps, newRow_relo, setRow_relo, relo_objs, relo_next, relo_lo, nbeq_ne, sl, lkC, addO_get, add_next]
  have m1 : H1.objs.get H3.next = some (.map (esK [])) := by rw [eH]; simp (disch := omega) only [setRow_get, newRow_get, newRow_next, setRow_next, newRow_lo, setRow_lo, newRow_grps, setRow_grps, newRow_relo, setRow_relo, relo_objs, relo_next, relo_lo, nbeq_ne, sl, addO_get, add_next]; rfl
  have b1 : KoB lp H3 H1 := by rw [eH]; exact KoB.setRow (KoB.setRow ((same_add H3 _).ko.kob lp) _) _
  have n1 : H1.next = H3.next + 1 := by rw [eH]; simp (disch := omega) only [setRow_get, newRow_get, newRow_next, setRow_next, newRow_lo, setRow_lo, newRow_grps, setRow_grps, newRow_relo, setRow_relo, relo_objs, relo_next, relo_lo, nbeq_ne, sl, addO_get, add_next]
  have l1 : H1.lo = H.lo := by rw [eH]; simp (disch := omega) only [setRow_get, newRow_get, newRow_next, setRow_next, newRow_lo, setRow_lo, newRow_grps, setRow_grps, newRow_relo, setRow_relo, relo_objs, relo_next, relo_lo, nbeq_ne, sl, addO_get, add_lo, l3]
  have t51 : T1.get 51 = some (.slice sa' small.length sc) := by rw [eT]; simp (config := { maxSteps := 1000000 }) (disch := omega) only [↓sh, ↓sh2, ↓reduceIte, sx, sl, sb, st, nbeq_ne, dle, relo_eq, wrap_i64, Nat.reduceBEq, Nat.reduceLT, Nat.reduceLeDiff, Nat.reduceAdd, Nat.reduceMul, Nat.reduceEqDiff, Int.reduceEq, Int.reduceLT, Int.reduceLE, Int.reduceNeg, Int.reduceToNat, Bool.false_eq_true, eq_self]
  have t52 : T1.get 52 = some (.int .i64 small.length) := by rw [eT]; simp (config := { maxSteps := 1000000 }) (disch := omega) only [↓sh, ↓sh2, ↓reduceIte, sx, sl, sb, st, nbeq_ne, dle, relo_eq, wrap_i64, Nat.reduceBEq, Nat.reduceLT, Nat.reduceLeDiff, Nat.reduceAdd, Nat.reduceMul, Nat.reduceEqDiff, Int.reduceEq, Int.reduceLT, Int.reduceLE, Int.reduceNeg, Int.reduceToNat, Bool.false_eq_true, eq_self]
  have t53 : T1.get 53 = some (.int .i64 0) := by rw [eT]; simp (config := { maxSteps := 1000000 }) (disch := omega) only [↓sh, ↓sh2, ↓reduceIte, sx, sl, sb, st, nbeq_ne, dle, relo_eq, wrap_i64, Nat.reduceBEq, Nat.reduceLT, Nat.reduceLeDiff, Nat.reduceAdd, Nat.reduceMul, Nat.reduceEqDiff, Int.reduceEq, Int.reduceLT, Int.reduceLE, Int.reduceNeg, Int.reduceToNat, Bool.false_eq_true, eq_self]
  have t0 : T1.get 0 = some (ptr lp 0) := by rw [eT]; simp (config := { maxSteps := 1000000 }) (disch := omega) only [↓sh, ↓sh2, ↓reduceIte, sx, sl, sb, st, nbeq_ne, dle, relo_eq, wrap_i64, Nat.reduceBEq, Nat.reduceLT, Nat.reduceLeDiff, Nat.reduceAdd, Nat.reduceMul, Nat.reduceEqDiff, Int.reduceEq, Int.reduceLT, Int.reduceLE, Int.reduceNeg, Int.reduceToNat, Bool.false_eq_true, eq_self]
  have t4 : T1.get 4 = some (.int .i64 (listR s.words (s.cfg.from' s.second) s.top).2) := by rw [eT]; simp (config := { maxSteps := 1000000 }) (disch := omega) only [↓sh, ↓sh2, ↓reduceIte, sx, sl, sb, st, nbeq_ne, dle, relo_eq, wrap_i64, Nat.reduceBEq, Nat.reduceLT, Nat.reduceLeDiff, Nat.reduceAdd, Nat.reduceMul, Nat.reduceEqDiff, Int.reduceEq, Int.reduceLT, Int.reduceLE, Int.reduceNeg, Int.reduceToNat, Bool.false_eq_true, eq_self]
  clear eT eH
  simp only [relo_next] at hfr
  have hel : ∀ i (hi : i < small.length), ∃ r o cells g t, sa' = some ⟨r, o, none⟩ ∧ r < H3.next ∧ X.next ≤ r ∧ H3.objs.get r = some (.row cells g t) ∧ cells[o + i]? = some (.int .i64 small[i]) := fun i hi => by
    obtain ⟨r, o, cells, g, t, part, e, h1, h2, h3, h4⟩ := hsl i small[i] (by simp)
    subst e
    rcases hfr _ _ _ rfl with hn | ⟨r', hr, hb⟩
    · cases hn
    · cases hr
      refine ⟨r, 0, cells, g, t, rfl, h1, by omega, h2, ?_⟩
      rw [h4, Nat.mul_one] at h3
      exact cut1_get h3
  refine wp_loopN (by kernel_rfl) (fun nn T Y => ∃ i : Nat, nn = small.length - i ∧ i ≤ small.length ∧ T.get 53 = some (.int .i64 i) ∧ T.get 51 = some (.slice sa' small.length sc) ∧ T.get 52 = some (.int .i64 small.length) ∧ T.get 0 = some (ptr lp 0) ∧ T.get 4 = some (.int .i64 (listR s.words (s.cfg.from' s.second) s.top).2) ∧
    Y.objs.get H3.next = some (.map (esK ((small.take i).foldl insK []))) ∧ KoB H3.next H1 Y ∧ Y.lo = H.lo) ⟨_, 0, rfl, Nat.zero_le _, t53, t51, t52, t0, t4, m1, (Ko.refl _).kob _, l1⟩ ?_
  rintro nn T Y ⟨i, rfl, hi, u53, u51, u52, u0, u4, mY, bY, lY⟩ Qs hQ hQr hQe
  have nY := bY.nxt
  have rY := (bY.objs lp (by omega) (by omega)).trans r1
  unfold lkC at rY
  by_cases hlt : i < small.length
  · obtain ⟨r, o, cells, g, t', rfl, h1, h2, h3, h4⟩ := hel i hlt
    have a1 := at_nat hlt
    have hrY : Y.objs.get r = some (.row cells g t') := (bY.objs r (by omega) (by omega)).trans ((b1.objs r (by omega) (by omega)).trans h3)
    repeat' (first | refine boolP_dec (fun _ => ?_) (fun _ => ?_) | apply boolP_not | refine boolP_b (fun _ => ?_) (fun _ => ?_) | refine wps_draw (id := 2) [Fx, Fx, Fx, Fx, Fx, Fx, Fx, Fx, Fx, Fx, Fx, Fx, Fx, Fx, Tx, Fx, Fx, Fx, Fx, Fx, Fx, Fx, Fx, Fx, Fx, Fx] (by kernel_rfl) ?_ | ((with_reducible show Qs _ _ _ _ _); first | refine hQe _ _ _ _ ?_ | refine hQr _ _ _ ?_) | simp (config := { maxSteps := 1000000 }) (disch := omega) only [↓sh, ↓sh2, ↓reduceIte, sx, sl, sb, st, nbeq_ne, dle, relo_eq, wrap_i64, Nat.reduceBEq, Nat.reduceLT, Nat.reduceLeDiff, Nat.reduceAdd, Nat.reduceMul, Nat.reduceEqDiff, Int.reduceEq, Int.reduceLT, Int.reduceLE, Int.reduceNeg, Int.reduceToNat, Bool.false_eq_true, eq_self, sa, mu_108, muG_ks, *])
    all_goals try omega
    refine hQ _ _ _ ?_ ⟨i + 1, rfl, by omega, ?_, ?_, ?_, ?_, ?_, ?_, bY.setAt _, ?_⟩
    · omega
    iterate 5 exact nextW
    · rw [setO_get, nbeq_eq rfl, List.take_add_one, List.getElem?_eq_getElem hlt, List.foldl_append]; rfl
    · rw [setO_lo]; exact lY
  · repeat' (first | refine boolP_dec (fun _ => ?_) (fun _ => ?_) | apply boolP_not | refine boolP_b (fun _ => ?_) (fun _ => ?_) | refine wps_draw (id := 2) [Fx, Fx, Fx, Fx, Fx, Fx, Fx, Fx, Fx, Fx, Fx, Fx, Fx, Fx, Tx, Fx, Fx, Fx, Fx, Fx, Fx, Fx, Fx, Fx, Fx, Fx] (by kernel_rfl) ?_ | ((with_reducible show Qs _ _ _ _ _); first | refine hQe _ _ _ _ ?_ | refine hQr _ _ _ ?_) | simp (config := { maxSteps := 1000000 }) (disch := omega) only [↓sh, ↓sh2, ↓reduceIte, sx, sl, sb, st, nbeq_ne, dle, relo_eq, wrap_i64, Nat.reduceBEq, Nat.reduceLT, Nat.reduceLeDiff, Nat.reduceAdd, Nat.reduceMul, Nat.reduceEqDiff, Int.reduceEq, Int.reduceLT, Int.reduceLE, Int.reduceNeg, Int.reduceToNat, Bool.false_eq_true, eq_self, sa, *])
    all_goals try omega
    have e0 : i = small.length := by omega
    rw [e0, List.take_length] at mY
    have hsl' : SLr (RInt .i64) 1 H3 (.slice sa' small.length sc) small := ⟨⟨sa', sc, rfl, ⟨by assumption, hsm⟩, hsl⟩, hsr⟩
    refine ⟨rfl, KoB.but (((bX.ko k3).trans b1).new bY (by omega)) lY, a, rw, H3.next, _, ⟨rY, (A3.kob b1 (by omega) (by omega)).kob bY (by omega) (by omega), ?_, ?_, by omega⟩, by omega, by omega, by omega⟩
    · show SLr (RInt .i64) 1 Y _ (listR s.words (s.cfg.from' s.second) s.top).1
      rw [hsmall]
      exact hsl'.fresh (fun _ _ _ _ h => h) hfr (fun r h1 h2 => (bY.objs r (by omega) (by omega)).trans (b1.objs r (by omega) (by omega))) (by omega)
    · show Y.objs.get H3.next = some (.map (esK ((listR s.words (s.cfg.from' s.second) s.top).1.foldl insK [])))
      rw [hsmall]
      exact mY
end Go.AM
