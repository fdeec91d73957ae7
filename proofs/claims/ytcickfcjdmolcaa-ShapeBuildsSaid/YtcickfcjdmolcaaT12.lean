/-
  Walks over letters of the functions that the law reaches.
-/
import Derived.Test.YtcickfcjdmolcaaT11
namespace Go.AM
attribute [local instance] fnMaps
open Go Go.Proofs
set_option maxRecDepth 100000
set_option maxHeartbeats 1000000
set_option linter.unusedSimpArgs false
section
variable {H : Heap}

/-! ### Rows of a group, stored into -/

/-- what is below b stays -/
structure Down (b : Nat) (H H' : Heap) : Prop where
  lo : H'.lo = H.lo
  nxt : H.next ≤ H'.next
  below : ∀ x, x < b → H'.objs.get x = H.objs.get x ∧ H'.grps.get x = H.grps.get x
theorem Down.refl (b : Nat) (H : Heap) : Down b H H := ⟨rfl, Nat.le_refl _, fun _ _ => ⟨rfl, rfl⟩⟩
theorem Down.trans {b : Nat} {H' H'' : Heap} (h : Down b H H') (h' : Down b H' H'') : Down b H H'' :=
  ⟨h'.lo.trans h.lo, Nat.le_trans h.nxt h'.nxt, fun x hx => ⟨((h'.below x hx).1).trans (h.below x hx).1, ((h'.below x hx).2).trans (h.below x hx).2⟩⟩
theorem Down.same {b : Nat} {H' H0 : Heap} (h : Down b H H') (h0 : Same H0 H) (hb : H0.next ≤ b) : Same H0 H' :=
  ⟨h.lo.trans h0.lo, Nat.le_trans h0.nxt h.nxt, fun x hx => ((h.below x (by omega)).1).trans (h0.objs x hx), fun x hx => ((h.below x (by omega)).2).trans (h0.grps x hx)⟩
theorem Grown.low {b : Nat} {H' : Heap} (h : Grown b H H') : Down b H H' := ⟨h.lo, h.nxt, h.below⟩
theorem same_low {b : Nat} {H' : Heap} (h : Same H H') (hb : b ≤ H.next) : Down b H H' := ⟨h.lo, h.nxt, fun x hx => ⟨h.objs x (by omega), h.grps x (by omega)⟩⟩

/-- one's own slice, its row in a group -/
def OwnG (b z : Nat) (H : Heap) (v : Value) (n : Nat) (cs : List Value) : Prop :=
  cs.length = n * z ∧ ∃ r g old, v = .slice (some ⟨r, 0, none⟩) n n ∧ b ≤ r ∧ r < H.next ∧ H.objs.get r = some (.row cs (some (g, z)) true) ∧ b ≤ g ∧ g < H.next ∧ H.grps.get g = some old ∧ ∀ x ∈ old, b ≤ x ∧ x < H.next ∧ x ≠ r
theorem OwnG.own {b z n : Nat} {v : Value} {cs : List Value} (h : OwnG b z H v n cs) : Own b z H v n cs := by
  obtain ⟨h0, r, g, old, h1, h2, h3, h4, h5, h6, h7, _⟩ := h
  exact ⟨h0, .inr ⟨r, h1, h2, h3, .inr ⟨g, old, h4, h5, h6, h7⟩⟩⟩
theorem OwnG.setRow {b z n x : Nat} {v : Value} {cs c : List Value} (h : OwnG b z H v n cs) (hx : x < b) : OwnG b z (H.setRow x c) v n cs := by
  obtain ⟨h0, r, g, old, h1, h2, h3, h4, h5, h6, h7, h8⟩ := h
  exact ⟨h0, r, g, old, h1, h2, h3, by rw [setRow_get, nbeq_ne (by omega)]; exact h4, h5, h6, h7, h8⟩
theorem app_alone {b z bytes n k r : Nat} {cs new : List Value} (hr : H.objs.get r = some (.row cs none true)) (hc : cs.length = n * z) (hb : b ≤ H.next) (hk : k ≠ 0) (hnew : new.length = k * z) (hsz : growOk z bytes (n + k) = true) :
    ∃ s' H', appendT z bytes H (.slice (some ⟨r, 0, none⟩) n n) k new = some (s', H') ∧ OwnG b z H' s' (n + k) (cs ++ new) ∧ Down b H H' := by
  have hnb : Nat.ble (n + k) n = false := Bool.eq_false_iff.2 fun hh => by have := Nat.le_of_ble_eq_true hh; omega
  have hcut : cut cs 0 (n * z) = some cs := by rw [cut_eq, if_pos (by omega), List.drop_zero, List.take_of_length_le (by omega)]
  refine ⟨_, H.newApp z (cs ++ new), by simp only [appendT, hnb, hsz, cond_false, hr, hcut, Option.bind_some]; rfl, ⟨by rw [List.length_append, hc, hnew, Nat.add_mul], H.next, H.next, [], rfl, hb, by rw [newApp_next]; omega, ?_, hb, by rw [newApp_next]; omega, ?_, fun x hx => by cases hx⟩, (grown_newApp hb ..).low⟩
  · rw [newApp_get, nbeq_eq rfl]; rfl
  · rw [newApp_grps, nbeq_eq rfl]; rfl
theorem app_group {b z bytes n k : Nat} {v : Value} {cs new : List Value} (ho : OwnG b z H v n cs) (hb : b ≤ H.next) (hlo : H.lo ≤ b) (hk : k ≠ 0) (hnew : new.length = k * z) (hcell : new.all isCell = true) (hsz : growOk z bytes (n + k) = true) :
    ∃ s' H', appendT z bytes H v k new = some (s', H') ∧ OwnG b z H' s' (n + k) (cs ++ new) ∧ Down b H H' := by
  obtain ⟨hc, r, g, old, rfl, h2, h3, h4, h5, h6, h7, h8⟩ := ho
  have hnb : Nat.ble (n + k) n = false := Bool.eq_false_iff.2 fun hh => by have := Nat.le_of_ble_eq_true hh; omega
  have hcut : cut cs 0 (n * z) = some cs := by rw [cut_eq, if_pos (by omega), List.drop_zero, List.take_of_length_le (by omega)]
  have e1 : Nat.beq (0 + n * z) cs.length = true := by rw [hc, Nat.zero_add]; exact Nat.beq_refl _
  have e2 : Nat.ble H.lo r = true := Nat.ble_eq_true_of_le (by omega)
  have e3 : Nat.beq z z = true := Nat.beq_refl _
  refine ⟨_, H.grow1 r cs g z old (cs ++ new), by simp only [appendT, hnb, hsz, cond_false, h4, e1, e2, e3, hcell, Bool.and_self, cond_true, hcut, Option.bind_some, grow_eq h7]; rfl, ⟨by rw [List.length_append, hc, hnew, Nat.add_mul], H.next, g, r :: old, rfl, hb, Nat.lt_succ_self _, ?_, h5, Nat.lt_succ_of_lt h6, ?_, ?_⟩, (grown_grow1 hb h2 h5 h4).low⟩
  · rw [grow1_get, nbeq_eq rfl]; rfl
  · rw [grow1_grps, nbeq_eq rfl]; rfl
  · intro x hx
    show b ≤ x ∧ x < H.next + 1 ∧ x ≠ H.next
    rcases List.mem_cons.1 hx with rfl | hx
    · omega
    · have := h8 x hx; omega
theorem killAll_ok {lo b : Nat} (hlo : lo ≤ b) : ∀ (old : List Nat) (t : Tr AObj), (∀ x ∈ old, b ≤ x) → ∃ t', killAll lo t old = some t' ∧ ∀ x, x ∉ old → t'.get x = t.get x
  | [], t, _ => ⟨t, rfl, fun _ _ => rfl⟩
  | k :: l, t, h => by
    obtain ⟨t', h1, h2⟩ := killAll_ok hlo l (t.del k) fun x hx => h x (by simp [hx])
    have hk := h k (by simp)
    refine ⟨t', by simp only [killAll, Nat.ble_eq_true_of_le (show lo ≤ k by omega), cond_true]; exact h1, fun x hx => ?_⟩
    simp only [List.mem_cons, not_or] at hx
    rw [h2 x hx.2, delO_get _ _ _ hx.1]
theorem over_len (new : List Value) : ∀ (o : Nat) (l : List Value), o + new.length ≤ l.length → (over new o l).length = l.length
  | 0, l, h => by rw [over_zero]; simp; omega
  | o + 1, [], h => by simp at h
  | o + 1, x :: l, h => by rw [over_succ, List.length_cons, List.length_cons, over_len new o l (by simp at h; omega)]
theorem write_group {b z n o r : Nat} {v : Value} {cs new : List Value} (ho : OwnG b z H v n cs) (hv : ∀ r' l c, v = .slice (some ⟨r', 0, none⟩) l c → r' = r) (hlo : H.lo ≤ b) (hcell : new.all isCell = true) (hin : o + new.length ≤ cs.length) :
    ∃ H', H.writeG r o new = some H' ∧ OwnG b z H' v n (over new o cs) ∧ Down b H H' := by
  obtain ⟨hc, r', g, old, rfl, h2, h3, h4, h5, h6, h7, h8⟩ := ho
  obtain rfl := hv r' n n rfl
  obtain ⟨t', k1, k2⟩ := killAll_ok hlo old H.objs fun x hx => (h8 x hx).1
  refine ⟨{ objs := t'.set r' (.row (over new o cs) (some (g, z)) true), grps := H.grps.set g [], next := H.next, lo := H.lo }, ?_, ⟨by rw [over_len _ _ _ hin, hc], r', g, [], rfl, h2, h3, ?_, h5, h6, ?_, fun x hx => by cases hx⟩, ⟨rfl, Nat.le_refl _, fun x hx => ⟨?_, ?_⟩⟩⟩
  · unfold Heap.writeG Heap.write
    simp only [Nat.ble_eq_true_of_le (show H.lo ≤ r' by omega), hcell, h4, h7, k1, Nat.ble_eq_true_of_le hin, Bool.not_true, Bool.or_false, cond_false, Option.bind_some, Tr.force_eq]
  · show (if r' = r' then _ else _) = _
    rw [if_pos rfl]
  · show (if g = g then _ else _) = _
    rw [if_pos rfl]
  · show (if x = r' then _ else _) = _
    rw [if_neg (by omega)]
    exact k2 x fun hx' => by have := h8 x hx'; omega
  · show (if x = g then _ else _) = _
    rw [if_neg (by omega)]; rfl

/-- an element, stored -/
theorem over_drop (new : List Value) : ∀ (o : Nat) (l : List Value), o + new.length ≤ l.length → over new o l = l.take o ++ new ++ l.drop (o + new.length)
  | 0, l, h => by rw [over_zero, List.take_zero, List.nil_append, Nat.zero_add]
  | o + 1, [], h => by simp at h
  | o + 1, x :: l, h => by rw [over_succ, over_drop new o l (by simp at h; omega), List.take_succ_cons, show o + 1 + new.length = (o + new.length) + 1 by omega, List.drop_succ_cons]; rfl
theorem Elems.set {α : Type} {R : Heap → List Value → α → Prop} {z k : Nat} {cs part : List Value} {l : List α} {x : α} (h : Elems R z H cs l) (hp : part.length = z) (hx : R H part x) (hk : k < l.length) : Elems R z H (over part (k * z) cs) (l.set k x) := by
  have hin : k * z + part.length ≤ cs.length := by
    rw [h.1, hp]
    have := Nat.mul_le_mul_right z (show k + 1 ≤ l.length by omega)
    rw [Nat.add_mul, Nat.one_mul] at this
    exact this
  refine ⟨by rw [over_len _ _ _ hin, h.1, List.length_set], fun i y hi => ?_⟩
  rw [over_drop _ _ _ hin]
  by_cases e : i = k
  · subst e
    rw [List.getElem?_set_self (by omega)] at hi
    simp only [Option.some.injEq] at hi
    subst hi
    refine ⟨part, ?_, hx⟩
    rw [cut_eq, if_pos (by simp; omega), List.append_assoc, List.drop_append_of_le_length (by simp; omega)]
    have e1 : (cs.take (i * z)).drop (i * z) = [] := List.drop_eq_nil_of_le (by simp; omega)
    rw [e1, List.nil_append, List.take_append_of_le_length (by omega), List.take_of_length_le (by omega)]
  · rw [List.getElem?_set_ne (fun hh => e hh.symm)] at hi
    obtain ⟨p, h1, h2⟩ := h.2 i y hi
    refine ⟨p, ?_, h2⟩
    obtain ⟨h3, h4, h5⟩ := cut_len h1
    rw [← over_drop _ _ _ hin, cut_eq, over_len _ _ _ hin, if_pos h4, h5, over_drop _ _ _ hin]
    congr 1
    rcases Nat.lt_or_gt_of_ne e with hlt | hgt
    · have hle : i * z + z ≤ k * z := by
        have := Nat.mul_le_mul_right z (show i + 1 ≤ k by omega)
        rw [Nat.add_mul, Nat.one_mul] at this
        exact this
      rw [List.append_assoc, List.drop_append_of_le_length (by simp; omega), List.take_append_of_le_length (by simp; omega), List.drop_take, List.take_take, Nat.min_eq_left (by omega)]
    · have hle : k * z + part.length ≤ i * z := by
        have := Nat.mul_le_mul_right z (show k + 1 ≤ i by omega)
        rw [Nat.add_mul, Nat.one_mul] at this
        omega
      have e1 : (cs.take (k * z) ++ part).length = k * z + part.length := by simp; omega
      rw [List.drop_append, List.drop_eq_nil_of_le (by omega), List.nil_append, List.drop_drop, e1, show k * z + part.length + (i * z - (k * z + part.length)) = i * z by omega]

/-- the row of a slice that was handed is there, also of an empty one -/
def Rowed (H : Heap) (v : Value) : Prop := ∀ a l c, v = .slice a l c → a = none ∨ ∃ r cells g t, a = some ⟨r, 0, none⟩ ∧ r < H.next ∧ H.objs.get r = some (.row cells g t)
theorem Rowed.same {H' : Heap} {v : Value} (h : Rowed H v) (hs : Same H H') : Rowed H' v := by
  intro a l c e
  rcases h a l c e with h | ⟨r, cells, g, t, h1, h2, h3⟩
  · exact .inl h
  · exact .inr ⟨r, cells, g, t, h1, Nat.lt_of_lt_of_le h2 hs.nxt, hs.keeps h2 h3⟩
theorem cut_sub {cells : List Value} {m o z : Nat} (h : o + z ≤ m) (hm : m ≤ cells.length) : cut (cells.take m) o z = cut cells o z := by
  rw [cut_eq, cut_eq, if_pos (by simp; omega), if_pos (by omega), List.drop_take, List.take_take, Nat.min_eq_left (by omega)]
theorem SL.reading {α : Type} {R : Heap → List Value → α → Prop} {z : Nat} {v : Value} {l : List α} (h : SL R z H v l) (hr : Rowed H v) : ∃ a c cs, v = .slice a l.length c ∧ cellsOf H (l.length * z) (.slice a l.length c) = some cs ∧ Elems R z H cs l := by
  obtain ⟨a, c, rfl, hlen, h⟩ := h
  refine ⟨a, c, ?_⟩
  match l, h with
  | [], h =>
    refine ⟨[], rfl, ?_, Elems.nil _ _ _⟩
    rw [List.length_nil, Nat.zero_mul]
    rcases hr a _ c rfl with rfl | ⟨r, cells, g, t, rfl, h2, h3⟩
    · rw [cellsOf_none, if_pos rfl]
    · rw [cellsOf_some, h3, Option.bind_some, rowCut_row, cut_eq, if_pos (by omega), List.take_zero]
  | x :: l, h =>
    obtain ⟨r, o, cells, g, t, part, rfl, h2, h3, _⟩ := h 0 x rfl
    have key : ∀ i y, (x :: l)[i]? = some y → ∃ part, cut cells (o + i * z) z = some part ∧ R H part y := by
      intro i y hi
      obtain ⟨r', o', cells', g', t', part', e, h4, h5, h6, h7⟩ := h i y hi
      simp only [Option.some.injEq, Addr.mk.injEq, and_true] at e
      obtain ⟨rfl, rfl⟩ := e
      rw [h3] at h5
      simp only [Option.some.injEq, AObj.row.injEq] at h5
      obtain ⟨rfl, _, _⟩ := h5
      exact ⟨part', h6, h7⟩
    have hin : o + (x :: l).length * z ≤ cells.length := by
      obtain ⟨part, h4, _⟩ := key l.length _ (List.getElem?_eq_getElem (by simp))
      obtain ⟨_, h5, _⟩ := cut_len h4
      rw [List.length_cons, Nat.add_mul, Nat.one_mul]
      omega
    refine ⟨(cells.drop o).take ((x :: l).length * z), rfl, ?_, ⟨?_, fun i y hi => ?_⟩⟩
    · rw [cellsOf_some, h3, Option.bind_some, rowCut_row, cut_eq, if_pos hin]
    · simp only [List.length_take, List.length_drop]; omega
    · obtain ⟨part, h4, h5⟩ := key i y hi
      refine ⟨part, ?_, h5⟩
      have hi' := (List.getElem?_eq_some_iff.1 hi).1
      have := Nat.mul_le_mul_right z (show i + 1 ≤ (x :: l).length by omega)
      rw [Nat.add_mul, Nat.one_mul] at this
      rw [cut_sub this (by simp only [List.length_drop]; omega), cut_eq, if_pos (by simp only [List.length_drop]; omega), List.drop_drop]
      rw [cut_eq, if_pos (by omega)] at h4
      exact h4
end
end Go.AM
