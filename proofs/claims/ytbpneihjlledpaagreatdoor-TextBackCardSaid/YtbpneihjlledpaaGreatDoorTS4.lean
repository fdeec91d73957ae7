/-
  Walks over letters of the functions that the law reaches.
-/
import Derived.Test.YtbpneihjlledpaaGreatDoorTS2
import Derived.Test.YtbpneihjlledpaaGreatDoorTS3
set_option linter.unusedSimpArgs false
set_option linter.unusedVariables false
set_option linter.unusedSectionVars false
namespace Go.Proofs.YtbpneihjlledpaaGreatDoor.Scripts
open Go Go.AM Go.ChangeShapes Go.WideShapes Go.ChangeAt Go.RowKit
attribute [local instance] fnMaps
set_option maxRecDepth 100000
theorem flat_get : ∀ (l : List TOp) (i j : Nat) (hi : i < l.length) (v : Value), (opL l[i])[j]? = some v → (l.flatMap opL)[i * 11 + j]? = some v
  | o :: l, 0, j, hi, v, h => by
    have hj : j < (opL o).length := (List.getElem?_eq_some_iff.1 h).1
    show (opL o ++ l.flatMap opL)[0 * 11 + j]? = _
    rw [Nat.zero_mul, Nat.zero_add, List.getElem?_append_left hj]
    exact h
  | o :: l, i + 1, j, hi, v, h => by
    have h1 := flat_get l i j (by simpa using hi) v (by simpa using h)
    show (opL o ++ l.flatMap opL)[(i + 1) * 11 + j]? = _
    rw [List.getElem?_append_right (by show 11 ≤ _; omega), show (i + 1) * 11 + j - (opL o).length = i * 11 + j from by show _ - 11 = _; omega]
    exact h1
theorem opL_plain (o : TOp) (j : Nat) (v v' : Value) (m : Match) (h : (opL o)[j]? = some v) (hr : VRel m v v') : v' = v := by
  have hm := List.mem_of_getElem? h
  unfold opL inO at hm
  simp only [List.mem_cons, List.not_mem_nil, or_false] at hm
  rcases hm with rfl | rfl | rfl | rfl | rfl | rfl | rfl | rfl | rfl | rfl | rfl <;> cases hr <;> rfl
theorem toldS : ToldOk E0 ⟨13, i1.ans⟩ where
  body := ⟨Tryz.f13, _, by kernel_rfl, rfl⟩
  low := fun args H v H' hl h => by
    have h1 : ansS args H = some (v, H') := h
    unfold ansS at h1
    split at h1
    · split at h1
      · simp only [Option.bind_eq_some_iff] at h1
        obtain ⟨_, _, _, _, h2⟩ := h1
        cases h2; exact Low.refl _
      · cases h1
    · cases h1
  sim := fun B lo0 m H w args args' v H' h ha hR => by
    have h1 : ansS args H = some (v, H') := h
    unfold ansS at h1
    split at h1
    · rename_i a n c
      split at h1
      · rename_i hn
        simp only [Option.bind_eq_some_iff] at h1
        obtain ⟨cs, hc, l, hl, h2⟩ := h1
        cases h2
        obtain ⟨rfl, hln, hop⟩ := opsOf_inv n cs l hl
        obtain ⟨v', q, e1, hv, hq⟩ := LRel.inv_cons ha
        have e2 := hq.inv_nil
        subst e2
        obtain rfl : args' = #[v'] := Array.ext' e1
        have fin : ∀ (ao : Option Addr) (c' : Nat), v' = .slice ao n c' → (∀ (i : Nat) (hi : i < l.length), ∃ b f, ao = some ⟨b, f, none⟩ ∧ b < w.heap.size ∧ ∀ j v, (opL l[i])[j]? = some v → w.cell? ⟨b, f + i * 11 + j, none⟩ = some v) →
            Calls E0.P 13 #[v'] w fun e w' => ∃ v' m', e = .returned v' ∧ AM.Good B lo0 m H w m' H w' ∧ VRel m' (.tuple #[.string (AM.B (scriptL l).1), .int .i64 (scriptL l).2]) v' := fun ao c' e hr => by
          subst e
          rw [← hln]
          refine (script_walk w ⟨Nat.le_trans hR.glo.1 hR.base, hR.glo.2⟩ l hop (by omega) ao c' fun i hi wx ho => ?_).mono fun e w' ⟨he, hw⟩ => ?_
          · obtain ⟨b, f, rfl, hb, hv⟩ := hr i hi
            refine ⟨_, b, f + i * 11, rfl, AM.add_plain _ _ _, fun j v hj => ?_⟩
            · have h3 := hv j v hj
              unfold World.cell? at h3 ⊢
              rw [ho.blk b hb]
              exact h3
          · exact ⟨_, m, he, .grown hR ⟨hw.blk, hw.size, hw.os⟩, .tuple rfl (LRel.cons (.string _) (LRel.one (.int _ _))).2⟩
        cases hv with
        | nilSlice =>
          rw [cellsOf_none] at hc
          split at hc
          · exact fin none c rfl fun i hi => by omega
          · cases hc
        | empty a hm he => exact fin _ _ rfl fun i hi => absurd hi (by simp_all)
        | slice hm hcc he hi =>
          rename_i c' p
          refine fin _ _ rfl fun i hi => ⟨p.blk, _, rfl, (hR.dom _ p hm).2.1, fun j v hj => ?_⟩
          simp only [cellsOf] at hc
          split at hc
          · rename_i cells grp tip hr
            obtain ⟨h8, h9⟩ := cut_inv hc
            obtain ⟨⟨C, e, fr, c1, _, _, c4, c5⟩, _⟩ := hR.obj _ p _ hm hr
            have h10 := flat_get l i j hi v hj
            rw [h9, List.getElem?_take] at h10
            split at h10
            · rw [List.getElem?_drop] at h10
              obtain ⟨v'', d1, d2⟩ := c5 _ _ h10
              obtain rfl := opL_plain _ _ _ _ _ hj d2
              rw [← d1, cell?_at c1]
              congr 1
              omega
            · cases h10
          · cases hc
      · cases h1
    · cases h1
end Go.Proofs.YtbpneihjlledpaaGreatDoor.Scripts
