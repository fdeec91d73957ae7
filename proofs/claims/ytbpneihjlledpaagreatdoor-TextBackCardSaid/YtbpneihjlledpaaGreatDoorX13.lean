/-
  Walks over letters of the functions that the law reaches.
-/
import Derived.Test.YtbpneihjlledpaaGreatDoorX12
set_option linter.unusedVariables false
set_option linter.unusedSectionVars false
namespace Go.AM
variable [Orc13]
attribute [local instance] fnMaps
open Go Go.Proofs
set_option maxRecDepth 100000
set_option maxHeartbeats 4000000
set_option linter.unusedSimpArgs false
def nameL (d : Int) : List UInt8 := (nameB d).data.toList
def usesL (d : Int) : List UInt8 := (usesB d).data.toList
theorem nameB_B (d : Int) : nameB d = B (nameL d) := B_of _
theorem usesB_B (d : Int) : usesB d = B (usesL d) := B_of _
theorem usesL_low (d : Int) : ∀ x ∈ usesL d, x.toNat < 128 := usesB_low d
theorem pat_all (Q : Int → Prop) (h1 : ∀ n : _root_.Fin 12, Q (n.1 : Int)) (h2 : ∀ d, nameB d = ⟨#[]⟩ → usesB d = ⟨#[]⟩ → Q d) (d : Int) : Q d := by
  by_cases h : d < 1 ∨ 10 < d
  · obtain ⟨a, b, _⟩ := out_name h
    exact h2 d a b
  · have := h1 ⟨d.toNat, by omega⟩
    rwa [show ((d.toNat : Nat) : Int) = d by omega] at this
theorem nameL_len (d : Int) : (nameL d).length ≤ 10 := by
  refine pat_all (fun d => (nameL d).length ≤ 10) (by decide) (fun d h _ => ?_) d
  unfold nameL; rw [h]; decide
theorem usesL_len (d : Int) : (usesL d).length ≤ 4 := by
  refine pat_all (fun d => (usesL d).length ≤ 4) (by decide) (fun d _ h => ?_) d
  unfold usesL; rw [h]; decide
def plainO (o : TOp) : TOp := ⟨o.d, P o.d 104 o.h, P o.d 103 o.g, P o.d 105 o.i, P o.d 118 o.vk, P o.d 118 o.vx, if usesC o.d 119 then o.w else 0, P o.d 107 o.k, P o.d 107 o.f, P o.d 107 o.r, P o.d 112 o.p⟩
theorem plain_op (o : TOp) : plainR o.d o.h o.g o.i o.vk o.vx o.w o.k o.f o.r o.p = opL (plainO o) := by
  unfold plainR opL inO plainO
  have : P o.d 119 o.w = ((if usesC o.d 119 = true then o.w else 0 : Nat) : Int) := by unfold P; split <;> rfl
  rw [this]
theorem tplain_ok (H : Heap) (hlo : H.lo ≤ H.next) (o : TOp) (ho : OpOk o) : CallA E (fnv 19) [.agg (opL o).toArray] H fun v H' => v = .agg (opL (plainO o)).toArray ∧ Same H H' := by
  have h := plain_ok H hlo o.d o.h o.g o.i o.vk o.vx o.w o.k o.f o.r o.p ho.d
  rw [outR_plainR, plain_op] at h
  exact h
theorem tname_ok (H : Heap) (hlo : H.lo ≤ H.next) (o : TOp) (ho : OpOk o) : CallA E (fnv 18) [.int .i64 o.d] H fun v H' => v = .string (B (nameL o.d)) ∧ Same H H' := by rw [← nameB_B]; exact name_ok H hlo o.d ho.d
theorem tuses_ok (H : Heap) (hlo : H.lo ≤ H.next) (d : Int) (hd : i64 d) : CallA E (fnv 20) [.int .i64 d] H fun v H' => v = .string (B (usesL d)) ∧ Same H H' := by rw [← usesB_B]; exact uses_ok H hlo d hd
theorem append_si {b size bytes : Nat} {H H' : Heap} {s s' : Value} {n k : Nat} {cs new : List Value} (ho : Own b size H s n cs) (hk : k ≠ 0) (ha : appendT size bytes H s k new = some (s', H')) {x j : Nat} {st : ByteArray} (hx : x < H.next) (h : H.objs.get x = some (.siter st j)) : H'.objs.get x = some (.siter st j) := by
  have hnb : Nat.ble (n + k) n = false := Bool.eq_false_iff.2 fun hh => by have := Nat.le_of_ble_eq_true hh; omega
  rcases ho with ⟨hc, ⟨rfl, rfl⟩ | ⟨r, rfl, h1, h2, h3⟩⟩
  · have : Nat.ble (0 + k) 0 = false := hnb
    simp only [appendT, this, cond_false] at ha
    cases hg : (!growOk size bytes (0 + k) || !Nat.beq 0 0) <;> rw [hg] at ha <;> simp only [cond_false, cond_true, Option.some.injEq, Prod.mk.injEq, reduceCtorEq] at ha
    rw [← ha.2, newApp_get, nbeq_ne (by omega)]; exact h
  · simp only [appendT, hnb, cond_false] at ha
    cases hg : growOk size bytes (n + k) <;> rw [hg] at ha <;> simp only [Bool.not_true, Bool.not_false, cond_false, cond_true, reduceCtorEq] at ha
    rcases h3 with h3 | ⟨g, old, h3, h4, h5, h6⟩
    · rw [h3] at ha
      simp only at ha
      cases hcut : cut cs 0 (n * size) with
      | none => simp only [hcut, Option.bind_none, reduceCtorEq] at ha
      | some l =>
        simp only [hcut, Option.bind_some, Option.some.injEq, Prod.mk.injEq] at ha
        rw [← ha.2, newApp_get, nbeq_ne (by omega)]; exact h
    · rw [h3] at ha
      simp only at ha
      cases hb : (Nat.beq (0 + n * size) cs.length && Nat.ble H.lo r && Nat.beq size size && new.all isCell) <;> rw [hb] at ha <;> simp only [cond_false, cond_true, reduceCtorEq] at ha
      cases hcut : cut cs 0 (n * size) with
      | none => simp only [hcut, Option.bind_none, reduceCtorEq] at ha
      | some l =>
        simp only [hcut, Option.bind_some, grow_eq h6, Option.some.injEq, Prod.mk.injEq] at ha
        have hne : x ≠ r := fun e => by rw [e, h3] at h; cases h
        rw [← ha.2, grow1_get, nbeq_ne (by omega), nbeq_ne hne]; exact h
theorem Own.setIt {b z n x j : Nat} {H : Heap} {v : Value} {cs : List Value} {st : ByteArray} {ob : AObj} (h : Own b z H v n cs) (hx : H.objs.get x = some (.siter st j)) : Own b z (H.setObj x ob) v n cs := by
  rcases h with ⟨hc, h | ⟨r, h0, h1, h2, h3⟩⟩
  · exact ⟨hc, .inl h⟩
  · have hne : r ≠ x := fun e => by
      rw [← e] at hx
      rcases h3 with h3 | ⟨g, old, h3, _⟩ <;> rw [hx] at h3 <;> cases h3
    refine ⟨hc, .inr ⟨r, h0, h1, by rw [setO_next]; exact h2, ?_⟩⟩
    rw [setO_get, nbeq_ne hne, setO_next, setO_grps]
    exact h3
theorem Ko.add {H0 H : Heap} (h : Ko H0 H) (o : AObj) : Ko H0 (H.add o) := h.call (same_add H o)
theorem koS {P : Prop} (h : P := by with_reducible repeat' first | assumption | apply Ko.refl | apply Ko.newRow | apply Ko.relo | apply Ko.setRow | apply Ko.add | omega | (simp only [newRow_next, setRow_next, relo_next, add_next]; omega) | (refine Ko.trans ?_ (by assumption))) : P := h
set_option linter.defProp false
def sI := And.intro @rng_str <| And.intro addO_get <| And.intro @add_next <| And.intro @add_lo <| And.intro @add_grps <| And.intro @setO_get <| And.intro @setO_next <| And.intro @setO_lo @setO_grps
end Go.AM
