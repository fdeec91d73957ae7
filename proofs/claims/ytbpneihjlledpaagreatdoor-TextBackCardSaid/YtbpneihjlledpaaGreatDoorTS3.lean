/-
  What is told of Script: ops out of cells.
-/
import Derived.Test.YtbpneihjlledpaaGreatDoorX25
set_option linter.unusedSimpArgs false
set_option linter.unusedVariables false
set_option linter.unusedSectionVars false
namespace Go.AM
attribute [local instance] fnMaps
open Go Go.Proofs
set_option maxRecDepth 100000
def okOp (o : TOp) : Bool := okI o.d && okI o.h && okI o.g && okI o.i && okI o.vk && okI o.vx && decide (o.w < 2 ^ 64) && okI o.k && okI o.f && okI o.r && decide (0 ≤ o.p) && decide (o.p ≤ 255)
def opOf : List Value → Option TOp
  | [.int .i64 d, .int .i64 h, .int .i64 g, .int .i64 i, .int .i64 vk, .int .i64 vx, .int .u64 w, .int .i64 k, .int .i64 f, .int .i64 r, .int .u8 p] => if 0 ≤ w ∧ okOp ⟨d, h, g, i, vk, vx, w.toNat, k, f, r, p⟩ = true then some ⟨d, h, g, i, vk, vx, w.toNat, k, f, r, p⟩ else none
  | _ => none
theorem okOp_iff (o : TOp) : okOp o = true ↔ OpOk o := by
  have h : ∀ n, okI n = true ↔ i64 n := fun n => by
    unfold okI i64
    simp only [Bool.and_eq_true, leI_eq, decide_eq_true_eq]
  unfold okOp
  simp only [Bool.and_eq_true, h, decide_eq_true_eq]
  exact ⟨fun ⟨⟨⟨⟨⟨⟨⟨⟨⟨⟨⟨a, b⟩, c⟩, d⟩, e⟩, f⟩, g⟩, i⟩, j⟩, k⟩, l⟩, m⟩ => ⟨a, b, c, d, e, f, g, i, j, k, l, m⟩, fun ⟨a, b, c, d, e, f, g, i, j, k, l, m⟩ => ⟨⟨⟨⟨⟨⟨⟨⟨⟨⟨⟨a, b⟩, c⟩, d⟩, e⟩, f⟩, g⟩, i⟩, j⟩, k⟩, l⟩, m⟩⟩
theorem opOf_opL {o : TOp} (h : OpOk o) : opOf (opL o) = some o := by
  show (if 0 ≤ (o.w : Int) ∧ okOp ⟨o.d, o.h, o.g, o.i, o.vk, o.vx, (o.w : Int).toNat, o.k, o.f, o.r, o.p⟩ = true then _ else none) = _
  rw [Int.toNat_natCast, if_pos ⟨Int.natCast_nonneg _, (okOp_iff o).2 h⟩]
theorem opOf_inv {cs : List Value} {o : TOp} (h : opOf cs = some o) : cs = opL o ∧ OpOk o := by
  unfold opOf at h
  split at h
  · split at h
    · rename_i hw
      cases h
      refine ⟨?_, (okOp_iff _).1 hw.2⟩
      unfold opL inO
      simp only [Int.toNat_of_nonneg hw.1]
    · cases h
  · cases h
def opsOf : Nat → List Value → Option (List TOp)
  | 0, [] => some []
  | n + 1, cs => (opOf (cs.take 11)).bind fun o => (opsOf n (cs.drop 11)).bind fun l => some (o :: l)
  | _, _ => none
theorem opsOf_all : ∀ (l : List TOp), (∀ o ∈ l, OpOk o) → opsOf l.length (l.flatMap opL) = some l
  | [], _ => rfl
  | o :: l, h => by
    show (opOf ((opL o ++ l.flatMap opL).take 11)).bind _ = _
    have e1 : (opL o ++ l.flatMap opL).take 11 = opL o := List.take_left' rfl
    have e2 : ((o :: l).flatMap opL).drop 11 = l.flatMap opL := List.drop_left' rfl
    rw [e1, opOf_opL (h o (List.mem_cons_self ..)), Option.bind_some, e2, opsOf_all l fun x hx => h x (List.mem_cons_of_mem _ hx)]
    rfl
theorem opsOf_inv : ∀ (n : Nat) (cs : List Value) (l : List TOp), opsOf n cs = some l → cs = l.flatMap opL ∧ l.length = n ∧ ∀ o ∈ l, OpOk o
  | 0, [], l, h => by cases h; exact ⟨rfl, rfl, fun o ho => by cases ho⟩
  | 0, _ :: _, l, h => by cases h
  | n + 1, cs, l, h => by
    unfold opsOf at h
    simp only [Option.bind_eq_some_iff, Option.some.injEq] at h
    obtain ⟨o, h1, q, h2, rfl⟩ := h
    obtain ⟨e1, h3⟩ := opOf_inv h1
    obtain ⟨e2, h4, h5⟩ := opsOf_inv n _ q h2
    refine ⟨?_, by rw [List.length_cons, h4], fun x hx => ?_⟩
    · show cs = opL o ++ q.flatMap opL
      rw [← e1, ← e2, List.take_append_drop]
    · rcases List.mem_cons.1 hx with rfl | hx
      · exact h3
      · exact h5 x hx
def ansS (args : List Value) (H : Heap) : Option (Value × Heap) := match args with
  | [.slice a n c] => if n ≤ 100 then (cellsOf H (n * 11) (.slice a n c)).bind fun cs => (opsOf n cs).bind fun l => some (.tuple #[.string (B (scriptL l).1), .int .i64 (scriptL l).2], H) else none
  | _ => none
theorem elems_opsL {H : Heap} : ∀ (l : List TOp) (cs : List Value), Elems ROp 11 H cs l → cs = l.flatMap opL ∧ ∀ o ∈ l, OpOk o
  | [], cs, h => ⟨List.eq_nil_of_length_eq_zero h.1, fun o ho => by cases ho⟩
  | o :: l, cs, h => by
    obtain ⟨hl, hp⟩ := h
    rw [List.length_cons] at hl
    obtain ⟨p, h1, rfl, ho⟩ := hp 0 o rfl
    rw [cut_eq, if_pos (by omega), Nat.zero_mul, List.drop_zero, Option.some.injEq] at h1
    obtain ⟨e, hq⟩ := elems_opsL l (cs.drop 11) ⟨by rw [List.length_drop]; omega, fun i x hi => by
      obtain ⟨q, h2, h3⟩ := hp (i + 1) x (by simpa using hi)
      refine ⟨q, ?_, h3⟩
      rw [cut_eq] at h2 ⊢
      split at h2
      · rename_i hle
        rw [if_pos (by rw [List.length_drop]; omega), List.drop_drop, show 11 + i * 11 = (i + 1) * 11 by omega]
        exact h2
      · cases h2⟩
    refine ⟨?_, fun x hx => ?_⟩
    · show cs = opL o ++ l.flatMap opL
      rw [← h1, ← e, List.take_append_drop]
    · rcases List.mem_cons.1 hx with rfl | hx
      · exact ho
      · exact hq x hx
@[instance_reducible] def i1 : Orc13 := ⟨ansS⟩
theorem ans_i1 : @ScriptAns i1 := fun H v l hv hl => by
  obtain ⟨a, c, cs, rfl, hc, hE⟩ := SL.reading hv.1 hv.2
  obtain ⟨rfl, ho⟩ := elems_opsL l cs hE
  show (if l.length ≤ 100 then _ else none) = _
  rw [if_pos hl, hc, Option.bind_some, opsOf_all l ho, Option.bind_some]
end Go.AM
