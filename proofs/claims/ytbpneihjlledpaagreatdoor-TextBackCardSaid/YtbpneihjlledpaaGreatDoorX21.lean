/-
  Walks over letters of the functions that the law reaches.
-/
import Derived.Test.YtbpneihjlledpaaGreatDoorX20
import Derived.Test.YtbpneihjlledpaaGreatDoorAMc
set_option linter.unusedVariables false
set_option linter.unusedSectionVars false
namespace Go.AM
variable [Orc13]
attribute [local instance] fnMaps
open Go Go.Proofs
set_option maxRecDepth 100000
set_option maxHeartbeats 4000000
set_option linter.unusedSimpArgs false
def ROp : Heap → List Value → TOp → Prop := fun _ part x => part = opL x ∧ OpOk x
theorem ROp.mono : Mono ROp := fun _ _ _ _ _ h => h
def OpsR (H : Heap) (v : Value) (l : List TOp) : Prop := SL ROp 11 H v l ∧ Rowed H v
theorem own_ops {b n : Nat} {H : Heap} {v : Value} {cs : List Value} {l : List TOp} (h : Own b 11 H v n cs) (hl : l.length = n) (hlen : l.length ≤ 9223372036854775807) (hR : Elems ROp 11 H cs l) : OpsR H v l := by
  refine ⟨h.reads hl hlen hR, fun a m c e => ?_⟩
  obtain ⟨_, ⟨rfl, _⟩ | ⟨r, rfl, h1, h2, h3⟩⟩ := h
  · simp only [Value.slice.injEq] at e
    exact .inl e.1.symm
  · simp only [Value.slice.injEq] at e
    obtain ⟨rfl, _, _⟩ := e
    rcases h3 with h3 | ⟨g, old, h3, _⟩
    · exact .inr ⟨r, _, _, _, rfl, h2, h3⟩
    · exact .inr ⟨r, _, _, _, rfl, h2, h3⟩
theorem elems_ops (H : Heap) : ∀ (l : List TOp), (∀ o ∈ l, OpOk o) → Elems ROp 11 H (l.flatMap opL) l
  | [], _ => ⟨rfl, fun i x h => by simp at h⟩
  | o :: l, h => by
    have h1 : Elems ROp 11 H (opL o) [o] := ⟨rfl, fun i x hi => by
      match i, hi with
      | 0, hi =>
        simp only [List.getElem?_cons_zero, Option.some.injEq] at hi
        subst hi
        exact ⟨opL o, op_all o, rfl, h _ (List.mem_cons_self ..)⟩⟩
    have := h1.append (elems_ops H l fun x hx => h x (List.mem_cons_of_mem _ hx))
    exact this
theorem OpsR.same {H H' : Heap} {v : Value} {l : List TOp} (h : OpsR H v l) (s : Same H H') : OpsR H' v l := ⟨h.1.mono ROp.mono s, h.2.same s⟩
theorem fn17 : E.fn.get 17 = some Tryz.f17 := by kernel_rfl
theorem ops_same (H : Heap) (hlo : H.lo ≤ H.next) (v w : Value) (l m : List TOp) (hv : OpsR H v l) (hw : OpsR H w m) : CallA E (fnv 17) [v, w] H fun r H' => r = .bool (decide (l = m)) ∧ Same H H' := by
  obtain ⟨⟨a, ca, rfl, ⟨_, hma⟩, hla⟩, -⟩ := hv
  obtain ⟨⟨b, cb, rfl, ⟨_, hmb⟩, hlb⟩, -⟩ := hw
  refine callA_fn (by kernel_rfl) fn17 rfl rfl ?_
  simp only [Tryz.f17]
  by_cases hlen : l.length = m.length
  · have hd : decide ((l.length : Int) = m.length) = true := decide_eq_true (by omega)
    repeat' (first | refine boolP_dec (fun _ => ?_) (fun _ => ?_) | apply boolP_not | refine boolP_b (fun _ => ?_) (fun _ => ?_) | refine wps_draw (id := 6) [Fx, Fx, Fx, Fx, Fx, Fx, Fx, Fx, Fx] (by kernel_rfl) ?_ | ((with_reducible show Qs _ _ _ _ _); first | refine hQe _ _ _ _ ?_ | refine hQr _ _ _ ?_) | simp (maxSteps := 1000000) (disch := omega) only [↓sgg, sww, simprocAttr, sa, *])
    all_goals try omega
    refine wps_named2 (fun T1 H1 eT eH => ?_)
    have k1 : Ko H H1 := by rw [eH]; exact koW
    have n1 := congrArg Heap.next eH; have l1 := congrArg Heap.lo eH; have g1 := fun r => congrArg (fun h : Heap => h.objs.get r) eH
    try simp (disch := omega) only [sm, sl] at n1 l1 g1
    clear eH
    have u1_0 := congrArg (fun T : Tr Value => T.get 0) eT
    have u1_1 := congrArg (fun T : Tr Value => T.get 1) eT
    have u1_5 := congrArg (fun T : Tr Value => T.get 5) eT
    simp only [get_set, of_nil, of_1, of_2, of_3, of_4, of_5, Nat.reduceEqDiff, if_true, if_false, reduceIte] at u1_0 u1_1 u1_5
    clear eT
    refine wp_loopN (by kernel_rfl) (fun nn T X => ∃ i : Nat, nn = l.length - i ∧ (T.get 5 = some (.int .i64 i)) ∧ (T.get 0 = T1.get 0 ∧ T.get 1 = T1.get 1) ∧ Ko H1 X ∧ X.lo = H1.lo ∧ (i ≤ l.length ∧ l.take i = m.take i)) ?_ ?_
    · refine ⟨_, 0, rfl, ?_, ?_, Ko.refl _, rfl, ⟨Nat.zero_le _, rfl⟩⟩ <;> exact nextW
    rintro nn T1' X1 ⟨i, rfl, m1, w1, kx1, lx1, ⟨hi, hE⟩⟩ Qs hQ hQr hQe
    have kX1 := k1.trans kx1; have nx1 := kx1.nxt; have gx1 := kx1.objs
    by_cases hlt : i < l.length
    · obtain ⟨r, o, cells, gg, tt, part, rfl, hr, hrow, hcut, rfl, hox⟩ := hla i l[i] (by simp)
      obtain ⟨r2, o2, cells2, gg2, tt2, part2, rfl, hr2, hrow2, hcut2, rfl, hoy⟩ := hlb i m[i] (by simp)
      have a1 := at_nat hlt
      have a2 := at_nat (show i < m.length by omega)
      have e1 := kX1.objs r hr
      have e2 := kX1.objs r2 hr2
      have hx : l[i]? = some l[i] := List.getElem?_eq_getElem hlt
      have hy : m[i]? = some m[i] := List.getElem?_eq_getElem (by omega)
      generalize l[i] = x at hcut hx
      generalize m[i] = y at hcut2 hy
      by_cases hxy : x = y
      · have h3 : l.take (i + 1) = m.take (i + 1) := by rw [List.take_add_one, List.take_add_one, hE, hx, hy, hxy]
        have hb : decide (x = y) = true := decide_eq_true hxy
        clear hxy
        repeat' (first | refine boolP_dec (fun _ => ?_) (fun _ => ?_) | apply boolP_not | refine boolP_b (fun _ => ?_) (fun _ => ?_) | refine wps_draw (id := 6) [Fx, Fx, Fx, Fx, Fx, Fx, Fx, Fx, Fx] (by kernel_rfl) ?_ | ((with_reducible show Qs _ _ _ _ _); first | refine hQe _ _ _ _ ?_ | refine hQr _ _ _ ?_) | simp (maxSteps := 1000000) (disch := omega) only [↓sgg, sww, simprocAttr, sa, ↓ne_op, *])
        all_goals first | (refine hQ _ _ _ ?_ ⟨i + 1, rfl, ?_, ?_, ?_, ?_, ⟨by omega, h3⟩⟩ <;> exact nextW) | omega
      · have hb : decide (x = y) = false := decide_eq_false hxy
        have h3 : decide (l = m) = false := decide_eq_false fun e => by rw [e, hy] at hx; exact hxy (Option.some.inj hx).symm
        clear hxy
        repeat' (first | refine boolP_dec (fun _ => ?_) (fun _ => ?_) | apply boolP_not | refine boolP_b (fun _ => ?_) (fun _ => ?_) | refine wps_draw (id := 6) [Fx, Fx, Fx, Fx, Fx, Fx, Fx, Fx, Fx] (by kernel_rfl) ?_ | ((with_reducible show Qs _ _ _ _ _); first | refine hQe _ _ _ _ ?_ | refine hQr _ _ _ ?_) | simp (maxSteps := 1000000) (disch := omega) only [↓sgg, sww, simprocAttr, sa, ↓ne_op, *])
        all_goals first | exact sameW | (first | (with_reducible exact sameW) | ((with_reducible show _ ∧ _); exact ⟨by first | rfl | (simp [*] <;> omega), sameW⟩)) | omega
    · have hT : decide (l = m) = true := decide_eq_true (by
        have : i = l.length := by omega
        subst this
        rw [List.take_length, hlen, List.take_length] at hE
        exact hE)
      repeat' (first | refine boolP_dec (fun _ => ?_) (fun _ => ?_) | apply boolP_not | refine boolP_b (fun _ => ?_) (fun _ => ?_) | refine wps_draw (id := 6) [Fx, Fx, Fx, Fx, Fx, Fx, Fx, Fx, Fx] (by kernel_rfl) ?_ | ((with_reducible show Qs _ _ _ _ _); first | refine hQe _ _ _ _ ?_ | refine hQr _ _ _ ?_) | simp (maxSteps := 1000000) (disch := omega) only [↓sgg, sww, simprocAttr, sa, *])
      all_goals first | exact sameW | (first | (with_reducible exact sameW) | ((with_reducible show _ ∧ _); exact ⟨by first | rfl | (simp [*] <;> omega), sameW⟩)) | omega
  · have hF : decide (l = m) = false := decide_eq_false fun e => hlen (by rw [e])
    have hd : decide ((l.length : Int) = m.length) = false := decide_eq_false (by omega)
    repeat' (first | refine boolP_dec (fun _ => ?_) (fun _ => ?_) | apply boolP_not | refine boolP_b (fun _ => ?_) (fun _ => ?_) | refine wps_draw (id := 6) [Fx, Fx, Fx, Fx, Fx, Fx, Fx, Fx, Fx] (by kernel_rfl) ?_ | ((with_reducible show Qs _ _ _ _ _); first | refine hQe _ _ _ _ ?_ | refine hQr _ _ _ ?_) | simp (maxSteps := 1000000) (disch := omega) only [↓sgg, sww, simprocAttr, sa, *])
    all_goals first | exact sameW | (first | (with_reducible exact sameW) | ((with_reducible show _ ∧ _); exact ⟨by first | rfl | (simp [*] <;> omega), sameW⟩)) | omega
end Go.AM
